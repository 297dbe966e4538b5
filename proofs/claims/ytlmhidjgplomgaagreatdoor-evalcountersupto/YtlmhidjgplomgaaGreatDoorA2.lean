/-
  Part 2 of the proof that the law EvalCountersUptoCardSaid of the given program answers true for every input of the given statement; the input reads behind the call as it did. (The texts: packed from 7 texts. Names are shortened by the packing program, for the bound on size.)
-/
import Derived.Test.YtlmhidjgplomgaaGreatDoorA1
set_option linter.all false
section
namespace Tw
open Go
variable [Eg]
def jF (P : Program) : Op → Bool
 | .call c => match c.callee with
   | .builtin .len => false
   | .builtin .cap => false
   | .builtin .min => false
   | .builtin .max => false
   | .builtin .real => false
   | .builtin .imag => false
   | .builtin .complex => false
   | _ => true
 | .convert T T' _ => match P.underlying T, P.underlying T' with
   | some (.int _), some (.int _) => false
   | _, _ => true
 | .box .. => true
 | .alloc .. => true
 | .store .. => true
 | .buildSlice .. => true
 | .makeSlice .. => true
 | .mapUpdate .. => true
 | .makeMap .. => true
 | .insert .. => true
 | .range .. => true
 | .next .. => true
 | .lookup .. => true
 | .entryStore .. => true
 | .mapEntry .. => true
 | .makeChan .. => true
 | .binOp b T _ _ _ => flB b && AIK P T
 | _ => false
def eZ (s : S) : Option Operand → Option (Option Value)
 | none => some none
 | some x => match s.op x with
   | some v => some (some (v.den s.vl))
   | none => none
def pI (P : Program) (b : BinOp) (T : TypeId) (x y : Option SV) : Bool := match V5 x, V5 y with
 | some _, some _ => true
 | _, _ => match P.underlying T with
   | some .string => match b with
     | .eql => true
     | .neq => true
     | .add => true
     | _ => false
   | some (.pointer _) => true
   | some .bool => true
   | _ => false
def AIL : Option SV → Bool
 | some (.v (.a (.sl _ _ _))) => true
 | _ => false
def anyM (P : Program) (op : Op) (ty : TypeId) (s : S) : Option (Sem Value) := match op with
 | .slice T x lo hi mx => match AIL (s.op x) && mx.isNone with
   | true => none
   | false => match s.op x, eZ s lo, eZ s hi, eZ s mx with
     | some w, some l, some h, some m => some (Instr.sliceAt T (w.den s.vl) l h m)
     | _, _, _, _ => none
 | .unOp u _ x => match u, s.op x with
   | .not, _ => none
   | .neg, v => match V5 v, v with
     | some _, _ => none
     | none, some v => some (Op.unary .neg (v.den s.vl))
     | none, none => none
   | u, some v => some (Op.unary u (v.den s.vl))
   | _, none => none
 | .binOp b T x y _ => match pI P b T (s.op x) (s.op y) with
   | true => none
   | false => match s.op x, s.op y with
     | some u, some v => some (do eqGuard b T x y (u.den s.vl) (v.den s.vl); binOp b T (u.den s.vl) (v.den s.vl))
     | _, _ => none
 | .call c => match c.callee, c.args.toList, c.argTypes.toList with
   | .builtin .len, [x], [T] => match s.op x with
     | some (.v (.a (.mp m))) => some (Builtin.len_ #[T] ty #[.map m])
     | _ => none
   | .builtin .real, [x], _ => match s.op x with
     | some v => some (Builtin.real_ c.argTypes ty #[v.den s.vl])
     | none => none
   | .builtin .imag, [x], _ => match s.op x with
     | some v => some (Builtin.imag_ c.argTypes ty #[v.den s.vl])
     | none => none
   | .builtin .complex, [x, y], _ => match s.op x, s.op y with
     | some u, some v => some (Builtin.complex_ c.argTypes ty #[u.den s.vl, v.den s.vl])
     | _, _ => none
   | _, _, _ => none
 | _ => none
theorem N4 {s : S} {J : Env} {x : Option Operand} {v : Option Value} (h : eZ s x = some v) : x.map (AD (s.e J)) = v := by
 cases x with
 | none => simp only [eZ, Option.some.injEq] at h; subst h; rfl
 | some x =>
   simp only [eZ] at h
   split at h
   · rename_i u hu
     cases h
     simp only [Option.map_some]
     rw [ev hu]
   · cases h
theorem eb {P : Program} {op : Op} {ty : TypeId} {s : S} {m : Sem Value} (h : anyM P op ty s = some m) (J : Env) : ∀ o : Oper, o.op = op → o.type = ty → execOp (AD (s.e J)) o = (do pure (Next.value (← m))) := fun o ho ht => by
 unfold anyM at h
 split at h
 · rename_i T x lo hi mx
   split at h
   · cases h
   · split at h
     · rename_i w l hh mm h1 h2 h3 h4
       cases h
       simp only [execOp, ho, N4 h2, N4 h3, N4 h4, ev h1]
     · cases h
 · rename_i u T x
   split at h
   · cases h
   · split at h
     · cases h
     · rename_i hv
       cases h
       simp only [execOp, ho, ev hv]
     · cases h
   · rename_i hv
     cases h
     simp only [execOp, ho, ev hv]
   · cases h
 · rename_i b T x y T'
   split at h
   · cases h
   · split at h
     · rename_i u v hu hv
       cases h
       simp only [execOp, ho, ev hu, ev hv]
     · cases h
 · rename_i c
   obtain ⟨ce, ATS, ts⟩ := c
   split at h
   · rename_i x T h1 h2 h3
     simp only at h1 h2 h3
     have e1 : ATS = #[x] := by rw [← Array.toList_inj]; simpa using h2
     have e2 : ts = #[T] := by rw [← Array.toList_inj]; simpa using h3
     subst h1 e1 e2
     split at h
     · rename_i mm hx
       cases h
       exact ZZ (by rw [ev hx]; rfl) o ho ht
     · cases h
   · rename_i x h1 h2
     simp only at h1 h2 h
     have e1 : ATS = #[x] := by rw [← Array.toList_inj]; simpa using h2
     subst h1 e1
     split at h
     · rename_i v hv
       cases h
       exact Ol (ev hv) o ho ht
     · cases h
   · rename_i x h1 h2
     simp only at h1 h2 h
     have e1 : ATS = #[x] := by rw [← Array.toList_inj]; simpa using h2
     subst h1 e1
     split at h
     · rename_i v hv
       cases h
       exact Om (ev hv) o ho ht
     · cases h
   · rename_i x y h1 h2
     simp only at h1 h2 h
     have e1 : ATS = #[x, y] := by rw [← Array.toList_inj]; simpa using h2
     subst h1 e1
     split at h
     · rename_i u v hu hv
       cases h
       exact Jc (ev hu) (ev hv) o ho ht
     · cases h
   · cases h
 · cases h
def wJ (P : Program) (ty : TypeId) (m : Sem Value) (s : S) (K : SV → S → Prop) : Prop := s.ex P ty fun v s => YF P m s.σ (v.den s.vl) ∧ K v s
theorem QW {P : Program} {op : Op} {ty : TypeId} {s : S} {m : Sem Value} {K : SV → S → Prop} (hm : anyM P op ty s = some m) (h : wJ P ty m s K) : ∃ v s', s.Hm s' ∧ (∀ J, Yd P (s.e J) s.b s.σ op ty (v.den s'.vl)) ∧ K v s' := by
 obtain ⟨v, s', h1, hy, hk⟩ := S.QU h
 rw [h1.σ] at hy
 exact ⟨v, s', h1, fun J => Yd.any (eb hm J) hy, hk⟩
def QX (ops : Array Oper) (gd : Option (Nat × Bool)) (s : S) (K : Bool → S → Prop) : Prop := match gd with
 | none => K true s
 | some (j, want) => match (ops[j]?).bind (·.dst) with
   | none => False
   | some d => match Ur s.env d with
     | some (.v (.a .un)) => K false s
     | v => s.pE v fun t s => K (t == want) s
theorem IP {ops : Array Oper} {gd : Option (Nat × Bool)} {s : S} {K : Bool → S → Prop} (h : QX ops gd s K) : ∃ b s', s.Hm s' ∧ (∀ J, AR ops (s.e J) gd = b) ∧ K b s' := by
 unfold QX at h
 split at h
 · exact ⟨true, s, .refl s, fun _ => rfl, h⟩
 · rename_i j want
   split at h
   · cases h
   · rename_i d hd
     split at h
     · rename_i hv
       refine ⟨false, s, .refl s, fun J => ?_, h⟩
       have : s.e J d = undef := Dy hv
       simp only [AR, hd, this]
       rfl
     · obtain ⟨t, s', x, h1, h2, h3, h4, h⟩ := S.E1 h
       refine ⟨_, s', h1, fun J => ?_, h⟩
       have : s.e J d = .bool t := (Dy h3).trans h4
       simp only [AR, hd, this]
       cases t <;> cases want <;> rfl
def cQ (J : Env) (K : S → Prop) : Env → Bx → Hp → Prop := fun e bx σ => ∃ s, e = s.e J ∧ bx = s.b ∧ σ = s.σ ∧ K s
structure Cx extends Zv where
 n : Nat
 N5 : List (Nat × TypeId) := []
structure Cx.Ok (c : Cx) (g : Gl) : Prop where
 P : c.P = g.P
 R : c.R = g.R
 E : AG g.P c.Mx
 n : c.n = g.n
 GQ : g.GQ = none
 ds : g.ds = []
def kp0 : KP := fun _ _ F => F
def ed (l : List Ey) (i : Nat) (o : Nat) (xs : List BX) : List Ey := match l with
 | [] => []
 | (j, t, cs) :: l => bif Nat.beq j i then (j, t, Zq cs o xs) :: l else (j, t, cs) :: ed l i o xs
def QY {α : Type} : List α → Nat
 | [] => 0
 | _ :: l => QY l + 1
theorem Py {α : Type} : ∀ l : List α, QY l = l.length
 | [] => rfl
 | _ :: l => by simp only [QY, List.length_cons]; rw [Py l]
def N6 : List BX → List Value
 | [] => []
 | .raw v :: l => v :: N6 l
 | .un :: l => undef :: N6 l
 | _ :: l => N6 l
def wK (F : Prop) : List Value → Prop
 | [] => F
 | [v] => (Value.oneCell' v = true) ∧ F
 | l => wN l ∧ F
where
 wN : List Value → Prop
   | [] => True
   | [v] => Value.oneCell' v = true
   | v :: l => Value.oneCell' v = true ∧ wN l
def SV.Zw : SV → Option (List BX)
 | .v (.a x) => some [x]
 | .v (.agg l) => some l
 | .TW _ => none
def mapOf (P : Program) (l : List (Nat × TypeId)) (x : Operand) : Option (TypeId × TypeId) := match x with
 | .tmp t => match l.find? fun p => Nat.beq p.1 t with
   | some p => match P.underlying p.2 with
     | some (.map k v) => some (k, v)
     | _ => none
   | none => none
 | _ => none
def jG (c : Cx) (dst : Option Nat) (x : Operand) (ty : TypeId) (s : S) (K : S → Prop) : Prop := match dst, s.op x, mapOf c.P c.N5 x with
 | some d, some u, some (tk, tv) => AJ c.P (Instr.next (u.den s.vl) false ty) s.σ (fun v σ1 => (v = (.tuple #[(.bool false)]) ∧ K ((s.hp σ1).put (some d) (.TW [.a (.bl false)]))) ∨
     (match s.ok with
       | true => oG c.P tk s.vl fun a vl => oG c.P tv vl fun b vl => v = (SV.TW [.a (.bl true), a, b]).den vl ∧ K (((s.hp σ1).w vl).put (some d) (.TW [.a (.bl true), a, b]))
       | false => False))
 | _, _, _ => False
def wO (c : Cx) (T : TypeId) (i o : Nat) (v : SV) (s : S) (K : S → Prop) : Prop := match v.Zw, WU c.P T with
 | some l, some n => match Wd s.bx i with
   | some (t, cs) => match Nat.beq (QY l) n && Nat.ble (o + QY l) (QY cs) with
     | true => wK (K ⟨s.env, ed s.bx i o l, s.vl, s.σ⟩) (N6 l)
     | false => False
   | none => False
 | _, _ => False
def jH (c : Cx) (ops : Array Oper) (i : Nat) (s : S) (K : S → Prop) : Prop := match ops[i]? with
 | none => False
 | some o => match Gt o.dst c.n with
   | false => False
   | true => QX ops o.guard s fun b s => match b with
     | false => K (s.put o.dst (.at .un))
     | true => match o.op with
       | .load T x => ldV c.P T x s fun _ v s => K (s.put o.dst v)
       | .mapUpdate T m k v => match o.dst, s.op m, s.op k, s.op v with
         | none, some m, some k, some v => AJ c.P (Instr.mapUpdate T (m.den s.vl) (k.den s.vl) (v.den s.vl)) s.σ (fun _ σ1 => K (s.hp σ1))
         | _, _, _, _ => False
       | .insert T m k v => match o.dst, s.op m, s.op k, s.op v with
         | none, some m, some k, some v => AJ c.P (Instr.mapUpdate T (m.den s.vl) (k.den s.vl) (v.den s.vl)) s.σ (fun _ σ1 => K (s.hp σ1))
         | _, _, _, _ => False
       | .next x false => jG c o.dst x o.type s K
       | .entry x => match s.op x, mapOf c.P c.N5 x with
         | some u, some (tk, tv) => AJ c.P (Instr.entry (u.den s.vl)) s.σ (fun v σ1 => HR (jC c.P tk tv) o.dst (s.hp σ1) s.σ v kp0 K)
         | _, _ => False
       | .panic x => match s.op x with
         | some (.v (.a (.raw (.iface T u)))) => c.R (.panicked [{ v := .iface T u, recovered := false }]) s.σ
         | _ => False
       | .store T x y => match o.dst, iu (s.op x), s.op y with
         | none, some (.bx i b), some v => wO c T i b v s K
         | _, _, _ => eX c.toZv o.dst (.store T x y) o.type s kp0 K
       | op => match jF c.P op, anyM c.P op o.type s with
         | true, _ => eX c.toZv o.dst op o.type s kp0 K
         | false, some m => wJ c.P o.type m s fun v s => K (s.put o.dst v)
         | false, none => yv c.P c.wr op s fun v s => K (s.put o.dst v)
def pJ (c : Cx) (ops : Array Oper) : List Nat → S → (S → Prop) → Prop
 | [], s, K => K s
 | i :: is, s, K => jH c ops i s fun s => pJ c ops is s K
section
variable {g : Gl} {ops : Array Oper} {i : Nat} {J : Env} {s : S} {K : S → Prop} {c : Cx}
theorem cR {s s' : S} {K : Env → Bx → Hp → Prop} (h : s.Hm s') (hk : AL g ops i (s'.e J) s'.b s'.σ K) : AL g ops i (s.e J) s.b s.σ K := by
 rw [← h.e J, ← h.b, ← h.σ]; exact hk
theorem ABJ {s : S} {o : Oper} {K : SV → S → Prop} {K' : Env → Bx → Hp → Prop} (ho : ops[i]? = some o) (hw : AR ops (s.e J) o.guard = true) (hd : Gt o.dst g.n = true) (h : YP g.P o.op o.type s K) (hk : ∀ v s', s.Hm s' → K v s' → K' ((s'.put o.dst v).e J) s'.b s'.σ) :
   AL g ops i (s.e J) s.b s.σ K' := by
 obtain ⟨v, s', h1, h2, h3⟩ := h
 have := hk v s' h1 h3
 rw [S.Hj, h1.e J, h1.b, h1.σ] at this
 exact AL.y (Co ho) hw hd (h2 J _) this
theorem Yd.up {P : Program} {e : Env} {bx : Bx} {σ : Hp} {b : Nat} {op : Op} {ty : TypeId} {v : Value} (h : Yd P e bx (fun x => if x = b then σ x else none) op ty v) : Yd P e bx σ op ty v := fun o ho ht w hs hb => h o ho ht w (fun k u hk => by
 simp only at hk
 split at hk
 · exact hs k u hk
 · cases hk) hb
theorem AL.mono {e : Env} {bx : Bx} {σ : Hp} {K K' : Env → Bx → Hp → Prop} (h : AL g ops i e bx σ K) (hk : ∀ e bx σ, K e bx σ → K' e bx σ) : AL g ops i e bx σ K' := fun w0 F a w st => wpOpIn_mono (fun a' w' ⟨e', b', σ', Ml, h'⟩ => ⟨e', b', σ', Ml, hk _ _ _ h'⟩) (h w0 F a w st)
theorem ABK {dst : Option Nat} {op : Op} {ty : TypeId} {gd : Option (Nat × Bool)} (hc : c.Ok g) (hs : sig ops i = some (dst, op, ty, gd)) (hw : AR ops (s.e J) gd = true) (hd : Gt dst g.n = true) (h : eX c.toZv dst op ty s kp0 K) : AL g ops i (s.e J) s.b s.σ (cQ J K) := by
 have := QV (c := c.toZv) (kq := fun _ _ => True) (J := J) hc.P hc.R hc.E (fun _ _ F h => ⟨h, trivial⟩) (fun _ _ _ => trivial) hs hw hd h
 intro w0 F a w st
 refine wpOpIn_mono ?_ (this w0 F a w st)
 rintro a' w' ⟨e', Fp, σ', Ml, s', rfl, rfl, rfl, _, _, hk⟩
 exact ⟨_, _, _, Ml, s', rfl, rfl, rfl, hk⟩
theorem Wi {dst : Option Nat} {x : Operand} {ty : TypeId} {gd : Option (Nat × Bool)} (hc : c.Ok g) (hs : sig ops i = some (dst, .next x false, ty, gd)) (hw : AR ops (s.e J) gd = true) (hd : Gt dst g.n = true) (h : jG c dst x ty s K) : AL g ops i (s.e J) s.b s.σ (cQ J K) := by
 unfold jG at h
 split at h
 · rename_i d u tk tv hu hm
   rw [hc.P] at h
   refine AL.S1 hs hw hd (Instr.next (u.den s.vl) false ty) (fun o ho ht => by simp only [execOp, ho, ht]; rw [ev hu]) (h.mono fun v σ1 hr => ?_)
   rcases hr with ⟨rfl, hk⟩ | hr
   · exact ⟨_, (S.Hj (s := s.hp σ1) (x := .TW [.a (.bl false)])).symm, (S.Hk (s := s.hp σ1) (x := .TW [.a (.bl false)])).symm, (S.Ez (s := s.hp σ1) (x := .TW [.a (.bl false)])).symm, hk⟩
   · split at hr
     · rename_i Dx
       obtain ⟨a, w1, h1, hr⟩ := Dz hr
       obtain ⟨b, w2, h2, hr⟩ := Dz hr
       obtain ⟨hv, hk⟩ := hr
       have Oj := S.QN (s := s.hp σ1) Dx (h1.trans h2).le
       refine ⟨_, ?_, ?_, ?_, hk⟩
       · rw [S.Hj, Oj.e J, hv]; rfl
       · rw [S.Hk, Oj.b]; rfl
       · rw [S.Ez]; rfl
     · cases hr
 · cases h
theorem Wj {vl : Vl} {i o : Nat} {l : List BX} : ∀ {bx : List Ey} {t : TypeId} {cs : List BX}, Wd bx i = some (t, cs) → ∃ j, (EF vl bx)[j]? = some (nth 0 vl.δ i, .cells (Az vl cs).toArray t (0, 0)) ∧ EF vl (ed bx i o l) = (EF vl bx).set j (nth 0 vl.δ i, .cells (Az vl (Zq cs o l)).toArray t (0, 0))
 | (k, u, ds) :: r, t, cs, h => by
   simp only [Wd] at h
   cases hk : Nat.beq k i with
   | true =>
     rw [hk] at h; simp only [cond_true, Option.some.injEq, Prod.mk.injEq] at h
     obtain ⟨rfl, rfl⟩ := h
     have := Nat.eq_of_beq_eq_true hk
     subst this
     exact ⟨0, rfl, by simp only [ed, hk, cond_true, EF, List.set_cons_zero]⟩
   | false =>
     rw [hk] at h; simp only [cond_false] at h
     obtain ⟨j, h1, h2⟩ := Wj (vl := vl) (o := o) (l := l) h
     exact ⟨j + 1, by simpa only [EF, List.getElem?_cons_succ] using h1, by simp only [ed, hk, cond_false, EF, List.set_cons_succ, h2]⟩
theorem Zx {F : Prop} {l : List Value} (h : wK F l) : F ∧ ∀ v ∈ l, Value.oneCell' v = true := by
 have cj : ∀ {l : List Value}, wK.wN l → ∀ v ∈ l, Value.oneCell' v = true := fun {l} => by
   induction l with
   | nil => intro _ v hv; cases hv
   | cons a l ih =>
     intro h v hv
     cases l with
     | nil => simp at hv; subst hv; exact h
     | cons b l =>
       rcases List.mem_cons.1 hv with rfl | hv
       · exact h.1
       · exact ih h.2 v hv
 match l, h with
 | [], h => exact ⟨h, fun v hv => by cases hv⟩
 | [v], h => exact ⟨h.2, fun u hu => by simp at hu; subst hu; exact h.1⟩
 | a :: b :: l, h => exact ⟨h.2, cj h.1⟩
theorem QZ {vl : Vl} : ∀ {l : List BX}, (∀ v ∈ N6 l, Value.oneCell' v = true) → ∀ u ∈ Az vl l, Value.oneCell' u = true
 | [], _, u, hu => by cases hu
 | x :: l, h, u, hu => by
   have tl : ∀ v ∈ N6 l, Value.oneCell' v = true := fun v hv => h v (by cases x <;> first | exact hv | exact List.mem_cons_of_mem _ hv)
   rcases List.mem_cons.1 hu with rfl | hu
   · cases x <;> try rfl
     case bs i n => cases n <;> rfl
     case raw v => exact h v (List.mem_cons_self ..)
     case un => exact h undef (List.mem_cons_self ..)
   · exact QZ tl u hu
theorem Zy {vl : Vl} {v : SV} {l : List BX} (h : v.Zw = some l) (ho : ∀ u ∈ Az vl l, Value.oneCell' u = true) : (v.den vl).cells = (Az vl l).toArray := by
 unfold SV.Zw at h
 split at h
 · rename_i x
   cases h
   have := ho (x.den vl) (List.mem_cons_self ..)
   simp only [SV.den, GG.den, Az]
   cases hx : x.den vl <;> first | rfl | (rw [hx] at this; cases this)
 · cases h; rfl
 · cases h
theorem Zz {T ty : TypeId} {x y : Operand} {gd : Option (Nat × Bool)} {k b : Nat} {v : SV} (hc : c.Ok g) (hs : sig ops i = some (none, .store T x y, ty, gd)) (hw : AR ops (s.e J) gd = true) (hx : iu (s.op x) = some (.bx k b)) (hy : s.op y = some v) (h : wO c T k b v s K) : AL g ops i (s.e J) s.b s.σ (cQ J K) := by
 unfold wO at h
 split at h
 · rename_i l n hl hz
   split at h
   · rename_i t cs hg
     split at h
     · rename_i hd
       simp only [Bool.and_eq_true, Py] at hd
       obtain ⟨hk, ho⟩ := Zx h
       have Z0 := QZ (vl := s.vl) ho
       have Z1 := Zy (vl := s.vl) hl Z0
       obtain ⟨u, e1, e2⟩ := EH hx
       obtain ⟨j, h1, h2⟩ := Wj (vl := s.vl) (o := b) (l := l) hg
       rw [hc.P] at hz
       refine AL.vR (b := nth 0 s.vl.δ k) (o := b) (c := (Az s.vl cs).toArray) (c' := (Az s.vl (Zq cs b l)).toArray) (t := t) (j := j) hs hw (CD hz) (by rw [ev e1, e2]; rfl) (ev hy) h1 ?_ ?_ ?_ ?_ ?_
       · rw [Z1]; simp [Cp]; exact Nat.eq_of_beq_eq_true hd.1
       · have := Nat.eq_of_beq_eq_true hd.1
         have h3 := Nat.le_of_ble_eq_true hd.2
         exact Nat.ble_eq_true_of_le (by simp [Cp]; omega)
       · rw [Z1]; exact List.all_eq_true.2 fun u hu => Z0 u (by simpa using hu)
       · rw [Z1, QR]
       · exact ⟨⟨s.env, ed s.bx k b l, s.vl, s.σ⟩, rfl, h2.symm, rfl, hk⟩
     · cases h
   · cases h
 · cases h
theorem Wk (hc : c.Ok g) (h : jH c ops i s K) : AL g ops i (s.e J) s.b s.σ (cQ J K) := by
 unfold jH at h
 split at h
 · cases h
 · rename_i o ho
   split at h
   · cases h
   · rename_i hd
     rw [hc.n] at hd
     obtain ⟨b, s1, h1, hw, h⟩ := IP h
     have hw := hw J
     rw [← h1.e J] at hw
     refine cR h1 ?_
     cases b with
     | false => exact AL.no (Co ho) hw hd ⟨_, (S.Hj (x := .at .un)).symm, S.Hk.symm, S.Ez.symm, h⟩
     | true =>
       simp only at h
       split at h
       · rename_i T x JT
         obtain ⟨m, v, s2, h2, hk, hy⟩ := Tj (ty := o.type) h
         have hs := Co ho
         rw [JT] at hs
         refine AL.y (v := v.den s2.vl) hs hw hd ?_ ⟨s2.put o.dst v, by rw [S.Hj, h2.e J], by rw [S.Hk, h2.b], by rw [S.Ez, h2.σ], hk⟩
         have hy := hy J
         rw [hc.P] at hy
         cases m with
         | none => exact hy _
         | some b => exact Yd.up hy
       · rename_i T m k v JT
         split at h
         · rename_i um uk uv MH hm hk hv
           have hs := Co ho
           rw [JT, MH] at hs
           rw [hc.P] at h
           exact AL.ov hs hw rfl _ (fun o ho ht => by simp only [execOp, ho]; rw [ev hm, ev hk, ev hv]) (h.mono fun _ σ1 hr => ⟨s1.hp σ1, rfl, rfl, rfl, hr⟩)
         · cases h
       · rename_i T m k v JT
         split at h
         · rename_i um uk uv MH hm hk hv
           have hs := Co ho
           rw [JT, MH] at hs
           rw [hc.P] at h
           exact AL.ov hs hw rfl _ (fun o ho ht => by simp only [execOp, ho]; rw [ev hm, ev hk, ev hv]) (h.mono fun _ σ1 hr => ⟨s1.hp σ1, rfl, rfl, rfl, hr⟩)
         · cases h
       · have JT := ‹o.op = Op.next _ false›
         have hs := Co ho
         rw [JT] at hs
         exact Wi hc hs hw hd h
       · have JT := ‹o.op = Op.entry _›
         have hs := Co ho
         rw [JT] at hs
         split at h
         · rename_i u tk tv hu hm
           rw [hc.P] at h
           have := AL.S1 (K := wH J s1 (fun _ _ => True) K) hs hw hd (Instr.entry (u.den s1.vl)) (fun o ho ht => by simp only [execOp, ho]; rw [ev hu]) (h.mono fun v σ1 hr => Ae (kq := fun _ _ => True) eW (fun _ _ F h => ⟨h, trivial⟩) hr J)
           exact this.mono fun e bx σ ⟨s', e1, e2, e3, _, _, hk⟩ => ⟨s', e1, e2, e3, hk⟩
         · cases h
       · have JT := ‹o.op = Op.panic _›
         split at h
         · rename_i T u hx
           have hs := Co ho
           rw [JT] at hs
           rw [hc.R] at h
           exact AL.panic hs hw (by rw [ev hx]; rfl) hc.GQ hc.ds h
         · cases h
       · have JT := ‹o.op = Op.store _ _ _›
         have hs := Co ho
         rw [JT] at hs
         split at h
         · rename_i i' b v MH hx hy
           rw [MH] at hs
           exact Zz hc hs hw hx hy h
         · exact ABK hc hs hw hd h
       · split at h
         · exact ABK hc (Co ho) hw hd h
         · rename_i m _ hm
           rw [hc.P] at h hm
           obtain ⟨v, s2, h2, hy, hk⟩ := QW hm h
           exact AL.y (v := v.den s2.vl) (Co ho) hw hd (hy J) ⟨s2.put o.dst v, by rw [S.Hj, h2.e J], by rw [S.Hk, h2.b], by rw [S.Ez, h2.σ], hk⟩
         · rw [hc.P] at h
           exact ABJ ho hw hd (We h) fun v s' hJ hk => ⟨s'.put o.dst v, rfl, S.Hk.symm, S.Ez.symm, hk⟩
theorem MM (hc : c.Ok g) : ∀ {is : List Nat} {s : S}, pJ c ops is s K → Seq g ops is (s.e J) s.b s.σ (cQ J K)
 | [], s, h => ⟨s, rfl, rfl, rfl, h⟩
 | i :: is, s, h => (Wk hc h).mono fun e bx σ ⟨s', h1, h2, h3, h4⟩ => by subst h1 h2 h3; exact MM hc h4
theorem Qa {K K' : Env → Bx → Hp → Prop} (hk : ∀ e bx σ, K e bx σ → K' e bx σ) : ∀ {is : List Nat} {e : Env} {bx : Bx} {σ : Hp}, Seq g ops is e bx σ K → Seq g ops is e bx σ K'
 | [], _, _, _, h => hk _ _ _ h
 | i :: is, e, bx, σ, h => AL.mono h fun _ _ _ h => Qa hk h
theorem IQ {K K' : Env → Bx → Hp → Prop} (hk : ∀ e bx σ, K e bx σ → K' e bx σ) : ∀ {p : Ord} {q : IE} {e : Env} {bx : Bx} {σ : Hp}, Ja g ops p q e bx σ K → Ja g ops p q e bx σ K'
 | .done, _, _, _, _, h => hk _ _ _ h
 | .yes i r, q, e, bx, σ, ⟨own, o, v, h1, h2, h3, h4, h5⟩ => ⟨own, o, v, h1, h2, h3, h4, IQ hk h5⟩
 | .alt i r t, q, e, bx, σ, ⟨h1, h2⟩ => ⟨AL.mono h1 fun _ _ _ ⟨h3, h4⟩ => ⟨h3, IQ hk h4⟩, IQ hk h2⟩
 | .no, _, _, _, _, _ => trivial
def Qb : Ord → List Nat
 | .done => []
 | .yes _ r => Qb r
 | .alt i r _ => i :: Qb r
 | .no => []
def ABL (ops : Array Oper) (i : Nat) : Nat → Nat → Option (List Nat)
 | 0, _ => none
 | f + 1, t => match Hg ops t i with
   | true => some [t]
   | false => (List.range t).findSome? fun u => match Nat.blt i u && Hg ops t u with
     | true => match ABL ops i f u with
       | some p => some (t :: p)
       | none => none
     | false => none
def waits (ops : Array Oper) (i : Nat) : List Nat → List (List Nat)
 | [] => []
 | t :: l => match ABL ops i 40 t with
   | some p => p :: waits ops i l
   | none => waits ops i l
def sf (L : IE) : KP := fun σ0 σ1 F => match L with
 | none => Ext σ0 σ1 ∧ F
 | some [] => F
 | some (x :: l) => Kp ((x :: l).map Prod.fst) σ0 σ1 ∧ F
def FI (c : Cx) (ops : Array Oper) : Ord → IE → S → (S → Prop) → Prop
 | .done, _, s, K => K s
 | .yes i r, L, s, K => match ops[i]? with
   | none => False
   | some o => match Gt o.dst c.n && L.ok i with
     | false => False
     | true => QX ops o.guard s fun b s => match b with
       | false => FI c ops r L (s.put o.dst (.at .un)) K
       | true => match o.op with
         | .load T x => ldV c.P T x s fun m v s => match m, L with
           | none, _ => FI c ops r L (s.put o.dst v) K
           | some _, none => FI c ops r L (s.put o.dst v) K
           | some b, some l => match (ME (some l) (some (b, waits ops i (Qb r)))).ok i && QG ops i (some (b, waits ops i (Qb r))) with
             | true => FI c ops r (ME (some l) (some (b, waits ops i (Qb r)))) (s.put o.dst v) K
             | false => False
         | op => match jF c.P op, anyM c.P op o.type s, L with
           | true, _, _ => False
           | false, some m, none => wJ c.P o.type m s fun v s => FI c ops r none (s.put o.dst v) K
           | false, some _, some _ => False
           | false, none, L => yv c.P c.wr op s fun v s => FI c ops r L (s.put o.dst v) K
 | .alt i r t, L, s, K =>
   match t with
   | .no => Wl c ops i L s fun s => FI c ops r (FG L i) s K
   | t => (Wl c ops i L s fun s => FI c ops r (FG L i) s K) ∧ FI c ops t L s K
 | .no, _, _, _ => True
where
 Wl (c : Cx) (ops : Array Oper) (i : Nat) (L : IE) (s : S) (K : S → Prop) : Prop := match ops[i]? with
   | none => False
   | some o => match Gt o.dst c.n with
     | false => False
     | true => QX ops o.guard s fun b s => match b with
       | false => K (s.put o.dst (.at .un))
       | true => eX c.toZv o.dst o.op o.type s (sf (FG L i)) K
def kqL (q : IE) (σ σ' : Hp) : Prop := match q with
 | none => ∀ b o, σ b = some o → σ' b = some o
 | some L => ∀ x ∈ L, ∀ o, σ x.1 = some o → σ' x.1 = some o
theorem wP {q : IE} {bx Fp : Bx} {σ σ' : Hp} (h : kqL q σ σ') (hb : ∀ p ∈ bx, p ∈ Fp) : JX q bx σ Fp σ' := ⟨hb, h⟩
theorem eh {L : IE} {σ0 σ1 : Hp} {F : Prop} (h : sf L σ0 σ1 F) : F ∧ kqL L σ0 σ1 := by
 unfold sf at h
 split at h
 · exact ⟨h.2, h.1⟩
 · exact ⟨h, fun x hx => by cases hx⟩
 · exact ⟨h.2, fun y hy o ho => h.1 y.1 (List.mem_map.2 ⟨y, hy, rfl⟩) o ho⟩
theorem pK {L : IE} {σ0 σ1 : Hp} (h : Ext σ0 σ1) : kqL L σ0 σ1 := by
 cases L with
 | none => exact h
 | some l => exact fun x _ o ho => h _ _ ho
theorem Wm {L : IE} (hc : c.Ok g) (h : FI.Wl c ops i L s K) : AL g ops i (s.e J) s.b s.σ fun e' Fp σ' => JX (FG L i) s.b s.σ Fp σ' ∧ cQ J K e' Fp σ' := by
 unfold FI.Wl at h
 split at h
 · cases h
 · rename_i o ho
   split at h
   · cases h
   · rename_i hd
     rw [hc.n] at hd
     obtain ⟨b, s1, h1, hw, h⟩ := IP h
     have hw := hw J
     rw [← h1.e J] at hw
     have key : AL g ops i (s1.e J) s1.b s1.σ fun e' Fp σ' => JX (FG L i) s1.b s1.σ Fp σ' ∧ cQ J K e' Fp σ' := by
       cases b with
       | false => exact AL.no (Co ho) hw hd ⟨JX.refl _ _ _, _, (S.Hj (x := .at .un)).symm, S.Hk.symm, S.Ez.symm, h⟩
       | true =>
         have := QV (c := c.toZv) (kq := kqL (FG L i)) (J := J) hc.P hc.R hc.E (fun _ _ F h => eh h) (fun _ _ h => pK h) (Co ho) hw hd h
         exact this.mono fun e' Fp σ' ⟨s', e1, e2, e3, hq, hb, hk⟩ => ⟨wP hq hb, s', e1, e2, e3, hk⟩
     have := cR (K := fun e' Fp σ' => JX (FG L i) s1.b s1.σ Fp σ' ∧ cQ J K e' Fp σ') h1 key
     rw [h1.b, h1.σ] at this
     exact this
theorem Cq (hc : c.Ok g) : ∀ {p : Ord} {q : IE} {s : S}, FI c ops p q s K → Ja g ops p q (s.e J) s.b s.σ (cQ J K)
 | .done, q, s, h => ⟨s, rfl, rfl, rfl, h⟩
 | .yes i r, q, s, h => by
   simp only [FI] at h
   split at h
   · cases h
   · rename_i o ho
     split at h
     · cases h
     · rename_i hd
       simp only [Bool.and_eq_true] at hd
       obtain ⟨hd, hq⟩ := hd
       rw [hc.n] at hd
       obtain ⟨b, s1, h1, hw, h⟩ := IP h
       have hw := hw J
       rw [← h1.e J] at hw
       rw [← h1.e J, ← h1.b, ← h1.σ]
       have go : ∀ {v : SV} {s2 : S} {own : Option (Nat × List (List Nat))}, s1.Hm s2 → ((ME q own).ok i && QG ops i own) = true → Yd g.P (s1.e J) s1.b (Nt q own s1.σ) o.op o.type (v.den s2.vl) → AR ops (s1.e J) o.guard = true → FI c ops r (ME q own) (s2.put o.dst v) K → Ja g ops (.yes i r) q (s1.e J) s1.b s1.σ (cQ J K) := fun {v s2 own} h2 Dx hy hw hk => by
         have := Cq hc hk
         rw [S.Hj, S.Hk, S.Ez, h2.e J, h2.b, h2.σ] at this
         exact ⟨own, o, v.den s2.vl, Dx, ho, .inl ⟨hw, hy⟩, Gt.lt hd, this⟩
       cases b with
       | false =>
         have := Cq hc h
         rw [S.Hj, S.Hk, S.Ez] at this
         exact ⟨none, o, undef, ok_none hq, ho, .inr ⟨hw, rfl⟩, Gt.lt hd, by rw [Ew]; exact this⟩
       | true =>
         simp only at h
         split at h
         · rename_i T x JT
           obtain ⟨m, v, s2, h2, hk, hy⟩ := Tj (ty := o.type) h
           have hy := hy J
           rw [hc.P, ← JT] at hy
           split at hk
           · exact go (own := none) h2 (ok_none hq) (hy _) hw (by rw [Ew]; exact hk)
           · exact go (own := none) h2 (ok_none hq) (Yd.up hy) hw (by rw [Ew]; exact hk)
           · rename_i b l
             split at hk
             · rename_i Dx
               exact go h2 Dx hy hw hk
             · cases hk
         · split at h
           · cases h
           · have hm := ‹anyM c.P o.op o.type s1 = some _›
             rw [hc.P] at h hm
             obtain ⟨v, s2, h2, hy, hk⟩ := QW hm h
             exact go (own := none) h2 (ok_none hq) (hy J) hw hk
           · cases h
           · rw [hc.P] at h
             obtain ⟨v, s2, h2, hy, hk⟩ := We (ty := o.type) h
             exact go (own := none) h2 (ok_none hq) (hy J _) hw (by rw [Ew]; exact hk)
 | .alt i r t, q, s, h => by
   have key : ∀ {t : Ord}, (FI.Wl c ops i q s fun s => FI c ops r (FG q i) s K) → Ja g ops t q (s.e J) s.b s.σ (cQ J K) → Ja g ops (.alt i r t) q (s.e J) s.b s.σ (cQ J K) := fun {t} h1 h2 =>
     ⟨(Wm hc h1).mono fun e bx σ ⟨hk, s', e1, e2, e3, h3⟩ => ⟨hk, by subst e1 e2 e3; exact Cq hc h3⟩, h2⟩
   cases t with
   | no => exact key h trivial
   | done => exact key h.1 (Cq hc h.2)
   | yes j u => exact key h.1 (Cq hc h.2)
   | alt j u w => exact key h.1 (Cq hc h.2)
 | .no, q, s, h => trivial
def cS (P : Program) (ops : Array Oper) (m : Nat) : Nat → Array Bool → Ord
 | 0, _ => .no
 | f + 1, listed => match (List.range m).all fun i => listed.getD i false with
   | true => .done
   | false => match (Region.ready .any ops listed).find? fun j => Nat.blt j m && match ops[j]? with | some o => !jF P o.op | none => false with
     | some j => .yes j (cS P ops m f (listed.setIfInBounds j true))
     | none => (Region.ready .any ops listed).foldr (fun j acc => .alt j (cS P ops m f (listed.setIfInBounds j true)) acc) .no
def wR (c : Cx) (ops : Array Oper) (draw : Bool) (m : Nat) (q : IE) (s : S) (K : S → Prop) : Prop := match draw with
 | false => pJ c ops (List.range ops.size) s K
 | true => match Up ops m (cS c.P ops m (ops.size + 1) (Array.replicate ops.size false)) (List.range' m (ops.size - m)) with
   | true => FI c ops (cS c.P ops m (ops.size + 1) (Array.replicate ops.size false)) q s fun s => pJ c ops (List.range' m (ops.size - m)) s K
   | false => False
theorem Z2 {k : List Item} {id m : Nat} {draw : Bool} {q : IE} (hc : c.Ok g) (hm : g.P.follows .mixedOrders = true) (h : wR c ops draw m q s K) (hk : ∀ s, K s → At g k (s.e J) s.b s.σ) : At g (.code (.region id ops draw) :: k) (s.e J) s.b s.σ := by
 have fin : ∀ e bx σ, cQ J K e bx σ → At g k e bx σ := fun e bx σ ⟨s', e1, e2, e3, h⟩ => by subst e1 e2 e3; exact hk s' h
 cases draw with
 | false =>
   refine At.region rfl rfl ?_
   have : Seq g ops (List.range ops.size) (s.e J) s.b s.σ (cQ J K) := MM hc h
   exact Qa fin this
 | true =>
   simp only [wR] at h
   split at h
   · rename_i hp
     refine At.ABF hm rfl hp (q := q) ?_
     have := Cq (J := J) hc h
     refine IQ (fun e bx σ ⟨s', e1, e2, e3, h⟩ => ?_) this
     subst e1 e2 e3
     exact Qa fin (MM hc h)
   · cases h
end
end Tw
end
section
namespace Tw
open Go
variable [Eg]
def node (body : Code) : List Bool → Code
 | [] => body
 | false :: p => cl (node body p)
 | true :: p => cr (node body p)
inductive It where
 | c (p : List Bool)
 | QO (i : Nat)
 | lp (p : List Bool)
 | sc (p : List Bool)
def It.den (body : Code) : It → Item
 | .c p => .code (node body p)
 | .QO i => .inBlock i
 | .lp p => .inLoop (node body p)
 | .sc p => .inScope (node body p)
def Cr (body : Code) : List It → List Item
 | [] => []
 | x :: l => x.den body :: Cr body l
def N7 : List Bool → List Bool → Bool
 | [], [] => true
 | a :: p, b :: q => (bif a then b else !b) && N7 p q
 | _, _ => false
theorem Tm : ∀ {p q : List Bool}, N7 p q = true → p = q
 | [], [], _ => rfl
 | a :: p, b :: q, h => by
   simp only [N7, Bool.and_eq_true] at h
   rw [Tm h.2]
   cases a <;> cases b <;> simp at h <;> rfl
 | [], _ :: _, h => by cases h
 | _ :: _, [], h => by cases h
def It.eq : It → It → Bool
 | .c p, .c q => N7 p q
 | .QO i, .QO j => Nat.beq i j
 | .lp p, .lp q => N7 p q
 | .sc p, .sc q => N7 p q
 | _, _ => false
def cU : List It → List It → Bool
 | [], [] => true
 | x :: l, y :: m => x.eq y && cU l m
 | _, _ => false
theorem Wn : ∀ {l m : List It}, cU l m = true → l = m
 | [], [], _ => rfl
 | x :: l, y :: m, h => by
   simp only [cU, Bool.and_eq_true] at h
   rw [Wn h.2]
   have : x = y := by
     cases x <;> cases y <;> simp only [It.eq] at h <;> first
       | (rw [Tm h.1])
       | (rw [Nat.eq_of_beq_eq_true h.1])
       | (exact absurd h.1 (by simp))
   rw [this]
 | [], _ :: _, h => by cases h
 | _ :: _, [], h => by cases h
structure Cut where
 todo : List It
 f : S → Prop
def Cut.Ok (g : Gl) (body : Code) (k : Cut) : Prop := ∀ s J, k.f s → At g (Cr body k.todo) (s.e J) s.b s.σ
def pL : List Cut → List It → Option (S → Prop)
 | [], _ => none
 | k :: l, t => match cU k.todo t with
   | true => some k.f
   | false => pL l t
theorem cV {g : Gl} {body : Code} : ∀ {l : List Cut} {t : List It} {f : S → Prop}, (∀ k ∈ l, k.Ok g body) → pL l t = some f → ∀ s J, f s → At g (Cr body t) (s.e J) s.b s.σ
 | k :: l, t, f, hl, h => by
   simp only [pL] at h
   split at h
   · rename_i he
     cases h
     rw [← Wn he]
     exact hl k (List.mem_cons_self ..)
   · exact cV (fun k hk => hl k (List.mem_cons_of_mem _ hk)) h
def On (i : Nat) : List It → Option (List It)
 | [] => none
 | .QO j :: r => match Nat.beq i j with
   | true => some r
   | false => On i r
 | _ :: r => On i r
def Ux (l : Nat) : Code → List Bool → Option (List It)
 | .seq a b, p => match Ux l a (false :: p) with
   | some r => some (r ++ [.c (true :: p)])
   | none => Ux l b (true :: p)
 | .label j, _ => match Nat.beq j l with
   | true => some []
   | false => none
 | _, _ => none
def Oo (body : Code) (l : Nat) : List It → Option (List It)
 | [] => none
 | .sc p :: r => match Ux l (node body p) p with
   | some m => some (m ++ (.sc p :: r))
   | none => Oo body l r
 | _ :: r => Oo body l r
structure Fx extends Cx where
 body : Code
 res : List ResultVar
 reg : List (Nat × Nat × Bool)
def jI : List (Nat × Nat × Bool) → Nat → Nat → Nat × IE
 | [], _, m => (m, some [])
 | (i, m, b) :: l, id, z => match Nat.beq i id with
   | true => (m, bif b then none else some [])
   | false => jI l id z
def Z3 (c : Fx) (s : S) : List ResultVar → Option (List SV)
 | [] => some []
 | .tmp t :: r => match Ur s.env t, Z3 c s r with
   | some v, some l => some (v :: l)
   | _, _ => none
 | .cell p T :: r => match iu (Ur s.env p), Z3 c s r with
   | some (.bx i 0), some l => match Wd s.bx i, WV c.P T with
     | some (_, cs), some true => match WU c.P T with
       | some n => match decide (cs.length = n) with
         | true => some (.v (.agg cs) :: l)
         | false => none
       | none => none
     | some (_, x :: _), some false => some (.at x :: l)
     | _, _ => none
   | _, _ => none
def Um (c : Fx) (s : S) : Prop := match Z3 c s c.res with
 | some l => c.R (.returned (QH (Ce s.vl l))) s.σ
 | none => False
def Cs (c : Fx) (cuts : List Cut) : Nat → Bool → List It → S → Prop
 | 0, _, _, _ => False
 | f + 1, first, todo, s => match (bif first then none else pL cuts todo) with
   | some k => k s
   | none => match todo with
     | [] => Um c s
     | .QO _ :: r => Cs c cuts f false r s
     | .lp p :: r => Cs c cuts f false (.c p :: .lp p :: r) s
     | .sc _ :: r => Cs c cuts f false r s
     | .c p :: r => match node c.body p with
       | .skip => Cs c cuts f false r s
       | .seq _ _ => Cs c cuts f false (.c (false :: p) :: .c (true :: p) :: r) s
       | .block i _ => Cs c cuts f false (.c (false :: p) :: .QO i :: r) s
       | .loop _ => Cs c cuts f false (.c (false :: p) :: .lp (false :: p) :: r) s
       | .exit i => match On i r with
         | some r => Cs c cuts f false r s
         | none => False
       | .scope _ => Cs c cuts f false (.c (false :: p) :: .sc (false :: p) :: r) s
       | .label _ => Cs c cuts f false r s
       | .goto l => match Oo c.body l r with
         | some r => Cs c cuts f false r s
         | none => False
       | .cond x _ _ => s.pE (s.op x) fun t s => Cs c cuts f false (.c ((!t) :: p) :: r) s
       | .ret => Um c s
       | .region id ops draw => wR c.toCx ops draw (jI c.reg id ops.size).1 (jI c.reg id ops.size).2 s fun s => Cs c cuts f false r s
       | _ => False
structure Fx.Ok (c : Fx) (g : Gl) (fn : Func) : Prop where
 cx : c.toCx.Ok g
 mixed : g.P.follows .mixedOrders = true
 fnc : g.P.funcs[g.f]? = some fn
 res : fn.results = c.res.toArray
 GQ : g.GQ = none
 ds : g.ds = []
section
variable {g : Gl} {c : Fx} {fn : Func} {cuts : List Cut} {J : Env}
theorem GY (hP : c.P = g.P) {s : S} : ∀ {rs : List ResultVar} {l : List SV}, Z3 c s rs = some l → G5 g.P (s.e J) s.b s.σ rs (Ce s.vl l)
 | [], l, h => by simp only [Z3, Option.some.injEq] at h; subst h; rfl
 | .tmp t :: r, l, h => by
   simp only [Z3] at h
   split at h
   · rename_i v l' h1 h2
     cases h
     refine ⟨_, ?_, GY hP h2⟩
     rw [show s.e J t = v.den s.vl from Dy h1]; rfl
   · cases h
 | .cell p T :: r, l, h => by
   simp only [Z3] at h
   split at h
   · rename_i i l' h1 h2
     obtain ⟨u, e1, e2⟩ := EH h1
     have hp : s.e J p = .pointer (some ⟨nth 0 s.vl.δ i, 0, none⟩) := (Dy e1).trans (e2 _)
     split at h
     · rename_i t cs hb ha
       split at h
       · rename_i n hn
         split at h
         · rename_i hd
           have hd := of_decide_eq_true hd
           cases h
           rw [hP] at ha hn
           exact ⟨_, _, rfl, ⟨_, hp, iT (EG ha) (CD hn) (by simp [Cp]; exact hd) (Jb hb)⟩, GY hP h2⟩
         · cases h
       · cases h
     · rename_i t x cs hb ha
       cases h
       rw [hP] at ha
       exact ⟨_, _, rfl, ⟨_, hp, ow (EG ha) (Jb hb) rfl⟩, GY hP h2⟩
     · cases h
   · cases h
theorem Ho {body : Code} {i : Nat} : ∀ {r r' : List It}, On i r = some r' → exitTo i (Cr body r) = some (Cr body r')
 | .QO j :: r, r', h => by
   simp only [On] at h
   split at h
   · rename_i he
     cases h
     have := Nat.eq_of_beq_eq_true he
     subst this
     simp [Cr, It.den, exitTo]
   · rename_i he
     have A3 : i ≠ j := fun e => by subst e; rw [Nat.beq_refl] at he; cases he
     simp only [Cr, It.den, exitTo]
     rw [if_neg (by simpa using Ne.symm A3)]
     exact Ho h
 | .c p :: r, r', h => by simp only [On] at h; simp only [Cr, It.den, exitTo]; exact Ho h
 | .lp p :: r, r', h => by simp only [On] at h; simp only [Cr, It.den, exitTo]; exact Ho h
 | .sc p :: r, r', h => by simp only [On] at h; simp only [Cr, It.den, exitTo]; exact Ho h
theorem Qc {body : Code} : ∀ {l m : List It}, Cr body (l ++ m) = Cr body l ++ Cr body m
 | [], _ => rfl
 | x :: l, m => by simp only [List.cons_append, Cr, Qc]
theorem Kz {l : Nat} : ∀ {x : Code} {p : List Bool}, Ux l x p = none → findLabel x l = none
 | .seq a b, p, h => by
   simp only [Ux] at h
   split at h
   · cases h
   · rename_i h1
     simp only [findLabel, Kz h1, Kz h]
 | .label j, p, h => by
   simp only [Ux] at h
   split at h
   · cases h
   · rename_i h1
     have : j ≠ l := fun e => by subst e; rw [Nat.beq_refl] at h1; cases h1
     simp [findLabel, this]
 | .skip, p, h => rfl
 | .region .., p, h => rfl
 | .cond .., p, h => rfl
 | .block .., p, h => rfl
 | .loop .., p, h => rfl
 | .rangeFunc .., p, h => rfl
 | .exit .., p, h => rfl
 | .scope .., p, h => rfl
 | .goto .., p, h => rfl
 | .ret, p, h => rfl
 | .refuse .., p, h => rfl
theorem Qd {l : Nat} {body : Code} : ∀ {x : Code} {p : List Bool} {m : List It}, node body p = x → Ux l x p = some m → ∃ rest, findLabel x l = some rest ∧ ∀ {k : List Item} {e : Env} {bx : Bx} {σ : Hp}, At g (Cr body m ++ k) e bx σ → At g (.code rest :: k) e bx σ
 | .seq a b, p, m, hx, h => by
   simp only [Ux] at h
   split at h
   · rename_i r h1
     cases h
     obtain ⟨rest, e1, e2⟩ := Qd (body := body) (x := a) (p := false :: p) (by simp only [node, hx, cl]) h1
     refine ⟨.seq rest b, by simp only [findLabel, e1], fun h => At.seq rfl (e2 ?_)⟩
     rw [Qc, List.append_assoc] at h
     simp only [Cr, It.den, node, hx, cr, List.cons_append, List.nil_append] at h
     exact h
   · rename_i h1
     obtain ⟨rest, e1, e2⟩ := Qd (body := body) (x := b) (p := true :: p) (by simp only [node, hx, cr]) h
     exact ⟨rest, by simp only [findLabel, Kz h1, e1], e2⟩
 | .label j, p, m, hx, h => by
   simp only [Ux] at h
   split at h
   · rename_i h1
     cases h
     have := Nat.eq_of_beq_eq_true h1
     subst this
     exact ⟨.skip, by simp [findLabel], fun h => At.skip h⟩
   · cases h
theorem Hq {l : Nat} {body : Code} : ∀ {r r' : List It}, Oo body l r = some r' → ∃ k', gotoIn l (Cr body r) = some k' ∧ ∀ {e : Env} {bx : Bx} {σ : Hp}, At g (Cr body r') e bx σ → At g k' e bx σ
 | .sc p :: r, r', h => by
   simp only [Oo] at h
   split at h
   · rename_i m h1
     cases h
     obtain ⟨rest, e1, e2⟩ := Qd (g := g) rfl h1
     refine ⟨.code rest :: .inScope (node body p) :: Cr body r, by simp only [Cr, It.den, gotoIn, e1], fun h => e2 ?_⟩
     rw [Qc] at h
     exact h
   · rename_i h1
     obtain ⟨k', e1, e2⟩ := Hq h
     exact ⟨k', by simp only [Cr, It.den, gotoIn, Kz h1, e1], e2⟩
 | .c p :: r, r', h => by simp only [Oo] at h; simp only [Cr, It.den, gotoIn]; exact Hq h
 | .lp p :: r, r', h => by simp only [Oo] at h; simp only [Cr, It.den, gotoIn]; exact Hq h
 | .QO p :: r, r', h => by simp only [Oo] at h; simp only [Cr, It.den, gotoIn]; exact Hq h
theorem Am (hc : c.Ok g fn) (hk : ∀ k ∈ cuts, k.Ok g c.body) : ∀ {f : Nat} {first : Bool} {todo : List It} {s : S}, Cs c cuts f first todo s → At g (Cr c.body todo) (s.e J) s.b s.σ
 | 0, _, _, _, h => h.elim
 | f + 1, first, todo, s, h => by
   have hl : ∀ σ, left g.ds σ = σ := fun σ => by rw [hc.ds]; rfl
   have hY : Marks g.ds s.σ := by rw [hc.ds]; trivial
   simp only [Cs] at h
   split at h
   · rename_i k ABO
     cases first with
     | true => cases ABO
     | false => exact cV hk ABO s J h
   · split at h
     · unfold Um at h
       split at h
       · rename_i l cW
         rw [hc.cx.R] at h
         exact At.AA3 hc.fnc hc.res (by rw [hl]; exact GY hc.cx.P cW) (by rw [hl]; exact h) hc.GQ hY
       · cases h
     · exact At.inBlock (Am hc hk h)
     · exact At.inLoop (Am hc hk h)
     · exact At.inScope (Am hc hk h)
     · rename_i p r _
       have e : Cr c.body (.c p :: r) = .code (node c.body p) :: Cr c.body r := rfl
       rw [e]
       split at h
       · rename_i hn; rw [hn]; exact At.skip (Am hc hk h)
       · rename_i a b hn
         refine At.seq hn ?_
         have := Am hc hk h
         simp only [Cr, It.den, node, hn, cl, cr] at this
         exact this
       · rename_i i a hn
         refine At.block hn ?_
         have := Am hc hk h
         simp only [Cr, It.den, node, hn, cl] at this
         exact this
       · rename_i a hn
         refine At.loop hn ?_
         have := Am hc hk h
         simp only [Cr, It.den, node, hn, cl] at this
         exact this
       · rename_i i hn
         split at h
         · rename_i r' hr
           exact At.exit hn (Ho hr) (Am hc hk h)
         · cases h
       · rename_i a hn
         refine At.scope hn ?_
         have := Am hc hk h
         simp only [Cr, It.den, node, hn, cl] at this
         exact this
       · rename_i l hn; rw [hn]; exact At.label (Am hc hk h)
       · rename_i l hn
         split at h
         · rename_i r' hr
           obtain ⟨k', e1, e2⟩ := Hq (g := g) hr
           exact At.goto hn e1 (e2 (Am hc hk h))
         · cases h
       · rename_i x a b hn
         obtain ⟨t, s', v, h1, h2, h3, h4, h⟩ := S.E1 h
         have hx : AD (s.e J) x = .bool t := by rw [ev h3, h4]
         have := Am hc hk h
         rw [h1.e J, h1.b, h1.σ] at this
         cases t with
         | true =>
           refine At.sP hn hx ?_
           simp only [Cr, It.den, node, hn, cl, Bool.not_true] at this
           exact this
         | false =>
           refine At.sQ hn hx ?_
           simp only [Cr, It.den, node, hn, cr, Bool.not_false] at this
           exact this
       · rename_i hn
         unfold Um at h
         split at h
         · rename_i l cW
           rw [hc.cx.R] at h
           exact At.Um hn hc.fnc hc.res (by rw [hl]; exact GY hc.cx.P cW) (by rw [hl]; exact h) hc.GQ hY
         · cases h
       · rename_i id ops draw hn
         rw [hn]
         exact Z2 hc.cx hc.mixed h fun s' h' => Am hc hk h'
       · cases h
end
def S.ei (s : S) : List Nat → Option (List Value)
 | [] => some []
 | t :: l => match Ur s.env t, s.ei l with
   | some v, some r => some (v.den s.vl :: r)
   | _, _ => none
theorem Tn {s : S} {J : Env} : ∀ {l : List Nat} {vs : List Value}, s.ei l = some vs → Live (s.e J) (l.zip vs)
 | [], vs, h => by simp only [S.ei, Option.some.injEq] at h; subst h; trivial
 | t :: l, vs, h => by
   simp only [S.ei] at h
   split at h
   · rename_i v r h1 h2
     cases h
     exact ⟨Dy h1, Tn h2⟩
   · cases h
def cX (i : Nat) : List Ey → Option (Ey × List Ey)
 | [] => none
 | x :: l => match Nat.beq x.1 i with
   | true => some (x, l)
   | false => cX i l
def si : Option SV → Option Nat
 | some (.v (.a (.pt (.bx i 0)))) => some i
 | _ => none
def S.Uy (s : S) : List Nat → List Ey → Option (List Ey)
 | [], _ => some []
 | t :: l, bx => match si (Ur s.env t) with
   | some i => match cX i bx with
     | some (x, r) => match s.Uy l r with
       | some m => some (x :: m)
       | none => none
     | none => none
   | none => none
def Qe (vl : Vl) : List Nat → List Ey → List (Nat × Value)
 | t :: l, x :: r => (t, .pointer (some ⟨nth 0 vl.δ x.1, 0, none⟩)) :: Qe vl l r
 | _, _ => []
theorem To {vl : Vl} {i : Nat} : ∀ {l r : List Ey} {x : Ey}, cX i l = some (x, r) → x.1 = i ∧ ∀ m : List Ey, (EF vl m).Sublist (EF vl r) → (EF vl (x :: m)).Sublist (EF vl l)
 | y :: l, r, x, h => by
   simp only [cX] at h
   split at h
   · rename_i he
     cases h
     exact ⟨Nat.eq_of_beq_eq_true he, fun m hm => List.Sublist.cons_cons _ hm⟩
   · obtain ⟨h1, h2⟩ := To (vl := vl) h
     exact ⟨h1, fun m hm => List.Sublist.cons _ (h2 m hm)⟩
theorem Wo {s : S} {J : Env} : ∀ {l : List Nat} {bx B : List Ey}, s.Uy l bx = some B → (EF s.vl B).Sublist (EF s.vl bx) ∧ Live (s.e J) (Qe s.vl l B)
 | [], bx, B, h => by simp only [S.Uy, Option.some.injEq] at h; subst h; exact ⟨List.nil_sublist _, trivial⟩
 | t :: l, bx, B, h => by
   simp only [S.Uy] at h
   split at h
   · rename_i i hi
     split at h
     · rename_i x r hx
       split at h
       · rename_i m hm
         cases h
         obtain ⟨h1, h2⟩ := To (vl := s.vl) hx
         obtain ⟨h3, h4⟩ := Wo (s := s) (J := J) hm
         refine ⟨h2 m h3, ?_, h4⟩
         unfold si at hi
         split at hi
         · rename_i hg
           cases hi
           rw [h1]
           exact Dy hg
         · cases hi
       · cases h
     · cases h
   · cases h
theorem Live.app {e : Env} : ∀ {l m : List (Nat × Value)}, Live e l → Live e m → Live e (l ++ m)
 | [], _, _, h => h
 | (_, _) :: _, _, h, g => ⟨h.1, Live.app h.2 g⟩
theorem At.ABP {g : Gl} {k : List Item} {s : S} {J : Env} {l bl : List Nat} {vs : List Value} {B : List Ey} (h : s.ei l = some vs) (hb : s.Uy bl s.bx = some B) (hk : ∀ J, At g k (JW J (Qe s.vl bl B ++ l.zip vs)) (EF s.vl B) s.σ) : At g k (s.e J) s.b s.σ := by
 obtain ⟨h1, h2⟩ := Wo (J := J) hb
 exact At.sub h1 (At.live (h2.app (Tn h)) (hk _))
def Qf : Nat → List Value → List (Nat × Value)
 | _, [] => []
 | k, v :: l => (k, v) :: Qf (k + 1) l
theorem Qg {e : Env} : ∀ {l : List Value} {k : Nat}, (∀ j v, l[j]? = some v → e (k + j) = v) → Live e (Qf k l)
 | [], _, _ => trivial
 | v :: l, k, h => ⟨h 0 v rfl, Qg fun j u hj => by rw [show k + 1 + j = k + (j + 1) by omega]; exact h (j + 1) u (by simpa using hj)⟩
theorem Spec.walk {P : Program} {f : FuncId} {fn : Func} {R : Rr} {args : Array Value} {n fuel : Nat} (c : Fx) (cuts : List Cut) (s : S) (hc : c.Ok (Gl.fn P f n R) fn) (hb : fn.body = some c.body) (hnt : fn.ntmps = n) (hn : Nat.ble args.size n = true)
   (hk : ∀ k ∈ cuts, k.Ok (Gl.fn P f n R) c.body) (he : Gx s.vl s.env = Qf 0 args.toList) (hbx : s.bx = []) (h : Cs c cuts fuel true [.c []] s) : Spec P f args s.σ R := by
 subst hnt
 refine Spec.bq hc.fnc hb (Nat.le_of_ble_eq_true hn) fun e hee => ?_
 have hl : Live e (Gx s.vl s.env) := by
   rw [he]
   refine Qg fun j v hj => ?_
   rw [Nat.zero_add, hee]
   simp only [Array.getD_eq_getD_getElem?]
   rw [← Array.getElem?_toList, hj]; rfl
 have := Am (J := e) hc hk h
 have PN : s.b = [] := by rw [S.b, hbx]; rfl
 rw [PN] at this
 exact At.live hl this
end Tw
end
section
namespace Tw
open Go
variable [Eg]
inductive Dv where
 | I (k : IntKind) (x : Int)
 | B (t : Bool)
 | T (x : ByteArray)
 | L (p : Option Addr) (n c : Nat)
 | Q (p : Option Addr)
 | A (b : Nat)
 | M (x : Option Nat)
 | V (x : Value)
def Dv.den : Dv → Value
 | .I k x => .int k x
 | .B t => .bool t
 | .T x => .string x
 | .L p n c => .slice p n c
 | .Q p => .pointer p
 | .A b => .pointer (some ⟨b, 0, none⟩)
 | .M x => .map x
 | .V x => x
def Wp : List Dv → List Value
 | [] => []
 | x :: l => x.den :: Wp l
inductive Dw where
 | o (x : Dv)
 | G (l : List Dv)
 | U (l : List Dv)
 | X (T : TypeId) (l : List Dv)
def Dw.den : Dw → Value
 | .o x => x.den
 | .G l => .agg (Wp l).toArray
 | .U l => .tuple (Wp l).toArray
 | .X _ _ => undef
structure Nm where
 ρ : List (Option Addr)
 β : List BK
structure Nm.le (n : Nm) (v : Vl) : Prop where
 ρ : ∀ i, i < n.ρ.length → nth none v.ρ i = nth none n.ρ i
 β : ∀ i, i < n.β.length → nth (.var false) v.β i = nth (.var false) n.β i
def Dv.sym : Dv → Nm → BX × Nm
 | .I k x, n => (.int k x, n)
 | .B t, n => (.bs (QY n.β) false, ⟨n.ρ, n.β ++ [.var t]⟩)
 | .T x, n => (.str x, n)
 | .L p k c, n => (.sl (.var (QY n.ρ)) k c, ⟨n.ρ ++ [p], n.β⟩)
 | .Q p, n => (.pt (.var (QY n.ρ)), ⟨n.ρ ++ [p], n.β⟩)
 | .A b, n => (.pt (.at b 0), n)
 | .M x, n => (.mp x, n)
 | .V x, n => (.raw x, n)
theorem Nm.ABQ {n : Nm} {v : Vl} {p : Option Addr} (h : Nm.le ⟨n.ρ ++ [p], n.β⟩ v) : n.le v ∧ nth none v.ρ (QY n.ρ) = p := by
 refine ⟨⟨fun i hi => (h.ρ i (by simp only [List.length_append]; omega)).trans (Kx hi), h.β⟩, ?_⟩
 rw [Py, h.ρ _ (by simp)]; exact Ky
theorem Nm.AIM {n : Nm} {v : Vl} {p : BK} (h : Nm.le ⟨n.ρ, n.β ++ [p]⟩ v) : n.le v ∧ nth (.var false) v.β (QY n.β) = p := by
 refine ⟨⟨h.ρ, fun i hi => (h.β i (by simp only [List.length_append]; omega)).trans (Kx hi)⟩, ?_⟩
 rw [Py, h.β _ (by simp)]; exact Ky
theorem Dv.N8 {x : Dv} {n : Nm} {v : Vl} (h : (x.sym n).2.le v) : (x.sym n).1.den v = x.den ∧ n.le v := by
 cases x with
 | B t => obtain ⟨h1, h2⟩ := Nm.AIM h; exact ⟨by simp only [Dv.sym, BX.den, h2]; rfl, h1⟩
 | L p k c => obtain ⟨h1, h2⟩ := Nm.ABQ h; exact ⟨by simp only [Dv.sym, BX.den, PV.den, h2]; rfl, h1⟩
 | Q p => obtain ⟨h1, h2⟩ := Nm.ABQ h; exact ⟨by simp only [Dv.sym, BX.den, PV.den, h2]; rfl, h1⟩
 | _ => exact ⟨rfl, h⟩
def Wq : List Dv → Nm → List BX × Nm
 | [], n => ([], n)
 | x :: l, n => match x.sym n with
   | (a, n) => match Wq l n with
     | (r, n) => (a :: r, n)
theorem Pz {v : Vl} : ∀ {l : List Dv} {n : Nm}, (Wq l n).2.le v → Az v (Wq l n).1 = Wp l ∧ n.le v
 | [], n, h => ⟨rfl, h⟩
 | x :: l, n, h => by
   obtain ⟨h1, h2⟩ := Pz (l := l) (n := (x.sym n).2) h
   obtain ⟨h3, h4⟩ := Dv.N8 h2
   exact ⟨by simp only [Wq, Az, Wp, h3]; rw [← h1], h4⟩
def atoms : List BX → List GG
 | [] => []
 | x :: l => .a x :: atoms l
theorem Tp {v : Vl} : ∀ l, G9 v (atoms l) = Az v l
 | [] => rfl
 | x :: l => by simp only [atoms, G9, Az]; rw [Tp l]; rfl
def Dw.sym : Dw → Nm → SV × Nm
 | .o x, n => match x.sym n with | (a, n) => (.v (.a a), n)
 | .G l, n => match Wq l n with | (a, n) => (.v (.agg a), n)
 | .U l, n => match Wq l n with | (a, n) => (.TW (atoms a), n)
 | .X _ _, n => (.v (.a .un), n)
theorem Dw.N8 {x : Dw} {n : Nm} {v : Vl} (h : (x.sym n).2.le v) : (x.sym n).1.den v = x.den ∧ n.le v := by
 cases x with
 | o x => exact Dv.N8 (x := x) h
 | G l => obtain ⟨h1, h2⟩ := Pz (l := l) h; exact ⟨by simp only [Dw.sym, SV.den, GG.den, Dw.den]; rw [← h1], h2⟩
 | U l => obtain ⟨h1, h2⟩ := Pz (l := l) h; exact ⟨by simp only [Dw.sym, SV.den, Dw.den]; rw [Tp, ← h1], h2⟩
 | X T l => exact ⟨rfl, h⟩
abbrev Bv := Nat × TypeId × List Dv
def PO : List (Nat × Dw) → List (Nat × Value)
 | [] => []
 | (_, .X _ _) :: l => PO l
 | (t, x) :: l => (t, x.den) :: PO l
def N9 : List (Nat × Dw) → Nm → List (Nat × SV) × Nm
 | [], n => ([], n)
 | (_, .X _ _) :: l, n => N9 l n
 | (t, x) :: l, n => match x.sym n with
   | (a, n) => match N9 l n with
     | (r, n) => ((t, a) :: r, n)
theorem LA {v : Vl} : ∀ {l : List (Nat × Dw)} {n : Nm}, (N9 l n).2.le v → Gx v (N9 l n).1 = PO l ∧ n.le v
 | [], n, h => ⟨rfl, h⟩
 | (t, .o x) :: l, n, h => by
   obtain ⟨h1, h2⟩ := LA (l := l) (n := ((Dw.o x).sym n).2) h
   obtain ⟨h3, h4⟩ := Dw.N8 h2
   exact ⟨by simp only [N9, Gx, PO, h3]; rw [← h1], h4⟩
 | (t, .G x) :: l, n, h => by
   obtain ⟨h1, h2⟩ := LA (l := l) (n := ((Dw.G x).sym n).2) h
   obtain ⟨h3, h4⟩ := Dw.N8 h2
   exact ⟨by simp only [N9, Gx, PO, h3]; rw [← h1], h4⟩
 | (t, .U x) :: l, n, h => by
   obtain ⟨h1, h2⟩ := LA (l := l) (n := ((Dw.U x).sym n).2) h
   obtain ⟨h3, h4⟩ := Dw.N8 h2
   exact ⟨by simp only [N9, Gx, PO, h3]; rw [← h1], h4⟩
 | (_, .X T x) :: l, n, h => LA (l := l) (n := n) h
def JM : List (Nat × Dw) → List Bv → List Bv
 | [], r => r
 | (t, .X T l) :: m, r => JM m ((t, T, l) :: r)
 | _ :: m, r => JM m r
def Wr : List Bv → Nat → Nm → List Ey × Nm
 | [], _, n => ([], n)
 | (_, T, l) :: m, j, n => match Wq l n with
   | (a, n) => match Wr m (j + 1) n with
     | (r, n) => ((j, T, a) :: r, n)
def pM : List Bv → Nat → List (Nat × SV)
 | [], _ => []
 | (t, _, _) :: m, j => (t, .v (.a (.pt (.bx j 0)))) :: pM m (j + 1)
abbrev Bw := Nat × TypeId × List Value
def S6 : List Bv → List Bw
 | [] => []
 | (t, T, l) :: m => (t, T, Wp l) :: S6 m
def Z4 : List Bw → List Nat → List (Nat × Value)
 | (t, _, _) :: m, b :: δ => (t, .pointer (some ⟨b, 0, none⟩)) :: Z4 m δ
 | _, _ => []
def wS : List Bw → List Nat → Bx
 | (_, T, l) :: m, b :: δ => (b, .cells l.toArray T (0, 0)) :: wS m δ
 | _, _ => []
def PB : List Bw → (List Nat → Prop) → Prop
 | [], K => K []
 | _ :: m, K => ∀ b : Nat, PB m fun δ => K (b :: δ)
theorem jJ : ∀ {l : List Bw} {K : List Nat → Prop}, PB l K → ∀ δ, δ.length = l.length → K δ
 | [], K, h, [], _ => h
 | _ :: m, K, h, b :: δ, hl => jJ (h b) δ (by simpa using hl)
theorem jK : ∀ {l : List Bw} {K : List Nat → Prop}, (∀ δ, δ.length = l.length → K δ) → PB l K
 | [], K, h => h [] rfl
 | _ :: m, K, h => fun b => jK fun δ hl => h (b :: δ) (by simp [hl])
def PTv (g : Gl) (td : List Item) (bs : List Bw) (ts : List (Nat × Value)) (σ : Hp) : Prop :=
 ∀ J : Env, PB bs fun δ => At g td (JW J (Z4 bs δ ++ ts)) (wS bs δ) σ
theorem cY {δ0 : List Nat} {v : Vl} : ∀ {m : List Bv} {j : Nat} {n : Nm} {δ : List Nat}, δ.length = m.length → (∀ i, i < δ.length → nth 0 v.δ (j + i) = nth 0 δ i) → (Wr m j n).2.le v →
   EF v (Wr m j n).1 = wS (S6 m) δ ∧ Gx v (pM m j) = Z4 (S6 m) δ ∧ n.le v
 | [], j, n, [], _, _, h => ⟨rfl, rfl, h⟩
 | (t, T, l) :: m, j, n, b :: δ, hl, hd, h => by
   obtain ⟨h1, h2, h3⟩ := cY (δ0 := δ0) (m := m) (j := j + 1) (n := (Wq l n).2) (δ := δ) (by simpa using hl) (fun i hi => by
     have := hd (i + 1) (by simpa using hi)
     rw [show j + 1 + i = j + (i + 1) by omega]; exact this) h
   obtain ⟨h4, h5⟩ := Pz h3
   have hb : nth 0 v.δ j = b := hd 0 (by simp)
   refine ⟨?_, ?_, h5⟩
   · simp only [Wr, EF, S6, wS, hb, h4]; rw [← h1]
   · simp only [pM, Gx, S6, Z4, SV.den, GG.den, BX.den, PV.den, hb]; rw [h2]
def ej (D : List (Nat × Dw)) (δ : List Nat) (σ : Hp) : S := match N9 D ⟨[], []⟩ with
 | (e, n) => match JM D [] with
   | bs => match Wr bs 0 n with
     | (x, n) => ⟨pM bs 0 ++ e, x, ⟨n.ρ, n.β, δ⟩, σ⟩
theorem Ws {v : Vl} : ∀ {l m : List (Nat × SV)}, Gx v (l ++ m) = Gx v l ++ Gx v m
 | [], _ => rfl
 | (t, x) :: l, m => by simp only [List.cons_append, Gx]; rw [Ws]
theorem wX {D : List (Nat × Dw)} {δ : List Nat} {σ : Hp} {J : Env} (hl : δ.length = (JM D []).length) :
   (ej D δ σ).e J = JW J (Z4 (S6 (JM D [])) δ ++ PO D) ∧ (ej D δ σ).b = wS (S6 (JM D [])) δ := by
 have hle : (Wr (JM D []) 0 (N9 D ⟨[], []⟩).2).2.le ⟨(Wr (JM D []) 0 (N9 D ⟨[], []⟩).2).2.ρ, (Wr (JM D []) 0 (N9 D ⟨[], []⟩).2).2.β, δ⟩ := ⟨fun _ _ => rfl, fun _ _ => rfl⟩
 obtain ⟨h1, h2, h3⟩ := cY (δ0 := []) (δ := δ) hl (fun i _ => by rw [Nat.zero_add]) hle
 obtain ⟨h4, _⟩ := LA h3
 exact ⟨by simp only [ej, S.e, Ws]; rw [h2, h4], h1⟩
def ABR : Nat → Nat → List Bool
 | 0, _ => []
 | f + 1, n => match Nat.ble n 1 with
   | true => []
   | false => Nat.beq (n % 2) 1 :: ABR f (n / 2)
def pth (n : Nat) : List Bool := ABR 400 n
def MN (body : Code) : List Bool → List It
 | [] => []
 | t :: p => match node body p with
   | .seq _ _ => bif t then MN body p else .c (true :: p) :: MN body p
   | .block i _ => .QO i :: MN body p
   | .loop _ => .lp (false :: p) :: MN body p
   | .scope _ => .sc (false :: p) :: MN body p
   | _ => MN body p
def pN (body : Code) (n : Nat) : List It := .c (pth n) :: MN body (pth n)
inductive Sh where
 | I (k : IntKind) | B | T | L | Q | A | M | V
inductive Sw where
 | o (x : Sh)
 | G (l : List Sh)
 | U (l : List Sh)
 | X (T : TypeId) (l : List Sh)
abbrev ArS : Sh → Type → Type
 | .I _, C => Int → C
 | .B, C => Bool → C
 | .T, C => ByteArray → C
 | .L, C => Option Addr → Nat → Nat → C
 | .Q, C => Option Addr → C
 | .A, C => Nat → C
 | .M, C => Option Nat → C
 | .V, C => Value → C
def ABS {C : Type} : (x : Sh) → (Dv → C) → ArS x C
 | .I k, K => fun x => K (.I k x)
 | .B, K => fun x => K (.B x)
 | .T, K => fun x => K (.T x)
 | .L, K => fun p n c => K (.L p n c)
 | .Q, K => fun x => K (.Q x)
 | .A, K => fun x => K (.A x)
 | .M, K => fun x => K (.M x)
 | .V, K => fun x => K (.V x)
abbrev ArL : List Sh → Type → Type
 | [], A => A
 | x :: l, A => ArS x (ArL l A)
def pP {A : Type} : (l : List Sh) → (List Dv → A) → ArL l A
 | [], K => K []
 | x :: l, K => ABS x fun d => pP l fun r => K (d :: r)
abbrev ArW : Sw → Type → Type
 | .o x, C => ArS x C
 | .G l, C => ArL l C
 | .U l, C => ArL l C
 | .X _ l, C => ArL l C
def AIO {A : Type} : (x : Sw) → (Dw → A) → ArW x A
 | .o x, K => ABS x fun d => K (.o d)
 | .G l, K => pP l fun d => K (.G d)
 | .U l, K => pP l fun d => K (.U d)
 | .X T l, K => pP l fun d => K (.X T d)
abbrev Ar : List (Nat × Sw) → Type → Type
 | [], A => A
 | (_, x) :: l, A => ArW x (Ar l A)
def cur {A : Type} : (l : List (Nat × Sw)) → (List (Nat × Dw) → A) → Ar l A
 | [], K => K []
 | (t, x) :: l, K => AIO x fun d => cur l fun r => K ((t, d) :: r)
structure Fw where
 P : Program
 f : Nat
 fn : Func
 Mx : List Nat
 hid : List Nat
 wr : Bool
 reg : List (Nat × Nat × Bool)
 N5 : List (Nat × TypeId)
 cuts : List (Nat × List (Nat × Sw))
def Fw.K (M : Fw) : Code := M.fn.body.getD .skip
def Fw.gl (M : Fw) (R : Rr) : Gl := Gl.fn M.P M.f M.fn.ntmps R
def Fw.cx (M : Fw) (R : Rr) : Fx := { P := M.P, R := R, Mx := M.Mx, hid := M.hid, wr := M.wr, n := M.fn.ntmps, body := M.K, res := M.fn.results.toList, reg := M.reg, N5 := M.N5 }
def Wt (vl : Vl) : List Nat → List Ey → List Bw
 | t :: l, x :: r => (t, x.2.1, Az vl x.2.2) :: Wt vl l r
 | _, _ => []
def tmps : List (Nat × Sw) → List Nat
 | [] => []
 | (_, .X _ _) :: l => tmps l
 | (t, _) :: l => t :: tmps l
def jL : List (Nat × Sw) → List Nat → List Nat
 | [], r => r
 | (t, .X _ _) :: l, r => jL l (t :: r)
 | _ :: l, r => jL l r
def Fw.cut (M : Fw) (R : Rr) (c : Nat × List (Nat × Sw)) : Cut := ⟨pN M.K c.1, fun s => match s.ei (tmps c.2), s.Uy (jL c.2 []) s.bx with
 | some vs, some B => PTv (M.gl R) (Cr M.K (pN M.K c.1)) (Wt s.vl (jL c.2 []) B) ((tmps c.2).zip vs) s.σ
 | _, _ => False⟩
def S7 (M : Fw) (R : Rr) : List (Nat × List (Nat × Sw)) → List Cut
 | [] => []
 | c :: l => M.cut R c :: S7 M R l
def Fw.wY (M : Fw) (at_ : Nat) (R : Rr) (D : List (Nat × Dw)) (σ : Hp) : Prop := PTv (M.gl R) (Cr M.K (pN M.K at_)) (S6 (JM D [])) (PO D) σ
noncomputable def Fw.pt (M : Fw) (i : Nat) (R : Rr) : Ar (nth (0, []) M.cuts i).2 (Hp → Prop) := cur (nth (0, []) M.cuts i).2 (M.wY (nth (0, []) M.cuts i).1 R)
structure Fw.Ok (M : Fw) : Prop where
 E : AG M.P M.Mx
 mixed : M.P.follows .mixedOrders = true
 fnc : M.P.funcs[M.f]? = some M.fn
 body : M.fn.body.isSome = true
theorem Fw.sj {M : Fw} {R : Rr} (h : M.Ok) : (M.cx R).Ok (M.gl R) M.fn := ⟨⟨rfl, rfl, h.E, rfl, rfl, rfl⟩, h.mixed, h.fnc, rfl, rfl, rfl⟩
theorem Wu {vl : Vl} : ∀ {l : List Nat} {B : List Ey}, ∃ δ : List Nat, δ.length = (Wt vl l B).length ∧ Z4 (Wt vl l B) δ = Qe vl l B ∧ (l.length = B.length → wS (Wt vl l B) δ = EF vl B)
 | [], [] => ⟨[], rfl, rfl, fun _ => rfl⟩
 | [], _ :: _ => ⟨[], rfl, rfl, fun h => by simp at h⟩
 | _ :: _, [] => ⟨[], rfl, rfl, fun h => by simp at h⟩
 | t :: l, (i, T, cs) :: B => by
   obtain ⟨δ, h1, h2, h3⟩ := Wu (vl := vl) (l := l) (B := B)
   exact ⟨nth 0 vl.δ i :: δ, by simp [Wt, h1], by simp only [Wt, Z4, Qe]; rw [h2], fun h => by simp only [Wt, wS, EF]; rw [h3 (by simpa using h)]⟩
theorem Wv {s : S} : ∀ {l : List Nat} {bx B : List Ey}, s.Uy l bx = some B → l.length = B.length
 | [], bx, B, h => by simp only [S.Uy, Option.some.injEq] at h; subst h; rfl
 | t :: l, bx, B, h => by
   simp only [S.Uy] at h
   split at h
   · split at h
     · split at h
       · rename_i m hm
         cases h
         simp [Wv hm]
       · cases h
     · cases h
   · cases h
theorem Fw.wZ (M : Fw) (R : Rr) (c : Nat × List (Nat × Sw)) : (M.cut R c).Ok (M.gl R) M.K := fun s J h => by
 simp only [Fw.cut] at h
 split at h
 · rename_i vs B h1 h2
   obtain ⟨δ, e1, e2, e3⟩ := Wu (vl := s.vl) (l := jL c.2 []) (B := B)
   refine At.ABP h1 h2 fun J => ?_
   have := jJ (h J) δ e1
   rw [e2, e3 (Wv h2)] at this
   exact this
 · cases h
theorem Uz {M : Fw} {R : Rr} : ∀ {l : List (Nat × List (Nat × Sw))}, ∀ k ∈ S7 M R l, k.Ok (M.gl R) M.K
 | c :: l, k, hk => by
   rcases List.mem_cons.1 hk with rfl | hk
   · exact M.wZ R c
   · exact Uz k hk
theorem Ww : ∀ {l : List Bv}, (S6 l).length = l.length
 | [] => rfl
 | _ :: m => by simp only [S6, List.length_cons]; rw [Ww]
def PX (F : Prop) : List Bv → (List Nat → Prop) → Prop
 | [], K => F = K []
 | _ :: m, K => ∀ b : Nat, PX F m fun δ => K (b :: δ)
theorem jM {F : Prop} (h : F) : ∀ {l : List Bv} {K : List Nat → Prop}, PX F l K → ∀ δ, δ.length = l.length → K δ
 | [], K, e, [], _ => e ▸ h
 | _ :: m, K, e, b :: δ, hl => jM h (e b) δ (by simpa using hl)
theorem Fw.ofB {M : Fw} {R : Rr} {at_ : Nat} {D : List (Nat × Dw)} {σ : Hp} {F : Prop} (h : F) (ok : M.Ok) (e : PX F (JM D []) fun δ => Cs (M.cx R) (S7 M R M.cuts) 4000 true (pN M.K at_) (ej D δ σ)) : M.wY at_ R D σ := fun J => by
 refine jK fun δ hl => ?_
 rw [Ww] at hl
 have := Am (J := J) (Fw.sj ok) Uz (jM h e δ hl)
 obtain ⟨e1, e2⟩ := wX (D := D) (σ := σ) (J := J) hl
 rw [e1, e2] at this
 exact this
theorem Fw.of {M : Fw} {R : Rr} {at_ : Nat} {D : List (Nat × Dw)} {σ : Hp} {F : Prop} (h : F) (ok : M.Ok) (hb : JM D [] = []) (e : F = Cs (M.cx R) (S7 M R M.cuts) 4000 true (pN M.K at_) (ej D [] σ) := by kernel_rfl) : M.wY at_ R D σ :=
 M.ofB h ok (by rw [hb]; exact e)
theorem Fw.hZ {M : Fw} {R : Rr} {at_ : Nat} {D : List (Nat × Dw)} {σ : Hp} {F : Prop} {x1 : Bv} (h : F) (ok : M.Ok) (hb : JM D [] = [x1]) (e : ∀ b1 : Nat, F = Cs (M.cx R) (S7 M R M.cuts) 4000 true (pN M.K at_) (ej D [b1] σ)) : M.wY at_ R D σ :=
 M.ofB h ok (by rw [hb]; exact e)
theorem Fw.ek {M : Fw} {R : Rr} {at_ : Nat} {D : List (Nat × Dw)} {σ : Hp} {F : Prop} {x1 x2 : Bv} (h : F) (ok : M.Ok) (hb : JM D [] = [x1, x2]) (e : ∀ b1 b2 : Nat, F = Cs (M.cx R) (S7 M R M.cuts) 4000 true (pN M.K at_) (ej D [b1, b2] σ)) : M.wY at_ R D σ :=
 M.ofB h ok (by rw [hb]; exact e)
theorem Fw.of3 {M : Fw} {R : Rr} {at_ : Nat} {D : List (Nat × Dw)} {σ : Hp} {F : Prop} {x1 x2 x3 : Bv} (h : F) (ok : M.Ok) (hb : JM D [] = [x1, x2, x3]) (e : ∀ b1 b2 b3 : Nat, F = Cs (M.cx R) (S7 M R M.cuts) 4000 true (pN M.K at_) (ej D [b1, b2, b3] σ)) : M.wY at_ R D σ :=
 M.ofB h ok (by rw [hb]; exact e)
theorem Fw.of4 {M : Fw} {R : Rr} {at_ : Nat} {D : List (Nat × Dw)} {σ : Hp} {F : Prop} {x1 x2 x3 x4 : Bv} (h : F) (ok : M.Ok) (hb : JM D [] = [x1, x2, x3, x4]) (e : ∀ b1 b2 b3 b4 : Nat, F = Cs (M.cx R) (S7 M R M.cuts) 4000 true (pN M.K at_) (ej D [b1, b2, b3, b4] σ)) : M.wY at_ R D σ :=
 M.ofB h ok (by rw [hb]; exact e)
def wa : Value → Dv
 | .int k x => .I k x
 | .bool t => .B t
 | .string x => .T x
 | .slice p n c => .L p n c
 | .pointer p => .Q p
 | .map x => .M x
 | x => .V x
theorem Wx (x : Value) : (wa x).den = x := by cases x <;> rfl
def cZ : List Value → List Dv
 | [] => []
 | x :: l => wa x :: cZ l
theorem Tq : ∀ l : List Value, Wp (cZ l) = l
 | [] => rfl
 | x :: l => by simp only [cZ, Wp]; rw [Wx, Tq]
def eo : Value → Dw
 | .agg cs => .G (cZ cs.toList)
 | x => .o (wa x)
theorem jN (x : Value) : (eo x).den = x := by
 cases x
 case agg cs => simp only [eo, Dw.den, Tq]
 all_goals (simp only [eo, Dw.den]; exact Wx _)
def jO : Value → Dw
 | .pointer (some ⟨b, 0, none⟩) => .o (.A b)
 | x => .o (.V x)
theorem jP (x : Value) : (jO x).den = x := by
 unfold jO; split <;> rfl
def et (np : Nat) : Nat → List Value → List (Nat × Dw)
 | _, [] => []
 | k, x :: l => match Nat.blt k np with
   | true => (k, eo x) :: et np (k + 1) l
   | false => (k, jO x) :: et np (k + 1) l
theorem jQ (x : Value) : (∃ y, eo x = .o y) ∨ ∃ y, eo x = .G y := by cases x <;> first | exact .inr ⟨_, rfl⟩ | exact .inl ⟨_, rfl⟩
theorem jR (x : Value) : ∃ y, jO x = .o y := by unfold jO; split <;> exact ⟨_, rfl⟩
theorem U0 {np : Nat} : ∀ {l : List Value} {k : Nat}, PO (et np k l) = Qf k l ∧ JM (et np k l) [] = []
 | [], _ => ⟨rfl, rfl⟩
 | x :: l, k => by
   obtain ⟨h1, h2⟩ := U0 (np := np) (l := l) (k := k + 1)
   simp only [et]
   split
   · have hd := jN x
     rcases jQ x with ⟨y, hy⟩ | ⟨y, hy⟩ <;> rw [hy] at hd ⊢ <;> exact ⟨by simp only [PO, Qf]; rw [hd, h1], h2⟩
   · have hd := jP x
     obtain ⟨y, hy⟩ := jR x
     rw [hy] at hd ⊢
     exact ⟨by simp only [PO, Qf]; rw [hd, h1], h2⟩
def Fw.run (M : Fw) (R : Rr) (k : Nat) (D : List (Nat × Dw)) (σ : Hp) : Prop := match Nat.ble k M.fn.ntmps with
 | true => Cs (M.cx R) (S7 M R M.cuts) 4000 true [.c []] (ej D [] σ)
 | false => False
theorem Fw.Dn {M : Fw} {R : Rr} {args : Array Value} {σ : Hp} {F : Prop} (h : F) (ok : M.Ok) (D : List (Nat × Dw)) (hx : JM D [] = []) (hD : PO D = Qf 0 args.toList) (e : F = M.run R args.size D σ) : Spec M.P M.f args σ R := by
 subst e
 unfold Fw.run at h
 split at h
 case h_2 => exact h.elim
 rename_i hn
 obtain ⟨fb, hb⟩ := Option.isSome_iff_exists.1 ok.body
 refine Spec.walk (c := M.cx R) (cuts := S7 M R M.cuts) (s := ej D [] σ) (fuel := 4000) (Fw.sj ok) ?_ rfl hn Uz ?_ ?_ h
 · show M.fn.body = some (M.fn.body.getD .skip)
   rw [hb]; rfl
 · obtain ⟨h4, _⟩ := LA (l := D) (n := ⟨[], []⟩) (v := ⟨(N9 D ⟨[], []⟩).2.ρ, (N9 D ⟨[], []⟩).2.β, []⟩) ⟨fun _ _ => rfl, fun _ _ => rfl⟩
   rw [hD] at h4
   simp only [ej, hx]
   exact h4
 · simp only [ej, hx]; rfl
theorem Fw.start {M : Fw} {R : Rr} {args : Array Value} {σ : Hp} {F : Prop} (h : F) (ok : M.Ok) (e : F = M.run R args.size (et M.fn.params.size 0 args.toList) σ := by kernel_rfl) : Spec M.P M.f args σ R :=
 M.Dn h ok _ U0.2 U0.1 e
abbrev wI : Sw := .o (.I .i64)
abbrev wU : Sw := .o (.I .u64)
abbrev w8 : Sw := .o (.I .u8)
abbrev wB : Sw := .o .B
abbrev wT : Sw := .o .T
abbrev wL : Sw := .o .L
abbrev wQ : Sw := .o .Q
abbrev wA : Sw := .o .A
abbrev wM : Sw := .o .M
abbrev wV : Sw := .o .V
abbrev aD (b o : Nat) : Option Addr := some ⟨b, o, none⟩
abbrev Br (p A B : Prop) : Prop := (p → A) ∧ (¬ p → B)
abbrev Bm (p A B : Prop) : Prop := (¬ p → A) ∧ (p → B)
abbrev Bo (t : Bool) (A B : Prop) : Prop := (t = true → A) ∧ (t = false → B)
abbrev Bn (t : Bool) (A B : Prop) : Prop := (t = false → A) ∧ (t = true → B)
abbrev Pq (p : Option Addr) (K : Nat → Nat → Prop) : Prop := ∃ b o : Nat, p = some ⟨b, o, none⟩ ∧ K b o
abbrev In (x n : Int) : Prop := (0 : Int) ≤ x ∧ x < n
abbrev Df (r : Int) (K : Int → Prop) : Prop := ∀ x : Int, x = r → K x
abbrev Al (σ : Hp) (K : Nat → Prop) : Prop := ∀ b : Nat, σ b = none → K b
abbrev LI (k : IntKind) (σ : Hp) (b o : Nat) (K : Int → Prop) : Prop := ∃ x : Int, Hp.ld σ ⟨b, o, none⟩ = some (.int k x) ∧ K x
abbrev LB (σ : Hp) (b o : Nat) (K : Bool → Prop) : Prop := ∃ x : Bool, Hp.ld σ ⟨b, o, none⟩ = some (.bool x) ∧ K x
abbrev LT (σ : Hp) (b o : Nat) (K : ByteArray → Prop) : Prop := ∃ x : ByteArray, Hp.ld σ ⟨b, o, none⟩ = some (.string x) ∧ K x
abbrev LQ (σ : Hp) (b o : Nat) (K : Option Addr → Prop) : Prop := ∃ x : Option Addr, Hp.ld σ ⟨b, o, none⟩ = some (.pointer x) ∧ K x
abbrev LS (σ : Hp) (b o : Nat) (K : Option Addr → Nat → Nat → Prop) : Prop := ∃ p : Option Addr, ∃ n : Nat, ∃ c : Nat, Hp.ld σ ⟨b, o, none⟩ = some (.slice p n c) ∧ K p n c
abbrev CI (k : IntKind) (K : Int → Hp → Prop) : Value → Hp → Prop := fun v σ => ∃ x : Int, v = .int k x ∧ K x σ
abbrev CB (K : Bool → Hp → Prop) : Value → Hp → Prop := fun v σ => ∃ x : Bool, v = .bool x ∧ K x σ
abbrev CT (K : ByteArray → Hp → Prop) : Value → Hp → Prop := fun v σ => ∃ x : ByteArray, v = .string x ∧ K x σ
abbrev CQ (K : Option Addr → Hp → Prop) : Value → Hp → Prop := fun v σ => ∃ x : Option Addr, v = .pointer x ∧ K x σ
abbrev CS (K : Option Addr → Nat → Nat → Hp → Prop) : Value → Hp → Prop := fun v σ => ∃ p : Option Addr, ∃ n : Nat, ∃ c : Nat, v = .slice p n c ∧ K p n c σ
end Tw
end
section
set_option maxRecDepth 100000
noncomputable section
namespace TwW
open Go Tw Go.Proofs.Tryz
variable [Eg] {R : Rr} {σ : Hp}

namespace CH
variable {p0 p3 : Option Addr} {n0 c0 n3 c3 : Nat} {x4 : Int}
def M : Fw := ⟨prog, 13, f13, [33, 34], [], false, [], [], [(464, [(0, wL), (3, wL), (4, wI)])]⟩
theorem ok : M.Ok := ⟨.cons call33 (.cons call34 (AG.nil)), mixed, func13, by kernel_rfl⟩
def BT := M.pt 0
theorem start (h : BT R p0 n0 c0 none 0 0 0 σ) : Spec prog 13 #[.slice p0 n0 c0] σ R := M.start h ok
theorem A5 (h : Br (x4 < (n0 : Int)) (Pq p0 fun BB Oq => In x4 (n0 : Int) ∧ LS σ BB (Oq + Int.toNat x4 * 2) fun Z5 n16 V7 => In x4 (n0 : Int) ∧ LS σ BB ((Oq + Int.toNat x4 * 2) + 1) fun Ts n22 Sx => Spec prog 33 #[.slice Z5 n16 V7] σ (AA R (CS fun p17 n17 c17 y => Kp [BB] σ y ∧ Spec prog 34 #[.slice Ts n22 Sx] y (AA R (CS fun oH n23 oI AF => Al AF fun JU => AJ prog (Builtin.append_ #[23, 23] 23 #[.slice p3 n3 c3, (.slice (aD JU 0) 1 1)]) (Hp.set AF JU (.cells #[.slice p17 n17 c17, .slice oH n23 oI] 40 (0, 0))) (CS fun p26 n26 c26 AH => AK (x4 + 1) ∧ BT R (aD BB Oq) n0 c0 p26 n26 c26 (x4 + 1) AH)))))) (R (.returned (.slice p3 n3 c3)) σ)) : BT R p0 n0 c0 p3 n3 c3 x4 σ := M.of h ok rfl
end CH
namespace GZ
variable {x0 : Int} {s3 : ByteArray} {t4 : Bool}
def M : Fw := ⟨prog, 26, f26, [], [], false, [], [], [(464, [(0, wI), (3, wT), (4, wB)])]⟩
theorem ok : M.Ok := ⟨AG.nil, mixed, func26, by kernel_rfl⟩
def BT := M.pt 0
theorem start (h : BT R x0 (ByteArray.mk #[]) true σ) : Spec prog 26 #[.int .i64 x0] σ R := M.start h ok
theorem A5 (h : Bo t4 (10 ≠ (0 : Int) ∧ Df (Int.tmod x0 10) fun x11 => AK (48 + x11) ∧ Df (IntKind.u8.wrap (48 + x11)) fun Bl => Al σ fun BB => AJ prog (convert 90 9 (.slice (aD BB 0) 1 1)) (Hp.set σ BB (.cells #[.int .u8 Bl] 5 (0, 0))) (CT fun oJ y => (ByteArray.size oJ + ByteArray.size s3 ≤ 9223372036854775807) ∧ 10 ≠ (0 : Int) ∧ Df (IntKind.i64.wrap (Int.tdiv x0 10)) fun Ck => BT R Ck (oJ ++ s3) false y)) (Br (0 < x0) (10 ≠ (0 : Int) ∧ Df (Int.tmod x0 10) fun x11 => AK (48 + x11) ∧ Df (IntKind.u8.wrap (48 + x11)) fun Bl => Al σ fun BB => AJ prog (convert 90 9 (.slice (aD BB 0) 1 1)) (Hp.set σ BB (.cells #[.int .u8 Bl] 5 (0, 0))) (CT fun oJ y => (ByteArray.size oJ + ByteArray.size s3 ≤ 9223372036854775807) ∧ 10 ≠ (0 : Int) ∧ Df (IntKind.i64.wrap (Int.tdiv x0 10)) fun Ck => BT R Ck (oJ ++ s3) false y)) (R (.returned (.string s3)) σ))) : BT R x0 s3 t4 σ := M.of h ok rfl
end GZ
namespace I2
variable {p0 : Option Addr} {n0 c0 : Nat}
def M : Fw := ⟨prog, 34, f34, [], [], false, [], [], []⟩
theorem ok : M.Ok := ⟨AG.nil, mixed, func34, by kernel_rfl⟩
theorem start (h : Al σ fun b3 => AJ prog (Builtin.append_ #[38, 38] 38 #[(.slice (aD b3 0) 0 0), .slice p0 n0 c0]) (Hp.set σ b3 (.cells #[] 50 (0, 0))) (CS fun p5 n5 c5 y => R (.returned (.slice p5 n5 c5)) y)) : Spec prog 34 #[.slice p0 n0 c0] σ R := M.start h ok
end I2
namespace Bi
def K0 := f35.body.getD .skip
def K1 := cl K0
def K2 := cr K0
def K3 := cl K2
def K4 := cl K3
def K5 := cr K3
def K6 := cl K5
def K7 := cr K5
def K8 := cl K7
def K9 := cl K8
def K10 := cr K8
def K11 := cr K7
def K12 := cr K2
def K13 := cl K12
def K14 := cl K13
def K15 := cr K13
def wc := cl K15
def K17 := cl wc
def K18 := cr wc
def K19 := cr K15
def K20 := cr K12
def K21 := cl K20
def K22 := cl K21
def K23 := cr K21
def K24 := cl K23
def K25 := cl K24
def K26 := cr K24
def K27 := cr K23
def K28 := cr K20
def K29 := cl K28
def K30 := cr K28
def K31 := cl K30
def K32 := cr K30
def K33 := cl K32
def K34 := cl K33
def K35 := cr K33
def K36 := cl K35
def K37 := cl K36
def K38 := cr K36
def K39 := cl K38
def K40 := cl K39
def K41 := cr K39
def K42 := cl K41
def K43 := cl K42
def K44 := cr K42
def K45 := cl K44
def K46 := cl K45
def K47 := cr K45
def K48 := cr K44
def K49 := cr K41
def K50 := cl K49
def K51 := cr K49
def K52 := cl K51
def K53 := cl K52
def K54 := cl K53
def K55 := cr K53
def K56 := cl K55
def K57 := cl K56
def K58 := cr K56
def K59 := cr K55
def K60 := cl K59
def K61 := cl K60
def K62 := cl K61
def K63 := cr K61
def K64 := cl K63
def K65 := cr K63
def K66 := cl K65
def K67 := cl K66
def K68 := cr K66
def K69 := cl K68
def K70 := cl K69
def K71 := cr K69
def K72 := cl K71
def K73 := cr K71
def K74 := cr K68
def K75 := cr K65
def K76 := cr K59
def K77 := cr K32
def K78 := cl K77
def K79 := cr K77
def K80 := cl K79
def K81 := cr K79
def K82 : Code := .ret
abbrev gl (R : Rr) : Gl := Gl.fn prog 35 117 R
def Jd (R : Rr) (l : Nat) (r0 : Loop) (b5 b6 CR A8 C7 BB : Nat) (jS : Int) (σ : Hp) : Prop := ∀ (J : Env), At (Gl.round prog 35 117 l R) [.code K37, .beginRound, .code K38] (JW J [(5, (.pointer (some ⟨b5, 0, none⟩))), (6, (.pointer (some ⟨b6, 0, none⟩))), (10, (.pointer (some ⟨CR, 0, none⟩))), (11, (.pointer (some ⟨A8, 0, none⟩))), (13, (.pointer (some ⟨C7, 0, none⟩))), (14, (.pointer (some ⟨BB, 0, none⟩))), (56, (.int .i64 jS))]) [] σ
def PQ (R : Rr) (l : Nat) (r0 : Loop) (C7 BB : Nat) (x15 : Int) (ca : Option Addr) (S8 V8 : Nat) (My PR : Int) (σ : Hp) : Prop := ∀ (J : Env), At (Gl.round prog 35 117 l R) [.code K54, .code K55, .inLoop K53, .inBlock 2, .inBlock 1] (JW J [(13, (.pointer (some ⟨C7, 0, none⟩))), (14, (.pointer (some ⟨BB, 0, none⟩))), (15, (.int .i64 x15)), (67, (.slice ca S8 V8)), (68, (.int .i64 My)), (69, (.int .i64 PR))]) [] σ
def pQ (R : Rr) (l : Nat) (r0 : Loop) (C7 BB : Nat) (x15 : Int) (C4 : Nat) (HS : Int) (ca : Option Addr) (S8 V8 : Nat) (My PR : Int) (σ : Hp) : Prop := ∀ (J : Env), At (Gl.round prog 35 117 l R) [.code K75, .inBlock 3, .code K76, .inLoop K53, .inBlock 2, .inBlock 1] (JW J [(13, (.pointer (some ⟨C7, 0, none⟩))), (14, (.pointer (some ⟨BB, 0, none⟩))), (15, (.int .i64 x15)), (19, (.pointer (some ⟨C4, 0, none⟩))), (20, (.int .i64 HS)), (67, (.slice ca S8 V8)), (68, (.int .i64 My)), (69, (.int .i64 PR))]) [] σ
theorem start {R : Rr} {p0 p1 : Option Addr} {n0 c0 n1 c1 : Nat} {x2 x3 x4 : Int} {σ : Hp} (h : ∀ b5 : Nat, σ b5 = none → ∀ b6 : Nat, (Hp.set σ b5 (.cells #[(.slice p0 n0 c0)] 22 (0, 0))) b6 = none → ∀ CR : Nat, (Hp.set (Hp.set σ b5 (.cells #[(.slice p0 n0 c0)] 22 (0, 0))) b6 (.cells #[(.slice p1 n1 c1)] 23 (0, 0))) CR = none → ∀ A8 : Nat, (Hp.set (Hp.set (Hp.set σ b5 (.cells #[(.slice p0 n0 c0)] 22 (0, 0))) b6 (.cells #[(.slice p1 n1 c1)] 23 (0, 0))) CR (.cells #[(.slice none 0 0)] 23 (0, 0))) A8 = none → ∃ Ts : Option Addr, ∃ n22 : Nat, ∃ Sx : Nat, Hp.ld (Hp.set (Hp.set (Hp.set (Hp.set σ b5 (.cells #[(.slice p0 n0 c0)] 22 (0, 0))) b6 (.cells #[(.slice p1 n1 c1)] 23 (0, 0))) CR (.cells #[(.slice none 0 0)] 23 (0, 0))) A8 (.cells #[(.int .i64 0)] 24 (0, 0))) ⟨b5, 0, none⟩ = some (.slice Ts n22 Sx) ∧ ∃ oH : Option Addr, ∃ n23 : Nat, ∃ oI : Nat, Hp.ld (Hp.set (Hp.set (Hp.set (Hp.set σ b5 (.cells #[(.slice p0 n0 c0)] 22 (0, 0))) b6 (.cells #[(.slice p1 n1 c1)] 23 (0, 0))) CR (.cells #[(.slice none 0 0)] 23 (0, 0))) A8 (.cells #[(.int .i64 0)] 24 (0, 0))) ⟨b6, 0, none⟩ = some (.slice oH n23 oI) ∧ Spec prog 28 #[(.slice Ts n22 Sx), (.slice oH n23 oI)] (Hp.set (Hp.set (Hp.set (Hp.set σ b5 (.cells #[(.slice p0 n0 c0)] 22 (0, 0))) b6 (.cells #[(.slice p1 n1 c1)] 23 (0, 0))) CR (.cells #[(.slice none 0 0)] 23 (0, 0))) A8 (.cells #[(.int .i64 0)] 24 (0, 0))) (AA R (fun v σ1 => ∃ I3 : Int, v = (.int .i64 I3) ∧ ((I3 : Int) ≠ 0 → AJ prog (Instr.storeAt 23 (.pointer (some ⟨CR, 0, none⟩)) (.slice none 0 0)) σ1 (fun _ Fq => AJ prog (Instr.storeAt 24 (.pointer (some ⟨A8, 0, none⟩)) (.int .i64 I3)) Fq (fun _ B9 => ∃ CZ : Option Addr, ∃ Ca : Nat, ∃ Cb : Nat, ∃ Cc : Int, Hp.ld B9 ⟨CR, 0, none⟩ = some (.slice CZ Ca Cb) ∧ Hp.ld B9 ⟨A8, 0, none⟩ = some (.int .i64 Cc) ∧ R (.returned (.tuple #[(.slice CZ Ca Cb), (.int .i64 Cc)])) B9))) ∧ (¬ ((I3 : Int) ≠ 0) → Spec prog 29 #[(.int .i64 x2)] σ1 (AA R (fun v_2 Fq => ∃ t29 : Bool, v_2 = (.bool t29) ∧ (t29 = false → AJ prog (Instr.storeAt 23 (.pointer (some ⟨CR, 0, none⟩)) (.slice none 0 0)) Fq (fun _ B9 => AJ prog (Instr.storeAt 24 (.pointer (some ⟨A8, 0, none⟩)) (.int .i64 221)) B9 (fun _ Cf => ∃ CZ : Option Addr, ∃ Ca : Nat, ∃ Cb : Nat, ∃ Cc : Int, Hp.ld Cf ⟨CR, 0, none⟩ = some (.slice CZ Ca Cb) ∧ Hp.ld Cf ⟨A8, 0, none⟩ = some (.int .i64 Cc) ∧ R (.returned (.tuple #[(.slice CZ Ca Cb), (.int .i64 Cc)])) Cf))) ∧ (t29 = true → Spec prog 29 #[(.int .i64 x3)] Fq (AA R (fun v_3 B9 => ∃ t33 : Bool, v_3 = (.bool t33) ∧ (t33 = false → AJ prog (Instr.storeAt 23 (.pointer (some ⟨CR, 0, none⟩)) (.slice none 0 0)) B9 (fun _ Cf => AJ prog (Instr.storeAt 24 (.pointer (some ⟨A8, 0, none⟩)) (.int .i64 221)) Cf (fun _ BU => ∃ CZ : Option Addr, ∃ Ca : Nat, ∃ Cb : Nat, ∃ Cc : Int, Hp.ld BU ⟨CR, 0, none⟩ = some (.slice CZ Ca Cb) ∧ Hp.ld BU ⟨A8, 0, none⟩ = some (.int .i64 Cc) ∧ R (.returned (.tuple #[(.slice CZ Ca Cb), (.int .i64 Cc)])) BU))) ∧ (t33 = true → ((x3 : Int) < x2 → AJ prog (Instr.storeAt 23 (.pointer (some ⟨CR, 0, none⟩)) (.slice none 0 0)) B9 (fun _ Cf => AJ prog (Instr.storeAt 24 (.pointer (some ⟨A8, 0, none⟩)) (.int .i64 221)) Cf (fun _ BU => ∃ CZ : Option Addr, ∃ Ca : Nat, ∃ Cb : Nat, ∃ Cc : Int, Hp.ld BU ⟨CR, 0, none⟩ = some (.slice CZ Ca Cb) ∧ Hp.ld BU ⟨A8, 0, none⟩ = some (.int .i64 Cc) ∧ R (.returned (.tuple #[(.slice CZ Ca Cb), (.int .i64 Cc)])) BU))) ∧ (¬ ((x3 : Int) < x2) → ((x4 : Int) < 1 → AJ prog (Instr.storeAt 23 (.pointer (some ⟨CR, 0, none⟩)) (.slice none 0 0)) B9 (fun _ Cf => AJ prog (Instr.storeAt 24 (.pointer (some ⟨A8, 0, none⟩)) (.int .i64 221)) Cf (fun _ BU => ∃ CZ : Option Addr, ∃ Ca : Nat, ∃ Cb : Nat, ∃ Cc : Int, Hp.ld BU ⟨CR, 0, none⟩ = some (.slice CZ Ca Cb) ∧ Hp.ld BU ⟨A8, 0, none⟩ = some (.int .i64 Cc) ∧ R (.returned (.tuple #[(.slice CZ Ca Cb), (.int .i64 Cc)])) BU))) ∧ (¬ ((x4 : Int) < 1) → AK (x3 - x2) ∧ x4 ≠ (0 : Int) ∧ ∀ Qh : Int, Qh = IntKind.i64.wrap (Int.tdiv (x3 - x2) x4) → ((512 : Int) ≤ Qh → AJ prog (Instr.storeAt 23 (.pointer (some ⟨CR, 0, none⟩)) (.slice none 0 0)) B9 (fun _ Cf => AJ prog (Instr.storeAt 24 (.pointer (some ⟨A8, 0, none⟩)) (.int .i64 222)) Cf (fun _ BU => ∃ CZ : Option Addr, ∃ Ca : Nat, ∃ Cb : Nat, ∃ Cc : Int, Hp.ld BU ⟨CR, 0, none⟩ = some (.slice CZ Ca Cb) ∧ Hp.ld BU ⟨A8, 0, none⟩ = some (.int .i64 Cc) ∧ R (.returned (.tuple #[(.slice CZ Ca Cb), (.int .i64 Cc)])) BU))) ∧ (¬ ((512 : Int) ≤ Qh) → AJ prog (Instr.makeMap 99 none) B9 (fun v_4 Cf => ∃ m51 : Nat, v_4 = (.map (some m51)) ∧ ∀ C7 : Nat, Cf C7 = none → AJ prog (Instr.storeAt 99 (.pointer (some ⟨C7, 0, none⟩)) (.map (some m51))) (Hp.set Cf C7 (.cells #[(.map none)] 99 (0, 0))) (fun _ BU => ∀ BB : Nat, BU BB = none → Spec prog 48 #[(.int .i64 x2), (.int .i64 x3), (.int .i64 x4)] (Hp.set BU BB (.cells #[(.slice none 0 0)] 23 (0, 0))) (AA R (fun v_5 Mz => ∃ f55 : Fn, ∃ a55 : Array Value, ∃ c55 : Array Value, (Value.func f55 a55 c55) = v_5 ∧ ∃ (gf : Nat) (lb : Array Value), (Value.func f55 a55 c55) = .func (.func gf) #[] lb ∧ Enters prog gf ∧ ∀ (Z6 Y9 : Nat) (PS : Loop), Z6 ≠ Y9 → Mz Z6 = none → Mz Y9 = none → (∀ (R2 : Rr) (σ2 : Hp) (pR : Int), σ2 Y9 = some (.loop (lp PS .ready none)) → Jd R2 Y9 PS b5 b6 CR A8 C7 BB pR σ2 → Hi prog Y9 #[(.int .i64 pR)] σ2 R2) → Spec prog gf (#[.func (.yield Y9) #[] #[]] ++ lb) (Hp.set (Hp.set Mz Z6 (.deferred (some []))) Y9 (.loop (lp PS .ready none))) (fun en Je => ∃ (v : Value) (s : LoopState) (p : Option Code), en = .returned v ∧ Je Y9 = some (.loop (lp PS s p)) ∧ s ≠ .busy ∧ ((p = none ∧ ∃ pS : Option Addr, ∃ n114 : Nat, ∃ pT : Nat, Hp.ld (Hp.set Je Y9 (.loop (lp PS .exhausted none))) ⟨BB, 0, none⟩ = some (.slice pS n114 pT) ∧ Spec prog 50 #[(.slice pS n114 pT), (.func (.func 51) #[] #[])] (Hp.set Je Y9 (.loop (lp PS .exhausted none))) (AA (NP R) (fun v_6 Tt => v_6 = (.tuple #[]) ∧ ∃ jT : Option Addr, ∃ n116 : Nat, ∃ jU : Nat, Hp.ld Tt ⟨BB, 0, none⟩ = some (.slice jT n116 jU) ∧ AJ prog (Instr.storeAt 23 (.pointer (some ⟨CR, 0, none⟩)) (.slice jT n116 jU)) Tt (fun _ sk => AJ prog (Instr.storeAt 24 (.pointer (some ⟨A8, 0, none⟩)) (.int .i64 0)) sk (fun _ Qi => ∃ CZ : Option Addr, ∃ Ca : Nat, ∃ Cb : Nat, ∃ Cc : Int, Qi Z6 = some (.deferred (some [])) ∧ Hp.ld (Hp.set Qi Z6 (.deferred none)) ⟨CR, 0, none⟩ = some (.slice CZ Ca Cb) ∧ Hp.ld (Hp.set Qi Z6 (.deferred none)) ⟨A8, 0, none⟩ = some (.int .i64 Cc) ∧ R (.returned (.tuple #[(.slice CZ Ca Cb), (.int .i64 Cc)])) (Hp.set Qi Z6 (.deferred none))))))) ∨ (p = (some .ret) ∧ ∃ U1 : Option Addr, ∃ U2 : Nat, ∃ U3 : Nat, ∃ U4 : Int, (Hp.set Je Y9 (.loop (lp PS .exhausted (some .ret)))) Z6 = some (.deferred (some [])) ∧ Hp.ld (Hp.set (Hp.set Je Y9 (.loop (lp PS .exhausted (some .ret)))) Z6 (.deferred none)) ⟨CR, 0, none⟩ = some (.slice U1 U2 U3) ∧ Hp.ld (Hp.set (Hp.set Je Y9 (.loop (lp PS .exhausted (some .ret)))) Z6 (.deferred none)) ⟨A8, 0, none⟩ = some (.int .i64 U4) ∧ R (.returned (.tuple #[(.slice U1 U2 U3), (.int .i64 U4)])) (Hp.set (Hp.set Je Y9 (.loop (lp PS .exhausted (some .ret)))) Z6 (.deferred none)))))))))))))))))))))) : Spec prog 35 #[(.slice p0 n0 c0), (.slice p1 n1 c1), (.int .i64 x2), (.int .i64 x3), (.int .i64 x4)] σ R := by
 refine Spec.bq (fn := f35) (c := K0) func35 (by kernel_rfl) (Nat.le_of_ble_eq_true (by kernel_rfl)) (fun e he => ?_)
 refine At.ofL (l := [(0, (.slice p0 n0 c0)), (1, (.slice p1 n1 c1)), (2, (.int .i64 x2)), (3, (.int .i64 x3)), (4, (.int .i64 x4))]) ⟨he 0, he 1, he 2, he 3, he 4, trivial⟩ (fun J => ?_)
 show At (gl R) _ _ _ _
 refine At.s K1 K2 ?_
 refine At.rg 0 [0, 1, 2, 3] ?_
 refine Seq.o ?_
 refine AL.vQ (T := 22) (d := (some 5)) (ty := 0) (x := (.tmp 0)) (gd := none) (cs := #[(.slice p0 n0 c0)]) (by kernel_rfl) rfl rfl rfl (fun b5 hn => ?_)
 replace h := h b5 hn
 refine Seq.o ?_
 refine AL.vQ (T := 23) (d := (some 6)) (ty := 0) (x := (.tmp 1)) (gd := none) (cs := #[(.slice p1 n1 c1)]) (by kernel_rfl) rfl rfl rfl (fun b6 hn => ?_)
 replace h := h b6 hn
 refine Seq.o ?_
 refine AL.Nw (T := 23) (d := (some 10)) (ty := 0)  (gd := none) (cs := #[(.slice none 0 0)]) (by kernel_rfl) rfl rfl zeroValue23 rfl (fun CR hn => ?_)
 replace h := h CR hn
 refine Seq.o ?_
 refine AL.Nw (T := 24) (d := (some 11)) (ty := 0)  (gd := none) (cs := #[(.int .i64 0)]) (by kernel_rfl) rfl rfl zeroValue24 rfl (fun A8 hn => ?_)
 replace h := h A8 hn
 refine Seq.done ?_
 refine At.s K3 K12 (At.s K4 K5 ?_)
 refine At.rg 1 [0, 1, 2, 3] ?_
 obtain ⟨Ts, n22, Sx, hl, h⟩ := h
 refine Seq.z 22 (.load 22 (.tmp 5)) 22 (.slice Ts n22 Sx) (Y.ld isAgg22 rfl hl) ?_
 obtain ⟨oH, n23, oI, hl, h⟩ := h
 refine Seq.z 23 (.load 23 (.tmp 6)) 23 (.slice oH n23 oI) (Y.ld isAgg23 rfl hl) ?_
 refine Seq.o ?_
 refine AL.cl (some 24) call28 (h.cont fun v σ1 h2 => ?_); replace h := h2; clear h2
 obtain ⟨I3, rfl, h⟩ := h
 refine Seq.u 12 (.int .i64 I3) (Seq.done ?_)
 refine At.s K6 K7 ?_
 refine At.rg 2 [0, 1] ?_
 refine Seq.us [(25, .int .i64 I3), (26, .bool (decide ((I3 : Int) ≠ 0)))] (Seq.done ?_)
 cases hb : (decide ((I3 : Int) ≠ 0)) with
 | true =>
   replace h := h.1 (of_decide_eq_true hb)
   refine At.cT 26 K8 K11 ?_
   refine At.s K9 K10 ?_
   refine At.rg 3 [0, 1, 2] ?_
   refine Seq.u 27 (.int .i64 I3) ?_
   refine Seq.o ?_
   refine AL.store (T := 23) (ty := 0) (x := (.tmp 10)) (y := (.const (.slice none 0 0))) (p := (.pointer (some ⟨CR, 0, none⟩))) (v := (.slice none 0 0)) (gd := none) (by kernel_rfl) rfl rfl rfl (h.mono (fun _ Fq h2 => ?_)); replace h := h2; clear h2
   refine Seq.o ?_
   refine AL.store (T := 24) (ty := 0) (x := (.tmp 11)) (y := (.tmp 27)) (p := (.pointer (some ⟨A8, 0, none⟩))) (v := (.int .i64 I3)) (gd := none) (by kernel_rfl) rfl rfl rfl (h.mono (fun _ B9 h2 => ?_)); replace h := h2; clear h2
   refine Seq.done ?_
   obtain ⟨CZ, Ca, Cb, Cc, OA, OB, h⟩ := h
   exact At.rt [.cell 10 23, .cell 11 24] [(.slice CZ Ca Cb), (.int .i64 Cc)] func35 ⟨_, _, rfl, ⟨_, rfl, Bk isAgg23 OA⟩, ⟨_, _, rfl, ⟨_, rfl, Bk isAgg24 OB⟩, rfl⟩⟩ h
 | false =>
   replace h := h.2 (of_decide_eq_false hb)
   refine At.cF 26 K8 K11 ?_
   refine At.skip ?_
   refine At.s K13 K20 (At.s K14 K15 ?_)
   refine At.rg 4 [0, 1, 2, 3, 4, 5, 6, 7, 8, 9, 10, 11, 12, 13, 14, 15, 16] ?_
   refine Seq.u 28 (.int .i64 x2) ?_
   refine Seq.o ?_
   refine AL.cl (some 29) call29 (h.cont fun v_2 Fq h2 => ?_); replace h := h2; clear h2
   obtain ⟨t29, rfl, h⟩ := h
   refine Seq.us [(30, .bool (!t29)), (31, .bool (!t29))] ?_
   cases hb : (!t29) with
   | true =>
     replace h := h.1 (Tw.nt hb)
     refine Seq.n 32 ?_
     refine Seq.n 33 ?_
     refine Seq.n 34 ?_
     refine Seq.us [(35, .bool true), (36, .bool true)] ?_
     refine Seq.n 37 ?_
     refine Seq.n 38 ?_
     refine Seq.n 39 ?_
     refine Seq.us [(40, .bool true), (41, .bool true)] ?_
     refine Seq.n 42 ?_
     refine Seq.n 43 ?_
     refine Seq.u 44 (.bool true) (Seq.done ?_)
     refine At.cT 44 wc K19 ?_
     refine At.s K17 K18 ?_
     refine At.rg 5 [0, 1] ?_
     refine Seq.o ?_
     refine AL.store (T := 23) (ty := 0) (x := (.tmp 10)) (y := (.const (.slice none 0 0))) (p := (.pointer (some ⟨CR, 0, none⟩))) (v := (.slice none 0 0)) (gd := none) (by kernel_rfl) rfl rfl rfl (h.mono (fun _ B9 h2 => ?_)); replace h := h2; clear h2
     refine Seq.o ?_
     refine AL.store (T := 24) (ty := 0) (x := (.tmp 11)) (y := (.const (.int .i64 221))) (p := (.pointer (some ⟨A8, 0, none⟩))) (v := (.int .i64 221)) (gd := none) (by kernel_rfl) rfl rfl rfl (h.mono (fun _ Cf h2 => ?_)); replace h := h2; clear h2
     refine Seq.done ?_
     obtain ⟨CZ, Ca, Cb, Cc, OA, OB, h⟩ := h
     exact At.rt [.cell 10 23, .cell 11 24] [(.slice CZ Ca Cb), (.int .i64 Cc)] func35 ⟨_, _, rfl, ⟨_, rfl, Bk isAgg23 OA⟩, ⟨_, _, rfl, ⟨_, rfl, Bk isAgg24 OB⟩, rfl⟩⟩ h
   | false =>
     replace h := h.2 (Tw.nf hb)
     refine Seq.u 32 (.int .i64 x3) ?_
     refine Seq.o ?_
     refine AL.cl (some 33) call29 (h.cont fun v_3 B9 h2 => ?_); replace h := h2; clear h2
     obtain ⟨t33, rfl, h⟩ := h
     refine Seq.us [(34, .bool (!t33)), (35, .bool (!t33)), (36, .bool (!t33))] ?_
     cases hb : (!t33) with
     | true =>
       replace h := h.1 (Tw.nt hb)
       refine Seq.n 37 ?_
       refine Seq.n 38 ?_
       refine Seq.n 39 ?_
       refine Seq.us [(40, .bool true), (41, .bool true)] ?_
       refine Seq.n 42 ?_
       refine Seq.n 43 ?_
       refine Seq.u 44 (.bool true) (Seq.done ?_)
       refine At.L [(2, (.int .i64 x2)), (3, (.int .i64 x3)), (4, (.int .i64 x4)), (5, (.pointer (some ⟨b5, 0, none⟩))), (6, (.pointer (some ⟨b6, 0, none⟩))), (10, (.pointer (some ⟨CR, 0, none⟩))), (11, (.pointer (some ⟨A8, 0, none⟩))), (44, (.bool true))] fun J => ?_
       refine At.cT 44 wc K19 ?_
       refine At.s K17 K18 ?_
       refine At.rg 5 [0, 1] ?_
       refine Seq.o ?_
       refine AL.store (T := 23) (ty := 0) (x := (.tmp 10)) (y := (.const (.slice none 0 0))) (p := (.pointer (some ⟨CR, 0, none⟩))) (v := (.slice none 0 0)) (gd := none) (by kernel_rfl) rfl rfl rfl (h.mono (fun _ Cf h2 => ?_)); replace h := h2; clear h2
       refine Seq.o ?_
       refine AL.store (T := 24) (ty := 0) (x := (.tmp 11)) (y := (.const (.int .i64 221))) (p := (.pointer (some ⟨A8, 0, none⟩))) (v := (.int .i64 221)) (gd := none) (by kernel_rfl) rfl rfl rfl (h.mono (fun _ BU h2 => ?_)); replace h := h2; clear h2
       refine Seq.done ?_
       obtain ⟨CZ, Ca, Cb, Cc, OA, OB, h⟩ := h
       exact At.rt [.cell 10 23, .cell 11 24] [(.slice CZ Ca Cb), (.int .i64 Cc)] func35 ⟨_, _, rfl, ⟨_, rfl, Bk isAgg23 OA⟩, ⟨_, _, rfl, ⟨_, rfl, Bk isAgg24 OB⟩, rfl⟩⟩ h
     | false =>
       replace h := h.2 (Tw.nf hb)
       refine Seq.us [(37, .int .i64 x2), (38, .int .i64 x3), (39, .bool (decide ((x3 : Int) < x2))), (40, .bool (decide ((x3 : Int) < x2))), (41, .bool (decide ((x3 : Int) < x2)))] ?_
       cases hb : (decide ((x3 : Int) < x2)) with
       | true =>
         replace h := h.1 (of_decide_eq_true hb)
         refine Seq.n 42 ?_
         refine Seq.n 43 ?_
         refine Seq.u 44 (.bool true) (Seq.done ?_)
         refine At.cT 44 wc K19 ?_
         refine At.s K17 K18 ?_
         refine At.rg 5 [0, 1] ?_
         refine Seq.o ?_
         refine AL.store (T := 23) (ty := 0) (x := (.tmp 10)) (y := (.const (.slice none 0 0))) (p := (.pointer (some ⟨CR, 0, none⟩))) (v := (.slice none 0 0)) (gd := none) (by kernel_rfl) rfl rfl rfl (h.mono (fun _ Cf h2 => ?_)); replace h := h2; clear h2
         refine Seq.o ?_
         refine AL.store (T := 24) (ty := 0) (x := (.tmp 11)) (y := (.const (.int .i64 221))) (p := (.pointer (some ⟨A8, 0, none⟩))) (v := (.int .i64 221)) (gd := none) (by kernel_rfl) rfl rfl rfl (h.mono (fun _ BU h2 => ?_)); replace h := h2; clear h2
         refine Seq.done ?_
         obtain ⟨CZ, Ca, Cb, Cc, OA, OB, h⟩ := h
         exact At.rt [.cell 10 23, .cell 11 24] [(.slice CZ Ca Cb), (.int .i64 Cc)] func35 ⟨_, _, rfl, ⟨_, rfl, Bk isAgg23 OA⟩, ⟨_, _, rfl, ⟨_, rfl, Bk isAgg24 OB⟩, rfl⟩⟩ h
       | false =>
         replace h := h.2 (of_decide_eq_false hb)
         refine Seq.us [(42, .int .i64 x4), (43, .bool (decide ((x4 : Int) < 1))), (44, .bool (decide ((x4 : Int) < 1)))] (Seq.done ?_)
         cases hb : (decide ((x4 : Int) < 1)) with
         | true =>
           replace h := h.1 (of_decide_eq_true hb)
           refine At.cT 44 wc K19 ?_
           refine At.s K17 K18 ?_
           refine At.rg 5 [0, 1] ?_
           refine Seq.o ?_
           refine AL.store (T := 23) (ty := 0) (x := (.tmp 10)) (y := (.const (.slice none 0 0))) (p := (.pointer (some ⟨CR, 0, none⟩))) (v := (.slice none 0 0)) (gd := none) (by kernel_rfl) rfl rfl rfl (h.mono (fun _ Cf h2 => ?_)); replace h := h2; clear h2
           refine Seq.o ?_
           refine AL.store (T := 24) (ty := 0) (x := (.tmp 11)) (y := (.const (.int .i64 221))) (p := (.pointer (some ⟨A8, 0, none⟩))) (v := (.int .i64 221)) (gd := none) (by kernel_rfl) rfl rfl rfl (h.mono (fun _ BU h2 => ?_)); replace h := h2; clear h2
           refine Seq.done ?_
           obtain ⟨CZ, Ca, Cb, Cc, OA, OB, h⟩ := h
           exact At.rt [.cell 10 23, .cell 11 24] [(.slice CZ Ca Cb), (.int .i64 Cc)] func35 ⟨_, _, rfl, ⟨_, rfl, Bk isAgg23 OA⟩, ⟨_, _, rfl, ⟨_, rfl, Bk isAgg24 OB⟩, rfl⟩⟩ h
         | false =>
           replace h := h.2 (of_decide_eq_false hb)
           refine At.cF 44 wc K19 ?_
           refine At.skip ?_
           refine At.s K21 K28 (At.s K22 K23 ?_)
           refine At.rg 6 [0, 1, 2, 3, 4, 5] ?_
           refine Seq.us [(45, .int .i64 x3), (46, .int .i64 x2)] ?_
           obtain ⟨hi, h⟩ := h
           refine Seq.z 47 (.binOp .sub 2 (.tmp 45) (.tmp 46) 2) 2 (.int .i64 (x3 - x2)) (Y.AHo hi rfl rfl) ?_
           refine Seq.u 48 (.int .i64 x4) ?_
           obtain ⟨hc, h⟩ := h
           obtain ⟨Qh, sn⟩ : ∃ y, y = IntKind.i64.wrap (Int.tdiv (x3 - x2) x4) := ⟨_, rfl⟩
           replace h := h Qh sn
           refine Seq.y (d := (some 49)) (op := (.binOp .quo 2 (.tmp 47) (.tmp 48) 2)) (ty := 2) (v := (.int .i64 Qh)) (by kernel_rfl) rfl (sn ▸ Y.quo hc rfl rfl) ?_
           refine Seq.u 50 (.bool (decide ((512 : Int) ≤ Qh))) (Seq.done ?_)
           cases hb : (decide ((512 : Int) ≤ Qh)) with
           | true =>
             replace h := h.1 (of_decide_eq_true hb)
             refine At.cT 50 K24 K27 ?_
             refine At.s K25 K26 ?_
             refine At.rg 7 [0, 1] ?_
             refine Seq.o ?_
             refine AL.store (T := 23) (ty := 0) (x := (.tmp 10)) (y := (.const (.slice none 0 0))) (p := (.pointer (some ⟨CR, 0, none⟩))) (v := (.slice none 0 0)) (gd := none) (by kernel_rfl) rfl rfl rfl (h.mono (fun _ Cf h2 => ?_)); replace h := h2; clear h2
             refine Seq.o ?_
             refine AL.store (T := 24) (ty := 0) (x := (.tmp 11)) (y := (.const (.int .i64 222))) (p := (.pointer (some ⟨A8, 0, none⟩))) (v := (.int .i64 222)) (gd := none) (by kernel_rfl) rfl rfl rfl (h.mono (fun _ BU h2 => ?_)); replace h := h2; clear h2
             refine Seq.done ?_
             obtain ⟨CZ, Ca, Cb, Cc, OA, OB, h⟩ := h
             exact At.rt [.cell 10 23, .cell 11 24] [(.slice CZ Ca Cb), (.int .i64 Cc)] func35 ⟨_, _, rfl, ⟨_, rfl, Bk isAgg23 OA⟩, ⟨_, _, rfl, ⟨_, rfl, Bk isAgg24 OB⟩, rfl⟩⟩ h
           | false =>
             replace h := h.2 (of_decide_eq_false hb)
             refine At.cF 50 K24 K27 ?_
             refine At.skip ?_
             refine At.s K29 K30 ?_
             refine At.rg 8 [0, 1, 2] ?_
             refine Seq.o ?_
             refine AL.S1 (d := (some 51)) (op := (.makeMap 99 none)) (ty := 99) (gd := none) (by kernel_rfl) rfl rfl (Instr.makeMap 99 none) (fun o ho ht => by simp only [execOp, ho]; rfl) (h.mono (fun v_4 Cf h2 => ?_)); replace h := h2; clear h2
             obtain ⟨m51, rfl, h⟩ := h
             refine Seq.o ?_
             refine AL.Nw (T := 99) (d := (some 13)) (ty := 0)  (gd := none) (cs := #[(.map none)]) (by kernel_rfl) rfl rfl zeroValue99 rfl (fun C7 hn => ?_)
             replace h := h C7 hn
             refine Seq.o ?_
             refine AL.store (T := 99) (ty := 0) (x := (.tmp 13)) (y := (.tmp 51)) (p := (.pointer (some ⟨C7, 0, none⟩))) (v := (.map (some m51))) (gd := none) (by kernel_rfl) rfl rfl rfl (h.mono (fun _ BU h2 => ?_)); replace h := h2; clear h2
             refine Seq.done ?_
             refine At.s K31 K32 ?_
             refine At.rg 9 [0] ?_
             refine Seq.o ?_
             refine AL.Nw (T := 23) (d := (some 14)) (ty := 0)  (gd := none) (cs := #[(.slice none 0 0)]) (by kernel_rfl) rfl rfl zeroValue23 rfl (fun BB hn => ?_)
             replace h := h BB hn
             refine Seq.done ?_
             refine At.s K33 K77 (At.s K34 K35 ?_)
             refine At.rg 10 [0, 1, 2, 3] ?_
             refine Seq.us [(52, .int .i64 x2), (53, .int .i64 x3), (54, .int .i64 x4)] ?_
             refine Seq.o ?_
             refine AL.cl (some 55) call48 (h.cont fun v_5 Mz h2 => ?_); replace h := h2; clear h2
             obtain ⟨f55, a55, c55, rfl, h⟩ := h
             refine Seq.done ?_
             refine At.b 0 K36 ?_
             obtain ⟨gf, lb, hgv, Nv, h⟩ := h
             refine At.range (gop := (.tmp 55)) (ps := #[56]) (assign := K37) (body := K38) (gf := gf) (lb := lb) (by kernel_rfl) rfl rfl hgv Nv (fun Z6 Y9 PS hDl hD hl hrf Z7 hra hrb hrs hre => ?_)
             refine (h Z6 Y9 PS hDl hD hl (fun R2 σ2 pR we hp => Hi.bq (n := 117) we Z7 hrs (by decide) hre (fn := f35) (by rw [hrf]; exact func35) ?_)).mono (fun en Je h => ?_)
             · rw [hrf, hra, hrb]
               exact At.v [(5, (.pointer (some ⟨b5, 0, none⟩))), (6, (.pointer (some ⟨b6, 0, none⟩))), (10, (.pointer (some ⟨CR, 0, none⟩))), (11, (.pointer (some ⟨A8, 0, none⟩))), (13, (.pointer (some ⟨C7, 0, none⟩))), (14, (.pointer (some ⟨BB, 0, none⟩))), (56, (.int .i64 pR))] (hp _)
             obtain ⟨v, s, p, he, vd, hs, h⟩ := h
             refine ⟨v, s, p, he, vd, hs, ?_⟩
             rcases h with h | h
             · obtain ⟨rfl, h⟩ := h
               show At (Gl.behind prog 35 117 Z6 R) [.inBlock 0, .code K77] _ _ _
               refine At.inBlock ?_
               refine At.s K78 K79 ?_
               refine At.rg 25 [0, 1] ?_
               obtain ⟨pS, n114, pT, hl, h⟩ := h
               refine Seq.z 114 (.load 23 (.tmp 14)) 23 (.slice pS n114 pT) (Y.ld isAgg23 rfl hl) ?_
               refine Seq.o ?_
               refine AL.cl (some 115) call50 (h.cont fun v_6 Tt h2 => ?_); replace h := h2; clear h2
               obtain ⟨rfl, h⟩ := h
               refine Seq.done ?_
               refine At.L [(10, (.pointer (some ⟨CR, 0, none⟩))), (11, (.pointer (some ⟨A8, 0, none⟩))), (14, (.pointer (some ⟨BB, 0, none⟩)))] fun J => ?_
               refine At.s K80 K81 ?_
               refine At.rg 26 [0, 1, 2] ?_
               obtain ⟨jT, n116, jU, hl, h⟩ := h
               refine Seq.z 116 (.load 23 (.tmp 14)) 23 (.slice jT n116 jU) (Y.ld isAgg23 rfl hl) ?_
               refine Seq.o ?_
               refine AL.store (T := 23) (ty := 0) (x := (.tmp 10)) (y := (.tmp 116)) (p := (.pointer (some ⟨CR, 0, none⟩))) (v := (.slice jT n116 jU)) (gd := none) (by kernel_rfl) rfl rfl rfl (h.mono (fun _ sk h2 => ?_)); replace h := h2; clear h2
               refine Seq.o ?_
               refine AL.store (T := 24) (ty := 0) (x := (.tmp 11)) (y := (.const (.int .i64 0))) (p := (.pointer (some ⟨A8, 0, none⟩))) (v := (.int .i64 0)) (gd := none) (by kernel_rfl) rfl rfl rfl (h.mono (fun _ Qi h2 => ?_)); replace h := h2; clear h2
               refine Seq.done ?_
               obtain ⟨CZ, Ca, Cb, Cc, hY, OA, OB, h⟩ := h
               exact At.Um (rs := [.cell 10 23, .cell 11 24]) (vs := [(.slice CZ Ca Cb), (.int .i64 Cc)]) (by kernel_rfl) func35 (by kernel_rfl) ⟨_, _, rfl, ⟨_, rfl, Bk isAgg23 OA⟩, ⟨_, _, rfl, ⟨_, rfl, Bk isAgg24 OB⟩, rfl⟩⟩ h rfl (iZ hY)
             · obtain ⟨rfl, h⟩ := h
               show At (Gl.behind prog 35 117 Z6 R) [.code K82, .inBlock 0, .code K77] _ _ _
               obtain ⟨U1, U2, U3, U4, hY, wg, wh, h⟩ := h
               exact At.Um (rs := [.cell 10 23, .cell 11 24]) (vs := [(.slice U1 U2 U3), (.int .i64 U4)]) (by kernel_rfl) func35 (by kernel_rfl) ⟨_, _, rfl, ⟨_, rfl, Bk isAgg23 wg⟩, ⟨_, _, rfl, ⟨_, rfl, Bk isAgg24 wh⟩, rfl⟩⟩ h rfl (iZ hY)
theorem LC {R : Rr} {l b5 b6 CR A8 C7 BB : Nat} {r0 : Loop} {jS : Int} {σ : Hp} (h : σ l = some (.loop (lp r0 .ready none)) ∧ ∃ so : Option Addr, ∃ oK : Nat, ∃ c58 : Nat, Hp.ld (Hp.set σ l (.loop (lp r0 .busy none))) ⟨b5, 0, none⟩ = some (.slice so oK c58) ∧ ∃ sq : Option Addr, ∃ n59 : Nat, ∃ su : Nat, Hp.ld (Hp.set σ l (.loop (lp r0 .busy none))) ⟨b6, 0, none⟩ = some (.slice sq n59 su) ∧ Spec prog 30 #[(.slice so oK c58), (.slice sq n59 su), (.int .i64 jS)] (Hp.set σ l (.loop (lp r0 .busy none))) (AA (NP R) (fun v σ1 => ∃ Wy : Option Addr, ∃ Qj : Nat, ∃ Wz : Nat, ∃ OC : Int, v = (.tuple #[(.slice Wy Qj Wz), (.int .i64 OC)]) ∧ ((OC : Int) ≠ 0 → AJ prog (Instr.storeAt 23 (.pointer (some ⟨CR, 0, none⟩)) (.slice none 0 0)) σ1 (fun _ Fq => AJ prog (Instr.storeAt 24 (.pointer (some ⟨A8, 0, none⟩)) (.int .i64 OC)) Fq (fun _ B9 => B9 l = some (.loop (lp r0 .busy none)) ∧ R (.returned (.bool false)) (Hp.set B9 l (.loop (lp r0 .done (some .ret))))))) ∧ (¬ ((OC : Int) ≠ 0) → PQ R l r0 C7 BB jS Wy Qj Wz ((Qj : Int)) 0 σ1)))) : Jd R l r0 b5 b6 CR A8 C7 BB jS σ := by
 intro J
 show At (Gl.round prog 35 117 l R) _ _ _ _
 refine At.rg 11 [0] ?_
 refine Seq.u 15 (.int .i64 jS) (Seq.done ?_)
 obtain ⟨bo, h⟩ := h
 refine At.beginRound rfl bo ?_
 refine At.b 1 K39 ?_
 refine At.s K40 K41 ?_
 refine At.rg 12 [0, 1, 2, 3, 4, 5, 6, 7, 8] ?_
 obtain ⟨so, oK, c58, hl, h⟩ := h
 refine Seq.z 58 (.load 22 (.tmp 5)) 22 (.slice so oK c58) (Y.ld isAgg22 rfl hl) ?_
 obtain ⟨sq, n59, su, hl, h⟩ := h
 refine Seq.z 59 (.load 23 (.tmp 6)) 23 (.slice sq n59 su) (Y.ld isAgg23 rfl hl) ?_
 refine Seq.u 60 (.int .i64 jS) ?_
 refine Seq.o ?_
 refine AL.cl (some 61) call30 (h.cont fun v σ1 h2 => ?_); replace h := h2; clear h2
 obtain ⟨Wy, Qj, Wz, OC, rfl, h⟩ := h
 refine Seq.us [(57, .tuple #[(.slice Wy Qj Wz), (.int .i64 OC)]), (62, .slice Wy Qj Wz), (63, .int .i64 OC), (16, .slice Wy Qj Wz), (17, .int .i64 OC)] (Seq.done ?_)
 refine At.s K42 K49 (At.s K43 K44 ?_)
 refine At.rg 13 [0, 1] ?_
 refine Seq.us [(64, .int .i64 OC), (65, .bool (decide ((OC : Int) ≠ 0)))] (Seq.done ?_)
 cases hb : (decide ((OC : Int) ≠ 0)) with
 | true =>
  replace h := h.1 (of_decide_eq_true hb)
  refine At.cT 65 K45 K48 ?_
  refine At.s K46 K47 ?_
  refine At.rg 14 [0, 1, 2] ?_
  refine Seq.u 66 (.int .i64 OC) ?_
  refine Seq.o ?_
  refine AL.store (T := 23) (ty := 0) (x := (.tmp 10)) (y := (.const (.slice none 0 0))) (p := (.pointer (some ⟨CR, 0, none⟩))) (v := (.slice none 0 0)) (gd := none) (by kernel_rfl) rfl rfl rfl (h.mono (fun _ Fq h2 => ?_)); replace h := h2; clear h2
  refine Seq.o ?_
  refine AL.store (T := 24) (ty := 0) (x := (.tmp 11)) (y := (.tmp 66)) (p := (.pointer (some ⟨A8, 0, none⟩))) (v := (.int .i64 OC)) (gd := none) (by kernel_rfl) rfl rfl rfl (h.mono (fun _ B9 h2 => ?_)); replace h := h2; clear h2
  refine Seq.done ?_
  exact At.iO (by kernel_rfl) rfl h.1 h.2
 | false =>
  replace h := h.2 (of_decide_eq_false hb)
  refine At.cF 65 K45 K48 ?_
  refine At.skip ?_
  refine At.s K50 K51 ?_
  refine At.rg 15 [0, 1, 2] ?_
  refine Seq.u 67 (.slice Wy Qj Wz) ?_
  refine Seq.z 68 (.call { callee := .builtin .len, args := #[(.tmp 67)], argTypes := #[67] }) 3 (.int .i64 (Qj : Int)) (Y.vK underlying67 rfl rfl) ?_
  refine Seq.u 69 (.int .i64 0) (Seq.done ?_)
  refine At.b 2 K52 ?_
  refine At.loop (x := K53) (by kernel_rfl) ?_
  refine At.s K54 K55 ?_
  exact At.v [(13, (.pointer (some ⟨C7, 0, none⟩))), (14, (.pointer (some ⟨BB, 0, none⟩))), (15, (.int .i64 jS)), (67, (.slice Wy Qj Wz)), (68, (.int .i64 (Qj : Int))), (69, (.int .i64 0))] (h _)
theorem P0 {R : Rr} {l C7 BB S8 V8 : Nat} {r0 : Loop} {x15 My PR : Int} {ca : Option Addr} {σ : Hp} (h : ((PR : Int) < My → ∃ (U5 jV : Nat), ca = some ⟨U5, jV, none⟩ ∧ ((0 : Int) ≤ PR ∧ PR < (S8 : Int)) ∧ ∃ jW : Option Addr, ∃ jX : Nat, ∃ jY : Nat, ∃ Jf : Int, Au σ U5 (jV + Int.toNat PR * 2) [(.slice jW jX jY), (.int .u64 Jf)] ∧ ∀ C4 : Nat, σ C4 = none → AJ prog (Instr.storeAt 71 (.pointer (some ⟨C4, 0, none⟩)) (.agg #[(.slice jW jX jY), (.int .u64 Jf)])) (Hp.set σ C4 (.cells #[(.slice none 0 0), (.int .u64 0)] 71 (0, 0))) (fun _ σ1 => ∃ Z8 : Option Nat, Hp.ld σ1 ⟨C7, 0, none⟩ = some (.map Z8) ∧ ∃ wj : Option Addr, ∃ wk : Nat, ∃ wm : Nat, Hp.ld σ1 ⟨C4, 0, none⟩ = some (.slice wj wk wm) ∧ Spec prog 49 #[(.slice wj wk wm)] σ1 (AA (NP R) (fun v Fq => ∃ s77 : ByteArray, v = (.string s77) ∧ Kp [C7] σ1 Fq ∧ AJ prog (Instr.lookup 99 (.map Z8) (.string s77) true) Fq (fun v_2 B9 => ∃ Z9 : Int, ∃ S9 : Bool, v_2 = (.tuple #[(.int .i64 Z9), (.bool S9)]) ∧ (S9 = false → ∃ pU : Option Addr, ∃ W0 : Nat, ∃ pV : Nat, Hp.ld B9 ⟨BB, 0, none⟩ = some (.slice pU W0 pV) ∧ ∃ m85 : Option Nat, Hp.ld B9 ⟨C7, 0, none⟩ = some (.map m85) ∧ ∃ p87 : Option Addr, ∃ n87 : Nat, ∃ c87 : Nat, Hp.ld B9 ⟨C4, 0, none⟩ = some (.slice p87 n87 c87) ∧ Spec prog 49 #[(.slice p87 n87 c87)] B9 (AA (NP R) (fun v_3 Cf => ∃ s88 : ByteArray, v_3 = (.string s88) ∧ Kp [C7] B9 Cf ∧ AJ prog (Instr.mapUpdate 99 (.map m85) (.string s88) (.int .i64 (W0 : Int))) Cf (fun _ BU => ∃ p90 : Option Addr, ∃ n90 : Nat, ∃ c90 : Nat, Hp.ld BU ⟨BB, 0, none⟩ = some (.slice p90 n90 c90) ∧ ∃ p93 : Option Addr, ∃ n93 : Nat, ∃ c93 : Nat, Hp.ld BU ⟨C4, 0, none⟩ = some (.slice p93 n93 c93) ∧ ∀ iA : Nat, BU iA = none → AJ prog (Builtin.append_ #[37, 37] 37 #[(.slice (some ⟨iA, 0, none⟩) 0 0), (.slice p93 n93 c93)]) (Hp.set BU iA (.cells #[] 56 (0, 0))) (fun v_4 Mz => ∃ pW : Option Addr, ∃ pX : Nat, ∃ pY : Nat, v_4 = (.slice pW pX pY) ∧ Kp [BB] (Hp.set BU iA (.cells #[] 56 (0, 0))) Mz ∧ ∀ pZ : Nat, Mz pZ = none → AJ prog (Builtin.append_ #[23, 23] 23 #[(.slice p90 n90 c90), (.slice (some ⟨pZ, 0, none⟩) 1 1)]) (Hp.set Mz pZ (.cells #[(.slice pW pX pY), (.slice none 0 0)] 40 (0, 0))) (fun v_5 Je => ∃ p97 : Option Addr, ∃ n97 : Nat, ∃ c97 : Nat, v_5 = (.slice p97 n97 c97) ∧ AJ prog (Instr.storeAt 23 (.pointer (some ⟨BB, 0, none⟩)) (.slice p97 n97 c97)) Je (fun _ Tt => pQ R l r0 C7 BB x15 C4 ((W0 : Int)) ((some ⟨U5, jV, none⟩)) S8 V8 My PR Tt))))))) ∧ (S9 = true → pQ R l r0 C7 BB x15 C4 Z9 ((some ⟨U5, jV, none⟩)) S8 V8 My PR B9)))))) ∧ (¬ ((PR : Int) < My) → σ l = some (.loop (lp r0 .busy none)) ∧ R (.returned (.bool true)) (Hp.set σ l (.loop (lp r0 .ready none))))) : PQ R l r0 C7 BB x15 ca S8 V8 My PR σ := by
 intro J
 show At (Gl.round prog 35 117 l R) _ _ _ _
 refine At.rg 16 [0] ?_
 refine Seq.u 70 (.bool (decide ((PR : Int) < My))) (Seq.done ?_)
 refine At.s K56 K59 ?_
 cases hb : (decide ((PR : Int) < My)) with
 | true =>
  replace h := h.1 (of_decide_eq_true hb)
  refine At.cT 70 K57 K58 ?_
  refine At.skip ?_
  refine At.s K60 K76 ?_
  refine At.b 3 K61 ?_
  refine At.s K62 K63 ?_
  refine At.rg 17 [0, 1, 2, 3] ?_
  obtain ⟨U5, jV, hq, h⟩ := h
  subst hq
  obtain ⟨hi, h⟩ := h
  refine Seq.z 71 (.indexAddr 67 (.tmp 67) (.tmp 69)) 0 (.pointer (some ⟨U5, (jV + Int.toNat PR * 2), none⟩)) (Y.idx underlying67 sizeOf71 rfl rfl hi rfl) ?_
  obtain ⟨jW, jX, jY, Jf, hl, h⟩ := h
  refine Seq.z 72 (.load 71 (.tmp 71)) 71 (.agg #[(.slice jW jX jY), (.int .u64 Jf)]) (Y.lda isAgg71 sizeOf71 rfl rfl hl) ?_
  refine Seq.o ?_
  refine AL.Nw (T := 71) (d := (some 19)) (ty := 0)  (gd := none) (cs := #[(.slice none 0 0), (.int .u64 0)]) (by kernel_rfl) rfl rfl zeroValue71 rfl (fun C4 hn => ?_)
  replace h := h C4 hn
  refine Seq.o ?_
  refine AL.store (T := 71) (ty := 0) (x := (.tmp 19)) (y := (.tmp 72)) (p := (.pointer (some ⟨C4, 0, none⟩))) (v := (.agg #[(.slice jW jX jY), (.int .u64 Jf)])) (gd := none) (by kernel_rfl) rfl rfl rfl (h.mono (fun _ σ1 h2 => ?_)); replace h := h2; clear h2
  refine Seq.done ?_
  refine At.s K64 K65 ?_
  refine At.draw (id := 18) (ops := cO K64) (n := 10) (q := (some [])) (plan := [(0, true), (1, true), (2, true), (3, false), (4, false), (5, true), (6, true), (7, true), (8, true), (9, true)]) (tl := []) mixed (by kernel_rfl) (by kernel_rfl) ?_
  obtain ⟨Z8, hl, h⟩ := h
  refine Head.yl C7 [[4]] rfl (by kernel_rfl) (d := (some 74)) (op := (.load 99 (.tmp 13))) (ty := 99) (v := (.map Z8)) (by kernel_rfl) rfl (Y.ld isAgg99 rfl (HN hl)) ?_
  refine Head.z 75 (.fieldAddr 71 (.tmp 19) 0) 0 (.pointer (some ⟨C4, 0, none⟩)) (Y.fieldAddr (fd := (Ku prog 71 0)) underlying71 (by kernel_rfl) sizeOf37 rfl rfl) ?_
  obtain ⟨wj, wk, wm, hl, h⟩ := h
  refine Head.yl C4 [[3], [4, 3]] rfl (by kernel_rfl) (d := (some 76)) (op := (.load 37 (.tmp 75))) (ty := 37) (v := (.slice wj wk wm)) (by kernel_rfl) rfl (Y.ld isAgg37 rfl (HN hl)) ?_
  refine Head.o (q' := (some [(C7, [4])])) rfl ?_
  refine AL.cl (some 77) call49 (h.cont fun v Fq h2 => ?_); replace h := h2; clear h2
  obtain ⟨s77, rfl, hk, h⟩ := h
  refine ⟨⟨fun _ h => h, WL (L := [(C7, [4])]) hk⟩, ?_⟩
  refine Head.o (q' := (some [])) rfl ?_
  refine AL.S1 (d := (some 78)) (op := (.lookup 99 (.tmp 74) (.tmp 77) true)) (ty := 102) (gd := none) (by kernel_rfl) rfl rfl (Instr.lookup 99 (.map Z8) (.string s77) true) (fun o ho ht => by simp only [execOp, ho]; rfl) (h.mono (fun v_2 B9 h2 => ?_)); replace h := h2; clear h2
  obtain ⟨Z9, S9, rfl, h⟩ := h
  refine ⟨⟨fun _ h => h, WL (L := []) Kp.nil⟩, ?_⟩
  refine Head.u 73 (.tuple #[(.int .i64 Z9), (.bool S9)]) ?_
  refine Head.u 79 (.int .i64 Z9) ?_
  refine Head.u 80 (.bool S9) ?_
  refine Head.u 20 (.int .i64 Z9) ?_
  refine Head.u 21 (.bool S9) ?_
  refine Head.done ?_
  refine Seq.done ?_
  refine At.s K66 K75 (At.s K67 K68 ?_)
  refine At.rg 19 [0, 1] ?_
  refine Seq.us [(81, .bool S9), (82, .bool (!S9))] (Seq.done ?_)
  cases hb : (!S9) with
  | true =>
   replace h := h.1 (Tw.nt hb)
   refine At.cT 82 K69 K74 ?_
   refine At.s K70 K71 ?_
   refine At.rg 20 [0, 1, 2] ?_
   obtain ⟨pU, W0, pV, hl, h⟩ := h
   refine Seq.z 83 (.load 23 (.tmp 14)) 23 (.slice pU W0 pV) (Y.ld isAgg23 rfl hl) ?_
   refine Seq.z 84 (.call { callee := .builtin .len, args := #[(.tmp 83)], argTypes := #[23] }) 3 (.int .i64 (W0 : Int)) (Y.vK underlying23 rfl rfl) ?_
   refine Seq.u 20 (.int .i64 (W0 : Int)) (Seq.done ?_)
   refine At.s K72 K73 ?_
   refine At.draw (id := 21) (ops := cO K72) (n := 5) (q := (some [])) (plan := [(0, true), (1, true), (2, true), (4, true), (3, false)]) (tl := [5]) mixed (by kernel_rfl) (by kernel_rfl) ?_
   obtain ⟨m85, hl, h⟩ := h
   refine Head.yl C7 [] rfl (by kernel_rfl) (d := (some 85)) (op := (.load 99 (.tmp 13))) (ty := 99) (v := (.map m85)) (by kernel_rfl) rfl (Y.ld isAgg99 rfl (HN hl)) ?_
   refine Head.z 86 (.fieldAddr 71 (.tmp 19) 0) 0 (.pointer (some ⟨C4, 0, none⟩)) (Y.fieldAddr (fd := (Ku prog 71 0)) underlying71 (by kernel_rfl) sizeOf37 rfl rfl) ?_
   obtain ⟨p87, n87, c87, hl, h⟩ := h
   refine Head.yl C4 [[3]] rfl (by kernel_rfl) (d := (some 87)) (op := (.load 37 (.tmp 86))) (ty := 37) (v := (.slice p87 n87 c87)) (by kernel_rfl) rfl (Y.ld isAgg37 rfl (HN hl)) ?_
   refine Head.u 89 (.int .i64 (W0 : Int)) ?_
   refine Head.o (q' := (some [(C7, [])])) rfl ?_
   refine AL.cl (some 88) call49 (h.cont fun v_3 Cf h2 => ?_); replace h := h2; clear h2
   obtain ⟨s88, rfl, hk, h⟩ := h
   refine ⟨⟨fun _ h => h, WL (L := [(C7, [])]) hk⟩, ?_⟩
   refine Head.done ?_
   refine Seq.o ?_
   refine AL.ov (d := none) (op := (.mapUpdate 99 (.tmp 85) (.tmp 88) (.tmp 89))) (ty := 0) (gd := none) (by kernel_rfl) rfl rfl (Instr.mapUpdate 99 (.map m85) (.string s88) (.int .i64 (W0 : Int))) (fun o ho ht => by simp only [execOp, ho]; rfl) (h.mono (fun _ BU h2 => ?_)); replace h := h2; clear h2
   refine Seq.done ?_
   refine At.draw (id := 22) (ops := cO K73) (n := 7) (q := (some [])) (plan := [(0, true), (2, true), (3, true), (1, false), (4, false), (5, true), (6, false)]) (tl := [7, 8]) mixed (by kernel_rfl) (by kernel_rfl) ?_
   obtain ⟨p90, n90, c90, hl, h⟩ := h
   refine Head.yl BB [] rfl (by kernel_rfl) (d := (some 90)) (op := (.load 23 (.tmp 14))) (ty := 23) (v := (.slice p90 n90 c90)) (by kernel_rfl) rfl (Y.ld isAgg23 rfl (HN hl)) ?_
   refine Head.z 92 (.fieldAddr 71 (.tmp 19) 0) 0 (.pointer (some ⟨C4, 0, none⟩)) (Y.fieldAddr (fd := (Ku prog 71 0)) underlying71 (by kernel_rfl) sizeOf37 rfl rfl) ?_
   obtain ⟨p93, n93, c93, hl, h⟩ := h
   refine Head.yl C4 [[4], [6, 5, 4]] rfl (by kernel_rfl) (d := (some 93)) (op := (.load 37 (.tmp 92))) (ty := 37) (v := (.slice p93 n93 c93)) (by kernel_rfl) rfl (Y.ld isAgg37 rfl (HN hl)) ?_
   refine Head.o (q' := (some [(C4, [4, 6]), (BB, [])])) rfl ?_
   refine AL.IK (T := 37) (E := 56) (m := 0) (ps := #[]) (d := (some 91)) (ty := 37) (gd := none) (vs := []) (cs := #[]) underlying37 (by kernel_rfl) rfl rfl rfl (by kernel_rfl) (fun iA hn => ?_)
   refine ⟨⟨fun _ h => h, WL (Kp.EE (Ext.set hn))⟩, ?_⟩
   replace h := h iA hn
   refine Head.o (q' := (some [(BB, [])])) rfl ?_
   refine AL.S1 (d := (some 94)) (op := (.call { callee := .builtin .append, args := #[(.tmp 91), (.tmp 93)], argTypes := #[37, 37] })) (ty := 37) (gd := none) (by kernel_rfl) rfl rfl (Builtin.append_ #[37, 37] 37 #[(.slice (some ⟨iA, 0, none⟩) 0 0), (.slice p93 n93 c93)]) (fun o ho ht => FC rfl rfl o ho ht) (h.mono (fun v_4 Mz h2 => ?_)); replace h := h2; clear h2
   obtain ⟨pW, pX, pY, rfl, hk, h⟩ := h
   refine ⟨⟨fun _ h => h, WL (L := [(BB, [])]) hk⟩, ?_⟩
   refine Head.z 95 (.build 40 #[(0, (.tmp 94))]) 40 (.agg #[(.slice pW pX pY), (.slice none 0 0)]) (Y.build (vs := [(0, (.slice pW pX pY))]) rfl (by kernel_rfl)) ?_
   refine Head.o (q' := (some [(BB, [])])) rfl ?_
   refine AL.IK (T := 23) (E := 40) (m := 1) (ps := #[(0, (.tmp 95))]) (d := (some 96)) (ty := 23) (gd := none) (vs := [(0, (.agg #[(.slice pW pX pY), (.slice none 0 0)]))]) (cs := #[(.slice pW pX pY), (.slice none 0 0)]) underlying23 (by kernel_rfl) rfl rfl rfl (by kernel_rfl) (fun pZ hn => ?_)
   refine ⟨⟨fun _ h => h, WL (Kp.EE (Ext.set hn))⟩, ?_⟩
   replace h := h pZ hn
   refine Head.done ?_
   refine Seq.o ?_
   refine AL.S1 (d := (some 97)) (op := (.call { callee := .builtin .append, args := #[(.tmp 90), (.tmp 96)], argTypes := #[23, 23] })) (ty := 23) (gd := none) (by kernel_rfl) rfl rfl (Builtin.append_ #[23, 23] 23 #[(.slice p90 n90 c90), (.slice (some ⟨pZ, 0, none⟩) 1 1)]) (fun o ho ht => FC rfl rfl o ho ht) (h.mono (fun v_5 Je h2 => ?_)); replace h := h2; clear h2
   obtain ⟨p97, n97, c97, rfl, h⟩ := h
   refine Seq.o ?_
   refine AL.store (T := 23) (ty := 0) (x := (.tmp 14)) (y := (.tmp 97)) (p := (.pointer (some ⟨BB, 0, none⟩))) (v := (.slice p97 n97 c97)) (gd := none) (by kernel_rfl) rfl rfl rfl (h.mono (fun _ Tt h2 => ?_)); replace h := h2; clear h2
   refine Seq.done ?_
   refine At.L [(13, (.pointer (some ⟨C7, 0, none⟩))), (14, (.pointer (some ⟨BB, 0, none⟩))), (15, (.int .i64 x15)), (19, (.pointer (some ⟨C4, 0, none⟩))), (20, (.int .i64 (W0 : Int))), (67, (.slice (some ⟨U5, jV, none⟩) S8 V8)), (68, (.int .i64 My)), (69, (.int .i64 PR))] fun J => ?_
   exact At.v [(13, (.pointer (some ⟨C7, 0, none⟩))), (14, (.pointer (some ⟨BB, 0, none⟩))), (15, (.int .i64 x15)), (19, (.pointer (some ⟨C4, 0, none⟩))), (20, (.int .i64 (W0 : Int))), (67, (.slice (some ⟨U5, jV, none⟩) S8 V8)), (68, (.int .i64 My)), (69, (.int .i64 PR))] (h _)
  | false =>
   replace h := h.2 (Tw.nf hb)
   refine At.cF 82 K69 K74 ?_
   refine At.skip ?_
   exact At.v [(13, (.pointer (some ⟨C7, 0, none⟩))), (14, (.pointer (some ⟨BB, 0, none⟩))), (15, (.int .i64 x15)), (19, (.pointer (some ⟨C4, 0, none⟩))), (20, (.int .i64 Z9)), (67, (.slice (some ⟨U5, jV, none⟩) S8 V8)), (68, (.int .i64 My)), (69, (.int .i64 PR))] (h _)
 | false =>
  replace h := h.2 (of_decide_eq_false hb)
  refine At.cF 70 K57 K58 ?_
  refine At.x 2 [.inBlock 1] ?_
  refine At.inBlock ?_
  exact At.iN rfl h.1 h.2
theorem pa {R : Rr} {l C7 BB C4 S8 V8 : Nat} {r0 : Loop} {x15 HS My PR : Int} {ca : Option Addr} {σ : Hp} (h : ∃ p98 : Option Addr, ∃ n98 : Nat, ∃ c98 : Nat, Hp.ld σ ⟨BB, 0, none⟩ = some (.slice p98 n98 c98) ∧ ∃ pc : Option Addr, ∃ n100 : Nat, ∃ wo : Nat, Hp.ld σ ⟨BB, 0, none⟩ = some (.slice pc n100 wo) ∧ ∃ (aA jZ : Nat), pc = some ⟨aA, jZ, none⟩ ∧ ((0 : Int) ≤ HS ∧ HS < (n100 : Int)) ∧ ∃ ja : Option Addr, ∃ n104 : Nat, ∃ jb : Nat, Hp.ld σ ⟨aA, ((jZ + Int.toNat HS * 2) + 1), none⟩ = some (.slice ja n104 jb) ∧ ∃ U6 : Int, Hp.ld σ ⟨C4, 1, none⟩ = some (.int .u64 U6) ∧ ∀ OD : Nat, σ OD = none → AJ prog (Builtin.append_ #[38, 38] 38 #[(.slice ja n104 jb), (.slice (some ⟨OD, 0, none⟩) 1 1)]) (Hp.set σ OD (.cells #[(.int .i64 x15), (.int .u64 U6)] 50 (0, 0))) (fun v σ1 => ∃ pd : Option Addr, ∃ n110 : Nat, ∃ pe : Nat, v = (.slice pd n110 pe) ∧ Kp [BB] (Hp.set σ OD (.cells #[(.int .i64 x15), (.int .u64 U6)] 50 (0, 0))) σ1 ∧ ∃ (eu ew : Nat), p98 = some ⟨eu, ew, none⟩ ∧ ((0 : Int) ≤ HS ∧ HS < (n98 : Int)) ∧ AJ prog (Instr.storeAt 38 (.pointer (some ⟨eu, ((ew + Int.toNat HS * 2) + 1), none⟩)) (.slice pd n110 pe)) σ1 (fun _ Fq => AK (PR + 1) ∧ PQ R l r0 C7 BB x15 ca S8 V8 My ((PR + 1)) Fq))) : pQ R l r0 C7 BB x15 C4 HS ca S8 V8 My PR σ := by
 intro J
 show At (Gl.round prog 35 117 l R) _ _ _ _
 refine At.draw (id := 23) (ops := cO K75) (n := 15) (q := (some [])) (plan := [(0, true), (1, true), (2, true), (3, true), (4, true), (5, true), (6, true), (7, true), (8, true), (9, true), (10, true), (11, false), (12, false), (13, true), (14, true)]) (tl := [15]) mixed (by kernel_rfl) (by kernel_rfl) ?_
 obtain ⟨p98, n98, c98, hl, h⟩ := h
 refine Head.yl BB [] rfl (by kernel_rfl) (d := (some 98)) (op := (.load 23 (.tmp 14))) (ty := 23) (v := (.slice p98 n98 c98)) (by kernel_rfl) rfl (Y.ld isAgg23 rfl (HN hl)) ?_
 refine Head.u 99 (.int .i64 HS) ?_
 obtain ⟨pc, n100, wo, hl, h⟩ := h
 refine Head.yl BB [[12, 6, 5, 4]] rfl (by kernel_rfl) (d := (some 100)) (op := (.load 23 (.tmp 14))) (ty := 23) (v := (.slice pc n100 wo)) (by kernel_rfl) rfl (Y.ld isAgg23 rfl (HN hl)) ?_
 refine Head.u 101 (.int .i64 HS) ?_
 obtain ⟨aA, jZ, hq, h⟩ := h
 subst hq
 obtain ⟨hi, h⟩ := h
 refine Head.z 102 (.indexAddr 23 (.tmp 100) (.tmp 101)) 0 (.pointer (some ⟨aA, (jZ + Int.toNat HS * 2), none⟩)) (Y.idx underlying23 sizeOf40 rfl rfl hi rfl) ?_
 refine Head.z 103 (.fieldAddr 40 (.tmp 102) 1) 0 (.pointer (some ⟨aA, ((jZ + Int.toNat HS * 2) + 1), none⟩)) (Y.fieldAddr (fd := (Ku prog 40 1)) underlying40 (by kernel_rfl) sizeOf38 rfl rfl) ?_
 obtain ⟨ja, n104, jb, hl, h⟩ := h
 refine Head.yl aA [[12]] rfl (by kernel_rfl) (d := (some 104)) (op := (.load 38 (.tmp 103))) (ty := 38) (v := (.slice ja n104 jb)) (by kernel_rfl) rfl (Y.ld isAgg38 rfl (HN hl)) ?_
 refine Head.u 105 (.int .i64 x15) ?_
 refine Head.z 106 (.fieldAddr 71 (.tmp 19) 1) 0 (.pointer (some ⟨C4, 1, none⟩)) (Y.fieldAddr (fd := (Ku prog 71 1)) underlying71 (by kernel_rfl) sizeOf48 rfl rfl) ?_
 obtain ⟨U6, hl, h⟩ := h
 refine Head.yl C4 [[11, 10], [12, 11, 10]] rfl (by kernel_rfl) (d := (some 107)) (op := (.load 48 (.tmp 106))) (ty := 48) (v := (.int .u64 U6)) (by kernel_rfl) rfl (Y.ld isAgg48 rfl (HN hl)) ?_
 refine Head.z 108 (.build 50 #[(0, (.tmp 105)), (1, (.tmp 107))]) 50 (.agg #[(.int .i64 x15), (.int .u64 U6)]) (Y.build (vs := [(0, (.int .i64 x15)), (1, (.int .u64 U6))]) rfl (by kernel_rfl)) ?_
 refine Head.o (q' := (some [(aA, [12]), (BB, [12]), (BB, [])])) rfl ?_
 refine AL.IK (T := 38) (E := 50) (m := 1) (ps := #[(0, (.tmp 108))]) (d := (some 109)) (ty := 38) (gd := none) (vs := [(0, (.agg #[(.int .i64 x15), (.int .u64 U6)]))]) (cs := #[(.int .i64 x15), (.int .u64 U6)]) underlying38 (by kernel_rfl) rfl rfl rfl (by kernel_rfl) (fun OD hn => ?_)
 refine ⟨⟨fun _ h => h, WL (Kp.EE (Ext.set hn))⟩, ?_⟩
 replace h := h OD hn
 refine Head.o (q' := (some [(BB, [])])) rfl ?_
 refine AL.S1 (d := (some 110)) (op := (.call { callee := .builtin .append, args := #[(.tmp 104), (.tmp 109)], argTypes := #[38, 38] })) (ty := 38) (gd := none) (by kernel_rfl) rfl rfl (Builtin.append_ #[38, 38] 38 #[(.slice ja n104 jb), (.slice (some ⟨OD, 0, none⟩) 1 1)]) (fun o ho ht => FC rfl rfl o ho ht) (h.mono (fun v σ1 h2 => ?_)); replace h := h2; clear h2
 obtain ⟨pd, n110, pe, rfl, hk, h⟩ := h
 refine ⟨⟨fun _ h => h, WL (L := [(BB, [])]) hk⟩, ?_⟩
 obtain ⟨eu, ew, hq, h⟩ := h
 subst hq
 obtain ⟨hi, h⟩ := h
 refine Head.z 111 (.indexAddr 23 (.tmp 98) (.tmp 99)) 0 (.pointer (some ⟨eu, (ew + Int.toNat HS * 2), none⟩)) (Y.idx underlying23 sizeOf40 rfl rfl hi rfl) ?_
 refine Head.z 112 (.fieldAddr 40 (.tmp 111) 1) 0 (.pointer (some ⟨eu, ((ew + Int.toNat HS * 2) + 1), none⟩)) (Y.fieldAddr (fd := (Ku prog 40 1)) underlying40 (by kernel_rfl) sizeOf38 rfl rfl) ?_
 refine Head.done ?_
 refine Seq.o ?_
 refine AL.store (T := 38) (ty := 0) (x := (.tmp 112)) (y := (.tmp 110)) (p := (.pointer (some ⟨eu, ((ew + Int.toNat HS * 2) + 1), none⟩))) (v := (.slice pd n110 pe)) (gd := none) (by kernel_rfl) rfl rfl rfl (h.mono (fun _ Fq h2 => ?_)); replace h := h2; clear h2
 refine Seq.done ?_
 refine At.inBlock ?_
 refine At.rg 24 [0, 1] ?_
 obtain ⟨hi, h⟩ := h
 refine Seq.z 113 (.binOp .add 3 (.tmp 69) (.const (.int .i64 1)) 3) 3 (.int .i64 (PR + 1)) (Y.AHn hi rfl rfl) ?_
 refine Seq.u 69 (.int .i64 (PR + 1)) (Seq.done ?_)
 refine At.inLoop ?_
 refine At.s K54 K55 ?_
 exact At.v [(13, (.pointer (some ⟨C7, 0, none⟩))), (14, (.pointer (some ⟨BB, 0, none⟩))), (15, (.int .i64 x15)), (67, (.slice ca S8 V8)), (68, (.int .i64 My)), (69, (.int .i64 (PR + 1)))] (h _)
end Bi
namespace FJ
variable {p0 q5 LD : Option Addr} {n0 c0 n11 LF : Nat} {x12 Bl : Int}
def M : Fw := ⟨prog, 37, f37, [53], [7], false, [], [], [(232, [(0, wL), (5, wQ), (11, wL), (12, wI), (13, wI)])]⟩
theorem ok : M.Ok := ⟨.cons call53 (AG.nil), mixed, func37, by kernel_rfl⟩
def A0 := M.pt 0
theorem start (h : Al σ fun CR => A0 R p0 n0 c0 (aD CR 0) p0 n0 c0 (n0 : Int) 0 (Hp.set σ CR (.cells #[.slice none 0 0] 110 (0, 0)))) : Spec prog 37 #[.slice p0 n0 c0] σ R := M.start h ok
theorem Aa (h : Br (Bl < x12) (Pq LD fun Ln U7 => In Bl (n11 : Int) ∧ ∃ Qk W1 jc ey e9 fA ABl ABm ABn ABo ABp ABq ABr ABs, Au σ Ln (U7 + Int.toNat Bl * 10) [.int .i64 Qk, .int .i64 W1, .string jc, .slice ey e9 fA, .int .i64 ABl, .int .i64 ABm, .int .i64 ABn, .slice ABo ABp ABq, .bool ABr, .int .i64 ABs] ∧ ∀ b7 : Nat, Spec prog 53 #[.pointer q5, .agg #[.int .i64 Qk, .int .i64 W1, .string jc, .slice ey e9 fA, .int .i64 ABl, .int .i64 ABm, .int .i64 ABn, .slice ABo ABp ABq, .bool ABr, .int .i64 ABs]] σ (AA R (CI .i64 fun HS y => Br (HS ≠ 0) (R (.returned (.tuple #[.int .i64 0, .int .i64 Bl, .int .i64 HS])) y) (AK (Bl + 1) ∧ A0 R p0 n0 c0 q5 (aD Ln U7) n11 LF x12 (Bl + 1) y)))) (Pq q5 fun W2 pf => LS σ W2 pf fun p29 n29 c29 => Br ((n29 : Int) ≠ 1) (R (.returned (.tuple #[.int .i64 0, (.int .i64 (n0 : Int)), .int .i64 190])) σ) (Br (4096 < (n0 : Int)) (R (.returned (.tuple #[.int .i64 0, (.int .i64 (n0 : Int)), .int .i64 190])) σ) (LS σ W2 pf fun p42 n42 c42 => Pq p42 fun cb o43 => In 0 (n42 : Int) ∧ LI .i64 σ cb o43 fun x45 => R (.returned (.tuple #[.int .i64 x45, .int .i64 0, .int .i64 0])) σ)))) : A0 R p0 n0 c0 q5 LD n11 LF x12 Bl σ := M.of h ok rfl
end FJ
namespace D0
variable {p0 p8 : Option Addr} {n0 c0 n8 c8 : Nat} {x9 x10 : Int}
def M : Fw := ⟨prog, 68, f68, [98, 99], [4], false, [(10, 14, true)], [], [(232, [(0, wL), (8, wL), (9, wI), (10, wI)])]⟩
theorem ok : M.Ok := ⟨.cons call98 (.cons call99 (AG.nil)), mixed, func68, by kernel_rfl⟩
def LY := M.pt 0
theorem start (h : Br (16 < (n0 : Int)) (R (.returned (.int .i64 30)) σ) (LY R p0 n0 c0 p0 n0 c0 (n0 : Int) 0 σ)) : Spec prog 68 #[.slice p0 n0 c0] σ R := M.start h ok
theorem IS (h : Br (x10 < x9) (Pq p8 fun C7 iB => In x10 (n8 : Int) ∧ ∃ pg aB, Au σ C7 (iB + Int.toNat x10 * 2) [.string pg, .string aB] ∧ ∀ b4 : Nat, Spec prog 98 #[.string pg] σ (AA R (CB fun t18 y => Bn t18 (R (.returned (.int .i64 31)) y) (Bo ((ByteArray.toList aB == ByteArray.toList (ByteArray.mk #[]))) (R (.returned (.int .i64 32)) y) (Br ((256 : Int) < ((ByteArray.size aB : Nat) : Int)) (R (.returned (.int .i64 32)) y) (Spec prog 99 #[.string aB] y (AA R (CB fun t33 AF => Bn t33 (R (.returned (.int .i64 32)) AF) (Br (0 < x10) (AK (x10 - 1) ∧ Pq p0 fun U8 ZA => In (x10 - 1) (n0 : Int) ∧ LT AF U8 (ZA + Int.toNat (x10 - 1) * 2) fun s47 => ∃ t48, YF prog ((do eqGuard .leq 9 (.tmp 41) (.tmp 47) (.string pg) (.string s47); binOp .leq 9 (.string pg) (.string s47))) AF (.bool t48) ∧ Bo t48 (R (.returned (.int .i64 33)) AF) (AK (x10 + 1) ∧ LY R (aD U8 ZA) n0 c0 (aD C7 iB) n8 c8 x9 (x10 + 1) AF)) (AK (x10 + 1) ∧ LY R p0 n0 c0 (aD C7 iB) n8 c8 x9 (x10 + 1) AF)))))))))) (R (.returned (.int .i64 0)) σ)) : LY R p0 n0 c0 p8 n8 c8 x9 x10 σ := M.of h ok rfl
end D0
namespace Aw
variable {p0 p1 LD : Option Addr} {n0 c0 n1 c1 n11 LF : Nat} {v2 : Value} {x12 Bl : Int}
def M : Fw := ⟨prog, 75, f75, [], [8, 9], false, [], [], [(104, [(0, wL), (1, wL), (2, wV), (11, wL), (12, wI), (13, wI)])]⟩
theorem ok : M.Ok := ⟨AG.nil, mixed, func75, by kernel_rfl⟩
def HX := M.pt 0
theorem start (h : HX R p0 n0 c0 p1 n1 c1 v2 p0 n0 c0 (n0 : Int) 0 σ) : Spec prog 75 #[.slice p0 n0 c0, .slice p1 n1 c1, v2] σ R := M.Dn h ok [(0, .o (.L p0 n0 c0)), (1, .o (.L p1 n1 c1)), (2, .o (.V v2))] rfl rfl (by kernel_rfl)
theorem BY (h : Br (Bl < x12) (Pq LD fun Ln U7 => In Bl (n11 : Int) ∧ ∃ ABt ABu, Au σ Ln (U7 + Int.toNat Bl * 2) [.string ABt, .string ABu] ∧ ∀ b8 : Nat, Br ((n1 : Int) ≤ Bl) (R (.returned (.int .i64 1)) σ) (Pq p1 fun b24 o24 => In Bl (n1 : Int) ∧ ∃ ABw ABx, Au σ b24 (o24 + Int.toNat Bl * 2) [.string ABw, .string ABx] ∧ ∀ b9 : Nat, ∃ (f29 : Nat) (sv tA : Array Value), v2 = .func (.func f29) sv tA ∧ Enters prog f29 ∧ Spec prog f29 (sv ++ #[.agg #[.string ABt, .string ABu], .agg #[.string ABw, .string ABx]] ++ tA) σ (AA R (CI .i64 fun x29 y => Br (x29 ≠ 0) (R (.returned (.int .i64 x29)) y) (AK (Bl + 1) ∧ HX R p0 n0 c0 (aD b24 o24) n1 c1 v2 (aD Ln U7) n11 LF x12 (Bl + 1) y))))) (Br ((n0 : Int) < (n1 : Int)) (R (.returned (.int .i64 (-1))) σ) (R (.returned (.int .i64 0)) σ))) : HX R p0 n0 c0 p1 n1 c1 v2 LD n11 LF x12 Bl σ := M.of h ok rfl
end Aw
end TwW
end
end
section
set_option maxRecDepth 100000
noncomputable section
namespace TwW
open Go Tw Go.Proofs.Tryz
variable [Eg] {R : Rr} {σ : Hp}

namespace C8
variable {q0 : Option Addr}
def M : Fw := ⟨prog, 96, f96, [95], [], false, [], [], []⟩
theorem ok : M.Ok := ⟨.cons call95 (AG.nil), mixed, func96, by kernel_rfl⟩
theorem start (h : Spec prog 95 #[.pointer q0, (.func (.func 139) #[.pointer q0] #[]), .int .i64 11, .int .i64 13] σ (AA R (fun z y => z = (.tuple #[]) ∧ R (.returned (.tuple #[])) y))) : Spec prog 96 #[.pointer q0] σ R := M.start h ok
end C8
namespace Jg
variable {x0 : Int}
def M : Fw := ⟨prog, 124, f124, [], [], false, [], [], []⟩
theorem ok : M.Ok := ⟨AG.nil, mixed, func124, by kernel_rfl⟩
theorem start (h : Br (5 ≤ x0) (R (.returned (.bool (decide (x0 ≤ 10)))) σ) (R (.returned (.bool false)) σ)) : Spec prog 124 #[.int .i64 x0] σ R := M.start h ok
end Jg
namespace Ot
variable {s0 : ByteArray}
def M : Fw := ⟨prog, 140, f140, [172, 173, 174], [], false, [], [], []⟩
theorem ok : M.Ok := ⟨.cons call172 (.cons call173 (.cons call174 (AG.nil))), mixed, func140, by kernel_rfl⟩
theorem start (h : Spec prog 172 #[.string s0] σ (AA R (CB fun t7 y => Bn t7 (R (.returned (.tuple #[.int .u64 0, .bool false])) y) (Spec prog 173 #[.string s0, .int .i64 64] y (AA R (fun z AF => ∃ fB fC, z = (.tuple #[fB, fC]) ∧ Spec prog 174 #[fB] AF (AA R (CI .u64 fun x15 AH => R (.returned (.tuple #[.int .u64 x15, .bool true])) AH)))))))) : Spec prog 140 #[.string s0] σ R := M.start h ok
end Ot
namespace Ql
variable {p0 p1 : Option Addr} {n0 c0 n1 c1 : Nat}
def M : Fw := ⟨prog, 149, f149, [197], [], false, [], [], []⟩
theorem ok : M.Ok := ⟨.cons call197 (AG.nil), mixed, func149, by kernel_rfl⟩
theorem start (h : Al σ fun b3 => Spec prog 197 #[.slice p0 n0 c0, (.func (.func 198) #[] #[(.pointer (aD b3 0))])] (Hp.set σ b3 (.cells #[.slice p1 n1 c1] 34 (0, 0))) (AA R (CS fun p7 n7 c7 y => R (.returned (.slice p7 n7 c7)) y))) : Spec prog 149 #[.slice p0 n0 c0, .slice p1 n1 c1] σ R := M.start h ok
end Ql
namespace DZ
variable {p0 : Option Addr} {n0 c0 : Nat}
def M : Fw := ⟨prog, 153, f153, [202], [], false, [], [], []⟩
theorem ok : M.Ok := ⟨.cons call202 (AG.nil), mixed, func153, by kernel_rfl⟩
theorem start (h : Spec prog 202 #[.int .i64 9, .slice p0 n0 c0] σ (AA R (CI .u64 fun x4 y => R (.returned (.int .u64 x4)) y))) : Spec prog 153 #[.slice p0 n0 c0] σ R := M.start h ok
end DZ
namespace C9
variable {x0 : Int} {b1 b2 : Nat}
def M : Fw := ⟨prog, 159, f159, [156], [], false, [], [], []⟩
theorem ok : M.Ok := ⟨.cons call156 (AG.nil), mixed, func159, by kernel_rfl⟩
theorem start (h : ∃ Fe Ff s6c Fg Fh Fi x6e x6f x6g p6h n6h c6h t6i x6j, Au σ b1 0 [.int .i64 Fe, .int .i64 Ff, .string s6c, .slice Fg Fh Fi, .int .i64 x6e, .int .i64 x6f, .int .i64 x6g, .slice p6h n6h c6h, .bool t6i, .int .i64 x6j] ∧ LI .u64 σ b2 1 fun x9 => Spec prog 156 #[.agg #[.int .i64 Fe, .int .i64 Ff, .string s6c, .slice Fg Fh Fi, .int .i64 x6e, .int .i64 x6f, .int .i64 x6g, .slice p6h n6h c6h, .bool t6i, .int .i64 x6j], .int .u64 x0, .int .u64 x9] σ (AA R (fun z y => ∃ IT Qm, z = (.tuple #[.int .u64 IT, .bool Qm]) ∧ R (.returned (.tuple #[.int .u64 IT, .bool Qm])) y))) : Spec prog 159 #[.int .u64 x0, (.pointer (aD b1 0)), (.pointer (aD b2 0))] σ R := M.start h ok
end C9
namespace Ou
variable {s0 : ByteArray}
def M : Fw := ⟨prog, 172, f172, [213], [], false, [], [], []⟩
theorem ok : M.Ok := ⟨.cons call213 (AG.nil), mixed, func172, by kernel_rfl⟩
theorem start (h : Spec prog 213 #[.string s0] σ (AA R (CI .i64 fun x6 y => Br (x6 = 0) (R (.returned (.bool false)) y) (Br (1 < x6) (∃ LG : UInt8, (0 : Int) ≤ 0 ∧ (ByteArray.data s0)[Int.toNat 0]? = some LG ∧ Br ((((UInt8.toNat LG : Nat) : Int) : Int) = 48) (R (.returned (.bool false)) y) (Br (x6 = ((ByteArray.size s0 : Nat) : Int)) (R (.returned (.bool (decide (x6 ≤ 15)))) y) (AK (x6 + 1) ∧ ∃ tB, YF prog (Instr.sliceAt 9 (.string s0) (some (.int .i64 (x6 + 1))) none none) y (.string tB) ∧ Spec prog 213 #[.string tB] y (AA R (CI .i64 fun W3 AF => ∃ tC : UInt8, 0 ≤ x6 ∧ (ByteArray.data s0)[Int.toNat x6]? = some tC ∧ Br ((((UInt8.toNat tC : Nat) : Int) : Int) = 46) (Br (0 < W3) (AK (x6 + 1) ∧ AK ((x6 + 1) + W3) ∧ Br ((((x6 + 1) + W3) : Int) = ((ByteArray.size s0 : Nat) : Int)) (AK (x6 + W3) ∧ R (.returned (.bool (decide (((x6 + W3) : Int) ≤ 15)))) AF) (R (.returned (.bool false)) AF)) (R (.returned (.bool false)) AF)) (R (.returned (.bool false)) AF)))))) (Br (x6 = ((ByteArray.size s0 : Nat) : Int)) (R (.returned (.bool (decide (x6 ≤ 15)))) y) (AK (x6 + 1) ∧ ∃ tB, YF prog (Instr.sliceAt 9 (.string s0) (some (.int .i64 (x6 + 1))) none none) y (.string tB) ∧ Spec prog 213 #[.string tB] y (AA R (CI .i64 fun W3 AF => ∃ tC : UInt8, 0 ≤ x6 ∧ (ByteArray.data s0)[Int.toNat x6]? = some tC ∧ Br ((((UInt8.toNat tC : Nat) : Int) : Int) = 46) (Br (0 < W3) (AK (x6 + 1) ∧ AK ((x6 + 1) + W3) ∧ Br ((((x6 + 1) + W3) : Int) = ((ByteArray.size s0 : Nat) : Int)) (AK (x6 + W3) ∧ R (.returned (.bool (decide (((x6 + W3) : Int) ≤ 15)))) AF) (R (.returned (.bool false)) AF)) (R (.returned (.bool false)) AF)) (R (.returned (.bool false)) AF))))))))) : Spec prog 172 #[.string s0] σ R := M.start h ok
end Ou
namespace cd
variable {x0 : Int}
def M : Fw := ⟨prog, 182, f182, [], [], false, [], [], []⟩
theorem ok : M.Ok := ⟨AG.nil, mixed, func182, by kernel_rfl⟩
theorem start (h : EN prog 22 #[.int .u64 x0] σ (fun z y => ∃ x4, (Value.float .f64 x4) = z ∧ R (.returned (Value.float .f64 x4)) y)) : Spec prog 182 #[.int .u64 x0] σ R := M.start h ok
end cd
namespace M0
variable {f0 : Fn} {a0 c0 : Array Value}
def M : Fw := ⟨prog, 188, f188, [], [], false, [], [], []⟩
theorem ok : M.Ok := ⟨AG.nil, mixed, func188, by kernel_rfl⟩
theorem start (h : Al σ fun b1 => R (.returned (.func (.func 226) #[] #[(.pointer (aD b1 0))])) (Hp.set σ b1 (.cells #[(Value.func f0 a0 c0)] 232 (0, 0)))) : Spec prog 188 #[(Value.func f0 a0 c0)] σ R := M.Dn h ok [(0, .o (.V (Value.func f0 a0 c0)))] rfl rfl (by kernel_rfl)
end M0
namespace CE
variable {p0 p5 p8 : Option Addr} {n0 c0 n5 c5 n8 c8 : Nat} {v1 : Value} {x9 x10 : Int}
def M : Fw := ⟨prog, 197, f197, [], [7], false, [], [], [(232, [(1, wV), (5, wL), (8, wL), (9, wI), (10, wI)]), (935, [(1, wV), (5, wL), (8, wL), (9, wI), (10, wI)])]⟩
theorem ok : M.Ok := ⟨AG.nil, mixed, func197, by kernel_rfl⟩
def A0 := M.pt 0
def W4 := M.pt 1
theorem start (h : A0 R v1 none 0 0 p0 n0 c0 (n0 : Int) 0 σ) : Spec prog 197 #[.slice p0 n0 c0, v1] σ R := M.Dn h ok [(0, .o (.L p0 n0 c0)), (1, .o (.V v1))] rfl rfl (by kernel_rfl)
theorem Aa (h : Br (x10 < x9) (Pq p8 fun Ov PT => In x10 (n8 : Int) ∧ ∃ wq fD, Au σ Ov (PT + Int.toNat x10 * 2) [.string wq, .string fD] ∧ ∀ b7 : Nat, ∃ (f16 : Nat) (tD tE : Array Value), v1 = .func (.func f16) tD tE ∧ Enters prog f16 ∧ Spec prog f16 (tD ++ #[.agg #[.string wq, .string fD]] ++ tE) σ (AA R (CB fun t16 y => Bo t16 (Al y fun C4 => AJ prog (Builtin.append_ #[37, 37] 37 #[.slice p5 n5 c5, (.slice (aD C4 0) 1 1)]) (Hp.set y C4 (.cells #[.string wq, .string fD] 56 (0, 0))) (CS fun p20 n20 c20 AF => W4 R v1 p20 n20 c20 (aD Ov PT) n8 c8 x9 x10 AF)) (W4 R v1 p5 n5 c5 (aD Ov PT) n8 c8 x9 x10 y)))) (R (.returned (.slice p5 n5 c5)) σ)) : A0 R v1 p5 n5 c5 p8 n8 c8 x9 x10 σ := M.of h ok rfl
theorem P1 (h : AK (x10 + 1) ∧ A0 R v1 p5 n5 c5 p8 n8 c8 x9 (x10 + 1) σ) : W4 R v1 p5 n5 c5 p8 n8 c8 x9 x10 σ := M.of h ok rfl
end CE
namespace BE
variable {p0 : Option Addr} {n0 c0 : Nat} {s1 : ByteArray} {x7 x8 : Int}
def M : Fw := ⟨prog, 228, f228, [], [], false, [], [], [(104, [(0, wL), (1, wT), (7, wI), (8, wI)])]⟩
theorem ok : M.Ok := ⟨AG.nil, mixed, func228, by kernel_rfl⟩
def HX := M.pt 0
theorem start (h : HX R p0 n0 c0 s1 (n0 : Int) 0 σ) : Spec prog 228 #[.slice p0 n0 c0, .string s1] σ R := M.start h ok
theorem BY (h : Br (x8 < x7) (Pq p0 fun BB Oq => In x8 (n0 : Int) ∧ LT σ BB (Oq + Int.toNat x8 * 1) fun oJ => Bo (ByteArray.toList s1 == ByteArray.toList oJ) (R (.returned (.int .i64 x8)) σ) (AK (x8 + 1) ∧ HX R (aD BB Oq) n0 c0 s1 x7 (x8 + 1) σ)) (R (.returned (.int .i64 (-1))) σ)) : HX R p0 n0 c0 s1 x7 x8 σ := M.of h ok rfl
end BE
namespace BM
variable {q0 : Option Addr}
def M : Fw := ⟨prog, 230, f230, [136, 138, 250, 251], [], false, [], [], []⟩
theorem ok : M.Ok := ⟨.cons call136 (.cons call138 (.cons call250 (.cons call251 (AG.nil)))), mixed, func230, by kernel_rfl⟩
theorem start (h : Spec prog 136 #[.pointer q0, .int .i64 5, (.string (ByteArray.mk #[45]))] σ (AA R (CB fun t3 y => Bn t3 (Spec prog 250 #[.pointer q0] y (AA R (fun z AF => z = (.tuple #[]) ∧ R (.returned (.tuple #[])) AF))) (Spec prog 251 #[.pointer q0, (.func (.func 230) #[.pointer q0] #[])] y (AA R (fun z AF => z = (.tuple #[]) ∧ Spec prog 138 #[.pointer q0, (.agg #[.int .i64 7, .int .i64 0, (.string (ByteArray.mk #[])), .slice none 0 0, .int .i64 0, .int .i64 0, .int .i64 0, .slice none 0 0, .bool false, .int .i64 1])] AF (AA R (fun z AH => z = (.tuple #[]) ∧ R (.returned (.tuple #[])) AH)))))))) : Spec prog 230 #[.pointer q0] σ R := M.start h ok
end BM
namespace BV
variable {s0 : ByteArray} {x1 : Int}
def M : Fw := ⟨prog, 231, f231, [252, 253], [], false, [], [], []⟩
theorem ok : M.Ok := ⟨.cons call252 (.cons call253 (AG.nil)), mixed, func231, by kernel_rfl⟩
theorem start (h : Br (x1 = 32) (Spec prog 252 #[.string s0] σ (AA R (fun z y => ∃ AB7 TA AB8, z = (.tuple #[AB7, .int .i64 TA, AB8]) ∧ AJ prog (convert 280 51 AB7) y (fun z AF => ∃ Ck, (Value.float .f64 Ck) = z ∧ R (.returned (.tuple #[(Value.float .f64 Ck), .int .i64 TA, AB8])) AF)))) (Spec prog 253 #[.string s0] σ (AA R (fun z y => ∃ AB9 fE ACA, z = (.tuple #[AB9, .int .i64 fE, ACA]) ∧ R (.returned (.tuple #[AB9, .int .i64 fE, ACA])) y)))) : Spec prog 231 #[.string s0, .int .i64 x1] σ R := M.start h ok
end BV
namespace HA
variable {s0 s1 : ByteArray}
def M : Fw := ⟨prog, 285, f285, [315], [], false, [], [], []⟩
theorem ok : M.Ok := ⟨.cons call315 (AG.nil), mixed, func285, by kernel_rfl⟩
theorem start (h : Spec prog 315 #[.string s0, .string s1] σ (AA R (CB fun t7 y => R (.returned (.bool t7)) y))) : Spec prog 285 #[.string s0, .string s1] σ R := M.start h ok
end HA
namespace BF
variable {b0 : Nat}
def M : Fw := ⟨prog, 294, f294, [65, 210], [], false, [], [], []⟩
theorem ok : M.Ok := ⟨.cons call65 (.cons call210 (AG.nil)), mixed, func294, by kernel_rfl⟩
theorem start (h : LQ σ b0 0 fun q1 => Spec prog 65 #[.pointer q1] σ (AA R (fun z y => z = (.tuple #[]) ∧ LQ y b0 0 fun q3 => Spec prog 210 #[.pointer q3, (.string (ByteArray.mk #[41]))] y (AA R (fun z AF => z = (.tuple #[]) ∧ R (.returned (.tuple #[])) AF))))) : Spec prog 294 #[(.pointer (aD b0 0))] σ R := M.start h ok
end BF
end TwW
end
end
section
set_option maxRecDepth 100000
noncomputable section
namespace TwW
open Go Tw Go.Proofs.Tryz
variable [Eg] {R : Rr} {σ : Hp}

namespace W5
variable {p0 : Option Addr} {n0 c0 : Nat}
def M : Fw := ⟨prog, 49, f49, [72], [], false, [], [], []⟩
theorem ok : M.Ok := ⟨.cons call72 (AG.nil), mixed, func49, by kernel_rfl⟩
theorem start (h : Spec prog 72 #[.slice p0 n0 c0] σ (AA R (CS fun p4 n4 c4 y => AJ prog (convert 90 9 (.slice p4 n4 c4)) y (CT fun s5 AF => R (.returned (.string s5)) AF)))) : Spec prog 49 #[.slice p0 n0 c0] σ R := M.start h ok
end W5
namespace I4
variable {q0 : Option Addr}
def M : Fw := ⟨prog, 65, f65, [95], [], false, [], [], []⟩
theorem ok : M.Ok := ⟨.cons call95 (AG.nil), mixed, func65, by kernel_rfl⟩
theorem start (h : Spec prog 95 #[.pointer q0, (.func (.func 96) #[.pointer q0] #[]), .int .i64 12, .int .i64 12] σ (AA R (fun z y => z = (.tuple #[]) ∧ R (.returned (.tuple #[])) y))) : Spec prog 65 #[.pointer q0] σ R := M.start h ok
end I4
namespace Hr
variable {q0 : Option Addr}
def M : Fw := ⟨prog, 66, f66, [], [2], false, [], [], []⟩
theorem ok : M.Ok := ⟨AG.nil, mixed, func66, by kernel_rfl⟩
theorem start (h : ∀ b2 : Nat, Pq q0 fun b4 o4 => LS σ b4 o4 fun p6 n6 c6 => Pq p6 fun b7 o7 => In 0 (n6 : Int) ∧ ∃ Dp D1 s8c x8d, Au σ b7 o7 [.int .i64 Dp, .int .i64 D1, .string s8c, .int .i64 x8d] ∧ R (.returned (.agg #[.int .i64 Dp, .int .i64 D1, .string s8c, .int .i64 x8d])) σ) : Spec prog 66 #[.pointer q0] σ R := M.start h ok
end Hr
namespace Qo
def M : Fw := ⟨prog, 70, f70, [], [], false, [], [], []⟩
theorem ok : M.Ok := ⟨AG.nil, mixed, func70, by kernel_rfl⟩
theorem start (h : Al σ fun b1 => R (.returned (.slice (aD b1 0) 8 8)) (Hp.set σ b1 (.cells #[.nilFunc, (.func (.func 100) #[] #[]), (.func (.func 101) #[] #[]), (.func (.func 102) #[] #[]), (.func (.func 103) #[] #[]), (.func (.func 104) #[] #[]), (.func (.func 105) #[] #[]), (.func (.func 106) #[] #[])] 137 (0, 0)))) : Spec prog 70 #[] σ R := M.start h ok
end Qo
namespace Qp
variable {Ek EI PU M1 HY I5 : Int} {PW : ByteArray} {Tu Qq : Option Addr} {TB Tv P2 Qr : Nat} {MO : Bool}
def M : Fw := ⟨prog, 79, f79, [94, 120, 121, 122, 123, 124], [1], false, [], [], []⟩
theorem ok : M.Ok := ⟨.cons call94 (.cons call120 (.cons call121 (.cons call122 (.cons call123 (.cons call124 (AG.nil)))))), mixed, func79, by kernel_rfl⟩
theorem start (h : ∀ b1 : Nat, Spec prog 121 #[.agg #[.int .i64 Ek, .int .i64 EI, .string PW, .slice Tu TB Tv, .int .i64 PU, .int .i64 M1, .int .i64 HY, .slice Qq P2 Qr, .bool MO, .int .i64 I5]] σ (AA R (fun z y => ∃ IU Gy IV IW IX IY IZ Ia Ib Ic Ie Ig Jh Ih, z = (.agg #[.int .i64 IU, .int .i64 Gy, .string IV, .slice IW IX IY, .int .i64 IZ, .int .i64 Ia, .int .i64 Ib, .slice Ic Ie Ig, .bool Jh, .int .i64 Ih]) ∧ Spec prog 120 #[.agg #[.int .i64 Ek, .int .i64 EI, .string PW, .slice Tu TB Tv, .int .i64 PU, .int .i64 M1, .int .i64 HY, .slice Qq P2 Qr, .bool MO, .int .i64 I5], .agg #[.int .i64 IU, .int .i64 Gy, .string IV, .slice IW IX IY, .int .i64 IZ, .int .i64 Ia, .int .i64 Ib, .slice Ic Ie Ig, .bool Jh, .int .i64 Ih]] y (AA R (CB fun t6 AF => Bn t6 (R (.returned (.bool false)) AF) (Spec prog 122 #[.agg #[.int .i64 Ek, .int .i64 EI, .string PW, .slice Tu TB Tv, .int .i64 PU, .int .i64 M1, .int .i64 HY, .slice Qq P2 Qr, .bool MO, .int .i64 I5]] AF (AA R (CB fun t10 AH => Bn t10 (R (.returned (.bool false)) AH) (Br (0 < (TB : Int)) (Br (Ek ≠ 2) (Br (Ek ≠ 3) (R (.returned (.bool false)) AH) (Br (Ek = 1) (Spec prog 94 #[.string PW] AH (AA R (CB fun t35 AZ => R (.returned (.bool t35)) AZ))) (Br (Ek = 2) (Spec prog 123 #[.int .i64 M1, .int .i64 0] AH (AA R (CB fun t40 AZ => R (.returned (.bool t40)) AZ))) (Br (Ek = 3) (Spec prog 123 #[.int .i64 PU, .int .i64 1] AH (AA R (CB fun t45 AZ => Bo t45 (Spec prog 123 #[.int .i64 M1, .int .i64 0] AZ (AA R (CB fun t49 CJ => R (.returned (.bool t49)) CJ))) (R (.returned (.bool false)) AZ)))) (Br (Ek = 4) (Br (I5 = 1) (Br (1 ≤ EI) (R (.returned (.bool (decide (EI ≤ 12)))) AH) (R (.returned (.bool false)) AH)) (R (.returned (.bool false)) AH)) (Br (Ek = 5) (Br (I5 = 1) (Br (1 ≤ EI) (Br (EI ≤ 5) (Br (HY = 0) (R (.returned (.bool true)) AH) (Br (HY = 1) (R (.returned (.bool true)) AH) (R (.returned (.bool (decide (HY = 2)))) AH))) (R (.returned (.bool false)) AH)) (R (.returned (.bool false)) AH)) (R (.returned (.bool false)) AH)) (Br (Ek = 6) (Br (I5 = 2) (Br (1 ≤ EI) (Br (EI ≤ 13) (Br (HY = 0) (Bn MO (R (.returned (.bool true)) AH) (Spec prog 124 #[.int .i64 EI] AH (AA R (CB fun t133 AZ => R (.returned (.bool t133)) AZ)))) (Br (HY = 3) (Bn MO (R (.returned (.bool true)) AH) (Spec prog 124 #[.int .i64 EI] AH (AA R (CB fun t133 AZ => R (.returned (.bool t133)) AZ)))) (Br (HY = 4) (Bn MO (R (.returned (.bool true)) AH) (Spec prog 124 #[.int .i64 EI] AH (AA R (CB fun t133 AZ => R (.returned (.bool t133)) AZ)))) (R (.returned (.bool false)) AH)))) (R (.returned (.bool false)) AH)) (R (.returned (.bool false)) AH)) (R (.returned (.bool false)) AH)) (Br (Ek = 7) (R (.returned (.bool (decide (I5 = 1)))) AH) (R (.returned (.bool false)) AH))))))))) (Br (Ek = 1) (Spec prog 94 #[.string PW] AH (AA R (CB fun t35 AZ => R (.returned (.bool t35)) AZ))) (Br (Ek = 2) (Spec prog 123 #[.int .i64 M1, .int .i64 0] AH (AA R (CB fun t40 AZ => R (.returned (.bool t40)) AZ))) (Br (Ek = 3) (Spec prog 123 #[.int .i64 PU, .int .i64 1] AH (AA R (CB fun t45 AZ => Bo t45 (Spec prog 123 #[.int .i64 M1, .int .i64 0] AZ (AA R (CB fun t49 CJ => R (.returned (.bool t49)) CJ))) (R (.returned (.bool false)) AZ)))) (Br (Ek = 4) (Br (I5 = 1) (Br (1 ≤ EI) (R (.returned (.bool (decide (EI ≤ 12)))) AH) (R (.returned (.bool false)) AH)) (R (.returned (.bool false)) AH)) (Br (Ek = 5) (Br (I5 = 1) (Br (1 ≤ EI) (Br (EI ≤ 5) (Br (HY = 0) (R (.returned (.bool true)) AH) (Br (HY = 1) (R (.returned (.bool true)) AH) (R (.returned (.bool (decide (HY = 2)))) AH))) (R (.returned (.bool false)) AH)) (R (.returned (.bool false)) AH)) (R (.returned (.bool false)) AH)) (Br (Ek = 6) (Br (I5 = 2) (Br (1 ≤ EI) (Br (EI ≤ 13) (Br (HY = 0) (Bn MO (R (.returned (.bool true)) AH) (Spec prog 124 #[.int .i64 EI] AH (AA R (CB fun t133 AZ => R (.returned (.bool t133)) AZ)))) (Br (HY = 3) (Bn MO (R (.returned (.bool true)) AH) (Spec prog 124 #[.int .i64 EI] AH (AA R (CB fun t133 AZ => R (.returned (.bool t133)) AZ)))) (Br (HY = 4) (Bn MO (R (.returned (.bool true)) AH) (Spec prog 124 #[.int .i64 EI] AH (AA R (CB fun t133 AZ => R (.returned (.bool t133)) AZ)))) (R (.returned (.bool false)) AH)))) (R (.returned (.bool false)) AH)) (R (.returned (.bool false)) AH)) (R (.returned (.bool false)) AH)) (Br (Ek = 7) (R (.returned (.bool (decide (I5 = 1)))) AH) (R (.returned (.bool false)) AH))))))))) (Br (Ek = 1) (Spec prog 94 #[.string PW] AH (AA R (CB fun t35 AZ => R (.returned (.bool t35)) AZ))) (Br (Ek = 2) (Spec prog 123 #[.int .i64 M1, .int .i64 0] AH (AA R (CB fun t40 AZ => R (.returned (.bool t40)) AZ))) (Br (Ek = 3) (Spec prog 123 #[.int .i64 PU, .int .i64 1] AH (AA R (CB fun t45 AZ => Bo t45 (Spec prog 123 #[.int .i64 M1, .int .i64 0] AZ (AA R (CB fun t49 CJ => R (.returned (.bool t49)) CJ))) (R (.returned (.bool false)) AZ)))) (Br (Ek = 4) (Br (I5 = 1) (Br (1 ≤ EI) (R (.returned (.bool (decide (EI ≤ 12)))) AH) (R (.returned (.bool false)) AH)) (R (.returned (.bool false)) AH)) (Br (Ek = 5) (Br (I5 = 1) (Br (1 ≤ EI) (Br (EI ≤ 5) (Br (HY = 0) (R (.returned (.bool true)) AH) (Br (HY = 1) (R (.returned (.bool true)) AH) (R (.returned (.bool (decide (HY = 2)))) AH))) (R (.returned (.bool false)) AH)) (R (.returned (.bool false)) AH)) (R (.returned (.bool false)) AH)) (Br (Ek = 6) (Br (I5 = 2) (Br (1 ≤ EI) (Br (EI ≤ 13) (Br (HY = 0) (Bn MO (R (.returned (.bool true)) AH) (Spec prog 124 #[.int .i64 EI] AH (AA R (CB fun t133 AZ => R (.returned (.bool t133)) AZ)))) (Br (HY = 3) (Bn MO (R (.returned (.bool true)) AH) (Spec prog 124 #[.int .i64 EI] AH (AA R (CB fun t133 AZ => R (.returned (.bool t133)) AZ)))) (Br (HY = 4) (Bn MO (R (.returned (.bool true)) AH) (Spec prog 124 #[.int .i64 EI] AH (AA R (CB fun t133 AZ => R (.returned (.bool t133)) AZ)))) (R (.returned (.bool false)) AH)))) (R (.returned (.bool false)) AH)) (R (.returned (.bool false)) AH)) (R (.returned (.bool false)) AH)) (Br (Ek = 7) (R (.returned (.bool (decide (I5 = 1)))) AH) (R (.returned (.bool false)) AH))))))))))))))))) : Spec prog 79 #[.agg #[.int .i64 Ek, .int .i64 EI, .string PW, .slice Tu TB Tv, .int .i64 PU, .int .i64 M1, .int .i64 HY, .slice Qq P2 Qr, .bool MO, .int .i64 I5]] σ R := M.start h ok
end Qp
namespace EJ
variable {q0 DS Da p2 : Option Addr} {DP CF DQ DT Ct CK : Int} {DR : ByteArray} {DU DV DW Db n2 c2 : Nat} {Cu : Bool}
def M : Fw := ⟨prog, 83, f83, [], [4], false, [], [], []⟩
theorem ok : M.Ok := ⟨AG.nil, mixed, func83, by kernel_rfl⟩
theorem start (h : ∀ b4 : Nat, Pq p2 fun b9 o9 => In 0 (n2 : Int) ∧ LI .i64 σ b9 o9 fun x11 => Br (x11 ≠ 2) (R (.returned (.tuple #[.int .i64 0, .int .i64 191])) σ) (R (.returned (.tuple #[.int .i64 2, .int .i64 0])) σ)) : Spec prog 83 #[.pointer q0, .agg #[.int .i64 DP, .int .i64 CF, .string DR, .slice DS DU DV, .int .i64 DQ, .int .i64 DT, .int .i64 Ct, .slice Da DW Db, .bool Cu, .int .i64 CK], .slice p2 n2 c2] σ R := M.start h ok
end EJ
namespace Lo
variable {p0 : Option Addr} {n0 c0 : Nat} {s1 : ByteArray}
def M : Fw := ⟨prog, 108, f108, [107], [], false, [], [], []⟩
theorem ok : M.Ok := ⟨.cons call107 (AG.nil), mixed, func108, by kernel_rfl⟩
theorem start (h : Df (IntKind.u64.wrap ((ByteArray.size s1 : Nat) : Int)) fun x8 => Spec prog 107 #[.slice p0 n0 c0, .int .u64 x8] σ (AA R (CS fun p9 n9 c9 y => AJ prog (Builtin.append_ #[90, 9] 90 #[.slice p9 n9 c9, .string s1]) y (CS fun LD n11 LF AF => R (.returned (.slice LD n11 LF)) AF)))) : Spec prog 108 #[.slice p0 n0 c0, .string s1] σ R := M.start h ok
end Lo
namespace Bq
variable {s0 s1 : ByteArray}
def M : Fw := ⟨prog, 119, f119, [], [], false, [], [], []⟩
theorem ok : M.Ok := ⟨AG.nil, mixed, func119, by kernel_rfl⟩
theorem start (h : EN prog 168 #[.string s0, .string s1] σ (CI .i64 fun x7 y => R (.returned (.int .i64 x7)) y)) : Spec prog 119 #[.string s0, .string s1] σ R := M.start h ok
end Bq
namespace Ow
variable {Ek EI PU M1 HY I5 DP CF DQ DT Ct CK : Int} {PW DR : ByteArray} {Tu Qq DS Da : Option Addr} {TB Tv P2 Qr DU DV DW Db : Nat} {MO Cu : Bool}
def M : Fw := ⟨prog, 120, f120, [], [2, 3], false, [], [], []⟩
theorem ok : M.Ok := ⟨AG.nil, mixed, func120, by kernel_rfl⟩
theorem start (h : ∀ b2 : Nat, ∀ b3 : Nat, Br (Ek = DP) (Br (EI = CF) (Bo (ByteArray.toList PW == ByteArray.toList DR) (Br (PU = DQ) (Br (M1 = DT) (Br (HY = Ct) (Bo MO (Bo Cu (R (.returned (.bool (decide (I5 = CK)))) σ) (R (.returned (.bool false)) σ)) (Bo Cu (R (.returned (.bool false)) σ) (R (.returned (.bool (decide (I5 = CK)))) σ))) (R (.returned (.bool false)) σ)) (R (.returned (.bool false)) σ)) (R (.returned (.bool false)) σ)) (R (.returned (.bool false)) σ)) (R (.returned (.bool false)) σ)) (R (.returned (.bool false)) σ)) : Spec prog 120 #[.agg #[.int .i64 Ek, .int .i64 EI, .string PW, .slice Tu TB Tv, .int .i64 PU, .int .i64 M1, .int .i64 HY, .slice Qq P2 Qr, .bool MO, .int .i64 I5], .agg #[.int .i64 DP, .int .i64 CF, .string DR, .slice DS DU DV, .int .i64 DQ, .int .i64 DT, .int .i64 Ct, .slice Da DW Db, .bool Cu, .int .i64 CK]] σ R := M.start h ok
end Ow
namespace Qt
variable {x0 : Int}
def M : Fw := ⟨prog, 125, f125, [], [], false, [], [], []⟩
theorem ok : M.Ok := ⟨AG.nil, mixed, func125, by kernel_rfl⟩
theorem start (h : Br (1 ≤ x0) (R (.returned (.bool (decide (x0 ≤ 4)))) σ) (R (.returned (.bool false)) σ)) : Spec prog 125 #[.int .i64 x0] σ R := M.start h ok
end Qt
namespace Tx
def M : Fw := ⟨prog, 134, f134, [], [], false, [], [], []⟩
theorem ok : M.Ok := ⟨AG.nil, mixed, func134, by kernel_rfl⟩
theorem start (h : Al σ fun b1 => R (.returned (.slice (aD b1 0) 14 14)) (Hp.set σ b1 (.cells #[(.string (ByteArray.mk #[])), (.string (ByteArray.mk #[43])), (.string (ByteArray.mk #[45])), (.string (ByteArray.mk #[42])), (.string (ByteArray.mk #[47])), (.string (ByteArray.mk #[61, 61])), (.string (ByteArray.mk #[33, 61])), (.string (ByteArray.mk #[60])), (.string (ByteArray.mk #[60, 61])), (.string (ByteArray.mk #[62])), (.string (ByteArray.mk #[62, 61])), (.string (ByteArray.mk #[97, 110, 100])), (.string (ByteArray.mk #[111, 114])), (.string (ByteArray.mk #[117, 110, 108, 101, 115, 115]))] 9 (0, 0)))) : Spec prog 134 #[] σ R := M.start h ok
end Tx
namespace Af
variable {q0 q1 : Option Addr} {s2a s2b wu wv : ByteArray} {x3a x3b x11 : Int} {b7 : Nat}
def M : Fw := ⟨prog, 137, f137, [135, 136, 170], [6], false, [(6, 12, false)], [], [(56, [(0, wQ), (1, wQ), (7, wA), (10, .G [.T, .T]), (11, wI)])]⟩
theorem ok : M.Ok := ⟨.cons call135 (.cons call136 (.cons call170 (AG.nil))), mixed, func137, by kernel_rfl⟩
def oL := M.pt 0
theorem start (h : ∀ b6 : Nat, Al σ fun b7 => oL R q0 q1 b7 s2a s2b 0 (Hp.set σ b7 (.cells #[.int .i64 x3a, .int .i64 x3b] 182 (0, 0)))) : Spec prog 137 #[.pointer q0, .pointer q1, .agg #[.string s2a, .string s2b], .agg #[.int .i64 x3a, .int .i64 x3b]] σ R := M.start h ok
theorem Qu (h : Br (x11 < 2) (In x11 2 ∧ ∃ s14 : ByteArray, [wu, wv][Int.toNat x11]? = some s14 ∧ Spec prog 136 #[.pointer q0, .int .i64 3, .string s14] σ (AA R (CB fun t17 y => Bo t17 (Spec prog 135 #[.pointer q0] y (AA R (fun z AF => ∃ Ji OE U9 wx, z = (.agg #[.int .i64 Ji, .int .i64 OE, .string U9, .int .i64 wx]) ∧ In x11 2 ∧ LI .i64 AF b7 (0 + Int.toNat x11 * 1) fun I3 => Spec prog 170 #[.pointer q0] AF (AA R (CS fun p26 n26 c26 AH => Kp [b7] AF AH ∧ Pq q1 fun W2 pf => AJ prog (Instr.storeAt 3 (.pointer (aD W2 (pf + 6))) (.int .i64 I3)) AH (fun _ AZ => AJ prog (Instr.storeAt 34 (.pointer (aD W2 (pf + 7))) (.slice p26 n26 c26)) AZ (fun _ CJ => R (.returned (.tuple #[])) CJ))))))) (AK (x11 + 1) ∧ oL R q0 q1 b7 wu wv (x11 + 1) y)))) (R (.returned (.tuple #[])) σ)) : oL R q0 q1 b7 wu wv x11 σ := M.of h ok rfl
end Af
namespace Ga
variable {p0 : Option Addr} {n0 c0 : Nat}
def M : Fw := ⟨prog, 155, f155, [143], [], false, [], [], []⟩
theorem ok : M.Ok := ⟨.cons call143 (AG.nil), mixed, func155, by kernel_rfl⟩
theorem start (h : Spec prog 143 #[(.int .i64 (n0 : Int))] σ (AA R (CI .u64 fun x5 y => R (.returned (.int .u64 x5)) y))) : Spec prog 155 #[.slice p0 n0 c0] σ R := M.start h ok
end Ga
namespace An
variable {q0 DS Da p2 p3 IW Ic Eh Em I6 tF : Option Addr} {DP CF DQ DT Ct CK IU Gy IZ Ia Ib Ih Dp D1 W6 cg : Int} {DR IV : ByteArray} {DU DV DW Db n2 c2 n3 c3 IX IY Ie Ig Ei Ej En Eo n14 HB n41 iC : Nat} {Cu Jh : Bool} {m12 : Option Nat}
def M : Fw := ⟨prog, 161, f161, [49, 124, 148, 156, 206, 207], [5, 8, 16, 18], false, [], [], [(2024, [(5, .X 36 [.I .i64, .I .i64, .T, .L, .I .i64, .I .i64, .I .i64, .L, .B, .I .i64]), (8, .X 93 [.I .i64, .I .u64, .L, .L]), (12, wM), (14, wL), (41, wL), (42, wI), (43, wI)]), (8103, [(5, .X 36 [.I .i64, .I .i64, .T, .L, .I .i64, .I .i64, .I .i64, .L, .B, .I .i64]), (8, .X 93 [.I .i64, .I .u64, .L, .L]), (12, wM), (14, wL), (41, wL), (42, wI), (43, wI)])]⟩
theorem ok : M.Ok := ⟨.cons call49 (.cons call124 (.cons call148 (.cons call156 (.cons call206 (.cons call207 (AG.nil)))))), mixed, func161, by kernel_rfl⟩
def VA := M.pt 0
def M3 := M.pt 1
theorem start (h : ∀ b5 : Nat, ∀ b8 : Nat, Spec prog 206 #[.agg #[.int .i64 DP, .int .i64 CF, .string DR, .slice DS DU DV, .int .i64 DQ, .int .i64 DT, .int .i64 Ct, .slice Da DW Db, .bool Cu, .int .i64 CK], .slice p2 n2 c2] σ (AA R (fun z y => ∃ AI2 jd, z = (.tuple #[.map AI2, .bool jd]) ∧ Spec prog 206 #[.agg #[.int .i64 DP, .int .i64 CF, .string DR, .slice DS DU DV, .int .i64 DQ, .int .i64 DT, .int .i64 Ct, .slice Da DW Db, .bool Cu, .int .i64 CK], .slice p3 n3 c3] y (AA R (fun z AF => ∃ ACF ACG, z = (.tuple #[.map ACF, .bool ACG]) ∧ Bn jd (R (.returned (.tuple #[.agg #[.int .i64 0, .int .u64 0, .slice none 0 0, .slice none 0 0], .int .i64 223])) AF) (Bn ACG (R (.returned (.tuple #[.agg #[.int .i64 0, .int .u64 0, .slice none 0 0, .slice none 0 0], .int .i64 223])) AF) (VA R DP CF DR DS DU DV DQ DT Ct Da DW Db Cu CK 0 0 none 0 0 none 0 0 ACF none 0 0 p2 n2 c2 (n2 : Int) 0 AF))))))) : Spec prog 161 #[.pointer q0, .agg #[.int .i64 DP, .int .i64 CF, .string DR, .slice DS DU DV, .int .i64 DQ, .int .i64 DT, .int .i64 Ct, .slice Da DW Db, .bool Cu, .int .i64 CK], .slice p2 n2 c2, .slice p3 n3 c3] σ R := M.start h ok
theorem P3 (h : Br (cg < W6) (Pq tF fun U8 ZA => In cg (n41 : Int) ∧ ∃ wy wz w6 w7, Au σ U8 (ZA + Int.toNat cg * 2) [.slice wy wz w6, .int .u64 w7] ∧ ∀ Ln : Nat, Spec prog 207 #[.agg #[.int .i64 IU, .int .i64 Gy, .string IV, .slice IW IX IY, .int .i64 IZ, .int .i64 Ia, .int .i64 Ib, .slice Ic Ie Ig, .bool Jh, .int .i64 Ih], .slice wy wz w6] σ (AA R (CS fun aC n50 aF y => Spec prog 49 #[.slice aC n50 aF] y (AA R (CT fun s54 AF => AJ prog (Instr.lookup 243 (.map m12) (.string s54) true) AF (fun z AH => ∃ ACH ACI ACJ tG ACK, z = (.tuple #[.agg #[.slice ACH ACI ACJ, .int .u64 tG], .bool ACK]) ∧ ∀ Ty : Nat, Bn ACK (M3 R IU Gy IV IW IX IY IZ Ia Ib Ic Ie Ig Jh Ih Dp D1 Eh Ei Ej Em En Eo m12 I6 n14 HB (aD U8 ZA) n41 iC W6 cg AH) (Spec prog 156 #[.agg #[.int .i64 IU, .int .i64 Gy, .string IV, .slice IW IX IY, .int .i64 IZ, .int .i64 Ia, .int .i64 Ib, .slice Ic Ie Ig, .bool Jh, .int .i64 Ih], .int .u64 w7, .int .u64 tG] AH (AA R (fun z AZ => ∃ w9 ACL, z = (.tuple #[.int .u64 w9, .bool ACL]) ∧ Spec prog 124 #[.int .i64 Gy] AZ (AA R (CB fun t72 CJ => Bn t72 (Al CJ fun tH => AJ prog (Builtin.append_ #[67, 67] 67 #[.slice I6 n14 HB, (.slice (aD tH 0) 1 1)]) (Hp.set CJ tH (.cells #[.slice aC n50 aF, .int .u64 w9] 71 (0, 0))) (CS fun pU W0 pV EK => M3 R IU Gy IV IW IX IY IZ Ia Ib Ic Ie Ig Jh Ih Dp D1 Eh Ei Ej Em En Eo m12 pU W0 pV (aD U8 ZA) n41 iC W6 cg EK)) (Bo Jh (Al CJ fun tH => AJ prog (Builtin.append_ #[67, 67] 67 #[.slice I6 n14 HB, (.slice (aD tH 0) 1 1)]) (Hp.set CJ tH (.cells #[.slice aC n50 aF, .int .u64 w9] 71 (0, 0))) (CS fun pU W0 pV EK => M3 R IU Gy IV IW IX IY IZ Ia Ib Ic Ie Ig true Ih Dp D1 Eh Ei Ej Em En Eo m12 pU W0 pV (aD U8 ZA) n41 iC W6 cg EK)) (Bo ACL (Al CJ fun b88 => AJ prog (Builtin.append_ #[67, 67] 67 #[.slice I6 n14 HB, (.slice (aD b88 0) 1 1)]) (Hp.set CJ b88 (.cells #[.slice wy wz w6, .int .u64 w7] 71 (0, 0))) (CS fun p89 n89 c89 EK => M3 R IU Gy IV IW IX IY IZ Ia Ib Ic Ie Ig false Ih Dp D1 Eh Ei Ej Em En Eo m12 p89 n89 c89 (aD U8 ZA) n41 iC W6 cg EK)) (M3 R IU Gy IV IW IX IY IZ Ia Ib Ic Ie Ig false Ih Dp D1 Eh Ei Ej Em En Eo m12 I6 n14 HB (aD U8 ZA) n41 iC W6 cg CJ)))))))))))))) (Spec prog 148 #[.slice I6 n14 HB] σ (AA R (fun z y => ∃ tI tJ tK tL tM tN tO tP ACN, z = (.tuple #[.agg #[.int .i64 tI, .int .u64 tJ, .slice tK tL tM, .slice tN tO tP], .int .i64 ACN]) ∧ R (.returned (.tuple #[.agg #[.int .i64 tI, .int .u64 tJ, .slice tK tL tM, .slice tN tO tP], .int .i64 ACN])) y)))) : VA R IU Gy IV IW IX IY IZ Ia Ib Ic Ie Ig Jh Ih Dp D1 Eh Ei Ej Em En Eo m12 I6 n14 HB tF n41 iC W6 cg σ := M.ek h ok rfl fun _ _ => by kernel_rfl
theorem VB (h : AK (cg + 1) ∧ VA R IU Gy IV IW IX IY IZ Ia Ib Ic Ie Ig Jh Ih Dp D1 Eh Ei Ej Em En Eo m12 I6 n14 HB tF n41 iC W6 (cg + 1) σ) : M3 R IU Gy IV IW IX IY IZ Ia Ib Ic Ie Ig Jh Ih Dp D1 Eh Ei Ej Em En Eo m12 I6 n14 HB tF n41 iC W6 cg σ := M.ek h ok rfl fun _ _ => by kernel_rfl
end An
namespace W7
variable {v0 : Value}
def M : Fw := ⟨prog, 181, f181, [], [], false, [], [], []⟩
theorem ok : M.Ok := ⟨AG.nil, mixed, func181, by kernel_rfl⟩
theorem start (h : EN prog 45 #[v0] σ (CI .u64 fun x4 y => Df (Go.bits .andNot .u64 x4 9223372036854775808) fun x5 => EN prog 22 #[.int .u64 x5] y (fun z AF => ∃ x6, (Value.float .f64 x6) = z ∧ R (.returned (Value.float .f64 x6)) AF))) : Spec prog 181 #[v0] σ R := M.Dn h ok [(0, .o (.V v0))] rfl rfl (by kernel_rfl)
end W7
namespace CA
variable {f0 : Fn} {a0 c0 : Array Value}
def M : Fw := ⟨prog, 184, f184, [], [], false, [], [], []⟩
theorem ok : M.Ok := ⟨AG.nil, mixed, func184, by kernel_rfl⟩
theorem start (h : Al σ fun b1 => R (.returned (.func (.func 224) #[] #[(.pointer (aD b1 0))])) (Hp.set σ b1 (.cells #[(Value.func f0 a0 c0)] 201 (0, 0)))) : Spec prog 184 #[(Value.func f0 a0 c0)] σ R := M.Dn h ok [(0, .o (.V (Value.func f0 a0 c0)))] rfl rfl (by kernel_rfl)
end CA
namespace BG
variable {p0 : Option Addr} {n0 c0 : Nat} {x3 : Int}
def M : Fw := ⟨prog, 187, f187, [225], [], false, [], [], [(224, [(0, wL), (3, wI)])]⟩
theorem ok : M.Ok := ⟨.cons call225 (AG.nil), mixed, func187, by kernel_rfl⟩
def I7 := M.pt 0
theorem start (h : I7 R p0 n0 c0 8 σ) : Spec prog 187 #[.slice p0 n0 c0] σ R := M.start h ok
theorem BN (h : Br ((n0 : Int) < x3) (2 ≠ (0 : Int) ∧ Df (IntKind.i64.wrap (Int.tdiv x3 2)) fun x11 => I7 R p0 n0 c0 x11 σ) (AK ((n0 : Int) - x3) ∧ ((0 : Int) ≤ ((n0 : Int) - x3) ∧ ((n0 : Int) - x3) ≤ (n0 : Int)) ∧ Spec prog 225 #[(.slice (IF p0 (Int.toNat ((n0 : Int) - x3)) c0 1) (n0 - Int.toNat ((n0 : Int) - x3)) (c0 - Int.toNat ((n0 : Int) - x3)))] σ (AA R (fun z y => ∃ Ji OE, z = (.tuple #[.int .u64 Ji, .int .i64 OE]) ∧ R (.returned (.int .u64 Ji)) y)))) : I7 R p0 n0 c0 x3 σ := M.of h ok rfl
end BG
namespace Qv
variable {v0 : Value}
def M : Fw := ⟨prog, 216, f216, [], [], false, [], [], []⟩
theorem ok : M.Ok := ⟨AG.nil, mixed, func216, by kernel_rfl⟩
theorem start (h : ∃ t5, YF prog ((do eqGuard .neq 51 (.tmp 3) (.tmp 4) v0 v0; binOp .neq 51 v0 v0)) σ (.bool t5) ∧ R (.returned (.bool t5)) σ) : Spec prog 216 #[v0] σ R := M.Dn h ok [(0, .o (.V v0))] rfl rfl (by kernel_rfl)
end Qv
namespace Ii
variable {p0 DS Da p2 : Option Addr} {n0 c0 DU DV DW Db n2 c2 b3 : Nat} {DP CF DQ DT Ct CK : Int} {DR : ByteArray} {Cu : Bool}
def M : Fw := ⟨prog, 226, f226, [], [5], false, [], [], []⟩
theorem ok : M.Ok := ⟨AG.nil, mixed, func226, by kernel_rfl⟩
theorem start (h : ∀ b5 : Nat, Br ((n0 : Int) < 2) (R (.returned (.tuple #[.int .u64 0, .bool false])) σ) (∃ v12, Hp.ld σ ⟨b3, 0, none⟩ = some v12 ∧ ∃ (f15 : Nat) (tQ tR : Array Value), v12 = .func (.func f15) tQ tR ∧ Enters prog f15 ∧ Spec prog f15 (tQ ++ #[.slice p0 n0 c0, .slice p2 n2 c2] ++ tR) σ (AA R (CI .u64 fun x15 y => R (.returned (.tuple #[.int .u64 x15, .bool true])) y)))) : Spec prog 226 #[.slice p0 n0 c0, .agg #[.int .i64 DP, .int .i64 CF, .string DR, .slice DS DU DV, .int .i64 DQ, .int .i64 DT, .int .i64 Ct, .slice Da DW Db, .bool Cu, .int .i64 CK], .slice p2 n2 c2, (.pointer (aD b3 0))] σ R := M.start h ok
end Ii
namespace Cv
variable {TC oM : Option Addr} {Lp Qw je oN : Nat} {s1 : ByteArray} {x65 tS : Int}
def M : Fw := ⟨prog, 257, f257, [260, 285, 286], [2], false, [(1, 14, true)], [], [(2024, [(1, wT), (64, wL), (65, wI), (66, wI)])]⟩
theorem ok : M.Ok := ⟨.cons call260 (.cons call285 (.cons call286 (AG.nil))), mixed, func257, by kernel_rfl⟩
def LZ := M.pt 0
theorem start (h : ∀ b2 : Nat, Pq TC fun Ov PT => In 0 (Lp : Int) ∧ LT σ Ov PT fun xA => AK ((Lp : Int) - 1) ∧ In (((Lp : Int) - 1)) (Lp : Int) ∧ LT σ Ov (PT + Int.toNat ((Lp : Int) - 1) * 1) fun xB => Br ((Lp : Int) = 1) (R (.returned (.bool (ByteArray.toList s1 == ByteArray.toList xA))) σ) (AK (((ByteArray.size xA : Nat) : Int) + ((ByteArray.size xB : Nat) : Int)) ∧ Br ((((ByteArray.size s1 : Nat) : Int) : Int) < (((ByteArray.size xA : Nat) : Int) + ((ByteArray.size xB : Nat) : Int))) (R (.returned (.bool false)) σ) (Spec prog 285 #[.string s1, .string xA] σ (AA R (CB fun t40 y => Bn t40 (R (.returned (.bool false)) y) (Spec prog 286 #[.string s1, .string xB] y (AA R (CB fun t46 AF => Bn t46 (R (.returned (.bool false)) AF) (AK (((ByteArray.size s1 : Nat) : Int) - ((ByteArray.size xB : Nat) : Int)) ∧ ∃ s57, YF prog (Instr.sliceAt 9 (.string s1) (some (.int .i64 ((ByteArray.size xA : Nat) : Int))) (some (.int .i64 (((ByteArray.size s1 : Nat) : Int) - ((ByteArray.size xB : Nat) : Int)))) none) AF (.string s57) ∧ AK ((Lp : Int) - 1) ∧ ((0 : Int) ≤ 1 ∧ 1 ≤ ((Lp : Int) - 1) ∧ ((Lp : Int) - 1) ≤ (Qw : Int)) ∧ LZ R s57 ((IF (aD Ov PT) (1) Qw 1)) ((Int.toNat ((Lp : Int) - 1) - 1)) (Qw - 1) ((((Int.toNat ((Lp : Int) - 1) - 1) : Nat) : Int)) 0 AF))))))))) : Spec prog 257 #[.agg #[.slice TC Lp Qw], .string s1] σ R := M.start h ok
theorem Ij (h : Br (tS < x65) (Pq oM fun b68 o68 => In tS (je : Int) ∧ LT σ b68 (o68 + Int.toNat tS * 1) fun s69 => Spec prog 260 #[.string s1, .string s69] σ (AA R (CI .i64 fun x72 y => Br (x72 < 0) (R (.returned (.bool false)) y) (AK (x72 + ((ByteArray.size s69 : Nat) : Int)) ∧ ∃ s80, YF prog (Instr.sliceAt 9 (.string s1) (some (.int .i64 (x72 + ((ByteArray.size s69 : Nat) : Int)))) none none) y (.string s80) ∧ AK (tS + 1) ∧ LZ R s80 (aD b68 o68) je oN x65 (tS + 1) y)))) (R (.returned (.bool true)) σ)) : LZ R s1 oM je oN x65 tS σ := M.of h ok rfl
end Cv
namespace EL
variable {q0 : Option Addr}
def M : Fw := ⟨prog, 298, f298, [66, 67, 135], [], false, [], [], [(14, [(0, wQ)])]⟩
theorem ok : M.Ok := ⟨.cons call66 (.cons call67 (.cons call135 (AG.nil))), mixed, func298, by kernel_rfl⟩
def I7 := M.pt 0
theorem start (h : Spec prog 66 #[.pointer q0] σ (AA R (fun z y => ∃ Fc FK HC x4d, z = (.agg #[.int .i64 Fc, .int .i64 FK, .string HC, .int .i64 x4d]) ∧ Br (Fc ≠ 2) (Spec prog 67 #[.pointer q0] y (AA R (fun z AF => z = (.tuple #[]) ∧ I7 R q0 AF))) (I7 R q0 y)))) : Spec prog 298 #[.pointer q0] σ R := M.start h ok
theorem BN (h : Spec prog 135 #[.pointer q0] σ (AA R (fun z y => ∃ IT xC AI9 ACP, z = (.agg #[.int .i64 IT, .int .i64 xC, .string AI9, .int .i64 ACP]) ∧ R (.returned (.int .i64 ACP)) y))) : I7 R q0 σ := M.of h ok rfl
end EL
end TwW
end
end
section
set_option maxRecDepth 100000
noncomputable section
namespace TwW
open Go Tw Go.Proofs.Tryz
variable [Eg] {R : Rr} {σ : Hp}

namespace FL
variable {p0 p1 Eh Em : Option Addr} {n0 c0 n1 c1 Ei Ej En Eo : Nat} {x2 Dp D1 x9 : Int}
def M : Fw := ⟨prog, 30, f30, [47], [8], false, [], [], [(30, [(8, .X 93 [.I .i64, .I .u64, .L, .L]), (9, wI)])]⟩
theorem ok : M.Ok := ⟨.cons call47 (AG.nil), mixed, func30, by kernel_rfl⟩
def BT := M.pt 0
theorem start (h : Al σ fun BB => Spec prog 47 #[(.pointer (aD BB 0)), .slice p0 n0 c0] (Hp.set σ BB (.cells #[.slice p1 n1 c1, .int .i64 x2] 97 (0, 0))) (AA R (fun z y => ∃ ck cp tT tU tV jf jg jh xD, z = (.tuple #[.agg #[.int .i64 ck, .int .u64 cp, .slice tT tU tV, .slice jf jg jh], .int .i64 xD]) ∧ ∀ b8 : Nat, Br (ck = 1) (Al y fun JU => BT R ck cp (aD JU 0) 1 1 jf jg jh xD (Hp.set y JU (.cells #[.slice none 0 0, .int .u64 cp] 71 (0, 0)))) (BT R ck cp tT tU tV jf jg jh xD y)))) : Spec prog 30 #[.slice p0 n0 c0, .slice p1 n1 c1, .int .i64 x2] σ R := M.start h ok
theorem A5 (h : R (.returned (.tuple #[.slice Eh Ei Ej, .int .i64 x9])) σ) : BT R Dp D1 Eh Ei Ej Em En Eo x9 σ := M.hZ h ok rfl fun _ => by kernel_rfl
end FL
namespace M4
variable {x0 x1 x2 : Int}
def M : Fw := ⟨prog, 48, f48, [], [], false, [], [], []⟩
theorem ok : M.Ok := ⟨AG.nil, mixed, func48, by kernel_rfl⟩
theorem start (h : Al σ fun b3 => Al (Hp.set σ b3 (.cells #[.int .i64 x0] 2 (0, 0))) fun b4 => Al (Hp.set (Hp.set σ b3 (.cells #[.int .i64 x0] 2 (0, 0))) b4 (.cells #[.int .i64 x1] 2 (0, 0))) fun b5 => R (.returned (.func (.func 71) #[] #[(.pointer (aD b3 0)), (.pointer (aD b5 0)), (.pointer (aD b4 0))])) (Hp.set (Hp.set (Hp.set σ b3 (.cells #[.int .i64 x0] 2 (0, 0))) b4 (.cells #[.int .i64 x1] 2 (0, 0))) b5 (.cells #[.int .i64 x2] 2 (0, 0)))) : Spec prog 48 #[.int .i64 x0, .int .i64 x1, .int .i64 x2] σ R := M.start h ok
end M4
namespace I8
variable {q0 DS Da : Option Addr} {DP CF DQ DT Ct CK : Int} {DR : ByteArray} {DU DV DW Db : Nat} {Cu : Bool}
def M : Fw := ⟨prog, 53, f53, [79, 80, 81], [3], false, [(6, 9, true)], [], []⟩
theorem ok : M.Ok := ⟨.cons call79 (.cons call80 (.cons call81 (AG.nil))), mixed, func53, by kernel_rfl⟩
theorem start (h : ∀ b3 : Nat, Spec prog 79 #[.agg #[.int .i64 DP, .int .i64 CF, .string DR, .slice DS DU DV, .int .i64 DQ, .int .i64 DT, .int .i64 Ct, .slice Da DW Db, .bool Cu, .int .i64 CK]] σ (AA R (CB fun t10 y => Bn t10 (R (.returned (.int .i64 190)) y) (Pq q0 fun Ln U7 => LS y Ln U7 fun p18 n18 c18 => Br ((n18 : Int) < CK) (R (.returned (.int .i64 190)) y) (Spec prog 80 #[.slice DS DU DV] y (AA R (CI .i64 fun I3 AF => Br (I3 ≠ 0) (R (.returned (.int .i64 193)) AF) (AJ prog (Instr.makeMap 150 none) AF (fun z AH => ∃ ph, z = (.map (some ph)) ∧ Spec prog 81 #[.int .i64 1] AH (AA R (fun z AZ => ∃ f27 a27 c27, (Value.func f27 a27 c27) = z ∧ AJ prog (Instr.mapUpdate 150 (.map (some ph)) (.int .i64 1) (Value.func f27 a27 c27)) AZ (fun _ CJ => Spec prog 81 #[.int .i64 2] CJ (AA R (fun z EK => ∃ f28 a28 c28, (Value.func f28 a28 c28) = z ∧ AJ prog (Instr.mapUpdate 150 (.map (some ph)) (.int .i64 2) (Value.func f28 a28 c28)) EK (fun _ EM => Spec prog 81 #[.int .i64 3] EM (AA R (fun z I9 => ∃ f29 a29 c29, (Value.func f29 a29 c29) = z ∧ AJ prog (Instr.mapUpdate 150 (.map (some ph)) (.int .i64 3) (Value.func f29 a29 c29)) I9 (fun _ OF => AJ prog (Instr.mapUpdate 150 (.map (some ph)) (.int .i64 4) (.func (.func 82) #[(.pointer (aD Ln U7))] #[])) OF (fun _ F2 => AJ prog (Instr.mapUpdate 150 (.map (some ph)) (.int .i64 5) (.func (.func 83) #[(.pointer (aD Ln U7))] #[])) F2 (fun _ OG => AJ prog (Instr.mapUpdate 150 (.map (some ph)) (.int .i64 6) (.func (.func 84) #[(.pointer (aD Ln U7))] #[])) OG (fun _ OH => AJ prog (Instr.mapUpdate 150 (.map (some ph)) (.int .i64 7) (.func (.func 85) #[(.pointer (aD Ln U7))] #[])) OH (fun _ PY => LS PY Ln U7 fun p42 n42 c42 => AK ((n42 : Int) - CK) ∧ LS PY Ln U7 fun p56 n56 c56 => ((0 : Int) ≤ ((n42 : Int) - CK) ∧ ((n42 : Int) - CK) ≤ (n56 : Int)) ∧ AJ prog (Instr.lookup 150 (.map (some ph)) (.int .i64 DP) false) PY (fun z ACQ => ∃ v51, v51 = z ∧ Kp [Ln] PY ACQ ∧ ∃ (f59 : Nat) (tW tX : Array Value), v51 = .func (.func f59) tW tX ∧ Enters prog f59 ∧ Spec prog f59 (tW ++ #[.agg #[.int .i64 DP, .int .i64 CF, .string DR, .slice DS DU DV, .int .i64 DQ, .int .i64 DT, .int .i64 Ct, .slice Da DW Db, .bool Cu, .int .i64 CK], (.slice (IF p56 (Int.toNat ((n42 : Int) - CK)) c56 1) (n56 - Int.toNat ((n42 : Int) - CK)) (c56 - Int.toNat ((n42 : Int) - CK)))] ++ tX) ACQ (AA R (fun z aG => ∃ VC HT, z = (.tuple #[.int .i64 VC, .int .i64 HT]) ∧ LS aG Ln U7 fun oO ji ct => ((0 : Int) ≤ ((n42 : Int) - CK) ∧ ((n42 : Int) - CK) ≤ (ct : Int)) ∧ Al aG fun U5 => AJ prog (Builtin.append_ #[108, 108] 108 #[(.slice oO (Int.toNat ((n42 : Int) - CK)) ct), (.slice (aD U5 0) 1 1)]) (Hp.set aG U5 (.cells #[.int .i64 VC] 113 (0, 0))) (CS fun p72 n72 c72 xE => AJ prog (Instr.storeAt 108 (.pointer (aD Ln U7)) (.slice p72 n72 c72)) xE (fun _ xF => R (.returned (.int .i64 HT)) xF))))))))))))))))))))))))))) : Spec prog 53 #[.pointer q0, .agg #[.int .i64 DP, .int .i64 CF, .string DR, .slice DS DU DV, .int .i64 DQ, .int .i64 DT, .int .i64 Ct, .slice Da DW Db, .bool Cu, .int .i64 CK]] σ R := M.start h ok
end I8
namespace Dc
variable {p0 : Option Addr} {n0 c0 : Nat} {x3 : Int}
def M : Fw := ⟨prog, 69, f69, [], [], false, [(4, 12, true)], [], [(208, [(0, wL), (3, wI)])]⟩
theorem ok : M.Ok := ⟨AG.nil, mixed, func69, by kernel_rfl⟩
def I7 := M.pt 0
theorem start (h : I7 R p0 n0 c0 1 σ) : Spec prog 69 #[.slice p0 n0 c0] σ R := M.start h ok
theorem BN (h : Br (x3 < (n0 : Int)) (Pq p0 fun Ov PT => In x3 (n0 : Int) ∧ LI .i64 σ Ov (PT + Int.toNat x3 * 2) fun La => AK (x3 - 1) ∧ In (x3 - 1) (n0 : Int) ∧ LI .i64 σ Ov (PT + Int.toNat (x3 - 1) * 2) fun HS => Br (La ≤ HS) (R (.returned (.bool false)) σ) (AK (x3 + 1) ∧ I7 R (aD Ov PT) n0 c0 (x3 + 1) σ)) (R (.returned (.bool (decide (0 < (n0 : Int))))) σ)) : I7 R p0 n0 c0 x3 σ := M.of h ok rfl
end Dc
namespace HD
variable {s0 : ByteArray} {x1 : Int}
def M : Fw := ⟨prog, 130, f130, [169], [], false, [], [], []⟩
theorem ok : M.Ok := ⟨.cons call169 (AG.nil), mixed, func130, by kernel_rfl⟩
theorem start (h : Spec prog 169 #[.string s0, .int .u8 x1] σ (AA R (CI .i64 fun x7 y => R (.returned (.int .i64 x7)) y))) : Spec prog 130 #[.string s0, .int .u8 x1] σ R := M.start h ok
end HD
namespace M5
variable {s0 : ByteArray}
def M : Fw := ⟨prog, 132, f132, [], [], false, [], [], []⟩
theorem ok : M.Ok := ⟨AG.nil, mixed, func132, by kernel_rfl⟩
theorem start (h : Br ((1 : Int) < ((ByteArray.size s0 : Nat) : Int)) (∃ u8 : UInt8, (0 : Int) ≤ 0 ∧ (ByteArray.data s0)[Int.toNat 0]? = some u8 ∧ R (.returned (.bool (decide ((((UInt8.toNat u8 : Nat) : Int) : Int) = 48)))) σ) (R (.returned (.bool false)) σ)) : Spec prog 132 #[.string s0] σ R := M.start h ok
end M5
namespace Ox
variable {p0 : Option Addr} {n0 c0 : Nat} {x1 x2 : Int}
def M : Fw := ⟨prog, 141, f141, [175], [], false, [], [], []⟩
theorem ok : M.Ok := ⟨.cons call175 (AG.nil), mixed, func141, by kernel_rfl⟩
theorem start (h : Spec prog 175 #[.slice p0 n0 c0, .int .i64 x1, (.func (.func 176) #[] #[])] σ (AA R (fun z y => ∃ F3 AJD, z = (.tuple #[.int .i64 F3, .bool AJD]) ∧ Spec prog 175 #[.slice p0 n0 c0, .int .i64 x2, (.func (.func 177) #[] #[])] y (AA R (fun z AF => ∃ Hs AJE, z = (.tuple #[.int .i64 Hs, .bool AJE]) ∧ ((0 : Int) ≤ (if Hs < F3 then Hs else F3) ∧ (if Hs < F3 then Hs else F3) ≤ Hs ∧ Hs ≤ (c0 : Int)) ∧ R (.returned (.slice (IF p0 (Int.toNat (if Hs < F3 then Hs else F3)) c0 2) (Int.toNat Hs - Int.toNat (if Hs < F3 then Hs else F3)) (c0 - Int.toNat (if Hs < F3 then Hs else F3)))) AF))))) : Spec prog 141 #[.slice p0 n0 c0, .int .i64 x1, .int .i64 x2] σ R := M.start h ok
end Ox
namespace Ik
variable {x0 : Int}
def M : Fw := ⟨prog, 145, f145, [174, 182, 183], [], false, [], [], []⟩
theorem ok : M.Ok := ⟨.cons call174 (.cons call182 (.cons call183 (AG.nil))), mixed, func145, by kernel_rfl⟩
theorem start (h : Spec prog 182 #[.int .u64 x0] σ (AA R (fun z y => ∃ x4, (Value.float .f64 x4) = z ∧ Spec prog 183 #[(Value.float .f64 x4)] y (AA R (fun z AF => ∃ x5, (Value.float .f64 x5) = z ∧ Spec prog 174 #[(Value.float .f64 x5)] AF (AA R (CI .u64 fun x6 AH => R (.returned (.int .u64 x6)) AH))))))) : Spec prog 145 #[.int .u64 x0] σ R := M.start h ok
end Ik
namespace Ay
variable {q0 DS Da p2 IW Ic Eh Em ZB cu : Option Addr} {DP CF DQ DT Ct CK IU Gy IZ Ia Ib Ih Dp D1 x16 x17 : Int} {DR IV : ByteArray} {DU DV DW Db n2 c2 IX IY Ie Ig Ei Ej En Eo n10 TD n15 W8 : Nat} {Cu Jh : Bool} {v3 : Value}
def M : Fw := ⟨prog, 157, f157, [124, 146, 148], [5, 8, 12], false, [], [], [(232, [(3, wV), (5, .X 36 [.I .i64, .I .i64, .T, .L, .I .i64, .I .i64, .I .i64, .L, .B, .I .i64]), (8, .X 93 [.I .i64, .I .u64, .L, .L]), (10, wL), (15, wL), (16, wI), (17, wI)]), (935, [(3, wV), (5, .X 36 [.I .i64, .I .i64, .T, .L, .I .i64, .I .i64, .I .i64, .L, .B, .I .i64]), (8, .X 93 [.I .i64, .I .u64, .L, .L]), (10, wL), (15, wL), (16, wI), (17, wI)])]⟩
theorem ok : M.Ok := ⟨.cons call124 (.cons call146 (.cons call148 (AG.nil))), mixed, func157, by kernel_rfl⟩
def A0 := M.pt 0
def Gz := M.pt 1
theorem start (h : ∀ b5 : Nat, ∀ b8 : Nat, A0 R v3 DP CF DR DS DU DV DQ DT Ct Da DW Db Cu CK 0 0 none 0 0 none 0 0 none 0 0 p2 n2 c2 (n2 : Int) 0 σ) : Spec prog 157 #[.pointer q0, .agg #[.int .i64 DP, .int .i64 CF, .string DR, .slice DS DU DV, .int .i64 DQ, .int .i64 DT, .int .i64 Ct, .slice Da DW Db, .bool Cu, .int .i64 CK], .slice p2 n2 c2, v3] σ R := M.Dn h ok [(0, .o (.Q q0)), (1, .G [.I .i64 DP, .I .i64 CF, .T DR, .L DS DU DV, .I .i64 DQ, .I .i64 DT, .I .i64 Ct, .L Da DW Db, .B Cu, .I .i64 CK]), (2, .o (.L p2 n2 c2)), (3, .o (.V v3))] rfl rfl (by kernel_rfl)
theorem Aa (h : Br (x17 < x16) (Pq cu fun C4 jj => In x17 (n15 : Int) ∧ ∃ pj pk po VD, Au σ C4 (jj + Int.toNat x17 * 2) [.slice pj pk po, .int .u64 VD] ∧ ∀ Ov : Nat, ∃ (f25 : Nat) (tY tZ : Array Value), v3 = .func (.func f25) tY tZ ∧ Enters prog f25 ∧ Spec prog f25 (tY ++ #[.int .u64 VD] ++ tZ) σ (AA R (fun z y => ∃ xG jd, z = (.tuple #[.int .u64 xG, .bool jd]) ∧ Spec prog 124 #[.int .i64 Gy] y (AA R (CB fun t31 AF => Bn t31 (Spec prog 146 #[.slice pj pk po] AF (AA R (CS fun xH n40 xI AH => Al AH fun cb => AJ prog (Builtin.append_ #[67, 67] 67 #[.slice ZB n10 TD, (.slice (aD cb 0) 1 1)]) (Hp.set AH cb (.cells #[.slice xH n40 xI, .int .u64 xG] 71 (0, 0))) (CS fun xJ n44 xK AZ => Gz R v3 IU Gy IV IW IX IY IZ Ia Ib Ic Ie Ig Jh Ih Dp D1 Eh Ei Ej Em En Eo xJ n44 xK (aD C4 jj) n15 W8 x16 x17 AZ)))) (Bo Jh (Spec prog 146 #[.slice pj pk po] AF (AA R (CS fun xH n40 xI AH => Al AH fun cb => AJ prog (Builtin.append_ #[67, 67] 67 #[.slice ZB n10 TD, (.slice (aD cb 0) 1 1)]) (Hp.set AH cb (.cells #[.slice xH n40 xI, .int .u64 xG] 71 (0, 0))) (CS fun xJ n44 xK AZ => Gz R v3 IU Gy IV IW IX IY IZ Ia Ib Ic Ie Ig true Ih Dp D1 Eh Ei Ej Em En Eo xJ n44 xK (aD C4 jj) n15 W8 x16 x17 AZ)))) (Bo jd (Al AF fun Tz => AJ prog (Builtin.append_ #[67, 67] 67 #[.slice ZB n10 TD, (.slice (aD Tz 0) 1 1)]) (Hp.set AF Tz (.cells #[.slice pj pk po, .int .u64 VD] 71 (0, 0))) (CS fun aC n50 aF AH => Gz R v3 IU Gy IV IW IX IY IZ Ia Ib Ic Ie Ig false Ih Dp D1 Eh Ei Ej Em En Eo aC n50 aF (aD C4 jj) n15 W8 x16 x17 AH)) (Gz R v3 IU Gy IV IW IX IY IZ Ia Ib Ic Ie Ig false Ih Dp D1 Eh Ei Ej Em En Eo ZB n10 TD (aD C4 jj) n15 W8 x16 x17 AF)))))))) (Spec prog 148 #[.slice ZB n10 TD] σ (AA R (fun z y => ∃ W9 XA XB XC XD XE XF XG jl, z = (.tuple #[.agg #[.int .i64 W9, .int .u64 XA, .slice XB XC XD, .slice XE XF XG], .int .i64 jl]) ∧ R (.returned (.tuple #[.agg #[.int .i64 W9, .int .u64 XA, .slice XB XC XD, .slice XE XF XG], .int .i64 jl])) y)))) : A0 R v3 IU Gy IV IW IX IY IZ Ia Ib Ic Ie Ig Jh Ih Dp D1 Eh Ei Ej Em En Eo ZB n10 TD cu n15 W8 x16 x17 σ := M.ek h ok rfl fun _ _ => by kernel_rfl
theorem Il (h : AK (x17 + 1) ∧ A0 R v3 IU Gy IV IW IX IY IZ Ia Ib Ic Ie Ig Jh Ih Dp D1 Eh Ei Ej Em En Eo ZB n10 TD cu n15 W8 x16 (x17 + 1) σ) : Gz R v3 IU Gy IV IW IX IY IZ Ia Ib Ic Ie Ig Jh Ih Dp D1 Eh Ei Ej Em En Eo ZB n10 TD cu n15 W8 x16 x17 σ := M.ek h ok rfl fun _ _ => by kernel_rfl
end Ay
namespace Oy
def M : Fw := ⟨prog, 178, f178, [], [], false, [], [], []⟩
theorem ok : M.Ok := ⟨AG.nil, mixed, func178, by kernel_rfl⟩
theorem start (h : Al σ fun b1 => R (.returned (.slice (aD b1 0) 5 5)) (Hp.set σ b1 (.cells #[.nilFunc, (.func (.func 217) #[] #[]), (.func (.func 218) #[] #[]), (.func (.func 219) #[] #[]), (.func (.func 220) #[] #[])] 221 (0, 0)))) : Spec prog 178 #[] σ R := M.start h ok
end Oy
namespace Dd
variable {s0 : ByteArray} {p2 p3 p7 : Option Addr} {n2 c2 n3 c3 n7 c7 : Nat} {x8 x9 : Int}
def M : Fw := ⟨prog, 179, f179, [221], [2, 3], false, [(5, 8, false)], [], [(232, [(2, .X 224 [.L]), (3, .X 224 [.L]), (7, wL), (8, wI), (9, wI)])]⟩
theorem ok : M.Ok := ⟨.cons call221 (AG.nil), mixed, func179, by kernel_rfl⟩
def A0 := M.pt 0
theorem start (h : ∀ b2 : Nat, ∀ b3 : Nat, Spec prog 221 #[.string s0, (.string (ByteArray.mk #[124]))] σ (AA R (CS fun p7 n7 c7 y => A0 R none 0 0 none 0 0 p7 n7 c7 (n7 : Int) 0 y))) : Spec prog 179 #[.string s0] σ R := M.start h ok
theorem Aa (h : Br (x9 < x8) (Pq p7 fun A8 iD => In x9 (n7 : Int) ∧ LT σ A8 (iD + Int.toNat x9 * 1) fun s12 => Spec prog 221 #[.string s12, (.string (ByteArray.mk #[42]))] σ (AA R (CS fun Z5 n16 V7 y => Al y fun Ty => AJ prog (Builtin.append_ #[222, 222] 222 #[.slice p3 n3 c3, (.slice (aD Ty 0) 1 1)]) (Hp.set y Ty (.cells #[.slice Z5 n16 V7] 257 (0, 0))) (CS fun p19 n19 c19 AF => AK (x9 + 1) ∧ A0 R p2 n2 c2 p19 n19 c19 (aD A8 iD) n7 c7 x8 (x9 + 1) AF)))) (R (.returned (.agg #[.slice p3 n3 c3])) σ)) : A0 R p2 n2 c2 p3 n3 c3 p7 n7 c7 x8 x9 σ := M.ek h ok rfl fun _ _ => by kernel_rfl
end Dd
namespace Oz
variable {x0 : Int}
def M : Fw := ⟨prog, 186, f186, [174, 182], [], false, [], [], []⟩
theorem ok : M.Ok := ⟨.cons call174 (.cons call182 (AG.nil)), mixed, func186, by kernel_rfl⟩
theorem start (h : Spec prog 182 #[.int .u64 x0] σ (AA R (fun z y => ∃ x4, (Value.float .f64 x4) = z ∧ Spec prog 174 #[(Value.float .f64 x4)] y (AA R (CI .u64 fun x5 AF => R (.returned (.int .u64 x5)) AF))))) : Spec prog 186 #[.int .u64 x0] σ R := M.start h ok
end Oz
namespace XH
variable {x0 x1 : Int}
def M : Fw := ⟨prog, 194, f194, [203], [], false, [], [], []⟩
theorem ok : M.Ok := ⟨.cons call203 (AG.nil), mixed, func194, by kernel_rfl⟩
theorem start (h : Spec prog 203 #[.int .i64 4, .int .u64 x0, .int .u64 x1] σ (AA R (fun z y => ∃ IT Qm, z = (.tuple #[.int .u64 IT, .bool Qm]) ∧ R (.returned (.int .u64 IT)) y))) : Spec prog 194 #[.int .u64 x0, .int .u64 x1] σ R := M.start h ok
end XH
namespace Lq
variable {TC p1a : Option Addr} {Lp Qw n1a c1a : Nat} {EI CF : Int}
def M : Fw := ⟨prog, 196, f196, [52], [2, 3], false, [], [], []⟩
theorem ok : M.Ok := ⟨.cons call52 (AG.nil), mixed, func196, by kernel_rfl⟩
theorem start (h : ∀ b2 : Nat, ∀ b3 : Nat, Spec prog 52 #[.slice TC Lp Qw, .slice p1a n1a c1a] σ (AA R (CI .i64 fun x9 y => R (.returned (.int .i64 x9)) y))) : Spec prog 196 #[.agg #[.slice TC Lp Qw, .int .u64 EI], .agg #[.slice p1a n1a c1a, .int .u64 CF]] σ R := M.start h ok
end Lq
namespace EO
variable {p0 : Option Addr} {n0 c0 : Nat} {s1 : ByteArray}
def M : Fw := ⟨prog, 199, f199, [228], [], false, [], [], []⟩
theorem ok : M.Ok := ⟨.cons call228 (AG.nil), mixed, func199, by kernel_rfl⟩
theorem start (h : Spec prog 228 #[.slice p0 n0 c0, .string s1] σ (AA R (CI .i64 fun x7 y => R (.returned (.bool (decide (0 ≤ x7)))) y))) : Spec prog 199 #[.slice p0 n0 c0, .string s1] σ R := M.start h ok
end EO
namespace E2
variable {x0 x5 x15 x16 : Int} {p1 I6 : Option Addr} {n1 c1 n14 HB : Nat}
def M : Fw := ⟨prog, 202, f202, [186, 204, 229], [], false, [], [], [(232, [(0, wI), (5, wU), (14, wL), (15, wI), (16, wI)]), (935, [(0, wI), (5, wU), (14, wL), (15, wI), (16, wI)])]⟩
theorem ok : M.Ok := ⟨.cons call186 (.cons call204 (.cons call229 (AG.nil))), mixed, func202, by kernel_rfl⟩
def A0 := M.pt 0
def jm := M.pt 1
theorem start (h : Pq p1 fun A8 iD => In 0 (n1 : Int) ∧ LI .u64 σ A8 iD fun x12 => ((0 : Int) ≤ 1 ∧ 1 ≤ (n1 : Int)) ∧ A0 R x0 x12 ((IF (aD A8 iD) (1) c1 1)) (n1 - 1) (c1 - 1) ((((n1 - 1) : Nat) : Int)) 0 σ) : Spec prog 202 #[.int .i64 x0, .slice p1 n1 c1] σ R := M.start h ok
theorem Aa (h : Br (x16 < x15) (Pq I6 fun Ty aH => In x16 (n14 : Int) ∧ LI .u64 σ Ty (aH + Int.toNat x16 * 1) fun Ck => Spec prog 204 #[.int .i64 x0, .int .u64 Ck, .int .u64 x5] σ (AA R (fun z y => ∃ ACW AJF, z = (.tuple #[.bool ACW, .bool AJF]) ∧ Bo ACW (jm R x0 Ck (aD Ty aH) n14 HB x15 x16 y) (Spec prog 229 #[.int .u64 x5] y (AA R (CB fun t30 AF => Bo t30 (jm R x0 Ck (aD Ty aH) n14 HB x15 x16 AF) (jm R x0 x5 (aD Ty aH) n14 HB x15 x16 AF))))))) (Spec prog 186 #[.int .u64 x5] σ (AA R (CI .u64 fun V9 y => R (.returned (.int .u64 V9)) y)))) : A0 R x0 x5 I6 n14 HB x15 x16 σ := M.of h ok rfl
theorem pq (h : AK (x16 + 1) ∧ A0 R x0 x5 I6 n14 HB x15 (x16 + 1) σ) : jm R x0 x5 I6 n14 HB x15 x16 σ := M.of h ok rfl
end E2
namespace XI
variable {x0 : Int}
def M : Fw := ⟨prog, 229, f229, [186], [], false, [], [], []⟩
theorem ok : M.Ok := ⟨.cons call186 (AG.nil), mixed, func229, by kernel_rfl⟩
theorem start (h : Spec prog 186 #[.int .u64 x0] σ (AA R (CI .u64 fun x4 y => R (.returned (.bool (decide (x4 = 9221120237041090560)))) y))) : Spec prog 229 #[.int .u64 x0] σ R := M.start h ok
end XI
namespace BO
variable {TC p8 : Option Addr} {Lp Qw n8 c8 : Nat} {s1 : ByteArray} {x9 x10 : Int}
def M : Fw := ⟨prog, 236, f236, [257], [2, 6], false, [], [], [(104, [(1, wT), (8, wL), (9, wI), (10, wI)])]⟩
theorem ok : M.Ok := ⟨.cons call257 (AG.nil), mixed, func236, by kernel_rfl⟩
def HX := M.pt 0
theorem start (h : ∀ b2 : Nat, HX R s1 TC Lp Qw (Lp : Int) 0 σ) : Spec prog 236 #[.agg #[.slice TC Lp Qw], .string s1] σ R := M.start h ok
theorem BY (h : Br (x10 < x9) (Pq p8 fun Ov PT => In x10 (n8 : Int) ∧ ∃ jn jo jq, Au σ Ov (PT + Int.toNat x10 * 1) [.slice jn jo jq] ∧ ∀ b6 : Nat, Spec prog 257 #[.agg #[.slice jn jo jq], .string s1] σ (AA R (CB fun t16 y => Bo t16 (R (.returned (.bool true)) y) (AK (x10 + 1) ∧ HX R s1 (aD Ov PT) n8 c8 x9 (x10 + 1) y)))) (R (.returned (.bool false)) σ)) : HX R s1 p8 n8 c8 x9 x10 σ := M.of h ok rfl
end BO
namespace D2
variable {s0 : ByteArray} {x3 x8 x9 x16 : Int} {v4 v2 : Value} {t11 : Bool}
def M : Fw := ⟨prog, 253, f253, [271, 272, 273, 278, 279, 280, 282, 283], [], false, [], [], [(254, [(0, wT), (3, wI), (4, wV)]), (8190, [(2, wV), (3, wI), (4, wV)]), (32446, [(0, wT), (3, wI), (4, wV), (8, wU), (9, wI), (11, wB), (16, wU)])]⟩
theorem ok : M.Ok := ⟨.cons call271 (.cons call272 (.cons call273 (.cons call278 (.cons call279 (.cons call280 (.cons call282 (.cons call283 (AG.nil)))))))), mixed, func253, by kernel_rfl⟩
def AJG := M.pt 0
def ACX := M.pt 2
theorem start (h : Spec prog 271 #[.string s0] σ (AA R (fun z y => ∃ ACY Qy ACZ, z = (.tuple #[ACY, .int .i64 Qy, .bool ACZ]) ∧ Bo ACZ (R (.returned (.tuple #[ACY, .int .i64 Qy, .nilIface])) y) (Spec prog 272 #[.string s0] y (AA R (fun z AF => ∃ fF aI pr xL ACa Qz ACb, z = (.tuple #[.int .u64 fF, .int .i64 aI, .bool pr, .bool xL, .bool ACa, .int .i64 Qz, .bool ACb]) ∧ Bn ACb (R (.returned (.tuple #[.float .f64 0, .int .i64 Qz, (.iface 264 (.int .i64 2))])) AF) (Bo ACa (∃ s53, YF prog (Instr.sliceAt 9 (.string s0) none (some (.int .i64 Qz)) none) AF (.string s53) ∧ Spec prog 273 #[.string s53, (.pointer (aD 6 0)), .int .u64 fF, .int .i64 aI, .bool pr, .bool xL] AF (AA R (fun z AH => ∃ ACc ACd, z = (.tuple #[ACc, ACd]) ∧ R (.returned (.tuple #[ACc, .int .i64 Qz, ACd])) AH))) (LB AF 5 0 fun t64 => Bo t64 (Spec prog 280 #[.bool pr] AF (AA R (CI .u64 fun tS AH => ((0 : Int) ≤ 63 ∧ 63 ≤ ((IntKind.bits .u64 : Nat) : Int)) ∧ Df (IntKind.u64.wrap (tS * 2 ^ Int.toNat 63)) fun aJ => Br (fF = 0) (Df (Go.bits .or .u64 aJ 0) fun x71 => EN prog 281 #[.int .u64 x71] AH (fun z AZ => ∃ x72, (Value.float .f64 x72) = z ∧ R (.returned (.tuple #[(Value.float .f64 x72), .int .i64 Qz, .nilIface])) AZ)) (Br (310 < aI) (Df (Go.bits .or .u64 aJ 9218868437227405312) fun x77 => EN prog 281 #[.int .u64 x77] AH (fun z AZ => ∃ x78, (Value.float .f64 x78) = z ∧ R (.returned (.tuple #[(Value.float .f64 x78), .int .i64 Qz, (.iface 264 (.int .i64 1))])) AZ)) (Br (aI < (-345)) (Df (Go.bits .or .u64 aJ 0) fun x84 => EN prog 281 #[.int .u64 x84] AH (fun z AZ => ∃ x85, (Value.float .f64 x85) = z ∧ R (.returned (.tuple #[(Value.float .f64 x85), .int .i64 Qz, .nilIface])) AZ)) (Bn xL (Spec prog 282 #[.int .u64 fF, .int .i64 aI, .bool pr] AH (AA R (fun z AZ => ∃ ACf ACg, z = (.tuple #[ACf, .bool ACg]) ∧ Bo ACg (R (.returned (.tuple #[ACf, .int .i64 Qz, .nilIface])) AZ) (ACX R s0 Qz .nilIface fF aI false aJ AZ)))) (ACX R s0 Qz .nilIface fF aI true aJ AH))))))) (AJG R s0 Qz .nilIface AF))))))))) : Spec prog 253 #[.string s0] σ R := M.start h ok
end D2
namespace Ah
variable {s0 : ByteArray} {x5 x6 x12 x7 : Int} {t13 t16 t19 : Bool}
def M : Fw := ⟨prog, 271, f271, [299, 300, 301], [], false, [], [], [(128001, [(0, wT), (5, wI), (6, wI), (12, w8), (13, wB)]), (256005, [(0, wT), (5, wI), (6, wI), (12, w8), (16, wB)]), (8004, [(0, wT), (5, wI), (6, wI)]), (256007, [(0, wT), (19, wB)]), (126, []), (32022, [(5, wI), (6, wI), (7, wI)]), (32006, [(0, wT), (5, wI)])]⟩
theorem ok : M.Ok := ⟨.cons call299 (.cons call300 (.cons call301 (AG.nil))), mixed, func271, by kernel_rfl⟩
def E3 := M.pt 0
def xM := M.pt 1
def AJH := M.pt 2
def XJ := M.pt 3
def xN := M.pt 4
def ACh := M.pt 6
theorem start (h : Br ((((ByteArray.size s0 : Nat) : Int) : Int) = 0) (R (.returned (.tuple #[.float .f64 0, .int .i64 0, .bool false])) σ) (∃ u12 : UInt8, (0 : Int) ≤ 0 ∧ (ByteArray.data s0)[Int.toNat 0]? = some u12 ∧ Br ((((UInt8.toNat u12 : Nat) : Int) : Int) = 43) (E3 R s0 1 0 (((UInt8.toNat u12 : Nat) : Int)) true σ) (E3 R s0 1 0 (((UInt8.toNat u12 : Nat) : Int)) ((decide ((((UInt8.toNat u12 : Nat) : Int) : Int) = 45))) σ))) : Spec prog 271 #[.string s0] σ R := M.start h ok
theorem VE (h : Bo t13 (∃ u23 : UInt8, (0 : Int) ≤ 0 ∧ (ByteArray.data s0)[Int.toNat 0]? = some u23 ∧ Br ((((UInt8.toNat u23 : Nat) : Int) : Int) = 45) (ACh R s0 (-1) σ) (ACh R s0 x5 σ)) (Br (x12 = 105) (xM R s0 x5 x6 x12 true σ) (xM R s0 x5 x6 x12 ((decide (x12 = 73))) σ))) : E3 R s0 x5 x6 x12 t13 σ := M.of h ok rfl
theorem pw (h : Bo t16 (AJH R s0 x5 x6 σ) (Br (x12 = 110) (XJ R s0 true σ) (XJ R s0 ((decide (x12 = 78))) σ))) : xM R s0 x5 x6 x12 t16 σ := M.of h ok rfl
theorem VF (h : Bo t19 (Spec prog 299 #[.string s0, (.string (ByteArray.mk #[110, 97, 110]))] σ (AA R (CI .i64 fun jr y => Br (jr = 3) (Spec prog 301 #[] y (AA R (fun z AF => ∃ Qh, (Value.float .f64 Qh) = z ∧ R (.returned (.tuple #[(Value.float .f64 Qh), .int .i64 3, .bool true])) AF))) (xN R y)))) (xN R σ)) : XJ R s0 t19 σ := M.of h ok rfl
theorem qA (h : R (.returned (.tuple #[.float .f64 0, .int .i64 0, .bool false])) σ) : xN R  σ := M.of h ok rfl
end Ah
namespace CC
variable {t0 : Bool}
def M : Fw := ⟨prog, 280, f280, [], [], false, [], [], []⟩
theorem ok : M.Ok := ⟨AG.nil, mixed, func280, by kernel_rfl⟩
theorem start (h : Bo t0 (R (.returned (.int .u64 1)) σ) (R (.returned (.int .u64 0)) σ)) : Spec prog 280 #[.bool t0] σ R := M.start h ok
end CC
namespace HE
variable {s0 s1 : ByteArray}
def M : Fw := ⟨prog, 286, f286, [316], [], false, [], [], []⟩
theorem ok : M.Ok := ⟨.cons call316 (AG.nil), mixed, func286, by kernel_rfl⟩
theorem start (h : Spec prog 316 #[.string s0, .string s1] σ (AA R (CB fun t7 y => R (.returned (.bool t7)) y))) : Spec prog 286 #[.string s0, .string s1] σ R := M.start h ok
end HE
namespace Bs
variable {s0 s1 : ByteArray}
def M : Fw := ⟨prog, 316, f316, [], [], false, [], [], []⟩
theorem ok : M.Ok := ⟨AG.nil, mixed, func316, by kernel_rfl⟩
theorem start (h : Br ((((ByteArray.size s1 : Nat) : Int) : Int) ≤ ((ByteArray.size s0 : Nat) : Int)) (AK (((ByteArray.size s0 : Nat) : Int) - ((ByteArray.size s1 : Nat) : Int)) ∧ ∃ s17, YF prog (Instr.sliceAt 9 (.string s0) (some (.int .i64 (((ByteArray.size s0 : Nat) : Int) - ((ByteArray.size s1 : Nat) : Int)))) none none) σ (.string s17) ∧ R (.returned (.bool (ByteArray.toList s17 == ByteArray.toList s1))) σ) (R (.returned (.bool false)) σ)) : Spec prog 316 #[.string s0, .string s1] σ R := M.start h ok
end Bs
end TwW
end
end
section
set_option maxRecDepth 100000
noncomputable section
namespace TwW
open Go Tw Go.Proofs.Tryz
variable [Eg] {R : Rr} {σ : Hp}

namespace DA
variable {p0 p1 LD p33 : Option Addr} {n0 c0 n1 c1 n11 LF n33 c33 : Nat} {x2 xO V9 : Int}
def M : Fw := ⟨prog, 11, f11, [28, 29, 30], [13], false, [], [], [(4072, [(2, wI), (11, wL), (33, wL), (34, wI), (35, wI)])]⟩
theorem ok : M.Ok := ⟨.cons call28 (.cons call29 (.cons call30 (AG.nil))), mixed, func11, by kernel_rfl⟩
def PZ := M.pt 0
theorem start (h : Spec prog 28 #[.slice p0 n0 c0, .slice p1 n1 c1] σ (AA R (CI .i64 fun x16 y => Br (x16 ≠ 0) (R (.returned (.tuple #[.slice none 0 0, .int .i64 x16])) y) (Spec prog 29 #[.int .i64 x2] y (AA R (CB fun t21 AF => Bn t21 (R (.returned (.tuple #[.slice none 0 0, .int .i64 221])) AF) (Spec prog 30 #[.slice p0 n0 c0, .slice p1 n1 c1, .int .i64 x2] AF (AA R (fun z AH => ∃ MP Lc MQ XK, z = (.tuple #[.slice MP Lc MQ, .int .i64 XK]) ∧ Br (XK ≠ 0) (R (.returned (.tuple #[.slice none 0 0, .int .i64 XK])) AH) (PZ R x2 none 0 0 MP Lc MQ (Lc : Int) 0 AH)))))))))) : Spec prog 11 #[.slice p0 n0 c0, .slice p1 n1 c1, .int .i64 x2] σ R := M.start h ok
theorem P4 (h : Br (V9 < xO) (Pq p33 fun b37 o37 => In V9 (n33 : Int) ∧ ∃ qB qC qD G0, Au σ b37 (o37 + Int.toNat V9 * 2) [.slice qB qC qD, .int .u64 G0] ∧ ∀ C7 : Nat, (Al σ fun WA => (AJ prog (Builtin.append_ #[37, 37] 37 #[(.slice (aD WA 0) 0 0), .slice qB qC qD]) (Hp.set σ WA (.cells #[] 56 (0, 0))) (CS fun iE n43 iF y => Al y fun Pa => Al (Hp.set y Pa (.cells #[.int .i64 x2, .int .u64 G0] 50 (0, 0))) fun VH => AJ prog (Builtin.append_ #[23, 23] 23 #[.slice LD n11 LF, (.slice (aD VH 0) 1 1)]) (Hp.set (Hp.set y Pa (.cells #[.int .i64 x2, .int .u64 G0] 50 (0, 0))) VH (.cells #[.slice iE n43 iF, (.slice (aD Pa 0) 1 1)] 40 (0, 0))) (CS fun p51 n51 c51 AF => AK (V9 + 1) ∧ PZ R x2 p51 n51 c51 (aD b37 o37) n33 c33 xO (V9 + 1) AF))) ∧ (Al (Hp.set σ WA (.cells #[] 56 (0, 0))) fun Pa => AJ prog (Builtin.append_ #[37, 37] 37 #[(.slice (aD WA 0) 0 0), .slice qB qC qD]) (Hp.set (Hp.set σ WA (.cells #[] 56 (0, 0))) Pa (.cells #[.int .i64 x2, .int .u64 G0] 50 (0, 0))) (CS fun iE n43 iF y => Al y fun VH => AJ prog (Builtin.append_ #[23, 23] 23 #[.slice LD n11 LF, (.slice (aD VH 0) 1 1)]) (Hp.set y VH (.cells #[.slice iE n43 iF, (.slice (aD Pa 0) 1 1)] 40 (0, 0))) (CS fun p51 n51 c51 AF => AK (V9 + 1) ∧ PZ R x2 p51 n51 c51 (aD b37 o37) n33 c33 xO (V9 + 1) AF)))) ∧ (Al σ fun Pa => Al (Hp.set σ Pa (.cells #[.int .i64 x2, .int .u64 G0] 50 (0, 0))) fun WA => AJ prog (Builtin.append_ #[37, 37] 37 #[(.slice (aD WA 0) 0 0), .slice qB qC qD]) (Hp.set (Hp.set σ Pa (.cells #[.int .i64 x2, .int .u64 G0] 50 (0, 0))) WA (.cells #[] 56 (0, 0))) (CS fun iE n43 iF y => Al y fun VH => AJ prog (Builtin.append_ #[23, 23] 23 #[.slice LD n11 LF, (.slice (aD VH 0) 1 1)]) (Hp.set y VH (.cells #[.slice iE n43 iF, (.slice (aD Pa 0) 1 1)] 40 (0, 0))) (CS fun p51 n51 c51 AF => AK (V9 + 1) ∧ PZ R x2 p51 n51 c51 (aD b37 o37) n33 c33 xO (V9 + 1) AF)))) (R (.returned (.tuple #[.slice LD n11 LF, .int .i64 0])) σ)) : PZ R x2 LD n11 LF p33 n33 c33 xO V9 σ := M.of h ok rfl
end DA
namespace Bt
variable {q0 p1 p4c GH p6 p7 I6 : Option Addr} {n1 c1 n4c c4c GI GJ n6 c6 n7 c7 n14 HB : Nat} {Fc FK x15 x16 : Int}
def M : Fw := ⟨prog, 47, f47, [70], [4, 9], false, [], [], [(488, [(0, wQ), (4, .X 93 [.I .i64, .I .u64, .L, .L]), (6, wL), (7, wL), (14, wL), (15, wI), (16, wI)])]⟩
theorem ok : M.Ok := ⟨.cons call70 (AG.nil), mixed, func47, by kernel_rfl⟩
def Ep := M.pt 0
theorem start (h : ∀ b4 : Nat, Spec prog 70 #[] σ (AA R (CS fun p13 n13 c13 y => Ep R q0 0 0 none 0 0 none 0 0 p13 n13 c13 none 0 0 p1 n1 c1 (n1 : Int) 0 y))) : Spec prog 47 #[.pointer q0, .slice p1 n1 c1] σ R := M.start h ok
theorem FD (h : Br (x16 < x15) (Pq I6 fun Ty aH => In x16 (n14 : Int) ∧ ∃ Ji OE U9 js jt ju jv jw jx jy jz j0 j1 EP, Au σ Ty (aH + Int.toNat x16 * 10) [.int .i64 Ji, .int .i64 OE, .string U9, .slice js jt ju, .int .i64 jv, .int .i64 jw, .int .i64 jx, .slice jy jz j0, .bool j1, .int .i64 EP] ∧ ∀ b9 : Nat, AK ((n7 : Int) - EP) ∧ Pq p6 fun XL cw => In Ji (n6 : Int) ∧ ∃ v30, Hp.ld σ ⟨XL, (cw + Int.toNat Ji * 1), none⟩ = some v30 ∧ ((0 : Int) ≤ ((n7 : Int) - EP) ∧ ((n7 : Int) - EP) ≤ (n7 : Int)) ∧ (Al σ fun cz => (AJ prog (Builtin.append_ #[136, 136] 136 #[(.slice (aD cz 0) 0 0), (.slice (IF p7 (Int.toNat ((n7 : Int) - EP)) c7 4) (n7 - Int.toNat ((n7 : Int) - EP)) (c7 - Int.toNat ((n7 : Int) - EP)))]) (Hp.set σ cz (.cells #[] 93 (0, 0))) (CS fun T1 n37 T3 y => Kp [XL] (Hp.set σ cz (.cells #[] 93 (0, 0))) y ∧ (∃ (f38 : Nat) (HF HG : Array Value), v30 = .func (.func f38) HF HG ∧ Enters prog f38 ∧ Spec prog f38 (HF ++ #[.pointer q0, .agg #[.int .i64 Ji, .int .i64 OE, .string U9, .slice js jt ju, .int .i64 jv, .int .i64 jw, .int .i64 jx, .slice jy jz j0, .bool j1, .int .i64 EP], .slice T1 n37 T3] ++ HG) y (AA R (fun z AF => ∃ Jj Jk Jl Jm Jn Jo Jp Jq G0, z = (.tuple #[.agg #[.int .i64 Jj, .int .u64 Jk, .slice Jl Jm Jn, .slice Jo Jp Jq], .int .i64 G0]) ∧ Al AF fun A8 => AJ prog (Instr.storeAt 93 (.pointer (aD A8 0)) (.agg #[.int .i64 Jj, .int .u64 Jk, .slice Jl Jm Jn, .slice Jo Jp Jq])) (Hp.set AF A8 (.cells #[.int .i64 0, .int .u64 0, .slice none 0 0, .slice none 0 0] 93 (0, 0))) (fun _ AH => Br (G0 ≠ 0) (R (.returned (.tuple #[.agg #[.int .i64 0, .int .u64 0, .slice none 0 0, .slice none 0 0], .int .i64 G0])) AH) (((0 : Int) ≤ ((n7 : Int) - EP) ∧ ((n7 : Int) - EP) ≤ (c7 : Int)) ∧ ∃ M6 M7 M8 M9 NA NB NC ND, Au AH A8 0 [.int .i64 M6, .int .u64 M7, .slice M8 M9 NA, .slice NB NC ND] ∧ Al AH fun Tz => AJ prog (Builtin.append_ #[136, 136] 136 #[(.slice p7 (Int.toNat ((n7 : Int) - EP)) c7), (.slice (aD Tz 0) 1 1)]) (Hp.set AH Tz (.cells #[.int .i64 M6, .int .u64 M7, .slice M8 M9 NA, .slice NB NC ND] 93 (0, 0))) (CS fun aC n50 aF AZ => AK (x16 + 1) ∧ Ep R q0 Fc FK p4c n4c c4c GH GI GJ (aD XL cw) n6 c6 aC n50 aF (aD Ty aH) n14 HB x15 (x16 + 1) AZ)))))) ∧ (Al y fun A8 => ∃ (f38 : Nat) (HF HG : Array Value), v30 = .func (.func f38) HF HG ∧ Enters prog f38 ∧ Spec prog f38 (HF ++ #[.pointer q0, .agg #[.int .i64 Ji, .int .i64 OE, .string U9, .slice js jt ju, .int .i64 jv, .int .i64 jw, .int .i64 jx, .slice jy jz j0, .bool j1, .int .i64 EP], .slice T1 n37 T3] ++ HG) (Hp.set y A8 (.cells #[.int .i64 0, .int .u64 0, .slice none 0 0, .slice none 0 0] 93 (0, 0))) (AA R (fun z AF => ∃ Jj Jk Jl Jm Jn Jo Jp Jq G0, z = (.tuple #[.agg #[.int .i64 Jj, .int .u64 Jk, .slice Jl Jm Jn, .slice Jo Jp Jq], .int .i64 G0]) ∧ AJ prog (Instr.storeAt 93 (.pointer (aD A8 0)) (.agg #[.int .i64 Jj, .int .u64 Jk, .slice Jl Jm Jn, .slice Jo Jp Jq])) AF (fun _ AH => Br (G0 ≠ 0) (R (.returned (.tuple #[.agg #[.int .i64 0, .int .u64 0, .slice none 0 0, .slice none 0 0], .int .i64 G0])) AH) (((0 : Int) ≤ ((n7 : Int) - EP) ∧ ((n7 : Int) - EP) ≤ (c7 : Int)) ∧ ∃ M6 M7 M8 M9 NA NB NC ND, Au AH A8 0 [.int .i64 M6, .int .u64 M7, .slice M8 M9 NA, .slice NB NC ND] ∧ Al AH fun Tz => AJ prog (Builtin.append_ #[136, 136] 136 #[(.slice p7 (Int.toNat ((n7 : Int) - EP)) c7), (.slice (aD Tz 0) 1 1)]) (Hp.set AH Tz (.cells #[.int .i64 M6, .int .u64 M7, .slice M8 M9 NA, .slice NB NC ND] 93 (0, 0))) (CS fun aC n50 aF AZ => AK (x16 + 1) ∧ Ep R q0 Fc FK p4c n4c c4c GH GI GJ (aD XL cw) n6 c6 aC n50 aF (aD Ty aH) n14 HB x15 (x16 + 1) AZ)))))))) ∧ (Al (Hp.set σ cz (.cells #[] 93 (0, 0))) fun A8 => AJ prog (Builtin.append_ #[136, 136] 136 #[(.slice (aD cz 0) 0 0), (.slice (IF p7 (Int.toNat ((n7 : Int) - EP)) c7 4) (n7 - Int.toNat ((n7 : Int) - EP)) (c7 - Int.toNat ((n7 : Int) - EP)))]) (Hp.set (Hp.set σ cz (.cells #[] 93 (0, 0))) A8 (.cells #[.int .i64 0, .int .u64 0, .slice none 0 0, .slice none 0 0] 93 (0, 0))) (CS fun T1 n37 T3 y => Kp [XL] (Hp.set (Hp.set σ cz (.cells #[] 93 (0, 0))) A8 (.cells #[.int .i64 0, .int .u64 0, .slice none 0 0, .slice none 0 0] 93 (0, 0))) y ∧ ∃ (f38 : Nat) (HF HG : Array Value), v30 = .func (.func f38) HF HG ∧ Enters prog f38 ∧ Spec prog f38 (HF ++ #[.pointer q0, .agg #[.int .i64 Ji, .int .i64 OE, .string U9, .slice js jt ju, .int .i64 jv, .int .i64 jw, .int .i64 jx, .slice jy jz j0, .bool j1, .int .i64 EP], .slice T1 n37 T3] ++ HG) y (AA R (fun z AF => ∃ Jj Jk Jl Jm Jn Jo Jp Jq G0, z = (.tuple #[.agg #[.int .i64 Jj, .int .u64 Jk, .slice Jl Jm Jn, .slice Jo Jp Jq], .int .i64 G0]) ∧ AJ prog (Instr.storeAt 93 (.pointer (aD A8 0)) (.agg #[.int .i64 Jj, .int .u64 Jk, .slice Jl Jm Jn, .slice Jo Jp Jq])) AF (fun _ AH => Br (G0 ≠ 0) (R (.returned (.tuple #[.agg #[.int .i64 0, .int .u64 0, .slice none 0 0, .slice none 0 0], .int .i64 G0])) AH) (((0 : Int) ≤ ((n7 : Int) - EP) ∧ ((n7 : Int) - EP) ≤ (c7 : Int)) ∧ ∃ M6 M7 M8 M9 NA NB NC ND, Au AH A8 0 [.int .i64 M6, .int .u64 M7, .slice M8 M9 NA, .slice NB NC ND] ∧ Al AH fun Tz => AJ prog (Builtin.append_ #[136, 136] 136 #[(.slice p7 (Int.toNat ((n7 : Int) - EP)) c7), (.slice (aD Tz 0) 1 1)]) (Hp.set AH Tz (.cells #[.int .i64 M6, .int .u64 M7, .slice M8 M9 NA, .slice NB NC ND] 93 (0, 0))) (CS fun aC n50 aF AZ => AK (x16 + 1) ∧ Ep R q0 Fc FK p4c n4c c4c GH GI GJ (aD XL cw) n6 c6 aC n50 aF (aD Ty aH) n14 HB x15 (x16 + 1) AZ)))))))) ∧ (Al σ fun A8 => Al (Hp.set σ A8 (.cells #[.int .i64 0, .int .u64 0, .slice none 0 0, .slice none 0 0] 93 (0, 0))) fun cz => AJ prog (Builtin.append_ #[136, 136] 136 #[(.slice (aD cz 0) 0 0), (.slice (IF p7 (Int.toNat ((n7 : Int) - EP)) c7 4) (n7 - Int.toNat ((n7 : Int) - EP)) (c7 - Int.toNat ((n7 : Int) - EP)))]) (Hp.set (Hp.set σ A8 (.cells #[.int .i64 0, .int .u64 0, .slice none 0 0, .slice none 0 0] 93 (0, 0))) cz (.cells #[] 93 (0, 0))) (CS fun T1 n37 T3 y => Kp [XL] (Hp.set (Hp.set σ A8 (.cells #[.int .i64 0, .int .u64 0, .slice none 0 0, .slice none 0 0] 93 (0, 0))) cz (.cells #[] 93 (0, 0))) y ∧ ∃ (f38 : Nat) (HF HG : Array Value), v30 = .func (.func f38) HF HG ∧ Enters prog f38 ∧ Spec prog f38 (HF ++ #[.pointer q0, .agg #[.int .i64 Ji, .int .i64 OE, .string U9, .slice js jt ju, .int .i64 jv, .int .i64 jw, .int .i64 jx, .slice jy jz j0, .bool j1, .int .i64 EP], .slice T1 n37 T3] ++ HG) y (AA R (fun z AF => ∃ Jj Jk Jl Jm Jn Jo Jp Jq G0, z = (.tuple #[.agg #[.int .i64 Jj, .int .u64 Jk, .slice Jl Jm Jn, .slice Jo Jp Jq], .int .i64 G0]) ∧ AJ prog (Instr.storeAt 93 (.pointer (aD A8 0)) (.agg #[.int .i64 Jj, .int .u64 Jk, .slice Jl Jm Jn, .slice Jo Jp Jq])) AF (fun _ AH => Br (G0 ≠ 0) (R (.returned (.tuple #[.agg #[.int .i64 0, .int .u64 0, .slice none 0 0, .slice none 0 0], .int .i64 G0])) AH) (((0 : Int) ≤ ((n7 : Int) - EP) ∧ ((n7 : Int) - EP) ≤ (c7 : Int)) ∧ ∃ M6 M7 M8 M9 NA NB NC ND, Au AH A8 0 [.int .i64 M6, .int .u64 M7, .slice M8 M9 NA, .slice NB NC ND] ∧ Al AH fun Tz => AJ prog (Builtin.append_ #[136, 136] 136 #[(.slice p7 (Int.toNat ((n7 : Int) - EP)) c7), (.slice (aD Tz 0) 1 1)]) (Hp.set AH Tz (.cells #[.int .i64 M6, .int .u64 M7, .slice M8 M9 NA, .slice NB NC ND] 93 (0, 0))) (CS fun aC n50 aF AZ => AK (x16 + 1) ∧ Ep R q0 Fc FK p4c n4c c4c GH GI GJ (aD XL cw) n6 c6 aC n50 aF (aD Ty aH) n14 HB x15 (x16 + 1) AZ)))))))) (Pq p7 fun Mo o53 => In 0 (n7 : Int) ∧ ∃ XM XN ACo ACp ACq XO XP XQ, Au σ Mo o53 [.int .i64 XM, .int .u64 XN, .slice ACo ACp ACq, .slice XO XP XQ] ∧ R (.returned (.tuple #[.agg #[.int .i64 XM, .int .u64 XN, .slice ACo ACp ACq, .slice XO XP XQ], .int .i64 0])) σ)) : Ep R q0 Fc FK p4c n4c c4c GH GI GJ p6 n6 c6 p7 n7 c7 I6 n14 HB x15 x16 σ := M.hZ h ok rfl fun _ => by kernel_rfl
end Bt
namespace JA
variable {ta ZC s1a s1b : ByteArray}
def M : Fw := ⟨prog, 76, f76, [77, 78], [2, 3], false, [], [], []⟩
theorem ok : M.Ok := ⟨.cons call77 (.cons call78 (AG.nil)), mixed, func76, by kernel_rfl⟩
theorem start (h : ∀ b2 : Nat, ∀ b3 : Nat, Spec prog 78 #[.string ta, .string s1a] σ (AA R (CI .i64 fun x9 y => Spec prog 78 #[.string ZC, .string s1b] y (AA R (CI .i64 fun La AF => Al AF fun b15 => Spec prog 77 #[(.slice (aD b15 0) 2 2)] (Hp.set AF b15 (.cells #[.int .i64 x9, .int .i64 La] 3 (0, 0))) (AA R (CI .i64 fun x16 AH => R (.returned (.int .i64 x16)) AH))))))) : Spec prog 76 #[.agg #[.string ta, .string ZC], .agg #[.string s1a, .string s1b]] σ R := M.start h ok
end JA
namespace JB
variable {s0 s1 : ByteArray}
def M : Fw := ⟨prog, 78, f78, [119], [], false, [], [], []⟩
theorem ok : M.Ok := ⟨.cons call119 (AG.nil), mixed, func78, by kernel_rfl⟩
theorem start (h : Spec prog 119 #[.string s0, .string s1] σ (AA R (CI .i64 fun x7 y => R (.returned (.int .i64 x7)) y))) : Spec prog 78 #[.string s0, .string s1] σ R := M.start h ok
end JB
namespace FM
variable {p0 p8 : Option Addr} {n0 c0 n8 c8 : Nat} {x9 x10 : Int}
def M : Fw := ⟨prog, 80, f80, [125, 126], [4], false, [], [], [(232, [(8, wL), (9, wI), (10, wI)])]⟩
theorem ok : M.Ok := ⟨.cons call125 (.cons call126 (AG.nil)), mixed, func80, by kernel_rfl⟩
def LY := M.pt 0
theorem start (h : Br (8 < (n0 : Int)) (R (.returned (.int .i64 41)) σ) (LY R p0 n0 c0 (n0 : Int) 0 σ)) : Spec prog 80 #[.slice p0 n0 c0] σ R := M.start h ok
theorem IS (h : Br (x10 < x9) (Pq p8 fun Ov PT => In x10 (n8 : Int) ∧ ∃ j2 fD ACs, Au σ Ov (PT + Int.toNat x10 * 3) [.int .i64 j2, .string fD, .string ACs] ∧ ∀ b4 : Nat, Spec prog 125 #[.int .i64 j2] σ (AA R (CB fun t16 y => Bn t16 (R (.returned (.int .i64 40)) y) (Spec prog 126 #[.string fD] y (AA R (CB fun t21 AF => Bn t21 (R (.returned (.int .i64 40)) AF) (Br ((256 : Int) < ((ByteArray.size ACs : Nat) : Int)) (R (.returned (.int .i64 40)) AF) (AK (x10 + 1) ∧ LY R (aD Ov PT) n8 c8 x9 (x10 + 1) AF)))))))) (R (.returned (.int .i64 0)) σ)) : LY R p8 n8 c8 x9 x10 σ := M.of h ok rfl
end FM
namespace Ba
variable {q0 DS Da p2 : Option Addr} {DP CF DQ DT Ct CK x8 : Int} {DR : ByteArray} {DU DV DW Db n2 c2 : Nat} {Cu : Bool}
def M : Fw := ⟨prog, 82, f82, [], [4], false, [], [], [(60, [(2, wL), (8, wI)])]⟩
theorem ok : M.Ok := ⟨AG.nil, mixed, func82, by kernel_rfl⟩
def Ep := M.pt 0
theorem start (h : ∀ b4 : Nat, Br (CF = 11) (Ep R p2 n2 c2 2 σ) (Br (CF = 12) (Ep R p2 n2 c2 2 σ) (Ep R p2 n2 c2 3 σ))) : Spec prog 82 #[.pointer q0, .agg #[.int .i64 DP, .int .i64 CF, .string DR, .slice DS DU DV, .int .i64 DQ, .int .i64 DT, .int .i64 Ct, .slice Da DW Db, .bool Cu, .int .i64 CK], .slice p2 n2 c2] σ R := M.start h ok
theorem FD (h : Pq p2 fun Ty aH => In 0 (n2 : Int) ∧ LI .i64 σ Ty aH fun HS => Br (HS ≠ x8) (R (.returned (.tuple #[.int .i64 0, .int .i64 191])) σ) (R (.returned (.tuple #[.int .i64 2, .int .i64 0])) σ)) : Ep R p2 n2 c2 x8 σ := M.of h ok rfl
end Ba
namespace Gb
variable {s0 : ByteArray} {x3 x4 x5 : Int}
def M : Fw := ⟨prog, 93, f93, [131], [], false, [], [], [(2000, [(0, wT), (3, wI), (4, wI), (5, wI)]), (508, [(4, wI)])]⟩
theorem ok : M.Ok := ⟨.cons call131 (AG.nil), mixed, func93, by kernel_rfl⟩
def qE := M.pt 0
def PQ := M.pt 1
theorem start (h : Spec prog 131 #[.string s0] σ (AA R (CI .i64 fun x7 y => Br (x7 = 0) (R (.returned (.int .i64 0)) y) (Br (10 < x7) (R (.returned (.int .i64 0)) y) (∃ u16 : UInt8, (0 : Int) ≤ 0 ∧ (ByteArray.data s0)[Int.toNat 0]? = some u16 ∧ Br ((((UInt8.toNat u16 : Nat) : Int) : Int) = 48) (R (.returned (.int .i64 0)) y) (AK (x7 + 1) ∧ Br (((x7 + 1) : Int) ≠ ((ByteArray.size s0 : Nat) : Int)) (R (.returned (.int .i64 0)) y) (qE R s0 x7 0 0 y))))))) : Spec prog 93 #[.string s0] σ R := M.start h ok
theorem dA (h : Br (x5 < x3) (AK (10 * x4) ∧ ∃ u35 : UInt8, 0 ≤ x5 ∧ (ByteArray.data s0)[Int.toNat x5]? = some u35 ∧ Df (IntKind.u8.wrap (((UInt8.toNat u35 : Nat) : Int) - 48)) fun ZD => Df (IntKind.i64.wrap ZD) fun Pb => AK ((10 * x4) + Pb) ∧ AK (x5 + 1) ∧ qE R s0 x3 (((10 * x4) + Pb)) (x5 + 1) σ) (∃ u41 : UInt8, 0 ≤ x3 ∧ (ByteArray.data s0)[Int.toNat x3]? = some u41 ∧ Br ((((UInt8.toNat u41 : Nat) : Int) : Int) = 115) (PQ R x4 σ) (Br ((((UInt8.toNat u41 : Nat) : Int) : Int) = 109) (AK (x4 * 60) ∧ PQ R (x4 * 60) σ) (Br ((((UInt8.toNat u41 : Nat) : Int) : Int) = 104) (AK (x4 * 3600) ∧ PQ R (x4 * 3600) σ) (Br ((((UInt8.toNat u41 : Nat) : Int) : Int) = 100) (AK (x4 * 86400) ∧ PQ R (x4 * 86400) σ) (R (.returned (.int .i64 0)) σ)))))) : qE R s0 x3 x4 x5 σ := M.of h ok rfl
theorem P0 (h : Br (2147483648 ≤ x4) (R (.returned (.int .i64 0)) σ) (R (.returned (.int .i64 x4)) σ)) : PQ R x4 σ := M.of h ok rfl
end Gb
namespace E4
variable {s0 : ByteArray} {x3 : Int}
def M : Fw := ⟨prog, 98, f98, [], [], false, [], [], [(464, [(0, wT), (3, wI)])]⟩
theorem ok : M.Ok := ⟨AG.nil, mixed, func98, by kernel_rfl⟩
def JN := M.pt 0
theorem start (h : Bo ((ByteArray.toList s0 == ByteArray.toList (ByteArray.mk #[]))) (R (.returned (.bool false)) σ) (Br ((64 : Int) < ((ByteArray.size s0 : Nat) : Int)) (R (.returned (.bool false)) σ) (∃ LG : UInt8, (0 : Int) ≤ 0 ∧ (ByteArray.data s0)[Int.toNat 0]? = some LG ∧ Br ((48 : Int) ≤ ((UInt8.toNat LG : Nat) : Int)) (∃ u18 : UInt8, (0 : Int) ≤ 0 ∧ (ByteArray.data s0)[Int.toNat 0]? = some u18 ∧ Br ((((UInt8.toNat u18 : Nat) : Int) : Int) ≤ 57) (R (.returned (.bool false)) σ) (JN R s0 0 σ)) (JN R s0 0 σ)))) : Spec prog 98 #[.string s0] σ R := M.start h ok
theorem NF (h : Br (x3 < ((ByteArray.size s0 : Nat) : Int)) (∃ ZE : UInt8, 0 ≤ x3 ∧ (ByteArray.data s0)[Int.toNat x3]? = some ZE ∧ Br ((((UInt8.toNat ZE : Nat) : Int) : Int) ≠ 95) (Br ((((UInt8.toNat ZE : Nat) : Int) : Int) < 48) (Br ((((UInt8.toNat ZE : Nat) : Int) : Int) < 65) (Br ((((UInt8.toNat ZE : Nat) : Int) : Int) < 97) (R (.returned (.bool false)) σ) (Br ((122 : Int) < ((UInt8.toNat ZE : Nat) : Int)) (R (.returned (.bool false)) σ) (AK (x3 + 1) ∧ JN R s0 (x3 + 1) σ))) (Br ((90 : Int) < ((UInt8.toNat ZE : Nat) : Int)) (Br ((((UInt8.toNat ZE : Nat) : Int) : Int) < 97) (R (.returned (.bool false)) σ) (Br ((122 : Int) < ((UInt8.toNat ZE : Nat) : Int)) (R (.returned (.bool false)) σ) (AK (x3 + 1) ∧ JN R s0 (x3 + 1) σ))) (AK (x3 + 1) ∧ JN R s0 (x3 + 1) σ))) (Br ((57 : Int) < ((UInt8.toNat ZE : Nat) : Int)) (Br ((((UInt8.toNat ZE : Nat) : Int) : Int) < 65) (Br ((((UInt8.toNat ZE : Nat) : Int) : Int) < 97) (R (.returned (.bool false)) σ) (Br ((122 : Int) < ((UInt8.toNat ZE : Nat) : Int)) (R (.returned (.bool false)) σ) (AK (x3 + 1) ∧ JN R s0 (x3 + 1) σ))) (Br ((90 : Int) < ((UInt8.toNat ZE : Nat) : Int)) (Br ((((UInt8.toNat ZE : Nat) : Int) : Int) < 97) (R (.returned (.bool false)) σ) (Br ((122 : Int) < ((UInt8.toNat ZE : Nat) : Int)) (R (.returned (.bool false)) σ) (AK (x3 + 1) ∧ JN R s0 (x3 + 1) σ))) (AK (x3 + 1) ∧ JN R s0 (x3 + 1) σ))) (AK (x3 + 1) ∧ JN R s0 (x3 + 1) σ))) (AK (x3 + 1) ∧ JN R s0 (x3 + 1) σ)) (R (.returned (.bool true)) σ)) : JN R s0 x3 σ := M.of h ok rfl
end E4
namespace Ai
variable {s0 : ByteArray} {x3 x4 x5 x6 : Int}
def M : Fw := ⟨prog, 99, f99, [], [], false, [], [], [(220, [(0, wT), (3, wI)]), (894, [(0, wT), (3, wI), (4, wI), (5, w8), (6, w8)]), (7164, [(0, wT), (3, wI), (4, wI), (5, w8), (6, w8)])]⟩
theorem ok : M.Ok := ⟨AG.nil, mixed, func99, by kernel_rfl⟩
def BT := M.pt 0
def G1 := M.pt 1
def j3 := M.pt 2
theorem start (h : BT R s0 0 σ) : Spec prog 99 #[.string s0] σ R := M.start h ok
theorem A5 (h : Br (x3 = ((ByteArray.size s0 : Nat) : Int)) (R (.returned (.bool true)) σ) (∃ LG : UInt8, 0 ≤ x3 ∧ (ByteArray.data s0)[Int.toNat x3]? = some LG ∧ Br ((((UInt8.toNat LG : Nat) : Int) : Int) < 128) (AK (x3 + 1) ∧ BT R s0 (x3 + 1) σ) (Br ((194 : Int) ≤ ((UInt8.toNat LG : Nat) : Int)) (Br ((((UInt8.toNat LG : Nat) : Int) : Int) ≤ 223) (G1 R s0 x3 1 128 191 σ) (Br ((224 : Int) ≤ ((UInt8.toNat LG : Nat) : Int)) (Br ((((UInt8.toNat LG : Nat) : Int) : Int) ≤ 239) (Br ((((UInt8.toNat LG : Nat) : Int) : Int) = 224) (G1 R s0 x3 2 160 191 σ) (Br ((((UInt8.toNat LG : Nat) : Int) : Int) = 237) (G1 R s0 x3 2 128 159 σ) (G1 R s0 x3 2 128 191 σ))) (Br ((240 : Int) ≤ ((UInt8.toNat LG : Nat) : Int)) (Br ((((UInt8.toNat LG : Nat) : Int) : Int) ≤ 244) (Br ((((UInt8.toNat LG : Nat) : Int) : Int) = 240) (G1 R s0 x3 3 144 191 σ) (Br ((((UInt8.toNat LG : Nat) : Int) : Int) = 244) (G1 R s0 x3 3 128 143 σ) (G1 R s0 x3 3 128 191 σ))) (R (.returned (.bool false)) σ)) (R (.returned (.bool false)) σ))) (Br ((240 : Int) ≤ ((UInt8.toNat LG : Nat) : Int)) (Br ((((UInt8.toNat LG : Nat) : Int) : Int) ≤ 244) (Br ((((UInt8.toNat LG : Nat) : Int) : Int) = 240) (G1 R s0 x3 3 144 191 σ) (Br ((((UInt8.toNat LG : Nat) : Int) : Int) = 244) (G1 R s0 x3 3 128 143 σ) (G1 R s0 x3 3 128 191 σ))) (R (.returned (.bool false)) σ)) (R (.returned (.bool false)) σ)))) (Br ((224 : Int) ≤ ((UInt8.toNat LG : Nat) : Int)) (Br ((((UInt8.toNat LG : Nat) : Int) : Int) ≤ 239) (Br ((((UInt8.toNat LG : Nat) : Int) : Int) = 224) (G1 R s0 x3 2 160 191 σ) (Br ((((UInt8.toNat LG : Nat) : Int) : Int) = 237) (G1 R s0 x3 2 128 159 σ) (G1 R s0 x3 2 128 191 σ))) (Br ((240 : Int) ≤ ((UInt8.toNat LG : Nat) : Int)) (Br ((((UInt8.toNat LG : Nat) : Int) : Int) ≤ 244) (Br ((((UInt8.toNat LG : Nat) : Int) : Int) = 240) (G1 R s0 x3 3 144 191 σ) (Br ((((UInt8.toNat LG : Nat) : Int) : Int) = 244) (G1 R s0 x3 3 128 143 σ) (G1 R s0 x3 3 128 191 σ))) (R (.returned (.bool false)) σ)) (R (.returned (.bool false)) σ))) (Br ((240 : Int) ≤ ((UInt8.toNat LG : Nat) : Int)) (Br ((((UInt8.toNat LG : Nat) : Int) : Int) ≤ 244) (Br ((((UInt8.toNat LG : Nat) : Int) : Int) = 240) (G1 R s0 x3 3 144 191 σ) (Br ((((UInt8.toNat LG : Nat) : Int) : Int) = 244) (G1 R s0 x3 3 128 143 σ) (G1 R s0 x3 3 128 191 σ))) (R (.returned (.bool false)) σ)) (R (.returned (.bool false)) σ)))))) : BT R s0 x3 σ := M.of h ok rfl
theorem qF (h : AK (x3 + 1) ∧ j3 R s0 (x3 + 1) x4 x5 x6 σ) : G1 R s0 x3 x4 x5 x6 σ := M.of h ok rfl
theorem dB (h : Br (x4 = 0) (BT R s0 x3 σ) (Br (x3 = ((ByteArray.size s0 : Nat) : Int)) (R (.returned (.bool false)) σ) (∃ u60 : UInt8, 0 ≤ x3 ∧ (ByteArray.data s0)[Int.toNat x3]? = some u60 ∧ Br ((((UInt8.toNat u60 : Nat) : Int) : Int) < x5) (R (.returned (.bool false)) σ) (∃ u67 : UInt8, 0 ≤ x3 ∧ (ByteArray.data s0)[Int.toNat x3]? = some u67 ∧ Br (x6 < ((UInt8.toNat u67 : Nat) : Int)) (R (.returned (.bool false)) σ) (AK (x4 - 1) ∧ AK (x3 + 1) ∧ j3 R s0 (x3 + 1) (x4 - 1) 128 191 σ))))) : j3 R s0 x3 x4 x5 x6 σ := M.of h ok rfl
end Ai
namespace Cw
variable {q0 DS Da p2 : Option Addr} {DP CF DQ DT Ct CK : Int} {DR : ByteArray} {DU DV DW Db n2 c2 : Nat} {Cu : Bool}
def M : Fw := ⟨prog, 105, f105, [128, 156, 157, 160, 161], [6], false, [(1, 9, false)], [], []⟩
theorem ok : M.Ok := ⟨.cons call128 (.cons call156 (.cons call157 (.cons call160 (.cons call161 (AG.nil))))), mixed, func105, by kernel_rfl⟩
theorem start (h : Al σ fun b4 => ∀ b6 : Nat, Pq p2 fun C7 iB => In 0 (n2 : Int) ∧ ∃ F3 TA xP xQ xR xS xT xU, Au (Hp.set σ b4 (.cells #[.int .i64 DP, .int .i64 CF, .string DR, .slice DS DU DV, .int .i64 DQ, .int .i64 DT, .int .i64 Ct, .slice Da DW Db, .bool Cu, .int .i64 CK] 36 (0, 0))) C7 iB [.int .i64 F3, .int .u64 TA, .slice xP xQ xR, .slice xS xT xU] ∧ In 1 (n2 : Int) ∧ ∃ Qk W1 xV xW xX ey e9 fA, Au (Hp.set σ b4 (.cells #[.int .i64 DP, .int .i64 CF, .string DR, .slice DS DU DV, .int .i64 DQ, .int .i64 DT, .int .i64 Ct, .slice Da DW Db, .bool Cu, .int .i64 CK] 36 (0, 0))) C7 (iB + 4) [.int .i64 Qk, .int .u64 W1, .slice xV xW xX, .slice ey e9 fA] ∧ (Al (Hp.set σ b4 (.cells #[.int .i64 DP, .int .i64 CF, .string DR, .slice DS DU DV, .int .i64 DQ, .int .i64 DT, .int .i64 Ct, .slice Da DW Db, .bool Cu, .int .i64 CK] 36 (0, 0))) fun b8 => Al (Hp.set (Hp.set σ b4 (.cells #[.int .i64 DP, .int .i64 CF, .string DR, .slice DS DU DV, .int .i64 DQ, .int .i64 DT, .int .i64 Ct, .slice Da DW Db, .bool Cu, .int .i64 CK] 36 (0, 0))) b8 (.cells #[.int .i64 0, .int .u64 0, .slice none 0 0, .slice none 0 0] 93 (0, 0))) fun b9 => AJ prog (Instr.storeAt 93 (.pointer (aD b8 0)) (.agg #[.int .i64 F3, .int .u64 TA, .slice xP xQ xR, .slice xS xT xU])) (Hp.set (Hp.set (Hp.set σ b4 (.cells #[.int .i64 DP, .int .i64 CF, .string DR, .slice DS DU DV, .int .i64 DQ, .int .i64 DT, .int .i64 Ct, .slice Da DW Db, .bool Cu, .int .i64 CK] 36 (0, 0))) b8 (.cells #[.int .i64 0, .int .u64 0, .slice none 0 0, .slice none 0 0] 93 (0, 0))) b9 (.cells #[.int .i64 0, .int .u64 0, .slice none 0 0, .slice none 0 0] 93 (0, 0))) (fun _ y => Kp [C7] (Hp.set (Hp.set (Hp.set σ b4 (.cells #[.int .i64 DP, .int .i64 CF, .string DR, .slice DS DU DV, .int .i64 DQ, .int .i64 DT, .int .i64 Ct, .slice Da DW Db, .bool Cu, .int .i64 CK] 36 (0, 0))) b8 (.cells #[.int .i64 0, .int .u64 0, .slice none 0 0, .slice none 0 0] 93 (0, 0))) b9 (.cells #[.int .i64 0, .int .u64 0, .slice none 0 0, .slice none 0 0] 93 (0, 0))) y ∧ AJ prog (Instr.storeAt 93 (.pointer (aD b9 0)) (.agg #[.int .i64 Qk, .int .u64 W1, .slice xV xW xX, .slice ey e9 fA])) y (fun _ AF => LI .i64 AF b8 0 fun HS => Br (HS = 1) (LI .i64 AF b9 0 fun I3 => Br (I3 = 1) (∃ XR Qy j4 j5 j6 j7 j8 j9 kA kB kC kD kE kF, Au AF b4 0 [.int .i64 XR, .int .i64 Qy, .string j4, .slice j5 j6 j7, .int .i64 j8, .int .i64 j9, .int .i64 kA, .slice kB kC kD, .bool kE, .int .i64 kF] ∧ LI .u64 AF b8 1 fun T5 => LI .u64 AF b9 1 fun kG => Spec prog 156 #[.agg #[.int .i64 XR, .int .i64 Qy, .string j4, .slice j5 j6 j7, .int .i64 j8, .int .i64 j9, .int .i64 kA, .slice kB kC kD, .bool kE, .int .i64 kF], .int .u64 T5, .int .u64 kG] AF (AA R (fun z AH => ∃ XS kH, z = (.tuple #[.int .u64 XS, .bool kH]) ∧ R (.returned (.tuple #[.agg #[.int .i64 1, .int .u64 XS, .slice none 0 0, .slice none 0 0], .int .i64 0])) AH))) (LI .i64 AF b8 0 fun oP => Br (oP = 1) (∃ OI Ld OJ Q0 Q1 Q2 Q3 Q4 Q5 Q6 Q7 Q8 Q9 RA, Au AF b4 0 [.int .i64 OI, .int .i64 Ld, .string OJ, .slice Q0 Q1 Q2, .int .i64 Q3, .int .i64 Q4, .int .i64 Q5, .slice Q6 Q7 Q8, .bool Q9, .int .i64 RA] ∧ LS AF b9 2 fun xY n45 xZ => Spec prog 157 #[.pointer q0, .agg #[.int .i64 OI, .int .i64 Ld, .string OJ, .slice Q0 Q1 Q2, .int .i64 Q3, .int .i64 Q4, .int .i64 Q5, .slice Q6 Q7 Q8, .bool Q9, .int .i64 RA], .slice xY n45 xZ, (.func (.func 158) #[] #[(.pointer (aD b4 0)), (.pointer (aD b8 0))])] AF (AA R (fun z AH => ∃ Jr Js Jt Ju Jv Jw Jx Jy RB, z = (.tuple #[.agg #[.int .i64 Jr, .int .u64 Js, .slice Jt Ju Jv, .slice Jw Jx Jy], .int .i64 RB]) ∧ R (.returned (.tuple #[.agg #[.int .i64 Jr, .int .u64 Js, .slice Jt Ju Jv, .slice Jw Jx Jy], .int .i64 RB])) AH))) (LI .i64 AF b9 0 fun qG => Br (qG = 1) (∃ RC RD RE RF RG RH RI RJ RL RM RN RO RP RQ, Au AF b4 0 [.int .i64 RC, .int .i64 RD, .string RE, .slice RF RG RH, .int .i64 RI, .int .i64 RJ, .int .i64 RL, .slice RM RN RO, .bool RP, .int .i64 RQ] ∧ LS AF b8 2 fun xd n57 xe => Spec prog 157 #[.pointer q0, .agg #[.int .i64 RC, .int .i64 RD, .string RE, .slice RF RG RH, .int .i64 RI, .int .i64 RJ, .int .i64 RL, .slice RM RN RO, .bool RP, .int .i64 RQ], .slice xd n57 xe, (.func (.func 159) #[] #[(.pointer (aD b4 0)), (.pointer (aD b9 0))])] AF (AA R (fun z AH => ∃ Jz J0 J1 J2 J3 J4 J5 J6 HT, z = (.tuple #[.agg #[.int .i64 Jz, .int .u64 J0, .slice J1 J2 J3, .slice J4 J5 J6], .int .i64 HT]) ∧ R (.returned (.tuple #[.agg #[.int .i64 Jz, .int .u64 J0, .slice J1 J2 J3, .slice J4 J5 J6], .int .i64 HT])) AH))) (LI .i64 AF b4 1 fun xf => Spec prog 128 #[.int .i64 xf] AF (AA R (CB fun t65 AH => Bo t65 (∃ J7 J8 J9 KA KB KC KD KE KF KG KH KI KJ KK, Au AH b4 0 [.int .i64 J7, .int .i64 J8, .string J9, .slice KA KB KC, .int .i64 KD, .int .i64 KE, .int .i64 KF, .slice KG KH KI, .bool KJ, .int .i64 KK] ∧ LS AH b8 2 fun qH n69 qI => LS AH b9 2 fun xg xh xi => Spec prog 160 #[.pointer q0, .agg #[.int .i64 J7, .int .i64 J8, .string J9, .slice KA KB KC, .int .i64 KD, .int .i64 KE, .int .i64 KF, .slice KG KH KI, .bool KJ, .int .i64 KK], .slice qH n69 qI, .slice xg xh xi] AH (AA R (fun z AZ => ∃ KL KM KN KO KQ KR KS KT Jf, z = (.tuple #[.agg #[.int .i64 KL, .int .u64 KM, .slice KN KO KQ, .slice KR KS KT], .int .i64 Jf]) ∧ R (.returned (.tuple #[.agg #[.int .i64 KL, .int .u64 KM, .slice KN KO KQ, .slice KR KS KT], .int .i64 Jf])) AZ))) (∃ RR RS RT RU RV RW RX RY RZ Ra Rb Rc Re Rf, Au AH b4 0 [.int .i64 RR, .int .i64 RS, .string RT, .slice RU RV RW, .int .i64 RX, .int .i64 RY, .int .i64 RZ, .slice Ra Rb Rc, .bool Re, .int .i64 Rf] ∧ LS AH b8 2 fun iG VI iH => LS AH b9 2 fun xj xk xl => Spec prog 161 #[.pointer q0, .agg #[.int .i64 RR, .int .i64 RS, .string RT, .slice RU RV RW, .int .i64 RX, .int .i64 RY, .int .i64 RZ, .slice Ra Rb Rc, .bool Re, .int .i64 Rf], .slice iG VI iH, .slice xj xk xl] AH (AA R (fun z AZ => ∃ KU KV KW KX KY KZ Ka Kb Rh, z = (.tuple #[.agg #[.int .i64 KU, .int .u64 KV, .slice KW KX KY, .slice KZ Ka Kb], .int .i64 Rh]) ∧ R (.returned (.tuple #[.agg #[.int .i64 KU, .int .u64 KV, .slice KW KX KY, .slice KZ Ka Kb], .int .i64 Rh])) AZ))))))))) (LI .i64 AF b8 0 fun oP => Br (oP = 1) (∃ OI Ld OJ Q0 Q1 Q2 Q3 Q4 Q5 Q6 Q7 Q8 Q9 RA, Au AF b4 0 [.int .i64 OI, .int .i64 Ld, .string OJ, .slice Q0 Q1 Q2, .int .i64 Q3, .int .i64 Q4, .int .i64 Q5, .slice Q6 Q7 Q8, .bool Q9, .int .i64 RA] ∧ LS AF b9 2 fun xY n45 xZ => Spec prog 157 #[.pointer q0, .agg #[.int .i64 OI, .int .i64 Ld, .string OJ, .slice Q0 Q1 Q2, .int .i64 Q3, .int .i64 Q4, .int .i64 Q5, .slice Q6 Q7 Q8, .bool Q9, .int .i64 RA], .slice xY n45 xZ, (.func (.func 158) #[] #[(.pointer (aD b4 0)), (.pointer (aD b8 0))])] AF (AA R (fun z AH => ∃ Jr Js Jt Ju Jv Jw Jx Jy RB, z = (.tuple #[.agg #[.int .i64 Jr, .int .u64 Js, .slice Jt Ju Jv, .slice Jw Jx Jy], .int .i64 RB]) ∧ R (.returned (.tuple #[.agg #[.int .i64 Jr, .int .u64 Js, .slice Jt Ju Jv, .slice Jw Jx Jy], .int .i64 RB])) AH))) (LI .i64 AF b9 0 fun qG => Br (qG = 1) (∃ RC RD RE RF RG RH RI RJ RL RM RN RO RP RQ, Au AF b4 0 [.int .i64 RC, .int .i64 RD, .string RE, .slice RF RG RH, .int .i64 RI, .int .i64 RJ, .int .i64 RL, .slice RM RN RO, .bool RP, .int .i64 RQ] ∧ LS AF b8 2 fun xd n57 xe => Spec prog 157 #[.pointer q0, .agg #[.int .i64 RC, .int .i64 RD, .string RE, .slice RF RG RH, .int .i64 RI, .int .i64 RJ, .int .i64 RL, .slice RM RN RO, .bool RP, .int .i64 RQ], .slice xd n57 xe, (.func (.func 159) #[] #[(.pointer (aD b4 0)), (.pointer (aD b9 0))])] AF (AA R (fun z AH => ∃ Jz J0 J1 J2 J3 J4 J5 J6 HT, z = (.tuple #[.agg #[.int .i64 Jz, .int .u64 J0, .slice J1 J2 J3, .slice J4 J5 J6], .int .i64 HT]) ∧ R (.returned (.tuple #[.agg #[.int .i64 Jz, .int .u64 J0, .slice J1 J2 J3, .slice J4 J5 J6], .int .i64 HT])) AH))) (LI .i64 AF b4 1 fun xf => Spec prog 128 #[.int .i64 xf] AF (AA R (CB fun t65 AH => Bo t65 (∃ J7 J8 J9 KA KB KC KD KE KF KG KH KI KJ KK, Au AH b4 0 [.int .i64 J7, .int .i64 J8, .string J9, .slice KA KB KC, .int .i64 KD, .int .i64 KE, .int .i64 KF, .slice KG KH KI, .bool KJ, .int .i64 KK] ∧ LS AH b8 2 fun qH n69 qI => LS AH b9 2 fun xg xh xi => Spec prog 160 #[.pointer q0, .agg #[.int .i64 J7, .int .i64 J8, .string J9, .slice KA KB KC, .int .i64 KD, .int .i64 KE, .int .i64 KF, .slice KG KH KI, .bool KJ, .int .i64 KK], .slice qH n69 qI, .slice xg xh xi] AH (AA R (fun z AZ => ∃ KL KM KN KO KQ KR KS KT Jf, z = (.tuple #[.agg #[.int .i64 KL, .int .u64 KM, .slice KN KO KQ, .slice KR KS KT], .int .i64 Jf]) ∧ R (.returned (.tuple #[.agg #[.int .i64 KL, .int .u64 KM, .slice KN KO KQ, .slice KR KS KT], .int .i64 Jf])) AZ))) (∃ RR RS RT RU RV RW RX RY RZ Ra Rb Rc Re Rf, Au AH b4 0 [.int .i64 RR, .int .i64 RS, .string RT, .slice RU RV RW, .int .i64 RX, .int .i64 RY, .int .i64 RZ, .slice Ra Rb Rc, .bool Re, .int .i64 Rf] ∧ LS AH b8 2 fun iG VI iH => LS AH b9 2 fun xj xk xl => Spec prog 161 #[.pointer q0, .agg #[.int .i64 RR, .int .i64 RS, .string RT, .slice RU RV RW, .int .i64 RX, .int .i64 RY, .int .i64 RZ, .slice Ra Rb Rc, .bool Re, .int .i64 Rf], .slice iG VI iH, .slice xj xk xl] AH (AA R (fun z AZ => ∃ KU KV KW KX KY KZ Ka Kb Rh, z = (.tuple #[.agg #[.int .i64 KU, .int .u64 KV, .slice KW KX KY, .slice KZ Ka Kb], .int .i64 Rh]) ∧ R (.returned (.tuple #[.agg #[.int .i64 KU, .int .u64 KV, .slice KW KX KY, .slice KZ Ka Kb], .int .i64 Rh])) AZ))))))))))) ∧ (Al (Hp.set σ b4 (.cells #[.int .i64 DP, .int .i64 CF, .string DR, .slice DS DU DV, .int .i64 DQ, .int .i64 DT, .int .i64 Ct, .slice Da DW Db, .bool Cu, .int .i64 CK] 36 (0, 0))) fun b9 => Al (Hp.set (Hp.set σ b4 (.cells #[.int .i64 DP, .int .i64 CF, .string DR, .slice DS DU DV, .int .i64 DQ, .int .i64 DT, .int .i64 Ct, .slice Da DW Db, .bool Cu, .int .i64 CK] 36 (0, 0))) b9 (.cells #[.int .i64 0, .int .u64 0, .slice none 0 0, .slice none 0 0] 93 (0, 0))) fun b8 => AJ prog (Instr.storeAt 93 (.pointer (aD b8 0)) (.agg #[.int .i64 F3, .int .u64 TA, .slice xP xQ xR, .slice xS xT xU])) (Hp.set (Hp.set (Hp.set σ b4 (.cells #[.int .i64 DP, .int .i64 CF, .string DR, .slice DS DU DV, .int .i64 DQ, .int .i64 DT, .int .i64 Ct, .slice Da DW Db, .bool Cu, .int .i64 CK] 36 (0, 0))) b9 (.cells #[.int .i64 0, .int .u64 0, .slice none 0 0, .slice none 0 0] 93 (0, 0))) b8 (.cells #[.int .i64 0, .int .u64 0, .slice none 0 0, .slice none 0 0] 93 (0, 0))) (fun _ y => Kp [C7] (Hp.set (Hp.set (Hp.set σ b4 (.cells #[.int .i64 DP, .int .i64 CF, .string DR, .slice DS DU DV, .int .i64 DQ, .int .i64 DT, .int .i64 Ct, .slice Da DW Db, .bool Cu, .int .i64 CK] 36 (0, 0))) b9 (.cells #[.int .i64 0, .int .u64 0, .slice none 0 0, .slice none 0 0] 93 (0, 0))) b8 (.cells #[.int .i64 0, .int .u64 0, .slice none 0 0, .slice none 0 0] 93 (0, 0))) y ∧ AJ prog (Instr.storeAt 93 (.pointer (aD b9 0)) (.agg #[.int .i64 Qk, .int .u64 W1, .slice xV xW xX, .slice ey e9 fA])) y (fun _ AF => LI .i64 AF b8 0 fun HS => Br (HS = 1) (LI .i64 AF b9 0 fun I3 => Br (I3 = 1) (∃ XR Qy j4 j5 j6 j7 j8 j9 kA kB kC kD kE kF, Au AF b4 0 [.int .i64 XR, .int .i64 Qy, .string j4, .slice j5 j6 j7, .int .i64 j8, .int .i64 j9, .int .i64 kA, .slice kB kC kD, .bool kE, .int .i64 kF] ∧ LI .u64 AF b8 1 fun T5 => LI .u64 AF b9 1 fun kG => Spec prog 156 #[.agg #[.int .i64 XR, .int .i64 Qy, .string j4, .slice j5 j6 j7, .int .i64 j8, .int .i64 j9, .int .i64 kA, .slice kB kC kD, .bool kE, .int .i64 kF], .int .u64 T5, .int .u64 kG] AF (AA R (fun z AH => ∃ XS kH, z = (.tuple #[.int .u64 XS, .bool kH]) ∧ R (.returned (.tuple #[.agg #[.int .i64 1, .int .u64 XS, .slice none 0 0, .slice none 0 0], .int .i64 0])) AH))) (LI .i64 AF b8 0 fun oP => Br (oP = 1) (∃ OI Ld OJ Q0 Q1 Q2 Q3 Q4 Q5 Q6 Q7 Q8 Q9 RA, Au AF b4 0 [.int .i64 OI, .int .i64 Ld, .string OJ, .slice Q0 Q1 Q2, .int .i64 Q3, .int .i64 Q4, .int .i64 Q5, .slice Q6 Q7 Q8, .bool Q9, .int .i64 RA] ∧ LS AF b9 2 fun xY n45 xZ => Spec prog 157 #[.pointer q0, .agg #[.int .i64 OI, .int .i64 Ld, .string OJ, .slice Q0 Q1 Q2, .int .i64 Q3, .int .i64 Q4, .int .i64 Q5, .slice Q6 Q7 Q8, .bool Q9, .int .i64 RA], .slice xY n45 xZ, (.func (.func 158) #[] #[(.pointer (aD b4 0)), (.pointer (aD b8 0))])] AF (AA R (fun z AH => ∃ Jr Js Jt Ju Jv Jw Jx Jy RB, z = (.tuple #[.agg #[.int .i64 Jr, .int .u64 Js, .slice Jt Ju Jv, .slice Jw Jx Jy], .int .i64 RB]) ∧ R (.returned (.tuple #[.agg #[.int .i64 Jr, .int .u64 Js, .slice Jt Ju Jv, .slice Jw Jx Jy], .int .i64 RB])) AH))) (LI .i64 AF b9 0 fun qG => Br (qG = 1) (∃ RC RD RE RF RG RH RI RJ RL RM RN RO RP RQ, Au AF b4 0 [.int .i64 RC, .int .i64 RD, .string RE, .slice RF RG RH, .int .i64 RI, .int .i64 RJ, .int .i64 RL, .slice RM RN RO, .bool RP, .int .i64 RQ] ∧ LS AF b8 2 fun xd n57 xe => Spec prog 157 #[.pointer q0, .agg #[.int .i64 RC, .int .i64 RD, .string RE, .slice RF RG RH, .int .i64 RI, .int .i64 RJ, .int .i64 RL, .slice RM RN RO, .bool RP, .int .i64 RQ], .slice xd n57 xe, (.func (.func 159) #[] #[(.pointer (aD b4 0)), (.pointer (aD b9 0))])] AF (AA R (fun z AH => ∃ Jz J0 J1 J2 J3 J4 J5 J6 HT, z = (.tuple #[.agg #[.int .i64 Jz, .int .u64 J0, .slice J1 J2 J3, .slice J4 J5 J6], .int .i64 HT]) ∧ R (.returned (.tuple #[.agg #[.int .i64 Jz, .int .u64 J0, .slice J1 J2 J3, .slice J4 J5 J6], .int .i64 HT])) AH))) (LI .i64 AF b4 1 fun xf => Spec prog 128 #[.int .i64 xf] AF (AA R (CB fun t65 AH => Bo t65 (∃ J7 J8 J9 KA KB KC KD KE KF KG KH KI KJ KK, Au AH b4 0 [.int .i64 J7, .int .i64 J8, .string J9, .slice KA KB KC, .int .i64 KD, .int .i64 KE, .int .i64 KF, .slice KG KH KI, .bool KJ, .int .i64 KK] ∧ LS AH b8 2 fun qH n69 qI => LS AH b9 2 fun xg xh xi => Spec prog 160 #[.pointer q0, .agg #[.int .i64 J7, .int .i64 J8, .string J9, .slice KA KB KC, .int .i64 KD, .int .i64 KE, .int .i64 KF, .slice KG KH KI, .bool KJ, .int .i64 KK], .slice qH n69 qI, .slice xg xh xi] AH (AA R (fun z AZ => ∃ KL KM KN KO KQ KR KS KT Jf, z = (.tuple #[.agg #[.int .i64 KL, .int .u64 KM, .slice KN KO KQ, .slice KR KS KT], .int .i64 Jf]) ∧ R (.returned (.tuple #[.agg #[.int .i64 KL, .int .u64 KM, .slice KN KO KQ, .slice KR KS KT], .int .i64 Jf])) AZ))) (∃ RR RS RT RU RV RW RX RY RZ Ra Rb Rc Re Rf, Au AH b4 0 [.int .i64 RR, .int .i64 RS, .string RT, .slice RU RV RW, .int .i64 RX, .int .i64 RY, .int .i64 RZ, .slice Ra Rb Rc, .bool Re, .int .i64 Rf] ∧ LS AH b8 2 fun iG VI iH => LS AH b9 2 fun xj xk xl => Spec prog 161 #[.pointer q0, .agg #[.int .i64 RR, .int .i64 RS, .string RT, .slice RU RV RW, .int .i64 RX, .int .i64 RY, .int .i64 RZ, .slice Ra Rb Rc, .bool Re, .int .i64 Rf], .slice iG VI iH, .slice xj xk xl] AH (AA R (fun z AZ => ∃ KU KV KW KX KY KZ Ka Kb Rh, z = (.tuple #[.agg #[.int .i64 KU, .int .u64 KV, .slice KW KX KY, .slice KZ Ka Kb], .int .i64 Rh]) ∧ R (.returned (.tuple #[.agg #[.int .i64 KU, .int .u64 KV, .slice KW KX KY, .slice KZ Ka Kb], .int .i64 Rh])) AZ))))))))) (LI .i64 AF b8 0 fun oP => Br (oP = 1) (∃ OI Ld OJ Q0 Q1 Q2 Q3 Q4 Q5 Q6 Q7 Q8 Q9 RA, Au AF b4 0 [.int .i64 OI, .int .i64 Ld, .string OJ, .slice Q0 Q1 Q2, .int .i64 Q3, .int .i64 Q4, .int .i64 Q5, .slice Q6 Q7 Q8, .bool Q9, .int .i64 RA] ∧ LS AF b9 2 fun xY n45 xZ => Spec prog 157 #[.pointer q0, .agg #[.int .i64 OI, .int .i64 Ld, .string OJ, .slice Q0 Q1 Q2, .int .i64 Q3, .int .i64 Q4, .int .i64 Q5, .slice Q6 Q7 Q8, .bool Q9, .int .i64 RA], .slice xY n45 xZ, (.func (.func 158) #[] #[(.pointer (aD b4 0)), (.pointer (aD b8 0))])] AF (AA R (fun z AH => ∃ Jr Js Jt Ju Jv Jw Jx Jy RB, z = (.tuple #[.agg #[.int .i64 Jr, .int .u64 Js, .slice Jt Ju Jv, .slice Jw Jx Jy], .int .i64 RB]) ∧ R (.returned (.tuple #[.agg #[.int .i64 Jr, .int .u64 Js, .slice Jt Ju Jv, .slice Jw Jx Jy], .int .i64 RB])) AH))) (LI .i64 AF b9 0 fun qG => Br (qG = 1) (∃ RC RD RE RF RG RH RI RJ RL RM RN RO RP RQ, Au AF b4 0 [.int .i64 RC, .int .i64 RD, .string RE, .slice RF RG RH, .int .i64 RI, .int .i64 RJ, .int .i64 RL, .slice RM RN RO, .bool RP, .int .i64 RQ] ∧ LS AF b8 2 fun xd n57 xe => Spec prog 157 #[.pointer q0, .agg #[.int .i64 RC, .int .i64 RD, .string RE, .slice RF RG RH, .int .i64 RI, .int .i64 RJ, .int .i64 RL, .slice RM RN RO, .bool RP, .int .i64 RQ], .slice xd n57 xe, (.func (.func 159) #[] #[(.pointer (aD b4 0)), (.pointer (aD b9 0))])] AF (AA R (fun z AH => ∃ Jz J0 J1 J2 J3 J4 J5 J6 HT, z = (.tuple #[.agg #[.int .i64 Jz, .int .u64 J0, .slice J1 J2 J3, .slice J4 J5 J6], .int .i64 HT]) ∧ R (.returned (.tuple #[.agg #[.int .i64 Jz, .int .u64 J0, .slice J1 J2 J3, .slice J4 J5 J6], .int .i64 HT])) AH))) (LI .i64 AF b4 1 fun xf => Spec prog 128 #[.int .i64 xf] AF (AA R (CB fun t65 AH => Bo t65 (∃ J7 J8 J9 KA KB KC KD KE KF KG KH KI KJ KK, Au AH b4 0 [.int .i64 J7, .int .i64 J8, .string J9, .slice KA KB KC, .int .i64 KD, .int .i64 KE, .int .i64 KF, .slice KG KH KI, .bool KJ, .int .i64 KK] ∧ LS AH b8 2 fun qH n69 qI => LS AH b9 2 fun xg xh xi => Spec prog 160 #[.pointer q0, .agg #[.int .i64 J7, .int .i64 J8, .string J9, .slice KA KB KC, .int .i64 KD, .int .i64 KE, .int .i64 KF, .slice KG KH KI, .bool KJ, .int .i64 KK], .slice qH n69 qI, .slice xg xh xi] AH (AA R (fun z AZ => ∃ KL KM KN KO KQ KR KS KT Jf, z = (.tuple #[.agg #[.int .i64 KL, .int .u64 KM, .slice KN KO KQ, .slice KR KS KT], .int .i64 Jf]) ∧ R (.returned (.tuple #[.agg #[.int .i64 KL, .int .u64 KM, .slice KN KO KQ, .slice KR KS KT], .int .i64 Jf])) AZ))) (∃ RR RS RT RU RV RW RX RY RZ Ra Rb Rc Re Rf, Au AH b4 0 [.int .i64 RR, .int .i64 RS, .string RT, .slice RU RV RW, .int .i64 RX, .int .i64 RY, .int .i64 RZ, .slice Ra Rb Rc, .bool Re, .int .i64 Rf] ∧ LS AH b8 2 fun iG VI iH => LS AH b9 2 fun xj xk xl => Spec prog 161 #[.pointer q0, .agg #[.int .i64 RR, .int .i64 RS, .string RT, .slice RU RV RW, .int .i64 RX, .int .i64 RY, .int .i64 RZ, .slice Ra Rb Rc, .bool Re, .int .i64 Rf], .slice iG VI iH, .slice xj xk xl] AH (AA R (fun z AZ => ∃ KU KV KW KX KY KZ Ka Kb Rh, z = (.tuple #[.agg #[.int .i64 KU, .int .u64 KV, .slice KW KX KY, .slice KZ Ka Kb], .int .i64 Rh]) ∧ R (.returned (.tuple #[.agg #[.int .i64 KU, .int .u64 KV, .slice KW KX KY, .slice KZ Ka Kb], .int .i64 Rh])) AZ)))))))))))) : Spec prog 105 #[.pointer q0, .agg #[.int .i64 DP, .int .i64 CF, .string DR, .slice DS DU DV, .int .i64 DQ, .int .i64 DT, .int .i64 Ct, .slice Da DW Db, .bool Cu, .int .i64 CK], .slice p2 n2 c2] σ R := M.start h ok
end Cw
namespace Gc
variable {s0 : ByteArray} {x3 : Int}
def M : Fw := ⟨prog, 131, f131, [90], [], false, [], [], [(224, [(0, wT), (3, wI)])]⟩
theorem ok : M.Ok := ⟨.cons call90 (AG.nil), mixed, func131, by kernel_rfl⟩
def I7 := M.pt 0
theorem start (h : I7 R s0 0 σ) : Spec prog 131 #[.string s0] σ R := M.start h ok
theorem BN (h : Br (x3 < ((ByteArray.size s0 : Nat) : Int)) (∃ u11 : UInt8, 0 ≤ x3 ∧ (ByteArray.data s0)[Int.toNat x3]? = some u11 ∧ Spec prog 90 #[(.int .u8 ((UInt8.toNat u11 : Nat) : Int))] σ (AA R (CB fun t12 y => Bo t12 (AK (x3 + 1) ∧ I7 R s0 (x3 + 1) y) (R (.returned (.int .i64 x3)) y)))) (R (.returned (.int .i64 x3)) σ)) : I7 R s0 x3 σ := M.of h ok rfl
end Gc
namespace DB
variable {q0 : Option Addr}
def M : Fw := ⟨prog, 139, f139, [95], [], false, [], [], []⟩
theorem ok : M.Ok := ⟨.cons call95 (AG.nil), mixed, func139, by kernel_rfl⟩
theorem start (h : Spec prog 95 #[.pointer q0, (.func (.func 171) #[.pointer q0] #[]), .int .i64 5, .int .i64 10] σ (AA R (fun z y => z = (.tuple #[]) ∧ R (.returned (.tuple #[])) y))) : Spec prog 139 #[.pointer q0] σ R := M.start h ok
end DB
namespace Bu
variable {s0 : ByteArray} {x1 : Int}
def M : Fw := ⟨prog, 169, f169, [], [], false, [], [], []⟩
theorem ok : M.Ok := ⟨AG.nil, mixed, func169, by kernel_rfl⟩
theorem start (h : EN prog 209 #[.string s0, .int .u8 x1] σ (CI .i64 fun x7 y => R (.returned (.int .i64 x7)) y)) : Spec prog 169 #[.string s0, .int .u8 x1] σ R := M.start h ok
end Bu
namespace A9
variable {q0 p3 : Option Addr} {n3 c3 : Nat}
def M : Fw := ⟨prog, 170, f170, [135, 136, 210, 211], [], false, [], [], [(480, [(0, wQ), (3, wL)]), (965, [(0, wQ), (3, wL)])]⟩
theorem ok : M.Ok := ⟨.cons call135 (.cons call136 (.cons call210 (.cons call211 (AG.nil)))), mixed, func170, by kernel_rfl⟩
def BT := M.pt 0
def VA := M.pt 1
theorem start (h : Spec prog 210 #[.pointer q0, (.string (ByteArray.mk #[40]))] σ (AA R (fun z y => z = (.tuple #[]) ∧ BT R q0 none 0 0 y))) : Spec prog 170 #[.pointer q0] σ R := M.start h ok
theorem A5 (h : Spec prog 136 #[.pointer q0, .int .i64 5, (.string (ByteArray.mk #[41]))] σ (AA R (CB fun t7 y => Bn t7 (Br (0 < (n3 : Int)) (Spec prog 210 #[.pointer q0, (.string (ByteArray.mk #[44]))] y (AA R (fun z AF => z = (.tuple #[]) ∧ VA R q0 p3 n3 c3 AF))) (VA R q0 p3 n3 c3 y)) (Spec prog 135 #[.pointer q0] y (AA R (fun z AF => ∃ Hs VD AJI AJJ, z = (.agg #[.int .i64 Hs, .int .i64 VD, .string AJI, .int .i64 AJJ]) ∧ R (.returned (.slice p3 n3 c3)) AF)))))) : BT R q0 p3 n3 c3 σ := M.of h ok rfl
theorem P3 (h : Spec prog 211 #[.pointer q0] σ (AA R (CT fun s16 y => Al y fun b17 => AJ prog (Builtin.append_ #[34, 34] 34 #[.slice p3 n3 c3, (.slice (aD b17 0) 1 1)]) (Hp.set y b17 (.cells #[.string s16] 9 (0, 0))) (CS fun p18 n18 c18 AF => BT R q0 p18 n18 c18 AF)))) : VA R q0 p3 n3 c3 σ := M.of h ok rfl
end A9
namespace DC
variable {p0 : Option Addr} {n0 c0 : Nat}
def M : Fw := ⟨prog, 185, f185, [186], [], false, [], [], []⟩
theorem ok : M.Ok := ⟨.cons call186 (AG.nil), mixed, func185, by kernel_rfl⟩
theorem start (h : AK ((n0 : Int) - 1) ∧ Pq p0 fun b7 o7 => In (((n0 : Int) - 1)) (n0 : Int) ∧ LI .u64 σ b7 (o7 + Int.toNat ((n0 : Int) - 1) * 1) fun x8 => Spec prog 186 #[.int .u64 x8] σ (AA R (CI .u64 fun x9 y => R (.returned (.int .u64 x9)) y))) : Spec prog 185 #[.slice p0 n0 c0] σ R := M.start h ok
end DC
namespace DD
variable {p0 p1 : Option Addr} {n0 c0 n1 c1 : Nat}
def M : Fw := ⟨prog, 189, f189, [190], [], false, [], [], []⟩
theorem ok : M.Ok := ⟨.cons call190 (AG.nil), mixed, func189, by kernel_rfl⟩
theorem start (h : AK ((n0 : Int) - 1) ∧ Pq p0 fun b9 o9 => In (((n0 : Int) - 1)) (n0 : Int) ∧ LI .u64 σ b9 (o9 + Int.toNat ((n0 : Int) - 1) * 1) fun x10 => In 0 (n0 : Int) ∧ LI .u64 σ b9 o9 fun Bl => Spec prog 190 #[.int .u64 x10, .int .u64 Bl] σ (AA R (CI .u64 fun La y => R (.returned (.int .u64 La)) y))) : Spec prog 189 #[.slice p0 n0 c0, .slice p1 n1 c1] σ R := M.start h ok
end DD
namespace dC
variable {Ek EI PU M1 HY I5 : Int} {PW : ByteArray} {Tu Qq p1 : Option Addr} {TB Tv P2 Qr n1 c1 : Nat} {MO : Bool}
def M : Fw := ⟨prog, 207, f207, [146, 149, 150], [2], false, [], [], []⟩
theorem ok : M.Ok := ⟨.cons call146 (.cons call149 (.cons call150 (AG.nil))), mixed, func207, by kernel_rfl⟩
theorem start (h : ∀ b2 : Nat, Br (HY = 3) (Spec prog 149 #[.slice p1 n1 c1, .slice Qq P2 Qr] σ (AA R (CS fun LD n11 LF y => R (.returned (.slice LD n11 LF)) y))) (Spec prog 150 #[.slice p1 n1 c1, .slice Qq P2 Qr] σ (AA R (CS fun cu n15 W8 y => Spec prog 146 #[.slice cu n15 W8] y (AA R (CS fun Z5 n16 V7 AF => R (.returned (.slice Z5 n16 V7)) AF)))))) : Spec prog 207 #[.agg #[.int .i64 Ek, .int .i64 EI, .string PW, .slice Tu TB Tv, .int .i64 PU, .int .i64 M1, .int .i64 HY, .slice Qq P2 Qr, .bool MO, .int .i64 I5], .slice p1 n1 c1] σ R := M.start h ok
end dC
namespace ER
variable {q0 : Option Addr}
def M : Fw := ⟨prog, 211, f211, [66, 67, 126, 135], [], false, [], [], [(14, [(0, wQ)])]⟩
theorem ok : M.Ok := ⟨.cons call66 (.cons call67 (.cons call126 (.cons call135 (AG.nil)))), mixed, func211, by kernel_rfl⟩
def I7 := M.pt 0
theorem start (h : Spec prog 66 #[.pointer q0] σ (AA R (fun z y => ∃ Fc FK HC x4d, z = (.agg #[.int .i64 Fc, .int .i64 FK, .string HC, .int .i64 x4d]) ∧ Br (Fc ≠ 3) (Spec prog 67 #[.pointer q0] y (AA R (fun z AF => z = (.tuple #[]) ∧ I7 R q0 AF))) (Spec prog 66 #[.pointer q0] y (AA R (fun z AF => ∃ x9a x9b s9c x9d, z = (.agg #[.int .i64 x9a, .int .i64 x9b, .string s9c, .int .i64 x9d]) ∧ Spec prog 126 #[.string s9c] AF (AA R (CB fun t11 AH => Bn t11 (Spec prog 67 #[.pointer q0] AH (AA R (fun z AZ => z = (.tuple #[]) ∧ I7 R q0 AZ))) (I7 R q0 AH))))))))) : Spec prog 211 #[.pointer q0] σ R := M.start h ok
theorem BN (h : Spec prog 135 #[.pointer q0] σ (AA R (fun z y => ∃ Qk W1 jc AJK, z = (.agg #[.int .i64 Qk, .int .i64 W1, .string jc, .int .i64 AJK]) ∧ R (.returned (.string jc)) y))) : I7 R q0 σ := M.of h ok rfl
end ER
namespace strings_Split
variable {s0 s1 : ByteArray}
end strings_Split
namespace FE
variable {p0 DS Da p2 : Option Addr} {n0 c0 DU DV DW Db n2 c2 b3 : Nat} {DP CF DQ DT Ct CK : Int} {DR : ByteArray} {Cu : Bool}
def M : Fw := ⟨prog, 224, f224, [], [5], false, [], [], []⟩
theorem ok : M.Ok := ⟨AG.nil, mixed, func224, by kernel_rfl⟩
theorem start (h : ∀ b5 : Nat, ∃ v9, Hp.ld σ ⟨b3, 0, none⟩ = some v9 ∧ ∃ (f11 : Nat) (XT XU : Array Value), v9 = .func (.func f11) XT XU ∧ Enters prog f11 ∧ Spec prog f11 (XT ++ #[.slice p0 n0 c0] ++ XU) σ (AA R (CI .u64 fun x11 y => R (.returned (.tuple #[.int .u64 x11, .bool true])) y))) : Spec prog 224 #[.slice p0 n0 c0, .agg #[.int .i64 DP, .int .i64 CF, .string DR, .slice DS DU DV, .int .i64 DQ, .int .i64 DT, .int .i64 Ct, .slice Da DW Db, .bool Cu, .int .i64 CK], .slice p2 n2 c2, (.pointer (aD b3 0))] σ R := M.start h ok
end FE
namespace ES
variable {q0 : Option Addr} {v1 : Value}
def M : Fw := ⟨prog, 251, f251, [66, 97, 135], [], false, [], [], [(6, [(0, wQ), (1, wV)])]⟩
theorem ok : M.Ok := ⟨.cons call66 (.cons call97 (.cons call135 (AG.nil))), mixed, func251, by kernel_rfl⟩
def oL := M.pt 0
theorem start (h : Pq q0 fun b5 o5 => LI .i64 σ b5 (o5 + 1) fun x7 => Br (x7 = 64) (Spec prog 66 #[(.pointer (aD b5 o5))] σ (AA R (fun z y => ∃ fG Pc fH qJ, z = (.agg #[.int .i64 fG, .int .i64 Pc, .string fH, .int .i64 qJ]) ∧ Spec prog 97 #[(.pointer (aD b5 o5)), .int .i64 182, .agg #[.int .i64 fG, .int .i64 Pc, .string fH, .int .i64 qJ]] y (AA R (fun z AF => z = (.tuple #[]) ∧ oL R (aD b5 o5) v1 AF))))) (oL R (aD b5 o5) v1 σ)) : Spec prog 251 #[.pointer q0, v1] σ R := M.Dn h ok [(0, .o (.Q q0)), (1, .o (.V v1))] rfl rfl (by kernel_rfl)
theorem Qu (h : Pq q0 fun BB Oq => LI .i64 σ BB (Oq + 1) fun x16 => AK (x16 + 1) ∧ AJ prog (Instr.storeAt 3 (.pointer (aD BB (Oq + 1))) (.int .i64 (x16 + 1))) σ (fun _ y => Spec prog 135 #[(.pointer (aD BB Oq))] y (AA R (fun z AF => ∃ AJL AJM AJN AJO, z = (.agg #[.int .i64 AJL, .int .i64 AJM, .string AJN, .int .i64 AJO]) ∧ ∃ (f23 : Nat) (tc te : Array Value), v1 = .func (.func f23) tc te ∧ Enters prog f23 ∧ Spec prog f23 (tc ++ #[] ++ te) AF (AA R (fun z AH => z = (.tuple #[]) ∧ LI .i64 AH BB (Oq + 1) fun Gu => AK (Gu - 1) ∧ AJ prog (Instr.storeAt 3 (.pointer (aD BB (Oq + 1))) (.int .i64 (Gu - 1))) AH (fun _ AZ => R (.returned (.tuple #[])) AZ))))))) : oL R q0 v1 σ := M.of h ok rfl
end ES
namespace ET
variable {x0 : Int}
def M : Fw := ⟨prog, 302, f302, [], [], false, [], [], []⟩
theorem ok : M.Ok := ⟨AG.nil, mixed, func302, by kernel_rfl⟩
theorem start (h : Df (Go.bits .or .u8 x0 32) fun x4 => R (.returned (.int .u8 x4)) σ) : Spec prog 302 #[.int .u8 x0] σ R := M.start h ok
end ET
namespace By
variable {s0 s1 : ByteArray}
def M : Fw := ⟨prog, 315, f315, [], [], false, [], [], []⟩
theorem ok : M.Ok := ⟨AG.nil, mixed, func315, by kernel_rfl⟩
theorem start (h : Br ((((ByteArray.size s1 : Nat) : Int) : Int) ≤ ((ByteArray.size s0 : Nat) : Int)) (∃ s14, YF prog (Instr.sliceAt 9 (.string s0) none (some (.int .i64 ((ByteArray.size s1 : Nat) : Int))) none) σ (.string s14) ∧ R (.returned (.bool (ByteArray.toList s14 == ByteArray.toList s1))) σ) (R (.returned (.bool false)) σ)) : Spec prog 315 #[.string s0, .string s1] σ R := M.start h ok
end By
end TwW
end
end
