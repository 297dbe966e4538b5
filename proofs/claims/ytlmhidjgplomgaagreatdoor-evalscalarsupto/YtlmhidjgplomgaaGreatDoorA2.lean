/-
  Part 2 of the proof that the law EvalScalarsUptoCardSaid of the given program answers true for every input of the given statement; the input reads behind the call as it did. (The texts: packed from 7 texts. Names are shortened by the packing program, for the bound on size.)
-/
import Derived.Test.YtlmhidjgplomgaaGreatDoorA1
set_option linter.all false
section
namespace Tw
open Go
variable [Es]
def ji (P : Program) : Op → Bool
 | .call c => match c.callee with
   | .builtin .len => false
   | .builtin .cap => false
   | .builtin .min => false
   | .builtin .max => false
   | .builtin .real => false
   | .builtin .imag => false
   | .builtin .complex => false
   | _ => true
 | .convert T T' _ => match P.underlying T, P.underlying T' with
   | some (.int _), some (.int _) => false
   | _, _ => true
 | .box .. => true
 | .alloc .. => true
 | .store .. => true
 | .buildSlice .. => true
 | .makeSlice .. => true
 | .mapUpdate .. => true
 | .makeMap .. => true
 | .insert .. => true
 | .range .. => true
 | .next .. => true
 | .lookup .. => true
 | .entryStore .. => true
 | .mapEntry .. => true
 | .makeChan .. => true
 | .binOp b T _ _ _ => flB b && AIY P T
 | _ => false
def fM (s : S) : Option Operand → Option (Option Value)
 | none => some none
 | some x => match s.op x with
   | some v => some (some (v.den s.vl))
   | none => none
def pg (P : Program) (b : BinOp) (T : TypeId) (x y : Option SV) : Bool := match WH x, WH y with
 | some _, some _ => true
 | _, _ => match P.underlying T with
   | some .string => match b with
     | .eql => true
     | .neq => true
     | .add => true
     | _ => false
   | some (.pointer _) => true
   | some .bool => true
   | _ => false
def AIZ : Option SV → Bool
 | some (.v (.a (.sl _ _ _))) => true
 | _ => false
def anyM (P : Program) (op : Op) (ty : TypeId) (s : S) : Option (Sem Value) := match op with
 | .slice T x lo hi mx => match AIZ (s.op x) && mx.isNone with
   | true => none
   | false => match s.op x, fM s lo, fM s hi, fM s mx with
     | some w, some l, some h, some m => some (Instr.sliceAt T (w.den s.vl) l h m)
     | _, _, _, _ => none
 | .unOp u _ x => match u, s.op x with
   | .not, _ => none
   | .neg, v => match WH v, v with
     | some _, _ => none
     | none, some v => some (Op.unary .neg (v.den s.vl))
     | none, none => none
   | u, some v => some (Op.unary u (v.den s.vl))
   | _, none => none
 | .binOp b T x y _ => match pg P b T (s.op x) (s.op y) with
   | true => none
   | false => match s.op x, s.op y with
     | some u, some v => some (do eqGuard b T x y (u.den s.vl) (v.den s.vl); binOp b T (u.den s.vl) (v.den s.vl))
     | _, _ => none
 | .call c => match c.callee, c.args.toList, c.argTypes.toList with
   | .builtin .len, [x], [T] => match s.op x with
     | some (.v (.a (.mp m))) => some (Builtin.len_ #[T] ty #[.map m])
     | _ => none
   | .builtin .real, [x], _ => match s.op x with
     | some v => some (Builtin.real_ c.argTypes ty #[v.den s.vl])
     | none => none
   | .builtin .imag, [x], _ => match s.op x with
     | some v => some (Builtin.imag_ c.argTypes ty #[v.den s.vl])
     | none => none
   | .builtin .complex, [x, y], _ => match s.op x, s.op y with
     | some u, some v => some (Builtin.complex_ c.argTypes ty #[u.den s.vl, v.den s.vl])
     | _, _ => none
   | _, _, _ => none
 | _ => none
theorem OB {s : S} {J : Env} {x : Option Operand} {v : Option Value} (h : fM s x = some v) : x.map (AD (s.e J)) = v := by
 cases x with
 | none => simp only [fM, Option.some.injEq] at h; subst h; rfl
 | some x =>
   simp only [fM] at h
   split at h
   · rename_i u hu
     cases h
     simp only [Option.map_some]
     rw [ev hu]
   · cases h
theorem fN {P : Program} {op : Op} {ty : TypeId} {s : S} {m : Sem Value} (h : anyM P op ty s = some m) (J : Env) : ∀ o : Oper, o.op = op → o.type = ty → execOp (AD (s.e J)) o = (do pure (Next.value (← m))) := fun o ho ht => by
 unfold anyM at h
 split at h
 · rename_i T x lo hi mx
   split at h
   · cases h
   · split at h
     · rename_i w l hh mm h1 h2 h3 h4
       cases h
       simp only [execOp, ho, OB h2, OB h3, OB h4, ev h1]
     · cases h
 · rename_i u T x
   split at h
   · cases h
   · split at h
     · cases h
     · rename_i hv
       cases h
       simp only [execOp, ho, ev hv]
     · cases h
   · rename_i hv
     cases h
     simp only [execOp, ho, ev hv]
   · cases h
 · rename_i b T x y T'
   split at h
   · cases h
   · split at h
     · rename_i u v hu hv
       cases h
       simp only [execOp, ho, ev hu, ev hv]
     · cases h
 · rename_i c
   obtain ⟨ce, ATe, ts⟩ := c
   split at h
   · rename_i x T h1 h2 h3
     simp only at h1 h2 h3
     have e1 : ATe = #[x] := by rw [← Array.toList_inj]; simpa using h2
     have e2 : ts = #[T] := by rw [← Array.toList_inj]; simpa using h3
     subst h1 e1 e2
     split at h
     · rename_i mm hx
       cases h
       exact Zq (by rw [ev hx]; rfl) o ho ht
     · cases h
   · rename_i x h1 h2
     simp only at h1 h2 h
     have e1 : ATe = #[x] := by rw [← Array.toList_inj]; simpa using h2
     subst h1 e1
     split at h
     · rename_i v hv
       cases h
       exact O0 (ev hv) o ho ht
     · cases h
   · rename_i x h1 h2
     simp only at h1 h2 h
     have e1 : ATe = #[x] := by rw [← Array.toList_inj]; simpa using h2
     subst h1 e1
     split at h
     · rename_i v hv
       cases h
       exact O1 (ev hv) o ho ht
     · cases h
   · rename_i x y h1 h2
     simp only at h1 h2 h
     have e1 : ATe = #[x, y] := by rw [← Array.toList_inj]; simpa using h2
     subst h1 e1
     split at h
     · rename_i u v hu hv
       cases h
       exact Jj (ev hu) (ev hv) o ho ht
     · cases h
   · cases h
 · cases h
def we (P : Program) (ty : TypeId) (m : Sem Value) (s : S) (K : SV → S → Prop) : Prop := s.ex P ty fun v s => YF P m s.σ (v.den s.vl) ∧ K v s
theorem Ql {P : Program} {op : Op} {ty : TypeId} {s : S} {m : Sem Value} {K : SV → S → Prop} (hm : anyM P op ty s = some m) (h : we P ty m s K) : ∃ v s', s.Hv s' ∧ (∀ J, Yd P (s.e J) s.b s.σ op ty (v.den s'.vl)) ∧ K v s' := by
 obtain ⟨v, s', h1, hy, hk⟩ := S.Qj h
 rw [h1.σ] at hy
 exact ⟨v, s', h1, fun J => Yd.any (fN hm J) hy, hk⟩
def Qm (ops : Array Oper) (gd : Option (Nat × Bool)) (s : S) (K : Bool → S → Prop) : Prop := match gd with
 | none => K true s
 | some (j, want) => match (ops[j]?).bind (·.dst) with
   | none => False
   | some d => match U2 s.env d with
     | some (.v (.a .un)) => K false s
     | v => s.pc v fun t s => K (t == want) s
theorem IY {ops : Array Oper} {gd : Option (Nat × Bool)} {s : S} {K : Bool → S → Prop} (h : Qm ops gd s K) : ∃ b s', s.Hv s' ∧ (∀ J, AQ ops (s.e J) gd = b) ∧ K b s' := by
 unfold Qm at h
 split at h
 · exact ⟨true, s, .refl s, fun _ => rfl, h⟩
 · rename_i j want
   split at h
   · cases h
   · rename_i d hd
     split at h
     · rename_i hv
       refine ⟨false, s, .refl s, fun J => ?_, h⟩
       have : s.e J d = undef := D8 hv
       simp only [AQ, hd, this]
       rfl
     · obtain ⟨t, s', x, h1, h2, h3, h4, h⟩ := S.FB h
       refine ⟨_, s', h1, fun J => ?_, h⟩
       have : s.e J d = .bool t := (D8 h3).trans h4
       simp only [AQ, hd, this]
       cases t <;> cases want <;> rfl
def dE (J : Env) (K : S → Prop) : Env → Bx → Hp → Prop := fun e bx σ => ∃ s, e = s.e J ∧ bx = s.b ∧ σ = s.σ ∧ K s
structure Cx extends aC where
 n : Nat
 OC : List (Nat × TypeId) := []
structure Cx.Ok (c : Cx) (g : Gl) : Prop where
 P : c.P = g.P
 R : c.R = g.R
 E : AG g.P c.My
 n : c.n = g.n
 Ga : g.Ga = none
 ds : g.ds = []
def kp0 : KP := fun _ _ F => F
def fO (l : List E9) (i : Nat) (o : Nat) (xs : List Bd) : List E9 := match l with
 | [] => []
 | (j, t, cs) :: l => bif Nat.beq j i then (j, t, Z7 cs o xs) :: l else (j, t, cs) :: fO l i o xs
def Qo {α : Type} : List α → Nat
 | [] => 0
 | _ :: l => Qo l + 1
theorem QD {α : Type} : ∀ l : List α, Qo l = l.length
 | [] => rfl
 | _ :: l => by simp only [Qo, List.length_cons]; rw [QD l]
def OD : List Bd → List Value
 | [] => []
 | .raw v :: l => v :: OD l
 | .un :: l => undef :: OD l
 | _ :: l => OD l
def wg (F : Prop) : List Value → Prop
 | [] => F
 | [v] => (Value.oneCell' v = true) ∧ F
 | l => wh l ∧ F
where
 wh : List Value → Prop
   | [] => True
   | [v] => Value.oneCell' v = true
   | v :: l => Value.oneCell' v = true ∧ wh l
def SV.aF : SV → Option (List Bd)
 | .v (.a x) => some [x]
 | .v (.agg l) => some l
 | .To _ => none
def mapOf (P : Program) (l : List (Nat × TypeId)) (x : Operand) : Option (TypeId × TypeId) := match x with
 | .tmp t => match l.find? fun p => Nat.beq p.1 t with
   | some p => match P.underlying p.2 with
     | some (.map k v) => some (k, v)
     | _ => none
   | none => none
 | _ => none
def jj (c : Cx) (dst : Option Nat) (x : Operand) (ty : TypeId) (s : S) (K : S → Prop) : Prop := match dst, s.op x, mapOf c.P c.OC x with
 | some d, some u, some (tk, tv) => AJ c.P (Instr.next (u.den s.vl) false ty) s.σ (fun v σ1 => (v = (.tuple #[(.bool false)]) ∧ K ((s.hp σ1).put (some d) (.To [.a (.bl false)]))) ∨
     (match s.ok with
       | true => oe c.P tk s.vl fun a vl => oe c.P tv vl fun b vl => v = (SV.To [.a (.bl true), a, b]).den vl ∧ K (((s.hp σ1).w vl).put (some d) (.To [.a (.bl true), a, b]))
       | false => False))
 | _, _, _ => False
def wj (c : Cx) (T : TypeId) (i o : Nat) (v : SV) (s : S) (K : S → Prop) : Prop := match v.aF, Wb c.P T with
 | some l, some n => match Wk s.bx i with
   | some (t, cs) => match Nat.beq (Qo l) n && Nat.ble (o + Qo l) (Qo cs) with
     | true => wg (K ⟨s.env, fO s.bx i o l, s.vl, s.σ⟩) (OD l)
     | false => False
   | none => False
 | _, _ => False
def jl (c : Cx) (ops : Array Oper) (i : Nat) (s : S) (K : S → Prop) : Prop := match ops[i]? with
 | none => False
 | some o => match Gx o.dst c.n with
   | false => False
   | true => Qm ops o.guard s fun b s => match b with
     | false => K (s.put o.dst (.at .un))
     | true => match o.op with
       | .load T x => ldV c.P T x s fun _ v s => K (s.put o.dst v)
       | .mapUpdate T m k v => match o.dst, s.op m, s.op k, s.op v with
         | none, some m, some k, some v => AJ c.P (Instr.mapUpdate T (m.den s.vl) (k.den s.vl) (v.den s.vl)) s.σ (fun _ σ1 => K (s.hp σ1))
         | _, _, _, _ => False
       | .insert T m k v => match o.dst, s.op m, s.op k, s.op v with
         | none, some m, some k, some v => AJ c.P (Instr.mapUpdate T (m.den s.vl) (k.den s.vl) (v.den s.vl)) s.σ (fun _ σ1 => K (s.hp σ1))
         | _, _, _, _ => False
       | .next x false => jj c o.dst x o.type s K
       | .entry x => match s.op x, mapOf c.P c.OC x with
         | some u, some (tk, tv) => AJ c.P (Instr.entry (u.den s.vl)) s.σ (fun v σ1 => HX (jf c.P tk tv) o.dst (s.hp σ1) s.σ v kp0 K)
         | _, _ => False
       | .panic x => match s.op x with
         | some (.v (.a (.raw (.iface T u)))) => c.R (.panicked [{ v := .iface T u, recovered := false }]) s.σ
         | _ => False
       | .store T x y => match o.dst, jY (s.op x), s.op y with
         | none, some (.bx i b), some v => wj c T i b v s K
         | _, _, _ => fK c.toaC o.dst (.store T x y) o.type s kp0 K
       | op => match ji c.P op, anyM c.P op o.type s with
         | true, _ => fK c.toaC o.dst op o.type s kp0 K
         | false, some m => we c.P o.type m s fun v s => K (s.put o.dst v)
         | false, none => yv c.P c.wr op s fun v s => K (s.put o.dst v)
def ph (c : Cx) (ops : Array Oper) : List Nat → S → (S → Prop) → Prop
 | [], s, K => K s
 | i :: is, s, K => jl c ops i s fun s => ph c ops is s K
section
variable {g : Gl} {ops : Array Oper} {i : Nat} {J : Env} {s : S} {K : S → Prop} {c : Cx}
theorem dF {s s' : S} {K : Env → Bx → Hp → Prop} (h : s.Hv s') (hk : AK g ops i (s'.e J) s'.b s'.σ K) : AK g ops i (s.e J) s.b s.σ K := by
 rw [← h.e J, ← h.b, ← h.σ]; exact hk
theorem ABV {s : S} {o : Oper} {K : SV → S → Prop} {K' : Env → Bx → Hp → Prop} (ho : ops[i]? = some o) (hw : AQ ops (s.e J) o.guard = true) (hd : Gx o.dst g.n = true) (h : YP g.P o.op o.type s K) (hk : ∀ v s', s.Hv s' → K v s' → K' ((s'.put o.dst v).e J) s'.b s'.σ) :
   AK g ops i (s.e J) s.b s.σ K' := by
 obtain ⟨v, s', h1, h2, h3⟩ := h
 have := hk v s' h1 h3
 rw [S.Hs, h1.e J, h1.b, h1.σ] at this
 exact AK.y (Cw ho) hw hd (h2 J _) this
theorem Yd.up {P : Program} {e : Env} {bx : Bx} {σ : Hp} {b : Nat} {op : Op} {ty : TypeId} {v : Value} (h : Yd P e bx (fun x => if x = b then σ x else none) op ty v) : Yd P e bx σ op ty v := fun o ho ht w hs hb => h o ho ht w (fun k u hk => by
 simp only at hk
 split at hk
 · exact hs k u hk
 · cases hk) hb
theorem AK.mono {e : Env} {bx : Bx} {σ : Hp} {K K' : Env → Bx → Hp → Prop} (h : AK g ops i e bx σ K) (hk : ∀ e bx σ, K e bx σ → K' e bx σ) : AK g ops i e bx σ K' := fun w0 F a w st => wpOpIn_mono (fun a' w' ⟨e', b', σ', Ml, h'⟩ => ⟨e', b', σ', Ml, hk _ _ _ h'⟩) (h w0 F a w st)
theorem ABW {dst : Option Nat} {op : Op} {ty : TypeId} {gd : Option (Nat × Bool)} (hc : c.Ok g) (hs : sig ops i = some (dst, op, ty, gd)) (hw : AQ ops (s.e J) gd = true) (hd : Gx dst g.n = true) (h : fK c.toaC dst op ty s kp0 K) : AK g ops i (s.e J) s.b s.σ (dE J K) := by
 have := Qk (c := c.toaC) (kq := fun _ _ => True) (J := J) hc.P hc.R hc.E (fun _ _ F h => ⟨h, trivial⟩) (fun _ _ _ => trivial) hs hw hd h
 intro w0 F a w st
 refine wpOpIn_mono ?_ (this w0 F a w st)
 rintro a' w' ⟨e', F2, σ', Ml, s', rfl, rfl, rfl, _, _, hk⟩
 exact ⟨_, _, _, Ml, s', rfl, rfl, rfl, hk⟩
theorem Wp {dst : Option Nat} {x : Operand} {ty : TypeId} {gd : Option (Nat × Bool)} (hc : c.Ok g) (hs : sig ops i = some (dst, .next x false, ty, gd)) (hw : AQ ops (s.e J) gd = true) (hd : Gx dst g.n = true) (h : jj c dst x ty s K) : AK g ops i (s.e J) s.b s.σ (dE J K) := by
 unfold jj at h
 split at h
 · rename_i d u tk tv hu hm
   rw [hc.P] at h
   refine AK.TM hs hw hd (Instr.next (u.den s.vl) false ty) (fun o ho ht => by simp only [execOp, ho, ht]; rw [ev hu]) (h.mono fun v σ1 hr => ?_)
   rcases hr with ⟨rfl, hk⟩ | hr
   · exact ⟨_, (S.Hs (s := s.hp σ1) (x := .To [.a (.bl false)])).symm, (S.Ht (s := s.hp σ1) (x := .To [.a (.bl false)])).symm, (S.FA (s := s.hp σ1) (x := .To [.a (.bl false)])).symm, hk⟩
   · split at hr
     · rename_i Cv
       obtain ⟨a, w1, h1, hr⟩ := D9 hr
       obtain ⟨b, w2, h2, hr⟩ := D9 hr
       obtain ⟨hv, hk⟩ := hr
       have Oz := S.Qc (s := s.hp σ1) Cv (h1.trans h2).le
       refine ⟨_, ?_, ?_, ?_, hk⟩
       · rw [S.Hs, Oz.e J, hv]; rfl
       · rw [S.Ht, Oz.b]; rfl
       · rw [S.FA]; rfl
     · cases hr
 · cases h
theorem Wq {vl : Vl} {i o : Nat} {l : List Bd} : ∀ {bx : List E9} {t : TypeId} {cs : List Bd}, Wk bx i = some (t, cs) → ∃ j, (EP vl bx)[j]? = some (nth 0 vl.δ i, .cells (A2 vl cs).toArray t (0, 0)) ∧ EP vl (fO bx i o l) = (EP vl bx).set j (nth 0 vl.δ i, .cells (A2 vl (Z7 cs o l)).toArray t (0, 0))
 | (k, u, ds) :: r, t, cs, h => by
   simp only [Wk] at h
   cases hk : Nat.beq k i with
   | true =>
     rw [hk] at h; simp only [cond_true, Option.some.injEq, Prod.mk.injEq] at h
     obtain ⟨rfl, rfl⟩ := h
     have := Nat.eq_of_beq_eq_true hk
     subst this
     exact ⟨0, rfl, by simp only [fO, hk, cond_true, EP, List.set_cons_zero]⟩
   | false =>
     rw [hk] at h; simp only [cond_false] at h
     obtain ⟨j, h1, h2⟩ := Wq (vl := vl) (o := o) (l := l) h
     exact ⟨j + 1, by simpa only [EP, List.getElem?_cons_succ] using h1, by simp only [fO, hk, cond_false, EP, List.set_cons_succ, h2]⟩
theorem aG {F : Prop} {l : List Value} (h : wg F l) : F ∧ ∀ v ∈ l, Value.oneCell' v = true := by
 have cj : ∀ {l : List Value}, wg.wh l → ∀ v ∈ l, Value.oneCell' v = true := fun {l} => by
   induction l with
   | nil => intro _ v hv; cases hv
   | cons a l ih =>
     intro h v hv
     cases l with
     | nil => simp at hv; subst hv; exact h
     | cons b l =>
       rcases List.mem_cons.1 hv with rfl | hv
       · exact h.1
       · exact ih h.2 v hv
 match l, h with
 | [], h => exact ⟨h, fun v hv => by cases hv⟩
 | [v], h => exact ⟨h.2, fun u hu => by simp at hu; subst hu; exact h.1⟩
 | a :: b :: l, h => exact ⟨h.2, cj h.1⟩
theorem Qp {vl : Vl} : ∀ {l : List Bd}, (∀ v ∈ OD l, Value.oneCell' v = true) → ∀ u ∈ A2 vl l, Value.oneCell' u = true
 | [], _, u, hu => by cases hu
 | x :: l, h, u, hu => by
   have tl : ∀ v ∈ OD l, Value.oneCell' v = true := fun v hv => h v (by cases x <;> first | exact hv | exact List.mem_cons_of_mem _ hv)
   rcases List.mem_cons.1 hu with rfl | hu
   · cases x <;> try rfl
     case bs i n => cases n <;> rfl
     case raw v => exact h v (List.mem_cons_self ..)
     case un => exact h undef (List.mem_cons_self ..)
   · exact Qp tl u hu
theorem aH {vl : Vl} {v : SV} {l : List Bd} (h : v.aF = some l) (ho : ∀ u ∈ A2 vl l, Value.oneCell' u = true) : (v.den vl).cells = (A2 vl l).toArray := by
 unfold SV.aF at h
 split at h
 · rename_i x
   cases h
   have := ho (x.den vl) (List.mem_cons_self ..)
   simp only [SV.den, GM.den, A2]
   cases hx : x.den vl <;> first | rfl | (rw [hx] at this; cases this)
 · cases h; rfl
 · cases h
theorem aI {T ty : TypeId} {x y : Operand} {gd : Option (Nat × Bool)} {k b : Nat} {v : SV} (hc : c.Ok g) (hs : sig ops i = some (none, .store T x y, ty, gd)) (hw : AQ ops (s.e J) gd = true) (hx : jY (s.op x) = some (.bx k b)) (hy : s.op y = some v) (h : wj c T k b v s K) : AK g ops i (s.e J) s.b s.σ (dE J K) := by
 unfold wj at h
 split at h
 · rename_i l n hl hz
   split at h
   · rename_i t cs hg
     split at h
     · rename_i hd
       simp only [Bool.and_eq_true, QD] at hd
       obtain ⟨hk, ho⟩ := aG h
       have aJ := Qp (vl := s.vl) ho
       have aK := aH (vl := s.vl) hl aJ
       obtain ⟨u, e1, e2⟩ := ES hx
       obtain ⟨j, h1, h2⟩ := Wq (vl := s.vl) (o := b) (l := l) hg
       rw [hc.P] at hz
       refine AK.vf (b := nth 0 s.vl.δ k) (o := b) (c := (A2 s.vl cs).toArray) (c' := (A2 s.vl (Z7 cs b l)).toArray) (t := t) (j := j) hs hw (CM hz) (by rw [ev e1, e2]; rfl) (ev hy) h1 ?_ ?_ ?_ ?_ ?_
       · rw [aK]; simp [Cz]; exact Nat.eq_of_beq_eq_true hd.1
       · have := Nat.eq_of_beq_eq_true hd.1
         have h3 := Nat.le_of_ble_eq_true hd.2
         exact Nat.ble_eq_true_of_le (by simp [Cz]; omega)
       · rw [aK]; exact List.all_eq_true.2 fun u hu => aJ u (by simpa using hu)
       · rw [aK, Qg]
       · exact ⟨⟨s.env, fO s.bx k b l, s.vl, s.σ⟩, rfl, h2.symm, rfl, hk⟩
     · cases h
   · cases h
 · cases h
theorem Wr (hc : c.Ok g) (h : jl c ops i s K) : AK g ops i (s.e J) s.b s.σ (dE J K) := by
 unfold jl at h
 split at h
 · cases h
 · rename_i o ho
   split at h
   · cases h
   · rename_i hd
     rw [hc.n] at hd
     obtain ⟨b, s1, h1, hw, h⟩ := IY h
     have hw := hw J
     rw [← h1.e J] at hw
     refine dF h1 ?_
     cases b with
     | false => exact AK.no (Cw ho) hw hd ⟨_, (S.Hs (x := .at .un)).symm, S.Ht.symm, S.FA.symm, h⟩
     | true =>
       simp only at h
       split at h
       · rename_i T x JB
         obtain ⟨m, v, s2, h2, hk, hy⟩ := T5 (ty := o.type) h
         have hs := Cw ho
         rw [JB] at hs
         refine AK.y (v := v.den s2.vl) hs hw hd ?_ ⟨s2.put o.dst v, by rw [S.Hs, h2.e J], by rw [S.Ht, h2.b], by rw [S.FA, h2.σ], hk⟩
         have hy := hy J
         rw [hc.P] at hy
         cases m with
         | none => exact hy _
         | some b => exact Yd.up hy
       · rename_i T m k v JB
         split at h
         · rename_i um uk uv ML hm hk hv
           have hs := Cw ho
           rw [JB, ML] at hs
           rw [hc.P] at h
           exact AK.pQ hs hw rfl _ (fun o ho ht => by simp only [execOp, ho]; rw [ev hm, ev hk, ev hv]) (h.mono fun _ σ1 hr => ⟨s1.hp σ1, rfl, rfl, rfl, hr⟩)
         · cases h
       · rename_i T m k v JB
         split at h
         · rename_i um uk uv ML hm hk hv
           have hs := Cw ho
           rw [JB, ML] at hs
           rw [hc.P] at h
           exact AK.pQ hs hw rfl _ (fun o ho ht => by simp only [execOp, ho]; rw [ev hm, ev hk, ev hv]) (h.mono fun _ σ1 hr => ⟨s1.hp σ1, rfl, rfl, rfl, hr⟩)
         · cases h
       · have JB := ‹o.op = Op.next _ false›
         have hs := Cw ho
         rw [JB] at hs
         exact Wp hc hs hw hd h
       · have JB := ‹o.op = Op.entry _›
         have hs := Cw ho
         rw [JB] at hs
         split at h
         · rename_i u tk tv hu hm
           rw [hc.P] at h
           have := AK.TM (K := wc J s1 (fun _ _ => True) K) hs hw hd (Instr.entry (u.den s1.vl)) (fun o ho ht => by simp only [execOp, ho]; rw [ev hu]) (h.mono fun v σ1 hr => Ae (kq := fun _ _ => True) fJ (fun _ _ F h => ⟨h, trivial⟩) hr J)
           exact this.mono fun e bx σ ⟨s', e1, e2, e3, _, _, hk⟩ => ⟨s', e1, e2, e3, hk⟩
         · cases h
       · have JB := ‹o.op = Op.panic _›
         split at h
         · rename_i T u hx
           have hs := Cw ho
           rw [JB] at hs
           rw [hc.R] at h
           exact AK.panic hs hw (by rw [ev hx]; rfl) hc.Ga hc.ds h
         · cases h
       · have JB := ‹o.op = Op.store _ _ _›
         have hs := Cw ho
         rw [JB] at hs
         split at h
         · rename_i i' b v ML hx hy
           rw [ML] at hs
           exact aI hc hs hw hx hy h
         · exact ABW hc hs hw hd h
       · split at h
         · exact ABW hc (Cw ho) hw hd h
         · rename_i m _ hm
           rw [hc.P] at h hm
           obtain ⟨v, s2, h2, hy, hk⟩ := Ql hm h
           exact AK.y (v := v.den s2.vl) (Cw ho) hw hd (hy J) ⟨s2.put o.dst v, by rw [S.Hs, h2.e J], by rw [S.Ht, h2.b], by rw [S.FA, h2.σ], hk⟩
         · rw [hc.P] at h
           exact ABV ho hw hd (Wl h) fun v s' iW hk => ⟨s'.put o.dst v, rfl, S.Ht.symm, S.FA.symm, hk⟩
theorem MP (hc : c.Ok g) : ∀ {is : List Nat} {s : S}, ph c ops is s K → Seq g ops is (s.e J) s.b s.σ (dE J K)
 | [], s, h => ⟨s, rfl, rfl, rfl, h⟩
 | i :: is, s, h => (Wr hc h).mono fun e bx σ ⟨s', h1, h2, h3, h4⟩ => by subst h1 h2 h3; exact MP hc h4
theorem Qq {K K' : Env → Bx → Hp → Prop} (hk : ∀ e bx σ, K e bx σ → K' e bx σ) : ∀ {is : List Nat} {e : Env} {bx : Bx} {σ : Hp}, Seq g ops is e bx σ K → Seq g ops is e bx σ K'
 | [], _, _, _, h => hk _ _ _ h
 | i :: is, e, bx, σ, h => AK.mono h fun _ _ _ h => Qq hk h
theorem IZ {K K' : Env → Bx → Hp → Prop} (hk : ∀ e bx σ, K e bx σ → K' e bx σ) : ∀ {p : Ord} {q : IN} {e : Env} {bx : Bx} {σ : Hp}, Jh g ops p q e bx σ K → Jh g ops p q e bx σ K'
 | .done, _, _, _, _, h => hk _ _ _ h
 | .yes i r, q, e, bx, σ, ⟨own, o, v, h1, h2, h3, h4, h5⟩ => ⟨own, o, v, h1, h2, h3, h4, IZ hk h5⟩
 | .alt i r t, q, e, bx, σ, ⟨h1, h2⟩ => ⟨AK.mono h1 fun _ _ _ ⟨h3, h4⟩ => ⟨h3, IZ hk h4⟩, IZ hk h2⟩
 | .no, _, _, _, _, _ => trivial
def Qr : Ord → List Nat
 | .done => []
 | .yes _ r => Qr r
 | .alt i r _ => i :: Qr r
 | .no => []
def ABX (ops : Array Oper) (i : Nat) : Nat → Nat → Option (List Nat)
 | 0, _ => none
 | f + 1, t => match Ho ops t i with
   | true => some [t]
   | false => (List.range t).findSome? fun u => match Nat.blt i u && Ho ops t u with
     | true => match ABX ops i f u with
       | some p => some (t :: p)
       | none => none
     | false => none
def waits (ops : Array Oper) (i : Nat) : List Nat → List (List Nat)
 | [] => []
 | t :: l => match ABX ops i 40 t with
   | some p => p :: waits ops i l
   | none => waits ops i l
def tH (L : IN) : KP := fun σ0 σ1 F => match L with
 | none => Ext σ0 σ1 ∧ F
 | some [] => F
 | some (x :: l) => Kp ((x :: l).map Prod.fst) σ0 σ1 ∧ F
def FR (c : Cx) (ops : Array Oper) : Ord → IN → S → (S → Prop) → Prop
 | .done, _, s, K => K s
 | .yes i r, L, s, K => match ops[i]? with
   | none => False
   | some o => match Gx o.dst c.n && L.ok i with
     | false => False
     | true => Qm ops o.guard s fun b s => match b with
       | false => FR c ops r L (s.put o.dst (.at .un)) K
       | true => match o.op with
         | .load T x => ldV c.P T x s fun m v s => match m, L with
           | none, _ => FR c ops r L (s.put o.dst v) K
           | some _, none => FR c ops r L (s.put o.dst v) K
           | some b, some l => match (MH (some l) (some (b, waits ops i (Qr r)))).ok i && QV ops i (some (b, waits ops i (Qr r))) with
             | true => FR c ops r (MH (some l) (some (b, waits ops i (Qr r)))) (s.put o.dst v) K
             | false => False
         | op => match ji c.P op, anyM c.P op o.type s, L with
           | true, _, _ => False
           | false, some m, none => we c.P o.type m s fun v s => FR c ops r none (s.put o.dst v) K
           | false, some _, some _ => False
           | false, none, L => yv c.P c.wr op s fun v s => FR c ops r L (s.put o.dst v) K
 | .alt i r t, L, s, K =>
   match t with
   | .no => Ws c ops i L s fun s => FR c ops r (FP L i) s K
   | t => (Ws c ops i L s fun s => FR c ops r (FP L i) s K) ∧ FR c ops t L s K
 | .no, _, _, _ => True
where
 Ws (c : Cx) (ops : Array Oper) (i : Nat) (L : IN) (s : S) (K : S → Prop) : Prop := match ops[i]? with
   | none => False
   | some o => match Gx o.dst c.n with
     | false => False
     | true => Qm ops o.guard s fun b s => match b with
       | false => K (s.put o.dst (.at .un))
       | true => fK c.toaC o.dst o.op o.type s (tH (FP L i)) K
def kqL (q : IN) (σ σ' : Hp) : Prop := match q with
 | none => ∀ b o, σ b = some o → σ' b = some o
 | some L => ∀ x ∈ L, ∀ o, σ x.1 = some o → σ' x.1 = some o
theorem wk {q : IN} {bx F2 : Bx} {σ σ' : Hp} (h : kqL q σ σ') (hb : ∀ p ∈ bx, p ∈ F2) : Jd q bx σ F2 σ' := ⟨hb, h⟩
theorem fP {L : IN} {σ0 σ1 : Hp} {F : Prop} (h : tH L σ0 σ1 F) : F ∧ kqL L σ0 σ1 := by
 unfold tH at h
 split at h
 · exact ⟨h.2, h.1⟩
 · exact ⟨h, fun x hx => by cases hx⟩
 · exact ⟨h.2, fun y hy o ho => h.1 y.1 (List.mem_map.2 ⟨y, hy, rfl⟩) o ho⟩
theorem pj {L : IN} {σ0 σ1 : Hp} (h : Ext σ0 σ1) : kqL L σ0 σ1 := by
 cases L with
 | none => exact h
 | some l => exact fun x _ o ho => h _ _ ho
theorem Wt {L : IN} (hc : c.Ok g) (h : FR.Ws c ops i L s K) : AK g ops i (s.e J) s.b s.σ fun e' F2 σ' => Jd (FP L i) s.b s.σ F2 σ' ∧ dE J K e' F2 σ' := by
 unfold FR.Ws at h
 split at h
 · cases h
 · rename_i o ho
   split at h
   · cases h
   · rename_i hd
     rw [hc.n] at hd
     obtain ⟨b, s1, h1, hw, h⟩ := IY h
     have hw := hw J
     rw [← h1.e J] at hw
     have key : AK g ops i (s1.e J) s1.b s1.σ fun e' F2 σ' => Jd (FP L i) s1.b s1.σ F2 σ' ∧ dE J K e' F2 σ' := by
       cases b with
       | false => exact AK.no (Cw ho) hw hd ⟨Jd.refl _ _ _, _, (S.Hs (x := .at .un)).symm, S.Ht.symm, S.FA.symm, h⟩
       | true =>
         have := Qk (c := c.toaC) (kq := kqL (FP L i)) (J := J) hc.P hc.R hc.E (fun _ _ F h => fP h) (fun _ _ h => pj h) (Cw ho) hw hd h
         exact this.mono fun e' F2 σ' ⟨s', e1, e2, e3, hq, hb, hk⟩ => ⟨wk hq hb, s', e1, e2, e3, hk⟩
     have := dF (K := fun e' F2 σ' => Jd (FP L i) s1.b s1.σ F2 σ' ∧ dE J K e' F2 σ') h1 key
     rw [h1.b, h1.σ] at this
     exact this
theorem C0 (hc : c.Ok g) : ∀ {p : Ord} {q : IN} {s : S}, FR c ops p q s K → Jh g ops p q (s.e J) s.b s.σ (dE J K)
 | .done, q, s, h => ⟨s, rfl, rfl, rfl, h⟩
 | .yes i r, q, s, h => by
   simp only [FR] at h
   split at h
   · cases h
   · rename_i o ho
     split at h
     · cases h
     · rename_i hd
       simp only [Bool.and_eq_true] at hd
       obtain ⟨hd, hq⟩ := hd
       rw [hc.n] at hd
       obtain ⟨b, s1, h1, hw, h⟩ := IY h
       have hw := hw J
       rw [← h1.e J] at hw
       rw [← h1.e J, ← h1.b, ← h1.σ]
       have go : ∀ {v : SV} {s2 : S} {own : Option (Nat × List (List Nat))}, s1.Hv s2 → ((MH q own).ok i && QV ops i own) = true → Yd g.P (s1.e J) s1.b (N1 q own s1.σ) o.op o.type (v.den s2.vl) → AQ ops (s1.e J) o.guard = true → FR c ops r (MH q own) (s2.put o.dst v) K → Jh g ops (.yes i r) q (s1.e J) s1.b s1.σ (dE J K) := fun {v s2 own} h2 Cv hy hw hk => by
         have := C0 hc hk
         rw [S.Hs, S.Ht, S.FA, h2.e J, h2.b, h2.σ] at this
         exact ⟨own, o, v.den s2.vl, Cv, ho, .inl ⟨hw, hy⟩, Gx.lt hd, this⟩
       cases b with
       | false =>
         have := C0 hc h
         rw [S.Hs, S.Ht, S.FA] at this
         exact ⟨none, o, undef, ok_none hq, ho, .inr ⟨hw, rfl⟩, Gx.lt hd, by rw [E8]; exact this⟩
       | true =>
         simp only at h
         split at h
         · rename_i T x JB
           obtain ⟨m, v, s2, h2, hk, hy⟩ := T5 (ty := o.type) h
           have hy := hy J
           rw [hc.P, ← JB] at hy
           split at hk
           · exact go (own := none) h2 (ok_none hq) (hy _) hw (by rw [E8]; exact hk)
           · exact go (own := none) h2 (ok_none hq) (Yd.up hy) hw (by rw [E8]; exact hk)
           · rename_i b l
             split at hk
             · rename_i Cv
               exact go h2 Cv hy hw hk
             · cases hk
         · split at h
           · cases h
           · have hm := ‹anyM c.P o.op o.type s1 = some _›
             rw [hc.P] at h hm
             obtain ⟨v, s2, h2, hy, hk⟩ := Ql hm h
             exact go (own := none) h2 (ok_none hq) (hy J) hw hk
           · cases h
           · rw [hc.P] at h
             obtain ⟨v, s2, h2, hy, hk⟩ := Wl (ty := o.type) h
             exact go (own := none) h2 (ok_none hq) (hy J _) hw (by rw [E8]; exact hk)
 | .alt i r t, q, s, h => by
   have key : ∀ {t : Ord}, (FR.Ws c ops i q s fun s => FR c ops r (FP q i) s K) → Jh g ops t q (s.e J) s.b s.σ (dE J K) → Jh g ops (.alt i r t) q (s.e J) s.b s.σ (dE J K) := fun {t} h1 h2 =>
     ⟨(Wt hc h1).mono fun e bx σ ⟨hk, s', e1, e2, e3, h3⟩ => ⟨hk, by subst e1 e2 e3; exact C0 hc h3⟩, h2⟩
   cases t with
   | no => exact key h trivial
   | done => exact key h.1 (C0 hc h.2)
   | yes j u => exact key h.1 (C0 hc h.2)
   | alt j u w => exact key h.1 (C0 hc h.2)
 | .no, q, s, h => trivial
def dG (P : Program) (ops : Array Oper) (m : Nat) : Nat → Array Bool → Ord
 | 0, _ => .no
 | f + 1, listed => match (List.range m).all fun i => listed.getD i false with
   | true => .done
   | false => match (Region.ready .any ops listed).find? fun j => Nat.blt j m && match ops[j]? with | some o => !ji P o.op | none => false with
     | some j => .yes j (dG P ops m f (listed.setIfInBounds j true))
     | none => (Region.ready .any ops listed).foldr (fun j acc => .alt j (dG P ops m f (listed.setIfInBounds j true)) acc) .no
def wm (c : Cx) (ops : Array Oper) (draw : Bool) (m : Nat) (q : IN) (s : S) (K : S → Prop) : Prop := match draw with
 | false => ph c ops (List.range ops.size) s K
 | true => match U0 ops m (dG c.P ops m (ops.size + 1) (Array.replicate ops.size false)) (List.range' m (ops.size - m)) with
   | true => FR c ops (dG c.P ops m (ops.size + 1) (Array.replicate ops.size false)) q s fun s => ph c ops (List.range' m (ops.size - m)) s K
   | false => False
theorem aL {k : List Item} {id m : Nat} {draw : Bool} {q : IN} (hc : c.Ok g) (hm : g.P.follows .mixedOrders = true) (h : wm c ops draw m q s K) (hk : ∀ s, K s → At g k (s.e J) s.b s.σ) : At g (.code (.region id ops draw) :: k) (s.e J) s.b s.σ := by
 have fin : ∀ e bx σ, dE J K e bx σ → At g k e bx σ := fun e bx σ ⟨s', e1, e2, e3, h⟩ => by subst e1 e2 e3; exact hk s' h
 cases draw with
 | false =>
   refine At.region rfl rfl ?_
   have : Seq g ops (List.range ops.size) (s.e J) s.b s.σ (dE J K) := MP hc h
   exact Qq fin this
 | true =>
   simp only [wm] at h
   split at h
   · rename_i hp
     refine At.ABR hm rfl hp (q := q) ?_
     have := C0 (J := J) hc h
     refine IZ (fun e bx σ ⟨s', e1, e2, e3, h⟩ => ?_) this
     subst e1 e2 e3
     exact Qq fin (MP hc h)
   · cases h
end
end Tw
end
section
namespace Tw
open Go
variable [Es]
def node (body : Code) : List Bool → Code
 | [] => body
 | false :: p => cl (node body p)
 | true :: p => cr (node body p)
inductive It where
 | c (p : List Bool)
 | Qd (i : Nat)
 | lp (p : List Bool)
 | sc (p : List Bool)
def It.den (body : Code) : It → Item
 | .c p => .code (node body p)
 | .Qd i => .inBlock i
 | .lp p => .inLoop (node body p)
 | .sc p => .inScope (node body p)
def C1 (body : Code) : List It → List Item
 | [] => []
 | x :: l => x.den body :: C1 body l
def OE : List Bool → List Bool → Bool
 | [], [] => true
 | a :: p, b :: q => (bif a then b else !b) && OE p q
 | _, _ => false
theorem T8 : ∀ {p q : List Bool}, OE p q = true → p = q
 | [], [], _ => rfl
 | a :: p, b :: q, h => by
   simp only [OE, Bool.and_eq_true] at h
   rw [T8 h.2]
   cases a <;> cases b <;> simp at h <;> rfl
 | [], _ :: _, h => by cases h
 | _ :: _, [], h => by cases h
def It.eq : It → It → Bool
 | .c p, .c q => OE p q
 | .Qd i, .Qd j => Nat.beq i j
 | .lp p, .lp q => OE p q
 | .sc p, .sc q => OE p q
 | _, _ => false
def dH : List It → List It → Bool
 | [], [] => true
 | x :: l, y :: m => x.eq y && dH l m
 | _, _ => false
theorem Wu : ∀ {l m : List It}, dH l m = true → l = m
 | [], [], _ => rfl
 | x :: l, y :: m, h => by
   simp only [dH, Bool.and_eq_true] at h
   rw [Wu h.2]
   have : x = y := by
     cases x <;> cases y <;> simp only [It.eq] at h <;> first
       | (rw [T8 h.1])
       | (rw [Nat.eq_of_beq_eq_true h.1])
       | (exact absurd h.1 (by simp))
   rw [this]
 | [], _ :: _, h => by cases h
 | _ :: _, [], h => by cases h
structure Cut where
 todo : List It
 f : S → Prop
def Cut.Ok (g : Gl) (body : Code) (k : Cut) : Prop := ∀ s J, k.f s → At g (C1 body k.todo) (s.e J) s.b s.σ
def pk : List Cut → List It → Option (S → Prop)
 | [], _ => none
 | k :: l, t => match dH k.todo t with
   | true => some k.f
   | false => pk l t
theorem dI {g : Gl} {body : Code} : ∀ {l : List Cut} {t : List It} {f : S → Prop}, (∀ k ∈ l, k.Ok g body) → pk l t = some f → ∀ s J, f s → At g (C1 body t) (s.e J) s.b s.σ
 | k :: l, t, f, hl, h => by
   simp only [pk] at h
   split at h
   · rename_i he
     cases h
     rw [← Wu he]
     exact hl k (List.mem_cons_self ..)
   · exact dI (fun k hk => hl k (List.mem_cons_of_mem _ hk)) h
def O2 (i : Nat) : List It → Option (List It)
 | [] => none
 | .Qd j :: r => match Nat.beq i j with
   | true => some r
   | false => O2 i r
 | _ :: r => O2 i r
def U8 (l : Nat) : Code → List Bool → Option (List It)
 | .seq a b, p => match U8 l a (false :: p) with
   | some r => some (r ++ [.c (true :: p)])
   | none => U8 l b (true :: p)
 | .label j, _ => match Nat.beq j l with
   | true => some []
   | false => none
 | _, _ => none
def O3 (body : Code) (l : Nat) : List It → Option (List It)
 | [] => none
 | .sc p :: r => match U8 l (node body p) p with
   | some m => some (m ++ (.sc p :: r))
   | none => O3 body l r
 | _ :: r => O3 body l r
structure Fx extends Cx where
 body : Code
 res : List ResultVar
 reg : List (Nat × Nat × Bool)
def jm : List (Nat × Nat × Bool) → Nat → Nat → Nat × IN
 | [], _, m => (m, some [])
 | (i, m, b) :: l, id, z => match Nat.beq i id with
   | true => (m, bif b then none else some [])
   | false => jm l id z
def aM (c : Fx) (s : S) : List ResultVar → Option (List SV)
 | [] => some []
 | .tmp t :: r => match U2 s.env t, aM c s r with
   | some v, some l => some (v :: l)
   | _, _ => none
 | .cell p T :: r => match jY (U2 s.env p), aM c s r with
   | some (.bx i 0), some l => match Wk s.bx i, Wc c.P T with
     | some (_, cs), some true => match Wb c.P T with
       | some n => match decide (cs.length = n) with
         | true => some (.v (.agg cs) :: l)
         | false => none
       | none => none
     | some (_, x :: _), some false => some (.at x :: l)
     | _, _ => none
   | _, _ => none
def Ux (c : Fx) (s : S) : Prop := match aM c s c.res with
 | some l => c.R (.returned (QW (Ck s.vl l))) s.σ
 | none => False
def C2 (c : Fx) (cuts : List Cut) : Nat → Bool → List It → S → Prop
 | 0, _, _, _ => False
 | f + 1, first, todo, s => match (bif first then none else pk cuts todo) with
   | some k => k s
   | none => match todo with
     | [] => Ux c s
     | .Qd _ :: r => C2 c cuts f false r s
     | .lp p :: r => C2 c cuts f false (.c p :: .lp p :: r) s
     | .sc _ :: r => C2 c cuts f false r s
     | .c p :: r => match node c.body p with
       | .skip => C2 c cuts f false r s
       | .seq _ _ => C2 c cuts f false (.c (false :: p) :: .c (true :: p) :: r) s
       | .block i _ => C2 c cuts f false (.c (false :: p) :: .Qd i :: r) s
       | .loop _ => C2 c cuts f false (.c (false :: p) :: .lp (false :: p) :: r) s
       | .exit i => match O2 i r with
         | some r => C2 c cuts f false r s
         | none => False
       | .scope _ => C2 c cuts f false (.c (false :: p) :: .sc (false :: p) :: r) s
       | .label _ => C2 c cuts f false r s
       | .goto l => match O3 c.body l r with
         | some r => C2 c cuts f false r s
         | none => False
       | .cond x _ _ => s.pc (s.op x) fun t s => C2 c cuts f false (.c ((!t) :: p) :: r) s
       | .ret => Ux c s
       | .region id ops draw => wm c.toCx ops draw (jm c.reg id ops.size).1 (jm c.reg id ops.size).2 s fun s => C2 c cuts f false r s
       | _ => False
structure Fx.Ok (c : Fx) (g : Gl) (fn : Func) : Prop where
 cx : c.toCx.Ok g
 mixed : g.P.follows .mixedOrders = true
 fnc : g.P.funcs[g.f]? = some fn
 res : fn.results = c.res.toArray
 Ga : g.Ga = none
 ds : g.ds = []
section
variable {g : Gl} {c : Fx} {fn : Func} {cuts : List Cut} {J : Env}
theorem Ge (hP : c.P = g.P) {s : S} : ∀ {rs : List ResultVar} {l : List SV}, aM c s rs = some l → G9 g.P (s.e J) s.b s.σ rs (Ck s.vl l)
 | [], l, h => by simp only [aM, Option.some.injEq] at h; subst h; rfl
 | .tmp t :: r, l, h => by
   simp only [aM] at h
   split at h
   · rename_i v l' h1 h2
     cases h
     refine ⟨_, ?_, Ge hP h2⟩
     rw [show s.e J t = v.den s.vl from D8 h1]; rfl
   · cases h
 | .cell p T :: r, l, h => by
   simp only [aM] at h
   split at h
   · rename_i i l' h1 h2
     obtain ⟨u, e1, e2⟩ := ES h1
     have hp : s.e J p = .pointer (some ⟨nth 0 s.vl.δ i, 0, none⟩) := (D8 e1).trans (e2 _)
     split at h
     · rename_i t cs hb ha
       split at h
       · rename_i n hn
         split at h
         · rename_i hd
           have hd := of_decide_eq_true hd
           cases h
           rw [hP] at ha hn
           exact ⟨_, _, rfl, ⟨_, hp, jH (ER ha) (CM hn) (by simp [Cz]; exact hd) (Ji hb)⟩, Ge hP h2⟩
         · cases h
       · cases h
     · rename_i t x cs hb ha
       cases h
       rw [hP] at ha
       exact ⟨_, _, rfl, ⟨_, hp, pR (ER ha) (Ji hb) rfl⟩, Ge hP h2⟩
     · cases h
   · cases h
theorem Hx {body : Code} {i : Nat} : ∀ {r r' : List It}, O2 i r = some r' → exitTo i (C1 body r) = some (C1 body r')
 | .Qd j :: r, r', h => by
   simp only [O2] at h
   split at h
   · rename_i he
     cases h
     have := Nat.eq_of_beq_eq_true he
     subst this
     simp [C1, It.den, exitTo]
   · rename_i he
     have BE : i ≠ j := fun e => by subst e; rw [Nat.beq_refl] at he; cases he
     simp only [C1, It.den, exitTo]
     rw [if_neg (by simpa using Ne.symm BE)]
     exact Hx h
 | .c p :: r, r', h => by simp only [O2] at h; simp only [C1, It.den, exitTo]; exact Hx h
 | .lp p :: r, r', h => by simp only [O2] at h; simp only [C1, It.den, exitTo]; exact Hx h
 | .sc p :: r, r', h => by simp only [O2] at h; simp only [C1, It.den, exitTo]; exact Hx h
theorem Qt {body : Code} : ∀ {l m : List It}, C1 body (l ++ m) = C1 body l ++ C1 body m
 | [], _ => rfl
 | x :: l, m => by simp only [List.cons_append, C1, Qt]
theorem LH {l : Nat} : ∀ {x : Code} {p : List Bool}, U8 l x p = none → findLabel x l = none
 | .seq a b, p, h => by
   simp only [U8] at h
   split at h
   · cases h
   · rename_i h1
     simp only [findLabel, LH h1, LH h]
 | .label j, p, h => by
   simp only [U8] at h
   split at h
   · cases h
   · rename_i h1
     have : j ≠ l := fun e => by subst e; rw [Nat.beq_refl] at h1; cases h1
     simp [findLabel, this]
 | .skip, p, h => rfl
 | .region .., p, h => rfl
 | .cond .., p, h => rfl
 | .block .., p, h => rfl
 | .loop .., p, h => rfl
 | .rangeFunc .., p, h => rfl
 | .exit .., p, h => rfl
 | .scope .., p, h => rfl
 | .goto .., p, h => rfl
 | .ret, p, h => rfl
 | .refuse .., p, h => rfl
theorem Qu {l : Nat} {body : Code} : ∀ {x : Code} {p : List Bool} {m : List It}, node body p = x → U8 l x p = some m → ∃ rest, findLabel x l = some rest ∧ ∀ {k : List Item} {e : Env} {bx : Bx} {σ : Hp}, At g (C1 body m ++ k) e bx σ → At g (.code rest :: k) e bx σ
 | .seq a b, p, m, hx, h => by
   simp only [U8] at h
   split at h
   · rename_i r h1
     cases h
     obtain ⟨rest, e1, e2⟩ := Qu (body := body) (x := a) (p := false :: p) (by simp only [node, hx, cl]) h1
     refine ⟨.seq rest b, by simp only [findLabel, e1], fun h => At.seq rfl (e2 ?_)⟩
     rw [Qt, List.append_assoc] at h
     simp only [C1, It.den, node, hx, cr, List.cons_append, List.nil_append] at h
     exact h
   · rename_i h1
     obtain ⟨rest, e1, e2⟩ := Qu (body := body) (x := b) (p := true :: p) (by simp only [node, hx, cr]) h
     exact ⟨rest, by simp only [findLabel, LH h1, e1], e2⟩
 | .label j, p, m, hx, h => by
   simp only [U8] at h
   split at h
   · rename_i h1
     cases h
     have := Nat.eq_of_beq_eq_true h1
     subst this
     exact ⟨.skip, by simp [findLabel], fun h => At.skip h⟩
   · cases h
theorem Hy {l : Nat} {body : Code} : ∀ {r r' : List It}, O3 body l r = some r' → ∃ k', gotoIn l (C1 body r) = some k' ∧ ∀ {e : Env} {bx : Bx} {σ : Hp}, At g (C1 body r') e bx σ → At g k' e bx σ
 | .sc p :: r, r', h => by
   simp only [O3] at h
   split at h
   · rename_i m h1
     cases h
     obtain ⟨rest, e1, e2⟩ := Qu (g := g) rfl h1
     refine ⟨.code rest :: .inScope (node body p) :: C1 body r, by simp only [C1, It.den, gotoIn, e1], fun h => e2 ?_⟩
     rw [Qt] at h
     exact h
   · rename_i h1
     obtain ⟨k', e1, e2⟩ := Hy h
     exact ⟨k', by simp only [C1, It.den, gotoIn, LH h1, e1], e2⟩
 | .c p :: r, r', h => by simp only [O3] at h; simp only [C1, It.den, gotoIn]; exact Hy h
 | .lp p :: r, r', h => by simp only [O3] at h; simp only [C1, It.den, gotoIn]; exact Hy h
 | .Qd p :: r, r', h => by simp only [O3] at h; simp only [C1, It.den, gotoIn]; exact Hy h
theorem Ao (hc : c.Ok g fn) (hk : ∀ k ∈ cuts, k.Ok g c.body) : ∀ {f : Nat} {first : Bool} {todo : List It} {s : S}, C2 c cuts f first todo s → At g (C1 c.body todo) (s.e J) s.b s.σ
 | 0, _, _, _, h => h.elim
 | f + 1, first, todo, s, h => by
   have hl : ∀ σ, left g.ds σ = σ := fun σ => by rw [hc.ds]; rfl
   have iX : Marks g.ds s.σ := by rw [hc.ds]; trivial
   simp only [C2] at h
   split at h
   · rename_i k ABa
     cases first with
     | true => cases ABa
     | false => exact dI hk ABa s J h
   · split at h
     · unfold Ux at h
       split at h
       · rename_i l dJ
         rw [hc.cx.R] at h
         exact At.ABF hc.fnc hc.res (by rw [hl]; exact Ge hc.cx.P dJ) (by rw [hl]; exact h) hc.Ga iX
       · cases h
     · exact At.inBlock (Ao hc hk h)
     · exact At.inLoop (Ao hc hk h)
     · exact At.inScope (Ao hc hk h)
     · rename_i p r _
       have e : C1 c.body (.c p :: r) = .code (node c.body p) :: C1 c.body r := rfl
       rw [e]
       split at h
       · rename_i hn; rw [hn]; exact At.skip (Ao hc hk h)
       · rename_i a b hn
         refine At.seq hn ?_
         have := Ao hc hk h
         simp only [C1, It.den, node, hn, cl, cr] at this
         exact this
       · rename_i i a hn
         refine At.block hn ?_
         have := Ao hc hk h
         simp only [C1, It.den, node, hn, cl] at this
         exact this
       · rename_i a hn
         refine At.loop hn ?_
         have := Ao hc hk h
         simp only [C1, It.den, node, hn, cl] at this
         exact this
       · rename_i i hn
         split at h
         · rename_i r' hr
           exact At.exit hn (Hx hr) (Ao hc hk h)
         · cases h
       · rename_i a hn
         refine At.scope hn ?_
         have := Ao hc hk h
         simp only [C1, It.den, node, hn, cl] at this
         exact this
       · rename_i l hn; rw [hn]; exact At.label (Ao hc hk h)
       · rename_i l hn
         split at h
         · rename_i r' hr
           obtain ⟨k', e1, e2⟩ := Hy (g := g) hr
           exact At.goto hn e1 (e2 (Ao hc hk h))
         · cases h
       · rename_i x a b hn
         obtain ⟨t, s', v, h1, h2, h3, h4, h⟩ := S.FB h
         have hx : AD (s.e J) x = .bool t := by rw [ev h3, h4]
         have := Ao hc hk h
         rw [h1.e J, h1.b, h1.σ] at this
         cases t with
         | true =>
           refine At.so hn hx ?_
           simp only [C1, It.den, node, hn, cl, Bool.not_true] at this
           exact this
         | false =>
           refine At.sq hn hx ?_
           simp only [C1, It.den, node, hn, cr, Bool.not_false] at this
           exact this
       · rename_i hn
         unfold Ux at h
         split at h
         · rename_i l dJ
           rw [hc.cx.R] at h
           exact At.Ux hn hc.fnc hc.res (by rw [hl]; exact Ge hc.cx.P dJ) (by rw [hl]; exact h) hc.Ga iX
         · cases h
       · rename_i id ops draw hn
         rw [hn]
         exact aL hc.cx hc.mixed h fun s' h' => Ao hc hk h'
       · cases h
end
def S.fQ (s : S) : List Nat → Option (List Value)
 | [] => some []
 | t :: l => match U2 s.env t, s.fQ l with
   | some v, some r => some (v.den s.vl :: r)
   | _, _ => none
theorem T9 {s : S} {J : Env} : ∀ {l : List Nat} {vs : List Value}, s.fQ l = some vs → Live (s.e J) (l.zip vs)
 | [], vs, h => by simp only [S.fQ, Option.some.injEq] at h; subst h; trivial
 | t :: l, vs, h => by
   simp only [S.fQ] at h
   split at h
   · rename_i v r h1 h2
     cases h
     exact ⟨D8 h1, T9 h2⟩
   · cases h
def dK (i : Nat) : List E9 → Option (E9 × List E9)
 | [] => none
 | x :: l => match Nat.beq x.1 i with
   | true => some (x, l)
   | false => dK i l
def tI : Option SV → Option Nat
 | some (.v (.a (.pt (.bx i 0)))) => some i
 | _ => none
def S.U9 (s : S) : List Nat → List E9 → Option (List E9)
 | [], _ => some []
 | t :: l, bx => match tI (U2 s.env t) with
   | some i => match dK i bx with
     | some (x, r) => match s.U9 l r with
       | some m => some (x :: m)
       | none => none
     | none => none
   | none => none
def Qv (vl : Vl) : List Nat → List E9 → List (Nat × Value)
 | t :: l, x :: r => (t, .pointer (some ⟨nth 0 vl.δ x.1, 0, none⟩)) :: Qv vl l r
 | _, _ => []
theorem UA {vl : Vl} {i : Nat} : ∀ {l r : List E9} {x : E9}, dK i l = some (x, r) → x.1 = i ∧ ∀ m : List E9, (EP vl m).Sublist (EP vl r) → (EP vl (x :: m)).Sublist (EP vl l)
 | y :: l, r, x, h => by
   simp only [dK] at h
   split at h
   · rename_i he
     cases h
     exact ⟨Nat.eq_of_beq_eq_true he, fun m hm => List.Sublist.cons_cons _ hm⟩
   · obtain ⟨h1, h2⟩ := UA (vl := vl) h
     exact ⟨h1, fun m hm => List.Sublist.cons _ (h2 m hm)⟩
theorem Wv {s : S} {J : Env} : ∀ {l : List Nat} {bx B : List E9}, s.U9 l bx = some B → (EP s.vl B).Sublist (EP s.vl bx) ∧ Live (s.e J) (Qv s.vl l B)
 | [], bx, B, h => by simp only [S.U9, Option.some.injEq] at h; subst h; exact ⟨List.nil_sublist _, trivial⟩
 | t :: l, bx, B, h => by
   simp only [S.U9] at h
   split at h
   · rename_i i hi
     split at h
     · rename_i x r hx
       split at h
       · rename_i m hm
         cases h
         obtain ⟨h1, h2⟩ := UA (vl := s.vl) hx
         obtain ⟨h3, h4⟩ := Wv (s := s) (J := J) hm
         refine ⟨h2 m h3, ?_, h4⟩
         unfold tI at hi
         split at hi
         · rename_i hg
           cases hi
           rw [h1]
           exact D8 hg
         · cases hi
       · cases h
     · cases h
   · cases h
theorem Live.app {e : Env} : ∀ {l m : List (Nat × Value)}, Live e l → Live e m → Live e (l ++ m)
 | [], _, _, h => h
 | (_, _) :: _, _, h, g => ⟨h.1, Live.app h.2 g⟩
theorem At.ABb {g : Gl} {k : List Item} {s : S} {J : Env} {l bl : List Nat} {vs : List Value} {B : List E9} (h : s.fQ l = some vs) (hb : s.U9 bl s.bx = some B) (hk : ∀ J, At g k (Jc J (Qv s.vl bl B ++ l.zip vs)) (EP s.vl B) s.σ) : At g k (s.e J) s.b s.σ := by
 obtain ⟨h1, h2⟩ := Wv (J := J) hb
 exact At.sub h1 (At.live (h2.app (T9 h)) (hk _))
def Qw : Nat → List Value → List (Nat × Value)
 | _, [] => []
 | k, v :: l => (k, v) :: Qw (k + 1) l
theorem Qy {e : Env} : ∀ {l : List Value} {k : Nat}, (∀ j v, l[j]? = some v → e (k + j) = v) → Live e (Qw k l)
 | [], _, _ => trivial
 | v :: l, k, h => ⟨h 0 v rfl, Qy fun j u hj => by rw [show k + 1 + j = k + (j + 1) by omega]; exact h (j + 1) u (by simpa using hj)⟩
theorem Spec.walk {P : Program} {f : FuncId} {fn : Func} {R : Rr} {args : Array Value} {n fuel : Nat} (c : Fx) (cuts : List Cut) (s : S) (hc : c.Ok (Gl.fn P f n R) fn) (hb : fn.body = some c.body) (hnt : fn.ntmps = n) (hn : Nat.ble args.size n = true)
   (hk : ∀ k ∈ cuts, k.Ok (Gl.fn P f n R) c.body) (he : Gz s.vl s.env = Qw 0 args.toList) (hbx : s.bx = []) (h : C2 c cuts fuel true [.c []] s) : Spec P f args s.σ R := by
 subst hnt
 refine Spec.cW hc.fnc hb (Nat.le_of_ble_eq_true hn) fun e hee => ?_
 have hl : Live e (Gz s.vl s.env) := by
   rw [he]
   refine Qy fun j v hj => ?_
   rw [Nat.zero_add, hee]
   simp only [Array.getD_eq_getD_getElem?]
   rw [← Array.getElem?_toList, hj]; rfl
 have := Ao (J := e) hc hk h
 have Pb : s.b = [] := by rw [S.b, hbx]; rfl
 rw [Pb] at this
 exact At.live hl this
end Tw
end
section
namespace Tw
open Go
variable [Es]
inductive Dv where
 | I (k : IntKind) (x : Int)
 | B (t : Bool)
 | T (x : ByteArray)
 | L (p : Option Addr) (n c : Nat)
 | Q (p : Option Addr)
 | A (b : Nat)
 | M (x : Option Nat)
 | V (x : Value)
def Dv.den : Dv → Value
 | .I k x => .int k x
 | .B t => .bool t
 | .T x => .string x
 | .L p n c => .slice p n c
 | .Q p => .pointer p
 | .A b => .pointer (some ⟨b, 0, none⟩)
 | .M x => .map x
 | .V x => x
def Ww : List Dv → List Value
 | [] => []
 | x :: l => x.den :: Ww l
inductive Dw where
 | o (x : Dv)
 | G (l : List Dv)
 | U (l : List Dv)
 | X (T : TypeId) (l : List Dv)
def Dw.den : Dw → Value
 | .o x => x.den
 | .G l => .agg (Ww l).toArray
 | .U l => .tuple (Ww l).toArray
 | .X _ _ => undef
structure Nm where
 ρ : List (Option Addr)
 β : List BK
structure Nm.le (n : Nm) (v : Vl) : Prop where
 ρ : ∀ i, i < n.ρ.length → nth none v.ρ i = nth none n.ρ i
 β : ∀ i, i < n.β.length → nth (.var false) v.β i = nth (.var false) n.β i
def Dv.sym : Dv → Nm → Bd × Nm
 | .I k x, n => (.int k x, n)
 | .B t, n => (.bs (Qo n.β) false, ⟨n.ρ, n.β ++ [.var t]⟩)
 | .T x, n => (.str x, n)
 | .L p k c, n => (.sl (.var (Qo n.ρ)) k c, ⟨n.ρ ++ [p], n.β⟩)
 | .Q p, n => (.pt (.var (Qo n.ρ)), ⟨n.ρ ++ [p], n.β⟩)
 | .A b, n => (.pt (.at b 0), n)
 | .M x, n => (.mp x, n)
 | .V x, n => (.raw x, n)
theorem Nm.ABc {n : Nm} {v : Vl} {p : Option Addr} (h : Nm.le ⟨n.ρ ++ [p], n.β⟩ v) : n.le v ∧ nth none v.ρ (Qo n.ρ) = p := by
 refine ⟨⟨fun i hi => (h.ρ i (by simp only [List.length_append]; omega)).trans (LF hi), h.β⟩, ?_⟩
 rw [QD, h.ρ _ (by simp)]; exact LG
theorem Nm.AIa {n : Nm} {v : Vl} {p : BK} (h : Nm.le ⟨n.ρ, n.β ++ [p]⟩ v) : n.le v ∧ nth (.var false) v.β (Qo n.β) = p := by
 refine ⟨⟨h.ρ, fun i hi => (h.β i (by simp only [List.length_append]; omega)).trans (LF hi)⟩, ?_⟩
 rw [QD, h.β _ (by simp)]; exact LG
theorem Dv.OF {x : Dv} {n : Nm} {v : Vl} (h : (x.sym n).2.le v) : (x.sym n).1.den v = x.den ∧ n.le v := by
 cases x with
 | B t => obtain ⟨h1, h2⟩ := Nm.AIa h; exact ⟨by simp only [Dv.sym, Bd.den, h2]; rfl, h1⟩
 | L p k c => obtain ⟨h1, h2⟩ := Nm.ABc h; exact ⟨by simp only [Dv.sym, Bd.den, PV.den, h2]; rfl, h1⟩
 | Q p => obtain ⟨h1, h2⟩ := Nm.ABc h; exact ⟨by simp only [Dv.sym, Bd.den, PV.den, h2]; rfl, h1⟩
 | _ => exact ⟨rfl, h⟩
def Wx : List Dv → Nm → List Bd × Nm
 | [], n => ([], n)
 | x :: l, n => match x.sym n with
   | (a, n) => match Wx l n with
     | (r, n) => (a :: r, n)
theorem QE {v : Vl} : ∀ {l : List Dv} {n : Nm}, (Wx l n).2.le v → A2 v (Wx l n).1 = Ww l ∧ n.le v
 | [], n, h => ⟨rfl, h⟩
 | x :: l, n, h => by
   obtain ⟨h1, h2⟩ := QE (l := l) (n := (x.sym n).2) h
   obtain ⟨h3, h4⟩ := Dv.OF h2
   exact ⟨by simp only [Wx, A2, Ww, h3]; rw [← h1], h4⟩
def atoms : List Bd → List GM
 | [] => []
 | x :: l => .a x :: atoms l
theorem UB {v : Vl} : ∀ l, HE v (atoms l) = A2 v l
 | [] => rfl
 | x :: l => by simp only [atoms, HE, A2]; rw [UB l]; rfl
def Dw.sym : Dw → Nm → SV × Nm
 | .o x, n => match x.sym n with | (a, n) => (.v (.a a), n)
 | .G l, n => match Wx l n with | (a, n) => (.v (.agg a), n)
 | .U l, n => match Wx l n with | (a, n) => (.To (atoms a), n)
 | .X _ _, n => (.v (.a .un), n)
theorem Dw.OF {x : Dw} {n : Nm} {v : Vl} (h : (x.sym n).2.le v) : (x.sym n).1.den v = x.den ∧ n.le v := by
 cases x with
 | o x => exact Dv.OF (x := x) h
 | G l => obtain ⟨h1, h2⟩ := QE (l := l) h; exact ⟨by simp only [Dw.sym, SV.den, GM.den, Dw.den]; rw [← h1], h2⟩
 | U l => obtain ⟨h1, h2⟩ := QE (l := l) h; exact ⟨by simp only [Dw.sym, SV.den, Dw.den]; rw [UB, ← h1], h2⟩
 | X T l => exact ⟨rfl, h⟩
abbrev Bv := Nat × TypeId × List Dv
def Pc : List (Nat × Dw) → List (Nat × Value)
 | [] => []
 | (_, .X _ _) :: l => Pc l
 | (t, x) :: l => (t, x.den) :: Pc l
def OG : List (Nat × Dw) → Nm → List (Nat × SV) × Nm
 | [], n => ([], n)
 | (_, .X _ _) :: l, n => OG l n
 | (t, x) :: l, n => match x.sym n with
   | (a, n) => match OG l n with
     | (r, n) => ((t, a) :: r, n)
theorem LJ {v : Vl} : ∀ {l : List (Nat × Dw)} {n : Nm}, (OG l n).2.le v → Gz v (OG l n).1 = Pc l ∧ n.le v
 | [], n, h => ⟨rfl, h⟩
 | (t, .o x) :: l, n, h => by
   obtain ⟨h1, h2⟩ := LJ (l := l) (n := ((Dw.o x).sym n).2) h
   obtain ⟨h3, h4⟩ := Dw.OF h2
   exact ⟨by simp only [OG, Gz, Pc, h3]; rw [← h1], h4⟩
 | (t, .G x) :: l, n, h => by
   obtain ⟨h1, h2⟩ := LJ (l := l) (n := ((Dw.G x).sym n).2) h
   obtain ⟨h3, h4⟩ := Dw.OF h2
   exact ⟨by simp only [OG, Gz, Pc, h3]; rw [← h1], h4⟩
 | (t, .U x) :: l, n, h => by
   obtain ⟨h1, h2⟩ := LJ (l := l) (n := ((Dw.U x).sym n).2) h
   obtain ⟨h3, h4⟩ := Dw.OF h2
   exact ⟨by simp only [OG, Gz, Pc, h3]; rw [← h1], h4⟩
 | (_, .X T x) :: l, n, h => LJ (l := l) (n := n) h
def JU : List (Nat × Dw) → List Bv → List Bv
 | [], r => r
 | (t, .X T l) :: m, r => JU m ((t, T, l) :: r)
 | _ :: m, r => JU m r
def Wy : List Bv → Nat → Nm → List E9 × Nm
 | [], _, n => ([], n)
 | (_, T, l) :: m, j, n => match Wx l n with
   | (a, n) => match Wy m (j + 1) n with
     | (r, n) => ((j, T, a) :: r, n)
def po : List Bv → Nat → List (Nat × SV)
 | [], _ => []
 | (t, _, _) :: m, j => (t, .v (.a (.pt (.bx j 0)))) :: po m (j + 1)
abbrev Bw := Nat × TypeId × List Value
def TR : List Bv → List Bw
 | [] => []
 | (t, T, l) :: m => (t, T, Ww l) :: TR m
def aN : List Bw → List Nat → List (Nat × Value)
 | (t, _, _) :: m, b :: δ => (t, .pointer (some ⟨b, 0, none⟩)) :: aN m δ
 | _, _ => []
def wo : List Bw → List Nat → Bx
 | (_, T, l) :: m, b :: δ => (b, .cells l.toArray T (0, 0)) :: wo m δ
 | _, _ => []
def PB : List Bw → (List Nat → Prop) → Prop
 | [], K => K []
 | _ :: m, K => ∀ b : Nat, PB m fun δ => K (b :: δ)
theorem jn : ∀ {l : List Bw} {K : List Nat → Prop}, PB l K → ∀ δ, δ.length = l.length → K δ
 | [], K, h, [], _ => h
 | _ :: m, K, h, b :: δ, hl => jn (h b) δ (by simpa using hl)
theorem jo : ∀ {l : List Bw} {K : List Nat → Prop}, (∀ δ, δ.length = l.length → K δ) → PB l K
 | [], K, h => h [] rfl
 | _ :: m, K, h => fun b => jo fun δ hl => h (b :: δ) (by simp [hl])
def PTv (g : Gl) (td : List Item) (bs : List Bw) (ts : List (Nat × Value)) (σ : Hp) : Prop :=
 ∀ J : Env, PB bs fun δ => At g td (Jc J (aN bs δ ++ ts)) (wo bs δ) σ
theorem dL {δ0 : List Nat} {v : Vl} : ∀ {m : List Bv} {j : Nat} {n : Nm} {δ : List Nat}, δ.length = m.length → (∀ i, i < δ.length → nth 0 v.δ (j + i) = nth 0 δ i) → (Wy m j n).2.le v →
   EP v (Wy m j n).1 = wo (TR m) δ ∧ Gz v (po m j) = aN (TR m) δ ∧ n.le v
 | [], j, n, [], _, _, h => ⟨rfl, rfl, h⟩
 | (t, T, l) :: m, j, n, b :: δ, hl, hd, h => by
   obtain ⟨h1, h2, h3⟩ := dL (δ0 := δ0) (m := m) (j := j + 1) (n := (Wx l n).2) (δ := δ) (by simpa using hl) (fun i hi => by
     have := hd (i + 1) (by simpa using hi)
     rw [show j + 1 + i = j + (i + 1) by omega]; exact this) h
   obtain ⟨h4, h5⟩ := QE h3
   have hb : nth 0 v.δ j = b := hd 0 (by simp)
   refine ⟨?_, ?_, h5⟩
   · simp only [Wy, EP, TR, wo, hb, h4]; rw [← h1]
   · simp only [po, Gz, TR, aN, SV.den, GM.den, Bd.den, PV.den, hb]; rw [h2]
def fR (D : List (Nat × Dw)) (δ : List Nat) (σ : Hp) : S := match OG D ⟨[], []⟩ with
 | (e, n) => match JU D [] with
   | bs => match Wy bs 0 n with
     | (x, n) => ⟨po bs 0 ++ e, x, ⟨n.ρ, n.β, δ⟩, σ⟩
theorem Wz {v : Vl} : ∀ {l m : List (Nat × SV)}, Gz v (l ++ m) = Gz v l ++ Gz v m
 | [], _ => rfl
 | (t, x) :: l, m => by simp only [List.cons_append, Gz]; rw [Wz]
theorem wq {D : List (Nat × Dw)} {δ : List Nat} {σ : Hp} {J : Env} (hl : δ.length = (JU D []).length) :
   (fR D δ σ).e J = Jc J (aN (TR (JU D [])) δ ++ Pc D) ∧ (fR D δ σ).b = wo (TR (JU D [])) δ := by
 have hle : (Wy (JU D []) 0 (OG D ⟨[], []⟩).2).2.le ⟨(Wy (JU D []) 0 (OG D ⟨[], []⟩).2).2.ρ, (Wy (JU D []) 0 (OG D ⟨[], []⟩).2).2.β, δ⟩ := ⟨fun _ _ => rfl, fun _ _ => rfl⟩
 obtain ⟨h1, h2, h3⟩ := dL (δ0 := []) (δ := δ) hl (fun i _ => by rw [Nat.zero_add]) hle
 obtain ⟨h4, _⟩ := LJ h3
 exact ⟨by simp only [fR, S.e, Wz]; rw [h2, h4], h1⟩
def ABd : Nat → Nat → List Bool
 | 0, _ => []
 | f + 1, n => match Nat.ble n 1 with
   | true => []
   | false => Nat.beq (n % 2) 1 :: ABd f (n / 2)
def pth (n : Nat) : List Bool := ABd 400 n
def MQ (body : Code) : List Bool → List It
 | [] => []
 | t :: p => match node body p with
   | .seq _ _ => bif t then MQ body p else .c (true :: p) :: MQ body p
   | .block i _ => .Qd i :: MQ body p
   | .loop _ => .lp (false :: p) :: MQ body p
   | .scope _ => .sc (false :: p) :: MQ body p
   | _ => MQ body p
def pq (body : Code) (n : Nat) : List It := .c (pth n) :: MQ body (pth n)
inductive Sh where
 | I (k : IntKind) | B | T | L | Q | A | M | V
inductive Sw where
 | o (x : Sh)
 | G (l : List Sh)
 | U (l : List Sh)
 | X (T : TypeId) (l : List Sh)
abbrev ArS : Sh → Type → Type
 | .I _, C => Int → C
 | .B, C => Bool → C
 | .T, C => ByteArray → C
 | .L, C => Option Addr → Nat → Nat → C
 | .Q, C => Option Addr → C
 | .A, C => Nat → C
 | .M, C => Option Nat → C
 | .V, C => Value → C
def ABe {C : Type} : (x : Sh) → (Dv → C) → ArS x C
 | .I k, K => fun x => K (.I k x)
 | .B, K => fun x => K (.B x)
 | .T, K => fun x => K (.T x)
 | .L, K => fun p n c => K (.L p n c)
 | .Q, K => fun x => K (.Q x)
 | .A, K => fun x => K (.A x)
 | .M, K => fun x => K (.M x)
 | .V, K => fun x => K (.V x)
abbrev ArL : List Sh → Type → Type
 | [], A => A
 | x :: l, A => ArS x (ArL l A)
def pr {A : Type} : (l : List Sh) → (List Dv → A) → ArL l A
 | [], K => K []
 | x :: l, K => ABe x fun d => pr l fun r => K (d :: r)
abbrev ArW : Sw → Type → Type
 | .o x, C => ArS x C
 | .G l, C => ArL l C
 | .U l, C => ArL l C
 | .X _ l, C => ArL l C
def AIc {A : Type} : (x : Sw) → (Dw → A) → ArW x A
 | .o x, K => ABe x fun d => K (.o d)
 | .G l, K => pr l fun d => K (.G d)
 | .U l, K => pr l fun d => K (.U d)
 | .X T l, K => pr l fun d => K (.X T d)
abbrev Ar : List (Nat × Sw) → Type → Type
 | [], A => A
 | (_, x) :: l, A => ArW x (Ar l A)
def cur {A : Type} : (l : List (Nat × Sw)) → (List (Nat × Dw) → A) → Ar l A
 | [], K => K []
 | (t, x) :: l, K => AIc x fun d => cur l fun r => K ((t, d) :: r)
structure Fw where
 P : Program
 f : Nat
 fn : Func
 My : List Nat
 hid : List Nat
 wr : Bool
 reg : List (Nat × Nat × Bool)
 OC : List (Nat × TypeId)
 cuts : List (Nat × List (Nat × Sw))
def Fw.K (M : Fw) : Code := M.fn.body.getD .skip
def Fw.gl (M : Fw) (R : Rr) : Gl := Gl.fn M.P M.f M.fn.ntmps R
def Fw.cx (M : Fw) (R : Rr) : Fx := { P := M.P, R := R, My := M.My, hid := M.hid, wr := M.wr, n := M.fn.ntmps, body := M.K, res := M.fn.results.toList, reg := M.reg, OC := M.OC }
def W0 (vl : Vl) : List Nat → List E9 → List Bw
 | t :: l, x :: r => (t, x.2.1, A2 vl x.2.2) :: W0 vl l r
 | _, _ => []
def tmps : List (Nat × Sw) → List Nat
 | [] => []
 | (_, .X _ _) :: l => tmps l
 | (t, _) :: l => t :: tmps l
def jq : List (Nat × Sw) → List Nat → List Nat
 | [], r => r
 | (t, .X _ _) :: l, r => jq l (t :: r)
 | _ :: l, r => jq l r
def Fw.cut (M : Fw) (R : Rr) (c : Nat × List (Nat × Sw)) : Cut := ⟨pq M.K c.1, fun s => match s.fQ (tmps c.2), s.U9 (jq c.2 []) s.bx with
 | some vs, some B => PTv (M.gl R) (C1 M.K (pq M.K c.1)) (W0 s.vl (jq c.2 []) B) ((tmps c.2).zip vs) s.σ
 | _, _ => False⟩
def TS (M : Fw) (R : Rr) : List (Nat × List (Nat × Sw)) → List Cut
 | [] => []
 | c :: l => M.cut R c :: TS M R l
def Fw.wu (M : Fw) (at_ : Nat) (R : Rr) (D : List (Nat × Dw)) (σ : Hp) : Prop := PTv (M.gl R) (C1 M.K (pq M.K at_)) (TR (JU D [])) (Pc D) σ
noncomputable def Fw.pt (M : Fw) (i : Nat) (R : Rr) : Ar (nth (0, []) M.cuts i).2 (Hp → Prop) := cur (nth (0, []) M.cuts i).2 (M.wu (nth (0, []) M.cuts i).1 R)
structure Fw.Ok (M : Fw) : Prop where
 E : AG M.P M.My
 mixed : M.P.follows .mixedOrders = true
 fnc : M.P.funcs[M.f]? = some M.fn
 body : M.fn.body.isSome = true
theorem Fw.tJ {M : Fw} {R : Rr} (h : M.Ok) : (M.cx R).Ok (M.gl R) M.fn := ⟨⟨rfl, rfl, h.E, rfl, rfl, rfl⟩, h.mixed, h.fnc, rfl, rfl, rfl⟩
theorem W1 {vl : Vl} : ∀ {l : List Nat} {B : List E9}, ∃ δ : List Nat, δ.length = (W0 vl l B).length ∧ aN (W0 vl l B) δ = Qv vl l B ∧ (l.length = B.length → wo (W0 vl l B) δ = EP vl B)
 | [], [] => ⟨[], rfl, rfl, fun _ => rfl⟩
 | [], _ :: _ => ⟨[], rfl, rfl, fun h => by simp at h⟩
 | _ :: _, [] => ⟨[], rfl, rfl, fun h => by simp at h⟩
 | t :: l, (i, T, cs) :: B => by
   obtain ⟨δ, h1, h2, h3⟩ := W1 (vl := vl) (l := l) (B := B)
   exact ⟨nth 0 vl.δ i :: δ, by simp [W0, h1], by simp only [W0, aN, Qv]; rw [h2], fun h => by simp only [W0, wo, EP]; rw [h3 (by simpa using h)]⟩
theorem W2 {s : S} : ∀ {l : List Nat} {bx B : List E9}, s.U9 l bx = some B → l.length = B.length
 | [], bx, B, h => by simp only [S.U9, Option.some.injEq] at h; subst h; rfl
 | t :: l, bx, B, h => by
   simp only [S.U9] at h
   split at h
   · split at h
     · split at h
       · rename_i m hm
         cases h
         simp [W2 hm]
       · cases h
     · cases h
   · cases h
theorem Fw.wv (M : Fw) (R : Rr) (c : Nat × List (Nat × Sw)) : (M.cut R c).Ok (M.gl R) M.K := fun s J h => by
 simp only [Fw.cut] at h
 split at h
 · rename_i vs B h1 h2
   obtain ⟨δ, e1, e2, e3⟩ := W1 (vl := s.vl) (l := jq c.2 []) (B := B)
   refine At.ABb h1 h2 fun J => ?_
   have := jn (h J) δ e1
   rw [e2, e3 (W2 h2)] at this
   exact this
 · cases h
theorem VA {M : Fw} {R : Rr} : ∀ {l : List (Nat × List (Nat × Sw))}, ∀ k ∈ TS M R l, k.Ok (M.gl R) M.K
 | c :: l, k, hk => by
   rcases List.mem_cons.1 hk with rfl | hk
   · exact M.wv R c
   · exact VA k hk
theorem W3 : ∀ {l : List Bv}, (TR l).length = l.length
 | [] => rfl
 | _ :: m => by simp only [TR, List.length_cons]; rw [W3]
def PX (F : Prop) : List Bv → (List Nat → Prop) → Prop
 | [], K => F = K []
 | _ :: m, K => ∀ b : Nat, PX F m fun δ => K (b :: δ)
theorem jr {F : Prop} (h : F) : ∀ {l : List Bv} {K : List Nat → Prop}, PX F l K → ∀ δ, δ.length = l.length → K δ
 | [], K, e, [], _ => e ▸ h
 | _ :: m, K, e, b :: δ, hl => jr h (e b) δ (by simpa using hl)
theorem Fw.ofB {M : Fw} {R : Rr} {at_ : Nat} {D : List (Nat × Dw)} {σ : Hp} {F : Prop} (h : F) (ok : M.Ok) (e : PX F (JU D []) fun δ => C2 (M.cx R) (TS M R M.cuts) 4000 true (pq M.K at_) (fR D δ σ)) : M.wu at_ R D σ := fun J => by
 refine jo fun δ hl => ?_
 rw [W3] at hl
 have := Ao (J := J) (Fw.tJ ok) VA (jr h e δ hl)
 obtain ⟨e1, e2⟩ := wq (D := D) (σ := σ) (J := J) hl
 rw [e1, e2] at this
 exact this
theorem Fw.of {M : Fw} {R : Rr} {at_ : Nat} {D : List (Nat × Dw)} {σ : Hp} {F : Prop} (h : F) (ok : M.Ok) (hb : JU D [] = []) (e : F = C2 (M.cx R) (TS M R M.cuts) 4000 true (pq M.K at_) (fR D [] σ) := by kernel_rfl) : M.wu at_ R D σ :=
 M.ofB h ok (by rw [hb]; exact e)
theorem Fw.iY {M : Fw} {R : Rr} {at_ : Nat} {D : List (Nat × Dw)} {σ : Hp} {F : Prop} {x1 : Bv} (h : F) (ok : M.Ok) (hb : JU D [] = [x1]) (e : ∀ b1 : Nat, F = C2 (M.cx R) (TS M R M.cuts) 4000 true (pq M.K at_) (fR D [b1] σ)) : M.wu at_ R D σ :=
 M.ofB h ok (by rw [hb]; exact e)
theorem Fw.fS {M : Fw} {R : Rr} {at_ : Nat} {D : List (Nat × Dw)} {σ : Hp} {F : Prop} {x1 x2 : Bv} (h : F) (ok : M.Ok) (hb : JU D [] = [x1, x2]) (e : ∀ b1 b2 : Nat, F = C2 (M.cx R) (TS M R M.cuts) 4000 true (pq M.K at_) (fR D [b1, b2] σ)) : M.wu at_ R D σ :=
 M.ofB h ok (by rw [hb]; exact e)
theorem Fw.of3 {M : Fw} {R : Rr} {at_ : Nat} {D : List (Nat × Dw)} {σ : Hp} {F : Prop} {x1 x2 x3 : Bv} (h : F) (ok : M.Ok) (hb : JU D [] = [x1, x2, x3]) (e : ∀ b1 b2 b3 : Nat, F = C2 (M.cx R) (TS M R M.cuts) 4000 true (pq M.K at_) (fR D [b1, b2, b3] σ)) : M.wu at_ R D σ :=
 M.ofB h ok (by rw [hb]; exact e)
theorem Fw.of4 {M : Fw} {R : Rr} {at_ : Nat} {D : List (Nat × Dw)} {σ : Hp} {F : Prop} {x1 x2 x3 x4 : Bv} (h : F) (ok : M.Ok) (hb : JU D [] = [x1, x2, x3, x4]) (e : ∀ b1 b2 b3 b4 : Nat, F = C2 (M.cx R) (TS M R M.cuts) 4000 true (pq M.K at_) (fR D [b1, b2, b3, b4] σ)) : M.wu at_ R D σ :=
 M.ofB h ok (by rw [hb]; exact e)
def wx : Value → Dv
 | .int k x => .I k x
 | .bool t => .B t
 | .string x => .T x
 | .slice p n c => .L p n c
 | .pointer p => .Q p
 | .map x => .M x
 | x => .V x
theorem W4 (x : Value) : (wx x).den = x := by cases x <;> rfl
def dM : List Value → List Dv
 | [] => []
 | x :: l => wx x :: dM l
theorem UC : ∀ l : List Value, Ww (dM l) = l
 | [] => rfl
 | x :: l => by simp only [dM, Ww]; rw [W4, UC]
def fT : Value → Dw
 | .agg cs => .G (dM cs.toList)
 | x => .o (wx x)
theorem js (x : Value) : (fT x).den = x := by
 cases x
 case agg cs => simp only [fT, Dw.den, UC]
 all_goals (simp only [fT, Dw.den]; exact W4 _)
def jt : Value → Dw
 | .pointer (some ⟨b, 0, none⟩) => .o (.A b)
 | x => .o (.V x)
theorem ju (x : Value) : (jt x).den = x := by
 unfold jt; split <;> rfl
def fU (np : Nat) : Nat → List Value → List (Nat × Dw)
 | _, [] => []
 | k, x :: l => match Nat.blt k np with
   | true => (k, fT x) :: fU np (k + 1) l
   | false => (k, jt x) :: fU np (k + 1) l
theorem jv (x : Value) : (∃ y, fT x = .o y) ∨ ∃ y, fT x = .G y := by cases x <;> first | exact .inr ⟨_, rfl⟩ | exact .inl ⟨_, rfl⟩
theorem jw (x : Value) : ∃ y, jt x = .o y := by unfold jt; split <;> exact ⟨_, rfl⟩
theorem VB {np : Nat} : ∀ {l : List Value} {k : Nat}, Pc (fU np k l) = Qw k l ∧ JU (fU np k l) [] = []
 | [], _ => ⟨rfl, rfl⟩
 | x :: l, k => by
   obtain ⟨h1, h2⟩ := VB (np := np) (l := l) (k := k + 1)
   simp only [fU]
   split
   · have hd := js x
     rcases jv x with ⟨y, hy⟩ | ⟨y, hy⟩ <;> rw [hy] at hd ⊢ <;> exact ⟨by simp only [Pc, Qw]; rw [hd, h1], h2⟩
   · have hd := ju x
     obtain ⟨y, hy⟩ := jw x
     rw [hy] at hd ⊢
     exact ⟨by simp only [Pc, Qw]; rw [hd, h1], h2⟩
def Fw.run (M : Fw) (R : Rr) (k : Nat) (D : List (Nat × Dw)) (σ : Hp) : Prop := match Nat.ble k M.fn.ntmps with
 | true => C2 (M.cx R) (TS M R M.cuts) 4000 true [.c []] (fR D [] σ)
 | false => False
theorem Fw.D0 {M : Fw} {R : Rr} {args : Array Value} {σ : Hp} {F : Prop} (h : F) (ok : M.Ok) (D : List (Nat × Dw)) (hx : JU D [] = []) (hD : Pc D = Qw 0 args.toList) (e : F = M.run R args.size D σ) : Spec M.P M.f args σ R := by
 subst e
 unfold Fw.run at h
 split at h
 case h_2 => exact h.elim
 rename_i hn
 obtain ⟨fb, hb⟩ := Option.isSome_iff_exists.1 ok.body
 refine Spec.walk (c := M.cx R) (cuts := TS M R M.cuts) (s := fR D [] σ) (fuel := 4000) (Fw.tJ ok) ?_ rfl hn VA ?_ ?_ h
 · show M.fn.body = some (M.fn.body.getD .skip)
   rw [hb]; rfl
 · obtain ⟨h4, _⟩ := LJ (l := D) (n := ⟨[], []⟩) (v := ⟨(OG D ⟨[], []⟩).2.ρ, (OG D ⟨[], []⟩).2.β, []⟩) ⟨fun _ _ => rfl, fun _ _ => rfl⟩
   rw [hD] at h4
   simp only [fR, hx]
   exact h4
 · simp only [fR, hx]; rfl
theorem Fw.start {M : Fw} {R : Rr} {args : Array Value} {σ : Hp} {F : Prop} (h : F) (ok : M.Ok) (e : F = M.run R args.size (fU M.fn.params.size 0 args.toList) σ := by kernel_rfl) : Spec M.P M.f args σ R :=
 M.D0 h ok _ VB.2 VB.1 e
abbrev wI : Sw := .o (.I .i64)
abbrev wU : Sw := .o (.I .u64)
abbrev w8 : Sw := .o (.I .u8)
abbrev wB : Sw := .o .B
abbrev wT : Sw := .o .T
abbrev wL : Sw := .o .L
abbrev wQ : Sw := .o .Q
abbrev wA : Sw := .o .A
abbrev wM : Sw := .o .M
abbrev wV : Sw := .o .V
abbrev aD (b o : Nat) : Option Addr := some ⟨b, o, none⟩
abbrev Br (p A B : Prop) : Prop := (p → A) ∧ (¬ p → B)
abbrev Bm (p A B : Prop) : Prop := (¬ p → A) ∧ (p → B)
abbrev Bo (t : Bool) (A B : Prop) : Prop := (t = true → A) ∧ (t = false → B)
abbrev Bn (t : Bool) (A B : Prop) : Prop := (t = false → A) ∧ (t = true → B)
abbrev Pq (p : Option Addr) (K : Nat → Nat → Prop) : Prop := ∃ b o : Nat, p = some ⟨b, o, none⟩ ∧ K b o
abbrev In (x n : Int) : Prop := (0 : Int) ≤ x ∧ x < n
abbrev Df (r : Int) (K : Int → Prop) : Prop := ∀ x : Int, x = r → K x
abbrev Al (σ : Hp) (K : Nat → Prop) : Prop := ∀ b : Nat, σ b = none → K b
abbrev LI (k : IntKind) (σ : Hp) (b o : Nat) (K : Int → Prop) : Prop := ∃ x : Int, Hp.ld σ ⟨b, o, none⟩ = some (.int k x) ∧ K x
abbrev LB (σ : Hp) (b o : Nat) (K : Bool → Prop) : Prop := ∃ x : Bool, Hp.ld σ ⟨b, o, none⟩ = some (.bool x) ∧ K x
abbrev LT (σ : Hp) (b o : Nat) (K : ByteArray → Prop) : Prop := ∃ x : ByteArray, Hp.ld σ ⟨b, o, none⟩ = some (.string x) ∧ K x
abbrev LQ (σ : Hp) (b o : Nat) (K : Option Addr → Prop) : Prop := ∃ x : Option Addr, Hp.ld σ ⟨b, o, none⟩ = some (.pointer x) ∧ K x
abbrev LS (σ : Hp) (b o : Nat) (K : Option Addr → Nat → Nat → Prop) : Prop := ∃ p : Option Addr, ∃ n : Nat, ∃ c : Nat, Hp.ld σ ⟨b, o, none⟩ = some (.slice p n c) ∧ K p n c
abbrev CI (k : IntKind) (K : Int → Hp → Prop) : Value → Hp → Prop := fun v σ => ∃ x : Int, v = .int k x ∧ K x σ
abbrev CB (K : Bool → Hp → Prop) : Value → Hp → Prop := fun v σ => ∃ x : Bool, v = .bool x ∧ K x σ
abbrev CT (K : ByteArray → Hp → Prop) : Value → Hp → Prop := fun v σ => ∃ x : ByteArray, v = .string x ∧ K x σ
abbrev CQ (K : Option Addr → Hp → Prop) : Value → Hp → Prop := fun v σ => ∃ x : Option Addr, v = .pointer x ∧ K x σ
abbrev CS (K : Option Addr → Nat → Nat → Hp → Prop) : Value → Hp → Prop := fun v σ => ∃ p : Option Addr, ∃ n : Nat, ∃ c : Nat, v = .slice p n c ∧ K p n c σ
end Tw
end
section
set_option maxRecDepth 100000
noncomputable section
namespace TwW
open Go Tw Go.Proofs.Tryz
variable [Es] {R : Rr} {σ : Hp}

namespace CR
variable {p0 p3 : Option Addr} {n0 c0 n3 c3 : Nat} {x4 : Int}
def M : Fw := ⟨prog, 13, f13, [33, 34], [], false, [], [], [(464, [(0, wL), (3, wL), (4, wI)])]⟩
theorem ok : M.Ok := ⟨.cons call33 (.cons call34 (AG.nil)), mixed, func13, by kernel_rfl⟩
def CN := M.pt 0
theorem start (h : CN R p0 n0 c0 none 0 0 0 σ) : Spec prog 13 #[.slice p0 n0 c0] σ R := M.start h ok
theorem BH (h : Br (x4 < (n0 : Int)) (Pq p0 fun BL Mz => In x4 (n0 : Int) ∧ LS σ BL (Mz + Int.toNat x4 * 2) fun aO n16 WJ => In x4 (n0 : Int) ∧ LS σ BL ((Mz + Int.toNat x4 * 2) + 1) fun UD n22 TH => Spec prog 33 #[.slice aO n16 WJ] σ (AA R (CS fun p17 n17 c17 y => Kp [BL] σ y ∧ Spec prog 34 #[.slice UD n22 TH] y (AA R (CS fun og n23 oh AF => Al AF fun Jb => AJ prog (Builtin.append_ #[23, 23] 23 #[.slice p3 n3 c3, (.slice (aD Jb 0) 1 1)]) (Hp.set AF Jb (.cells #[.slice p17 n17 c17, .slice og n23 oh] 40 (0, 0))) (CS fun p26 n26 c26 AH => AM (x4 + 1) ∧ CN R (aD BL Mz) n0 c0 p26 n26 c26 (x4 + 1) AH)))))) (R (.returned (.slice p3 n3 c3)) σ)) : CN R p0 n0 c0 p3 n3 c3 x4 σ := M.of h ok rfl
end CR
namespace JE
variable {p0 : Option Addr} {n0 c0 : Nat}
def M : Fw := ⟨prog, 34, f34, [], [], false, [], [], []⟩
theorem ok : M.Ok := ⟨AG.nil, mixed, func34, by kernel_rfl⟩
theorem start (h : Al σ fun b3 => AJ prog (Builtin.append_ #[38, 38] 38 #[(.slice (aD b3 0) 0 0), .slice p0 n0 c0]) (Hp.set σ b3 (.cells #[] 50 (0, 0))) (CS fun p5 n5 c5 y => R (.returned (.slice p5 n5 c5)) y)) : Spec prog 34 #[.slice p0 n0 c0] σ R := M.start h ok
end JE
namespace Bq
def K0 := f35.body.getD .skip
def K1 := cl K0
def K2 := cr K0
def K3 := cl K2
def K4 := cl K3
def K5 := cr K3
def K6 := cl K5
def K7 := cr K5
def K8 := cl K7
def K9 := cl K8
def K10 := cr K8
def K11 := cr K7
def K12 := cr K2
def K13 := cl K12
def K14 := cl K13
def K15 := cr K13
def wy := cl K15
def K17 := cl wy
def K18 := cr wy
def K19 := cr K15
def K20 := cr K12
def K21 := cl K20
def K22 := cl K21
def K23 := cr K21
def K24 := cl K23
def K25 := cl K24
def K26 := cr K24
def K27 := cr K23
def K28 := cr K20
def K29 := cl K28
def K30 := cr K28
def K31 := cl K30
def K32 := cr K30
def K33 := cl K32
def K34 := cl K33
def K35 := cr K33
def K36 := cl K35
def K37 := cl K36
def K38 := cr K36
def K39 := cl K38
def K40 := cl K39
def K41 := cr K39
def K42 := cl K41
def K43 := cl K42
def K44 := cr K42
def K45 := cl K44
def K46 := cl K45
def K47 := cr K45
def K48 := cr K44
def K49 := cr K41
def K50 := cl K49
def K51 := cr K49
def K52 := cl K51
def K53 := cl K52
def K54 := cl K53
def K55 := cr K53
def K56 := cl K55
def K57 := cl K56
def K58 := cr K56
def K59 := cr K55
def K60 := cl K59
def K61 := cl K60
def K62 := cl K61
def K63 := cr K61
def K64 := cl K63
def K65 := cr K63
def K66 := cl K65
def K67 := cl K66
def K68 := cr K66
def K69 := cl K68
def K70 := cl K69
def K71 := cr K69
def K72 := cl K71
def K73 := cr K71
def K74 := cr K68
def K75 := cr K65
def K76 := cr K59
def K77 := cr K32
def K78 := cl K77
def K79 := cr K77
def K80 := cl K79
def K81 := cr K79
def K82 : Code := .ret
abbrev gl (R : Rr) : Gl := Gl.fn prog 35 117 R
def Jk (R : Rr) (l : Nat) (r0 : Loop) (b5 b6 CY BC DG BL : Nat) (tK : Int) (σ : Hp) : Prop := ∀ (J : Env), At (Gl.round prog 35 117 l R) [.code K37, .beginRound, .code K38] (Jc J [(5, (.pointer (some ⟨b5, 0, none⟩))), (6, (.pointer (some ⟨b6, 0, none⟩))), (10, (.pointer (some ⟨CY, 0, none⟩))), (11, (.pointer (some ⟨BC, 0, none⟩))), (13, (.pointer (some ⟨DG, 0, none⟩))), (14, (.pointer (some ⟨BL, 0, none⟩))), (56, (.int .i64 tK))]) [] σ
def Pd (R : Rr) (l : Nat) (r0 : Loop) (DG BL : Nat) (x15 : Int) (iZ : Option Addr) (W5 ZO : Nat) (M0 Pe : Int) (σ : Hp) : Prop := ∀ (J : Env), At (Gl.round prog 35 117 l R) [.code K54, .code K55, .inLoop K53, .inBlock 2, .inBlock 1] (Jc J [(13, (.pointer (some ⟨DG, 0, none⟩))), (14, (.pointer (some ⟨BL, 0, none⟩))), (15, (.int .i64 x15)), (67, (.slice iZ W5 ZO)), (68, (.int .i64 M0)), (69, (.int .i64 Pe))]) [] σ
def pw (R : Rr) (l : Nat) (r0 : Loop) (DG BL : Nat) (x15 : Int) (DD : Nat) (HY : Int) (iZ : Option Addr) (W5 ZO : Nat) (M0 Pe : Int) (σ : Hp) : Prop := ∀ (J : Env), At (Gl.round prog 35 117 l R) [.code K75, .inBlock 3, .code K76, .inLoop K53, .inBlock 2, .inBlock 1] (Jc J [(13, (.pointer (some ⟨DG, 0, none⟩))), (14, (.pointer (some ⟨BL, 0, none⟩))), (15, (.int .i64 x15)), (19, (.pointer (some ⟨DD, 0, none⟩))), (20, (.int .i64 HY)), (67, (.slice iZ W5 ZO)), (68, (.int .i64 M0)), (69, (.int .i64 Pe))]) [] σ
theorem start {R : Rr} {p0 p1 : Option Addr} {n0 c0 n1 c1 : Nat} {x2 x3 x4 : Int} {σ : Hp} (h : ∀ b5 : Nat, σ b5 = none → ∀ b6 : Nat, (Hp.set σ b5 (.cells #[(.slice p0 n0 c0)] 22 (0, 0))) b6 = none → ∀ CY : Nat, (Hp.set (Hp.set σ b5 (.cells #[(.slice p0 n0 c0)] 22 (0, 0))) b6 (.cells #[(.slice p1 n1 c1)] 23 (0, 0))) CY = none → ∀ BC : Nat, (Hp.set (Hp.set (Hp.set σ b5 (.cells #[(.slice p0 n0 c0)] 22 (0, 0))) b6 (.cells #[(.slice p1 n1 c1)] 23 (0, 0))) CY (.cells #[(.slice none 0 0)] 23 (0, 0))) BC = none → ∃ UD : Option Addr, ∃ n22 : Nat, ∃ TH : Nat, Hp.ld (Hp.set (Hp.set (Hp.set (Hp.set σ b5 (.cells #[(.slice p0 n0 c0)] 22 (0, 0))) b6 (.cells #[(.slice p1 n1 c1)] 23 (0, 0))) CY (.cells #[(.slice none 0 0)] 23 (0, 0))) BC (.cells #[(.int .i64 0)] 24 (0, 0))) ⟨b5, 0, none⟩ = some (.slice UD n22 TH) ∧ ∃ og : Option Addr, ∃ n23 : Nat, ∃ oh : Nat, Hp.ld (Hp.set (Hp.set (Hp.set (Hp.set σ b5 (.cells #[(.slice p0 n0 c0)] 22 (0, 0))) b6 (.cells #[(.slice p1 n1 c1)] 23 (0, 0))) CY (.cells #[(.slice none 0 0)] 23 (0, 0))) BC (.cells #[(.int .i64 0)] 24 (0, 0))) ⟨b6, 0, none⟩ = some (.slice og n23 oh) ∧ Spec prog 28 #[(.slice UD n22 TH), (.slice og n23 oh)] (Hp.set (Hp.set (Hp.set (Hp.set σ b5 (.cells #[(.slice p0 n0 c0)] 22 (0, 0))) b6 (.cells #[(.slice p1 n1 c1)] 23 (0, 0))) CY (.cells #[(.slice none 0 0)] 23 (0, 0))) BC (.cells #[(.int .i64 0)] 24 (0, 0))) (AA R (fun v σ1 => ∃ JF : Int, v = (.int .i64 JF) ∧ ((JF : Int) ≠ 0 → AJ prog (Instr.storeAt 23 (.pointer (some ⟨CY, 0, none⟩)) (.slice none 0 0)) σ1 (fun _ F3 => AJ prog (Instr.storeAt 24 (.pointer (some ⟨BC, 0, none⟩)) (.int .i64 JF)) F3 (fun _ CG => ∃ Ce : Option Addr, ∃ Cf : Nat, ∃ Cg : Nat, ∃ Ci : Int, Hp.ld CG ⟨CY, 0, none⟩ = some (.slice Ce Cf Cg) ∧ Hp.ld CG ⟨BC, 0, none⟩ = some (.int .i64 Ci) ∧ R (.returned (.tuple #[(.slice Ce Cf Cg), (.int .i64 Ci)])) CG))) ∧ (¬ ((JF : Int) ≠ 0) → Spec prog 29 #[(.int .i64 x2)] σ1 (AA R (fun v_2 F3 => ∃ t29 : Bool, v_2 = (.bool t29) ∧ (t29 = false → AJ prog (Instr.storeAt 23 (.pointer (some ⟨CY, 0, none⟩)) (.slice none 0 0)) F3 (fun _ CG => AJ prog (Instr.storeAt 24 (.pointer (some ⟨BC, 0, none⟩)) (.int .i64 221)) CG (fun _ Cm => ∃ Ce : Option Addr, ∃ Cf : Nat, ∃ Cg : Nat, ∃ Ci : Int, Hp.ld Cm ⟨CY, 0, none⟩ = some (.slice Ce Cf Cg) ∧ Hp.ld Cm ⟨BC, 0, none⟩ = some (.int .i64 Ci) ∧ R (.returned (.tuple #[(.slice Ce Cf Cg), (.int .i64 Ci)])) Cm))) ∧ (t29 = true → Spec prog 29 #[(.int .i64 x3)] F3 (AA R (fun v_3 CG => ∃ t33 : Bool, v_3 = (.bool t33) ∧ (t33 = false → AJ prog (Instr.storeAt 23 (.pointer (some ⟨CY, 0, none⟩)) (.slice none 0 0)) CG (fun _ Cm => AJ prog (Instr.storeAt 24 (.pointer (some ⟨BC, 0, none⟩)) (.int .i64 221)) Cm (fun _ BZ => ∃ Ce : Option Addr, ∃ Cf : Nat, ∃ Cg : Nat, ∃ Ci : Int, Hp.ld BZ ⟨CY, 0, none⟩ = some (.slice Ce Cf Cg) ∧ Hp.ld BZ ⟨BC, 0, none⟩ = some (.int .i64 Ci) ∧ R (.returned (.tuple #[(.slice Ce Cf Cg), (.int .i64 Ci)])) BZ))) ∧ (t33 = true → ((x3 : Int) < x2 → AJ prog (Instr.storeAt 23 (.pointer (some ⟨CY, 0, none⟩)) (.slice none 0 0)) CG (fun _ Cm => AJ prog (Instr.storeAt 24 (.pointer (some ⟨BC, 0, none⟩)) (.int .i64 221)) Cm (fun _ BZ => ∃ Ce : Option Addr, ∃ Cf : Nat, ∃ Cg : Nat, ∃ Ci : Int, Hp.ld BZ ⟨CY, 0, none⟩ = some (.slice Ce Cf Cg) ∧ Hp.ld BZ ⟨BC, 0, none⟩ = some (.int .i64 Ci) ∧ R (.returned (.tuple #[(.slice Ce Cf Cg), (.int .i64 Ci)])) BZ))) ∧ (¬ ((x3 : Int) < x2) → ((x4 : Int) < 1 → AJ prog (Instr.storeAt 23 (.pointer (some ⟨CY, 0, none⟩)) (.slice none 0 0)) CG (fun _ Cm => AJ prog (Instr.storeAt 24 (.pointer (some ⟨BC, 0, none⟩)) (.int .i64 221)) Cm (fun _ BZ => ∃ Ce : Option Addr, ∃ Cf : Nat, ∃ Cg : Nat, ∃ Ci : Int, Hp.ld BZ ⟨CY, 0, none⟩ = some (.slice Ce Cf Cg) ∧ Hp.ld BZ ⟨BC, 0, none⟩ = some (.int .i64 Ci) ∧ R (.returned (.tuple #[(.slice Ce Cf Cg), (.int .i64 Ci)])) BZ))) ∧ (¬ ((x4 : Int) < 1) → AM (x3 - x2) ∧ x4 ≠ (0 : Int) ∧ ∀ Qz : Int, Qz = IntKind.i64.wrap (Int.tdiv (x3 - x2) x4) → ((512 : Int) ≤ Qz → AJ prog (Instr.storeAt 23 (.pointer (some ⟨CY, 0, none⟩)) (.slice none 0 0)) CG (fun _ Cm => AJ prog (Instr.storeAt 24 (.pointer (some ⟨BC, 0, none⟩)) (.int .i64 222)) Cm (fun _ BZ => ∃ Ce : Option Addr, ∃ Cf : Nat, ∃ Cg : Nat, ∃ Ci : Int, Hp.ld BZ ⟨CY, 0, none⟩ = some (.slice Ce Cf Cg) ∧ Hp.ld BZ ⟨BC, 0, none⟩ = some (.int .i64 Ci) ∧ R (.returned (.tuple #[(.slice Ce Cf Cg), (.int .i64 Ci)])) BZ))) ∧ (¬ ((512 : Int) ≤ Qz) → AJ prog (Instr.makeMap 99 none) CG (fun v_4 Cm => ∃ m51 : Nat, v_4 = (.map (some m51)) ∧ ∀ DG : Nat, Cm DG = none → AJ prog (Instr.storeAt 99 (.pointer (some ⟨DG, 0, none⟩)) (.map (some m51))) (Hp.set Cm DG (.cells #[(.map none)] 99 (0, 0))) (fun _ BZ => ∀ BL : Nat, BZ BL = none → Spec prog 48 #[(.int .i64 x2), (.int .i64 x3), (.int .i64 x4)] (Hp.set BZ BL (.cells #[(.slice none 0 0)] 23 (0, 0))) (AA R (fun v_5 M1 => ∃ f55 : Fn, ∃ a55 : Array Value, ∃ c55 : Array Value, (Value.func f55 a55 c55) = v_5 ∧ ∃ (gf : Nat) (lb : Array Value), (Value.func f55 a55 c55) = .func (.func gf) #[] lb ∧ Enters prog gf ∧ ∀ (aP ZP : Nat) (Pf : Loop), aP ≠ ZP → M1 aP = none → M1 ZP = none → (∀ (R2 : Rr) (σ2 : Hp) (qA : Int), σ2 ZP = some (.loop (lp Pf .ready none)) → Jk R2 ZP Pf b5 b6 CY BC DG BL qA σ2 → Hr prog ZP #[(.int .i64 qA)] σ2 R2) → Spec prog gf (#[.func (.yield ZP) #[] #[]] ++ lb) (Hp.set (Hp.set M1 aP (.deferred (some []))) ZP (.loop (lp Pf .ready none))) (fun en Jl => ∃ (v : Value) (s : LoopState) (p : Option Code), en = .returned v ∧ Jl ZP = some (.loop (lp Pf s p)) ∧ s ≠ .busy ∧ ((p = none ∧ ∃ qB : Option Addr, ∃ n114 : Nat, ∃ qC : Nat, Hp.ld (Hp.set Jl ZP (.loop (lp Pf .exhausted none))) ⟨BL, 0, none⟩ = some (.slice qB n114 qC) ∧ Spec prog 50 #[(.slice qB n114 qC), (.func (.func 51) #[] #[])] (Hp.set Jl ZP (.loop (lp Pf .exhausted none))) (AA (NP R) (fun v_6 UE => v_6 = (.tuple #[]) ∧ ∃ jx : Option Addr, ∃ n116 : Nat, ∃ jy : Nat, Hp.ld UE ⟨BL, 0, none⟩ = some (.slice jx n116 jy) ∧ AJ prog (Instr.storeAt 23 (.pointer (some ⟨CY, 0, none⟩)) (.slice jx n116 jy)) UE (fun _ tL => AJ prog (Instr.storeAt 24 (.pointer (some ⟨BC, 0, none⟩)) (.int .i64 0)) tL (fun _ Q0 => ∃ Ce : Option Addr, ∃ Cf : Nat, ∃ Cg : Nat, ∃ Ci : Int, Q0 aP = some (.deferred (some [])) ∧ Hp.ld (Hp.set Q0 aP (.deferred none)) ⟨CY, 0, none⟩ = some (.slice Ce Cf Cg) ∧ Hp.ld (Hp.set Q0 aP (.deferred none)) ⟨BC, 0, none⟩ = some (.int .i64 Ci) ∧ R (.returned (.tuple #[(.slice Ce Cf Cg), (.int .i64 Ci)])) (Hp.set Q0 aP (.deferred none))))))) ∨ (p = (some .ret) ∧ ∃ VC : Option Addr, ∃ VD : Nat, ∃ VE : Nat, ∃ VF : Int, (Hp.set Jl ZP (.loop (lp Pf .exhausted (some .ret)))) aP = some (.deferred (some [])) ∧ Hp.ld (Hp.set (Hp.set Jl ZP (.loop (lp Pf .exhausted (some .ret)))) aP (.deferred none)) ⟨CY, 0, none⟩ = some (.slice VC VD VE) ∧ Hp.ld (Hp.set (Hp.set Jl ZP (.loop (lp Pf .exhausted (some .ret)))) aP (.deferred none)) ⟨BC, 0, none⟩ = some (.int .i64 VF) ∧ R (.returned (.tuple #[(.slice VC VD VE), (.int .i64 VF)])) (Hp.set (Hp.set Jl ZP (.loop (lp Pf .exhausted (some .ret)))) aP (.deferred none)))))))))))))))))))))) : Spec prog 35 #[(.slice p0 n0 c0), (.slice p1 n1 c1), (.int .i64 x2), (.int .i64 x3), (.int .i64 x4)] σ R := by
 refine Spec.cW (fn := f35) (c := K0) func35 (by kernel_rfl) (Nat.le_of_ble_eq_true (by kernel_rfl)) (fun e he => ?_)
 refine At.ofL (l := [(0, (.slice p0 n0 c0)), (1, (.slice p1 n1 c1)), (2, (.int .i64 x2)), (3, (.int .i64 x3)), (4, (.int .i64 x4))]) ⟨he 0, he 1, he 2, he 3, he 4, trivial⟩ (fun J => ?_)
 show At (gl R) _ _ _ _
 refine At.s K1 K2 ?_
 refine At.rg 0 [0, 1, 2, 3] ?_
 refine Seq.o ?_
 refine AK.ve (T := 22) (d := (some 5)) (ty := 0) (x := (.tmp 0)) (gd := none) (cs := #[(.slice p0 n0 c0)]) (by kernel_rfl) rfl rfl rfl (fun b5 hn => ?_)
 replace h := h b5 hn
 refine Seq.o ?_
 refine AK.ve (T := 23) (d := (some 6)) (ty := 0) (x := (.tmp 1)) (gd := none) (cs := #[(.slice p1 n1 c1)]) (by kernel_rfl) rfl rfl rfl (fun b6 hn => ?_)
 replace h := h b6 hn
 refine Seq.o ?_
 refine AK.N4 (T := 23) (d := (some 10)) (ty := 0)  (gd := none) (cs := #[(.slice none 0 0)]) (by kernel_rfl) rfl rfl zeroValue23 rfl (fun CY hn => ?_)
 replace h := h CY hn
 refine Seq.o ?_
 refine AK.N4 (T := 24) (d := (some 11)) (ty := 0)  (gd := none) (cs := #[(.int .i64 0)]) (by kernel_rfl) rfl rfl zeroValue24 rfl (fun BC hn => ?_)
 replace h := h BC hn
 refine Seq.done ?_
 refine At.s K3 K12 (At.s K4 K5 ?_)
 refine At.rg 1 [0, 1, 2, 3] ?_
 obtain ⟨UD, n22, TH, hl, h⟩ := h
 refine Seq.z 22 (.load 22 (.tmp 5)) 22 (.slice UD n22 TH) (Y.ld isAgg22 rfl hl) ?_
 obtain ⟨og, n23, oh, hl, h⟩ := h
 refine Seq.z 23 (.load 23 (.tmp 6)) 23 (.slice og n23 oh) (Y.ld isAgg23 rfl hl) ?_
 refine Seq.o ?_
 refine AK.cl (some 24) call28 (h.cont fun v σ1 h2 => ?_); replace h := h2; clear h2
 obtain ⟨JF, rfl, h⟩ := h
 refine Seq.u 12 (.int .i64 JF) (Seq.done ?_)
 refine At.s K6 K7 ?_
 refine At.rg 2 [0, 1] ?_
 refine Seq.us [(25, .int .i64 JF), (26, .bool (decide ((JF : Int) ≠ 0)))] (Seq.done ?_)
 cases hb : (decide ((JF : Int) ≠ 0)) with
 | true =>
   replace h := h.1 (of_decide_eq_true hb)
   refine At.cT 26 K8 K11 ?_
   refine At.s K9 K10 ?_
   refine At.rg 3 [0, 1, 2] ?_
   refine Seq.u 27 (.int .i64 JF) ?_
   refine Seq.o ?_
   refine AK.store (T := 23) (ty := 0) (x := (.tmp 10)) (y := (.const (.slice none 0 0))) (p := (.pointer (some ⟨CY, 0, none⟩))) (v := (.slice none 0 0)) (gd := none) (by kernel_rfl) rfl rfl rfl (h.mono (fun _ F3 h2 => ?_)); replace h := h2; clear h2
   refine Seq.o ?_
   refine AK.store (T := 24) (ty := 0) (x := (.tmp 11)) (y := (.tmp 27)) (p := (.pointer (some ⟨BC, 0, none⟩))) (v := (.int .i64 JF)) (gd := none) (by kernel_rfl) rfl rfl rfl (h.mono (fun _ CG h2 => ?_)); replace h := h2; clear h2
   refine Seq.done ?_
   obtain ⟨Ce, Cf, Cg, Ci, OH, OI, h⟩ := h
   exact At.rt [.cell 10 23, .cell 11 24] [(.slice Ce Cf Cg), (.int .i64 Ci)] func35 ⟨_, _, rfl, ⟨_, rfl, By isAgg23 OH⟩, ⟨_, _, rfl, ⟨_, rfl, By isAgg24 OI⟩, rfl⟩⟩ h
 | false =>
   replace h := h.2 (of_decide_eq_false hb)
   refine At.cF 26 K8 K11 ?_
   refine At.skip ?_
   refine At.s K13 K20 (At.s K14 K15 ?_)
   refine At.rg 4 [0, 1, 2, 3, 4, 5, 6, 7, 8, 9, 10, 11, 12, 13, 14, 15, 16] ?_
   refine Seq.u 28 (.int .i64 x2) ?_
   refine Seq.o ?_
   refine AK.cl (some 29) call29 (h.cont fun v_2 F3 h2 => ?_); replace h := h2; clear h2
   obtain ⟨t29, rfl, h⟩ := h
   refine Seq.us [(30, .bool (!t29)), (31, .bool (!t29))] ?_
   cases hb : (!t29) with
   | true =>
     replace h := h.1 (Tw.nt hb)
     refine Seq.n 32 ?_
     refine Seq.n 33 ?_
     refine Seq.n 34 ?_
     refine Seq.us [(35, .bool true), (36, .bool true)] ?_
     refine Seq.n 37 ?_
     refine Seq.n 38 ?_
     refine Seq.n 39 ?_
     refine Seq.us [(40, .bool true), (41, .bool true)] ?_
     refine Seq.n 42 ?_
     refine Seq.n 43 ?_
     refine Seq.u 44 (.bool true) (Seq.done ?_)
     refine At.cT 44 wy K19 ?_
     refine At.s K17 K18 ?_
     refine At.rg 5 [0, 1] ?_
     refine Seq.o ?_
     refine AK.store (T := 23) (ty := 0) (x := (.tmp 10)) (y := (.const (.slice none 0 0))) (p := (.pointer (some ⟨CY, 0, none⟩))) (v := (.slice none 0 0)) (gd := none) (by kernel_rfl) rfl rfl rfl (h.mono (fun _ CG h2 => ?_)); replace h := h2; clear h2
     refine Seq.o ?_
     refine AK.store (T := 24) (ty := 0) (x := (.tmp 11)) (y := (.const (.int .i64 221))) (p := (.pointer (some ⟨BC, 0, none⟩))) (v := (.int .i64 221)) (gd := none) (by kernel_rfl) rfl rfl rfl (h.mono (fun _ Cm h2 => ?_)); replace h := h2; clear h2
     refine Seq.done ?_
     obtain ⟨Ce, Cf, Cg, Ci, OH, OI, h⟩ := h
     exact At.rt [.cell 10 23, .cell 11 24] [(.slice Ce Cf Cg), (.int .i64 Ci)] func35 ⟨_, _, rfl, ⟨_, rfl, By isAgg23 OH⟩, ⟨_, _, rfl, ⟨_, rfl, By isAgg24 OI⟩, rfl⟩⟩ h
   | false =>
     replace h := h.2 (Tw.nf hb)
     refine Seq.u 32 (.int .i64 x3) ?_
     refine Seq.o ?_
     refine AK.cl (some 33) call29 (h.cont fun v_3 CG h2 => ?_); replace h := h2; clear h2
     obtain ⟨t33, rfl, h⟩ := h
     refine Seq.us [(34, .bool (!t33)), (35, .bool (!t33)), (36, .bool (!t33))] ?_
     cases hb : (!t33) with
     | true =>
       replace h := h.1 (Tw.nt hb)
       refine Seq.n 37 ?_
       refine Seq.n 38 ?_
       refine Seq.n 39 ?_
       refine Seq.us [(40, .bool true), (41, .bool true)] ?_
       refine Seq.n 42 ?_
       refine Seq.n 43 ?_
       refine Seq.u 44 (.bool true) (Seq.done ?_)
       refine At.L [(2, (.int .i64 x2)), (3, (.int .i64 x3)), (4, (.int .i64 x4)), (5, (.pointer (some ⟨b5, 0, none⟩))), (6, (.pointer (some ⟨b6, 0, none⟩))), (10, (.pointer (some ⟨CY, 0, none⟩))), (11, (.pointer (some ⟨BC, 0, none⟩))), (44, (.bool true))] fun J => ?_
       refine At.cT 44 wy K19 ?_
       refine At.s K17 K18 ?_
       refine At.rg 5 [0, 1] ?_
       refine Seq.o ?_
       refine AK.store (T := 23) (ty := 0) (x := (.tmp 10)) (y := (.const (.slice none 0 0))) (p := (.pointer (some ⟨CY, 0, none⟩))) (v := (.slice none 0 0)) (gd := none) (by kernel_rfl) rfl rfl rfl (h.mono (fun _ Cm h2 => ?_)); replace h := h2; clear h2
       refine Seq.o ?_
       refine AK.store (T := 24) (ty := 0) (x := (.tmp 11)) (y := (.const (.int .i64 221))) (p := (.pointer (some ⟨BC, 0, none⟩))) (v := (.int .i64 221)) (gd := none) (by kernel_rfl) rfl rfl rfl (h.mono (fun _ BZ h2 => ?_)); replace h := h2; clear h2
       refine Seq.done ?_
       obtain ⟨Ce, Cf, Cg, Ci, OH, OI, h⟩ := h
       exact At.rt [.cell 10 23, .cell 11 24] [(.slice Ce Cf Cg), (.int .i64 Ci)] func35 ⟨_, _, rfl, ⟨_, rfl, By isAgg23 OH⟩, ⟨_, _, rfl, ⟨_, rfl, By isAgg24 OI⟩, rfl⟩⟩ h
     | false =>
       replace h := h.2 (Tw.nf hb)
       refine Seq.us [(37, .int .i64 x2), (38, .int .i64 x3), (39, .bool (decide ((x3 : Int) < x2))), (40, .bool (decide ((x3 : Int) < x2))), (41, .bool (decide ((x3 : Int) < x2)))] ?_
       cases hb : (decide ((x3 : Int) < x2)) with
       | true =>
         replace h := h.1 (of_decide_eq_true hb)
         refine Seq.n 42 ?_
         refine Seq.n 43 ?_
         refine Seq.u 44 (.bool true) (Seq.done ?_)
         refine At.cT 44 wy K19 ?_
         refine At.s K17 K18 ?_
         refine At.rg 5 [0, 1] ?_
         refine Seq.o ?_
         refine AK.store (T := 23) (ty := 0) (x := (.tmp 10)) (y := (.const (.slice none 0 0))) (p := (.pointer (some ⟨CY, 0, none⟩))) (v := (.slice none 0 0)) (gd := none) (by kernel_rfl) rfl rfl rfl (h.mono (fun _ Cm h2 => ?_)); replace h := h2; clear h2
         refine Seq.o ?_
         refine AK.store (T := 24) (ty := 0) (x := (.tmp 11)) (y := (.const (.int .i64 221))) (p := (.pointer (some ⟨BC, 0, none⟩))) (v := (.int .i64 221)) (gd := none) (by kernel_rfl) rfl rfl rfl (h.mono (fun _ BZ h2 => ?_)); replace h := h2; clear h2
         refine Seq.done ?_
         obtain ⟨Ce, Cf, Cg, Ci, OH, OI, h⟩ := h
         exact At.rt [.cell 10 23, .cell 11 24] [(.slice Ce Cf Cg), (.int .i64 Ci)] func35 ⟨_, _, rfl, ⟨_, rfl, By isAgg23 OH⟩, ⟨_, _, rfl, ⟨_, rfl, By isAgg24 OI⟩, rfl⟩⟩ h
       | false =>
         replace h := h.2 (of_decide_eq_false hb)
         refine Seq.us [(42, .int .i64 x4), (43, .bool (decide ((x4 : Int) < 1))), (44, .bool (decide ((x4 : Int) < 1)))] (Seq.done ?_)
         cases hb : (decide ((x4 : Int) < 1)) with
         | true =>
           replace h := h.1 (of_decide_eq_true hb)
           refine At.cT 44 wy K19 ?_
           refine At.s K17 K18 ?_
           refine At.rg 5 [0, 1] ?_
           refine Seq.o ?_
           refine AK.store (T := 23) (ty := 0) (x := (.tmp 10)) (y := (.const (.slice none 0 0))) (p := (.pointer (some ⟨CY, 0, none⟩))) (v := (.slice none 0 0)) (gd := none) (by kernel_rfl) rfl rfl rfl (h.mono (fun _ Cm h2 => ?_)); replace h := h2; clear h2
           refine Seq.o ?_
           refine AK.store (T := 24) (ty := 0) (x := (.tmp 11)) (y := (.const (.int .i64 221))) (p := (.pointer (some ⟨BC, 0, none⟩))) (v := (.int .i64 221)) (gd := none) (by kernel_rfl) rfl rfl rfl (h.mono (fun _ BZ h2 => ?_)); replace h := h2; clear h2
           refine Seq.done ?_
           obtain ⟨Ce, Cf, Cg, Ci, OH, OI, h⟩ := h
           exact At.rt [.cell 10 23, .cell 11 24] [(.slice Ce Cf Cg), (.int .i64 Ci)] func35 ⟨_, _, rfl, ⟨_, rfl, By isAgg23 OH⟩, ⟨_, _, rfl, ⟨_, rfl, By isAgg24 OI⟩, rfl⟩⟩ h
         | false =>
           replace h := h.2 (of_decide_eq_false hb)
           refine At.cF 44 wy K19 ?_
           refine At.skip ?_
           refine At.s K21 K28 (At.s K22 K23 ?_)
           refine At.rg 6 [0, 1, 2, 3, 4, 5] ?_
           refine Seq.us [(45, .int .i64 x3), (46, .int .i64 x2)] ?_
           obtain ⟨hi, h⟩ := h
           refine Seq.z 47 (.binOp .sub 2 (.tmp 45) (.tmp 46) 2) 2 (.int .i64 (x3 - x2)) (Y.AH1 hi rfl rfl) ?_
           refine Seq.u 48 (.int .i64 x4) ?_
           obtain ⟨hc, h⟩ := h
           obtain ⟨Qz, tM⟩ : ∃ y, y = IntKind.i64.wrap (Int.tdiv (x3 - x2) x4) := ⟨_, rfl⟩
           replace h := h Qz tM
           refine Seq.y (d := (some 49)) (op := (.binOp .quo 2 (.tmp 47) (.tmp 48) 2)) (ty := 2) (v := (.int .i64 Qz)) (by kernel_rfl) rfl (tM ▸ Y.quo hc rfl rfl) ?_
           refine Seq.u 50 (.bool (decide ((512 : Int) ≤ Qz))) (Seq.done ?_)
           cases hb : (decide ((512 : Int) ≤ Qz)) with
           | true =>
             replace h := h.1 (of_decide_eq_true hb)
             refine At.cT 50 K24 K27 ?_
             refine At.s K25 K26 ?_
             refine At.rg 7 [0, 1] ?_
             refine Seq.o ?_
             refine AK.store (T := 23) (ty := 0) (x := (.tmp 10)) (y := (.const (.slice none 0 0))) (p := (.pointer (some ⟨CY, 0, none⟩))) (v := (.slice none 0 0)) (gd := none) (by kernel_rfl) rfl rfl rfl (h.mono (fun _ Cm h2 => ?_)); replace h := h2; clear h2
             refine Seq.o ?_
             refine AK.store (T := 24) (ty := 0) (x := (.tmp 11)) (y := (.const (.int .i64 222))) (p := (.pointer (some ⟨BC, 0, none⟩))) (v := (.int .i64 222)) (gd := none) (by kernel_rfl) rfl rfl rfl (h.mono (fun _ BZ h2 => ?_)); replace h := h2; clear h2
             refine Seq.done ?_
             obtain ⟨Ce, Cf, Cg, Ci, OH, OI, h⟩ := h
             exact At.rt [.cell 10 23, .cell 11 24] [(.slice Ce Cf Cg), (.int .i64 Ci)] func35 ⟨_, _, rfl, ⟨_, rfl, By isAgg23 OH⟩, ⟨_, _, rfl, ⟨_, rfl, By isAgg24 OI⟩, rfl⟩⟩ h
           | false =>
             replace h := h.2 (of_decide_eq_false hb)
             refine At.cF 50 K24 K27 ?_
             refine At.skip ?_
             refine At.s K29 K30 ?_
             refine At.rg 8 [0, 1, 2] ?_
             refine Seq.o ?_
             refine AK.TM (d := (some 51)) (op := (.makeMap 99 none)) (ty := 99) (gd := none) (by kernel_rfl) rfl rfl (Instr.makeMap 99 none) (fun o ho ht => by simp only [execOp, ho]; rfl) (h.mono (fun v_4 Cm h2 => ?_)); replace h := h2; clear h2
             obtain ⟨m51, rfl, h⟩ := h
             refine Seq.o ?_
             refine AK.N4 (T := 99) (d := (some 13)) (ty := 0)  (gd := none) (cs := #[(.map none)]) (by kernel_rfl) rfl rfl zeroValue99 rfl (fun DG hn => ?_)
             replace h := h DG hn
             refine Seq.o ?_
             refine AK.store (T := 99) (ty := 0) (x := (.tmp 13)) (y := (.tmp 51)) (p := (.pointer (some ⟨DG, 0, none⟩))) (v := (.map (some m51))) (gd := none) (by kernel_rfl) rfl rfl rfl (h.mono (fun _ BZ h2 => ?_)); replace h := h2; clear h2
             refine Seq.done ?_
             refine At.s K31 K32 ?_
             refine At.rg 9 [0] ?_
             refine Seq.o ?_
             refine AK.N4 (T := 23) (d := (some 14)) (ty := 0)  (gd := none) (cs := #[(.slice none 0 0)]) (by kernel_rfl) rfl rfl zeroValue23 rfl (fun BL hn => ?_)
             replace h := h BL hn
             refine Seq.done ?_
             refine At.s K33 K77 (At.s K34 K35 ?_)
             refine At.rg 10 [0, 1, 2, 3] ?_
             refine Seq.us [(52, .int .i64 x2), (53, .int .i64 x3), (54, .int .i64 x4)] ?_
             refine Seq.o ?_
             refine AK.cl (some 55) call48 (h.cont fun v_5 M1 h2 => ?_); replace h := h2; clear h2
             obtain ⟨f55, a55, c55, rfl, h⟩ := h
             refine Seq.done ?_
             refine At.b 0 K36 ?_
             obtain ⟨gf, lb, hgv, N3, h⟩ := h
             refine At.range (gop := (.tmp 55)) (ps := #[56]) (assign := K37) (body := K38) (gf := gf) (lb := lb) (by kernel_rfl) rfl rfl hgv N3 (fun aP ZP Pf hDl hD hl hrf aQ hra hrb hrs hre => ?_)
             refine (h aP ZP Pf hDl hD hl (fun R2 σ2 qA wz hp => Hr.cW (n := 117) wz aQ hrs (by decide) hre (fn := f35) (by rw [hrf]; exact func35) ?_)).mono (fun en Jl h => ?_)
             · rw [hrf, hra, hrb]
               exact At.v [(5, (.pointer (some ⟨b5, 0, none⟩))), (6, (.pointer (some ⟨b6, 0, none⟩))), (10, (.pointer (some ⟨CY, 0, none⟩))), (11, (.pointer (some ⟨BC, 0, none⟩))), (13, (.pointer (some ⟨DG, 0, none⟩))), (14, (.pointer (some ⟨BL, 0, none⟩))), (56, (.int .i64 qA))] (hp _)
             obtain ⟨v, s, p, he, vt, hs, h⟩ := h
             refine ⟨v, s, p, he, vt, hs, ?_⟩
             rcases h with h | h
             · obtain ⟨rfl, h⟩ := h
               show At (Gl.behind prog 35 117 aP R) [.inBlock 0, .code K77] _ _ _
               refine At.inBlock ?_
               refine At.s K78 K79 ?_
               refine At.rg 25 [0, 1] ?_
               obtain ⟨qB, n114, qC, hl, h⟩ := h
               refine Seq.z 114 (.load 23 (.tmp 14)) 23 (.slice qB n114 qC) (Y.ld isAgg23 rfl hl) ?_
               refine Seq.o ?_
               refine AK.cl (some 115) call50 (h.cont fun v_6 UE h2 => ?_); replace h := h2; clear h2
               obtain ⟨rfl, h⟩ := h
               refine Seq.done ?_
               refine At.L [(10, (.pointer (some ⟨CY, 0, none⟩))), (11, (.pointer (some ⟨BC, 0, none⟩))), (14, (.pointer (some ⟨BL, 0, none⟩)))] fun J => ?_
               refine At.s K80 K81 ?_
               refine At.rg 26 [0, 1, 2] ?_
               obtain ⟨jx, n116, jy, hl, h⟩ := h
               refine Seq.z 116 (.load 23 (.tmp 14)) 23 (.slice jx n116 jy) (Y.ld isAgg23 rfl hl) ?_
               refine Seq.o ?_
               refine AK.store (T := 23) (ty := 0) (x := (.tmp 10)) (y := (.tmp 116)) (p := (.pointer (some ⟨CY, 0, none⟩))) (v := (.slice jx n116 jy)) (gd := none) (by kernel_rfl) rfl rfl rfl (h.mono (fun _ tL h2 => ?_)); replace h := h2; clear h2
               refine Seq.o ?_
               refine AK.store (T := 24) (ty := 0) (x := (.tmp 11)) (y := (.const (.int .i64 0))) (p := (.pointer (some ⟨BC, 0, none⟩))) (v := (.int .i64 0)) (gd := none) (by kernel_rfl) rfl rfl rfl (h.mono (fun _ Q0 h2 => ?_)); replace h := h2; clear h2
               refine Seq.done ?_
               obtain ⟨Ce, Cf, Cg, Ci, iX, OH, OI, h⟩ := h
               exact At.Ux (rs := [.cell 10 23, .cell 11 24]) (vs := [(.slice Ce Cf Cg), (.int .i64 Ci)]) (by kernel_rfl) func35 (by kernel_rfl) ⟨_, _, rfl, ⟨_, rfl, By isAgg23 OH⟩, ⟨_, _, rfl, ⟨_, rfl, By isAgg24 OI⟩, rfl⟩⟩ h rfl (jO iX)
             · obtain ⟨rfl, h⟩ := h
               show At (Gl.behind prog 35 117 aP R) [.code K82, .inBlock 0, .code K77] _ _ _
               obtain ⟨VC, VD, VE, VF, iX, w6, w7, h⟩ := h
               exact At.Ux (rs := [.cell 10 23, .cell 11 24]) (vs := [(.slice VC VD VE), (.int .i64 VF)]) (by kernel_rfl) func35 (by kernel_rfl) ⟨_, _, rfl, ⟨_, rfl, By isAgg23 w6⟩, ⟨_, _, rfl, ⟨_, rfl, By isAgg24 w7⟩, rfl⟩⟩ h rfl (jO iX)
theorem LK {R : Rr} {l b5 b6 CY BC DG BL : Nat} {r0 : Loop} {tK : Int} {σ : Hp} (h : σ l = some (.loop (lp r0 .ready none)) ∧ ∃ tN : Option Addr, ∃ ot : Nat, ∃ c58 : Nat, Hp.ld (Hp.set σ l (.loop (lp r0 .busy none))) ⟨b5, 0, none⟩ = some (.slice tN ot c58) ∧ ∃ tO : Option Addr, ∃ n59 : Nat, ∃ tP : Nat, Hp.ld (Hp.set σ l (.loop (lp r0 .busy none))) ⟨b6, 0, none⟩ = some (.slice tO n59 tP) ∧ Spec prog 30 #[(.slice tN ot c58), (.slice tO n59 tP), (.int .i64 tK)] (Hp.set σ l (.loop (lp r0 .busy none))) (AA (NP R) (fun v σ1 => ∃ W6 : Option Addr, ∃ Q1 : Nat, ∃ W7 : Nat, ∃ OJ : Int, v = (.tuple #[(.slice W6 Q1 W7), (.int .i64 OJ)]) ∧ ((OJ : Int) ≠ 0 → AJ prog (Instr.storeAt 23 (.pointer (some ⟨CY, 0, none⟩)) (.slice none 0 0)) σ1 (fun _ F3 => AJ prog (Instr.storeAt 24 (.pointer (some ⟨BC, 0, none⟩)) (.int .i64 OJ)) F3 (fun _ CG => CG l = some (.loop (lp r0 .busy none)) ∧ R (.returned (.bool false)) (Hp.set CG l (.loop (lp r0 .done (some .ret))))))) ∧ (¬ ((OJ : Int) ≠ 0) → Pd R l r0 DG BL tK W6 Q1 W7 ((Q1 : Int)) 0 σ1)))) : Jk R l r0 b5 b6 CY BC DG BL tK σ := by
 intro J
 show At (Gl.round prog 35 117 l R) _ _ _ _
 refine At.rg 11 [0] ?_
 refine Seq.u 15 (.int .i64 tK) (Seq.done ?_)
 obtain ⟨cU, h⟩ := h
 refine At.beginRound rfl cU ?_
 refine At.b 1 K39 ?_
 refine At.s K40 K41 ?_
 refine At.rg 12 [0, 1, 2, 3, 4, 5, 6, 7, 8] ?_
 obtain ⟨tN, ot, c58, hl, h⟩ := h
 refine Seq.z 58 (.load 22 (.tmp 5)) 22 (.slice tN ot c58) (Y.ld isAgg22 rfl hl) ?_
 obtain ⟨tO, n59, tP, hl, h⟩ := h
 refine Seq.z 59 (.load 23 (.tmp 6)) 23 (.slice tO n59 tP) (Y.ld isAgg23 rfl hl) ?_
 refine Seq.u 60 (.int .i64 tK) ?_
 refine Seq.o ?_
 refine AK.cl (some 61) call30 (h.cont fun v σ1 h2 => ?_); replace h := h2; clear h2
 obtain ⟨W6, Q1, W7, OJ, rfl, h⟩ := h
 refine Seq.us [(57, .tuple #[(.slice W6 Q1 W7), (.int .i64 OJ)]), (62, .slice W6 Q1 W7), (63, .int .i64 OJ), (16, .slice W6 Q1 W7), (17, .int .i64 OJ)] (Seq.done ?_)
 refine At.s K42 K49 (At.s K43 K44 ?_)
 refine At.rg 13 [0, 1] ?_
 refine Seq.us [(64, .int .i64 OJ), (65, .bool (decide ((OJ : Int) ≠ 0)))] (Seq.done ?_)
 cases hb : (decide ((OJ : Int) ≠ 0)) with
 | true =>
  replace h := h.1 (of_decide_eq_true hb)
  refine At.cT 65 K45 K48 ?_
  refine At.s K46 K47 ?_
  refine At.rg 14 [0, 1, 2] ?_
  refine Seq.u 66 (.int .i64 OJ) ?_
  refine Seq.o ?_
  refine AK.store (T := 23) (ty := 0) (x := (.tmp 10)) (y := (.const (.slice none 0 0))) (p := (.pointer (some ⟨CY, 0, none⟩))) (v := (.slice none 0 0)) (gd := none) (by kernel_rfl) rfl rfl rfl (h.mono (fun _ F3 h2 => ?_)); replace h := h2; clear h2
  refine Seq.o ?_
  refine AK.store (T := 24) (ty := 0) (x := (.tmp 11)) (y := (.tmp 66)) (p := (.pointer (some ⟨BC, 0, none⟩))) (v := (.int .i64 OJ)) (gd := none) (by kernel_rfl) rfl rfl rfl (h.mono (fun _ CG h2 => ?_)); replace h := h2; clear h2
  refine Seq.done ?_
  exact At.jC (by kernel_rfl) rfl h.1 h.2
 | false =>
  replace h := h.2 (of_decide_eq_false hb)
  refine At.cF 65 K45 K48 ?_
  refine At.skip ?_
  refine At.s K50 K51 ?_
  refine At.rg 15 [0, 1, 2] ?_
  refine Seq.u 67 (.slice W6 Q1 W7) ?_
  refine Seq.z 68 (.call { callee := .builtin .len, args := #[(.tmp 67)], argTypes := #[67] }) 3 (.int .i64 (Q1 : Int)) (Y.vW underlying67 rfl rfl) ?_
  refine Seq.u 69 (.int .i64 0) (Seq.done ?_)
  refine At.b 2 K52 ?_
  refine At.loop (x := K53) (by kernel_rfl) ?_
  refine At.s K54 K55 ?_
  exact At.v [(13, (.pointer (some ⟨DG, 0, none⟩))), (14, (.pointer (some ⟨BL, 0, none⟩))), (15, (.int .i64 tK)), (67, (.slice W6 Q1 W7)), (68, (.int .i64 (Q1 : Int))), (69, (.int .i64 0))] (h _)
theorem QF {R : Rr} {l DG BL W5 ZO : Nat} {r0 : Loop} {x15 M0 Pe : Int} {iZ : Option Addr} {σ : Hp} (h : ((Pe : Int) < M0 → ∃ (VH jz : Nat), iZ = some ⟨VH, jz, none⟩ ∧ ((0 : Int) ≤ Pe ∧ Pe < (W5 : Int)) ∧ ∃ j0 : Option Addr, ∃ j1 : Nat, ∃ j2 : Nat, ∃ Jm : Int, Av σ VH (jz + Int.toNat Pe * 2) [(.slice j0 j1 j2), (.int .u64 Jm)] ∧ ∀ DD : Nat, σ DD = none → AJ prog (Instr.storeAt 71 (.pointer (some ⟨DD, 0, none⟩)) (.agg #[(.slice j0 j1 j2), (.int .u64 Jm)])) (Hp.set σ DD (.cells #[(.slice none 0 0), (.int .u64 0)] 71 (0, 0))) (fun _ σ1 => ∃ aR : Option Nat, Hp.ld σ1 ⟨DG, 0, none⟩ = some (.map aR) ∧ ∃ w9 : Option Addr, ∃ xA : Nat, ∃ xB : Nat, Hp.ld σ1 ⟨DD, 0, none⟩ = some (.slice w9 xA xB) ∧ Spec prog 49 #[(.slice w9 xA xB)] σ1 (AA (NP R) (fun v F3 => ∃ s77 : ByteArray, v = (.string s77) ∧ Kp [DG] σ1 F3 ∧ AJ prog (Instr.lookup 99 (.map aR) (.string s77) true) F3 (fun v_2 CG => ∃ aS : Int, ∃ TT : Bool, v_2 = (.tuple #[(.int .i64 aS), (.bool TT)]) ∧ (TT = false → ∃ qD : Option Addr, ∃ W8 : Nat, ∃ qE : Nat, Hp.ld CG ⟨BL, 0, none⟩ = some (.slice qD W8 qE) ∧ ∃ m85 : Option Nat, Hp.ld CG ⟨DG, 0, none⟩ = some (.map m85) ∧ ∃ p87 : Option Addr, ∃ n87 : Nat, ∃ c87 : Nat, Hp.ld CG ⟨DD, 0, none⟩ = some (.slice p87 n87 c87) ∧ Spec prog 49 #[(.slice p87 n87 c87)] CG (AA (NP R) (fun v_3 Cm => ∃ s88 : ByteArray, v_3 = (.string s88) ∧ Kp [DG] CG Cm ∧ AJ prog (Instr.mapUpdate 99 (.map m85) (.string s88) (.int .i64 (W8 : Int))) Cm (fun _ BZ => ∃ p90 : Option Addr, ∃ n90 : Nat, ∃ c90 : Nat, Hp.ld BZ ⟨BL, 0, none⟩ = some (.slice p90 n90 c90) ∧ ∃ p93 : Option Addr, ∃ n93 : Nat, ∃ c93 : Nat, Hp.ld BZ ⟨DD, 0, none⟩ = some (.slice p93 n93 c93) ∧ ∀ ia : Nat, BZ ia = none → AJ prog (Builtin.append_ #[37, 37] 37 #[(.slice (some ⟨ia, 0, none⟩) 0 0), (.slice p93 n93 c93)]) (Hp.set BZ ia (.cells #[] 56 (0, 0))) (fun v_4 M1 => ∃ qF : Option Addr, ∃ qG : Nat, ∃ qH : Nat, v_4 = (.slice qF qG qH) ∧ Kp [BL] (Hp.set BZ ia (.cells #[] 56 (0, 0))) M1 ∧ ∀ qI : Nat, M1 qI = none → AJ prog (Builtin.append_ #[23, 23] 23 #[(.slice p90 n90 c90), (.slice (some ⟨qI, 0, none⟩) 1 1)]) (Hp.set M1 qI (.cells #[(.slice qF qG qH), (.slice none 0 0)] 40 (0, 0))) (fun v_5 Jl => ∃ p97 : Option Addr, ∃ n97 : Nat, ∃ c97 : Nat, v_5 = (.slice p97 n97 c97) ∧ AJ prog (Instr.storeAt 23 (.pointer (some ⟨BL, 0, none⟩)) (.slice p97 n97 c97)) Jl (fun _ UE => pw R l r0 DG BL x15 DD ((W8 : Int)) ((some ⟨VH, jz, none⟩)) W5 ZO M0 Pe UE))))))) ∧ (TT = true → pw R l r0 DG BL x15 DD aS ((some ⟨VH, jz, none⟩)) W5 ZO M0 Pe CG)))))) ∧ (¬ ((Pe : Int) < M0) → σ l = some (.loop (lp r0 .busy none)) ∧ R (.returned (.bool true)) (Hp.set σ l (.loop (lp r0 .ready none))))) : Pd R l r0 DG BL x15 iZ W5 ZO M0 Pe σ := by
 intro J
 show At (Gl.round prog 35 117 l R) _ _ _ _
 refine At.rg 16 [0] ?_
 refine Seq.u 70 (.bool (decide ((Pe : Int) < M0))) (Seq.done ?_)
 refine At.s K56 K59 ?_
 cases hb : (decide ((Pe : Int) < M0)) with
 | true =>
  replace h := h.1 (of_decide_eq_true hb)
  refine At.cT 70 K57 K58 ?_
  refine At.skip ?_
  refine At.s K60 K76 ?_
  refine At.b 3 K61 ?_
  refine At.s K62 K63 ?_
  refine At.rg 17 [0, 1, 2, 3] ?_
  obtain ⟨VH, jz, hq, h⟩ := h
  subst hq
  obtain ⟨hi, h⟩ := h
  refine Seq.z 71 (.indexAddr 67 (.tmp 67) (.tmp 69)) 0 (.pointer (some ⟨VH, (jz + Int.toNat Pe * 2), none⟩)) (Y.idx underlying67 sizeOf71 rfl rfl hi rfl) ?_
  obtain ⟨j0, j1, j2, Jm, hl, h⟩ := h
  refine Seq.z 72 (.load 71 (.tmp 71)) 71 (.agg #[(.slice j0 j1 j2), (.int .u64 Jm)]) (Y.lda isAgg71 sizeOf71 rfl rfl hl) ?_
  refine Seq.o ?_
  refine AK.N4 (T := 71) (d := (some 19)) (ty := 0)  (gd := none) (cs := #[(.slice none 0 0), (.int .u64 0)]) (by kernel_rfl) rfl rfl zeroValue71 rfl (fun DD hn => ?_)
  replace h := h DD hn
  refine Seq.o ?_
  refine AK.store (T := 71) (ty := 0) (x := (.tmp 19)) (y := (.tmp 72)) (p := (.pointer (some ⟨DD, 0, none⟩))) (v := (.agg #[(.slice j0 j1 j2), (.int .u64 Jm)])) (gd := none) (by kernel_rfl) rfl rfl rfl (h.mono (fun _ σ1 h2 => ?_)); replace h := h2; clear h2
  refine Seq.done ?_
  refine At.s K64 K65 ?_
  refine At.draw (id := 18) (ops := cO K64) (n := 10) (q := (some [])) (plan := [(0, true), (1, true), (2, true), (3, false), (4, false), (5, true), (6, true), (7, true), (8, true), (9, true)]) (tl := []) mixed (by kernel_rfl) (by kernel_rfl) ?_
  obtain ⟨aR, hl, h⟩ := h
  refine Head.yl DG [[4]] rfl (by kernel_rfl) (d := (some 74)) (op := (.load 99 (.tmp 13))) (ty := 99) (v := (.map aR)) (by kernel_rfl) rfl (Y.ld isAgg99 rfl (HT hl)) ?_
  refine Head.z 75 (.fieldAddr 71 (.tmp 19) 0) 0 (.pointer (some ⟨DD, 0, none⟩)) (Y.fieldAddr (fd := (LA prog 71 0)) underlying71 (by kernel_rfl) sizeOf37 rfl rfl) ?_
  obtain ⟨w9, xA, xB, hl, h⟩ := h
  refine Head.yl DD [[3], [4, 3]] rfl (by kernel_rfl) (d := (some 76)) (op := (.load 37 (.tmp 75))) (ty := 37) (v := (.slice w9 xA xB)) (by kernel_rfl) rfl (Y.ld isAgg37 rfl (HT hl)) ?_
  refine Head.o (q' := (some [(DG, [4])])) rfl ?_
  refine AK.cl (some 77) call49 (h.cont fun v F3 h2 => ?_); replace h := h2; clear h2
  obtain ⟨s77, rfl, hk, h⟩ := h
  refine ⟨⟨fun _ h => h, WU (L := [(DG, [4])]) hk⟩, ?_⟩
  refine Head.o (q' := (some [])) rfl ?_
  refine AK.TM (d := (some 78)) (op := (.lookup 99 (.tmp 74) (.tmp 77) true)) (ty := 102) (gd := none) (by kernel_rfl) rfl rfl (Instr.lookup 99 (.map aR) (.string s77) true) (fun o ho ht => by simp only [execOp, ho]; rfl) (h.mono (fun v_2 CG h2 => ?_)); replace h := h2; clear h2
  obtain ⟨aS, TT, rfl, h⟩ := h
  refine ⟨⟨fun _ h => h, WU (L := []) Kp.nil⟩, ?_⟩
  refine Head.u 73 (.tuple #[(.int .i64 aS), (.bool TT)]) ?_
  refine Head.u 79 (.int .i64 aS) ?_
  refine Head.u 80 (.bool TT) ?_
  refine Head.u 20 (.int .i64 aS) ?_
  refine Head.u 21 (.bool TT) ?_
  refine Head.done ?_
  refine Seq.done ?_
  refine At.s K66 K75 (At.s K67 K68 ?_)
  refine At.rg 19 [0, 1] ?_
  refine Seq.us [(81, .bool TT), (82, .bool (!TT))] (Seq.done ?_)
  cases hb : (!TT) with
  | true =>
   replace h := h.1 (Tw.nt hb)
   refine At.cT 82 K69 K74 ?_
   refine At.s K70 K71 ?_
   refine At.rg 20 [0, 1, 2] ?_
   obtain ⟨qD, W8, qE, hl, h⟩ := h
   refine Seq.z 83 (.load 23 (.tmp 14)) 23 (.slice qD W8 qE) (Y.ld isAgg23 rfl hl) ?_
   refine Seq.z 84 (.call { callee := .builtin .len, args := #[(.tmp 83)], argTypes := #[23] }) 3 (.int .i64 (W8 : Int)) (Y.vW underlying23 rfl rfl) ?_
   refine Seq.u 20 (.int .i64 (W8 : Int)) (Seq.done ?_)
   refine At.s K72 K73 ?_
   refine At.draw (id := 21) (ops := cO K72) (n := 5) (q := (some [])) (plan := [(0, true), (1, true), (2, true), (4, true), (3, false)]) (tl := [5]) mixed (by kernel_rfl) (by kernel_rfl) ?_
   obtain ⟨m85, hl, h⟩ := h
   refine Head.yl DG [] rfl (by kernel_rfl) (d := (some 85)) (op := (.load 99 (.tmp 13))) (ty := 99) (v := (.map m85)) (by kernel_rfl) rfl (Y.ld isAgg99 rfl (HT hl)) ?_
   refine Head.z 86 (.fieldAddr 71 (.tmp 19) 0) 0 (.pointer (some ⟨DD, 0, none⟩)) (Y.fieldAddr (fd := (LA prog 71 0)) underlying71 (by kernel_rfl) sizeOf37 rfl rfl) ?_
   obtain ⟨p87, n87, c87, hl, h⟩ := h
   refine Head.yl DD [[3]] rfl (by kernel_rfl) (d := (some 87)) (op := (.load 37 (.tmp 86))) (ty := 37) (v := (.slice p87 n87 c87)) (by kernel_rfl) rfl (Y.ld isAgg37 rfl (HT hl)) ?_
   refine Head.u 89 (.int .i64 (W8 : Int)) ?_
   refine Head.o (q' := (some [(DG, [])])) rfl ?_
   refine AK.cl (some 88) call49 (h.cont fun v_3 Cm h2 => ?_); replace h := h2; clear h2
   obtain ⟨s88, rfl, hk, h⟩ := h
   refine ⟨⟨fun _ h => h, WU (L := [(DG, [])]) hk⟩, ?_⟩
   refine Head.done ?_
   refine Seq.o ?_
   refine AK.pQ (d := none) (op := (.mapUpdate 99 (.tmp 85) (.tmp 88) (.tmp 89))) (ty := 0) (gd := none) (by kernel_rfl) rfl rfl (Instr.mapUpdate 99 (.map m85) (.string s88) (.int .i64 (W8 : Int))) (fun o ho ht => by simp only [execOp, ho]; rfl) (h.mono (fun _ BZ h2 => ?_)); replace h := h2; clear h2
   refine Seq.done ?_
   refine At.draw (id := 22) (ops := cO K73) (n := 7) (q := (some [])) (plan := [(0, true), (2, true), (3, true), (1, false), (4, false), (5, true), (6, false)]) (tl := [7, 8]) mixed (by kernel_rfl) (by kernel_rfl) ?_
   obtain ⟨p90, n90, c90, hl, h⟩ := h
   refine Head.yl BL [] rfl (by kernel_rfl) (d := (some 90)) (op := (.load 23 (.tmp 14))) (ty := 23) (v := (.slice p90 n90 c90)) (by kernel_rfl) rfl (Y.ld isAgg23 rfl (HT hl)) ?_
   refine Head.z 92 (.fieldAddr 71 (.tmp 19) 0) 0 (.pointer (some ⟨DD, 0, none⟩)) (Y.fieldAddr (fd := (LA prog 71 0)) underlying71 (by kernel_rfl) sizeOf37 rfl rfl) ?_
   obtain ⟨p93, n93, c93, hl, h⟩ := h
   refine Head.yl DD [[4], [6, 5, 4]] rfl (by kernel_rfl) (d := (some 93)) (op := (.load 37 (.tmp 92))) (ty := 37) (v := (.slice p93 n93 c93)) (by kernel_rfl) rfl (Y.ld isAgg37 rfl (HT hl)) ?_
   refine Head.o (q' := (some [(DD, [4, 6]), (BL, [])])) rfl ?_
   refine AK.IU (T := 37) (E := 56) (m := 0) (ps := #[]) (d := (some 91)) (ty := 37) (gd := none) (vs := []) (cs := #[]) underlying37 (by kernel_rfl) rfl rfl rfl (by kernel_rfl) (fun ia hn => ?_)
   refine ⟨⟨fun _ h => h, WU (Kp.HS (Ext.set hn))⟩, ?_⟩
   replace h := h ia hn
   refine Head.o (q' := (some [(BL, [])])) rfl ?_
   refine AK.TM (d := (some 94)) (op := (.call { callee := .builtin .append, args := #[(.tmp 91), (.tmp 93)], argTypes := #[37, 37] })) (ty := 37) (gd := none) (by kernel_rfl) rfl rfl (Builtin.append_ #[37, 37] 37 #[(.slice (some ⟨ia, 0, none⟩) 0 0), (.slice p93 n93 c93)]) (fun o ho ht => FM rfl rfl o ho ht) (h.mono (fun v_4 M1 h2 => ?_)); replace h := h2; clear h2
   obtain ⟨qF, qG, qH, rfl, hk, h⟩ := h
   refine ⟨⟨fun _ h => h, WU (L := [(BL, [])]) hk⟩, ?_⟩
   refine Head.z 95 (.build 40 #[(0, (.tmp 94))]) 40 (.agg #[(.slice qF qG qH), (.slice none 0 0)]) (Y.build (vs := [(0, (.slice qF qG qH))]) rfl (by kernel_rfl)) ?_
   refine Head.o (q' := (some [(BL, [])])) rfl ?_
   refine AK.IU (T := 23) (E := 40) (m := 1) (ps := #[(0, (.tmp 95))]) (d := (some 96)) (ty := 23) (gd := none) (vs := [(0, (.agg #[(.slice qF qG qH), (.slice none 0 0)]))]) (cs := #[(.slice qF qG qH), (.slice none 0 0)]) underlying23 (by kernel_rfl) rfl rfl rfl (by kernel_rfl) (fun qI hn => ?_)
   refine ⟨⟨fun _ h => h, WU (Kp.HS (Ext.set hn))⟩, ?_⟩
   replace h := h qI hn
   refine Head.done ?_
   refine Seq.o ?_
   refine AK.TM (d := (some 97)) (op := (.call { callee := .builtin .append, args := #[(.tmp 90), (.tmp 96)], argTypes := #[23, 23] })) (ty := 23) (gd := none) (by kernel_rfl) rfl rfl (Builtin.append_ #[23, 23] 23 #[(.slice p90 n90 c90), (.slice (some ⟨qI, 0, none⟩) 1 1)]) (fun o ho ht => FM rfl rfl o ho ht) (h.mono (fun v_5 Jl h2 => ?_)); replace h := h2; clear h2
   obtain ⟨p97, n97, c97, rfl, h⟩ := h
   refine Seq.o ?_
   refine AK.store (T := 23) (ty := 0) (x := (.tmp 14)) (y := (.tmp 97)) (p := (.pointer (some ⟨BL, 0, none⟩))) (v := (.slice p97 n97 c97)) (gd := none) (by kernel_rfl) rfl rfl rfl (h.mono (fun _ UE h2 => ?_)); replace h := h2; clear h2
   refine Seq.done ?_
   refine At.L [(13, (.pointer (some ⟨DG, 0, none⟩))), (14, (.pointer (some ⟨BL, 0, none⟩))), (15, (.int .i64 x15)), (19, (.pointer (some ⟨DD, 0, none⟩))), (20, (.int .i64 (W8 : Int))), (67, (.slice (some ⟨VH, jz, none⟩) W5 ZO)), (68, (.int .i64 M0)), (69, (.int .i64 Pe))] fun J => ?_
   exact At.v [(13, (.pointer (some ⟨DG, 0, none⟩))), (14, (.pointer (some ⟨BL, 0, none⟩))), (15, (.int .i64 x15)), (19, (.pointer (some ⟨DD, 0, none⟩))), (20, (.int .i64 (W8 : Int))), (67, (.slice (some ⟨VH, jz, none⟩) W5 ZO)), (68, (.int .i64 M0)), (69, (.int .i64 Pe))] (h _)
  | false =>
   replace h := h.2 (Tw.nf hb)
   refine At.cF 82 K69 K74 ?_
   refine At.skip ?_
   exact At.v [(13, (.pointer (some ⟨DG, 0, none⟩))), (14, (.pointer (some ⟨BL, 0, none⟩))), (15, (.int .i64 x15)), (19, (.pointer (some ⟨DD, 0, none⟩))), (20, (.int .i64 aS)), (67, (.slice (some ⟨VH, jz, none⟩) W5 ZO)), (68, (.int .i64 M0)), (69, (.int .i64 Pe))] (h _)
 | false =>
  replace h := h.2 (of_decide_eq_false hb)
  refine At.cF 70 K57 K58 ?_
  refine At.x 2 [.inBlock 1] ?_
  refine At.inBlock ?_
  exact At.jB rfl h.1 h.2
theorem qJ {R : Rr} {l DG BL DD W5 ZO : Nat} {r0 : Loop} {x15 HY M0 Pe : Int} {iZ : Option Addr} {σ : Hp} (h : ∃ p98 : Option Addr, ∃ n98 : Nat, ∃ c98 : Nat, Hp.ld σ ⟨BL, 0, none⟩ = some (.slice p98 n98 c98) ∧ ∃ qK : Option Addr, ∃ n100 : Nat, ∃ xC : Nat, Hp.ld σ ⟨BL, 0, none⟩ = some (.slice qK n100 xC) ∧ ∃ (aT j3 : Nat), qK = some ⟨aT, j3, none⟩ ∧ ((0 : Int) ≤ HY ∧ HY < (n100 : Int)) ∧ ∃ j4 : Option Addr, ∃ n104 : Nat, ∃ j5 : Nat, Hp.ld σ ⟨aT, ((j3 + Int.toNat HY * 2) + 1), none⟩ = some (.slice j4 n104 j5) ∧ ∃ VI : Int, Hp.ld σ ⟨DD, 1, none⟩ = some (.int .u64 VI) ∧ ∀ OK : Nat, σ OK = none → AJ prog (Builtin.append_ #[38, 38] 38 #[(.slice j4 n104 j5), (.slice (some ⟨OK, 0, none⟩) 1 1)]) (Hp.set σ OK (.cells #[(.int .i64 x15), (.int .u64 VI)] 50 (0, 0))) (fun v σ1 => ∃ qL : Option Addr, ∃ n110 : Nat, ∃ qM : Nat, v = (.slice qL n110 qM) ∧ Kp [BL] (Hp.set σ OK (.cells #[(.int .i64 x15), (.int .u64 VI)] 50 (0, 0))) σ1 ∧ ∃ (fV fW : Nat), p98 = some ⟨fV, fW, none⟩ ∧ ((0 : Int) ≤ HY ∧ HY < (n98 : Int)) ∧ AJ prog (Instr.storeAt 38 (.pointer (some ⟨fV, ((fW + Int.toNat HY * 2) + 1), none⟩)) (.slice qL n110 qM)) σ1 (fun _ F3 => AM (Pe + 1) ∧ Pd R l r0 DG BL x15 iZ W5 ZO M0 ((Pe + 1)) F3))) : pw R l r0 DG BL x15 DD HY iZ W5 ZO M0 Pe σ := by
 intro J
 show At (Gl.round prog 35 117 l R) _ _ _ _
 refine At.draw (id := 23) (ops := cO K75) (n := 15) (q := (some [])) (plan := [(0, true), (1, true), (2, true), (3, true), (4, true), (5, true), (6, true), (7, true), (8, true), (9, true), (10, true), (11, false), (12, false), (13, true), (14, true)]) (tl := [15]) mixed (by kernel_rfl) (by kernel_rfl) ?_
 obtain ⟨p98, n98, c98, hl, h⟩ := h
 refine Head.yl BL [] rfl (by kernel_rfl) (d := (some 98)) (op := (.load 23 (.tmp 14))) (ty := 23) (v := (.slice p98 n98 c98)) (by kernel_rfl) rfl (Y.ld isAgg23 rfl (HT hl)) ?_
 refine Head.u 99 (.int .i64 HY) ?_
 obtain ⟨qK, n100, xC, hl, h⟩ := h
 refine Head.yl BL [[12, 6, 5, 4]] rfl (by kernel_rfl) (d := (some 100)) (op := (.load 23 (.tmp 14))) (ty := 23) (v := (.slice qK n100 xC)) (by kernel_rfl) rfl (Y.ld isAgg23 rfl (HT hl)) ?_
 refine Head.u 101 (.int .i64 HY) ?_
 obtain ⟨aT, j3, hq, h⟩ := h
 subst hq
 obtain ⟨hi, h⟩ := h
 refine Head.z 102 (.indexAddr 23 (.tmp 100) (.tmp 101)) 0 (.pointer (some ⟨aT, (j3 + Int.toNat HY * 2), none⟩)) (Y.idx underlying23 sizeOf40 rfl rfl hi rfl) ?_
 refine Head.z 103 (.fieldAddr 40 (.tmp 102) 1) 0 (.pointer (some ⟨aT, ((j3 + Int.toNat HY * 2) + 1), none⟩)) (Y.fieldAddr (fd := (LA prog 40 1)) underlying40 (by kernel_rfl) sizeOf38 rfl rfl) ?_
 obtain ⟨j4, n104, j5, hl, h⟩ := h
 refine Head.yl aT [[12]] rfl (by kernel_rfl) (d := (some 104)) (op := (.load 38 (.tmp 103))) (ty := 38) (v := (.slice j4 n104 j5)) (by kernel_rfl) rfl (Y.ld isAgg38 rfl (HT hl)) ?_
 refine Head.u 105 (.int .i64 x15) ?_
 refine Head.z 106 (.fieldAddr 71 (.tmp 19) 1) 0 (.pointer (some ⟨DD, 1, none⟩)) (Y.fieldAddr (fd := (LA prog 71 1)) underlying71 (by kernel_rfl) sizeOf48 rfl rfl) ?_
 obtain ⟨VI, hl, h⟩ := h
 refine Head.yl DD [[11, 10], [12, 11, 10]] rfl (by kernel_rfl) (d := (some 107)) (op := (.load 48 (.tmp 106))) (ty := 48) (v := (.int .u64 VI)) (by kernel_rfl) rfl (Y.ld isAgg48 rfl (HT hl)) ?_
 refine Head.z 108 (.build 50 #[(0, (.tmp 105)), (1, (.tmp 107))]) 50 (.agg #[(.int .i64 x15), (.int .u64 VI)]) (Y.build (vs := [(0, (.int .i64 x15)), (1, (.int .u64 VI))]) rfl (by kernel_rfl)) ?_
 refine Head.o (q' := (some [(aT, [12]), (BL, [12]), (BL, [])])) rfl ?_
 refine AK.IU (T := 38) (E := 50) (m := 1) (ps := #[(0, (.tmp 108))]) (d := (some 109)) (ty := 38) (gd := none) (vs := [(0, (.agg #[(.int .i64 x15), (.int .u64 VI)]))]) (cs := #[(.int .i64 x15), (.int .u64 VI)]) underlying38 (by kernel_rfl) rfl rfl rfl (by kernel_rfl) (fun OK hn => ?_)
 refine ⟨⟨fun _ h => h, WU (Kp.HS (Ext.set hn))⟩, ?_⟩
 replace h := h OK hn
 refine Head.o (q' := (some [(BL, [])])) rfl ?_
 refine AK.TM (d := (some 110)) (op := (.call { callee := .builtin .append, args := #[(.tmp 104), (.tmp 109)], argTypes := #[38, 38] })) (ty := 38) (gd := none) (by kernel_rfl) rfl rfl (Builtin.append_ #[38, 38] 38 #[(.slice j4 n104 j5), (.slice (some ⟨OK, 0, none⟩) 1 1)]) (fun o ho ht => FM rfl rfl o ho ht) (h.mono (fun v σ1 h2 => ?_)); replace h := h2; clear h2
 obtain ⟨qL, n110, qM, rfl, hk, h⟩ := h
 refine ⟨⟨fun _ h => h, WU (L := [(BL, [])]) hk⟩, ?_⟩
 obtain ⟨fV, fW, hq, h⟩ := h
 subst hq
 obtain ⟨hi, h⟩ := h
 refine Head.z 111 (.indexAddr 23 (.tmp 98) (.tmp 99)) 0 (.pointer (some ⟨fV, (fW + Int.toNat HY * 2), none⟩)) (Y.idx underlying23 sizeOf40 rfl rfl hi rfl) ?_
 refine Head.z 112 (.fieldAddr 40 (.tmp 111) 1) 0 (.pointer (some ⟨fV, ((fW + Int.toNat HY * 2) + 1), none⟩)) (Y.fieldAddr (fd := (LA prog 40 1)) underlying40 (by kernel_rfl) sizeOf38 rfl rfl) ?_
 refine Head.done ?_
 refine Seq.o ?_
 refine AK.store (T := 38) (ty := 0) (x := (.tmp 112)) (y := (.tmp 110)) (p := (.pointer (some ⟨fV, ((fW + Int.toNat HY * 2) + 1), none⟩))) (v := (.slice qL n110 qM)) (gd := none) (by kernel_rfl) rfl rfl rfl (h.mono (fun _ F3 h2 => ?_)); replace h := h2; clear h2
 refine Seq.done ?_
 refine At.inBlock ?_
 refine At.rg 24 [0, 1] ?_
 obtain ⟨hi, h⟩ := h
 refine Seq.z 113 (.binOp .add 3 (.tmp 69) (.const (.int .i64 1)) 3) 3 (.int .i64 (Pe + 1)) (Y.AH0 hi rfl rfl) ?_
 refine Seq.u 69 (.int .i64 (Pe + 1)) (Seq.done ?_)
 refine At.inLoop ?_
 refine At.s K54 K55 ?_
 exact At.v [(13, (.pointer (some ⟨DG, 0, none⟩))), (14, (.pointer (some ⟨BL, 0, none⟩))), (15, (.int .i64 x15)), (67, (.slice iZ W5 ZO)), (68, (.int .i64 M0)), (69, (.int .i64 (Pe + 1)))] (h _)
end Bq
namespace FT
variable {p0 q5 Hd : Option Addr} {n0 c0 n11 He : Nat} {x12 E2 : Int}
def M : Fw := ⟨prog, 37, f37, [53], [7], false, [], [], [(232, [(0, wL), (5, wQ), (11, wL), (12, wI), (13, wI)])]⟩
theorem ok : M.Ok := ⟨.cons call53 (AG.nil), mixed, func37, by kernel_rfl⟩
def A3 := M.pt 0
theorem start (h : Al σ fun CY => A3 R p0 n0 c0 (aD CY 0) p0 n0 c0 (n0 : Int) 0 (Hp.set σ CY (.cells #[.slice none 0 0] 110 (0, 0)))) : Spec prog 37 #[.slice p0 n0 c0] σ R := M.start h ok
theorem AZ (h : Br (E2 < x12) (Pq Hd fun Lp VJ => In E2 (n11 : Int) ∧ ∃ Q2 W9 j6 fX fY fZ ABx ABy ABz AB0 AB1 AB2 AB3 AB4, Av σ Lp (VJ + Int.toNat E2 * 10) [.int .i64 Q2, .int .i64 W9, .string j6, .slice fX fY fZ, .int .i64 ABx, .int .i64 ABy, .int .i64 ABz, .slice AB0 AB1 AB2, .bool AB3, .int .i64 AB4] ∧ ∀ b7 : Nat, Spec prog 53 #[.pointer q5, .agg #[.int .i64 Q2, .int .i64 W9, .string j6, .slice fX fY fZ, .int .i64 ABx, .int .i64 ABy, .int .i64 ABz, .slice AB0 AB1 AB2, .bool AB3, .int .i64 AB4]] σ (AA R (CI .i64 fun HY y => Br (HY ≠ 0) (R (.returned (.tuple #[.int .i64 0, .int .i64 E2, .int .i64 HY])) y) (AM (E2 + 1) ∧ A3 R p0 n0 c0 q5 (aD Lp VJ) n11 He x12 (E2 + 1) y)))) (Pq q5 fun XA qN => LS σ XA qN fun p29 n29 c29 => Br ((n29 : Int) ≠ 1) (R (.returned (.tuple #[.int .i64 0, (.int .i64 (n0 : Int)), .int .i64 190])) σ) (Br (4096 < (n0 : Int)) (R (.returned (.tuple #[.int .i64 0, (.int .i64 (n0 : Int)), .int .i64 190])) σ) (LS σ XA qN fun p42 n42 c42 => Pq p42 fun dO o43 => In 0 (n42 : Int) ∧ LI .i64 σ dO o43 fun x45 => R (.returned (.tuple #[.int .i64 x45, .int .i64 0, .int .i64 0])) σ)))) : A3 R p0 n0 c0 q5 Hd n11 He x12 E2 σ := M.of h ok rfl
end FT
namespace EA
variable {p0 p8 : Option Addr} {n0 c0 n8 c8 : Nat} {x9 x10 : Int}
def M : Fw := ⟨prog, 68, f68, [98, 99], [4], false, [(10, 14, true)], [], [(232, [(0, wL), (8, wL), (9, wI), (10, wI)])]⟩
theorem ok : M.Ok := ⟨.cons call98 (.cons call99 (AG.nil)), mixed, func68, by kernel_rfl⟩
def Lc := M.pt 0
theorem start (h : Br (16 < (n0 : Int)) (R (.returned (.int .i64 30)) σ) (Lc R p0 n0 c0 p0 n0 c0 (n0 : Int) 0 σ)) : Spec prog 68 #[.slice p0 n0 c0] σ R := M.start h ok
theorem Ia (h : Br (x10 < x9) (Pq p8 fun DG ib => In x10 (n8 : Int) ∧ ∃ qO aU, Av σ DG (ib + Int.toNat x10 * 2) [.string qO, .string aU] ∧ ∀ b4 : Nat, Spec prog 98 #[.string qO] σ (AA R (CB fun t18 y => Bn t18 (R (.returned (.int .i64 31)) y) (Bo ((ByteArray.toList aU == ByteArray.toList (ByteArray.mk #[]))) (R (.returned (.int .i64 32)) y) (Br ((256 : Int) < ((ByteArray.size aU : Nat) : Int)) (R (.returned (.int .i64 32)) y) (Spec prog 99 #[.string aU] y (AA R (CB fun t33 AF => Bn t33 (R (.returned (.int .i64 32)) AF) (Br (0 < x10) (AM (x10 - 1) ∧ Pq p0 fun ic ig => In (x10 - 1) (n0 : Int) ∧ LT AF ic (ig + Int.toNat (x10 - 1) * 2) fun s47 => ∃ t48, YF prog ((do eqGuard .leq 9 (.tmp 41) (.tmp 47) (.string qO) (.string s47); binOp .leq 9 (.string qO) (.string s47))) AF (.bool t48) ∧ Bo t48 (R (.returned (.int .i64 33)) AF) (AM (x10 + 1) ∧ Lc R (aD ic ig) n0 c0 (aD DG ib) n8 c8 x9 (x10 + 1) AF)) (AM (x10 + 1) ∧ Lc R p0 n0 c0 (aD DG ib) n8 c8 x9 (x10 + 1) AF)))))))))) (R (.returned (.int .i64 0)) σ)) : Lc R p0 n0 c0 p8 n8 c8 x9 x10 σ := M.of h ok rfl
end EA
namespace Ay
variable {p0 p1 Hd : Option Addr} {n0 c0 n1 c1 n11 He : Nat} {v2 : Value} {x12 E2 : Int}
def M : Fw := ⟨prog, 75, f75, [], [8, 9], false, [], [], [(104, [(0, wL), (1, wL), (2, wV), (11, wL), (12, wI), (13, wI)])]⟩
theorem ok : M.Ok := ⟨AG.nil, mixed, func75, by kernel_rfl⟩
def Hf := M.pt 0
theorem start (h : Hf R p0 n0 c0 p1 n1 c1 v2 p0 n0 c0 (n0 : Int) 0 σ) : Spec prog 75 #[.slice p0 n0 c0, .slice p1 n1 c1, v2] σ R := M.D0 h ok [(0, .o (.L p0 n0 c0)), (1, .o (.L p1 n1 c1)), (2, .o (.V v2))] rfl rfl (by kernel_rfl)
theorem Be (h : Br (E2 < x12) (Pq Hd fun Lp VJ => In E2 (n11 : Int) ∧ ∃ AB5 AB6, Av σ Lp (VJ + Int.toNat E2 * 2) [.string AB5, .string AB6] ∧ ∀ b8 : Nat, Br ((n1 : Int) ≤ E2) (R (.returned (.int .i64 1)) σ) (Pq p1 fun b24 o24 => In E2 (n1 : Int) ∧ ∃ AB8 AB9, Av σ b24 (o24 + Int.toNat E2 * 2) [.string AB8, .string AB9] ∧ ∀ b9 : Nat, ∃ (f29 : Nat) (tQ tR : Array Value), v2 = .func (.func f29) tQ tR ∧ Enters prog f29 ∧ Spec prog f29 (tQ ++ #[.agg #[.string AB5, .string AB6], .agg #[.string AB8, .string AB9]] ++ tR) σ (AA R (CI .i64 fun x29 y => Br (x29 ≠ 0) (R (.returned (.int .i64 x29)) y) (AM (E2 + 1) ∧ Hf R p0 n0 c0 (aD b24 o24) n1 c1 v2 (aD Lp VJ) n11 He x12 (E2 + 1) y))))) (Br ((n0 : Int) < (n1 : Int)) (R (.returned (.int .i64 (-1))) σ) (R (.returned (.int .i64 0)) σ))) : Hf R p0 n0 c0 p1 n1 c1 v2 Hd n11 He x12 E2 σ := M.of h ok rfl
end Ay
namespace DH
variable {q0 : Option Addr}
def M : Fw := ⟨prog, 96, f96, [95], [], false, [], [], []⟩
theorem ok : M.Ok := ⟨.cons call95 (AG.nil), mixed, func96, by kernel_rfl⟩
theorem start (h : Spec prog 95 #[.pointer q0, (.func (.func 139) #[.pointer q0] #[]), .int .i64 11, .int .i64 13] σ (AA R (fun z y => z = (.tuple #[]) ∧ R (.returned (.tuple #[])) y))) : Spec prog 96 #[.pointer q0] σ R := M.start h ok
end DH
namespace Jn
variable {x0 : Int}
def M : Fw := ⟨prog, 124, f124, [], [], false, [], [], []⟩
theorem ok : M.Ok := ⟨AG.nil, mixed, func124, by kernel_rfl⟩
theorem start (h : Br (5 ≤ x0) (R (.returned (.bool (decide (x0 ≤ 10)))) σ) (R (.returned (.bool false)) σ)) : Spec prog 124 #[.int .i64 x0] σ R := M.start h ok
end Jn
namespace O4
variable {s0 : ByteArray}
def M : Fw := ⟨prog, 140, f140, [172, 173, 174], [], false, [], [], []⟩
theorem ok : M.Ok := ⟨.cons call172 (.cons call173 (.cons call174 (AG.nil))), mixed, func140, by kernel_rfl⟩
theorem start (h : Spec prog 172 #[.string s0] σ (AA R (CB fun t7 y => Bn t7 (R (.returned (.tuple #[.int .u64 0, .bool false])) y) (Spec prog 173 #[.string s0, .int .i64 64] y (AA R (fun z AF => ∃ fa fc, z = (.tuple #[fa, fc]) ∧ Spec prog 174 #[fa] AF (AA R (CI .u64 fun x15 AH => R (.returned (.tuple #[.int .u64 x15, .bool true])) AH)))))))) : Spec prog 140 #[.string s0] σ R := M.start h ok
end O4
end TwW
end
end
section
set_option maxRecDepth 100000
noncomputable section
namespace TwW
open Go Tw Go.Proofs.Tryz
variable [Es] {R : Rr} {σ : Hp}

namespace Q3
variable {p0 p1 : Option Addr} {n0 c0 n1 c1 : Nat}
def M : Fw := ⟨prog, 149, f149, [197], [], false, [], [], []⟩
theorem ok : M.Ok := ⟨.cons call197 (AG.nil), mixed, func149, by kernel_rfl⟩
theorem start (h : Al σ fun b3 => Spec prog 197 #[.slice p0 n0 c0, (.func (.func 198) #[] #[(.pointer (aD b3 0))])] (Hp.set σ b3 (.cells #[.slice p1 n1 c1] 34 (0, 0))) (AA R (CS fun p7 n7 c7 y => R (.returned (.slice p7 n7 c7)) y))) : Spec prog 149 #[.slice p0 n0 c0, .slice p1 n1 c1] σ R := M.start h ok
end Q3
namespace Dj
variable {p0 : Option Addr} {n0 c0 : Nat}
def M : Fw := ⟨prog, 153, f153, [202], [], false, [], [], []⟩
theorem ok : M.Ok := ⟨.cons call202 (AG.nil), mixed, func153, by kernel_rfl⟩
theorem start (h : Spec prog 202 #[.int .i64 9, .slice p0 n0 c0] σ (AA R (CI .u64 fun x4 y => R (.returned (.int .u64 x4)) y))) : Spec prog 153 #[.slice p0 n0 c0] σ R := M.start h ok
end Dj
namespace DI
variable {x0 : Int} {b1 b2 : Nat}
def M : Fw := ⟨prog, 159, f159, [156], [], false, [], [], []⟩
theorem ok : M.Ok := ⟨.cons call156 (AG.nil), mixed, func159, by kernel_rfl⟩
theorem start (h : ∃ Fp Fq s6c Fs Ft Fu x6e x6f x6g p6h n6h c6h t6i x6j, Av σ b1 0 [.int .i64 Fp, .int .i64 Fq, .string s6c, .slice Fs Ft Fu, .int .i64 x6e, .int .i64 x6f, .int .i64 x6g, .slice p6h n6h c6h, .bool t6i, .int .i64 x6j] ∧ LI .u64 σ b2 1 fun x9 => Spec prog 156 #[.agg #[.int .i64 Fp, .int .i64 Fq, .string s6c, .slice Fs Ft Fu, .int .i64 x6e, .int .i64 x6f, .int .i64 x6g, .slice p6h n6h c6h, .bool t6i, .int .i64 x6j], .int .u64 x0, .int .u64 x9] σ (AA R (fun z y => ∃ Ib Q4, z = (.tuple #[.int .u64 Ib, .bool Q4]) ∧ R (.returned (.tuple #[.int .u64 Ib, .bool Q4])) y))) : Spec prog 159 #[.int .u64 x0, (.pointer (aD b1 0)), (.pointer (aD b2 0))] σ R := M.start h ok
end DI
namespace O5
variable {s0 : ByteArray}
def M : Fw := ⟨prog, 172, f172, [213], [], false, [], [], []⟩
theorem ok : M.Ok := ⟨.cons call213 (AG.nil), mixed, func172, by kernel_rfl⟩
theorem start (h : Spec prog 213 #[.string s0] σ (AA R (CI .i64 fun x6 y => Br (x6 = 0) (R (.returned (.bool false)) y) (Br (1 < x6) (∃ LL : UInt8, (0 : Int) ≤ 0 ∧ (ByteArray.data s0)[Int.toNat 0]? = some LL ∧ Br ((((UInt8.toNat LL : Nat) : Int) : Int) = 48) (R (.returned (.bool false)) y) (Br (x6 = ((ByteArray.size s0 : Nat) : Int)) (R (.returned (.bool (decide (x6 ≤ 15)))) y) (AM (x6 + 1) ∧ ∃ tS, YF prog (Instr.sliceAt 9 (.string s0) (some (.int .i64 (x6 + 1))) none none) y (.string tS) ∧ Spec prog 213 #[.string tS] y (AA R (CI .i64 fun XB AF => ∃ tT : UInt8, 0 ≤ x6 ∧ (ByteArray.data s0)[Int.toNat x6]? = some tT ∧ Br ((((UInt8.toNat tT : Nat) : Int) : Int) = 46) (Br (0 < XB) (AM (x6 + 1) ∧ AM ((x6 + 1) + XB) ∧ Br ((((x6 + 1) + XB) : Int) = ((ByteArray.size s0 : Nat) : Int)) (AM (x6 + XB) ∧ R (.returned (.bool (decide (((x6 + XB) : Int) ≤ 15)))) AF) (R (.returned (.bool false)) AF)) (R (.returned (.bool false)) AF)) (R (.returned (.bool false)) AF)))))) (Br (x6 = ((ByteArray.size s0 : Nat) : Int)) (R (.returned (.bool (decide (x6 ≤ 15)))) y) (AM (x6 + 1) ∧ ∃ tS, YF prog (Instr.sliceAt 9 (.string s0) (some (.int .i64 (x6 + 1))) none none) y (.string tS) ∧ Spec prog 213 #[.string tS] y (AA R (CI .i64 fun XB AF => ∃ tT : UInt8, 0 ≤ x6 ∧ (ByteArray.data s0)[Int.toNat x6]? = some tT ∧ Br ((((UInt8.toNat tT : Nat) : Int) : Int) = 46) (Br (0 < XB) (AM (x6 + 1) ∧ AM ((x6 + 1) + XB) ∧ Br ((((x6 + 1) + XB) : Int) = ((ByteArray.size s0 : Nat) : Int)) (AM (x6 + XB) ∧ R (.returned (.bool (decide (((x6 + XB) : Int) ≤ 15)))) AF) (R (.returned (.bool false)) AF)) (R (.returned (.bool false)) AF)) (R (.returned (.bool false)) AF))))))))) : Spec prog 172 #[.string s0] σ R := M.start h ok
end O5
namespace dP
variable {x0 : Int}
def M : Fw := ⟨prog, 182, f182, [], [], false, [], [], []⟩
theorem ok : M.Ok := ⟨AG.nil, mixed, func182, by kernel_rfl⟩
theorem start (h : EN prog 22 #[.int .u64 x0] σ (fun z y => ∃ x4, (Value.float .f64 x4) = z ∧ R (.returned (Value.float .f64 x4)) y)) : Spec prog 182 #[.int .u64 x0] σ R := M.start h ok
end dP
namespace M3
variable {f0 : Fn} {a0 c0 : Array Value}
def M : Fw := ⟨prog, 188, f188, [], [], false, [], [], []⟩
theorem ok : M.Ok := ⟨AG.nil, mixed, func188, by kernel_rfl⟩
theorem start (h : Al σ fun b1 => R (.returned (.func (.func 226) #[] #[(.pointer (aD b1 0))])) (Hp.set σ b1 (.cells #[(Value.func f0 a0 c0)] 232 (0, 0)))) : Spec prog 188 #[(Value.func f0 a0 c0)] σ R := M.D0 h ok [(0, .o (.V (Value.func f0 a0 c0)))] rfl rfl (by kernel_rfl)
end M3
namespace CO
variable {p0 p5 p8 : Option Addr} {n0 c0 n5 c5 n8 c8 : Nat} {v1 : Value} {x9 x10 : Int}
def M : Fw := ⟨prog, 197, f197, [], [7], false, [], [], [(232, [(1, wV), (5, wL), (8, wL), (9, wI), (10, wI)]), (935, [(1, wV), (5, wL), (8, wL), (9, wI), (10, wI)])]⟩
theorem ok : M.Ok := ⟨AG.nil, mixed, func197, by kernel_rfl⟩
def A3 := M.pt 0
def XC := M.pt 1
theorem start (h : A3 R v1 none 0 0 p0 n0 c0 (n0 : Int) 0 σ) : Spec prog 197 #[.slice p0 n0 c0, v1] σ R := M.D0 h ok [(0, .o (.L p0 n0 c0)), (1, .o (.V v1))] rfl rfl (by kernel_rfl)
theorem AZ (h : Br (x10 < x9) (Pq p8 fun O6 Pg => In x10 (n8 : Int) ∧ ∃ xD fe, Av σ O6 (Pg + Int.toNat x10 * 2) [.string xD, .string fe] ∧ ∀ b7 : Nat, ∃ (f16 : Nat) (tU tV : Array Value), v1 = .func (.func f16) tU tV ∧ Enters prog f16 ∧ Spec prog f16 (tU ++ #[.agg #[.string xD, .string fe]] ++ tV) σ (AA R (CB fun t16 y => Bo t16 (Al y fun DD => AJ prog (Builtin.append_ #[37, 37] 37 #[.slice p5 n5 c5, (.slice (aD DD 0) 1 1)]) (Hp.set y DD (.cells #[.string xD, .string fe] 56 (0, 0))) (CS fun p20 n20 c20 AF => XC R v1 p20 n20 c20 (aD O6 Pg) n8 c8 x9 x10 AF)) (XC R v1 p5 n5 c5 (aD O6 Pg) n8 c8 x9 x10 y)))) (R (.returned (.slice p5 n5 c5)) σ)) : A3 R v1 p5 n5 c5 p8 n8 c8 x9 x10 σ := M.of h ok rfl
theorem QG (h : AM (x10 + 1) ∧ A3 R v1 p5 n5 c5 p8 n8 c8 x9 (x10 + 1) σ) : XC R v1 p5 n5 c5 p8 n8 c8 x9 x10 σ := M.of h ok rfl
end CO
namespace BM
variable {p0 : Option Addr} {n0 c0 : Nat} {s1 : ByteArray} {x7 x8 : Int}
def M : Fw := ⟨prog, 228, f228, [], [], false, [], [], [(104, [(0, wL), (1, wT), (7, wI), (8, wI)])]⟩
theorem ok : M.Ok := ⟨AG.nil, mixed, func228, by kernel_rfl⟩
def Hf := M.pt 0
theorem start (h : Hf R p0 n0 c0 s1 (n0 : Int) 0 σ) : Spec prog 228 #[.slice p0 n0 c0, .string s1] σ R := M.start h ok
theorem Be (h : Br (x8 < x7) (Pq p0 fun BL Mz => In x8 (n0 : Int) ∧ LT σ BL (Mz + Int.toNat x8 * 1) fun s15 => Bo (ByteArray.toList s1 == ByteArray.toList s15) (R (.returned (.int .i64 x8)) σ) (AM (x8 + 1) ∧ Hf R (aD BL Mz) n0 c0 s1 x7 (x8 + 1) σ)) (R (.returned (.int .i64 (-1))) σ)) : Hf R p0 n0 c0 s1 x7 x8 σ := M.of h ok rfl
end BM
namespace BT
variable {q0 : Option Addr}
def M : Fw := ⟨prog, 230, f230, [136, 138, 250, 251], [], false, [], [], []⟩
theorem ok : M.Ok := ⟨.cons call136 (.cons call138 (.cons call250 (.cons call251 (AG.nil)))), mixed, func230, by kernel_rfl⟩
theorem start (h : Spec prog 136 #[.pointer q0, .int .i64 5, (.string (ByteArray.mk #[45]))] σ (AA R (CB fun t3 y => Bn t3 (Spec prog 250 #[.pointer q0] y (AA R (fun z AF => z = (.tuple #[]) ∧ R (.returned (.tuple #[])) AF))) (Spec prog 251 #[.pointer q0, (.func (.func 230) #[.pointer q0] #[])] y (AA R (fun z AF => z = (.tuple #[]) ∧ Spec prog 138 #[.pointer q0, (.agg #[.int .i64 7, .int .i64 0, (.string (ByteArray.mk #[])), .slice none 0 0, .int .i64 0, .int .i64 0, .int .i64 0, .slice none 0 0, .bool false, .int .i64 1])] AF (AA R (fun z AH => z = (.tuple #[]) ∧ R (.returned (.tuple #[])) AH)))))))) : Spec prog 230 #[.pointer q0] σ R := M.start h ok
end BT
namespace Ba
variable {s0 : ByteArray} {x1 : Int}
def M : Fw := ⟨prog, 231, f231, [252, 253], [], false, [], [], []⟩
theorem ok : M.Ok := ⟨.cons call252 (.cons call253 (AG.nil)), mixed, func231, by kernel_rfl⟩
theorem start (h : Br (x1 = 32) (Spec prog 252 #[.string s0] σ (AA R (fun z y => ∃ ACJ TU ACK, z = (.tuple #[ACJ, .int .i64 TU, ACK]) ∧ AJ prog (convert 280 51 ACJ) y (fun z AF => ∃ Dk, (Value.float .f64 Dk) = z ∧ R (.returned (.tuple #[(Value.float .f64 Dk), .int .i64 TU, ACK])) AF)))) (Spec prog 253 #[.string s0] σ (AA R (fun z y => ∃ ACL fg ACN, z = (.tuple #[ACL, .int .i64 fg, ACN]) ∧ R (.returned (.tuple #[ACL, .int .i64 fg, ACN])) y)))) : Spec prog 231 #[.string s0, .int .i64 x1] σ R := M.start h ok
end Ba
namespace HF
variable {s0 s1 : ByteArray}
def M : Fw := ⟨prog, 285, f285, [315], [], false, [], [], []⟩
theorem ok : M.Ok := ⟨.cons call315 (AG.nil), mixed, func285, by kernel_rfl⟩
theorem start (h : Spec prog 315 #[.string s0, .string s1] σ (AA R (CB fun t7 y => R (.returned (.bool t7)) y))) : Spec prog 285 #[.string s0, .string s1] σ R := M.start h ok
end HF
namespace BN
variable {b0 : Nat}
def M : Fw := ⟨prog, 294, f294, [65, 210], [], false, [], [], []⟩
theorem ok : M.Ok := ⟨.cons call65 (.cons call210 (AG.nil)), mixed, func294, by kernel_rfl⟩
theorem start (h : LQ σ b0 0 fun q1 => Spec prog 65 #[.pointer q1] σ (AA R (fun z y => z = (.tuple #[]) ∧ LQ y b0 0 fun q3 => Spec prog 210 #[.pointer q3, (.string (ByteArray.mk #[41]))] y (AA R (fun z AF => z = (.tuple #[]) ∧ R (.returned (.tuple #[])) AF))))) : Spec prog 294 #[(.pointer (aD b0 0))] σ R := M.start h ok
end BN
end TwW
end
end
section
set_option maxRecDepth 100000
noncomputable section
namespace TwW
open Go Tw Go.Proofs.Tryz
variable [Es] {R : Rr} {σ : Hp}

namespace A4
variable {p0 p7 p9 Hd tW TI : Option Addr} {n0 c0 n7 c7 n9 c9 n11 He n13 tX n15 Ph : Nat} {x1 x17 Ld : Int} {s2 : ByteArray}
def M : Fw := ⟨prog, 5, f5, [14, 19, 20, 23], [], false, [], [], [(131024, [(7, wL), (9, wL), (11, wL), (13, wL), (15, wL), (17, wI), (18, wI)]), (131027, [(7, wL), (9, wL), (11, wL), (13, wL), (15, wL), (17, wI), (18, wI)])]⟩
theorem ok : M.Ok := ⟨.cons call14 (.cons call19 (.cons call20 (.cons call23 (AG.nil)))), mixed, func5, by kernel_rfl⟩
def qP := M.pt 0
def j7 := M.pt 1
theorem start (h : Spec prog 19 #[.string s2] σ (AA R (CB fun t22 y => Bn t22 (Spec prog 14 #[] y (AA R (CB fun t24 AF => R (.returned (.bool t24)) AF))) (Spec prog 20 #[.string s2, .slice p0 n0 c0, .int .i64 x1] y (AA R (fun z AF => ∃ ACO fh ACP Ic, z = (.tuple #[.slice ACO fh ACP, .int .i64 Ic]) ∧ (ByteArray.size s2 + ByteArray.size (ByteArray.mk #[32, 42, 32, 49]) ≤ 9223372036854775807) ∧ Spec prog 20 #[(.string (s2 ++ (ByteArray.mk #[32, 42, 32, 49]))), .slice p0 n0 c0, .int .i64 x1] AF (AA R (fun z AH => ∃ ACQ xE ACR EI, z = (.tuple #[.slice ACQ xE ACR, .int .i64 EI]) ∧ (ByteArray.size (ByteArray.mk #[45, 45]) + ByteArray.size s2 ≤ 9223372036854775807) ∧ Spec prog 20 #[(.string ((ByteArray.mk #[45, 45]) ++ s2)), .slice p0 n0 c0, .int .i64 x1] AH (AA R (fun z Aa => ∃ ACS xF ACT Fv, z = (.tuple #[.slice ACS xF ACT, .int .i64 Fv]) ∧ (ByteArray.size s2 + ByteArray.size (ByteArray.mk #[32, 61, 61, 32]) ≤ 9223372036854775807) ∧ (ByteArray.size (s2 ++ (ByteArray.mk #[32, 61, 61, 32])) + ByteArray.size s2 ≤ 9223372036854775807) ∧ Spec prog 20 #[(.string ((s2 ++ (ByteArray.mk #[32, 61, 61, 32])) ++ s2)), .slice p0 n0 c0, .int .i64 x1] Aa (AA R (fun z D1 => ∃ ACU xG ACV M4, z = (.tuple #[.slice ACU xG ACV, .int .i64 M4]) ∧ (ByteArray.size s2 + ByteArray.size (ByteArray.mk #[32, 43, 32, 48]) ≤ 9223372036854775807) ∧ Spec prog 20 #[(.string (s2 ++ (ByteArray.mk #[32, 43, 32, 48]))), .slice p0 n0 c0, .int .i64 x1] D1 (AA R (fun z BF => ∃ ACW xH ACX Pj, z = (.tuple #[.slice ACW xH ACX, .int .i64 Pj]) ∧ Br (Ic ≠ 0) (Br (Ic ≠ 0) (Br (EI ≠ 0) (Br (Ic ≠ 0) (Spec prog 14 #[] BF (AA R (CB fun t104 Bs => R (.returned (.bool t104)) Bs))) (Br (EI = Fv) (Br (Fv = Pj) (Spec prog 14 #[] BF (AA R (CB fun t104 Bs => R (.returned (.bool t104)) Bs))) (R (.returned (.bool false)) BF)) (R (.returned (.bool false)) BF))) (R (.returned (.bool false)) BF)) (Br (EI ≠ 0) (R (.returned (.bool false)) BF) (Br (Ic ≠ 0) (Spec prog 14 #[] BF (AA R (CB fun t104 Bs => R (.returned (.bool t104)) Bs))) (Br (EI = Fv) (Br (Fv = Pj) (Spec prog 14 #[] BF (AA R (CB fun t104 Bs => R (.returned (.bool t104)) Bs))) (R (.returned (.bool false)) BF)) (R (.returned (.bool false)) BF))))) (Br (EI ≠ 0) (Br (Ic ≠ 0) (Br (EI ≠ 0) (Br (Ic ≠ 0) (Spec prog 14 #[] BF (AA R (CB fun t104 Bs => R (.returned (.bool t104)) Bs))) (Br (EI = Fv) (Br (Fv = Pj) (Spec prog 14 #[] BF (AA R (CB fun t104 Bs => R (.returned (.bool t104)) Bs))) (R (.returned (.bool false)) BF)) (R (.returned (.bool false)) BF))) (R (.returned (.bool false)) BF)) (Br (EI ≠ 0) (R (.returned (.bool false)) BF) (Br (Ic ≠ 0) (Spec prog 14 #[] BF (AA R (CB fun t104 Bs => R (.returned (.bool t104)) Bs))) (Br (EI = Fv) (Br (Fv = Pj) (Spec prog 14 #[] BF (AA R (CB fun t104 Bs => R (.returned (.bool t104)) Bs))) (R (.returned (.bool false)) BF)) (R (.returned (.bool false)) BF))))) (Br (Fv ≠ 0) (Br (Ic ≠ 0) (Br (EI ≠ 0) (Br (Ic ≠ 0) (Spec prog 14 #[] BF (AA R (CB fun t104 Bs => R (.returned (.bool t104)) Bs))) (Br (EI = Fv) (Br (Fv = Pj) (Spec prog 14 #[] BF (AA R (CB fun t104 Bs => R (.returned (.bool t104)) Bs))) (R (.returned (.bool false)) BF)) (R (.returned (.bool false)) BF))) (R (.returned (.bool false)) BF)) (Br (EI ≠ 0) (R (.returned (.bool false)) BF) (Br (Ic ≠ 0) (Spec prog 14 #[] BF (AA R (CB fun t104 Bs => R (.returned (.bool t104)) Bs))) (Br (EI = Fv) (Br (Fv = Pj) (Spec prog 14 #[] BF (AA R (CB fun t104 Bs => R (.returned (.bool t104)) Bs))) (R (.returned (.bool false)) BF)) (R (.returned (.bool false)) BF))))) (Br (M4 ≠ 0) (Br (Ic ≠ 0) (Br (EI ≠ 0) (Br (Ic ≠ 0) (Spec prog 14 #[] BF (AA R (CB fun t104 Bs => R (.returned (.bool t104)) Bs))) (Br (EI = Fv) (Br (Fv = Pj) (Spec prog 14 #[] BF (AA R (CB fun t104 Bs => R (.returned (.bool t104)) Bs))) (R (.returned (.bool false)) BF)) (R (.returned (.bool false)) BF))) (R (.returned (.bool false)) BF)) (Br (EI ≠ 0) (R (.returned (.bool false)) BF) (Br (Ic ≠ 0) (Spec prog 14 #[] BF (AA R (CB fun t104 Bs => R (.returned (.bool t104)) Bs))) (Br (EI = Fv) (Br (Fv = Pj) (Spec prog 14 #[] BF (AA R (CB fun t104 Bs => R (.returned (.bool t104)) Bs))) (R (.returned (.bool false)) BF)) (R (.returned (.bool false)) BF))))) (Br (Pj ≠ 0) (Br (Ic ≠ 0) (Br (EI ≠ 0) (Br (Ic ≠ 0) (Spec prog 14 #[] BF (AA R (CB fun t104 Bs => R (.returned (.bool t104)) Bs))) (Br (EI = Fv) (Br (Fv = Pj) (Spec prog 14 #[] BF (AA R (CB fun t104 Bs => R (.returned (.bool t104)) Bs))) (R (.returned (.bool false)) BF)) (R (.returned (.bool false)) BF))) (R (.returned (.bool false)) BF)) (Br (EI ≠ 0) (R (.returned (.bool false)) BF) (Br (Ic ≠ 0) (Spec prog 14 #[] BF (AA R (CB fun t104 Bs => R (.returned (.bool t104)) Bs))) (Br (EI = Fv) (Br (Fv = Pj) (Spec prog 14 #[] BF (AA R (CB fun t104 Bs => R (.returned (.bool t104)) Bs))) (R (.returned (.bool false)) BF)) (R (.returned (.bool false)) BF))))) (Br ((xE : Int) ≠ (fh : Int)) (R (.returned (.bool false)) BF) (Br ((xF : Int) ≠ (fh : Int)) (R (.returned (.bool false)) BF) (Br ((xH : Int) ≠ (fh : Int)) (R (.returned (.bool false)) BF) (Br ((fh : Int) < (xG : Int)) (R (.returned (.bool false)) BF) (qP R ACO fh ACP ACQ xE ACR ACS xF ACT ACU xG ACV ACW xH ACX 0 0 BF))))))))))))))))))))))) : Spec prog 5 #[.slice p0 n0 c0, .int .i64 x1, .string s2] σ R := M.start h ok
theorem dQ (h : Br (Ld < (n7 : Int)) (Pq p7 fun j8 j9 => In Ld (n7 : Int) ∧ LS σ j8 ((j9 + Int.toNat Ld * 2) + 1) fun AP1 n142 AP2 => Br ((n142 : Int) ≠ 1) (R (.returned (.bool false)) σ) (In Ld (n7 : Int) ∧ LS σ j8 ((j9 + Int.toNat Ld * 2) + 1) fun AJH n149 AP3 => Pq AJH fun AJI AJJ => In 0 (n149 : Int) ∧ LI .u64 σ AJI (AJJ + 1) fun qQ => EN prog 22 #[.int .u64 qQ] σ (fun z y => ∃ aV, (Value.float .f64 aV) = z ∧ ∃ t157, YF prog ((do eqGuard .neq 51 (.tmp 155) (.tmp 156) (Value.float .f64 aV) (Value.float .f64 aV); binOp .neq 51 (Value.float .f64 aV) (Value.float .f64 aV))) y (.bool t157) ∧ Bo t157 (AM (x17 + 1) ∧ j7 R (aD j8 j9) n7 c7 p9 n9 c9 Hd n11 He tW n13 tX TI n15 Ph (x17 + 1) Ld y) (Spec prog 23 #[.slice p9 n9 c9, .int .u64 qQ] y (AA R (CB fun t162 AF => Bn t162 (R (.returned (.bool false)) AF) (Spec prog 23 #[.slice Hd n11 He, .int .u64 qQ] AF (AA R (CB fun t167 AH => Bn t167 (R (.returned (.bool false)) AH) (Spec prog 23 #[.slice TI n15 Ph, .int .u64 qQ] AH (AA R (CB fun t173 Aa => Bn t173 (∃ t177, YF prog ((do eqGuard .neq 51 (.tmp 176) (.const (.float .f64 0)) (Value.float .f64 aV) (.float .f64 0); binOp .neq 51 (Value.float .f64 aV) (.float .f64 0))) Aa (.bool t177) ∧ Bo t177 (R (.returned (.bool false)) Aa) (j7 R (aD j8 j9) n7 c7 p9 n9 c9 Hd n11 He tW n13 tX TI n15 Ph x17 Ld Aa)) (j7 R (aD j8 j9) n7 c7 p9 n9 c9 Hd n11 He tW n13 tX TI n15 Ph x17 Ld Aa))))))))))))) (AM ((n7 : Int) - x17) ∧ Br ((n13 : Int) = ((n7 : Int) - x17)) (Spec prog 14 #[] σ (AA R (CB fun t188 y => R (.returned (.bool t188)) y))) (R (.returned (.bool false)) σ))) : qP R p7 n7 c7 p9 n9 c9 Hd n11 He tW n13 tX TI n15 Ph x17 Ld σ := M.of h ok rfl
theorem qR (h : AM (Ld + 1) ∧ qP R p7 n7 c7 p9 n9 c9 Hd n11 He tW n13 tX TI n15 Ph x17 (Ld + 1) σ) : j7 R p7 n7 c7 p9 n9 c9 Hd n11 He tW n13 tX TI n15 Ph x17 Ld σ := M.of h ok rfl
end A4
namespace XD
variable {p0 : Option Addr} {n0 c0 : Nat}
def M : Fw := ⟨prog, 49, f49, [72], [], false, [], [], []⟩
theorem ok : M.Ok := ⟨.cons call72 (AG.nil), mixed, func49, by kernel_rfl⟩
theorem start (h : Spec prog 72 #[.slice p0 n0 c0] σ (AA R (CS fun p4 n4 c4 y => AJ prog (convert 90 9 (.slice p4 n4 c4)) y (CT fun s5 AF => R (.returned (.string s5)) AF)))) : Spec prog 49 #[.slice p0 n0 c0] σ R := M.start h ok
end XD
namespace O7
def M : Fw := ⟨prog, 61, f61, [], [], false, [], [], []⟩
theorem ok : M.Ok := ⟨AG.nil, mixed, func61, by kernel_rfl⟩
theorem start (h : Al σ fun b1 => R (.returned (.slice (aD b1 0) 12 12)) (Hp.set σ b1 (.cells #[(.string (ByteArray.mk #[114, 97, 116, 101])), (.string (ByteArray.mk #[105, 110, 99, 114, 101, 97, 115, 101])), (.string (ByteArray.mk #[100, 101, 108, 116, 97])), (.string (ByteArray.mk #[115, 117, 109, 95, 111, 118, 101, 114, 95, 116, 105, 109, 101])), (.string (ByteArray.mk #[97, 118, 103, 95, 111, 118, 101, 114, 95, 116, 105, 109, 101])), (.string (ByteArray.mk #[109, 105, 110, 95, 111, 118, 101, 114, 95, 116, 105, 109, 101])), (.string (ByteArray.mk #[109, 97, 120, 95, 111, 118, 101, 114, 95, 116, 105, 109, 101])), (.string (ByteArray.mk #[99, 111, 117, 110, 116, 95, 111, 118, 101, 114, 95, 116, 105, 109, 101])), (.string (ByteArray.mk #[108, 97, 115, 116, 95, 111, 118, 101, 114, 95, 116, 105, 109, 101])), (.string (ByteArray.mk #[119, 97, 118, 101])), (.string (ByteArray.mk #[97, 98, 115])), (.string (ByteArray.mk #[102, 108, 111, 111, 114]))] 9 (0, 0)))) : Spec prog 61 #[] σ R := M.start h ok
end O7
namespace JG
variable {q0 : Option Addr}
def M : Fw := ⟨prog, 65, f65, [95], [], false, [], [], []⟩
theorem ok : M.Ok := ⟨.cons call95 (AG.nil), mixed, func65, by kernel_rfl⟩
theorem start (h : Spec prog 95 #[.pointer q0, (.func (.func 96) #[.pointer q0] #[]), .int .i64 12, .int .i64 12] σ (AA R (fun z y => z = (.tuple #[]) ∧ R (.returned (.tuple #[])) y))) : Spec prog 65 #[.pointer q0] σ R := M.start h ok
end JG
namespace Hz
variable {q0 : Option Addr}
def M : Fw := ⟨prog, 66, f66, [], [2], false, [], [], []⟩
theorem ok : M.Ok := ⟨AG.nil, mixed, func66, by kernel_rfl⟩
theorem start (h : ∀ b2 : Nat, Pq q0 fun b4 o4 => LS σ b4 o4 fun p6 n6 c6 => Pq p6 fun b7 o7 => In 0 (n6 : Int) ∧ ∃ D2 EB s8c x8d, Av σ b7 o7 [.int .i64 D2, .int .i64 EB, .string s8c, .int .i64 x8d] ∧ R (.returned (.agg #[.int .i64 D2, .int .i64 EB, .string s8c, .int .i64 x8d])) σ) : Spec prog 66 #[.pointer q0] σ R := M.start h ok
end Hz
namespace Q5
def M : Fw := ⟨prog, 70, f70, [], [], false, [], [], []⟩
theorem ok : M.Ok := ⟨AG.nil, mixed, func70, by kernel_rfl⟩
theorem start (h : Al σ fun b1 => R (.returned (.slice (aD b1 0) 8 8)) (Hp.set σ b1 (.cells #[.nilFunc, (.func (.func 100) #[] #[]), (.func (.func 101) #[] #[]), (.func (.func 102) #[] #[]), (.func (.func 103) #[] #[]), (.func (.func 104) #[] #[]), (.func (.func 105) #[] #[]), (.func (.func 106) #[] #[])] 137 (0, 0)))) : Spec prog 70 #[] σ R := M.start h ok
end Q5
namespace Q6
variable {Ev ET Pk M5 Hg JH : Int} {Pm : ByteArray} {UF Q7 : Option Addr} {TV UG QH Q8 : Nat} {MR : Bool}
def M : Fw := ⟨prog, 79, f79, [94, 120, 121, 122, 123, 124], [1], false, [], [], []⟩
theorem ok : M.Ok := ⟨.cons call94 (.cons call120 (.cons call121 (.cons call122 (.cons call123 (.cons call124 (AG.nil)))))), mixed, func79, by kernel_rfl⟩
theorem start (h : ∀ b1 : Nat, Spec prog 121 #[.agg #[.int .i64 Ev, .int .i64 ET, .string Pm, .slice UF TV UG, .int .i64 Pk, .int .i64 M5, .int .i64 Hg, .slice Q7 QH Q8, .bool MR, .int .i64 JH]] σ (AA R (fun z y => ∃ Ie G0 Ig Ih Ii Ij Ik Il Im Io Ip Iq Jo Ir, z = (.agg #[.int .i64 Ie, .int .i64 G0, .string Ig, .slice Ih Ii Ij, .int .i64 Ik, .int .i64 Il, .int .i64 Im, .slice Io Ip Iq, .bool Jo, .int .i64 Ir]) ∧ Spec prog 120 #[.agg #[.int .i64 Ev, .int .i64 ET, .string Pm, .slice UF TV UG, .int .i64 Pk, .int .i64 M5, .int .i64 Hg, .slice Q7 QH Q8, .bool MR, .int .i64 JH], .agg #[.int .i64 Ie, .int .i64 G0, .string Ig, .slice Ih Ii Ij, .int .i64 Ik, .int .i64 Il, .int .i64 Im, .slice Io Ip Iq, .bool Jo, .int .i64 Ir]] y (AA R (CB fun t6 AF => Bn t6 (R (.returned (.bool false)) AF) (Spec prog 122 #[.agg #[.int .i64 Ev, .int .i64 ET, .string Pm, .slice UF TV UG, .int .i64 Pk, .int .i64 M5, .int .i64 Hg, .slice Q7 QH Q8, .bool MR, .int .i64 JH]] AF (AA R (CB fun t10 AH => Bn t10 (R (.returned (.bool false)) AH) (Br (0 < (TV : Int)) (Br (Ev ≠ 2) (Br (Ev ≠ 3) (R (.returned (.bool false)) AH) (Br (Ev = 1) (Spec prog 94 #[.string Pm] AH (AA R (CB fun t35 Aa => R (.returned (.bool t35)) Aa))) (Br (Ev = 2) (Spec prog 123 #[.int .i64 M5, .int .i64 0] AH (AA R (CB fun t40 Aa => R (.returned (.bool t40)) Aa))) (Br (Ev = 3) (Spec prog 123 #[.int .i64 Pk, .int .i64 1] AH (AA R (CB fun t45 Aa => Bo t45 (Spec prog 123 #[.int .i64 M5, .int .i64 0] Aa (AA R (CB fun t49 D1 => R (.returned (.bool t49)) D1))) (R (.returned (.bool false)) Aa)))) (Br (Ev = 4) (Br (JH = 1) (Br (1 ≤ ET) (R (.returned (.bool (decide (ET ≤ 12)))) AH) (R (.returned (.bool false)) AH)) (R (.returned (.bool false)) AH)) (Br (Ev = 5) (Br (JH = 1) (Br (1 ≤ ET) (Br (ET ≤ 5) (Br (Hg = 0) (R (.returned (.bool true)) AH) (Br (Hg = 1) (R (.returned (.bool true)) AH) (R (.returned (.bool (decide (Hg = 2)))) AH))) (R (.returned (.bool false)) AH)) (R (.returned (.bool false)) AH)) (R (.returned (.bool false)) AH)) (Br (Ev = 6) (Br (JH = 2) (Br (1 ≤ ET) (Br (ET ≤ 13) (Br (Hg = 0) (Bn MR (R (.returned (.bool true)) AH) (Spec prog 124 #[.int .i64 ET] AH (AA R (CB fun t133 Aa => R (.returned (.bool t133)) Aa)))) (Br (Hg = 3) (Bn MR (R (.returned (.bool true)) AH) (Spec prog 124 #[.int .i64 ET] AH (AA R (CB fun t133 Aa => R (.returned (.bool t133)) Aa)))) (Br (Hg = 4) (Bn MR (R (.returned (.bool true)) AH) (Spec prog 124 #[.int .i64 ET] AH (AA R (CB fun t133 Aa => R (.returned (.bool t133)) Aa)))) (R (.returned (.bool false)) AH)))) (R (.returned (.bool false)) AH)) (R (.returned (.bool false)) AH)) (R (.returned (.bool false)) AH)) (Br (Ev = 7) (R (.returned (.bool (decide (JH = 1)))) AH) (R (.returned (.bool false)) AH))))))))) (Br (Ev = 1) (Spec prog 94 #[.string Pm] AH (AA R (CB fun t35 Aa => R (.returned (.bool t35)) Aa))) (Br (Ev = 2) (Spec prog 123 #[.int .i64 M5, .int .i64 0] AH (AA R (CB fun t40 Aa => R (.returned (.bool t40)) Aa))) (Br (Ev = 3) (Spec prog 123 #[.int .i64 Pk, .int .i64 1] AH (AA R (CB fun t45 Aa => Bo t45 (Spec prog 123 #[.int .i64 M5, .int .i64 0] Aa (AA R (CB fun t49 D1 => R (.returned (.bool t49)) D1))) (R (.returned (.bool false)) Aa)))) (Br (Ev = 4) (Br (JH = 1) (Br (1 ≤ ET) (R (.returned (.bool (decide (ET ≤ 12)))) AH) (R (.returned (.bool false)) AH)) (R (.returned (.bool false)) AH)) (Br (Ev = 5) (Br (JH = 1) (Br (1 ≤ ET) (Br (ET ≤ 5) (Br (Hg = 0) (R (.returned (.bool true)) AH) (Br (Hg = 1) (R (.returned (.bool true)) AH) (R (.returned (.bool (decide (Hg = 2)))) AH))) (R (.returned (.bool false)) AH)) (R (.returned (.bool false)) AH)) (R (.returned (.bool false)) AH)) (Br (Ev = 6) (Br (JH = 2) (Br (1 ≤ ET) (Br (ET ≤ 13) (Br (Hg = 0) (Bn MR (R (.returned (.bool true)) AH) (Spec prog 124 #[.int .i64 ET] AH (AA R (CB fun t133 Aa => R (.returned (.bool t133)) Aa)))) (Br (Hg = 3) (Bn MR (R (.returned (.bool true)) AH) (Spec prog 124 #[.int .i64 ET] AH (AA R (CB fun t133 Aa => R (.returned (.bool t133)) Aa)))) (Br (Hg = 4) (Bn MR (R (.returned (.bool true)) AH) (Spec prog 124 #[.int .i64 ET] AH (AA R (CB fun t133 Aa => R (.returned (.bool t133)) Aa)))) (R (.returned (.bool false)) AH)))) (R (.returned (.bool false)) AH)) (R (.returned (.bool false)) AH)) (R (.returned (.bool false)) AH)) (Br (Ev = 7) (R (.returned (.bool (decide (JH = 1)))) AH) (R (.returned (.bool false)) AH))))))))) (Br (Ev = 1) (Spec prog 94 #[.string Pm] AH (AA R (CB fun t35 Aa => R (.returned (.bool t35)) Aa))) (Br (Ev = 2) (Spec prog 123 #[.int .i64 M5, .int .i64 0] AH (AA R (CB fun t40 Aa => R (.returned (.bool t40)) Aa))) (Br (Ev = 3) (Spec prog 123 #[.int .i64 Pk, .int .i64 1] AH (AA R (CB fun t45 Aa => Bo t45 (Spec prog 123 #[.int .i64 M5, .int .i64 0] Aa (AA R (CB fun t49 D1 => R (.returned (.bool t49)) D1))) (R (.returned (.bool false)) Aa)))) (Br (Ev = 4) (Br (JH = 1) (Br (1 ≤ ET) (R (.returned (.bool (decide (ET ≤ 12)))) AH) (R (.returned (.bool false)) AH)) (R (.returned (.bool false)) AH)) (Br (Ev = 5) (Br (JH = 1) (Br (1 ≤ ET) (Br (ET ≤ 5) (Br (Hg = 0) (R (.returned (.bool true)) AH) (Br (Hg = 1) (R (.returned (.bool true)) AH) (R (.returned (.bool (decide (Hg = 2)))) AH))) (R (.returned (.bool false)) AH)) (R (.returned (.bool false)) AH)) (R (.returned (.bool false)) AH)) (Br (Ev = 6) (Br (JH = 2) (Br (1 ≤ ET) (Br (ET ≤ 13) (Br (Hg = 0) (Bn MR (R (.returned (.bool true)) AH) (Spec prog 124 #[.int .i64 ET] AH (AA R (CB fun t133 Aa => R (.returned (.bool t133)) Aa)))) (Br (Hg = 3) (Bn MR (R (.returned (.bool true)) AH) (Spec prog 124 #[.int .i64 ET] AH (AA R (CB fun t133 Aa => R (.returned (.bool t133)) Aa)))) (Br (Hg = 4) (Bn MR (R (.returned (.bool true)) AH) (Spec prog 124 #[.int .i64 ET] AH (AA R (CB fun t133 Aa => R (.returned (.bool t133)) Aa)))) (R (.returned (.bool false)) AH)))) (R (.returned (.bool false)) AH)) (R (.returned (.bool false)) AH)) (R (.returned (.bool false)) AH)) (Br (Ev = 7) (R (.returned (.bool (decide (JH = 1)))) AH) (R (.returned (.bool false)) AH))))))))))))))))) : Spec prog 79 #[.agg #[.int .i64 Ev, .int .i64 ET, .string Pm, .slice UF TV UG, .int .i64 Pk, .int .i64 M5, .int .i64 Hg, .slice Q7 QH Q8, .bool MR, .int .i64 JH]] σ R := M.start h ok
end Q6
namespace EU
variable {q0 Db Dl p2 : Option Addr} {DX CP DY Dc C3 CU : Int} {DZ : ByteArray} {Dd De Dg Dm n2 c2 : Nat} {C4 : Bool}
def M : Fw := ⟨prog, 83, f83, [], [4], false, [], [], []⟩
theorem ok : M.Ok := ⟨AG.nil, mixed, func83, by kernel_rfl⟩
theorem start (h : ∀ b4 : Nat, Pq p2 fun b9 o9 => In 0 (n2 : Int) ∧ LI .i64 σ b9 o9 fun x11 => Br (x11 ≠ 2) (R (.returned (.tuple #[.int .i64 0, .int .i64 191])) σ) (R (.returned (.tuple #[.int .i64 2, .int .i64 0])) σ)) : Spec prog 83 #[.pointer q0, .agg #[.int .i64 DX, .int .i64 CP, .string DZ, .slice Db Dd De, .int .i64 DY, .int .i64 Dc, .int .i64 C3, .slice Dl Dg Dm, .bool C4, .int .i64 CU], .slice p2 n2 c2] σ R := M.start h ok
end EU
namespace Lq
variable {p0 : Option Addr} {n0 c0 : Nat} {s1 : ByteArray}
def M : Fw := ⟨prog, 108, f108, [107], [], false, [], [], []⟩
theorem ok : M.Ok := ⟨.cons call107 (AG.nil), mixed, func108, by kernel_rfl⟩
theorem start (h : Df (IntKind.u64.wrap ((ByteArray.size s1 : Nat) : Int)) fun x8 => Spec prog 107 #[.slice p0 n0 c0, .int .u64 x8] σ (AA R (CS fun p9 n9 c9 y => AJ prog (Builtin.append_ #[90, 9] 90 #[.slice p9 n9 c9, .string s1]) y (CS fun Hd n11 He AF => R (.returned (.slice Hd n11 He)) AF)))) : Spec prog 108 #[.slice p0 n0 c0, .string s1] σ R := M.start h ok
end Lq
namespace B4
variable {s0 s1 : ByteArray}
def M : Fw := ⟨prog, 119, f119, [], [], false, [], [], []⟩
theorem ok : M.Ok := ⟨AG.nil, mixed, func119, by kernel_rfl⟩
theorem start (h : EN prog 168 #[.string s0, .string s1] σ (CI .i64 fun x7 y => R (.returned (.int .i64 x7)) y)) : Spec prog 119 #[.string s0, .string s1] σ R := M.start h ok
end B4
namespace O8
variable {Ev ET Pk M5 Hg JH DX CP DY Dc C3 CU : Int} {Pm DZ : ByteArray} {UF Q7 Db Dl : Option Addr} {TV UG QH Q8 Dd De Dg Dm : Nat} {MR C4 : Bool}
def M : Fw := ⟨prog, 120, f120, [], [2, 3], false, [], [], []⟩
theorem ok : M.Ok := ⟨AG.nil, mixed, func120, by kernel_rfl⟩
theorem start (h : ∀ b2 : Nat, ∀ b3 : Nat, Br (Ev = DX) (Br (ET = CP) (Bo (ByteArray.toList Pm == ByteArray.toList DZ) (Br (Pk = DY) (Br (M5 = Dc) (Br (Hg = C3) (Bo MR (Bo C4 (R (.returned (.bool (decide (JH = CU)))) σ) (R (.returned (.bool false)) σ)) (Bo C4 (R (.returned (.bool false)) σ) (R (.returned (.bool (decide (JH = CU)))) σ))) (R (.returned (.bool false)) σ)) (R (.returned (.bool false)) σ)) (R (.returned (.bool false)) σ)) (R (.returned (.bool false)) σ)) (R (.returned (.bool false)) σ)) (R (.returned (.bool false)) σ)) : Spec prog 120 #[.agg #[.int .i64 Ev, .int .i64 ET, .string Pm, .slice UF TV UG, .int .i64 Pk, .int .i64 M5, .int .i64 Hg, .slice Q7 QH Q8, .bool MR, .int .i64 JH], .agg #[.int .i64 DX, .int .i64 CP, .string DZ, .slice Db Dd De, .int .i64 DY, .int .i64 Dc, .int .i64 C3, .slice Dl Dg Dm, .bool C4, .int .i64 CU]] σ R := M.start h ok
end O8
namespace Q9
variable {x0 : Int}
def M : Fw := ⟨prog, 125, f125, [], [], false, [], [], []⟩
theorem ok : M.Ok := ⟨AG.nil, mixed, func125, by kernel_rfl⟩
theorem start (h : Br (1 ≤ x0) (R (.returned (.bool (decide (x0 ≤ 4)))) σ) (R (.returned (.bool false)) σ)) : Spec prog 125 #[.int .i64 x0] σ R := M.start h ok
end Q9
namespace UH
def M : Fw := ⟨prog, 134, f134, [], [], false, [], [], []⟩
theorem ok : M.Ok := ⟨AG.nil, mixed, func134, by kernel_rfl⟩
theorem start (h : Al σ fun b1 => R (.returned (.slice (aD b1 0) 14 14)) (Hp.set σ b1 (.cells #[(.string (ByteArray.mk #[])), (.string (ByteArray.mk #[43])), (.string (ByteArray.mk #[45])), (.string (ByteArray.mk #[42])), (.string (ByteArray.mk #[47])), (.string (ByteArray.mk #[61, 61])), (.string (ByteArray.mk #[33, 61])), (.string (ByteArray.mk #[60])), (.string (ByteArray.mk #[60, 61])), (.string (ByteArray.mk #[62])), (.string (ByteArray.mk #[62, 61])), (.string (ByteArray.mk #[97, 110, 100])), (.string (ByteArray.mk #[111, 114])), (.string (ByteArray.mk #[117, 110, 108, 101, 115, 115]))] 9 (0, 0)))) : Spec prog 134 #[] σ R := M.start h ok
end UH
namespace Af
variable {q0 q1 : Option Addr} {s2a s2b xI xJ : ByteArray} {x3a x3b x11 : Int} {b7 : Nat}
def M : Fw := ⟨prog, 137, f137, [135, 136, 170], [6], false, [(6, 12, false)], [], [(56, [(0, wQ), (1, wQ), (7, wA), (10, .G [.T, .T]), (11, wI)])]⟩
theorem ok : M.Ok := ⟨.cons call135 (.cons call136 (.cons call170 (AG.nil))), mixed, func137, by kernel_rfl⟩
def ou := M.pt 0
theorem start (h : ∀ b6 : Nat, Al σ fun b7 => ou R q0 q1 b7 s2a s2b 0 (Hp.set σ b7 (.cells #[.int .i64 x3a, .int .i64 x3b] 182 (0, 0)))) : Spec prog 137 #[.pointer q0, .pointer q1, .agg #[.string s2a, .string s2b], .agg #[.int .i64 x3a, .int .i64 x3b]] σ R := M.start h ok
theorem RA (h : Br (x11 < 2) (In x11 2 ∧ ∃ s14 : ByteArray, [xI, xJ][Int.toNat x11]? = some s14 ∧ Spec prog 136 #[.pointer q0, .int .i64 3, .string s14] σ (AA R (CB fun t17 y => Bo t17 (Spec prog 135 #[.pointer q0] y (AA R (fun z AF => ∃ Jp OL VK xK, z = (.agg #[.int .i64 Jp, .int .i64 OL, .string VK, .int .i64 xK]) ∧ In x11 2 ∧ LI .i64 AF b7 (0 + Int.toNat x11 * 1) fun JF => Spec prog 170 #[.pointer q0] AF (AA R (CS fun p26 n26 c26 AH => Kp [b7] AF AH ∧ Pq q1 fun XA qN => AJ prog (Instr.storeAt 3 (.pointer (aD XA (qN + 6))) (.int .i64 JF)) AH (fun _ Aa => AJ prog (Instr.storeAt 34 (.pointer (aD XA (qN + 7))) (.slice p26 n26 c26)) Aa (fun _ D1 => R (.returned (.tuple #[])) D1))))))) (AM (x11 + 1) ∧ ou R q0 q1 b7 xI xJ (x11 + 1) y)))) (R (.returned (.tuple #[])) σ)) : ou R q0 q1 b7 xI xJ x11 σ := M.of h ok rfl
end Af
namespace Gf
variable {p0 : Option Addr} {n0 c0 : Nat}
def M : Fw := ⟨prog, 155, f155, [143], [], false, [], [], []⟩
theorem ok : M.Ok := ⟨.cons call143 (AG.nil), mixed, func155, by kernel_rfl⟩
theorem start (h : Spec prog 143 #[(.int .i64 (n0 : Int))] σ (AA R (CI .u64 fun x5 y => R (.returned (.int .u64 x5)) y))) : Spec prog 155 #[.slice p0 n0 c0] σ R := M.start h ok
end Gf
namespace Ap
variable {q0 Db Dl p2 p3 Ih Io Eo Ew JI tY : Option Addr} {DX CP DY Dc C3 CU Ie G0 Ik Il Im Ir D2 EB XE dR : Int} {DZ Ig : ByteArray} {Dd De Dg Dm n2 c2 n3 c3 Ii Ij Ip Iq Ep Er Ex Ey n14 HG n41 ij : Nat} {C4 Jo : Bool} {m12 : Option Nat}
def M : Fw := ⟨prog, 161, f161, [49, 124, 148, 156, 206, 207], [5, 8, 16, 18], false, [], [], [(2024, [(5, .X 36 [.I .i64, .I .i64, .T, .L, .I .i64, .I .i64, .I .i64, .L, .B, .I .i64]), (8, .X 93 [.I .i64, .I .u64, .L, .L]), (12, wM), (14, wL), (41, wL), (42, wI), (43, wI)]), (8103, [(5, .X 36 [.I .i64, .I .i64, .T, .L, .I .i64, .I .i64, .I .i64, .L, .B, .I .i64]), (8, .X 93 [.I .i64, .I .u64, .L, .L]), (12, wM), (14, wL), (41, wL), (42, wI), (43, wI)])]⟩
theorem ok : M.Ok := ⟨.cons call49 (.cons call124 (.cons call148 (.cons call156 (.cons call206 (.cons call207 (AG.nil)))))), mixed, func161, by kernel_rfl⟩
def VL := M.pt 0
def M6 := M.pt 1
theorem start (h : ∀ b5 : Nat, ∀ b8 : Nat, Spec prog 206 #[.agg #[.int .i64 DX, .int .i64 CP, .string DZ, .slice Db Dd De, .int .i64 DY, .int .i64 Dc, .int .i64 C3, .slice Dl Dg Dm, .bool C4, .int .i64 CU], .slice p2 n2 c2] σ (AA R (fun z y => ∃ AJK kA, z = (.tuple #[.map AJK, .bool kA]) ∧ Spec prog 206 #[.agg #[.int .i64 DX, .int .i64 CP, .string DZ, .slice Db Dd De, .int .i64 DY, .int .i64 Dc, .int .i64 C3, .slice Dl Dg Dm, .bool C4, .int .i64 CU], .slice p3 n3 c3] y (AA R (fun z AF => ∃ ACc ACd, z = (.tuple #[.map ACc, .bool ACd]) ∧ Bn kA (R (.returned (.tuple #[.agg #[.int .i64 0, .int .u64 0, .slice none 0 0, .slice none 0 0], .int .i64 223])) AF) (Bn ACd (R (.returned (.tuple #[.agg #[.int .i64 0, .int .u64 0, .slice none 0 0, .slice none 0 0], .int .i64 223])) AF) (VL R DX CP DZ Db Dd De DY Dc C3 Dl Dg Dm C4 CU 0 0 none 0 0 none 0 0 ACc none 0 0 p2 n2 c2 (n2 : Int) 0 AF))))))) : Spec prog 161 #[.pointer q0, .agg #[.int .i64 DX, .int .i64 CP, .string DZ, .slice Db Dd De, .int .i64 DY, .int .i64 Dc, .int .i64 C3, .slice Dl Dg Dm, .bool C4, .int .i64 CU], .slice p2 n2 c2, .slice p3 n3 c3] σ R := M.start h ok
theorem QI (h : Br (dR < XE) (Pq tY fun ic ig => In dR (n41 : Int) ∧ ∃ xL xM xN xO, Av σ ic (ig + Int.toNat dR * 2) [.slice xL xM xN, .int .u64 xO] ∧ ∀ Lp : Nat, Spec prog 207 #[.agg #[.int .i64 Ie, .int .i64 G0, .string Ig, .slice Ih Ii Ij, .int .i64 Ik, .int .i64 Il, .int .i64 Im, .slice Io Ip Iq, .bool Jo, .int .i64 Ir], .slice xL xM xN] σ (AA R (CS fun aW n50 aX y => Spec prog 49 #[.slice aW n50 aX] y (AA R (CT fun s54 AF => AJ prog (Instr.lookup 243 (.map m12) (.string s54) true) AF (fun z AH => ∃ ACe ACf ACg tZ ACh, z = (.tuple #[.agg #[.slice ACe ACf ACg, .int .u64 tZ], .bool ACh]) ∧ ∀ UI : Nat, Bn ACh (M6 R Ie G0 Ig Ih Ii Ij Ik Il Im Io Ip Iq Jo Ir D2 EB Eo Ep Er Ew Ex Ey m12 JI n14 HG (aD ic ig) n41 ij XE dR AH) (Spec prog 156 #[.agg #[.int .i64 Ie, .int .i64 G0, .string Ig, .slice Ih Ii Ij, .int .i64 Ik, .int .i64 Il, .int .i64 Im, .slice Io Ip Iq, .bool Jo, .int .i64 Ir], .int .u64 xO, .int .u64 tZ] AH (AA R (fun z Aa => ∃ xP ACi, z = (.tuple #[.int .u64 xP, .bool ACi]) ∧ Spec prog 124 #[.int .i64 G0] Aa (AA R (CB fun t72 D1 => Bn t72 (Al D1 fun ta => AJ prog (Builtin.append_ #[67, 67] 67 #[.slice JI n14 HG, (.slice (aD ta 0) 1 1)]) (Hp.set D1 ta (.cells #[.slice aW n50 aX, .int .u64 xP] 71 (0, 0))) (CS fun qD W8 qE BF => M6 R Ie G0 Ig Ih Ii Ij Ik Il Im Io Ip Iq Jo Ir D2 EB Eo Ep Er Ew Ex Ey m12 qD W8 qE (aD ic ig) n41 ij XE dR BF)) (Bo Jo (Al D1 fun ta => AJ prog (Builtin.append_ #[67, 67] 67 #[.slice JI n14 HG, (.slice (aD ta 0) 1 1)]) (Hp.set D1 ta (.cells #[.slice aW n50 aX, .int .u64 xP] 71 (0, 0))) (CS fun qD W8 qE BF => M6 R Ie G0 Ig Ih Ii Ij Ik Il Im Io Ip Iq true Ir D2 EB Eo Ep Er Ew Ex Ey m12 qD W8 qE (aD ic ig) n41 ij XE dR BF)) (Bo ACi (Al D1 fun b88 => AJ prog (Builtin.append_ #[67, 67] 67 #[.slice JI n14 HG, (.slice (aD b88 0) 1 1)]) (Hp.set D1 b88 (.cells #[.slice xL xM xN, .int .u64 xO] 71 (0, 0))) (CS fun p89 n89 c89 BF => M6 R Ie G0 Ig Ih Ii Ij Ik Il Im Io Ip Iq false Ir D2 EB Eo Ep Er Ew Ex Ey m12 p89 n89 c89 (aD ic ig) n41 ij XE dR BF)) (M6 R Ie G0 Ig Ih Ii Ij Ik Il Im Io Ip Iq false Ir D2 EB Eo Ep Er Ew Ex Ey m12 JI n14 HG (aD ic ig) n41 ij XE dR D1)))))))))))))) (Spec prog 148 #[.slice JI n14 HG] σ (AA R (fun z y => ∃ tc te tf tg th ti tj tn ACj, z = (.tuple #[.agg #[.int .i64 tc, .int .u64 te, .slice tf tg th, .slice ti tj tn], .int .i64 ACj]) ∧ R (.returned (.tuple #[.agg #[.int .i64 tc, .int .u64 te, .slice tf tg th, .slice ti tj tn], .int .i64 ACj])) y)))) : VL R Ie G0 Ig Ih Ii Ij Ik Il Im Io Ip Iq Jo Ir D2 EB Eo Ep Er Ew Ex Ey m12 JI n14 HG tY n41 ij XE dR σ := M.fS h ok rfl fun _ _ => by kernel_rfl
theorem VM (h : AM (dR + 1) ∧ VL R Ie G0 Ig Ih Ii Ij Ik Il Im Io Ip Iq Jo Ir D2 EB Eo Ep Er Ew Ex Ey m12 JI n14 HG tY n41 ij XE (dR + 1) σ) : M6 R Ie G0 Ig Ih Ii Ij Ik Il Im Io Ip Iq Jo Ir D2 EB Eo Ep Er Ew Ex Ey m12 JI n14 HG tY n41 ij XE dR σ := M.fS h ok rfl fun _ _ => by kernel_rfl
end Ap
namespace XF
variable {v0 : Value}
def M : Fw := ⟨prog, 181, f181, [], [], false, [], [], []⟩
theorem ok : M.Ok := ⟨AG.nil, mixed, func181, by kernel_rfl⟩
theorem start (h : EN prog 45 #[v0] σ (CI .u64 fun x4 y => Df (Go.bits .andNot .u64 x4 9223372036854775808) fun x5 => EN prog 22 #[.int .u64 x5] y (fun z AF => ∃ x6, (Value.float .f64 x6) = z ∧ R (.returned (Value.float .f64 x6)) AF))) : Spec prog 181 #[v0] σ R := M.D0 h ok [(0, .o (.V v0))] rfl rfl (by kernel_rfl)
end XF
namespace CH
variable {f0 : Fn} {a0 c0 : Array Value}
def M : Fw := ⟨prog, 184, f184, [], [], false, [], [], []⟩
theorem ok : M.Ok := ⟨AG.nil, mixed, func184, by kernel_rfl⟩
theorem start (h : Al σ fun b1 => R (.returned (.func (.func 224) #[] #[(.pointer (aD b1 0))])) (Hp.set σ b1 (.cells #[(Value.func f0 a0 c0)] 201 (0, 0)))) : Spec prog 184 #[(Value.func f0 a0 c0)] σ R := M.D0 h ok [(0, .o (.V (Value.func f0 a0 c0)))] rfl rfl (by kernel_rfl)
end CH
namespace BP
variable {p0 : Option Addr} {n0 c0 : Nat} {x3 : Int}
def M : Fw := ⟨prog, 187, f187, [225], [], false, [], [], [(224, [(0, wL), (3, wI)])]⟩
theorem ok : M.Ok := ⟨.cons call225 (AG.nil), mixed, func187, by kernel_rfl⟩
def GN := M.pt 0
theorem start (h : GN R p0 n0 c0 8 σ) : Spec prog 187 #[.slice p0 n0 c0] σ R := M.start h ok
theorem A5 (h : Br ((n0 : Int) < x3) (2 ≠ (0 : Int) ∧ Df (IntKind.i64.wrap (Int.tdiv x3 2)) fun x11 => GN R p0 n0 c0 x11 σ) (AM ((n0 : Int) - x3) ∧ ((0 : Int) ≤ ((n0 : Int) - x3) ∧ ((n0 : Int) - x3) ≤ (n0 : Int)) ∧ Spec prog 225 #[(.slice (IP p0 (Int.toNat ((n0 : Int) - x3)) c0 1) (n0 - Int.toNat ((n0 : Int) - x3)) (c0 - Int.toNat ((n0 : Int) - x3)))] σ (AA R (fun z y => ∃ Jp OL, z = (.tuple #[.int .u64 Jp, .int .i64 OL]) ∧ R (.returned (.int .u64 Jp)) y)))) : GN R p0 n0 c0 x3 σ := M.of h ok rfl
end BP
namespace RB
variable {v0 : Value}
def M : Fw := ⟨prog, 216, f216, [], [], false, [], [], []⟩
theorem ok : M.Ok := ⟨AG.nil, mixed, func216, by kernel_rfl⟩
theorem start (h : ∃ t5, YF prog ((do eqGuard .neq 51 (.tmp 3) (.tmp 4) v0 v0; binOp .neq 51 v0 v0)) σ (.bool t5) ∧ R (.returned (.bool t5)) σ) : Spec prog 216 #[v0] σ R := M.D0 h ok [(0, .o (.V v0))] rfl rfl (by kernel_rfl)
end RB
namespace Is
variable {p0 Db Dl p2 : Option Addr} {n0 c0 Dd De Dg Dm n2 c2 b3 : Nat} {DX CP DY Dc C3 CU : Int} {DZ : ByteArray} {C4 : Bool}
def M : Fw := ⟨prog, 226, f226, [], [5], false, [], [], []⟩
theorem ok : M.Ok := ⟨AG.nil, mixed, func226, by kernel_rfl⟩
theorem start (h : ∀ b5 : Nat, Br ((n0 : Int) < 2) (R (.returned (.tuple #[.int .u64 0, .bool false])) σ) (∃ v12, Hp.ld σ ⟨b3, 0, none⟩ = some v12 ∧ ∃ (f15 : Nat) (tq tr : Array Value), v12 = .func (.func f15) tq tr ∧ Enters prog f15 ∧ Spec prog f15 (tq ++ #[.slice p0 n0 c0, .slice p2 n2 c2] ++ tr) σ (AA R (CI .u64 fun x15 y => R (.returned (.tuple #[.int .u64 x15, .bool true])) y)))) : Spec prog 226 #[.slice p0 n0 c0, .agg #[.int .i64 DX, .int .i64 CP, .string DZ, .slice Db Dd De, .int .i64 DY, .int .i64 Dc, .int .i64 C3, .slice Dl Dg Dm, .bool C4, .int .i64 CU], .slice p2 n2 c2, (.pointer (aD b3 0))] σ R := M.start h ok
end Is
namespace C5
variable {TW ov : Option Addr} {Lr RC kB ow : Nat} {s1 : ByteArray} {x65 tu : Int}
def M : Fw := ⟨prog, 257, f257, [260, 285, 286], [2], false, [(1, 14, true)], [], [(2024, [(1, wT), (64, wL), (65, wI), (66, wI)])]⟩
theorem ok : M.Ok := ⟨.cons call260 (.cons call285 (.cons call286 (AG.nil))), mixed, func257, by kernel_rfl⟩
def Lf := M.pt 0
theorem start (h : ∀ b2 : Nat, Pq TW fun O6 Pg => In 0 (Lr : Int) ∧ LT σ O6 Pg fun xQ => AM ((Lr : Int) - 1) ∧ In (((Lr : Int) - 1)) (Lr : Int) ∧ LT σ O6 (Pg + Int.toNat ((Lr : Int) - 1) * 1) fun xR => Br ((Lr : Int) = 1) (R (.returned (.bool (ByteArray.toList s1 == ByteArray.toList xQ))) σ) (AM (((ByteArray.size xQ : Nat) : Int) + ((ByteArray.size xR : Nat) : Int)) ∧ Br ((((ByteArray.size s1 : Nat) : Int) : Int) < (((ByteArray.size xQ : Nat) : Int) + ((ByteArray.size xR : Nat) : Int))) (R (.returned (.bool false)) σ) (Spec prog 285 #[.string s1, .string xQ] σ (AA R (CB fun t40 y => Bn t40 (R (.returned (.bool false)) y) (Spec prog 286 #[.string s1, .string xR] y (AA R (CB fun t46 AF => Bn t46 (R (.returned (.bool false)) AF) (AM (((ByteArray.size s1 : Nat) : Int) - ((ByteArray.size xR : Nat) : Int)) ∧ ∃ s57, YF prog (Instr.sliceAt 9 (.string s1) (some (.int .i64 ((ByteArray.size xQ : Nat) : Int))) (some (.int .i64 (((ByteArray.size s1 : Nat) : Int) - ((ByteArray.size xR : Nat) : Int)))) none) AF (.string s57) ∧ AM ((Lr : Int) - 1) ∧ ((0 : Int) ≤ 1 ∧ 1 ≤ ((Lr : Int) - 1) ∧ ((Lr : Int) - 1) ≤ (RC : Int)) ∧ Lf R s57 ((IP (aD O6 Pg) (1) RC 1)) ((Int.toNat ((Lr : Int) - 1) - 1)) (RC - 1) ((((Int.toNat ((Lr : Int) - 1) - 1) : Nat) : Int)) 0 AF))))))))) : Spec prog 257 #[.agg #[.slice TW Lr RC], .string s1] σ R := M.start h ok
theorem Iu (h : Br (tu < x65) (Pq ov fun b68 o68 => In tu (kB : Int) ∧ LT σ b68 (o68 + Int.toNat tu * 1) fun s69 => Spec prog 260 #[.string s1, .string s69] σ (AA R (CI .i64 fun x72 y => Br (x72 < 0) (R (.returned (.bool false)) y) (AM (x72 + ((ByteArray.size s69 : Nat) : Int)) ∧ ∃ s80, YF prog (Instr.sliceAt 9 (.string s1) (some (.int .i64 (x72 + ((ByteArray.size s69 : Nat) : Int)))) none none) y (.string s80) ∧ AM (tu + 1) ∧ Lf R s80 (aD b68 o68) kB ow x65 (tu + 1) y)))) (R (.returned (.bool true)) σ)) : Lf R s1 ov kB ow x65 tu σ := M.of h ok rfl
end C5
namespace EV
variable {q0 : Option Addr}
def M : Fw := ⟨prog, 298, f298, [66, 67, 135], [], false, [], [], [(14, [(0, wQ)])]⟩
theorem ok : M.Ok := ⟨.cons call66 (.cons call67 (.cons call135 (AG.nil))), mixed, func298, by kernel_rfl⟩
def GN := M.pt 0
theorem start (h : Spec prog 66 #[.pointer q0] σ (AA R (fun z y => ∃ Fo FU HH x4d, z = (.agg #[.int .i64 Fo, .int .i64 FU, .string HH, .int .i64 x4d]) ∧ Br (Fo ≠ 2) (Spec prog 67 #[.pointer q0] y (AA R (fun z AF => z = (.tuple #[]) ∧ GN R q0 AF))) (GN R q0 y)))) : Spec prog 298 #[.pointer q0] σ R := M.start h ok
theorem A5 (h : Spec prog 135 #[.pointer q0] σ (AA R (fun z y => ∃ Ib xS AJR ACl, z = (.agg #[.int .i64 Ib, .int .i64 xS, .string AJR, .int .i64 ACl]) ∧ R (.returned (.int .i64 ACl)) y))) : GN R q0 σ := M.of h ok rfl
end EV
end TwW
end
end
section
set_option maxRecDepth 100000
noncomputable section
namespace TwW
open Go Tw Go.Proofs.Tryz
variable [Es] {R : Rr} {σ : Hp}

namespace FV
variable {s0 : ByteArray} {x3 : Int}
def M : Fw := ⟨prog, 19, f19, [42], [], false, [], [], [(208, [(0, wT), (3, wI)])]⟩
theorem ok : M.Ok := ⟨.cons call42 (AG.nil), mixed, func19, by kernel_rfl⟩
def GN := M.pt 0
theorem start (h : GN R s0 0 σ) : Spec prog 19 #[.string s0] σ R := M.start h ok
theorem A5 (h : Br (x3 < ((ByteArray.size s0 : Nat) : Int)) (∃ tw : UInt8, 0 ≤ x3 ∧ (ByteArray.data s0)[Int.toNat x3]? = some tw ∧ Br ((((UInt8.toNat tw : Nat) : Int) : Int) < 97) (R (.returned (.bool false)) σ) (∃ u17 : UInt8, 0 ≤ x3 ∧ (ByteArray.data s0)[Int.toNat x3]? = some u17 ∧ Br ((122 : Int) < ((UInt8.toNat u17 : Nat) : Int)) (R (.returned (.bool false)) σ) (AM (x3 + 1) ∧ GN R s0 (x3 + 1) σ))) (Bn ((ByteArray.toList s0 == ByteArray.toList (ByteArray.mk #[]))) (Br ((((ByteArray.size s0 : Nat) : Int) : Int) < 60) (Spec prog 42 #[.string s0] σ (AA R (CB fun t29 y => R (.returned (.bool (!t29))) y))) (R (.returned (.bool false)) σ)) (R (.returned (.bool false)) σ))) : GN R s0 x3 σ := M.of h ok rfl
end FV
namespace FW
variable {p0 p1 Eo Ew : Option Addr} {n0 c0 n1 c1 Ep Er Ex Ey : Nat} {x2 D2 EB x9 : Int}
def M : Fw := ⟨prog, 30, f30, [47], [8], false, [], [], [(30, [(8, .X 93 [.I .i64, .I .u64, .L, .L]), (9, wI)])]⟩
theorem ok : M.Ok := ⟨.cons call47 (AG.nil), mixed, func30, by kernel_rfl⟩
def CN := M.pt 0
theorem start (h : Al σ fun BL => Spec prog 47 #[(.pointer (aD BL 0)), .slice p0 n0 c0] (Hp.set σ BL (.cells #[.slice p1 n1 c1, .int .i64 x2] 97 (0, 0))) (AA R (fun z y => ∃ dS dT tz uA uB kC kD kE xT, z = (.tuple #[.agg #[.int .i64 dS, .int .u64 dT, .slice tz uA uB, .slice kC kD kE], .int .i64 xT]) ∧ ∀ b8 : Nat, Br (dS = 1) (Al y fun Jb => CN R dS dT (aD Jb 0) 1 1 kC kD kE xT (Hp.set y Jb (.cells #[.slice none 0 0, .int .u64 dT] 71 (0, 0)))) (CN R dS dT tz uA uB kC kD kE xT y)))) : Spec prog 30 #[.slice p0 n0 c0, .slice p1 n1 c1, .int .i64 x2] σ R := M.start h ok
theorem BH (h : R (.returned (.tuple #[.slice Eo Ep Er, .int .i64 x9])) σ) : CN R D2 EB Eo Ep Er Ew Ex Ey x9 σ := M.iY h ok rfl fun _ => by kernel_rfl
end FW
namespace M7
variable {x0 x1 x2 : Int}
def M : Fw := ⟨prog, 48, f48, [], [], false, [], [], []⟩
theorem ok : M.Ok := ⟨AG.nil, mixed, func48, by kernel_rfl⟩
theorem start (h : Al σ fun b3 => Al (Hp.set σ b3 (.cells #[.int .i64 x0] 2 (0, 0))) fun b4 => Al (Hp.set (Hp.set σ b3 (.cells #[.int .i64 x0] 2 (0, 0))) b4 (.cells #[.int .i64 x1] 2 (0, 0))) fun b5 => R (.returned (.func (.func 71) #[] #[(.pointer (aD b3 0)), (.pointer (aD b5 0)), (.pointer (aD b4 0))])) (Hp.set (Hp.set (Hp.set σ b3 (.cells #[.int .i64 x0] 2 (0, 0))) b4 (.cells #[.int .i64 x1] 2 (0, 0))) b5 (.cells #[.int .i64 x2] 2 (0, 0)))) : Spec prog 48 #[.int .i64 x0, .int .i64 x1, .int .i64 x2] σ R := M.start h ok
end M7
namespace JJ
variable {q0 Db Dl : Option Addr} {DX CP DY Dc C3 CU : Int} {DZ : ByteArray} {Dd De Dg Dm : Nat} {C4 : Bool}
def M : Fw := ⟨prog, 53, f53, [79, 80, 81], [3], false, [(6, 9, true)], [], []⟩
theorem ok : M.Ok := ⟨.cons call79 (.cons call80 (.cons call81 (AG.nil))), mixed, func53, by kernel_rfl⟩
theorem start (h : ∀ b3 : Nat, Spec prog 79 #[.agg #[.int .i64 DX, .int .i64 CP, .string DZ, .slice Db Dd De, .int .i64 DY, .int .i64 Dc, .int .i64 C3, .slice Dl Dg Dm, .bool C4, .int .i64 CU]] σ (AA R (CB fun t10 y => Bn t10 (R (.returned (.int .i64 190)) y) (Pq q0 fun Lp VJ => LS y Lp VJ fun p18 n18 c18 => Br ((n18 : Int) < CU) (R (.returned (.int .i64 190)) y) (Spec prog 80 #[.slice Db Dd De] y (AA R (CI .i64 fun JF AF => Br (JF ≠ 0) (R (.returned (.int .i64 193)) AF) (AJ prog (Instr.makeMap 150 none) AF (fun z AH => ∃ qS, z = (.map (some qS)) ∧ Spec prog 81 #[.int .i64 1] AH (AA R (fun z Aa => ∃ f27 a27 c27, (Value.func f27 a27 c27) = z ∧ AJ prog (Instr.mapUpdate 150 (.map (some qS)) (.int .i64 1) (Value.func f27 a27 c27)) Aa (fun _ D1 => Spec prog 81 #[.int .i64 2] D1 (AA R (fun z BF => ∃ f28 a28 c28, (Value.func f28 a28 c28) = z ∧ AJ prog (Instr.mapUpdate 150 (.map (some qS)) (.int .i64 2) (Value.func f28 a28 c28)) BF (fun _ Bs => Spec prog 81 #[.int .i64 3] Bs (AA R (fun z Mo => ∃ f29 a29 c29, (Value.func f29 a29 c29) = z ∧ AJ prog (Instr.mapUpdate 150 (.map (some qS)) (.int .i64 3) (Value.func f29 a29 c29)) Mo (fun _ VN => AJ prog (Instr.mapUpdate 150 (.map (some qS)) (.int .i64 4) (.func (.func 82) #[(.pointer (aD Lp VJ))] #[])) VN (fun _ Lg => AJ prog (Instr.mapUpdate 150 (.map (some qS)) (.int .i64 5) (.func (.func 83) #[(.pointer (aD Lp VJ))] #[])) Lg (fun _ kF => AJ prog (Instr.mapUpdate 150 (.map (some qS)) (.int .i64 6) (.func (.func 84) #[(.pointer (aD Lp VJ))] #[])) kF (fun _ AJS => AJ prog (Instr.mapUpdate 150 (.map (some qS)) (.int .i64 7) (.func (.func 85) #[(.pointer (aD Lp VJ))] #[])) AJS (fun _ qT => LS qT Lp VJ fun p42 n42 c42 => AM ((n42 : Int) - CU) ∧ LS qT Lp VJ fun p56 n56 c56 => ((0 : Int) ≤ ((n42 : Int) - CU) ∧ ((n42 : Int) - CU) ≤ (n56 : Int)) ∧ AJ prog (Instr.lookup 150 (.map (some qS)) (.int .i64 DX) false) qT (fun z ACn => ∃ v51, v51 = z ∧ Kp [Lp] qT ACn ∧ ∃ (f59 : Nat) (uC uD : Array Value), v51 = .func (.func f59) uC uD ∧ Enters prog f59 ∧ Spec prog f59 (uC ++ #[.agg #[.int .i64 DX, .int .i64 CP, .string DZ, .slice Db Dd De, .int .i64 DY, .int .i64 Dc, .int .i64 C3, .slice Dl Dg Dm, .bool C4, .int .i64 CU], (.slice (IP p56 (Int.toNat ((n42 : Int) - CU)) c56 1) (n56 - Int.toNat ((n42 : Int) - CU)) (c56 - Int.toNat ((n42 : Int) - CU)))] ++ uD) ACn (AA R (fun z aY => ∃ VO HZ, z = (.tuple #[.int .i64 VO, .int .i64 HZ]) ∧ LS aY Lp VJ fun ox kG dU => ((0 : Int) ≤ ((n42 : Int) - CU) ∧ ((n42 : Int) - CU) ≤ (dU : Int)) ∧ Al aY fun VH => AJ prog (Builtin.append_ #[108, 108] 108 #[(.slice ox (Int.toNat ((n42 : Int) - CU)) dU), (.slice (aD VH 0) 1 1)]) (Hp.set aY VH (.cells #[.int .i64 VO] 113 (0, 0))) (CS fun p72 n72 c72 xU => AJ prog (Instr.storeAt 108 (.pointer (aD Lp VJ)) (.slice p72 n72 c72)) xU (fun _ xV => R (.returned (.int .i64 HZ)) xV))))))))))))))))))))))))))) : Spec prog 53 #[.pointer q0, .agg #[.int .i64 DX, .int .i64 CP, .string DZ, .slice Db Dd De, .int .i64 DY, .int .i64 Dc, .int .i64 C3, .slice Dl Dg Dm, .bool C4, .int .i64 CU]] σ R := M.start h ok
end JJ
namespace Dn
variable {p0 : Option Addr} {n0 c0 : Nat} {x3 : Int}
def M : Fw := ⟨prog, 69, f69, [], [], false, [(4, 12, true)], [], [(208, [(0, wL), (3, wI)])]⟩
theorem ok : M.Ok := ⟨AG.nil, mixed, func69, by kernel_rfl⟩
def GN := M.pt 0
theorem start (h : GN R p0 n0 c0 1 σ) : Spec prog 69 #[.slice p0 n0 c0] σ R := M.start h ok
theorem A5 (h : Br (x3 < (n0 : Int)) (Pq p0 fun O6 Pg => In x3 (n0 : Int) ∧ LI .i64 σ O6 (Pg + Int.toNat x3 * 2) fun ZQ => AM (x3 - 1) ∧ In (x3 - 1) (n0 : Int) ∧ LI .i64 σ O6 (Pg + Int.toNat (x3 - 1) * 2) fun HY => Br (ZQ ≤ HY) (R (.returned (.bool false)) σ) (AM (x3 + 1) ∧ GN R (aD O6 Pg) n0 c0 (x3 + 1) σ)) (R (.returned (.bool (decide (0 < (n0 : Int))))) σ)) : GN R p0 n0 c0 x3 σ := M.of h ok rfl
end Dn
namespace HI
variable {s0 : ByteArray} {x1 : Int}
def M : Fw := ⟨prog, 130, f130, [169], [], false, [], [], []⟩
theorem ok : M.Ok := ⟨.cons call169 (AG.nil), mixed, func130, by kernel_rfl⟩
theorem start (h : Spec prog 169 #[.string s0, .int .u8 x1] σ (AA R (CI .i64 fun x7 y => R (.returned (.int .i64 x7)) y))) : Spec prog 130 #[.string s0, .int .u8 x1] σ R := M.start h ok
end HI
namespace M8
variable {s0 : ByteArray}
def M : Fw := ⟨prog, 132, f132, [], [], false, [], [], []⟩
theorem ok : M.Ok := ⟨AG.nil, mixed, func132, by kernel_rfl⟩
theorem start (h : Br ((1 : Int) < ((ByteArray.size s0 : Nat) : Int)) (∃ u8 : UInt8, (0 : Int) ≤ 0 ∧ (ByteArray.data s0)[Int.toNat 0]? = some u8 ∧ R (.returned (.bool (decide ((((UInt8.toNat u8 : Nat) : Int) : Int) = 48)))) σ) (R (.returned (.bool false)) σ)) : Spec prog 132 #[.string s0] σ R := M.start h ok
end M8
namespace O9
variable {p0 : Option Addr} {n0 c0 : Nat} {x1 x2 : Int}
def M : Fw := ⟨prog, 141, f141, [175], [], false, [], [], []⟩
theorem ok : M.Ok := ⟨.cons call175 (AG.nil), mixed, func141, by kernel_rfl⟩
theorem start (h : Spec prog 175 #[.slice p0 n0 c0, .int .i64 x1, (.func (.func 176) #[] #[])] σ (AA R (fun z y => ∃ GD AJW, z = (.tuple #[.int .i64 GD, .bool AJW]) ∧ Spec prog 175 #[.slice p0 n0 c0, .int .i64 x2, (.func (.func 177) #[] #[])] y (AA R (fun z AF => ∃ H0 AJX, z = (.tuple #[.int .i64 H0, .bool AJX]) ∧ ((0 : Int) ≤ (if H0 < GD then H0 else GD) ∧ (if H0 < GD then H0 else GD) ≤ H0 ∧ H0 ≤ (c0 : Int)) ∧ R (.returned (.slice (IP p0 (Int.toNat (if H0 < GD then H0 else GD)) c0 2) (Int.toNat H0 - Int.toNat (if H0 < GD then H0 else GD)) (c0 - Int.toNat (if H0 < GD then H0 else GD)))) AF))))) : Spec prog 141 #[.slice p0 n0 c0, .int .i64 x1, .int .i64 x2] σ R := M.start h ok
end O9
namespace Iv
variable {x0 : Int}
def M : Fw := ⟨prog, 145, f145, [174, 182, 183], [], false, [], [], []⟩
theorem ok : M.Ok := ⟨.cons call174 (.cons call182 (.cons call183 (AG.nil))), mixed, func145, by kernel_rfl⟩
theorem start (h : Spec prog 182 #[.int .u64 x0] σ (AA R (fun z y => ∃ x4, (Value.float .f64 x4) = z ∧ Spec prog 183 #[(Value.float .f64 x4)] y (AA R (fun z AF => ∃ x5, (Value.float .f64 x5) = z ∧ Spec prog 174 #[(Value.float .f64 x5)] AF (AA R (CI .u64 fun x6 AH => R (.returned (.int .u64 x6)) AH))))))) : Spec prog 145 #[.int .u64 x0] σ R := M.start h ok
end Iv
namespace A1
variable {q0 Db Dl p2 Ih Io Eo Ew ZR TI : Option Addr} {DX CP DY Dc C3 CU Ie G0 Ik Il Im Ir D2 EB x16 x17 : Int} {DZ Ig : ByteArray} {Dd De Dg Dm n2 c2 Ii Ij Ip Iq Ep Er Ex Ey n10 TX n15 Ph : Nat} {C4 Jo : Bool} {v3 : Value}
def M : Fw := ⟨prog, 157, f157, [124, 146, 148], [5, 8, 12], false, [], [], [(232, [(3, wV), (5, .X 36 [.I .i64, .I .i64, .T, .L, .I .i64, .I .i64, .I .i64, .L, .B, .I .i64]), (8, .X 93 [.I .i64, .I .u64, .L, .L]), (10, wL), (15, wL), (16, wI), (17, wI)]), (935, [(3, wV), (5, .X 36 [.I .i64, .I .i64, .T, .L, .I .i64, .I .i64, .I .i64, .L, .B, .I .i64]), (8, .X 93 [.I .i64, .I .u64, .L, .L]), (10, wL), (15, wL), (16, wI), (17, wI)])]⟩
theorem ok : M.Ok := ⟨.cons call124 (.cons call146 (.cons call148 (AG.nil))), mixed, func157, by kernel_rfl⟩
def A3 := M.pt 0
def G1 := M.pt 1
theorem start (h : ∀ b5 : Nat, ∀ b8 : Nat, A3 R v3 DX CP DZ Db Dd De DY Dc C3 Dl Dg Dm C4 CU 0 0 none 0 0 none 0 0 none 0 0 p2 n2 c2 (n2 : Int) 0 σ) : Spec prog 157 #[.pointer q0, .agg #[.int .i64 DX, .int .i64 CP, .string DZ, .slice Db Dd De, .int .i64 DY, .int .i64 Dc, .int .i64 C3, .slice Dl Dg Dm, .bool C4, .int .i64 CU], .slice p2 n2 c2, v3] σ R := M.D0 h ok [(0, .o (.Q q0)), (1, .G [.I .i64 DX, .I .i64 CP, .T DZ, .L Db Dd De, .I .i64 DY, .I .i64 Dc, .I .i64 C3, .L Dl Dg Dm, .B C4, .I .i64 CU]), (2, .o (.L p2 n2 c2)), (3, .o (.V v3))] rfl rfl (by kernel_rfl)
theorem AZ (h : Br (x17 < x16) (Pq TI fun DD kH => In x17 (n15 : Int) ∧ ∃ qU qV qW VP, Av σ DD (kH + Int.toNat x17 * 2) [.slice qU qV qW, .int .u64 VP] ∧ ∀ O6 : Nat, ∃ (f25 : Nat) (uE uF : Array Value), v3 = .func (.func f25) uE uF ∧ Enters prog f25 ∧ Spec prog f25 (uE ++ #[.int .u64 VP] ++ uF) σ (AA R (fun z y => ∃ xW kA, z = (.tuple #[.int .u64 xW, .bool kA]) ∧ Spec prog 124 #[.int .i64 G0] y (AA R (CB fun t31 AF => Bn t31 (Spec prog 146 #[.slice qU qV qW] AF (AA R (CS fun xX n40 xY AH => Al AH fun dO => AJ prog (Builtin.append_ #[67, 67] 67 #[.slice ZR n10 TX, (.slice (aD dO 0) 1 1)]) (Hp.set AH dO (.cells #[.slice xX n40 xY, .int .u64 xW] 71 (0, 0))) (CS fun xZ n44 xd Aa => G1 R v3 Ie G0 Ig Ih Ii Ij Ik Il Im Io Ip Iq Jo Ir D2 EB Eo Ep Er Ew Ex Ey xZ n44 xd (aD DD kH) n15 Ph x16 x17 Aa)))) (Bo Jo (Spec prog 146 #[.slice qU qV qW] AF (AA R (CS fun xX n40 xY AH => Al AH fun dO => AJ prog (Builtin.append_ #[67, 67] 67 #[.slice ZR n10 TX, (.slice (aD dO 0) 1 1)]) (Hp.set AH dO (.cells #[.slice xX n40 xY, .int .u64 xW] 71 (0, 0))) (CS fun xZ n44 xd Aa => G1 R v3 Ie G0 Ig Ih Ii Ij Ik Il Im Io Ip Iq true Ir D2 EB Eo Ep Er Ew Ex Ey xZ n44 xd (aD DD kH) n15 Ph x16 x17 Aa)))) (Bo kA (Al AF fun UJ => AJ prog (Builtin.append_ #[67, 67] 67 #[.slice ZR n10 TX, (.slice (aD UJ 0) 1 1)]) (Hp.set AF UJ (.cells #[.slice qU qV qW, .int .u64 VP] 71 (0, 0))) (CS fun aW n50 aX AH => G1 R v3 Ie G0 Ig Ih Ii Ij Ik Il Im Io Ip Iq false Ir D2 EB Eo Ep Er Ew Ex Ey aW n50 aX (aD DD kH) n15 Ph x16 x17 AH)) (G1 R v3 Ie G0 Ig Ih Ii Ij Ik Il Im Io Ip Iq false Ir D2 EB Eo Ep Er Ew Ex Ey ZR n10 TX (aD DD kH) n15 Ph x16 x17 AF)))))))) (Spec prog 148 #[.slice ZR n10 TX] σ (AA R (fun z y => ∃ XG XH XI XJ XK XL XM XN kI, z = (.tuple #[.agg #[.int .i64 XG, .int .u64 XH, .slice XI XJ XK, .slice XL XM XN], .int .i64 kI]) ∧ R (.returned (.tuple #[.agg #[.int .i64 XG, .int .u64 XH, .slice XI XJ XK, .slice XL XM XN], .int .i64 kI])) y)))) : A3 R v3 Ie G0 Ig Ih Ii Ij Ik Il Im Io Ip Iq Jo Ir D2 EB Eo Ep Er Ew Ex Ey ZR n10 TX TI n15 Ph x16 x17 σ := M.fS h ok rfl fun _ _ => by kernel_rfl
theorem Iw (h : AM (x17 + 1) ∧ A3 R v3 Ie G0 Ig Ih Ii Ij Ik Il Im Io Ip Iq Jo Ir D2 EB Eo Ep Er Ew Ex Ey ZR n10 TX TI n15 Ph x16 (x17 + 1) σ) : G1 R v3 Ie G0 Ig Ih Ii Ij Ik Il Im Io Ip Iq Jo Ir D2 EB Eo Ep Er Ew Ex Ey ZR n10 TX TI n15 Ph x16 x17 σ := M.fS h ok rfl fun _ _ => by kernel_rfl
end A1
namespace PA
def M : Fw := ⟨prog, 178, f178, [], [], false, [], [], []⟩
theorem ok : M.Ok := ⟨AG.nil, mixed, func178, by kernel_rfl⟩
theorem start (h : Al σ fun b1 => R (.returned (.slice (aD b1 0) 5 5)) (Hp.set σ b1 (.cells #[.nilFunc, (.func (.func 217) #[] #[]), (.func (.func 218) #[] #[]), (.func (.func 219) #[] #[]), (.func (.func 220) #[] #[])] 221 (0, 0)))) : Spec prog 178 #[] σ R := M.start h ok
end PA
namespace Dp
variable {s0 : ByteArray} {p2 p3 p7 : Option Addr} {n2 c2 n3 c3 n7 c7 : Nat} {x8 x9 : Int}
def M : Fw := ⟨prog, 179, f179, [221], [2, 3], false, [(5, 8, false)], [], [(232, [(2, .X 224 [.L]), (3, .X 224 [.L]), (7, wL), (8, wI), (9, wI)])]⟩
theorem ok : M.Ok := ⟨.cons call221 (AG.nil), mixed, func179, by kernel_rfl⟩
def A3 := M.pt 0
theorem start (h : ∀ b2 : Nat, ∀ b3 : Nat, Spec prog 221 #[.string s0, (.string (ByteArray.mk #[124]))] σ (AA R (CS fun p7 n7 c7 y => A3 R none 0 0 none 0 0 p7 n7 c7 (n7 : Int) 0 y))) : Spec prog 179 #[.string s0] σ R := M.start h ok
theorem AZ (h : Br (x9 < x8) (Pq p7 fun BC ik => In x9 (n7 : Int) ∧ LT σ BC (ik + Int.toNat x9 * 1) fun s12 => Spec prog 221 #[.string s12, (.string (ByteArray.mk #[42]))] σ (AA R (CS fun aO n16 WJ y => Al y fun UI => AJ prog (Builtin.append_ #[222, 222] 222 #[.slice p3 n3 c3, (.slice (aD UI 0) 1 1)]) (Hp.set y UI (.cells #[.slice aO n16 WJ] 257 (0, 0))) (CS fun p19 n19 c19 AF => AM (x9 + 1) ∧ A3 R p2 n2 c2 p19 n19 c19 (aD BC ik) n7 c7 x8 (x9 + 1) AF)))) (R (.returned (.agg #[.slice p3 n3 c3])) σ)) : A3 R p2 n2 c2 p3 n3 c3 p7 n7 c7 x8 x9 σ := M.fS h ok rfl fun _ _ => by kernel_rfl
end Dp
namespace PC
variable {x0 : Int}
def M : Fw := ⟨prog, 186, f186, [174, 182], [], false, [], [], []⟩
theorem ok : M.Ok := ⟨.cons call174 (.cons call182 (AG.nil)), mixed, func186, by kernel_rfl⟩
theorem start (h : Spec prog 182 #[.int .u64 x0] σ (AA R (fun z y => ∃ x4, (Value.float .f64 x4) = z ∧ Spec prog 174 #[(Value.float .f64 x4)] y (AA R (CI .u64 fun x5 AF => R (.returned (.int .u64 x5)) AF))))) : Spec prog 186 #[.int .u64 x0] σ R := M.start h ok
end PC
namespace XO
variable {x0 x1 : Int}
def M : Fw := ⟨prog, 194, f194, [203], [], false, [], [], []⟩
theorem ok : M.Ok := ⟨.cons call203 (AG.nil), mixed, func194, by kernel_rfl⟩
theorem start (h : Spec prog 203 #[.int .i64 4, .int .u64 x0, .int .u64 x1] σ (AA R (fun z y => ∃ Ib Q4, z = (.tuple #[.int .u64 Ib, .bool Q4]) ∧ R (.returned (.int .u64 Ib)) y))) : Spec prog 194 #[.int .u64 x0, .int .u64 x1] σ R := M.start h ok
end XO
namespace Ls
variable {TW p1a : Option Addr} {Lr RC n1a c1a : Nat} {ET CP : Int}
def M : Fw := ⟨prog, 196, f196, [52], [2, 3], false, [], [], []⟩
theorem ok : M.Ok := ⟨.cons call52 (AG.nil), mixed, func196, by kernel_rfl⟩
theorem start (h : ∀ b2 : Nat, ∀ b3 : Nat, Spec prog 52 #[.slice TW Lr RC, .slice p1a n1a c1a] σ (AA R (CI .i64 fun x9 y => R (.returned (.int .i64 x9)) y))) : Spec prog 196 #[.agg #[.slice TW Lr RC, .int .u64 ET], .agg #[.slice p1a n1a c1a, .int .u64 CP]] σ R := M.start h ok
end Ls
namespace EW
variable {p0 : Option Addr} {n0 c0 : Nat} {s1 : ByteArray}
def M : Fw := ⟨prog, 199, f199, [228], [], false, [], [], []⟩
theorem ok : M.Ok := ⟨.cons call228 (AG.nil), mixed, func199, by kernel_rfl⟩
theorem start (h : Spec prog 228 #[.slice p0 n0 c0, .string s1] σ (AA R (CI .i64 fun x7 y => R (.returned (.bool (decide (0 ≤ x7)))) y))) : Spec prog 199 #[.slice p0 n0 c0, .string s1] σ R := M.start h ok
end EW
namespace FC
variable {x0 x5 x15 x16 : Int} {p1 JI : Option Addr} {n1 c1 n14 HG : Nat}
def M : Fw := ⟨prog, 202, f202, [186, 204, 229], [], false, [], [], [(232, [(0, wI), (5, wU), (14, wL), (15, wI), (16, wI)]), (935, [(0, wI), (5, wU), (14, wL), (15, wI), (16, wI)])]⟩
theorem ok : M.Ok := ⟨.cons call186 (.cons call204 (.cons call229 (AG.nil))), mixed, func202, by kernel_rfl⟩
def A3 := M.pt 0
def kJ := M.pt 1
theorem start (h : Pq p1 fun BC ik => In 0 (n1 : Int) ∧ LI .u64 σ BC ik fun x12 => ((0 : Int) ≤ 1 ∧ 1 ≤ (n1 : Int)) ∧ A3 R x0 x12 ((IP (aD BC ik) (1) c1 1)) (n1 - 1) (c1 - 1) ((((n1 - 1) : Nat) : Int)) 0 σ) : Spec prog 202 #[.int .i64 x0, .slice p1 n1 c1] σ R := M.start h ok
theorem AZ (h : Br (x16 < x15) (Pq JI fun UI aZ => In x16 (n14 : Int) ∧ LI .u64 σ UI (aZ + Int.toNat x16 * 1) fun Dk => Spec prog 204 #[.int .i64 x0, .int .u64 Dk, .int .u64 x5] σ (AA R (fun z y => ∃ ACt AJY, z = (.tuple #[.bool ACt, .bool AJY]) ∧ Bo ACt (kJ R x0 Dk (aD UI aZ) n14 HG x15 x16 y) (Spec prog 229 #[.int .u64 x5] y (AA R (CB fun t30 AF => Bo t30 (kJ R x0 Dk (aD UI aZ) n14 HG x15 x16 AF) (kJ R x0 x5 (aD UI aZ) n14 HG x15 x16 AF))))))) (Spec prog 186 #[.int .u64 x5] σ (AA R (CI .u64 fun WK y => R (.returned (.int .u64 WK)) y)))) : A3 R x0 x5 JI n14 HG x15 x16 σ := M.of h ok rfl
theorem qX (h : AM (x16 + 1) ∧ A3 R x0 x5 JI n14 HG x15 (x16 + 1) σ) : kJ R x0 x5 JI n14 HG x15 x16 σ := M.of h ok rfl
end FC
namespace XP
variable {x0 : Int}
def M : Fw := ⟨prog, 229, f229, [186], [], false, [], [], []⟩
theorem ok : M.Ok := ⟨.cons call186 (AG.nil), mixed, func229, by kernel_rfl⟩
theorem start (h : Spec prog 186 #[.int .u64 x0] σ (AA R (CI .u64 fun x4 y => R (.returned (.bool (decide (x4 = 9221120237041090560)))) y))) : Spec prog 229 #[.int .u64 x0] σ R := M.start h ok
end XP
namespace BU
variable {TW p8 : Option Addr} {Lr RC n8 c8 : Nat} {s1 : ByteArray} {x9 x10 : Int}
def M : Fw := ⟨prog, 236, f236, [257], [2, 6], false, [], [], [(104, [(1, wT), (8, wL), (9, wI), (10, wI)])]⟩
theorem ok : M.Ok := ⟨.cons call257 (AG.nil), mixed, func236, by kernel_rfl⟩
def Hf := M.pt 0
theorem start (h : ∀ b2 : Nat, Hf R s1 TW Lr RC (Lr : Int) 0 σ) : Spec prog 236 #[.agg #[.slice TW Lr RC], .string s1] σ R := M.start h ok
theorem Be (h : Br (x10 < x9) (Pq p8 fun O6 Pg => In x10 (n8 : Int) ∧ ∃ kK kL kM, Av σ O6 (Pg + Int.toNat x10 * 1) [.slice kK kL kM] ∧ ∀ b6 : Nat, Spec prog 257 #[.agg #[.slice kK kL kM], .string s1] σ (AA R (CB fun t16 y => Bo t16 (R (.returned (.bool true)) y) (AM (x10 + 1) ∧ Hf R s1 (aD O6 Pg) n8 c8 x9 (x10 + 1) y)))) (R (.returned (.bool false)) σ)) : Hf R s1 p8 n8 c8 x9 x10 σ := M.of h ok rfl
end BU
namespace EC
variable {s0 : ByteArray} {x3 x8 x9 x16 : Int} {v4 v2 : Value} {t11 : Bool}
def M : Fw := ⟨prog, 253, f253, [271, 272, 273, 278, 279, 280, 282, 283], [], false, [], [], [(254, [(0, wT), (3, wI), (4, wV)]), (8190, [(2, wV), (3, wI), (4, wV)]), (32446, [(0, wT), (3, wI), (4, wV), (8, wU), (9, wI), (11, wB), (16, wU)])]⟩
theorem ok : M.Ok := ⟨.cons call271 (.cons call272 (.cons call273 (.cons call278 (.cons call279 (.cons call280 (.cons call282 (.cons call283 (AG.nil)))))))), mixed, func253, by kernel_rfl⟩
def AJZ := M.pt 0
def ACu := M.pt 2
theorem start (h : Spec prog 271 #[.string s0] σ (AA R (fun z y => ∃ ACv RD ACw, z = (.tuple #[ACv, .int .i64 RD, .bool ACw]) ∧ Bo ACw (R (.returned (.tuple #[ACv, .int .i64 RD, .nilIface])) y) (Spec prog 272 #[.string s0] y (AA R (fun z AF => ∃ fi EI qY xe ACx RE ACy, z = (.tuple #[.int .u64 fi, .int .i64 EI, .bool qY, .bool xe, .bool ACx, .int .i64 RE, .bool ACy]) ∧ Bn ACy (R (.returned (.tuple #[.float .f64 0, .int .i64 RE, (.iface 264 (.int .i64 2))])) AF) (Bo ACx (∃ s53, YF prog (Instr.sliceAt 9 (.string s0) none (some (.int .i64 RE)) none) AF (.string s53) ∧ Spec prog 273 #[.string s53, (.pointer (aD 6 0)), .int .u64 fi, .int .i64 EI, .bool qY, .bool xe] AF (AA R (fun z AH => ∃ ACz AC0, z = (.tuple #[ACz, AC0]) ∧ R (.returned (.tuple #[ACz, .int .i64 RE, AC0])) AH))) (LB AF 5 0 fun t64 => Bo t64 (Spec prog 280 #[.bool qY] AF (AA R (CI .u64 fun tu AH => ((0 : Int) ≤ 63 ∧ 63 ≤ ((IntKind.bits .u64 : Nat) : Int)) ∧ Df (IntKind.u64.wrap (tu * 2 ^ Int.toNat 63)) fun ad => Br (fi = 0) (Df (Go.bits .or .u64 ad 0) fun x71 => EN prog 281 #[.int .u64 x71] AH (fun z Aa => ∃ x72, (Value.float .f64 x72) = z ∧ R (.returned (.tuple #[(Value.float .f64 x72), .int .i64 RE, .nilIface])) Aa)) (Br (310 < EI) (Df (Go.bits .or .u64 ad 9218868437227405312) fun x77 => EN prog 281 #[.int .u64 x77] AH (fun z Aa => ∃ x78, (Value.float .f64 x78) = z ∧ R (.returned (.tuple #[(Value.float .f64 x78), .int .i64 RE, (.iface 264 (.int .i64 1))])) Aa)) (Br (EI < (-345)) (Df (Go.bits .or .u64 ad 0) fun x84 => EN prog 281 #[.int .u64 x84] AH (fun z Aa => ∃ x85, (Value.float .f64 x85) = z ∧ R (.returned (.tuple #[(Value.float .f64 x85), .int .i64 RE, .nilIface])) Aa)) (Bn xe (Spec prog 282 #[.int .u64 fi, .int .i64 EI, .bool qY] AH (AA R (fun z Aa => ∃ AC2 AC3, z = (.tuple #[AC2, .bool AC3]) ∧ Bo AC3 (R (.returned (.tuple #[AC2, .int .i64 RE, .nilIface])) Aa) (ACu R s0 RE .nilIface fi EI false ad Aa)))) (ACu R s0 RE .nilIface fi EI true ad AH))))))) (AJZ R s0 RE .nilIface AF))))))))) : Spec prog 253 #[.string s0] σ R := M.start h ok
end EC
namespace Aj
variable {s0 : ByteArray} {x5 x6 x12 x7 : Int} {t13 t16 t19 : Bool}
def M : Fw := ⟨prog, 271, f271, [299, 300, 301], [], false, [], [], [(128001, [(0, wT), (5, wI), (6, wI), (12, w8), (13, wB)]), (256005, [(0, wT), (5, wI), (6, wI), (12, w8), (16, wB)]), (8004, [(0, wT), (5, wI), (6, wI)]), (256007, [(0, wT), (19, wB)]), (126, []), (32022, [(5, wI), (6, wI), (7, wI)]), (32006, [(0, wT), (5, wI)])]⟩
theorem ok : M.Ok := ⟨.cons call299 (.cons call300 (.cons call301 (AG.nil))), mixed, func271, by kernel_rfl⟩
def FD := M.pt 0
def xf := M.pt 1
def AJa := M.pt 2
def XQ := M.pt 3
def xg := M.pt 4
def AC4 := M.pt 6
theorem start (h : Br ((((ByteArray.size s0 : Nat) : Int) : Int) = 0) (R (.returned (.tuple #[.float .f64 0, .int .i64 0, .bool false])) σ) (∃ tw : UInt8, (0 : Int) ≤ 0 ∧ (ByteArray.data s0)[Int.toNat 0]? = some tw ∧ Br ((((UInt8.toNat tw : Nat) : Int) : Int) = 43) (FD R s0 1 0 (((UInt8.toNat tw : Nat) : Int)) true σ) (FD R s0 1 0 (((UInt8.toNat tw : Nat) : Int)) ((decide ((((UInt8.toNat tw : Nat) : Int) : Int) = 45))) σ))) : Spec prog 271 #[.string s0] σ R := M.start h ok
theorem VQ (h : Bo t13 (∃ u23 : UInt8, (0 : Int) ≤ 0 ∧ (ByteArray.data s0)[Int.toNat 0]? = some u23 ∧ Br ((((UInt8.toNat u23 : Nat) : Int) : Int) = 45) (AC4 R s0 (-1) σ) (AC4 R s0 x5 σ)) (Br (x12 = 105) (xf R s0 x5 x6 x12 true σ) (xf R s0 x5 x6 x12 ((decide (x12 = 73))) σ))) : FD R s0 x5 x6 x12 t13 σ := M.of h ok rfl
theorem qZ (h : Bo t16 (AJa R s0 x5 x6 σ) (Br (x12 = 110) (XQ R s0 true σ) (XQ R s0 ((decide (x12 = 78))) σ))) : xf R s0 x5 x6 x12 t16 σ := M.of h ok rfl
theorem VR (h : Bo t19 (Spec prog 299 #[.string s0, (.string (ByteArray.mk #[110, 97, 110]))] σ (AA R (CI .i64 fun kN y => Br (kN = 3) (Spec prog 301 #[] y (AA R (fun z AF => ∃ Qz, (Value.float .f64 Qz) = z ∧ R (.returned (.tuple #[(Value.float .f64 Qz), .int .i64 3, .bool true])) AF))) (xg R y)))) (xg R σ)) : XQ R s0 t19 σ := M.of h ok rfl
theorem qa (h : R (.returned (.tuple #[.float .f64 0, .int .i64 0, .bool false])) σ) : xg R  σ := M.of h ok rfl
end Aj
namespace CJ
variable {t0 : Bool}
def M : Fw := ⟨prog, 280, f280, [], [], false, [], [], []⟩
theorem ok : M.Ok := ⟨AG.nil, mixed, func280, by kernel_rfl⟩
theorem start (h : Bo t0 (R (.returned (.int .u64 1)) σ) (R (.returned (.int .u64 0)) σ)) : Spec prog 280 #[.bool t0] σ R := M.start h ok
end CJ
namespace HJ
variable {s0 s1 : ByteArray}
def M : Fw := ⟨prog, 286, f286, [316], [], false, [], [], []⟩
theorem ok : M.Ok := ⟨.cons call316 (AG.nil), mixed, func286, by kernel_rfl⟩
theorem start (h : Spec prog 316 #[.string s0, .string s1] σ (AA R (CB fun t7 y => R (.returned (.bool t7)) y))) : Spec prog 286 #[.string s0, .string s1] σ R := M.start h ok
end HJ
namespace B8
variable {s0 s1 : ByteArray}
def M : Fw := ⟨prog, 316, f316, [], [], false, [], [], []⟩
theorem ok : M.Ok := ⟨AG.nil, mixed, func316, by kernel_rfl⟩
theorem start (h : Br ((((ByteArray.size s1 : Nat) : Int) : Int) ≤ ((ByteArray.size s0 : Nat) : Int)) (AM (((ByteArray.size s0 : Nat) : Int) - ((ByteArray.size s1 : Nat) : Int)) ∧ ∃ s17, YF prog (Instr.sliceAt 9 (.string s0) (some (.int .i64 (((ByteArray.size s0 : Nat) : Int) - ((ByteArray.size s1 : Nat) : Int)))) none none) σ (.string s17) ∧ R (.returned (.bool (ByteArray.toList s17 == ByteArray.toList s1))) σ) (R (.returned (.bool false)) σ)) : Spec prog 316 #[.string s0, .string s1] σ R := M.start h ok
end B8
end TwW
end
end
section
set_option maxRecDepth 100000
noncomputable section
namespace TwW
open Go Tw Go.Proofs.Tryz
variable [Es] {R : Rr} {σ : Hp}

namespace DJ
variable {p0 p1 Hd p33 : Option Addr} {n0 c0 n1 c1 n11 He n33 c33 : Nat} {x2 xh WK : Int}
def M : Fw := ⟨prog, 11, f11, [28, 29, 30], [13], false, [], [], [(4072, [(2, wI), (11, wL), (33, wL), (34, wI), (35, wI)])]⟩
theorem ok : M.Ok := ⟨.cons call28 (.cons call29 (.cons call30 (AG.nil))), mixed, func11, by kernel_rfl⟩
def Pn := M.pt 0
theorem start (h : Spec prog 28 #[.slice p0 n0 c0, .slice p1 n1 c1] σ (AA R (CI .i64 fun x16 y => Br (x16 ≠ 0) (R (.returned (.tuple #[.slice none 0 0, .int .i64 x16])) y) (Spec prog 29 #[.int .i64 x2] y (AA R (CB fun t21 AF => Bn t21 (R (.returned (.tuple #[.slice none 0 0, .int .i64 221])) AF) (Spec prog 30 #[.slice p0 n0 c0, .slice p1 n1 c1, .int .i64 x2] AF (AA R (fun z AH => ∃ MT Lh MU XR, z = (.tuple #[.slice MT Lh MU, .int .i64 XR]) ∧ Br (XR ≠ 0) (R (.returned (.tuple #[.slice none 0 0, .int .i64 XR])) AH) (Pn R x2 none 0 0 MT Lh MU (Lh : Int) 0 AH)))))))))) : Spec prog 11 #[.slice p0 n0 c0, .slice p1 n1 c1, .int .i64 x2] σ R := M.start h ok
theorem QJ (h : Br (WK < xh) (Pq p33 fun b37 o37 => In WK (n33 : Int) ∧ ∃ qb qc qd G2, Av σ b37 (o37 + Int.toNat WK * 2) [.slice qb qc qd, .int .u64 G2] ∧ ∀ DG : Nat, (Al σ fun WL => (AJ prog (Builtin.append_ #[37, 37] 37 #[(.slice (aD WL 0) 0 0), .slice qb qc qd]) (Hp.set σ WL (.cells #[] 56 (0, 0))) (CS fun il n43 iq y => Al y fun Po => Al (Hp.set y Po (.cells #[.int .i64 x2, .int .u64 G2] 50 (0, 0))) fun VT => AJ prog (Builtin.append_ #[23, 23] 23 #[.slice Hd n11 He, (.slice (aD VT 0) 1 1)]) (Hp.set (Hp.set y Po (.cells #[.int .i64 x2, .int .u64 G2] 50 (0, 0))) VT (.cells #[.slice il n43 iq, (.slice (aD Po 0) 1 1)] 40 (0, 0))) (CS fun p51 n51 c51 AF => AM (WK + 1) ∧ Pn R x2 p51 n51 c51 (aD b37 o37) n33 c33 xh (WK + 1) AF))) ∧ (Al (Hp.set σ WL (.cells #[] 56 (0, 0))) fun Po => AJ prog (Builtin.append_ #[37, 37] 37 #[(.slice (aD WL 0) 0 0), .slice qb qc qd]) (Hp.set (Hp.set σ WL (.cells #[] 56 (0, 0))) Po (.cells #[.int .i64 x2, .int .u64 G2] 50 (0, 0))) (CS fun il n43 iq y => Al y fun VT => AJ prog (Builtin.append_ #[23, 23] 23 #[.slice Hd n11 He, (.slice (aD VT 0) 1 1)]) (Hp.set y VT (.cells #[.slice il n43 iq, (.slice (aD Po 0) 1 1)] 40 (0, 0))) (CS fun p51 n51 c51 AF => AM (WK + 1) ∧ Pn R x2 p51 n51 c51 (aD b37 o37) n33 c33 xh (WK + 1) AF)))) ∧ (Al σ fun Po => Al (Hp.set σ Po (.cells #[.int .i64 x2, .int .u64 G2] 50 (0, 0))) fun WL => AJ prog (Builtin.append_ #[37, 37] 37 #[(.slice (aD WL 0) 0 0), .slice qb qc qd]) (Hp.set (Hp.set σ Po (.cells #[.int .i64 x2, .int .u64 G2] 50 (0, 0))) WL (.cells #[] 56 (0, 0))) (CS fun il n43 iq y => Al y fun VT => AJ prog (Builtin.append_ #[23, 23] 23 #[.slice Hd n11 He, (.slice (aD VT 0) 1 1)]) (Hp.set y VT (.cells #[.slice il n43 iq, (.slice (aD Po 0) 1 1)] 40 (0, 0))) (CS fun p51 n51 c51 AF => AM (WK + 1) ∧ Pn R x2 p51 n51 c51 (aD b37 o37) n33 c33 xh (WK + 1) AF)))) (R (.returned (.tuple #[.slice Hd n11 He, .int .i64 0])) σ)) : Pn R x2 Hd n11 He p33 n33 c33 xh WK σ := M.of h ok rfl
end DJ
namespace RF
variable {s0 : ByteArray}
def M : Fw := ⟨prog, 42, f42, [60, 61, 62], [], false, [], [], []⟩
theorem ok : M.Ok := ⟨.cons call60 (.cons call61 (.cons call62 (AG.nil))), mixed, func42, by kernel_rfl⟩
theorem start (h : Spec prog 61 #[] σ (AA R (CS fun p3 n3 c3 y => Spec prog 60 #[.slice p3 n3 c3, .string s0] y (AA R (CI .i64 fun x5 AF => Br (0 ≤ x5) (R (.returned (.bool true)) AF) (Spec prog 62 #[] AF (AA R (CS fun p8 n8 c8 AH => Spec prog 60 #[.slice p8 n8 c8, .string s0] AH (AA R (CI .i64 fun x10 Aa => Br (0 ≤ x10) (R (.returned (.bool true)) Aa) (Al Aa fun BL => Spec prog 60 #[(.slice (aD BL 0) 9 9), .string s0] (Hp.set Aa BL (.cells #[(.string (ByteArray.mk #[111, 114])), (.string (ByteArray.mk #[97, 110, 100])), (.string (ByteArray.mk #[117, 110, 108, 101, 115, 115])), (.string (ByteArray.mk #[98, 111, 111, 108])), (.string (ByteArray.mk #[111, 110])), (.string (ByteArray.mk #[105, 103, 110, 111, 114, 105, 110, 103])), (.string (ByteArray.mk #[98, 121])), (.string (ByteArray.mk #[119, 105, 116, 104, 111, 117, 116])), (.string (ByteArray.mk #[111, 102, 102, 115, 101, 116]))] 9 (0, 0))) (AA R (CI .i64 fun x16 D1 => R (.returned (.bool (decide (0 ≤ x16)))) D1))))))))))))) : Spec prog 42 #[.string s0] σ R := M.start h ok
end RF
namespace B9
variable {q0 p1 p4c GO p6 p7 JI : Option Addr} {n1 c1 n4c c4c GQ GU n6 c6 n7 c7 n14 HG : Nat} {Fo FU x15 x16 : Int}
def M : Fw := ⟨prog, 47, f47, [70], [4, 9], false, [], [], [(488, [(0, wQ), (4, .X 93 [.I .i64, .I .u64, .L, .L]), (6, wL), (7, wL), (14, wL), (15, wI), (16, wI)])]⟩
theorem ok : M.Ok := ⟨.cons call70 (AG.nil), mixed, func47, by kernel_rfl⟩
def Ez := M.pt 0
theorem start (h : ∀ b4 : Nat, Spec prog 70 #[] σ (AA R (CS fun tW n13 tX y => Ez R q0 0 0 none 0 0 none 0 0 tW n13 tX none 0 0 p1 n1 c1 (n1 : Int) 0 y))) : Spec prog 47 #[.pointer q0, .slice p1 n1 c1] σ R := M.start h ok
theorem FN (h : Br (x16 < x15) (Pq JI fun UI aZ => In x16 (n14 : Int) ∧ ∃ Jp OL VK kO kP kQ kR kS kT kU kV kW kX EX, Av σ UI (aZ + Int.toNat x16 * 10) [.int .i64 Jp, .int .i64 OL, .string VK, .slice kO kP kQ, .int .i64 kR, .int .i64 kS, .int .i64 kT, .slice kU kV kW, .bool kX, .int .i64 EX] ∧ ∀ b9 : Nat, AM ((n7 : Int) - EX) ∧ Pq p6 fun XS dV => In Jp (n6 : Int) ∧ ∃ v30, Hp.ld σ ⟨XS, (dV + Int.toNat Jp * 1), none⟩ = some v30 ∧ ((0 : Int) ≤ ((n7 : Int) - EX) ∧ ((n7 : Int) - EX) ≤ (n7 : Int)) ∧ (Al σ fun dW => (AJ prog (Builtin.append_ #[136, 136] 136 #[(.slice (aD dW 0) 0 0), (.slice (IP p7 (Int.toNat ((n7 : Int) - EX)) c7 4) (n7 - Int.toNat ((n7 : Int) - EX)) (c7 - Int.toNat ((n7 : Int) - EX)))]) (Hp.set σ dW (.cells #[] 93 (0, 0))) (CS fun UK n37 UL y => Kp [XS] (Hp.set σ dW (.cells #[] 93 (0, 0))) y ∧ (∃ (f38 : Nat) (HK HL : Array Value), v30 = .func (.func f38) HK HL ∧ Enters prog f38 ∧ Spec prog f38 (HK ++ #[.pointer q0, .agg #[.int .i64 Jp, .int .i64 OL, .string VK, .slice kO kP kQ, .int .i64 kR, .int .i64 kS, .int .i64 kT, .slice kU kV kW, .bool kX, .int .i64 EX], .slice UK n37 UL] ++ HL) y (AA R (fun z AF => ∃ Jq Jr Js Jt Ju Jv Jw Jx G2, z = (.tuple #[.agg #[.int .i64 Jq, .int .u64 Jr, .slice Js Jt Ju, .slice Jv Jw Jx], .int .i64 G2]) ∧ Al AF fun BC => AJ prog (Instr.storeAt 93 (.pointer (aD BC 0)) (.agg #[.int .i64 Jq, .int .u64 Jr, .slice Js Jt Ju, .slice Jv Jw Jx])) (Hp.set AF BC (.cells #[.int .i64 0, .int .u64 0, .slice none 0 0, .slice none 0 0] 93 (0, 0))) (fun _ AH => Br (G2 ≠ 0) (R (.returned (.tuple #[.agg #[.int .i64 0, .int .u64 0, .slice none 0 0, .slice none 0 0], .int .i64 G2])) AH) (((0 : Int) ≤ ((n7 : Int) - EX) ∧ ((n7 : Int) - EX) ≤ (c7 : Int)) ∧ ∃ M9 NA NB NC ND NF NG NH, Av AH BC 0 [.int .i64 M9, .int .u64 NA, .slice NB NC ND, .slice NF NG NH] ∧ Al AH fun UJ => AJ prog (Builtin.append_ #[136, 136] 136 #[(.slice p7 (Int.toNat ((n7 : Int) - EX)) c7), (.slice (aD UJ 0) 1 1)]) (Hp.set AH UJ (.cells #[.int .i64 M9, .int .u64 NA, .slice NB NC ND, .slice NF NG NH] 93 (0, 0))) (CS fun aW n50 aX Aa => AM (x16 + 1) ∧ Ez R q0 Fo FU p4c n4c c4c GO GQ GU (aD XS dV) n6 c6 aW n50 aX (aD UI aZ) n14 HG x15 (x16 + 1) Aa)))))) ∧ (Al y fun BC => ∃ (f38 : Nat) (HK HL : Array Value), v30 = .func (.func f38) HK HL ∧ Enters prog f38 ∧ Spec prog f38 (HK ++ #[.pointer q0, .agg #[.int .i64 Jp, .int .i64 OL, .string VK, .slice kO kP kQ, .int .i64 kR, .int .i64 kS, .int .i64 kT, .slice kU kV kW, .bool kX, .int .i64 EX], .slice UK n37 UL] ++ HL) (Hp.set y BC (.cells #[.int .i64 0, .int .u64 0, .slice none 0 0, .slice none 0 0] 93 (0, 0))) (AA R (fun z AF => ∃ Jq Jr Js Jt Ju Jv Jw Jx G2, z = (.tuple #[.agg #[.int .i64 Jq, .int .u64 Jr, .slice Js Jt Ju, .slice Jv Jw Jx], .int .i64 G2]) ∧ AJ prog (Instr.storeAt 93 (.pointer (aD BC 0)) (.agg #[.int .i64 Jq, .int .u64 Jr, .slice Js Jt Ju, .slice Jv Jw Jx])) AF (fun _ AH => Br (G2 ≠ 0) (R (.returned (.tuple #[.agg #[.int .i64 0, .int .u64 0, .slice none 0 0, .slice none 0 0], .int .i64 G2])) AH) (((0 : Int) ≤ ((n7 : Int) - EX) ∧ ((n7 : Int) - EX) ≤ (c7 : Int)) ∧ ∃ M9 NA NB NC ND NF NG NH, Av AH BC 0 [.int .i64 M9, .int .u64 NA, .slice NB NC ND, .slice NF NG NH] ∧ Al AH fun UJ => AJ prog (Builtin.append_ #[136, 136] 136 #[(.slice p7 (Int.toNat ((n7 : Int) - EX)) c7), (.slice (aD UJ 0) 1 1)]) (Hp.set AH UJ (.cells #[.int .i64 M9, .int .u64 NA, .slice NB NC ND, .slice NF NG NH] 93 (0, 0))) (CS fun aW n50 aX Aa => AM (x16 + 1) ∧ Ez R q0 Fo FU p4c n4c c4c GO GQ GU (aD XS dV) n6 c6 aW n50 aX (aD UI aZ) n14 HG x15 (x16 + 1) Aa)))))))) ∧ (Al (Hp.set σ dW (.cells #[] 93 (0, 0))) fun BC => AJ prog (Builtin.append_ #[136, 136] 136 #[(.slice (aD dW 0) 0 0), (.slice (IP p7 (Int.toNat ((n7 : Int) - EX)) c7 4) (n7 - Int.toNat ((n7 : Int) - EX)) (c7 - Int.toNat ((n7 : Int) - EX)))]) (Hp.set (Hp.set σ dW (.cells #[] 93 (0, 0))) BC (.cells #[.int .i64 0, .int .u64 0, .slice none 0 0, .slice none 0 0] 93 (0, 0))) (CS fun UK n37 UL y => Kp [XS] (Hp.set (Hp.set σ dW (.cells #[] 93 (0, 0))) BC (.cells #[.int .i64 0, .int .u64 0, .slice none 0 0, .slice none 0 0] 93 (0, 0))) y ∧ ∃ (f38 : Nat) (HK HL : Array Value), v30 = .func (.func f38) HK HL ∧ Enters prog f38 ∧ Spec prog f38 (HK ++ #[.pointer q0, .agg #[.int .i64 Jp, .int .i64 OL, .string VK, .slice kO kP kQ, .int .i64 kR, .int .i64 kS, .int .i64 kT, .slice kU kV kW, .bool kX, .int .i64 EX], .slice UK n37 UL] ++ HL) y (AA R (fun z AF => ∃ Jq Jr Js Jt Ju Jv Jw Jx G2, z = (.tuple #[.agg #[.int .i64 Jq, .int .u64 Jr, .slice Js Jt Ju, .slice Jv Jw Jx], .int .i64 G2]) ∧ AJ prog (Instr.storeAt 93 (.pointer (aD BC 0)) (.agg #[.int .i64 Jq, .int .u64 Jr, .slice Js Jt Ju, .slice Jv Jw Jx])) AF (fun _ AH => Br (G2 ≠ 0) (R (.returned (.tuple #[.agg #[.int .i64 0, .int .u64 0, .slice none 0 0, .slice none 0 0], .int .i64 G2])) AH) (((0 : Int) ≤ ((n7 : Int) - EX) ∧ ((n7 : Int) - EX) ≤ (c7 : Int)) ∧ ∃ M9 NA NB NC ND NF NG NH, Av AH BC 0 [.int .i64 M9, .int .u64 NA, .slice NB NC ND, .slice NF NG NH] ∧ Al AH fun UJ => AJ prog (Builtin.append_ #[136, 136] 136 #[(.slice p7 (Int.toNat ((n7 : Int) - EX)) c7), (.slice (aD UJ 0) 1 1)]) (Hp.set AH UJ (.cells #[.int .i64 M9, .int .u64 NA, .slice NB NC ND, .slice NF NG NH] 93 (0, 0))) (CS fun aW n50 aX Aa => AM (x16 + 1) ∧ Ez R q0 Fo FU p4c n4c c4c GO GQ GU (aD XS dV) n6 c6 aW n50 aX (aD UI aZ) n14 HG x15 (x16 + 1) Aa)))))))) ∧ (Al σ fun BC => Al (Hp.set σ BC (.cells #[.int .i64 0, .int .u64 0, .slice none 0 0, .slice none 0 0] 93 (0, 0))) fun dW => AJ prog (Builtin.append_ #[136, 136] 136 #[(.slice (aD dW 0) 0 0), (.slice (IP p7 (Int.toNat ((n7 : Int) - EX)) c7 4) (n7 - Int.toNat ((n7 : Int) - EX)) (c7 - Int.toNat ((n7 : Int) - EX)))]) (Hp.set (Hp.set σ BC (.cells #[.int .i64 0, .int .u64 0, .slice none 0 0, .slice none 0 0] 93 (0, 0))) dW (.cells #[] 93 (0, 0))) (CS fun UK n37 UL y => Kp [XS] (Hp.set (Hp.set σ BC (.cells #[.int .i64 0, .int .u64 0, .slice none 0 0, .slice none 0 0] 93 (0, 0))) dW (.cells #[] 93 (0, 0))) y ∧ ∃ (f38 : Nat) (HK HL : Array Value), v30 = .func (.func f38) HK HL ∧ Enters prog f38 ∧ Spec prog f38 (HK ++ #[.pointer q0, .agg #[.int .i64 Jp, .int .i64 OL, .string VK, .slice kO kP kQ, .int .i64 kR, .int .i64 kS, .int .i64 kT, .slice kU kV kW, .bool kX, .int .i64 EX], .slice UK n37 UL] ++ HL) y (AA R (fun z AF => ∃ Jq Jr Js Jt Ju Jv Jw Jx G2, z = (.tuple #[.agg #[.int .i64 Jq, .int .u64 Jr, .slice Js Jt Ju, .slice Jv Jw Jx], .int .i64 G2]) ∧ AJ prog (Instr.storeAt 93 (.pointer (aD BC 0)) (.agg #[.int .i64 Jq, .int .u64 Jr, .slice Js Jt Ju, .slice Jv Jw Jx])) AF (fun _ AH => Br (G2 ≠ 0) (R (.returned (.tuple #[.agg #[.int .i64 0, .int .u64 0, .slice none 0 0, .slice none 0 0], .int .i64 G2])) AH) (((0 : Int) ≤ ((n7 : Int) - EX) ∧ ((n7 : Int) - EX) ≤ (c7 : Int)) ∧ ∃ M9 NA NB NC ND NF NG NH, Av AH BC 0 [.int .i64 M9, .int .u64 NA, .slice NB NC ND, .slice NF NG NH] ∧ Al AH fun UJ => AJ prog (Builtin.append_ #[136, 136] 136 #[(.slice p7 (Int.toNat ((n7 : Int) - EX)) c7), (.slice (aD UJ 0) 1 1)]) (Hp.set AH UJ (.cells #[.int .i64 M9, .int .u64 NA, .slice NB NC ND, .slice NF NG NH] 93 (0, 0))) (CS fun aW n50 aX Aa => AM (x16 + 1) ∧ Ez R q0 Fo FU p4c n4c c4c GO GQ GU (aD XS dV) n6 c6 aW n50 aX (aD UI aZ) n14 HG x15 (x16 + 1) Aa)))))))) (Pq p7 fun OM o53 => In 0 (n7 : Int) ∧ ∃ XT XU ADA ADB ADC XV XW XX, Av σ OM o53 [.int .i64 XT, .int .u64 XU, .slice ADA ADB ADC, .slice XV XW XX] ∧ R (.returned (.tuple #[.agg #[.int .i64 XT, .int .u64 XU, .slice ADA ADB ADC, .slice XV XW XX], .int .i64 0])) σ)) : Ez R q0 Fo FU p4c n4c c4c GO GQ GU p6 n6 c6 p7 n7 c7 JI n14 HG x15 x16 σ := M.iY h ok rfl fun _ => by kernel_rfl
end B9
namespace JK
variable {uG ZS s1a s1b : ByteArray}
def M : Fw := ⟨prog, 76, f76, [77, 78], [2, 3], false, [], [], []⟩
theorem ok : M.Ok := ⟨.cons call77 (.cons call78 (AG.nil)), mixed, func76, by kernel_rfl⟩
theorem start (h : ∀ b2 : Nat, ∀ b3 : Nat, Spec prog 78 #[.string uG, .string s1a] σ (AA R (CI .i64 fun x9 y => Spec prog 78 #[.string ZS, .string s1b] y (AA R (CI .i64 fun ZQ AF => Al AF fun b15 => Spec prog 77 #[(.slice (aD b15 0) 2 2)] (Hp.set AF b15 (.cells #[.int .i64 x9, .int .i64 ZQ] 3 (0, 0))) (AA R (CI .i64 fun x16 AH => R (.returned (.int .i64 x16)) AH))))))) : Spec prog 76 #[.agg #[.string uG, .string ZS], .agg #[.string s1a, .string s1b]] σ R := M.start h ok
end JK
namespace JL
variable {s0 s1 : ByteArray}
def M : Fw := ⟨prog, 78, f78, [119], [], false, [], [], []⟩
theorem ok : M.Ok := ⟨.cons call119 (AG.nil), mixed, func78, by kernel_rfl⟩
theorem start (h : Spec prog 119 #[.string s0, .string s1] σ (AA R (CI .i64 fun x7 y => R (.returned (.int .i64 x7)) y))) : Spec prog 78 #[.string s0, .string s1] σ R := M.start h ok
end JL
namespace FX
variable {p0 p8 : Option Addr} {n0 c0 n8 c8 : Nat} {x9 x10 : Int}
def M : Fw := ⟨prog, 80, f80, [125, 126], [4], false, [], [], [(232, [(8, wL), (9, wI), (10, wI)])]⟩
theorem ok : M.Ok := ⟨.cons call125 (.cons call126 (AG.nil)), mixed, func80, by kernel_rfl⟩
def Lc := M.pt 0
theorem start (h : Br (8 < (n0 : Int)) (R (.returned (.int .i64 41)) σ) (Lc R p0 n0 c0 (n0 : Int) 0 σ)) : Spec prog 80 #[.slice p0 n0 c0] σ R := M.start h ok
theorem Ia (h : Br (x10 < x9) (Pq p8 fun O6 Pg => In x10 (n8 : Int) ∧ ∃ kY fe ADE, Av σ O6 (Pg + Int.toNat x10 * 3) [.int .i64 kY, .string fe, .string ADE] ∧ ∀ b4 : Nat, Spec prog 125 #[.int .i64 kY] σ (AA R (CB fun t16 y => Bn t16 (R (.returned (.int .i64 40)) y) (Spec prog 126 #[.string fe] y (AA R (CB fun t21 AF => Bn t21 (R (.returned (.int .i64 40)) AF) (Br ((256 : Int) < ((ByteArray.size ADE : Nat) : Int)) (R (.returned (.int .i64 40)) AF) (AM (x10 + 1) ∧ Lc R (aD O6 Pg) n8 c8 x9 (x10 + 1) AF)))))))) (R (.returned (.int .i64 0)) σ)) : Lc R p8 n8 c8 x9 x10 σ := M.of h ok rfl
end FX
namespace Bh
variable {q0 Db Dl p2 : Option Addr} {DX CP DY Dc C3 CU x8 : Int} {DZ : ByteArray} {Dd De Dg Dm n2 c2 : Nat} {C4 : Bool}
def M : Fw := ⟨prog, 82, f82, [], [4], false, [], [], [(60, [(2, wL), (8, wI)])]⟩
theorem ok : M.Ok := ⟨AG.nil, mixed, func82, by kernel_rfl⟩
def Ez := M.pt 0
theorem start (h : ∀ b4 : Nat, Br (CP = 11) (Ez R p2 n2 c2 2 σ) (Br (CP = 12) (Ez R p2 n2 c2 2 σ) (Ez R p2 n2 c2 3 σ))) : Spec prog 82 #[.pointer q0, .agg #[.int .i64 DX, .int .i64 CP, .string DZ, .slice Db Dd De, .int .i64 DY, .int .i64 Dc, .int .i64 C3, .slice Dl Dg Dm, .bool C4, .int .i64 CU], .slice p2 n2 c2] σ R := M.start h ok
theorem FN (h : Pq p2 fun UI aZ => In 0 (n2 : Int) ∧ LI .i64 σ UI aZ fun HY => Br (HY ≠ x8) (R (.returned (.tuple #[.int .i64 0, .int .i64 191])) σ) (R (.returned (.tuple #[.int .i64 2, .int .i64 0])) σ)) : Ez R p2 n2 c2 x8 σ := M.of h ok rfl
end Bh
namespace Gg
variable {s0 : ByteArray} {x3 x4 x5 : Int}
def M : Fw := ⟨prog, 93, f93, [131], [], false, [], [], [(2000, [(0, wT), (3, wI), (4, wI), (5, wI)]), (508, [(4, wI)])]⟩
theorem ok : M.Ok := ⟨.cons call131 (AG.nil), mixed, func93, by kernel_rfl⟩
def qe := M.pt 0
def Pd := M.pt 1
theorem start (h : Spec prog 131 #[.string s0] σ (AA R (CI .i64 fun x7 y => Br (x7 = 0) (R (.returned (.int .i64 0)) y) (Br (10 < x7) (R (.returned (.int .i64 0)) y) (∃ u16 : UInt8, (0 : Int) ≤ 0 ∧ (ByteArray.data s0)[Int.toNat 0]? = some u16 ∧ Br ((((UInt8.toNat u16 : Nat) : Int) : Int) = 48) (R (.returned (.int .i64 0)) y) (AM (x7 + 1) ∧ Br (((x7 + 1) : Int) ≠ ((ByteArray.size s0 : Nat) : Int)) (R (.returned (.int .i64 0)) y) (qe R s0 x7 0 0 y))))))) : Spec prog 93 #[.string s0] σ R := M.start h ok
theorem dX (h : Br (x5 < x3) (AM (10 * x4) ∧ ∃ u35 : UInt8, 0 ≤ x5 ∧ (ByteArray.data s0)[Int.toNat x5]? = some u35 ∧ Df (IntKind.u8.wrap (((UInt8.toNat u35 : Nat) : Int) - 48)) fun ZT => Df (IntKind.i64.wrap ZT) fun Pp => AM ((10 * x4) + Pp) ∧ AM (x5 + 1) ∧ qe R s0 x3 (((10 * x4) + Pp)) (x5 + 1) σ) (∃ u41 : UInt8, 0 ≤ x3 ∧ (ByteArray.data s0)[Int.toNat x3]? = some u41 ∧ Br ((((UInt8.toNat u41 : Nat) : Int) : Int) = 115) (Pd R x4 σ) (Br ((((UInt8.toNat u41 : Nat) : Int) : Int) = 109) (AM (x4 * 60) ∧ Pd R (x4 * 60) σ) (Br ((((UInt8.toNat u41 : Nat) : Int) : Int) = 104) (AM (x4 * 3600) ∧ Pd R (x4 * 3600) σ) (Br ((((UInt8.toNat u41 : Nat) : Int) : Int) = 100) (AM (x4 * 86400) ∧ Pd R (x4 * 86400) σ) (R (.returned (.int .i64 0)) σ)))))) : qe R s0 x3 x4 x5 σ := M.of h ok rfl
theorem QF (h : Br (2147483648 ≤ x4) (R (.returned (.int .i64 0)) σ) (R (.returned (.int .i64 x4)) σ)) : Pd R x4 σ := M.of h ok rfl
end Gg
namespace FE
variable {s0 : ByteArray} {x3 : Int}
def M : Fw := ⟨prog, 98, f98, [], [], false, [], [], [(464, [(0, wT), (3, wI)])]⟩
theorem ok : M.Ok := ⟨AG.nil, mixed, func98, by kernel_rfl⟩
def JV := M.pt 0
theorem start (h : Bo ((ByteArray.toList s0 == ByteArray.toList (ByteArray.mk #[]))) (R (.returned (.bool false)) σ) (Br ((64 : Int) < ((ByteArray.size s0 : Nat) : Int)) (R (.returned (.bool false)) σ) (∃ LL : UInt8, (0 : Int) ≤ 0 ∧ (ByteArray.data s0)[Int.toNat 0]? = some LL ∧ Br ((48 : Int) ≤ ((UInt8.toNat LL : Nat) : Int)) (∃ u18 : UInt8, (0 : Int) ≤ 0 ∧ (ByteArray.data s0)[Int.toNat 0]? = some u18 ∧ Br ((((UInt8.toNat u18 : Nat) : Int) : Int) ≤ 57) (R (.returned (.bool false)) σ) (JV R s0 0 σ)) (JV R s0 0 σ)))) : Spec prog 98 #[.string s0] σ R := M.start h ok
theorem NI (h : Br (x3 < ((ByteArray.size s0 : Nat) : Int)) (∃ ZU : UInt8, 0 ≤ x3 ∧ (ByteArray.data s0)[Int.toNat x3]? = some ZU ∧ Br ((((UInt8.toNat ZU : Nat) : Int) : Int) ≠ 95) (Br ((((UInt8.toNat ZU : Nat) : Int) : Int) < 48) (Br ((((UInt8.toNat ZU : Nat) : Int) : Int) < 65) (Br ((((UInt8.toNat ZU : Nat) : Int) : Int) < 97) (R (.returned (.bool false)) σ) (Br ((122 : Int) < ((UInt8.toNat ZU : Nat) : Int)) (R (.returned (.bool false)) σ) (AM (x3 + 1) ∧ JV R s0 (x3 + 1) σ))) (Br ((90 : Int) < ((UInt8.toNat ZU : Nat) : Int)) (Br ((((UInt8.toNat ZU : Nat) : Int) : Int) < 97) (R (.returned (.bool false)) σ) (Br ((122 : Int) < ((UInt8.toNat ZU : Nat) : Int)) (R (.returned (.bool false)) σ) (AM (x3 + 1) ∧ JV R s0 (x3 + 1) σ))) (AM (x3 + 1) ∧ JV R s0 (x3 + 1) σ))) (Br ((57 : Int) < ((UInt8.toNat ZU : Nat) : Int)) (Br ((((UInt8.toNat ZU : Nat) : Int) : Int) < 65) (Br ((((UInt8.toNat ZU : Nat) : Int) : Int) < 97) (R (.returned (.bool false)) σ) (Br ((122 : Int) < ((UInt8.toNat ZU : Nat) : Int)) (R (.returned (.bool false)) σ) (AM (x3 + 1) ∧ JV R s0 (x3 + 1) σ))) (Br ((90 : Int) < ((UInt8.toNat ZU : Nat) : Int)) (Br ((((UInt8.toNat ZU : Nat) : Int) : Int) < 97) (R (.returned (.bool false)) σ) (Br ((122 : Int) < ((UInt8.toNat ZU : Nat) : Int)) (R (.returned (.bool false)) σ) (AM (x3 + 1) ∧ JV R s0 (x3 + 1) σ))) (AM (x3 + 1) ∧ JV R s0 (x3 + 1) σ))) (AM (x3 + 1) ∧ JV R s0 (x3 + 1) σ))) (AM (x3 + 1) ∧ JV R s0 (x3 + 1) σ)) (R (.returned (.bool true)) σ)) : JV R s0 x3 σ := M.of h ok rfl
end FE
namespace Ak
variable {s0 : ByteArray} {x3 x4 x5 x6 : Int}
def M : Fw := ⟨prog, 99, f99, [], [], false, [], [], [(220, [(0, wT), (3, wI)]), (894, [(0, wT), (3, wI), (4, wI), (5, w8), (6, w8)]), (7164, [(0, wT), (3, wI), (4, wI), (5, w8), (6, w8)])]⟩
theorem ok : M.Ok := ⟨AG.nil, mixed, func99, by kernel_rfl⟩
def CN := M.pt 0
def G3 := M.pt 1
def kZ := M.pt 2
theorem start (h : CN R s0 0 σ) : Spec prog 99 #[.string s0] σ R := M.start h ok
theorem BH (h : Br (x3 = ((ByteArray.size s0 : Nat) : Int)) (R (.returned (.bool true)) σ) (∃ LL : UInt8, 0 ≤ x3 ∧ (ByteArray.data s0)[Int.toNat x3]? = some LL ∧ Br ((((UInt8.toNat LL : Nat) : Int) : Int) < 128) (AM (x3 + 1) ∧ CN R s0 (x3 + 1) σ) (Br ((194 : Int) ≤ ((UInt8.toNat LL : Nat) : Int)) (Br ((((UInt8.toNat LL : Nat) : Int) : Int) ≤ 223) (G3 R s0 x3 1 128 191 σ) (Br ((224 : Int) ≤ ((UInt8.toNat LL : Nat) : Int)) (Br ((((UInt8.toNat LL : Nat) : Int) : Int) ≤ 239) (Br ((((UInt8.toNat LL : Nat) : Int) : Int) = 224) (G3 R s0 x3 2 160 191 σ) (Br ((((UInt8.toNat LL : Nat) : Int) : Int) = 237) (G3 R s0 x3 2 128 159 σ) (G3 R s0 x3 2 128 191 σ))) (Br ((240 : Int) ≤ ((UInt8.toNat LL : Nat) : Int)) (Br ((((UInt8.toNat LL : Nat) : Int) : Int) ≤ 244) (Br ((((UInt8.toNat LL : Nat) : Int) : Int) = 240) (G3 R s0 x3 3 144 191 σ) (Br ((((UInt8.toNat LL : Nat) : Int) : Int) = 244) (G3 R s0 x3 3 128 143 σ) (G3 R s0 x3 3 128 191 σ))) (R (.returned (.bool false)) σ)) (R (.returned (.bool false)) σ))) (Br ((240 : Int) ≤ ((UInt8.toNat LL : Nat) : Int)) (Br ((((UInt8.toNat LL : Nat) : Int) : Int) ≤ 244) (Br ((((UInt8.toNat LL : Nat) : Int) : Int) = 240) (G3 R s0 x3 3 144 191 σ) (Br ((((UInt8.toNat LL : Nat) : Int) : Int) = 244) (G3 R s0 x3 3 128 143 σ) (G3 R s0 x3 3 128 191 σ))) (R (.returned (.bool false)) σ)) (R (.returned (.bool false)) σ)))) (Br ((224 : Int) ≤ ((UInt8.toNat LL : Nat) : Int)) (Br ((((UInt8.toNat LL : Nat) : Int) : Int) ≤ 239) (Br ((((UInt8.toNat LL : Nat) : Int) : Int) = 224) (G3 R s0 x3 2 160 191 σ) (Br ((((UInt8.toNat LL : Nat) : Int) : Int) = 237) (G3 R s0 x3 2 128 159 σ) (G3 R s0 x3 2 128 191 σ))) (Br ((240 : Int) ≤ ((UInt8.toNat LL : Nat) : Int)) (Br ((((UInt8.toNat LL : Nat) : Int) : Int) ≤ 244) (Br ((((UInt8.toNat LL : Nat) : Int) : Int) = 240) (G3 R s0 x3 3 144 191 σ) (Br ((((UInt8.toNat LL : Nat) : Int) : Int) = 244) (G3 R s0 x3 3 128 143 σ) (G3 R s0 x3 3 128 191 σ))) (R (.returned (.bool false)) σ)) (R (.returned (.bool false)) σ))) (Br ((240 : Int) ≤ ((UInt8.toNat LL : Nat) : Int)) (Br ((((UInt8.toNat LL : Nat) : Int) : Int) ≤ 244) (Br ((((UInt8.toNat LL : Nat) : Int) : Int) = 240) (G3 R s0 x3 3 144 191 σ) (Br ((((UInt8.toNat LL : Nat) : Int) : Int) = 244) (G3 R s0 x3 3 128 143 σ) (G3 R s0 x3 3 128 191 σ))) (R (.returned (.bool false)) σ)) (R (.returned (.bool false)) σ)))))) : CN R s0 x3 σ := M.of h ok rfl
theorem qf (h : AM (x3 + 1) ∧ kZ R s0 (x3 + 1) x4 x5 x6 σ) : G3 R s0 x3 x4 x5 x6 σ := M.of h ok rfl
theorem dY (h : Br (x4 = 0) (CN R s0 x3 σ) (Br (x3 = ((ByteArray.size s0 : Nat) : Int)) (R (.returned (.bool false)) σ) (∃ u60 : UInt8, 0 ≤ x3 ∧ (ByteArray.data s0)[Int.toNat x3]? = some u60 ∧ Br ((((UInt8.toNat u60 : Nat) : Int) : Int) < x5) (R (.returned (.bool false)) σ) (∃ u67 : UInt8, 0 ≤ x3 ∧ (ByteArray.data s0)[Int.toNat x3]? = some u67 ∧ Br (x6 < ((UInt8.toNat u67 : Nat) : Int)) (R (.returned (.bool false)) σ) (AM (x4 - 1) ∧ AM (x3 + 1) ∧ kZ R s0 (x3 + 1) (x4 - 1) 128 191 σ))))) : kZ R s0 x3 x4 x5 x6 σ := M.of h ok rfl
end Ak
namespace C6
variable {q0 Db Dl p2 : Option Addr} {DX CP DY Dc C3 CU : Int} {DZ : ByteArray} {Dd De Dg Dm n2 c2 : Nat} {C4 : Bool}
def M : Fw := ⟨prog, 105, f105, [128, 156, 157, 160, 161], [6], false, [(1, 9, false)], [], []⟩
theorem ok : M.Ok := ⟨.cons call128 (.cons call156 (.cons call157 (.cons call160 (.cons call161 (AG.nil))))), mixed, func105, by kernel_rfl⟩
theorem start (h : Al σ fun b4 => ∀ b6 : Nat, Pq p2 fun DG ib => In 0 (n2 : Int) ∧ ∃ GD TU xi xj xk xl xn xo, Av (Hp.set σ b4 (.cells #[.int .i64 DX, .int .i64 CP, .string DZ, .slice Db Dd De, .int .i64 DY, .int .i64 Dc, .int .i64 C3, .slice Dl Dg Dm, .bool C4, .int .i64 CU] 36 (0, 0))) DG ib [.int .i64 GD, .int .u64 TU, .slice xi xj xk, .slice xl xn xo] ∧ In 1 (n2 : Int) ∧ ∃ Q2 W9 xp xq xr fX fY fZ, Av (Hp.set σ b4 (.cells #[.int .i64 DX, .int .i64 CP, .string DZ, .slice Db Dd De, .int .i64 DY, .int .i64 Dc, .int .i64 C3, .slice Dl Dg Dm, .bool C4, .int .i64 CU] 36 (0, 0))) DG (ib + 4) [.int .i64 Q2, .int .u64 W9, .slice xp xq xr, .slice fX fY fZ] ∧ (Al (Hp.set σ b4 (.cells #[.int .i64 DX, .int .i64 CP, .string DZ, .slice Db Dd De, .int .i64 DY, .int .i64 Dc, .int .i64 C3, .slice Dl Dg Dm, .bool C4, .int .i64 CU] 36 (0, 0))) fun b8 => Al (Hp.set (Hp.set σ b4 (.cells #[.int .i64 DX, .int .i64 CP, .string DZ, .slice Db Dd De, .int .i64 DY, .int .i64 Dc, .int .i64 C3, .slice Dl Dg Dm, .bool C4, .int .i64 CU] 36 (0, 0))) b8 (.cells #[.int .i64 0, .int .u64 0, .slice none 0 0, .slice none 0 0] 93 (0, 0))) fun b9 => AJ prog (Instr.storeAt 93 (.pointer (aD b8 0)) (.agg #[.int .i64 GD, .int .u64 TU, .slice xi xj xk, .slice xl xn xo])) (Hp.set (Hp.set (Hp.set σ b4 (.cells #[.int .i64 DX, .int .i64 CP, .string DZ, .slice Db Dd De, .int .i64 DY, .int .i64 Dc, .int .i64 C3, .slice Dl Dg Dm, .bool C4, .int .i64 CU] 36 (0, 0))) b8 (.cells #[.int .i64 0, .int .u64 0, .slice none 0 0, .slice none 0 0] 93 (0, 0))) b9 (.cells #[.int .i64 0, .int .u64 0, .slice none 0 0, .slice none 0 0] 93 (0, 0))) (fun _ y => Kp [DG] (Hp.set (Hp.set (Hp.set σ b4 (.cells #[.int .i64 DX, .int .i64 CP, .string DZ, .slice Db Dd De, .int .i64 DY, .int .i64 Dc, .int .i64 C3, .slice Dl Dg Dm, .bool C4, .int .i64 CU] 36 (0, 0))) b8 (.cells #[.int .i64 0, .int .u64 0, .slice none 0 0, .slice none 0 0] 93 (0, 0))) b9 (.cells #[.int .i64 0, .int .u64 0, .slice none 0 0, .slice none 0 0] 93 (0, 0))) y ∧ AJ prog (Instr.storeAt 93 (.pointer (aD b9 0)) (.agg #[.int .i64 Q2, .int .u64 W9, .slice xp xq xr, .slice fX fY fZ])) y (fun _ AF => LI .i64 AF b8 0 fun HY => Br (HY = 1) (LI .i64 AF b9 0 fun JF => Br (JF = 1) (∃ XY RD ka kc ke kg kh ki kj kl ko kr ks kt, Av AF b4 0 [.int .i64 XY, .int .i64 RD, .string ka, .slice kc ke kg, .int .i64 kh, .int .i64 ki, .int .i64 kj, .slice kl ko kr, .bool ks, .int .i64 kt] ∧ LI .u64 AF b8 1 fun UM => LI .u64 AF b9 1 fun ku => Spec prog 156 #[.agg #[.int .i64 XY, .int .i64 RD, .string ka, .slice kc ke kg, .int .i64 kh, .int .i64 ki, .int .i64 kj, .slice kl ko kr, .bool ks, .int .i64 kt], .int .u64 UM, .int .u64 ku] AF (AA R (fun z AH => ∃ XZ kv, z = (.tuple #[.int .u64 XZ, .bool kv]) ∧ R (.returned (.tuple #[.agg #[.int .i64 1, .int .u64 XZ, .slice none 0 0, .slice none 0 0], .int .i64 0])) AH))) (LI .i64 AF b8 0 fun oy => Br (oy = 1) (∃ ON Li OO RG RH RI RJ RL RM RN RO RP RQ RR, Av AF b4 0 [.int .i64 ON, .int .i64 Li, .string OO, .slice RG RH RI, .int .i64 RJ, .int .i64 RL, .int .i64 RM, .slice RN RO RP, .bool RQ, .int .i64 RR] ∧ LS AF b9 2 fun xt n45 xu => Spec prog 157 #[.pointer q0, .agg #[.int .i64 ON, .int .i64 Li, .string OO, .slice RG RH RI, .int .i64 RJ, .int .i64 RL, .int .i64 RM, .slice RN RO RP, .bool RQ, .int .i64 RR], .slice xt n45 xu, (.func (.func 158) #[] #[(.pointer (aD b4 0)), (.pointer (aD b8 0))])] AF (AA R (fun z AH => ∃ Jy Jz J0 J1 J2 J3 J4 J5 RS, z = (.tuple #[.agg #[.int .i64 Jy, .int .u64 Jz, .slice J0 J1 J2, .slice J3 J4 J5], .int .i64 RS]) ∧ R (.returned (.tuple #[.agg #[.int .i64 Jy, .int .u64 Jz, .slice J0 J1 J2, .slice J3 J4 J5], .int .i64 RS])) AH))) (LI .i64 AF b9 0 fun qg => Br (qg = 1) (∃ RT M4 RU RV RW RX RY RZ Ra Rb Rc Re Rf Rh, Av AF b4 0 [.int .i64 RT, .int .i64 M4, .string RU, .slice RV RW RX, .int .i64 RY, .int .i64 RZ, .int .i64 Ra, .slice Rb Rc Re, .bool Rf, .int .i64 Rh] ∧ LS AF b8 2 fun xv n57 xw => Spec prog 157 #[.pointer q0, .agg #[.int .i64 RT, .int .i64 M4, .string RU, .slice RV RW RX, .int .i64 RY, .int .i64 RZ, .int .i64 Ra, .slice Rb Rc Re, .bool Rf, .int .i64 Rh], .slice xv n57 xw, (.func (.func 159) #[] #[(.pointer (aD b4 0)), (.pointer (aD b9 0))])] AF (AA R (fun z AH => ∃ J6 J7 J8 J9 KA KB KC KD HZ, z = (.tuple #[.agg #[.int .i64 J6, .int .u64 J7, .slice J8 J9 KA, .slice KB KC KD], .int .i64 HZ]) ∧ R (.returned (.tuple #[.agg #[.int .i64 J6, .int .u64 J7, .slice J8 J9 KA, .slice KB KC KD], .int .i64 HZ])) AH))) (LI .i64 AF b4 1 fun xx => Spec prog 128 #[.int .i64 xx] AF (AA R (CB fun t65 AH => Bo t65 (∃ KE KF KG KH KI KJ KK KL KM KN KO KQ KR KS, Av AH b4 0 [.int .i64 KE, .int .i64 KF, .string KG, .slice KH KI KJ, .int .i64 KK, .int .i64 KL, .int .i64 KM, .slice KN KO KQ, .bool KR, .int .i64 KS] ∧ LS AH b8 2 fun qh n69 qi => LS AH b9 2 fun xy yA yB => Spec prog 160 #[.pointer q0, .agg #[.int .i64 KE, .int .i64 KF, .string KG, .slice KH KI KJ, .int .i64 KK, .int .i64 KL, .int .i64 KM, .slice KN KO KQ, .bool KR, .int .i64 KS], .slice qh n69 qi, .slice xy yA yB] AH (AA R (fun z Aa => ∃ KT KU KV KW KX KY KZ Ka Jm, z = (.tuple #[.agg #[.int .i64 KT, .int .u64 KU, .slice KV KW KX, .slice KY KZ Ka], .int .i64 Jm]) ∧ R (.returned (.tuple #[.agg #[.int .i64 KT, .int .u64 KU, .slice KV KW KX, .slice KY KZ Ka], .int .i64 Jm])) Aa))) (∃ Ri Rj Rk Rl Rm Rn Ro Rp Rq Rt Ru Rv Rx Ry, Av AH b4 0 [.int .i64 Ri, .int .i64 Rj, .string Rk, .slice Rl Rm Rn, .int .i64 Ro, .int .i64 Rp, .int .i64 Rq, .slice Rt Ru Rv, .bool Rx, .int .i64 Ry] ∧ LS AH b8 2 fun oz kx o0 => LS AH b9 2 fun yC yD yE => Spec prog 161 #[.pointer q0, .agg #[.int .i64 Ri, .int .i64 Rj, .string Rk, .slice Rl Rm Rn, .int .i64 Ro, .int .i64 Rp, .int .i64 Rq, .slice Rt Ru Rv, .bool Rx, .int .i64 Ry], .slice oz kx o0, .slice yC yD yE] AH (AA R (fun z Aa => ∃ Kb Kc Kd Ke Kf Kg Kh Ki Rz, z = (.tuple #[.agg #[.int .i64 Kb, .int .u64 Kc, .slice Kd Ke Kf, .slice Kg Kh Ki], .int .i64 Rz]) ∧ R (.returned (.tuple #[.agg #[.int .i64 Kb, .int .u64 Kc, .slice Kd Ke Kf, .slice Kg Kh Ki], .int .i64 Rz])) Aa))))))))) (LI .i64 AF b8 0 fun oy => Br (oy = 1) (∃ ON Li OO RG RH RI RJ RL RM RN RO RP RQ RR, Av AF b4 0 [.int .i64 ON, .int .i64 Li, .string OO, .slice RG RH RI, .int .i64 RJ, .int .i64 RL, .int .i64 RM, .slice RN RO RP, .bool RQ, .int .i64 RR] ∧ LS AF b9 2 fun xt n45 xu => Spec prog 157 #[.pointer q0, .agg #[.int .i64 ON, .int .i64 Li, .string OO, .slice RG RH RI, .int .i64 RJ, .int .i64 RL, .int .i64 RM, .slice RN RO RP, .bool RQ, .int .i64 RR], .slice xt n45 xu, (.func (.func 158) #[] #[(.pointer (aD b4 0)), (.pointer (aD b8 0))])] AF (AA R (fun z AH => ∃ Jy Jz J0 J1 J2 J3 J4 J5 RS, z = (.tuple #[.agg #[.int .i64 Jy, .int .u64 Jz, .slice J0 J1 J2, .slice J3 J4 J5], .int .i64 RS]) ∧ R (.returned (.tuple #[.agg #[.int .i64 Jy, .int .u64 Jz, .slice J0 J1 J2, .slice J3 J4 J5], .int .i64 RS])) AH))) (LI .i64 AF b9 0 fun qg => Br (qg = 1) (∃ RT M4 RU RV RW RX RY RZ Ra Rb Rc Re Rf Rh, Av AF b4 0 [.int .i64 RT, .int .i64 M4, .string RU, .slice RV RW RX, .int .i64 RY, .int .i64 RZ, .int .i64 Ra, .slice Rb Rc Re, .bool Rf, .int .i64 Rh] ∧ LS AF b8 2 fun xv n57 xw => Spec prog 157 #[.pointer q0, .agg #[.int .i64 RT, .int .i64 M4, .string RU, .slice RV RW RX, .int .i64 RY, .int .i64 RZ, .int .i64 Ra, .slice Rb Rc Re, .bool Rf, .int .i64 Rh], .slice xv n57 xw, (.func (.func 159) #[] #[(.pointer (aD b4 0)), (.pointer (aD b9 0))])] AF (AA R (fun z AH => ∃ J6 J7 J8 J9 KA KB KC KD HZ, z = (.tuple #[.agg #[.int .i64 J6, .int .u64 J7, .slice J8 J9 KA, .slice KB KC KD], .int .i64 HZ]) ∧ R (.returned (.tuple #[.agg #[.int .i64 J6, .int .u64 J7, .slice J8 J9 KA, .slice KB KC KD], .int .i64 HZ])) AH))) (LI .i64 AF b4 1 fun xx => Spec prog 128 #[.int .i64 xx] AF (AA R (CB fun t65 AH => Bo t65 (∃ KE KF KG KH KI KJ KK KL KM KN KO KQ KR KS, Av AH b4 0 [.int .i64 KE, .int .i64 KF, .string KG, .slice KH KI KJ, .int .i64 KK, .int .i64 KL, .int .i64 KM, .slice KN KO KQ, .bool KR, .int .i64 KS] ∧ LS AH b8 2 fun qh n69 qi => LS AH b9 2 fun xy yA yB => Spec prog 160 #[.pointer q0, .agg #[.int .i64 KE, .int .i64 KF, .string KG, .slice KH KI KJ, .int .i64 KK, .int .i64 KL, .int .i64 KM, .slice KN KO KQ, .bool KR, .int .i64 KS], .slice qh n69 qi, .slice xy yA yB] AH (AA R (fun z Aa => ∃ KT KU KV KW KX KY KZ Ka Jm, z = (.tuple #[.agg #[.int .i64 KT, .int .u64 KU, .slice KV KW KX, .slice KY KZ Ka], .int .i64 Jm]) ∧ R (.returned (.tuple #[.agg #[.int .i64 KT, .int .u64 KU, .slice KV KW KX, .slice KY KZ Ka], .int .i64 Jm])) Aa))) (∃ Ri Rj Rk Rl Rm Rn Ro Rp Rq Rt Ru Rv Rx Ry, Av AH b4 0 [.int .i64 Ri, .int .i64 Rj, .string Rk, .slice Rl Rm Rn, .int .i64 Ro, .int .i64 Rp, .int .i64 Rq, .slice Rt Ru Rv, .bool Rx, .int .i64 Ry] ∧ LS AH b8 2 fun oz kx o0 => LS AH b9 2 fun yC yD yE => Spec prog 161 #[.pointer q0, .agg #[.int .i64 Ri, .int .i64 Rj, .string Rk, .slice Rl Rm Rn, .int .i64 Ro, .int .i64 Rp, .int .i64 Rq, .slice Rt Ru Rv, .bool Rx, .int .i64 Ry], .slice oz kx o0, .slice yC yD yE] AH (AA R (fun z Aa => ∃ Kb Kc Kd Ke Kf Kg Kh Ki Rz, z = (.tuple #[.agg #[.int .i64 Kb, .int .u64 Kc, .slice Kd Ke Kf, .slice Kg Kh Ki], .int .i64 Rz]) ∧ R (.returned (.tuple #[.agg #[.int .i64 Kb, .int .u64 Kc, .slice Kd Ke Kf, .slice Kg Kh Ki], .int .i64 Rz])) Aa))))))))))) ∧ (Al (Hp.set σ b4 (.cells #[.int .i64 DX, .int .i64 CP, .string DZ, .slice Db Dd De, .int .i64 DY, .int .i64 Dc, .int .i64 C3, .slice Dl Dg Dm, .bool C4, .int .i64 CU] 36 (0, 0))) fun b9 => Al (Hp.set (Hp.set σ b4 (.cells #[.int .i64 DX, .int .i64 CP, .string DZ, .slice Db Dd De, .int .i64 DY, .int .i64 Dc, .int .i64 C3, .slice Dl Dg Dm, .bool C4, .int .i64 CU] 36 (0, 0))) b9 (.cells #[.int .i64 0, .int .u64 0, .slice none 0 0, .slice none 0 0] 93 (0, 0))) fun b8 => AJ prog (Instr.storeAt 93 (.pointer (aD b8 0)) (.agg #[.int .i64 GD, .int .u64 TU, .slice xi xj xk, .slice xl xn xo])) (Hp.set (Hp.set (Hp.set σ b4 (.cells #[.int .i64 DX, .int .i64 CP, .string DZ, .slice Db Dd De, .int .i64 DY, .int .i64 Dc, .int .i64 C3, .slice Dl Dg Dm, .bool C4, .int .i64 CU] 36 (0, 0))) b9 (.cells #[.int .i64 0, .int .u64 0, .slice none 0 0, .slice none 0 0] 93 (0, 0))) b8 (.cells #[.int .i64 0, .int .u64 0, .slice none 0 0, .slice none 0 0] 93 (0, 0))) (fun _ y => Kp [DG] (Hp.set (Hp.set (Hp.set σ b4 (.cells #[.int .i64 DX, .int .i64 CP, .string DZ, .slice Db Dd De, .int .i64 DY, .int .i64 Dc, .int .i64 C3, .slice Dl Dg Dm, .bool C4, .int .i64 CU] 36 (0, 0))) b9 (.cells #[.int .i64 0, .int .u64 0, .slice none 0 0, .slice none 0 0] 93 (0, 0))) b8 (.cells #[.int .i64 0, .int .u64 0, .slice none 0 0, .slice none 0 0] 93 (0, 0))) y ∧ AJ prog (Instr.storeAt 93 (.pointer (aD b9 0)) (.agg #[.int .i64 Q2, .int .u64 W9, .slice xp xq xr, .slice fX fY fZ])) y (fun _ AF => LI .i64 AF b8 0 fun HY => Br (HY = 1) (LI .i64 AF b9 0 fun JF => Br (JF = 1) (∃ XY RD ka kc ke kg kh ki kj kl ko kr ks kt, Av AF b4 0 [.int .i64 XY, .int .i64 RD, .string ka, .slice kc ke kg, .int .i64 kh, .int .i64 ki, .int .i64 kj, .slice kl ko kr, .bool ks, .int .i64 kt] ∧ LI .u64 AF b8 1 fun UM => LI .u64 AF b9 1 fun ku => Spec prog 156 #[.agg #[.int .i64 XY, .int .i64 RD, .string ka, .slice kc ke kg, .int .i64 kh, .int .i64 ki, .int .i64 kj, .slice kl ko kr, .bool ks, .int .i64 kt], .int .u64 UM, .int .u64 ku] AF (AA R (fun z AH => ∃ XZ kv, z = (.tuple #[.int .u64 XZ, .bool kv]) ∧ R (.returned (.tuple #[.agg #[.int .i64 1, .int .u64 XZ, .slice none 0 0, .slice none 0 0], .int .i64 0])) AH))) (LI .i64 AF b8 0 fun oy => Br (oy = 1) (∃ ON Li OO RG RH RI RJ RL RM RN RO RP RQ RR, Av AF b4 0 [.int .i64 ON, .int .i64 Li, .string OO, .slice RG RH RI, .int .i64 RJ, .int .i64 RL, .int .i64 RM, .slice RN RO RP, .bool RQ, .int .i64 RR] ∧ LS AF b9 2 fun xt n45 xu => Spec prog 157 #[.pointer q0, .agg #[.int .i64 ON, .int .i64 Li, .string OO, .slice RG RH RI, .int .i64 RJ, .int .i64 RL, .int .i64 RM, .slice RN RO RP, .bool RQ, .int .i64 RR], .slice xt n45 xu, (.func (.func 158) #[] #[(.pointer (aD b4 0)), (.pointer (aD b8 0))])] AF (AA R (fun z AH => ∃ Jy Jz J0 J1 J2 J3 J4 J5 RS, z = (.tuple #[.agg #[.int .i64 Jy, .int .u64 Jz, .slice J0 J1 J2, .slice J3 J4 J5], .int .i64 RS]) ∧ R (.returned (.tuple #[.agg #[.int .i64 Jy, .int .u64 Jz, .slice J0 J1 J2, .slice J3 J4 J5], .int .i64 RS])) AH))) (LI .i64 AF b9 0 fun qg => Br (qg = 1) (∃ RT M4 RU RV RW RX RY RZ Ra Rb Rc Re Rf Rh, Av AF b4 0 [.int .i64 RT, .int .i64 M4, .string RU, .slice RV RW RX, .int .i64 RY, .int .i64 RZ, .int .i64 Ra, .slice Rb Rc Re, .bool Rf, .int .i64 Rh] ∧ LS AF b8 2 fun xv n57 xw => Spec prog 157 #[.pointer q0, .agg #[.int .i64 RT, .int .i64 M4, .string RU, .slice RV RW RX, .int .i64 RY, .int .i64 RZ, .int .i64 Ra, .slice Rb Rc Re, .bool Rf, .int .i64 Rh], .slice xv n57 xw, (.func (.func 159) #[] #[(.pointer (aD b4 0)), (.pointer (aD b9 0))])] AF (AA R (fun z AH => ∃ J6 J7 J8 J9 KA KB KC KD HZ, z = (.tuple #[.agg #[.int .i64 J6, .int .u64 J7, .slice J8 J9 KA, .slice KB KC KD], .int .i64 HZ]) ∧ R (.returned (.tuple #[.agg #[.int .i64 J6, .int .u64 J7, .slice J8 J9 KA, .slice KB KC KD], .int .i64 HZ])) AH))) (LI .i64 AF b4 1 fun xx => Spec prog 128 #[.int .i64 xx] AF (AA R (CB fun t65 AH => Bo t65 (∃ KE KF KG KH KI KJ KK KL KM KN KO KQ KR KS, Av AH b4 0 [.int .i64 KE, .int .i64 KF, .string KG, .slice KH KI KJ, .int .i64 KK, .int .i64 KL, .int .i64 KM, .slice KN KO KQ, .bool KR, .int .i64 KS] ∧ LS AH b8 2 fun qh n69 qi => LS AH b9 2 fun xy yA yB => Spec prog 160 #[.pointer q0, .agg #[.int .i64 KE, .int .i64 KF, .string KG, .slice KH KI KJ, .int .i64 KK, .int .i64 KL, .int .i64 KM, .slice KN KO KQ, .bool KR, .int .i64 KS], .slice qh n69 qi, .slice xy yA yB] AH (AA R (fun z Aa => ∃ KT KU KV KW KX KY KZ Ka Jm, z = (.tuple #[.agg #[.int .i64 KT, .int .u64 KU, .slice KV KW KX, .slice KY KZ Ka], .int .i64 Jm]) ∧ R (.returned (.tuple #[.agg #[.int .i64 KT, .int .u64 KU, .slice KV KW KX, .slice KY KZ Ka], .int .i64 Jm])) Aa))) (∃ Ri Rj Rk Rl Rm Rn Ro Rp Rq Rt Ru Rv Rx Ry, Av AH b4 0 [.int .i64 Ri, .int .i64 Rj, .string Rk, .slice Rl Rm Rn, .int .i64 Ro, .int .i64 Rp, .int .i64 Rq, .slice Rt Ru Rv, .bool Rx, .int .i64 Ry] ∧ LS AH b8 2 fun oz kx o0 => LS AH b9 2 fun yC yD yE => Spec prog 161 #[.pointer q0, .agg #[.int .i64 Ri, .int .i64 Rj, .string Rk, .slice Rl Rm Rn, .int .i64 Ro, .int .i64 Rp, .int .i64 Rq, .slice Rt Ru Rv, .bool Rx, .int .i64 Ry], .slice oz kx o0, .slice yC yD yE] AH (AA R (fun z Aa => ∃ Kb Kc Kd Ke Kf Kg Kh Ki Rz, z = (.tuple #[.agg #[.int .i64 Kb, .int .u64 Kc, .slice Kd Ke Kf, .slice Kg Kh Ki], .int .i64 Rz]) ∧ R (.returned (.tuple #[.agg #[.int .i64 Kb, .int .u64 Kc, .slice Kd Ke Kf, .slice Kg Kh Ki], .int .i64 Rz])) Aa))))))))) (LI .i64 AF b8 0 fun oy => Br (oy = 1) (∃ ON Li OO RG RH RI RJ RL RM RN RO RP RQ RR, Av AF b4 0 [.int .i64 ON, .int .i64 Li, .string OO, .slice RG RH RI, .int .i64 RJ, .int .i64 RL, .int .i64 RM, .slice RN RO RP, .bool RQ, .int .i64 RR] ∧ LS AF b9 2 fun xt n45 xu => Spec prog 157 #[.pointer q0, .agg #[.int .i64 ON, .int .i64 Li, .string OO, .slice RG RH RI, .int .i64 RJ, .int .i64 RL, .int .i64 RM, .slice RN RO RP, .bool RQ, .int .i64 RR], .slice xt n45 xu, (.func (.func 158) #[] #[(.pointer (aD b4 0)), (.pointer (aD b8 0))])] AF (AA R (fun z AH => ∃ Jy Jz J0 J1 J2 J3 J4 J5 RS, z = (.tuple #[.agg #[.int .i64 Jy, .int .u64 Jz, .slice J0 J1 J2, .slice J3 J4 J5], .int .i64 RS]) ∧ R (.returned (.tuple #[.agg #[.int .i64 Jy, .int .u64 Jz, .slice J0 J1 J2, .slice J3 J4 J5], .int .i64 RS])) AH))) (LI .i64 AF b9 0 fun qg => Br (qg = 1) (∃ RT M4 RU RV RW RX RY RZ Ra Rb Rc Re Rf Rh, Av AF b4 0 [.int .i64 RT, .int .i64 M4, .string RU, .slice RV RW RX, .int .i64 RY, .int .i64 RZ, .int .i64 Ra, .slice Rb Rc Re, .bool Rf, .int .i64 Rh] ∧ LS AF b8 2 fun xv n57 xw => Spec prog 157 #[.pointer q0, .agg #[.int .i64 RT, .int .i64 M4, .string RU, .slice RV RW RX, .int .i64 RY, .int .i64 RZ, .int .i64 Ra, .slice Rb Rc Re, .bool Rf, .int .i64 Rh], .slice xv n57 xw, (.func (.func 159) #[] #[(.pointer (aD b4 0)), (.pointer (aD b9 0))])] AF (AA R (fun z AH => ∃ J6 J7 J8 J9 KA KB KC KD HZ, z = (.tuple #[.agg #[.int .i64 J6, .int .u64 J7, .slice J8 J9 KA, .slice KB KC KD], .int .i64 HZ]) ∧ R (.returned (.tuple #[.agg #[.int .i64 J6, .int .u64 J7, .slice J8 J9 KA, .slice KB KC KD], .int .i64 HZ])) AH))) (LI .i64 AF b4 1 fun xx => Spec prog 128 #[.int .i64 xx] AF (AA R (CB fun t65 AH => Bo t65 (∃ KE KF KG KH KI KJ KK KL KM KN KO KQ KR KS, Av AH b4 0 [.int .i64 KE, .int .i64 KF, .string KG, .slice KH KI KJ, .int .i64 KK, .int .i64 KL, .int .i64 KM, .slice KN KO KQ, .bool KR, .int .i64 KS] ∧ LS AH b8 2 fun qh n69 qi => LS AH b9 2 fun xy yA yB => Spec prog 160 #[.pointer q0, .agg #[.int .i64 KE, .int .i64 KF, .string KG, .slice KH KI KJ, .int .i64 KK, .int .i64 KL, .int .i64 KM, .slice KN KO KQ, .bool KR, .int .i64 KS], .slice qh n69 qi, .slice xy yA yB] AH (AA R (fun z Aa => ∃ KT KU KV KW KX KY KZ Ka Jm, z = (.tuple #[.agg #[.int .i64 KT, .int .u64 KU, .slice KV KW KX, .slice KY KZ Ka], .int .i64 Jm]) ∧ R (.returned (.tuple #[.agg #[.int .i64 KT, .int .u64 KU, .slice KV KW KX, .slice KY KZ Ka], .int .i64 Jm])) Aa))) (∃ Ri Rj Rk Rl Rm Rn Ro Rp Rq Rt Ru Rv Rx Ry, Av AH b4 0 [.int .i64 Ri, .int .i64 Rj, .string Rk, .slice Rl Rm Rn, .int .i64 Ro, .int .i64 Rp, .int .i64 Rq, .slice Rt Ru Rv, .bool Rx, .int .i64 Ry] ∧ LS AH b8 2 fun oz kx o0 => LS AH b9 2 fun yC yD yE => Spec prog 161 #[.pointer q0, .agg #[.int .i64 Ri, .int .i64 Rj, .string Rk, .slice Rl Rm Rn, .int .i64 Ro, .int .i64 Rp, .int .i64 Rq, .slice Rt Ru Rv, .bool Rx, .int .i64 Ry], .slice oz kx o0, .slice yC yD yE] AH (AA R (fun z Aa => ∃ Kb Kc Kd Ke Kf Kg Kh Ki Rz, z = (.tuple #[.agg #[.int .i64 Kb, .int .u64 Kc, .slice Kd Ke Kf, .slice Kg Kh Ki], .int .i64 Rz]) ∧ R (.returned (.tuple #[.agg #[.int .i64 Kb, .int .u64 Kc, .slice Kd Ke Kf, .slice Kg Kh Ki], .int .i64 Rz])) Aa)))))))))))) : Spec prog 105 #[.pointer q0, .agg #[.int .i64 DX, .int .i64 CP, .string DZ, .slice Db Dd De, .int .i64 DY, .int .i64 Dc, .int .i64 C3, .slice Dl Dg Dm, .bool C4, .int .i64 CU], .slice p2 n2 c2] σ R := M.start h ok
end C6
namespace Gh
variable {s0 : ByteArray} {x3 : Int}
def M : Fw := ⟨prog, 131, f131, [90], [], false, [], [], [(224, [(0, wT), (3, wI)])]⟩
theorem ok : M.Ok := ⟨.cons call90 (AG.nil), mixed, func131, by kernel_rfl⟩
def GN := M.pt 0
theorem start (h : GN R s0 0 σ) : Spec prog 131 #[.string s0] σ R := M.start h ok
theorem A5 (h : Br (x3 < ((ByteArray.size s0 : Nat) : Int)) (∃ u11 : UInt8, 0 ≤ x3 ∧ (ByteArray.data s0)[Int.toNat x3]? = some u11 ∧ Spec prog 90 #[(.int .u8 ((UInt8.toNat u11 : Nat) : Int))] σ (AA R (CB fun t12 y => Bo t12 (AM (x3 + 1) ∧ GN R s0 (x3 + 1) y) (R (.returned (.int .i64 x3)) y)))) (R (.returned (.int .i64 x3)) σ)) : GN R s0 x3 σ := M.of h ok rfl
end Gh
namespace DK
variable {q0 : Option Addr}
def M : Fw := ⟨prog, 139, f139, [95], [], false, [], [], []⟩
theorem ok : M.Ok := ⟨.cons call95 (AG.nil), mixed, func139, by kernel_rfl⟩
theorem start (h : Spec prog 95 #[.pointer q0, (.func (.func 171) #[.pointer q0] #[]), .int .i64 5, .int .i64 10] σ (AA R (fun z y => z = (.tuple #[]) ∧ R (.returned (.tuple #[])) y))) : Spec prog 139 #[.pointer q0] σ R := M.start h ok
end DK
namespace CA
variable {s0 : ByteArray} {x1 : Int}
def M : Fw := ⟨prog, 169, f169, [], [], false, [], [], []⟩
theorem ok : M.Ok := ⟨AG.nil, mixed, func169, by kernel_rfl⟩
theorem start (h : EN prog 209 #[.string s0, .int .u8 x1] σ (CI .i64 fun x7 y => R (.returned (.int .i64 x7)) y)) : Spec prog 169 #[.string s0, .int .u8 x1] σ R := M.start h ok
end CA
namespace BD
variable {q0 p3 : Option Addr} {n3 c3 : Nat}
def M : Fw := ⟨prog, 170, f170, [135, 136, 210, 211], [], false, [], [], [(480, [(0, wQ), (3, wL)]), (965, [(0, wQ), (3, wL)])]⟩
theorem ok : M.Ok := ⟨.cons call135 (.cons call136 (.cons call210 (.cons call211 (AG.nil)))), mixed, func170, by kernel_rfl⟩
def CN := M.pt 0
def VL := M.pt 1
theorem start (h : Spec prog 210 #[.pointer q0, (.string (ByteArray.mk #[40]))] σ (AA R (fun z y => z = (.tuple #[]) ∧ CN R q0 none 0 0 y))) : Spec prog 170 #[.pointer q0] σ R := M.start h ok
theorem BH (h : Spec prog 136 #[.pointer q0, .int .i64 5, (.string (ByteArray.mk #[41]))] σ (AA R (CB fun t7 y => Bn t7 (Br (0 < (n3 : Int)) (Spec prog 210 #[.pointer q0, (.string (ByteArray.mk #[44]))] y (AA R (fun z AF => z = (.tuple #[]) ∧ VL R q0 p3 n3 c3 AF))) (VL R q0 p3 n3 c3 y)) (Spec prog 135 #[.pointer q0] y (AA R (fun z AF => ∃ H0 VP AJb AJc, z = (.agg #[.int .i64 H0, .int .i64 VP, .string AJb, .int .i64 AJc]) ∧ R (.returned (.slice p3 n3 c3)) AF)))))) : CN R q0 p3 n3 c3 σ := M.of h ok rfl
theorem QI (h : Spec prog 211 #[.pointer q0] σ (AA R (CT fun s16 y => Al y fun b17 => AJ prog (Builtin.append_ #[34, 34] 34 #[.slice p3 n3 c3, (.slice (aD b17 0) 1 1)]) (Hp.set y b17 (.cells #[.string s16] 9 (0, 0))) (CS fun p18 n18 c18 AF => CN R q0 p18 n18 c18 AF)))) : VL R q0 p3 n3 c3 σ := M.of h ok rfl
end BD
namespace DL
variable {p0 : Option Addr} {n0 c0 : Nat}
def M : Fw := ⟨prog, 185, f185, [186], [], false, [], [], []⟩
theorem ok : M.Ok := ⟨.cons call186 (AG.nil), mixed, func185, by kernel_rfl⟩
theorem start (h : AM ((n0 : Int) - 1) ∧ Pq p0 fun b7 o7 => In (((n0 : Int) - 1)) (n0 : Int) ∧ LI .u64 σ b7 (o7 + Int.toNat ((n0 : Int) - 1) * 1) fun x8 => Spec prog 186 #[.int .u64 x8] σ (AA R (CI .u64 fun x9 y => R (.returned (.int .u64 x9)) y))) : Spec prog 185 #[.slice p0 n0 c0] σ R := M.start h ok
end DL
namespace DM
variable {p0 p1 : Option Addr} {n0 c0 n1 c1 : Nat}
def M : Fw := ⟨prog, 189, f189, [190], [], false, [], [], []⟩
theorem ok : M.Ok := ⟨.cons call190 (AG.nil), mixed, func189, by kernel_rfl⟩
theorem start (h : AM ((n0 : Int) - 1) ∧ Pq p0 fun b9 o9 => In (((n0 : Int) - 1)) (n0 : Int) ∧ LI .u64 σ b9 (o9 + Int.toNat ((n0 : Int) - 1) * 1) fun x10 => In 0 (n0 : Int) ∧ LI .u64 σ b9 o9 fun E2 => Spec prog 190 #[.int .u64 x10, .int .u64 E2] σ (AA R (CI .u64 fun ZQ y => R (.returned (.int .u64 ZQ)) y))) : Spec prog 189 #[.slice p0 n0 c0, .slice p1 n1 c1] σ R := M.start h ok
end DM
namespace dZ
variable {Ev ET Pk M5 Hg JH : Int} {Pm : ByteArray} {UF Q7 p1 : Option Addr} {TV UG QH Q8 n1 c1 : Nat} {MR : Bool}
def M : Fw := ⟨prog, 207, f207, [146, 149, 150], [2], false, [], [], []⟩
theorem ok : M.Ok := ⟨.cons call146 (.cons call149 (.cons call150 (AG.nil))), mixed, func207, by kernel_rfl⟩
theorem start (h : ∀ b2 : Nat, Br (Hg = 3) (Spec prog 149 #[.slice p1 n1 c1, .slice Q7 QH Q8] σ (AA R (CS fun Hd n11 He y => R (.returned (.slice Hd n11 He)) y))) (Spec prog 150 #[.slice p1 n1 c1, .slice Q7 QH Q8] σ (AA R (CS fun TI n15 Ph y => Spec prog 146 #[.slice TI n15 Ph] y (AA R (CS fun aO n16 WJ AF => R (.returned (.slice aO n16 WJ)) AF)))))) : Spec prog 207 #[.agg #[.int .i64 Ev, .int .i64 ET, .string Pm, .slice UF TV UG, .int .i64 Pk, .int .i64 M5, .int .i64 Hg, .slice Q7 QH Q8, .bool MR, .int .i64 JH], .slice p1 n1 c1] σ R := M.start h ok
end dZ
namespace EY
variable {q0 : Option Addr}
def M : Fw := ⟨prog, 211, f211, [66, 67, 126, 135], [], false, [], [], [(14, [(0, wQ)])]⟩
theorem ok : M.Ok := ⟨.cons call66 (.cons call67 (.cons call126 (.cons call135 (AG.nil)))), mixed, func211, by kernel_rfl⟩
def GN := M.pt 0
theorem start (h : Spec prog 66 #[.pointer q0] σ (AA R (fun z y => ∃ Fo FU HH x4d, z = (.agg #[.int .i64 Fo, .int .i64 FU, .string HH, .int .i64 x4d]) ∧ Br (Fo ≠ 3) (Spec prog 67 #[.pointer q0] y (AA R (fun z AF => z = (.tuple #[]) ∧ GN R q0 AF))) (Spec prog 66 #[.pointer q0] y (AA R (fun z AF => ∃ x9a x9b s9c x9d, z = (.agg #[.int .i64 x9a, .int .i64 x9b, .string s9c, .int .i64 x9d]) ∧ Spec prog 126 #[.string s9c] AF (AA R (CB fun t11 AH => Bn t11 (Spec prog 67 #[.pointer q0] AH (AA R (fun z Aa => z = (.tuple #[]) ∧ GN R q0 Aa))) (GN R q0 AH))))))))) : Spec prog 211 #[.pointer q0] σ R := M.start h ok
theorem A5 (h : Spec prog 135 #[.pointer q0] σ (AA R (fun z y => ∃ Q2 W9 j6 AJd, z = (.agg #[.int .i64 Q2, .int .i64 W9, .string j6, .int .i64 AJd]) ∧ R (.returned (.string j6)) y))) : GN R q0 σ := M.of h ok rfl
end EY
namespace strings_Split
variable {s0 s1 : ByteArray}
end strings_Split
namespace FO
variable {p0 Db Dl p2 : Option Addr} {n0 c0 Dd De Dg Dm n2 c2 b3 : Nat} {DX CP DY Dc C3 CU : Int} {DZ : ByteArray} {C4 : Bool}
def M : Fw := ⟨prog, 224, f224, [], [5], false, [], [], []⟩
theorem ok : M.Ok := ⟨AG.nil, mixed, func224, by kernel_rfl⟩
theorem start (h : ∀ b5 : Nat, ∃ v9, Hp.ld σ ⟨b3, 0, none⟩ = some v9 ∧ ∃ (f11 : Nat) (Xa Xb : Array Value), v9 = .func (.func f11) Xa Xb ∧ Enters prog f11 ∧ Spec prog f11 (Xa ++ #[.slice p0 n0 c0] ++ Xb) σ (AA R (CI .u64 fun x11 y => R (.returned (.tuple #[.int .u64 x11, .bool true])) y))) : Spec prog 224 #[.slice p0 n0 c0, .agg #[.int .i64 DX, .int .i64 CP, .string DZ, .slice Db Dd De, .int .i64 DY, .int .i64 Dc, .int .i64 C3, .slice Dl Dg Dm, .bool C4, .int .i64 CU], .slice p2 n2 c2, (.pointer (aD b3 0))] σ R := M.start h ok
end FO
namespace EZ
variable {q0 : Option Addr} {v1 : Value}
def M : Fw := ⟨prog, 251, f251, [66, 97, 135], [], false, [], [], [(6, [(0, wQ), (1, wV)])]⟩
theorem ok : M.Ok := ⟨.cons call66 (.cons call97 (.cons call135 (AG.nil))), mixed, func251, by kernel_rfl⟩
def ou := M.pt 0
theorem start (h : Pq q0 fun b5 o5 => LI .i64 σ b5 (o5 + 1) fun x7 => Br (x7 = 64) (Spec prog 66 #[(.pointer (aD b5 o5))] σ (AA R (fun z y => ∃ fj Pr fk qj, z = (.agg #[.int .i64 fj, .int .i64 Pr, .string fk, .int .i64 qj]) ∧ Spec prog 97 #[(.pointer (aD b5 o5)), .int .i64 182, .agg #[.int .i64 fj, .int .i64 Pr, .string fk, .int .i64 qj]] y (AA R (fun z AF => z = (.tuple #[]) ∧ ou R (aD b5 o5) v1 AF))))) (ou R (aD b5 o5) v1 σ)) : Spec prog 251 #[.pointer q0, v1] σ R := M.D0 h ok [(0, .o (.Q q0)), (1, .o (.V v1))] rfl rfl (by kernel_rfl)
theorem RA (h : Pq q0 fun BL Mz => LI .i64 σ BL (Mz + 1) fun x16 => AM (x16 + 1) ∧ AJ prog (Instr.storeAt 3 (.pointer (aD BL (Mz + 1))) (.int .i64 (x16 + 1))) σ (fun _ y => Spec prog 135 #[(.pointer (aD BL Mz))] y (AA R (fun z AF => ∃ AJe AJf AJg AJh, z = (.agg #[.int .i64 AJe, .int .i64 AJf, .string AJg, .int .i64 AJh]) ∧ ∃ (f23 : Nat) (uH uI : Array Value), v1 = .func (.func f23) uH uI ∧ Enters prog f23 ∧ Spec prog f23 (uH ++ #[] ++ uI) AF (AA R (fun z AH => z = (.tuple #[]) ∧ LI .i64 AH BL (Mz + 1) fun JM => AM (JM - 1) ∧ AJ prog (Instr.storeAt 3 (.pointer (aD BL (Mz + 1))) (.int .i64 (JM - 1))) AH (fun _ Aa => R (.returned (.tuple #[])) Aa))))))) : ou R q0 v1 σ := M.of h ok rfl
end EZ
namespace Ea
variable {x0 : Int}
def M : Fw := ⟨prog, 302, f302, [], [], false, [], [], []⟩
theorem ok : M.Ok := ⟨AG.nil, mixed, func302, by kernel_rfl⟩
theorem start (h : Df (Go.bits .or .u8 x0 32) fun x4 => R (.returned (.int .u8 x4)) σ) : Spec prog 302 #[.int .u8 x0] σ R := M.start h ok
end Ea
namespace CC
variable {s0 s1 : ByteArray}
def M : Fw := ⟨prog, 315, f315, [], [], false, [], [], []⟩
theorem ok : M.Ok := ⟨AG.nil, mixed, func315, by kernel_rfl⟩
theorem start (h : Br ((((ByteArray.size s1 : Nat) : Int) : Int) ≤ ((ByteArray.size s0 : Nat) : Int)) (∃ s14, YF prog (Instr.sliceAt 9 (.string s0) none (some (.int .i64 ((ByteArray.size s1 : Nat) : Int))) none) σ (.string s14) ∧ R (.returned (.bool (ByteArray.toList s14 == ByteArray.toList s1))) σ) (R (.returned (.bool false)) σ)) : Spec prog 315 #[.string s0, .string s1] σ R := M.start h ok
end CC
end TwW
end
end
