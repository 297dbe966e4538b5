/-
  Part 2 of the proof that the law EvalShapeUptoCardSaid of the given program answers true for every input of the given statement; the input reads behind the call as it did. (The texts: TwO TwU TwW P04 P14 P24 P34 P44.)
-/
import Derived.Test.YtfjmoojdchmakaaGreatDoorA1
set_option linter.all false
section
namespace Tw
open Go
variable [Cnt]
def isAct (P : Program) : Op → Bool
  | .call c => match c.callee with
    | .builtin .len => false
    | .builtin .cap => false
    | .builtin .min => false
    | .builtin .max => false
    | .builtin .real => false
    | .builtin .imag => false
    | .builtin .complex => false
    | _ => true
  | .convert T T' _ => match P.underlying T, P.underlying T' with
    | some (.int _), some (.int _) => false
    | _, _ => true
  | .box .. => true
  | .alloc .. => true
  | .store .. => true
  | .buildSlice .. => true
  | .makeSlice .. => true
  | .mapUpdate .. => true
  | .makeMap .. => true
  | .insert .. => true
  | .range .. => true
  | .next .. => true
  | .lookup .. => true
  | .entryStore .. => true
  | .mapEntry .. => true
  | .makeChan .. => true
  | .binOp b T _ _ _ => flB b && isFl P T
  | _ => false
def optV (s : S) : Option Operand → Option (Option Value)
  | none => some none
  | some x => match s.op x with
    | some v => some (some (v.den s.vl))
    | none => none
def isPlain (P : Program) (b : BinOp) (T : TypeId) (x y : Option SV) : Bool := match asI x, asI y with
  | some _, some _ => true
  | _, _ => match P.underlying T with
    | some .string => match b with
      | .eql => true
      | .neq => true
      | .add => true
      | _ => false
    | some (.pointer _) => true
    | some .bool => true
    | _ => false
def isSl : Option SV → Bool
  | some (.v (.a (.sl _ _ _))) => true
  | _ => false
def anyM (P : Program) (op : Op) (ty : TypeId) (s : S) : Option (Sem Value) := match op with
  | .slice T x lo hi mx => match isSl (s.op x) && mx.isNone with
    | true => none
    | false => match s.op x, optV s lo, optV s hi, optV s mx with
      | some w, some l, some h, some m => some (Instr.sliceAt T (w.den s.vl) l h m)
      | _, _, _, _ => none
  | .unOp u _ x => match u, s.op x with
    | .not, _ => none
    | .neg, v => match asI v, v with
      | some _, _ => none
      | none, some v => some (Op.unary .neg (v.den s.vl))
      | none, none => none
    | u, some v => some (Op.unary u (v.den s.vl))
    | _, none => none
  | .binOp b T x y _ => match isPlain P b T (s.op x) (s.op y) with
    | true => none
    | false => match s.op x, s.op y with
      | some u, some v => some (do eqGuard b T x y (u.den s.vl) (v.den s.vl); binOp b T (u.den s.vl) (v.den s.vl))
      | _, _ => none
  | .call c => match c.callee, c.args.toList, c.argTypes.toList with
    | .builtin .len, [x], [T] => match s.op x with
      | some (.v (.a (.mp m))) => some (Builtin.len_ #[T] ty #[.map m])
      | _ => none
    | .builtin .real, [x], _ => match s.op x with
      | some v => some (Builtin.real_ c.argTypes ty #[v.den s.vl])
      | none => none
    | .builtin .imag, [x], _ => match s.op x with
      | some v => some (Builtin.imag_ c.argTypes ty #[v.den s.vl])
      | none => none
    | .builtin .complex, [x, y], _ => match s.op x, s.op y with
      | some u, some v => some (Builtin.complex_ c.argTypes ty #[u.den s.vl, v.den s.vl])
      | _, _ => none
    | _, _, _ => none
  | _ => none
theorem optV_some {s : S} {J : Env} {x : Option Operand} {v : Option Value} (h : optV s x = some v) : x.map (evalE (s.e J)) = v := by
  cases x with
  | none => simp only [optV, Option.some.injEq] at h; subst h; rfl
  | some x =>
    simp only [optV] at h
    split at h
    · rename_i u hu
      cases h
      simp only [Option.map_some]
      rw [ev hu]
    · cases h
theorem anyM_exec {P : Program} {op : Op} {ty : TypeId} {s : S} {m : Sem Value} (h : anyM P op ty s = some m) (J : Env) : ∀ o : Oper, o.op = op → o.type = ty → execOp (evalE (s.e J)) o = (do pure (Next.value (← m))) := fun o ho ht => by
  unfold anyM at h
  split at h
  · rename_i T x lo hi mx
    split at h
    · cases h
    · split at h
      · rename_i w l hh mm h1 h2 h3 h4
        cases h
        simp only [execOp, ho, optV_some h2, optV_some h3, optV_some h4, ev h1]
      · cases h
  · rename_i u T x
    split at h
    · cases h
    · split at h
      · cases h
      · rename_i hv
        cases h
        simp only [execOp, ho, ev hv]
      · cases h
    · rename_i hv
      cases h
      simp only [execOp, ho, ev hv]
    · cases h
  · rename_i b T x y T'
    split at h
    · cases h
    · split at h
      · rename_i u v hu hv
        cases h
        simp only [execOp, ho, ev hu, ev hv]
      · cases h
  · rename_i c
    obtain ⟨ce, azz, ts⟩ := c
    split at h
    · rename_i x T h1 h2 h3
      simp only at h1 h2 h3
      have e1 : azz = #[x] := by rw [← Array.toList_inj]; simpa using h2
      have e2 : ts = #[T] := by rw [← Array.toList_inj]; simpa using h3
      subst h1 e1 e2
      split at h
      · rename_i mm hx
        cases h
        exact exec_b_len (by rw [ev hx]; rfl) o ho ht
      · cases h
    · rename_i x h1 h2
      simp only at h1 h2 h
      have e1 : azz = #[x] := by rw [← Array.toList_inj]; simpa using h2
      subst h1 e1
      split at h
      · rename_i v hv
        cases h
        exact exec_b_real (ev hv) o ho ht
      · cases h
    · rename_i x h1 h2
      simp only at h1 h2 h
      have e1 : azz = #[x] := by rw [← Array.toList_inj]; simpa using h2
      subst h1 e1
      split at h
      · rename_i v hv
        cases h
        exact exec_b_imag (ev hv) o ho ht
      · cases h
    · rename_i x y h1 h2
      simp only at h1 h2 h
      have e1 : azz = #[x, y] := by rw [← Array.toList_inj]; simpa using h2
      subst h1 e1
      split at h
      · rename_i u v hu hv
        cases h
        exact exec_b_complex (ev hu) (ev hv) o ho ht
      · cases h
    · cases h
  · cases h
def anyV (P : Program) (ty : TypeId) (m : Sem Value) (s : S) (K : SV → S → Prop) : Prop := s.ex P ty fun v s => YF P m s.σ (v.den s.vl) ∧ K v s
theorem anyV_sound {P : Program} {op : Op} {ty : TypeId} {s : S} {m : Sem Value} {K : SV → S → Prop} (hm : anyM P op ty s = some m) (h : anyV P ty m s K) : ∃ v s', s.Same s' ∧ (∀ J, Yd P (s.e J) s.b s.σ op ty (v.den s'.vl)) ∧ K v s' := by
  obtain ⟨v, s', h1, hy, hk⟩ := S.ex_sound h
  rw [h1.σ] at hy
  exact ⟨v, s', h1, fun J => Yd.any (anyM_exec hm J) hy, hk⟩
def guardV (ops : Array Oper) (gd : Option (Nat × Bool)) (s : S) (K : Bool → S → Prop) : Prop := match gd with
  | none => K true s
  | some (j, want) => match (ops[j]?).bind (·.dst) with
    | none => False
    | some d => match getE s.env d with
      | some (.v (.a .un)) => K false s
      | v => s.onV v fun t s => K (t == want) s
theorem guardV_sound {ops : Array Oper} {gd : Option (Nat × Bool)} {s : S} {K : Bool → S → Prop} (h : guardV ops gd s K) : ∃ b s', s.Same s' ∧ (∀ J, wantedE ops (s.e J) gd = b) ∧ K b s' := by
  unfold guardV at h
  split at h
  · exact ⟨true, s, .refl s, fun _ => rfl, h⟩
  · rename_i j want
    split at h
    · cases h
    · rename_i d hd
      split at h
      · rename_i hv
        refine ⟨false, s, .refl s, fun J => ?_, h⟩
        have : s.e J d = undef := getE_some hv
        simp only [wantedE, hd, this]
        rfl
      · obtain ⟨t, s', x, h1, h2, h3, h4, h⟩ := S.onV_sound h
        refine ⟨_, s', h1, fun J => ?_, h⟩
        have : s.e J d = .bool t := (getE_some h3).trans h4
        simp only [wantedE, hd, this]
        cases t <;> cases want <;> rfl
def Go' (J : Env) (K : S → Prop) : Env → Bx → Hp → Prop := fun e bx σ => ∃ s, e = s.e J ∧ bx = s.b ∧ σ = s.σ ∧ K s
structure Cx extends Env' where
  n : Nat
  rng : List (Nat × TypeId) := []
structure Cx.Ok (c : Cx) (g : Gl) : Prop where
  P : c.P = g.P
  R : c.R = g.R
  E : Ents g.P c.ent
  n : c.n = g.n
  rnd : g.rnd = none
  ds : g.ds = []
def kp0 : KP := fun _ _ F => F
def setB (l : List BoxS) (i : Nat) (o : Nat) (xs : List Atm) : List BoxS := match l with
  | [] => []
  | (j, t, cs) :: l => bif Nat.beq j i then (j, t, wrtA cs o xs) :: l else (j, t, cs) :: setB l i o xs
def lenL {α : Type} : List α → Nat
  | [] => 0
  | _ :: l => lenL l + 1
theorem lenL_eq {α : Type} : ∀ l : List α, lenL l = l.length
  | [] => rfl
  | _ :: l => by simp only [lenL, List.length_cons]; rw [lenL_eq l]
def rawsOf : List Atm → List Value
  | [] => []
  | .raw v :: l => v :: rawsOf l
  | .un :: l => undef :: rawsOf l
  | _ :: l => rawsOf l
def andR (F : Prop) : List Value → Prop
  | [] => F
  | [v] => (Value.oneCell' v = true) ∧ F
  | l => conj l ∧ F
where
  conj : List Value → Prop
    | [] => True
    | [v] => Value.oneCell' v = true
    | v :: l => Value.oneCell' v = true ∧ conj l
def SV.cellsA : SV → Option (List Atm)
  | .v (.a x) => some [x]
  | .v (.agg l) => some l
  | .tup _ => none
def mapOf (P : Program) (l : List (Nat × TypeId)) (x : Operand) : Option (TypeId × TypeId) := match x with
  | .tmp t => match l.find? fun p => Nat.beq p.1 t with
    | some p => match P.underlying p.2 with
      | some (.map k v) => some (k, v)
      | _ => none
    | none => none
  | _ => none
def nextV (c : Cx) (dst : Option Nat) (x : Operand) (ty : TypeId) (s : S) (K : S → Prop) : Prop := match dst, s.op x, mapOf c.P c.rng x with
  | some d, some u, some (tk, tv) => Eff c.P (Instr.next (u.den s.vl) false ty) s.σ (fun v σ1 => (v = (.tuple #[(.bool false)]) ∧ K ((s.hp σ1).put (some d) (.tup [.a (.bl false)]))) ∨
      (match s.ok with
        | true => ex1 c.P tk s.vl fun a vl => ex1 c.P tv vl fun b vl => v = (SV.tup [.a (.bl true), a, b]).den vl ∧ K (((s.hp σ1).w vl).put (some d) (.tup [.a (.bl true), a, b]))
        | false => False))
  | _, _, _ => False
def stbV (c : Cx) (T : TypeId) (i o : Nat) (v : SV) (s : S) (K : S → Prop) : Prop := match v.cellsA, szT c.P T with
  | some l, some n => match getB s.bx i with
    | some (t, cs) => match Nat.beq (lenL l) n && Nat.ble (o + lenL l) (lenL cs) with
      | true => andR (K ⟨s.env, setB s.bx i o l, s.vl, s.σ⟩) (rawsOf l)
      | false => False
    | none => False
  | _, _ => False
def stepV (c : Cx) (ops : Array Oper) (i : Nat) (s : S) (K : S → Prop) : Prop := match ops[i]? with
  | none => False
  | some o => match dOk o.dst c.n with
    | false => False
    | true => guardV ops o.guard s fun b s => match b with
      | false => K (s.put o.dst (.at .un))
      | true => match o.op with
        | .load T x => ldV c.P T x s fun _ v s => K (s.put o.dst v)
        | .mapUpdate T m k v => match o.dst, s.op m, s.op k, s.op v with
          | none, some m, some k, some v => Eff c.P (Instr.mapUpdate T (m.den s.vl) (k.den s.vl) (v.den s.vl)) s.σ (fun _ σ1 => K (s.hp σ1))
          | _, _, _, _ => False
        | .insert T m k v => match o.dst, s.op m, s.op k, s.op v with
          | none, some m, some k, some v => Eff c.P (Instr.mapUpdate T (m.den s.vl) (k.den s.vl) (v.den s.vl)) s.σ (fun _ σ1 => K (s.hp σ1))
          | _, _, _, _ => False
        | .next x false => nextV c o.dst x o.type s K
        | .entry x => match s.op x, mapOf c.P c.rng x with
          | some u, some (tk, tv) => Eff c.P (Instr.entry (u.den s.vl)) s.σ (fun v σ1 => retG (genTwo c.P tk tv) o.dst (s.hp σ1) s.σ v kp0 K)
          | _, _ => False
        | .panic x => match s.op x with
          | some (.v (.a (.raw (.iface T u)))) => c.R (.panicked [{ v := .iface T u, recovered := false }]) s.σ
          | _ => False
        | .store T x y => match o.dst, asP (s.op x), s.op y with
          | none, some (.bx i b), some v => stbV c T i b v s K
          | _, _, _ => actV c.toEnv' o.dst (.store T x y) o.type s kp0 K
        | op => match isAct c.P op, anyM c.P op o.type s with
          | true, _ => actV c.toEnv' o.dst op o.type s kp0 K
          | false, some m => anyV c.P o.type m s fun v s => K (s.put o.dst v)
          | false, none => yv c.P c.wr op s fun v s => K (s.put o.dst v)
def seqV (c : Cx) (ops : Array Oper) : List Nat → S → (S → Prop) → Prop
  | [], s, K => K s
  | i :: is, s, K => stepV c ops i s fun s => seqV c ops is s K
section
variable {g : Gl} {ops : Array Oper} {i : Nat} {J : Env} {s : S} {K : S → Prop} {c : Cx}
theorem same_op {s s' : S} {K : Env → Bx → Hp → Prop} (h : s.Same s') (hk : OpTo g ops i (s'.e J) s'.b s'.σ K) : OpTo g ops i (s.e J) s.b s.σ K := by
  rw [← h.e J, ← h.b, ← h.σ]; exact hk
theorem YP_op {s : S} {o : Oper} {K : SV → S → Prop} {K' : Env → Bx → Hp → Prop} (ho : ops[i]? = some o) (hw : wantedE ops (s.e J) o.guard = true) (hd : dOk o.dst g.n = true) (h : YP g.P o.op o.type s K) (hk : ∀ v s', s.Same s' → K v s' → K' ((s'.put o.dst v).e J) s'.b s'.σ) :
    OpTo g ops i (s.e J) s.b s.σ K' := by
  obtain ⟨v, s', h1, h2, h3⟩ := h
  have := hk v s' h1 h3
  rw [S.e_put, h1.e J, h1.b, h1.σ] at this
  exact OpTo.y (sig_of ho) hw hd (h2 J _) this
theorem Yd.up {P : Program} {e : Env} {bx : Bx} {σ : Hp} {b : Nat} {op : Op} {ty : TypeId} {v : Value} (h : Yd P e bx (fun x => if x = b then σ x else none) op ty v) : Yd P e bx σ op ty v := fun o ho ht w hs hb => h o ho ht w (fun k u hk => by
  simp only at hk
  split at hk
  · exact hs k u hk
  · cases hk) hb
theorem OpTo.mono {e : Env} {bx : Bx} {σ : Hp} {K K' : Env → Bx → Hp → Prop} (h : OpTo g ops i e bx σ K) (hk : ∀ e bx σ, K e bx σ → K' e bx σ) : OpTo g ops i e bx σ K' := fun w0 F a w st => wpOpIn_mono (fun a' w' ⟨e', b', σ', st', h'⟩ => ⟨e', b', σ', st', hk _ _ _ h'⟩) (h w0 F a w st)
theorem act0 {dst : Option Nat} {op : Op} {ty : TypeId} {gd : Option (Nat × Bool)} (hc : c.Ok g) (hs : sig ops i = some (dst, op, ty, gd)) (hw : wantedE ops (s.e J) gd = true) (hd : dOk dst g.n = true) (h : actV c.toEnv' dst op ty s kp0 K) : OpTo g ops i (s.e J) s.b s.σ (Go' J K) := by
  have := actV_sound (c := c.toEnv') (kq := fun _ _ => True) (J := J) hc.P hc.R hc.E (fun _ _ F h => ⟨h, trivial⟩) (fun _ _ _ => trivial) hs hw hd h
  intro w0 F a w st
  refine wpOpIn_mono ?_ (this w0 F a w st)
  rintro a' w' ⟨e', bx', σ', st', s', rfl, rfl, rfl, _, _, hk⟩
  exact ⟨_, _, _, st', s', rfl, rfl, rfl, hk⟩
theorem nextV_sound {dst : Option Nat} {x : Operand} {ty : TypeId} {gd : Option (Nat × Bool)} (hc : c.Ok g) (hs : sig ops i = some (dst, .next x false, ty, gd)) (hw : wantedE ops (s.e J) gd = true) (hd : dOk dst g.n = true) (h : nextV c dst x ty s K) : OpTo g ops i (s.e J) s.b s.σ (Go' J K) := by
  unfold nextV at h
  split at h
  · rename_i d u tk tv hu hm
    rw [hc.P] at h
    refine OpTo.eff hs hw hd (Instr.next (u.den s.vl) false ty) (fun o ho ht => by simp only [execOp, ho, ht]; rw [ev hu]) (h.mono fun v σ1 hr => ?_)
    rcases hr with ⟨rfl, hk⟩ | hr
    · exact ⟨_, (S.e_put (s := s.hp σ1) (x := .tup [.a (.bl false)])).symm, (S.b_put (s := s.hp σ1) (x := .tup [.a (.bl false)])).symm, (S.σ_put (s := s.hp σ1) (x := .tup [.a (.bl false)])).symm, hk⟩
    · split at hr
      · rename_i hok
        obtain ⟨a, w1, h1, hr⟩ := ex1_sound hr
        obtain ⟨b, w2, h2, hr⟩ := ex1_sound hr
        obtain ⟨hv, hk⟩ := hr
        have hsame := S.same_w (s := s.hp σ1) hok (h1.trans h2).le
        refine ⟨_, ?_, ?_, ?_, hk⟩
        · rw [S.e_put, hsame.e J, hv]; rfl
        · rw [S.b_put, hsame.b]; rfl
        · rw [S.σ_put]; rfl
      · cases hr
  · cases h
theorem setB_den {vl : Vl} {i o : Nat} {l : List Atm} : ∀ {bx : List BoxS} {t : TypeId} {cs : List Atm}, getB bx i = some (t, cs) → ∃ j, (boxV vl bx)[j]? = some (nth 0 vl.δ i, .cells (dens vl cs).toArray t (0, 0)) ∧ boxV vl (setB bx i o l) = (boxV vl bx).set j (nth 0 vl.δ i, .cells (dens vl (wrtA cs o l)).toArray t (0, 0))
  | (k, u, ds) :: r, t, cs, h => by
    simp only [getB] at h
    cases hk : Nat.beq k i with
    | true =>
      rw [hk] at h; simp only [cond_true, Option.some.injEq, Prod.mk.injEq] at h
      obtain ⟨rfl, rfl⟩ := h
      have := Nat.eq_of_beq_eq_true hk
      subst this
      exact ⟨0, rfl, by simp only [setB, hk, cond_true, boxV, List.set_cons_zero]⟩
    | false =>
      rw [hk] at h; simp only [cond_false] at h
      obtain ⟨j, h1, h2⟩ := setB_den (vl := vl) (o := o) (l := l) h
      exact ⟨j + 1, by simpa only [boxV, List.getElem?_cons_succ] using h1, by simp only [setB, hk, cond_false, boxV, List.set_cons_succ, h2]⟩
theorem andR_sound {F : Prop} {l : List Value} (h : andR F l) : F ∧ ∀ v ∈ l, Value.oneCell' v = true := by
  have cj : ∀ {l : List Value}, andR.conj l → ∀ v ∈ l, Value.oneCell' v = true := fun {l} => by
    induction l with
    | nil => intro _ v hv; cases hv
    | cons a l ih =>
      intro h v hv
      cases l with
      | nil => simp at hv; subst hv; exact h
      | cons b l =>
        rcases List.mem_cons.1 hv with rfl | hv
        · exact h.1
        · exact ih h.2 v hv
  match l, h with
  | [], h => exact ⟨h, fun v hv => by cases hv⟩
  | [v], h => exact ⟨h.2, fun u hu => by simp at hu; subst hu; exact h.1⟩
  | a :: b :: l, h => exact ⟨h.2, cj h.1⟩
theorem rawsOf_one {vl : Vl} : ∀ {l : List Atm}, (∀ v ∈ rawsOf l, Value.oneCell' v = true) → ∀ u ∈ dens vl l, Value.oneCell' u = true
  | [], _, u, hu => by cases hu
  | x :: l, h, u, hu => by
    have tl : ∀ v ∈ rawsOf l, Value.oneCell' v = true := fun v hv => h v (by cases x <;> first | exact hv | exact List.mem_cons_of_mem _ hv)
    rcases List.mem_cons.1 hu with rfl | hu
    · cases x <;> try rfl
      case bs i n => cases n <;> rfl
      case raw v => exact h v (List.mem_cons_self ..)
      case un => exact h undef (List.mem_cons_self ..)
    · exact rawsOf_one tl u hu
theorem cellsA_den {vl : Vl} {v : SV} {l : List Atm} (h : v.cellsA = some l) (ho : ∀ u ∈ dens vl l, Value.oneCell' u = true) : (v.den vl).cells = (dens vl l).toArray := by
  unfold SV.cellsA at h
  split at h
  · rename_i x
    cases h
    have := ho (x.den vl) (List.mem_cons_self ..)
    simp only [SV.den, SV1.den, dens]
    cases hx : x.den vl <;> first | rfl | (rw [hx] at this; cases this)
  · cases h; rfl
  · cases h
theorem stbV_sound {T ty : TypeId} {x y : Operand} {gd : Option (Nat × Bool)} {k b : Nat} {v : SV} (hc : c.Ok g) (hs : sig ops i = some (none, .store T x y, ty, gd)) (hw : wantedE ops (s.e J) gd = true) (hx : asP (s.op x) = some (.bx k b)) (hy : s.op y = some v) (h : stbV c T k b v s K) : OpTo g ops i (s.e J) s.b s.σ (Go' J K) := by
  unfold stbV at h
  split at h
  · rename_i l n hl hz
    split at h
    · rename_i t cs hg
      split at h
      · rename_i hd
        simp only [Bool.and_eq_true, lenL_eq] at hd
        obtain ⟨hk, ho⟩ := andR_sound h
        have ho1 := rawsOf_one (vl := s.vl) ho
        have hcl := cellsA_den (vl := s.vl) hl ho1
        obtain ⟨u, e1, e2⟩ := asP_some hx
        obtain ⟨j, h1, h2⟩ := setB_den (vl := s.vl) (o := b) (l := l) hg
        rw [hc.P] at hz
        refine OpTo.storeb (b := nth 0 s.vl.δ k) (o := b) (c := (dens s.vl cs).toArray) (c' := (dens s.vl (wrtA cs b l)).toArray) (t := t) (j := j) hs hw (szT_run hz) (by rw [ev e1, e2]; rfl) (ev hy) h1 ?_ ?_ ?_ ?_ ?_
        · rw [hcl]; simp [dens_length]; exact Nat.eq_of_beq_eq_true hd.1
        · have := Nat.eq_of_beq_eq_true hd.1
          have h3 := Nat.le_of_ble_eq_true hd.2
          exact Nat.ble_eq_true_of_le (by simp [dens_length]; omega)
        · rw [hcl]; exact List.all_eq_true.2 fun u hu => ho1 u (by simpa using hu)
        · rw [hcl, wrtA_den]
        · exact ⟨⟨s.env, setB s.bx k b l, s.vl, s.σ⟩, rfl, h2.symm, rfl, hk⟩
      · cases h
    · cases h
  · cases h
theorem stepV_sound (hc : c.Ok g) (h : stepV c ops i s K) : OpTo g ops i (s.e J) s.b s.σ (Go' J K) := by
  unfold stepV at h
  split at h
  · cases h
  · rename_i o ho
    split at h
    · cases h
    · rename_i hd
      rw [hc.n] at hd
      obtain ⟨b, s1, h1, hw, h⟩ := guardV_sound h
      have hw := hw J
      rw [← h1.e J] at hw
      refine same_op h1 ?_
      cases b with
      | false => exact OpTo.no (sig_of ho) hw hd ⟨_, (S.e_put (x := .at .un)).symm, S.b_put.symm, S.σ_put.symm, h⟩
      | true =>
        simp only at h
        split at h
        · rename_i T x hop
          obtain ⟨m, v, s2, h2, hk, hy⟩ := ldV_sound (ty := o.type) h
          have hs := sig_of ho
          rw [hop] at hs
          refine OpTo.y (v := v.den s2.vl) hs hw hd ?_ ⟨s2.put o.dst v, by rw [S.e_put, h2.e J], by rw [S.b_put, h2.b], by rw [S.σ_put, h2.σ], hk⟩
          have hy := hy J
          rw [hc.P] at hy
          cases m with
          | none => exact hy _
          | some b => exact Yd.up hy
        · rename_i T m k v hop
          split at h
          · rename_i um uk uv hdst hm hk hv
            have hs := sig_of ho
            rw [hop, hdst] at hs
            rw [hc.P] at h
            exact OpTo.effU hs hw rfl _ (fun o ho ht => by simp only [execOp, ho]; rw [ev hm, ev hk, ev hv]) (h.mono fun _ σ1 hr => ⟨s1.hp σ1, rfl, rfl, rfl, hr⟩)
          · cases h
        · rename_i T m k v hop
          split at h
          · rename_i um uk uv hdst hm hk hv
            have hs := sig_of ho
            rw [hop, hdst] at hs
            rw [hc.P] at h
            exact OpTo.effU hs hw rfl _ (fun o ho ht => by simp only [execOp, ho]; rw [ev hm, ev hk, ev hv]) (h.mono fun _ σ1 hr => ⟨s1.hp σ1, rfl, rfl, rfl, hr⟩)
          · cases h
        · have hop := ‹o.op = Op.next _ false›
          have hs := sig_of ho
          rw [hop] at hs
          exact nextV_sound hc hs hw hd h
        · have hop := ‹o.op = Op.entry _›
          have hs := sig_of ho
          rw [hop] at hs
          split at h
          · rename_i u tk tv hu hm
            rw [hc.P] at h
            have := OpTo.eff (K := St' J s1 (fun _ _ => True) K) hs hw hd (Instr.entry (u.den s1.vl)) (fun o ho ht => by simp only [execOp, ho]; rw [ev hu]) (h.mono fun v σ1 hr => retG_sound (kq := fun _ _ => True) genTwo_ok (fun _ _ F h => ⟨h, trivial⟩) hr J)
            exact this.mono fun e bx σ ⟨s', e1, e2, e3, _, _, hk⟩ => ⟨s', e1, e2, e3, hk⟩
          · cases h
        · have hop := ‹o.op = Op.panic _›
          split at h
          · rename_i T u hx
            have hs := sig_of ho
            rw [hop] at hs
            rw [hc.R] at h
            exact OpTo.panic hs hw (by rw [ev hx]; rfl) hc.rnd hc.ds h
          · cases h
        · have hop := ‹o.op = Op.store _ _ _›
          have hs := sig_of ho
          rw [hop] at hs
          split at h
          · rename_i i' b v hdst hx hy
            rw [hdst] at hs
            exact stbV_sound hc hs hw hx hy h
          · exact act0 hc hs hw hd h
        · split at h
          · exact act0 hc (sig_of ho) hw hd h
          · rename_i m _ hm
            rw [hc.P] at h hm
            obtain ⟨v, s2, h2, hy, hk⟩ := anyV_sound hm h
            exact OpTo.y (v := v.den s2.vl) (sig_of ho) hw hd (hy J) ⟨s2.put o.dst v, by rw [S.e_put, h2.e J], by rw [S.b_put, h2.b], by rw [S.σ_put, h2.σ], hk⟩
          · rw [hc.P] at h
            exact YP_op ho hw hd (yv_sound h) fun v s' hsm hk => ⟨s'.put o.dst v, rfl, S.b_put.symm, S.σ_put.symm, hk⟩
theorem seqV_sound (hc : c.Ok g) : ∀ {is : List Nat} {s : S}, seqV c ops is s K → Seq g ops is (s.e J) s.b s.σ (Go' J K)
  | [], s, h => ⟨s, rfl, rfl, rfl, h⟩
  | i :: is, s, h => (stepV_sound hc h).mono fun e bx σ ⟨s', h1, h2, h3, h4⟩ => by subst h1 h2 h3; exact seqV_sound hc h4
theorem seq_mono {K K' : Env → Bx → Hp → Prop} (hk : ∀ e bx σ, K e bx σ → K' e bx σ) : ∀ {is : List Nat} {e : Env} {bx : Bx} {σ : Hp}, Seq g ops is e bx σ K → Seq g ops is e bx σ K'
  | [], _, _, _, h => hk _ _ _ h
  | i :: is, e, bx, σ, h => OpTo.mono h fun _ _ _ h => seq_mono hk h
theorem headT_mono {K K' : Env → Bx → Hp → Prop} (hk : ∀ e bx σ, K e bx σ → K' e bx σ) : ∀ {p : Ord} {q : Rly} {e : Env} {bx : Bx} {σ : Hp}, HeadT g ops p q e bx σ K → HeadT g ops p q e bx σ K'
  | .done, _, _, _, _, h => hk _ _ _ h
  | .yes i r, q, e, bx, σ, ⟨own, o, v, h1, h2, h3, h4, h5⟩ => ⟨own, o, v, h1, h2, h3, h4, headT_mono hk h5⟩
  | .alt i r t, q, e, bx, σ, ⟨h1, h2⟩ => ⟨OpTo.mono h1 fun _ _ _ ⟨h3, h4⟩ => ⟨h3, headT_mono hk h4⟩, headT_mono hk h2⟩
  | .no, _, _, _, _, _ => trivial
def actsOf : Ord → List Nat
  | .done => []
  | .yes _ r => actsOf r
  | .alt i r _ => i :: actsOf r
  | .no => []
def wayF (ops : Array Oper) (i : Nat) : Nat → Nat → Option (List Nat)
  | 0, _ => none
  | f + 1, t => match directly ops t i with
    | true => some [t]
    | false => (List.range t).findSome? fun u => match Nat.blt i u && directly ops t u with
      | true => match wayF ops i f u with
        | some p => some (t :: p)
        | none => none
      | false => none
def waits (ops : Array Oper) (i : Nat) : List Nat → List (List Nat)
  | [] => []
  | t :: l => match wayF ops i 40 t with
    | some p => p :: waits ops i l
    | none => waits ops i l
def kpL (L : Rly) : KP := fun σ0 σ1 F => match L with
  | none => Ext σ0 σ1 ∧ F
  | some [] => F
  | some (x :: l) => Kp ((x :: l).map Prod.fst) σ0 σ1 ∧ F
def headV (c : Cx) (ops : Array Oper) : Ord → Rly → S → (S → Prop) → Prop
  | .done, _, s, K => K s
  | .yes i r, L, s, K => match ops[i]? with
    | none => False
    | some o => match dOk o.dst c.n && L.ok i with
      | false => False
      | true => guardV ops o.guard s fun b s => match b with
        | false => headV c ops r L (s.put o.dst (.at .un)) K
        | true => match o.op with
          | .load T x => ldV c.P T x s fun m v s => match m, L with
            | none, _ => headV c ops r L (s.put o.dst v) K
            | some _, none => headV c ops r L (s.put o.dst v) K
            | some b, some l => match (addq (some l) (some (b, waits ops i (actsOf r)))).ok i && ownOk ops i (some (b, waits ops i (actsOf r))) with
              | true => headV c ops r (addq (some l) (some (b, waits ops i (actsOf r)))) (s.put o.dst v) K
              | false => False
          | op => match isAct c.P op, anyM c.P op o.type s, L with
            | true, _, _ => False
            | false, some m, none => anyV c.P o.type m s fun v s => headV c ops r none (s.put o.dst v) K
            | false, some _, some _ => False
            | false, none, L => yv c.P c.wr op s fun v s => headV c ops r L (s.put o.dst v) K
  | .alt i r t, L, s, K =>
    match t with
    | .no => headA c ops i L s fun s => headV c ops r (dropq L i) s K
    | t => (headA c ops i L s fun s => headV c ops r (dropq L i) s K) ∧ headV c ops t L s K
  | .no, _, _, _ => True
where
  headA (c : Cx) (ops : Array Oper) (i : Nat) (L : Rly) (s : S) (K : S → Prop) : Prop := match ops[i]? with
    | none => False
    | some o => match dOk o.dst c.n with
      | false => False
      | true => guardV ops o.guard s fun b s => match b with
        | false => K (s.put o.dst (.at .un))
        | true => actV c.toEnv' o.dst o.op o.type s (kpL (dropq L i)) K
def kqL (q : Rly) (σ σ' : Hp) : Prop := match q with
  | none => ∀ b o, σ b = some o → σ' b = some o
  | some L => ∀ x ∈ L, ∀ o, σ x.1 = some o → σ' x.1 = some o
theorem kqL_of {q : Rly} {bx bx' : Bx} {σ σ' : Hp} (h : kqL q σ σ') (hb : ∀ p ∈ bx, p ∈ bx') : KeepQ q bx σ bx' σ' := ⟨hb, h⟩
theorem kpL_sound {L : Rly} {σ0 σ1 : Hp} {F : Prop} (h : kpL L σ0 σ1 F) : F ∧ kqL L σ0 σ1 := by
  unfold kpL at h
  split at h
  · exact ⟨h.2, h.1⟩
  · exact ⟨h, fun x hx => by cases hx⟩
  · exact ⟨h.2, fun y hy o ho => h.1 y.1 (List.mem_map.2 ⟨y, hy, rfl⟩) o ho⟩
theorem kqL_ext {L : Rly} {σ0 σ1 : Hp} (h : Ext σ0 σ1) : kqL L σ0 σ1 := by
  cases L with
  | none => exact h
  | some l => exact fun x _ o ho => h _ _ ho
theorem headA_sound {L : Rly} (hc : c.Ok g) (h : headV.headA c ops i L s K) : OpTo g ops i (s.e J) s.b s.σ fun e' bx' σ' => KeepQ (dropq L i) s.b s.σ bx' σ' ∧ Go' J K e' bx' σ' := by
  unfold headV.headA at h
  split at h
  · cases h
  · rename_i o ho
    split at h
    · cases h
    · rename_i hd
      rw [hc.n] at hd
      obtain ⟨b, s1, h1, hw, h⟩ := guardV_sound h
      have hw := hw J
      rw [← h1.e J] at hw
      have key : OpTo g ops i (s1.e J) s1.b s1.σ fun e' bx' σ' => KeepQ (dropq L i) s1.b s1.σ bx' σ' ∧ Go' J K e' bx' σ' := by
        cases b with
        | false => exact OpTo.no (sig_of ho) hw hd ⟨KeepQ.refl _ _ _, _, (S.e_put (x := .at .un)).symm, S.b_put.symm, S.σ_put.symm, h⟩
        | true =>
          have := actV_sound (c := c.toEnv') (kq := kqL (dropq L i)) (J := J) hc.P hc.R hc.E (fun _ _ F h => kpL_sound h) (fun _ _ h => kqL_ext h) (sig_of ho) hw hd h
          exact this.mono fun e' bx' σ' ⟨s', e1, e2, e3, hq, hb, hk⟩ => ⟨kqL_of hq hb, s', e1, e2, e3, hk⟩
      have := same_op (K := fun e' bx' σ' => KeepQ (dropq L i) s1.b s1.σ bx' σ' ∧ Go' J K e' bx' σ') h1 key
      rw [h1.b, h1.σ] at this
      exact this
theorem headV_sound (hc : c.Ok g) : ∀ {p : Ord} {q : Rly} {s : S}, headV c ops p q s K → HeadT g ops p q (s.e J) s.b s.σ (Go' J K)
  | .done, q, s, h => ⟨s, rfl, rfl, rfl, h⟩
  | .yes i r, q, s, h => by
    simp only [headV] at h
    split at h
    · cases h
    · rename_i o ho
      split at h
      · cases h
      · rename_i hd
        simp only [Bool.and_eq_true] at hd
        obtain ⟨hd, hq⟩ := hd
        rw [hc.n] at hd
        obtain ⟨b, s1, h1, hw, h⟩ := guardV_sound h
        have hw := hw J
        rw [← h1.e J] at hw
        rw [← h1.e J, ← h1.b, ← h1.σ]
        have go : ∀ {v : SV} {s2 : S} {own : Option (Nat × List (List Nat))}, s1.Same s2 → ((addq q own).ok i && ownOk ops i own) = true → Yd g.P (s1.e J) s1.b (limO q own s1.σ) o.op o.type (v.den s2.vl) → wantedE ops (s1.e J) o.guard = true → headV c ops r (addq q own) (s2.put o.dst v) K → HeadT g ops (.yes i r) q (s1.e J) s1.b s1.σ (Go' J K) := fun {v s2 own} h2 hok hy hw hk => by
          have := headV_sound hc hk
          rw [S.e_put, S.b_put, S.σ_put, h2.e J, h2.b, h2.σ] at this
          exact ⟨own, o, v.den s2.vl, hok, ho, .inl ⟨hw, hy⟩, dOk.lt hd, this⟩
        cases b with
        | false =>
          have := headV_sound hc h
          rw [S.e_put, S.b_put, S.σ_put] at this
          exact ⟨none, o, undef, ok_none hq, ho, .inr ⟨hw, rfl⟩, dOk.lt hd, by rw [addq_none]; exact this⟩
        | true =>
          simp only at h
          split at h
          · rename_i T x hop
            obtain ⟨m, v, s2, h2, hk, hy⟩ := ldV_sound (ty := o.type) h
            have hy := hy J
            rw [hc.P, ← hop] at hy
            split at hk
            · exact go (own := none) h2 (ok_none hq) (hy _) hw (by rw [addq_none]; exact hk)
            · exact go (own := none) h2 (ok_none hq) (Yd.up hy) hw (by rw [addq_none]; exact hk)
            · rename_i b l
              split at hk
              · rename_i hok
                exact go h2 hok hy hw hk
              · cases hk
          · split at h
            · cases h
            · have hm := ‹anyM c.P o.op o.type s1 = some _›
              rw [hc.P] at h hm
              obtain ⟨v, s2, h2, hy, hk⟩ := anyV_sound hm h
              exact go (own := none) h2 (ok_none hq) (hy J) hw hk
            · cases h
            · rw [hc.P] at h
              obtain ⟨v, s2, h2, hy, hk⟩ := yv_sound (ty := o.type) h
              exact go (own := none) h2 (ok_none hq) (hy J _) hw (by rw [addq_none]; exact hk)
  | .alt i r t, q, s, h => by
    have key : ∀ {t : Ord}, (headV.headA c ops i q s fun s => headV c ops r (dropq q i) s K) → HeadT g ops t q (s.e J) s.b s.σ (Go' J K) → HeadT g ops (.alt i r t) q (s.e J) s.b s.σ (Go' J K) := fun {t} h1 h2 =>
      ⟨(headA_sound hc h1).mono fun e bx σ ⟨hk, s', e1, e2, e3, h3⟩ => ⟨hk, by subst e1 e2 e3; exact headV_sound hc h3⟩, h2⟩
    cases t with
    | no => exact key h trivial
    | done => exact key h.1 (headV_sound hc h.2)
    | yes j u => exact key h.1 (headV_sound hc h.2)
    | alt j u w => exact key h.1 (headV_sound hc h.2)
  | .no, q, s, h => trivial
def planF (P : Program) (ops : Array Oper) (m : Nat) : Nat → Array Bool → Ord
  | 0, _ => .no
  | f + 1, listed => match (List.range m).all fun i => listed.getD i false with
    | true => .done
    | false => match (Region.ready .any ops listed).find? fun j => Nat.blt j m && match ops[j]? with | some o => !isAct P o.op | none => false with
      | some j => .yes j (planF P ops m f (listed.setIfInBounds j true))
      | none => (Region.ready .any ops listed).foldr (fun j acc => .alt j (planF P ops m f (listed.setIfInBounds j true)) acc) .no
def regV (c : Cx) (ops : Array Oper) (draw : Bool) (m : Nat) (q : Rly) (s : S) (K : S → Prop) : Prop := match draw with
  | false => seqV c ops (List.range ops.size) s K
  | true => match orderOk ops m (planF c.P ops m (ops.size + 1) (Array.replicate ops.size false)) (List.range' m (ops.size - m)) with
    | true => headV c ops (planF c.P ops m (ops.size + 1) (Array.replicate ops.size false)) q s fun s => seqV c ops (List.range' m (ops.size - m)) s K
    | false => False
theorem regV_sound {k : List Item} {id m : Nat} {draw : Bool} {q : Rly} (hc : c.Ok g) (hm : g.P.follows .mixedOrders = true) (h : regV c ops draw m q s K) (hk : ∀ s, K s → At g k (s.e J) s.b s.σ) : At g (.code (.region id ops draw) :: k) (s.e J) s.b s.σ := by
  have fin : ∀ e bx σ, Go' J K e bx σ → At g k e bx σ := fun e bx σ ⟨s', e1, e2, e3, h⟩ => by subst e1 e2 e3; exact hk s' h
  cases draw with
  | false =>
    refine At.region rfl rfl ?_
    have : Seq g ops (List.range ops.size) (s.e J) s.b s.σ (Go' J K) := seqV_sound hc h
    exact seq_mono fin this
  | true =>
    simp only [regV] at h
    split at h
    · rename_i hp
      refine At.drawT hm rfl hp (q := q) ?_
      have := headV_sound (J := J) hc h
      refine headT_mono (fun e bx σ ⟨s', e1, e2, e3, h⟩ => ?_) this
      subst e1 e2 e3
      exact seq_mono fin (seqV_sound hc h)
    · cases h
end
end Tw
end
section
namespace Tw
open Go
variable [Cnt]
def node (body : Code) : List Bool → Code
  | [] => body
  | false :: p => cl (node body p)
  | true :: p => cr (node body p)
inductive It where
  | c (p : List Bool)
  | blk (i : Nat)
  | lp (p : List Bool)
  | sc (p : List Bool)
def It.den (body : Code) : It → Item
  | .c p => .code (node body p)
  | .blk i => .inBlock i
  | .lp p => .inLoop (node body p)
  | .sc p => .inScope (node body p)
def itsD (body : Code) : List It → List Item
  | [] => []
  | x :: l => x.den body :: itsD body l
def pathEq : List Bool → List Bool → Bool
  | [], [] => true
  | a :: p, b :: q => (bif a then b else !b) && pathEq p q
  | _, _ => false
theorem pathEq_eq : ∀ {p q : List Bool}, pathEq p q = true → p = q
  | [], [], _ => rfl
  | a :: p, b :: q, h => by
    simp only [pathEq, Bool.and_eq_true] at h
    rw [pathEq_eq h.2]
    cases a <;> cases b <;> simp at h <;> rfl
  | [], _ :: _, h => by cases h
  | _ :: _, [], h => by cases h
def It.eq : It → It → Bool
  | .c p, .c q => pathEq p q
  | .blk i, .blk j => Nat.beq i j
  | .lp p, .lp q => pathEq p q
  | .sc p, .sc q => pathEq p q
  | _, _ => false
def itsEq : List It → List It → Bool
  | [], [] => true
  | x :: l, y :: m => x.eq y && itsEq l m
  | _, _ => false
theorem itsEq_eq : ∀ {l m : List It}, itsEq l m = true → l = m
  | [], [], _ => rfl
  | x :: l, y :: m, h => by
    simp only [itsEq, Bool.and_eq_true] at h
    rw [itsEq_eq h.2]
    have : x = y := by
      cases x <;> cases y <;> simp only [It.eq] at h <;> first
        | (rw [pathEq_eq h.1])
        | (rw [Nat.eq_of_beq_eq_true h.1])
        | (exact absurd h.1 (by simp))
    rw [this]
  | [], _ :: _, h => by cases h
  | _ :: _, [], h => by cases h
structure Cut where
  todo : List It
  f : S → Prop
def Cut.Ok (g : Gl) (body : Code) (k : Cut) : Prop := ∀ s J, k.f s → At g (itsD body k.todo) (s.e J) s.b s.σ
def cutF : List Cut → List It → Option (S → Prop)
  | [], _ => none
  | k :: l, t => match itsEq k.todo t with
    | true => some k.f
    | false => cutF l t
theorem cutF_ok {g : Gl} {body : Code} : ∀ {l : List Cut} {t : List It} {f : S → Prop}, (∀ k ∈ l, k.Ok g body) → cutF l t = some f → ∀ s J, f s → At g (itsD body t) (s.e J) s.b s.σ
  | k :: l, t, f, hl, h => by
    simp only [cutF] at h
    split at h
    · rename_i he
      cases h
      rw [← itsEq_eq he]
      exact hl k (List.mem_cons_self ..)
    · exact cutF_ok (fun k hk => hl k (List.mem_cons_of_mem _ hk)) h
def exitI (i : Nat) : List It → Option (List It)
  | [] => none
  | .blk j :: r => match Nat.beq i j with
    | true => some r
    | false => exitI i r
  | _ :: r => exitI i r
def lblI (l : Nat) : Code → List Bool → Option (List It)
  | .seq a b, p => match lblI l a (false :: p) with
    | some r => some (r ++ [.c (true :: p)])
    | none => lblI l b (true :: p)
  | .label j, _ => match Nat.beq j l with
    | true => some []
    | false => none
  | _, _ => none
def gotoI (body : Code) (l : Nat) : List It → Option (List It)
  | [] => none
  | .sc p :: r => match lblI l (node body p) p with
    | some m => some (m ++ (.sc p :: r))
    | none => gotoI body l r
  | _ :: r => gotoI body l r
structure Fx extends Cx where
  body : Code
  res : List ResultVar
  reg : List (Nat × Nat × Bool)
def regOf : List (Nat × Nat × Bool) → Nat → Nat → Nat × Rly
  | [], _, m => (m, some [])
  | (i, m, b) :: l, id, z => match Nat.beq i id with
    | true => (m, bif b then none else some [])
    | false => regOf l id z
def resV (c : Fx) (s : S) : List ResultVar → Option (List SV)
  | [] => some []
  | .tmp t :: r => match getE s.env t, resV c s r with
    | some v, some l => some (v :: l)
    | _, _ => none
  | .cell p T :: r => match asP (getE s.env p), resV c s r with
    | some (.bx i 0), some l => match getB s.bx i, aggT c.P T with
      | some (_, cs), some true => match szT c.P T with
        | some n => match decide (cs.length = n) with
          | true => some (.v (.agg cs) :: l)
          | false => none
        | none => none
      | some (_, x :: _), some false => some (.at x :: l)
      | _, _ => none
    | _, _ => none
def retV (c : Fx) (s : S) : Prop := match resV c s c.res with
  | some l => c.R (.returned (resVal (densS s.vl l))) s.σ
  | none => False
def walkV (c : Fx) (cuts : List Cut) : Nat → Bool → List It → S → Prop
  | 0, _, _, _ => False
  | f + 1, first, todo, s => match (bif first then none else cutF cuts todo) with
    | some k => k s
    | none => match todo with
      | [] => retV c s
      | .blk _ :: r => walkV c cuts f false r s
      | .lp p :: r => walkV c cuts f false (.c p :: .lp p :: r) s
      | .sc _ :: r => walkV c cuts f false r s
      | .c p :: r => match node c.body p with
        | .skip => walkV c cuts f false r s
        | .seq _ _ => walkV c cuts f false (.c (false :: p) :: .c (true :: p) :: r) s
        | .block i _ => walkV c cuts f false (.c (false :: p) :: .blk i :: r) s
        | .loop _ => walkV c cuts f false (.c (false :: p) :: .lp (false :: p) :: r) s
        | .exit i => match exitI i r with
          | some r => walkV c cuts f false r s
          | none => False
        | .scope _ => walkV c cuts f false (.c (false :: p) :: .sc (false :: p) :: r) s
        | .label _ => walkV c cuts f false r s
        | .goto l => match gotoI c.body l r with
          | some r => walkV c cuts f false r s
          | none => False
        | .cond x _ _ => s.onV (s.op x) fun t s => walkV c cuts f false (.c ((!t) :: p) :: r) s
        | .ret => retV c s
        | .region id ops draw => regV c.toCx ops draw (regOf c.reg id ops.size).1 (regOf c.reg id ops.size).2 s fun s => walkV c cuts f false r s
        | _ => False
structure Fx.Ok (c : Fx) (g : Gl) (fn : Func) : Prop where
  cx : c.toCx.Ok g
  mixed : g.P.follows .mixedOrders = true
  fnc : g.P.funcs[g.f]? = some fn
  res : fn.results = c.res.toArray
  rnd : g.rnd = none
  ds : g.ds = []
section
variable {g : Gl} {c : Fx} {fn : Func} {cuts : List Cut} {J : Env}
theorem resV_sound (hP : c.P = g.P) {s : S} : ∀ {rs : List ResultVar} {l : List SV}, resV c s rs = some l → ResOk g.P (s.e J) s.b s.σ rs (densS s.vl l)
  | [], l, h => by simp only [resV, Option.some.injEq] at h; subst h; rfl
  | .tmp t :: r, l, h => by
    simp only [resV] at h
    split at h
    · rename_i v l' h1 h2
      cases h
      refine ⟨_, ?_, resV_sound hP h2⟩
      rw [show s.e J t = v.den s.vl from getE_some h1]; rfl
    · cases h
  | .cell p T :: r, l, h => by
    simp only [resV] at h
    split at h
    · rename_i i l' h1 h2
      obtain ⟨u, e1, e2⟩ := asP_some h1
      have hp : s.e J p = .pointer (some ⟨nth 0 s.vl.δ i, 0, none⟩) := (getE_some e1).trans (e2 _)
      split at h
      · rename_i t cs hb ha
        split at h
        · rename_i n hn
          split at h
          · rename_i hd
            have hd := of_decide_eq_true hd
            cases h
            rw [hP] at ha hn
            exact ⟨_, _, rfl, ⟨_, hp, ldab_run (aggT_run ha) (szT_run hn) (by simp [dens_length]; exact hd) (getB_mem hb)⟩, resV_sound hP h2⟩
          · cases h
        · cases h
      · rename_i t x cs hb ha
        cases h
        rw [hP] at ha
        exact ⟨_, _, rfl, ⟨_, hp, ldb_run (aggT_run ha) (getB_mem hb) rfl⟩, resV_sound hP h2⟩
      · cases h
    · cases h
theorem exitI_den {body : Code} {i : Nat} : ∀ {r r' : List It}, exitI i r = some r' → exitTo i (itsD body r) = some (itsD body r')
  | .blk j :: r, r', h => by
    simp only [exitI] at h
    split at h
    · rename_i he
      cases h
      have := Nat.eq_of_beq_eq_true he
      subst this
      simp [itsD, It.den, exitTo]
    · rename_i he
      have hne : i ≠ j := fun e => by subst e; rw [Nat.beq_refl] at he; cases he
      simp only [itsD, It.den, exitTo]
      rw [if_neg (by simpa using Ne.symm hne)]
      exact exitI_den h
  | .c p :: r, r', h => by simp only [exitI] at h; simp only [itsD, It.den, exitTo]; exact exitI_den h
  | .lp p :: r, r', h => by simp only [exitI] at h; simp only [itsD, It.den, exitTo]; exact exitI_den h
  | .sc p :: r, r', h => by simp only [exitI] at h; simp only [itsD, It.den, exitTo]; exact exitI_den h
theorem itsD_app {body : Code} : ∀ {l m : List It}, itsD body (l ++ m) = itsD body l ++ itsD body m
  | [], _ => rfl
  | x :: l, m => by simp only [List.cons_append, itsD, itsD_app]
theorem lblI_none {l : Nat} : ∀ {x : Code} {p : List Bool}, lblI l x p = none → findLabel x l = none
  | .seq a b, p, h => by
    simp only [lblI] at h
    split at h
    · cases h
    · rename_i h1
      simp only [findLabel, lblI_none h1, lblI_none h]
  | .label j, p, h => by
    simp only [lblI] at h
    split at h
    · cases h
    · rename_i h1
      have : j ≠ l := fun e => by subst e; rw [Nat.beq_refl] at h1; cases h1
      simp [findLabel, this]
  | .skip, p, h => rfl
  | .region .., p, h => rfl
  | .cond .., p, h => rfl
  | .block .., p, h => rfl
  | .loop .., p, h => rfl
  | .rangeFunc .., p, h => rfl
  | .exit .., p, h => rfl
  | .scope .., p, h => rfl
  | .goto .., p, h => rfl
  | .ret, p, h => rfl
  | .refuse .., p, h => rfl
theorem lblI_den {l : Nat} {body : Code} : ∀ {x : Code} {p : List Bool} {m : List It}, node body p = x → lblI l x p = some m → ∃ rest, findLabel x l = some rest ∧ ∀ {k : List Item} {e : Env} {bx : Bx} {σ : Hp}, At g (itsD body m ++ k) e bx σ → At g (.code rest :: k) e bx σ
  | .seq a b, p, m, hx, h => by
    simp only [lblI] at h
    split at h
    · rename_i r h1
      cases h
      obtain ⟨rest, e1, e2⟩ := lblI_den (body := body) (x := a) (p := false :: p) (by simp only [node, hx, cl]) h1
      refine ⟨.seq rest b, by simp only [findLabel, e1], fun h => At.seq rfl (e2 ?_)⟩
      rw [itsD_app, List.append_assoc] at h
      simp only [itsD, It.den, node, hx, cr, List.cons_append, List.nil_append] at h
      exact h
    · rename_i h1
      obtain ⟨rest, e1, e2⟩ := lblI_den (body := body) (x := b) (p := true :: p) (by simp only [node, hx, cr]) h
      exact ⟨rest, by simp only [findLabel, lblI_none h1, e1], e2⟩
  | .label j, p, m, hx, h => by
    simp only [lblI] at h
    split at h
    · rename_i h1
      cases h
      have := Nat.eq_of_beq_eq_true h1
      subst this
      exact ⟨.skip, by simp [findLabel], fun h => At.skip h⟩
    · cases h
theorem gotoI_den {l : Nat} {body : Code} : ∀ {r r' : List It}, gotoI body l r = some r' → ∃ k', gotoIn l (itsD body r) = some k' ∧ ∀ {e : Env} {bx : Bx} {σ : Hp}, At g (itsD body r') e bx σ → At g k' e bx σ
  | .sc p :: r, r', h => by
    simp only [gotoI] at h
    split at h
    · rename_i m h1
      cases h
      obtain ⟨rest, e1, e2⟩ := lblI_den (g := g) rfl h1
      refine ⟨.code rest :: .inScope (node body p) :: itsD body r, by simp only [itsD, It.den, gotoIn, e1], fun h => e2 ?_⟩
      rw [itsD_app] at h
      exact h
    · rename_i h1
      obtain ⟨k', e1, e2⟩ := gotoI_den h
      exact ⟨k', by simp only [itsD, It.den, gotoIn, lblI_none h1, e1], e2⟩
  | .c p :: r, r', h => by simp only [gotoI] at h; simp only [itsD, It.den, gotoIn]; exact gotoI_den h
  | .lp p :: r, r', h => by simp only [gotoI] at h; simp only [itsD, It.den, gotoIn]; exact gotoI_den h
  | .blk p :: r, r', h => by simp only [gotoI] at h; simp only [itsD, It.den, gotoIn]; exact gotoI_den h
theorem walkV_sound (hc : c.Ok g fn) (hk : ∀ k ∈ cuts, k.Ok g c.body) : ∀ {f : Nat} {first : Bool} {todo : List It} {s : S}, walkV c cuts f first todo s → At g (itsD c.body todo) (s.e J) s.b s.σ
  | 0, _, _, _, h => h.elim
  | f + 1, first, todo, s, h => by
    have hl : ∀ σ, left g.ds σ = σ := fun σ => by rw [hc.ds]; rfl
    have hmk : Marks g.ds s.σ := by rw [hc.ds]; trivial
    simp only [walkV] at h
    split at h
    · rename_i k hcut
      cases first with
      | true => cases hcut
      | false => exact cutF_ok hk hcut s J h
    · split at h
      · unfold retV at h
        split at h
        · rename_i l hl'
          rw [hc.cx.R] at h
          exact At.doneV hc.fnc hc.res (by rw [hl]; exact resV_sound hc.cx.P hl') (by rw [hl]; exact h) hc.rnd hmk
        · cases h
      · exact At.inBlock (walkV_sound hc hk h)
      · exact At.inLoop (walkV_sound hc hk h)
      · exact At.inScope (walkV_sound hc hk h)
      · rename_i p r _
        have e : itsD c.body (.c p :: r) = .code (node c.body p) :: itsD c.body r := rfl
        rw [e]
        split at h
        · rename_i hn; rw [hn]; exact At.skip (walkV_sound hc hk h)
        · rename_i a b hn
          refine At.seq hn ?_
          have := walkV_sound hc hk h
          simp only [itsD, It.den, node, hn, cl, cr] at this
          exact this
        · rename_i i a hn
          refine At.block hn ?_
          have := walkV_sound hc hk h
          simp only [itsD, It.den, node, hn, cl] at this
          exact this
        · rename_i a hn
          refine At.loop hn ?_
          have := walkV_sound hc hk h
          simp only [itsD, It.den, node, hn, cl] at this
          exact this
        · rename_i i hn
          split at h
          · rename_i r' hr
            exact At.exit hn (exitI_den hr) (walkV_sound hc hk h)
          · cases h
        · rename_i a hn
          refine At.scope hn ?_
          have := walkV_sound hc hk h
          simp only [itsD, It.den, node, hn, cl] at this
          exact this
        · rename_i l hn; rw [hn]; exact At.label (walkV_sound hc hk h)
        · rename_i l hn
          split at h
          · rename_i r' hr
            obtain ⟨k', e1, e2⟩ := gotoI_den (g := g) hr
            exact At.goto hn e1 (e2 (walkV_sound hc hk h))
          · cases h
        · rename_i x a b hn
          obtain ⟨t, s', v, h1, h2, h3, h4, h⟩ := S.onV_sound h
          have hx : evalE (s.e J) x = .bool t := by rw [ev h3, h4]
          have := walkV_sound hc hk h
          rw [h1.e J, h1.b, h1.σ] at this
          cases t with
          | true =>
            refine At.condT hn hx ?_
            simp only [itsD, It.den, node, hn, cl, Bool.not_true] at this
            exact this
          | false =>
            refine At.condF hn hx ?_
            simp only [itsD, It.den, node, hn, cr, Bool.not_false] at this
            exact this
        · rename_i hn
          unfold retV at h
          split at h
          · rename_i l hl'
            rw [hc.cx.R] at h
            exact At.retV hn hc.fnc hc.res (by rw [hl]; exact resV_sound hc.cx.P hl') (by rw [hl]; exact h) hc.rnd hmk
          · cases h
        · rename_i id ops draw hn
          rw [hn]
          exact regV_sound hc.cx hc.mixed h fun s' h' => walkV_sound hc hk h'
        · cases h
end
def S.gets (s : S) : List Nat → Option (List Value)
  | [] => some []
  | t :: l => match getE s.env t, s.gets l with
    | some v, some r => some (v.den s.vl :: r)
    | _, _ => none
theorem gets_live {s : S} {J : Env} : ∀ {l : List Nat} {vs : List Value}, s.gets l = some vs → Live (s.e J) (l.zip vs)
  | [], vs, h => by simp only [S.gets, Option.some.injEq] at h; subst h; trivial
  | t :: l, vs, h => by
    simp only [S.gets] at h
    split at h
    · rename_i v r h1 h2
      cases h
      exact ⟨getE_some h1, gets_live h2⟩
    · cases h
def skipB (i : Nat) : List BoxS → Option (BoxS × List BoxS)
  | [] => none
  | x :: l => match Nat.beq x.1 i with
    | true => some (x, l)
    | false => skipB i l
def boxId : Option SV → Option Nat
  | some (.v (.a (.pt (.bx i 0)))) => some i
  | _ => none
def S.subB (s : S) : List Nat → List BoxS → Option (List BoxS)
  | [], _ => some []
  | t :: l, bx => match boxId (getE s.env t) with
    | some i => match skipB i bx with
      | some (x, r) => match s.subB l r with
        | some m => some (x :: m)
        | none => none
      | none => none
    | none => none
def ptrsOf (vl : Vl) : List Nat → List BoxS → List (Nat × Value)
  | t :: l, x :: r => (t, .pointer (some ⟨nth 0 vl.δ x.1, 0, none⟩)) :: ptrsOf vl l r
  | _, _ => []
theorem skipB_sub {vl : Vl} {i : Nat} : ∀ {l r : List BoxS} {x : BoxS}, skipB i l = some (x, r) → x.1 = i ∧ ∀ m : List BoxS, (boxV vl m).Sublist (boxV vl r) → (boxV vl (x :: m)).Sublist (boxV vl l)
  | y :: l, r, x, h => by
    simp only [skipB] at h
    split at h
    · rename_i he
      cases h
      exact ⟨Nat.eq_of_beq_eq_true he, fun m hm => List.Sublist.cons_cons _ hm⟩
    · obtain ⟨h1, h2⟩ := skipB_sub (vl := vl) h
      exact ⟨h1, fun m hm => List.Sublist.cons _ (h2 m hm)⟩
theorem subB_sub {s : S} {J : Env} : ∀ {l : List Nat} {bx B : List BoxS}, s.subB l bx = some B → (boxV s.vl B).Sublist (boxV s.vl bx) ∧ Live (s.e J) (ptrsOf s.vl l B)
  | [], bx, B, h => by simp only [S.subB, Option.some.injEq] at h; subst h; exact ⟨List.nil_sublist _, trivial⟩
  | t :: l, bx, B, h => by
    simp only [S.subB] at h
    split at h
    · rename_i i hi
      split at h
      · rename_i x r hx
        split at h
        · rename_i m hm
          cases h
          obtain ⟨h1, h2⟩ := skipB_sub (vl := s.vl) hx
          obtain ⟨h3, h4⟩ := subB_sub (s := s) (J := J) hm
          refine ⟨h2 m h3, ?_, h4⟩
          unfold boxId at hi
          split at hi
          · rename_i hg
            cases hi
            rw [h1]
            exact getE_some hg
          · cases hi
        · cases h
      · cases h
    · cases h
theorem Live.app {e : Env} : ∀ {l m : List (Nat × Value)}, Live e l → Live e m → Live e (l ++ m)
  | [], _, _, h => h
  | (_, _) :: _, _, h, g => ⟨h.1, Live.app h.2 g⟩
theorem At.getsB {g : Gl} {k : List Item} {s : S} {J : Env} {l bl : List Nat} {vs : List Value} {B : List BoxS} (h : s.gets l = some vs) (hb : s.subB bl s.bx = some B) (hk : ∀ J, At g k (upds J (ptrsOf s.vl bl B ++ l.zip vs)) (boxV s.vl B) s.σ) : At g k (s.e J) s.b s.σ := by
  obtain ⟨h1, h2⟩ := subB_sub (J := J) hb
  exact At.sub h1 (At.live (h2.app (gets_live h)) (hk _))
def enumV : Nat → List Value → List (Nat × Value)
  | _, [] => []
  | k, v :: l => (k, v) :: enumV (k + 1) l
theorem enumV_live {e : Env} : ∀ {l : List Value} {k : Nat}, (∀ j v, l[j]? = some v → e (k + j) = v) → Live e (enumV k l)
  | [], _, _ => trivial
  | v :: l, k, h => ⟨h 0 v rfl, enumV_live fun j u hj => by rw [show k + 1 + j = k + (j + 1) by omega]; exact h (j + 1) u (by simpa using hj)⟩
theorem Spec.walk {P : Program} {f : FuncId} {fn : Func} {R : Ending → Hp → Prop} {args : Array Value} {n fuel : Nat} (c : Fx) (cuts : List Cut) (s : S) (hc : c.Ok (Gl.fn P f n R) fn) (hb : fn.body = some c.body) (hnt : fn.ntmps = n) (hn : Nat.ble args.size n = true)
    (hk : ∀ k ∈ cuts, k.Ok (Gl.fn P f n R) c.body) (he : envV s.vl s.env = enumV 0 args.toList) (hbx : s.bx = []) (h : walkV c cuts fuel true [.c []] s) : Spec P f args s.σ R := by
  subst hnt
  refine Spec.of_at hc.fnc hb (Nat.le_of_ble_eq_true hn) fun e hee => ?_
  have hl : Live e (envV s.vl s.env) := by
    rw [he]
    refine enumV_live fun j v hj => ?_
    rw [Nat.zero_add, hee]
    simp only [Array.getD_eq_getD_getElem?]
    rw [← Array.getElem?_toList, hj]; rfl
  have := walkV_sound (J := e) hc hk h
  have hb2 : s.b = [] := by rw [S.b, hbx]; rfl
  rw [hb2] at this
  exact At.live hl this
end Tw
end
section
namespace Tw
open Go
variable [Cnt]
inductive Dv where
  | I (k : IntKind) (x : Int)
  | B (t : Bool)
  | T (x : ByteArray)
  | L (p : Option Addr) (n c : Nat)
  | Q (p : Option Addr)
  | A (b : Nat)
  | M (x : Option Nat)
  | V (x : Value)
def Dv.den : Dv → Value
  | .I k x => .int k x
  | .B t => .bool t
  | .T x => .string x
  | .L p n c => .slice p n c
  | .Q p => .pointer p
  | .A b => .pointer (some ⟨b, 0, none⟩)
  | .M x => .map x
  | .V x => x
def denL : List Dv → List Value
  | [] => []
  | x :: l => x.den :: denL l
inductive Dw where
  | o (x : Dv)
  | G (l : List Dv)
  | U (l : List Dv)
  | X (T : TypeId) (l : List Dv)
def Dw.den : Dw → Value
  | .o x => x.den
  | .G l => .agg (denL l).toArray
  | .U l => .tuple (denL l).toArray
  | .X _ _ => undef
structure Nm where
  ρ : List (Option Addr)
  β : List BK
structure Nm.le (n : Nm) (v : Vl) : Prop where
  ρ : ∀ i, i < n.ρ.length → nth none v.ρ i = nth none n.ρ i
  β : ∀ i, i < n.β.length → nth (.var false) v.β i = nth (.var false) n.β i
def Dv.sym : Dv → Nm → Atm × Nm
  | .I k x, n => (.int k x, n)
  | .B t, n => (.bs (lenL n.β) false, ⟨n.ρ, n.β ++ [.var t]⟩)
  | .T x, n => (.str x, n)
  | .L p k c, n => (.sl (.var (lenL n.ρ)) k c, ⟨n.ρ ++ [p], n.β⟩)
  | .Q p, n => (.pt (.var (lenL n.ρ)), ⟨n.ρ ++ [p], n.β⟩)
  | .A b, n => (.pt (.at b 0), n)
  | .M x, n => (.mp x, n)
  | .V x, n => (.raw x, n)
theorem Nm.le_p {n : Nm} {v : Vl} {p : Option Addr} (h : Nm.le ⟨n.ρ ++ [p], n.β⟩ v) : n.le v ∧ nth none v.ρ (lenL n.ρ) = p := by
  refine ⟨⟨fun i hi => (h.ρ i (by simp only [List.length_append]; omega)).trans (nth_app hi), h.β⟩, ?_⟩
  rw [lenL_eq, h.ρ _ (by simp)]; exact nth_end
theorem Nm.le_b {n : Nm} {v : Vl} {p : BK} (h : Nm.le ⟨n.ρ, n.β ++ [p]⟩ v) : n.le v ∧ nth (.var false) v.β (lenL n.β) = p := by
  refine ⟨⟨h.ρ, fun i hi => (h.β i (by simp only [List.length_append]; omega)).trans (nth_app hi)⟩, ?_⟩
  rw [lenL_eq, h.β _ (by simp)]; exact nth_end
theorem Dv.sym_ok {x : Dv} {n : Nm} {v : Vl} (h : (x.sym n).2.le v) : (x.sym n).1.den v = x.den ∧ n.le v := by
  cases x with
  | B t => obtain ⟨h1, h2⟩ := Nm.le_b h; exact ⟨by simp only [Dv.sym, Atm.den, h2]; rfl, h1⟩
  | L p k c => obtain ⟨h1, h2⟩ := Nm.le_p h; exact ⟨by simp only [Dv.sym, Atm.den, PV.den, h2]; rfl, h1⟩
  | Q p => obtain ⟨h1, h2⟩ := Nm.le_p h; exact ⟨by simp only [Dv.sym, Atm.den, PV.den, h2]; rfl, h1⟩
  | _ => exact ⟨rfl, h⟩
def symL : List Dv → Nm → List Atm × Nm
  | [], n => ([], n)
  | x :: l, n => match x.sym n with
    | (a, n) => match symL l n with
      | (r, n) => (a :: r, n)
theorem symL_ok {v : Vl} : ∀ {l : List Dv} {n : Nm}, (symL l n).2.le v → dens v (symL l n).1 = denL l ∧ n.le v
  | [], n, h => ⟨rfl, h⟩
  | x :: l, n, h => by
    obtain ⟨h1, h2⟩ := symL_ok (l := l) (n := (x.sym n).2) h
    obtain ⟨h3, h4⟩ := Dv.sym_ok h2
    exact ⟨by simp only [symL, dens, denL, h3]; rw [← h1], h4⟩
def atoms : List Atm → List SV1
  | [] => []
  | x :: l => .a x :: atoms l
theorem atoms_den {v : Vl} : ∀ l, dens1 v (atoms l) = dens v l
  | [] => rfl
  | x :: l => by simp only [atoms, dens1, dens]; rw [atoms_den l]; rfl
def Dw.sym : Dw → Nm → SV × Nm
  | .o x, n => match x.sym n with | (a, n) => (.v (.a a), n)
  | .G l, n => match symL l n with | (a, n) => (.v (.agg a), n)
  | .U l, n => match symL l n with | (a, n) => (.tup (atoms a), n)
  | .X _ _, n => (.v (.a .un), n)
theorem Dw.sym_ok {x : Dw} {n : Nm} {v : Vl} (h : (x.sym n).2.le v) : (x.sym n).1.den v = x.den ∧ n.le v := by
  cases x with
  | o x => exact Dv.sym_ok (x := x) h
  | G l => obtain ⟨h1, h2⟩ := symL_ok (l := l) h; exact ⟨by simp only [Dw.sym, SV.den, SV1.den, Dw.den]; rw [← h1], h2⟩
  | U l => obtain ⟨h1, h2⟩ := symL_ok (l := l) h; exact ⟨by simp only [Dw.sym, SV.den, Dw.den]; rw [atoms_den, ← h1], h2⟩
  | X T l => exact ⟨rfl, h⟩
abbrev Bv := Nat × TypeId × List Dv
def denE : List (Nat × Dw) → List (Nat × Value)
  | [] => []
  | (_, .X _ _) :: l => denE l
  | (t, x) :: l => (t, x.den) :: denE l
def symE : List (Nat × Dw) → Nm → List (Nat × SV) × Nm
  | [], n => ([], n)
  | (_, .X _ _) :: l, n => symE l n
  | (t, x) :: l, n => match x.sym n with
    | (a, n) => match symE l n with
      | (r, n) => ((t, a) :: r, n)
theorem symE_ok {v : Vl} : ∀ {l : List (Nat × Dw)} {n : Nm}, (symE l n).2.le v → envV v (symE l n).1 = denE l ∧ n.le v
  | [], n, h => ⟨rfl, h⟩
  | (t, .o x) :: l, n, h => by
    obtain ⟨h1, h2⟩ := symE_ok (l := l) (n := ((Dw.o x).sym n).2) h
    obtain ⟨h3, h4⟩ := Dw.sym_ok h2
    exact ⟨by simp only [symE, envV, denE, h3]; rw [← h1], h4⟩
  | (t, .G x) :: l, n, h => by
    obtain ⟨h1, h2⟩ := symE_ok (l := l) (n := ((Dw.G x).sym n).2) h
    obtain ⟨h3, h4⟩ := Dw.sym_ok h2
    exact ⟨by simp only [symE, envV, denE, h3]; rw [← h1], h4⟩
  | (t, .U x) :: l, n, h => by
    obtain ⟨h1, h2⟩ := symE_ok (l := l) (n := ((Dw.U x).sym n).2) h
    obtain ⟨h3, h4⟩ := Dw.sym_ok h2
    exact ⟨by simp only [symE, envV, denE, h3]; rw [← h1], h4⟩
  | (_, .X T x) :: l, n, h => symE_ok (l := l) (n := n) h
def boxL : List (Nat × Dw) → List Bv → List Bv
  | [], r => r
  | (t, .X T l) :: m, r => boxL m ((t, T, l) :: r)
  | _ :: m, r => boxL m r
def symX : List Bv → Nat → Nm → List BoxS × Nm
  | [], _, n => ([], n)
  | (_, T, l) :: m, j, n => match symL l n with
    | (a, n) => match symX m (j + 1) n with
      | (r, n) => ((j, T, a) :: r, n)
def ptrE : List Bv → Nat → List (Nat × SV)
  | [], _ => []
  | (t, _, _) :: m, j => (t, .v (.a (.pt (.bx j 0)))) :: ptrE m (j + 1)
abbrev Bw := Nat × TypeId × List Value
def boxW : List Bv → List Bw
  | [] => []
  | (t, T, l) :: m => (t, T, denL l) :: boxW m
def ptrV : List Bw → List Nat → List (Nat × Value)
  | (t, _, _) :: m, b :: δ => (t, .pointer (some ⟨b, 0, none⟩)) :: ptrV m δ
  | _, _ => []
def bxV : List Bw → List Nat → Bx
  | (_, T, l) :: m, b :: δ => (b, .cells l.toArray T (0, 0)) :: bxV m δ
  | _, _ => []
def PB : List Bw → (List Nat → Prop) → Prop
  | [], K => K []
  | _ :: m, K => ∀ b : Nat, PB m fun δ => K (b :: δ)
theorem PB_all : ∀ {l : List Bw} {K : List Nat → Prop}, PB l K → ∀ δ, δ.length = l.length → K δ
  | [], K, h, [], _ => h
  | _ :: m, K, h, b :: δ, hl => PB_all (h b) δ (by simpa using hl)
theorem all_PB : ∀ {l : List Bw} {K : List Nat → Prop}, (∀ δ, δ.length = l.length → K δ) → PB l K
  | [], K, h => h [] rfl
  | _ :: m, K, h => fun b => all_PB fun δ hl => h (b :: δ) (by simp [hl])
def PTv (g : Gl) (td : List Item) (bs : List Bw) (ts : List (Nat × Value)) (σ : Hp) : Prop :=
  ∀ J : Env, PB bs fun δ => At g td (upds J (ptrV bs δ ++ ts)) (bxV bs δ) σ
theorem symX_ok {δ0 : List Nat} {v : Vl} : ∀ {m : List Bv} {j : Nat} {n : Nm} {δ : List Nat}, δ.length = m.length → (∀ i, i < δ.length → nth 0 v.δ (j + i) = nth 0 δ i) → (symX m j n).2.le v →
    boxV v (symX m j n).1 = bxV (boxW m) δ ∧ envV v (ptrE m j) = ptrV (boxW m) δ ∧ n.le v
  | [], j, n, [], _, _, h => ⟨rfl, rfl, h⟩
  | (t, T, l) :: m, j, n, b :: δ, hl, hd, h => by
    obtain ⟨h1, h2, h3⟩ := symX_ok (δ0 := δ0) (m := m) (j := j + 1) (n := (symL l n).2) (δ := δ) (by simpa using hl) (fun i hi => by
      have := hd (i + 1) (by simpa using hi)
      rw [show j + 1 + i = j + (i + 1) by omega]; exact this) h
    obtain ⟨h4, h5⟩ := symL_ok h3
    have hb : nth 0 v.δ j = b := hd 0 (by simp)
    refine ⟨?_, ?_, h5⟩
    · simp only [symX, boxV, boxW, bxV, hb, h4]; rw [← h1]
    · simp only [ptrE, envV, boxW, ptrV, SV.den, SV1.den, Atm.den, PV.den, hb]; rw [h2]
def stD (D : List (Nat × Dw)) (δ : List Nat) (σ : Hp) : S := match symE D ⟨[], []⟩ with
  | (e, n) => match boxL D [] with
    | bs => match symX bs 0 n with
      | (x, n) => ⟨ptrE bs 0 ++ e, x, ⟨n.ρ, n.β, δ⟩, σ⟩
theorem envV_app {v : Vl} : ∀ {l m : List (Nat × SV)}, envV v (l ++ m) = envV v l ++ envV v m
  | [], _ => rfl
  | (t, x) :: l, m => by simp only [List.cons_append, envV]; rw [envV_app]
theorem stD_ok {D : List (Nat × Dw)} {δ : List Nat} {σ : Hp} {J : Env} (hl : δ.length = (boxL D []).length) :
    (stD D δ σ).e J = upds J (ptrV (boxW (boxL D [])) δ ++ denE D) ∧ (stD D δ σ).b = bxV (boxW (boxL D [])) δ := by
  have hle : (symX (boxL D []) 0 (symE D ⟨[], []⟩).2).2.le ⟨(symX (boxL D []) 0 (symE D ⟨[], []⟩).2).2.ρ, (symX (boxL D []) 0 (symE D ⟨[], []⟩).2).2.β, δ⟩ := ⟨fun _ _ => rfl, fun _ _ => rfl⟩
  obtain ⟨h1, h2, h3⟩ := symX_ok (δ0 := []) (δ := δ) hl (fun i _ => by rw [Nat.zero_add]) hle
  obtain ⟨h4, _⟩ := symE_ok h3
  exact ⟨by simp only [stD, S.e, envV_app]; rw [h2, h4], h1⟩
def pthF : Nat → Nat → List Bool
  | 0, _ => []
  | f + 1, n => match Nat.ble n 1 with
    | true => []
    | false => Nat.beq (n % 2) 1 :: pthF f (n / 2)
def pth (n : Nat) : List Bool := pthF 400 n
def restOf (body : Code) : List Bool → List It
  | [] => []
  | t :: p => match node body p with
    | .seq _ _ => bif t then restOf body p else .c (true :: p) :: restOf body p
    | .block i _ => .blk i :: restOf body p
    | .loop _ => .lp (false :: p) :: restOf body p
    | .scope _ => .sc (false :: p) :: restOf body p
    | _ => restOf body p
def tdo (body : Code) (n : Nat) : List It := .c (pth n) :: restOf body (pth n)
inductive Sh where
  | I (k : IntKind) | B | T | L | Q | A | M | V
inductive Sw where
  | o (x : Sh)
  | G (l : List Sh)
  | U (l : List Sh)
  | X (T : TypeId) (l : List Sh)
abbrev ArS : Sh → Type → Type
  | .I _, C => Int → C
  | .B, C => Bool → C
  | .T, C => ByteArray → C
  | .L, C => Option Addr → Nat → Nat → C
  | .Q, C => Option Addr → C
  | .A, C => Nat → C
  | .M, C => Option Nat → C
  | .V, C => Value → C
def curS {C : Type} : (x : Sh) → (Dv → C) → ArS x C
  | .I k, K => fun x => K (.I k x)
  | .B, K => fun x => K (.B x)
  | .T, K => fun x => K (.T x)
  | .L, K => fun p n c => K (.L p n c)
  | .Q, K => fun x => K (.Q x)
  | .A, K => fun x => K (.A x)
  | .M, K => fun x => K (.M x)
  | .V, K => fun x => K (.V x)
abbrev ArL : List Sh → Type → Type
  | [], A => A
  | x :: l, A => ArS x (ArL l A)
def curL {A : Type} : (l : List Sh) → (List Dv → A) → ArL l A
  | [], K => K []
  | x :: l, K => curS x fun d => curL l fun r => K (d :: r)
abbrev ArW : Sw → Type → Type
  | .o x, C => ArS x C
  | .G l, C => ArL l C
  | .U l, C => ArL l C
  | .X _ l, C => ArL l C
def curW {A : Type} : (x : Sw) → (Dw → A) → ArW x A
  | .o x, K => curS x fun d => K (.o d)
  | .G l, K => curL l fun d => K (.G d)
  | .U l, K => curL l fun d => K (.U d)
  | .X T l, K => curL l fun d => K (.X T d)
abbrev Ar : List (Nat × Sw) → Type → Type
  | [], A => A
  | (_, x) :: l, A => ArW x (Ar l A)
def cur {A : Type} : (l : List (Nat × Sw)) → (List (Nat × Dw) → A) → Ar l A
  | [], K => K []
  | (t, x) :: l, K => curW x fun d => cur l fun r => K ((t, d) :: r)
structure Fw where
  P : Program
  f : Nat
  fn : Func
  ent : List Nat
  hid : List Nat
  wr : Bool
  reg : List (Nat × Nat × Bool)
  rng : List (Nat × TypeId)
  cuts : List (Nat × List (Nat × Sw))
def Fw.K (M : Fw) : Code := M.fn.body.getD .skip
def Fw.gl (M : Fw) (R : Ending → Hp → Prop) : Gl := Gl.fn M.P M.f M.fn.ntmps R
def Fw.cx (M : Fw) (R : Ending → Hp → Prop) : Fx := { P := M.P, R := R, ent := M.ent, hid := M.hid, wr := M.wr, n := M.fn.ntmps, body := M.K, res := M.fn.results.toList, reg := M.reg, rng := M.rng }
def zipB (vl : Vl) : List Nat → List BoxS → List Bw
  | t :: l, x :: r => (t, x.2.1, dens vl x.2.2) :: zipB vl l r
  | _, _ => []
def tmps : List (Nat × Sw) → List Nat
  | [] => []
  | (_, .X _ _) :: l => tmps l
  | (t, _) :: l => t :: tmps l
def boxs : List (Nat × Sw) → List Nat → List Nat
  | [], r => r
  | (t, .X _ _) :: l, r => boxs l (t :: r)
  | _ :: l, r => boxs l r
def Fw.cut (M : Fw) (R : Ending → Hp → Prop) (c : Nat × List (Nat × Sw)) : Cut := ⟨tdo M.K c.1, fun s => match s.gets (tmps c.2), s.subB (boxs c.2 []) s.bx with
  | some vs, some B => PTv (M.gl R) (itsD M.K (tdo M.K c.1)) (zipB s.vl (boxs c.2 []) B) ((tmps c.2).zip vs) s.σ
  | _, _ => False⟩
def cutL (M : Fw) (R : Ending → Hp → Prop) : List (Nat × List (Nat × Sw)) → List Cut
  | [] => []
  | c :: l => M.cut R c :: cutL M R l
def Fw.ptD (M : Fw) (at_ : Nat) (R : Ending → Hp → Prop) (D : List (Nat × Dw)) (σ : Hp) : Prop := PTv (M.gl R) (itsD M.K (tdo M.K at_)) (boxW (boxL D [])) (denE D) σ
noncomputable def Fw.pt (M : Fw) (i : Nat) (R : Ending → Hp → Prop) : Ar (nth (0, []) M.cuts i).2 (Hp → Prop) := cur (nth (0, []) M.cuts i).2 (M.ptD (nth (0, []) M.cuts i).1 R)
structure Fw.Ok (M : Fw) : Prop where
  E : Ents M.P M.ent
  mixed : M.P.follows .mixedOrders = true
  fnc : M.P.funcs[M.f]? = some M.fn
  body : M.fn.body.isSome = true
theorem Fw.cx_ok {M : Fw} {R : Ending → Hp → Prop} (h : M.Ok) : (M.cx R).Ok (M.gl R) M.fn := ⟨⟨rfl, rfl, h.E, rfl, rfl, rfl⟩, h.mixed, h.fnc, rfl, rfl, rfl⟩
theorem ptrs_zip {vl : Vl} : ∀ {l : List Nat} {B : List BoxS}, ∃ δ : List Nat, δ.length = (zipB vl l B).length ∧ ptrV (zipB vl l B) δ = ptrsOf vl l B ∧ (l.length = B.length → bxV (zipB vl l B) δ = boxV vl B)
  | [], [] => ⟨[], rfl, rfl, fun _ => rfl⟩
  | [], _ :: _ => ⟨[], rfl, rfl, fun h => by simp at h⟩
  | _ :: _, [] => ⟨[], rfl, rfl, fun h => by simp at h⟩
  | t :: l, (i, T, cs) :: B => by
    obtain ⟨δ, h1, h2, h3⟩ := ptrs_zip (vl := vl) (l := l) (B := B)
    exact ⟨nth 0 vl.δ i :: δ, by simp [zipB, h1], by simp only [zipB, ptrV, ptrsOf]; rw [h2], fun h => by simp only [zipB, bxV, boxV]; rw [h3 (by simpa using h)]⟩
theorem subB_len {s : S} : ∀ {l : List Nat} {bx B : List BoxS}, s.subB l bx = some B → l.length = B.length
  | [], bx, B, h => by simp only [S.subB, Option.some.injEq] at h; subst h; rfl
  | t :: l, bx, B, h => by
    simp only [S.subB] at h
    split at h
    · split at h
      · split at h
        · rename_i m hm
          cases h
          simp [subB_len hm]
        · cases h
      · cases h
    · cases h
theorem Fw.cut_ok (M : Fw) (R : Ending → Hp → Prop) (c : Nat × List (Nat × Sw)) : (M.cut R c).Ok (M.gl R) M.K := fun s J h => by
  simp only [Fw.cut] at h
  split at h
  · rename_i vs B h1 h2
    obtain ⟨δ, e1, e2, e3⟩ := ptrs_zip (vl := s.vl) (l := boxs c.2 []) (B := B)
    refine At.getsB h1 h2 fun J => ?_
    have := PB_all (h J) δ e1
    rw [e2, e3 (subB_len h2)] at this
    exact this
  · cases h
theorem cutL_ok {M : Fw} {R : Ending → Hp → Prop} : ∀ {l : List (Nat × List (Nat × Sw))}, ∀ k ∈ cutL M R l, k.Ok (M.gl R) M.K
  | c :: l, k, hk => by
    rcases List.mem_cons.1 hk with rfl | hk
    · exact M.cut_ok R c
    · exact cutL_ok k hk
theorem boxW_len : ∀ {l : List Bv}, (boxW l).length = l.length
  | [] => rfl
  | _ :: m => by simp only [boxW, List.length_cons]; rw [boxW_len]
def PX (F : Prop) : List Bv → (List Nat → Prop) → Prop
  | [], K => F = K []
  | _ :: m, K => ∀ b : Nat, PX F m fun δ => K (b :: δ)
theorem PX_all {F : Prop} (h : F) : ∀ {l : List Bv} {K : List Nat → Prop}, PX F l K → ∀ δ, δ.length = l.length → K δ
  | [], K, e, [], _ => e ▸ h
  | _ :: m, K, e, b :: δ, hl => PX_all h (e b) δ (by simpa using hl)
theorem Fw.ofB {M : Fw} {R : Ending → Hp → Prop} {at_ : Nat} {D : List (Nat × Dw)} {σ : Hp} {F : Prop} (h : F) (ok : M.Ok) (e : PX F (boxL D []) fun δ => walkV (M.cx R) (cutL M R M.cuts) 4000 true (tdo M.K at_) (stD D δ σ)) : M.ptD at_ R D σ := fun J => by
  refine all_PB fun δ hl => ?_
  rw [boxW_len] at hl
  have := walkV_sound (J := J) (Fw.cx_ok ok) cutL_ok (PX_all h e δ hl)
  obtain ⟨e1, e2⟩ := stD_ok (D := D) (σ := σ) (J := J) hl
  rw [e1, e2] at this
  exact this
theorem Fw.of {M : Fw} {R : Ending → Hp → Prop} {at_ : Nat} {D : List (Nat × Dw)} {σ : Hp} {F : Prop} (h : F) (ok : M.Ok) (hb : boxL D [] = []) (e : F = walkV (M.cx R) (cutL M R M.cuts) 4000 true (tdo M.K at_) (stD D [] σ) := by kernel_rfl) : M.ptD at_ R D σ :=
  M.ofB h ok (by rw [hb]; exact e)
theorem Fw.of1 {M : Fw} {R : Ending → Hp → Prop} {at_ : Nat} {D : List (Nat × Dw)} {σ : Hp} {F : Prop} {x1 : Bv} (h : F) (ok : M.Ok) (hb : boxL D [] = [x1]) (e : ∀ b1 : Nat, F = walkV (M.cx R) (cutL M R M.cuts) 4000 true (tdo M.K at_) (stD D [b1] σ)) : M.ptD at_ R D σ :=
  M.ofB h ok (by rw [hb]; exact e)
theorem Fw.of2 {M : Fw} {R : Ending → Hp → Prop} {at_ : Nat} {D : List (Nat × Dw)} {σ : Hp} {F : Prop} {x1 x2 : Bv} (h : F) (ok : M.Ok) (hb : boxL D [] = [x1, x2]) (e : ∀ b1 b2 : Nat, F = walkV (M.cx R) (cutL M R M.cuts) 4000 true (tdo M.K at_) (stD D [b1, b2] σ)) : M.ptD at_ R D σ :=
  M.ofB h ok (by rw [hb]; exact e)
theorem Fw.of3 {M : Fw} {R : Ending → Hp → Prop} {at_ : Nat} {D : List (Nat × Dw)} {σ : Hp} {F : Prop} {x1 x2 x3 : Bv} (h : F) (ok : M.Ok) (hb : boxL D [] = [x1, x2, x3]) (e : ∀ b1 b2 b3 : Nat, F = walkV (M.cx R) (cutL M R M.cuts) 4000 true (tdo M.K at_) (stD D [b1, b2, b3] σ)) : M.ptD at_ R D σ :=
  M.ofB h ok (by rw [hb]; exact e)
theorem Fw.of4 {M : Fw} {R : Ending → Hp → Prop} {at_ : Nat} {D : List (Nat × Dw)} {σ : Hp} {F : Prop} {x1 x2 x3 x4 : Bv} (h : F) (ok : M.Ok) (hb : boxL D [] = [x1, x2, x3, x4]) (e : ∀ b1 b2 b3 b4 : Nat, F = walkV (M.cx R) (cutL M R M.cuts) 4000 true (tdo M.K at_) (stD D [b1, b2, b3, b4] σ)) : M.ptD at_ R D σ :=
  M.ofB h ok (by rw [hb]; exact e)
def dvOf : Value → Dv
  | .int k x => .I k x
  | .bool t => .B t
  | .string x => .T x
  | .slice p n c => .L p n c
  | .pointer p => .Q p
  | .map x => .M x
  | x => .V x
theorem dvOf_den (x : Value) : (dvOf x).den = x := by cases x <;> rfl
def dvsOf : List Value → List Dv
  | [] => []
  | x :: l => dvOf x :: dvsOf l
theorem dvsOf_den : ∀ l : List Value, denL (dvsOf l) = l
  | [] => rfl
  | x :: l => by simp only [dvsOf, denL]; rw [dvOf_den, dvsOf_den]
def dwOf : Value → Dw
  | .agg cs => .G (dvsOf cs.toList)
  | x => .o (dvOf x)
theorem dwOf_den (x : Value) : (dwOf x).den = x := by
  cases x
  case agg cs => simp only [dwOf, Dw.den, dvsOf_den]
  all_goals (simp only [dwOf, Dw.den]; exact dvOf_den _)
def adOf : Value → Dw
  | .pointer (some ⟨b, 0, none⟩) => .o (.A b)
  | x => .o (.V x)
theorem adOf_den (x : Value) : (adOf x).den = x := by
  unfold adOf; split <;> rfl
def entD (np : Nat) : Nat → List Value → List (Nat × Dw)
  | _, [] => []
  | k, x :: l => match Nat.blt k np with
    | true => (k, dwOf x) :: entD np (k + 1) l
    | false => (k, adOf x) :: entD np (k + 1) l
theorem dwOf_box (x : Value) : (∃ y, dwOf x = .o y) ∨ ∃ y, dwOf x = .G y := by cases x <;> first | exact .inr ⟨_, rfl⟩ | exact .inl ⟨_, rfl⟩
theorem adOf_box (x : Value) : ∃ y, adOf x = .o y := by unfold adOf; split <;> exact ⟨_, rfl⟩
theorem entD_ok {np : Nat} : ∀ {l : List Value} {k : Nat}, denE (entD np k l) = enumV k l ∧ boxL (entD np k l) [] = []
  | [], _ => ⟨rfl, rfl⟩
  | x :: l, k => by
    obtain ⟨h1, h2⟩ := entD_ok (np := np) (l := l) (k := k + 1)
    simp only [entD]
    split
    · have hd := dwOf_den x
      rcases dwOf_box x with ⟨y, hy⟩ | ⟨y, hy⟩ <;> rw [hy] at hd ⊢ <;> exact ⟨by simp only [denE, enumV]; rw [hd, h1], h2⟩
    · have hd := adOf_den x
      obtain ⟨y, hy⟩ := adOf_box x
      rw [hy] at hd ⊢
      exact ⟨by simp only [denE, enumV]; rw [hd, h1], h2⟩
def Fw.run (M : Fw) (R : Ending → Hp → Prop) (k : Nat) (D : List (Nat × Dw)) (σ : Hp) : Prop := match Nat.ble k M.fn.ntmps with
  | true => walkV (M.cx R) (cutL M R M.cuts) 4000 true [.c []] (stD D [] σ)
  | false => False
theorem Fw.startD {M : Fw} {R : Ending → Hp → Prop} {args : Array Value} {σ : Hp} {F : Prop} (h : F) (ok : M.Ok) (D : List (Nat × Dw)) (hx : boxL D [] = []) (hD : denE D = enumV 0 args.toList) (e : F = M.run R args.size D σ) : Spec M.P M.f args σ R := by
  subst e
  unfold Fw.run at h
  split at h
  case h_2 => exact h.elim
  rename_i hn
  obtain ⟨fb, hb⟩ := Option.isSome_iff_exists.1 ok.body
  refine Spec.walk (c := M.cx R) (cuts := cutL M R M.cuts) (s := stD D [] σ) (fuel := 4000) (Fw.cx_ok ok) ?_ rfl hn cutL_ok ?_ ?_ h
  · show M.fn.body = some (M.fn.body.getD .skip)
    rw [hb]; rfl
  · obtain ⟨h4, _⟩ := symE_ok (l := D) (n := ⟨[], []⟩) (v := ⟨(symE D ⟨[], []⟩).2.ρ, (symE D ⟨[], []⟩).2.β, []⟩) ⟨fun _ _ => rfl, fun _ _ => rfl⟩
    rw [hD] at h4
    simp only [stD, hx]
    exact h4
  · simp only [stD, hx]; rfl
theorem Fw.start {M : Fw} {R : Ending → Hp → Prop} {args : Array Value} {σ : Hp} {F : Prop} (h : F) (ok : M.Ok) (e : F = M.run R args.size (entD M.fn.params.size 0 args.toList) σ := by kernel_rfl) : Spec M.P M.f args σ R :=
  M.startD h ok _ entD_ok.2 entD_ok.1 e
abbrev wI : Sw := .o (.I .i64)
abbrev wU : Sw := .o (.I .u64)
abbrev w8 : Sw := .o (.I .u8)
abbrev wB : Sw := .o .B
abbrev wT : Sw := .o .T
abbrev wL : Sw := .o .L
abbrev wQ : Sw := .o .Q
abbrev wA : Sw := .o .A
abbrev wM : Sw := .o .M
abbrev wV : Sw := .o .V
abbrev aD (b o : Nat) : Option Addr := some ⟨b, o, none⟩
abbrev Br (p A B : Prop) : Prop := (p → A) ∧ (¬ p → B)
abbrev Bm (p A B : Prop) : Prop := (¬ p → A) ∧ (p → B)
abbrev Bo (t : Bool) (A B : Prop) : Prop := (t = true → A) ∧ (t = false → B)
abbrev Bn (t : Bool) (A B : Prop) : Prop := (t = false → A) ∧ (t = true → B)
abbrev Pq (p : Option Addr) (K : Nat → Nat → Prop) : Prop := ∃ b o : Nat, p = some ⟨b, o, none⟩ ∧ K b o
abbrev In (x n : Int) : Prop := (0 : Int) ≤ x ∧ x < n
abbrev Df (r : Int) (K : Int → Prop) : Prop := ∀ x : Int, x = r → K x
abbrev Al (σ : Hp) (K : Nat → Prop) : Prop := ∀ b : Nat, σ b = none → K b
abbrev LI (k : IntKind) (σ : Hp) (b o : Nat) (K : Int → Prop) : Prop := ∃ x : Int, Hp.ld σ ⟨b, o, none⟩ = some (.int k x) ∧ K x
abbrev LB (σ : Hp) (b o : Nat) (K : Bool → Prop) : Prop := ∃ x : Bool, Hp.ld σ ⟨b, o, none⟩ = some (.bool x) ∧ K x
abbrev LT (σ : Hp) (b o : Nat) (K : ByteArray → Prop) : Prop := ∃ x : ByteArray, Hp.ld σ ⟨b, o, none⟩ = some (.string x) ∧ K x
abbrev LQ (σ : Hp) (b o : Nat) (K : Option Addr → Prop) : Prop := ∃ x : Option Addr, Hp.ld σ ⟨b, o, none⟩ = some (.pointer x) ∧ K x
abbrev LS (σ : Hp) (b o : Nat) (K : Option Addr → Nat → Nat → Prop) : Prop := ∃ p : Option Addr, ∃ n : Nat, ∃ c : Nat, Hp.ld σ ⟨b, o, none⟩ = some (.slice p n c) ∧ K p n c
abbrev CI (k : IntKind) (K : Int → Hp → Prop) : Value → Hp → Prop := fun v σ => ∃ x : Int, v = .int k x ∧ K x σ
abbrev CB (K : Bool → Hp → Prop) : Value → Hp → Prop := fun v σ => ∃ x : Bool, v = .bool x ∧ K x σ
abbrev CT (K : ByteArray → Hp → Prop) : Value → Hp → Prop := fun v σ => ∃ x : ByteArray, v = .string x ∧ K x σ
abbrev CQ (K : Option Addr → Hp → Prop) : Value → Hp → Prop := fun v σ => ∃ x : Option Addr, v = .pointer x ∧ K x σ
abbrev CS (K : Option Addr → Nat → Nat → Hp → Prop) : Value → Hp → Prop := fun v σ => ∃ p : Option Addr, ∃ n : Nat, ∃ c : Nat, v = .slice p n c ∧ K p n c σ
end Tw
end
section
set_option maxRecDepth 100000
noncomputable section
namespace TwW
open Go Tw Go.Proofs.Tryz
variable [Cnt] {R : Ending → Hp → Prop} {σ : Hp}

namespace eval_time
variable {x0 : Int}
def M : Fw := ⟨prog, 11, f11, [], [], false, [], [], []⟩
theorem ok : M.Ok := ⟨Ents.nil, mixed, func11, by kernel_rfl⟩
theorem start (h : Br (((-1099511627776) : Int) ≤ x0) (R (.returned (.bool (decide (x0 ≤ 1099511627776)))) σ) (R (.returned (.bool false)) σ)) : Spec prog 11 #[.int .i64 x0] σ R := M.start h ok
end eval_time
namespace law22_one
variable {v0 : Value}
def M : Fw := ⟨prog, 17, f17, [], [], false, [], [], []⟩
theorem ok : M.Ok := ⟨Ents.nil, mixed, func17, by kernel_rfl⟩
theorem start (h : EN prog 26 #[v0] σ (CI .u64 fun x4 y => R (.returned (.int .u64 x4)) y)) : Spec prog 17 #[v0] σ R := M.startD h ok [(0, .o (.V v0))] rfl rfl (by kernel_rfl)
end law22_one
namespace eval_Range
def K0 := f18.body.getD .skip
def K1 := cl K0
def K2 := cr K0
def K3 := cl K2
def K4 := cl K3
def K5 := cr K3
def K6 := cl K5
def K7 := cr K5
def K8 := cl K7
def K9 := cl K8
def K10 := cr K8
def K11 := cr K7
def K12 := cr K2
def K13 := cl K12
def K14 := cl K13
def K15 := cr K13
def K16 := cl K15
def K17 := cl K16
def K18 := cr K16
def K19 := cr K15
def K20 := cr K12
def K21 := cl K20
def K22 := cl K21
def K23 := cr K21
def K24 := cl K23
def K25 := cl K24
def K26 := cr K24
def K27 := cr K23
def K28 := cr K20
def K29 := cl K28
def K30 := cr K28
def K31 := cl K30
def K32 := cr K30
def K33 := cl K32
def K34 := cl K33
def K35 := cr K33
def K36 := cl K35
def K37 := cl K36
def K38 := cr K36
def K39 := cl K38
def K40 := cl K39
def K41 := cr K39
def K42 := cl K41
def K43 := cl K42
def K44 := cr K42
def K45 := cl K44
def K46 := cl K45
def K47 := cr K45
def K48 := cr K44
def K49 := cr K41
def K50 := cl K49
def K51 := cr K49
def K52 := cl K51
def K53 := cl K52
def K54 := cl K53
def K55 := cr K53
def K56 := cl K55
def K57 := cl K56
def K58 := cr K56
def K59 := cr K55
def K60 := cl K59
def K61 := cl K60
def K62 := cl K61
def K63 := cr K61
def K64 := cl K63
def K65 := cr K63
def K66 := cl K65
def K67 := cl K66
def K68 := cr K66
def K69 := cl K68
def K70 := cl K69
def K71 := cr K69
def K72 := cl K71
def K73 := cr K71
def K74 := cr K68
def K75 := cr K65
def K76 := cr K59
def K77 := cr K32
def K78 := cl K77
def K79 := cr K77
def K80 := cl K79
def K81 := cr K79
def K82 : Code := .ret
abbrev gl (R : Ending → Hp → Prop) : Gl := Gl.fn prog 18 117 R
def pt37 (R : Ending → Hp → Prop) (l : Nat) (r0 : Loop) (b5 b6 b10 b11 b13 b14 : Nat) (x56 : Int) (σ : Hp) : Prop := ∀ (J : Env), At (Gl.round prog 18 117 l R) [.code K37, .beginRound, .code K38] (upds J [(5, (.pointer (some ⟨b5, 0, none⟩))), (6, (.pointer (some ⟨b6, 0, none⟩))), (10, (.pointer (some ⟨b10, 0, none⟩))), (11, (.pointer (some ⟨b11, 0, none⟩))), (13, (.pointer (some ⟨b13, 0, none⟩))), (14, (.pointer (some ⟨b14, 0, none⟩))), (56, (.int .i64 x56))]) [] σ
def pt54 (R : Ending → Hp → Prop) (l : Nat) (r0 : Loop) (b13 b14 : Nat) (x15 : Int) (p67 : Option Addr) (n67 c67 : Nat) (x68 x69 : Int) (σ : Hp) : Prop := ∀ (J : Env), At (Gl.round prog 18 117 l R) [.code K54, .code K55, .inLoop K53, .inBlock 2, .inBlock 1] (upds J [(13, (.pointer (some ⟨b13, 0, none⟩))), (14, (.pointer (some ⟨b14, 0, none⟩))), (15, (.int .i64 x15)), (67, (.slice p67 n67 c67)), (68, (.int .i64 x68)), (69, (.int .i64 x69))]) [] σ
def pt75 (R : Ending → Hp → Prop) (l : Nat) (r0 : Loop) (b13 b14 : Nat) (x15 : Int) (b19 : Nat) (x20 : Int) (p67 : Option Addr) (n67 c67 : Nat) (x68 x69 : Int) (σ : Hp) : Prop := ∀ (J : Env), At (Gl.round prog 18 117 l R) [.code K75, .inBlock 3, .code K76, .inLoop K53, .inBlock 2, .inBlock 1] (upds J [(13, (.pointer (some ⟨b13, 0, none⟩))), (14, (.pointer (some ⟨b14, 0, none⟩))), (15, (.int .i64 x15)), (19, (.pointer (some ⟨b19, 0, none⟩))), (20, (.int .i64 x20)), (67, (.slice p67 n67 c67)), (68, (.int .i64 x68)), (69, (.int .i64 x69))]) [] σ
theorem start {R : Ending → Hp → Prop} {p0 p1 : Option Addr} {n0 c0 n1 c1 : Nat} {x2 x3 x4 : Int} {σ : Hp} (h : ∀ b5 : Nat, σ b5 = none → ∀ b6 : Nat, (Hp.set σ b5 (.cells #[(.slice p0 n0 c0)] 22 (0, 0))) b6 = none → ∀ b10 : Nat, (Hp.set (Hp.set σ b5 (.cells #[(.slice p0 n0 c0)] 22 (0, 0))) b6 (.cells #[(.slice p1 n1 c1)] 23 (0, 0))) b10 = none → ∀ b11 : Nat, (Hp.set (Hp.set (Hp.set σ b5 (.cells #[(.slice p0 n0 c0)] 22 (0, 0))) b6 (.cells #[(.slice p1 n1 c1)] 23 (0, 0))) b10 (.cells #[(.slice none 0 0)] 23 (0, 0))) b11 = none → ∃ p22 : Option Addr, ∃ n22 : Nat, ∃ c22 : Nat, Hp.ld (Hp.set (Hp.set (Hp.set (Hp.set σ b5 (.cells #[(.slice p0 n0 c0)] 22 (0, 0))) b6 (.cells #[(.slice p1 n1 c1)] 23 (0, 0))) b10 (.cells #[(.slice none 0 0)] 23 (0, 0))) b11 (.cells #[(.int .i64 0)] 24 (0, 0))) ⟨b5, 0, none⟩ = some (.slice p22 n22 c22) ∧ ∃ p23 : Option Addr, ∃ n23 : Nat, ∃ c23 : Nat, Hp.ld (Hp.set (Hp.set (Hp.set (Hp.set σ b5 (.cells #[(.slice p0 n0 c0)] 22 (0, 0))) b6 (.cells #[(.slice p1 n1 c1)] 23 (0, 0))) b10 (.cells #[(.slice none 0 0)] 23 (0, 0))) b11 (.cells #[(.int .i64 0)] 24 (0, 0))) ⟨b6, 0, none⟩ = some (.slice p23 n23 c23) ∧ Spec prog 10 #[(.slice p22 n22 c22), (.slice p23 n23 c23)] (Hp.set (Hp.set (Hp.set (Hp.set σ b5 (.cells #[(.slice p0 n0 c0)] 22 (0, 0))) b6 (.cells #[(.slice p1 n1 c1)] 23 (0, 0))) b10 (.cells #[(.slice none 0 0)] 23 (0, 0))) b11 (.cells #[(.int .i64 0)] 24 (0, 0))) (Cont R (fun v σ1 => ∃ x24 : Int, v = (.int .i64 x24) ∧ ((x24 : Int) ≠ 0 → Eff prog (Instr.storeAt 23 (.pointer (some ⟨b10, 0, none⟩)) (.slice none 0 0)) σ1 (fun _ σ1_2 => Eff prog (Instr.storeAt 24 (.pointer (some ⟨b11, 0, none⟩)) (.int .i64 x24)) σ1_2 (fun _ σ1_3 => ∃ pr10 : Option Addr, ∃ nr10 : Nat, ∃ cr10 : Nat, ∃ xr11 : Int, Hp.ld σ1_3 ⟨b10, 0, none⟩ = some (.slice pr10 nr10 cr10) ∧ Hp.ld σ1_3 ⟨b11, 0, none⟩ = some (.int .i64 xr11) ∧ R (.returned (.tuple #[(.slice pr10 nr10 cr10), (.int .i64 xr11)])) σ1_3))) ∧ (¬ ((x24 : Int) ≠ 0) → Spec prog 11 #[(.int .i64 x2)] σ1 (Cont R (fun v_2 σ1_2 => ∃ t29 : Bool, v_2 = (.bool t29) ∧ (t29 = false → Eff prog (Instr.storeAt 23 (.pointer (some ⟨b10, 0, none⟩)) (.slice none 0 0)) σ1_2 (fun _ σ1_3 => Eff prog (Instr.storeAt 24 (.pointer (some ⟨b11, 0, none⟩)) (.int .i64 221)) σ1_3 (fun _ σ1_4 => ∃ pr10 : Option Addr, ∃ nr10 : Nat, ∃ cr10 : Nat, ∃ xr11 : Int, Hp.ld σ1_4 ⟨b10, 0, none⟩ = some (.slice pr10 nr10 cr10) ∧ Hp.ld σ1_4 ⟨b11, 0, none⟩ = some (.int .i64 xr11) ∧ R (.returned (.tuple #[(.slice pr10 nr10 cr10), (.int .i64 xr11)])) σ1_4))) ∧ (t29 = true → Spec prog 11 #[(.int .i64 x3)] σ1_2 (Cont R (fun v_3 σ1_3 => ∃ t33 : Bool, v_3 = (.bool t33) ∧ (t33 = false → Eff prog (Instr.storeAt 23 (.pointer (some ⟨b10, 0, none⟩)) (.slice none 0 0)) σ1_3 (fun _ σ1_4 => Eff prog (Instr.storeAt 24 (.pointer (some ⟨b11, 0, none⟩)) (.int .i64 221)) σ1_4 (fun _ σ1_5 => ∃ pr10 : Option Addr, ∃ nr10 : Nat, ∃ cr10 : Nat, ∃ xr11 : Int, Hp.ld σ1_5 ⟨b10, 0, none⟩ = some (.slice pr10 nr10 cr10) ∧ Hp.ld σ1_5 ⟨b11, 0, none⟩ = some (.int .i64 xr11) ∧ R (.returned (.tuple #[(.slice pr10 nr10 cr10), (.int .i64 xr11)])) σ1_5))) ∧ (t33 = true → ((x3 : Int) < x2 → Eff prog (Instr.storeAt 23 (.pointer (some ⟨b10, 0, none⟩)) (.slice none 0 0)) σ1_3 (fun _ σ1_4 => Eff prog (Instr.storeAt 24 (.pointer (some ⟨b11, 0, none⟩)) (.int .i64 221)) σ1_4 (fun _ σ1_5 => ∃ pr10 : Option Addr, ∃ nr10 : Nat, ∃ cr10 : Nat, ∃ xr11 : Int, Hp.ld σ1_5 ⟨b10, 0, none⟩ = some (.slice pr10 nr10 cr10) ∧ Hp.ld σ1_5 ⟨b11, 0, none⟩ = some (.int .i64 xr11) ∧ R (.returned (.tuple #[(.slice pr10 nr10 cr10), (.int .i64 xr11)])) σ1_5))) ∧ (¬ ((x3 : Int) < x2) → ((x4 : Int) < 1 → Eff prog (Instr.storeAt 23 (.pointer (some ⟨b10, 0, none⟩)) (.slice none 0 0)) σ1_3 (fun _ σ1_4 => Eff prog (Instr.storeAt 24 (.pointer (some ⟨b11, 0, none⟩)) (.int .i64 221)) σ1_4 (fun _ σ1_5 => ∃ pr10 : Option Addr, ∃ nr10 : Nat, ∃ cr10 : Nat, ∃ xr11 : Int, Hp.ld σ1_5 ⟨b10, 0, none⟩ = some (.slice pr10 nr10 cr10) ∧ Hp.ld σ1_5 ⟨b11, 0, none⟩ = some (.int .i64 xr11) ∧ R (.returned (.tuple #[(.slice pr10 nr10 cr10), (.int .i64 xr11)])) σ1_5))) ∧ (¬ ((x4 : Int) < 1) → I64 (x3 - x2) ∧ x4 ≠ (0 : Int) ∧ ∀ x49 : Int, x49 = IntKind.i64.wrap (Int.tdiv (x3 - x2) x4) → ((512 : Int) ≤ x49 → Eff prog (Instr.storeAt 23 (.pointer (some ⟨b10, 0, none⟩)) (.slice none 0 0)) σ1_3 (fun _ σ1_4 => Eff prog (Instr.storeAt 24 (.pointer (some ⟨b11, 0, none⟩)) (.int .i64 222)) σ1_4 (fun _ σ1_5 => ∃ pr10 : Option Addr, ∃ nr10 : Nat, ∃ cr10 : Nat, ∃ xr11 : Int, Hp.ld σ1_5 ⟨b10, 0, none⟩ = some (.slice pr10 nr10 cr10) ∧ Hp.ld σ1_5 ⟨b11, 0, none⟩ = some (.int .i64 xr11) ∧ R (.returned (.tuple #[(.slice pr10 nr10 cr10), (.int .i64 xr11)])) σ1_5))) ∧ (¬ ((512 : Int) ≤ x49) → Eff prog (Instr.makeMap 85 none) σ1_3 (fun v_4 σ1_4 => ∃ m51 : Nat, v_4 = (.map (some m51)) ∧ ∀ b13 : Nat, σ1_4 b13 = none → Eff prog (Instr.storeAt 85 (.pointer (some ⟨b13, 0, none⟩)) (.map (some m51))) (Hp.set σ1_4 b13 (.cells #[(.map none)] 85 (0, 0))) (fun _ σ1_5 => ∀ b14 : Nat, σ1_5 b14 = none → Spec prog 27 #[(.int .i64 x2), (.int .i64 x3), (.int .i64 x4)] (Hp.set σ1_5 b14 (.cells #[(.slice none 0 0)] 23 (0, 0))) (Cont R (fun v_5 σ1_6 => ∃ f55 : Fn, ∃ a55 : Array Value, ∃ c55 : Array Value, (Value.func f55 a55 c55) = v_5 ∧ ∃ (gf : Nat) (lb : Array Value), (Value.func f55 a55 c55) = .func (.func gf) #[] lb ∧ Enters prog gf ∧ ∀ (D_2 l_2 : Nat) (r0_2 : Loop), D_2 ≠ l_2 → σ1_6 D_2 = none → σ1_6 l_2 = none → (∀ (R2 : Ending → Hp → Prop) (σ2 : Hp) (xy56 : Int), σ2 l_2 = some (.loop (lp r0_2 .ready none)) → pt37 R2 l_2 r0_2 b5 b6 b10 b11 b13 b14 xy56 σ2 → YSpec prog l_2 #[(.int .i64 xy56)] σ2 R2) → Spec prog gf (#[.func (.yield l_2) #[] #[]] ++ lb) (Hp.set (Hp.set σ1_6 D_2 (.deferred (some []))) l_2 (.loop (lp r0_2 .ready none))) (fun en σ1_7 => ∃ (v : Value) (s : LoopState) (p : Option Code), en = .returned v ∧ σ1_7 l_2 = some (.loop (lp r0_2 s p)) ∧ s ≠ .busy ∧ ((p = none ∧ ∃ p114 : Option Addr, ∃ n114 : Nat, ∃ c114 : Nat, Hp.ld (Hp.set σ1_7 l_2 (.loop (lp r0_2 .exhausted none))) ⟨b14, 0, none⟩ = some (.slice p114 n114 c114) ∧ Spec prog 29 #[(.slice p114 n114 c114), (.func (.func 30) #[] #[])] (Hp.set σ1_7 l_2 (.loop (lp r0_2 .exhausted none))) (Cont (NP R) (fun v_6 σ1_8 => v_6 = (.tuple #[]) ∧ ∃ p116 : Option Addr, ∃ n116 : Nat, ∃ c116 : Nat, Hp.ld σ1_8 ⟨b14, 0, none⟩ = some (.slice p116 n116 c116) ∧ Eff prog (Instr.storeAt 23 (.pointer (some ⟨b10, 0, none⟩)) (.slice p116 n116 c116)) σ1_8 (fun _ σ1_9 => Eff prog (Instr.storeAt 24 (.pointer (some ⟨b11, 0, none⟩)) (.int .i64 0)) σ1_9 (fun _ σ1_10 => ∃ pr10 : Option Addr, ∃ nr10 : Nat, ∃ cr10 : Nat, ∃ xr11 : Int, σ1_10 D_2 = some (.deferred (some [])) ∧ Hp.ld (Hp.set σ1_10 D_2 (.deferred none)) ⟨b10, 0, none⟩ = some (.slice pr10 nr10 cr10) ∧ Hp.ld (Hp.set σ1_10 D_2 (.deferred none)) ⟨b11, 0, none⟩ = some (.int .i64 xr11) ∧ R (.returned (.tuple #[(.slice pr10 nr10 cr10), (.int .i64 xr11)])) (Hp.set σ1_10 D_2 (.deferred none))))))) ∨ (p = (some .ret) ∧ ∃ pr10_2 : Option Addr, ∃ nr10_2 : Nat, ∃ cr10_2 : Nat, ∃ xr11_2 : Int, (Hp.set σ1_7 l_2 (.loop (lp r0_2 .exhausted (some .ret)))) D_2 = some (.deferred (some [])) ∧ Hp.ld (Hp.set (Hp.set σ1_7 l_2 (.loop (lp r0_2 .exhausted (some .ret)))) D_2 (.deferred none)) ⟨b10, 0, none⟩ = some (.slice pr10_2 nr10_2 cr10_2) ∧ Hp.ld (Hp.set (Hp.set σ1_7 l_2 (.loop (lp r0_2 .exhausted (some .ret)))) D_2 (.deferred none)) ⟨b11, 0, none⟩ = some (.int .i64 xr11_2) ∧ R (.returned (.tuple #[(.slice pr10_2 nr10_2 cr10_2), (.int .i64 xr11_2)])) (Hp.set (Hp.set σ1_7 l_2 (.loop (lp r0_2 .exhausted (some .ret)))) D_2 (.deferred none)))))))))))))))))))))) : Spec prog 18 #[(.slice p0 n0 c0), (.slice p1 n1 c1), (.int .i64 x2), (.int .i64 x3), (.int .i64 x4)] σ R := by
  refine Spec.of_at (fn := f18) (c := K0) func18 (by kernel_rfl) (Nat.le_of_ble_eq_true (by kernel_rfl)) (fun e he => ?_)
  refine At.ofL (l := [(0, (.slice p0 n0 c0)), (1, (.slice p1 n1 c1)), (2, (.int .i64 x2)), (3, (.int .i64 x3)), (4, (.int .i64 x4))]) ⟨he 0, he 1, he 2, he 3, he 4, trivial⟩ (fun J => ?_)
  show At (gl R) _ _ _ _
  refine At.s K1 K2 ?_
  refine At.rg 0 [0, 1, 2, 3] ?_
  refine Seq.o ?_
  refine OpTo.boxO (T := 22) (d := (some 5)) (ty := 0) (x := (.tmp 0)) (gd := none) (cs := #[(.slice p0 n0 c0)]) (by kernel_rfl) rfl rfl rfl (fun b5 hn => ?_)
  replace h := h b5 hn
  refine Seq.o ?_
  refine OpTo.boxO (T := 23) (d := (some 6)) (ty := 0) (x := (.tmp 1)) (gd := none) (cs := #[(.slice p1 n1 c1)]) (by kernel_rfl) rfl rfl rfl (fun b6 hn => ?_)
  replace h := h b6 hn
  refine Seq.o ?_
  refine OpTo.allocO (T := 23) (d := (some 10)) (ty := 0)  (gd := none) (cs := #[(.slice none 0 0)]) (by kernel_rfl) rfl rfl zeroValue23 rfl (fun b10 hn => ?_)
  replace h := h b10 hn
  refine Seq.o ?_
  refine OpTo.allocO (T := 24) (d := (some 11)) (ty := 0)  (gd := none) (cs := #[(.int .i64 0)]) (by kernel_rfl) rfl rfl zeroValue24 rfl (fun b11 hn => ?_)
  replace h := h b11 hn
  refine Seq.done ?_
  refine At.s K3 K12 ?_
  refine At.s K4 K5 ?_
  refine At.rg 1 [0, 1, 2, 3] ?_
  obtain ⟨p22, n22, c22, hl, h⟩ := h
  refine Seq.z 22 (.load 22 (.tmp 5)) 22 (.slice p22 n22 c22) (Y.ld isAgg22 rfl hl) ?_
  obtain ⟨p23, n23, c23, hl, h⟩ := h
  refine Seq.z 23 (.load 23 (.tmp 6)) 23 (.slice p23 n23 c23) (Y.ld isAgg23 rfl hl) ?_
  refine Seq.o ?_
  refine OpTo.cl (some 24) call10 (h.cont fun v σ1 h2 => ?_); replace h := h2; clear h2
  obtain ⟨x24, rfl, h⟩ := h
  refine Seq.u 12 (.int .i64 x24) ?_
  refine Seq.done ?_
  refine At.s K6 K7 ?_
  refine At.rg 2 [0, 1] ?_
  refine Seq.us [(25, .int .i64 x24), (26, .bool (decide ((x24 : Int) ≠ 0)))] ?_
  refine Seq.done ?_
  cases hb : (decide ((x24 : Int) ≠ 0)) with
  | true =>
    replace h := h.1 (of_decide_eq_true hb)
    refine At.cT 26 K8 K11 ?_
    refine At.s K9 K10 ?_
    refine At.rg 3 [0, 1, 2] ?_
    refine Seq.u 27 (.int .i64 x24) ?_
    refine Seq.o ?_
    refine OpTo.store (T := 23) (ty := 0) (x := (.tmp 10)) (y := (.const (.slice none 0 0))) (p := (.pointer (some ⟨b10, 0, none⟩))) (v := (.slice none 0 0)) (gd := none) (by kernel_rfl) rfl rfl rfl (h.mono (fun _ σ1_2 h2 => ?_)); replace h := h2; clear h2
    refine Seq.o ?_
    refine OpTo.store (T := 24) (ty := 0) (x := (.tmp 11)) (y := (.tmp 27)) (p := (.pointer (some ⟨b11, 0, none⟩))) (v := (.int .i64 x24)) (gd := none) (by kernel_rfl) rfl rfl rfl (h.mono (fun _ σ1_3 h2 => ?_)); replace h := h2; clear h2
    refine Seq.done ?_
    obtain ⟨pr10, nr10, cr10, xr11, hr10, hr11, h⟩ := h
    exact At.rt [.cell 10 23, .cell 11 24] [(.slice pr10 nr10 cr10), (.int .i64 xr11)] func18 ⟨_, _, rfl, ⟨_, rfl, ldo_run isAgg23 hr10⟩, ⟨_, _, rfl, ⟨_, rfl, ldo_run isAgg24 hr11⟩, rfl⟩⟩ h
  | false =>
    replace h := h.2 (of_decide_eq_false hb)
    refine At.cF 26 K8 K11 ?_
    refine At.skip ?_
    refine At.s K13 K20 ?_
    refine At.s K14 K15 ?_
    refine At.rg 4 [0, 1, 2, 3, 4, 5, 6, 7, 8, 9, 10, 11, 12, 13, 14, 15, 16] ?_
    refine Seq.u 28 (.int .i64 x2) ?_
    refine Seq.o ?_
    refine OpTo.cl (some 29) call11 (h.cont fun v_2 σ1_2 h2 => ?_); replace h := h2; clear h2
    obtain ⟨t29, rfl, h⟩ := h
    refine Seq.us [(30, .bool (!t29)), (31, .bool (!t29))] ?_
    cases hb : (!t29) with
    | true =>
      replace h := h.1 (Tw.nt hb)
      refine Seq.n 32 ?_
      refine Seq.n 33 ?_
      refine Seq.n 34 ?_
      refine Seq.us [(35, .bool true), (36, .bool true)] ?_
      refine Seq.n 37 ?_
      refine Seq.n 38 ?_
      refine Seq.n 39 ?_
      refine Seq.us [(40, .bool true), (41, .bool true)] ?_
      refine Seq.n 42 ?_
      refine Seq.n 43 ?_
      refine Seq.u 44 (.bool true) ?_
      refine Seq.done ?_
      refine At.cT 44 K16 K19 ?_
      refine At.s K17 K18 ?_
      refine At.rg 5 [0, 1] ?_
      refine Seq.o ?_
      refine OpTo.store (T := 23) (ty := 0) (x := (.tmp 10)) (y := (.const (.slice none 0 0))) (p := (.pointer (some ⟨b10, 0, none⟩))) (v := (.slice none 0 0)) (gd := none) (by kernel_rfl) rfl rfl rfl (h.mono (fun _ σ1_3 h2 => ?_)); replace h := h2; clear h2
      refine Seq.o ?_
      refine OpTo.store (T := 24) (ty := 0) (x := (.tmp 11)) (y := (.const (.int .i64 221))) (p := (.pointer (some ⟨b11, 0, none⟩))) (v := (.int .i64 221)) (gd := none) (by kernel_rfl) rfl rfl rfl (h.mono (fun _ σ1_4 h2 => ?_)); replace h := h2; clear h2
      refine Seq.done ?_
      obtain ⟨pr10, nr10, cr10, xr11, hr10, hr11, h⟩ := h
      exact At.rt [.cell 10 23, .cell 11 24] [(.slice pr10 nr10 cr10), (.int .i64 xr11)] func18 ⟨_, _, rfl, ⟨_, rfl, ldo_run isAgg23 hr10⟩, ⟨_, _, rfl, ⟨_, rfl, ldo_run isAgg24 hr11⟩, rfl⟩⟩ h
    | false =>
      replace h := h.2 (Tw.nf hb)
      refine Seq.u 32 (.int .i64 x3) ?_
      refine Seq.o ?_
      refine OpTo.cl (some 33) call11 (h.cont fun v_3 σ1_3 h2 => ?_); replace h := h2; clear h2
      obtain ⟨t33, rfl, h⟩ := h
      refine Seq.us [(34, .bool (!t33)), (35, .bool (!t33)), (36, .bool (!t33))] ?_
      cases hb : (!t33) with
      | true =>
        replace h := h.1 (Tw.nt hb)
        refine Seq.n 37 ?_
        refine Seq.n 38 ?_
        refine Seq.n 39 ?_
        refine Seq.us [(40, .bool true), (41, .bool true)] ?_
        refine Seq.n 42 ?_
        refine Seq.n 43 ?_
        refine Seq.u 44 (.bool true) ?_
        refine Seq.done ?_
        refine At.L [(2, (.int .i64 x2)), (3, (.int .i64 x3)), (4, (.int .i64 x4)), (5, (.pointer (some ⟨b5, 0, none⟩))), (6, (.pointer (some ⟨b6, 0, none⟩))), (10, (.pointer (some ⟨b10, 0, none⟩))), (11, (.pointer (some ⟨b11, 0, none⟩))), (44, (.bool true))] fun J => ?_
        refine At.cT 44 K16 K19 ?_
        refine At.s K17 K18 ?_
        refine At.rg 5 [0, 1] ?_
        refine Seq.o ?_
        refine OpTo.store (T := 23) (ty := 0) (x := (.tmp 10)) (y := (.const (.slice none 0 0))) (p := (.pointer (some ⟨b10, 0, none⟩))) (v := (.slice none 0 0)) (gd := none) (by kernel_rfl) rfl rfl rfl (h.mono (fun _ σ1_4 h2 => ?_)); replace h := h2; clear h2
        refine Seq.o ?_
        refine OpTo.store (T := 24) (ty := 0) (x := (.tmp 11)) (y := (.const (.int .i64 221))) (p := (.pointer (some ⟨b11, 0, none⟩))) (v := (.int .i64 221)) (gd := none) (by kernel_rfl) rfl rfl rfl (h.mono (fun _ σ1_5 h2 => ?_)); replace h := h2; clear h2
        refine Seq.done ?_
        obtain ⟨pr10, nr10, cr10, xr11, hr10, hr11, h⟩ := h
        exact At.rt [.cell 10 23, .cell 11 24] [(.slice pr10 nr10 cr10), (.int .i64 xr11)] func18 ⟨_, _, rfl, ⟨_, rfl, ldo_run isAgg23 hr10⟩, ⟨_, _, rfl, ⟨_, rfl, ldo_run isAgg24 hr11⟩, rfl⟩⟩ h
      | false =>
        replace h := h.2 (Tw.nf hb)
        refine Seq.us [(37, .int .i64 x2), (38, .int .i64 x3), (39, .bool (decide ((x3 : Int) < x2))), (40, .bool (decide ((x3 : Int) < x2))), (41, .bool (decide ((x3 : Int) < x2)))] ?_
        cases hb : (decide ((x3 : Int) < x2)) with
        | true =>
          replace h := h.1 (of_decide_eq_true hb)
          refine Seq.n 42 ?_
          refine Seq.n 43 ?_
          refine Seq.u 44 (.bool true) ?_
          refine Seq.done ?_
          refine At.cT 44 K16 K19 ?_
          refine At.s K17 K18 ?_
          refine At.rg 5 [0, 1] ?_
          refine Seq.o ?_
          refine OpTo.store (T := 23) (ty := 0) (x := (.tmp 10)) (y := (.const (.slice none 0 0))) (p := (.pointer (some ⟨b10, 0, none⟩))) (v := (.slice none 0 0)) (gd := none) (by kernel_rfl) rfl rfl rfl (h.mono (fun _ σ1_4 h2 => ?_)); replace h := h2; clear h2
          refine Seq.o ?_
          refine OpTo.store (T := 24) (ty := 0) (x := (.tmp 11)) (y := (.const (.int .i64 221))) (p := (.pointer (some ⟨b11, 0, none⟩))) (v := (.int .i64 221)) (gd := none) (by kernel_rfl) rfl rfl rfl (h.mono (fun _ σ1_5 h2 => ?_)); replace h := h2; clear h2
          refine Seq.done ?_
          obtain ⟨pr10, nr10, cr10, xr11, hr10, hr11, h⟩ := h
          exact At.rt [.cell 10 23, .cell 11 24] [(.slice pr10 nr10 cr10), (.int .i64 xr11)] func18 ⟨_, _, rfl, ⟨_, rfl, ldo_run isAgg23 hr10⟩, ⟨_, _, rfl, ⟨_, rfl, ldo_run isAgg24 hr11⟩, rfl⟩⟩ h
        | false =>
          replace h := h.2 (of_decide_eq_false hb)
          refine Seq.us [(42, .int .i64 x4), (43, .bool (decide ((x4 : Int) < 1))), (44, .bool (decide ((x4 : Int) < 1)))] ?_
          refine Seq.done ?_
          cases hb : (decide ((x4 : Int) < 1)) with
          | true =>
            replace h := h.1 (of_decide_eq_true hb)
            refine At.cT 44 K16 K19 ?_
            refine At.s K17 K18 ?_
            refine At.rg 5 [0, 1] ?_
            refine Seq.o ?_
            refine OpTo.store (T := 23) (ty := 0) (x := (.tmp 10)) (y := (.const (.slice none 0 0))) (p := (.pointer (some ⟨b10, 0, none⟩))) (v := (.slice none 0 0)) (gd := none) (by kernel_rfl) rfl rfl rfl (h.mono (fun _ σ1_4 h2 => ?_)); replace h := h2; clear h2
            refine Seq.o ?_
            refine OpTo.store (T := 24) (ty := 0) (x := (.tmp 11)) (y := (.const (.int .i64 221))) (p := (.pointer (some ⟨b11, 0, none⟩))) (v := (.int .i64 221)) (gd := none) (by kernel_rfl) rfl rfl rfl (h.mono (fun _ σ1_5 h2 => ?_)); replace h := h2; clear h2
            refine Seq.done ?_
            obtain ⟨pr10, nr10, cr10, xr11, hr10, hr11, h⟩ := h
            exact At.rt [.cell 10 23, .cell 11 24] [(.slice pr10 nr10 cr10), (.int .i64 xr11)] func18 ⟨_, _, rfl, ⟨_, rfl, ldo_run isAgg23 hr10⟩, ⟨_, _, rfl, ⟨_, rfl, ldo_run isAgg24 hr11⟩, rfl⟩⟩ h
          | false =>
            replace h := h.2 (of_decide_eq_false hb)
            refine At.cF 44 K16 K19 ?_
            refine At.skip ?_
            refine At.s K21 K28 ?_
            refine At.s K22 K23 ?_
            refine At.rg 6 [0, 1, 2, 3, 4, 5] ?_
            refine Seq.us [(45, .int .i64 x3), (46, .int .i64 x2)] ?_
            obtain ⟨hi, h⟩ := h
            refine Seq.z 47 (.binOp .sub 2 (.tmp 45) (.tmp 46) 2) 2 (.int .i64 (x3 - x2)) (Y.subI hi rfl rfl) ?_
            refine Seq.u 48 (.int .i64 x4) ?_
            obtain ⟨hc, h⟩ := h
            obtain ⟨x49, hwx49⟩ : ∃ y, y = IntKind.i64.wrap (Int.tdiv (x3 - x2) x4) := ⟨_, rfl⟩
            replace h := h x49 hwx49
            refine Seq.y (d := (some 49)) (op := (.binOp .quo 2 (.tmp 47) (.tmp 48) 2)) (ty := 2) (v := (.int .i64 x49)) (by kernel_rfl) rfl (hwx49 ▸ Y.quo hc rfl rfl) ?_
            refine Seq.u 50 (.bool (decide ((512 : Int) ≤ x49))) ?_
            refine Seq.done ?_
            cases hb : (decide ((512 : Int) ≤ x49)) with
            | true =>
              replace h := h.1 (of_decide_eq_true hb)
              refine At.cT 50 K24 K27 ?_
              refine At.s K25 K26 ?_
              refine At.rg 7 [0, 1] ?_
              refine Seq.o ?_
              refine OpTo.store (T := 23) (ty := 0) (x := (.tmp 10)) (y := (.const (.slice none 0 0))) (p := (.pointer (some ⟨b10, 0, none⟩))) (v := (.slice none 0 0)) (gd := none) (by kernel_rfl) rfl rfl rfl (h.mono (fun _ σ1_4 h2 => ?_)); replace h := h2; clear h2
              refine Seq.o ?_
              refine OpTo.store (T := 24) (ty := 0) (x := (.tmp 11)) (y := (.const (.int .i64 222))) (p := (.pointer (some ⟨b11, 0, none⟩))) (v := (.int .i64 222)) (gd := none) (by kernel_rfl) rfl rfl rfl (h.mono (fun _ σ1_5 h2 => ?_)); replace h := h2; clear h2
              refine Seq.done ?_
              obtain ⟨pr10, nr10, cr10, xr11, hr10, hr11, h⟩ := h
              exact At.rt [.cell 10 23, .cell 11 24] [(.slice pr10 nr10 cr10), (.int .i64 xr11)] func18 ⟨_, _, rfl, ⟨_, rfl, ldo_run isAgg23 hr10⟩, ⟨_, _, rfl, ⟨_, rfl, ldo_run isAgg24 hr11⟩, rfl⟩⟩ h
            | false =>
              replace h := h.2 (of_decide_eq_false hb)
              refine At.cF 50 K24 K27 ?_
              refine At.skip ?_
              refine At.s K29 K30 ?_
              refine At.rg 8 [0, 1, 2] ?_
              refine Seq.o ?_
              refine OpTo.eff (d := (some 51)) (op := (.makeMap 85 none)) (ty := 85) (gd := none) (by kernel_rfl) rfl rfl (Instr.makeMap 85 none) (fun o ho ht => by simp only [execOp, ho]; rfl) (h.mono (fun v_4 σ1_4 h2 => ?_)); replace h := h2; clear h2
              obtain ⟨m51, rfl, h⟩ := h
              refine Seq.o ?_
              refine OpTo.allocO (T := 85) (d := (some 13)) (ty := 0)  (gd := none) (cs := #[(.map none)]) (by kernel_rfl) rfl rfl zeroValue85 rfl (fun b13 hn => ?_)
              replace h := h b13 hn
              refine Seq.o ?_
              refine OpTo.store (T := 85) (ty := 0) (x := (.tmp 13)) (y := (.tmp 51)) (p := (.pointer (some ⟨b13, 0, none⟩))) (v := (.map (some m51))) (gd := none) (by kernel_rfl) rfl rfl rfl (h.mono (fun _ σ1_5 h2 => ?_)); replace h := h2; clear h2
              refine Seq.done ?_
              refine At.s K31 K32 ?_
              refine At.rg 9 [0] ?_
              refine Seq.o ?_
              refine OpTo.allocO (T := 23) (d := (some 14)) (ty := 0)  (gd := none) (cs := #[(.slice none 0 0)]) (by kernel_rfl) rfl rfl zeroValue23 rfl (fun b14 hn => ?_)
              replace h := h b14 hn
              refine Seq.done ?_
              refine At.s K33 K77 ?_
              refine At.s K34 K35 ?_
              refine At.rg 10 [0, 1, 2, 3] ?_
              refine Seq.us [(52, .int .i64 x2), (53, .int .i64 x3), (54, .int .i64 x4)] ?_
              refine Seq.o ?_
              refine OpTo.cl (some 55) call27 (h.cont fun v_5 σ1_6 h2 => ?_); replace h := h2; clear h2
              obtain ⟨f55, a55, c55, rfl, h⟩ := h
              refine Seq.done ?_
              refine At.b 0 K36 ?_
              obtain ⟨gf, lb, hgv, hen, h⟩ := h
              refine At.range (gop := (.tmp 55)) (ps := #[56]) (assign := K37) (body := K38) (gf := gf) (lb := lb) (by kernel_rfl) rfl rfl hgv hen (fun D_2 l_2 r0_2 hDl hD hl hrf hrp hra hrb hrs hre => ?_)
              refine (h D_2 l_2 r0_2 hDl hD hl (fun R2 σ2 xy56 hσ2 hp => YSpec.of_at (n := 117) hσ2 hrp hrs (by decide) hre (fn := f18) (by rw [hrf]; exact func18) ?_)).mono (fun en σ1_7 h => ?_)
              · rw [hrf, hra, hrb]
                exact At.v [(5, (.pointer (some ⟨b5, 0, none⟩))), (6, (.pointer (some ⟨b6, 0, none⟩))), (10, (.pointer (some ⟨b10, 0, none⟩))), (11, (.pointer (some ⟨b11, 0, none⟩))), (13, (.pointer (some ⟨b13, 0, none⟩))), (14, (.pointer (some ⟨b14, 0, none⟩))), (56, (.int .i64 xy56))] (hp _)
              obtain ⟨v, s, p, he, hσl, hs, h⟩ := h
              refine ⟨v, s, p, he, hσl, hs, ?_⟩
              rcases h with h | h
              · obtain ⟨rfl, h⟩ := h
                show At (Gl.behind prog 18 117 D_2 R) [.inBlock 0, .code K77] _ _ _
                refine At.inBlock ?_
                refine At.s K78 K79 ?_
                refine At.rg 25 [0, 1] ?_
                obtain ⟨p114, n114, c114, hl, h⟩ := h
                refine Seq.z 114 (.load 23 (.tmp 14)) 23 (.slice p114 n114 c114) (Y.ld isAgg23 rfl hl) ?_
                refine Seq.o ?_
                refine OpTo.cl (some 115) call29 (h.cont fun v_6 σ1_8 h2 => ?_); replace h := h2; clear h2
                obtain ⟨rfl, h⟩ := h
                refine Seq.done ?_
                refine At.L [(10, (.pointer (some ⟨b10, 0, none⟩))), (11, (.pointer (some ⟨b11, 0, none⟩))), (14, (.pointer (some ⟨b14, 0, none⟩)))] fun J => ?_
                refine At.s K80 K81 ?_
                refine At.rg 26 [0, 1, 2] ?_
                obtain ⟨p116, n116, c116, hl, h⟩ := h
                refine Seq.z 116 (.load 23 (.tmp 14)) 23 (.slice p116 n116 c116) (Y.ld isAgg23 rfl hl) ?_
                refine Seq.o ?_
                refine OpTo.store (T := 23) (ty := 0) (x := (.tmp 10)) (y := (.tmp 116)) (p := (.pointer (some ⟨b10, 0, none⟩))) (v := (.slice p116 n116 c116)) (gd := none) (by kernel_rfl) rfl rfl rfl (h.mono (fun _ σ1_9 h2 => ?_)); replace h := h2; clear h2
                refine Seq.o ?_
                refine OpTo.store (T := 24) (ty := 0) (x := (.tmp 11)) (y := (.const (.int .i64 0))) (p := (.pointer (some ⟨b11, 0, none⟩))) (v := (.int .i64 0)) (gd := none) (by kernel_rfl) rfl rfl rfl (h.mono (fun _ σ1_10 h2 => ?_)); replace h := h2; clear h2
                refine Seq.done ?_
                obtain ⟨pr10, nr10, cr10, xr11, hmk, hr10, hr11, h⟩ := h
                exact At.retV (rs := [.cell 10 23, .cell 11 24]) (vs := [(.slice pr10 nr10 cr10), (.int .i64 xr11)]) (by kernel_rfl) func18 (by kernel_rfl) ⟨_, _, rfl, ⟨_, rfl, ldo_run isAgg23 hr10⟩, ⟨_, _, rfl, ⟨_, rfl, ldo_run isAgg24 hr11⟩, rfl⟩⟩ h rfl (marks1 hmk)
              · obtain ⟨rfl, h⟩ := h
                show At (Gl.behind prog 18 117 D_2 R) [.code K82, .inBlock 0, .code K77] _ _ _
                obtain ⟨pr10_2, nr10_2, cr10_2, xr11_2, hmk, hr10_2, hr11_2, h⟩ := h
                exact At.retV (rs := [.cell 10 23, .cell 11 24]) (vs := [(.slice pr10_2 nr10_2 cr10_2), (.int .i64 xr11_2)]) (by kernel_rfl) func18 (by kernel_rfl) ⟨_, _, rfl, ⟨_, rfl, ldo_run isAgg23 hr10_2⟩, ⟨_, _, rfl, ⟨_, rfl, ldo_run isAgg24 hr11_2⟩, rfl⟩⟩ h rfl (marks1 hmk)
theorem pt37_of {R : Ending → Hp → Prop} {l b5 b6 b10 b11 b13 b14 : Nat} {r0 : Loop} {x56 : Int} {σ : Hp} (h : σ l = some (.loop (lp r0 .ready none)) ∧ ∃ p58 : Option Addr, ∃ n58 : Nat, ∃ c58 : Nat, Hp.ld (Hp.set σ l (.loop (lp r0 .busy none))) ⟨b5, 0, none⟩ = some (.slice p58 n58 c58) ∧ ∃ p59 : Option Addr, ∃ n59 : Nat, ∃ c59 : Nat, Hp.ld (Hp.set σ l (.loop (lp r0 .busy none))) ⟨b6, 0, none⟩ = some (.slice p59 n59 c59) ∧ Spec prog 12 #[(.slice p58 n58 c58), (.slice p59 n59 c59), (.int .i64 x56)] (Hp.set σ l (.loop (lp r0 .busy none))) (Cont (NP R) (fun v σ1 => ∃ p61a : Option Addr, ∃ n61a : Nat, ∃ c61a : Nat, ∃ x61b : Int, v = (.tuple #[(.slice p61a n61a c61a), (.int .i64 x61b)]) ∧ ((x61b : Int) ≠ 0 → Eff prog (Instr.storeAt 23 (.pointer (some ⟨b10, 0, none⟩)) (.slice none 0 0)) σ1 (fun _ σ1_2 => Eff prog (Instr.storeAt 24 (.pointer (some ⟨b11, 0, none⟩)) (.int .i64 x61b)) σ1_2 (fun _ σ1_3 => σ1_3 l = some (.loop (lp r0 .busy none)) ∧ R (.returned (.bool false)) (Hp.set σ1_3 l (.loop (lp r0 .done (some .ret))))))) ∧ (¬ ((x61b : Int) ≠ 0) → pt54 R l r0 b13 b14 x56 p61a n61a c61a ((n61a : Int)) 0 σ1)))) : pt37 R l r0 b5 b6 b10 b11 b13 b14 x56 σ := by
 intro J
 show At (Gl.round prog 18 117 l R) _ _ _ _
 refine At.rg 11 [0] ?_
 refine Seq.u 15 (.int .i64 x56) ?_
 refine Seq.done ?_
 obtain ⟨hbr, h⟩ := h
 refine At.beginRound rfl hbr ?_
 refine At.b 1 K39 ?_
 refine At.s K40 K41 ?_
 refine At.rg 12 [0, 1, 2, 3, 4, 5, 6, 7, 8] ?_
 obtain ⟨p58, n58, c58, hl, h⟩ := h
 refine Seq.z 58 (.load 22 (.tmp 5)) 22 (.slice p58 n58 c58) (Y.ld isAgg22 rfl hl) ?_
 obtain ⟨p59, n59, c59, hl, h⟩ := h
 refine Seq.z 59 (.load 23 (.tmp 6)) 23 (.slice p59 n59 c59) (Y.ld isAgg23 rfl hl) ?_
 refine Seq.u 60 (.int .i64 x56) ?_
 refine Seq.o ?_
 refine OpTo.cl (some 61) call12 (h.cont fun v σ1 h2 => ?_); replace h := h2; clear h2
 obtain ⟨p61a, n61a, c61a, x61b, rfl, h⟩ := h
 refine Seq.us [(57, .tuple #[(.slice p61a n61a c61a), (.int .i64 x61b)]), (62, .slice p61a n61a c61a), (63, .int .i64 x61b), (16, .slice p61a n61a c61a), (17, .int .i64 x61b)] ?_
 refine Seq.done ?_
 refine At.s K42 K49 ?_
 refine At.s K43 K44 ?_
 refine At.rg 13 [0, 1] ?_
 refine Seq.us [(64, .int .i64 x61b), (65, .bool (decide ((x61b : Int) ≠ 0)))] ?_
 refine Seq.done ?_
 cases hb : (decide ((x61b : Int) ≠ 0)) with
 | true =>
  replace h := h.1 (of_decide_eq_true hb)
  refine At.cT 65 K45 K48 ?_
  refine At.s K46 K47 ?_
  refine At.rg 14 [0, 1, 2] ?_
  refine Seq.u 66 (.int .i64 x61b) ?_
  refine Seq.o ?_
  refine OpTo.store (T := 23) (ty := 0) (x := (.tmp 10)) (y := (.const (.slice none 0 0))) (p := (.pointer (some ⟨b10, 0, none⟩))) (v := (.slice none 0 0)) (gd := none) (by kernel_rfl) rfl rfl rfl (h.mono (fun _ σ1_2 h2 => ?_)); replace h := h2; clear h2
  refine Seq.o ?_
  refine OpTo.store (T := 24) (ty := 0) (x := (.tmp 11)) (y := (.tmp 66)) (p := (.pointer (some ⟨b11, 0, none⟩))) (v := (.int .i64 x61b)) (gd := none) (by kernel_rfl) rfl rfl rfl (h.mono (fun _ σ1_3 h2 => ?_)); replace h := h2; clear h2
  refine Seq.done ?_
  exact At.roundRet (by kernel_rfl) rfl h.1 h.2
 | false =>
  replace h := h.2 (of_decide_eq_false hb)
  refine At.cF 65 K45 K48 ?_
  refine At.skip ?_
  refine At.s K50 K51 ?_
  refine At.rg 15 [0, 1, 2] ?_
  refine Seq.u 67 (.slice p61a n61a c61a) ?_
  refine Seq.z 68 (.call { callee := .builtin .len, args := #[(.tmp 67)], argTypes := #[44] }) 3 (.int .i64 (n61a : Int)) (Y.lenS underlying44 rfl rfl) ?_
  refine Seq.u 69 (.int .i64 0) ?_
  refine Seq.done ?_
  refine At.b 2 K52 ?_
  refine At.loop (x := K53) (by kernel_rfl) ?_
  refine At.s K54 K55 ?_
  exact At.v [(13, (.pointer (some ⟨b13, 0, none⟩))), (14, (.pointer (some ⟨b14, 0, none⟩))), (15, (.int .i64 x56)), (67, (.slice p61a n61a c61a)), (68, (.int .i64 (n61a : Int))), (69, (.int .i64 0))] (h _)
theorem pt54_of {R : Ending → Hp → Prop} {l b13 b14 n67 c67 : Nat} {r0 : Loop} {x15 x68 x69 : Int} {p67 : Option Addr} {σ : Hp} (h : ((x69 : Int) < x68 → ∃ (b71 o71 : Nat), p67 = some ⟨b71, o71, none⟩ ∧ ((0 : Int) ≤ x69 ∧ x69 < (n67 : Int)) ∧ ∃ p72a : Option Addr, ∃ n72a : Nat, ∃ c72a : Nat, ∃ x72b : Int, LdL σ b71 (o71 + Int.toNat x69 * 2) [(.slice p72a n72a c72a), (.int .u64 x72b)] ∧ ∀ b19 : Nat, σ b19 = none → Eff prog (Instr.storeAt 48 (.pointer (some ⟨b19, 0, none⟩)) (.agg #[(.slice p72a n72a c72a), (.int .u64 x72b)])) (Hp.set σ b19 (.cells #[(.slice none 0 0), (.int .u64 0)] 48 (0, 0))) (fun _ σ1 => ∃ m74 : Option Nat, Hp.ld σ1 ⟨b13, 0, none⟩ = some (.map m74) ∧ ∃ p76 : Option Addr, ∃ n76 : Nat, ∃ c76 : Nat, Hp.ld σ1 ⟨b19, 0, none⟩ = some (.slice p76 n76 c76) ∧ Spec prog 28 #[(.slice p76 n76 c76)] σ1 (Cont (NP R) (fun v σ1_2 => ∃ s77 : ByteArray, v = (.string s77) ∧ Kp [b13] σ1 σ1_2 ∧ Eff prog (Instr.lookup 85 (.map m74) (.string s77) true) σ1_2 (fun v_2 σ1_3 => ∃ x78a : Int, ∃ t78b : Bool, v_2 = (.tuple #[(.int .i64 x78a), (.bool t78b)]) ∧ (t78b = false → ∃ p83 : Option Addr, ∃ n83 : Nat, ∃ c83 : Nat, Hp.ld σ1_3 ⟨b14, 0, none⟩ = some (.slice p83 n83 c83) ∧ ∃ m85 : Option Nat, Hp.ld σ1_3 ⟨b13, 0, none⟩ = some (.map m85) ∧ ∃ p87 : Option Addr, ∃ n87 : Nat, ∃ c87 : Nat, Hp.ld σ1_3 ⟨b19, 0, none⟩ = some (.slice p87 n87 c87) ∧ Spec prog 28 #[(.slice p87 n87 c87)] σ1_3 (Cont (NP R) (fun v_3 σ1_4 => ∃ s88 : ByteArray, v_3 = (.string s88) ∧ Kp [b13] σ1_3 σ1_4 ∧ Eff prog (Instr.mapUpdate 85 (.map m85) (.string s88) (.int .i64 (n83 : Int))) σ1_4 (fun _ σ1_5 => ∃ p90 : Option Addr, ∃ n90 : Nat, ∃ c90 : Nat, Hp.ld σ1_5 ⟨b14, 0, none⟩ = some (.slice p90 n90 c90) ∧ ∃ p93 : Option Addr, ∃ n93 : Nat, ∃ c93 : Nat, Hp.ld σ1_5 ⟨b19, 0, none⟩ = some (.slice p93 n93 c93) ∧ ∀ b91 : Nat, σ1_5 b91 = none → Eff prog (Builtin.append_ #[33, 33] 33 #[(.slice (some ⟨b91, 0, none⟩) 0 0), (.slice p93 n93 c93)]) (Hp.set σ1_5 b91 (.cells #[] 58 (0, 0))) (fun v_4 σ1_6 => ∃ p94 : Option Addr, ∃ n94 : Nat, ∃ c94 : Nat, v_4 = (.slice p94 n94 c94) ∧ Kp [b14] (Hp.set σ1_5 b91 (.cells #[] 58 (0, 0))) σ1_6 ∧ ∀ b96 : Nat, σ1_6 b96 = none → Eff prog (Builtin.append_ #[23, 23] 23 #[(.slice p90 n90 c90), (.slice (some ⟨b96, 0, none⟩) 1 1)]) (Hp.set σ1_6 b96 (.cells #[(.slice p94 n94 c94), (.slice none 0 0)] 36 (0, 0))) (fun v_5 σ1_7 => ∃ p97 : Option Addr, ∃ n97 : Nat, ∃ c97 : Nat, v_5 = (.slice p97 n97 c97) ∧ Eff prog (Instr.storeAt 23 (.pointer (some ⟨b14, 0, none⟩)) (.slice p97 n97 c97)) σ1_7 (fun _ σ1_8 => pt75 R l r0 b13 b14 x15 b19 ((n83 : Int)) ((some ⟨b71, o71, none⟩)) n67 c67 x68 x69 σ1_8))))))) ∧ (t78b = true → pt75 R l r0 b13 b14 x15 b19 x78a ((some ⟨b71, o71, none⟩)) n67 c67 x68 x69 σ1_3)))))) ∧ (¬ ((x69 : Int) < x68) → σ l = some (.loop (lp r0 .busy none)) ∧ R (.returned (.bool true)) (Hp.set σ l (.loop (lp r0 .ready none))))) : pt54 R l r0 b13 b14 x15 p67 n67 c67 x68 x69 σ := by
 intro J
 show At (Gl.round prog 18 117 l R) _ _ _ _
 refine At.rg 16 [0] ?_
 refine Seq.u 70 (.bool (decide ((x69 : Int) < x68))) ?_
 refine Seq.done ?_
 refine At.s K56 K59 ?_
 cases hb : (decide ((x69 : Int) < x68)) with
 | true =>
  replace h := h.1 (of_decide_eq_true hb)
  refine At.cT 70 K57 K58 ?_
  refine At.skip ?_
  refine At.s K60 K76 ?_
  refine At.b 3 K61 ?_
  refine At.s K62 K63 ?_
  refine At.rg 17 [0, 1, 2, 3] ?_
  obtain ⟨b71, o71, hq, h⟩ := h
  subst hq
  obtain ⟨hi, h⟩ := h
  refine Seq.z 71 (.indexAddr 44 (.tmp 67) (.tmp 69)) 0 (.pointer (some ⟨b71, (o71 + Int.toNat x69 * 2), none⟩)) (Y.idx underlying44 sizeOf48 rfl rfl hi rfl) ?_
  obtain ⟨p72a, n72a, c72a, x72b, hl, h⟩ := h
  refine Seq.z 72 (.load 48 (.tmp 71)) 48 (.agg #[(.slice p72a n72a c72a), (.int .u64 x72b)]) (Y.lda isAgg48 sizeOf48 rfl rfl hl) ?_
  refine Seq.o ?_
  refine OpTo.allocO (T := 48) (d := (some 19)) (ty := 0)  (gd := none) (cs := #[(.slice none 0 0), (.int .u64 0)]) (by kernel_rfl) rfl rfl zeroValue48 rfl (fun b19 hn => ?_)
  replace h := h b19 hn
  refine Seq.o ?_
  refine OpTo.store (T := 48) (ty := 0) (x := (.tmp 19)) (y := (.tmp 72)) (p := (.pointer (some ⟨b19, 0, none⟩))) (v := (.agg #[(.slice p72a n72a c72a), (.int .u64 x72b)])) (gd := none) (by kernel_rfl) rfl rfl rfl (h.mono (fun _ σ1 h2 => ?_)); replace h := h2; clear h2
  refine Seq.done ?_
  refine At.s K64 K65 ?_
  refine At.draw (id := 18) (ops := cO K64) (n := 10) (q := (some [])) (plan := [(0, true), (1, true), (2, true), (3, false), (4, false), (5, true), (6, true), (7, true), (8, true), (9, true)]) (tl := []) mixed (by kernel_rfl) (by kernel_rfl) ?_
  obtain ⟨m74, hl, h⟩ := h
  refine Head.yl b13 [[4]] rfl (by kernel_rfl) (d := (some 74)) (op := (.load 85 (.tmp 13))) (ty := 85) (v := (.map m74)) (by kernel_rfl) rfl (Y.ld isAgg85 rfl (lim_ld hl)) ?_
  refine Head.z 75 (.fieldAddr 48 (.tmp 19) 0) 0 (.pointer (some ⟨b19, 0, none⟩)) (Y.fieldAddr (fd := (fieldOf prog 48 0)) underlying48 (by kernel_rfl) sizeOf33 rfl rfl) ?_
  obtain ⟨p76, n76, c76, hl, h⟩ := h
  refine Head.yl b19 [[3], [4, 3]] rfl (by kernel_rfl) (d := (some 76)) (op := (.load 33 (.tmp 75))) (ty := 33) (v := (.slice p76 n76 c76)) (by kernel_rfl) rfl (Y.ld isAgg33 rfl (lim_ld hl)) ?_
  refine Head.o (q' := (some [(b13, [4])])) rfl ?_
  refine OpTo.cl (some 77) call28 (h.cont fun v σ1_2 h2 => ?_); replace h := h2; clear h2
  obtain ⟨s77, rfl, hk, h⟩ := h
  refine ⟨⟨fun _ h => h, kp_q (L := [(b13, [4])]) hk⟩, ?_⟩
  refine Head.o (q' := (some [])) rfl ?_
  refine OpTo.eff (d := (some 78)) (op := (.lookup 85 (.tmp 74) (.tmp 77) true)) (ty := 88) (gd := none) (by kernel_rfl) rfl rfl (Instr.lookup 85 (.map m74) (.string s77) true) (fun o ho ht => by simp only [execOp, ho]; rfl) (h.mono (fun v_2 σ1_3 h2 => ?_)); replace h := h2; clear h2
  obtain ⟨x78a, t78b, rfl, h⟩ := h
  refine ⟨⟨fun _ h => h, kp_q (L := []) Kp.nil⟩, ?_⟩
  refine Head.u 73 (.tuple #[(.int .i64 x78a), (.bool t78b)]) ?_
  refine Head.u 79 (.int .i64 x78a) ?_
  refine Head.u 80 (.bool t78b) ?_
  refine Head.u 20 (.int .i64 x78a) ?_
  refine Head.u 21 (.bool t78b) ?_
  refine Head.done ?_
  refine Seq.done ?_
  refine At.s K66 K75 ?_
  refine At.s K67 K68 ?_
  refine At.rg 19 [0, 1] ?_
  refine Seq.us [(81, .bool t78b), (82, .bool (!t78b))] ?_
  refine Seq.done ?_
  cases hb : (!t78b) with
  | true =>
   replace h := h.1 (Tw.nt hb)
   refine At.cT 82 K69 K74 ?_
   refine At.s K70 K71 ?_
   refine At.rg 20 [0, 1, 2] ?_
   obtain ⟨p83, n83, c83, hl, h⟩ := h
   refine Seq.z 83 (.load 23 (.tmp 14)) 23 (.slice p83 n83 c83) (Y.ld isAgg23 rfl hl) ?_
   refine Seq.z 84 (.call { callee := .builtin .len, args := #[(.tmp 83)], argTypes := #[23] }) 3 (.int .i64 (n83 : Int)) (Y.lenS underlying23 rfl rfl) ?_
   refine Seq.u 20 (.int .i64 (n83 : Int)) ?_
   refine Seq.done ?_
   refine At.s K72 K73 ?_
   refine At.draw (id := 21) (ops := cO K72) (n := 5) (q := (some [])) (plan := [(0, true), (1, true), (2, true), (4, true), (3, false)]) (tl := [5]) mixed (by kernel_rfl) (by kernel_rfl) ?_
   obtain ⟨m85, hl, h⟩ := h
   refine Head.yl b13 [] rfl (by kernel_rfl) (d := (some 85)) (op := (.load 85 (.tmp 13))) (ty := 85) (v := (.map m85)) (by kernel_rfl) rfl (Y.ld isAgg85 rfl (lim_ld hl)) ?_
   refine Head.z 86 (.fieldAddr 48 (.tmp 19) 0) 0 (.pointer (some ⟨b19, 0, none⟩)) (Y.fieldAddr (fd := (fieldOf prog 48 0)) underlying48 (by kernel_rfl) sizeOf33 rfl rfl) ?_
   obtain ⟨p87, n87, c87, hl, h⟩ := h
   refine Head.yl b19 [[3]] rfl (by kernel_rfl) (d := (some 87)) (op := (.load 33 (.tmp 86))) (ty := 33) (v := (.slice p87 n87 c87)) (by kernel_rfl) rfl (Y.ld isAgg33 rfl (lim_ld hl)) ?_
   refine Head.u 89 (.int .i64 (n83 : Int)) ?_
   refine Head.o (q' := (some [(b13, [])])) rfl ?_
   refine OpTo.cl (some 88) call28 (h.cont fun v_3 σ1_4 h2 => ?_); replace h := h2; clear h2
   obtain ⟨s88, rfl, hk, h⟩ := h
   refine ⟨⟨fun _ h => h, kp_q (L := [(b13, [])]) hk⟩, ?_⟩
   refine Head.done ?_
   refine Seq.o ?_
   refine OpTo.effU (d := none) (op := (.mapUpdate 85 (.tmp 85) (.tmp 88) (.tmp 89))) (ty := 0) (gd := none) (by kernel_rfl) rfl rfl (Instr.mapUpdate 85 (.map m85) (.string s88) (.int .i64 (n83 : Int))) (fun o ho ht => by simp only [execOp, ho]; rfl) (h.mono (fun _ σ1_5 h2 => ?_)); replace h := h2; clear h2
   refine Seq.done ?_
   refine At.draw (id := 22) (ops := cO K73) (n := 7) (q := (some [])) (plan := [(0, true), (2, true), (3, true), (1, false), (4, false), (5, true), (6, false)]) (tl := [7, 8]) mixed (by kernel_rfl) (by kernel_rfl) ?_
   obtain ⟨p90, n90, c90, hl, h⟩ := h
   refine Head.yl b14 [] rfl (by kernel_rfl) (d := (some 90)) (op := (.load 23 (.tmp 14))) (ty := 23) (v := (.slice p90 n90 c90)) (by kernel_rfl) rfl (Y.ld isAgg23 rfl (lim_ld hl)) ?_
   refine Head.z 92 (.fieldAddr 48 (.tmp 19) 0) 0 (.pointer (some ⟨b19, 0, none⟩)) (Y.fieldAddr (fd := (fieldOf prog 48 0)) underlying48 (by kernel_rfl) sizeOf33 rfl rfl) ?_
   obtain ⟨p93, n93, c93, hl, h⟩ := h
   refine Head.yl b19 [[4], [6, 5, 4]] rfl (by kernel_rfl) (d := (some 93)) (op := (.load 33 (.tmp 92))) (ty := 33) (v := (.slice p93 n93 c93)) (by kernel_rfl) rfl (Y.ld isAgg33 rfl (lim_ld hl)) ?_
   refine Head.o (q' := (some [(b19, [4, 6]), (b14, [])])) rfl ?_
   refine OpTo.bslice (T := 33) (E := 58) (m := 0) (ps := #[]) (d := (some 91)) (ty := 33) (gd := none) (vs := []) (cs := #[]) underlying33 (by kernel_rfl) rfl rfl rfl (by kernel_rfl) (fun b91 hn => ?_)
   refine ⟨⟨fun _ h => h, kp_q (Kp.of_ext (Ext.set hn))⟩, ?_⟩
   replace h := h b91 hn
   refine Head.o (q' := (some [(b14, [])])) rfl ?_
   refine OpTo.eff (d := (some 94)) (op := (.call { callee := .builtin .append, args := #[(.tmp 91), (.tmp 93)], argTypes := #[33, 33] })) (ty := 33) (gd := none) (by kernel_rfl) rfl rfl (Builtin.append_ #[33, 33] 33 #[(.slice (some ⟨b91, 0, none⟩) 0 0), (.slice p93 n93 c93)]) (fun o ho ht => exec_b_append rfl rfl o ho ht) (h.mono (fun v_4 σ1_6 h2 => ?_)); replace h := h2; clear h2
   obtain ⟨p94, n94, c94, rfl, hk, h⟩ := h
   refine ⟨⟨fun _ h => h, kp_q (L := [(b14, [])]) hk⟩, ?_⟩
   refine Head.z 95 (.build 36 #[(0, (.tmp 94))]) 36 (.agg #[(.slice p94 n94 c94), (.slice none 0 0)]) (Y.build (vs := [(0, (.slice p94 n94 c94))]) rfl (by kernel_rfl)) ?_
   refine Head.o (q' := (some [(b14, [])])) rfl ?_
   refine OpTo.bslice (T := 23) (E := 36) (m := 1) (ps := #[(0, (.tmp 95))]) (d := (some 96)) (ty := 23) (gd := none) (vs := [(0, (.agg #[(.slice p94 n94 c94), (.slice none 0 0)]))]) (cs := #[(.slice p94 n94 c94), (.slice none 0 0)]) underlying23 (by kernel_rfl) rfl rfl rfl (by kernel_rfl) (fun b96 hn => ?_)
   refine ⟨⟨fun _ h => h, kp_q (Kp.of_ext (Ext.set hn))⟩, ?_⟩
   replace h := h b96 hn
   refine Head.done ?_
   refine Seq.o ?_
   refine OpTo.eff (d := (some 97)) (op := (.call { callee := .builtin .append, args := #[(.tmp 90), (.tmp 96)], argTypes := #[23, 23] })) (ty := 23) (gd := none) (by kernel_rfl) rfl rfl (Builtin.append_ #[23, 23] 23 #[(.slice p90 n90 c90), (.slice (some ⟨b96, 0, none⟩) 1 1)]) (fun o ho ht => exec_b_append rfl rfl o ho ht) (h.mono (fun v_5 σ1_7 h2 => ?_)); replace h := h2; clear h2
   obtain ⟨p97, n97, c97, rfl, h⟩ := h
   refine Seq.o ?_
   refine OpTo.store (T := 23) (ty := 0) (x := (.tmp 14)) (y := (.tmp 97)) (p := (.pointer (some ⟨b14, 0, none⟩))) (v := (.slice p97 n97 c97)) (gd := none) (by kernel_rfl) rfl rfl rfl (h.mono (fun _ σ1_8 h2 => ?_)); replace h := h2; clear h2
   refine Seq.done ?_
   refine At.L [(13, (.pointer (some ⟨b13, 0, none⟩))), (14, (.pointer (some ⟨b14, 0, none⟩))), (15, (.int .i64 x15)), (19, (.pointer (some ⟨b19, 0, none⟩))), (20, (.int .i64 (n83 : Int))), (67, (.slice (some ⟨b71, o71, none⟩) n67 c67)), (68, (.int .i64 x68)), (69, (.int .i64 x69))] fun J => ?_
   exact At.v [(13, (.pointer (some ⟨b13, 0, none⟩))), (14, (.pointer (some ⟨b14, 0, none⟩))), (15, (.int .i64 x15)), (19, (.pointer (some ⟨b19, 0, none⟩))), (20, (.int .i64 (n83 : Int))), (67, (.slice (some ⟨b71, o71, none⟩) n67 c67)), (68, (.int .i64 x68)), (69, (.int .i64 x69))] (h _)
  | false =>
   replace h := h.2 (Tw.nf hb)
   refine At.cF 82 K69 K74 ?_
   refine At.skip ?_
   exact At.v [(13, (.pointer (some ⟨b13, 0, none⟩))), (14, (.pointer (some ⟨b14, 0, none⟩))), (15, (.int .i64 x15)), (19, (.pointer (some ⟨b19, 0, none⟩))), (20, (.int .i64 x78a)), (67, (.slice (some ⟨b71, o71, none⟩) n67 c67)), (68, (.int .i64 x68)), (69, (.int .i64 x69))] (h _)
 | false =>
  replace h := h.2 (of_decide_eq_false hb)
  refine At.cF 70 K57 K58 ?_
  refine At.x 2 [.inBlock 1] ?_
  refine At.inBlock ?_
  exact At.roundEnd rfl h.1 h.2
theorem pt75_of {R : Ending → Hp → Prop} {l b13 b14 b19 n67 c67 : Nat} {r0 : Loop} {x15 x20 x68 x69 : Int} {p67 : Option Addr} {σ : Hp} (h : ∃ p98 : Option Addr, ∃ n98 : Nat, ∃ c98 : Nat, Hp.ld σ ⟨b14, 0, none⟩ = some (.slice p98 n98 c98) ∧ ∃ p100 : Option Addr, ∃ n100 : Nat, ∃ c100 : Nat, Hp.ld σ ⟨b14, 0, none⟩ = some (.slice p100 n100 c100) ∧ ∃ (b102 o102 : Nat), p100 = some ⟨b102, o102, none⟩ ∧ ((0 : Int) ≤ x20 ∧ x20 < (n100 : Int)) ∧ ∃ p104 : Option Addr, ∃ n104 : Nat, ∃ c104 : Nat, Hp.ld σ ⟨b102, ((o102 + Int.toNat x20 * 2) + 1), none⟩ = some (.slice p104 n104 c104) ∧ ∃ x107 : Int, Hp.ld σ ⟨b19, 1, none⟩ = some (.int .u64 x107) ∧ ∀ b109 : Nat, σ b109 = none → Eff prog (Builtin.append_ #[34, 34] 34 #[(.slice p104 n104 c104), (.slice (some ⟨b109, 0, none⟩) 1 1)]) (Hp.set σ b109 (.cells #[(.int .i64 x15), (.int .u64 x107)] 39 (0, 0))) (fun v σ1 => ∃ p110 : Option Addr, ∃ n110 : Nat, ∃ c110 : Nat, v = (.slice p110 n110 c110) ∧ Kp [b14] (Hp.set σ b109 (.cells #[(.int .i64 x15), (.int .u64 x107)] 39 (0, 0))) σ1 ∧ ∃ (b111 o111 : Nat), p98 = some ⟨b111, o111, none⟩ ∧ ((0 : Int) ≤ x20 ∧ x20 < (n98 : Int)) ∧ Eff prog (Instr.storeAt 34 (.pointer (some ⟨b111, ((o111 + Int.toNat x20 * 2) + 1), none⟩)) (.slice p110 n110 c110)) σ1 (fun _ σ1_2 => I64 (x69 + 1) ∧ pt54 R l r0 b13 b14 x15 p67 n67 c67 x68 ((x69 + 1)) σ1_2))) : pt75 R l r0 b13 b14 x15 b19 x20 p67 n67 c67 x68 x69 σ := by
 intro J
 show At (Gl.round prog 18 117 l R) _ _ _ _
 refine At.draw (id := 23) (ops := cO K75) (n := 15) (q := (some [])) (plan := [(0, true), (1, true), (2, true), (3, true), (4, true), (5, true), (6, true), (7, true), (8, true), (9, true), (10, true), (11, false), (12, false), (13, true), (14, true)]) (tl := [15]) mixed (by kernel_rfl) (by kernel_rfl) ?_
 obtain ⟨p98, n98, c98, hl, h⟩ := h
 refine Head.yl b14 [] rfl (by kernel_rfl) (d := (some 98)) (op := (.load 23 (.tmp 14))) (ty := 23) (v := (.slice p98 n98 c98)) (by kernel_rfl) rfl (Y.ld isAgg23 rfl (lim_ld hl)) ?_
 refine Head.u 99 (.int .i64 x20) ?_
 obtain ⟨p100, n100, c100, hl, h⟩ := h
 refine Head.yl b14 [[12, 6, 5, 4]] rfl (by kernel_rfl) (d := (some 100)) (op := (.load 23 (.tmp 14))) (ty := 23) (v := (.slice p100 n100 c100)) (by kernel_rfl) rfl (Y.ld isAgg23 rfl (lim_ld hl)) ?_
 refine Head.u 101 (.int .i64 x20) ?_
 obtain ⟨b102, o102, hq, h⟩ := h
 subst hq
 obtain ⟨hi, h⟩ := h
 refine Head.z 102 (.indexAddr 23 (.tmp 100) (.tmp 101)) 0 (.pointer (some ⟨b102, (o102 + Int.toNat x20 * 2), none⟩)) (Y.idx underlying23 sizeOf36 rfl rfl hi rfl) ?_
 refine Head.z 103 (.fieldAddr 36 (.tmp 102) 1) 0 (.pointer (some ⟨b102, ((o102 + Int.toNat x20 * 2) + 1), none⟩)) (Y.fieldAddr (fd := (fieldOf prog 36 1)) underlying36 (by kernel_rfl) sizeOf34 rfl rfl) ?_
 obtain ⟨p104, n104, c104, hl, h⟩ := h
 refine Head.yl b102 [[12]] rfl (by kernel_rfl) (d := (some 104)) (op := (.load 34 (.tmp 103))) (ty := 34) (v := (.slice p104 n104 c104)) (by kernel_rfl) rfl (Y.ld isAgg34 rfl (lim_ld hl)) ?_
 refine Head.u 105 (.int .i64 x15) ?_
 refine Head.z 106 (.fieldAddr 48 (.tmp 19) 1) 0 (.pointer (some ⟨b19, 1, none⟩)) (Y.fieldAddr (fd := (fieldOf prog 48 1)) underlying48 (by kernel_rfl) sizeOf37 rfl rfl) ?_
 obtain ⟨x107, hl, h⟩ := h
 refine Head.yl b19 [[11, 10], [12, 11, 10]] rfl (by kernel_rfl) (d := (some 107)) (op := (.load 37 (.tmp 106))) (ty := 37) (v := (.int .u64 x107)) (by kernel_rfl) rfl (Y.ld isAgg37 rfl (lim_ld hl)) ?_
 refine Head.z 108 (.build 39 #[(0, (.tmp 105)), (1, (.tmp 107))]) 39 (.agg #[(.int .i64 x15), (.int .u64 x107)]) (Y.build (vs := [(0, (.int .i64 x15)), (1, (.int .u64 x107))]) rfl (by kernel_rfl)) ?_
 refine Head.o (q' := (some [(b102, [12]), (b14, [12]), (b14, [])])) rfl ?_
 refine OpTo.bslice (T := 34) (E := 39) (m := 1) (ps := #[(0, (.tmp 108))]) (d := (some 109)) (ty := 34) (gd := none) (vs := [(0, (.agg #[(.int .i64 x15), (.int .u64 x107)]))]) (cs := #[(.int .i64 x15), (.int .u64 x107)]) underlying34 (by kernel_rfl) rfl rfl rfl (by kernel_rfl) (fun b109 hn => ?_)
 refine ⟨⟨fun _ h => h, kp_q (Kp.of_ext (Ext.set hn))⟩, ?_⟩
 replace h := h b109 hn
 refine Head.o (q' := (some [(b14, [])])) rfl ?_
 refine OpTo.eff (d := (some 110)) (op := (.call { callee := .builtin .append, args := #[(.tmp 104), (.tmp 109)], argTypes := #[34, 34] })) (ty := 34) (gd := none) (by kernel_rfl) rfl rfl (Builtin.append_ #[34, 34] 34 #[(.slice p104 n104 c104), (.slice (some ⟨b109, 0, none⟩) 1 1)]) (fun o ho ht => exec_b_append rfl rfl o ho ht) (h.mono (fun v σ1 h2 => ?_)); replace h := h2; clear h2
 obtain ⟨p110, n110, c110, rfl, hk, h⟩ := h
 refine ⟨⟨fun _ h => h, kp_q (L := [(b14, [])]) hk⟩, ?_⟩
 obtain ⟨b111, o111, hq, h⟩ := h
 subst hq
 obtain ⟨hi, h⟩ := h
 refine Head.z 111 (.indexAddr 23 (.tmp 98) (.tmp 99)) 0 (.pointer (some ⟨b111, (o111 + Int.toNat x20 * 2), none⟩)) (Y.idx underlying23 sizeOf36 rfl rfl hi rfl) ?_
 refine Head.z 112 (.fieldAddr 36 (.tmp 111) 1) 0 (.pointer (some ⟨b111, ((o111 + Int.toNat x20 * 2) + 1), none⟩)) (Y.fieldAddr (fd := (fieldOf prog 36 1)) underlying36 (by kernel_rfl) sizeOf34 rfl rfl) ?_
 refine Head.done ?_
 refine Seq.o ?_
 refine OpTo.store (T := 34) (ty := 0) (x := (.tmp 112)) (y := (.tmp 110)) (p := (.pointer (some ⟨b111, ((o111 + Int.toNat x20 * 2) + 1), none⟩))) (v := (.slice p110 n110 c110)) (gd := none) (by kernel_rfl) rfl rfl rfl (h.mono (fun _ σ1_2 h2 => ?_)); replace h := h2; clear h2
 refine Seq.done ?_
 refine At.inBlock ?_
 refine At.rg 24 [0, 1] ?_
 obtain ⟨hi, h⟩ := h
 refine Seq.z 113 (.binOp .add 3 (.tmp 69) (.const (.int .i64 1)) 3) 3 (.int .i64 (x69 + 1)) (Y.addI hi rfl rfl) ?_
 refine Seq.u 69 (.int .i64 (x69 + 1)) ?_
 refine Seq.done ?_
 refine At.inLoop ?_
 refine At.s K54 K55 ?_
 exact At.v [(13, (.pointer (some ⟨b13, 0, none⟩))), (14, (.pointer (some ⟨b14, 0, none⟩))), (15, (.int .i64 x15)), (67, (.slice p67 n67 c67)), (68, (.int .i64 x68)), (69, (.int .i64 (x69 + 1)))] (h _)
end eval_Range
namespace eval_key
variable {p0 : Option Addr} {n0 c0 : Nat}
def M : Fw := ⟨prog, 28, f28, [46], [], false, [], [], []⟩
theorem ok : M.Ok := ⟨.cons call46 (Ents.nil), mixed, func28, by kernel_rfl⟩
theorem start (h : Spec prog 46 #[.slice p0 n0 c0] σ (Cont R (CS fun p4 n4 c4 y => Eff prog (convert 107 9 (.slice p4 n4 c4)) y (CT fun s5 y_2 => R (.returned (.string s5)) y_2)))) : Spec prog 28 #[.slice p0 n0 c0] σ R := M.start h ok
end eval_key
namespace eval_Range_1
variable {p0a p0b p1a p1b : Option Addr} {n0a c0a n0b c0b n1a c1a n1b c1b : Nat}
def M : Fw := ⟨prog, 30, f30, [24], [2, 3], false, [], [], []⟩
theorem ok : M.Ok := ⟨.cons call24 (Ents.nil), mixed, func30, by kernel_rfl⟩
theorem start (h : ∀ b2 : Nat, ∀ b3 : Nat, Spec prog 24 #[.slice p0a n0a c0a, .slice p1a n1a c1a] σ (Cont R (CI .i64 fun x9 y => R (.returned (.int .i64 x9)) y))) : Spec prog 30 #[.agg #[.slice p0a n0a c0a, .slice p0b n0b c0b], .agg #[.slice p1a n1a c1a, .slice p1b n1b c1b]] σ R := M.start h ok
end eval_Range_1
namespace label_Compare_1
variable {s0a s0b s1a s1b : ByteArray}
def M : Fw := ⟨prog, 41, f41, [42, 43], [2, 3], false, [], [], []⟩
theorem ok : M.Ok := ⟨.cons call42 (.cons call43 (Ents.nil)), mixed, func41, by kernel_rfl⟩
theorem start (h : ∀ b2 : Nat, ∀ b3 : Nat, Spec prog 43 #[.string s0a, .string s1a] σ (Cont R (CI .i64 fun x9 y => Spec prog 43 #[.string s0b, .string s1b] y (Cont R (CI .i64 fun x14 y_2 => Al y_2 fun b15 => Spec prog 42 #[(.slice (aD b15 0) 2 2)] (Hp.set y_2 b15 (.cells #[.int .i64 x9, .int .i64 x14] 3 (0, 0))) (Cont R (CI .i64 fun x16 y_3 => R (.returned (.int .i64 x16)) y_3))))))) : Spec prog 41 #[.agg #[.string s0a, .string s0b], .agg #[.string s1a, .string s1b]] σ R := M.start h ok
end label_Compare_1
namespace wave_Abs
variable {x0 : Int}
def M : Fw := ⟨prog, 86, f86, [113, 120, 121], [], false, [], [], []⟩
theorem ok : M.Ok := ⟨.cons call113 (.cons call120 (.cons call121 (Ents.nil))), mixed, func86, by kernel_rfl⟩
theorem start (h : Spec prog 121 #[.int .u64 x0] σ (Cont R (fun z y => ∃ x4, (Value.float .f64 x4) = z ∧ Spec prog 120 #[(Value.float .f64 x4)] y (Cont R (fun z y_2 => ∃ x5, (Value.float .f64 x5) = z ∧ Spec prog 113 #[(Value.float .f64 x5)] y_2 (Cont R (CI .u64 fun x6 y_3 => R (.returned (.int .u64 x6)) y_3))))))) : Spec prog 86 #[.int .u64 x0] σ R := M.start h ok
end wave_Abs
namespace eval_sum
variable {p0 p11 : Option Addr} {n0 c0 n11 c11 : Nat} {x3 x12 x13 : Int}
def M : Fw := ⟨prog, 93, f93, [125, 140], [], false, [], [], [(232, [(3, wU), (11, wL), (12, wI), (13, wI)])]⟩
theorem ok : M.Ok := ⟨.cons call125 (.cons call140 (Ents.nil)), mixed, func93, by kernel_rfl⟩
def pt10 := M.pt 0
theorem start (h : Pq p0 fun b7 o7 => In 0 (n0 : Int) ∧ LI .u64 σ b7 o7 fun x8 => Spec prog 125 #[.int .u64 x8] σ (Cont R (CI .u64 fun x9 y => ((0 : Int) ≤ 1 ∧ 1 ≤ (n0 : Int)) ∧ pt10 R x9 ((slP (aD b7 o7) (1) c0 1)) (n0 - 1) (c0 - 1) ((((n0 - 1) : Nat) : Int)) 0 y))) : Spec prog 93 #[.slice p0 n0 c0] σ R := M.start h ok
theorem pt10_of (h : Br (x13 < x12) (Pq p11 fun b15 o15 => In x13 (n11 : Int) ∧ LI .u64 σ b15 (o15 + Int.toNat x13 * 1) fun x16 => Spec prog 140 #[.int .u64 x3, .int .u64 x16] σ (Cont R (CI .u64 fun x19 y => I64 (x13 + 1) ∧ pt10 R x19 (aD b15 o15) n11 c11 x12 (x13 + 1) y))) (R (.returned (.int .u64 x3)) σ)) : pt10 R x3 p11 n11 c11 x12 x13 σ := M.of h ok rfl
end eval_sum
namespace eval_count
variable {p0 : Option Addr} {n0 c0 : Nat}
def M : Fw := ⟨prog, 97, f97, [85], [], false, [], [], []⟩
theorem ok : M.Ok := ⟨.cons call85 (Ents.nil), mixed, func97, by kernel_rfl⟩
theorem start (h : Spec prog 85 #[(.int .i64 (n0 : Int))] σ (Cont R (CI .u64 fun x5 y => R (.returned (.int .u64 x5)) y))) : Spec prog 97 #[.slice p0 n0 c0] σ R := M.start h ok
end eval_count
namespace eval_asker_bin_2
variable {x0 : Int} {b1 b2 : Nat}
def M : Fw := ⟨prog, 101, f101, [98], [], false, [], [], []⟩
theorem ok : M.Ok := ⟨.cons call98 (Ents.nil), mixed, func101, by kernel_rfl⟩
theorem start (h : ∃ x6a x6b s6c p6d n6d c6d x6e x6f x6g p6h n6h c6h t6i x6j, LdL σ b1 0 [.int .i64 x6a, .int .i64 x6b, .string s6c, .slice p6d n6d c6d, .int .i64 x6e, .int .i64 x6f, .int .i64 x6g, .slice p6h n6h c6h, .bool t6i, .int .i64 x6j] ∧ LI .u64 σ b2 1 fun x9 => Spec prog 98 #[.agg #[.int .i64 x6a, .int .i64 x6b, .string s6c, .slice p6d n6d c6d, .int .i64 x6e, .int .i64 x6f, .int .i64 x6g, .slice p6h n6h c6h, .bool t6i, .int .i64 x6j], .int .u64 x0, .int .u64 x9] σ (Cont R (fun z y => ∃ x10a t10b, z = (.tuple #[.int .u64 x10a, .bool t10b]) ∧ R (.returned (.tuple #[.int .u64 x10a, .bool t10b])) y))) : Spec prog 101 #[.int .u64 x0, (.pointer (aD b1 0)), (.pointer (aD b2 0))] σ R := M.start h ok
end eval_asker_bin_2
namespace match_kinds
def M : Fw := ⟨prog, 117, f117, [], [], false, [], [], []⟩
theorem ok : M.Ok := ⟨Ents.nil, mixed, func117, by kernel_rfl⟩
theorem start (h : Al σ fun b1 => R (.returned (.slice (aD b1 0) 5 5)) (Hp.set σ b1 (.cells #[.nilFunc, (.func (.func 152) #[] #[]), (.func (.func 153) #[] #[]), (.func (.func 154) #[] #[]), (.func (.func 155) #[] #[])] 170 (0, 0)))) : Spec prog 117 #[] σ R := M.start h ok
end match_kinds
namespace math_Abs
variable {v0 : Value}
def M : Fw := ⟨prog, 120, f120, [], [], false, [], [], []⟩
theorem ok : M.Ok := ⟨Ents.nil, mixed, func120, by kernel_rfl⟩
theorem start (h : EN prog 26 #[v0] σ (CI .u64 fun x4 y => Df (Go.bits .andNot .u64 x4 9223372036854775808) fun x5 => EN prog 157 #[.int .u64 x5] y (fun z y_2 => ∃ x6, (Value.float .f64 x6) = z ∧ R (.returned (Value.float .f64 x6)) y_2))) : Spec prog 120 #[v0] σ R := M.startD h ok [(0, .o (.V v0))] rfl rfl (by kernel_rfl)
end math_Abs
namespace wave_of
variable {x0 : Int}
def M : Fw := ⟨prog, 121, f121, [], [], false, [], [], []⟩
theorem ok : M.Ok := ⟨Ents.nil, mixed, func121, by kernel_rfl⟩
theorem start (h : EN prog 157 #[.int .u64 x0] σ (fun z y => ∃ x4, (Value.float .f64 x4) = z ∧ R (.returned (Value.float .f64 x4)) y)) : Spec prog 121 #[.int .u64 x0] σ R := M.start h ok
end wave_of
namespace eval_always
variable {f0 : Fn} {a0 c0 : Array Value}
def M : Fw := ⟨prog, 123, f123, [], [], false, [], [], []⟩
theorem ok : M.Ok := ⟨Ents.nil, mixed, func123, by kernel_rfl⟩
theorem start (h : Al σ fun b1 => R (.returned (.func (.func 160) #[] #[(.pointer (aD b1 0))])) (Hp.set σ b1 (.cells #[(Value.func f0 a0 c0)] 149 (0, 0)))) : Spec prog 123 #[(Value.func f0 a0 c0)] σ R := M.startD h ok [(0, .o (.V (Value.func f0 a0 c0)))] rfl rfl (by kernel_rfl)
end eval_always
end TwW
end
end
section
set_option maxRecDepth 100000
noncomputable section
namespace TwW
open Go Tw Go.Proofs.Tryz
variable [Cnt] {R : Ending → Hp → Prop} {σ : Hp}

namespace wave_digits
variable {s0 : ByteArray} {x3 : Int}
def M : Fw := ⟨prog, 148, f148, [], [], false, [], [], [(224, [(0, wT), (3, wI)])]⟩
theorem ok : M.Ok := ⟨Ents.nil, mixed, func148, by kernel_rfl⟩
def pt9 := M.pt 0
theorem start (h : pt9 R s0 0 σ) : Spec prog 148 #[.string s0] σ R := M.start h ok
theorem pt9_of (h : Br (x3 < ((ByteArray.size s0 : Nat) : Int)) (∃ u11 : UInt8, 0 ≤ x3 ∧ (ByteArray.data s0)[Int.toNat x3]? = some u11 ∧ Br ((48 : Int) ≤ ((UInt8.toNat u11 : Nat) : Int)) (∃ u17 : UInt8, 0 ≤ x3 ∧ (ByteArray.data s0)[Int.toNat x3]? = some u17 ∧ Br ((((UInt8.toNat u17 : Nat) : Int) : Int) ≤ 57) (I64 (x3 + 1) ∧ pt9 R s0 (x3 + 1) σ) (R (.returned (.int .i64 x3)) σ)) (R (.returned (.int .i64 x3)) σ)) (R (.returned (.int .i64 x3)) σ)) : pt9 R s0 x3 σ := M.of h ok rfl
end wave_digits
end TwW
end
end
section
set_option maxRecDepth 100000
noncomputable section
namespace TwW
open Go Tw Go.Proofs.Tryz
variable [Cnt] {R : Ending → Hp → Prop} {σ : Hp}

namespace series_Check
variable {p0 p5 : Option Addr} {n0 c0 n5 c5 : Nat} {x6 x7 : Int}
def M : Fw := ⟨prog, 9, f9, [22, 23, 24], [4], false, [], [], [(104, [(0, wL), (5, wL), (6, wI), (7, wI)])]⟩
theorem ok : M.Ok := ⟨.cons call22 (.cons call23 (.cons call24 (Ents.nil))), mixed, func9, by kernel_rfl⟩
def pt8 := M.pt 0
theorem start (h : pt8 R p0 n0 c0 p0 n0 c0 (n0 : Int) 0 σ) : Spec prog 9 #[.slice p0 n0 c0] σ R := M.start h ok
theorem pt8_of (h : Br (x7 < x6) (Pq p5 fun b10 o10 => In x7 (n5 : Int) ∧ ∃ p11a n11a c11a p11b n11b c11b, LdL σ b10 (o10 + Int.toNat x7 * 2) [.slice p11a n11a c11a, .slice p11b n11b c11b] ∧ ∀ b4 : Nat, Spec prog 22 #[.slice p11a n11a c11a] σ (Cont R (CI .i64 fun x14 y => Br (x14 ≠ 0) (R (.returned (.int .i64 100)) y) (Spec prog 23 #[.slice p11b n11b c11b] y (Cont R (CB fun t19 y_2 => Bn t19 (R (.returned (.int .i64 100)) y_2) (Br (0 < x7) (I64 (x7 - 1) ∧ Pq p0 fun b29 o29 => In (x7 - 1) (n0 : Int) ∧ LS y_2 b29 (o29 + Int.toNat (x7 - 1) * 2) fun p31 n31 c31 => Spec prog 24 #[.slice p31 n31 c31, .slice p11a n11a c11a] y_2 (Cont R (CI .i64 fun x34 y_3 => Br (0 ≤ x34) (R (.returned (.int .i64 100)) y_3) (I64 (x7 + 1) ∧ pt8 R (aD b29 o29) n0 c0 (aD b10 o10) n5 c5 x6 (x7 + 1) y_3)))) (I64 (x7 + 1) ∧ pt8 R p0 n0 c0 (aD b10 o10) n5 c5 x6 (x7 + 1) y_2)))))))) (R (.returned (.int .i64 0)) σ)) : pt8 R p0 n0 c0 p5 n5 c5 x6 x7 σ := M.of h ok rfl
end series_Check
namespace eval_asks
variable {p0 p1 : Option Addr} {n0 c0 n1 c1 : Nat}
def M : Fw := ⟨prog, 10, f10, [8, 9], [], false, [], [], []⟩
theorem ok : M.Ok := ⟨.cons call8 (.cons call9 (Ents.nil)), mixed, func10, by kernel_rfl⟩
theorem start (h : Spec prog 8 #[.slice p0 n0 c0] σ (Cont R (fun z y => ∃ x10a x10b x10c, z = (.tuple #[.int .i64 x10a, .int .i64 x10b, .int .i64 x10c]) ∧ Br (x10c ≠ 0) (R (.returned (.int .i64 220)) y) (Br (x10a = 3) (R (.returned (.int .i64 220)) y) (Spec prog 9 #[.slice p1 n1 c1] y (Cont R (CI .i64 fun x23 y_2 => Br (x23 ≠ 0) (R (.returned (.int .i64 224)) y_2) (R (.returned (.int .i64 0)) y_2)))))))) : Spec prog 10 #[.slice p0 n0 c0, .slice p1 n1 c1] σ R := M.start h ok
end eval_asks
namespace law0_CopyLabels
variable {p0 : Option Addr} {n0 c0 : Nat}
def M : Fw := ⟨prog, 15, f15, [], [], false, [], [], []⟩
theorem ok : M.Ok := ⟨Ents.nil, mixed, func15, by kernel_rfl⟩
theorem start (h : Al σ fun b3 => Eff prog (Builtin.append_ #[33, 33] 33 #[(.slice (aD b3 0) 0 0), .slice p0 n0 c0]) (Hp.set σ b3 (.cells #[] 58 (0, 0))) (CS fun p5 n5 c5 y => R (.returned (.slice p5 n5 c5)) y)) : Spec prog 15 #[.slice p0 n0 c0] σ R := M.start h ok
end law0_CopyLabels
namespace eval_Window
variable {p0 p21 p11d p11h : Option Addr} {n0 c0 n21 c21 n11d c11d n11h c11h : Nat} {x7 x8 x22 x23 x11a x11b x11e x11f x11g x11j x12 : Int} {t9 t11i : Bool} {s11c : ByteArray}
def M : Fw := ⟨prog, 19, f19, [8], [11], false, [], [], [(488, [(7, wI), (8, wI), (9, wB), (21, wL), (22, wI), (23, wI)]), (1959, [(7, wI), (8, wI), (9, wB), (21, wL), (22, wI), (23, wI)]), (125342, [(7, wI), (8, wI), (9, wB), (11, .X 52 [.I .i64, .I .i64, .T, .L, .I .i64, .I .i64, .I .i64, .L, .B, .I .i64]), (12, wI), (21, wL), (22, wI), (23, wI)]), (250687, [(7, wI), (8, wI), (21, wL), (22, wI), (23, wI)])]⟩
theorem ok : M.Ok := ⟨.cons call8 (Ents.nil), mixed, func19, by kernel_rfl⟩
def pt20 := M.pt 0
def pt52 := M.pt 1
def pt44 := M.pt 2
def pt51 := M.pt 3
theorem start (h : Spec prog 8 #[.slice p0 n0 c0] σ (Cont R (fun z y => ∃ x15a x15b x15c, z = (.tuple #[.int .i64 x15a, .int .i64 x15b, .int .i64 x15c]) ∧ Br (x15c ≠ 0) (R (.returned (.tuple #[.int .i64 0, .int .i64 0])) y) (pt20 R 0 0 false p0 n0 c0 (n0 : Int) 0 y)))) : Spec prog 19 #[.slice p0 n0 c0] σ R := M.start h ok
theorem pt20_of (h : Br (x23 < x22) (Pq p21 fun b25 o25 => In x23 (n21 : Int) ∧ ∃ x26a x26b s26c p26d n26d c26d x26e x26f x26g p26h n26h c26h t26i x26j, LdL σ b25 (o25 + Int.toNat x23 * 10) [.int .i64 x26a, .int .i64 x26b, .string s26c, .slice p26d n26d c26d, .int .i64 x26e, .int .i64 x26f, .int .i64 x26g, .slice p26h n26h c26h, .bool t26i, .int .i64 x26j] ∧ ∀ b11 : Nat, Br (x26a ≠ 2) (Br (x26a ≠ 3) (pt52 R x7 x8 t9 (aD b25 o25) n21 c21 x22 x23 σ) (I64 (x26f + x26e) ∧ Br (x26a = 2) (I64 ((x26f + x26e) + 300) ∧ pt44 R x7 x8 t9 x26a x26b s26c p26d n26d c26d x26e x26f x26g p26h n26h c26h t26i x26j (((x26f + x26e) + 300)) (aD b25 o25) n21 c21 x22 x23 σ) (pt44 R x7 x8 t9 x26a x26b s26c p26d n26d c26d x26e x26f x26g p26h n26h c26h t26i x26j (x26f + x26e) (aD b25 o25) n21 c21 x22 x23 σ))) (I64 (x26f + x26e) ∧ Br (x26a = 2) (I64 ((x26f + x26e) + 300) ∧ pt44 R x7 x8 t9 x26a x26b s26c p26d n26d c26d x26e x26f x26g p26h n26h c26h t26i x26j (((x26f + x26e) + 300)) (aD b25 o25) n21 c21 x22 x23 σ) (pt44 R x7 x8 t9 x26a x26b s26c p26d n26d c26d x26e x26f x26g p26h n26h c26h t26i x26j (x26f + x26e) (aD b25 o25) n21 c21 x22 x23 σ))) (R (.returned (.tuple #[.int .i64 x7, .int .i64 x8])) σ)) : pt20 R x7 x8 t9 p21 n21 c21 x22 x23 σ := M.of h ok rfl
theorem pt52_of (h : I64 (x23 + 1) ∧ pt20 R x7 x8 t9 p21 n21 c21 x22 (x23 + 1) σ) : pt52 R x7 x8 t9 p21 n21 c21 x22 x23 σ := M.of h ok rfl
theorem pt44_of (h : Bn t9 (pt51 R (if x7 < x12 then x12 else x7) x11f p21 n21 c21 x22 x23 σ) (Br (x11f < x8) (pt51 R (if x7 < x12 then x12 else x7) x11f p21 n21 c21 x22 x23 σ) (pt51 R (if x7 < x12 then x12 else x7) x8 p21 n21 c21 x22 x23 σ))) : pt44 R x7 x8 t9 x11a x11b s11c p11d n11d c11d x11e x11f x11g p11h n11h c11h t11i x11j x12 p21 n21 c21 x22 x23 σ := M.of1 h ok rfl fun _ => by kernel_rfl
theorem pt51_of (h : pt52 R x7 x8 true p21 n21 c21 x22 x23 σ) : pt51 R x7 x8 p21 n21 c21 x22 x23 σ := M.of h ok rfl
end eval_Window
namespace label_Check
variable {p0 p8 : Option Addr} {n0 c0 n8 c8 : Nat} {x9 x10 : Int}
def M : Fw := ⟨prog, 22, f22, [38, 39], [4], false, [(10, 14, true)], [], [(232, [(0, wL), (8, wL), (9, wI), (10, wI)])]⟩
theorem ok : M.Ok := ⟨.cons call38 (.cons call39 (Ents.nil)), mixed, func22, by kernel_rfl⟩
def pt16 := M.pt 0
theorem start (h : Br (16 < (n0 : Int)) (R (.returned (.int .i64 30)) σ) (pt16 R p0 n0 c0 p0 n0 c0 (n0 : Int) 0 σ)) : Spec prog 22 #[.slice p0 n0 c0] σ R := M.start h ok
theorem pt16_of (h : Br (x10 < x9) (Pq p8 fun b13 o13 => In x10 (n8 : Int) ∧ ∃ s14a s14b, LdL σ b13 (o13 + Int.toNat x10 * 2) [.string s14a, .string s14b] ∧ ∀ b4 : Nat, Spec prog 38 #[.string s14a] σ (Cont R (CB fun t18 y => Bn t18 (R (.returned (.int .i64 31)) y) (Bo ((ByteArray.toList s14b == ByteArray.toList (ByteArray.mk #[]))) (R (.returned (.int .i64 32)) y) (Br ((256 : Int) < ((ByteArray.size s14b : Nat) : Int)) (R (.returned (.int .i64 32)) y) (Spec prog 39 #[.string s14b] y (Cont R (CB fun t33 y_2 => Bn t33 (R (.returned (.int .i64 32)) y_2) (Br (0 < x10) (I64 (x10 - 1) ∧ Pq p0 fun b45 o45 => In (x10 - 1) (n0 : Int) ∧ LT y_2 b45 (o45 + Int.toNat (x10 - 1) * 2) fun s47 => ∃ t48, YF prog ((do eqGuard .leq 9 (.tmp 41) (.tmp 47) (.string s14a) (.string s47); binOp .leq 9 (.string s14a) (.string s47))) y_2 (.bool t48) ∧ Bo t48 (R (.returned (.int .i64 33)) y_2) (I64 (x10 + 1) ∧ pt16 R (aD b45 o45) n0 c0 (aD b13 o13) n8 c8 x9 (x10 + 1) y_2)) (I64 (x10 + 1) ∧ pt16 R p0 n0 c0 (aD b13 o13) n8 c8 x9 (x10 + 1) y_2)))))))))) (R (.returned (.int .i64 0)) σ)) : pt16 R p0 n0 c0 p8 n8 c8 x9 x10 σ := M.of h ok rfl
end label_Check
namespace series_rising
variable {p0 : Option Addr} {n0 c0 : Nat} {x3 : Int}
def M : Fw := ⟨prog, 23, f23, [], [], false, [(4, 12, true)], [], [(208, [(0, wL), (3, wI)])]⟩
theorem ok : M.Ok := ⟨Ents.nil, mixed, func23, by kernel_rfl⟩
def pt9 := M.pt 0
theorem start (h : pt9 R p0 n0 c0 1 σ) : Spec prog 23 #[.slice p0 n0 c0] σ R := M.start h ok
theorem pt9_of (h : Br (x3 < (n0 : Int)) (Pq p0 fun b12 o12 => In x3 (n0 : Int) ∧ LI .i64 σ b12 (o12 + Int.toNat x3 * 2) fun x14 => I64 (x3 - 1) ∧ In (x3 - 1) (n0 : Int) ∧ LI .i64 σ b12 (o12 + Int.toNat (x3 - 1) * 2) fun x20 => Br (x14 ≤ x20) (R (.returned (.bool false)) σ) (I64 (x3 + 1) ∧ pt9 R (aD b12 o12) n0 c0 (x3 + 1) σ)) (R (.returned (.bool (decide (0 < (n0 : Int))))) σ)) : pt9 R p0 n0 c0 x3 σ := M.of h ok rfl
end series_rising
namespace match_Check
variable {p0 p8 : Option Addr} {n0 c0 n8 c8 : Nat} {x9 x10 : Int}
def M : Fw := ⟨prog, 32, f32, [55, 56], [4], false, [], [], [(232, [(8, wL), (9, wI), (10, wI)])]⟩
theorem ok : M.Ok := ⟨.cons call55 (.cons call56 (Ents.nil)), mixed, func32, by kernel_rfl⟩
def pt16 := M.pt 0
theorem start (h : Br (8 < (n0 : Int)) (R (.returned (.int .i64 41)) σ) (pt16 R p0 n0 c0 (n0 : Int) 0 σ)) : Spec prog 32 #[.slice p0 n0 c0] σ R := M.start h ok
theorem pt16_of (h : Br (x10 < x9) (Pq p8 fun b12 o12 => In x10 (n8 : Int) ∧ ∃ x13a s13b s13c, LdL σ b12 (o12 + Int.toNat x10 * 3) [.int .i64 x13a, .string s13b, .string s13c] ∧ ∀ b4 : Nat, Spec prog 55 #[.int .i64 x13a] σ (Cont R (CB fun t16 y => Bn t16 (R (.returned (.int .i64 40)) y) (Spec prog 56 #[.string s13b] y (Cont R (CB fun t21 y_2 => Bn t21 (R (.returned (.int .i64 40)) y_2) (Br ((256 : Int) < ((ByteArray.size s13c : Nat) : Int)) (R (.returned (.int .i64 40)) y_2) (I64 (x10 + 1) ∧ pt16 R (aD b12 o12) n8 c8 x9 (x10 + 1) y_2)))))))) (R (.returned (.int .i64 0)) σ)) : pt16 R p8 n8 c8 x9 x10 σ := M.of h ok rfl
end match_Check
namespace types_walk_call
variable {q0 p1d p1h p2 : Option Addr} {x1a x1b x1e x1f x1g x1j x8 : Int} {s1c : ByteArray} {n1d c1d n1h c1h n2 c2 : Nat} {t1i : Bool}
def M : Fw := ⟨prog, 34, f34, [], [4], false, [], [], [(60, [(2, wL), (8, wI)])]⟩
theorem ok : M.Ok := ⟨Ents.nil, mixed, func34, by kernel_rfl⟩
def pt12 := M.pt 0
theorem start (h : ∀ b4 : Nat, Br (x1b = 11) (pt12 R p2 n2 c2 2 σ) (Br (x1b = 12) (pt12 R p2 n2 c2 2 σ) (pt12 R p2 n2 c2 3 σ))) : Spec prog 34 #[.pointer q0, .agg #[.int .i64 x1a, .int .i64 x1b, .string s1c, .slice p1d n1d c1d, .int .i64 x1e, .int .i64 x1f, .int .i64 x1g, .slice p1h n1h c1h, .bool t1i, .int .i64 x1j], .slice p2 n2 c2] σ R := M.start h ok
theorem pt12_of (h : Pq p2 fun b18 o18 => In 0 (n2 : Int) ∧ LI .i64 σ b18 o18 fun x20 => Br (x20 ≠ x8) (R (.returned (.tuple #[.int .i64 0, .int .i64 191])) σ) (R (.returned (.tuple #[.int .i64 2, .int .i64 0])) σ)) : pt12 R p2 n2 c2 x8 σ := M.of h ok rfl
end types_walk_call
namespace types_bare
variable {x0a x0b x0e x0f x0g x0j : Int} {s0c : ByteArray} {p0d p0h : Option Addr} {n0d c0d n0h c0h : Nat} {t0i : Bool}
def M : Fw := ⟨prog, 50, f50, [], [1, 2], false, [(12, 7, false), (15, 7, false), (18, 11, false), (21, 15, false)], [], []⟩
theorem ok : M.Ok := ⟨Ents.nil, mixed, func50, by kernel_rfl⟩
theorem start (h : ∀ b1 : Nat, ∀ b2 : Nat, Al σ fun b3 => Eff prog (Instr.storeAt 52 (.pointer (aD b3 0)) (.agg #[.int .i64 x0a, .int .i64 0, (.string (ByteArray.mk #[])), .slice none 0 0, .int .i64 0, .int .i64 0, .int .i64 0, .slice none 0 0, .bool false, .int .i64 0])) (Hp.set σ b3 (.cells #[.int .i64 0, .int .i64 0, (.string (ByteArray.mk #[])), .slice none 0 0, .int .i64 0, .int .i64 0, .int .i64 0, .slice none 0 0, .bool false, .int .i64 0] 52 (0, 0))) (fun _ y => Br (x0a = 1) (Eff prog (Instr.storeAt 9 (.pointer (aD b3 2)) (.string s0c)) y (fun _ y_2 => ∃ x18a x18b s18c p18d n18d c18d x18e x18f x18g p18h n18h c18h t18i x18j, LdL y_2 b3 0 [.int .i64 x18a, .int .i64 x18b, .string s18c, .slice p18d n18d c18d, .int .i64 x18e, .int .i64 x18f, .int .i64 x18g, .slice p18h n18h c18h, .bool t18i, .int .i64 x18j] ∧ R (.returned (.agg #[.int .i64 x18a, .int .i64 x18b, .string s18c, .slice p18d n18d c18d, .int .i64 x18e, .int .i64 x18f, .int .i64 x18g, .slice p18h n18h c18h, .bool t18i, .int .i64 x18j])) y_2)) (Br (x0a = 2) (Eff prog (Instr.storeAt 2 (.pointer (aD b3 5)) (.int .i64 x0f)) y (fun _ y_2 => ∃ x24a x24b s24c p24d n24d c24d x24e x24f x24g p24h n24h c24h t24i x24j, LdL y_2 b3 0 [.int .i64 x24a, .int .i64 x24b, .string s24c, .slice p24d n24d c24d, .int .i64 x24e, .int .i64 x24f, .int .i64 x24g, .slice p24h n24h c24h, .bool t24i, .int .i64 x24j] ∧ R (.returned (.agg #[.int .i64 x24a, .int .i64 x24b, .string s24c, .slice p24d n24d c24d, .int .i64 x24e, .int .i64 x24f, .int .i64 x24g, .slice p24h n24h c24h, .bool t24i, .int .i64 x24j])) y_2)) (Br (x0a = 3) (Eff prog (Instr.storeAt 2 (.pointer (aD b3 4)) (.int .i64 x0e)) y (fun _ y_2 => Eff prog (Instr.storeAt 2 (.pointer (aD b3 5)) (.int .i64 x0f)) y_2 (fun _ y_3 => ∃ x33a x33b s33c p33d n33d c33d x33e x33f x33g p33h n33h c33h t33i x33j, LdL y_3 b3 0 [.int .i64 x33a, .int .i64 x33b, .string s33c, .slice p33d n33d c33d, .int .i64 x33e, .int .i64 x33f, .int .i64 x33g, .slice p33h n33h c33h, .bool t33i, .int .i64 x33j] ∧ R (.returned (.agg #[.int .i64 x33a, .int .i64 x33b, .string s33c, .slice p33d n33d c33d, .int .i64 x33e, .int .i64 x33f, .int .i64 x33g, .slice p33h n33h c33h, .bool t33i, .int .i64 x33j])) y_3))) (Br (x0a = 4) (Eff prog (Instr.storeAt 3 (.pointer (aD b3 1)) (.int .i64 x0b)) y (fun _ y_2 => Eff prog (Instr.storeAt 3 (.pointer (aD b3 9)) (.int .i64 x0j)) y_2 (fun _ y_3 => ∃ x42a x42b s42c p42d n42d c42d x42e x42f x42g p42h n42h c42h t42i x42j, LdL y_3 b3 0 [.int .i64 x42a, .int .i64 x42b, .string s42c, .slice p42d n42d c42d, .int .i64 x42e, .int .i64 x42f, .int .i64 x42g, .slice p42h n42h c42h, .bool t42i, .int .i64 x42j] ∧ R (.returned (.agg #[.int .i64 x42a, .int .i64 x42b, .string s42c, .slice p42d n42d c42d, .int .i64 x42e, .int .i64 x42f, .int .i64 x42g, .slice p42h n42h c42h, .bool t42i, .int .i64 x42j])) y_3))) (Br (x0a = 5) (Eff prog (Instr.storeAt 3 (.pointer (aD b3 1)) (.int .i64 x0b)) y (fun _ y_2 => Eff prog (Instr.storeAt 3 (.pointer (aD b3 9)) (.int .i64 x0j)) y_2 (fun _ y_3 => Eff prog (Instr.storeAt 3 (.pointer (aD b3 6)) (.int .i64 x0g)) y_3 (fun _ y_4 => ∃ x54a x54b s54c p54d n54d c54d x54e x54f x54g p54h n54h c54h t54i x54j, LdL y_4 b3 0 [.int .i64 x54a, .int .i64 x54b, .string s54c, .slice p54d n54d c54d, .int .i64 x54e, .int .i64 x54f, .int .i64 x54g, .slice p54h n54h c54h, .bool t54i, .int .i64 x54j] ∧ R (.returned (.agg #[.int .i64 x54a, .int .i64 x54b, .string s54c, .slice p54d n54d c54d, .int .i64 x54e, .int .i64 x54f, .int .i64 x54g, .slice p54h n54h c54h, .bool t54i, .int .i64 x54j])) y_4)))) (Br (x0a = 6) (Eff prog (Instr.storeAt 3 (.pointer (aD b3 1)) (.int .i64 x0b)) y (fun _ y_2 => Eff prog (Instr.storeAt 3 (.pointer (aD b3 9)) (.int .i64 x0j)) y_2 (fun _ y_3 => Eff prog (Instr.storeAt 4 (.pointer (aD b3 8)) (.bool t0i)) y_3 (fun _ y_4 => Eff prog (Instr.storeAt 3 (.pointer (aD b3 6)) (.int .i64 x0g)) y_4 (fun _ y_5 => ∃ x69a x69b s69c p69d n69d c69d x69e x69f x69g p69h n69h c69h t69i x69j, LdL y_5 b3 0 [.int .i64 x69a, .int .i64 x69b, .string s69c, .slice p69d n69d c69d, .int .i64 x69e, .int .i64 x69f, .int .i64 x69g, .slice p69h n69h c69h, .bool t69i, .int .i64 x69j] ∧ R (.returned (.agg #[.int .i64 x69a, .int .i64 x69b, .string s69c, .slice p69d n69d c69d, .int .i64 x69e, .int .i64 x69f, .int .i64 x69g, .slice p69h n69h c69h, .bool t69i, .int .i64 x69j])) y_5))))) (Eff prog (Instr.storeAt 3 (.pointer (aD b3 9)) (.int .i64 x0j)) y (fun _ y_2 => ∃ x12a x12b s12c p12d n12d c12d x12e x12f x12g p12h n12h c12h t12i x12j, LdL y_2 b3 0 [.int .i64 x12a, .int .i64 x12b, .string s12c, .slice p12d n12d c12d, .int .i64 x12e, .int .i64 x12f, .int .i64 x12g, .slice p12h n12h c12h, .bool t12i, .int .i64 x12j] ∧ R (.returned (.agg #[.int .i64 x12a, .int .i64 x12b, .string s12c, .slice p12d n12d c12d, .int .i64 x12e, .int .i64 x12f, .int .i64 x12g, .slice p12h n12h c12h, .bool t12i, .int .i64 x12j])) y_2))))))))) : Spec prog 50 #[.agg #[.int .i64 x0a, .int .i64 x0b, .string s0c, .slice p0d n0d c0d, .int .i64 x0e, .int .i64 x0f, .int .i64 x0g, .slice p0h n0h c0h, .bool t0i, .int .i64 x0j]] σ R := M.start h ok
end types_bare
namespace eval_asker_choice
variable {q0 p1d p1h p2 p4d p4h p6c p6d p8c p8d p16 : Option Addr} {x1a x1b x1e x1f x1g x1j x4a x4b x4e x4f x4g x4j x6a x6b x8a x8b x17 x18 : Int} {s1c s4c : ByteArray} {n1d c1d n1h c1h n2 c2 n4d c4d n4h c4h n6c c6c n6d c6d n8c c8c n8d c8d n16 c16 : Nat} {t1i t4i : Bool}
def M : Fw := ⟨prog, 61, f61, [83, 84], [4, 6, 8, 10], false, [(7, 15, false)], [], [(232, [(0, wQ), (4, .X 52 [.I .i64, .I .i64, .T, .L, .I .i64, .I .i64, .I .i64, .L, .B, .I .i64]), (6, .X 79 [.I .i64, .I .u64, .L, .L]), (8, .X 79 [.I .i64, .I .u64, .L, .L]), (16, wL), (17, wI), (18, wI)]), (935, [(0, wQ), (4, .X 52 [.I .i64, .I .i64, .T, .L, .I .i64, .I .i64, .I .i64, .L, .B, .I .i64]), (6, .X 79 [.I .i64, .I .u64, .L, .L]), (8, .X 79 [.I .i64, .I .u64, .L, .L]), (16, wL), (17, wI), (18, wI)])]⟩
theorem ok : M.Ok := ⟨.cons call83 (.cons call84 (Ents.nil)), mixed, func61, by kernel_rfl⟩
def pt10 := M.pt 0
def pt28 := M.pt 1
theorem start (h : ∀ b4 : Nat, ∀ b6 : Nat, ∀ b8 : Nat, Pq q0 fun b14 o14 => LS σ b14 o14 fun p16 n16 c16 => pt10 R (aD b14 o14) x1a x1b s1c p1d n1d c1d x1e x1f x1g p1h n1h c1h t1i x1j 0 0 none 0 0 none 0 0 2 0 none 0 0 none 0 0 p16 n16 c16 (n16 : Int) 0 σ) : Spec prog 61 #[.pointer q0, .agg #[.int .i64 x1a, .int .i64 x1b, .string s1c, .slice p1d n1d c1d, .int .i64 x1e, .int .i64 x1f, .int .i64 x1g, .slice p1h n1h c1h, .bool t1i, .int .i64 x1j], .slice p2 n2 c2] σ R := M.start h ok
theorem pt10_of (h : Br (x18 < x17) (Pq p16 fun b20 o20 => In x18 (n16 : Int) ∧ ∃ p21a n21a c21a p21b n21b c21b, LdL σ b20 (o20 + Int.toNat x18 * 2) [.slice p21a n21a c21a, .slice p21b n21b c21b] ∧ ∀ b10 : Nat, Pq q0 fun b25 o25 => LI .i64 σ b25 (o25 + 1) fun x27 => I64 (x27 - x4f) ∧ I64 ((x27 - x4f) - 300) ∧ LI .i64 σ b25 (o25 + 1) fun x35 => I64 (x35 - x4f) ∧ Spec prog 83 #[.slice p21b n21b c21b, (.int .i64 ((x27 - x4f) - 300)), (.int .i64 (x35 - x4f))] σ (Cont R (CS fun p39 n39 c39 y => Br ((n39 : Int) = 0) (pt28 R (aD b25 o25) x4a x4b s4c p4d n4d c4d x4e x4f x4g p4h n4h c4h t4i x4j x6a x6b p6c n6c c6c p6d n6d c6d x8a x8b p8c n8c c8c p8d n8d c8d (aD b20 o20) n16 c16 x17 x18 y) (I64 ((n39 : Int) - 1) ∧ Pq p39 fun b48 o48 => In (((n39 : Int) - 1)) (n39 : Int) ∧ LI .u64 y b48 ((o48 + Int.toNat ((n39 : Int) - 1) * 2) + 1) fun x50 => Br (x50 = 9218868437227405314) (pt28 R (aD b25 o25) x4a x4b s4c p4d n4d c4d x4e x4f x4g p4h n4h c4h t4i x4j x6a x6b p6c n6c c6c p6d n6d c6d x8a x8b p8c n8c c8c p8d n8d c8d (aD b20 o20) n16 c16 x17 x18 y) (Spec prog 84 #[.slice p4d n4d c4d, .slice p21a n21a c21a] y (Cont R (CB fun t58 y_2 => Bn t58 (pt28 R (aD b25 o25) x4a x4b s4c p4d n4d c4d x4e x4f x4g p4h n4h c4h t4i x4j x6a x6b p6c n6c c6c p6d n6d c6d x8a x8b p8c n8c c8c p8d n8d c8d (aD b20 o20) n16 c16 x17 x18 y_2) (I64 ((n39 : Int) - 1) ∧ In (((n39 : Int) - 1)) (n39 : Int) ∧ LI .u64 y_2 b48 ((o48 + Int.toNat ((n39 : Int) - 1) * 2) + 1) fun x71 => Al y_2 fun b73 => Eff prog (Builtin.append_ #[44, 44] 44 #[.slice p8c n8c c8c, (.slice (aD b73 0) 1 1)]) (Hp.set y_2 b73 (.cells #[.slice p21a n21a c21a, .int .u64 x71] 48 (0, 0))) (CS fun p74 n74 c74 y_3 => pt28 R (aD b25 o25) x4a x4b s4c p4d n4d c4d x4e x4f x4g p4h n4h c4h t4i x4j x6a x6b p6c n6c c6c p6d n6d c6d x8a x8b p74 n74 c74 p8d n8d c8d (aD b20 o20) n16 c16 x17 x18 y_3))))))))) (R (.returned (.tuple #[.agg #[.int .i64 x8a, .int .u64 x8b, .slice p8c n8c c8c, .slice p8d n8d c8d], .int .i64 0])) σ)) : pt10 R q0 x4a x4b s4c p4d n4d c4d x4e x4f x4g p4h n4h c4h t4i x4j x6a x6b p6c n6c c6c p6d n6d c6d x8a x8b p8c n8c c8c p8d n8d c8d p16 n16 c16 x17 x18 σ := M.of3 h ok rfl fun _ _ _ => by kernel_rfl
theorem pt28_of (h : I64 (x18 + 1) ∧ pt10 R q0 x4a x4b s4c p4d n4d c4d x4e x4f x4g p4h n4h c4h t4i x4j x6a x6b p6c n6c c6c p6d n6d c6d x8a x8b p8c n8c c8c p8d n8d c8d p16 n16 c16 x17 (x18 + 1) σ) : pt28 R q0 x4a x4b s4c p4d n4d c4d x4e x4f x4g p4h n4h c4h t4i x4j x6a x6b p6c n6c c6c p6d n6d c6d x8a x8b p8c n8c c8c p8d n8d c8d p16 n16 c16 x17 x18 σ := M.of3 h ok rfl fun _ _ _ => by kernel_rfl
end eval_asker_choice
namespace wave_Number
variable {s0 : ByteArray}
def M : Fw := ⟨prog, 82, f82, [111, 112, 113], [], false, [], [], []⟩
theorem ok : M.Ok := ⟨.cons call111 (.cons call112 (.cons call113 (Ents.nil))), mixed, func82, by kernel_rfl⟩
theorem start (h : Spec prog 111 #[.string s0] σ (Cont R (CB fun t7 y => Bn t7 (R (.returned (.tuple #[.int .u64 0, .bool false])) y) (Spec prog 112 #[.string s0, .int .i64 64] y (Cont R (fun z y_2 => ∃ v11a v11b, z = (.tuple #[v11a, v11b]) ∧ Spec prog 113 #[v11a] y_2 (Cont R (CI .u64 fun x15 y_3 => R (.returned (.tuple #[.int .u64 x15, .bool true])) y_3)))))))) : Spec prog 82 #[.string s0] σ R := M.start h ok
end wave_Number
namespace eval_functions
def M : Fw := ⟨prog, 89, f89, [123, 127], [], false, [], [], []⟩
theorem ok : M.Ok := ⟨.cons call123 (.cons call127 (Ents.nil)), mixed, func89, by kernel_rfl⟩
theorem start (h : Spec prog 123 #[(.func (.func 93) #[] #[])] σ (Cont R (fun z y => ∃ f1 a1 c1, (Value.func f1 a1 c1) = z ∧ Spec prog 123 #[(.func (.func 96) #[] #[])] y (Cont R (fun z y_2 => ∃ f2 a2 c2, (Value.func f2 a2 c2) = z ∧ Spec prog 123 #[(.func (.func 94) #[] #[])] y_2 (Cont R (fun z y_3 => ∃ f3 a3 c3, (Value.func f3 a3 c3) = z ∧ Spec prog 123 #[(.func (.func 95) #[] #[])] y_3 (Cont R (fun z y_4 => ∃ f4 a4 c4, (Value.func f4 a4 c4) = z ∧ Spec prog 123 #[(.func (.func 97) #[] #[])] y_4 (Cont R (fun z y_5 => ∃ f5 a5 c5, (Value.func f5 a5 c5) = z ∧ Spec prog 123 #[(.func (.func 124) #[] #[])] y_5 (Cont R (fun z y_6 => ∃ f6 a6 c6, (Value.func f6 a6 c6) = z ∧ Spec prog 123 #[(.func (.func 126) #[] #[])] y_6 (Cont R (fun z y_7 => ∃ f7 a7 c7, (Value.func f7 a7 c7) = z ∧ Spec prog 127 #[(.func (.func 128) #[] #[])] y_7 (Cont R (fun z y_8 => ∃ f8 a8 c8, (Value.func f8 a8 c8) = z ∧ Spec prog 127 #[(.func (.func 130) #[] #[])] y_8 (Cont R (fun z y_9 => ∃ f9 a9 c9, (Value.func f9 a9 c9) = z ∧ Spec prog 127 #[(.func (.func 132) #[] #[])] y_9 (Cont R (fun z y_10 => ∃ f10 a10 c10, (Value.func f10 a10 c10) = z ∧ Al y_10 fun b11 => R (.returned (.slice (aD b11 0) 11 11)) (Hp.set y_10 b11 (.cells #[.nilFunc, (Value.func f10 a10 c10), (Value.func f9 a9 c9), (Value.func f8 a8 c8), (Value.func f1 a1 c1), (Value.func f2 a2 c2), (Value.func f3 a3 c3), (Value.func f4 a4 c4), (Value.func f5 a5 c5), (Value.func f6 a6 c6), (Value.func f7 a7 c7)] 143 (0, 0)))))))))))))))))))))))) : Spec prog 89 #[] σ R := M.start h ok
end eval_functions
namespace label_Keep
variable {p0 p1 : Option Addr} {n0 c0 n1 c1 : Nat}
def M : Fw := ⟨prog, 91, f91, [136], [], false, [], [], []⟩
theorem ok : M.Ok := ⟨.cons call136 (Ents.nil), mixed, func91, by kernel_rfl⟩
theorem start (h : Al σ fun b3 => Spec prog 136 #[.slice p0 n0 c0, (.func (.func 137) #[] #[(.pointer (aD b3 0))])] (Hp.set σ b3 (.cells #[.slice p1 n1 c1] 50 (0, 0))) (Cont R (CS fun p7 n7 c7 y => R (.returned (.slice p7 n7 c7)) y))) : Spec prog 91 #[.slice p0 n0 c0, .slice p1 n1 c1] σ R := M.start h ok
end label_Keep
namespace lex_digit
variable {x0 : Int}
def M : Fw := ⟨prog, 110, f110, [], [], false, [], [], []⟩
theorem ok : M.Ok := ⟨Ents.nil, mixed, func110, by kernel_rfl⟩
theorem start (h : Br (48 ≤ x0) (R (.returned (.bool (decide (x0 ≤ 57)))) σ) (R (.returned (.bool false)) σ)) : Spec prog 110 #[.int .u8 x0] σ R := M.start h ok
end lex_digit
namespace wave_number
variable {s0 : ByteArray}
def M : Fw := ⟨prog, 111, f111, [148], [], false, [], [], []⟩
theorem ok : M.Ok := ⟨.cons call148 (Ents.nil), mixed, func111, by kernel_rfl⟩
theorem start (h : Spec prog 148 #[.string s0] σ (Cont R (CI .i64 fun x6 y => Br (x6 = 0) (R (.returned (.bool false)) y) (Br (1 < x6) (∃ u14 : UInt8, (0 : Int) ≤ 0 ∧ (ByteArray.data s0)[Int.toNat 0]? = some u14 ∧ Br ((((UInt8.toNat u14 : Nat) : Int) : Int) = 48) (R (.returned (.bool false)) y) (Br (x6 = ((ByteArray.size s0 : Nat) : Int)) (R (.returned (.bool (decide (x6 ≤ 15)))) y) (I64 (x6 + 1) ∧ ∃ s27, YF prog (Instr.sliceAt 9 (.string s0) (some (.int .i64 (x6 + 1))) none none) y (.string s27) ∧ Spec prog 148 #[.string s27] y (Cont R (CI .i64 fun x28 y_2 => ∃ u31 : UInt8, 0 ≤ x6 ∧ (ByteArray.data s0)[Int.toNat x6]? = some u31 ∧ Br ((((UInt8.toNat u31 : Nat) : Int) : Int) = 46) (Br (0 < x28) (I64 (x6 + 1) ∧ I64 ((x6 + 1) + x28) ∧ Br ((((x6 + 1) + x28) : Int) = ((ByteArray.size s0 : Nat) : Int)) (I64 (x6 + x28) ∧ R (.returned (.bool (decide (((x6 + x28) : Int) ≤ 15)))) y_2) (R (.returned (.bool false)) y_2)) (R (.returned (.bool false)) y_2)) (R (.returned (.bool false)) y_2)))))) (Br (x6 = ((ByteArray.size s0 : Nat) : Int)) (R (.returned (.bool (decide (x6 ≤ 15)))) y) (I64 (x6 + 1) ∧ ∃ s27, YF prog (Instr.sliceAt 9 (.string s0) (some (.int .i64 (x6 + 1))) none none) y (.string s27) ∧ Spec prog 148 #[.string s27] y (Cont R (CI .i64 fun x28 y_2 => ∃ u31 : UInt8, 0 ≤ x6 ∧ (ByteArray.data s0)[Int.toNat x6]? = some u31 ∧ Br ((((UInt8.toNat u31 : Nat) : Int) : Int) = 46) (Br (0 < x28) (I64 (x6 + 1) ∧ I64 ((x6 + 1) + x28) ∧ Br ((((x6 + 1) + x28) : Int) = ((ByteArray.size s0 : Nat) : Int)) (I64 (x6 + x28) ∧ R (.returned (.bool (decide (((x6 + x28) : Int) ≤ 15)))) y_2) (R (.returned (.bool false)) y_2)) (R (.returned (.bool false)) y_2)) (R (.returned (.bool false)) y_2))))))))) : Spec prog 111 #[.string s0] σ R := M.start h ok
end wave_number
namespace eval_points_2
variable {x0a x0b x1 : Int}
def M : Fw := ⟨prog, 116, f116, [], [2], false, [], [], []⟩
theorem ok : M.Ok := ⟨Ents.nil, mixed, func116, by kernel_rfl⟩
theorem start (h : ∀ b2 : Nat, Br (x0a ≤ x1) (R (.returned (.int .i64 (-1))) σ) (R (.returned (.int .i64 1)) σ)) : Spec prog 116 #[.agg #[.int .i64 x0a, .int .u64 x0b], .int .i64 x1] σ R := M.start h ok
end eval_points_2
namespace wave_Normal
variable {x0 : Int}
def M : Fw := ⟨prog, 125, f125, [113, 121], [], false, [], [], []⟩
theorem ok : M.Ok := ⟨.cons call113 (.cons call121 (Ents.nil)), mixed, func125, by kernel_rfl⟩
theorem start (h : Spec prog 121 #[.int .u64 x0] σ (Cont R (fun z y => ∃ x4, (Value.float .f64 x4) = z ∧ Spec prog 113 #[(Value.float .f64 x4)] y (Cont R (CI .u64 fun x5 y_2 => R (.returned (.int .u64 x5)) y_2))))) : Spec prog 125 #[.int .u64 x0] σ R := M.start h ok
end wave_Normal
namespace eval_strength
variable {p0 : Option Addr} {n0 c0 : Nat} {x3 : Int}
def M : Fw := ⟨prog, 126, f126, [161], [], false, [], [], [(224, [(0, wL), (3, wI)])]⟩
theorem ok : M.Ok := ⟨.cons call161 (Ents.nil), mixed, func126, by kernel_rfl⟩
def pt9 := M.pt 0
theorem start (h : pt9 R p0 n0 c0 8 σ) : Spec prog 126 #[.slice p0 n0 c0] σ R := M.start h ok
theorem pt9_of (h : Br ((n0 : Int) < x3) (2 ≠ (0 : Int) ∧ Df (IntKind.i64.wrap (Int.tdiv x3 2)) fun x11 => pt9 R p0 n0 c0 x11 σ) (I64 ((n0 : Int) - x3) ∧ ((0 : Int) ≤ ((n0 : Int) - x3) ∧ ((n0 : Int) - x3) ≤ (n0 : Int)) ∧ Spec prog 161 #[(.slice (slP p0 (Int.toNat ((n0 : Int) - x3)) c0 1) (n0 - Int.toNat ((n0 : Int) - x3)) (c0 - Int.toNat ((n0 : Int) - x3)))] σ (Cont R (fun z y => ∃ x19a x19b, z = (.tuple #[.int .u64 x19a, .int .i64 x19b]) ∧ R (.returned (.int .u64 x19a)) y)))) : pt9 R p0 n0 c0 x3 σ := M.of h ok rfl
end eval_strength
namespace eval_functions_4
variable {p0 p1 : Option Addr} {n0 c0 n1 c1 : Nat}
def M : Fw := ⟨prog, 132, f132, [131, 133], [], false, [], [], []⟩
theorem ok : M.Ok := ⟨.cons call131 (.cons call133 (Ents.nil)), mixed, func132, by kernel_rfl⟩
theorem start (h : Pq p1 fun b8 o8 => In 0 (n1 : Int) ∧ LI .u64 σ b8 (o8 + 1) fun x10 => Spec prog 131 #[.slice p0 n0 c0] σ (Cont R (CI .u64 fun x6 y => Kp [b8] σ y ∧ Spec prog 133 #[.int .u64 x6, .int .u64 x10] y (Cont R (CI .u64 fun x11 y_2 => R (.returned (.int .u64 x11)) y_2))))) : Spec prog 132 #[.slice p0 n0 c0, .slice p1 n1 c1] σ R := M.start h ok
end eval_functions_4
namespace eval_div
variable {x0 x1 : Int}
def M : Fw := ⟨prog, 133, f133, [142], [], false, [], [], []⟩
theorem ok : M.Ok := ⟨.cons call142 (Ents.nil), mixed, func133, by kernel_rfl⟩
theorem start (h : Spec prog 142 #[.int .i64 4, .int .u64 x0, .int .u64 x1] σ (Cont R (fun z y => ∃ x10a t10b, z = (.tuple #[.int .u64 x10a, .bool t10b]) ∧ R (.returned (.int .u64 x10a)) y))) : Spec prog 133 #[.int .u64 x0, .int .u64 x1] σ R := M.start h ok
end eval_div
namespace match_asker_ne
variable {p0a : Option Addr} {n0a c0a : Nat} {s0b s1 : ByteArray}
def M : Fw := ⟨prog, 153, f153, [], [2], false, [], [], []⟩
theorem ok : M.Ok := ⟨Ents.nil, mixed, func153, by kernel_rfl⟩
theorem start (h : ∀ b2 : Nat, R (.returned (.bool (!(ByteArray.toList s1 == ByteArray.toList s0b)))) σ) : Spec prog 153 #[.agg #[.slice p0a n0a c0a, .string s0b], .string s1] σ R := M.start h ok
end match_asker_ne
namespace internal_strconv_bool2_uint64
variable {t0 : Bool}
def M : Fw := ⟨prog, 209, f209, [], [], false, [], [], []⟩
theorem ok : M.Ok := ⟨Ents.nil, mixed, func209, by kernel_rfl⟩
theorem start (h : Bo t0 (R (.returned (.int .u64 1)) σ) (R (.returned (.int .u64 0)) σ)) : Spec prog 209 #[.bool t0] σ R := M.start h ok
end internal_strconv_bool2_uint64
namespace strings_HasPrefix
variable {s0 s1 : ByteArray}
def M : Fw := ⟨prog, 214, f214, [239], [], false, [], [], []⟩
theorem ok : M.Ok := ⟨.cons call239 (Ents.nil), mixed, func214, by kernel_rfl⟩
theorem start (h : Spec prog 239 #[.string s0, .string s1] σ (Cont R (CB fun t7 y => R (.returned (.bool t7)) y))) : Spec prog 214 #[.string s0, .string s1] σ R := M.start h ok
end strings_HasPrefix
end TwW
end
end
section
set_option maxRecDepth 100000
noncomputable section
namespace TwW
open Go Tw Go.Proofs.Tryz
variable [Cnt] {R : Ending → Hp → Prop} {σ : Hp}

namespace eval_moments
variable {x0 x1 x2 : Int}
def M : Fw := ⟨prog, 27, f27, [], [], false, [], [], []⟩
theorem ok : M.Ok := ⟨Ents.nil, mixed, func27, by kernel_rfl⟩
theorem start (h : Al σ fun b3 => Al (Hp.set σ b3 (.cells #[.int .i64 x0] 2 (0, 0))) fun b4 => Al (Hp.set (Hp.set σ b3 (.cells #[.int .i64 x0] 2 (0, 0))) b4 (.cells #[.int .i64 x1] 2 (0, 0))) fun b5 => R (.returned (.func (.func 45) #[] #[(.pointer (aD b3 0)), (.pointer (aD b5 0)), (.pointer (aD b4 0))])) (Hp.set (Hp.set (Hp.set σ b3 (.cells #[.int .i64 x0] 2 (0, 0))) b4 (.cells #[.int .i64 x1] 2 (0, 0))) b5 (.cells #[.int .i64 x2] 2 (0, 0)))) : Spec prog 27 #[.int .i64 x0, .int .i64 x1, .int .i64 x2] σ R := M.start h ok
end eval_moments
namespace types_leaf
variable {x0 : Int}
def M : Fw := ⟨prog, 33, f33, [], [], false, [], [], []⟩
theorem ok : M.Ok := ⟨Ents.nil, mixed, func33, by kernel_rfl⟩
theorem start (h : Al σ fun b1 => R (.returned (.func (.func 57) #[] #[(.pointer (aD b1 0))])) (Hp.set σ b1 (.cells #[.int .i64 x0] 3 (0, 0)))) : Spec prog 33 #[.int .i64 x0] σ R := M.start h ok
end types_leaf
namespace types_walk_bin
variable {q0 p1d p1h p2 : Option Addr} {x1a x1b x1e x1f x1g x1j : Int} {s1c : ByteArray} {n1d c1d n1h c1h n2 c2 : Nat} {t1i : Bool}
def M : Fw := ⟨prog, 36, f36, [54, 58], [4], false, [(1, 10, true)], [], []⟩
theorem ok : M.Ok := ⟨.cons call54 (.cons call58 (Ents.nil)), mixed, func36, by kernel_rfl⟩
theorem start (h : ∀ b4 : Nat, Pq p2 fun b13 o13 => In 0 (n2 : Int) ∧ LI .i64 σ b13 o13 fun x15 => In 1 (n2 : Int) ∧ LI .i64 σ b13 (o13 + 1) fun x19 => Br (x15 = 2) (Br (x15 = 1) (Br (x15 = 3) (R (.returned (.tuple #[.int .i64 0, .int .i64 192])) σ) (Br (x19 = 3) (R (.returned (.tuple #[.int .i64 0, .int .i64 192])) σ) (Spec prog 58 #[.int .i64 x1b] σ (Cont R (CB fun t41 y => Bo t41 (Bm (x19 = 2) (R (.returned (.tuple #[.int .i64 0, .int .i64 192])) y) (Br (x19 = 1) (Spec prog 54 #[.int .i64 x1b] y (Cont R (CB fun t57 y_2 => Bo t57 (Bn t1i (R (.returned (.tuple #[.int .i64 0, .int .i64 192])) y_2) (R (.returned (.tuple #[(.int .i64 (if x15 < x19 then x19 else x15)), .int .i64 0])) y_2)) (R (.returned (.tuple #[(.int .i64 (if x15 < x19 then x19 else x15)), .int .i64 0])) y_2)))) (R (.returned (.tuple #[(.int .i64 (if x15 < x19 then x19 else x15)), .int .i64 0])) y))) (Br (x1g ≠ 0) (Bm (x19 = 2) (R (.returned (.tuple #[.int .i64 0, .int .i64 192])) y) (Br (x19 = 1) (Spec prog 54 #[.int .i64 x1b] y (Cont R (CB fun t57 y_2 => Bo t57 (Bn t1i (R (.returned (.tuple #[.int .i64 0, .int .i64 192])) y_2) (R (.returned (.tuple #[(.int .i64 (if x15 < x19 then x19 else x15)), .int .i64 0])) y_2)) (R (.returned (.tuple #[(.int .i64 (if x15 < x19 then x19 else x15)), .int .i64 0])) y_2)))) (R (.returned (.tuple #[(.int .i64 (if x15 < x19 then x19 else x15)), .int .i64 0])) y))) (Br (x19 = 1) (Spec prog 54 #[.int .i64 x1b] y (Cont R (CB fun t57 y_2 => Bo t57 (Bn t1i (R (.returned (.tuple #[.int .i64 0, .int .i64 192])) y_2) (R (.returned (.tuple #[(.int .i64 (if x15 < x19 then x19 else x15)), .int .i64 0])) y_2)) (R (.returned (.tuple #[(.int .i64 (if x15 < x19 then x19 else x15)), .int .i64 0])) y_2)))) (R (.returned (.tuple #[(.int .i64 (if x15 < x19 then x19 else x15)), .int .i64 0])) y)))))))) (Br (x15 = 3) (R (.returned (.tuple #[.int .i64 0, .int .i64 192])) σ) (Br (x19 = 3) (R (.returned (.tuple #[.int .i64 0, .int .i64 192])) σ) (Spec prog 58 #[.int .i64 x1b] σ (Cont R (CB fun t41 y => Bo t41 (Bm (x19 = 2) (R (.returned (.tuple #[.int .i64 0, .int .i64 192])) y) (R (.returned (.tuple #[(.int .i64 (if x15 < x19 then x19 else x15)), .int .i64 0])) y)) (Br (x1g ≠ 0) (Bm (x19 = 2) (R (.returned (.tuple #[.int .i64 0, .int .i64 192])) y) (R (.returned (.tuple #[(.int .i64 (if x15 < x19 then x19 else x15)), .int .i64 0])) y)) (R (.returned (.tuple #[(.int .i64 (if x15 < x19 then x19 else x15)), .int .i64 0])) y)))))))) (Br (x15 = 1) (Br (x15 = 3) (R (.returned (.tuple #[.int .i64 0, .int .i64 192])) σ) (Br (x19 = 3) (R (.returned (.tuple #[.int .i64 0, .int .i64 192])) σ) (Spec prog 58 #[.int .i64 x1b] σ (Cont R (CB fun t41 y => Bo t41 (R (.returned (.tuple #[.int .i64 0, .int .i64 192])) y) (Br (x1g ≠ 0) (R (.returned (.tuple #[.int .i64 0, .int .i64 192])) y) (Br (x19 = 1) (Spec prog 54 #[.int .i64 x1b] y (Cont R (CB fun t57 y_2 => Bo t57 (Bn t1i (R (.returned (.tuple #[.int .i64 0, .int .i64 192])) y_2) (R (.returned (.tuple #[(.int .i64 (if x15 < x19 then x19 else x15)), .int .i64 0])) y_2)) (R (.returned (.tuple #[(.int .i64 (if x15 < x19 then x19 else x15)), .int .i64 0])) y_2)))) (R (.returned (.tuple #[(.int .i64 (if x15 < x19 then x19 else x15)), .int .i64 0])) y)))))))) (Br (x15 = 3) (R (.returned (.tuple #[.int .i64 0, .int .i64 192])) σ) (Br (x19 = 3) (R (.returned (.tuple #[.int .i64 0, .int .i64 192])) σ) (Spec prog 58 #[.int .i64 x1b] σ (Cont R (CB fun t41 y => Bo t41 (R (.returned (.tuple #[.int .i64 0, .int .i64 192])) y) (Br (x1g ≠ 0) (R (.returned (.tuple #[.int .i64 0, .int .i64 192])) y) (R (.returned (.tuple #[(.int .i64 (if x15 < x19 then x19 else x15)), .int .i64 0])) y))))))))) : Spec prog 36 #[.pointer q0, .agg #[.int .i64 x1a, .int .i64 x1b, .string s1c, .slice p1d n1d c1d, .int .i64 x1e, .int .i64 x1f, .int .i64 x1g, .slice p1h n1h c1h, .bool t1i, .int .i64 x1j], .slice p2 n2 c2] σ R := M.start h ok
end types_walk_bin
namespace lex_Number
variable {s0 : ByteArray}
def M : Fw := ⟨prog, 52, f52, [79, 80], [], false, [], [], []⟩
theorem ok : M.Ok := ⟨.cons call79 (.cons call80 (Ents.nil)), mixed, func52, by kernel_rfl⟩
theorem start (h : Spec prog 79 #[.string s0] σ (Cont R (CI .i64 fun x6 y => Br (x6 = 0) (R (.returned (.bool false)) y) (∃ s12, YF prog (Instr.sliceAt 9 (.string s0) none (some (.int .i64 x6)) none) y (.string s12) ∧ Spec prog 80 #[.string s12] y (Cont R (CB fun t13 y_2 => Bo t13 (R (.returned (.bool false)) y_2) (Br (x6 = ((ByteArray.size s0 : Nat) : Int)) (R (.returned (.bool (decide (x6 ≤ 15)))) y_2) (I64 (x6 + 1) ∧ ∃ s24, YF prog (Instr.sliceAt 9 (.string s0) (some (.int .i64 (x6 + 1))) none none) y_2 (.string s24) ∧ Spec prog 79 #[.string s24] y_2 (Cont R (CI .i64 fun x25 y_3 => ∃ u28 : UInt8, 0 ≤ x6 ∧ (ByteArray.data s0)[Int.toNat x6]? = some u28 ∧ Br ((((UInt8.toNat u28 : Nat) : Int) : Int) = 46) (Br (0 < x25) (I64 (x6 + 1) ∧ I64 ((x6 + 1) + x25) ∧ Br ((((x6 + 1) + x25) : Int) = ((ByteArray.size s0 : Nat) : Int)) (I64 (x6 + x25) ∧ R (.returned (.bool (decide (((x6 + x25) : Int) ≤ 15)))) y_3) (R (.returned (.bool false)) y_3)) (R (.returned (.bool false)) y_3)) (R (.returned (.bool false)) y_3))))))))))) : Spec prog 52 #[.string s0] σ R := M.start h ok
end lex_Number
namespace match_kind
variable {x0 : Int}
def M : Fw := ⟨prog, 55, f55, [], [], false, [], [], []⟩
theorem ok : M.Ok := ⟨Ents.nil, mixed, func55, by kernel_rfl⟩
theorem start (h : Br (1 ≤ x0) (R (.returned (.bool (decide (x0 ≤ 4)))) σ) (R (.returned (.bool false)) σ)) : Spec prog 55 #[.int .i64 x0] σ R := M.start h ok
end match_kind
namespace eval_asker_number
variable {q0 p1d p1h p2 : Option Addr} {x1a x1b x1e x1f x1g x1j : Int} {s1c : ByteArray} {n1d c1d n1h c1h n2 c2 : Nat} {t1i : Bool}
def M : Fw := ⟨prog, 60, f60, [82], [4, 6], false, [], [], []⟩
theorem ok : M.Ok := ⟨.cons call82 (Ents.nil), mixed, func60, by kernel_rfl⟩
theorem start (h : ∀ b4 : Nat, ∀ b6 : Nat, Spec prog 82 #[.string s1c] σ (Cont R (fun z y => ∃ x13a t13b, z = (.tuple #[.int .u64 x13a, .bool t13b]) ∧ R (.returned (.tuple #[.agg #[.int .i64 1, .int .u64 x13a, .slice none 0 0, .slice none 0 0], .int .i64 0])) y))) : Spec prog 60 #[.pointer q0, .agg #[.int .i64 x1a, .int .i64 x1b, .string s1c, .slice p1d n1d c1d, .int .i64 x1e, .int .i64 x1f, .int .i64 x1g, .slice p1h n1h c1h, .bool t1i, .int .i64 x1j], .slice p2 n2 c2] σ R := M.start h ok
end eval_asker_number
namespace match_Says
variable {p0 p1 p5 p9 : Option Addr} {n0 c0 n1 c1 n5 c5 n9 c9 : Nat} {x10 x11 : Int}
def M : Fw := ⟨prog, 84, f84, [55, 117, 118, 119], [7], false, [], [], [(232, [(1, wL), (5, wL), (9, wL), (10, wI), (11, wI)])]⟩
theorem ok : M.Ok := ⟨.cons call55 (.cons call117 (.cons call118 (.cons call119 (Ents.nil)))), mixed, func84, by kernel_rfl⟩
def pt10 := M.pt 0
theorem start (h : Spec prog 117 #[] σ (Cont R (CS fun p8 n8 c8 y => pt10 R p1 n1 c1 p8 n8 c8 p0 n0 c0 (n0 : Int) 0 y))) : Spec prog 84 #[.slice p0 n0 c0, .slice p1 n1 c1] σ R := M.start h ok
theorem pt10_of (h : Br (x11 < x10) (Pq p9 fun b13 o13 => In x11 (n9 : Int) ∧ ∃ x14a s14b s14c, LdL σ b13 (o13 + Int.toNat x11 * 3) [.int .i64 x14a, .string s14b, .string s14c] ∧ ∀ b7 : Nat, Spec prog 55 #[.int .i64 x14a] σ (Cont R (CB fun t17 y => Bn t17 (R (.returned (.bool false)) y) (Pq p5 fun b23 o23 => In x14a (n5 : Int) ∧ ∃ v24, Hp.ld y ⟨b23, (o23 + Int.toNat x14a * 1), none⟩ = some v24 ∧ Spec prog 118 #[.string s14c] y (Cont R (fun z y_2 => ∃ p27a n27a c27a, z = (.agg #[.slice p27a n27a c27a]) ∧ Kp [b23] y y_2 ∧ Spec prog 119 #[.slice p1 n1 c1, .string s14b] y_2 (Cont R (CT fun s34 y_3 => Kp [b23] y_2 y_3 ∧ ∃ (f35 : Nat) (fst35 cap35 : Array Value), v24 = .func (.func f35) fst35 cap35 ∧ Enters prog f35 ∧ Spec prog f35 (fst35 ++ #[.agg #[.slice p27a n27a c27a, .string s14c], .string s34] ++ cap35) y_3 (Cont R (CB fun t35 y_4 => Bn t35 (R (.returned (.bool false)) y_4) (I64 (x11 + 1) ∧ pt10 R p1 n1 c1 (aD b23 o23) n5 c5 (aD b13 o13) n9 c9 x10 (x11 + 1) y_4))))))))))) (R (.returned (.bool true)) σ)) : pt10 R p1 n1 c1 p5 n5 c5 p9 n9 c9 x10 x11 σ := M.of h ok rfl
end match_Says
namespace wave_Floor
variable {x0 : Int}
def M : Fw := ⟨prog, 87, f87, [113, 121, 122], [], false, [], [], []⟩
theorem ok : M.Ok := ⟨.cons call113 (.cons call121 (.cons call122 (Ents.nil))), mixed, func87, by kernel_rfl⟩
theorem start (h : Spec prog 121 #[.int .u64 x0] σ (Cont R (fun z y => ∃ x4, (Value.float .f64 x4) = z ∧ Spec prog 122 #[(Value.float .f64 x4)] y (Cont R (fun z y_2 => ∃ x5, (Value.float .f64 x5) = z ∧ Spec prog 113 #[(Value.float .f64 x5)] y_2 (Cont R (CI .u64 fun x6 y_3 => R (.returned (.int .u64 x6)) y_3))))))) : Spec prog 87 #[.int .u64 x0] σ R := M.start h ok
end wave_Floor
namespace eval_greatest
variable {p0 : Option Addr} {n0 c0 : Nat}
def M : Fw := ⟨prog, 95, f95, [141], [], false, [], [], []⟩
theorem ok : M.Ok := ⟨.cons call141 (Ents.nil), mixed, func95, by kernel_rfl⟩
theorem start (h : Spec prog 141 #[.int .i64 9, .slice p0 n0 c0] σ (Cont R (CI .u64 fun x4 y => R (.returned (.int .u64 x4)) y))) : Spec prog 95 #[.slice p0 n0 c0] σ R := M.start h ok
end eval_greatest
namespace eval_asker_vectors
variable {q0 p1d p1h p2 p3 p5d p5h p8c p8d p14 p41 : Option Addr} {x1a x1b x1e x1f x1g x1j x5a x5b x5e x5f x5g x5j x8a x8b x42 x43 : Int} {s1c s5c : ByteArray} {n1d c1d n1h c1h n2 c2 n3 c3 n5d c5d n5h c5h n8c c8c n8d c8d n14 c14 n41 c41 : Nat} {t1i t5i : Bool} {m12 : Option Nat}
def M : Fw := ⟨prog, 103, f103, [28, 54, 90, 98, 145, 146], [5, 8, 16, 18], false, [], [], [(2024, [(5, .X 52 [.I .i64, .I .i64, .T, .L, .I .i64, .I .i64, .I .i64, .L, .B, .I .i64]), (8, .X 79 [.I .i64, .I .u64, .L, .L]), (12, wM), (14, wL), (41, wL), (42, wI), (43, wI)]), (8103, [(5, .X 52 [.I .i64, .I .i64, .T, .L, .I .i64, .I .i64, .I .i64, .L, .B, .I .i64]), (8, .X 79 [.I .i64, .I .u64, .L, .L]), (12, wM), (14, wL), (41, wL), (42, wI), (43, wI)])]⟩
theorem ok : M.Ok := ⟨.cons call28 (.cons call54 (.cons call90 (.cons call98 (.cons call145 (.cons call146 (Ents.nil)))))), mixed, func103, by kernel_rfl⟩
def pt22 := M.pt 0
def pt53 := M.pt 1
theorem start (h : ∀ b5 : Nat, ∀ b8 : Nat, Spec prog 145 #[.agg #[.int .i64 x1a, .int .i64 x1b, .string s1c, .slice p1d n1d c1d, .int .i64 x1e, .int .i64 x1f, .int .i64 x1g, .slice p1h n1h c1h, .bool t1i, .int .i64 x1j], .slice p2 n2 c2] σ (Cont R (fun z y => ∃ m25a t25b, z = (.tuple #[.map m25a, .bool t25b]) ∧ Spec prog 145 #[.agg #[.int .i64 x1a, .int .i64 x1b, .string s1c, .slice p1d n1d c1d, .int .i64 x1e, .int .i64 x1f, .int .i64 x1g, .slice p1h n1h c1h, .bool t1i, .int .i64 x1j], .slice p3 n3 c3] y (Cont R (fun z y_2 => ∃ m31a t31b, z = (.tuple #[.map m31a, .bool t31b]) ∧ Bn t25b (R (.returned (.tuple #[.agg #[.int .i64 0, .int .u64 0, .slice none 0 0, .slice none 0 0], .int .i64 223])) y_2) (Bn t31b (R (.returned (.tuple #[.agg #[.int .i64 0, .int .u64 0, .slice none 0 0, .slice none 0 0], .int .i64 223])) y_2) (pt22 R x1a x1b s1c p1d n1d c1d x1e x1f x1g p1h n1h c1h t1i x1j 0 0 none 0 0 none 0 0 m31a none 0 0 p2 n2 c2 (n2 : Int) 0 y_2))))))) : Spec prog 103 #[.pointer q0, .agg #[.int .i64 x1a, .int .i64 x1b, .string s1c, .slice p1d n1d c1d, .int .i64 x1e, .int .i64 x1f, .int .i64 x1g, .slice p1h n1h c1h, .bool t1i, .int .i64 x1j], .slice p2 n2 c2, .slice p3 n3 c3] σ R := M.start h ok
theorem pt22_of (h : Br (x43 < x42) (Pq p41 fun b45 o45 => In x43 (n41 : Int) ∧ ∃ p46a n46a c46a x46b, LdL σ b45 (o45 + Int.toNat x43 * 2) [.slice p46a n46a c46a, .int .u64 x46b] ∧ ∀ b16 : Nat, Spec prog 146 #[.agg #[.int .i64 x5a, .int .i64 x5b, .string s5c, .slice p5d n5d c5d, .int .i64 x5e, .int .i64 x5f, .int .i64 x5g, .slice p5h n5h c5h, .bool t5i, .int .i64 x5j], .slice p46a n46a c46a] σ (Cont R (CS fun p50 n50 c50 y => Spec prog 28 #[.slice p50 n50 c50] y (Cont R (CT fun s54 y_2 => Eff prog (Instr.lookup 194 (.map m12) (.string s54) true) y_2 (fun z y_3 => ∃ p55aa n55aa c55aa x55ab t55b, z = (.tuple #[.agg #[.slice p55aa n55aa c55aa, .int .u64 x55ab], .bool t55b]) ∧ ∀ b18 : Nat, Bn t55b (pt53 R x5a x5b s5c p5d n5d c5d x5e x5f x5g p5h n5h c5h t5i x5j x8a x8b p8c n8c c8c p8d n8d c8d m12 p14 n14 c14 (aD b45 o45) n41 c41 x42 x43 y_3) (Spec prog 98 #[.agg #[.int .i64 x5a, .int .i64 x5b, .string s5c, .slice p5d n5d c5d, .int .i64 x5e, .int .i64 x5f, .int .i64 x5g, .slice p5h n5h c5h, .bool t5i, .int .i64 x5j], .int .u64 x46b, .int .u64 x55ab] y_3 (Cont R (fun z y_4 => ∃ x66a t66b, z = (.tuple #[.int .u64 x66a, .bool t66b]) ∧ Spec prog 54 #[.int .i64 x5b] y_4 (Cont R (CB fun t72 y_5 => Bn t72 (Al y_5 fun b82 => Eff prog (Builtin.append_ #[44, 44] 44 #[.slice p14 n14 c14, (.slice (aD b82 0) 1 1)]) (Hp.set y_5 b82 (.cells #[.slice p50 n50 c50, .int .u64 x66a] 48 (0, 0))) (CS fun p83 n83 c83 y_6 => pt53 R x5a x5b s5c p5d n5d c5d x5e x5f x5g p5h n5h c5h t5i x5j x8a x8b p8c n8c c8c p8d n8d c8d m12 p83 n83 c83 (aD b45 o45) n41 c41 x42 x43 y_6)) (Bo t5i (Al y_5 fun b82 => Eff prog (Builtin.append_ #[44, 44] 44 #[.slice p14 n14 c14, (.slice (aD b82 0) 1 1)]) (Hp.set y_5 b82 (.cells #[.slice p50 n50 c50, .int .u64 x66a] 48 (0, 0))) (CS fun p83 n83 c83 y_6 => pt53 R x5a x5b s5c p5d n5d c5d x5e x5f x5g p5h n5h c5h true x5j x8a x8b p8c n8c c8c p8d n8d c8d m12 p83 n83 c83 (aD b45 o45) n41 c41 x42 x43 y_6)) (Bo t66b (Al y_5 fun b88 => Eff prog (Builtin.append_ #[44, 44] 44 #[.slice p14 n14 c14, (.slice (aD b88 0) 1 1)]) (Hp.set y_5 b88 (.cells #[.slice p46a n46a c46a, .int .u64 x46b] 48 (0, 0))) (CS fun p89 n89 c89 y_6 => pt53 R x5a x5b s5c p5d n5d c5d x5e x5f x5g p5h n5h c5h false x5j x8a x8b p8c n8c c8c p8d n8d c8d m12 p89 n89 c89 (aD b45 o45) n41 c41 x42 x43 y_6)) (pt53 R x5a x5b s5c p5d n5d c5d x5e x5f x5g p5h n5h c5h false x5j x8a x8b p8c n8c c8c p8d n8d c8d m12 p14 n14 c14 (aD b45 o45) n41 c41 x42 x43 y_5)))))))))))))) (Spec prog 90 #[.slice p14 n14 c14] σ (Cont R (fun z y => ∃ x92aa x92ab p92ac n92ac c92ac p92ad n92ad c92ad x92b, z = (.tuple #[.agg #[.int .i64 x92aa, .int .u64 x92ab, .slice p92ac n92ac c92ac, .slice p92ad n92ad c92ad], .int .i64 x92b]) ∧ R (.returned (.tuple #[.agg #[.int .i64 x92aa, .int .u64 x92ab, .slice p92ac n92ac c92ac, .slice p92ad n92ad c92ad], .int .i64 x92b])) y)))) : pt22 R x5a x5b s5c p5d n5d c5d x5e x5f x5g p5h n5h c5h t5i x5j x8a x8b p8c n8c c8c p8d n8d c8d m12 p14 n14 c14 p41 n41 c41 x42 x43 σ := M.of2 h ok rfl fun _ _ => by kernel_rfl
theorem pt53_of (h : I64 (x43 + 1) ∧ pt22 R x5a x5b s5c p5d n5d c5d x5e x5f x5g p5h n5h c5h t5i x5j x8a x8b p8c n8c c8c p8d n8d c8d m12 p14 n14 c14 p41 n41 c41 x42 (x43 + 1) σ) : pt53 R x5a x5b s5c p5d n5d c5d x5e x5f x5g p5h n5h c5h t5i x5j x8a x8b p8c n8c c8c p8d n8d c8d m12 p14 n14 c14 p41 n41 c41 x42 x43 σ := M.of2 h ok rfl fun _ _ => by kernel_rfl
end eval_asker_vectors
namespace eval_vector_1
variable {p0a p1a : Option Addr} {n0a c0a n1a c1a : Nat} {x0b x1b : Int}
def M : Fw := ⟨prog, 135, f135, [24], [2, 3], false, [], [], []⟩
theorem ok : M.Ok := ⟨.cons call24 (Ents.nil), mixed, func135, by kernel_rfl⟩
theorem start (h : ∀ b2 : Nat, ∀ b3 : Nat, Spec prog 24 #[.slice p0a n0a c0a, .slice p1a n1a c1a] σ (Cont R (CI .i64 fun x9 y => R (.returned (.int .i64 x9)) y))) : Spec prog 135 #[.agg #[.slice p0a n0a c0a, .int .u64 x0b], .agg #[.slice p1a n1a c1a, .int .u64 x1b]] σ R := M.start h ok
end eval_vector_1
namespace label_filter
variable {p0 p5 p8 : Option Addr} {n0 c0 n5 c5 n8 c8 : Nat} {v1 : Value} {x9 x10 : Int}
def M : Fw := ⟨prog, 136, f136, [], [7], false, [], [], [(232, [(1, wV), (5, wL), (8, wL), (9, wI), (10, wI)]), (935, [(1, wV), (5, wL), (8, wL), (9, wI), (10, wI)])]⟩
theorem ok : M.Ok := ⟨Ents.nil, mixed, func136, by kernel_rfl⟩
def pt10 := M.pt 0
def pt24 := M.pt 1
theorem start (h : pt10 R v1 none 0 0 p0 n0 c0 (n0 : Int) 0 σ) : Spec prog 136 #[.slice p0 n0 c0, v1] σ R := M.startD h ok [(0, .o (.L p0 n0 c0)), (1, .o (.V v1))] rfl rfl (by kernel_rfl)
theorem pt10_of (h : Br (x10 < x9) (Pq p8 fun b12 o12 => In x10 (n8 : Int) ∧ ∃ s13a s13b, LdL σ b12 (o12 + Int.toNat x10 * 2) [.string s13a, .string s13b] ∧ ∀ b7 : Nat, ∃ (f16 : Nat) (fst16 cap16 : Array Value), v1 = .func (.func f16) fst16 cap16 ∧ Enters prog f16 ∧ Spec prog f16 (fst16 ++ #[.agg #[.string s13a, .string s13b]] ++ cap16) σ (Cont R (CB fun t16 y => Bo t16 (Al y fun b19 => Eff prog (Builtin.append_ #[33, 33] 33 #[.slice p5 n5 c5, (.slice (aD b19 0) 1 1)]) (Hp.set y b19 (.cells #[.string s13a, .string s13b] 58 (0, 0))) (CS fun p20 n20 c20 y_2 => pt24 R v1 p20 n20 c20 (aD b12 o12) n8 c8 x9 x10 y_2)) (pt24 R v1 p5 n5 c5 (aD b12 o12) n8 c8 x9 x10 y)))) (R (.returned (.slice p5 n5 c5)) σ)) : pt10 R v1 p5 n5 c5 p8 n8 c8 x9 x10 σ := M.of h ok rfl
theorem pt24_of (h : I64 (x10 + 1) ∧ pt10 R v1 p5 n5 c5 p8 n8 c8 x9 (x10 + 1) σ) : pt24 R v1 p5 n5 c5 p8 n8 c8 x9 x10 σ := M.of h ok rfl
end label_filter
namespace slices_Contains_string
variable {p0 : Option Addr} {n0 c0 : Nat} {s1 : ByteArray}
def M : Fw := ⟨prog, 138, f138, [164], [], false, [], [], []⟩
theorem ok : M.Ok := ⟨.cons call164 (Ents.nil), mixed, func138, by kernel_rfl⟩
theorem start (h : Spec prog 164 #[.slice p0 n0 c0, .string s1] σ (Cont R (CI .i64 fun x7 y => R (.returned (.bool (decide (0 ≤ x7)))) y))) : Spec prog 138 #[.slice p0 n0 c0, .string s1] σ R := M.start h ok
end slices_Contains_string
namespace label_Without_1
variable {s0a s0b : ByteArray} {b1 : Nat}
def M : Fw := ⟨prog, 139, f139, [138], [2], false, [], [], []⟩
theorem ok : M.Ok := ⟨.cons call138 (Ents.nil), mixed, func139, by kernel_rfl⟩
theorem start (h : ∀ b2 : Nat, LS σ b1 0 fun p4 n4 c4 => Spec prog 138 #[.slice p4 n4 c4, .string s0a] σ (Cont R (CB fun t7 y => R (.returned (.bool (!t7))) y))) : Spec prog 139 #[.agg #[.string s0a, .string s0b], (.pointer (aD b1 0))] σ R := M.start h ok
end label_Without_1
namespace eval_truth
variable {t0 : Bool}
def M : Fw := ⟨prog, 144, f144, [85], [], false, [], [], []⟩
theorem ok : M.Ok := ⟨.cons call85 (Ents.nil), mixed, func144, by kernel_rfl⟩
theorem start (h : Bo t0 (Spec prog 85 #[.int .i64 1] σ (Cont R (CI .u64 fun x4 y => R (.returned (.int .u64 x4)) y))) (Spec prog 85 #[.int .i64 0] σ (Cont R (CI .u64 fun x5 y => R (.returned (.int .u64 x5)) y)))) : Spec prog 144 #[.bool t0] σ R := M.start h ok
end eval_truth
namespace eval_keyed
variable {x0a x0b x0e x0f x0g x0j x2a x2b x2e x2f x2g x2j x11 x12 : Int} {s0c s2c : ByteArray} {p0d p0h p1 p2d p2h p10 : Option Addr} {n0d c0d n0h c0h n1 c1 n2d c2d n2h c2h n10 c10 : Nat} {t0i t2i : Bool} {m6 : Option Nat}
def M : Fw := ⟨prog, 145, f145, [28, 146], [2, 8], false, [(5, 7, false)], [], [(232, [(1, wL), (2, .X 52 [.I .i64, .I .i64, .T, .L, .I .i64, .I .i64, .I .i64, .L, .B, .I .i64]), (6, wM), (10, wL), (11, wI), (12, wI)])]⟩
theorem ok : M.Ok := ⟨.cons call28 (.cons call146 (Ents.nil)), mixed, func145, by kernel_rfl⟩
def pt10 := M.pt 0
theorem start (h : ∀ b2 : Nat, Eff prog (Instr.makeMap 194 none) σ (fun z y => ∃ m9, z = (.map (some m9)) ∧ pt10 R p1 n1 c1 x0a x0b s0c p0d n0d c0d x0e x0f x0g p0h n0h c0h t0i x0j (some m9) p1 n1 c1 (n1 : Int) 0 y)) : Spec prog 145 #[.agg #[.int .i64 x0a, .int .i64 x0b, .string s0c, .slice p0d n0d c0d, .int .i64 x0e, .int .i64 x0f, .int .i64 x0g, .slice p0h n0h c0h, .bool t0i, .int .i64 x0j], .slice p1 n1 c1] σ R := M.start h ok
theorem pt10_of (h : Br (x12 < x11) (Pq p10 fun b14 o14 => In x12 (n10 : Int) ∧ ∃ p15a n15a c15a x15b, LdL σ b14 (o14 + Int.toNat x12 * 2) [.slice p15a n15a c15a, .int .u64 x15b] ∧ ∀ b8 : Nat, Spec prog 146 #[.agg #[.int .i64 x2a, .int .i64 x2b, .string s2c, .slice p2d n2d c2d, .int .i64 x2e, .int .i64 x2f, .int .i64 x2g, .slice p2h n2h c2h, .bool t2i, .int .i64 x2j], .slice p15a n15a c15a] σ (Cont R (CS fun p20 n20 c20 y => Spec prog 28 #[.slice p20 n20 c20] y (Cont R (CT fun s21 y_2 => Eff prog (Instr.mapUpdate 194 (.map m6) (.string s21) (.agg #[.slice p15a n15a c15a, .int .u64 x15b])) y_2 (fun _ y_3 => I64 (x12 + 1) ∧ pt10 R p1 n1 c1 x2a x2b s2c p2d n2d c2d x2e x2f x2g p2h n2h c2h t2i x2j m6 (aD b14 o14) n10 c10 x11 (x12 + 1) y_3)))))) (∃ x26, YF prog (Builtin.len_ #[194] 3 #[.map m6]) σ (.int .i64 x26) ∧ R (.returned (.tuple #[.map m6, (.bool (decide (x26 = (n1 : Int))))])) σ)) : pt10 R p1 n1 c1 x2a x2b s2c p2d n2d c2d x2e x2f x2g p2h n2h c2h t2i x2j m6 p10 n10 c10 x11 x12 σ := M.of1 h ok rfl fun _ => by kernel_rfl
end eval_keyed
namespace match_asker_eq
variable {p0a : Option Addr} {n0a c0a : Nat} {s0b s1 : ByteArray}
def M : Fw := ⟨prog, 152, f152, [], [2], false, [], [], []⟩
theorem ok : M.Ok := ⟨Ents.nil, mixed, func152, by kernel_rfl⟩
theorem start (h : ∀ b2 : Nat, R (.returned (.bool (ByteArray.toList s1 == ByteArray.toList s0b))) σ) : Spec prog 152 #[.agg #[.slice p0a n0a c0a, .string s0b], .string s1] σ R := M.start h ok
end match_asker_eq
namespace eval_always_1
variable {p0 p1d p1h p2 : Option Addr} {n0 c0 n1d c1d n1h c1h n2 c2 b3 : Nat} {x1a x1b x1e x1f x1g x1j : Int} {s1c : ByteArray} {t1i : Bool}
def M : Fw := ⟨prog, 160, f160, [], [5], false, [], [], []⟩
theorem ok : M.Ok := ⟨Ents.nil, mixed, func160, by kernel_rfl⟩
theorem start (h : ∀ b5 : Nat, ∃ v9, Hp.ld σ ⟨b3, 0, none⟩ = some v9 ∧ ∃ (f11 : Nat) (fst11 cap11 : Array Value), v9 = .func (.func f11) fst11 cap11 ∧ Enters prog f11 ∧ Spec prog f11 (fst11 ++ #[.slice p0 n0 c0] ++ cap11) σ (Cont R (CI .u64 fun x11 y => R (.returned (.tuple #[.int .u64 x11, .bool true])) y))) : Spec prog 160 #[.slice p0 n0 c0, .agg #[.int .i64 x1a, .int .i64 x1b, .string s1c, .slice p1d n1d c1d, .int .i64 x1e, .int .i64 x1f, .int .i64 x1g, .slice p1h n1h c1h, .bool t1i, .int .i64 x1j], .slice p2 n2 c2, (.pointer (aD b3 0))] σ R := M.start h ok
end eval_always_1
namespace eval_two_1
variable {p0 p1d p1h p2 : Option Addr} {n0 c0 n1d c1d n1h c1h n2 c2 b3 : Nat} {x1a x1b x1e x1f x1g x1j : Int} {s1c : ByteArray} {t1i : Bool}
def M : Fw := ⟨prog, 162, f162, [], [5], false, [], [], []⟩
theorem ok : M.Ok := ⟨Ents.nil, mixed, func162, by kernel_rfl⟩
theorem start (h : ∀ b5 : Nat, Br ((n0 : Int) < 2) (R (.returned (.tuple #[.int .u64 0, .bool false])) σ) (∃ v12, Hp.ld σ ⟨b3, 0, none⟩ = some v12 ∧ ∃ (f15 : Nat) (fst15 cap15 : Array Value), v12 = .func (.func f15) fst15 cap15 ∧ Enters prog f15 ∧ Spec prog f15 (fst15 ++ #[.slice p0 n0 c0, .slice p2 n2 c2] ++ cap15) σ (Cont R (CI .u64 fun x15 y => R (.returned (.tuple #[.int .u64 x15, .bool true])) y)))) : Spec prog 162 #[.slice p0 n0 c0, .agg #[.int .i64 x1a, .int .i64 x1b, .string s1c, .slice p1d n1d c1d, .int .i64 x1e, .int .i64 x1f, .int .i64 x1g, .slice p1h n1h c1h, .bool t1i, .int .i64 x1j], .slice p2 n2 c2, (.pointer (aD b3 0))] σ R := M.start h ok
end eval_two_1
namespace internal_strconv_atof64
variable {s0 : ByteArray} {x3 x8 x9 x16 : Int} {v4 v2 : Value} {t11 : Bool}
def M : Fw := ⟨prog, 186, f186, [200, 201, 202, 207, 208, 209, 211, 212], [], false, [], [], [(254, [(0, wT), (3, wI), (4, wV)]), (8190, [(2, wV), (3, wI), (4, wV)]), (32446, [(0, wT), (3, wI), (4, wV), (8, wU), (9, wI), (11, wB), (16, wU)])]⟩
theorem ok : M.Ok := ⟨.cons call200 (.cons call201 (.cons call202 (.cons call207 (.cons call208 (.cons call209 (.cons call211 (.cons call212 (Ents.nil)))))))), mixed, func186, by kernel_rfl⟩
def pt97 := M.pt 0
def pt77 := M.pt 2
theorem start (h : Spec prog 200 #[.string s0] σ (Cont R (fun z y => ∃ v28a x28b t28c, z = (.tuple #[v28a, .int .i64 x28b, .bool t28c]) ∧ Bo t28c (R (.returned (.tuple #[v28a, .int .i64 x28b, .nilIface])) y) (Spec prog 201 #[.string s0] y (Cont R (fun z y_2 => ∃ x37a x37b t37c t37d t37e x37f t37g, z = (.tuple #[.int .u64 x37a, .int .i64 x37b, .bool t37c, .bool t37d, .bool t37e, .int .i64 x37f, .bool t37g]) ∧ Bn t37g (R (.returned (.tuple #[.float .f64 0, .int .i64 x37f, (.iface 214 (.int .i64 2))])) y_2) (Bo t37e (∃ s53, YF prog (Instr.sliceAt 9 (.string s0) none (some (.int .i64 x37f)) none) y_2 (.string s53) ∧ Spec prog 202 #[.string s53, (.pointer (aD 6 0)), .int .u64 x37a, .int .i64 x37b, .bool t37c, .bool t37d] y_2 (Cont R (fun z y_3 => ∃ v58a v58b, z = (.tuple #[v58a, v58b]) ∧ R (.returned (.tuple #[v58a, .int .i64 x37f, v58b])) y_3))) (LB y_2 5 0 fun t64 => Bo t64 (Spec prog 209 #[.bool t37c] y_2 (Cont R (CI .u64 fun x66 y_3 => ((0 : Int) ≤ 63 ∧ 63 ≤ ((IntKind.bits .u64 : Nat) : Int)) ∧ Df (IntKind.u64.wrap (x66 * 2 ^ Int.toNat 63)) fun x67 => Br (x37a = 0) (Df (Go.bits .or .u64 x67 0) fun x71 => EN prog 210 #[.int .u64 x71] y_3 (fun z y_4 => ∃ x72, (Value.float .f64 x72) = z ∧ R (.returned (.tuple #[(Value.float .f64 x72), .int .i64 x37f, .nilIface])) y_4)) (Br (310 < x37b) (Df (Go.bits .or .u64 x67 9218868437227405312) fun x77 => EN prog 210 #[.int .u64 x77] y_3 (fun z y_4 => ∃ x78, (Value.float .f64 x78) = z ∧ R (.returned (.tuple #[(Value.float .f64 x78), .int .i64 x37f, (.iface 214 (.int .i64 1))])) y_4)) (Br (x37b < (-345)) (Df (Go.bits .or .u64 x67 0) fun x84 => EN prog 210 #[.int .u64 x84] y_3 (fun z y_4 => ∃ x85, (Value.float .f64 x85) = z ∧ R (.returned (.tuple #[(Value.float .f64 x85), .int .i64 x37f, .nilIface])) y_4)) (Bn t37d (Spec prog 211 #[.int .u64 x37a, .int .i64 x37b, .bool t37c] y_3 (Cont R (fun z y_4 => ∃ v93a t93b, z = (.tuple #[v93a, .bool t93b]) ∧ Bo t93b (R (.returned (.tuple #[v93a, .int .i64 x37f, .nilIface])) y_4) (pt77 R s0 x37f .nilIface x37a x37b false x67 y_4)))) (pt77 R s0 x37f .nilIface x37a x37b true x67 y_3))))))) (pt97 R s0 x37f .nilIface y_2))))))))) : Spec prog 186 #[.string s0] σ R := M.start h ok
end internal_strconv_atof64
end TwW
end
end
section
set_option maxRecDepth 100000
noncomputable section
namespace TwW
open Go Tw Go.Proofs.Tryz
variable [Cnt] {R : Ending → Hp → Prop} {σ : Hp}

namespace law0_CopyNodes
variable {p0 p3 : Option Addr} {n0 c0 n3 c3 : Nat} {x4 : Int}
def M : Fw := ⟨prog, 5, f5, [13, 14], [5], false, [], [], [(464, [(0, wL), (3, wL), (4, wI)])]⟩
theorem ok : M.Ok := ⟨.cons call13 (.cons call14 (Ents.nil)), mixed, func5, by kernel_rfl⟩
def pt11 := M.pt 0
theorem start (h : pt11 R p0 n0 c0 none 0 0 0 σ) : Spec prog 5 #[.slice p0 n0 c0] σ R := M.start h ok
theorem pt11_of (h : Br (x4 < (n0 : Int)) (Pq p0 fun b14 o14 => In x4 (n0 : Int) ∧ ∃ x15a x15b s15c p15d n15d c15d x15e x15f x15g p15h n15h c15h t15i x15j, LdL σ b14 (o14 + Int.toNat x4 * 10) [.int .i64 x15a, .int .i64 x15b, .string s15c, .slice p15d n15d c15d, .int .i64 x15e, .int .i64 x15f, .int .i64 x15g, .slice p15h n15h c15h, .bool t15i, .int .i64 x15j] ∧ ∀ b5 : Nat, Spec prog 13 #[.slice p15d n15d c15d] σ (Cont R (CS fun p18 n18 c18 y => Spec prog 14 #[.slice p15h n15h c15h] y (Cont R (CS fun p22 n22 c22 y_2 => Al y_2 fun b26 => Eff prog (Builtin.append_ #[22, 22] 22 #[.slice p3 n3 c3, (.slice (aD b26 0) 1 1)]) (Hp.set y_2 b26 (.cells #[.int .i64 x15a, .int .i64 x15b, .string s15c, .slice p18 n18 c18, .int .i64 x15e, .int .i64 x15f, .int .i64 x15g, .slice p22 n22 c22, .bool t15i, .int .i64 x15j] 52 (0, 0))) (CS fun p27 n27 c27 y_3 => I64 (x4 + 1) ∧ pt11 R (aD b14 o14) n0 c0 p27 n27 c27 (x4 + 1) y_3)))))) (R (.returned (.slice p3 n3 c3)) σ)) : pt11 R p0 n0 c0 p3 n3 c3 x4 σ := M.of h ok rfl
end law0_CopyNodes
namespace label_Compare
variable {p0 p1 : Option Addr} {n0 c0 n1 c1 : Nat}
def M : Fw := ⟨prog, 24, f24, [40], [], false, [], [], []⟩
theorem ok : M.Ok := ⟨.cons call40 (Ents.nil), mixed, func24, by kernel_rfl⟩
theorem start (h : Spec prog 40 #[.slice p0 n0 c0, .slice p1 n1 c1, (.func (.func 41) #[] #[])] σ (Cont R (CI .i64 fun x7 y => R (.returned (.int .i64 x7)) y))) : Spec prog 24 #[.slice p0 n0 c0, .slice p1 n1 c1] σ R := M.start h ok
end label_Compare
namespace eval_nodes
def M : Fw := ⟨prog, 44, f44, [], [], false, [], [], []⟩
theorem ok : M.Ok := ⟨Ents.nil, mixed, func44, by kernel_rfl⟩
theorem start (h : Al σ fun b1 => R (.returned (.slice (aD b1 0) 8 8)) (Hp.set σ b1 (.cells #[.nilFunc, (.func (.func 60) #[] #[]), (.func (.func 61) #[] #[]), (.func (.func 62) #[] #[]), (.func (.func 63) #[] #[]), (.func (.func 64) #[] #[]), (.func (.func 65) #[] #[]), (.func (.func 66) #[] #[])] 106 (0, 0)))) : Spec prog 44 #[] σ R := M.start h ok
end eval_nodes
namespace label_Name
variable {s0 : ByteArray}
def M : Fw := ⟨prog, 56, f56, [38], [], false, [], [], []⟩
theorem ok : M.Ok := ⟨.cons call38 (Ents.nil), mixed, func56, by kernel_rfl⟩
theorem start (h : Spec prog 38 #[.string s0] σ (Cont R (CB fun t4 y => R (.returned (.bool t4)) y))) : Spec prog 56 #[.string s0] σ R := M.start h ok
end label_Name
namespace eval_asker_reach
variable {q0 p1d p1h p2 p4d p4h p6c p6d p8c p8d p21 p10a p10b p11 p46 : Option Addr} {x1a x1b x1e x1f x1g x1j x4a x4b x4e x4f x4g x4j x6a x6b x8a x8b x22 x23 x47 x48 : Int} {s1c s4c : ByteArray} {n1d c1d n1h c1h n2 c2 n4d c4d n4h c4h n6c c6c n6d c6d n8c c8c n8d c8d n21 c21 n10a c10a n10b c10b n11 c11 n46 c46 : Nat} {t1i t4i : Bool}
def M : Fw := ⟨prog, 62, f62, [83, 84, 85], [4, 6, 8, 10, 13], false, [], [], [(232, [(0, wQ), (4, .X 52 [.I .i64, .I .i64, .T, .L, .I .i64, .I .i64, .I .i64, .L, .B, .I .i64]), (6, .X 79 [.I .i64, .I .u64, .L, .L]), (8, .X 79 [.I .i64, .I .u64, .L, .L]), (21, wL), (22, wI), (23, wI)]), (239208, [(0, wQ), (4, .X 52 [.I .i64, .I .i64, .T, .L, .I .i64, .I .i64, .I .i64, .L, .B, .I .i64]), (6, .X 79 [.I .i64, .I .u64, .L, .L]), (8, .X 79 [.I .i64, .I .u64, .L, .L]), (10, .X 36 [.L, .L]), (11, wL), (21, wL), (22, wI), (23, wI), (46, wL), (47, wI), (48, wI)]), (935, [(0, wQ), (4, .X 52 [.I .i64, .I .i64, .T, .L, .I .i64, .I .i64, .I .i64, .L, .B, .I .i64]), (6, .X 79 [.I .i64, .I .u64, .L, .L]), (8, .X 79 [.I .i64, .I .u64, .L, .L]), (21, wL), (22, wI), (23, wI)]), (956839, [(0, wQ), (4, .X 52 [.I .i64, .I .i64, .T, .L, .I .i64, .I .i64, .I .i64, .L, .B, .I .i64]), (6, .X 79 [.I .i64, .I .u64, .L, .L]), (8, .X 79 [.I .i64, .I .u64, .L, .L]), (10, .X 36 [.L, .L]), (11, wL), (21, wL), (22, wI), (23, wI), (46, wL), (47, wI), (48, wI)])]⟩
theorem ok : M.Ok := ⟨.cons call83 (.cons call84 (.cons call85 (Ents.nil))), mixed, func62, by kernel_rfl⟩
def pt10 := M.pt 0
def pt27 := M.pt 1
def pt47 := M.pt 2
def pt41 := M.pt 3
theorem start (h : ∀ b4 : Nat, ∀ b6 : Nat, Spec prog 85 #[.int .i64 x1e] σ (Cont R (CI .u64 fun x16 y => ∀ b8 : Nat, Pq q0 fun b19 o19 => LS y b19 o19 fun p21 n21 c21 => pt10 R (aD b19 o19) x1a x1b s1c p1d n1d c1d x1e x1f x1g p1h n1h c1h t1i x1j 0 0 none 0 0 none 0 0 3 x16 none 0 0 none 0 0 p21 n21 c21 (n21 : Int) 0 y))) : Spec prog 62 #[.pointer q0, .agg #[.int .i64 x1a, .int .i64 x1b, .string s1c, .slice p1d n1d c1d, .int .i64 x1e, .int .i64 x1f, .int .i64 x1g, .slice p1h n1h c1h, .bool t1i, .int .i64 x1j], .slice p2 n2 c2] σ R := M.start h ok
theorem pt10_of (h : Br (x23 < x22) (Pq p21 fun b25 o25 => In x23 (n21 : Int) ∧ ∃ p26a n26a c26a p26b n26b c26b, LdL σ b25 (o25 + Int.toNat x23 * 2) [.slice p26a n26a c26a, .slice p26b n26b c26b] ∧ ∀ b10 : Nat, Pq q0 fun b30 o30 => LI .i64 σ b30 (o30 + 1) fun x32 => I64 (x32 - x4f) ∧ I64 ((x32 - x4f) - x4e) ∧ LI .i64 σ b30 (o30 + 1) fun x42 => I64 (x42 - x4f) ∧ Spec prog 83 #[.slice p26b n26b c26b, (.int .i64 ((x32 - x4f) - x4e)), (.int .i64 (x42 - x4f))] σ (Cont R (CS fun p46 n46 c46 y => pt27 R (aD b30 o30) x4a x4b s4c p4d n4d c4d x4e x4f x4g p4h n4h c4h t4i x4j x6a x6b p6c n6c c6c p6d n6d c6d x8a x8b p8c n8c c8c p8d n8d c8d p26a n26a c26a p26b n26b c26b none 0 0 (aD b25 o25) n21 c21 x22 x23 p46 n46 c46 (n46 : Int) 0 y))) (R (.returned (.tuple #[.agg #[.int .i64 x8a, .int .u64 x8b, .slice p8c n8c c8c, .slice p8d n8d c8d], .int .i64 0])) σ)) : pt10 R q0 x4a x4b s4c p4d n4d c4d x4e x4f x4g p4h n4h c4h t4i x4j x6a x6b p6c n6c c6c p6d n6d c6d x8a x8b p8c n8c c8c p8d n8d c8d p21 n21 c21 x22 x23 σ := M.of3 h ok rfl fun _ _ _ => by kernel_rfl
theorem pt27_of (h : Br (x48 < x47) (Pq p46 fun b50 o50 => In x48 (n46 : Int) ∧ ∃ x51a x51b, LdL σ b50 (o50 + Int.toNat x48 * 2) [.int .i64 x51a, .int .u64 x51b] ∧ ∀ b13 : Nat, Br (x51b ≠ 9218868437227405314) (Al σ fun b58 => Eff prog (Builtin.append_ #[135, 135] 135 #[.slice p11 n11 c11, (.slice (aD b58 0) 1 1)]) (Hp.set σ b58 (.cells #[.int .u64 x51b] 37 (0, 0))) (CS fun p59 n59 c59 y => pt41 R q0 x4a x4b s4c p4d n4d c4d x4e x4f x4g p4h n4h c4h t4i x4j x6a x6b p6c n6c c6c p6d n6d c6d x8a x8b p8c n8c c8c p8d n8d c8d p10a n10a c10a p10b n10b c10b p59 n59 c59 p21 n21 c21 x22 x23 (aD b50 o50) n46 c46 x47 x48 y)) (pt41 R q0 x4a x4b s4c p4d n4d c4d x4e x4f x4g p4h n4h c4h t4i x4j x6a x6b p6c n6c c6c p6d n6d c6d x8a x8b p8c n8c c8c p8d n8d c8d p10a n10a c10a p10b n10b c10b p11 n11 c11 p21 n21 c21 x22 x23 (aD b50 o50) n46 c46 x47 x48 σ)) (Br (0 < (n11 : Int)) (Spec prog 84 #[.slice p4d n4d c4d, .slice p10a n10a c10a] σ (Cont R (CB fun t69 y => Bo t69 (Al y fun b77 => Eff prog (Builtin.append_ #[77, 77] 77 #[.slice p8d n8d c8d, (.slice (aD b77 0) 1 1)]) (Hp.set y b77 (.cells #[.slice p10a n10a c10a, .slice p11 n11 c11] 137 (0, 0))) (CS fun p78 n78 c78 y_2 => pt47 R q0 x4a x4b s4c p4d n4d c4d x4e x4f x4g p4h n4h c4h t4i x4j x6a x6b p6c n6c c6c p6d n6d c6d x8a x8b p8c n8c c8c p78 n78 c78 p21 n21 c21 x22 x23 y_2)) (pt47 R q0 x4a x4b s4c p4d n4d c4d x4e x4f x4g p4h n4h c4h t4i x4j x6a x6b p6c n6c c6c p6d n6d c6d x8a x8b p8c n8c c8c p8d n8d c8d p21 n21 c21 x22 x23 y)))) (pt47 R q0 x4a x4b s4c p4d n4d c4d x4e x4f x4g p4h n4h c4h t4i x4j x6a x6b p6c n6c c6c p6d n6d c6d x8a x8b p8c n8c c8c p8d n8d c8d p21 n21 c21 x22 x23 σ))) : pt27 R q0 x4a x4b s4c p4d n4d c4d x4e x4f x4g p4h n4h c4h t4i x4j x6a x6b p6c n6c c6c p6d n6d c6d x8a x8b p8c n8c c8c p8d n8d c8d p10a n10a c10a p10b n10b c10b p11 n11 c11 p21 n21 c21 x22 x23 p46 n46 c46 x47 x48 σ := M.of4 h ok rfl fun _ _ _ _ => by kernel_rfl
theorem pt47_of (h : I64 (x23 + 1) ∧ pt10 R q0 x4a x4b s4c p4d n4d c4d x4e x4f x4g p4h n4h c4h t4i x4j x6a x6b p6c n6c c6c p6d n6d c6d x8a x8b p8c n8c c8c p8d n8d c8d p21 n21 c21 x22 (x23 + 1) σ) : pt47 R q0 x4a x4b s4c p4d n4d c4d x4e x4f x4g p4h n4h c4h t4i x4j x6a x6b p6c n6c c6c p6d n6d c6d x8a x8b p8c n8c c8c p8d n8d c8d p21 n21 c21 x22 x23 σ := M.of3 h ok rfl fun _ _ _ => by kernel_rfl
theorem pt41_of (h : I64 (x48 + 1) ∧ pt27 R q0 x4a x4b s4c p4d n4d c4d x4e x4f x4g p4h n4h c4h t4i x4j x6a x6b p6c n6c c6c p6d n6d c6d x8a x8b p8c n8c c8c p8d n8d c8d p10a n10a c10a p10b n10b c10b p11 n11 c11 p21 n21 c21 x22 x23 p46 n46 c46 x47 (x48 + 1) σ) : pt41 R q0 x4a x4b s4c p4d n4d c4d x4e x4f x4g p4h n4h c4h t4i x4j x6a x6b p6c n6c c6c p6d n6d c6d x8a x8b p8c n8c c8c p8d n8d c8d p10a n10a c10a p10b n10b c10b p11 n11 c11 p21 n21 c21 x22 x23 p46 n46 c46 x47 x48 σ := M.of4 h ok rfl fun _ _ _ _ => by kernel_rfl
end eval_asker_reach
namespace eval_asker_bin
variable {q0 p1d p1h p2 : Option Addr} {x1a x1b x1e x1f x1g x1j : Int} {s1c : ByteArray} {n1d c1d n1h c1h n2 c2 : Nat} {t1i : Bool}
def M : Fw := ⟨prog, 65, f65, [58, 98, 99, 102, 103], [6], false, [(1, 9, false)], [], []⟩
theorem ok : M.Ok := ⟨.cons call58 (.cons call98 (.cons call99 (.cons call102 (.cons call103 (Ents.nil))))), mixed, func65, by kernel_rfl⟩
theorem start (h : Al σ fun b4 => ∀ b6 : Nat, Pq p2 fun b13 o13 => In 0 (n2 : Int) ∧ ∃ x14a x14b p14c n14c c14c p14d n14d c14d, LdL (Hp.set σ b4 (.cells #[.int .i64 x1a, .int .i64 x1b, .string s1c, .slice p1d n1d c1d, .int .i64 x1e, .int .i64 x1f, .int .i64 x1g, .slice p1h n1h c1h, .bool t1i, .int .i64 x1j] 52 (0, 0))) b13 o13 [.int .i64 x14a, .int .u64 x14b, .slice p14c n14c c14c, .slice p14d n14d c14d] ∧ In 1 (n2 : Int) ∧ ∃ x17a x17b p17c n17c c17c p17d n17d c17d, LdL (Hp.set σ b4 (.cells #[.int .i64 x1a, .int .i64 x1b, .string s1c, .slice p1d n1d c1d, .int .i64 x1e, .int .i64 x1f, .int .i64 x1g, .slice p1h n1h c1h, .bool t1i, .int .i64 x1j] 52 (0, 0))) b13 (o13 + 4) [.int .i64 x17a, .int .u64 x17b, .slice p17c n17c c17c, .slice p17d n17d c17d] ∧ (Al (Hp.set σ b4 (.cells #[.int .i64 x1a, .int .i64 x1b, .string s1c, .slice p1d n1d c1d, .int .i64 x1e, .int .i64 x1f, .int .i64 x1g, .slice p1h n1h c1h, .bool t1i, .int .i64 x1j] 52 (0, 0))) fun b8 => Al (Hp.set (Hp.set σ b4 (.cells #[.int .i64 x1a, .int .i64 x1b, .string s1c, .slice p1d n1d c1d, .int .i64 x1e, .int .i64 x1f, .int .i64 x1g, .slice p1h n1h c1h, .bool t1i, .int .i64 x1j] 52 (0, 0))) b8 (.cells #[.int .i64 0, .int .u64 0, .slice none 0 0, .slice none 0 0] 79 (0, 0))) fun b9 => Eff prog (Instr.storeAt 79 (.pointer (aD b8 0)) (.agg #[.int .i64 x14a, .int .u64 x14b, .slice p14c n14c c14c, .slice p14d n14d c14d])) (Hp.set (Hp.set (Hp.set σ b4 (.cells #[.int .i64 x1a, .int .i64 x1b, .string s1c, .slice p1d n1d c1d, .int .i64 x1e, .int .i64 x1f, .int .i64 x1g, .slice p1h n1h c1h, .bool t1i, .int .i64 x1j] 52 (0, 0))) b8 (.cells #[.int .i64 0, .int .u64 0, .slice none 0 0, .slice none 0 0] 79 (0, 0))) b9 (.cells #[.int .i64 0, .int .u64 0, .slice none 0 0, .slice none 0 0] 79 (0, 0))) (fun _ y => Kp [b13] (Hp.set (Hp.set (Hp.set σ b4 (.cells #[.int .i64 x1a, .int .i64 x1b, .string s1c, .slice p1d n1d c1d, .int .i64 x1e, .int .i64 x1f, .int .i64 x1g, .slice p1h n1h c1h, .bool t1i, .int .i64 x1j] 52 (0, 0))) b8 (.cells #[.int .i64 0, .int .u64 0, .slice none 0 0, .slice none 0 0] 79 (0, 0))) b9 (.cells #[.int .i64 0, .int .u64 0, .slice none 0 0, .slice none 0 0] 79 (0, 0))) y ∧ Eff prog (Instr.storeAt 79 (.pointer (aD b9 0)) (.agg #[.int .i64 x17a, .int .u64 x17b, .slice p17c n17c c17c, .slice p17d n17d c17d])) y (fun _ y_2 => LI .i64 y_2 b8 0 fun x20 => Br (x20 = 1) (LI .i64 y_2 b9 0 fun x24 => Br (x24 = 1) (∃ x28a x28b s28c p28d n28d c28d x28e x28f x28g p28h n28h c28h t28i x28j, LdL y_2 b4 0 [.int .i64 x28a, .int .i64 x28b, .string s28c, .slice p28d n28d c28d, .int .i64 x28e, .int .i64 x28f, .int .i64 x28g, .slice p28h n28h c28h, .bool t28i, .int .i64 x28j] ∧ LI .u64 y_2 b8 1 fun x30 => LI .u64 y_2 b9 1 fun x32 => Spec prog 98 #[.agg #[.int .i64 x28a, .int .i64 x28b, .string s28c, .slice p28d n28d c28d, .int .i64 x28e, .int .i64 x28f, .int .i64 x28g, .slice p28h n28h c28h, .bool t28i, .int .i64 x28j], .int .u64 x30, .int .u64 x32] y_2 (Cont R (fun z y_3 => ∃ x33a t33b, z = (.tuple #[.int .u64 x33a, .bool t33b]) ∧ R (.returned (.tuple #[.agg #[.int .i64 1, .int .u64 x33a, .slice none 0 0, .slice none 0 0], .int .i64 0])) y_3))) (LI .i64 y_2 b8 0 fun x40 => Br (x40 = 1) (∃ x43a x43b s43c p43d n43d c43d x43e x43f x43g p43h n43h c43h t43i x43j, LdL y_2 b4 0 [.int .i64 x43a, .int .i64 x43b, .string s43c, .slice p43d n43d c43d, .int .i64 x43e, .int .i64 x43f, .int .i64 x43g, .slice p43h n43h c43h, .bool t43i, .int .i64 x43j] ∧ LS y_2 b9 2 fun p45 n45 c45 => Spec prog 99 #[.pointer q0, .agg #[.int .i64 x43a, .int .i64 x43b, .string s43c, .slice p43d n43d c43d, .int .i64 x43e, .int .i64 x43f, .int .i64 x43g, .slice p43h n43h c43h, .bool t43i, .int .i64 x43j], .slice p45 n45 c45, (.func (.func 100) #[] #[(.pointer (aD b4 0)), (.pointer (aD b8 0))])] y_2 (Cont R (fun z y_3 => ∃ x47aa x47ab p47ac n47ac c47ac p47ad n47ad c47ad x47b, z = (.tuple #[.agg #[.int .i64 x47aa, .int .u64 x47ab, .slice p47ac n47ac c47ac, .slice p47ad n47ad c47ad], .int .i64 x47b]) ∧ R (.returned (.tuple #[.agg #[.int .i64 x47aa, .int .u64 x47ab, .slice p47ac n47ac c47ac, .slice p47ad n47ad c47ad], .int .i64 x47b])) y_3))) (LI .i64 y_2 b9 0 fun x52 => Br (x52 = 1) (∃ x55a x55b s55c p55d n55d c55d x55e x55f x55g p55h n55h c55h t55i x55j, LdL y_2 b4 0 [.int .i64 x55a, .int .i64 x55b, .string s55c, .slice p55d n55d c55d, .int .i64 x55e, .int .i64 x55f, .int .i64 x55g, .slice p55h n55h c55h, .bool t55i, .int .i64 x55j] ∧ LS y_2 b8 2 fun p57 n57 c57 => Spec prog 99 #[.pointer q0, .agg #[.int .i64 x55a, .int .i64 x55b, .string s55c, .slice p55d n55d c55d, .int .i64 x55e, .int .i64 x55f, .int .i64 x55g, .slice p55h n55h c55h, .bool t55i, .int .i64 x55j], .slice p57 n57 c57, (.func (.func 101) #[] #[(.pointer (aD b4 0)), (.pointer (aD b9 0))])] y_2 (Cont R (fun z y_3 => ∃ x59aa x59ab p59ac n59ac c59ac p59ad n59ad c59ad x59b, z = (.tuple #[.agg #[.int .i64 x59aa, .int .u64 x59ab, .slice p59ac n59ac c59ac, .slice p59ad n59ad c59ad], .int .i64 x59b]) ∧ R (.returned (.tuple #[.agg #[.int .i64 x59aa, .int .u64 x59ab, .slice p59ac n59ac c59ac, .slice p59ad n59ad c59ad], .int .i64 x59b])) y_3))) (LI .i64 y_2 b4 1 fun x64 => Spec prog 58 #[.int .i64 x64] y_2 (Cont R (CB fun t65 y_3 => Bo t65 (∃ x67a x67b s67c p67d n67d c67d x67e x67f x67g p67h n67h c67h t67i x67j, LdL y_3 b4 0 [.int .i64 x67a, .int .i64 x67b, .string s67c, .slice p67d n67d c67d, .int .i64 x67e, .int .i64 x67f, .int .i64 x67g, .slice p67h n67h c67h, .bool t67i, .int .i64 x67j] ∧ LS y_3 b8 2 fun p69 n69 c69 => LS y_3 b9 2 fun p71 n71 c71 => Spec prog 102 #[.pointer q0, .agg #[.int .i64 x67a, .int .i64 x67b, .string s67c, .slice p67d n67d c67d, .int .i64 x67e, .int .i64 x67f, .int .i64 x67g, .slice p67h n67h c67h, .bool t67i, .int .i64 x67j], .slice p69 n69 c69, .slice p71 n71 c71] y_3 (Cont R (fun z y_4 => ∃ x72aa x72ab p72ac n72ac c72ac p72ad n72ad c72ad x72b, z = (.tuple #[.agg #[.int .i64 x72aa, .int .u64 x72ab, .slice p72ac n72ac c72ac, .slice p72ad n72ad c72ad], .int .i64 x72b]) ∧ R (.returned (.tuple #[.agg #[.int .i64 x72aa, .int .u64 x72ab, .slice p72ac n72ac c72ac, .slice p72ad n72ad c72ad], .int .i64 x72b])) y_4))) (∃ x76a x76b s76c p76d n76d c76d x76e x76f x76g p76h n76h c76h t76i x76j, LdL y_3 b4 0 [.int .i64 x76a, .int .i64 x76b, .string s76c, .slice p76d n76d c76d, .int .i64 x76e, .int .i64 x76f, .int .i64 x76g, .slice p76h n76h c76h, .bool t76i, .int .i64 x76j] ∧ LS y_3 b8 2 fun p78 n78 c78 => LS y_3 b9 2 fun p80 n80 c80 => Spec prog 103 #[.pointer q0, .agg #[.int .i64 x76a, .int .i64 x76b, .string s76c, .slice p76d n76d c76d, .int .i64 x76e, .int .i64 x76f, .int .i64 x76g, .slice p76h n76h c76h, .bool t76i, .int .i64 x76j], .slice p78 n78 c78, .slice p80 n80 c80] y_3 (Cont R (fun z y_4 => ∃ x81aa x81ab p81ac n81ac c81ac p81ad n81ad c81ad x81b, z = (.tuple #[.agg #[.int .i64 x81aa, .int .u64 x81ab, .slice p81ac n81ac c81ac, .slice p81ad n81ad c81ad], .int .i64 x81b]) ∧ R (.returned (.tuple #[.agg #[.int .i64 x81aa, .int .u64 x81ab, .slice p81ac n81ac c81ac, .slice p81ad n81ad c81ad], .int .i64 x81b])) y_4))))))))) (LI .i64 y_2 b8 0 fun x40 => Br (x40 = 1) (∃ x43a x43b s43c p43d n43d c43d x43e x43f x43g p43h n43h c43h t43i x43j, LdL y_2 b4 0 [.int .i64 x43a, .int .i64 x43b, .string s43c, .slice p43d n43d c43d, .int .i64 x43e, .int .i64 x43f, .int .i64 x43g, .slice p43h n43h c43h, .bool t43i, .int .i64 x43j] ∧ LS y_2 b9 2 fun p45 n45 c45 => Spec prog 99 #[.pointer q0, .agg #[.int .i64 x43a, .int .i64 x43b, .string s43c, .slice p43d n43d c43d, .int .i64 x43e, .int .i64 x43f, .int .i64 x43g, .slice p43h n43h c43h, .bool t43i, .int .i64 x43j], .slice p45 n45 c45, (.func (.func 100) #[] #[(.pointer (aD b4 0)), (.pointer (aD b8 0))])] y_2 (Cont R (fun z y_3 => ∃ x47aa x47ab p47ac n47ac c47ac p47ad n47ad c47ad x47b, z = (.tuple #[.agg #[.int .i64 x47aa, .int .u64 x47ab, .slice p47ac n47ac c47ac, .slice p47ad n47ad c47ad], .int .i64 x47b]) ∧ R (.returned (.tuple #[.agg #[.int .i64 x47aa, .int .u64 x47ab, .slice p47ac n47ac c47ac, .slice p47ad n47ad c47ad], .int .i64 x47b])) y_3))) (LI .i64 y_2 b9 0 fun x52 => Br (x52 = 1) (∃ x55a x55b s55c p55d n55d c55d x55e x55f x55g p55h n55h c55h t55i x55j, LdL y_2 b4 0 [.int .i64 x55a, .int .i64 x55b, .string s55c, .slice p55d n55d c55d, .int .i64 x55e, .int .i64 x55f, .int .i64 x55g, .slice p55h n55h c55h, .bool t55i, .int .i64 x55j] ∧ LS y_2 b8 2 fun p57 n57 c57 => Spec prog 99 #[.pointer q0, .agg #[.int .i64 x55a, .int .i64 x55b, .string s55c, .slice p55d n55d c55d, .int .i64 x55e, .int .i64 x55f, .int .i64 x55g, .slice p55h n55h c55h, .bool t55i, .int .i64 x55j], .slice p57 n57 c57, (.func (.func 101) #[] #[(.pointer (aD b4 0)), (.pointer (aD b9 0))])] y_2 (Cont R (fun z y_3 => ∃ x59aa x59ab p59ac n59ac c59ac p59ad n59ad c59ad x59b, z = (.tuple #[.agg #[.int .i64 x59aa, .int .u64 x59ab, .slice p59ac n59ac c59ac, .slice p59ad n59ad c59ad], .int .i64 x59b]) ∧ R (.returned (.tuple #[.agg #[.int .i64 x59aa, .int .u64 x59ab, .slice p59ac n59ac c59ac, .slice p59ad n59ad c59ad], .int .i64 x59b])) y_3))) (LI .i64 y_2 b4 1 fun x64 => Spec prog 58 #[.int .i64 x64] y_2 (Cont R (CB fun t65 y_3 => Bo t65 (∃ x67a x67b s67c p67d n67d c67d x67e x67f x67g p67h n67h c67h t67i x67j, LdL y_3 b4 0 [.int .i64 x67a, .int .i64 x67b, .string s67c, .slice p67d n67d c67d, .int .i64 x67e, .int .i64 x67f, .int .i64 x67g, .slice p67h n67h c67h, .bool t67i, .int .i64 x67j] ∧ LS y_3 b8 2 fun p69 n69 c69 => LS y_3 b9 2 fun p71 n71 c71 => Spec prog 102 #[.pointer q0, .agg #[.int .i64 x67a, .int .i64 x67b, .string s67c, .slice p67d n67d c67d, .int .i64 x67e, .int .i64 x67f, .int .i64 x67g, .slice p67h n67h c67h, .bool t67i, .int .i64 x67j], .slice p69 n69 c69, .slice p71 n71 c71] y_3 (Cont R (fun z y_4 => ∃ x72aa x72ab p72ac n72ac c72ac p72ad n72ad c72ad x72b, z = (.tuple #[.agg #[.int .i64 x72aa, .int .u64 x72ab, .slice p72ac n72ac c72ac, .slice p72ad n72ad c72ad], .int .i64 x72b]) ∧ R (.returned (.tuple #[.agg #[.int .i64 x72aa, .int .u64 x72ab, .slice p72ac n72ac c72ac, .slice p72ad n72ad c72ad], .int .i64 x72b])) y_4))) (∃ x76a x76b s76c p76d n76d c76d x76e x76f x76g p76h n76h c76h t76i x76j, LdL y_3 b4 0 [.int .i64 x76a, .int .i64 x76b, .string s76c, .slice p76d n76d c76d, .int .i64 x76e, .int .i64 x76f, .int .i64 x76g, .slice p76h n76h c76h, .bool t76i, .int .i64 x76j] ∧ LS y_3 b8 2 fun p78 n78 c78 => LS y_3 b9 2 fun p80 n80 c80 => Spec prog 103 #[.pointer q0, .agg #[.int .i64 x76a, .int .i64 x76b, .string s76c, .slice p76d n76d c76d, .int .i64 x76e, .int .i64 x76f, .int .i64 x76g, .slice p76h n76h c76h, .bool t76i, .int .i64 x76j], .slice p78 n78 c78, .slice p80 n80 c80] y_3 (Cont R (fun z y_4 => ∃ x81aa x81ab p81ac n81ac c81ac p81ad n81ad c81ad x81b, z = (.tuple #[.agg #[.int .i64 x81aa, .int .u64 x81ab, .slice p81ac n81ac c81ac, .slice p81ad n81ad c81ad], .int .i64 x81b]) ∧ R (.returned (.tuple #[.agg #[.int .i64 x81aa, .int .u64 x81ab, .slice p81ac n81ac c81ac, .slice p81ad n81ad c81ad], .int .i64 x81b])) y_4))))))))))) ∧ (Al (Hp.set σ b4 (.cells #[.int .i64 x1a, .int .i64 x1b, .string s1c, .slice p1d n1d c1d, .int .i64 x1e, .int .i64 x1f, .int .i64 x1g, .slice p1h n1h c1h, .bool t1i, .int .i64 x1j] 52 (0, 0))) fun b9 => Al (Hp.set (Hp.set σ b4 (.cells #[.int .i64 x1a, .int .i64 x1b, .string s1c, .slice p1d n1d c1d, .int .i64 x1e, .int .i64 x1f, .int .i64 x1g, .slice p1h n1h c1h, .bool t1i, .int .i64 x1j] 52 (0, 0))) b9 (.cells #[.int .i64 0, .int .u64 0, .slice none 0 0, .slice none 0 0] 79 (0, 0))) fun b8 => Eff prog (Instr.storeAt 79 (.pointer (aD b8 0)) (.agg #[.int .i64 x14a, .int .u64 x14b, .slice p14c n14c c14c, .slice p14d n14d c14d])) (Hp.set (Hp.set (Hp.set σ b4 (.cells #[.int .i64 x1a, .int .i64 x1b, .string s1c, .slice p1d n1d c1d, .int .i64 x1e, .int .i64 x1f, .int .i64 x1g, .slice p1h n1h c1h, .bool t1i, .int .i64 x1j] 52 (0, 0))) b9 (.cells #[.int .i64 0, .int .u64 0, .slice none 0 0, .slice none 0 0] 79 (0, 0))) b8 (.cells #[.int .i64 0, .int .u64 0, .slice none 0 0, .slice none 0 0] 79 (0, 0))) (fun _ y => Kp [b13] (Hp.set (Hp.set (Hp.set σ b4 (.cells #[.int .i64 x1a, .int .i64 x1b, .string s1c, .slice p1d n1d c1d, .int .i64 x1e, .int .i64 x1f, .int .i64 x1g, .slice p1h n1h c1h, .bool t1i, .int .i64 x1j] 52 (0, 0))) b9 (.cells #[.int .i64 0, .int .u64 0, .slice none 0 0, .slice none 0 0] 79 (0, 0))) b8 (.cells #[.int .i64 0, .int .u64 0, .slice none 0 0, .slice none 0 0] 79 (0, 0))) y ∧ Eff prog (Instr.storeAt 79 (.pointer (aD b9 0)) (.agg #[.int .i64 x17a, .int .u64 x17b, .slice p17c n17c c17c, .slice p17d n17d c17d])) y (fun _ y_2 => LI .i64 y_2 b8 0 fun x20 => Br (x20 = 1) (LI .i64 y_2 b9 0 fun x24 => Br (x24 = 1) (∃ x28a x28b s28c p28d n28d c28d x28e x28f x28g p28h n28h c28h t28i x28j, LdL y_2 b4 0 [.int .i64 x28a, .int .i64 x28b, .string s28c, .slice p28d n28d c28d, .int .i64 x28e, .int .i64 x28f, .int .i64 x28g, .slice p28h n28h c28h, .bool t28i, .int .i64 x28j] ∧ LI .u64 y_2 b8 1 fun x30 => LI .u64 y_2 b9 1 fun x32 => Spec prog 98 #[.agg #[.int .i64 x28a, .int .i64 x28b, .string s28c, .slice p28d n28d c28d, .int .i64 x28e, .int .i64 x28f, .int .i64 x28g, .slice p28h n28h c28h, .bool t28i, .int .i64 x28j], .int .u64 x30, .int .u64 x32] y_2 (Cont R (fun z y_3 => ∃ x33a t33b, z = (.tuple #[.int .u64 x33a, .bool t33b]) ∧ R (.returned (.tuple #[.agg #[.int .i64 1, .int .u64 x33a, .slice none 0 0, .slice none 0 0], .int .i64 0])) y_3))) (LI .i64 y_2 b8 0 fun x40 => Br (x40 = 1) (∃ x43a x43b s43c p43d n43d c43d x43e x43f x43g p43h n43h c43h t43i x43j, LdL y_2 b4 0 [.int .i64 x43a, .int .i64 x43b, .string s43c, .slice p43d n43d c43d, .int .i64 x43e, .int .i64 x43f, .int .i64 x43g, .slice p43h n43h c43h, .bool t43i, .int .i64 x43j] ∧ LS y_2 b9 2 fun p45 n45 c45 => Spec prog 99 #[.pointer q0, .agg #[.int .i64 x43a, .int .i64 x43b, .string s43c, .slice p43d n43d c43d, .int .i64 x43e, .int .i64 x43f, .int .i64 x43g, .slice p43h n43h c43h, .bool t43i, .int .i64 x43j], .slice p45 n45 c45, (.func (.func 100) #[] #[(.pointer (aD b4 0)), (.pointer (aD b8 0))])] y_2 (Cont R (fun z y_3 => ∃ x47aa x47ab p47ac n47ac c47ac p47ad n47ad c47ad x47b, z = (.tuple #[.agg #[.int .i64 x47aa, .int .u64 x47ab, .slice p47ac n47ac c47ac, .slice p47ad n47ad c47ad], .int .i64 x47b]) ∧ R (.returned (.tuple #[.agg #[.int .i64 x47aa, .int .u64 x47ab, .slice p47ac n47ac c47ac, .slice p47ad n47ad c47ad], .int .i64 x47b])) y_3))) (LI .i64 y_2 b9 0 fun x52 => Br (x52 = 1) (∃ x55a x55b s55c p55d n55d c55d x55e x55f x55g p55h n55h c55h t55i x55j, LdL y_2 b4 0 [.int .i64 x55a, .int .i64 x55b, .string s55c, .slice p55d n55d c55d, .int .i64 x55e, .int .i64 x55f, .int .i64 x55g, .slice p55h n55h c55h, .bool t55i, .int .i64 x55j] ∧ LS y_2 b8 2 fun p57 n57 c57 => Spec prog 99 #[.pointer q0, .agg #[.int .i64 x55a, .int .i64 x55b, .string s55c, .slice p55d n55d c55d, .int .i64 x55e, .int .i64 x55f, .int .i64 x55g, .slice p55h n55h c55h, .bool t55i, .int .i64 x55j], .slice p57 n57 c57, (.func (.func 101) #[] #[(.pointer (aD b4 0)), (.pointer (aD b9 0))])] y_2 (Cont R (fun z y_3 => ∃ x59aa x59ab p59ac n59ac c59ac p59ad n59ad c59ad x59b, z = (.tuple #[.agg #[.int .i64 x59aa, .int .u64 x59ab, .slice p59ac n59ac c59ac, .slice p59ad n59ad c59ad], .int .i64 x59b]) ∧ R (.returned (.tuple #[.agg #[.int .i64 x59aa, .int .u64 x59ab, .slice p59ac n59ac c59ac, .slice p59ad n59ad c59ad], .int .i64 x59b])) y_3))) (LI .i64 y_2 b4 1 fun x64 => Spec prog 58 #[.int .i64 x64] y_2 (Cont R (CB fun t65 y_3 => Bo t65 (∃ x67a x67b s67c p67d n67d c67d x67e x67f x67g p67h n67h c67h t67i x67j, LdL y_3 b4 0 [.int .i64 x67a, .int .i64 x67b, .string s67c, .slice p67d n67d c67d, .int .i64 x67e, .int .i64 x67f, .int .i64 x67g, .slice p67h n67h c67h, .bool t67i, .int .i64 x67j] ∧ LS y_3 b8 2 fun p69 n69 c69 => LS y_3 b9 2 fun p71 n71 c71 => Spec prog 102 #[.pointer q0, .agg #[.int .i64 x67a, .int .i64 x67b, .string s67c, .slice p67d n67d c67d, .int .i64 x67e, .int .i64 x67f, .int .i64 x67g, .slice p67h n67h c67h, .bool t67i, .int .i64 x67j], .slice p69 n69 c69, .slice p71 n71 c71] y_3 (Cont R (fun z y_4 => ∃ x72aa x72ab p72ac n72ac c72ac p72ad n72ad c72ad x72b, z = (.tuple #[.agg #[.int .i64 x72aa, .int .u64 x72ab, .slice p72ac n72ac c72ac, .slice p72ad n72ad c72ad], .int .i64 x72b]) ∧ R (.returned (.tuple #[.agg #[.int .i64 x72aa, .int .u64 x72ab, .slice p72ac n72ac c72ac, .slice p72ad n72ad c72ad], .int .i64 x72b])) y_4))) (∃ x76a x76b s76c p76d n76d c76d x76e x76f x76g p76h n76h c76h t76i x76j, LdL y_3 b4 0 [.int .i64 x76a, .int .i64 x76b, .string s76c, .slice p76d n76d c76d, .int .i64 x76e, .int .i64 x76f, .int .i64 x76g, .slice p76h n76h c76h, .bool t76i, .int .i64 x76j] ∧ LS y_3 b8 2 fun p78 n78 c78 => LS y_3 b9 2 fun p80 n80 c80 => Spec prog 103 #[.pointer q0, .agg #[.int .i64 x76a, .int .i64 x76b, .string s76c, .slice p76d n76d c76d, .int .i64 x76e, .int .i64 x76f, .int .i64 x76g, .slice p76h n76h c76h, .bool t76i, .int .i64 x76j], .slice p78 n78 c78, .slice p80 n80 c80] y_3 (Cont R (fun z y_4 => ∃ x81aa x81ab p81ac n81ac c81ac p81ad n81ad c81ad x81b, z = (.tuple #[.agg #[.int .i64 x81aa, .int .u64 x81ab, .slice p81ac n81ac c81ac, .slice p81ad n81ad c81ad], .int .i64 x81b]) ∧ R (.returned (.tuple #[.agg #[.int .i64 x81aa, .int .u64 x81ab, .slice p81ac n81ac c81ac, .slice p81ad n81ad c81ad], .int .i64 x81b])) y_4))))))))) (LI .i64 y_2 b8 0 fun x40 => Br (x40 = 1) (∃ x43a x43b s43c p43d n43d c43d x43e x43f x43g p43h n43h c43h t43i x43j, LdL y_2 b4 0 [.int .i64 x43a, .int .i64 x43b, .string s43c, .slice p43d n43d c43d, .int .i64 x43e, .int .i64 x43f, .int .i64 x43g, .slice p43h n43h c43h, .bool t43i, .int .i64 x43j] ∧ LS y_2 b9 2 fun p45 n45 c45 => Spec prog 99 #[.pointer q0, .agg #[.int .i64 x43a, .int .i64 x43b, .string s43c, .slice p43d n43d c43d, .int .i64 x43e, .int .i64 x43f, .int .i64 x43g, .slice p43h n43h c43h, .bool t43i, .int .i64 x43j], .slice p45 n45 c45, (.func (.func 100) #[] #[(.pointer (aD b4 0)), (.pointer (aD b8 0))])] y_2 (Cont R (fun z y_3 => ∃ x47aa x47ab p47ac n47ac c47ac p47ad n47ad c47ad x47b, z = (.tuple #[.agg #[.int .i64 x47aa, .int .u64 x47ab, .slice p47ac n47ac c47ac, .slice p47ad n47ad c47ad], .int .i64 x47b]) ∧ R (.returned (.tuple #[.agg #[.int .i64 x47aa, .int .u64 x47ab, .slice p47ac n47ac c47ac, .slice p47ad n47ad c47ad], .int .i64 x47b])) y_3))) (LI .i64 y_2 b9 0 fun x52 => Br (x52 = 1) (∃ x55a x55b s55c p55d n55d c55d x55e x55f x55g p55h n55h c55h t55i x55j, LdL y_2 b4 0 [.int .i64 x55a, .int .i64 x55b, .string s55c, .slice p55d n55d c55d, .int .i64 x55e, .int .i64 x55f, .int .i64 x55g, .slice p55h n55h c55h, .bool t55i, .int .i64 x55j] ∧ LS y_2 b8 2 fun p57 n57 c57 => Spec prog 99 #[.pointer q0, .agg #[.int .i64 x55a, .int .i64 x55b, .string s55c, .slice p55d n55d c55d, .int .i64 x55e, .int .i64 x55f, .int .i64 x55g, .slice p55h n55h c55h, .bool t55i, .int .i64 x55j], .slice p57 n57 c57, (.func (.func 101) #[] #[(.pointer (aD b4 0)), (.pointer (aD b9 0))])] y_2 (Cont R (fun z y_3 => ∃ x59aa x59ab p59ac n59ac c59ac p59ad n59ad c59ad x59b, z = (.tuple #[.agg #[.int .i64 x59aa, .int .u64 x59ab, .slice p59ac n59ac c59ac, .slice p59ad n59ad c59ad], .int .i64 x59b]) ∧ R (.returned (.tuple #[.agg #[.int .i64 x59aa, .int .u64 x59ab, .slice p59ac n59ac c59ac, .slice p59ad n59ad c59ad], .int .i64 x59b])) y_3))) (LI .i64 y_2 b4 1 fun x64 => Spec prog 58 #[.int .i64 x64] y_2 (Cont R (CB fun t65 y_3 => Bo t65 (∃ x67a x67b s67c p67d n67d c67d x67e x67f x67g p67h n67h c67h t67i x67j, LdL y_3 b4 0 [.int .i64 x67a, .int .i64 x67b, .string s67c, .slice p67d n67d c67d, .int .i64 x67e, .int .i64 x67f, .int .i64 x67g, .slice p67h n67h c67h, .bool t67i, .int .i64 x67j] ∧ LS y_3 b8 2 fun p69 n69 c69 => LS y_3 b9 2 fun p71 n71 c71 => Spec prog 102 #[.pointer q0, .agg #[.int .i64 x67a, .int .i64 x67b, .string s67c, .slice p67d n67d c67d, .int .i64 x67e, .int .i64 x67f, .int .i64 x67g, .slice p67h n67h c67h, .bool t67i, .int .i64 x67j], .slice p69 n69 c69, .slice p71 n71 c71] y_3 (Cont R (fun z y_4 => ∃ x72aa x72ab p72ac n72ac c72ac p72ad n72ad c72ad x72b, z = (.tuple #[.agg #[.int .i64 x72aa, .int .u64 x72ab, .slice p72ac n72ac c72ac, .slice p72ad n72ad c72ad], .int .i64 x72b]) ∧ R (.returned (.tuple #[.agg #[.int .i64 x72aa, .int .u64 x72ab, .slice p72ac n72ac c72ac, .slice p72ad n72ad c72ad], .int .i64 x72b])) y_4))) (∃ x76a x76b s76c p76d n76d c76d x76e x76f x76g p76h n76h c76h t76i x76j, LdL y_3 b4 0 [.int .i64 x76a, .int .i64 x76b, .string s76c, .slice p76d n76d c76d, .int .i64 x76e, .int .i64 x76f, .int .i64 x76g, .slice p76h n76h c76h, .bool t76i, .int .i64 x76j] ∧ LS y_3 b8 2 fun p78 n78 c78 => LS y_3 b9 2 fun p80 n80 c80 => Spec prog 103 #[.pointer q0, .agg #[.int .i64 x76a, .int .i64 x76b, .string s76c, .slice p76d n76d c76d, .int .i64 x76e, .int .i64 x76f, .int .i64 x76g, .slice p76h n76h c76h, .bool t76i, .int .i64 x76j], .slice p78 n78 c78, .slice p80 n80 c80] y_3 (Cont R (fun z y_4 => ∃ x81aa x81ab p81ac n81ac c81ac p81ad n81ad c81ad x81b, z = (.tuple #[.agg #[.int .i64 x81aa, .int .u64 x81ab, .slice p81ac n81ac c81ac, .slice p81ad n81ad c81ad], .int .i64 x81b]) ∧ R (.returned (.tuple #[.agg #[.int .i64 x81aa, .int .u64 x81ab, .slice p81ac n81ac c81ac, .slice p81ad n81ad c81ad], .int .i64 x81b])) y_4)))))))))))) : Spec prog 65 #[.pointer q0, .agg #[.int .i64 x1a, .int .i64 x1b, .string s1c, .slice p1d n1d c1d, .int .i64 x1e, .int .i64 x1f, .int .i64 x1g, .slice p1h n1h c1h, .bool t1i, .int .i64 x1j], .slice p2 n2 c2] σ R := M.start h ok
end eval_asker_bin
namespace eval_average
variable {p0 : Option Addr} {n0 c0 : Nat}
def M : Fw := ⟨prog, 96, f96, [93, 97, 133], [], false, [], [], []⟩
theorem ok : M.Ok := ⟨.cons call93 (.cons call97 (.cons call133 (Ents.nil))), mixed, func96, by kernel_rfl⟩
theorem start (h : Spec prog 93 #[.slice p0 n0 c0] σ (Cont R (CI .u64 fun x4 y => Spec prog 97 #[.slice p0 n0 c0] y (Cont R (CI .u64 fun x6 y_2 => Spec prog 133 #[.int .u64 x4, .int .u64 x6] y_2 (Cont R (CI .u64 fun x7 y_3 => R (.returned (.int .u64 x7)) y_3))))))) : Spec prog 96 #[.slice p0 n0 c0] σ R := M.start h ok
end eval_average
namespace eval_single
variable {x0a x0b x0e x0f x0g x0j x1 x2 : Int} {s0c : ByteArray} {p0d p0h : Option Addr} {n0d c0d n0h c0h : Nat} {t0i : Bool}
def M : Fw := ⟨prog, 98, f98, [142, 143, 144], [3], false, [], [], []⟩
theorem ok : M.Ok := ⟨.cons call142 (.cons call143 (.cons call144 (Ents.nil))), mixed, func98, by kernel_rfl⟩
theorem start (h : ∀ b3 : Nat, Spec prog 142 #[.int .i64 x0b, .int .u64 x1, .int .u64 x2] σ (Cont R (fun z y => ∃ x17a t17b, z = (.tuple #[.int .u64 x17a, .bool t17b]) ∧ Bo t17b (R (.returned (.tuple #[.int .u64 x17a, .bool true])) y) (Spec prog 143 #[.int .i64 x0b, .int .u64 x1, .int .u64 x2] y (Cont R (fun z y_2 => ∃ t27a t27b, z = (.tuple #[.bool t27a, .bool t27b]) ∧ Spec prog 144 #[.bool t27a] y_2 (Cont R (CI .u64 fun x31 y_3 => R (.returned (.tuple #[.int .u64 x31, .bool t27a])) y_3)))))))) : Spec prog 98 #[.agg #[.int .i64 x0a, .int .i64 x0b, .string s0c, .slice p0d n0d c0d, .int .i64 x0e, .int .i64 x0f, .int .i64 x0g, .slice p0h n0h c0h, .bool t0i, .int .i64 x0j], .int .u64 x1, .int .u64 x2] σ R := M.start h ok
end eval_single
namespace eval_asker_bin_1
variable {x0 : Int} {b1 b2 : Nat}
def M : Fw := ⟨prog, 100, f100, [98], [], false, [], [], []⟩
theorem ok : M.Ok := ⟨.cons call98 (Ents.nil), mixed, func100, by kernel_rfl⟩
theorem start (h : ∃ x6a x6b s6c p6d n6d c6d x6e x6f x6g p6h n6h c6h t6i x6j, LdL σ b1 0 [.int .i64 x6a, .int .i64 x6b, .string s6c, .slice p6d n6d c6d, .int .i64 x6e, .int .i64 x6f, .int .i64 x6g, .slice p6h n6h c6h, .bool t6i, .int .i64 x6j] ∧ LI .u64 σ b2 1 fun x8 => Spec prog 98 #[.agg #[.int .i64 x6a, .int .i64 x6b, .string s6c, .slice p6d n6d c6d, .int .i64 x6e, .int .i64 x6f, .int .i64 x6g, .slice p6h n6h c6h, .bool t6i, .int .i64 x6j], .int .u64 x8, .int .u64 x0] σ (Cont R (fun z y => ∃ x10a t10b, z = (.tuple #[.int .u64 x10a, .bool t10b]) ∧ R (.returned (.tuple #[.int .u64 x10a, .bool t10b])) y))) : Spec prog 100 #[.int .u64 x0, (.pointer (aD b1 0)), (.pointer (aD b2 0))] σ R := M.start h ok
end eval_asker_bin_1
namespace eval_points_1
variable {x0a x0b x1 : Int}
def M : Fw := ⟨prog, 115, f115, [], [2], false, [], [], []⟩
theorem ok : M.Ok := ⟨Ents.nil, mixed, func115, by kernel_rfl⟩
theorem start (h : ∀ b2 : Nat, Br (x0a ≤ x1) (R (.returned (.int .i64 (-1))) σ) (R (.returned (.int .i64 1)) σ)) : Spec prog 115 #[.agg #[.int .i64 x0a, .int .u64 x0b], .int .i64 x1] σ R := M.start h ok
end eval_points_1
namespace label_Get
variable {p0 p7 : Option Addr} {n0 c0 n7 c7 : Nat} {s1 : ByteArray} {x8 x9 : Int}
def M : Fw := ⟨prog, 119, f119, [], [6], false, [], [], [(104, [(1, wT), (7, wL), (8, wI), (9, wI)])]⟩
theorem ok : M.Ok := ⟨Ents.nil, mixed, func119, by kernel_rfl⟩
def pt8 := M.pt 0
theorem start (h : pt8 R s1 p0 n0 c0 (n0 : Int) 0 σ) : Spec prog 119 #[.slice p0 n0 c0, .string s1] σ R := M.start h ok
theorem pt8_of (h : Br (x9 < x8) (Pq p7 fun b11 o11 => In x9 (n7 : Int) ∧ ∃ s12a s12b, LdL σ b11 (o11 + Int.toNat x9 * 2) [.string s12a, .string s12b] ∧ ∀ b6 : Nat, Bo (ByteArray.toList s12a == ByteArray.toList s1) (R (.returned (.string s12b)) σ) (I64 (x9 + 1) ∧ pt8 R s1 (aD b11 o11) n7 c7 x8 (x9 + 1) σ)) (R (.returned (.string (ByteArray.mk #[]))) σ)) : pt8 R s1 p7 n7 c7 x8 x9 σ := M.of h ok rfl
end label_Get
namespace eval_functions_2
variable {p0 p1 : Option Addr} {n0 c0 n1 c1 : Nat}
def M : Fw := ⟨prog, 128, f128, [129], [], false, [], [], []⟩
theorem ok : M.Ok := ⟨.cons call129 (Ents.nil), mixed, func128, by kernel_rfl⟩
theorem start (h : I64 ((n0 : Int) - 1) ∧ Pq p0 fun b9 o9 => In (((n0 : Int) - 1)) (n0 : Int) ∧ LI .u64 σ b9 (o9 + Int.toNat ((n0 : Int) - 1) * 1) fun x10 => In 0 (n0 : Int) ∧ LI .u64 σ b9 o9 fun x13 => Spec prog 129 #[.int .u64 x10, .int .u64 x13] σ (Cont R (CI .u64 fun x14 y => R (.returned (.int .u64 x14)) y))) : Spec prog 128 #[.slice p0 n0 c0, .slice p1 n1 c1] σ R := M.start h ok
end eval_functions_2
namespace label_Keep_1
variable {s0a s0b : ByteArray} {b1 : Nat}
def M : Fw := ⟨prog, 137, f137, [138], [2], false, [], [], []⟩
theorem ok : M.Ok := ⟨.cons call138 (Ents.nil), mixed, func137, by kernel_rfl⟩
theorem start (h : ∀ b2 : Nat, LS σ b1 0 fun p4 n4 c4 => Spec prog 138 #[.slice p4 n4 c4, .string s0a] σ (Cont R (CB fun t7 y => R (.returned (.bool t7)) y))) : Spec prog 137 #[.agg #[.string s0a, .string s0b], (.pointer (aD b1 0))] σ R := M.start h ok
end label_Keep_1
namespace eval_best
variable {x0 x5 x15 x16 : Int} {p1 p14 : Option Addr} {n1 c1 n14 c14 : Nat}
def M : Fw := ⟨prog, 141, f141, [125, 143, 165], [], false, [], [], [(232, [(0, wI), (5, wU), (14, wL), (15, wI), (16, wI)]), (935, [(0, wI), (5, wU), (14, wL), (15, wI), (16, wI)])]⟩
theorem ok : M.Ok := ⟨.cons call125 (.cons call143 (.cons call165 (Ents.nil))), mixed, func141, by kernel_rfl⟩
def pt10 := M.pt 0
def pt26 := M.pt 1
theorem start (h : Pq p1 fun b11 o11 => In 0 (n1 : Int) ∧ LI .u64 σ b11 o11 fun x12 => ((0 : Int) ≤ 1 ∧ 1 ≤ (n1 : Int)) ∧ pt10 R x0 x12 ((slP (aD b11 o11) (1) c1 1)) (n1 - 1) (c1 - 1) ((((n1 - 1) : Nat) : Int)) 0 σ) : Spec prog 141 #[.int .i64 x0, .slice p1 n1 c1] σ R := M.start h ok
theorem pt10_of (h : Br (x16 < x15) (Pq p14 fun b18 o18 => In x16 (n14 : Int) ∧ LI .u64 σ b18 (o18 + Int.toNat x16 * 1) fun x19 => Spec prog 143 #[.int .i64 x0, .int .u64 x19, .int .u64 x5] σ (Cont R (fun z y => ∃ t24a t24b, z = (.tuple #[.bool t24a, .bool t24b]) ∧ Bo t24a (pt26 R x0 x19 (aD b18 o18) n14 c14 x15 x16 y) (Spec prog 165 #[.int .u64 x5] y (Cont R (CB fun t30 y_2 => Bo t30 (pt26 R x0 x19 (aD b18 o18) n14 c14 x15 x16 y_2) (pt26 R x0 x5 (aD b18 o18) n14 c14 x15 x16 y_2))))))) (Spec prog 125 #[.int .u64 x5] σ (Cont R (CI .u64 fun x35 y => R (.returned (.int .u64 x35)) y)))) : pt10 R x0 x5 p14 n14 c14 x15 x16 σ := M.of h ok rfl
theorem pt26_of (h : I64 (x16 + 1) ∧ pt10 R x0 x5 p14 n14 c14 x15 (x16 + 1) σ) : pt26 R x0 x5 p14 n14 c14 x15 x16 σ := M.of h ok rfl
end eval_best
namespace wave_Arith
variable {x0 x1 x2 : Int}
def M : Fw := ⟨prog, 142, f142, [113, 121], [], false, [], [], []⟩
theorem ok : M.Ok := ⟨.cons call113 (.cons call121 (Ents.nil)), mixed, func142, by kernel_rfl⟩
theorem start (h : Spec prog 121 #[.int .u64 x1] σ (Cont R (fun z y => ∃ x11, (Value.float .f64 x11) = z ∧ Spec prog 121 #[.int .u64 x2] y (Cont R (fun z y_2 => ∃ x13, (Value.float .f64 x13) = z ∧ Br (x0 = 1) (Eff prog (binOp .add 60 (Value.float .f64 x11) (Value.float .f64 x13)) y_2 (fun z y_3 => ∃ x19, (Value.float .f64 x19) = z ∧ Spec prog 113 #[(Value.float .f64 x19)] y_3 (Cont R (CI .u64 fun x20 y_4 => R (.returned (.tuple #[.int .u64 x20, .bool true])) y_4)))) (Br (x0 = 2) (Eff prog (binOp .sub 60 (Value.float .f64 x11) (Value.float .f64 x13)) y_2 (fun z y_3 => ∃ x25, (Value.float .f64 x25) = z ∧ Spec prog 113 #[(Value.float .f64 x25)] y_3 (Cont R (CI .u64 fun x26 y_4 => R (.returned (.tuple #[.int .u64 x26, .bool true])) y_4)))) (Br (x0 = 3) (Eff prog (binOp .mul 60 (Value.float .f64 x11) (Value.float .f64 x13)) y_2 (fun z y_3 => ∃ x31, (Value.float .f64 x31) = z ∧ Spec prog 113 #[(Value.float .f64 x31)] y_3 (Cont R (CI .u64 fun x32 y_4 => R (.returned (.tuple #[.int .u64 x32, .bool true])) y_4)))) (Br (x0 = 4) (Eff prog (binOp .quo 60 (Value.float .f64 x11) (Value.float .f64 x13)) y_2 (fun z y_3 => ∃ x37, (Value.float .f64 x37) = z ∧ Spec prog 113 #[(Value.float .f64 x37)] y_3 (Cont R (CI .u64 fun x38 y_4 => R (.returned (.tuple #[.int .u64 x38, .bool true])) y_4)))) (R (.returned (.tuple #[.int .u64 0, .bool false])) y_2))))))))) : Spec prog 142 #[.int .i64 x0, .int .u64 x1, .int .u64 x2] σ R := M.start h ok
end wave_Arith
namespace wave_size
variable {x0 : Int}
def M : Fw := ⟨prog, 175, f175, [], [], false, [], [], []⟩
theorem ok : M.Ok := ⟨Ents.nil, mixed, func175, by kernel_rfl⟩
theorem start (h : Br (x0 = 1) (R (.returned (.bool true)) σ) (Br (x0 = 2) (R (.returned (.bool true)) σ) (Br (x0 = 4) (R (.returned (.bool true)) σ) (R (.returned (.bool (decide (x0 = 8)))) σ)))) : Spec prog 175 #[.int .i64 x0] σ R := M.start h ok
end wave_size
namespace wave_line
variable {p0 p5 : Option Addr} {n0 c0 n5 c5 : Nat} {x1 x7 : Int} {v6 : Value}
def M : Fw := ⟨prog, 176, f176, [121, 196], [], false, [], [], [(444, [(0, wL), (1, wI), (5, wL), (6, wV), (7, wI)])]⟩
theorem ok : M.Ok := ⟨.cons call121 (.cons call196 (Ents.nil)), mixed, func176, by kernel_rfl⟩
def pt13 := M.pt 0
theorem start (h : Spec prog 196 #[] σ (Cont R (CS fun p10 n10 c10 y => pt13 R p0 n0 c0 x1 p10 n10 c10 (.complex .f64 0 0) 0 y))) : Spec prog 176 #[.slice p0 n0 c0, .int .i64 x1] σ R := M.start h ok
theorem pt13_of (h : Br (x7 = (n0 : Int)) (R (.returned v6) σ) (Pq p0 fun b18 o18 => In x7 (n0 : Int) ∧ LI .u64 σ b18 (o18 + Int.toNat x7 * 1) fun x19 => I64 (x1 * x7) ∧ (n0 : Int) ≠ (0 : Int) ∧ Df (Int.tmod (x1 * x7) (n0 : Int)) fun x27 => (n0 : Int) ≠ (0 : Int) ∧ Df (IntKind.i64.wrap (Int.tdiv 8 (n0 : Int))) fun x30 => I64 (x27 * x30) ∧ Pq p5 fun b32 o32 => In (x27 * x30) (n5 : Int) ∧ ∃ x33 y33, Hp.ld σ ⟨b32, (o32 + Int.toNat (x27 * x30) * 1), none⟩ = some (Value.complex .f64 x33 y33) ∧ Spec prog 121 #[.int .u64 x19] σ (Cont R (fun z y => ∃ x20, (Value.float .f64 x20) = z ∧ Kp [b32] σ y ∧ ∃ x35, YF prog (Builtin.real_ #[222] 60 #[v6]) y (Value.float .f64 x35) ∧ ∃ x38, YF prog (Builtin.real_ #[222] 60 #[(Value.complex .f64 x33 y33)]) y (Value.float .f64 x38) ∧ Eff prog (binOp .mul 60 (Value.float .f64 x20) (Value.float .f64 x38)) y (fun z y_2 => ∃ x39, (Value.float .f64 x39) = z ∧ Eff prog (binOp .add 60 (Value.float .f64 x35) (Value.float .f64 x39)) y_2 (fun z y_3 => ∃ x40, (Value.float .f64 x40) = z ∧ ∃ x42, YF prog (Builtin.imag_ #[222] 60 #[v6]) y_3 (Value.float .f64 x42) ∧ ∃ x45, YF prog (Builtin.imag_ #[222] 60 #[(Value.complex .f64 x33 y33)]) y_3 (Value.float .f64 x45) ∧ Eff prog (binOp .mul 60 (Value.float .f64 x20) (Value.float .f64 x45)) y_3 (fun z y_4 => ∃ x46, (Value.float .f64 x46) = z ∧ Eff prog (binOp .add 60 (Value.float .f64 x42) (Value.float .f64 x46)) y_4 (fun z y_5 => ∃ x47, (Value.float .f64 x47) = z ∧ ∃ x48 y48, YF prog (Builtin.complex_ #[60, 60] 222 #[(Value.float .f64 x40), (Value.float .f64 x47)]) y_5 (Value.complex .f64 x48 y48) ∧ I64 (x7 + 1) ∧ pt13 R (aD b18 o18) n0 c0 x1 (aD b32 o32) n5 c5 (Value.complex .f64 x48 y48) (x7 + 1) y_5)))))))) : pt13 R p0 n0 c0 x1 p5 n5 c5 v6 x7 σ := M.of h ok rfl
end wave_line
namespace internal_strconv_atof64exact
variable {x0 x1 : Int} {t2 t7 : Bool} {v6 : Value}
def M : Fw := ⟨prog, 211, f211, [], [], false, [], [], [(248, [(1, wI), (6, wV), (7, wB)]), (15988, [(1, wI), (6, wV), (7, wB)])]⟩
theorem ok : M.Ok := ⟨Ents.nil, mixed, func211, by kernel_rfl⟩
def pt19 := M.pt 0
def pt37 := M.pt 1
theorem start (h : LI .u64 σ 6 0 fun x10 => (0 ≤ x10 ∧ x10 ≤ ((IntKind.bits .u64 : Nat) : Int)) ∧ Df (x0 / 2 ^ Int.toNat x10) fun x11 => Br (x11 ≠ 0) (R (.returned (.tuple #[.float .f64 0, .bool false])) σ) (Eff prog (convert 37 60 (.int .u64 x0)) σ (fun z y => ∃ x14, (Value.float .f64 x14) = z ∧ Bo t2 (∃ x17, YF prog (Op.unary .neg (Value.float .f64 x14)) y (Value.float .f64 x17) ∧ pt19 R x1 (Value.float .f64 x17) false y) (pt19 R x1 (Value.float .f64 x14) false y)))) : Spec prog 211 #[.int .u64 x0, .int .i64 x1, .bool t2] σ R := M.start h ok
theorem pt19_of (h : Br (x1 = 0) (R (.returned (.tuple #[v6, .bool true])) σ) (Br (0 < x1) (Br (x1 ≤ 37) (Br (22 < x1) (LS σ 9 0 fun p32 n32 c32 => I64 (x1 - 22) ∧ Pq p32 fun b35 o35 => In (x1 - 22) (n32 : Int) ∧ ∃ x36, Hp.ld σ ⟨b35, (o35 + Int.toNat (x1 - 22) * 1), none⟩ = some (Value.float .f64 x36) ∧ Eff prog (binOp .mul 60 v6 (Value.float .f64 x36)) σ (fun z y => ∃ x37, (Value.float .f64 x37) = z ∧ pt37 R 22 (Value.float .f64 x37) t7 y)) (pt37 R x1 v6 t7 σ)) (Br (x1 < 0) (Br (((-22) : Int) ≤ x1) (LS σ 9 0 fun p58 n58 c58 => Df (IntKind.i64.wrap (0 - x1)) fun x60 => Pq p58 fun b61 o61 => In x60 (n58 : Int) ∧ ∃ x62, Hp.ld σ ⟨b61, (o61 + Int.toNat x60 * 1), none⟩ = some (Value.float .f64 x62) ∧ Eff prog (binOp .quo 60 v6 (Value.float .f64 x62)) σ (fun z y => ∃ x63, (Value.float .f64 x63) = z ∧ R (.returned (.tuple #[(Value.float .f64 x63), .bool true])) y)) (R (.returned (.tuple #[v6, .bool t7])) σ)) (R (.returned (.tuple #[v6, .bool t7])) σ))) (Br (x1 < 0) (Br (((-22) : Int) ≤ x1) (LS σ 9 0 fun p58 n58 c58 => Df (IntKind.i64.wrap (0 - x1)) fun x60 => Pq p58 fun b61 o61 => In x60 (n58 : Int) ∧ ∃ x62, Hp.ld σ ⟨b61, (o61 + Int.toNat x60 * 1), none⟩ = some (Value.float .f64 x62) ∧ Eff prog (binOp .quo 60 v6 (Value.float .f64 x62)) σ (fun z y => ∃ x63, (Value.float .f64 x63) = z ∧ R (.returned (.tuple #[(Value.float .f64 x63), .bool true])) y)) (R (.returned (.tuple #[v6, .bool t7])) σ)) (R (.returned (.tuple #[v6, .bool t7])) σ)))) : pt19 R x1 v6 t7 σ := M.of h ok rfl
end internal_strconv_atof64exact
namespace internal_stringslite_HasSuffix
variable {s0 s1 : ByteArray}
def M : Fw := ⟨prog, 240, f240, [], [], false, [], [], []⟩
theorem ok : M.Ok := ⟨Ents.nil, mixed, func240, by kernel_rfl⟩
theorem start (h : Br ((((ByteArray.size s1 : Nat) : Int) : Int) ≤ ((ByteArray.size s0 : Nat) : Int)) (I64 (((ByteArray.size s0 : Nat) : Int) - ((ByteArray.size s1 : Nat) : Int)) ∧ ∃ s17, YF prog (Instr.sliceAt 9 (.string s0) (some (.int .i64 (((ByteArray.size s0 : Nat) : Int) - ((ByteArray.size s1 : Nat) : Int)))) none none) σ (.string s17) ∧ R (.returned (.bool (ByteArray.toList s17 == ByteArray.toList s1))) σ) (R (.returned (.bool false)) σ)) : Spec prog 240 #[.string s0, .string s1] σ R := M.start h ok
end internal_stringslite_HasSuffix
end TwW
end
end
section
set_option maxRecDepth 100000
noncomputable section
namespace TwW
open Go Tw Go.Proofs.Tryz
variable [Cnt] {R : Ending → Hp → Prop} {σ : Hp}

namespace law22_EvalShape
variable {p0 p1 p7 : Option Addr} {n0 c0 n1 c1 n7 c7 : Nat} {x2 x12 x13 x15 x16 : Int} {t14 : Bool}
def M : Fw := ⟨prog, 3, f3, [4, 5, 6, 7, 8, 9], [], false, [], [], [(4048, [(1, wL), (2, wI), (7, wL), (12, wI)]), (4051, [(1, wL), (2, wI), (7, wL), (12, wI)]), (8295376, [(1, wL), (2, wI), (7, wL), (12, wI), (13, wU), (14, wB), (15, wI)]), (530904208, [(1, wL), (2, wI), (7, wL), (12, wI), (13, wU), (14, wB), (15, wI), (16, wI)])]⟩
theorem ok : M.Ok := ⟨.cons call4 (.cons call5 (.cons call6 (.cons call7 (.cons call8 (.cons call9 (Ents.nil)))))), mixed, func3, by kernel_rfl⟩
def pt29 := M.pt 0
def pt88 := M.pt 1
def pt60 := M.pt 2
def pt72 := M.pt 3
theorem start (h : Spec prog 5 #[.slice p0 n0 c0] σ (Cont R (CS fun p19 n19 c19 y => Spec prog 6 #[.slice p1 n1 c1] y (Cont R (CS fun p21 n21 c21 y_2 => Spec prog 4 #[.slice p19 n19 c19, .slice p21 n21 c21, .int .i64 x2] y_2 (Cont R (fun z y_3 => ∃ p23a n23a c23a x23b, z = (.tuple #[.slice p23a n23a c23a, .int .i64 x23b]) ∧ Br (x23b ≠ 0) (Br ((n23a : Int) = 0) (Spec prog 7 #[] y_3 (Cont R (CB fun t32 y_4 => R (.returned (.bool t32)) y_4))) (R (.returned (.bool false)) y_3)) (Spec prog 5 #[.slice p0 n0 c0] y_3 (Cont R (CS fun p36 n36 c36 y_4 => Spec prog 8 #[.slice p36 n36 c36] y_4 (Cont R (fun z y_5 => ∃ x37a x37b x37c, z = (.tuple #[.int .i64 x37a, .int .i64 x37b, .int .i64 x37c]) ∧ Br (x37c ≠ 0) (R (.returned (.bool false)) y_5) (Spec prog 6 #[.slice p23a n23a c23a] y_5 (Cont R (CS fun p45 n45 c45 y_6 => Spec prog 9 #[.slice p45 n45 c45] y_6 (Cont R (CI .i64 fun x46 y_7 => Br (x46 ≠ 0) (R (.returned (.bool false)) y_7) (Br (x37a = 1) (Br ((n23a : Int) ≠ 1) (R (.returned (.bool false)) y_7) (Pq p23a fun b58 o58 => In 0 (n23a : Int) ∧ LS y_7 b58 o58 fun p60 n60 c60 => Br ((n60 : Int) ≠ 0) (R (.returned (.bool false)) y_7) (pt29 R p1 n1 c1 x2 (aD b58 o58) n23a c23a 0 y_7))) (pt29 R p1 n1 c1 x2 p23a n23a c23a 0 y_7))))))))))))))))))) : Spec prog 3 #[.slice p0 n0 c0, .slice p1 n1 c1, .int .i64 x2] σ R := M.start h ok
theorem pt29_of (h : Br (x12 < (n7 : Int)) (Pq p7 fun b74 o74 => In x12 (n7 : Int) ∧ LS σ b74 ((o74 + Int.toNat x12 * 2) + 1) fun p76 n76 c76 => Br ((n76 : Int) ≠ 1) (R (.returned (.bool false)) σ) (In x12 (n7 : Int) ∧ LS σ b74 ((o74 + Int.toNat x12 * 2) + 1) fun p84 n84 c84 => Pq p84 fun b85 o85 => In 0 (n84 : Int) ∧ LI .i64 σ b85 o85 fun x87 => Br (x87 ≠ x2) (R (.returned (.bool false)) σ) (In x12 (n7 : Int) ∧ LS σ b74 ((o74 + Int.toNat x12 * 2) + 1) fun p95 n95 c95 => Pq p95 fun b96 o96 => In 0 (n95 : Int) ∧ LI .u64 σ b96 (o96 + 1) fun x98 => ((0 : Int) ≤ 52 ∧ 52 ≤ ((IntKind.bits .u64 : Nat) : Int)) ∧ Df (x98 / 2 ^ Int.toNat 52) fun x100 => Df (Go.bits .and .u64 x100 2047) fun x101 => Br (x101 ≠ 2047) (pt88 R p1 n1 c1 x2 (aD b74 o74) n7 c7 x12 σ) (((0 : Int) ≤ 12 ∧ 12 ≤ ((IntKind.bits .u64 : Nat) : Int)) ∧ Df (IntKind.u64.wrap (x98 * 2 ^ Int.toNat 12)) fun x105 => Br (x105 = 0) (pt88 R p1 n1 c1 x2 (aD b74 o74) n7 c7 x12 σ) (Br (x98 = 9221120237041090560) (pt88 R p1 n1 c1 x2 (aD b74 o74) n7 c7 x12 σ) (pt60 R p1 n1 c1 x2 (aD b74 o74) n7 c7 x12 x98 false 0 σ)))))) (Spec prog 7 #[] σ (Cont R (CB fun t144 y => R (.returned (.bool t144)) y)))) : pt29 R p1 n1 c1 x2 p7 n7 c7 x12 σ := M.of h ok rfl
theorem pt88_of (h : I64 (x12 + 1) ∧ pt29 R p1 n1 c1 x2 p7 n7 c7 (x12 + 1) σ) : pt88 R p1 n1 c1 x2 p7 n7 c7 x12 σ := M.of h ok rfl
theorem pt60_of (h : Br (x15 < (n1 : Int)) (pt72 R p1 n1 c1 x2 p7 n7 c7 x12 x13 t14 x15 0 σ) (Bn t14 (R (.returned (.bool false)) σ) (pt88 R p1 n1 c1 x2 p7 n7 c7 x12 σ))) : pt60 R p1 n1 c1 x2 p7 n7 c7 x12 x13 t14 x15 σ := M.of h ok rfl
theorem pt72_of (h : Pq p1 fun b121 o121 => In x15 (n1 : Int) ∧ LS σ b121 ((o121 + Int.toNat x15 * 2) + 1) fun p123 n123 c123 => Br (x16 < (n123 : Int)) (Bo t14 (I64 (x16 + 1) ∧ pt72 R (aD b121 o121) n1 c1 x2 p7 n7 c7 x12 x13 true x15 (x16 + 1) σ) (In x15 (n1 : Int) ∧ LS σ b121 ((o121 + Int.toNat x15 * 2) + 1) fun p134 n134 c134 => Pq p134 fun b136 o136 => In x16 (n134 : Int) ∧ LI .u64 σ b136 ((o136 + Int.toNat x16 * 2) + 1) fun x138 => I64 (x16 + 1) ∧ pt72 R (aD b121 o121) n1 c1 x2 p7 n7 c7 x12 x13 ((decide (x138 = x13))) x15 (x16 + 1) σ)) (I64 (x15 + 1) ∧ pt60 R (aD b121 o121) n1 c1 x2 p7 n7 c7 x12 x13 t14 (x15 + 1) σ)) : pt72 R p1 n1 c1 x2 p7 n7 c7 x12 x13 t14 x15 x16 σ := M.of h ok rfl
end law22_EvalShape
namespace eval_Instant
variable {p0 p1 p11 p33 : Option Addr} {n0 c0 n1 c1 n11 c11 n33 c33 : Nat} {x2 x34 x35 : Int}
def M : Fw := ⟨prog, 4, f4, [10, 11, 12], [13], false, [], [], [(4072, [(2, wI), (11, wL), (33, wL), (34, wI), (35, wI)])]⟩
theorem ok : M.Ok := ⟨.cons call10 (.cons call11 (.cons call12 (Ents.nil))), mixed, func4, by kernel_rfl⟩
def pt38 := M.pt 0
theorem start (h : Spec prog 10 #[.slice p0 n0 c0, .slice p1 n1 c1] σ (Cont R (CI .i64 fun x16 y => Br (x16 ≠ 0) (R (.returned (.tuple #[.slice none 0 0, .int .i64 x16])) y) (Spec prog 11 #[.int .i64 x2] y (Cont R (CB fun t21 y_2 => Bn t21 (R (.returned (.tuple #[.slice none 0 0, .int .i64 221])) y_2) (Spec prog 12 #[.slice p0 n0 c0, .slice p1 n1 c1, .int .i64 x2] y_2 (Cont R (fun z y_3 => ∃ p27a n27a c27a x27b, z = (.tuple #[.slice p27a n27a c27a, .int .i64 x27b]) ∧ Br (x27b ≠ 0) (R (.returned (.tuple #[.slice none 0 0, .int .i64 x27b])) y_3) (pt38 R x2 none 0 0 p27a n27a c27a (n27a : Int) 0 y_3)))))))))) : Spec prog 4 #[.slice p0 n0 c0, .slice p1 n1 c1, .int .i64 x2] σ R := M.start h ok
theorem pt38_of (h : Br (x35 < x34) (Pq p33 fun b37 o37 => In x35 (n33 : Int) ∧ ∃ p38a n38a c38a x38b, LdL σ b37 (o37 + Int.toNat x35 * 2) [.slice p38a n38a c38a, .int .u64 x38b] ∧ ∀ b13 : Nat, (Al σ fun b40 => (Eff prog (Builtin.append_ #[33, 33] 33 #[(.slice (aD b40 0) 0 0), .slice p38a n38a c38a]) (Hp.set σ b40 (.cells #[] 58 (0, 0))) (CS fun p43 n43 c43 y => Al y fun b48 => Al (Hp.set y b48 (.cells #[.int .i64 x2, .int .u64 x38b] 39 (0, 0))) fun b50 => Eff prog (Builtin.append_ #[23, 23] 23 #[.slice p11 n11 c11, (.slice (aD b50 0) 1 1)]) (Hp.set (Hp.set y b48 (.cells #[.int .i64 x2, .int .u64 x38b] 39 (0, 0))) b50 (.cells #[.slice p43 n43 c43, (.slice (aD b48 0) 1 1)] 36 (0, 0))) (CS fun p51 n51 c51 y_2 => I64 (x35 + 1) ∧ pt38 R x2 p51 n51 c51 (aD b37 o37) n33 c33 x34 (x35 + 1) y_2))) ∧ (Al (Hp.set σ b40 (.cells #[] 58 (0, 0))) fun b48 => Eff prog (Builtin.append_ #[33, 33] 33 #[(.slice (aD b40 0) 0 0), .slice p38a n38a c38a]) (Hp.set (Hp.set σ b40 (.cells #[] 58 (0, 0))) b48 (.cells #[.int .i64 x2, .int .u64 x38b] 39 (0, 0))) (CS fun p43 n43 c43 y => Al y fun b50 => Eff prog (Builtin.append_ #[23, 23] 23 #[.slice p11 n11 c11, (.slice (aD b50 0) 1 1)]) (Hp.set y b50 (.cells #[.slice p43 n43 c43, (.slice (aD b48 0) 1 1)] 36 (0, 0))) (CS fun p51 n51 c51 y_2 => I64 (x35 + 1) ∧ pt38 R x2 p51 n51 c51 (aD b37 o37) n33 c33 x34 (x35 + 1) y_2)))) ∧ (Al σ fun b48 => Al (Hp.set σ b48 (.cells #[.int .i64 x2, .int .u64 x38b] 39 (0, 0))) fun b40 => Eff prog (Builtin.append_ #[33, 33] 33 #[(.slice (aD b40 0) 0 0), .slice p38a n38a c38a]) (Hp.set (Hp.set σ b48 (.cells #[.int .i64 x2, .int .u64 x38b] 39 (0, 0))) b40 (.cells #[] 58 (0, 0))) (CS fun p43 n43 c43 y => Al y fun b50 => Eff prog (Builtin.append_ #[23, 23] 23 #[.slice p11 n11 c11, (.slice (aD b50 0) 1 1)]) (Hp.set y b50 (.cells #[.slice p43 n43 c43, (.slice (aD b48 0) 1 1)] 36 (0, 0))) (CS fun p51 n51 c51 y_2 => I64 (x35 + 1) ∧ pt38 R x2 p51 n51 c51 (aD b37 o37) n33 c33 x34 (x35 + 1) y_2)))) (R (.returned (.tuple #[.slice p11 n11 c11, .int .i64 0])) σ)) : pt38 R x2 p11 n11 c11 p33 n33 c33 x34 x35 σ := M.of h ok rfl
end eval_Instant
namespace law22_awake
def M : Fw := ⟨prog, 7, f7, [4, 17, 18, 19, 20], [], false, [], [], []⟩
theorem ok : M.Ok := ⟨.cons call4 (.cons call17 (.cons call18 (.cons call19 (.cons call20 (Ents.nil))))), mixed, func7, by kernel_rfl⟩
theorem start (h : Al σ fun b11 => Spec prog 17 #[.float .f64 4607182418800017408] (Hp.set σ b11 (.cells #[(.string (ByteArray.mk #[95, 95, 110, 97, 109, 101, 95, 95])), (.string (ByteArray.mk #[120])), (.string (ByteArray.mk #[97])), (.string (ByteArray.mk #[49]))] 58 (0, 0))) (Cont R (CI .u64 fun x12 y => Spec prog 17 #[.float .f64 4613937818241073152] y (Cont R (CI .u64 fun x14 y_2 => Al y_2 fun b16 => Al (Hp.set y_2 b16 (.cells #[.int .i64 0, .int .u64 x12, .int .i64 60, .int .u64 x14] 39 (0, 0))) fun b20 => Spec prog 17 #[.float .f64 4617315517961601024] (Hp.set (Hp.set y_2 b16 (.cells #[.int .i64 0, .int .u64 x12, .int .i64 60, .int .u64 x14] 39 (0, 0))) b20 (.cells #[(.string (ByteArray.mk #[95, 95, 110, 97, 109, 101, 95, 95])), (.string (ByteArray.mk #[120])), (.string (ByteArray.mk #[97])), (.string (ByteArray.mk #[50]))] 58 (0, 0))) (Cont R (CI .u64 fun x21 y_3 => Al y_3 fun b23 => Al (Hp.set y_3 b23 (.cells #[.int .i64 60, .int .u64 x21] 39 (0, 0))) fun b25 => Al (Hp.set (Hp.set y_3 b23 (.cells #[.int .i64 60, .int .u64 x21] 39 (0, 0))) b25 (.cells #[(.slice (aD b11 0) 2 2), (.slice (aD b16 0) 2 2), (.slice (aD b20 0) 2 2), (.slice (aD b23 0) 1 1)] 36 (0, 0))) fun b27 => Al (Hp.set (Hp.set (Hp.set y_3 b23 (.cells #[.int .i64 60, .int .u64 x21] 39 (0, 0))) b25 (.cells #[(.slice (aD b11 0) 2 2), (.slice (aD b16 0) 2 2), (.slice (aD b20 0) 2 2), (.slice (aD b23 0) 1 1)] 36 (0, 0))) b27 (.cells #[.int .i64 1, (.string (ByteArray.mk #[95, 95, 110, 97, 109, 101, 95, 95])), (.string (ByteArray.mk #[120]))] 62 (0, 0))) fun b30 => Spec prog 4 #[(.slice (aD b30 0) 2 2), (.slice (aD b25 0) 2 2), .int .i64 60] (Hp.set (Hp.set (Hp.set (Hp.set y_3 b23 (.cells #[.int .i64 60, .int .u64 x21] 39 (0, 0))) b25 (.cells #[(.slice (aD b11 0) 2 2), (.slice (aD b16 0) 2 2), (.slice (aD b20 0) 2 2), (.slice (aD b23 0) 1 1)] 36 (0, 0))) b27 (.cells #[.int .i64 1, (.string (ByteArray.mk #[95, 95, 110, 97, 109, 101, 95, 95])), (.string (ByteArray.mk #[120]))] 62 (0, 0))) b30 (.cells #[.int .i64 2, .int .i64 0, (.string (ByteArray.mk #[])), (.slice (aD b27 0) 1 1), .int .i64 0, .int .i64 0, .int .i64 0, .slice none 0 0, .bool false, .int .i64 0, .int .i64 5, .int .i64 1, (.string (ByteArray.mk #[])), .slice none 0 0, .int .i64 0, .int .i64 0, .int .i64 0, .slice none 0 0, .bool false, .int .i64 1] 52 (0, 0))) (Cont R (fun z y_4 => ∃ p34a n34a c34a x34b, z = (.tuple #[.slice p34a n34a c34a, .int .i64 x34b]) ∧ Spec prog 18 #[(.slice (aD b30 0) 2 2), (.slice (aD b25 0) 2 2), .int .i64 0, .int .i64 60, .int .i64 60] y_4 (Cont R (fun z y_5 => ∃ p40a n40a c40a x40b, z = (.tuple #[.slice p40a n40a c40a, .int .i64 x40b]) ∧ Spec prog 19 #[(.slice (aD b30 0) 2 2)] y_5 (Cont R (fun z y_6 => ∃ x45a x45b, z = (.tuple #[.int .i64 x45a, .int .i64 x45b]) ∧ Br (x34b = 0) (Br ((n34a : Int) = 1) (Pq p34a fun b57 o57 => In 0 (n34a : Int) ∧ LS y_6 b57 (o57 + 1) fun p59 n59 c59 => Spec prog 17 #[.float .f64 4620693217682128896] y_6 (Cont R (CI .u64 fun x60 y_7 => Kp [b57] y_6 y_7 ∧ Al y_7 fun b62 => Spec prog 20 #[.slice p59 n59 c59, (.slice (aD b62 0) 1 1)] (Hp.set y_7 b62 (.cells #[.int .i64 60, .int .u64 x60] 39 (0, 0))) (Cont R (CB fun t63 y_8 => Bo t63 (Br (x40b = 0) (Br ((n40a : Int) = 1) (Pq p40a fun b76 o76 => In 0 (n40a : Int) ∧ LS y_8 b76 (o76 + 1) fun p78 n78 c78 => Br ((n78 : Int) = 2) (Br (x45a = 300) (R (.returned (.bool (decide (x45b = 0)))) y_8) (R (.returned (.bool false)) y_8)) (R (.returned (.bool false)) y_8)) (R (.returned (.bool false)) y_8)) (R (.returned (.bool false)) y_8)) (R (.returned (.bool false)) y_8)))))) (R (.returned (.bool false)) y_6)) (R (.returned (.bool false)) y_6)))))))))))))) : Spec prog 7 #[] σ R := M.start h ok
end law22_awake
namespace types_Check
variable {p0 q5 p11 : Option Addr} {n0 c0 n11 c11 : Nat} {x12 x13 : Int}
def M : Fw := ⟨prog, 8, f8, [21], [7], false, [], [], [(232, [(0, wL), (5, wQ), (11, wL), (12, wI), (13, wI)])]⟩
theorem ok : M.Ok := ⟨.cons call21 (Ents.nil), mixed, func8, by kernel_rfl⟩
def pt10 := M.pt 0
theorem start (h : Al σ fun b10 => pt10 R p0 n0 c0 (aD b10 0) p0 n0 c0 (n0 : Int) 0 (Hp.set σ b10 (.cells #[.slice none 0 0] 70 (0, 0)))) : Spec prog 8 #[.slice p0 n0 c0] σ R := M.start h ok
theorem pt10_of (h : Br (x13 < x12) (Pq p11 fun b16 o16 => In x13 (n11 : Int) ∧ ∃ x17a x17b s17c p17d n17d c17d x17e x17f x17g p17h n17h c17h t17i x17j, LdL σ b16 (o16 + Int.toNat x13 * 10) [.int .i64 x17a, .int .i64 x17b, .string s17c, .slice p17d n17d c17d, .int .i64 x17e, .int .i64 x17f, .int .i64 x17g, .slice p17h n17h c17h, .bool t17i, .int .i64 x17j] ∧ ∀ b7 : Nat, Spec prog 21 #[.pointer q5, .agg #[.int .i64 x17a, .int .i64 x17b, .string s17c, .slice p17d n17d c17d, .int .i64 x17e, .int .i64 x17f, .int .i64 x17g, .slice p17h n17h c17h, .bool t17i, .int .i64 x17j]] σ (Cont R (CI .i64 fun x20 y => Br (x20 ≠ 0) (R (.returned (.tuple #[.int .i64 0, .int .i64 x13, .int .i64 x20])) y) (I64 (x13 + 1) ∧ pt10 R p0 n0 c0 q5 (aD b16 o16) n11 c11 x12 (x13 + 1) y)))) (Pq q5 fun b27 o27 => LS σ b27 o27 fun p29 n29 c29 => Br ((n29 : Int) ≠ 1) (R (.returned (.tuple #[.int .i64 0, (.int .i64 (n0 : Int)), .int .i64 190])) σ) (Br (4096 < (n0 : Int)) (R (.returned (.tuple #[.int .i64 0, (.int .i64 (n0 : Int)), .int .i64 190])) σ) (LS σ b27 o27 fun p42 n42 c42 => Pq p42 fun b43 o43 => In 0 (n42 : Int) ∧ LI .i64 σ b43 o43 fun x45 => R (.returned (.tuple #[.int .i64 x45, .int .i64 0, .int .i64 0])) σ)))) : pt10 R p0 n0 c0 q5 p11 n11 c11 x12 x13 σ := M.of h ok rfl
end types_Check
namespace law0_SamePoints
variable {p0 p1 : Option Addr} {n0 c0 n1 c1 : Nat} {x5 : Int}
def M : Fw := ⟨prog, 20, f20, [], [], false, [(6, 9, true)], [], [(464, [(0, wL), (1, wL), (5, wI)])]⟩
theorem ok : M.Ok := ⟨Ents.nil, mixed, func20, by kernel_rfl⟩
def pt17 := M.pt 0
theorem start (h : Br ((n0 : Int) ≠ (n1 : Int)) (R (.returned (.bool false)) σ) (pt17 R p0 n0 c0 p1 n1 c1 0 σ)) : Spec prog 20 #[.slice p0 n0 c0, .slice p1 n1 c1] σ R := M.start h ok
theorem pt17_of (h : Br (x5 < (n0 : Int)) (Pq p0 fun b19 o19 => In x5 (n0 : Int) ∧ ∃ x20a x20b, LdL σ b19 (o19 + Int.toNat x5 * 2) [.int .i64 x20a, .int .u64 x20b] ∧ Pq p1 fun b23 o23 => In x5 (n1 : Int) ∧ ∃ x24a x24b, LdL σ b23 (o23 + Int.toNat x5 * 2) [.int .i64 x24a, .int .u64 x24b] ∧ ∃ t25, YF prog ((do eqGuard .neq 39 (.tmp 20) (.tmp 24) (.agg #[.int .i64 x20a, .int .u64 x20b]) (.agg #[.int .i64 x24a, .int .u64 x24b]); binOp .neq 39 (.agg #[.int .i64 x20a, .int .u64 x20b]) (.agg #[.int .i64 x24a, .int .u64 x24b]))) σ (.bool t25) ∧ Bo t25 (R (.returned (.bool false)) σ) (I64 (x5 + 1) ∧ pt17 R (aD b19 o19) n0 c0 (aD b23 o23) n1 c1 (x5 + 1) σ)) (R (.returned (.bool true)) σ)) : pt17 R p0 n0 c0 p1 n1 c1 x5 σ := M.of h ok rfl
end law0_SamePoints
namespace types_form
variable {x0a x0b x0e x0f x0g x0j : Int} {s0c : ByteArray} {p0d p0h : Option Addr} {n0d c0d n0h c0h : Nat} {t0i : Bool}
def M : Fw := ⟨prog, 31, f31, [49, 50, 51, 52, 53, 54], [1], false, [], [], []⟩
theorem ok : M.Ok := ⟨.cons call49 (.cons call50 (.cons call51 (.cons call52 (.cons call53 (.cons call54 (Ents.nil)))))), mixed, func31, by kernel_rfl⟩
theorem start (h : ∀ b1 : Nat, Spec prog 50 #[.agg #[.int .i64 x0a, .int .i64 x0b, .string s0c, .slice p0d n0d c0d, .int .i64 x0e, .int .i64 x0f, .int .i64 x0g, .slice p0h n0h c0h, .bool t0i, .int .i64 x0j]] σ (Cont R (fun z y => ∃ x5a x5b s5c p5d n5d c5d x5e x5f x5g p5h n5h c5h t5i x5j, z = (.agg #[.int .i64 x5a, .int .i64 x5b, .string s5c, .slice p5d n5d c5d, .int .i64 x5e, .int .i64 x5f, .int .i64 x5g, .slice p5h n5h c5h, .bool t5i, .int .i64 x5j]) ∧ Spec prog 49 #[.agg #[.int .i64 x0a, .int .i64 x0b, .string s0c, .slice p0d n0d c0d, .int .i64 x0e, .int .i64 x0f, .int .i64 x0g, .slice p0h n0h c0h, .bool t0i, .int .i64 x0j], .agg #[.int .i64 x5a, .int .i64 x5b, .string s5c, .slice p5d n5d c5d, .int .i64 x5e, .int .i64 x5f, .int .i64 x5g, .slice p5h n5h c5h, .bool t5i, .int .i64 x5j]] y (Cont R (CB fun t6 y_2 => Bn t6 (R (.returned (.bool false)) y_2) (Spec prog 51 #[.agg #[.int .i64 x0a, .int .i64 x0b, .string s0c, .slice p0d n0d c0d, .int .i64 x0e, .int .i64 x0f, .int .i64 x0g, .slice p0h n0h c0h, .bool t0i, .int .i64 x0j]] y_2 (Cont R (CB fun t10 y_3 => Bn t10 (R (.returned (.bool false)) y_3) (Br (0 < (n0d : Int)) (Br (x0a ≠ 2) (Br (x0a ≠ 3) (R (.returned (.bool false)) y_3) (Br (x0a = 1) (Spec prog 52 #[.string s0c] y_3 (Cont R (CB fun t35 y_4 => R (.returned (.bool t35)) y_4))) (Br (x0a = 2) (Spec prog 53 #[.int .i64 x0f, .int .i64 0] y_3 (Cont R (CB fun t40 y_4 => R (.returned (.bool t40)) y_4))) (Br (x0a = 3) (Spec prog 53 #[.int .i64 x0e, .int .i64 1] y_3 (Cont R (CB fun t45 y_4 => Bo t45 (Spec prog 53 #[.int .i64 x0f, .int .i64 0] y_4 (Cont R (CB fun t49 y_5 => R (.returned (.bool t49)) y_5))) (R (.returned (.bool false)) y_4)))) (Br (x0a = 4) (Br (x0j = 1) (Br (1 ≤ x0b) (R (.returned (.bool (decide (x0b ≤ 12)))) y_3) (R (.returned (.bool false)) y_3)) (R (.returned (.bool false)) y_3)) (Br (x0a = 5) (Br (x0j = 1) (Br (1 ≤ x0b) (Br (x0b ≤ 5) (Br (x0g = 0) (R (.returned (.bool true)) y_3) (Br (x0g = 1) (R (.returned (.bool true)) y_3) (R (.returned (.bool (decide (x0g = 2)))) y_3))) (R (.returned (.bool false)) y_3)) (R (.returned (.bool false)) y_3)) (R (.returned (.bool false)) y_3)) (Br (x0a = 6) (Br (x0j = 2) (Br (1 ≤ x0b) (Br (x0b ≤ 13) (Br (x0g = 0) (Bn t0i (R (.returned (.bool true)) y_3) (Spec prog 54 #[.int .i64 x0b] y_3 (Cont R (CB fun t133 y_4 => R (.returned (.bool t133)) y_4)))) (Br (x0g = 3) (Bn t0i (R (.returned (.bool true)) y_3) (Spec prog 54 #[.int .i64 x0b] y_3 (Cont R (CB fun t133 y_4 => R (.returned (.bool t133)) y_4)))) (Br (x0g = 4) (Bn t0i (R (.returned (.bool true)) y_3) (Spec prog 54 #[.int .i64 x0b] y_3 (Cont R (CB fun t133 y_4 => R (.returned (.bool t133)) y_4)))) (R (.returned (.bool false)) y_3)))) (R (.returned (.bool false)) y_3)) (R (.returned (.bool false)) y_3)) (R (.returned (.bool false)) y_3)) (Br (x0a = 7) (R (.returned (.bool (decide (x0j = 1)))) y_3) (R (.returned (.bool false)) y_3))))))))) (Br (x0a = 1) (Spec prog 52 #[.string s0c] y_3 (Cont R (CB fun t35 y_4 => R (.returned (.bool t35)) y_4))) (Br (x0a = 2) (Spec prog 53 #[.int .i64 x0f, .int .i64 0] y_3 (Cont R (CB fun t40 y_4 => R (.returned (.bool t40)) y_4))) (Br (x0a = 3) (Spec prog 53 #[.int .i64 x0e, .int .i64 1] y_3 (Cont R (CB fun t45 y_4 => Bo t45 (Spec prog 53 #[.int .i64 x0f, .int .i64 0] y_4 (Cont R (CB fun t49 y_5 => R (.returned (.bool t49)) y_5))) (R (.returned (.bool false)) y_4)))) (Br (x0a = 4) (Br (x0j = 1) (Br (1 ≤ x0b) (R (.returned (.bool (decide (x0b ≤ 12)))) y_3) (R (.returned (.bool false)) y_3)) (R (.returned (.bool false)) y_3)) (Br (x0a = 5) (Br (x0j = 1) (Br (1 ≤ x0b) (Br (x0b ≤ 5) (Br (x0g = 0) (R (.returned (.bool true)) y_3) (Br (x0g = 1) (R (.returned (.bool true)) y_3) (R (.returned (.bool (decide (x0g = 2)))) y_3))) (R (.returned (.bool false)) y_3)) (R (.returned (.bool false)) y_3)) (R (.returned (.bool false)) y_3)) (Br (x0a = 6) (Br (x0j = 2) (Br (1 ≤ x0b) (Br (x0b ≤ 13) (Br (x0g = 0) (Bn t0i (R (.returned (.bool true)) y_3) (Spec prog 54 #[.int .i64 x0b] y_3 (Cont R (CB fun t133 y_4 => R (.returned (.bool t133)) y_4)))) (Br (x0g = 3) (Bn t0i (R (.returned (.bool true)) y_3) (Spec prog 54 #[.int .i64 x0b] y_3 (Cont R (CB fun t133 y_4 => R (.returned (.bool t133)) y_4)))) (Br (x0g = 4) (Bn t0i (R (.returned (.bool true)) y_3) (Spec prog 54 #[.int .i64 x0b] y_3 (Cont R (CB fun t133 y_4 => R (.returned (.bool t133)) y_4)))) (R (.returned (.bool false)) y_3)))) (R (.returned (.bool false)) y_3)) (R (.returned (.bool false)) y_3)) (R (.returned (.bool false)) y_3)) (Br (x0a = 7) (R (.returned (.bool (decide (x0j = 1)))) y_3) (R (.returned (.bool false)) y_3))))))))) (Br (x0a = 1) (Spec prog 52 #[.string s0c] y_3 (Cont R (CB fun t35 y_4 => R (.returned (.bool t35)) y_4))) (Br (x0a = 2) (Spec prog 53 #[.int .i64 x0f, .int .i64 0] y_3 (Cont R (CB fun t40 y_4 => R (.returned (.bool t40)) y_4))) (Br (x0a = 3) (Spec prog 53 #[.int .i64 x0e, .int .i64 1] y_3 (Cont R (CB fun t45 y_4 => Bo t45 (Spec prog 53 #[.int .i64 x0f, .int .i64 0] y_4 (Cont R (CB fun t49 y_5 => R (.returned (.bool t49)) y_5))) (R (.returned (.bool false)) y_4)))) (Br (x0a = 4) (Br (x0j = 1) (Br (1 ≤ x0b) (R (.returned (.bool (decide (x0b ≤ 12)))) y_3) (R (.returned (.bool false)) y_3)) (R (.returned (.bool false)) y_3)) (Br (x0a = 5) (Br (x0j = 1) (Br (1 ≤ x0b) (Br (x0b ≤ 5) (Br (x0g = 0) (R (.returned (.bool true)) y_3) (Br (x0g = 1) (R (.returned (.bool true)) y_3) (R (.returned (.bool (decide (x0g = 2)))) y_3))) (R (.returned (.bool false)) y_3)) (R (.returned (.bool false)) y_3)) (R (.returned (.bool false)) y_3)) (Br (x0a = 6) (Br (x0j = 2) (Br (1 ≤ x0b) (Br (x0b ≤ 13) (Br (x0g = 0) (Bn t0i (R (.returned (.bool true)) y_3) (Spec prog 54 #[.int .i64 x0b] y_3 (Cont R (CB fun t133 y_4 => R (.returned (.bool t133)) y_4)))) (Br (x0g = 3) (Bn t0i (R (.returned (.bool true)) y_3) (Spec prog 54 #[.int .i64 x0b] y_3 (Cont R (CB fun t133 y_4 => R (.returned (.bool t133)) y_4)))) (Br (x0g = 4) (Bn t0i (R (.returned (.bool true)) y_3) (Spec prog 54 #[.int .i64 x0b] y_3 (Cont R (CB fun t133 y_4 => R (.returned (.bool t133)) y_4)))) (R (.returned (.bool false)) y_3)))) (R (.returned (.bool false)) y_3)) (R (.returned (.bool false)) y_3)) (R (.returned (.bool false)) y_3)) (Br (x0a = 7) (R (.returned (.bool (decide (x0j = 1)))) y_3) (R (.returned (.bool false)) y_3))))))))))))))))) : Spec prog 31 #[.agg #[.int .i64 x0a, .int .i64 x0b, .string s0c, .slice p0d n0d c0d, .int .i64 x0e, .int .i64 x0f, .int .i64 x0g, .slice p0h n0h c0h, .bool t0i, .int .i64 x0j]] σ R := M.start h ok
end types_form
namespace strings_Compare
variable {s0 s1 : ByteArray}
def M : Fw := ⟨prog, 43, f43, [59], [], false, [], [], []⟩
theorem ok : M.Ok := ⟨.cons call59 (Ents.nil), mixed, func43, by kernel_rfl⟩
theorem start (h : Spec prog 59 #[.string s0, .string s1] σ (Cont R (CI .i64 fun x7 y => R (.returned (.int .i64 x7)) y))) : Spec prog 43 #[.string s0, .string s1] σ R := M.start h ok
end strings_Compare
namespace eval_asker_neg
variable {q0 p1d p1h p2 p6c p6d p8 p25 : Option Addr} {x1a x1b x1e x1f x1g x1j x6a x6b x26 x27 : Int} {s1c : ByteArray} {n1d c1d n1h c1h n2 c2 n6c c6c n6d c6d n8 c8 n25 c25 : Nat} {t1i : Bool}
def M : Fw := ⟨prog, 66, f66, [88, 90, 104], [4, 6, 10], false, [], [], [(488, [(6, .X 79 [.I .i64, .I .u64, .L, .L]), (8, wL), (25, wL), (26, wI), (27, wI)])]⟩
theorem ok : M.Ok := ⟨.cons call88 (.cons call90 (.cons call104 (Ents.nil))), mixed, func66, by kernel_rfl⟩
def pt18 := M.pt 0
theorem start (h : ∀ b4 : Nat, ∀ b6 : Nat, Pq p2 fun b12 o12 => In 0 (n2 : Int) ∧ LI .i64 σ b12 o12 fun x14 => Br (x14 = 1) (In 0 (n2 : Int) ∧ LI .u64 σ b12 (o12 + 1) fun x19 => Spec prog 104 #[.int .u64 x19] σ (Cont R (CI .u64 fun x20 y => R (.returned (.tuple #[.agg #[.int .i64 1, .int .u64 x20, .slice none 0 0, .slice none 0 0], .int .i64 0])) y))) (In 0 (n2 : Int) ∧ LS σ b12 (o12 + 2) fun p25 n25 c25 => pt18 R 0 0 none 0 0 none 0 0 none 0 0 p25 n25 c25 (n25 : Int) 0 σ)) : Spec prog 66 #[.pointer q0, .agg #[.int .i64 x1a, .int .i64 x1b, .string s1c, .slice p1d n1d c1d, .int .i64 x1e, .int .i64 x1f, .int .i64 x1g, .slice p1h n1h c1h, .bool t1i, .int .i64 x1j], .slice p2 n2 c2] σ R := M.start h ok
theorem pt18_of (h : Br (x27 < x26) (Pq p25 fun b29 o29 => In x27 (n25 : Int) ∧ ∃ p30a n30a c30a x30b, LdL σ b29 (o29 + Int.toNat x27 * 2) [.slice p30a n30a c30a, .int .u64 x30b] ∧ ∀ b10 : Nat, Spec prog 88 #[.slice p30a n30a c30a] σ (Cont R (CS fun p34 n34 c34 y => Spec prog 104 #[.int .u64 x30b] y (Cont R (CI .u64 fun x37 y_2 => Al y_2 fun b39 => Eff prog (Builtin.append_ #[44, 44] 44 #[.slice p8 n8 c8, (.slice (aD b39 0) 1 1)]) (Hp.set y_2 b39 (.cells #[.slice p34 n34 c34, .int .u64 x37] 48 (0, 0))) (CS fun p40 n40 c40 y_3 => I64 (x27 + 1) ∧ pt18 R x6a x6b p6c n6c c6c p6d n6d c6d p40 n40 c40 (aD b29 o29) n25 c25 x26 (x27 + 1) y_3)))))) (Spec prog 90 #[.slice p8 n8 c8] σ (Cont R (fun z y => ∃ x43aa x43ab p43ac n43ac c43ac p43ad n43ad c43ad x43b, z = (.tuple #[.agg #[.int .i64 x43aa, .int .u64 x43ab, .slice p43ac n43ac c43ac, .slice p43ad n43ad c43ad], .int .i64 x43b]) ∧ R (.returned (.tuple #[.agg #[.int .i64 x43aa, .int .u64 x43ab, .slice p43ac n43ac c43ac, .slice p43ad n43ad c43ad], .int .i64 x43b])) y)))) : pt18 R x6a x6b p6c n6c c6c p6d n6d c6d p8 n8 c8 p25 n25 c25 x26 x27 σ := M.of1 h ok rfl fun _ => by kernel_rfl
end eval_asker_neg
namespace codec_PutText
variable {p0 : Option Addr} {n0 c0 : Nat} {s1 : ByteArray}
def M : Fw := ⟨prog, 68, f68, [67], [], false, [], [], []⟩
theorem ok : M.Ok := ⟨.cons call67 (Ents.nil), mixed, func68, by kernel_rfl⟩
theorem start (h : Df (IntKind.u64.wrap ((ByteArray.size s1 : Nat) : Int)) fun x8 => Spec prog 67 #[.slice p0 n0 c0, .int .u64 x8] σ (Cont R (CS fun p9 n9 c9 y => Eff prog (Builtin.append_ #[107, 9] 107 #[.slice p9 n9 c9, .string s1]) y (CS fun p11 n11 c11 y_2 => R (.returned (.slice p11 n11 c11)) y_2)))) : Spec prog 68 #[.slice p0 n0 c0, .string s1] σ R := M.start h ok
end codec_PutText
namespace lex_digits
variable {s0 : ByteArray} {x3 : Int}
def M : Fw := ⟨prog, 79, f79, [110], [], false, [], [], [(224, [(0, wT), (3, wI)])]⟩
theorem ok : M.Ok := ⟨.cons call110 (Ents.nil), mixed, func79, by kernel_rfl⟩
def pt9 := M.pt 0
theorem start (h : pt9 R s0 0 σ) : Spec prog 79 #[.string s0] σ R := M.start h ok
theorem pt9_of (h : Br (x3 < ((ByteArray.size s0 : Nat) : Int)) (∃ u11 : UInt8, 0 ≤ x3 ∧ (ByteArray.data s0)[Int.toNat x3]? = some u11 ∧ Spec prog 110 #[(.int .u8 ((UInt8.toNat u11 : Nat) : Int))] σ (Cont R (CB fun t12 y => Bo t12 (I64 (x3 + 1) ∧ pt9 R s0 (x3 + 1) y) (R (.returned (.int .i64 x3)) y)))) (R (.returned (.int .i64 x3)) σ)) : pt9 R s0 x3 σ := M.of h ok rfl
end lex_digits
namespace label_Without
variable {p0 p1 : Option Addr} {n0 c0 n1 c1 : Nat}
def M : Fw := ⟨prog, 92, f92, [136], [], false, [], [], []⟩
theorem ok : M.Ok := ⟨.cons call136 (Ents.nil), mixed, func92, by kernel_rfl⟩
theorem start (h : Al σ fun b3 => Spec prog 136 #[.slice p0 n0 c0, (.func (.func 139) #[] #[(.pointer (aD b3 0))])] (Hp.set σ b3 (.cells #[.slice p1 n1 c1] 50 (0, 0))) (Cont R (CS fun p7 n7 c7 y => R (.returned (.slice p7 n7 c7)) y))) : Spec prog 92 #[.slice p0 n0 c0, .slice p1 n1 c1] σ R := M.start h ok
end label_Without
namespace eval_least
variable {p0 : Option Addr} {n0 c0 : Nat}
def M : Fw := ⟨prog, 94, f94, [141], [], false, [], [], []⟩
theorem ok : M.Ok := ⟨.cons call141 (Ents.nil), mixed, func94, by kernel_rfl⟩
theorem start (h : Spec prog 141 #[.int .i64 7, .slice p0 n0 c0] σ (Cont R (CI .u64 fun x4 y => R (.returned (.int .u64 x4)) y))) : Spec prog 94 #[.slice p0 n0 c0] σ R := M.start h ok
end eval_least
namespace strconv_ParseFloat
variable {s0 : ByteArray} {x1 : Int}
def M : Fw := ⟨prog, 112, f112, [149, 150], [], false, [], [], []⟩
theorem ok : M.Ok := ⟨.cons call149 (.cons call150 (Ents.nil)), mixed, func112, by kernel_rfl⟩
theorem start (h : Spec prog 149 #[.string s0, .int .i64 x1] σ (Cont R (fun z y => ∃ v11a v11b, z = (.tuple #[v11a, v11b]) ∧ ∃ t15, YF prog ((do eqGuard .neq 163 (.tmp 14) (.const .nilIface) v11b .nilIface; binOp .neq 163 v11b .nilIface)) y (.bool t15) ∧ Bo t15 (Spec prog 150 #[(.string (ByteArray.mk #[80, 97, 114, 115, 101, 70, 108, 111, 97, 116])), .string s0, .int .i64 0, .int .i64 x1, v11b] y (Cont R (fun z y_2 => ∃ v20, v20 = z ∧ R (.returned (.tuple #[v11a, v20])) y_2))) (R (.returned (.tuple #[v11a, .nilIface])) y)))) : Spec prog 112 #[.string s0, .int .i64 x1] σ R := M.start h ok
end strconv_ParseFloat
namespace wave_to
variable {v0 : Value}
def M : Fw := ⟨prog, 113, f113, [151], [], false, [], [], []⟩
theorem ok : M.Ok := ⟨.cons call151 (Ents.nil), mixed, func113, by kernel_rfl⟩
theorem start (h : Spec prog 151 #[v0] σ (Cont R (CB fun t4 y => Bo t4 (R (.returned (.int .u64 9221120237041090560)) y) (EN prog 26 #[v0] y (CI .u64 fun x6 y_2 => R (.returned (.int .u64 x6)) y_2))))) : Spec prog 113 #[v0] σ R := M.startD h ok [(0, .o (.V v0))] rfl rfl (by kernel_rfl)
end wave_to
namespace slices_BinarySearchFunc_int64
variable {p0 : Option Addr} {n0 c0 : Nat} {x1 x8 x9 x10 : Int} {v2 : Value}
def M : Fw := ⟨prog, 114, f114, [], [], false, [], [], [(480, [(0, wL), (1, wI), (2, wV), (8, wI), (9, wI), (10, wI)])]⟩
theorem ok : M.Ok := ⟨Ents.nil, mixed, func114, by kernel_rfl⟩
def pt11 := M.pt 0
theorem start (h : pt11 R p0 n0 c0 x1 v2 (n0 : Int) 0 (n0 : Int) σ) : Spec prog 114 #[.slice p0 n0 c0, .int .i64 x1, v2] σ R := M.startD h ok [(0, .o (.L p0 n0 c0)), (1, .o (.I .i64 x1)), (2, .o (.V v2))] rfl rfl (by kernel_rfl)
theorem pt11_of (h : Br (x9 < x10) (I64 (x9 + x10) ∧ Df (IntKind.u64.wrap (x9 + x10)) fun x21 => ((0 : Int) ≤ 1 ∧ 1 ≤ ((IntKind.bits .u64 : Nat) : Int)) ∧ Df (x21 / 2 ^ Int.toNat 1) fun x22 => Df (IntKind.i64.wrap x22) fun x23 => Pq p0 fun b27 o27 => In x23 (n0 : Int) ∧ ∃ x28a x28b, LdL σ b27 (o27 + Int.toNat x23 * 2) [.int .i64 x28a, .int .u64 x28b] ∧ ∃ (f30 : Nat) (fst30 cap30 : Array Value), v2 = .func (.func f30) fst30 cap30 ∧ Enters prog f30 ∧ Spec prog f30 (fst30 ++ #[.agg #[.int .i64 x28a, .int .u64 x28b], .int .i64 x1] ++ cap30) σ (Cont R (CI .i64 fun x30 y => Br (x30 < 0) (I64 (x23 + 1) ∧ pt11 R (aD b27 o27) n0 c0 x1 v2 x8 (x23 + 1) x10 y) (pt11 R (aD b27 o27) n0 c0 x1 v2 x8 x9 x23 y)))) (Br (x9 < x8) (Pq p0 fun b43 o43 => In x9 (n0 : Int) ∧ ∃ x44a x44b, LdL σ b43 (o43 + Int.toNat x9 * 2) [.int .i64 x44a, .int .u64 x44b] ∧ ∃ (f46 : Nat) (fst46 cap46 : Array Value), v2 = .func (.func f46) fst46 cap46 ∧ Enters prog f46 ∧ Spec prog f46 (fst46 ++ #[.agg #[.int .i64 x44a, .int .u64 x44b], .int .i64 x1] ++ cap46) σ (Cont R (CI .i64 fun x46 y => R (.returned (.tuple #[.int .i64 x9, (.bool (decide (x46 = 0)))])) y))) (R (.returned (.tuple #[.int .i64 x9, .bool false])) σ))) : pt11 R p0 n0 c0 x1 v2 x8 x9 x10 σ := M.of h ok rfl
end slices_BinarySearchFunc_int64
namespace math_Floor
variable {v0 : Value}
def M : Fw := ⟨prog, 122, f122, [], [], false, [], [], []⟩
theorem ok : M.Ok := ⟨Ents.nil, mixed, func122, by kernel_rfl⟩
theorem start (h : EN prog 158 #[v0] σ (fun z y => ∃ x4, (Value.float .f64 x4) = z ∧ R (.returned (Value.float .f64 x4)) y)) : Spec prog 122 #[v0] σ R := M.startD h ok [(0, .o (.V v0))] rfl rfl (by kernel_rfl)
end math_Floor
namespace eval_two
variable {f0 : Fn} {a0 c0 : Array Value}
def M : Fw := ⟨prog, 127, f127, [], [], false, [], [], []⟩
theorem ok : M.Ok := ⟨Ents.nil, mixed, func127, by kernel_rfl⟩
theorem start (h : Al σ fun b1 => R (.returned (.func (.func 162) #[] #[(.pointer (aD b1 0))])) (Hp.set σ b1 (.cells #[(Value.func f0 a0 c0)] 183 (0, 0)))) : Spec prog 127 #[(Value.func f0 a0 c0)] σ R := M.startD h ok [(0, .o (.V (Value.func f0 a0 c0)))] rfl rfl (by kernel_rfl)
end eval_two
namespace eval_functions_3
variable {p0 p1 : Option Addr} {n0 c0 n1 c1 : Nat}
def M : Fw := ⟨prog, 130, f130, [131], [], false, [], [], []⟩
theorem ok : M.Ok := ⟨.cons call131 (Ents.nil), mixed, func130, by kernel_rfl⟩
theorem start (h : Spec prog 131 #[.slice p0 n0 c0] σ (Cont R (CI .u64 fun x6 y => R (.returned (.int .u64 x6)) y))) : Spec prog 130 #[.slice p0 n0 c0, .slice p1 n1 c1] σ R := M.start h ok
end eval_functions_3
namespace eval_grown
variable {p0 : Option Addr} {n0 c0 : Nat} {x3 x4 : Int}
def M : Fw := ⟨prog, 131, f131, [129, 140, 143], [], false, [], [], [(464, [(0, wL), (3, wU), (4, wI)]), (467, [(0, wL), (3, wU), (4, wI)])]⟩
theorem ok : M.Ok := ⟨.cons call129 (.cons call140 (.cons call143 (Ents.nil))), mixed, func131, by kernel_rfl⟩
def pt11 := M.pt 0
def pt24 := M.pt 1
theorem start (h : I64 ((n0 : Int) - 1) ∧ Pq p0 fun b11 o11 => In (((n0 : Int) - 1)) (n0 : Int) ∧ LI .u64 σ b11 (o11 + Int.toNat ((n0 : Int) - 1) * 1) fun x12 => In 0 (n0 : Int) ∧ LI .u64 σ b11 o11 fun x15 => Spec prog 129 #[.int .u64 x12, .int .u64 x15] σ (Cont R (CI .u64 fun x16 y => pt11 R (aD b11 o11) n0 c0 x16 1 y))) : Spec prog 131 #[.slice p0 n0 c0] σ R := M.start h ok
theorem pt11_of (h : Br (x4 < (n0 : Int)) (Pq p0 fun b26 o26 => In x4 (n0 : Int) ∧ LI .u64 σ b26 (o26 + Int.toNat x4 * 1) fun x27 => I64 (x4 - 1) ∧ In (x4 - 1) (n0 : Int) ∧ LI .u64 σ b26 (o26 + Int.toNat (x4 - 1) * 1) fun x32 => Spec prog 143 #[.int .i64 7, .int .u64 x27, .int .u64 x32] σ (Cont R (fun z y => ∃ t33a t33b, z = (.tuple #[.bool t33a, .bool t33b]) ∧ Bo t33a (I64 (x4 - 1) ∧ In (x4 - 1) (n0 : Int) ∧ LI .u64 y b26 (o26 + Int.toNat (x4 - 1) * 1) fun x42 => Spec prog 140 #[.int .u64 x3, .int .u64 x42] y (Cont R (CI .u64 fun x43 y_2 => pt24 R (aD b26 o26) n0 c0 x43 x4 y_2))) (pt24 R (aD b26 o26) n0 c0 x3 x4 y)))) (R (.returned (.int .u64 x3)) σ)) : pt11 R p0 n0 c0 x3 x4 σ := M.of h ok rfl
theorem pt24_of (h : I64 (x4 + 1) ∧ pt11 R p0 n0 c0 x3 (x4 + 1) σ) : pt24 R p0 n0 c0 x3 x4 σ := M.of h ok rfl
end eval_grown
namespace match_asker_not
variable {p0a : Option Addr} {n0a c0a : Nat} {s0b s1 : ByteArray}
def M : Fw := ⟨prog, 155, f155, [171], [2], false, [], [], []⟩
theorem ok : M.Ok := ⟨.cons call171 (Ents.nil), mixed, func155, by kernel_rfl⟩
theorem start (h : ∀ b2 : Nat, Spec prog 171 #[.agg #[.slice p0a n0a c0a], .string s1] σ (Cont R (CB fun t8 y => R (.returned (.bool (!t8))) y))) : Spec prog 155 #[.agg #[.slice p0a n0a c0a, .string s0b], .string s1] σ R := M.start h ok
end match_asker_not
namespace internal_strconv_lower
variable {x0 : Int}
def M : Fw := ⟨prog, 226, f226, [], [], false, [], [], []⟩
theorem ok : M.Ok := ⟨Ents.nil, mixed, func226, by kernel_rfl⟩
theorem start (h : Df (Go.bits .or .u8 x0 32) fun x4 => R (.returned (.int .u8 x4)) σ) : Spec prog 226 #[.int .u8 x0] σ R := M.start h ok
end internal_strconv_lower
end TwW
end
end
