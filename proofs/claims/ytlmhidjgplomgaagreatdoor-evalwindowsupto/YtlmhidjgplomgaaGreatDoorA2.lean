/-
  Part 2 of the proof that the law EvalWindowsUptoCardSaid of the given program answers true for every input of the given statement; the input reads behind the call as it did. (The texts: packed from 7 texts. Names are shortened by the packing program, for the bound on size.)
-/
import Derived.Test.YtlmhidjgplomgaaGreatDoorA1
set_option linter.all false
section
namespace Tw
open Go
variable [Er]
def jn (P : Program) : Op → Bool
 | .call c => match c.callee with
   | .builtin .len => false
   | .builtin .cap => false
   | .builtin .min => match c.argTypes.toList with
     | T :: _ => yG P T
     | [] => false
   | .builtin .max => match c.argTypes.toList with
     | T :: _ => yG P T
     | [] => false
   | .builtin .real => false
   | .builtin .imag => false
   | .builtin .complex => false
   | _ => true
 | .convert T T' _ => match P.underlying T,P.underlying T' with
   | some (.int _),some (.int _) => false
   | _,_ => true
 | .box .. => true
 | .alloc .. => true
 | .store .. => true
 | .buildSlice .. => true
 | .makeSlice .. => true
 | .mapUpdate .. => true
 | .makeMap .. => true
 | .insert .. => true
 | .range .. => true
 | .next .. => true
 | .lookup .. => true
 | .entryStore .. => true
 | .mapEntry .. => true
 | .makeChan .. => true
 | .binOp b T _ _ _ => flB b && yG P T
 | _ => false
def fB (s : S) : Option Operand → Option (Option Value)
 | none => some none
 | some x => match s.op x with
   | some v => some (some (v.den s.vl))
   | none => none
def qh (P : Program) (b : BinOp) (T : TypeId) (x y : Option SV) : Bool := match Wb x,Wb y with
 | some _,some _ => true
 | _,_ => match P.underlying T with
   | some .string => match b with
     | .eql => true
     | .neq => true
     | .add => true
     | _ => false
   | some (.pointer _) => true
   | some .bool => true
   | _ => false
def AKN : Option SV → Bool
 | some (.v (.a (.sl _ _ _))) => true
 | _ => false
def anyM (P : Program) (op : Op) (ty : TypeId) (s : S) : Option (Sem Value) := match op with
 | .slice T x lo hi mx => match AKN (s.op x) && mx.isNone with
   | true => none
   | false => match s.op x,fB s lo,fB s hi,fB s mx with
     | some w,some l,some h,some m => some (Instr.sliceAt T (w.den s.vl) l h m)
     | _,_,_,_ => none
 | .unOp u _ x => match u,s.op x with
   | .not,_ => none
   | .neg,v => match Wb v,v with
     | some _,_ => none
     | none,some v => some (Op.unary .neg (v.den s.vl))
     | none,none => none
   | u,some v => some (Op.unary u (v.den s.vl))
   | _,none => none
 | .binOp b T x y _ => match qh P b T (s.op x) (s.op y) with
   | true => none
   | false => match s.op x,s.op y with
     | some u,some v => some (do eqGuard b T x y (u.den s.vl) (v.den s.vl); binOp b T (u.den s.vl) (v.den s.vl))
     | _,_ => none
 | .call c => match c.callee,c.args.toList,c.argTypes.toList with
   | .builtin .len,[x],[T] => match s.op x with
     | some (.v (.a (.mp m))) => some (Builtin.len_ #[T] ty #[.map m])
     | _ => none
   | .builtin .real,[x],_ => match s.op x with
     | some v => some (Builtin.real_ c.argTypes ty #[v.den s.vl])
     | none => none
   | .builtin .imag,[x],_ => match s.op x with
     | some v => some (Builtin.imag_ c.argTypes ty #[v.den s.vl])
     | none => none
   | .builtin .complex,[x,y],_ => match s.op x,s.op y with
     | some u,some v => some (Builtin.complex_ c.argTypes ty #[u.den s.vl,v.den s.vl])
     | _,_ => none
   | _,_,_ => none
 | _ => none
theorem OT {s : S} {J : Env} {x : Option Operand} {v : Option Value} (h : fB s x = some v) : x.map (AD (s.e J)) = v := by
 cases x with
 | none => simp only [fB,Option.some.injEq] at h; subst h; rfl
 | some x =>
   simp only [fB] at h
   split at h
   · rename_i u hu
     cases h
     simp only [Option.map_some]
     rw [ev hu]
   · cases h
theorem fC {P : Program} {op : Op} {ty : TypeId} {s : S} {m : Sem Value} (h : anyM P op ty s = some m) (J : Env) : ∀ o : Oper,o.op = op → o.type = ty → execOp (AD (s.e J)) o = (do pure (Next.value (← m))) := fun o ho ht => by
 unfold anyM at h
 split at h
 · rename_i T x lo hi mx
   split at h
   · cases h
   · split at h
     · rename_i w l hh mm h1 h2 h3 h4
       cases h
       simp only [execOp,ho,OT h2,OT h3,OT h4,ev h1]
     · cases h
 · rename_i u T x
   split at h
   · cases h
   · split at h
     · cases h
     · rename_i hv
       cases h
       simp only [execOp,ho,ev hv]
     · cases h
   · rename_i hv
     cases h
     simp only [execOp,ho,ev hv]
   · cases h
 · rename_i b T x y T'
   split at h
   · cases h
   · split at h
     · rename_i u v hu hv
       cases h
       simp only [execOp,ho,ev hu,ev hv]
     · cases h
 · rename_i c
   obtain ⟨ce,AVM,ts⟩ := c
   split at h
   · rename_i x T h1 h2 h3
     simp only at h1 h2 h3
     have e1 : AVM = #[x] := by rw [← Array.toList_inj]; simpa using h2
     have e2 : ts = #[T] := by rw [← Array.toList_inj]; simpa using h3
     subst h1 e1 e2
     split at h
     · rename_i mm hx
       cases h
       exact ZW (by rw [ev hx]; rfl) o ho ht
     · cases h
   · rename_i x h1 h2
     simp only at h1 h2 h
     have e1 : AVM = #[x] := by rw [← Array.toList_inj]; simpa using h2
     subst h1 e1
     split at h
     · rename_i v hv
       cases h
       exact PC (ev hv) o ho ht
     · cases h
   · rename_i x h1 h2
     simp only at h1 h2 h
     have e1 : AVM = #[x] := by rw [← Array.toList_inj]; simpa using h2
     subst h1 e1
     split at h
     · rename_i v hv
       cases h
       exact PD (ev hv) o ho ht
     · cases h
   · rename_i x y h1 h2
     simp only at h1 h2 h
     have e1 : AVM = #[x,y] := by rw [← Array.toList_inj]; simpa using h2
     subst h1 e1
     split at h
     · rename_i u v hu hv
       cases h
       exact Jm (ev hu) (ev hv) o ho ht
     · cases h
   · cases h
 · cases h
def yH (P : Program) (ty : TypeId) (m : Sem Value) (s : S) (K : SV → S → Prop) : Prop := s.ex P ty fun v s => YF P m s.σ (v.den s.vl) ∧ K v s
theorem Qp {P : Program} {op : Op} {ty : TypeId} {s : S} {m : Sem Value} {K : SV → S → Prop} (hm : anyM P op ty s = some m) (h : yH P ty m s K) : ∃ v s',s.H3 s' ∧ (∀ J,Yd P (s.e J) s.b s.σ op ty (v.den s'.vl)) ∧ K v s' := by
 obtain ⟨v,s',h1,hy,hk⟩ := S.Qm h
 rw [h1.σ] at hy
 exact ⟨v,s',h1,fun J => Yd.any (fC hm J) hy,hk⟩
def Qq (ops : Array Oper) (gd : Option (Nat × Bool)) (s : S) (K : Bool → S → Prop) : Prop := match gd with
 | none => K true s
 | some (j,want) => match (ops[j]?).bind (·.dst) with
   | none => False
   | some d => match VO s.env d with
     | some (.v (.a .un)) => K false s
     | v => s.qd v fun t s => K (t == want) s
theorem Im {ops : Array Oper} {gd : Option (Nat × Bool)} {s : S} {K : Bool → S → Prop} (h : Qq ops gd s K) : ∃ b s',s.H3 s' ∧ (∀ J,AR ops (s.e J) gd = b) ∧ K b s' := by
 unfold Qq at h
 split at h
 · exact ⟨true,s,.refl s,fun _ => rfl,h⟩
 · rename_i j want
   split at h
   · cases h
   · rename_i d hd
     split at h
     · rename_i hv
       refine ⟨false,s,.refl s,fun J => ?_,h⟩
       have : s.e J d = undef := D7 hv
       simp only [AR,hd,this]
       rfl
     · obtain ⟨t,s',x,h1,h2,h3,h4,h⟩ := S.FC h
       refine ⟨_,s',h1,fun J => ?_,h⟩
       have : s.e J d = .bool t := (D7 h3).trans h4
       simp only [AR,hd,this]
       cases t <;> cases want <;> rfl
def cR (J : Env) (K : S → Prop) : Env → Bx → Hp → Prop := fun e bx σ => ∃ s,e = s.e J ∧ bx = s.b ∧ σ = s.σ ∧ K s
structure Cx extends Zs where
 n : Nat
 OU : List (Nat × TypeId) := []
structure Cx.Ok (c : Cx) (g : Gl) : Prop where
 P : c.P = g.P
 R : c.R = g.R
 E : AJ g.P c.M6
 n : c.n = g.n
 Gg : g.Gg = none
 ds : g.ds = []
def kp0 : KP := fun _ _ F => F
def Pv (l : List FA) (i : Nat) (o : Nat) (xs : List Bg) : List FA := match l with
 | [] => []
 | (j,t,cs) :: l => bif Nat.beq j i then (j,t,Zn cs o xs) :: l else (j,t,cs) :: Pv l i o xs
def Qr {α : Type} : List α → Nat
 | [] => 0
 | _ :: l => Qr l + 1
theorem QG {α : Type} : ∀ l : List α,Qr l = l.length
 | [] => rfl
 | _ :: l => by simp only [Qr,List.length_cons]; rw [QG l]
def OV : List Bg → List Value
 | [] => []
 | .raw v :: l => v :: OV l
 | .un :: l => undef :: OV l
 | _ :: l => OV l
def yI (F : Prop) : List Value → Prop
 | [] => F
 | [v] => (Value.oneCell' v = true) ∧ F
 | l => yJ l ∧ F
where
 yJ : List Value → Prop
   | [] => True
   | [v] => Value.oneCell' v = true
   | v :: l => Value.oneCell' v = true ∧ yJ l
def SV.Zv : SV → Option (List Bg)
 | .v (.a x) => some [x]
 | .v (.agg l) => some l
 | .UB _ => none
def mapOf (P : Program) (l : List (Nat × TypeId)) (x : Operand) : Option (TypeId × TypeId) := match x with
 | .tmp t => match l.find? fun p => Nat.beq p.1 t with
   | some p => match P.underlying p.2 with
     | some (.map k v) => some (k,v)
     | _ => none
   | none => none
 | _ => none
def jo (c : Cx) (dst : Option Nat) (x : Operand) (ty : TypeId) (s : S) (K : S → Prop) : Prop := match dst,s.op x,mapOf c.P c.OU x with
 | some d,some u,some (tk,tv) => AK c.P (Instr.next (u.den s.vl) false ty) s.σ (fun v σ1 => (v = (.tuple #[(.bool false)]) ∧ K ((s.hp σ1).put (some d) (.UB [.a (.bl false)]))) ∨
     (match s.ok with
       | true => pY c.P tk s.vl fun a vl => pY c.P tv vl fun b vl => v = (SV.UB [.a (.bl true),a,b]).den vl ∧ K (((s.hp σ1).w vl).put (some d) (.UB [.a (.bl true),a,b]))
       | false => False))
 | _,_,_ => False
def yK (c : Cx) (T : TypeId) (i o : Nat) (v : SV) (s : S) (K : S → Prop) : Prop := match v.Zv,Wr c.P T with
 | some l,some n => match W0 s.bx i with
   | some (t,cs) => match Nat.beq (Qr l) n && Nat.ble (o + Qr l) (Qr cs) with
     | true => yI (K ⟨s.env,Pv s.bx i o l,s.vl,s.σ⟩) (OV l)
     | false => False
   | none => False
 | _,_ => False
def jq (c : Cx) (ops : Array Oper) (i : Nat) (s : S) (K : S → Prop) : Prop := match ops[i]? with
 | none => False
 | some o => match G4 o.dst c.n with
   | false => False
   | true => Qq ops o.guard s fun b s => match b with
     | false => K (s.put o.dst (.at .un))
     | true => match o.op with
       | .load T x => ldV c.P T x s fun _ v s => K (s.put o.dst v)
       | .mapUpdate T m k v => match o.dst,s.op m,s.op k,s.op v with
         | none,some m,some k,some v => AK c.P (Instr.mapUpdate T (m.den s.vl) (k.den s.vl) (v.den s.vl)) s.σ (fun _ σ1 => K (s.hp σ1))
         | _,_,_,_ => False
       | .insert T m k v => match o.dst,s.op m,s.op k,s.op v with
         | none,some m,some k,some v => AK c.P (Instr.mapUpdate T (m.den s.vl) (k.den s.vl) (v.den s.vl)) s.σ (fun _ σ1 => K (s.hp σ1))
         | _,_,_,_ => False
       | .next x false => jo c o.dst x o.type s K
       | .entry x => match s.op x,mapOf c.P c.OU x with
         | some u,some (tk,tv) => AK c.P (Instr.entry (u.den s.vl)) s.σ (fun v σ1 => Gp (jj c.P tk tv) o.dst (s.hp σ1) s.σ v kp0 K)
         | _,_ => False
       | .panic x => match s.op x with
         | some (.v (.a (.raw (.iface T u)))) => c.R (.panicked [{ v := .iface T u,recovered := false }]) s.σ
         | _ => False
       | .store T x y => match o.dst,jc (s.op x),s.op y with
         | none,some (.bx i b),some v => yK c T i b v s K
         | _,_,_ => ey c.toZs o.dst (.store T x y) o.type s kp0 K
       | op => match jn c.P op,anyM c.P op o.type s with
         | true,_ => ey c.toZs o.dst op o.type s kp0 K
         | false,some m => yH c.P o.type m s fun v s => K (s.put o.dst v)
         | false,none => yv c.P c.wr op s fun v s => K (s.put o.dst v)
def qi (c : Cx) (ops : Array Oper) : List Nat → S → (S → Prop) → Prop
 | [],s,K => K s
 | i :: is,s,K => jq c ops i s fun s => qi c ops is s K
section
variable {g : Gl} {ops : Array Oper} {i : Nat} {J : Env} {s : S} {K : S → Prop} {c : Cx}
theorem cS {s s' : S} {K : Env → Bx → Hp → Prop} (h : s.H3 s') (hk : AN g ops i (s'.e J) s'.b s'.σ K) : AN g ops i (s.e J) s.b s.σ K := by
 rw [← h.e J,← h.b,← h.σ]; exact hk
theorem ACf {s : S} {o : Oper} {K : SV → S → Prop} {K' : Env → Bx → Hp → Prop} (ho : ops[i]? = some o) (hw : AR ops (s.e J) o.guard = true) (hd : G4 o.dst g.n = true) (h : YP g.P o.op o.type s K) (hk : ∀ v s',s.H3 s' → K v s' → K' ((s'.put o.dst v).e J) s'.b s'.σ) :
   AN g ops i (s.e J) s.b s.σ K' := by
 obtain ⟨v,s',h1,h2,h3⟩ := h
 have := hk v s' h1 h3
 rw [S.Hy,h1.e J,h1.b,h1.σ] at this
 exact AN.y (Cy ho) hw hd (h2 J _) this
theorem Yd.up {P : Program} {e : Env} {bx : Bx} {σ : Hp} {b : Nat} {op : Op} {ty : TypeId} {v : Value} (h : Yd P e bx (fun x => if x = b then σ x else none) op ty v) : Yd P e bx σ op ty v := fun o ho ht w hs hb => h o ho ht w (fun k u hk => by
 simp only at hk
 split at hk
 · exact hs k u hk
 · cases hk) hb
theorem AN.mono {e : Env} {bx : Bx} {σ : Hp} {K K' : Env → Bx → Hp → Prop} (h : AN g ops i e bx σ K) (hk : ∀ e bx σ,K e bx σ → K' e bx σ) : AN g ops i e bx σ K' := fun w0 F a w st => wpOpIn_mono (fun a' w' ⟨e',b',σ',Mq,h'⟩ => ⟨e',b',σ',Mq,hk _ _ _ h'⟩) (h w0 F a w st)
theorem ACg {dst : Option Nat} {op : Op} {ty : TypeId} {gd : Option (Nat × Bool)} (hc : c.Ok g) (hs : sig ops i = some (dst,op,ty,gd)) (hw : AR ops (s.e J) gd = true) (hd : G4 dst g.n = true) (h : ey c.toZs dst op ty s kp0 K) : AN g ops i (s.e J) s.b s.σ (cR J K) := by
 have := Qo (c := c.toZs) (kq := fun _ _ => True) (J := J) hc.P hc.R hc.E (fun _ _ F h => ⟨h,trivial⟩) (fun _ _ _ => trivial) hs hw hd h
 intro w0 F a w st
 refine wpOpIn_mono ?_ (this w0 F a w st)
 rintro a' w' ⟨e',F1,σ',Mq,s',rfl,rfl,rfl,_,_,hk⟩
 exact ⟨_,_,_,Mq,s',rfl,rfl,rfl,hk⟩
theorem W5 {dst : Option Nat} {x : Operand} {ty : TypeId} {gd : Option (Nat × Bool)} (hc : c.Ok g) (hs : sig ops i = some (dst,.next x false,ty,gd)) (hw : AR ops (s.e J) gd = true) (hd : G4 dst g.n = true) (h : jo c dst x ty s K) : AN g ops i (s.e J) s.b s.σ (cR J K) := by
 unfold jo at h
 split at h
 · rename_i d u tk tv hu hm
   rw [hc.P] at h
   refine AN.Qb hs hw hd (Instr.next (u.den s.vl) false ty) (fun o ho ht => by simp only [execOp,ho,ht]; rw [ev hu]) (h.mono fun v σ1 hr => ?_)
   rcases hr with ⟨rfl,hk⟩ | hr
   · exact ⟨_,(S.Hy (s := s.hp σ1) (x := .UB [.a (.bl false)])).symm,(S.Hz (s := s.hp σ1) (x := .UB [.a (.bl false)])).symm,(S.FB (s := s.hp σ1) (x := .UB [.a (.bl false)])).symm,hk⟩
   · split at hr
     · rename_i Ck
       obtain ⟨a,w1,h1,hr⟩ := D8 hr
       obtain ⟨b,w2,h2,hr⟩ := D8 hr
       obtain ⟨hv,hk⟩ := hr
       have PA := S.Qf (s := s.hp σ1) Ck (h1.trans h2).le
       refine ⟨_,?_,?_,?_,hk⟩
       · rw [S.Hy,PA.e J,hv]; rfl
       · rw [S.Hz,PA.b]; rfl
       · rw [S.FB]; rfl
     · cases hr
 · cases h
theorem W6 {vl : Vl} {i o : Nat} {l : List Bg} : ∀ {bx : List FA} {t : TypeId} {cs : List Bg},W0 bx i = some (t,cs) → ∃ j,(EM vl bx)[j]? = some (nth 0 vl.δ i,.cells (A9 vl cs).toArray t (0,0)) ∧ EM vl (Pv bx i o l) = (EM vl bx).set j (nth 0 vl.δ i,.cells (A9 vl (Zn cs o l)).toArray t (0,0))
 | (k,u,ds) :: r,t,cs,h => by
   simp only [W0] at h
   cases hk : Nat.beq k i with
   | true =>
     rw [hk] at h; simp only [cond_true,Option.some.injEq,Prod.mk.injEq] at h
     obtain ⟨rfl,rfl⟩ := h
     have := Nat.eq_of_beq_eq_true hk
     subst this
     exact ⟨0,rfl,by simp only [Pv,hk,cond_true,EM,List.set_cons_zero]⟩
   | false =>
     rw [hk] at h; simp only [cond_false] at h
     obtain ⟨j,h1,h2⟩ := W6 (vl := vl) (o := o) (l := l) h
     exact ⟨j + 1,by simpa only [EM,List.getElem?_cons_succ] using h1,by simp only [Pv,hk,cond_false,EM,List.set_cons_succ,h2]⟩
theorem Zw {F : Prop} {l : List Value} (h : yI F l) : F ∧ ∀ v ∈ l,Value.oneCell' v = true := by
 have cj : ∀ {l : List Value},yI.yJ l → ∀ v ∈ l,Value.oneCell' v = true := fun {l} => by
   induction l with
   | nil => intro _ v hv; cases hv
   | cons a l ih =>
     intro h v hv
     cases l with
     | nil => simp at hv; subst hv; exact h
     | cons b l =>
       rcases List.mem_cons.1 hv with rfl | hv
       · exact h.1
       · exact ih h.2 v hv
 match l,h with
 | [],h => exact ⟨h,fun v hv => by cases hv⟩
 | [v],h => exact ⟨h.2,fun u hu => by simp at hu; subst hu; exact h.1⟩
 | a :: b :: l,h => exact ⟨h.2,cj h.1⟩
theorem Qt {vl : Vl} : ∀ {l : List Bg},(∀ v ∈ OV l,Value.oneCell' v = true) → ∀ u ∈ A9 vl l,Value.oneCell' u = true
 | [],_,u,hu => by cases hu
 | x :: l,h,u,hu => by
   have tl : ∀ v ∈ OV l,Value.oneCell' v = true := fun v hv => h v (by cases x <;> first | exact hv | exact List.mem_cons_of_mem _ hv)
   rcases List.mem_cons.1 hu with rfl | hu
   · cases x <;> try rfl
     case bs i n => cases n <;> rfl
     case raw v => exact h v (List.mem_cons_self ..)
     case un => exact h undef (List.mem_cons_self ..)
   · exact Qt tl u hu
theorem Zx {vl : Vl} {v : SV} {l : List Bg} (h : v.Zv = some l) (ho : ∀ u ∈ A9 vl l,Value.oneCell' u = true) : (v.den vl).cells = (A9 vl l).toArray := by
 unfold SV.Zv at h
 split at h
 · rename_i x
   cases h
   have := ho (x.den vl) (List.mem_cons_self ..)
   simp only [SV.den,GU.den,A9]
   cases hx : x.den vl <;> first | rfl | (rw [hx] at this; cases this)
 · cases h; rfl
 · cases h
theorem Zy {T ty : TypeId} {x y : Operand} {gd : Option (Nat × Bool)} {k b : Nat} {v : SV} (hc : c.Ok g) (hs : sig ops i = some (none,.store T x y,ty,gd)) (hw : AR ops (s.e J) gd = true) (hx : jc (s.op x) = some (.bx k b)) (hy : s.op y = some v) (h : yK c T k b v s K) : AN g ops i (s.e J) s.b s.σ (cR J K) := by
 unfold yK at h
 split at h
 · rename_i l n hl hz
   split at h
   · rename_i t cs hg
     split at h
     · rename_i hd
       simp only [Bool.and_eq_true,QG] at hd
       obtain ⟨hk,ho⟩ := Zw h
       have pZ := Qt (vl := s.vl) ho
       have UR := Zx (vl := s.vl) hl pZ
       obtain ⟨u,e1,e2⟩ := EP hx
       obtain ⟨j,h1,h2⟩ := W6 (vl := s.vl) (o := b) (l := l) hg
       rw [hc.P] at hz
       refine AN.xQ (b := nth 0 s.vl.δ k) (o := b) (c := (A9 s.vl cs).toArray) (c' := (A9 s.vl (Zn cs b l)).toArray) (t := t) (j := j) hs hw (CP hz) (by rw [ev e1,e2]; rfl) (ev hy) h1 ?_ ?_ ?_ ?_ ?_
       · rw [UR]; simp [Cz]; exact Nat.eq_of_beq_eq_true hd.1
       · have := Nat.eq_of_beq_eq_true hd.1
         have h3 := Nat.le_of_ble_eq_true hd.2
         exact Nat.ble_eq_true_of_le (by simp [Cz]; omega)
       · rw [UR]; exact List.all_eq_true.2 fun u hu => pZ u (by simpa using hu)
       · rw [UR,Qj]
       · exact ⟨⟨s.env,Pv s.bx k b l,s.vl,s.σ⟩,rfl,h2.symm,rfl,hk⟩
     · cases h
   · cases h
 · cases h
theorem W7 (hc : c.Ok g) (h : jq c ops i s K) : AN g ops i (s.e J) s.b s.σ (cR J K) := by
 unfold jq at h
 split at h
 · cases h
 · rename_i o ho
   split at h
   · cases h
   · rename_i hd
     rw [hc.n] at hd
     obtain ⟨b,s1,h1,hw,h⟩ := Im h
     have hw := hw J
     rw [← h1.e J] at hw
     refine cS h1 ?_
     cases b with
     | false => exact AN.no (Cy ho) hw hd ⟨_,(S.Hy (x := .at .un)).symm,S.Hz.symm,S.FB.symm,h⟩
     | true =>
       simp only at h
       split at h
       · rename_i T x E2
         obtain ⟨m,v,s2,h2,hk,hy⟩ := UO (ty := o.type) h
         have hs := Cy ho
         rw [E2] at hs
         refine AN.y (v := v.den s2.vl) hs hw hd ?_ ⟨s2.put o.dst v,by rw [S.Hy,h2.e J],by rw [S.Hz,h2.b],by rw [S.FB,h2.σ],hk⟩
         have hy := hy J
         rw [hc.P] at hy
         cases m with
         | none => exact hy _
         | some b => exact Yd.up hy
       · rename_i T m k v E2
         split at h
         · rename_i um uk uv MQ hm hk hv
           have hs := Cy ho
           rw [E2,MQ] at hs
           rw [hc.P] at h
           exact AN.qR hs hw rfl _ (fun o ho ht => by simp only [execOp,ho]; rw [ev hm,ev hk,ev hv]) (h.mono fun _ σ1 hr => ⟨s1.hp σ1,rfl,rfl,rfl,hr⟩)
         · cases h
       · rename_i T m k v E2
         split at h
         · rename_i um uk uv MQ hm hk hv
           have hs := Cy ho
           rw [E2,MQ] at hs
           rw [hc.P] at h
           exact AN.qR hs hw rfl _ (fun o ho ht => by simp only [execOp,ho]; rw [ev hm,ev hk,ev hv]) (h.mono fun _ σ1 hr => ⟨s1.hp σ1,rfl,rfl,rfl,hr⟩)
         · cases h
       · have E2 := ‹o.op = Op.next _ false›
         have hs := Cy ho
         rw [E2] at hs
         exact W5 hc hs hw hd h
       · have E2 := ‹o.op = Op.entry _›
         have hs := Cy ho
         rw [E2] at hs
         split at h
         · rename_i u tk tv hu hm
           rw [hc.P] at h
           have := AN.Qb (K := yF J s1 (fun _ _ => True) K) hs hw hd (Instr.entry (u.den s1.vl)) (fun o ho ht => by simp only [execOp,ho]; rw [ev hu]) (h.mono fun v σ1 hr => Ae (kq := fun _ _ => True) ew (fun _ _ F h => ⟨h,trivial⟩) hr J)
           exact this.mono fun e bx σ ⟨s',e1,e2,e3,_,_,hk⟩ => ⟨s',e1,e2,e3,hk⟩
         · cases h
       · have E2 := ‹o.op = Op.panic _›
         split at h
         · rename_i T u hx
           have hs := Cy ho
           rw [E2] at hs
           rw [hc.R] at h
           exact AN.panic hs hw (by rw [ev hx]; rfl) hc.Gg hc.ds h
         · cases h
       · have E2 := ‹o.op = Op.store _ _ _›
         have hs := Cy ho
         rw [E2] at hs
         split at h
         · rename_i i' b v MQ hx hy
           rw [MQ] at hs
           exact Zy hc hs hw hx hy h
         · exact ACg hc hs hw hd h
       · split at h
         · exact ACg hc (Cy ho) hw hd h
         · rename_i m _ hm
           rw [hc.P] at h hm
           obtain ⟨v,s2,h2,hy,hk⟩ := Qp hm h
           exact AN.y (v := v.den s2.vl) (Cy ho) hw hd (hy J) ⟨s2.put o.dst v,by rw [S.Hy,h2.e J],by rw [S.Hz,h2.b],by rw [S.FB,h2.σ],hk⟩
         · rw [hc.P] at h
           exact ACf ho hw hd (W1 h) fun v s' JK hk => ⟨s'.put o.dst v,rfl,S.Hz.symm,S.FB.symm,hk⟩
theorem MV (hc : c.Ok g) : ∀ {is : List Nat} {s : S},qi c ops is s K → Seq g ops is (s.e J) s.b s.σ (cR J K)
 | [],s,h => ⟨s,rfl,rfl,rfl,h⟩
 | i :: is,s,h => (W7 hc h).mono fun e bx σ ⟨s',h1,h2,h3,h4⟩ => by subst h1 h2 h3; exact MV hc h4
theorem Qu {K K' : Env → Bx → Hp → Prop} (hk : ∀ e bx σ,K e bx σ → K' e bx σ) : ∀ {is : List Nat} {e : Env} {bx : Bx} {σ : Hp},Seq g ops is e bx σ K → Seq g ops is e bx σ K'
 | [],_,_,_,h => hk _ _ _ h
 | i :: is,e,bx,σ,h => AN.mono h fun _ _ _ h => Qu hk h
theorem Io {K K' : Env → Bx → Hp → Prop} (hk : ∀ e bx σ,K e bx σ → K' e bx σ) : ∀ {p : Ord} {q : IZ} {e : Env} {bx : Bx} {σ : Hp},Jj g ops p q e bx σ K → Jj g ops p q e bx σ K'
 | .done,_,_,_,_,h => hk _ _ _ h
 | .yes i r,q,e,bx,σ,⟨own,o,v,h1,h2,h3,h4,h5⟩ => ⟨own,o,v,h1,h2,h3,h4,Io hk h5⟩
 | .alt i r t,q,e,bx,σ,⟨h1,h2⟩ => ⟨AN.mono h1 fun _ _ _ ⟨h3,h4⟩ => ⟨h3,Io hk h4⟩,Io hk h2⟩
 | .no,_,_,_,_,_ => trivial
def Qv : Ord → List Nat
 | .done => []
 | .yes _ r => Qv r
 | .alt i r _ => i :: Qv r
 | .no => []
def ACh (ops : Array Oper) (i : Nat) : Nat → Nat → Option (List Nat)
 | 0,_ => none
 | f + 1,t => match Hu ops t i with
   | true => some [t]
   | false => (List.range t).findSome? fun u => match Nat.blt i u && Hu ops t u with
     | true => match ACh ops i f u with
       | some p => some (t :: p)
       | none => none
     | false => none
def waits (ops : Array Oper) (i : Nat) : List Nat → List (List Nat)
 | [] => []
 | t :: l => match ACh ops i 40 t with
   | some p => p :: waits ops i l
   | none => waits ops i l
def uZ (L : IZ) : KP := fun σ0 σ1 F => match L with
 | none => Ext σ0 σ1 ∧ F
 | some [] => F
 | some (x :: l) => Kp ((x :: l).map Prod.fst) σ0 σ1 ∧ F
def FU (c : Cx) (ops : Array Oper) : Ord → IZ → S → (S → Prop) → Prop
 | .done,_,s,K => K s
 | .yes i r,L,s,K => match ops[i]? with
   | none => False
   | some o => match G4 o.dst c.n && L.ok i with
     | false => False
     | true => Qq ops o.guard s fun b s => match b with
       | false => FU c ops r L (s.put o.dst (.at .un)) K
       | true => match o.op with
         | .load T x => ldV c.P T x s fun m v s => match m,L with
           | none,_ => FU c ops r L (s.put o.dst v) K
           | some _,none => FU c ops r L (s.put o.dst v) K
           | some b,some l => match (MN (some l) (some (b,waits ops i (Qv r)))).ok i && Qa ops i (some (b,waits ops i (Qv r))) with
             | true => FU c ops r (MN (some l) (some (b,waits ops i (Qv r)))) (s.put o.dst v) K
             | false => False
         | op => match jn c.P op,anyM c.P op o.type s,L with
           | true,_,_ => False
           | false,some m,none => yH c.P o.type m s fun v s => FU c ops r none (s.put o.dst v) K
           | false,some _,some _ => False
           | false,none,L => yv c.P c.wr op s fun v s => FU c ops r L (s.put o.dst v) K
 | .alt i r t,L,s,K =>
   match t with
   | .no => W8 c ops i L s fun s => FU c ops r (FR L i) s K
   | t => (W8 c ops i L s fun s => FU c ops r (FR L i) s K) ∧ FU c ops t L s K
 | .no,_,_,_ => True
where
 W8 (c : Cx) (ops : Array Oper) (i : Nat) (L : IZ) (s : S) (K : S → Prop) : Prop := match ops[i]? with
   | none => False
   | some o => match G4 o.dst c.n with
     | false => False
     | true => Qq ops o.guard s fun b s => match b with
       | false => K (s.put o.dst (.at .un))
       | true => ey c.toZs o.dst o.op o.type s (uZ (FR L i)) K
def kqL (q : IZ) (σ σ' : Hp) : Prop := match q with
 | none => ∀ b o,σ b = some o → σ' b = some o
 | some L => ∀ x ∈ L,∀ o,σ x.1 = some o → σ' x.1 = some o
theorem yL {q : IZ} {bx F1 : Bx} {σ σ' : Hp} (h : kqL q σ σ') (hb : ∀ p ∈ bx,p ∈ F1) : Jf q bx σ F1 σ' := ⟨hb,h⟩
theorem fD {L : IZ} {σ0 σ1 : Hp} {F : Prop} (h : uZ L σ0 σ1 F) : F ∧ kqL L σ0 σ1 := by
 unfold uZ at h
 split at h
 · exact ⟨h.2,h.1⟩
 · exact ⟨h,fun x hx => by cases hx⟩
 · exact ⟨h.2,fun y hy o ho => h.1 y.1 (List.mem_map.2 ⟨y,hy,rfl⟩) o ho⟩
theorem qj {L : IZ} {σ0 σ1 : Hp} (h : Ext σ0 σ1) : kqL L σ0 σ1 := by
 cases L with
 | none => exact h
 | some l => exact fun x _ o ho => h _ _ ho
theorem W9 {L : IZ} (hc : c.Ok g) (h : FU.W8 c ops i L s K) : AN g ops i (s.e J) s.b s.σ fun e' F1 σ' => Jf (FR L i) s.b s.σ F1 σ' ∧ cR J K e' F1 σ' := by
 unfold FU.W8 at h
 split at h
 · cases h
 · rename_i o ho
   split at h
   · cases h
   · rename_i hd
     rw [hc.n] at hd
     obtain ⟨b,s1,h1,hw,h⟩ := Im h
     have hw := hw J
     rw [← h1.e J] at hw
     have key : AN g ops i (s1.e J) s1.b s1.σ fun e' F1 σ' => Jf (FR L i) s1.b s1.σ F1 σ' ∧ cR J K e' F1 σ' := by
       cases b with
       | false => exact AN.no (Cy ho) hw hd ⟨Jf.refl _ _ _,_,(S.Hy (x := .at .un)).symm,S.Hz.symm,S.FB.symm,h⟩
       | true =>
         have := Qo (c := c.toZs) (kq := kqL (FR L i)) (J := J) hc.P hc.R hc.E (fun _ _ F h => fD h) (fun _ _ h => qj h) (Cy ho) hw hd h
         exact this.mono fun e' F1 σ' ⟨s',e1,e2,e3,hq,hb,hk⟩ => ⟨yL hq hb,s',e1,e2,e3,hk⟩
     have := cS (K := fun e' F1 σ' => Jf (FR L i) s1.b s1.σ F1 σ' ∧ cR J K e' F1 σ') h1 key
     rw [h1.b,h1.σ] at this
     exact this
theorem C0 (hc : c.Ok g) : ∀ {p : Ord} {q : IZ} {s : S},FU c ops p q s K → Jj g ops p q (s.e J) s.b s.σ (cR J K)
 | .done,q,s,h => ⟨s,rfl,rfl,rfl,h⟩
 | .yes i r,q,s,h => by
   simp only [FU] at h
   split at h
   · cases h
   · rename_i o ho
     split at h
     · cases h
     · rename_i hd
       simp only [Bool.and_eq_true] at hd
       obtain ⟨hd,hq⟩ := hd
       rw [hc.n] at hd
       obtain ⟨b,s1,h1,hw,h⟩ := Im h
       have hw := hw J
       rw [← h1.e J] at hw
       rw [← h1.e J,← h1.b,← h1.σ]
       have go : ∀ {v : SV} {s2 : S} {own : Option (Nat × List (List Nat))},s1.H3 s2 → ((MN q own).ok i && Qa ops i own) = true → Yd g.P (s1.e J) s1.b (OI q own s1.σ) o.op o.type (v.den s2.vl) → AR ops (s1.e J) o.guard = true → FU c ops r (MN q own) (s2.put o.dst v) K → Jj g ops (.yes i r) q (s1.e J) s1.b s1.σ (cR J K) := fun {v s2 own} h2 Ck hy hw hk => by
         have := C0 hc hk
         rw [S.Hy,S.Hz,S.FB,h2.e J,h2.b,h2.σ] at this
         exact ⟨own,o,v.den s2.vl,Ck,ho,.inl ⟨hw,hy⟩,G4.lt hd,this⟩
       cases b with
       | false =>
         have := C0 hc h
         rw [S.Hy,S.Hz,S.FB] at this
         exact ⟨none,o,undef,ok_none hq,ho,.inr ⟨hw,rfl⟩,G4.lt hd,by rw [E8]; exact this⟩
       | true =>
         simp only at h
         split at h
         · rename_i T x E2
           obtain ⟨m,v,s2,h2,hk,hy⟩ := UO (ty := o.type) h
           have hy := hy J
           rw [hc.P,← E2] at hy
           split at hk
           · exact go (own := none) h2 (ok_none hq) (hy _) hw (by rw [E8]; exact hk)
           · exact go (own := none) h2 (ok_none hq) (Yd.up hy) hw (by rw [E8]; exact hk)
           · rename_i b l
             split at hk
             · rename_i Ck
               exact go h2 Ck hy hw hk
             · cases hk
         · split at h
           · cases h
           · have hm := ‹anyM c.P o.op o.type s1 = some _›
             rw [hc.P] at h hm
             obtain ⟨v,s2,h2,hy,hk⟩ := Qp hm h
             exact go (own := none) h2 (ok_none hq) (hy J) hw hk
           · cases h
           · rw [hc.P] at h
             obtain ⟨v,s2,h2,hy,hk⟩ := W1 (ty := o.type) h
             exact go (own := none) h2 (ok_none hq) (hy J _) hw (by rw [E8]; exact hk)
 | .alt i r t,q,s,h => by
   have key : ∀ {t : Ord},(FU.W8 c ops i q s fun s => FU c ops r (FR q i) s K) → Jj g ops t q (s.e J) s.b s.σ (cR J K) → Jj g ops (.alt i r t) q (s.e J) s.b s.σ (cR J K) := fun {t} h1 h2 =>
     ⟨(W9 hc h1).mono fun e bx σ ⟨hk,s',e1,e2,e3,h3⟩ => ⟨hk,by subst e1 e2 e3; exact C0 hc h3⟩,h2⟩
   cases t with
   | no => exact key h trivial
   | done => exact key h.1 (C0 hc h.2)
   | yes j u => exact key h.1 (C0 hc h.2)
   | alt j u w => exact key h.1 (C0 hc h.2)
 | .no,q,s,h => trivial
def cU (P : Program) (ops : Array Oper) (m : Nat) : Nat → Array Bool → Ord
 | 0,_ => .no
 | f + 1,listed => match (List.range m).all fun i => listed.getD i false with
   | true => .done
   | false => match (Region.ready .any ops listed).find? fun j => Nat.blt j m && match ops[j]? with | some o => !jn P o.op | none => false with
     | some j => .yes j (cU P ops m f (listed.setIfInBounds j true))
     | none => (Region.ready .any ops listed).foldr (fun j acc => .alt j (cU P ops m f (listed.setIfInBounds j true)) acc) .no
def yM (c : Cx) (ops : Array Oper) (draw : Bool) (m : Nat) (q : IZ) (s : S) (K : S → Prop) : Prop := match draw with
 | false => qi c ops (List.range ops.size) s K
 | true => match VM ops m (cU c.P ops m (ops.size + 1) (Array.replicate ops.size false)) (List.range' m (ops.size - m)) with
   | true => FU c ops (cU c.P ops m (ops.size + 1) (Array.replicate ops.size false)) q s fun s => qi c ops (List.range' m (ops.size - m)) s K
   | false => False
theorem Zz {k : List Item} {id m : Nat} {draw : Bool} {q : IZ} (hc : c.Ok g) (hm : g.P.follows .mixedOrders = true) (h : yM c ops draw m q s K) (hk : ∀ s,K s → At g k (s.e J) s.b s.σ) : At g (.code (.region id ops draw) :: k) (s.e J) s.b s.σ := by
 have fin : ∀ e bx σ,cR J K e bx σ → At g k e bx σ := fun e bx σ ⟨s',e1,e2,e3,h⟩ => by subst e1 e2 e3; exact hk s' h
 cases draw with
 | false =>
   refine At.region rfl rfl ?_
   have : Seq g ops (List.range ops.size) (s.e J) s.b s.σ (cR J K) := MV hc h
   exact Qu fin this
 | true =>
   simp only [yM] at h
   split at h
   · rename_i hp
     refine At.ACb hm rfl hp (q := q) ?_
     have := C0 (J := J) hc h
     refine Io (fun e bx σ ⟨s',e1,e2,e3,h⟩ => ?_) this
     subst e1 e2 e3
     exact Qu fin (MV hc h)
   · cases h
end
end Tw
end
section
namespace Tw
open Go
variable [Er]
def node (body : Code) : List Bool → Code
 | [] => body
 | false :: p => cl (node body p)
 | true :: p => cr (node body p)
inductive It where
 | c (p : List Bool)
 | Qg (i : Nat)
 | lp (p : List Bool)
 | sc (p : List Bool)
def It.den (body : Code) : It → Item
 | .c p => .code (node body p)
 | .Qg i => .inBlock i
 | .lp p => .inLoop (node body p)
 | .sc p => .inScope (node body p)
def C1 (body : Code) : List It → List Item
 | [] => []
 | x :: l => x.den body :: C1 body l
def OW : List Bool → List Bool → Bool
 | [],[] => true
 | a :: p,b :: q => (bif a then b else !b) && OW p q
 | _,_ => false
theorem US : ∀ {p q : List Bool},OW p q = true → p = q
 | [],[],_ => rfl
 | a :: p,b :: q,h => by
   simp only [OW,Bool.and_eq_true] at h
   rw [US h.2]
   cases a <;> cases b <;> simp at h <;> rfl
 | [],_ :: _,h => by cases h
 | _ :: _,[],h => by cases h
def It.eq : It → It → Bool
 | .c p,.c q => OW p q
 | .Qg i,.Qg j => Nat.beq i j
 | .lp p,.lp q => OW p q
 | .sc p,.sc q => OW p q
 | _,_ => false
def cV : List It → List It → Bool
 | [],[] => true
 | x :: l,y :: m => x.eq y && cV l m
 | _,_ => false
theorem XA : ∀ {l m : List It},cV l m = true → l = m
 | [],[],_ => rfl
 | x :: l,y :: m,h => by
   simp only [cV,Bool.and_eq_true] at h
   rw [XA h.2]
   have : x = y := by
     cases x <;> cases y <;> simp only [It.eq] at h <;> first
       | (rw [US h.1])
       | (rw [Nat.eq_of_beq_eq_true h.1])
       | (exact absurd h.1 (by simp))
   rw [this]
 | [],_ :: _,h => by cases h
 | _ :: _,[],h => by cases h
structure Cut where
 todo : List It
 f : S → Prop
def Cut.Ok (g : Gl) (body : Code) (k : Cut) : Prop := ∀ s J,k.f s → At g (C1 body k.todo) (s.e J) s.b s.σ
def qk : List Cut → List It → Option (S → Prop)
 | [],_ => none
 | k :: l,t => match cV k.todo t with
   | true => some k.f
   | false => qk l t
theorem cW {g : Gl} {body : Code} : ∀ {l : List Cut} {t : List It} {f : S → Prop},(∀ k ∈ l,k.Ok g body) → qk l t = some f → ∀ s J,f s → At g (C1 body t) (s.e J) s.b s.σ
 | k :: l,t,f,hl,h => by
   simp only [qk] at h
   split at h
   · rename_i he
     cases h
     rw [← XA he]
     exact hl k (List.mem_cons_self ..)
   · exact cW (fun k hk => hl k (List.mem_cons_of_mem _ hk)) h
def PE (i : Nat) : List It → Option (List It)
 | [] => none
 | .Qg j :: r => match Nat.beq i j with
   | true => some r
   | false => PE i r
 | _ :: r => PE i r
def VV (l : Nat) : Code → List Bool → Option (List It)
 | .seq a b,p => match VV l a (false :: p) with
   | some r => some (r ++ [.c (true :: p)])
   | none => VV l b (true :: p)
 | .label j,_ => match Nat.beq j l with
   | true => some []
   | false => none
 | _,_ => none
def PF (body : Code) (l : Nat) : List It → Option (List It)
 | [] => none
 | .sc p :: r => match VV l (node body p) p with
   | some m => some (m ++ (.sc p :: r))
   | none => PF body l r
 | _ :: r => PF body l r
structure Fx extends Cx where
 body : Code
 res : List ResultVar
 reg : List (Nat × Nat × Bool)
def jr : List (Nat × Nat × Bool) → Nat → Nat → Nat × IZ
 | [],_,m => (m,some [])
 | (i,m,b) :: l,id,z => match Nat.beq i id with
   | true => (m,bif b then none else some [])
   | false => jr l id z
def Z0 (c : Fx) (s : S) : List ResultVar → Option (List SV)
 | [] => some []
 | .tmp t :: r => match VO s.env t,Z0 c s r with
   | some v,some l => some (v :: l)
   | _,_ => none
 | .cell p T :: r => match jc (VO s.env p),Z0 c s r with
   | some (.bx i 0),some l => match W0 s.bx i,Ws c.P T with
     | some (_,cs),some true => match Wr c.P T with
       | some n => match decide (cs.length = n) with
         | true => some (.v (.agg cs) :: l)
         | false => none
       | none => none
     | some (_,x :: _),some false => some (.at x :: l)
     | _,_ => none
   | _,_ => none
def VJ (c : Fx) (s : S) : Prop := match Z0 c s c.res with
 | some l => c.R (.returned (Qc (CK s.vl l))) s.σ
 | none => False
def C2 (c : Fx) (cuts : List Cut) : Nat → Bool → List It → S → Prop
 | 0,_,_,_ => False
 | f + 1,first,todo,s => match (bif first then none else qk cuts todo) with
   | some k => k s
   | none => match todo with
     | [] => VJ c s
     | .Qg _ :: r => C2 c cuts f false r s
     | .lp p :: r => C2 c cuts f false (.c p :: .lp p :: r) s
     | .sc _ :: r => C2 c cuts f false r s
     | .c p :: r => match node c.body p with
       | .skip => C2 c cuts f false r s
       | .seq _ _ => C2 c cuts f false (.c (false :: p) :: .c (true :: p) :: r) s
       | .block i _ => C2 c cuts f false (.c (false :: p) :: .Qg i :: r) s
       | .loop _ => C2 c cuts f false (.c (false :: p) :: .lp (false :: p) :: r) s
       | .exit i => match PE i r with
         | some r => C2 c cuts f false r s
         | none => False
       | .scope _ => C2 c cuts f false (.c (false :: p) :: .sc (false :: p) :: r) s
       | .label _ => C2 c cuts f false r s
       | .goto l => match PF c.body l r with
         | some r => C2 c cuts f false r s
         | none => False
       | .cond x _ _ => s.qd (s.op x) fun t s => C2 c cuts f false (.c ((!t) :: p) :: r) s
       | .ret => VJ c s
       | .region id ops draw => yM c.toCx ops draw (jr c.reg id ops.size).1 (jr c.reg id ops.size).2 s fun s => C2 c cuts f false r s
       | _ => False
structure Fx.Ok (c : Fx) (g : Gl) (fn : Func) : Prop where
 cx : c.toCx.Ok g
 mixed : g.P.follows .mixedOrders = true
 fnc : g.P.funcs[g.f]? = some fn
 res : fn.results = c.res.toArray
 Gg : g.Gg = none
 ds : g.ds = []
section
variable {g : Gl} {c : Fx} {fn : Func} {cuts : List Cut} {J : Env}
theorem Gq (hP : c.P = g.P) {s : S} : ∀ {rs : List ResultVar} {l : List SV},Z0 c s rs = some l → HH g.P (s.e J) s.b s.σ rs (CK s.vl l)
 | [],l,h => by simp only [Z0,Option.some.injEq] at h; subst h; rfl
 | .tmp t :: r,l,h => by
   simp only [Z0] at h
   split at h
   · rename_i v l' h1 h2
     cases h
     refine ⟨_,?_,Gq hP h2⟩
     rw [show s.e J t = v.den s.vl from D7 h1]; rfl
   · cases h
 | .cell p T :: r,l,h => by
   simp only [Z0] at h
   split at h
   · rename_i i l' h1 h2
     obtain ⟨u,e1,e2⟩ := EP h1
     have hp : s.e J p = .pointer (some ⟨nth 0 s.vl.δ i,0,none⟩) := (D7 e1).trans (e2 _)
     split at h
     · rename_i t cs hb ha
       split at h
       · rename_i n hn
         split at h
         · rename_i hd
           have hd := of_decide_eq_true hd
           cases h
           rw [hP] at ha hn
           exact ⟨_,_,rfl,⟨_,hp,jL (EO ha) (CP hn) (by simp [Cz]; exact hd) (Jk hb)⟩,Gq hP h2⟩
         · cases h
       · cases h
     · rename_i t x cs hb ha
       cases h
       rw [hP] at ha
       exact ⟨_,_,rfl,⟨_,hp,qS (EO ha) (Jk hb) rfl⟩,Gq hP h2⟩
     · cases h
   · cases h
theorem H5 {body : Code} {i : Nat} : ∀ {r r' : List It},PE i r = some r' → exitTo i (C1 body r) = some (C1 body r')
 | .Qg j :: r,r',h => by
   simp only [PE] at h
   split at h
   · rename_i he
     cases h
     have := Nat.eq_of_beq_eq_true he
     subst this
     simp [C1,It.den,exitTo]
   · rename_i he
     have BD : i ≠ j := fun e => by subst e; rw [Nat.beq_refl] at he; cases he
     simp only [C1,It.den,exitTo]
     rw [if_neg (by simpa using Ne.symm BD)]
     exact H5 h
 | .c p :: r,r',h => by simp only [PE] at h; simp only [C1,It.den,exitTo]; exact H5 h
 | .lp p :: r,r',h => by simp only [PE] at h; simp only [C1,It.den,exitTo]; exact H5 h
 | .sc p :: r,r',h => by simp only [PE] at h; simp only [C1,It.den,exitTo]; exact H5 h
theorem Qw {body : Code} : ∀ {l m : List It},C1 body (l ++ m) = C1 body l ++ C1 body m
 | [],_ => rfl
 | x :: l,m => by simp only [List.cons_append,C1,Qw]
theorem LG {l : Nat} : ∀ {x : Code} {p : List Bool},VV l x p = none → findLabel x l = none
 | .seq a b,p,h => by
   simp only [VV] at h
   split at h
   · cases h
   · rename_i h1
     simp only [findLabel,LG h1,LG h]
 | .label j,p,h => by
   simp only [VV] at h
   split at h
   · cases h
   · rename_i h1
     have : j ≠ l := fun e => by subst e; rw [Nat.beq_refl] at h1; cases h1
     simp [findLabel,this]
 | .skip,p,h => rfl
 | .region ..,p,h => rfl
 | .cond ..,p,h => rfl
 | .block ..,p,h => rfl
 | .loop ..,p,h => rfl
 | .rangeFunc ..,p,h => rfl
 | .exit ..,p,h => rfl
 | .scope ..,p,h => rfl
 | .goto ..,p,h => rfl
 | .ret,p,h => rfl
 | .refuse ..,p,h => rfl
theorem Qy {l : Nat} {body : Code} : ∀ {x : Code} {p : List Bool} {m : List It},node body p = x → VV l x p = some m → ∃ rest,findLabel x l = some rest ∧ ∀ {k : List Item} {e : Env} {bx : Bx} {σ : Hp},At g (C1 body m ++ k) e bx σ → At g (.code rest :: k) e bx σ
 | .seq a b,p,m,hx,h => by
   simp only [VV] at h
   split at h
   · rename_i r h1
     cases h
     obtain ⟨rest,e1,e2⟩ := Qy (body := body) (x := a) (p := false :: p) (by simp only [node,hx,cl]) h1
     refine ⟨.seq rest b,by simp only [findLabel,e1],fun h => At.seq rfl (e2 ?_)⟩
     rw [Qw,List.append_assoc] at h
     simp only [C1,It.den,node,hx,cr,List.cons_append,List.nil_append] at h
     exact h
   · rename_i h1
     obtain ⟨rest,e1,e2⟩ := Qy (body := body) (x := b) (p := true :: p) (by simp only [node,hx,cr]) h
     exact ⟨rest,by simp only [findLabel,LG h1,e1],e2⟩
 | .label j,p,m,hx,h => by
   simp only [VV] at h
   split at h
   · rename_i h1
     cases h
     have := Nat.eq_of_beq_eq_true h1
     subst this
     exact ⟨.skip,by simp [findLabel],fun h => At.skip h⟩
   · cases h
theorem H6 {l : Nat} {body : Code} : ∀ {r r' : List It},PF body l r = some r' → ∃ k',gotoIn l (C1 body r) = some k' ∧ ∀ {e : Env} {bx : Bx} {σ : Hp},At g (C1 body r') e bx σ → At g k' e bx σ
 | .sc p :: r,r',h => by
   simp only [PF] at h
   split at h
   · rename_i m h1
     cases h
     obtain ⟨rest,e1,e2⟩ := Qy (g := g) rfl h1
     refine ⟨.code rest :: .inScope (node body p) :: C1 body r,by simp only [C1,It.den,gotoIn,e1],fun h => e2 ?_⟩
     rw [Qw] at h
     exact h
   · rename_i h1
     obtain ⟨k',e1,e2⟩ := H6 h
     exact ⟨k',by simp only [C1,It.den,gotoIn,LG h1,e1],e2⟩
 | .c p :: r,r',h => by simp only [PF] at h; simp only [C1,It.den,gotoIn]; exact H6 h
 | .lp p :: r,r',h => by simp only [PF] at h; simp only [C1,It.den,gotoIn]; exact H6 h
 | .Qg p :: r,r',h => by simp only [PF] at h; simp only [C1,It.den,gotoIn]; exact H6 h
theorem Aw (hc : c.Ok g fn) (hk : ∀ k ∈ cuts,k.Ok g c.body) : ∀ {f : Nat} {first : Bool} {todo : List It} {s : S},C2 c cuts f first todo s → At g (C1 c.body todo) (s.e J) s.b s.σ
 | 0,_,_,_,h => h.elim
 | f + 1,first,todo,s,h => by
   have hl : ∀ σ,left g.ds σ = σ := fun σ => by rw [hc.ds]; rfl
   have pa : Marks g.ds s.σ := by rw [hc.ds]; trivial
   simp only [C2] at h
   split at h
   · rename_i k ACk
     cases first with
     | true => cases ACk
     | false => exact cW hk ACk s J h
   · split at h
     · unfold VJ at h
       split at h
       · rename_i l fE
         rw [hc.cx.R] at h
         exact At.ACP hc.fnc hc.res (by rw [hl]; exact Gq hc.cx.P fE) (by rw [hl]; exact h) hc.Gg pa
       · cases h
     · exact At.inBlock (Aw hc hk h)
     · exact At.inLoop (Aw hc hk h)
     · exact At.inScope (Aw hc hk h)
     · rename_i p r _
       have e : C1 c.body (.c p :: r) = .code (node c.body p) :: C1 c.body r := rfl
       rw [e]
       split at h
       · rename_i hn; rw [hn]; exact At.skip (Aw hc hk h)
       · rename_i a b hn
         refine At.seq hn ?_
         have := Aw hc hk h
         simp only [C1,It.den,node,hn,cl,cr] at this
         exact this
       · rename_i i a hn
         refine At.block hn ?_
         have := Aw hc hk h
         simp only [C1,It.den,node,hn,cl] at this
         exact this
       · rename_i a hn
         refine At.loop hn ?_
         have := Aw hc hk h
         simp only [C1,It.den,node,hn,cl] at this
         exact this
       · rename_i i hn
         split at h
         · rename_i r' hr
           exact At.exit hn (H5 hr) (Aw hc hk h)
         · cases h
       · rename_i a hn
         refine At.scope hn ?_
         have := Aw hc hk h
         simp only [C1,It.den,node,hn,cl] at this
         exact this
       · rename_i l hn; rw [hn]; exact At.label (Aw hc hk h)
       · rename_i l hn
         split at h
         · rename_i r' hr
           obtain ⟨k',e1,e2⟩ := H6 (g := g) hr
           exact At.goto hn e1 (e2 (Aw hc hk h))
         · cases h
       · rename_i x a b hn
         obtain ⟨t,s',v,h1,h2,h3,h4,h⟩ := S.FC h
         have hx : AD (s.e J) x = .bool t := by rw [ev h3,h4]
         have := Aw hc hk h
         rw [h1.e J,h1.b,h1.σ] at this
         cases t with
         | true =>
           refine At.uN hn hx ?_
           simp only [C1,It.den,node,hn,cl,Bool.not_true] at this
           exact this
         | false =>
           refine At.uO hn hx ?_
           simp only [C1,It.den,node,hn,cr,Bool.not_false] at this
           exact this
       · rename_i hn
         unfold VJ at h
         split at h
         · rename_i l fE
           rw [hc.cx.R] at h
           exact At.VJ hn hc.fnc hc.res (by rw [hl]; exact Gq hc.cx.P fE) (by rw [hl]; exact h) hc.Gg pa
         · cases h
       · rename_i id ops draw hn
         rw [hn]
         exact Zz hc.cx hc.mixed h fun s' h' => Aw hc hk h'
       · cases h
end
def S.fF (s : S) : List Nat → Option (List Value)
 | [] => some []
 | t :: l => match VO s.env t,s.fF l with
   | some v,some r => some (v.den s.vl :: r)
   | _,_ => none
theorem UT {s : S} {J : Env} : ∀ {l : List Nat} {vs : List Value},s.fF l = some vs → Live (s.e J) (l.zip vs)
 | [],vs,h => by simp only [S.fF,Option.some.injEq] at h; subst h; trivial
 | t :: l,vs,h => by
   simp only [S.fF] at h
   split at h
   · rename_i v r h1 h2
     cases h
     exact ⟨D7 h1,UT h2⟩
   · cases h
def cX (i : Nat) : List FA → Option (FA × List FA)
 | [] => none
 | x :: l => match Nat.beq x.1 i with
   | true => some (x,l)
   | false => cX i l
def ua : Option SV → Option Nat
 | some (.v (.a (.pt (.bx i 0)))) => some i
 | _ => none
def S.VW (s : S) : List Nat → List FA → Option (List FA)
 | [],_ => some []
 | t :: l,bx => match ua (VO s.env t) with
   | some i => match cX i bx with
     | some (x,r) => match s.VW l r with
       | some m => some (x :: m)
       | none => none
     | none => none
   | none => none
def Qz (vl : Vl) : List Nat → List FA → List (Nat × Value)
 | t :: l,x :: r => (t,.pointer (some ⟨nth 0 vl.δ x.1,0,none⟩)) :: Qz vl l r
 | _,_ => []
theorem UU {vl : Vl} {i : Nat} : ∀ {l r : List FA} {x : FA},cX i l = some (x,r) → x.1 = i ∧ ∀ m : List FA,(EM vl m).Sublist (EM vl r) → (EM vl (x :: m)).Sublist (EM vl l)
 | y :: l,r,x,h => by
   simp only [cX] at h
   split at h
   · rename_i he
     cases h
     exact ⟨Nat.eq_of_beq_eq_true he,fun m hm => List.Sublist.cons_cons _ hm⟩
   · obtain ⟨h1,h2⟩ := UU (vl := vl) h
     exact ⟨h1,fun m hm => List.Sublist.cons _ (h2 m hm)⟩
theorem XB {s : S} {J : Env} : ∀ {l : List Nat} {bx B : List FA},s.VW l bx = some B → (EM s.vl B).Sublist (EM s.vl bx) ∧ Live (s.e J) (Qz s.vl l B)
 | [],bx,B,h => by simp only [S.VW,Option.some.injEq] at h; subst h; exact ⟨List.nil_sublist _,trivial⟩
 | t :: l,bx,B,h => by
   simp only [S.VW] at h
   split at h
   · rename_i i hi
     split at h
     · rename_i x r hx
       split at h
       · rename_i m hm
         cases h
         obtain ⟨h1,h2⟩ := UU (vl := s.vl) hx
         obtain ⟨h3,h4⟩ := XB (s := s) (J := J) hm
         refine ⟨h2 m h3,?_,h4⟩
         unfold ua at hi
         split at hi
         · rename_i hg
           cases hi
           rw [h1]
           exact D7 hg
         · cases hi
       · cases h
     · cases h
   · cases h
theorem Live.app {e : Env} : ∀ {l m : List (Nat × Value)},Live e l → Live e m → Live e (l ++ m)
 | [],_,_,h => h
 | (_,_) :: _,_,h,g => ⟨h.1,Live.app h.2 g⟩
theorem At.ACl {g : Gl} {k : List Item} {s : S} {J : Env} {l bl : List Nat} {vs : List Value} {B : List FA} (h : s.fF l = some vs) (hb : s.VW bl s.bx = some B) (hk : ∀ J,At g k (Je J (Qz s.vl bl B ++ l.zip vs)) (EM s.vl B) s.σ) : At g k (s.e J) s.b s.σ := by
 obtain ⟨h1,h2⟩ := XB (J := J) hb
 exact At.sub h1 (At.live (h2.app (UT h)) (hk _))
def Q0 : Nat → List Value → List (Nat × Value)
 | _,[] => []
 | k,v :: l => (k,v) :: Q0 (k + 1) l
theorem Q1 {e : Env} : ∀ {l : List Value} {k : Nat},(∀ j v,l[j]? = some v → e (k + j) = v) → Live e (Q0 k l)
 | [],_,_ => trivial
 | v :: l,k,h => ⟨h 0 v rfl,Q1 fun j u hj => by rw [show k + 1 + j = k + (j + 1) by omega]; exact h (j + 1) u (by simpa using hj)⟩
theorem Spec.walk {P : Program} {f : FuncId} {fn : Func} {R : Rr} {args : Array Value} {n fuel : Nat} (c : Fx) (cuts : List Cut) (s : S) (hc : c.Ok (Gl.fn P f n R) fn) (hb : fn.body = some c.body) (hnt : fn.ntmps = n) (hn : Nat.ble args.size n = true)
   (hk : ∀ k ∈ cuts,k.Ok (Gl.fn P f n R) c.body) (he : G7 s.vl s.env = Q0 0 args.toList) (hbx : s.bx = []) (h : C2 c cuts fuel true [.c []] s) : Spec P f args s.σ R := by
 subst hnt
 refine Spec.bz hc.fnc hb (Nat.le_of_ble_eq_true hn) fun e hee => ?_
 have hl : Live e (G7 s.vl s.env) := by
   rw [he]
   refine Q1 fun j v hj => ?_
   rw [Nat.zero_add,hee]
   simp only [Array.getD_eq_getD_getElem?]
   rw [← Array.getElem?_toList,hj]; rfl
 have := Aw (J := e) hc hk h
 have Y5 : s.b = [] := by rw [S.b,hbx]; rfl
 rw [Y5] at this
 exact At.live hl this
end Tw
end
section
namespace Tw
open Go
variable [Er]
inductive Dv where
 | I (k : IntKind) (x : Int)
 | B (t : Bool)
 | T (x : ByteArray)
 | L (p : Option Addr) (n c : Nat)
 | Q (p : Option Addr)
 | A (b : Nat)
 | M (x : Option Nat)
 | V (x : Value)
def Dv.den : Dv → Value
 | .I k x => .int k x
 | .B t => .bool t
 | .T x => .string x
 | .L p n c => .slice p n c
 | .Q p => .pointer p
 | .A b => .pointer (some ⟨b,0,none⟩)
 | .M x => .map x
 | .V x => x
def XC : List Dv → List Value
 | [] => []
 | x :: l => x.den :: XC l
inductive Dw where
 | o (x : Dv)
 | G (l : List Dv)
 | U (l : List Dv)
 | X (T : TypeId) (l : List Dv)
def Dw.den : Dw → Value
 | .o x => x.den
 | .G l => .agg (XC l).toArray
 | .U l => .tuple (XC l).toArray
 | .X _ _ => undef
structure Nm where
 ρ : List (Option Addr)
 β : List BK
structure Nm.le (n : Nm) (v : Vl) : Prop where
 ρ : ∀ i,i < n.ρ.length → nth none v.ρ i = nth none n.ρ i
 β : ∀ i,i < n.β.length → nth (.var false) v.β i = nth (.var false) n.β i
def Dv.sym : Dv → Nm → Bg × Nm
 | .I k x,n => (.int k x,n)
 | .B t,n => (.bs (Qr n.β) false,⟨n.ρ,n.β ++ [.var t]⟩)
 | .T x,n => (.str x,n)
 | .L p k c,n => (.sl (.var (Qr n.ρ)) k c,⟨n.ρ ++ [p],n.β⟩)
 | .Q p,n => (.pt (.var (Qr n.ρ)),⟨n.ρ ++ [p],n.β⟩)
 | .A b,n => (.pt (.at b 0),n)
 | .M x,n => (.mp x,n)
 | .V x,n => (.raw x,n)
theorem Nm.ACm {n : Nm} {v : Vl} {p : Option Addr} (h : Nm.le ⟨n.ρ ++ [p],n.β⟩ v) : n.le v ∧ nth none v.ρ (Qr n.ρ) = p := by
 refine ⟨⟨fun i hi => (h.ρ i (by simp only [List.length_append]; omega)).trans (LD hi),h.β⟩,?_⟩
 rw [QG,h.ρ _ (by simp)]; exact LF
theorem Nm.AKO {n : Nm} {v : Vl} {p : BK} (h : Nm.le ⟨n.ρ,n.β ++ [p]⟩ v) : n.le v ∧ nth (.var false) v.β (Qr n.β) = p := by
 refine ⟨⟨h.ρ,fun i hi => (h.β i (by simp only [List.length_append]; omega)).trans (LD hi)⟩,?_⟩
 rw [QG,h.β _ (by simp)]; exact LF
theorem Dv.OX {x : Dv} {n : Nm} {v : Vl} (h : (x.sym n).2.le v) : (x.sym n).1.den v = x.den ∧ n.le v := by
 cases x with
 | B t => obtain ⟨h1,h2⟩ := Nm.AKO h; exact ⟨by simp only [Dv.sym,Bg.den,h2]; rfl,h1⟩
 | L p k c => obtain ⟨h1,h2⟩ := Nm.ACm h; exact ⟨by simp only [Dv.sym,Bg.den,PV.den,h2]; rfl,h1⟩
 | Q p => obtain ⟨h1,h2⟩ := Nm.ACm h; exact ⟨by simp only [Dv.sym,Bg.den,PV.den,h2]; rfl,h1⟩
 | _ => exact ⟨rfl,h⟩
def XD : List Dv → Nm → List Bg × Nm
 | [],n => ([],n)
 | x :: l,n => match x.sym n with
   | (a,n) => match XD l n with
     | (r,n) => (a :: r,n)
theorem QH {v : Vl} : ∀ {l : List Dv} {n : Nm},(XD l n).2.le v → A9 v (XD l n).1 = XC l ∧ n.le v
 | [],n,h => ⟨rfl,h⟩
 | x :: l,n,h => by
   obtain ⟨h1,h2⟩ := QH (l := l) (n := (x.sym n).2) h
   obtain ⟨h3,h4⟩ := Dv.OX h2
   exact ⟨by simp only [XD,A9,XC,h3]; rw [← h1],h4⟩
def atoms : List Bg → List GU
 | [] => []
 | x :: l => .a x :: atoms l
theorem UW {v : Vl} : ∀ l,HL v (atoms l) = A9 v l
 | [] => rfl
 | x :: l => by simp only [atoms,HL,A9]; rw [UW l]; rfl
def Dw.sym : Dw → Nm → SV × Nm
 | .o x,n => match x.sym n with | (a,n) => (.v (.a a),n)
 | .G l,n => match XD l n with | (a,n) => (.v (.agg a),n)
 | .U l,n => match XD l n with | (a,n) => (.UB (atoms a),n)
 | .X _ _,n => (.v (.a .un),n)
theorem Dw.OX {x : Dw} {n : Nm} {v : Vl} (h : (x.sym n).2.le v) : (x.sym n).1.den v = x.den ∧ n.le v := by
 cases x with
 | o x => exact Dv.OX (x := x) h
 | G l => obtain ⟨h1,h2⟩ := QH (l := l) h; exact ⟨by simp only [Dw.sym,SV.den,GU.den,Dw.den]; rw [← h1],h2⟩
 | U l => obtain ⟨h1,h2⟩ := QH (l := l) h; exact ⟨by simp only [Dw.sym,SV.den,Dw.den]; rw [UW,← h1],h2⟩
 | X T l => exact ⟨rfl,h⟩
abbrev Bv := Nat × TypeId × List Dv
def Pw : List (Nat × Dw) → List (Nat × Value)
 | [] => []
 | (_,.X _ _) :: l => Pw l
 | (t,x) :: l => (t,x.den) :: Pw l
def OY : List (Nat × Dw) → Nm → List (Nat × SV) × Nm
 | [],n => ([],n)
 | (_,.X _ _) :: l,n => OY l n
 | (t,x) :: l,n => match x.sym n with
   | (a,n) => match OY l n with
     | (r,n) => ((t,a) :: r,n)
theorem LH {v : Vl} : ∀ {l : List (Nat × Dw)} {n : Nm},(OY l n).2.le v → G7 v (OY l n).1 = Pw l ∧ n.le v
 | [],n,h => ⟨rfl,h⟩
 | (t,.o x) :: l,n,h => by
   obtain ⟨h1,h2⟩ := LH (l := l) (n := ((Dw.o x).sym n).2) h
   obtain ⟨h3,h4⟩ := Dw.OX h2
   exact ⟨by simp only [OY,G7,Pw,h3]; rw [← h1],h4⟩
 | (t,.G x) :: l,n,h => by
   obtain ⟨h1,h2⟩ := LH (l := l) (n := ((Dw.G x).sym n).2) h
   obtain ⟨h3,h4⟩ := Dw.OX h2
   exact ⟨by simp only [OY,G7,Pw,h3]; rw [← h1],h4⟩
 | (t,.U x) :: l,n,h => by
   obtain ⟨h1,h2⟩ := LH (l := l) (n := ((Dw.U x).sym n).2) h
   obtain ⟨h3,h4⟩ := Dw.OX h2
   exact ⟨by simp only [OY,G7,Pw,h3]; rw [← h1],h4⟩
 | (_,.X T x) :: l,n,h => LH (l := l) (n := n) h
def JU : List (Nat × Dw) → List Bv → List Bv
 | [],r => r
 | (t,.X T l) :: m,r => JU m ((t,T,l) :: r)
 | _ :: m,r => JU m r
def XE : List Bv → Nat → Nm → List FA × Nm
 | [],_,n => ([],n)
 | (_,T,l) :: m,j,n => match XD l n with
   | (a,n) => match XE m (j + 1) n with
     | (r,n) => ((j,T,a) :: r,n)
def ql : List Bv → Nat → List (Nat × SV)
 | [],_ => []
 | (t,_,_) :: m,j => (t,.v (.a (.pt (.bx j 0)))) :: ql m (j + 1)
abbrev Bw := Nat × TypeId × List Value
def Ti : List Bv → List Bw
 | [] => []
 | (t,T,l) :: m => (t,T,XC l) :: Ti m
def Z1 : List Bw → List Nat → List (Nat × Value)
 | (t,_,_) :: m,b :: δ => (t,.pointer (some ⟨b,0,none⟩)) :: Z1 m δ
 | _,_ => []
def yN : List Bw → List Nat → Bx
 | (_,T,l) :: m,b :: δ => (b,.cells l.toArray T (0,0)) :: yN m δ
 | _,_ => []
def PB : List Bw → (List Nat → Prop) → Prop
 | [],K => K []
 | _ :: m,K => ∀ b : Nat,PB m fun δ => K (b :: δ)
theorem js : ∀ {l : List Bw} {K : List Nat → Prop},PB l K → ∀ δ,δ.length = l.length → K δ
 | [],K,h,[],_ => h
 | _ :: m,K,h,b :: δ,hl => js (h b) δ (by simpa using hl)
theorem jt : ∀ {l : List Bw} {K : List Nat → Prop},(∀ δ,δ.length = l.length → K δ) → PB l K
 | [],K,h => h [] rfl
 | _ :: m,K,h => fun b => jt fun δ hl => h (b :: δ) (by simp [hl])
def PTv (g : Gl) (td : List Item) (bs : List Bw) (ts : List (Nat × Value)) (σ : Hp) : Prop :=
 ∀ J : Env,PB bs fun δ => At g td (Je J (Z1 bs δ ++ ts)) (yN bs δ) σ
theorem cY {δ0 : List Nat} {v : Vl} : ∀ {m : List Bv} {j : Nat} {n : Nm} {δ : List Nat},δ.length = m.length → (∀ i,i < δ.length → nth 0 v.δ (j + i) = nth 0 δ i) → (XE m j n).2.le v →
   EM v (XE m j n).1 = yN (Ti m) δ ∧ G7 v (ql m j) = Z1 (Ti m) δ ∧ n.le v
 | [],j,n,[],_,_,h => ⟨rfl,rfl,h⟩
 | (t,T,l) :: m,j,n,b :: δ,hl,hd,h => by
   obtain ⟨h1,h2,h3⟩ := cY (δ0 := δ0) (m := m) (j := j + 1) (n := (XD l n).2) (δ := δ) (by simpa using hl) (fun i hi => by
     have := hd (i + 1) (by simpa using hi)
     rw [show j + 1 + i = j + (i + 1) by omega]; exact this) h
   obtain ⟨h4,h5⟩ := QH h3
   have hb : nth 0 v.δ j = b := hd 0 (by simp)
   refine ⟨?_,?_,h5⟩
   · simp only [XE,EM,Ti,yN,hb,h4]; rw [← h1]
   · simp only [ql,G7,Ti,Z1,SV.den,GU.den,Bg.den,PV.den,hb]; rw [h2]
def fG (D : List (Nat × Dw)) (δ : List Nat) (σ : Hp) : S := match OY D ⟨[],[]⟩ with
 | (e,n) => match JU D [] with
   | bs => match XE bs 0 n with
     | (x,n) => ⟨ql bs 0 ++ e,x,⟨n.ρ,n.β,δ⟩,σ⟩
theorem XF {v : Vl} : ∀ {l m : List (Nat × SV)},G7 v (l ++ m) = G7 v l ++ G7 v m
 | [],_ => rfl
 | (t,x) :: l,m => by simp only [List.cons_append,G7]; rw [XF]
theorem yO {D : List (Nat × Dw)} {δ : List Nat} {σ : Hp} {J : Env} (hl : δ.length = (JU D []).length) :
   (fG D δ σ).e J = Je J (Z1 (Ti (JU D [])) δ ++ Pw D) ∧ (fG D δ σ).b = yN (Ti (JU D [])) δ := by
 have hle : (XE (JU D []) 0 (OY D ⟨[],[]⟩).2).2.le ⟨(XE (JU D []) 0 (OY D ⟨[],[]⟩).2).2.ρ,(XE (JU D []) 0 (OY D ⟨[],[]⟩).2).2.β,δ⟩ := ⟨fun _ _ => rfl,fun _ _ => rfl⟩
 obtain ⟨h1,h2,h3⟩ := cY (δ0 := []) (δ := δ) hl (fun i _ => by rw [Nat.zero_add]) hle
 obtain ⟨h4,_⟩ := LH h3
 exact ⟨by simp only [fG,S.e,XF]; rw [h2,h4],h1⟩
def ACn : Nat → Nat → List Bool
 | 0,_ => []
 | f + 1,n => match Nat.ble n 1 with
   | true => []
   | false => Nat.beq (n % 2) 1 :: ACn f (n / 2)
def pth (n : Nat) : List Bool := ACn 400 n
def MW (body : Code) : List Bool → List It
 | [] => []
 | t :: p => match node body p with
   | .seq _ _ => bif t then MW body p else .c (true :: p) :: MW body p
   | .block i _ => .Qg i :: MW body p
   | .loop _ => .lp (false :: p) :: MW body p
   | .scope _ => .sc (false :: p) :: MW body p
   | _ => MW body p
def qm (body : Code) (n : Nat) : List It := .c (pth n) :: MW body (pth n)
inductive Sh where
 | I (k : IntKind) | B | T | L | Q | A | M | V
inductive Sw where
 | o (x : Sh)
 | G (l : List Sh)
 | U (l : List Sh)
 | X (T : TypeId) (l : List Sh)
abbrev ArS : Sh → Type → Type
 | .I _,C => Int → C
 | .B,C => Bool → C
 | .T,C => ByteArray → C
 | .L,C => Option Addr → Nat → Nat → C
 | .Q,C => Option Addr → C
 | .A,C => Nat → C
 | .M,C => Option Nat → C
 | .V,C => Value → C
def ACo {C : Type} : (x : Sh) → (Dv → C) → ArS x C
 | .I k,K => fun x => K (.I k x)
 | .B,K => fun x => K (.B x)
 | .T,K => fun x => K (.T x)
 | .L,K => fun p n c => K (.L p n c)
 | .Q,K => fun x => K (.Q x)
 | .A,K => fun x => K (.A x)
 | .M,K => fun x => K (.M x)
 | .V,K => fun x => K (.V x)
abbrev ArL : List Sh → Type → Type
 | [],A => A
 | x :: l,A => ArS x (ArL l A)
def qn {A : Type} : (l : List Sh) → (List Dv → A) → ArL l A
 | [],K => K []
 | x :: l,K => ACo x fun d => qn l fun r => K (d :: r)
abbrev ArW : Sw → Type → Type
 | .o x,C => ArS x C
 | .G l,C => ArL l C
 | .U l,C => ArL l C
 | .X _ l,C => ArL l C
def AKQ {A : Type} : (x : Sw) → (Dw → A) → ArW x A
 | .o x,K => ACo x fun d => K (.o d)
 | .G l,K => qn l fun d => K (.G d)
 | .U l,K => qn l fun d => K (.U d)
 | .X T l,K => qn l fun d => K (.X T d)
abbrev Ar : List (Nat × Sw) → Type → Type
 | [],A => A
 | (_,x) :: l,A => ArW x (Ar l A)
def cur {A : Type} : (l : List (Nat × Sw)) → (List (Nat × Dw) → A) → Ar l A
 | [],K => K []
 | (t,x) :: l,K => AKQ x fun d => cur l fun r => K ((t,d) :: r)
structure Fw where
 P : Program
 f : Nat
 fn : Func
 M6 : List Nat
 hid : List Nat
 wr : Bool
 reg : List (Nat × Nat × Bool)
 OU : List (Nat × TypeId)
 cuts : List (Nat × List (Nat × Sw))
def Fw.K (M : Fw) : Code := M.fn.body.getD .skip
def Fw.gl (M : Fw) (R : Rr) : Gl := Gl.fn M.P M.f M.fn.ntmps R
def Fw.cx (M : Fw) (R : Rr) : Fx := { P := M.P,R := R,M6 := M.M6,hid := M.hid,wr := M.wr,n := M.fn.ntmps,body := M.K,res := M.fn.results.toList,reg := M.reg,OU := M.OU }
def XG (vl : Vl) : List Nat → List FA → List Bw
 | t :: l,x :: r => (t,x.2.1,A9 vl x.2.2) :: XG vl l r
 | _,_ => []
def tmps : List (Nat × Sw) → List Nat
 | [] => []
 | (_,.X _ _) :: l => tmps l
 | (t,_) :: l => t :: tmps l
def ju : List (Nat × Sw) → List Nat → List Nat
 | [],r => r
 | (t,.X _ _) :: l,r => ju l (t :: r)
 | _ :: l,r => ju l r
def Fw.cut (M : Fw) (R : Rr) (c : Nat × List (Nat × Sw)) : Cut := ⟨qm M.K c.1,fun s => match s.fF (tmps c.2),s.VW (ju c.2 []) s.bx with
 | some vs,some B => PTv (M.gl R) (C1 M.K (qm M.K c.1)) (XG s.vl (ju c.2 []) B) ((tmps c.2).zip vs) s.σ
 | _,_ => False⟩
def Tj (M : Fw) (R : Rr) : List (Nat × List (Nat × Sw)) → List Cut
 | [] => []
 | c :: l => M.cut R c :: Tj M R l
def Fw.yP (M : Fw) (at_ : Nat) (R : Rr) (D : List (Nat × Dw)) (σ : Hp) : Prop := PTv (M.gl R) (C1 M.K (qm M.K at_)) (Ti (JU D [])) (Pw D) σ
noncomputable def Fw.pt (M : Fw) (i : Nat) (R : Rr) : Ar (nth (0,[]) M.cuts i).2 (Hp → Prop) := cur (nth (0,[]) M.cuts i).2 (M.yP (nth (0,[]) M.cuts i).1 R)
structure Fw.Ok (M : Fw) : Prop where
 E : AJ M.P M.M6
 mixed : M.P.follows .mixedOrders = true
 fnc : M.P.funcs[M.f]? = some M.fn
 body : M.fn.body.isSome = true
theorem Fw.ub {M : Fw} {R : Rr} (h : M.Ok) : (M.cx R).Ok (M.gl R) M.fn := ⟨⟨rfl,rfl,h.E,rfl,rfl,rfl⟩,h.mixed,h.fnc,rfl,rfl,rfl⟩
theorem XH {vl : Vl} : ∀ {l : List Nat} {B : List FA},∃ δ : List Nat,δ.length = (XG vl l B).length ∧ Z1 (XG vl l B) δ = Qz vl l B ∧ (l.length = B.length → yN (XG vl l B) δ = EM vl B)
 | [],[] => ⟨[],rfl,rfl,fun _ => rfl⟩
 | [],_ :: _ => ⟨[],rfl,rfl,fun h => by simp at h⟩
 | _ :: _,[] => ⟨[],rfl,rfl,fun h => by simp at h⟩
 | t :: l,(i,T,cs) :: B => by
   obtain ⟨δ,h1,h2,h3⟩ := XH (vl := vl) (l := l) (B := B)
   exact ⟨nth 0 vl.δ i :: δ,by simp [XG,h1],by simp only [XG,Z1,Qz]; rw [h2],fun h => by simp only [XG,yN,EM]; rw [h3 (by simpa using h)]⟩
theorem XI {s : S} : ∀ {l : List Nat} {bx B : List FA},s.VW l bx = some B → l.length = B.length
 | [],bx,B,h => by simp only [S.VW,Option.some.injEq] at h; subst h; rfl
 | t :: l,bx,B,h => by
   simp only [S.VW] at h
   split at h
   · split at h
     · split at h
       · rename_i m hm
         cases h
         simp [XI hm]
       · cases h
     · cases h
   · cases h
theorem Fw.yQ (M : Fw) (R : Rr) (c : Nat × List (Nat × Sw)) : (M.cut R c).Ok (M.gl R) M.K := fun s J h => by
 simp only [Fw.cut] at h
 split at h
 · rename_i vs B h1 h2
   obtain ⟨δ,e1,e2,e3⟩ := XH (vl := s.vl) (l := ju c.2 []) (B := B)
   refine At.ACl h1 h2 fun J => ?_
   have := js (h J) δ e1
   rw [e2,e3 (XI h2)] at this
   exact this
 · cases h
theorem VX {M : Fw} {R : Rr} : ∀ {l : List (Nat × List (Nat × Sw))},∀ k ∈ Tj M R l,k.Ok (M.gl R) M.K
 | c :: l,k,hk => by
   rcases List.mem_cons.1 hk with rfl | hk
   · exact M.yQ R c
   · exact VX k hk
theorem XJ : ∀ {l : List Bv},(Ti l).length = l.length
 | [] => rfl
 | _ :: m => by simp only [Ti,List.length_cons]; rw [XJ]
def PX (F : Prop) : List Bv → (List Nat → Prop) → Prop
 | [],K => F = K []
 | _ :: m,K => ∀ b : Nat,PX F m fun δ => K (b :: δ)
theorem jv {F : Prop} (h : F) : ∀ {l : List Bv} {K : List Nat → Prop},PX F l K → ∀ δ,δ.length = l.length → K δ
 | [],K,e,[],_ => e ▸ h
 | _ :: m,K,e,b :: δ,hl => jv h (e b) δ (by simpa using hl)
theorem Fw.ofB {M : Fw} {R : Rr} {at_ : Nat} {D : List (Nat × Dw)} {σ : Hp} {F : Prop} (h : F) (ok : M.Ok) (e : PX F (JU D []) fun δ => C2 (M.cx R) (Tj M R M.cuts) 4000 true (qm M.K at_) (fG D δ σ)) : M.yP at_ R D σ := fun J => by
 refine jt fun δ hl => ?_
 rw [XJ] at hl
 have := Aw (J := J) (Fw.ub ok) VX (jv h e δ hl)
 obtain ⟨e1,e2⟩ := yO (D := D) (σ := σ) (J := J) hl
 rw [e1,e2] at this
 exact this
theorem Fw.of {M : Fw} {R : Rr} {at_ : Nat} {D : List (Nat × Dw)} {σ : Hp} {F : Prop} (h : F) (ok : M.Ok) (hb : JU D [] = []) (e : F = C2 (M.cx R) (Tj M R M.cuts) 4000 true (qm M.K at_) (fG D [] σ) := by kernel_rfl) : M.yP at_ R D σ :=
 M.ofB h ok (by rw [hb]; exact e)
theorem Fw.pb {M : Fw} {R : Rr} {at_ : Nat} {D : List (Nat × Dw)} {σ : Hp} {F : Prop} {x1 : Bv} (h : F) (ok : M.Ok) (hb : JU D [] = [x1]) (e : ∀ b1 : Nat,F = C2 (M.cx R) (Tj M R M.cuts) 4000 true (qm M.K at_) (fG D [b1] σ)) : M.yP at_ R D σ :=
 M.ofB h ok (by rw [hb]; exact e)
theorem Fw.fH {M : Fw} {R : Rr} {at_ : Nat} {D : List (Nat × Dw)} {σ : Hp} {F : Prop} {x1 x2 : Bv} (h : F) (ok : M.Ok) (hb : JU D [] = [x1,x2]) (e : ∀ b1 b2 : Nat,F = C2 (M.cx R) (Tj M R M.cuts) 4000 true (qm M.K at_) (fG D [b1,b2] σ)) : M.yP at_ R D σ :=
 M.ofB h ok (by rw [hb]; exact e)
theorem Fw.of3 {M : Fw} {R : Rr} {at_ : Nat} {D : List (Nat × Dw)} {σ : Hp} {F : Prop} {x1 x2 x3 : Bv} (h : F) (ok : M.Ok) (hb : JU D [] = [x1,x2,x3]) (e : ∀ b1 b2 b3 : Nat,F = C2 (M.cx R) (Tj M R M.cuts) 4000 true (qm M.K at_) (fG D [b1,b2,b3] σ)) : M.yP at_ R D σ :=
 M.ofB h ok (by rw [hb]; exact e)
theorem Fw.of4 {M : Fw} {R : Rr} {at_ : Nat} {D : List (Nat × Dw)} {σ : Hp} {F : Prop} {x1 x2 x3 x4 : Bv} (h : F) (ok : M.Ok) (hb : JU D [] = [x1,x2,x3,x4]) (e : ∀ b1 b2 b3 b4 : Nat,F = C2 (M.cx R) (Tj M R M.cuts) 4000 true (qm M.K at_) (fG D [b1,b2,b3,b4] σ)) : M.yP at_ R D σ :=
 M.ofB h ok (by rw [hb]; exact e)
def yR : Value → Dv
 | .int k x => .I k x
 | .bool t => .B t
 | .string x => .T x
 | .slice p n c => .L p n c
 | .pointer p => .Q p
 | .map x => .M x
 | x => .V x
theorem XK (x : Value) : (yR x).den = x := by cases x <;> rfl
def cZ : List Value → List Dv
 | [] => []
 | x :: l => yR x :: cZ l
theorem UX : ∀ l : List Value,XC (cZ l) = l
 | [] => rfl
 | x :: l => by simp only [cZ,XC]; rw [XK,UX]
def fI : Value → Dw
 | .agg cs => .G (cZ cs.toList)
 | x => .o (yR x)
theorem jw (x : Value) : (fI x).den = x := by
 cases x
 case agg cs => simp only [fI,Dw.den,UX]
 all_goals (simp only [fI,Dw.den]; exact XK _)
def jx : Value → Dw
 | .pointer (some ⟨b,0,none⟩) => .o (.A b)
 | x => .o (.V x)
theorem jy (x : Value) : (jx x).den = x := by
 unfold jx; split <;> rfl
def fJ (np : Nat) : Nat → List Value → List (Nat × Dw)
 | _,[] => []
 | k,x :: l => match Nat.blt k np with
   | true => (k,fI x) :: fJ np (k + 1) l
   | false => (k,jx x) :: fJ np (k + 1) l
theorem jz (x : Value) : (∃ y,fI x = .o y) ∨ ∃ y,fI x = .G y := by cases x <;> first | exact .inr ⟨_,rfl⟩ | exact .inl ⟨_,rfl⟩
theorem j0 (x : Value) : ∃ y,jx x = .o y := by unfold jx; split <;> exact ⟨_,rfl⟩
theorem VY {np : Nat} : ∀ {l : List Value} {k : Nat},Pw (fJ np k l) = Q0 k l ∧ JU (fJ np k l) [] = []
 | [],_ => ⟨rfl,rfl⟩
 | x :: l,k => by
   obtain ⟨h1,h2⟩ := VY (np := np) (l := l) (k := k + 1)
   simp only [fJ]
   split
   · have hd := jw x
     rcases jz x with ⟨y,hy⟩ | ⟨y,hy⟩ <;> rw [hy] at hd ⊢ <;> exact ⟨by simp only [Pw,Q0]; rw [hd,h1],h2⟩
   · have hd := jy x
     obtain ⟨y,hy⟩ := j0 x
     rw [hy] at hd ⊢
     exact ⟨by simp only [Pw,Q0]; rw [hd,h1],h2⟩
def Fw.run (M : Fw) (R : Rr) (k : Nat) (D : List (Nat × Dw)) (σ : Hp) : Prop := match Nat.ble k M.fn.ntmps with
 | true => C2 (M.cx R) (Tj M R M.cuts) 4000 true [.c []] (fG D [] σ)
 | false => False
theorem Fw.FD {M : Fw} {R : Rr} {args : Array Value} {σ : Hp} {F : Prop} (h : F) (ok : M.Ok) (D : List (Nat × Dw)) (hx : JU D [] = []) (hD : Pw D = Q0 0 args.toList) (e : F = M.run R args.size D σ) : Spec M.P M.f args σ R := by
 subst e
 unfold Fw.run at h
 split at h
 case h_2 => exact h.elim
 rename_i hn
 obtain ⟨fb,hb⟩ := Option.isSome_iff_exists.1 ok.body
 refine Spec.walk (c := M.cx R) (cuts := Tj M R M.cuts) (s := fG D [] σ) (fuel := 4000) (Fw.ub ok) ?_ rfl hn VX ?_ ?_ h
 · show M.fn.body = some (M.fn.body.getD .skip)
   rw [hb]; rfl
 · obtain ⟨h4,_⟩ := LH (l := D) (n := ⟨[],[]⟩) (v := ⟨(OY D ⟨[],[]⟩).2.ρ,(OY D ⟨[],[]⟩).2.β,[]⟩) ⟨fun _ _ => rfl,fun _ _ => rfl⟩
   rw [hD] at h4
   simp only [fG,hx]
   exact h4
 · simp only [fG,hx]; rfl
theorem Fw.start {M : Fw} {R : Rr} {args : Array Value} {σ : Hp} {F : Prop} (h : F) (ok : M.Ok) (e : F = M.run R args.size (fJ M.fn.params.size 0 args.toList) σ := by kernel_rfl) : Spec M.P M.f args σ R :=
 M.FD h ok _ VY.2 VY.1 e
abbrev wI : Sw := .o (.I .i64)
abbrev wU : Sw := .o (.I .u64)
abbrev w8 : Sw := .o (.I .u8)
abbrev wB : Sw := .o .B
abbrev wT : Sw := .o .T
abbrev wL : Sw := .o .L
abbrev wQ : Sw := .o .Q
abbrev wA : Sw := .o .A
abbrev wM : Sw := .o .M
abbrev wV : Sw := .o .V
abbrev aD (b o : Nat) : Option Addr := some ⟨b,o,none⟩
abbrev Br (p A B : Prop) : Prop := (p → A) ∧ (¬ p → B)
abbrev Bm (p A B : Prop) : Prop := (¬ p → A) ∧ (p → B)
abbrev Bo (t : Bool) (A B : Prop) : Prop := (t = true → A) ∧ (t = false → B)
abbrev Bn (t : Bool) (A B : Prop) : Prop := (t = false → A) ∧ (t = true → B)
abbrev Pq (p : Option Addr) (K : Nat → Nat → Prop) : Prop := ∃ b o : Nat,p = some ⟨b,o,none⟩ ∧ K b o
abbrev In (x n : Int) : Prop := (0 : Int) ≤ x ∧ x < n
abbrev Df (r : Int) (K : Int → Prop) : Prop := ∀ x : Int,x = r → K x
abbrev Al (σ : Hp) (K : Nat → Prop) : Prop := ∀ b : Nat,σ b = none → K b
abbrev LI (k : IntKind) (σ : Hp) (b o : Nat) (K : Int → Prop) : Prop := ∃ x : Int,Hp.ld σ ⟨b,o,none⟩ = some (.int k x) ∧ K x
abbrev LB (σ : Hp) (b o : Nat) (K : Bool → Prop) : Prop := ∃ x : Bool,Hp.ld σ ⟨b,o,none⟩ = some (.bool x) ∧ K x
abbrev LT (σ : Hp) (b o : Nat) (K : ByteArray → Prop) : Prop := ∃ x : ByteArray,Hp.ld σ ⟨b,o,none⟩ = some (.string x) ∧ K x
abbrev LQ (σ : Hp) (b o : Nat) (K : Option Addr → Prop) : Prop := ∃ x : Option Addr,Hp.ld σ ⟨b,o,none⟩ = some (.pointer x) ∧ K x
abbrev LS (σ : Hp) (b o : Nat) (K : Option Addr → Nat → Nat → Prop) : Prop := ∃ p : Option Addr,∃ n : Nat,∃ c : Nat,Hp.ld σ ⟨b,o,none⟩ = some (.slice p n c) ∧ K p n c
abbrev CI (k : IntKind) (K : Int → Hp → Prop) : Value → Hp → Prop := fun v σ => ∃ x : Int,v = .int k x ∧ K x σ
abbrev CB (K : Bool → Hp → Prop) : Value → Hp → Prop := fun v σ => ∃ x : Bool,v = .bool x ∧ K x σ
abbrev CT (K : ByteArray → Hp → Prop) : Value → Hp → Prop := fun v σ => ∃ x : ByteArray,v = .string x ∧ K x σ
abbrev CQ (K : Option Addr → Hp → Prop) : Value → Hp → Prop := fun v σ => ∃ x : Option Addr,v = .pointer x ∧ K x σ
abbrev CS (K : Option Addr → Nat → Nat → Hp → Prop) : Value → Hp → Prop := fun v σ => ∃ p : Option Addr,∃ n : Nat,∃ c : Nat,v = .slice p n c ∧ K p n c σ
end Tw
end
section
set_option maxRecDepth 100000
noncomputable section
namespace TwW
open Go Tw Go.Proofs.Tryz
variable [Er] {R : Rr} {σ : Hp}

namespace CW
variable {p0 p3 : Option Addr} {n0 c0 n3 c3 : Nat} {x4 : Int}
def M : Fw := ⟨prog,13,f13,[33,34],[],false,[],[],[(464,[(0,wL),(3,wL),(4,wI)])]⟩
theorem ok : M.Ok := ⟨.cons call33 (.cons call34 (AJ.nil)),mixed,func13,by kernel_rfl⟩
def Ak := M.pt 0
theorem start (h : Ak R p0 n0 c0 none 0 0 0 σ) : Spec prog 13 #[.slice p0 n0 c0] σ R := M.start h ok
theorem AX (h : Br (x4 < (n0 : Int)) (Pq p0 fun Bt TY => In x4 (n0 : Int) ∧ LS σ Bt (TY + Int.toNat x4 * 2) fun Em n16 ER => In x4 (n0 : Int) ∧ LS σ Bt ((TY + Int.toNat x4 * 2) + 1) fun UY n22 TZ => Spec prog 33 #[.slice Em n16 ER] σ (AA R (CS fun p17 n17 c17 y => Kp [Bt] σ y ∧ Spec prog 34 #[.slice UY n22 TZ] y (AA R (CS fun Z2 n23 Z3 AH => Al AH fun LJ => AK prog (Builtin.append_ #[23,23] 23 #[.slice p3 n3 c3,(.slice (aD LJ 0) 1 1)]) (Hp.set AH LJ (.cells #[.slice p17 n17 c17,.slice Z2 n23 Z3] 40 (0,0))) (CS fun p26 n26 c26 AL => AG (x4 + 1) ∧ Ak R (aD Bt TY) n0 c0 p26 n26 c26 (x4 + 1) AL)))))) (R (.returned (.slice p3 n3 c3)) σ)) : Ak R p0 n0 c0 p3 n3 c3 x4 σ := M.of h ok rfl
end CW
namespace JL
variable {p0 : Option Addr} {n0 c0 : Nat}
def M : Fw := ⟨prog,34,f34,[],[],false,[],[],[]⟩
theorem ok : M.Ok := ⟨AJ.nil,mixed,func34,by kernel_rfl⟩
theorem start (h : Al σ fun b3 => AK prog (Builtin.append_ #[38,38] 38 #[(.slice (aD b3 0) 0 0),.slice p0 n0 c0]) (Hp.set σ b3 (.cells #[] 50 (0,0))) (CS fun p5 n5 c5 y => R (.returned (.slice p5 n5 c5)) y)) : Spec prog 34 #[.slice p0 n0 c0] σ R := M.start h ok
end JL
namespace Bu
def K0 := f35.body.getD .skip
def K1 := cl K0
def K2 := cr K0
def K3 := cl K2
def K4 := cl K3
def K5 := cr K3
def K6 := cl K5
def K7 := cr K5
def K8 := cl K7
def K9 := cl K8
def K10 := cr K8
def K11 := cr K7
def K12 := cr K2
def K13 := cl K12
def K14 := cl K13
def K15 := cr K13
def yS := cl K15
def K17 := cl yS
def K18 := cr yS
def K19 := cr K15
def K20 := cr K12
def K21 := cl K20
def K22 := cl K21
def K23 := cr K21
def K24 := cl K23
def K25 := cl K24
def K26 := cr K24
def K27 := cr K23
def K28 := cr K20
def K29 := cl K28
def K30 := cr K28
def K31 := cl K30
def K32 := cr K30
def K33 := cl K32
def K34 := cl K33
def K35 := cr K33
def K36 := cl K35
def K37 := cl K36
def K38 := cr K36
def K39 := cl K38
def K40 := cl K39
def K41 := cr K39
def K42 := cl K41
def K43 := cl K42
def K44 := cr K42
def K45 := cl K44
def K46 := cl K45
def K47 := cr K45
def K48 := cr K44
def K49 := cr K41
def K50 := cl K49
def K51 := cr K49
def K52 := cl K51
def K53 := cl K52
def K54 := cl K53
def K55 := cr K53
def K56 := cl K55
def K57 := cl K56
def K58 := cr K56
def K59 := cr K55
def K60 := cl K59
def K61 := cl K60
def K62 := cl K61
def K63 := cr K61
def K64 := cl K63
def K65 := cr K63
def K66 := cl K65
def K67 := cl K66
def K68 := cr K66
def K69 := cl K68
def K70 := cl K69
def K71 := cr K69
def K72 := cl K71
def K73 := cr K71
def K74 := cr K68
def K75 := cr K65
def K76 := cr K59
def K77 := cr K32
def K78 := cl K77
def K79 := cr K77
def K80 := cl K79
def K81 := cr K79
def K82 : Code := .ret
abbrev gl (R : Rr) : Gl := Gl.fn prog 35 117 R
def Fs (R : Rr) (l : Nat) (r0 : Loop) (b5 b6 DD BG CX Bt : Nat) (uc : Int) (σ : Hp) : Prop := ∀ (J : Env),At (Gl.round prog 35 117 l R) [.code K37,.beginRound,.code K38] (Je J [(5,(.pointer (some ⟨b5,0,none⟩))),(6,(.pointer (some ⟨b6,0,none⟩))),(10,(.pointer (some ⟨DD,0,none⟩))),(11,(.pointer (some ⟨BG,0,none⟩))),(13,(.pointer (some ⟨CX,0,none⟩))),(14,(.pointer (some ⟨Bt,0,none⟩))),(56,(.int .i64 uc))]) [] σ
def j1 (R : Rr) (l : Nat) (r0 : Loop) (CX Bt : Nat) (x15 : Int) (iV : Option Addr) (XL Y6 : Nat) (M7 Px : Int) (σ : Hp) : Prop := ∀ (J : Env),At (Gl.round prog 35 117 l R) [.code K54,.code K55,.inLoop K53,.inBlock 2,.inBlock 1] (Je J [(13,(.pointer (some ⟨CX,0,none⟩))),(14,(.pointer (some ⟨Bt,0,none⟩))),(15,(.int .i64 x15)),(67,(.slice iV XL Y6)),(68,(.int .i64 M7)),(69,(.int .i64 Px))]) [] σ
def qo (R : Rr) (l : Nat) (r0 : Loop) (CX Bt : Nat) (x15 : Int) (CY : Nat) (Hf : Int) (iV : Option Addr) (XL Y6 : Nat) (M7 Px : Int) (σ : Hp) : Prop := ∀ (J : Env),At (Gl.round prog 35 117 l R) [.code K75,.inBlock 3,.code K76,.inLoop K53,.inBlock 2,.inBlock 1] (Je J [(13,(.pointer (some ⟨CX,0,none⟩))),(14,(.pointer (some ⟨Bt,0,none⟩))),(15,(.int .i64 x15)),(19,(.pointer (some ⟨CY,0,none⟩))),(20,(.int .i64 Hf)),(67,(.slice iV XL Y6)),(68,(.int .i64 M7)),(69,(.int .i64 Px))]) [] σ
theorem start {R : Rr} {p0 p1 : Option Addr} {n0 c0 n1 c1 : Nat} {x2 x3 x4 : Int} {σ : Hp} (h : ∀ b5 : Nat,σ b5 = none → ∀ b6 : Nat,(Hp.set σ b5 (.cells #[(.slice p0 n0 c0)] 22 (0,0))) b6 = none → ∀ DD : Nat,(Hp.set (Hp.set σ b5 (.cells #[(.slice p0 n0 c0)] 22 (0,0))) b6 (.cells #[(.slice p1 n1 c1)] 23 (0,0))) DD = none → ∀ BG : Nat,(Hp.set (Hp.set (Hp.set σ b5 (.cells #[(.slice p0 n0 c0)] 22 (0,0))) b6 (.cells #[(.slice p1 n1 c1)] 23 (0,0))) DD (.cells #[(.slice none 0 0)] 23 (0,0))) BG = none → ∃ UY : Option Addr,∃ n22 : Nat,∃ TZ : Nat,Hp.ld (Hp.set (Hp.set (Hp.set (Hp.set σ b5 (.cells #[(.slice p0 n0 c0)] 22 (0,0))) b6 (.cells #[(.slice p1 n1 c1)] 23 (0,0))) DD (.cells #[(.slice none 0 0)] 23 (0,0))) BG (.cells #[(.int .i64 0)] 24 (0,0))) ⟨b5,0,none⟩ = some (.slice UY n22 TZ) ∧ ∃ Z2 : Option Addr,∃ n23 : Nat,∃ Z3 : Nat,Hp.ld (Hp.set (Hp.set (Hp.set (Hp.set σ b5 (.cells #[(.slice p0 n0 c0)] 22 (0,0))) b6 (.cells #[(.slice p1 n1 c1)] 23 (0,0))) DD (.cells #[(.slice none 0 0)] 23 (0,0))) BG (.cells #[(.int .i64 0)] 24 (0,0))) ⟨b6,0,none⟩ = some (.slice Z2 n23 Z3) ∧ Spec prog 28 #[(.slice UY n22 TZ),(.slice Z2 n23 Z3)] (Hp.set (Hp.set (Hp.set (Hp.set σ b5 (.cells #[(.slice p0 n0 c0)] 22 (0,0))) b6 (.cells #[(.slice p1 n1 c1)] 23 (0,0))) DD (.cells #[(.slice none 0 0)] 23 (0,0))) BG (.cells #[(.int .i64 0)] 24 (0,0))) (AA R (fun v σ1 => ∃ Ia : Int,v = (.int .i64 Ia) ∧ ((Ia : Int) ≠ 0 → AK prog (Instr.storeAt 23 (.pointer (some ⟨DD,0,none⟩)) (.slice none 0 0)) σ1 (fun _ F2 => AK prog (Instr.storeAt 24 (.pointer (some ⟨BG,0,none⟩)) (.int .i64 Ia)) F2 (fun _ CL => ∃ Ce : Option Addr,∃ Cf : Nat,∃ Cg : Nat,∃ Ci : Int,Hp.ld CL ⟨DD,0,none⟩ = some (.slice Ce Cf Cg) ∧ Hp.ld CL ⟨BG,0,none⟩ = some (.int .i64 Ci) ∧ R (.returned (.tuple #[(.slice Ce Cf Cg),(.int .i64 Ci)])) CL))) ∧ (¬ ((Ia : Int) ≠ 0) → Spec prog 29 #[(.int .i64 x2)] σ1 (AA R (fun v_2 F2 => ∃ t29 : Bool,v_2 = (.bool t29) ∧ (t29 = false → AK prog (Instr.storeAt 23 (.pointer (some ⟨DD,0,none⟩)) (.slice none 0 0)) F2 (fun _ CL => AK prog (Instr.storeAt 24 (.pointer (some ⟨BG,0,none⟩)) (.int .i64 221)) CL (fun _ Cl => ∃ Ce : Option Addr,∃ Cf : Nat,∃ Cg : Nat,∃ Ci : Int,Hp.ld Cl ⟨DD,0,none⟩ = some (.slice Ce Cf Cg) ∧ Hp.ld Cl ⟨BG,0,none⟩ = some (.int .i64 Ci) ∧ R (.returned (.tuple #[(.slice Ce Cf Cg),(.int .i64 Ci)])) Cl))) ∧ (t29 = true → Spec prog 29 #[(.int .i64 x3)] F2 (AA R (fun v_3 CL => ∃ t33 : Bool,v_3 = (.bool t33) ∧ (t33 = false → AK prog (Instr.storeAt 23 (.pointer (some ⟨DD,0,none⟩)) (.slice none 0 0)) CL (fun _ Cl => AK prog (Instr.storeAt 24 (.pointer (some ⟨BG,0,none⟩)) (.int .i64 221)) Cl (fun _ Be => ∃ Ce : Option Addr,∃ Cf : Nat,∃ Cg : Nat,∃ Ci : Int,Hp.ld Be ⟨DD,0,none⟩ = some (.slice Ce Cf Cg) ∧ Hp.ld Be ⟨BG,0,none⟩ = some (.int .i64 Ci) ∧ R (.returned (.tuple #[(.slice Ce Cf Cg),(.int .i64 Ci)])) Be))) ∧ (t33 = true → ((x3 : Int) < x2 → AK prog (Instr.storeAt 23 (.pointer (some ⟨DD,0,none⟩)) (.slice none 0 0)) CL (fun _ Cl => AK prog (Instr.storeAt 24 (.pointer (some ⟨BG,0,none⟩)) (.int .i64 221)) Cl (fun _ Be => ∃ Ce : Option Addr,∃ Cf : Nat,∃ Cg : Nat,∃ Ci : Int,Hp.ld Be ⟨DD,0,none⟩ = some (.slice Ce Cf Cg) ∧ Hp.ld Be ⟨BG,0,none⟩ = some (.int .i64 Ci) ∧ R (.returned (.tuple #[(.slice Ce Cf Cg),(.int .i64 Ci)])) Be))) ∧ (¬ ((x3 : Int) < x2) → ((x4 : Int) < 1 → AK prog (Instr.storeAt 23 (.pointer (some ⟨DD,0,none⟩)) (.slice none 0 0)) CL (fun _ Cl => AK prog (Instr.storeAt 24 (.pointer (some ⟨BG,0,none⟩)) (.int .i64 221)) Cl (fun _ Be => ∃ Ce : Option Addr,∃ Cf : Nat,∃ Cg : Nat,∃ Ci : Int,Hp.ld Be ⟨DD,0,none⟩ = some (.slice Ce Cf Cg) ∧ Hp.ld Be ⟨BG,0,none⟩ = some (.int .i64 Ci) ∧ R (.returned (.tuple #[(.slice Ce Cf Cg),(.int .i64 Ci)])) Be))) ∧ (¬ ((x4 : Int) < 1) → AG (x3 - x2) ∧ x4 ≠ (0 : Int) ∧ ∀ Q2 : Int,Q2 = IntKind.i64.wrap (Int.tdiv (x3 - x2) x4) → ((512 : Int) ≤ Q2 → AK prog (Instr.storeAt 23 (.pointer (some ⟨DD,0,none⟩)) (.slice none 0 0)) CL (fun _ Cl => AK prog (Instr.storeAt 24 (.pointer (some ⟨BG,0,none⟩)) (.int .i64 222)) Cl (fun _ Be => ∃ Ce : Option Addr,∃ Cf : Nat,∃ Cg : Nat,∃ Ci : Int,Hp.ld Be ⟨DD,0,none⟩ = some (.slice Ce Cf Cg) ∧ Hp.ld Be ⟨BG,0,none⟩ = some (.int .i64 Ci) ∧ R (.returned (.tuple #[(.slice Ce Cf Cg),(.int .i64 Ci)])) Be))) ∧ (¬ ((512 : Int) ≤ Q2) → AK prog (Instr.makeMap 99 none) CL (fun v_4 Cl => ∃ m51 : Nat,v_4 = (.map (some m51)) ∧ ∀ CX : Nat,Cl CX = none → AK prog (Instr.storeAt 99 (.pointer (some ⟨CX,0,none⟩)) (.map (some m51))) (Hp.set Cl CX (.cells #[(.map none)] 99 (0,0))) (fun _ Be => ∀ Bt : Nat,Be Bt = none → Spec prog 48 #[(.int .i64 x2),(.int .i64 x3),(.int .i64 x4)] (Hp.set Be Bt (.cells #[(.slice none 0 0)] 23 (0,0))) (AA R (fun v_5 M8 => ∃ f55 : Fn,∃ a55 : Array Value,∃ c55 : Array Value,(Value.func f55 a55 c55) = v_5 ∧ ∃ (gf : Nat) (lb : Array Value),(Value.func f55 a55 c55) = .func (.func gf) #[] lb ∧ Enters prog gf ∧ ∀ (Z4 Y7 : Nat) (Py : Loop),Z4 ≠ Y7 → M8 Z4 = none → M8 Y7 = none → (∀ (R2 : Rr) (σ2 : Hp) (qp : Int),σ2 Y7 = some (.loop (lp Py .ready none)) → Fs R2 Y7 Py b5 b6 DD BG CX Bt qp σ2 → Hx prog Y7 #[(.int .i64 qp)] σ2 R2) → Spec prog gf (#[.func (.yield Y7) #[] #[]] ++ lb) (Hp.set (Hp.set M8 Z4 (.deferred (some []))) Y7 (.loop (lp Py .ready none))) (fun en Jn => ∃ (v : Value) (s : LoopState) (p : Option Code),en = .returned v ∧ Jn Y7 = some (.loop (lp Py s p)) ∧ s ≠ .busy ∧ ((p = none ∧ ∃ qq : Option Addr,∃ n114 : Nat,∃ qs : Nat,Hp.ld (Hp.set Jn Y7 (.loop (lp Py .exhausted none))) ⟨Bt,0,none⟩ = some (.slice qq n114 qs) ∧ Spec prog 50 #[(.slice qq n114 qs),(.func (.func 51) #[] #[])] (Hp.set Jn Y7 (.loop (lp Py .exhausted none))) (AA (NP R) (fun v_6 UZ => v_6 = (.tuple #[]) ∧ ∃ j2 : Option Addr,∃ n116 : Nat,∃ j3 : Nat,Hp.ld UZ ⟨Bt,0,none⟩ = some (.slice j2 n116 j3) ∧ AK prog (Instr.storeAt 23 (.pointer (some ⟨DD,0,none⟩)) (.slice j2 n116 j3)) UZ (fun _ ud => AK prog (Instr.storeAt 24 (.pointer (some ⟨BG,0,none⟩)) (.int .i64 0)) ud (fun _ Q3 => ∃ Ce : Option Addr,∃ Cf : Nat,∃ Cg : Nat,∃ Ci : Int,Q3 Z4 = some (.deferred (some [])) ∧ Hp.ld (Hp.set Q3 Z4 (.deferred none)) ⟨DD,0,none⟩ = some (.slice Ce Cf Cg) ∧ Hp.ld (Hp.set Q3 Z4 (.deferred none)) ⟨BG,0,none⟩ = some (.int .i64 Ci) ∧ R (.returned (.tuple #[(.slice Ce Cf Cg),(.int .i64 Ci)])) (Hp.set Q3 Z4 (.deferred none))))))) ∨ (p = (some .ret) ∧ ∃ VZ : Option Addr,∃ Va : Nat,∃ Vb : Nat,∃ Vc : Int,(Hp.set Jn Y7 (.loop (lp Py .exhausted (some .ret)))) Z4 = some (.deferred (some [])) ∧ Hp.ld (Hp.set (Hp.set Jn Y7 (.loop (lp Py .exhausted (some .ret)))) Z4 (.deferred none)) ⟨DD,0,none⟩ = some (.slice VZ Va Vb) ∧ Hp.ld (Hp.set (Hp.set Jn Y7 (.loop (lp Py .exhausted (some .ret)))) Z4 (.deferred none)) ⟨BG,0,none⟩ = some (.int .i64 Vc) ∧ R (.returned (.tuple #[(.slice VZ Va Vb),(.int .i64 Vc)])) (Hp.set (Hp.set Jn Y7 (.loop (lp Py .exhausted (some .ret)))) Z4 (.deferred none)))))))))))))))))))))) : Spec prog 35 #[(.slice p0 n0 c0),(.slice p1 n1 c1),(.int .i64 x2),(.int .i64 x3),(.int .i64 x4)] σ R := by
 refine Spec.bz (fn := f35) (c := K0) func35 (by kernel_rfl) (Nat.le_of_ble_eq_true (by kernel_rfl)) (fun e he => ?_)
 refine At.ofL (l := [(0,(.slice p0 n0 c0)),(1,(.slice p1 n1 c1)),(2,(.int .i64 x2)),(3,(.int .i64 x3)),(4,(.int .i64 x4))]) ⟨he 0,he 1,he 2,he 3,he 4,trivial⟩ (fun J => ?_)
 show At (gl R) _ _ _ _
 refine At.s K1 K2 ?_
 refine At.rg 0 [0,1,2,3] ?_
 refine Seq.o ?_
 refine AN.xP (T := 22) (d := (some 5)) (ty := 0) (x := (.tmp 0)) (gd := none) (cs := #[(.slice p0 n0 c0)]) (by kernel_rfl) rfl rfl rfl (fun b5 hn => ?_)
 replace h := h b5 hn
 refine Seq.o ?_
 refine AN.xP (T := 23) (d := (some 6)) (ty := 0) (x := (.tmp 1)) (gd := none) (cs := #[(.slice p1 n1 c1)]) (by kernel_rfl) rfl rfl rfl (fun b6 hn => ?_)
 replace h := h b6 hn
 refine Seq.o ?_
 refine AN.OK (T := 23) (d := (some 10)) (ty := 0)  (gd := none) (cs := #[(.slice none 0 0)]) (by kernel_rfl) rfl rfl zeroValue23 rfl (fun DD hn => ?_)
 replace h := h DD hn
 refine Seq.o ?_
 refine AN.OK (T := 24) (d := (some 11)) (ty := 0)  (gd := none) (cs := #[(.int .i64 0)]) (by kernel_rfl) rfl rfl zeroValue24 rfl (fun BG hn => ?_)
 replace h := h BG hn
 refine Seq.done ?_
 refine At.s K3 K12 (At.s K4 K5 ?_)
 refine At.rg 1 [0,1,2,3] ?_
 obtain ⟨UY,n22,TZ,hl,h⟩ := h
 refine Seq.z 22 (.load 22 (.tmp 5)) 22 (.slice UY n22 TZ) (Y.ld isAgg22 rfl hl) ?_
 obtain ⟨Z2,n23,Z3,hl,h⟩ := h
 refine Seq.z 23 (.load 23 (.tmp 6)) 23 (.slice Z2 n23 Z3) (Y.ld isAgg23 rfl hl) ?_
 refine Seq.o ?_
 refine AN.cl (some 24) call28 (h.cont fun v σ1 h2 => ?_); replace h := h2; clear h2
 obtain ⟨Ia,rfl,h⟩ := h
 refine Seq.u 12 (.int .i64 Ia) (Seq.done ?_)
 refine At.s K6 K7 ?_
 refine At.rg 2 [0,1] ?_
 refine Seq.us [(25,.int .i64 Ia),(26,.bool (decide ((Ia : Int) ≠ 0)))] (Seq.done ?_)
 cases hb : (decide ((Ia : Int) ≠ 0)) with
 | true =>
   replace h := h.1 (of_decide_eq_true hb)
   refine At.cT 26 K8 K11 ?_
   refine At.s K9 K10 ?_
   refine At.rg 3 [0,1,2] ?_
   refine Seq.u 27 (.int .i64 Ia) ?_
   refine Seq.o ?_
   refine AN.store (T := 23) (ty := 0) (x := (.tmp 10)) (y := (.const (.slice none 0 0))) (p := (.pointer (some ⟨DD,0,none⟩))) (v := (.slice none 0 0)) (gd := none) (by kernel_rfl) rfl rfl rfl (h.mono (fun _ F2 h2 => ?_)); replace h := h2; clear h2
   refine Seq.o ?_
   refine AN.store (T := 24) (ty := 0) (x := (.tmp 11)) (y := (.tmp 27)) (p := (.pointer (some ⟨BG,0,none⟩))) (v := (.int .i64 Ia)) (gd := none) (by kernel_rfl) rfl rfl rfl (h.mono (fun _ CL h2 => ?_)); replace h := h2; clear h2
   refine Seq.done ?_
   obtain ⟨Ce,Cf,Cg,Ci,OZ,Oa,h⟩ := h
   exact At.rt [.cell 10 23,.cell 11 24] [(.slice Ce Cf Cg),(.int .i64 Ci)] func35 ⟨_,_,rfl,⟨_,rfl,B4 isAgg23 OZ⟩,⟨_,_,rfl,⟨_,rfl,B4 isAgg24 Oa⟩,rfl⟩⟩ h
 | false =>
   replace h := h.2 (of_decide_eq_false hb)
   refine At.cF 26 K8 K11 ?_
   refine At.skip ?_
   refine At.s K13 K20 (At.s K14 K15 ?_)
   refine At.rg 4 [0,1,2,3,4,5,6,7,8,9,10,11,12,13,14,15,16] ?_
   refine Seq.u 28 (.int .i64 x2) ?_
   refine Seq.o ?_
   refine AN.cl (some 29) call29 (h.cont fun v_2 F2 h2 => ?_); replace h := h2; clear h2
   obtain ⟨t29,rfl,h⟩ := h
   refine Seq.us [(30,.bool (!t29)),(31,.bool (!t29))] ?_
   cases hb : (!t29) with
   | true =>
     replace h := h.1 (Tw.nt hb)
     refine Seq.n 32 ?_
     refine Seq.n 33 ?_
     refine Seq.n 34 ?_
     refine Seq.us [(35,.bool true),(36,.bool true)] ?_
     refine Seq.n 37 ?_
     refine Seq.n 38 ?_
     refine Seq.n 39 ?_
     refine Seq.us [(40,.bool true),(41,.bool true)] ?_
     refine Seq.n 42 ?_
     refine Seq.n 43 ?_
     refine Seq.u 44 (.bool true) (Seq.done ?_)
     refine At.cT 44 yS K19 ?_
     refine At.s K17 K18 ?_
     refine At.rg 5 [0,1] ?_
     refine Seq.o ?_
     refine AN.store (T := 23) (ty := 0) (x := (.tmp 10)) (y := (.const (.slice none 0 0))) (p := (.pointer (some ⟨DD,0,none⟩))) (v := (.slice none 0 0)) (gd := none) (by kernel_rfl) rfl rfl rfl (h.mono (fun _ CL h2 => ?_)); replace h := h2; clear h2
     refine Seq.o ?_
     refine AN.store (T := 24) (ty := 0) (x := (.tmp 11)) (y := (.const (.int .i64 221))) (p := (.pointer (some ⟨BG,0,none⟩))) (v := (.int .i64 221)) (gd := none) (by kernel_rfl) rfl rfl rfl (h.mono (fun _ Cl h2 => ?_)); replace h := h2; clear h2
     refine Seq.done ?_
     obtain ⟨Ce,Cf,Cg,Ci,OZ,Oa,h⟩ := h
     exact At.rt [.cell 10 23,.cell 11 24] [(.slice Ce Cf Cg),(.int .i64 Ci)] func35 ⟨_,_,rfl,⟨_,rfl,B4 isAgg23 OZ⟩,⟨_,_,rfl,⟨_,rfl,B4 isAgg24 Oa⟩,rfl⟩⟩ h
   | false =>
     replace h := h.2 (Tw.nf hb)
     refine Seq.u 32 (.int .i64 x3) ?_
     refine Seq.o ?_
     refine AN.cl (some 33) call29 (h.cont fun v_3 CL h2 => ?_); replace h := h2; clear h2
     obtain ⟨t33,rfl,h⟩ := h
     refine Seq.us [(34,.bool (!t33)),(35,.bool (!t33)),(36,.bool (!t33))] ?_
     cases hb : (!t33) with
     | true =>
       replace h := h.1 (Tw.nt hb)
       refine Seq.n 37 ?_
       refine Seq.n 38 ?_
       refine Seq.n 39 ?_
       refine Seq.us [(40,.bool true),(41,.bool true)] ?_
       refine Seq.n 42 ?_
       refine Seq.n 43 ?_
       refine Seq.u 44 (.bool true) (Seq.done ?_)
       refine At.L [(2,(.int .i64 x2)),(3,(.int .i64 x3)),(4,(.int .i64 x4)),(5,(.pointer (some ⟨b5,0,none⟩))),(6,(.pointer (some ⟨b6,0,none⟩))),(10,(.pointer (some ⟨DD,0,none⟩))),(11,(.pointer (some ⟨BG,0,none⟩))),(44,(.bool true))] fun J => ?_
       refine At.cT 44 yS K19 ?_
       refine At.s K17 K18 ?_
       refine At.rg 5 [0,1] ?_
       refine Seq.o ?_
       refine AN.store (T := 23) (ty := 0) (x := (.tmp 10)) (y := (.const (.slice none 0 0))) (p := (.pointer (some ⟨DD,0,none⟩))) (v := (.slice none 0 0)) (gd := none) (by kernel_rfl) rfl rfl rfl (h.mono (fun _ Cl h2 => ?_)); replace h := h2; clear h2
       refine Seq.o ?_
       refine AN.store (T := 24) (ty := 0) (x := (.tmp 11)) (y := (.const (.int .i64 221))) (p := (.pointer (some ⟨BG,0,none⟩))) (v := (.int .i64 221)) (gd := none) (by kernel_rfl) rfl rfl rfl (h.mono (fun _ Be h2 => ?_)); replace h := h2; clear h2
       refine Seq.done ?_
       obtain ⟨Ce,Cf,Cg,Ci,OZ,Oa,h⟩ := h
       exact At.rt [.cell 10 23,.cell 11 24] [(.slice Ce Cf Cg),(.int .i64 Ci)] func35 ⟨_,_,rfl,⟨_,rfl,B4 isAgg23 OZ⟩,⟨_,_,rfl,⟨_,rfl,B4 isAgg24 Oa⟩,rfl⟩⟩ h
     | false =>
       replace h := h.2 (Tw.nf hb)
       refine Seq.us [(37,.int .i64 x2),(38,.int .i64 x3),(39,.bool (decide ((x3 : Int) < x2))),(40,.bool (decide ((x3 : Int) < x2))),(41,.bool (decide ((x3 : Int) < x2)))] ?_
       cases hb : (decide ((x3 : Int) < x2)) with
       | true =>
         replace h := h.1 (of_decide_eq_true hb)
         refine Seq.n 42 ?_
         refine Seq.n 43 ?_
         refine Seq.u 44 (.bool true) (Seq.done ?_)
         refine At.cT 44 yS K19 ?_
         refine At.s K17 K18 ?_
         refine At.rg 5 [0,1] ?_
         refine Seq.o ?_
         refine AN.store (T := 23) (ty := 0) (x := (.tmp 10)) (y := (.const (.slice none 0 0))) (p := (.pointer (some ⟨DD,0,none⟩))) (v := (.slice none 0 0)) (gd := none) (by kernel_rfl) rfl rfl rfl (h.mono (fun _ Cl h2 => ?_)); replace h := h2; clear h2
         refine Seq.o ?_
         refine AN.store (T := 24) (ty := 0) (x := (.tmp 11)) (y := (.const (.int .i64 221))) (p := (.pointer (some ⟨BG,0,none⟩))) (v := (.int .i64 221)) (gd := none) (by kernel_rfl) rfl rfl rfl (h.mono (fun _ Be h2 => ?_)); replace h := h2; clear h2
         refine Seq.done ?_
         obtain ⟨Ce,Cf,Cg,Ci,OZ,Oa,h⟩ := h
         exact At.rt [.cell 10 23,.cell 11 24] [(.slice Ce Cf Cg),(.int .i64 Ci)] func35 ⟨_,_,rfl,⟨_,rfl,B4 isAgg23 OZ⟩,⟨_,_,rfl,⟨_,rfl,B4 isAgg24 Oa⟩,rfl⟩⟩ h
       | false =>
         replace h := h.2 (of_decide_eq_false hb)
         refine Seq.us [(42,.int .i64 x4),(43,.bool (decide ((x4 : Int) < 1))),(44,.bool (decide ((x4 : Int) < 1)))] (Seq.done ?_)
         cases hb : (decide ((x4 : Int) < 1)) with
         | true =>
           replace h := h.1 (of_decide_eq_true hb)
           refine At.cT 44 yS K19 ?_
           refine At.s K17 K18 ?_
           refine At.rg 5 [0,1] ?_
           refine Seq.o ?_
           refine AN.store (T := 23) (ty := 0) (x := (.tmp 10)) (y := (.const (.slice none 0 0))) (p := (.pointer (some ⟨DD,0,none⟩))) (v := (.slice none 0 0)) (gd := none) (by kernel_rfl) rfl rfl rfl (h.mono (fun _ Cl h2 => ?_)); replace h := h2; clear h2
           refine Seq.o ?_
           refine AN.store (T := 24) (ty := 0) (x := (.tmp 11)) (y := (.const (.int .i64 221))) (p := (.pointer (some ⟨BG,0,none⟩))) (v := (.int .i64 221)) (gd := none) (by kernel_rfl) rfl rfl rfl (h.mono (fun _ Be h2 => ?_)); replace h := h2; clear h2
           refine Seq.done ?_
           obtain ⟨Ce,Cf,Cg,Ci,OZ,Oa,h⟩ := h
           exact At.rt [.cell 10 23,.cell 11 24] [(.slice Ce Cf Cg),(.int .i64 Ci)] func35 ⟨_,_,rfl,⟨_,rfl,B4 isAgg23 OZ⟩,⟨_,_,rfl,⟨_,rfl,B4 isAgg24 Oa⟩,rfl⟩⟩ h
         | false =>
           replace h := h.2 (of_decide_eq_false hb)
           refine At.cF 44 yS K19 ?_
           refine At.skip ?_
           refine At.s K21 K28 (At.s K22 K23 ?_)
           refine At.rg 6 [0,1,2,3,4,5] ?_
           refine Seq.us [(45,.int .i64 x3),(46,.int .i64 x2)] ?_
           obtain ⟨hi,h⟩ := h
           refine Seq.z 47 (.binOp .sub 2 (.tmp 45) (.tmp 46) 2) 2 (.int .i64 (x3 - x2)) (Y.AJs hi rfl rfl) ?_
           refine Seq.u 48 (.int .i64 x4) ?_
           obtain ⟨hc,h⟩ := h
           obtain ⟨Q2,ue⟩ : ∃ y,y = IntKind.i64.wrap (Int.tdiv (x3 - x2) x4) := ⟨_,rfl⟩
           replace h := h Q2 ue
           refine Seq.y (d := (some 49)) (op := (.binOp .quo 2 (.tmp 47) (.tmp 48) 2)) (ty := 2) (v := (.int .i64 Q2)) (by kernel_rfl) rfl (ue ▸ Y.quo hc rfl rfl) ?_
           refine Seq.u 50 (.bool (decide ((512 : Int) ≤ Q2))) (Seq.done ?_)
           cases hb : (decide ((512 : Int) ≤ Q2)) with
           | true =>
             replace h := h.1 (of_decide_eq_true hb)
             refine At.cT 50 K24 K27 ?_
             refine At.s K25 K26 ?_
             refine At.rg 7 [0,1] ?_
             refine Seq.o ?_
             refine AN.store (T := 23) (ty := 0) (x := (.tmp 10)) (y := (.const (.slice none 0 0))) (p := (.pointer (some ⟨DD,0,none⟩))) (v := (.slice none 0 0)) (gd := none) (by kernel_rfl) rfl rfl rfl (h.mono (fun _ Cl h2 => ?_)); replace h := h2; clear h2
             refine Seq.o ?_
             refine AN.store (T := 24) (ty := 0) (x := (.tmp 11)) (y := (.const (.int .i64 222))) (p := (.pointer (some ⟨BG,0,none⟩))) (v := (.int .i64 222)) (gd := none) (by kernel_rfl) rfl rfl rfl (h.mono (fun _ Be h2 => ?_)); replace h := h2; clear h2
             refine Seq.done ?_
             obtain ⟨Ce,Cf,Cg,Ci,OZ,Oa,h⟩ := h
             exact At.rt [.cell 10 23,.cell 11 24] [(.slice Ce Cf Cg),(.int .i64 Ci)] func35 ⟨_,_,rfl,⟨_,rfl,B4 isAgg23 OZ⟩,⟨_,_,rfl,⟨_,rfl,B4 isAgg24 Oa⟩,rfl⟩⟩ h
           | false =>
             replace h := h.2 (of_decide_eq_false hb)
             refine At.cF 50 K24 K27 ?_
             refine At.skip ?_
             refine At.s K29 K30 ?_
             refine At.rg 8 [0,1,2] ?_
             refine Seq.o ?_
             refine AN.Qb (d := (some 51)) (op := (.makeMap 99 none)) (ty := 99) (gd := none) (by kernel_rfl) rfl rfl (Instr.makeMap 99 none) (fun o ho ht => by simp only [execOp,ho]; rfl) (h.mono (fun v_4 Cl h2 => ?_)); replace h := h2; clear h2
             obtain ⟨m51,rfl,h⟩ := h
             refine Seq.o ?_
             refine AN.OK (T := 99) (d := (some 13)) (ty := 0)  (gd := none) (cs := #[(.map none)]) (by kernel_rfl) rfl rfl zeroValue99 rfl (fun CX hn => ?_)
             replace h := h CX hn
             refine Seq.o ?_
             refine AN.store (T := 99) (ty := 0) (x := (.tmp 13)) (y := (.tmp 51)) (p := (.pointer (some ⟨CX,0,none⟩))) (v := (.map (some m51))) (gd := none) (by kernel_rfl) rfl rfl rfl (h.mono (fun _ Be h2 => ?_)); replace h := h2; clear h2
             refine Seq.done ?_
             refine At.s K31 K32 ?_
             refine At.rg 9 [0] ?_
             refine Seq.o ?_
             refine AN.OK (T := 23) (d := (some 14)) (ty := 0)  (gd := none) (cs := #[(.slice none 0 0)]) (by kernel_rfl) rfl rfl zeroValue23 rfl (fun Bt hn => ?_)
             replace h := h Bt hn
             refine Seq.done ?_
             refine At.s K33 K77 (At.s K34 K35 ?_)
             refine At.rg 10 [0,1,2,3] ?_
             refine Seq.us [(52,.int .i64 x2),(53,.int .i64 x3),(54,.int .i64 x4)] ?_
             refine Seq.o ?_
             refine AN.cl (some 55) call48 (h.cont fun v_5 M8 h2 => ?_); replace h := h2; clear h2
             obtain ⟨f55,a55,c55,rfl,h⟩ := h
             refine Seq.done ?_
             refine At.b 0 K36 ?_
             obtain ⟨gf,lb,hgv,Pr,h⟩ := h
             refine At.range (gop := (.tmp 55)) (ps := #[56]) (assign := K37) (body := K38) (gf := gf) (lb := lb) (by kernel_rfl) rfl rfl hgv Pr (fun Z4 Y7 Py hDl hD hl hrf qt hra hrb hrs hre => ?_)
             refine (h Z4 Y7 Py hDl hD hl (fun R2 σ2 qp yT hp => Hx.bz (n := 117) yT qt hrs (by decide) hre (fn := f35) (by rw [hrf]; exact func35) ?_)).mono (fun en Jn h => ?_)
             · rw [hrf,hra,hrb]
               exact At.v [(5,(.pointer (some ⟨b5,0,none⟩))),(6,(.pointer (some ⟨b6,0,none⟩))),(10,(.pointer (some ⟨DD,0,none⟩))),(11,(.pointer (some ⟨BG,0,none⟩))),(13,(.pointer (some ⟨CX,0,none⟩))),(14,(.pointer (some ⟨Bt,0,none⟩))),(56,(.int .i64 qp))] (hp _)
             obtain ⟨v,s,p,he,xZ,hs,h⟩ := h
             refine ⟨v,s,p,he,xZ,hs,?_⟩
             rcases h with h | h
             · obtain ⟨rfl,h⟩ := h
               show At (Gl.behind prog 35 117 Z4 R) [.inBlock 0,.code K77] _ _ _
               refine At.inBlock ?_
               refine At.s K78 K79 ?_
               refine At.rg 25 [0,1] ?_
               obtain ⟨qq,n114,qs,hl,h⟩ := h
               refine Seq.z 114 (.load 23 (.tmp 14)) 23 (.slice qq n114 qs) (Y.ld isAgg23 rfl hl) ?_
               refine Seq.o ?_
               refine AN.cl (some 115) call50 (h.cont fun v_6 UZ h2 => ?_); replace h := h2; clear h2
               obtain ⟨rfl,h⟩ := h
               refine Seq.done ?_
               refine At.L [(10,(.pointer (some ⟨DD,0,none⟩))),(11,(.pointer (some ⟨BG,0,none⟩))),(14,(.pointer (some ⟨Bt,0,none⟩)))] fun J => ?_
               refine At.s K80 K81 ?_
               refine At.rg 26 [0,1,2] ?_
               obtain ⟨j2,n116,j3,hl,h⟩ := h
               refine Seq.z 116 (.load 23 (.tmp 14)) 23 (.slice j2 n116 j3) (Y.ld isAgg23 rfl hl) ?_
               refine Seq.o ?_
               refine AN.store (T := 23) (ty := 0) (x := (.tmp 10)) (y := (.tmp 116)) (p := (.pointer (some ⟨DD,0,none⟩))) (v := (.slice j2 n116 j3)) (gd := none) (by kernel_rfl) rfl rfl rfl (h.mono (fun _ ud h2 => ?_)); replace h := h2; clear h2
               refine Seq.o ?_
               refine AN.store (T := 24) (ty := 0) (x := (.tmp 11)) (y := (.const (.int .i64 0))) (p := (.pointer (some ⟨BG,0,none⟩))) (v := (.int .i64 0)) (gd := none) (by kernel_rfl) rfl rfl rfl (h.mono (fun _ Q3 h2 => ?_)); replace h := h2; clear h2
               refine Seq.done ?_
               obtain ⟨Ce,Cf,Cg,Ci,pa,OZ,Oa,h⟩ := h
               exact At.VJ (rs := [.cell 10 23,.cell 11 24]) (vs := [(.slice Ce Cf Cg),(.int .i64 Ci)]) (by kernel_rfl) func35 (by kernel_rfl) ⟨_,_,rfl,⟨_,rfl,B4 isAgg23 OZ⟩,⟨_,_,rfl,⟨_,rfl,B4 isAgg24 Oa⟩,rfl⟩⟩ h rfl (jS pa)
             · obtain ⟨rfl,h⟩ := h
               show At (Gl.behind prog 35 117 Z4 R) [.code K82,.inBlock 0,.code K77] _ _ _
               obtain ⟨VZ,Va,Vb,Vc,pa,yU,yV,h⟩ := h
               exact At.VJ (rs := [.cell 10 23,.cell 11 24]) (vs := [(.slice VZ Va Vb),(.int .i64 Vc)]) (by kernel_rfl) func35 (by kernel_rfl) ⟨_,_,rfl,⟨_,rfl,B4 isAgg23 yU⟩,⟨_,_,rfl,⟨_,rfl,B4 isAgg24 yV⟩,rfl⟩⟩ h rfl (jS pa)
theorem GF {R : Rr} {l b5 b6 DD BG CX Bt : Nat} {r0 : Loop} {uc : Int} {σ : Hp} (h : σ l = some (.loop (lp r0 .ready none)) ∧ ∃ pc : Option Addr,∃ pd : Nat,∃ uf : Nat,Hp.ld (Hp.set σ l (.loop (lp r0 .busy none))) ⟨b5,0,none⟩ = some (.slice pc pd uf) ∧ ∃ pe : Option Addr,∃ n59 : Nat,∃ pf : Nat,Hp.ld (Hp.set σ l (.loop (lp r0 .busy none))) ⟨b6,0,none⟩ = some (.slice pe n59 pf) ∧ Spec prog 30 #[(.slice pc pd uf),(.slice pe n59 pf),(.int .i64 uc)] (Hp.set σ l (.loop (lp r0 .busy none))) (AA (NP R) (fun v σ1 => ∃ Q4 : Option Addr,∃ M9 : Nat,∃ Q5 : Nat,∃ Lg : Int,v = (.tuple #[(.slice Q4 M9 Q5),(.int .i64 Lg)]) ∧ ((Lg : Int) ≠ 0 → AK prog (Instr.storeAt 23 (.pointer (some ⟨DD,0,none⟩)) (.slice none 0 0)) σ1 (fun _ F2 => AK prog (Instr.storeAt 24 (.pointer (some ⟨BG,0,none⟩)) (.int .i64 Lg)) F2 (fun _ CL => CL l = some (.loop (lp r0 .busy none)) ∧ R (.returned (.bool false)) (Hp.set CL l (.loop (lp r0 .done (some .ret))))))) ∧ (¬ ((Lg : Int) ≠ 0) → j1 R l r0 CX Bt uc Q4 M9 Q5 ((M9 : Int)) 0 σ1)))) : Fs R l r0 b5 b6 DD BG CX Bt uc σ := by
 intro J
 show At (Gl.round prog 35 117 l R) _ _ _ _
 refine At.rg 11 [0] ?_
 refine Seq.u 15 (.int .i64 uc) (Seq.done ?_)
 obtain ⟨bu,h⟩ := h
 refine At.beginRound rfl bu ?_
 refine At.b 1 K39 ?_
 refine At.s K40 K41 ?_
 refine At.rg 12 [0,1,2,3,4,5,6,7,8] ?_
 obtain ⟨pc,pd,uf,hl,h⟩ := h
 refine Seq.z 58 (.load 22 (.tmp 5)) 22 (.slice pc pd uf) (Y.ld isAgg22 rfl hl) ?_
 obtain ⟨pe,n59,pf,hl,h⟩ := h
 refine Seq.z 59 (.load 23 (.tmp 6)) 23 (.slice pe n59 pf) (Y.ld isAgg23 rfl hl) ?_
 refine Seq.u 60 (.int .i64 uc) ?_
 refine Seq.o ?_
 refine AN.cl (some 61) call30 (h.cont fun v σ1 h2 => ?_); replace h := h2; clear h2
 obtain ⟨Q4,M9,Q5,Lg,rfl,h⟩ := h
 refine Seq.us [(57,.tuple #[(.slice Q4 M9 Q5),(.int .i64 Lg)]),(62,.slice Q4 M9 Q5),(63,.int .i64 Lg),(16,.slice Q4 M9 Q5),(17,.int .i64 Lg)] (Seq.done ?_)
 refine At.s K42 K49 (At.s K43 K44 ?_)
 refine At.rg 13 [0,1] ?_
 refine Seq.us [(64,.int .i64 Lg),(65,.bool (decide ((Lg : Int) ≠ 0)))] (Seq.done ?_)
 cases hb : (decide ((Lg : Int) ≠ 0)) with
 | true =>
  replace h := h.1 (of_decide_eq_true hb)
  refine At.cT 65 K45 K48 ?_
  refine At.s K46 K47 ?_
  refine At.rg 14 [0,1,2] ?_
  refine Seq.u 66 (.int .i64 Lg) ?_
  refine Seq.o ?_
  refine AN.store (T := 23) (ty := 0) (x := (.tmp 10)) (y := (.const (.slice none 0 0))) (p := (.pointer (some ⟨DD,0,none⟩))) (v := (.slice none 0 0)) (gd := none) (by kernel_rfl) rfl rfl rfl (h.mono (fun _ F2 h2 => ?_)); replace h := h2; clear h2
  refine Seq.o ?_
  refine AN.store (T := 24) (ty := 0) (x := (.tmp 11)) (y := (.tmp 66)) (p := (.pointer (some ⟨BG,0,none⟩))) (v := (.int .i64 Lg)) (gd := none) (by kernel_rfl) rfl rfl rfl (h.mono (fun _ CL h2 => ?_)); replace h := h2; clear h2
  refine Seq.done ?_
  exact At.jE (by kernel_rfl) rfl h.1 h.2
 | false =>
  replace h := h.2 (of_decide_eq_false hb)
  refine At.cF 65 K45 K48 ?_
  refine At.skip ?_
  refine At.s K50 K51 ?_
  refine At.rg 15 [0,1,2] ?_
  refine Seq.u 67 (.slice Q4 M9 Q5) ?_
  refine Seq.z 68 (.call { callee := .builtin .len,args := #[(.tmp 67)],argTypes := #[67] }) 3 (.int .i64 (M9 : Int)) (Y.xJ underlying67 rfl rfl) ?_
  refine Seq.u 69 (.int .i64 0) (Seq.done ?_)
  refine At.b 2 K52 ?_
  refine At.loop (x := K53) (by kernel_rfl) ?_
  refine At.s K54 K55 ?_
  exact At.v [(13,(.pointer (some ⟨CX,0,none⟩))),(14,(.pointer (some ⟨Bt,0,none⟩))),(15,(.int .i64 uc)),(67,(.slice Q4 M9 Q5)),(68,(.int .i64 (M9 : Int))),(69,(.int .i64 0))] (h _)
theorem ca {R : Rr} {l CX Bt XL Y6 : Nat} {r0 : Loop} {x15 M7 Px : Int} {iV : Option Addr} {σ : Hp} (h : ((Px : Int) < M7 → ∃ (MX j4 : Nat),iV = some ⟨MX,j4,none⟩ ∧ ((0 : Int) ≤ Px ∧ Px < (XL : Int)) ∧ ∃ j5 : Option Addr,∃ j6 : Nat,∃ j7 : Nat,∃ Jo : Int,Au σ MX (j4 + Int.toNat Px * 2) [(.slice j5 j6 j7),(.int .u64 Jo)] ∧ ∀ CY : Nat,σ CY = none → AK prog (Instr.storeAt 71 (.pointer (some ⟨CY,0,none⟩)) (.agg #[(.slice j5 j6 j7),(.int .u64 Jo)])) (Hp.set σ CY (.cells #[(.slice none 0 0),(.int .u64 0)] 71 (0,0))) (fun _ σ1 => ∃ Z5 : Option Nat,Hp.ld σ1 ⟨CX,0,none⟩ = some (.map Z5) ∧ ∃ j8 : Option Addr,∃ j9 : Nat,∃ kA : Nat,Hp.ld σ1 ⟨CY,0,none⟩ = some (.slice j8 j9 kA) ∧ Spec prog 49 #[(.slice j8 j9 kA)] σ1 (AA (NP R) (fun v F2 => ∃ s77 : ByteArray,v = (.string s77) ∧ Kp [CX] σ1 F2 ∧ AK prog (Instr.lookup 99 (.map Z5) (.string s77) true) F2 (fun v_2 CL => ∃ Z6 : Int,∃ Tk : Bool,v_2 = (.tuple #[(.int .i64 Z6),(.bool Tk)]) ∧ (Tk = false → ∃ qu : Option Addr,∃ XM : Nat,∃ qw : Nat,Hp.ld CL ⟨Bt,0,none⟩ = some (.slice qu XM qw) ∧ ∃ m85 : Option Nat,Hp.ld CL ⟨CX,0,none⟩ = some (.map m85) ∧ ∃ p87 : Option Addr,∃ n87 : Nat,∃ c87 : Nat,Hp.ld CL ⟨CY,0,none⟩ = some (.slice p87 n87 c87) ∧ Spec prog 49 #[(.slice p87 n87 c87)] CL (AA (NP R) (fun v_3 Cl => ∃ s88 : ByteArray,v_3 = (.string s88) ∧ Kp [CX] CL Cl ∧ AK prog (Instr.mapUpdate 99 (.map m85) (.string s88) (.int .i64 (XM : Int))) Cl (fun _ Be => ∃ p90 : Option Addr,∃ n90 : Nat,∃ c90 : Nat,Hp.ld Be ⟨Bt,0,none⟩ = some (.slice p90 n90 c90) ∧ ∃ p93 : Option Addr,∃ n93 : Nat,∃ c93 : Nat,Hp.ld Be ⟨CY,0,none⟩ = some (.slice p93 n93 c93) ∧ ∀ iW : Nat,Be iW = none → AK prog (Builtin.append_ #[37,37] 37 #[(.slice (some ⟨iW,0,none⟩) 0 0),(.slice p93 n93 c93)]) (Hp.set Be iW (.cells #[] 56 (0,0))) (fun v_4 M8 => ∃ qz : Option Addr,∃ q4 : Nat,∃ q6 : Nat,v_4 = (.slice qz q4 q6) ∧ Kp [Bt] (Hp.set Be iW (.cells #[] 56 (0,0))) M8 ∧ ∀ Z7 : Nat,M8 Z7 = none → AK prog (Builtin.append_ #[23,23] 23 #[(.slice p90 n90 c90),(.slice (some ⟨Z7,0,none⟩) 1 1)]) (Hp.set M8 Z7 (.cells #[(.slice qz q4 q6),(.slice none 0 0)] 40 (0,0))) (fun v_5 Jn => ∃ p97 : Option Addr,∃ n97 : Nat,∃ c97 : Nat,v_5 = (.slice p97 n97 c97) ∧ AK prog (Instr.storeAt 23 (.pointer (some ⟨Bt,0,none⟩)) (.slice p97 n97 c97)) Jn (fun _ UZ => qo R l r0 CX Bt x15 CY ((XM : Int)) ((some ⟨MX,j4,none⟩)) XL Y6 M7 Px UZ))))))) ∧ (Tk = true → qo R l r0 CX Bt x15 CY Z6 ((some ⟨MX,j4,none⟩)) XL Y6 M7 Px CL)))))) ∧ (¬ ((Px : Int) < M7) → σ l = some (.loop (lp r0 .busy none)) ∧ R (.returned (.bool true)) (Hp.set σ l (.loop (lp r0 .ready none))))) : j1 R l r0 CX Bt x15 iV XL Y6 M7 Px σ := by
 intro J
 show At (Gl.round prog 35 117 l R) _ _ _ _
 refine At.rg 16 [0] ?_
 refine Seq.u 70 (.bool (decide ((Px : Int) < M7))) (Seq.done ?_)
 refine At.s K56 K59 ?_
 cases hb : (decide ((Px : Int) < M7)) with
 | true =>
  replace h := h.1 (of_decide_eq_true hb)
  refine At.cT 70 K57 K58 ?_
  refine At.skip ?_
  refine At.s K60 K76 ?_
  refine At.b 3 K61 ?_
  refine At.s K62 K63 ?_
  refine At.rg 17 [0,1,2,3] ?_
  obtain ⟨MX,j4,hq,h⟩ := h
  subst hq
  obtain ⟨hi,h⟩ := h
  refine Seq.z 71 (.indexAddr 67 (.tmp 67) (.tmp 69)) 0 (.pointer (some ⟨MX,(j4 + Int.toNat Px * 2),none⟩)) (Y.idx underlying67 sizeOf71 rfl rfl hi rfl) ?_
  obtain ⟨j5,j6,j7,Jo,hl,h⟩ := h
  refine Seq.z 72 (.load 71 (.tmp 71)) 71 (.agg #[(.slice j5 j6 j7),(.int .u64 Jo)]) (Y.lda isAgg71 sizeOf71 rfl rfl hl) ?_
  refine Seq.o ?_
  refine AN.OK (T := 71) (d := (some 19)) (ty := 0)  (gd := none) (cs := #[(.slice none 0 0),(.int .u64 0)]) (by kernel_rfl) rfl rfl zeroValue71 rfl (fun CY hn => ?_)
  replace h := h CY hn
  refine Seq.o ?_
  refine AN.store (T := 71) (ty := 0) (x := (.tmp 19)) (y := (.tmp 72)) (p := (.pointer (some ⟨CY,0,none⟩))) (v := (.agg #[(.slice j5 j6 j7),(.int .u64 Jo)])) (gd := none) (by kernel_rfl) rfl rfl rfl (h.mono (fun _ σ1 h2 => ?_)); replace h := h2; clear h2
  refine Seq.done ?_
  refine At.s K64 K65 ?_
  refine At.draw (id := 18) (ops := cO K64) (n := 10) (q := (some [])) (plan := [(0,true),(1,true),(2,true),(3,false),(4,false),(5,true),(6,true),(7,true),(8,true),(9,true)]) (tl := []) mixed (by kernel_rfl) (by kernel_rfl) ?_
  obtain ⟨Z5,hl,h⟩ := h
  refine Head.yl CX [[4]] rfl (by kernel_rfl) (d := (some 74)) (op := (.load 99 (.tmp 13))) (ty := 99) (v := (.map Z5)) (by kernel_rfl) rfl (Y.ld isAgg99 rfl (HZ hl)) ?_
  refine Head.z 75 (.fieldAddr 71 (.tmp 19) 0) 0 (.pointer (some ⟨CY,0,none⟩)) (Y.fieldAddr (fd := (LA prog 71 0)) underlying71 (by kernel_rfl) sizeOf37 rfl rfl) ?_
  obtain ⟨j8,j9,kA,hl,h⟩ := h
  refine Head.yl CY [[3],[4,3]] rfl (by kernel_rfl) (d := (some 76)) (op := (.load 37 (.tmp 75))) (ty := 37) (v := (.slice j8 j9 kA)) (by kernel_rfl) rfl (Y.ld isAgg37 rfl (HZ hl)) ?_
  refine Head.o (q' := (some [(CX,[4])])) rfl ?_
  refine AN.cl (some 77) call49 (h.cont fun v F2 h2 => ?_); replace h := h2; clear h2
  obtain ⟨s77,rfl,hk,h⟩ := h
  refine ⟨⟨fun _ h => h,Wj (L := [(CX,[4])]) hk⟩,?_⟩
  refine Head.o (q' := (some [])) rfl ?_
  refine AN.Qb (d := (some 78)) (op := (.lookup 99 (.tmp 74) (.tmp 77) true)) (ty := 102) (gd := none) (by kernel_rfl) rfl rfl (Instr.lookup 99 (.map Z5) (.string s77) true) (fun o ho ht => by simp only [execOp,ho]; rfl) (h.mono (fun v_2 CL h2 => ?_)); replace h := h2; clear h2
  obtain ⟨Z6,Tk,rfl,h⟩ := h
  refine ⟨⟨fun _ h => h,Wj (L := []) Kp.nil⟩,?_⟩
  refine Head.u 73 (.tuple #[(.int .i64 Z6),(.bool Tk)]) ?_
  refine Head.u 79 (.int .i64 Z6) ?_
  refine Head.u 80 (.bool Tk) ?_
  refine Head.u 20 (.int .i64 Z6) ?_
  refine Head.u 21 (.bool Tk) ?_
  refine Head.done ?_
  refine Seq.done ?_
  refine At.s K66 K75 (At.s K67 K68 ?_)
  refine At.rg 19 [0,1] ?_
  refine Seq.us [(81,.bool Tk),(82,.bool (!Tk))] (Seq.done ?_)
  cases hb : (!Tk) with
  | true =>
   replace h := h.1 (Tw.nt hb)
   refine At.cT 82 K69 K74 ?_
   refine At.s K70 K71 ?_
   refine At.rg 20 [0,1,2] ?_
   obtain ⟨qu,XM,qw,hl,h⟩ := h
   refine Seq.z 83 (.load 23 (.tmp 14)) 23 (.slice qu XM qw) (Y.ld isAgg23 rfl hl) ?_
   refine Seq.z 84 (.call { callee := .builtin .len,args := #[(.tmp 83)],argTypes := #[23] }) 3 (.int .i64 (XM : Int)) (Y.xJ underlying23 rfl rfl) ?_
   refine Seq.u 20 (.int .i64 (XM : Int)) (Seq.done ?_)
   refine At.s K72 K73 ?_
   refine At.draw (id := 21) (ops := cO K72) (n := 5) (q := (some [])) (plan := [(0,true),(1,true),(2,true),(4,true),(3,false)]) (tl := [5]) mixed (by kernel_rfl) (by kernel_rfl) ?_
   obtain ⟨m85,hl,h⟩ := h
   refine Head.yl CX [] rfl (by kernel_rfl) (d := (some 85)) (op := (.load 99 (.tmp 13))) (ty := 99) (v := (.map m85)) (by kernel_rfl) rfl (Y.ld isAgg99 rfl (HZ hl)) ?_
   refine Head.z 86 (.fieldAddr 71 (.tmp 19) 0) 0 (.pointer (some ⟨CY,0,none⟩)) (Y.fieldAddr (fd := (LA prog 71 0)) underlying71 (by kernel_rfl) sizeOf37 rfl rfl) ?_
   obtain ⟨p87,n87,c87,hl,h⟩ := h
   refine Head.yl CY [[3]] rfl (by kernel_rfl) (d := (some 87)) (op := (.load 37 (.tmp 86))) (ty := 37) (v := (.slice p87 n87 c87)) (by kernel_rfl) rfl (Y.ld isAgg37 rfl (HZ hl)) ?_
   refine Head.u 89 (.int .i64 (XM : Int)) ?_
   refine Head.o (q' := (some [(CX,[])])) rfl ?_
   refine AN.cl (some 88) call49 (h.cont fun v_3 Cl h2 => ?_); replace h := h2; clear h2
   obtain ⟨s88,rfl,hk,h⟩ := h
   refine ⟨⟨fun _ h => h,Wj (L := [(CX,[])]) hk⟩,?_⟩
   refine Head.done ?_
   refine Seq.o ?_
   refine AN.qR (d := none) (op := (.mapUpdate 99 (.tmp 85) (.tmp 88) (.tmp 89))) (ty := 0) (gd := none) (by kernel_rfl) rfl rfl (Instr.mapUpdate 99 (.map m85) (.string s88) (.int .i64 (XM : Int))) (fun o ho ht => by simp only [execOp,ho]; rfl) (h.mono (fun _ Be h2 => ?_)); replace h := h2; clear h2
   refine Seq.done ?_
   refine At.draw (id := 22) (ops := cO K73) (n := 7) (q := (some [])) (plan := [(0,true),(2,true),(3,true),(1,false),(4,false),(5,true),(6,false)]) (tl := [7,8]) mixed (by kernel_rfl) (by kernel_rfl) ?_
   obtain ⟨p90,n90,c90,hl,h⟩ := h
   refine Head.yl Bt [] rfl (by kernel_rfl) (d := (some 90)) (op := (.load 23 (.tmp 14))) (ty := 23) (v := (.slice p90 n90 c90)) (by kernel_rfl) rfl (Y.ld isAgg23 rfl (HZ hl)) ?_
   refine Head.z 92 (.fieldAddr 71 (.tmp 19) 0) 0 (.pointer (some ⟨CY,0,none⟩)) (Y.fieldAddr (fd := (LA prog 71 0)) underlying71 (by kernel_rfl) sizeOf37 rfl rfl) ?_
   obtain ⟨p93,n93,c93,hl,h⟩ := h
   refine Head.yl CY [[4],[6,5,4]] rfl (by kernel_rfl) (d := (some 93)) (op := (.load 37 (.tmp 92))) (ty := 37) (v := (.slice p93 n93 c93)) (by kernel_rfl) rfl (Y.ld isAgg37 rfl (HZ hl)) ?_
   refine Head.o (q' := (some [(CY,[4,6]),(Bt,[])])) rfl ?_
   refine AN.Ii (T := 37) (E := 56) (m := 0) (ps := #[]) (d := (some 91)) (ty := 37) (gd := none) (vs := []) (cs := #[]) underlying37 (by kernel_rfl) rfl rfl rfl (by kernel_rfl) (fun iW hn => ?_)
   refine ⟨⟨fun _ h => h,Wj (Kp.HY (Ext.set hn))⟩,?_⟩
   replace h := h iW hn
   refine Head.o (q' := (some [(Bt,[])])) rfl ?_
   refine AN.Qb (d := (some 94)) (op := (.call { callee := .builtin .append,args := #[(.tmp 91),(.tmp 93)],argTypes := #[37,37] })) (ty := 37) (gd := none) (by kernel_rfl) rfl rfl (Builtin.append_ #[37,37] 37 #[(.slice (some ⟨iW,0,none⟩) 0 0),(.slice p93 n93 c93)]) (fun o ho ht => FO rfl rfl o ho ht) (h.mono (fun v_4 M8 h2 => ?_)); replace h := h2; clear h2
   obtain ⟨qz,q4,q6,rfl,hk,h⟩ := h
   refine ⟨⟨fun _ h => h,Wj (L := [(Bt,[])]) hk⟩,?_⟩
   refine Head.z 95 (.build 40 #[(0,(.tmp 94))]) 40 (.agg #[(.slice qz q4 q6),(.slice none 0 0)]) (Y.build (vs := [(0,(.slice qz q4 q6))]) rfl (by kernel_rfl)) ?_
   refine Head.o (q' := (some [(Bt,[])])) rfl ?_
   refine AN.Ii (T := 23) (E := 40) (m := 1) (ps := #[(0,(.tmp 95))]) (d := (some 96)) (ty := 23) (gd := none) (vs := [(0,(.agg #[(.slice qz q4 q6),(.slice none 0 0)]))]) (cs := #[(.slice qz q4 q6),(.slice none 0 0)]) underlying23 (by kernel_rfl) rfl rfl rfl (by kernel_rfl) (fun Z7 hn => ?_)
   refine ⟨⟨fun _ h => h,Wj (Kp.HY (Ext.set hn))⟩,?_⟩
   replace h := h Z7 hn
   refine Head.done ?_
   refine Seq.o ?_
   refine AN.Qb (d := (some 97)) (op := (.call { callee := .builtin .append,args := #[(.tmp 90),(.tmp 96)],argTypes := #[23,23] })) (ty := 23) (gd := none) (by kernel_rfl) rfl rfl (Builtin.append_ #[23,23] 23 #[(.slice p90 n90 c90),(.slice (some ⟨Z7,0,none⟩) 1 1)]) (fun o ho ht => FO rfl rfl o ho ht) (h.mono (fun v_5 Jn h2 => ?_)); replace h := h2; clear h2
   obtain ⟨p97,n97,c97,rfl,h⟩ := h
   refine Seq.o ?_
   refine AN.store (T := 23) (ty := 0) (x := (.tmp 14)) (y := (.tmp 97)) (p := (.pointer (some ⟨Bt,0,none⟩))) (v := (.slice p97 n97 c97)) (gd := none) (by kernel_rfl) rfl rfl rfl (h.mono (fun _ UZ h2 => ?_)); replace h := h2; clear h2
   refine Seq.done ?_
   refine At.L [(13,(.pointer (some ⟨CX,0,none⟩))),(14,(.pointer (some ⟨Bt,0,none⟩))),(15,(.int .i64 x15)),(19,(.pointer (some ⟨CY,0,none⟩))),(20,(.int .i64 (XM : Int))),(67,(.slice (some ⟨MX,j4,none⟩) XL Y6)),(68,(.int .i64 M7)),(69,(.int .i64 Px))] fun J => ?_
   exact At.v [(13,(.pointer (some ⟨CX,0,none⟩))),(14,(.pointer (some ⟨Bt,0,none⟩))),(15,(.int .i64 x15)),(19,(.pointer (some ⟨CY,0,none⟩))),(20,(.int .i64 (XM : Int))),(67,(.slice (some ⟨MX,j4,none⟩) XL Y6)),(68,(.int .i64 M7)),(69,(.int .i64 Px))] (h _)
  | false =>
   replace h := h.2 (Tw.nf hb)
   refine At.cF 82 K69 K74 ?_
   refine At.skip ?_
   exact At.v [(13,(.pointer (some ⟨CX,0,none⟩))),(14,(.pointer (some ⟨Bt,0,none⟩))),(15,(.int .i64 x15)),(19,(.pointer (some ⟨CY,0,none⟩))),(20,(.int .i64 Z6)),(67,(.slice (some ⟨MX,j4,none⟩) XL Y6)),(68,(.int .i64 M7)),(69,(.int .i64 Px))] (h _)
 | false =>
  replace h := h.2 (of_decide_eq_false hb)
  refine At.cF 70 K57 K58 ?_
  refine At.x 2 [.inBlock 1] ?_
  refine At.inBlock ?_
  exact At.jD rfl h.1 h.2
theorem q7 {R : Rr} {l CX Bt CY XL Y6 : Nat} {r0 : Loop} {x15 Hf M7 Px : Int} {iV : Option Addr} {σ : Hp} (h : ∃ p98 : Option Addr,∃ n98 : Nat,∃ c98 : Nat,Hp.ld σ ⟨Bt,0,none⟩ = some (.slice p98 n98 c98) ∧ ∃ XN : Option Addr,∃ n100 : Nat,∃ Z8 : Nat,Hp.ld σ ⟨Bt,0,none⟩ = some (.slice XN n100 Z8) ∧ ∃ (Z9 kB : Nat),XN = some ⟨Z9,kB,none⟩ ∧ ((0 : Int) ≤ Hf ∧ Hf < (n100 : Int)) ∧ ∃ kC : Option Addr,∃ n104 : Nat,∃ kD : Nat,Hp.ld σ ⟨Z9,((kB + Int.toNat Hf * 2) + 1),none⟩ = some (.slice kC n104 kD) ∧ ∃ Vd : Int,Hp.ld σ ⟨CY,1,none⟩ = some (.int .u64 Vd) ∧ ∀ Ob : Nat,σ Ob = none → AK prog (Builtin.append_ #[38,38] 38 #[(.slice kC n104 kD),(.slice (some ⟨Ob,0,none⟩) 1 1)]) (Hp.set σ Ob (.cells #[(.int .i64 x15),(.int .u64 Vd)] 50 (0,0))) (fun v σ1 => ∃ q8 : Option Addr,∃ n110 : Nat,∃ q9 : Nat,v = (.slice q8 n110 q9) ∧ Kp [Bt] (Hp.set σ Ob (.cells #[(.int .i64 x15),(.int .u64 Vd)] 50 (0,0))) σ1 ∧ ∃ (fK fL : Nat),p98 = some ⟨fK,fL,none⟩ ∧ ((0 : Int) ≤ Hf ∧ Hf < (n98 : Int)) ∧ AK prog (Instr.storeAt 38 (.pointer (some ⟨fK,((fL + Int.toNat Hf * 2) + 1),none⟩)) (.slice q8 n110 q9)) σ1 (fun _ F2 => AG (Px + 1) ∧ j1 R l r0 CX Bt x15 iV XL Y6 M7 ((Px + 1)) F2))) : qo R l r0 CX Bt x15 CY Hf iV XL Y6 M7 Px σ := by
 intro J
 show At (Gl.round prog 35 117 l R) _ _ _ _
 refine At.draw (id := 23) (ops := cO K75) (n := 15) (q := (some [])) (plan := [(0,true),(1,true),(2,true),(3,true),(4,true),(5,true),(6,true),(7,true),(8,true),(9,true),(10,true),(11,false),(12,false),(13,true),(14,true)]) (tl := [15]) mixed (by kernel_rfl) (by kernel_rfl) ?_
 obtain ⟨p98,n98,c98,hl,h⟩ := h
 refine Head.yl Bt [] rfl (by kernel_rfl) (d := (some 98)) (op := (.load 23 (.tmp 14))) (ty := 23) (v := (.slice p98 n98 c98)) (by kernel_rfl) rfl (Y.ld isAgg23 rfl (HZ hl)) ?_
 refine Head.u 99 (.int .i64 Hf) ?_
 obtain ⟨XN,n100,Z8,hl,h⟩ := h
 refine Head.yl Bt [[12,6,5,4]] rfl (by kernel_rfl) (d := (some 100)) (op := (.load 23 (.tmp 14))) (ty := 23) (v := (.slice XN n100 Z8)) (by kernel_rfl) rfl (Y.ld isAgg23 rfl (HZ hl)) ?_
 refine Head.u 101 (.int .i64 Hf) ?_
 obtain ⟨Z9,kB,hq,h⟩ := h
 subst hq
 obtain ⟨hi,h⟩ := h
 refine Head.z 102 (.indexAddr 23 (.tmp 100) (.tmp 101)) 0 (.pointer (some ⟨Z9,(kB + Int.toNat Hf * 2),none⟩)) (Y.idx underlying23 sizeOf40 rfl rfl hi rfl) ?_
 refine Head.z 103 (.fieldAddr 40 (.tmp 102) 1) 0 (.pointer (some ⟨Z9,((kB + Int.toNat Hf * 2) + 1),none⟩)) (Y.fieldAddr (fd := (LA prog 40 1)) underlying40 (by kernel_rfl) sizeOf38 rfl rfl) ?_
 obtain ⟨kC,n104,kD,hl,h⟩ := h
 refine Head.yl Z9 [[12]] rfl (by kernel_rfl) (d := (some 104)) (op := (.load 38 (.tmp 103))) (ty := 38) (v := (.slice kC n104 kD)) (by kernel_rfl) rfl (Y.ld isAgg38 rfl (HZ hl)) ?_
 refine Head.u 105 (.int .i64 x15) ?_
 refine Head.z 106 (.fieldAddr 71 (.tmp 19) 1) 0 (.pointer (some ⟨CY,1,none⟩)) (Y.fieldAddr (fd := (LA prog 71 1)) underlying71 (by kernel_rfl) sizeOf48 rfl rfl) ?_
 obtain ⟨Vd,hl,h⟩ := h
 refine Head.yl CY [[11,10],[12,11,10]] rfl (by kernel_rfl) (d := (some 107)) (op := (.load 48 (.tmp 106))) (ty := 48) (v := (.int .u64 Vd)) (by kernel_rfl) rfl (Y.ld isAgg48 rfl (HZ hl)) ?_
 refine Head.z 108 (.build 50 #[(0,(.tmp 105)),(1,(.tmp 107))]) 50 (.agg #[(.int .i64 x15),(.int .u64 Vd)]) (Y.build (vs := [(0,(.int .i64 x15)),(1,(.int .u64 Vd))]) rfl (by kernel_rfl)) ?_
 refine Head.o (q' := (some [(Z9,[12]),(Bt,[12]),(Bt,[])])) rfl ?_
 refine AN.Ii (T := 38) (E := 50) (m := 1) (ps := #[(0,(.tmp 108))]) (d := (some 109)) (ty := 38) (gd := none) (vs := [(0,(.agg #[(.int .i64 x15),(.int .u64 Vd)]))]) (cs := #[(.int .i64 x15),(.int .u64 Vd)]) underlying38 (by kernel_rfl) rfl rfl rfl (by kernel_rfl) (fun Ob hn => ?_)
 refine ⟨⟨fun _ h => h,Wj (Kp.HY (Ext.set hn))⟩,?_⟩
 replace h := h Ob hn
 refine Head.o (q' := (some [(Bt,[])])) rfl ?_
 refine AN.Qb (d := (some 110)) (op := (.call { callee := .builtin .append,args := #[(.tmp 104),(.tmp 109)],argTypes := #[38,38] })) (ty := 38) (gd := none) (by kernel_rfl) rfl rfl (Builtin.append_ #[38,38] 38 #[(.slice kC n104 kD),(.slice (some ⟨Ob,0,none⟩) 1 1)]) (fun o ho ht => FO rfl rfl o ho ht) (h.mono (fun v σ1 h2 => ?_)); replace h := h2; clear h2
 obtain ⟨q8,n110,q9,rfl,hk,h⟩ := h
 refine ⟨⟨fun _ h => h,Wj (L := [(Bt,[])]) hk⟩,?_⟩
 obtain ⟨fK,fL,hq,h⟩ := h
 subst hq
 obtain ⟨hi,h⟩ := h
 refine Head.z 111 (.indexAddr 23 (.tmp 98) (.tmp 99)) 0 (.pointer (some ⟨fK,(fL + Int.toNat Hf * 2),none⟩)) (Y.idx underlying23 sizeOf40 rfl rfl hi rfl) ?_
 refine Head.z 112 (.fieldAddr 40 (.tmp 111) 1) 0 (.pointer (some ⟨fK,((fL + Int.toNat Hf * 2) + 1),none⟩)) (Y.fieldAddr (fd := (LA prog 40 1)) underlying40 (by kernel_rfl) sizeOf38 rfl rfl) ?_
 refine Head.done ?_
 refine Seq.o ?_
 refine AN.store (T := 38) (ty := 0) (x := (.tmp 112)) (y := (.tmp 110)) (p := (.pointer (some ⟨fK,((fL + Int.toNat Hf * 2) + 1),none⟩))) (v := (.slice q8 n110 q9)) (gd := none) (by kernel_rfl) rfl rfl rfl (h.mono (fun _ F2 h2 => ?_)); replace h := h2; clear h2
 refine Seq.done ?_
 refine At.inBlock ?_
 refine At.rg 24 [0,1] ?_
 obtain ⟨hi,h⟩ := h
 refine Seq.z 113 (.binOp .add 3 (.tmp 69) (.const (.int .i64 1)) 3) 3 (.int .i64 (Px + 1)) (Y.AJr hi rfl rfl) ?_
 refine Seq.u 69 (.int .i64 (Px + 1)) (Seq.done ?_)
 refine At.inLoop ?_
 refine At.s K54 K55 ?_
 exact At.v [(13,(.pointer (some ⟨CX,0,none⟩))),(14,(.pointer (some ⟨Bt,0,none⟩))),(15,(.int .i64 x15)),(67,(.slice iV XL Y6)),(68,(.int .i64 M7)),(69,(.int .i64 (Px + 1)))] (h _)
end Bu
namespace FV
variable {p0 q5 Lx : Option Addr} {n0 c0 n11 Ly : Nat} {x12 FE : Int}
def M : Fw := ⟨prog,37,f37,[53],[7],false,[],[],[(232,[(0,wL),(5,wQ),(11,wL),(12,wI),(13,wI)])]⟩
theorem ok : M.Ok := ⟨.cons call53 (AJ.nil),mixed,func37,by kernel_rfl⟩
def BA := M.pt 0
theorem start (h : Al σ fun DD => BA R p0 n0 c0 (aD DD 0) p0 n0 c0 (n0 : Int) 0 (Hp.set σ DD (.cells #[.slice none 0 0] 110 (0,0)))) : Spec prog 37 #[.slice p0 n0 c0] σ R := M.start h ok
theorem Ac (h : Br (FE < x12) (Pq Lx fun G8 Lz => In FE (n11 : Int) ∧ ∃ Ve fM AC7 fN fO fP AC8 AC9 ADA ADB ADC ADD ADE ADF,Au σ G8 (Lz + Int.toNat FE * 10) [.int .i64 Ve,.int .i64 fM,.string AC7,.slice fN fO fP,.int .i64 AC8,.int .i64 AC9,.int .i64 ADA,.slice ADB ADC ADD,.bool ADE,.int .i64 ADF] ∧ ∀ b7 : Nat,Spec prog 53 #[.pointer q5,.agg #[.int .i64 Ve,.int .i64 fM,.string AC7,.slice fN fO fP,.int .i64 AC8,.int .i64 AC9,.int .i64 ADA,.slice ADB ADC ADD,.bool ADE,.int .i64 ADF]] σ (AA R (CI .i64 fun Hf y => Br (Hf ≠ 0) (R (.returned (.tuple #[.int .i64 0,.int .i64 FE,.int .i64 Hf])) y) (AG (FE + 1) ∧ BA R p0 n0 c0 q5 (aD G8 Lz) n11 Ly x12 (FE + 1) y)))) (Pq q5 fun Wc pg => LS σ Wc pg fun p29 n29 c29 => Br ((n29 : Int) ≠ 1) (R (.returned (.tuple #[.int .i64 0,(.int .i64 (n0 : Int)),.int .i64 190])) σ) (Br (4096 < (n0 : Int)) (R (.returned (.tuple #[.int .i64 0,(.int .i64 (n0 : Int)),.int .i64 190])) σ) (LS σ Wc pg fun p42 n42 c42 => Pq p42 fun cb o43 => In 0 (n42 : Int) ∧ LI .i64 σ cb o43 fun Y9 => R (.returned (.tuple #[.int .i64 Y9,.int .i64 0,.int .i64 0])) σ)))) : BA R p0 n0 c0 q5 Lx n11 Ly x12 FE σ := M.of h ok rfl
end FV
namespace CZ
variable {p0 p1 : Option Addr} {n0 c0 n1 c1 : Nat} {x5 : Int}
def M : Fw := ⟨prog,41,f41,[],[],false,[(6,9,true)],[],[(464,[(0,wL),(1,wL),(5,wI)])]⟩
theorem ok : M.Ok := ⟨AJ.nil,mixed,func41,by kernel_rfl⟩
def A5 := M.pt 0
theorem start (h : Br ((n0 : Int) ≠ (n1 : Int)) (R (.returned (.bool false)) σ) (A5 R p0 n0 c0 p1 n1 c1 0 σ)) : Spec prog 41 #[.slice p0 n0 c0,.slice p1 n1 c1] σ R := M.start h ok
theorem A7 (h : Br (x5 < (n0 : Int)) (Pq p0 fun CY Wd => In x5 (n0 : Int) ∧ ∃ yW yX,Au σ CY (Wd + Int.toNat x5 * 2) [.string yW,.string yX] ∧ Pq p1 fun Lh Vf => In x5 (n1 : Int) ∧ ∃ yY yZ,Au σ Lh (Vf + Int.toNat x5 * 2) [.string yY,.string yZ] ∧ ∃ t25,YF prog ((do eqGuard .neq 56 (.tmp 20) (.tmp 24) (.agg #[.string yW,.string yX]) (.agg #[.string yY,.string yZ]); binOp .neq 56 (.agg #[.string yW,.string yX]) (.agg #[.string yY,.string yZ]))) σ (.bool t25) ∧ Bo t25 (R (.returned (.bool false)) σ) (AG (x5 + 1) ∧ A5 R (aD CY Wd) n0 c0 (aD Lh Vf) n1 c1 (x5 + 1) σ)) (R (.returned (.bool true)) σ)) : A5 R p0 n0 c0 p1 n1 c1 x5 σ := M.of h ok rfl
end CZ
namespace Jp
variable {p0 : Option Addr} {n0 c0 : Nat} {s1 : ByteArray} {x5 : Int}
def M : Fw := ⟨prog,54,f54,[],[],false,[],[],[(208,[(0,wL),(1,wT),(5,wI)])]⟩
theorem ok : M.Ok := ⟨AJ.nil,mixed,func54,by kernel_rfl⟩
def F3 := M.pt 0
theorem start (h : F3 R p0 n0 c0 s1 0 σ) : Spec prog 54 #[.slice p0 n0 c0,.string s1] σ R := M.start h ok
theorem As (h : Br (x5 < (n0 : Int)) (Pq p0 fun Bt TY => In x5 (n0 : Int) ∧ LT σ Bt (TY + Int.toNat x5 * 2) fun s16 => Bo (ByteArray.toList s16 == ByteArray.toList s1) (In x5 (n0 : Int) ∧ LT σ Bt ((TY + Int.toNat x5 * 2) + 1) fun s23 => R (.returned (.string s23)) σ) (AG (x5 + 1) ∧ F3 R (aD Bt TY) n0 c0 s1 (x5 + 1) σ)) (R (.returned (.string (ByteArray.mk #[]))) σ)) : F3 R p0 n0 c0 s1 x5 σ := M.of h ok rfl
end Jp
namespace D9
variable {p0 p8 : Option Addr} {n0 c0 n8 c8 : Nat} {x9 x10 : Int}
def M : Fw := ⟨prog,68,f68,[98,99],[4],false,[(10,14,true)],[],[(232,[(0,wL),(8,wL),(9,wI),(10,wI)])]⟩
theorem ok : M.Ok := ⟨.cons call98 (.cons call99 (AJ.nil)),mixed,func68,by kernel_rfl⟩
def Q6 := M.pt 0
theorem start (h : Br (16 < (n0 : Int)) (R (.returned (.int .i64 30)) σ) (Q6 R p0 n0 c0 p0 n0 c0 (n0 : Int) 0 σ)) : Spec prog 68 #[.slice p0 n0 c0] σ R := M.start h ok
theorem NA (h : Br (x10 < x9) (Pq p8 fun CX Vg => In x10 (n8 : Int) ∧ ∃ rC aA,Au σ CX (Vg + Int.toNat x10 * 2) [.string rC,.string aA] ∧ ∀ b4 : Nat,Spec prog 98 #[.string rC] σ (AA R (CB fun t18 y => Bn t18 (R (.returned (.int .i64 31)) y) (Bo ((ByteArray.toList aA == ByteArray.toList (ByteArray.mk #[]))) (R (.returned (.int .i64 32)) y) (Br ((256 : Int) < ((ByteArray.size aA : Nat) : Int)) (R (.returned (.int .i64 32)) y) (Spec prog 99 #[.string aA] y (AA R (CB fun t33 AH => Bn t33 (R (.returned (.int .i64 32)) AH) (Br (0 < x10) (AG (x10 - 1) ∧ Pq p0 fun iX iY => In (x10 - 1) (n0 : Int) ∧ LT AH iX (iY + Int.toNat (x10 - 1) * 2) fun s47 => ∃ t48,YF prog ((do eqGuard .leq 9 (.tmp 41) (.tmp 47) (.string rC) (.string s47); binOp .leq 9 (.string rC) (.string s47))) AH (.bool t48) ∧ Bo t48 (R (.returned (.int .i64 33)) AH) (AG (x10 + 1) ∧ Q6 R (aD iX iY) n0 c0 (aD CX Vg) n8 c8 x9 (x10 + 1) AH)) (AG (x10 + 1) ∧ Q6 R p0 n0 c0 (aD CX Vg) n8 c8 x9 (x10 + 1) AH)))))))))) (R (.returned (.int .i64 0)) σ)) : Q6 R p0 n0 c0 p8 n8 c8 x9 x10 σ := M.of h ok rfl
end D9
end TwW
end
end
section
set_option maxRecDepth 100000
noncomputable section
namespace TwW
open Go Tw Go.Proofs.Tryz
variable [Er] {R : Rr} {σ : Hp}

namespace A3
variable {p0 p1 Lx : Option Addr} {n0 c0 n1 c1 n11 Ly : Nat} {v2 : Value} {x12 FE : Int}
def M : Fw := ⟨prog,75,f75,[],[8,9],false,[],[],[(104,[(0,wL),(1,wL),(2,wV),(11,wL),(12,wI),(13,wI)])]⟩
theorem ok : M.Ok := ⟨AJ.nil,mixed,func75,by kernel_rfl⟩
def MY := M.pt 0
theorem start (h : MY R p0 n0 c0 p1 n1 c1 v2 p0 n0 c0 (n0 : Int) 0 σ) : Spec prog 75 #[.slice p0 n0 c0,.slice p1 n1 c1,v2] σ R := M.FD h ok [(0,.o (.L p0 n0 c0)),(1,.o (.L p1 n1 c1)),(2,.o (.V v2))] rfl rfl (by kernel_rfl)
theorem C3 (h : Br (FE < x12) (Pq Lx fun G8 Lz => In FE (n11 : Int) ∧ ∃ ADG ADH,Au σ G8 (Lz + Int.toNat FE * 2) [.string ADG,.string ADH] ∧ ∀ b8 : Nat,Br ((n1 : Int) ≤ FE) (R (.returned (.int .i64 1)) σ) (Pq p1 fun b24 o24 => In FE (n1 : Int) ∧ ∃ ADI ADJ,Au σ b24 (o24 + Int.toNat FE * 2) [.string ADI,.string ADJ] ∧ ∀ b9 : Nat,∃ (f29 : Nat) (ug uh : Array Value),v2 = .func (.func f29) ug uh ∧ Enters prog f29 ∧ Spec prog f29 (ug ++ #[.agg #[.string ADG,.string ADH],.agg #[.string ADI,.string ADJ]] ++ uh) σ (AA R (CI .i64 fun x29 y => Br (x29 ≠ 0) (R (.returned (.int .i64 x29)) y) (AG (FE + 1) ∧ MY R p0 n0 c0 (aD b24 o24) n1 c1 v2 (aD G8 Lz) n11 Ly x12 (FE + 1) y))))) (Br ((n0 : Int) < (n1 : Int)) (R (.returned (.int .i64 (-1))) σ) (R (.returned (.int .i64 0)) σ))) : MY R p0 n0 c0 p1 n1 c1 v2 Lx n11 Ly x12 FE σ := M.of h ok rfl
end A3
namespace Jq
variable {x0 : Int}
def M : Fw := ⟨prog,124,f124,[],[],false,[],[],[]⟩
theorem ok : M.Ok := ⟨AJ.nil,mixed,func124,by kernel_rfl⟩
theorem start (h : Br (5 ≤ x0) (R (.returned (.bool (decide (x0 ≤ 10)))) σ) (R (.returned (.bool false)) σ)) : Spec prog 124 #[.int .i64 x0] σ R := M.start h ok
end Jq
namespace PH
variable {s0 : ByteArray}
def M : Fw := ⟨prog,140,f140,[172,173,174],[],false,[],[],[]⟩
theorem ok : M.Ok := ⟨.cons call172 (.cons call173 (.cons call174 (AJ.nil))),mixed,func140,by kernel_rfl⟩
theorem start (h : Spec prog 172 #[.string s0] σ (AA R (CB fun t7 y => Bn t7 (R (.returned (.tuple #[.int .u64 0,.bool false])) y) (Spec prog 173 #[.string s0,.int .i64 64] y (AA R (fun z AH => ∃ fQ fR,z = (.tuple #[fQ,fR]) ∧ Spec prog 174 #[fQ] AH (AA R (CI .u64 fun x15 AL => R (.returned (.tuple #[.int .u64 x15,.bool true])) AL)))))))) : Spec prog 140 #[.string s0] σ R := M.start h ok
end PH
namespace Q7
variable {p0 p1 : Option Addr} {n0 c0 n1 c1 : Nat}
def M : Fw := ⟨prog,149,f149,[197],[],false,[],[],[]⟩
theorem ok : M.Ok := ⟨.cons call197 (AJ.nil),mixed,func149,by kernel_rfl⟩
theorem start (h : Al σ fun b3 => Spec prog 197 #[.slice p0 n0 c0,(.func (.func 198) #[] #[(.pointer (aD b3 0))])] (Hp.set σ b3 (.cells #[.slice p1 n1 c1] 34 (0,0))) (AA R (CS fun p7 n7 c7 y => R (.returned (.slice p7 n7 c7)) y))) : Spec prog 149 #[.slice p0 n0 c0,.slice p1 n1 c1] σ R := M.start h ok
end Q7
namespace Db
variable {p0 : Option Addr} {n0 c0 : Nat}
def M : Fw := ⟨prog,153,f153,[202],[],false,[],[],[]⟩
theorem ok : M.Ok := ⟨.cons call202 (AJ.nil),mixed,func153,by kernel_rfl⟩
theorem start (h : Spec prog 202 #[.int .i64 9,.slice p0 n0 c0] σ (AA R (CI .u64 fun x4 y => R (.returned (.int .u64 x4)) y))) : Spec prog 153 #[.slice p0 n0 c0] σ R := M.start h ok
end Db
namespace DE
variable {x0 : Int} {b1 b2 : Nat}
def M : Fw := ⟨prog,159,f159,[156],[],false,[],[],[]⟩
theorem ok : M.Ok := ⟨.cons call156 (AJ.nil),mixed,func159,by kernel_rfl⟩
theorem start (h : ∃ Ft Fu s6c Fv Fy Fz x6e x6f x6g p6h n6h c6h t6i x6j,Au σ b1 0 [.int .i64 Ft,.int .i64 Fu,.string s6c,.slice Fv Fy Fz,.int .i64 x6e,.int .i64 x6f,.int .i64 x6g,.slice p6h n6h c6h,.bool t6i,.int .i64 x6j] ∧ LI .u64 σ b2 1 fun x9 => Spec prog 156 #[.agg #[.int .i64 Ft,.int .i64 Fu,.string s6c,.slice Fv Fy Fz,.int .i64 x6e,.int .i64 x6f,.int .i64 x6g,.slice p6h n6h c6h,.bool t6i,.int .i64 x6j],.int .u64 x0,.int .u64 x9] σ (AA R (fun z y => ∃ Jr Q8,z = (.tuple #[.int .u64 Jr,.bool Q8]) ∧ R (.returned (.tuple #[.int .u64 Jr,.bool Q8])) y))) : Spec prog 159 #[.int .u64 x0,(.pointer (aD b1 0)),(.pointer (aD b2 0))] σ R := M.start h ok
end DE
namespace PI
variable {s0 : ByteArray}
def M : Fw := ⟨prog,172,f172,[213],[],false,[],[],[]⟩
theorem ok : M.Ok := ⟨.cons call213 (AJ.nil),mixed,func172,by kernel_rfl⟩
theorem start (h : Spec prog 213 #[.string s0] σ (AA R (CI .i64 fun x6 y => Br (x6 = 0) (R (.returned (.bool false)) y) (Br (1 < x6) (∃ LK : UInt8,(0 : Int) ≤ 0 ∧ (ByteArray.data s0)[Int.toNat 0]? = some LK ∧ Br ((((UInt8.toNat LK : Nat) : Int) : Int) = 48) (R (.returned (.bool false)) y) (Br (x6 = ((ByteArray.size s0 : Nat) : Int)) (R (.returned (.bool (decide (x6 ≤ 15)))) y) (AG (x6 + 1) ∧ ∃ ui,YF prog (Instr.sliceAt 9 (.string s0) (some (.int .i64 (x6 + 1))) none none) y (.string ui) ∧ Spec prog 213 #[.string ui] y (AA R (CI .i64 fun MZ AH => ∃ L9 : UInt8,0 ≤ x6 ∧ (ByteArray.data s0)[Int.toNat x6]? = some L9 ∧ Br ((((UInt8.toNat L9 : Nat) : Int) : Int) = 46) (Br (0 < MZ) (AG (x6 + 1) ∧ AG ((x6 + 1) + MZ) ∧ Br ((((x6 + 1) + MZ) : Int) = ((ByteArray.size s0 : Nat) : Int)) (AG (x6 + MZ) ∧ R (.returned (.bool (decide (((x6 + MZ) : Int) ≤ 15)))) AH) (R (.returned (.bool false)) AH)) (R (.returned (.bool false)) AH)) (R (.returned (.bool false)) AH)))))) (Br (x6 = ((ByteArray.size s0 : Nat) : Int)) (R (.returned (.bool (decide (x6 ≤ 15)))) y) (AG (x6 + 1) ∧ ∃ ui,YF prog (Instr.sliceAt 9 (.string s0) (some (.int .i64 (x6 + 1))) none none) y (.string ui) ∧ Spec prog 213 #[.string ui] y (AA R (CI .i64 fun MZ AH => ∃ L9 : UInt8,0 ≤ x6 ∧ (ByteArray.data s0)[Int.toNat x6]? = some L9 ∧ Br ((((UInt8.toNat L9 : Nat) : Int) : Int) = 46) (Br (0 < MZ) (AG (x6 + 1) ∧ AG ((x6 + 1) + MZ) ∧ Br ((((x6 + 1) + MZ) : Int) = ((ByteArray.size s0 : Nat) : Int)) (AG (x6 + MZ) ∧ R (.returned (.bool (decide (((x6 + MZ) : Int) ≤ 15)))) AH) (R (.returned (.bool false)) AH)) (R (.returned (.bool false)) AH)) (R (.returned (.bool false)) AH))))))))) : Spec prog 172 #[.string s0] σ R := M.start h ok
end PI
namespace cd
variable {x0 : Int}
def M : Fw := ⟨prog,182,f182,[],[],false,[],[],[]⟩
theorem ok : M.Ok := ⟨AJ.nil,mixed,func182,by kernel_rfl⟩
theorem start (h : EN prog 22 #[.int .u64 x0] σ (fun z y => ∃ x4,(Value.float .f64 x4) = z ∧ R (.returned (Value.float .f64 x4)) y)) : Spec prog 182 #[.int .u64 x0] σ R := M.start h ok
end cd
namespace NB
variable {f0 : Fn} {a0 c0 : Array Value}
def M : Fw := ⟨prog,188,f188,[],[],false,[],[],[]⟩
theorem ok : M.Ok := ⟨AJ.nil,mixed,func188,by kernel_rfl⟩
theorem start (h : Al σ fun b1 => R (.returned (.func (.func 226) #[] #[(.pointer (aD b1 0))])) (Hp.set σ b1 (.cells #[(Value.func f0 a0 c0)] 232 (0,0)))) : Spec prog 188 #[(Value.func f0 a0 c0)] σ R := M.FD h ok [(0,.o (.V (Value.func f0 a0 c0)))] rfl rfl (by kernel_rfl)
end NB
namespace CR
variable {p0 p5 p8 : Option Addr} {n0 c0 n5 c5 n8 c8 : Nat} {v1 : Value} {x9 x10 : Int}
def M : Fw := ⟨prog,197,f197,[],[7],false,[],[],[(232,[(1,wV),(5,wL),(8,wL),(9,wI),(10,wI)]),(935,[(1,wV),(5,wL),(8,wL),(9,wI),(10,wI)])]⟩
theorem ok : M.Ok := ⟨AJ.nil,mixed,func197,by kernel_rfl⟩
def BA := M.pt 0
def XO := M.pt 1
theorem start (h : BA R v1 none 0 0 p0 n0 c0 (n0 : Int) 0 σ) : Spec prog 197 #[.slice p0 n0 c0,v1] σ R := M.FD h ok [(0,.o (.L p0 n0 c0)),(1,.o (.V v1))] rfl rfl (by kernel_rfl)
theorem Ac (h : Br (x10 < x9) (Pq p8 fun Ta Tl => In x10 (n8 : Int) ∧ ∃ ya fS,Au σ Ta (Tl + Int.toNat x10 * 2) [.string ya,.string fS] ∧ ∀ b7 : Nat,∃ (f16 : Nat) (uj uo : Array Value),v1 = .func (.func f16) uj uo ∧ Enters prog f16 ∧ Spec prog f16 (uj ++ #[.agg #[.string ya,.string fS]] ++ uo) σ (AA R (CB fun t16 y => Bo t16 (Al y fun CY => AK prog (Builtin.append_ #[37,37] 37 #[.slice p5 n5 c5,(.slice (aD CY 0) 1 1)]) (Hp.set y CY (.cells #[.string ya,.string fS] 56 (0,0))) (CS fun p20 n20 c20 AH => XO R v1 p20 n20 c20 (aD Ta Tl) n8 c8 x9 x10 AH)) (XO R v1 p5 n5 c5 (aD Ta Tl) n8 c8 x9 x10 y)))) (R (.returned (.slice p5 n5 c5)) σ)) : BA R v1 p5 n5 c5 p8 n8 c8 x9 x10 σ := M.of h ok rfl
theorem QI (h : AG (x10 + 1) ∧ BA R v1 p5 n5 c5 p8 n8 c8 x9 (x10 + 1) σ) : XO R v1 p5 n5 c5 p8 n8 c8 x9 x10 σ := M.of h ok rfl
end CR
namespace BR
variable {p0 : Option Addr} {n0 c0 : Nat} {s1 : ByteArray} {x7 x8 : Int}
def M : Fw := ⟨prog,228,f228,[],[],false,[],[],[(104,[(0,wL),(1,wT),(7,wI),(8,wI)])]⟩
theorem ok : M.Ok := ⟨AJ.nil,mixed,func228,by kernel_rfl⟩
def MY := M.pt 0
theorem start (h : MY R p0 n0 c0 s1 (n0 : Int) 0 σ) : Spec prog 228 #[.slice p0 n0 c0,.string s1] σ R := M.start h ok
theorem C3 (h : Br (x8 < x7) (Pq p0 fun Bt TY => In x8 (n0 : Int) ∧ LT σ Bt (TY + Int.toNat x8 * 1) fun s15 => Bo (ByteArray.toList s1 == ByteArray.toList s15) (R (.returned (.int .i64 x8)) σ) (AG (x8 + 1) ∧ MY R (aD Bt TY) n0 c0 s1 x7 (x8 + 1) σ)) (R (.returned (.int .i64 (-1))) σ)) : MY R p0 n0 c0 s1 x7 x8 σ := M.of h ok rfl
end BR
namespace Bf
variable {s0 : ByteArray} {x1 : Int}
def M : Fw := ⟨prog,231,f231,[252,253],[],false,[],[],[]⟩
theorem ok : M.Ok := ⟨.cons call252 (.cons call253 (AJ.nil)),mixed,func231,by kernel_rfl⟩
theorem start (h : Br (x1 = 32) (Spec prog 252 #[.string s0] σ (AA R (fun z y => ∃ ADT fT ADU,z = (.tuple #[ADT,.int .i64 fT,ADU]) ∧ AK prog (convert 280 51 ADT) y (fun z AH => ∃ BS,(Value.float .f64 BS) = z ∧ R (.returned (.tuple #[(Value.float .f64 BS),.int .i64 fT,ADU])) AH)))) (Spec prog 253 #[.string s0] σ (AA R (fun z y => ∃ ADV ADW ADX,z = (.tuple #[ADV,.int .i64 ADW,ADX]) ∧ R (.returned (.tuple #[ADV,.int .i64 ADW,ADX])) y)))) : Spec prog 231 #[.string s0,.int .i64 x1] σ R := M.start h ok
end Bf
namespace HM
variable {s0 s1 : ByteArray}
def M : Fw := ⟨prog,285,f285,[315],[],false,[],[],[]⟩
theorem ok : M.Ok := ⟨.cons call315 (AJ.nil),mixed,func285,by kernel_rfl⟩
theorem start (h : Spec prog 315 #[.string s0,.string s1] σ (AA R (CB fun t7 y => R (.returned (.bool t7)) y))) : Spec prog 285 #[.string s0,.string s1] σ R := M.start h ok
end HM
end TwW
end
end
section
set_option maxRecDepth 100000
noncomputable section
namespace TwW
open Go Tw Go.Proofs.Tryz
variable [Er] {R : Rr} {σ : Hp}

namespace A0
variable {p0 p1 p9 Li Tm : Option Addr} {n0 c0 n1 c1 n9 c9 Lj Lk Q9 Tn : Nat} {x2 x3 x10 x12 : Int}
def M : Fw := ⟨prog,16,f16,[38],[11,13],false,[],[],[(464,[(0,wL),(1,wL),(2,wI),(3,wI),(9,wL),(10,wI)]),(467,[(0,wL),(1,wL),(2,wI),(3,wI),(9,wL),(10,wI)]),(238800,[(0,wL),(1,wL),(2,wI),(3,wI),(9,wL),(10,wI),(11,.X 40 [.L,.L]),(12,wI)]),(238803,[(0,wL),(1,wL),(2,wI),(3,wI),(9,wL),(10,wI),(11,.X 40 [.L,.L]),(12,wI)])]⟩
theorem ok : M.Ok := ⟨.cons call38 (AJ.nil),mixed,func16,by kernel_rfl⟩
def Ak := M.pt 0
def Hg := M.pt 1
def XP := M.pt 2
def GG := M.pt 3
theorem start (h : Ak R p0 n0 c0 p1 n1 c1 x2 x3 none 0 0 0 σ) : Spec prog 16 #[.slice p0 n0 c0,.slice p1 n1 c1,.int .i64 x2,.int .i64 x3] σ R := M.start h ok
theorem AX (h : Br (x10 < (n0 : Int)) (Pq p0 fun Lh Vf => In x10 (n0 : Int) ∧ LS σ Lh (Vf + Int.toNat x10 * 2) fun fU n25 fV => Spec prog 38 #[.slice p1 n1 c1,.slice fU n25 fV] σ (AA R (CB fun t26 y => Bn t26 (Hg R (aD Lh Vf) n0 c0 p1 n1 c1 x2 x3 p9 n9 c9 x10 y) (Al y fun b28 => In x10 (n0 : Int) ∧ LS (Hp.set y b28 (.cells #[] 56 (0,0))) Lh (Vf + Int.toNat x10 * 2) fun p33 n33 uq => AK prog (Builtin.append_ #[37,37] 37 #[(.slice (aD b28 0) 0 0),.slice p33 n33 uq]) (Hp.set y b28 (.cells #[] 56 (0,0))) (CS fun yb n34 yc AH => ∀ BG : Nat,XP R (aD Lh Vf) n0 c0 p1 n1 c1 x2 x3 p9 n9 c9 x10 yb n34 yc none 0 0 0 AH))))) (R (.returned (.slice p9 n9 c9)) σ)) : Ak R p0 n0 c0 p1 n1 c1 x2 x3 p9 n9 c9 x10 σ := M.of h ok rfl
theorem HN (h : AG (x10 + 1) ∧ Ak R p0 n0 c0 p1 n1 c1 x2 x3 p9 n9 c9 (x10 + 1) σ) : Hg R p0 n0 c0 p1 n1 c1 x2 x3 p9 n9 c9 x10 σ := M.of h ok rfl
theorem QJ (h : Pq p0 fun We cg => In x10 (n0 : Int) ∧ LS σ We ((cg + Int.toNat x10 * 2) + 1) fun kE n41 aB => Br (x12 < (n41 : Int)) (In x10 (n0 : Int) ∧ LS σ We ((cg + Int.toNat x10 * 2) + 1) fun XQ n50 ZA => Pq XQ fun b52 o52 => In x12 (n50 : Int) ∧ ∃ rD XR,Au σ b52 (o52 + Int.toNat x12 * 2) [.int .i64 rD,.int .u64 XR] ∧ ∀ CX : Nat,Br (x2 ≤ rD) (Br (rD ≤ x3) (Al σ fun b67 => AK prog (Builtin.append_ #[38,38] 38 #[.slice Tm Q9 Tn,(.slice (aD b67 0) 1 1)]) (Hp.set σ b67 (.cells #[.int .i64 rD,.int .u64 XR] 50 (0,0))) (CS fun p68 n68 c68 y => GG R (aD We cg) n0 c0 p1 n1 c1 x2 x3 p9 n9 c9 x10 Li Lj Lk p68 n68 c68 x12 y)) (GG R (aD We cg) n0 c0 p1 n1 c1 x2 x3 p9 n9 c9 x10 Li Lj Lk Tm Q9 Tn x12 σ)) (GG R (aD We cg) n0 c0 p1 n1 c1 x2 x3 p9 n9 c9 x10 Li Lj Lk Tm Q9 Tn x12 σ)) (Br (0 < (Q9 : Int)) (Al σ fun b76 => AK prog (Builtin.append_ #[23,23] 23 #[.slice p9 n9 c9,(.slice (aD b76 0) 1 1)]) (Hp.set σ b76 (.cells #[.slice Li Lj Lk,.slice Tm Q9 Tn] 40 (0,0))) (CS fun p77 n77 c77 y => Hg R (aD We cg) n0 c0 p1 n1 c1 x2 x3 p77 n77 c77 x10 y)) (Hg R (aD We cg) n0 c0 p1 n1 c1 x2 x3 p9 n9 c9 x10 σ))) : XP R p0 n0 c0 p1 n1 c1 x2 x3 p9 n9 c9 x10 Li Lj Lk Tm Q9 Tn x12 σ := M.pb h ok rfl fun _ => by kernel_rfl
theorem Dk (h : AG (x12 + 1) ∧ XP R p0 n0 c0 p1 n1 c1 x2 x3 p9 n9 c9 x10 Li Lj Lk Tm Q9 Tn (x12 + 1) σ) : GG R p0 n0 c0 p1 n1 c1 x2 x3 p9 n9 c9 x10 Li Lj Lk Tm Q9 Tn x12 σ := M.pb h ok rfl fun _ => by kernel_rfl
end A0
namespace Ca
variable {p0 p1 : Option Addr} {n0 c0 n1 c1 : Nat} {x5 : Int}
def M : Fw := ⟨prog,18,f18,[36,41],[],false,[],[],[(464,[(0,wL),(1,wL),(5,wI)])]⟩
theorem ok : M.Ok := ⟨.cons call36 (.cons call41 (AJ.nil)),mixed,func18,by kernel_rfl⟩
def A5 := M.pt 0
theorem start (h : Br ((n0 : Int) ≠ (n1 : Int)) (R (.returned (.bool false)) σ) (A5 R p0 n0 c0 p1 n1 c1 0 σ)) : Spec prog 18 #[.slice p0 n0 c0,.slice p1 n1 c1] σ R := M.start h ok
theorem A7 (h : Br (x5 < (n0 : Int)) (Pq p0 fun CY Wd => In x5 (n0 : Int) ∧ LS σ CY (Wd + Int.toNat x5 * 2) fun Oc n21 Ma => Pq p1 fun b24 o24 => In x5 (n1 : Int) ∧ LS σ b24 (o24 + Int.toNat x5 * 2) fun p26 n26 c26 => Spec prog 41 #[.slice Oc n21 Ma,.slice p26 n26 c26] σ (AA R (CB fun t27 y => Bn t27 (R (.returned (.bool false)) y) (In x5 (n0 : Int) ∧ LS y CY ((Wd + Int.toNat x5 * 2) + 1) fun yb n34 yc => In x5 (n1 : Int) ∧ LS y b24 ((o24 + Int.toNat x5 * 2) + 1) fun p39 n39 c39 => Spec prog 36 #[.slice yb n34 yc,.slice p39 n39 c39] y (AA R (CB fun t40 AH => Bn t40 (R (.returned (.bool false)) AH) (AG (x5 + 1) ∧ A5 R (aD CY Wd) n0 c0 (aD b24 o24) n1 c1 (x5 + 1) AH))))))) (R (.returned (.bool true)) σ)) : A5 R p0 n0 c0 p1 n1 c1 x5 σ := M.of h ok rfl
end Ca
namespace Ag
variable {p0 : Option Addr} {n0 c0 : Nat} {x3 x4 : Int}
def M : Fw := ⟨prog,39,f39,[56,57],[],false,[(9,20,true)],[],[(208,[(0,wL),(3,wI)]),(26928,[(0,wL),(3,wI),(4,wI)])]⟩
theorem ok : M.Ok := ⟨.cons call56 (.cons call57 (AJ.nil)),mixed,func39,by kernel_rfl⟩
def F3 := M.pt 0
def aC := M.pt 1
theorem start (h : F3 R p0 n0 c0 0 σ) : Spec prog 39 #[.slice p0 n0 c0] σ R := M.start h ok
theorem As (h : Br (x3 < (n0 : Int)) (Pq p0 fun CX Vg => In x3 (n0 : Int) ∧ LS σ CX (Vg + Int.toNat x3 * 2) fun EA n15 Dt => Spec prog 56 #[.slice EA n15 Dt] σ (AA R (CI .i64 fun x16 y => Br (x16 ≠ 0) (R (.returned (.int .i64 100)) y) (In x3 (n0 : Int) ∧ LS y CX ((Vg + Int.toNat x3 * 2) + 1) fun Z2 n23 Z3 => Br ((n23 : Int) = 0) (R (.returned (.int .i64 100)) y) (Br (0 < x3) (AG (x3 - 1) ∧ In (x3 - 1) (n0 : Int) ∧ LS y CX (Vg + Int.toNat (x3 - 1) * 2) fun p36 n36 c36 => In x3 (n0 : Int) ∧ LS y CX (Vg + Int.toNat x3 * 2) fun kE n41 aB => Spec prog 57 #[.slice p36 n36 c36,.slice kE n41 aB] y (AA R (CI .i64 fun Vh AH => Br (0 ≤ Vh) (R (.returned (.int .i64 100)) AH) (aC R (aD CX Vg) n0 c0 x3 1 AH)))) (aC R (aD CX Vg) n0 c0 x3 1 y)))))) (R (.returned (.int .i64 0)) σ)) : F3 R p0 n0 c0 x3 σ := M.of h ok rfl
theorem QK (h : Pq p0 fun PJ o49 => In x3 (n0 : Int) ∧ LS σ PJ ((o49 + Int.toNat x3 * 2) + 1) fun p51 n51 c51 => Br (x4 < (n51 : Int)) (In x3 (n0 : Int) ∧ LS σ PJ ((o49 + Int.toNat x3 * 2) + 1) fun p60 n60 c60 => Pq p60 fun ph o62 => In x4 (n60 : Int) ∧ LI .i64 σ ph (o62 + Int.toNat x4 * 2) fun rE => In x3 (n0 : Int) ∧ LS σ PJ ((o49 + Int.toNat x3 * 2) + 1) fun rF n69 ur => AG (x4 - 1) ∧ Pq rF fun yd ye => In (x4 - 1) (n69 : Int) ∧ LI .i64 σ yd (ye + Int.toNat (x4 - 1) * 2) fun x74 => Br (rE ≤ x74) (R (.returned (.int .i64 100)) σ) (AG (x4 + 1) ∧ aC R (aD PJ o49) n0 c0 x3 (x4 + 1) σ)) (AG (x3 + 1) ∧ F3 R (aD PJ o49) n0 c0 (x3 + 1) σ)) : aC R p0 n0 c0 x3 x4 σ := M.of h ok rfl
end Ag
namespace XS
variable {p0 : Option Addr} {n0 c0 : Nat}
def M : Fw := ⟨prog,49,f49,[72],[],false,[],[],[]⟩
theorem ok : M.Ok := ⟨.cons call72 (AJ.nil),mixed,func49,by kernel_rfl⟩
theorem start (h : Spec prog 72 #[.slice p0 n0 c0] σ (AA R (CS fun p4 n4 c4 y => AK prog (convert 90 9 (.slice p4 n4 c4)) y (CT fun s5 AH => R (.returned (.string s5)) AH)))) : Spec prog 49 #[.slice p0 n0 c0] σ R := M.start h ok
end XS
namespace RA
def M : Fw := ⟨prog,70,f70,[],[],false,[],[],[]⟩
theorem ok : M.Ok := ⟨AJ.nil,mixed,func70,by kernel_rfl⟩
theorem start (h : Al σ fun b1 => R (.returned (.slice (aD b1 0) 8 8)) (Hp.set σ b1 (.cells #[.nilFunc,(.func (.func 100) #[] #[]),(.func (.func 101) #[] #[]),(.func (.func 102) #[] #[]),(.func (.func 103) #[] #[]),(.func (.func 104) #[] #[]),(.func (.func 105) #[] #[]),(.func (.func 106) #[] #[])] 137 (0,0)))) : Spec prog 70 #[] σ R := M.start h ok
end RA
namespace RB
variable {Eu ES Pz NC Hk JM : Int} {P0 : ByteArray} {Ua RC : Option Addr} {To Ub QL RD : Nat} {Mb : Bool}
def M : Fw := ⟨prog,79,f79,[94,120,121,122,123,124],[1],false,[],[],[]⟩
theorem ok : M.Ok := ⟨.cons call94 (.cons call120 (.cons call121 (.cons call122 (.cons call123 (.cons call124 (AJ.nil)))))),mixed,func79,by kernel_rfl⟩
theorem start (h : ∀ b1 : Nat,Spec prog 121 #[.agg #[.int .i64 Eu,.int .i64 ES,.string P0,.slice Ua To Ub,.int .i64 Pz,.int .i64 NC,.int .i64 Hk,.slice RC QL RD,.bool Mb,.int .i64 JM]] σ (AA R (fun z y => ∃ Ip G9 Iq Ir Is Iu Iv Iw Ix Iy Iz I0 Js I1,z = (.agg #[.int .i64 Ip,.int .i64 G9,.string Iq,.slice Ir Is Iu,.int .i64 Iv,.int .i64 Iw,.int .i64 Ix,.slice Iy Iz I0,.bool Js,.int .i64 I1]) ∧ Spec prog 120 #[.agg #[.int .i64 Eu,.int .i64 ES,.string P0,.slice Ua To Ub,.int .i64 Pz,.int .i64 NC,.int .i64 Hk,.slice RC QL RD,.bool Mb,.int .i64 JM],.agg #[.int .i64 Ip,.int .i64 G9,.string Iq,.slice Ir Is Iu,.int .i64 Iv,.int .i64 Iw,.int .i64 Ix,.slice Iy Iz I0,.bool Js,.int .i64 I1]] y (AA R (CB fun t6 AH => Bn t6 (R (.returned (.bool false)) AH) (Spec prog 122 #[.agg #[.int .i64 Eu,.int .i64 ES,.string P0,.slice Ua To Ub,.int .i64 Pz,.int .i64 NC,.int .i64 Hk,.slice RC QL RD,.bool Mb,.int .i64 JM]] AH (AA R (CB fun t10 AL => Bn t10 (R (.returned (.bool false)) AL) (Br (0 < (To : Int)) (Br (Eu ≠ 2) (Br (Eu ≠ 3) (R (.returned (.bool false)) AL) (Br (Eu = 1) (Spec prog 94 #[.string P0] AL (AA R (CB fun t35 Av => R (.returned (.bool t35)) Av))) (Br (Eu = 2) (Spec prog 123 #[.int .i64 NC,.int .i64 0] AL (AA R (CB fun t40 Av => R (.returned (.bool t40)) Av))) (Br (Eu = 3) (Spec prog 123 #[.int .i64 Pz,.int .i64 1] AL (AA R (CB fun t45 Av => Bo t45 (Spec prog 123 #[.int .i64 NC,.int .i64 0] Av (AA R (CB fun t49 Hl => R (.returned (.bool t49)) Hl))) (R (.returned (.bool false)) Av)))) (Br (Eu = 4) (Br (JM = 1) (Br (1 ≤ ES) (R (.returned (.bool (decide (ES ≤ 12)))) AL) (R (.returned (.bool false)) AL)) (R (.returned (.bool false)) AL)) (Br (Eu = 5) (Br (JM = 1) (Br (1 ≤ ES) (Br (ES ≤ 5) (Br (Hk = 0) (R (.returned (.bool true)) AL) (Br (Hk = 1) (R (.returned (.bool true)) AL) (R (.returned (.bool (decide (Hk = 2)))) AL))) (R (.returned (.bool false)) AL)) (R (.returned (.bool false)) AL)) (R (.returned (.bool false)) AL)) (Br (Eu = 6) (Br (JM = 2) (Br (1 ≤ ES) (Br (ES ≤ 13) (Br (Hk = 0) (Bn Mb (R (.returned (.bool true)) AL) (Spec prog 124 #[.int .i64 ES] AL (AA R (CB fun t133 Av => R (.returned (.bool t133)) Av)))) (Br (Hk = 3) (Bn Mb (R (.returned (.bool true)) AL) (Spec prog 124 #[.int .i64 ES] AL (AA R (CB fun t133 Av => R (.returned (.bool t133)) Av)))) (Br (Hk = 4) (Bn Mb (R (.returned (.bool true)) AL) (Spec prog 124 #[.int .i64 ES] AL (AA R (CB fun t133 Av => R (.returned (.bool t133)) Av)))) (R (.returned (.bool false)) AL)))) (R (.returned (.bool false)) AL)) (R (.returned (.bool false)) AL)) (R (.returned (.bool false)) AL)) (Br (Eu = 7) (R (.returned (.bool (decide (JM = 1)))) AL) (R (.returned (.bool false)) AL))))))))) (Br (Eu = 1) (Spec prog 94 #[.string P0] AL (AA R (CB fun t35 Av => R (.returned (.bool t35)) Av))) (Br (Eu = 2) (Spec prog 123 #[.int .i64 NC,.int .i64 0] AL (AA R (CB fun t40 Av => R (.returned (.bool t40)) Av))) (Br (Eu = 3) (Spec prog 123 #[.int .i64 Pz,.int .i64 1] AL (AA R (CB fun t45 Av => Bo t45 (Spec prog 123 #[.int .i64 NC,.int .i64 0] Av (AA R (CB fun t49 Hl => R (.returned (.bool t49)) Hl))) (R (.returned (.bool false)) Av)))) (Br (Eu = 4) (Br (JM = 1) (Br (1 ≤ ES) (R (.returned (.bool (decide (ES ≤ 12)))) AL) (R (.returned (.bool false)) AL)) (R (.returned (.bool false)) AL)) (Br (Eu = 5) (Br (JM = 1) (Br (1 ≤ ES) (Br (ES ≤ 5) (Br (Hk = 0) (R (.returned (.bool true)) AL) (Br (Hk = 1) (R (.returned (.bool true)) AL) (R (.returned (.bool (decide (Hk = 2)))) AL))) (R (.returned (.bool false)) AL)) (R (.returned (.bool false)) AL)) (R (.returned (.bool false)) AL)) (Br (Eu = 6) (Br (JM = 2) (Br (1 ≤ ES) (Br (ES ≤ 13) (Br (Hk = 0) (Bn Mb (R (.returned (.bool true)) AL) (Spec prog 124 #[.int .i64 ES] AL (AA R (CB fun t133 Av => R (.returned (.bool t133)) Av)))) (Br (Hk = 3) (Bn Mb (R (.returned (.bool true)) AL) (Spec prog 124 #[.int .i64 ES] AL (AA R (CB fun t133 Av => R (.returned (.bool t133)) Av)))) (Br (Hk = 4) (Bn Mb (R (.returned (.bool true)) AL) (Spec prog 124 #[.int .i64 ES] AL (AA R (CB fun t133 Av => R (.returned (.bool t133)) Av)))) (R (.returned (.bool false)) AL)))) (R (.returned (.bool false)) AL)) (R (.returned (.bool false)) AL)) (R (.returned (.bool false)) AL)) (Br (Eu = 7) (R (.returned (.bool (decide (JM = 1)))) AL) (R (.returned (.bool false)) AL))))))))) (Br (Eu = 1) (Spec prog 94 #[.string P0] AL (AA R (CB fun t35 Av => R (.returned (.bool t35)) Av))) (Br (Eu = 2) (Spec prog 123 #[.int .i64 NC,.int .i64 0] AL (AA R (CB fun t40 Av => R (.returned (.bool t40)) Av))) (Br (Eu = 3) (Spec prog 123 #[.int .i64 Pz,.int .i64 1] AL (AA R (CB fun t45 Av => Bo t45 (Spec prog 123 #[.int .i64 NC,.int .i64 0] Av (AA R (CB fun t49 Hl => R (.returned (.bool t49)) Hl))) (R (.returned (.bool false)) Av)))) (Br (Eu = 4) (Br (JM = 1) (Br (1 ≤ ES) (R (.returned (.bool (decide (ES ≤ 12)))) AL) (R (.returned (.bool false)) AL)) (R (.returned (.bool false)) AL)) (Br (Eu = 5) (Br (JM = 1) (Br (1 ≤ ES) (Br (ES ≤ 5) (Br (Hk = 0) (R (.returned (.bool true)) AL) (Br (Hk = 1) (R (.returned (.bool true)) AL) (R (.returned (.bool (decide (Hk = 2)))) AL))) (R (.returned (.bool false)) AL)) (R (.returned (.bool false)) AL)) (R (.returned (.bool false)) AL)) (Br (Eu = 6) (Br (JM = 2) (Br (1 ≤ ES) (Br (ES ≤ 13) (Br (Hk = 0) (Bn Mb (R (.returned (.bool true)) AL) (Spec prog 124 #[.int .i64 ES] AL (AA R (CB fun t133 Av => R (.returned (.bool t133)) Av)))) (Br (Hk = 3) (Bn Mb (R (.returned (.bool true)) AL) (Spec prog 124 #[.int .i64 ES] AL (AA R (CB fun t133 Av => R (.returned (.bool t133)) Av)))) (Br (Hk = 4) (Bn Mb (R (.returned (.bool true)) AL) (Spec prog 124 #[.int .i64 ES] AL (AA R (CB fun t133 Av => R (.returned (.bool t133)) Av)))) (R (.returned (.bool false)) AL)))) (R (.returned (.bool false)) AL)) (R (.returned (.bool false)) AL)) (R (.returned (.bool false)) AL)) (Br (Eu = 7) (R (.returned (.bool (decide (JM = 1)))) AL) (R (.returned (.bool false)) AL))))))))))))))))) : Spec prog 79 #[.agg #[.int .i64 Eu,.int .i64 ES,.string P0,.slice Ua To Ub,.int .i64 Pz,.int .i64 NC,.int .i64 Hk,.slice RC QL RD,.bool Mb,.int .i64 JM]] σ R := M.start h ok
end RB
namespace ET
variable {q0 Du EB p2 : Option Addr} {Dl Cc Dm Dx DT Cm : Int} {Dn : ByteArray} {Dy Dz D0 EC n2 c2 : Nat} {DU : Bool}
def M : Fw := ⟨prog,83,f83,[],[4],false,[],[],[]⟩
theorem ok : M.Ok := ⟨AJ.nil,mixed,func83,by kernel_rfl⟩
theorem start (h : ∀ b4 : Nat,Pq p2 fun b9 o9 => In 0 (n2 : Int) ∧ LI .i64 σ b9 o9 fun x11 => Br (x11 ≠ 2) (R (.returned (.tuple #[.int .i64 0,.int .i64 191])) σ) (R (.returned (.tuple #[.int .i64 2,.int .i64 0])) σ)) : Spec prog 83 #[.pointer q0,.agg #[.int .i64 Dl,.int .i64 Cc,.string Dn,.slice Du Dy Dz,.int .i64 Dm,.int .i64 Dx,.int .i64 DT,.slice EB D0 EC,.bool DU,.int .i64 Cm],.slice p2 n2 c2] σ R := M.start h ok
end ET
namespace MA
variable {p0 : Option Addr} {n0 c0 : Nat} {s1 : ByteArray}
def M : Fw := ⟨prog,108,f108,[107],[],false,[],[],[]⟩
theorem ok : M.Ok := ⟨.cons call107 (AJ.nil),mixed,func108,by kernel_rfl⟩
theorem start (h : Df (IntKind.u64.wrap ((ByteArray.size s1 : Nat) : Int)) fun x8 => Spec prog 107 #[.slice p0 n0 c0,.int .u64 x8] σ (AA R (CS fun p9 n9 c9 y => AK prog (Builtin.append_ #[90,9] 90 #[.slice p9 n9 c9,.string s1]) y (CS fun Lx n11 Ly AH => R (.returned (.slice Lx n11 Ly)) AH)))) : Spec prog 108 #[.slice p0 n0 c0,.string s1] σ R := M.start h ok
end MA
namespace CC
variable {s0 s1 : ByteArray}
def M : Fw := ⟨prog,119,f119,[],[],false,[],[],[]⟩
theorem ok : M.Ok := ⟨AJ.nil,mixed,func119,by kernel_rfl⟩
theorem start (h : EN prog 168 #[.string s0,.string s1] σ (CI .i64 fun x7 y => R (.returned (.int .i64 x7)) y)) : Spec prog 119 #[.string s0,.string s1] σ R := M.start h ok
end CC
namespace PK
variable {Eu ES Pz NC Hk JM Dl Cc Dm Dx DT Cm : Int} {P0 Dn : ByteArray} {Ua RC Du EB : Option Addr} {To Ub QL RD Dy Dz D0 EC : Nat} {Mb DU : Bool}
def M : Fw := ⟨prog,120,f120,[],[2,3],false,[],[],[]⟩
theorem ok : M.Ok := ⟨AJ.nil,mixed,func120,by kernel_rfl⟩
theorem start (h : ∀ b2 : Nat,∀ b3 : Nat,Br (Eu = Dl) (Br (ES = Cc) (Bo (ByteArray.toList P0 == ByteArray.toList Dn) (Br (Pz = Dm) (Br (NC = Dx) (Br (Hk = DT) (Bo Mb (Bo DU (R (.returned (.bool (decide (JM = Cm)))) σ) (R (.returned (.bool false)) σ)) (Bo DU (R (.returned (.bool false)) σ) (R (.returned (.bool (decide (JM = Cm)))) σ))) (R (.returned (.bool false)) σ)) (R (.returned (.bool false)) σ)) (R (.returned (.bool false)) σ)) (R (.returned (.bool false)) σ)) (R (.returned (.bool false)) σ)) (R (.returned (.bool false)) σ)) : Spec prog 120 #[.agg #[.int .i64 Eu,.int .i64 ES,.string P0,.slice Ua To Ub,.int .i64 Pz,.int .i64 NC,.int .i64 Hk,.slice RC QL RD,.bool Mb,.int .i64 JM],.agg #[.int .i64 Dl,.int .i64 Cc,.string Dn,.slice Du Dy Dz,.int .i64 Dm,.int .i64 Dx,.int .i64 DT,.slice EB D0 EC,.bool DU,.int .i64 Cm]] σ R := M.start h ok
end PK
namespace RE
variable {x0 : Int}
def M : Fw := ⟨prog,125,f125,[],[],false,[],[],[]⟩
theorem ok : M.Ok := ⟨AJ.nil,mixed,func125,by kernel_rfl⟩
theorem start (h : Br (1 ≤ x0) (R (.returned (.bool (decide (x0 ≤ 4)))) σ) (R (.returned (.bool false)) σ)) : Spec prog 125 #[.int .i64 x0] σ R := M.start h ok
end RE
namespace Gr
variable {p0 : Option Addr} {n0 c0 : Nat}
def M : Fw := ⟨prog,155,f155,[143],[],false,[],[],[]⟩
theorem ok : M.Ok := ⟨.cons call143 (AJ.nil),mixed,func155,by kernel_rfl⟩
theorem start (h : Spec prog 143 #[(.int .i64 (n0 : Int))] σ (AA R (CI .u64 fun x5 y => R (.returned (.int .u64 x5)) y))) : Spec prog 155 #[.slice p0 n0 c0] σ R := M.start h ok
end Gr
namespace Ax
variable {q0 Du EB p2 p3 Ir Iy En Ev Jc kE : Option Addr} {Dl Cc Dm Dx DT Cm Ip G9 Iv Iw Ix I1 Ew Ex Vh ck : Int} {Dn Iq : ByteArray} {Dy Dz D0 EC n2 c2 n3 c3 Is Iu Iz I0 Eo Ep Ey Ez n14 H7 n41 aB : Nat} {DU Js : Bool} {m12 : Option Nat}
def M : Fw := ⟨prog,161,f161,[49,124,148,156,206,207],[5,8,16,18],false,[],[],[(2024,[(5,.X 36 [.I .i64,.I .i64,.T,.L,.I .i64,.I .i64,.I .i64,.L,.B,.I .i64]),(8,.X 93 [.I .i64,.I .u64,.L,.L]),(12,wM),(14,wL),(41,wL),(42,wI),(43,wI)]),(8103,[(5,.X 36 [.I .i64,.I .i64,.T,.L,.I .i64,.I .i64,.I .i64,.L,.B,.I .i64]),(8,.X 93 [.I .i64,.I .u64,.L,.L]),(12,wM),(14,wL),(41,wL),(42,wI),(43,wI)])]⟩
theorem ok : M.Ok := ⟨.cons call49 (.cons call124 (.cons call148 (.cons call156 (.cons call206 (.cons call207 (AJ.nil)))))),mixed,func161,by kernel_rfl⟩
def rG := M.pt 0
def ND := M.pt 1
theorem start (h : ∀ b5 : Nat,∀ b8 : Nat,Spec prog 206 #[.agg #[.int .i64 Dl,.int .i64 Cc,.string Dn,.slice Du Dy Dz,.int .i64 Dm,.int .i64 Dx,.int .i64 DT,.slice EB D0 EC,.bool DU,.int .i64 Cm],.slice p2 n2 c2] σ (AA R (fun z y => ∃ ALC kF,z = (.tuple #[.map ALC,.bool kF]) ∧ Spec prog 206 #[.agg #[.int .i64 Dl,.int .i64 Cc,.string Dn,.slice Du Dy Dz,.int .i64 Dm,.int .i64 Dx,.int .i64 DT,.slice EB D0 EC,.bool DU,.int .i64 Cm],.slice p3 n3 c3] y (AA R (fun z AH => ∃ ADa ADb,z = (.tuple #[.map ADa,.bool ADb]) ∧ Bn kF (R (.returned (.tuple #[.agg #[.int .i64 0,.int .u64 0,.slice none 0 0,.slice none 0 0],.int .i64 223])) AH) (Bn ADb (R (.returned (.tuple #[.agg #[.int .i64 0,.int .u64 0,.slice none 0 0,.slice none 0 0],.int .i64 223])) AH) (rG R Dl Cc Dn Du Dy Dz Dm Dx DT EB D0 EC DU Cm 0 0 none 0 0 none 0 0 ADa none 0 0 p2 n2 c2 (n2 : Int) 0 AH))))))) : Spec prog 161 #[.pointer q0,.agg #[.int .i64 Dl,.int .i64 Cc,.string Dn,.slice Du Dy Dz,.int .i64 Dm,.int .i64 Dx,.int .i64 DT,.slice EB D0 EC,.bool DU,.int .i64 Cm],.slice p2 n2 c2,.slice p3 n3 c3] σ R := M.start h ok
theorem cm (h : Br (ck < Vh) (Pq kE fun iX iY => In ck (n41 : Int) ∧ ∃ yf yh yi yj,Au σ iX (iY + Int.toNat ck * 2) [.slice yf yh yi,.int .u64 yj] ∧ ∀ G8 : Nat,Spec prog 207 #[.agg #[.int .i64 Ip,.int .i64 G9,.string Iq,.slice Ir Is Iu,.int .i64 Iv,.int .i64 Iw,.int .i64 Ix,.slice Iy Iz I0,.bool Js,.int .i64 I1],.slice yf yh yi] σ (AA R (CS fun XQ n50 ZA y => Spec prog 49 #[.slice XQ n50 ZA] y (AA R (CT fun s54 AH => AK prog (Instr.lookup 243 (.map m12) (.string s54) true) AH (fun z AL => ∃ ADc ADd ADe uu ADf,z = (.tuple #[.agg #[.slice ADc ADd ADe,.int .u64 uu],.bool ADf]) ∧ ∀ Uc : Nat,Bn ADf (ND R Ip G9 Iq Ir Is Iu Iv Iw Ix Iy Iz I0 Js I1 Ew Ex En Eo Ep Ev Ey Ez m12 Jc n14 H7 (aD iX iY) n41 aB Vh ck AL) (Spec prog 156 #[.agg #[.int .i64 Ip,.int .i64 G9,.string Iq,.slice Ir Is Iu,.int .i64 Iv,.int .i64 Iw,.int .i64 Ix,.slice Iy Iz I0,.bool Js,.int .i64 I1],.int .u64 yj,.int .u64 uu] AL (AA R (fun z Av => ∃ yk ADg,z = (.tuple #[.int .u64 yk,.bool ADg]) ∧ Spec prog 124 #[.int .i64 G9] Av (AA R (CB fun t72 Hl => Bn t72 (Al Hl fun uw => AK prog (Builtin.append_ #[67,67] 67 #[.slice Jc n14 H7,(.slice (aD uw 0) 1 1)]) (Hp.set Hl uw (.cells #[.slice XQ n50 ZA,.int .u64 yk] 71 (0,0))) (CS fun qu XM qw Mc => ND R Ip G9 Iq Ir Is Iu Iv Iw Ix Iy Iz I0 Js I1 Ew Ex En Eo Ep Ev Ey Ez m12 qu XM qw (aD iX iY) n41 aB Vh ck Mc)) (Bo Js (Al Hl fun uw => AK prog (Builtin.append_ #[67,67] 67 #[.slice Jc n14 H7,(.slice (aD uw 0) 1 1)]) (Hp.set Hl uw (.cells #[.slice XQ n50 ZA,.int .u64 yk] 71 (0,0))) (CS fun qu XM qw Mc => ND R Ip G9 Iq Ir Is Iu Iv Iw Ix Iy Iz I0 true I1 Ew Ex En Eo Ep Ev Ey Ez m12 qu XM qw (aD iX iY) n41 aB Vh ck Mc)) (Bo ADg (Al Hl fun XT => AK prog (Builtin.append_ #[67,67] 67 #[.slice Jc n14 H7,(.slice (aD XT 0) 1 1)]) (Hp.set Hl XT (.cells #[.slice yf yh yi,.int .u64 yj] 71 (0,0))) (CS fun p89 n89 c89 Mc => ND R Ip G9 Iq Ir Is Iu Iv Iw Ix Iy Iz I0 false I1 Ew Ex En Eo Ep Ev Ey Ez m12 p89 n89 c89 (aD iX iY) n41 aB Vh ck Mc)) (ND R Ip G9 Iq Ir Is Iu Iv Iw Ix Iy Iz I0 false I1 Ew Ex En Eo Ep Ev Ey Ez m12 Jc n14 H7 (aD iX iY) n41 aB Vh ck Hl)))))))))))))) (Spec prog 148 #[.slice Jc n14 H7] σ (AA R (fun z y => ∃ ux uy uz u4 u5 u6 u7 vA ADk,z = (.tuple #[.agg #[.int .i64 ux,.int .u64 uy,.slice uz u4 u5,.slice u6 u7 vA],.int .i64 ADk]) ∧ R (.returned (.tuple #[.agg #[.int .i64 ux,.int .u64 uy,.slice uz u4 u5,.slice u6 u7 vA],.int .i64 ADk])) y)))) : rG R Ip G9 Iq Ir Is Iu Iv Iw Ix Iy Iz I0 Js I1 Ew Ex En Eo Ep Ev Ey Ez m12 Jc n14 H7 kE n41 aB Vh ck σ := M.fH h ok rfl fun _ _ => by kernel_rfl
theorem Vi (h : AG (ck + 1) ∧ rG R Ip G9 Iq Ir Is Iu Iv Iw Ix Iy Iz I0 Js I1 Ew Ex En Eo Ep Ev Ey Ez m12 Jc n14 H7 kE n41 aB Vh (ck + 1) σ) : ND R Ip G9 Iq Ir Is Iu Iv Iw Ix Iy Iz I0 Js I1 Ew Ex En Eo Ep Ev Ey Ez m12 Jc n14 H7 kE n41 aB Vh ck σ := M.fH h ok rfl fun _ _ => by kernel_rfl
end Ax
namespace XU
variable {v0 : Value}
def M : Fw := ⟨prog,181,f181,[],[],false,[],[],[]⟩
theorem ok : M.Ok := ⟨AJ.nil,mixed,func181,by kernel_rfl⟩
theorem start (h : EN prog 45 #[v0] σ (CI .u64 fun x4 y => Df (Go.bits .andNot .u64 x4 9223372036854775808) fun x5 => EN prog 22 #[.int .u64 x5] y (fun z AH => ∃ x6,(Value.float .f64 x6) = z ∧ R (.returned (Value.float .f64 x6)) AH))) : Spec prog 181 #[v0] σ R := M.FD h ok [(0,.o (.V v0))] rfl rfl (by kernel_rfl)
end XU
namespace CM
variable {f0 : Fn} {a0 c0 : Array Value}
def M : Fw := ⟨prog,184,f184,[],[],false,[],[],[]⟩
theorem ok : M.Ok := ⟨AJ.nil,mixed,func184,by kernel_rfl⟩
theorem start (h : Al σ fun b1 => R (.returned (.func (.func 224) #[] #[(.pointer (aD b1 0))])) (Hp.set σ b1 (.cells #[(Value.func f0 a0 c0)] 201 (0,0)))) : Spec prog 184 #[(Value.func f0 a0 c0)] σ R := M.FD h ok [(0,.o (.V (Value.func f0 a0 c0)))] rfl rfl (by kernel_rfl)
end CM
namespace BU
variable {p0 : Option Addr} {n0 c0 : Nat} {x3 : Int}
def M : Fw := ⟨prog,187,f187,[225],[],false,[],[],[(224,[(0,wL),(3,wI)])]⟩
theorem ok : M.Ok := ⟨.cons call225 (AJ.nil),mixed,func187,by kernel_rfl⟩
def F3 := M.pt 0
theorem start (h : F3 R p0 n0 c0 8 σ) : Spec prog 187 #[.slice p0 n0 c0] σ R := M.start h ok
theorem As (h : Br ((n0 : Int) < x3) (2 ≠ (0 : Int) ∧ Df (IntKind.i64.wrap (Int.tdiv x3 2)) fun x11 => F3 R p0 n0 c0 x11 σ) (AG ((n0 : Int) - x3) ∧ ((0 : Int) ≤ ((n0 : Int) - x3) ∧ ((n0 : Int) - x3) ≤ (n0 : Int)) ∧ Spec prog 225 #[(.slice (Jg p0 (Int.toNat ((n0 : Int) - x3)) c0 1) (n0 - Int.toNat ((n0 : Int) - x3)) (c0 - Int.toNat ((n0 : Int) - x3)))] σ (AA R (fun z y => ∃ Od Vj,z = (.tuple #[.int .u64 Od,.int .i64 Vj]) ∧ R (.returned (.int .u64 Od)) y)))) : F3 R p0 n0 c0 x3 σ := M.of h ok rfl
end BU
namespace RF
variable {v0 : Value}
def M : Fw := ⟨prog,216,f216,[],[],false,[],[],[]⟩
theorem ok : M.Ok := ⟨AJ.nil,mixed,func216,by kernel_rfl⟩
theorem start (h : ∃ t5,YF prog ((do eqGuard .neq 51 (.tmp 3) (.tmp 4) v0 v0; binOp .neq 51 v0 v0)) σ (.bool t5) ∧ R (.returned (.bool t5)) σ) : Spec prog 216 #[v0] σ R := M.FD h ok [(0,.o (.V v0))] rfl rfl (by kernel_rfl)
end RF
namespace I2
variable {p0 Du EB p2 : Option Addr} {n0 c0 Dy Dz D0 EC n2 c2 b3 : Nat} {Dl Cc Dm Dx DT Cm : Int} {Dn : ByteArray} {DU : Bool}
def M : Fw := ⟨prog,226,f226,[],[5],false,[],[],[]⟩
theorem ok : M.Ok := ⟨AJ.nil,mixed,func226,by kernel_rfl⟩
theorem start (h : ∀ b5 : Nat,Br ((n0 : Int) < 2) (R (.returned (.tuple #[.int .u64 0,.bool false])) σ) (∃ v12,Hp.ld σ ⟨b3,0,none⟩ = some v12 ∧ ∃ (f15 : Nat) (vB vC : Array Value),v12 = .func (.func f15) vB vC ∧ Enters prog f15 ∧ Spec prog f15 (vB ++ #[.slice p0 n0 c0,.slice p2 n2 c2] ++ vC) σ (AA R (CI .u64 fun x15 y => R (.returned (.tuple #[.int .u64 x15,.bool true])) y)))) : Spec prog 226 #[.slice p0 n0 c0,.agg #[.int .i64 Dl,.int .i64 Cc,.string Dn,.slice Du Dy Dz,.int .i64 Dm,.int .i64 Dx,.int .i64 DT,.slice EB D0 EC,.bool DU,.int .i64 Cm],.slice p2 n2 c2,(.pointer (aD b3 0))] σ R := M.start h ok
end I2
namespace C4
variable {PL pj : Option Addr} {JV OC kG pk : Nat} {s1 : ByteArray} {ym vD : Int}
def M : Fw := ⟨prog,257,f257,[260,285,286],[2],false,[(1,14,true)],[],[(2024,[(1,wT),(64,wL),(65,wI),(66,wI)])]⟩
theorem ok : M.Ok := ⟨.cons call260 (.cons call285 (.cons call286 (AJ.nil))),mixed,func257,by kernel_rfl⟩
def JW := M.pt 0
theorem start (h : ∀ b2 : Nat,Pq PL fun Ta Tl => In 0 (JV : Int) ∧ LT σ Ta Tl fun s13 => AG ((JV : Int) - 1) ∧ In (((JV : Int) - 1)) (JV : Int) ∧ LT σ Ta (Tl + Int.toNat ((JV : Int) - 1) * 1) fun yn => Br ((JV : Int) = 1) (R (.returned (.bool (ByteArray.toList s1 == ByteArray.toList s13))) σ) (AG (((ByteArray.size s13 : Nat) : Int) + ((ByteArray.size yn : Nat) : Int)) ∧ Br ((((ByteArray.size s1 : Nat) : Int) : Int) < (((ByteArray.size s13 : Nat) : Int) + ((ByteArray.size yn : Nat) : Int))) (R (.returned (.bool false)) σ) (Spec prog 285 #[.string s1,.string s13] σ (AA R (CB fun t40 y => Bn t40 (R (.returned (.bool false)) y) (Spec prog 286 #[.string s1,.string yn] y (AA R (CB fun t46 AH => Bn t46 (R (.returned (.bool false)) AH) (AG (((ByteArray.size s1 : Nat) : Int) - ((ByteArray.size yn : Nat) : Int)) ∧ ∃ s57,YF prog (Instr.sliceAt 9 (.string s1) (some (.int .i64 ((ByteArray.size s13 : Nat) : Int))) (some (.int .i64 (((ByteArray.size s1 : Nat) : Int) - ((ByteArray.size yn : Nat) : Int)))) none) AH (.string s57) ∧ AG ((JV : Int) - 1) ∧ ((0 : Int) ≤ 1 ∧ 1 ≤ ((JV : Int) - 1) ∧ ((JV : Int) - 1) ≤ (OC : Int)) ∧ JW R s57 ((Jg (aD Ta Tl) (1) OC 1)) ((Int.toNat ((JV : Int) - 1) - 1)) (OC - 1) ((((Int.toNat ((JV : Int) - 1) - 1) : Nat) : Int)) 0 AH))))))))) : Spec prog 257 #[.agg #[.slice PL JV OC],.string s1] σ R := M.start h ok
theorem I3 (h : Br (vD < ym) (Pq pj fun b68 o68 => In vD (kG : Int) ∧ LT σ b68 (o68 + Int.toNat vD * 1) fun s69 => Spec prog 260 #[.string s1,.string s69] σ (AA R (CI .i64 fun pn y => Br (pn < 0) (R (.returned (.bool false)) y) (AG (pn + ((ByteArray.size s69 : Nat) : Int)) ∧ ∃ s80,YF prog (Instr.sliceAt 9 (.string s1) (some (.int .i64 (pn + ((ByteArray.size s69 : Nat) : Int)))) none none) y (.string s80) ∧ AG (vD + 1) ∧ JW R s80 (aD b68 o68) kG pk ym (vD + 1) y)))) (R (.returned (.bool true)) σ)) : JW R s1 pj kG pk ym vD σ := M.of h ok rfl
end C4
end TwW
end
end
section
set_option maxRecDepth 100000
noncomputable section
namespace TwW
open Go Tw Go.Proofs.Tryz
variable [Er] {R : Rr} {σ : Hp}

namespace FW
variable {p0 p1 En Ev : Option Addr} {n0 c0 n1 c1 Eo Ep Ey Ez : Nat} {x2 Ew Ex x9 : Int}
def M : Fw := ⟨prog,30,f30,[47],[8],false,[],[],[(30,[(8,.X 93 [.I .i64,.I .u64,.L,.L]),(9,wI)])]⟩
theorem ok : M.Ok := ⟨.cons call47 (AJ.nil),mixed,func30,by kernel_rfl⟩
def Ak := M.pt 0
theorem start (h : Al σ fun Bt => Spec prog 47 #[(.pointer (aD Bt 0)),.slice p0 n0 c0] (Hp.set σ Bt (.cells #[.slice p1 n1 c1,.int .i64 x2] 97 (0,0))) (AA R (fun z y => ∃ cp cq vE vF vG kH kI kJ yo,z = (.tuple #[.agg #[.int .i64 cp,.int .u64 cq,.slice vE vF vG,.slice kH kI kJ],.int .i64 yo]) ∧ ∀ b8 : Nat,Br (cp = 1) (Al y fun LJ => Ak R cp cq (aD LJ 0) 1 1 kH kI kJ yo (Hp.set y LJ (.cells #[.slice none 0 0,.int .u64 cq] 71 (0,0)))) (Ak R cp cq vE vF vG kH kI kJ yo y)))) : Spec prog 30 #[.slice p0 n0 c0,.slice p1 n1 c1,.int .i64 x2] σ R := M.start h ok
theorem AX (h : R (.returned (.tuple #[.slice En Eo Ep,.int .i64 x9])) σ) : Ak R Ew Ex En Eo Ep Ev Ey Ez x9 σ := M.pb h ok rfl fun _ => by kernel_rfl
end FW
namespace NF
variable {x0 x1 x2 : Int}
def M : Fw := ⟨prog,48,f48,[],[],false,[],[],[]⟩
theorem ok : M.Ok := ⟨AJ.nil,mixed,func48,by kernel_rfl⟩
theorem start (h : Al σ fun b3 => Al (Hp.set σ b3 (.cells #[.int .i64 x0] 2 (0,0))) fun b4 => Al (Hp.set (Hp.set σ b3 (.cells #[.int .i64 x0] 2 (0,0))) b4 (.cells #[.int .i64 x1] 2 (0,0))) fun b5 => R (.returned (.func (.func 71) #[] #[(.pointer (aD b3 0)),(.pointer (aD b5 0)),(.pointer (aD b4 0))])) (Hp.set (Hp.set (Hp.set σ b3 (.cells #[.int .i64 x0] 2 (0,0))) b4 (.cells #[.int .i64 x1] 2 (0,0))) b5 (.cells #[.int .i64 x2] 2 (0,0)))) : Spec prog 48 #[.int .i64 x0,.int .i64 x1,.int .i64 x2] σ R := M.start h ok
end NF
namespace JN
variable {q0 Du EB : Option Addr} {Dl Cc Dm Dx DT Cm : Int} {Dn : ByteArray} {Dy Dz D0 EC : Nat} {DU : Bool}
def M : Fw := ⟨prog,53,f53,[79,80,81],[3],false,[(6,9,true)],[],[]⟩
theorem ok : M.Ok := ⟨.cons call79 (.cons call80 (.cons call81 (AJ.nil))),mixed,func53,by kernel_rfl⟩
theorem start (h : ∀ b3 : Nat,Spec prog 79 #[.agg #[.int .i64 Dl,.int .i64 Cc,.string Dn,.slice Du Dy Dz,.int .i64 Dm,.int .i64 Dx,.int .i64 DT,.slice EB D0 EC,.bool DU,.int .i64 Cm]] σ (AA R (CB fun t10 y => Bn t10 (R (.returned (.int .i64 190)) y) (Pq q0 fun G8 Lz => LS y G8 Lz fun p18 n18 c18 => Br ((n18 : Int) < Cm) (R (.returned (.int .i64 190)) y) (Spec prog 80 #[.slice Du Dy Dz] y (AA R (CI .i64 fun Ia AH => Br (Ia ≠ 0) (R (.returned (.int .i64 193)) AH) (AK prog (Instr.makeMap 150 none) AH (fun z AL => ∃ rH,z = (.map (some rH)) ∧ Spec prog 81 #[.int .i64 1] AL (AA R (fun z Av => ∃ f27 a27 c27,(Value.func f27 a27 c27) = z ∧ AK prog (Instr.mapUpdate 150 (.map (some rH)) (.int .i64 1) (Value.func f27 a27 c27)) Av (fun _ Hl => Spec prog 81 #[.int .i64 2] Hl (AA R (fun z Mc => ∃ f28 a28 c28,(Value.func f28 a28 c28) = z ∧ AK prog (Instr.mapUpdate 150 (.map (some rH)) (.int .i64 2) (Value.func f28 a28 c28)) Mc (fun _ ZB => Spec prog 81 #[.int .i64 3] ZB (AA R (fun z ZC => ∃ f29 a29 c29,(Value.func f29 a29 c29) = z ∧ AK prog (Instr.mapUpdate 150 (.map (some rH)) (.int .i64 3) (Value.func f29 a29 c29)) ZC (fun _ y_9 => AK prog (Instr.mapUpdate 150 (.map (some rH)) (.int .i64 4) (.func (.func 82) #[(.pointer (aD G8 Lz))] #[])) y_9 (fun _ fW => AK prog (Instr.mapUpdate 150 (.map (some rH)) (.int .i64 5) (.func (.func 83) #[(.pointer (aD G8 Lz))] #[])) fW (fun _ ALE => AK prog (Instr.mapUpdate 150 (.map (some rH)) (.int .i64 6) (.func (.func 84) #[(.pointer (aD G8 Lz))] #[])) ALE (fun _ ALF => AK prog (Instr.mapUpdate 150 (.map (some rH)) (.int .i64 7) (.func (.func 85) #[(.pointer (aD G8 Lz))] #[])) ALF (fun _ rI => LS rI G8 Lz fun p42 n42 c42 => AG ((n42 : Int) - Cm) ∧ LS rI G8 Lz fun p56 n56 c56 => ((0 : Int) ≤ ((n42 : Int) - Cm) ∧ ((n42 : Int) - Cm) ≤ (n56 : Int)) ∧ AK prog (Instr.lookup 150 (.map (some rH)) (.int .i64 Dl) false) rI (fun z ADm => ∃ v51,v51 = z ∧ Kp [G8] rI ADm ∧ ∃ (f59 : Nat) (vH vI : Array Value),v51 = .func (.func f59) vH vI ∧ Enters prog f59 ∧ Spec prog f59 (vH ++ #[.agg #[.int .i64 Dl,.int .i64 Cc,.string Dn,.slice Du Dy Dz,.int .i64 Dm,.int .i64 Dx,.int .i64 DT,.slice EB D0 EC,.bool DU,.int .i64 Cm],(.slice (Jg p56 (Int.toNat ((n42 : Int) - Cm)) c56 1) (n56 - Int.toNat ((n42 : Int) - Cm)) (c56 - Int.toNat ((n42 : Int) - Cm)))] ++ vI) ADm (AA R (fun z aF => ∃ kK Jt,z = (.tuple #[.int .i64 kK,.int .i64 Jt]) ∧ LS aF G8 Lz fun po kL ct => ((0 : Int) ≤ ((n42 : Int) - Cm) ∧ ((n42 : Int) - Cm) ≤ (ct : Int)) ∧ Al aF fun MX => AK prog (Builtin.append_ #[108,108] 108 #[(.slice po (Int.toNat ((n42 : Int) - Cm)) ct),(.slice (aD MX 0) 1 1)]) (Hp.set aF MX (.cells #[.int .i64 kK] 113 (0,0))) (CS fun kM kN kO yp => AK prog (Instr.storeAt 108 (.pointer (aD G8 Lz)) (.slice kM kN kO)) yp (fun _ yq => R (.returned (.int .i64 Jt)) yq))))))))))))))))))))))))))) : Spec prog 53 #[.pointer q0,.agg #[.int .i64 Dl,.int .i64 Cc,.string Dn,.slice Du Dy Dz,.int .i64 Dm,.int .i64 Dx,.int .i64 DT,.slice EB D0 EC,.bool DU,.int .i64 Cm]] σ R := M.start h ok
end JN
namespace Dc
variable {p0 : Option Addr} {n0 c0 : Nat} {x3 : Int}
def M : Fw := ⟨prog,69,f69,[],[],false,[(4,12,true)],[],[(208,[(0,wL),(3,wI)])]⟩
theorem ok : M.Ok := ⟨AJ.nil,mixed,func69,by kernel_rfl⟩
def F3 := M.pt 0
theorem start (h : F3 R p0 n0 c0 1 σ) : Spec prog 69 #[.slice p0 n0 c0] σ R := M.start h ok
theorem As (h : Br (x3 < (n0 : Int)) (Pq p0 fun Ta Tl => In x3 (n0 : Int) ∧ LI .i64 σ Ta (Tl + Int.toNat x3 * 2) fun Hm => AG (x3 - 1) ∧ In (x3 - 1) (n0 : Int) ∧ LI .i64 σ Ta (Tl + Int.toNat (x3 - 1) * 2) fun Hf => Br (Hm ≤ Hf) (R (.returned (.bool false)) σ) (AG (x3 + 1) ∧ F3 R (aD Ta Tl) n0 c0 (x3 + 1) σ)) (R (.returned (.bool (decide (0 < (n0 : Int))))) σ)) : F3 R p0 n0 c0 x3 σ := M.of h ok rfl
end Dc
namespace RG
variable {s0 s1 : ByteArray}
def M : Fw := ⟨prog,89,f89,[],[],false,[],[],[]⟩
theorem ok : M.Ok := ⟨AJ.nil,mixed,func89,by kernel_rfl⟩
theorem start (h : ∃ t8,YF prog ((do eqGuard .lss 9 (.tmp 6) (.tmp 7) (.string s0) (.string s1); binOp .lss 9 (.string s0) (.string s1))) σ (.bool t8) ∧ Bo t8 (R (.returned (.int .i64 (-1))) σ) (∃ t12,YF prog ((do eqGuard .gtr 9 (.tmp 10) (.tmp 11) (.string s0) (.string s1); binOp .gtr 9 (.string s0) (.string s1))) σ (.bool t12) ∧ Bo t12 (R (.returned (.int .i64 1)) σ) (R (.returned (.int .i64 0)) σ))) : Spec prog 89 #[.string s0,.string s1] σ R := M.start h ok
end RG
namespace NG
variable {s0 : ByteArray}
def M : Fw := ⟨prog,132,f132,[],[],false,[],[],[]⟩
theorem ok : M.Ok := ⟨AJ.nil,mixed,func132,by kernel_rfl⟩
theorem start (h : Br ((1 : Int) < ((ByteArray.size s0 : Nat) : Int)) (∃ u8 : UInt8,(0 : Int) ≤ 0 ∧ (ByteArray.data s0)[Int.toNat 0]? = some u8 ∧ R (.returned (.bool (decide ((((UInt8.toNat u8 : Nat) : Int) : Int) = 48)))) σ) (R (.returned (.bool false)) σ)) : Spec prog 132 #[.string s0] σ R := M.start h ok
end NG
namespace PM
variable {p0 : Option Addr} {n0 c0 : Nat} {x1 x2 : Int}
def M : Fw := ⟨prog,141,f141,[175],[],false,[],[],[]⟩
theorem ok : M.Ok := ⟨.cons call175 (AJ.nil),mixed,func141,by kernel_rfl⟩
theorem start (h : Spec prog 175 #[.slice p0 n0 c0,.int .i64 x1,(.func (.func 176) #[] #[])] σ (AA R (fun z y => ∃ H8 ALG,z = (.tuple #[.int .i64 H8,.bool ALG]) ∧ Spec prog 175 #[.slice p0 n0 c0,.int .i64 x2,(.func (.func 177) #[] #[])] y (AA R (fun z AH => ∃ JX ALH,z = (.tuple #[.int .i64 JX,.bool ALH]) ∧ ((0 : Int) ≤ (if JX < H8 then JX else H8) ∧ (if JX < H8 then JX else H8) ≤ JX ∧ JX ≤ (c0 : Int)) ∧ R (.returned (.slice (Jg p0 (Int.toNat (if JX < H8 then JX else H8)) c0 2) (Int.toNat JX - Int.toNat (if JX < H8 then JX else H8)) (c0 - Int.toNat (if JX < H8 then JX else H8)))) AH))))) : Spec prog 141 #[.slice p0 n0 c0,.int .i64 x1,.int .i64 x2] σ R := M.start h ok
end PM
namespace I4
variable {x0 : Int}
def M : Fw := ⟨prog,145,f145,[174,182,183],[],false,[],[],[]⟩
theorem ok : M.Ok := ⟨.cons call174 (.cons call182 (.cons call183 (AJ.nil))),mixed,func145,by kernel_rfl⟩
theorem start (h : Spec prog 182 #[.int .u64 x0] σ (AA R (fun z y => ∃ x4,(Value.float .f64 x4) = z ∧ Spec prog 183 #[(Value.float .f64 x4)] y (AA R (fun z AH => ∃ x5,(Value.float .f64 x5) = z ∧ Spec prog 174 #[(Value.float .f64 x5)] AH (AA R (CI .u64 fun x6 AL => R (.returned (.int .u64 x6)) AL))))))) : Spec prog 145 #[.int .u64 x0] σ R := M.start h ok
end I4
namespace A6
variable {q0 Du EB p2 Ir Iy En Ev QM EA : Option Addr} {Dl Cc Dm Dx DT Cm Ip G9 Iv Iw Ix I1 Ew Ex x16 x17 : Int} {Dn Iq : ByteArray} {Dy Dz D0 EC n2 c2 Is Iu Iz I0 Eo Ep Ey Ez n10 NH n15 Dt : Nat} {DU Js : Bool} {v3 : Value}
def M : Fw := ⟨prog,157,f157,[124,146,148],[5,8,12],false,[],[],[(232,[(3,wV),(5,.X 36 [.I .i64,.I .i64,.T,.L,.I .i64,.I .i64,.I .i64,.L,.B,.I .i64]),(8,.X 93 [.I .i64,.I .u64,.L,.L]),(10,wL),(15,wL),(16,wI),(17,wI)]),(935,[(3,wV),(5,.X 36 [.I .i64,.I .i64,.T,.L,.I .i64,.I .i64,.I .i64,.L,.B,.I .i64]),(8,.X 93 [.I .i64,.I .u64,.L,.L]),(10,wL),(15,wL),(16,wI),(17,wI)])]⟩
theorem ok : M.Ok := ⟨.cons call124 (.cons call146 (.cons call148 (AJ.nil))),mixed,func157,by kernel_rfl⟩
def BA := M.pt 0
def HA := M.pt 1
theorem start (h : ∀ b5 : Nat,∀ b8 : Nat,BA R v3 Dl Cc Dn Du Dy Dz Dm Dx DT EB D0 EC DU Cm 0 0 none 0 0 none 0 0 none 0 0 p2 n2 c2 (n2 : Int) 0 σ) : Spec prog 157 #[.pointer q0,.agg #[.int .i64 Dl,.int .i64 Cc,.string Dn,.slice Du Dy Dz,.int .i64 Dm,.int .i64 Dx,.int .i64 DT,.slice EB D0 EC,.bool DU,.int .i64 Cm],.slice p2 n2 c2,v3] σ R := M.FD h ok [(0,.o (.Q q0)),(1,.G [.I .i64 Dl,.I .i64 Cc,.T Dn,.L Du Dy Dz,.I .i64 Dm,.I .i64 Dx,.I .i64 DT,.L EB D0 EC,.B DU,.I .i64 Cm]),(2,.o (.L p2 n2 c2)),(3,.o (.V v3))] rfl rfl (by kernel_rfl)
theorem Ac (h : Br (x17 < x16) (Pq EA fun CY Wd => In x17 (n15 : Int) ∧ ∃ rJ rK rL aG,Au σ CY (Wd + Int.toNat x17 * 2) [.slice rJ rK rL,.int .u64 aG] ∧ ∀ Ta : Nat,∃ (f25 : Nat) (vJ vK : Array Value),v3 = .func (.func f25) vJ vK ∧ Enters prog f25 ∧ Spec prog f25 (vJ ++ #[.int .u64 aG] ++ vK) σ (AA R (fun z y => ∃ yr kF,z = (.tuple #[.int .u64 yr,.bool kF]) ∧ Spec prog 124 #[.int .i64 G9] y (AA R (CB fun t31 AH => Bn t31 (Spec prog 146 #[.slice rJ rK rL] AH (AA R (CS fun yt n40 yu AL => Al AL fun cb => AK prog (Builtin.append_ #[67,67] 67 #[.slice QM n10 NH,(.slice (aD cb 0) 1 1)]) (Hp.set AL cb (.cells #[.slice yt n40 yu,.int .u64 yr] 71 (0,0))) (CS fun pq n44 yw Av => HA R v3 Ip G9 Iq Ir Is Iu Iv Iw Ix Iy Iz I0 Js I1 Ew Ex En Eo Ep Ev Ey Ez pq n44 yw (aD CY Wd) n15 Dt x16 x17 Av)))) (Bo Js (Spec prog 146 #[.slice rJ rK rL] AH (AA R (CS fun yt n40 yu AL => Al AL fun cb => AK prog (Builtin.append_ #[67,67] 67 #[.slice QM n10 NH,(.slice (aD cb 0) 1 1)]) (Hp.set AL cb (.cells #[.slice yt n40 yu,.int .u64 yr] 71 (0,0))) (CS fun pq n44 yw Av => HA R v3 Ip G9 Iq Ir Is Iu Iv Iw Ix Iy Iz I0 true I1 Ew Ex En Eo Ep Ev Ey Ez pq n44 yw (aD CY Wd) n15 Dt x16 x17 Av)))) (Bo kF (Al AH fun PJ => AK prog (Builtin.append_ #[67,67] 67 #[.slice QM n10 NH,(.slice (aD PJ 0) 1 1)]) (Hp.set AH PJ (.cells #[.slice rJ rK rL,.int .u64 aG] 71 (0,0))) (CS fun XQ n50 ZA AL => HA R v3 Ip G9 Iq Ir Is Iu Iv Iw Ix Iy Iz I0 false I1 Ew Ex En Eo Ep Ev Ey Ez XQ n50 ZA (aD CY Wd) n15 Dt x16 x17 AL)) (HA R v3 Ip G9 Iq Ir Is Iu Iv Iw Ix Iy Iz I0 false I1 Ew Ex En Eo Ep Ev Ey Ez QM n10 NH (aD CY Wd) n15 Dt x16 x17 AH)))))))) (Spec prog 148 #[.slice QM n10 NH] σ (AA R (fun z y => ∃ XV XW XX XY XZ Xa Xb Xc XR,z = (.tuple #[.agg #[.int .i64 XV,.int .u64 XW,.slice XX XY XZ,.slice Xa Xb Xc],.int .i64 XR]) ∧ R (.returned (.tuple #[.agg #[.int .i64 XV,.int .u64 XW,.slice XX XY XZ,.slice Xa Xb Xc],.int .i64 XR])) y)))) : BA R v3 Ip G9 Iq Ir Is Iu Iv Iw Ix Iy Iz I0 Js I1 Ew Ex En Eo Ep Ev Ey Ez QM n10 NH EA n15 Dt x16 x17 σ := M.fH h ok rfl fun _ _ => by kernel_rfl
theorem HO (h : AG (x17 + 1) ∧ BA R v3 Ip G9 Iq Ir Is Iu Iv Iw Ix Iy Iz I0 Js I1 Ew Ex En Eo Ep Ev Ey Ez QM n10 NH EA n15 Dt x16 (x17 + 1) σ) : HA R v3 Ip G9 Iq Ir Is Iu Iv Iw Ix Iy Iz I0 Js I1 Ew Ex En Eo Ep Ev Ey Ez QM n10 NH EA n15 Dt x16 x17 σ := M.fH h ok rfl fun _ _ => by kernel_rfl
end A6
namespace PN
def M : Fw := ⟨prog,178,f178,[],[],false,[],[],[]⟩
theorem ok : M.Ok := ⟨AJ.nil,mixed,func178,by kernel_rfl⟩
theorem start (h : Al σ fun b1 => R (.returned (.slice (aD b1 0) 5 5)) (Hp.set σ b1 (.cells #[.nilFunc,(.func (.func 217) #[] #[]),(.func (.func 218) #[] #[]),(.func (.func 219) #[] #[]),(.func (.func 220) #[] #[])] 221 (0,0)))) : Spec prog 178 #[] σ R := M.start h ok
end PN
namespace Dd
variable {s0 : ByteArray} {p2 p3 p7 : Option Addr} {n2 c2 n3 c3 n7 c7 : Nat} {x8 x9 : Int}
def M : Fw := ⟨prog,179,f179,[221],[2,3],false,[(5,8,false)],[],[(232,[(2,.X 224 [.L]),(3,.X 224 [.L]),(7,wL),(8,wI),(9,wI)])]⟩
theorem ok : M.Ok := ⟨.cons call221 (AJ.nil),mixed,func179,by kernel_rfl⟩
def BA := M.pt 0
theorem start (h : ∀ b2 : Nat,∀ b3 : Nat,Spec prog 221 #[.string s0,(.string (ByteArray.mk #[124]))] σ (AA R (CS fun p7 n7 c7 y => BA R none 0 0 none 0 0 p7 n7 c7 (n7 : Int) 0 y))) : Spec prog 179 #[.string s0] σ R := M.start h ok
theorem Ac (h : Br (x9 < x8) (Pq p7 fun BG iZ => In x9 (n7 : Int) ∧ LT σ BG (iZ + Int.toNat x9 * 1) fun s12 => Spec prog 221 #[.string s12,(.string (ByteArray.mk #[42]))] σ (AA R (CS fun Em n16 ER y => Al y fun Uc => AK prog (Builtin.append_ #[222,222] 222 #[.slice p3 n3 c3,(.slice (aD Uc 0) 1 1)]) (Hp.set y Uc (.cells #[.slice Em n16 ER] 257 (0,0))) (CS fun p19 n19 c19 AH => AG (x9 + 1) ∧ BA R p2 n2 c2 p19 n19 c19 (aD BG iZ) n7 c7 x8 (x9 + 1) AH)))) (R (.returned (.agg #[.slice p3 n3 c3])) σ)) : BA R p2 n2 c2 p3 n3 c3 p7 n7 c7 x8 x9 σ := M.fH h ok rfl fun _ _ => by kernel_rfl
end Dd
namespace PO
variable {x0 : Int}
def M : Fw := ⟨prog,186,f186,[174,182],[],false,[],[],[]⟩
theorem ok : M.Ok := ⟨.cons call174 (.cons call182 (AJ.nil)),mixed,func186,by kernel_rfl⟩
theorem start (h : Spec prog 182 #[.int .u64 x0] σ (AA R (fun z y => ∃ x4,(Value.float .f64 x4) = z ∧ Spec prog 174 #[(Value.float .f64 x4)] y (AA R (CI .u64 fun x5 AH => R (.returned (.int .u64 x5)) AH))))) : Spec prog 186 #[.int .u64 x0] σ R := M.start h ok
end PO
namespace Xd
variable {x0 x1 : Int}
def M : Fw := ⟨prog,194,f194,[203],[],false,[],[],[]⟩
theorem ok : M.Ok := ⟨.cons call203 (AJ.nil),mixed,func194,by kernel_rfl⟩
theorem start (h : Spec prog 203 #[.int .i64 4,.int .u64 x0,.int .u64 x1] σ (AA R (fun z y => ∃ Jr Q8,z = (.tuple #[.int .u64 Jr,.bool Q8]) ∧ R (.returned (.int .u64 Jr)) y))) : Spec prog 194 #[.int .u64 x0,.int .u64 x1] σ R := M.start h ok
end Xd
namespace MB
variable {PL p1a : Option Addr} {JV OC n1a c1a : Nat} {ES Cc : Int}
def M : Fw := ⟨prog,196,f196,[52],[2,3],false,[],[],[]⟩
theorem ok : M.Ok := ⟨.cons call52 (AJ.nil),mixed,func196,by kernel_rfl⟩
theorem start (h : ∀ b2 : Nat,∀ b3 : Nat,Spec prog 52 #[.slice PL JV OC,.slice p1a n1a c1a] σ (AA R (CI .i64 fun x9 y => R (.returned (.int .i64 x9)) y))) : Spec prog 196 #[.agg #[.slice PL JV OC,.int .u64 ES],.agg #[.slice p1a n1a c1a,.int .u64 Cc]] σ R := M.start h ok
end MB
namespace EU
variable {p0 : Option Addr} {n0 c0 : Nat} {s1 : ByteArray}
def M : Fw := ⟨prog,199,f199,[228],[],false,[],[],[]⟩
theorem ok : M.Ok := ⟨.cons call228 (AJ.nil),mixed,func199,by kernel_rfl⟩
theorem start (h : Spec prog 228 #[.slice p0 n0 c0,.string s1] σ (AA R (CI .i64 fun x7 y => R (.returned (.bool (decide (0 ≤ x7)))) y))) : Spec prog 199 #[.slice p0 n0 c0,.string s1] σ R := M.start h ok
end EU
namespace FG
variable {x0 x5 x15 x16 : Int} {p1 Jc : Option Addr} {n1 c1 n14 H7 : Nat}
def M : Fw := ⟨prog,202,f202,[186,204,229],[],false,[],[],[(232,[(0,wI),(5,wU),(14,wL),(15,wI),(16,wI)]),(935,[(0,wI),(5,wU),(14,wL),(15,wI),(16,wI)])]⟩
theorem ok : M.Ok := ⟨.cons call186 (.cons call204 (.cons call229 (AJ.nil))),mixed,func202,by kernel_rfl⟩
def BA := M.pt 0
def kP := M.pt 1
theorem start (h : Pq p1 fun BG iZ => In 0 (n1 : Int) ∧ LI .u64 σ BG iZ fun x12 => ((0 : Int) ≤ 1 ∧ 1 ≤ (n1 : Int)) ∧ BA R x0 x12 ((Jg (aD BG iZ) (1) c1 1)) (n1 - 1) (c1 - 1) ((((n1 - 1) : Nat) : Int)) 0 σ) : Spec prog 202 #[.int .i64 x0,.slice p1 n1 c1] σ R := M.start h ok
theorem Ac (h : Br (x16 < x15) (Pq Jc fun Uc aH => In x16 (n14 : Int) ∧ LI .u64 σ Uc (aH + Int.toNat x16 * 1) fun BS => Spec prog 204 #[.int .i64 x0,.int .u64 BS,.int .u64 x5] σ (AA R (fun z y => ∃ ADq ALK,z = (.tuple #[.bool ADq,.bool ALK]) ∧ Bo ADq (kP R x0 BS (aD Uc aH) n14 H7 x15 x16 y) (Spec prog 229 #[.int .u64 x5] y (AA R (CB fun t30 AH => Bo t30 (kP R x0 BS (aD Uc aH) n14 H7 x15 x16 AH) (kP R x0 x5 (aD Uc aH) n14 H7 x15 x16 AH))))))) (Spec prog 186 #[.int .u64 x5] σ (AA R (CI .u64 fun PQ y => R (.returned (.int .u64 PQ)) y)))) : BA R x0 x5 Jc n14 H7 x15 x16 σ := M.of h ok rfl
theorem rO (h : AG (x16 + 1) ∧ BA R x0 x5 Jc n14 H7 x15 (x16 + 1) σ) : kP R x0 x5 Jc n14 H7 x15 x16 σ := M.of h ok rfl
end FG
namespace Xe
variable {x0 : Int}
def M : Fw := ⟨prog,229,f229,[186],[],false,[],[],[]⟩
theorem ok : M.Ok := ⟨.cons call186 (AJ.nil),mixed,func229,by kernel_rfl⟩
theorem start (h : Spec prog 186 #[.int .u64 x0] σ (AA R (CI .u64 fun x4 y => R (.returned (.bool (decide (x4 = 9221120237041090560)))) y))) : Spec prog 229 #[.int .u64 x0] σ R := M.start h ok
end Xe
namespace BZ
variable {PL p8 : Option Addr} {JV OC n8 c8 : Nat} {s1 : ByteArray} {x9 x10 : Int}
def M : Fw := ⟨prog,236,f236,[257],[2,6],false,[],[],[(104,[(1,wT),(8,wL),(9,wI),(10,wI)])]⟩
theorem ok : M.Ok := ⟨.cons call257 (AJ.nil),mixed,func236,by kernel_rfl⟩
def MY := M.pt 0
theorem start (h : ∀ b2 : Nat,MY R s1 PL JV OC (JV : Int) 0 σ) : Spec prog 236 #[.agg #[.slice PL JV OC],.string s1] σ R := M.start h ok
theorem C3 (h : Br (x10 < x9) (Pq p8 fun Ta Tl => In x10 (n8 : Int) ∧ ∃ ADr ADs ADt,Au σ Ta (Tl + Int.toNat x10 * 1) [.slice ADr ADs ADt] ∧ ∀ b6 : Nat,Spec prog 257 #[.agg #[.slice ADr ADs ADt],.string s1] σ (AA R (CB fun t16 y => Bo t16 (R (.returned (.bool true)) y) (AG (x10 + 1) ∧ MY R s1 (aD Ta Tl) n8 c8 x9 (x10 + 1) y)))) (R (.returned (.bool false)) σ)) : MY R s1 p8 n8 c8 x9 x10 σ := M.of h ok rfl
end BZ
namespace ED
variable {s0 : ByteArray} {x3 x8 x9 x16 : Int} {v4 v2 : Value} {t11 : Bool}
def M : Fw := ⟨prog,253,f253,[271,272,273,278,279,280,282,283],[],false,[],[],[(254,[(0,wT),(3,wI),(4,wV)]),(8190,[(2,wV),(3,wI),(4,wV)]),(32446,[(0,wT),(3,wI),(4,wV),(8,wU),(9,wI),(11,wB),(16,wU)])]⟩
theorem ok : M.Ok := ⟨.cons call271 (.cons call272 (.cons call273 (.cons call278 (.cons call279 (.cons call280 (.cons call282 (.cons call283 (AJ.nil)))))))),mixed,func253,by kernel_rfl⟩
def ALL := M.pt 0
def ADu := M.pt 2
theorem start (h : Spec prog 271 #[.string s0] σ (AA R (fun z y => ∃ ADv RH ADw,z = (.tuple #[ADv,.int .i64 RH,.bool ADw]) ∧ Bo ADw (R (.returned (.tuple #[ADv,.int .i64 RH,.nilIface])) y) (Spec prog 272 #[.string s0] y (AA R (fun z AH => ∃ fX aI rR yx ADx RI ADy,z = (.tuple #[.int .u64 fX,.int .i64 aI,.bool rR,.bool yx,.bool ADx,.int .i64 RI,.bool ADy]) ∧ Bn ADy (R (.returned (.tuple #[.float .f64 0,.int .i64 RI,(.iface 264 (.int .i64 2))])) AH) (Bo ADx (∃ s53,YF prog (Instr.sliceAt 9 (.string s0) none (some (.int .i64 RI)) none) AH (.string s53) ∧ Spec prog 273 #[.string s53,(.pointer (aD 6 0)),.int .u64 fX,.int .i64 aI,.bool rR,.bool yx] AH (AA R (fun z AL => ∃ ADz AD0,z = (.tuple #[ADz,AD0]) ∧ R (.returned (.tuple #[ADz,.int .i64 RI,AD0])) AL))) (LB AH 5 0 fun t64 => Bo t64 (Spec prog 280 #[.bool rR] AH (AA R (CI .u64 fun vD AL => ((0 : Int) ≤ 63 ∧ 63 ≤ ((IntKind.bits .u64 : Nat) : Int)) ∧ Df (IntKind.u64.wrap (vD * 2 ^ Int.toNat 63)) fun aJ => Br (fX = 0) (Df (Go.bits .or .u64 aJ 0) fun vL => EN prog 281 #[.int .u64 vL] AL (fun z Av => ∃ pn,(Value.float .f64 pn) = z ∧ R (.returned (.tuple #[(Value.float .f64 pn),.int .i64 RI,.nilIface])) Av)) (Br (310 < aI) (Df (Go.bits .or .u64 aJ 9218868437227405312) fun x77 => EN prog 281 #[.int .u64 x77] AL (fun z Av => ∃ x78,(Value.float .f64 x78) = z ∧ R (.returned (.tuple #[(Value.float .f64 x78),.int .i64 RI,(.iface 264 (.int .i64 1))])) Av)) (Br (aI < (-345)) (Df (Go.bits .or .u64 aJ 0) fun x84 => EN prog 281 #[.int .u64 x84] AL (fun z Av => ∃ pr,(Value.float .f64 pr) = z ∧ R (.returned (.tuple #[(Value.float .f64 pr),.int .i64 RI,.nilIface])) Av)) (Bn yx (Spec prog 282 #[.int .u64 fX,.int .i64 aI,.bool rR] AL (AA R (fun z Av => ∃ AD1 AD2,z = (.tuple #[AD1,.bool AD2]) ∧ Bo AD2 (R (.returned (.tuple #[AD1,.int .i64 RI,.nilIface])) Av) (ADu R s0 RI .nilIface fX aI false aJ Av)))) (ADu R s0 RI .nilIface fX aI true aJ AL))))))) (ALL R s0 RI .nilIface AH))))))))) : Spec prog 253 #[.string s0] σ R := M.start h ok
end ED
namespace Ao
variable {s0 : ByteArray} {x5 x6 x12 x7 : Int} {t13 t16 t19 : Bool}
def M : Fw := ⟨prog,271,f271,[299,300,301],[],false,[],[],[(128001,[(0,wT),(5,wI),(6,wI),(12,w8),(13,wB)]),(256005,[(0,wT),(5,wI),(6,wI),(12,w8),(16,wB)]),(8004,[(0,wT),(5,wI),(6,wI)]),(256007,[(0,wT),(19,wB)]),(126,[]),(32022,[(5,wI),(6,wI),(7,wI)]),(32006,[(0,wT),(5,wI)])]⟩
theorem ok : M.Ok := ⟨.cons call299 (.cons call300 (.cons call301 (AJ.nil))),mixed,func271,by kernel_rfl⟩
def XP := M.pt 0
def yy := M.pt 1
def ALM := M.pt 2
def Hg := M.pt 3
def yz := M.pt 4
def AD3 := M.pt 6
theorem start (h : Br ((((ByteArray.size s0 : Nat) : Int) : Int) = 0) (R (.returned (.tuple #[.float .f64 0,.int .i64 0,.bool false])) σ) (∃ NI : UInt8,(0 : Int) ≤ 0 ∧ (ByteArray.data s0)[Int.toNat 0]? = some NI ∧ Br ((((UInt8.toNat NI : Nat) : Int) : Int) = 43) (XP R s0 1 0 (((UInt8.toNat NI : Nat) : Int)) true σ) (XP R s0 1 0 (((UInt8.toNat NI : Nat) : Int)) ((decide ((((UInt8.toNat NI : Nat) : Int) : Int) = 45))) σ))) : Spec prog 271 #[.string s0] σ R := M.start h ok
theorem QJ (h : Bo t13 (∃ u23 : UInt8,(0 : Int) ≤ 0 ∧ (ByteArray.data s0)[Int.toNat 0]? = some u23 ∧ Br ((((UInt8.toNat u23 : Nat) : Int) : Int) = 45) (AD3 R s0 (-1) σ) (AD3 R s0 x5 σ)) (Br (x12 = 105) (yy R s0 x5 x6 x12 true σ) (yy R s0 x5 x6 x12 ((decide (x12 = 73))) σ))) : XP R s0 x5 x6 x12 t13 σ := M.of h ok rfl
theorem rU (h : Bo t16 (ALM R s0 x5 x6 σ) (Br (x12 = 110) (Hg R s0 true σ) (Hg R s0 ((decide (x12 = 78))) σ))) : yy R s0 x5 x6 x12 t16 σ := M.of h ok rfl
theorem HN (h : Bo t19 (Spec prog 299 #[.string s0,(.string (ByteArray.mk #[110,97,110]))] σ (AA R (CI .i64 fun kQ y => Br (kQ = 3) (Spec prog 301 #[] y (AA R (fun z AH => ∃ Q2,(Value.float .f64 Q2) = z ∧ R (.returned (.tuple #[(Value.float .f64 Q2),.int .i64 3,.bool true])) AH))) (yz R y)))) (yz R σ)) : Hg R s0 t19 σ := M.of h ok rfl
theorem rV (h : R (.returned (.tuple #[.float .f64 0,.int .i64 0,.bool false])) σ) : yz R  σ := M.of h ok rfl
end Ao
namespace CN
variable {t0 : Bool}
def M : Fw := ⟨prog,280,f280,[],[],false,[],[],[]⟩
theorem ok : M.Ok := ⟨AJ.nil,mixed,func280,by kernel_rfl⟩
theorem start (h : Bo t0 (R (.returned (.int .u64 1)) σ) (R (.returned (.int .u64 0)) σ)) : Spec prog 280 #[.bool t0] σ R := M.start h ok
end CN
namespace HP
variable {s0 s1 : ByteArray}
def M : Fw := ⟨prog,286,f286,[316],[],false,[],[],[]⟩
theorem ok : M.Ok := ⟨.cons call316 (AJ.nil),mixed,func286,by kernel_rfl⟩
theorem start (h : Spec prog 316 #[.string s0,.string s1] σ (AA R (CB fun t7 y => R (.returned (.bool t7)) y))) : Spec prog 286 #[.string s0,.string s1] σ R := M.start h ok
end HP
namespace CD
variable {s0 s1 : ByteArray}
def M : Fw := ⟨prog,316,f316,[],[],false,[],[],[]⟩
theorem ok : M.Ok := ⟨AJ.nil,mixed,func316,by kernel_rfl⟩
theorem start (h : Br ((((ByteArray.size s1 : Nat) : Int) : Int) ≤ ((ByteArray.size s0 : Nat) : Int)) (AG (((ByteArray.size s0 : Nat) : Int) - ((ByteArray.size s1 : Nat) : Int)) ∧ ∃ s17,YF prog (Instr.sliceAt 9 (.string s0) (some (.int .i64 (((ByteArray.size s0 : Nat) : Int) - ((ByteArray.size s1 : Nat) : Int)))) none none) σ (.string s17) ∧ R (.returned (.bool (ByteArray.toList s17 == ByteArray.toList s1))) σ) (R (.returned (.bool false)) σ)) : Spec prog 316 #[.string s0,.string s1] σ R := M.start h ok
end CD
end TwW
end
end
section
set_option maxRecDepth 100000
noncomputable section
namespace TwW
open Go Tw Go.Proofs.Tryz
variable [Er] {R : Rr} {σ : Hp}

namespace DF
variable {p0 p1 Lx p33 : Option Addr} {n0 c0 n1 c1 n11 Ly n33 uq : Nat} {x2 fY PQ : Int}
def M : Fw := ⟨prog,11,f11,[28,29,30],[13],false,[],[],[(4072,[(2,wI),(11,wL),(33,wL),(34,wI),(35,wI)])]⟩
theorem ok : M.Ok := ⟨.cons call28 (.cons call29 (.cons call30 (AJ.nil))),mixed,func11,by kernel_rfl⟩
def aK := M.pt 0
theorem start (h : Spec prog 28 #[.slice p0 n0 c0,.slice p1 n1 c1] σ (AA R (CI .i64 fun x16 y => Br (x16 ≠ 0) (R (.returned (.tuple #[.slice none 0 0,.int .i64 x16])) y) (Spec prog 29 #[.int .i64 x2] y (AA R (CB fun t21 AH => Bn t21 (R (.returned (.tuple #[.slice none 0 0,.int .i64 221])) AH) (Spec prog 30 #[.slice p0 n0 c0,.slice p1 n1 c1,.int .i64 x2] AH (AA R (fun z AL => ∃ Md Ll Me Xf,z = (.tuple #[.slice Md Ll Me,.int .i64 Xf]) ∧ Br (Xf ≠ 0) (R (.returned (.tuple #[.slice none 0 0,.int .i64 Xf])) AL) (aK R x2 none 0 0 Md Ll Me (Ll : Int) 0 AL)))))))))) : Spec prog 11 #[.slice p0 n0 c0,.slice p1 n1 c1,.int .i64 x2] σ R := M.start h ok
theorem cu (h : Br (PQ < fY) (Pq p33 fun b37 o37 => In PQ (n33 : Int) ∧ ∃ rW rX rY HB,Au σ b37 (o37 + Int.toNat PQ * 2) [.slice rW rX rY,.int .u64 HB] ∧ ∀ CX : Nat,(Al σ fun Wf => (AK prog (Builtin.append_ #[37,37] 37 #[(.slice (aD Wf 0) 0 0),.slice rW rX rY]) (Hp.set σ Wf (.cells #[] 56 (0,0))) (CS fun ia n43 ib y => Al y fun P1 => Al (Hp.set y P1 (.cells #[.int .i64 x2,.int .u64 HB] 50 (0,0))) fun Vk => AK prog (Builtin.append_ #[23,23] 23 #[.slice Lx n11 Ly,(.slice (aD Vk 0) 1 1)]) (Hp.set (Hp.set y P1 (.cells #[.int .i64 x2,.int .u64 HB] 50 (0,0))) Vk (.cells #[.slice ia n43 ib,(.slice (aD P1 0) 1 1)] 40 (0,0))) (CS fun p51 n51 c51 AH => AG (PQ + 1) ∧ aK R x2 p51 n51 c51 (aD b37 o37) n33 uq fY (PQ + 1) AH))) ∧ (Al (Hp.set σ Wf (.cells #[] 56 (0,0))) fun P1 => AK prog (Builtin.append_ #[37,37] 37 #[(.slice (aD Wf 0) 0 0),.slice rW rX rY]) (Hp.set (Hp.set σ Wf (.cells #[] 56 (0,0))) P1 (.cells #[.int .i64 x2,.int .u64 HB] 50 (0,0))) (CS fun ia n43 ib y => Al y fun Vk => AK prog (Builtin.append_ #[23,23] 23 #[.slice Lx n11 Ly,(.slice (aD Vk 0) 1 1)]) (Hp.set y Vk (.cells #[.slice ia n43 ib,(.slice (aD P1 0) 1 1)] 40 (0,0))) (CS fun p51 n51 c51 AH => AG (PQ + 1) ∧ aK R x2 p51 n51 c51 (aD b37 o37) n33 uq fY (PQ + 1) AH)))) ∧ (Al σ fun P1 => Al (Hp.set σ P1 (.cells #[.int .i64 x2,.int .u64 HB] 50 (0,0))) fun Wf => AK prog (Builtin.append_ #[37,37] 37 #[(.slice (aD Wf 0) 0 0),.slice rW rX rY]) (Hp.set (Hp.set σ P1 (.cells #[.int .i64 x2,.int .u64 HB] 50 (0,0))) Wf (.cells #[] 56 (0,0))) (CS fun ia n43 ib y => Al y fun Vk => AK prog (Builtin.append_ #[23,23] 23 #[.slice Lx n11 Ly,(.slice (aD Vk 0) 1 1)]) (Hp.set y Vk (.cells #[.slice ia n43 ib,(.slice (aD P1 0) 1 1)] 40 (0,0))) (CS fun p51 n51 c51 AH => AG (PQ + 1) ∧ aK R x2 p51 n51 c51 (aD b37 o37) n33 uq fY (PQ + 1) AH)))) (R (.returned (.tuple #[.slice Lx n11 Ly,.int .i64 0])) σ)) : aK R x2 Lx n11 Ly p33 n33 uq fY PQ σ := M.of h ok rfl
end DF
namespace Bl
variable {p0 p6 : Option Addr} {n0 c0 n6 c6 : Nat} {x4 x7 : Int}
def M : Fw := ⟨prog,17,f17,[39,40],[],false,[],[],[(208,[(0,wL),(4,wI)]),(976,[(0,wL),(6,wL),(7,wI)])]⟩
theorem ok : M.Ok := ⟨.cons call39 (.cons call40 (AJ.nil)),mixed,func17,by kernel_rfl⟩
def F3 := M.pt 0
def zA := M.pt 1
theorem start (h : F3 R p0 n0 c0 0 σ) : Spec prog 17 #[.slice p0 n0 c0] σ R := M.start h ok
theorem As (h : Br (x4 < (n0 : Int)) (Pq p0 fun G8 Lz => In x4 (n0 : Int) ∧ LS σ G8 (Lz + Int.toNat x4 * 1) fun p17 n17 c17 => Spec prog 39 #[.slice p17 n17 c17] σ (AA R (CI .i64 fun Ib y => Br (Ib ≠ 0) (R (.returned (.tuple #[.slice none 0 0,.int .i64 Ib])) y) (AG (x4 + 1) ∧ F3 R (aD G8 Lz) n0 c0 (x4 + 1) y)))) (zA R p0 n0 c0 none 0 0 0 σ)) : F3 R p0 n0 c0 x4 σ := M.of h ok rfl
theorem Vm (h : Br (x7 < (n0 : Int)) (Pq p0 fun b31 o31 => In x7 (n0 : Int) ∧ LS σ b31 (o31 + Int.toNat x7 * 1) fun p32 n32 c32 => Spec prog 40 #[.slice p6 n6 c6,.slice p32 n32 c32] σ (AA R (CS fun p33 n33 uq y => AG (x7 + 1) ∧ zA R (aD b31 o31) n0 c0 p33 n33 uq (x7 + 1) y))) (R (.returned (.tuple #[.slice p6 n6 c6,.int .i64 0])) σ)) : zA R p0 n0 c0 p6 n6 c6 x7 σ := M.of h ok rfl
end Bl
namespace HQ
variable {p0 : Option Addr} {n0 c0 : Nat}
def M : Fw := ⟨prog,31,f31,[],[],false,[],[],[]⟩
theorem ok : M.Ok := ⟨AJ.nil,mixed,func31,by kernel_rfl⟩
theorem start (h : Al σ fun b3 => AK prog (Builtin.append_ #[33,33] 33 #[(.slice (aD b3 0) 0 0),.slice p0 n0 c0]) (Hp.set σ b3 (.cells #[] 77 (0,0))) (CS fun p5 n5 c5 y => R (.returned (.slice p5 n5 c5)) y)) : Spec prog 31 #[.slice p0 n0 c0] σ R := M.start h ok
end HQ
namespace CE
variable {q0 p1 p4c GV p6 p7 Jc : Option Addr} {n1 c1 n4c c4c GX GY n6 c6 n7 c7 n14 H7 : Nat} {G5 GH x15 x16 : Int}
def M : Fw := ⟨prog,47,f47,[70],[4,9],false,[],[],[(488,[(0,wQ),(4,.X 93 [.I .i64,.I .u64,.L,.L]),(6,wL),(7,wL),(14,wL),(15,wI),(16,wI)])]⟩
theorem ok : M.Ok := ⟨.cons call70 (AJ.nil),mixed,func47,by kernel_rfl⟩
def E1 := M.pt 0
theorem start (h : ∀ b4 : Nat,Spec prog 70 #[] σ (AA R (CS fun H9 n13 Ic y => E1 R q0 0 0 none 0 0 none 0 0 H9 n13 Ic none 0 0 p1 n1 c1 (n1 : Int) 0 y))) : Spec prog 47 #[.pointer q0,.slice p1 n1 c1] σ R := M.start h ok
theorem FP (h : Br (x16 < x15) (Pq Jc fun Uc aH => In x16 (n14 : Int) ∧ ∃ Od Vj kR kS kT kU kV kW kX kY kZ ka kc EV,Au σ Uc (aH + Int.toNat x16 * 10) [.int .i64 Od,.int .i64 Vj,.string kR,.slice kS kT kU,.int .i64 kV,.int .i64 kW,.int .i64 kX,.slice kY kZ ka,.bool kc,.int .i64 EV] ∧ ∀ b9 : Nat,AG ((n7 : Int) - EV) ∧ Pq p6 fun PR RJ => In Od (n6 : Int) ∧ ∃ v30,Hp.ld σ ⟨PR,(RJ + Int.toNat Od * 1),none⟩ = some v30 ∧ ((0 : Int) ≤ ((n7 : Int) - EV) ∧ ((n7 : Int) - EV) ≤ (n7 : Int)) ∧ (Al σ fun cw => (AK prog (Builtin.append_ #[136,136] 136 #[(.slice (aD cw 0) 0 0),(.slice (Jg p7 (Int.toNat ((n7 : Int) - EV)) c7 4) (n7 - Int.toNat ((n7 : Int) - EV)) (c7 - Int.toNat ((n7 : Int) - EV)))]) (Hp.set σ cw (.cells #[] 93 (0,0))) (CS fun OD n37 OE y => Kp [PR] (Hp.set σ cw (.cells #[] 93 (0,0))) y ∧ (∃ (f38 : Nat) (HR HS : Array Value),v30 = .func (.func f38) HR HS ∧ Enters prog f38 ∧ Spec prog f38 (HR ++ #[.pointer q0,.agg #[.int .i64 Od,.int .i64 Vj,.string kR,.slice kS kT kU,.int .i64 kV,.int .i64 kW,.int .i64 kX,.slice kY kZ ka,.bool kc,.int .i64 EV],.slice OD n37 OE] ++ HS) y (AA R (fun z AH => ∃ Ju Jv Jw Jx Jy Jz J0 J1 HB,z = (.tuple #[.agg #[.int .i64 Ju,.int .u64 Jv,.slice Jw Jx Jy,.slice Jz J0 J1],.int .i64 HB]) ∧ Al AH fun BG => AK prog (Instr.storeAt 93 (.pointer (aD BG 0)) (.agg #[.int .i64 Ju,.int .u64 Jv,.slice Jw Jx Jy,.slice Jz J0 J1])) (Hp.set AH BG (.cells #[.int .i64 0,.int .u64 0,.slice none 0 0,.slice none 0 0] 93 (0,0))) (fun _ AL => Br (HB ≠ 0) (R (.returned (.tuple #[.agg #[.int .i64 0,.int .u64 0,.slice none 0 0,.slice none 0 0],.int .i64 HB])) AL) (((0 : Int) ≤ ((n7 : Int) - EV) ∧ ((n7 : Int) - EV) ≤ (c7 : Int)) ∧ ∃ NJ NK NL NM NN NO NQ NR,Au AL BG 0 [.int .i64 NJ,.int .u64 NK,.slice NL NM NN,.slice NO NQ NR] ∧ Al AL fun PJ => AK prog (Builtin.append_ #[136,136] 136 #[(.slice p7 (Int.toNat ((n7 : Int) - EV)) c7),(.slice (aD PJ 0) 1 1)]) (Hp.set AL PJ (.cells #[.int .i64 NJ,.int .u64 NK,.slice NL NM NN,.slice NO NQ NR] 93 (0,0))) (CS fun XQ n50 ZA Av => AG (x16 + 1) ∧ E1 R q0 G5 GH p4c n4c c4c GV GX GY (aD PR RJ) n6 c6 XQ n50 ZA (aD Uc aH) n14 H7 x15 (x16 + 1) Av)))))) ∧ (Al y fun BG => ∃ (f38 : Nat) (HR HS : Array Value),v30 = .func (.func f38) HR HS ∧ Enters prog f38 ∧ Spec prog f38 (HR ++ #[.pointer q0,.agg #[.int .i64 Od,.int .i64 Vj,.string kR,.slice kS kT kU,.int .i64 kV,.int .i64 kW,.int .i64 kX,.slice kY kZ ka,.bool kc,.int .i64 EV],.slice OD n37 OE] ++ HS) (Hp.set y BG (.cells #[.int .i64 0,.int .u64 0,.slice none 0 0,.slice none 0 0] 93 (0,0))) (AA R (fun z AH => ∃ Ju Jv Jw Jx Jy Jz J0 J1 HB,z = (.tuple #[.agg #[.int .i64 Ju,.int .u64 Jv,.slice Jw Jx Jy,.slice Jz J0 J1],.int .i64 HB]) ∧ AK prog (Instr.storeAt 93 (.pointer (aD BG 0)) (.agg #[.int .i64 Ju,.int .u64 Jv,.slice Jw Jx Jy,.slice Jz J0 J1])) AH (fun _ AL => Br (HB ≠ 0) (R (.returned (.tuple #[.agg #[.int .i64 0,.int .u64 0,.slice none 0 0,.slice none 0 0],.int .i64 HB])) AL) (((0 : Int) ≤ ((n7 : Int) - EV) ∧ ((n7 : Int) - EV) ≤ (c7 : Int)) ∧ ∃ NJ NK NL NM NN NO NQ NR,Au AL BG 0 [.int .i64 NJ,.int .u64 NK,.slice NL NM NN,.slice NO NQ NR] ∧ Al AL fun PJ => AK prog (Builtin.append_ #[136,136] 136 #[(.slice p7 (Int.toNat ((n7 : Int) - EV)) c7),(.slice (aD PJ 0) 1 1)]) (Hp.set AL PJ (.cells #[.int .i64 NJ,.int .u64 NK,.slice NL NM NN,.slice NO NQ NR] 93 (0,0))) (CS fun XQ n50 ZA Av => AG (x16 + 1) ∧ E1 R q0 G5 GH p4c n4c c4c GV GX GY (aD PR RJ) n6 c6 XQ n50 ZA (aD Uc aH) n14 H7 x15 (x16 + 1) Av)))))))) ∧ (Al (Hp.set σ cw (.cells #[] 93 (0,0))) fun BG => AK prog (Builtin.append_ #[136,136] 136 #[(.slice (aD cw 0) 0 0),(.slice (Jg p7 (Int.toNat ((n7 : Int) - EV)) c7 4) (n7 - Int.toNat ((n7 : Int) - EV)) (c7 - Int.toNat ((n7 : Int) - EV)))]) (Hp.set (Hp.set σ cw (.cells #[] 93 (0,0))) BG (.cells #[.int .i64 0,.int .u64 0,.slice none 0 0,.slice none 0 0] 93 (0,0))) (CS fun OD n37 OE y => Kp [PR] (Hp.set (Hp.set σ cw (.cells #[] 93 (0,0))) BG (.cells #[.int .i64 0,.int .u64 0,.slice none 0 0,.slice none 0 0] 93 (0,0))) y ∧ ∃ (f38 : Nat) (HR HS : Array Value),v30 = .func (.func f38) HR HS ∧ Enters prog f38 ∧ Spec prog f38 (HR ++ #[.pointer q0,.agg #[.int .i64 Od,.int .i64 Vj,.string kR,.slice kS kT kU,.int .i64 kV,.int .i64 kW,.int .i64 kX,.slice kY kZ ka,.bool kc,.int .i64 EV],.slice OD n37 OE] ++ HS) y (AA R (fun z AH => ∃ Ju Jv Jw Jx Jy Jz J0 J1 HB,z = (.tuple #[.agg #[.int .i64 Ju,.int .u64 Jv,.slice Jw Jx Jy,.slice Jz J0 J1],.int .i64 HB]) ∧ AK prog (Instr.storeAt 93 (.pointer (aD BG 0)) (.agg #[.int .i64 Ju,.int .u64 Jv,.slice Jw Jx Jy,.slice Jz J0 J1])) AH (fun _ AL => Br (HB ≠ 0) (R (.returned (.tuple #[.agg #[.int .i64 0,.int .u64 0,.slice none 0 0,.slice none 0 0],.int .i64 HB])) AL) (((0 : Int) ≤ ((n7 : Int) - EV) ∧ ((n7 : Int) - EV) ≤ (c7 : Int)) ∧ ∃ NJ NK NL NM NN NO NQ NR,Au AL BG 0 [.int .i64 NJ,.int .u64 NK,.slice NL NM NN,.slice NO NQ NR] ∧ Al AL fun PJ => AK prog (Builtin.append_ #[136,136] 136 #[(.slice p7 (Int.toNat ((n7 : Int) - EV)) c7),(.slice (aD PJ 0) 1 1)]) (Hp.set AL PJ (.cells #[.int .i64 NJ,.int .u64 NK,.slice NL NM NN,.slice NO NQ NR] 93 (0,0))) (CS fun XQ n50 ZA Av => AG (x16 + 1) ∧ E1 R q0 G5 GH p4c n4c c4c GV GX GY (aD PR RJ) n6 c6 XQ n50 ZA (aD Uc aH) n14 H7 x15 (x16 + 1) Av)))))))) ∧ (Al σ fun BG => Al (Hp.set σ BG (.cells #[.int .i64 0,.int .u64 0,.slice none 0 0,.slice none 0 0] 93 (0,0))) fun cw => AK prog (Builtin.append_ #[136,136] 136 #[(.slice (aD cw 0) 0 0),(.slice (Jg p7 (Int.toNat ((n7 : Int) - EV)) c7 4) (n7 - Int.toNat ((n7 : Int) - EV)) (c7 - Int.toNat ((n7 : Int) - EV)))]) (Hp.set (Hp.set σ BG (.cells #[.int .i64 0,.int .u64 0,.slice none 0 0,.slice none 0 0] 93 (0,0))) cw (.cells #[] 93 (0,0))) (CS fun OD n37 OE y => Kp [PR] (Hp.set (Hp.set σ BG (.cells #[.int .i64 0,.int .u64 0,.slice none 0 0,.slice none 0 0] 93 (0,0))) cw (.cells #[] 93 (0,0))) y ∧ ∃ (f38 : Nat) (HR HS : Array Value),v30 = .func (.func f38) HR HS ∧ Enters prog f38 ∧ Spec prog f38 (HR ++ #[.pointer q0,.agg #[.int .i64 Od,.int .i64 Vj,.string kR,.slice kS kT kU,.int .i64 kV,.int .i64 kW,.int .i64 kX,.slice kY kZ ka,.bool kc,.int .i64 EV],.slice OD n37 OE] ++ HS) y (AA R (fun z AH => ∃ Ju Jv Jw Jx Jy Jz J0 J1 HB,z = (.tuple #[.agg #[.int .i64 Ju,.int .u64 Jv,.slice Jw Jx Jy,.slice Jz J0 J1],.int .i64 HB]) ∧ AK prog (Instr.storeAt 93 (.pointer (aD BG 0)) (.agg #[.int .i64 Ju,.int .u64 Jv,.slice Jw Jx Jy,.slice Jz J0 J1])) AH (fun _ AL => Br (HB ≠ 0) (R (.returned (.tuple #[.agg #[.int .i64 0,.int .u64 0,.slice none 0 0,.slice none 0 0],.int .i64 HB])) AL) (((0 : Int) ≤ ((n7 : Int) - EV) ∧ ((n7 : Int) - EV) ≤ (c7 : Int)) ∧ ∃ NJ NK NL NM NN NO NQ NR,Au AL BG 0 [.int .i64 NJ,.int .u64 NK,.slice NL NM NN,.slice NO NQ NR] ∧ Al AL fun PJ => AK prog (Builtin.append_ #[136,136] 136 #[(.slice p7 (Int.toNat ((n7 : Int) - EV)) c7),(.slice (aD PJ 0) 1 1)]) (Hp.set AL PJ (.cells #[.int .i64 NJ,.int .u64 NK,.slice NL NM NN,.slice NO NQ NR] 93 (0,0))) (CS fun XQ n50 ZA Av => AG (x16 + 1) ∧ E1 R q0 G5 GH p4c n4c c4c GV GX GY (aD PR RJ) n6 c6 XQ n50 ZA (aD Uc aH) n14 H7 x15 (x16 + 1) Av)))))))) (Pq p7 fun Oe o53 => In 0 (n7 : Int) ∧ ∃ ke kg AD8 AD9 AEA kh ki kj,Au σ Oe o53 [.int .i64 ke,.int .u64 kg,.slice AD8 AD9 AEA,.slice kh ki kj] ∧ R (.returned (.tuple #[.agg #[.int .i64 ke,.int .u64 kg,.slice AD8 AD9 AEA,.slice kh ki kj],.int .i64 0])) σ)) : E1 R q0 G5 GH p4c n4c c4c GV GX GY p6 n6 c6 p7 n7 c7 Jc n14 H7 x15 x16 σ := M.pb h ok rfl fun _ => by kernel_rfl
end CE
namespace JO
variable {vM ZD s1a s1b : ByteArray}
def M : Fw := ⟨prog,76,f76,[77,78],[2,3],false,[],[],[]⟩
theorem ok : M.Ok := ⟨.cons call77 (.cons call78 (AJ.nil)),mixed,func76,by kernel_rfl⟩
theorem start (h : ∀ b2 : Nat,∀ b3 : Nat,Spec prog 78 #[.string vM,.string s1a] σ (AA R (CI .i64 fun x9 y => Spec prog 78 #[.string ZD,.string s1b] y (AA R (CI .i64 fun Hm AH => Al AH fun b15 => Spec prog 77 #[(.slice (aD b15 0) 2 2)] (Hp.set AH b15 (.cells #[.int .i64 x9,.int .i64 Hm] 3 (0,0))) (AA R (CI .i64 fun x16 AL => R (.returned (.int .i64 x16)) AL))))))) : Spec prog 76 #[.agg #[.string vM,.string ZD],.agg #[.string s1a,.string s1b]] σ R := M.start h ok
end JO
namespace JP
variable {s0 s1 : ByteArray}
def M : Fw := ⟨prog,78,f78,[119],[],false,[],[],[]⟩
theorem ok : M.Ok := ⟨.cons call119 (AJ.nil),mixed,func78,by kernel_rfl⟩
theorem start (h : Spec prog 119 #[.string s0,.string s1] σ (AA R (CI .i64 fun x7 y => R (.returned (.int .i64 x7)) y))) : Spec prog 78 #[.string s0,.string s1] σ R := M.start h ok
end JP
namespace FX
variable {p0 p8 : Option Addr} {n0 c0 n8 c8 : Nat} {x9 x10 : Int}
def M : Fw := ⟨prog,80,f80,[125,126],[4],false,[],[],[(232,[(8,wL),(9,wI),(10,wI)])]⟩
theorem ok : M.Ok := ⟨.cons call125 (.cons call126 (AJ.nil)),mixed,func80,by kernel_rfl⟩
def Q6 := M.pt 0
theorem start (h : Br (8 < (n0 : Int)) (R (.returned (.int .i64 41)) σ) (Q6 R p0 n0 c0 (n0 : Int) 0 σ)) : Spec prog 80 #[.slice p0 n0 c0] σ R := M.start h ok
theorem NA (h : Br (x10 < x9) (Pq p8 fun Ta Tl => In x10 (n8 : Int) ∧ ∃ kl fS AEC,Au σ Ta (Tl + Int.toNat x10 * 3) [.int .i64 kl,.string fS,.string AEC] ∧ ∀ b4 : Nat,Spec prog 125 #[.int .i64 kl] σ (AA R (CB fun t16 y => Bn t16 (R (.returned (.int .i64 40)) y) (Spec prog 126 #[.string fS] y (AA R (CB fun t21 AH => Bn t21 (R (.returned (.int .i64 40)) AH) (Br ((256 : Int) < ((ByteArray.size AEC : Nat) : Int)) (R (.returned (.int .i64 40)) AH) (AG (x10 + 1) ∧ Q6 R (aD Ta Tl) n8 c8 x9 (x10 + 1) AH)))))))) (R (.returned (.int .i64 0)) σ)) : Q6 R p8 n8 c8 x9 x10 σ := M.of h ok rfl
end FX
namespace Bi
variable {q0 Du EB p2 : Option Addr} {Dl Cc Dm Dx DT Cm x8 : Int} {Dn : ByteArray} {Dy Dz D0 EC n2 c2 : Nat} {DU : Bool}
def M : Fw := ⟨prog,82,f82,[],[4],false,[],[],[(60,[(2,wL),(8,wI)])]⟩
theorem ok : M.Ok := ⟨AJ.nil,mixed,func82,by kernel_rfl⟩
def E1 := M.pt 0
theorem start (h : ∀ b4 : Nat,Br (Cc = 11) (E1 R p2 n2 c2 2 σ) (Br (Cc = 12) (E1 R p2 n2 c2 2 σ) (E1 R p2 n2 c2 3 σ))) : Spec prog 82 #[.pointer q0,.agg #[.int .i64 Dl,.int .i64 Cc,.string Dn,.slice Du Dy Dz,.int .i64 Dm,.int .i64 Dx,.int .i64 DT,.slice EB D0 EC,.bool DU,.int .i64 Cm],.slice p2 n2 c2] σ R := M.start h ok
theorem FP (h : Pq p2 fun Uc aH => In 0 (n2 : Int) ∧ LI .i64 σ Uc aH fun Hf => Br (Hf ≠ x8) (R (.returned (.tuple #[.int .i64 0,.int .i64 191])) σ) (R (.returned (.tuple #[.int .i64 2,.int .i64 0])) σ)) : E1 R p2 n2 c2 x8 σ := M.of h ok rfl
end Bi
namespace FH
variable {s0 : ByteArray} {x3 : Int}
def M : Fw := ⟨prog,98,f98,[],[],false,[],[],[(464,[(0,wT),(3,wI)])]⟩
theorem ok : M.Ok := ⟨AJ.nil,mixed,func98,by kernel_rfl⟩
def A5 := M.pt 0
theorem start (h : Bo ((ByteArray.toList s0 == ByteArray.toList (ByteArray.mk #[]))) (R (.returned (.bool false)) σ) (Br ((64 : Int) < ((ByteArray.size s0 : Nat) : Int)) (R (.returned (.bool false)) σ) (∃ LK : UInt8,(0 : Int) ≤ 0 ∧ (ByteArray.data s0)[Int.toNat 0]? = some LK ∧ Br ((48 : Int) ≤ ((UInt8.toNat LK : Nat) : Int)) (∃ u18 : UInt8,(0 : Int) ≤ 0 ∧ (ByteArray.data s0)[Int.toNat 0]? = some u18 ∧ Br ((((UInt8.toNat u18 : Nat) : Int) : Int) ≤ 57) (R (.returned (.bool false)) σ) (A5 R s0 0 σ)) (A5 R s0 0 σ)))) : Spec prog 98 #[.string s0] σ R := M.start h ok
theorem A7 (h : Br (x3 < ((ByteArray.size s0 : Nat) : Int)) (∃ ZE : UInt8,0 ≤ x3 ∧ (ByteArray.data s0)[Int.toNat x3]? = some ZE ∧ Br ((((UInt8.toNat ZE : Nat) : Int) : Int) ≠ 95) (Br ((((UInt8.toNat ZE : Nat) : Int) : Int) < 48) (Br ((((UInt8.toNat ZE : Nat) : Int) : Int) < 65) (Br ((((UInt8.toNat ZE : Nat) : Int) : Int) < 97) (R (.returned (.bool false)) σ) (Br ((122 : Int) < ((UInt8.toNat ZE : Nat) : Int)) (R (.returned (.bool false)) σ) (AG (x3 + 1) ∧ A5 R s0 (x3 + 1) σ))) (Br ((90 : Int) < ((UInt8.toNat ZE : Nat) : Int)) (Br ((((UInt8.toNat ZE : Nat) : Int) : Int) < 97) (R (.returned (.bool false)) σ) (Br ((122 : Int) < ((UInt8.toNat ZE : Nat) : Int)) (R (.returned (.bool false)) σ) (AG (x3 + 1) ∧ A5 R s0 (x3 + 1) σ))) (AG (x3 + 1) ∧ A5 R s0 (x3 + 1) σ))) (Br ((57 : Int) < ((UInt8.toNat ZE : Nat) : Int)) (Br ((((UInt8.toNat ZE : Nat) : Int) : Int) < 65) (Br ((((UInt8.toNat ZE : Nat) : Int) : Int) < 97) (R (.returned (.bool false)) σ) (Br ((122 : Int) < ((UInt8.toNat ZE : Nat) : Int)) (R (.returned (.bool false)) σ) (AG (x3 + 1) ∧ A5 R s0 (x3 + 1) σ))) (Br ((90 : Int) < ((UInt8.toNat ZE : Nat) : Int)) (Br ((((UInt8.toNat ZE : Nat) : Int) : Int) < 97) (R (.returned (.bool false)) σ) (Br ((122 : Int) < ((UInt8.toNat ZE : Nat) : Int)) (R (.returned (.bool false)) σ) (AG (x3 + 1) ∧ A5 R s0 (x3 + 1) σ))) (AG (x3 + 1) ∧ A5 R s0 (x3 + 1) σ))) (AG (x3 + 1) ∧ A5 R s0 (x3 + 1) σ))) (AG (x3 + 1) ∧ A5 R s0 (x3 + 1) σ)) (R (.returned (.bool true)) σ)) : A5 R s0 x3 σ := M.of h ok rfl
end FH
namespace Ap
variable {s0 : ByteArray} {x3 x4 x5 x6 : Int}
def M : Fw := ⟨prog,99,f99,[],[],false,[],[],[(220,[(0,wT),(3,wI)]),(894,[(0,wT),(3,wI),(4,wI),(5,w8),(6,w8)]),(7164,[(0,wT),(3,wI),(4,wI),(5,w8),(6,w8)])]⟩
theorem ok : M.Ok := ⟨AJ.nil,mixed,func99,by kernel_rfl⟩
def Ak := M.pt 0
def HC := M.pt 1
def km := M.pt 2
theorem start (h : Ak R s0 0 σ) : Spec prog 99 #[.string s0] σ R := M.start h ok
theorem AX (h : Br (x3 = ((ByteArray.size s0 : Nat) : Int)) (R (.returned (.bool true)) σ) (∃ LK : UInt8,0 ≤ x3 ∧ (ByteArray.data s0)[Int.toNat x3]? = some LK ∧ Br ((((UInt8.toNat LK : Nat) : Int) : Int) < 128) (AG (x3 + 1) ∧ Ak R s0 (x3 + 1) σ) (Br ((194 : Int) ≤ ((UInt8.toNat LK : Nat) : Int)) (Br ((((UInt8.toNat LK : Nat) : Int) : Int) ≤ 223) (HC R s0 x3 1 128 191 σ) (Br ((224 : Int) ≤ ((UInt8.toNat LK : Nat) : Int)) (Br ((((UInt8.toNat LK : Nat) : Int) : Int) ≤ 239) (Br ((((UInt8.toNat LK : Nat) : Int) : Int) = 224) (HC R s0 x3 2 160 191 σ) (Br ((((UInt8.toNat LK : Nat) : Int) : Int) = 237) (HC R s0 x3 2 128 159 σ) (HC R s0 x3 2 128 191 σ))) (Br ((240 : Int) ≤ ((UInt8.toNat LK : Nat) : Int)) (Br ((((UInt8.toNat LK : Nat) : Int) : Int) ≤ 244) (Br ((((UInt8.toNat LK : Nat) : Int) : Int) = 240) (HC R s0 x3 3 144 191 σ) (Br ((((UInt8.toNat LK : Nat) : Int) : Int) = 244) (HC R s0 x3 3 128 143 σ) (HC R s0 x3 3 128 191 σ))) (R (.returned (.bool false)) σ)) (R (.returned (.bool false)) σ))) (Br ((240 : Int) ≤ ((UInt8.toNat LK : Nat) : Int)) (Br ((((UInt8.toNat LK : Nat) : Int) : Int) ≤ 244) (Br ((((UInt8.toNat LK : Nat) : Int) : Int) = 240) (HC R s0 x3 3 144 191 σ) (Br ((((UInt8.toNat LK : Nat) : Int) : Int) = 244) (HC R s0 x3 3 128 143 σ) (HC R s0 x3 3 128 191 σ))) (R (.returned (.bool false)) σ)) (R (.returned (.bool false)) σ)))) (Br ((224 : Int) ≤ ((UInt8.toNat LK : Nat) : Int)) (Br ((((UInt8.toNat LK : Nat) : Int) : Int) ≤ 239) (Br ((((UInt8.toNat LK : Nat) : Int) : Int) = 224) (HC R s0 x3 2 160 191 σ) (Br ((((UInt8.toNat LK : Nat) : Int) : Int) = 237) (HC R s0 x3 2 128 159 σ) (HC R s0 x3 2 128 191 σ))) (Br ((240 : Int) ≤ ((UInt8.toNat LK : Nat) : Int)) (Br ((((UInt8.toNat LK : Nat) : Int) : Int) ≤ 244) (Br ((((UInt8.toNat LK : Nat) : Int) : Int) = 240) (HC R s0 x3 3 144 191 σ) (Br ((((UInt8.toNat LK : Nat) : Int) : Int) = 244) (HC R s0 x3 3 128 143 σ) (HC R s0 x3 3 128 191 σ))) (R (.returned (.bool false)) σ)) (R (.returned (.bool false)) σ))) (Br ((240 : Int) ≤ ((UInt8.toNat LK : Nat) : Int)) (Br ((((UInt8.toNat LK : Nat) : Int) : Int) ≤ 244) (Br ((((UInt8.toNat LK : Nat) : Int) : Int) = 240) (HC R s0 x3 3 144 191 σ) (Br ((((UInt8.toNat LK : Nat) : Int) : Int) = 244) (HC R s0 x3 3 128 143 σ) (HC R s0 x3 3 128 191 σ))) (R (.returned (.bool false)) σ)) (R (.returned (.bool false)) σ)))))) : Ak R s0 x3 σ := M.of h ok rfl
theorem rZ (h : AG (x3 + 1) ∧ km R s0 (x3 + 1) x4 x5 x6 σ) : HC R s0 x3 x4 x5 x6 σ := M.of h ok rfl
theorem cz (h : Br (x4 = 0) (Ak R s0 x3 σ) (Br (x3 = ((ByteArray.size s0 : Nat) : Int)) (R (.returned (.bool false)) σ) (∃ u60 : UInt8,0 ≤ x3 ∧ (ByteArray.data s0)[Int.toNat x3]? = some u60 ∧ Br ((((UInt8.toNat u60 : Nat) : Int) : Int) < x5) (R (.returned (.bool false)) σ) (∃ u67 : UInt8,0 ≤ x3 ∧ (ByteArray.data s0)[Int.toNat x3]? = some u67 ∧ Br (x6 < ((UInt8.toNat u67 : Nat) : Int)) (R (.returned (.bool false)) σ) (AG (x4 - 1) ∧ AG (x3 + 1) ∧ km R s0 (x3 + 1) (x4 - 1) 128 191 σ))))) : km R s0 x3 x4 x5 x6 σ := M.of h ok rfl
end Ap
namespace C5
variable {q0 Du EB p2 : Option Addr} {Dl Cc Dm Dx DT Cm : Int} {Dn : ByteArray} {Dy Dz D0 EC n2 c2 : Nat} {DU : Bool}
def M : Fw := ⟨prog,105,f105,[128,156,157,160,161],[6],false,[(1,9,false)],[],[]⟩
theorem ok : M.Ok := ⟨.cons call128 (.cons call156 (.cons call157 (.cons call160 (.cons call161 (AJ.nil))))),mixed,func105,by kernel_rfl⟩
theorem start (h : Al σ fun b4 => ∀ b6 : Nat,Pq p2 fun CX Vg => In 0 (n2 : Int) ∧ ∃ H8 fT zB zC zD zF zG zH,Au (Hp.set σ b4 (.cells #[.int .i64 Dl,.int .i64 Cc,.string Dn,.slice Du Dy Dz,.int .i64 Dm,.int .i64 Dx,.int .i64 DT,.slice EB D0 EC,.bool DU,.int .i64 Cm] 36 (0,0))) CX Vg [.int .i64 H8,.int .u64 fT,.slice zB zC zD,.slice zF zG zH] ∧ In 1 (n2 : Int) ∧ ∃ Ve fM zI zJ zK fN fO fP,Au (Hp.set σ b4 (.cells #[.int .i64 Dl,.int .i64 Cc,.string Dn,.slice Du Dy Dz,.int .i64 Dm,.int .i64 Dx,.int .i64 DT,.slice EB D0 EC,.bool DU,.int .i64 Cm] 36 (0,0))) CX (Vg + 4) [.int .i64 Ve,.int .u64 fM,.slice zI zJ zK,.slice fN fO fP] ∧ (Al (Hp.set σ b4 (.cells #[.int .i64 Dl,.int .i64 Cc,.string Dn,.slice Du Dy Dz,.int .i64 Dm,.int .i64 Dx,.int .i64 DT,.slice EB D0 EC,.bool DU,.int .i64 Cm] 36 (0,0))) fun b8 => Al (Hp.set (Hp.set σ b4 (.cells #[.int .i64 Dl,.int .i64 Cc,.string Dn,.slice Du Dy Dz,.int .i64 Dm,.int .i64 Dx,.int .i64 DT,.slice EB D0 EC,.bool DU,.int .i64 Cm] 36 (0,0))) b8 (.cells #[.int .i64 0,.int .u64 0,.slice none 0 0,.slice none 0 0] 93 (0,0))) fun b9 => AK prog (Instr.storeAt 93 (.pointer (aD b8 0)) (.agg #[.int .i64 H8,.int .u64 fT,.slice zB zC zD,.slice zF zG zH])) (Hp.set (Hp.set (Hp.set σ b4 (.cells #[.int .i64 Dl,.int .i64 Cc,.string Dn,.slice Du Dy Dz,.int .i64 Dm,.int .i64 Dx,.int .i64 DT,.slice EB D0 EC,.bool DU,.int .i64 Cm] 36 (0,0))) b8 (.cells #[.int .i64 0,.int .u64 0,.slice none 0 0,.slice none 0 0] 93 (0,0))) b9 (.cells #[.int .i64 0,.int .u64 0,.slice none 0 0,.slice none 0 0] 93 (0,0))) (fun _ y => Kp [CX] (Hp.set (Hp.set (Hp.set σ b4 (.cells #[.int .i64 Dl,.int .i64 Cc,.string Dn,.slice Du Dy Dz,.int .i64 Dm,.int .i64 Dx,.int .i64 DT,.slice EB D0 EC,.bool DU,.int .i64 Cm] 36 (0,0))) b8 (.cells #[.int .i64 0,.int .u64 0,.slice none 0 0,.slice none 0 0] 93 (0,0))) b9 (.cells #[.int .i64 0,.int .u64 0,.slice none 0 0,.slice none 0 0] 93 (0,0))) y ∧ AK prog (Instr.storeAt 93 (.pointer (aD b9 0)) (.agg #[.int .i64 Ve,.int .u64 fM,.slice zI zJ zK,.slice fN fO fP])) y (fun _ AH => LI .i64 AH b8 0 fun Hf => Br (Hf = 1) (LI .i64 AH b9 0 fun Ia => Br (Ia = 1) (∃ Xg RH kr ks kt ku kv kx ky kz k0 k8 k9 lA,Au AH b4 0 [.int .i64 Xg,.int .i64 RH,.string kr,.slice ks kt ku,.int .i64 kv,.int .i64 kx,.int .i64 ky,.slice kz k0 k8,.bool k9,.int .i64 lA] ∧ LI .u64 AH b8 1 fun RL => LI .u64 AH b9 1 fun lB => Spec prog 156 #[.agg #[.int .i64 Xg,.int .i64 RH,.string kr,.slice ks kt ku,.int .i64 kv,.int .i64 kx,.int .i64 ky,.slice kz k0 k8,.bool k9,.int .i64 lA],.int .u64 RL,.int .u64 lB] AH (AA R (fun z AL => ∃ Xh lC,z = (.tuple #[.int .u64 Xh,.bool lC]) ∧ R (.returned (.tuple #[.agg #[.int .i64 1,.int .u64 Xh,.slice none 0 0,.slice none 0 0],.int .i64 0])) AL))) (LI .i64 AH b8 0 fun pw => Br (pw = 1) (∃ RM NS RN RO RP RQ RR RS RT RU RV RW RX RY,Au AH b4 0 [.int .i64 RM,.int .i64 NS,.string RN,.slice RO RP RQ,.int .i64 RR,.int .i64 RS,.int .i64 RT,.slice RU RV RW,.bool RX,.int .i64 RY] ∧ LS AH b9 2 fun zL n45 zM => Spec prog 157 #[.pointer q0,.agg #[.int .i64 RM,.int .i64 NS,.string RN,.slice RO RP RQ,.int .i64 RR,.int .i64 RS,.int .i64 RT,.slice RU RV RW,.bool RX,.int .i64 RY],.slice zL n45 zM,(.func (.func 158) #[] #[(.pointer (aD b4 0)),(.pointer (aD b8 0))])] AH (AA R (fun z AL => ∃ J2 J3 J4 J5 J6 J7 J8 J9 Og,z = (.tuple #[.agg #[.int .i64 J2,.int .u64 J3,.slice J4 J5 J6,.slice J7 J8 J9],.int .i64 Og]) ∧ R (.returned (.tuple #[.agg #[.int .i64 J2,.int .u64 J3,.slice J4 J5 J6,.slice J7 J8 J9],.int .i64 Og])) AL))) (LI .i64 AH b9 0 fun ra => Br (ra = 1) (∃ RZ Ra Rb Rc Re Rf Rh Ri Rj Rk Rl Rm Rn Ro,Au AH b4 0 [.int .i64 RZ,.int .i64 Ra,.string Rb,.slice Rc Re Rf,.int .i64 Rh,.int .i64 Ri,.int .i64 Rj,.slice Rk Rl Rm,.bool Rn,.int .i64 Ro] ∧ LS AH b8 2 fun rf n57 rh => Spec prog 157 #[.pointer q0,.agg #[.int .i64 RZ,.int .i64 Ra,.string Rb,.slice Rc Re Rf,.int .i64 Rh,.int .i64 Ri,.int .i64 Rj,.slice Rk Rl Rm,.bool Rn,.int .i64 Ro],.slice rf n57 rh,(.func (.func 159) #[] #[(.pointer (aD b4 0)),(.pointer (aD b9 0))])] AH (AA R (fun z AL => ∃ KA KB KC KD KE KF KG KH Jt,z = (.tuple #[.agg #[.int .i64 KA,.int .u64 KB,.slice KC KD KE,.slice KF KG KH],.int .i64 Jt]) ∧ R (.returned (.tuple #[.agg #[.int .i64 KA,.int .u64 KB,.slice KC KD KE,.slice KF KG KH],.int .i64 Jt])) AL))) (LI .i64 AH b4 1 fun rE => Spec prog 128 #[.int .i64 rE] AH (AA R (CB fun t65 AL => Bo t65 (∃ Rp Rq Rt Ru Rv Rx Ry Rz R0 R1 R3 R4 R5 R6,Au AL b4 0 [.int .i64 Rp,.int .i64 Rq,.string Rt,.slice Ru Rv Rx,.int .i64 Ry,.int .i64 Rz,.int .i64 R0,.slice R1 R3 R4,.bool R5,.int .i64 R6] ∧ LS AL b8 2 fun rF n69 ur => LS AL b9 2 fun zN zO zP => Spec prog 160 #[.pointer q0,.agg #[.int .i64 Rp,.int .i64 Rq,.string Rt,.slice Ru Rv Rx,.int .i64 Ry,.int .i64 Rz,.int .i64 R0,.slice R1 R3 R4,.bool R5,.int .i64 R6],.slice rF n69 ur,.slice zN zO zP] AL (AA R (fun z Av => ∃ KI KJ KK KL KM KN KO KQ Jo,z = (.tuple #[.agg #[.int .i64 KI,.int .u64 KJ,.slice KK KL KM,.slice KN KO KQ],.int .i64 Jo]) ∧ R (.returned (.tuple #[.agg #[.int .i64 KI,.int .u64 KJ,.slice KK KL KM,.slice KN KO KQ],.int .i64 Jo])) Av))) (∃ R7 R8 R9 SA SB SC SD SE SF SG SH SI SJ SK,Au AL b4 0 [.int .i64 R7,.int .i64 R8,.string R9,.slice SA SB SC,.int .i64 SD,.int .i64 SE,.int .i64 SF,.slice SG SH SI,.bool SJ,.int .i64 SK] ∧ LS AL b8 2 fun qA lD qB => LS AL b9 2 fun zQ zR zS => Spec prog 161 #[.pointer q0,.agg #[.int .i64 R7,.int .i64 R8,.string R9,.slice SA SB SC,.int .i64 SD,.int .i64 SE,.int .i64 SF,.slice SG SH SI,.bool SJ,.int .i64 SK],.slice qA lD qB,.slice zQ zR zS] AL (AA R (fun z Av => ∃ KR KS KT KU KV KW KX KY SL,z = (.tuple #[.agg #[.int .i64 KR,.int .u64 KS,.slice KT KU KV,.slice KW KX KY],.int .i64 SL]) ∧ R (.returned (.tuple #[.agg #[.int .i64 KR,.int .u64 KS,.slice KT KU KV,.slice KW KX KY],.int .i64 SL])) Av))))))))) (LI .i64 AH b8 0 fun pw => Br (pw = 1) (∃ RM NS RN RO RP RQ RR RS RT RU RV RW RX RY,Au AH b4 0 [.int .i64 RM,.int .i64 NS,.string RN,.slice RO RP RQ,.int .i64 RR,.int .i64 RS,.int .i64 RT,.slice RU RV RW,.bool RX,.int .i64 RY] ∧ LS AH b9 2 fun zL n45 zM => Spec prog 157 #[.pointer q0,.agg #[.int .i64 RM,.int .i64 NS,.string RN,.slice RO RP RQ,.int .i64 RR,.int .i64 RS,.int .i64 RT,.slice RU RV RW,.bool RX,.int .i64 RY],.slice zL n45 zM,(.func (.func 158) #[] #[(.pointer (aD b4 0)),(.pointer (aD b8 0))])] AH (AA R (fun z AL => ∃ J2 J3 J4 J5 J6 J7 J8 J9 Og,z = (.tuple #[.agg #[.int .i64 J2,.int .u64 J3,.slice J4 J5 J6,.slice J7 J8 J9],.int .i64 Og]) ∧ R (.returned (.tuple #[.agg #[.int .i64 J2,.int .u64 J3,.slice J4 J5 J6,.slice J7 J8 J9],.int .i64 Og])) AL))) (LI .i64 AH b9 0 fun ra => Br (ra = 1) (∃ RZ Ra Rb Rc Re Rf Rh Ri Rj Rk Rl Rm Rn Ro,Au AH b4 0 [.int .i64 RZ,.int .i64 Ra,.string Rb,.slice Rc Re Rf,.int .i64 Rh,.int .i64 Ri,.int .i64 Rj,.slice Rk Rl Rm,.bool Rn,.int .i64 Ro] ∧ LS AH b8 2 fun rf n57 rh => Spec prog 157 #[.pointer q0,.agg #[.int .i64 RZ,.int .i64 Ra,.string Rb,.slice Rc Re Rf,.int .i64 Rh,.int .i64 Ri,.int .i64 Rj,.slice Rk Rl Rm,.bool Rn,.int .i64 Ro],.slice rf n57 rh,(.func (.func 159) #[] #[(.pointer (aD b4 0)),(.pointer (aD b9 0))])] AH (AA R (fun z AL => ∃ KA KB KC KD KE KF KG KH Jt,z = (.tuple #[.agg #[.int .i64 KA,.int .u64 KB,.slice KC KD KE,.slice KF KG KH],.int .i64 Jt]) ∧ R (.returned (.tuple #[.agg #[.int .i64 KA,.int .u64 KB,.slice KC KD KE,.slice KF KG KH],.int .i64 Jt])) AL))) (LI .i64 AH b4 1 fun rE => Spec prog 128 #[.int .i64 rE] AH (AA R (CB fun t65 AL => Bo t65 (∃ Rp Rq Rt Ru Rv Rx Ry Rz R0 R1 R3 R4 R5 R6,Au AL b4 0 [.int .i64 Rp,.int .i64 Rq,.string Rt,.slice Ru Rv Rx,.int .i64 Ry,.int .i64 Rz,.int .i64 R0,.slice R1 R3 R4,.bool R5,.int .i64 R6] ∧ LS AL b8 2 fun rF n69 ur => LS AL b9 2 fun zN zO zP => Spec prog 160 #[.pointer q0,.agg #[.int .i64 Rp,.int .i64 Rq,.string Rt,.slice Ru Rv Rx,.int .i64 Ry,.int .i64 Rz,.int .i64 R0,.slice R1 R3 R4,.bool R5,.int .i64 R6],.slice rF n69 ur,.slice zN zO zP] AL (AA R (fun z Av => ∃ KI KJ KK KL KM KN KO KQ Jo,z = (.tuple #[.agg #[.int .i64 KI,.int .u64 KJ,.slice KK KL KM,.slice KN KO KQ],.int .i64 Jo]) ∧ R (.returned (.tuple #[.agg #[.int .i64 KI,.int .u64 KJ,.slice KK KL KM,.slice KN KO KQ],.int .i64 Jo])) Av))) (∃ R7 R8 R9 SA SB SC SD SE SF SG SH SI SJ SK,Au AL b4 0 [.int .i64 R7,.int .i64 R8,.string R9,.slice SA SB SC,.int .i64 SD,.int .i64 SE,.int .i64 SF,.slice SG SH SI,.bool SJ,.int .i64 SK] ∧ LS AL b8 2 fun qA lD qB => LS AL b9 2 fun zQ zR zS => Spec prog 161 #[.pointer q0,.agg #[.int .i64 R7,.int .i64 R8,.string R9,.slice SA SB SC,.int .i64 SD,.int .i64 SE,.int .i64 SF,.slice SG SH SI,.bool SJ,.int .i64 SK],.slice qA lD qB,.slice zQ zR zS] AL (AA R (fun z Av => ∃ KR KS KT KU KV KW KX KY SL,z = (.tuple #[.agg #[.int .i64 KR,.int .u64 KS,.slice KT KU KV,.slice KW KX KY],.int .i64 SL]) ∧ R (.returned (.tuple #[.agg #[.int .i64 KR,.int .u64 KS,.slice KT KU KV,.slice KW KX KY],.int .i64 SL])) Av))))))))))) ∧ (Al (Hp.set σ b4 (.cells #[.int .i64 Dl,.int .i64 Cc,.string Dn,.slice Du Dy Dz,.int .i64 Dm,.int .i64 Dx,.int .i64 DT,.slice EB D0 EC,.bool DU,.int .i64 Cm] 36 (0,0))) fun b9 => Al (Hp.set (Hp.set σ b4 (.cells #[.int .i64 Dl,.int .i64 Cc,.string Dn,.slice Du Dy Dz,.int .i64 Dm,.int .i64 Dx,.int .i64 DT,.slice EB D0 EC,.bool DU,.int .i64 Cm] 36 (0,0))) b9 (.cells #[.int .i64 0,.int .u64 0,.slice none 0 0,.slice none 0 0] 93 (0,0))) fun b8 => AK prog (Instr.storeAt 93 (.pointer (aD b8 0)) (.agg #[.int .i64 H8,.int .u64 fT,.slice zB zC zD,.slice zF zG zH])) (Hp.set (Hp.set (Hp.set σ b4 (.cells #[.int .i64 Dl,.int .i64 Cc,.string Dn,.slice Du Dy Dz,.int .i64 Dm,.int .i64 Dx,.int .i64 DT,.slice EB D0 EC,.bool DU,.int .i64 Cm] 36 (0,0))) b9 (.cells #[.int .i64 0,.int .u64 0,.slice none 0 0,.slice none 0 0] 93 (0,0))) b8 (.cells #[.int .i64 0,.int .u64 0,.slice none 0 0,.slice none 0 0] 93 (0,0))) (fun _ y => Kp [CX] (Hp.set (Hp.set (Hp.set σ b4 (.cells #[.int .i64 Dl,.int .i64 Cc,.string Dn,.slice Du Dy Dz,.int .i64 Dm,.int .i64 Dx,.int .i64 DT,.slice EB D0 EC,.bool DU,.int .i64 Cm] 36 (0,0))) b9 (.cells #[.int .i64 0,.int .u64 0,.slice none 0 0,.slice none 0 0] 93 (0,0))) b8 (.cells #[.int .i64 0,.int .u64 0,.slice none 0 0,.slice none 0 0] 93 (0,0))) y ∧ AK prog (Instr.storeAt 93 (.pointer (aD b9 0)) (.agg #[.int .i64 Ve,.int .u64 fM,.slice zI zJ zK,.slice fN fO fP])) y (fun _ AH => LI .i64 AH b8 0 fun Hf => Br (Hf = 1) (LI .i64 AH b9 0 fun Ia => Br (Ia = 1) (∃ Xg RH kr ks kt ku kv kx ky kz k0 k8 k9 lA,Au AH b4 0 [.int .i64 Xg,.int .i64 RH,.string kr,.slice ks kt ku,.int .i64 kv,.int .i64 kx,.int .i64 ky,.slice kz k0 k8,.bool k9,.int .i64 lA] ∧ LI .u64 AH b8 1 fun RL => LI .u64 AH b9 1 fun lB => Spec prog 156 #[.agg #[.int .i64 Xg,.int .i64 RH,.string kr,.slice ks kt ku,.int .i64 kv,.int .i64 kx,.int .i64 ky,.slice kz k0 k8,.bool k9,.int .i64 lA],.int .u64 RL,.int .u64 lB] AH (AA R (fun z AL => ∃ Xh lC,z = (.tuple #[.int .u64 Xh,.bool lC]) ∧ R (.returned (.tuple #[.agg #[.int .i64 1,.int .u64 Xh,.slice none 0 0,.slice none 0 0],.int .i64 0])) AL))) (LI .i64 AH b8 0 fun pw => Br (pw = 1) (∃ RM NS RN RO RP RQ RR RS RT RU RV RW RX RY,Au AH b4 0 [.int .i64 RM,.int .i64 NS,.string RN,.slice RO RP RQ,.int .i64 RR,.int .i64 RS,.int .i64 RT,.slice RU RV RW,.bool RX,.int .i64 RY] ∧ LS AH b9 2 fun zL n45 zM => Spec prog 157 #[.pointer q0,.agg #[.int .i64 RM,.int .i64 NS,.string RN,.slice RO RP RQ,.int .i64 RR,.int .i64 RS,.int .i64 RT,.slice RU RV RW,.bool RX,.int .i64 RY],.slice zL n45 zM,(.func (.func 158) #[] #[(.pointer (aD b4 0)),(.pointer (aD b8 0))])] AH (AA R (fun z AL => ∃ J2 J3 J4 J5 J6 J7 J8 J9 Og,z = (.tuple #[.agg #[.int .i64 J2,.int .u64 J3,.slice J4 J5 J6,.slice J7 J8 J9],.int .i64 Og]) ∧ R (.returned (.tuple #[.agg #[.int .i64 J2,.int .u64 J3,.slice J4 J5 J6,.slice J7 J8 J9],.int .i64 Og])) AL))) (LI .i64 AH b9 0 fun ra => Br (ra = 1) (∃ RZ Ra Rb Rc Re Rf Rh Ri Rj Rk Rl Rm Rn Ro,Au AH b4 0 [.int .i64 RZ,.int .i64 Ra,.string Rb,.slice Rc Re Rf,.int .i64 Rh,.int .i64 Ri,.int .i64 Rj,.slice Rk Rl Rm,.bool Rn,.int .i64 Ro] ∧ LS AH b8 2 fun rf n57 rh => Spec prog 157 #[.pointer q0,.agg #[.int .i64 RZ,.int .i64 Ra,.string Rb,.slice Rc Re Rf,.int .i64 Rh,.int .i64 Ri,.int .i64 Rj,.slice Rk Rl Rm,.bool Rn,.int .i64 Ro],.slice rf n57 rh,(.func (.func 159) #[] #[(.pointer (aD b4 0)),(.pointer (aD b9 0))])] AH (AA R (fun z AL => ∃ KA KB KC KD KE KF KG KH Jt,z = (.tuple #[.agg #[.int .i64 KA,.int .u64 KB,.slice KC KD KE,.slice KF KG KH],.int .i64 Jt]) ∧ R (.returned (.tuple #[.agg #[.int .i64 KA,.int .u64 KB,.slice KC KD KE,.slice KF KG KH],.int .i64 Jt])) AL))) (LI .i64 AH b4 1 fun rE => Spec prog 128 #[.int .i64 rE] AH (AA R (CB fun t65 AL => Bo t65 (∃ Rp Rq Rt Ru Rv Rx Ry Rz R0 R1 R3 R4 R5 R6,Au AL b4 0 [.int .i64 Rp,.int .i64 Rq,.string Rt,.slice Ru Rv Rx,.int .i64 Ry,.int .i64 Rz,.int .i64 R0,.slice R1 R3 R4,.bool R5,.int .i64 R6] ∧ LS AL b8 2 fun rF n69 ur => LS AL b9 2 fun zN zO zP => Spec prog 160 #[.pointer q0,.agg #[.int .i64 Rp,.int .i64 Rq,.string Rt,.slice Ru Rv Rx,.int .i64 Ry,.int .i64 Rz,.int .i64 R0,.slice R1 R3 R4,.bool R5,.int .i64 R6],.slice rF n69 ur,.slice zN zO zP] AL (AA R (fun z Av => ∃ KI KJ KK KL KM KN KO KQ Jo,z = (.tuple #[.agg #[.int .i64 KI,.int .u64 KJ,.slice KK KL KM,.slice KN KO KQ],.int .i64 Jo]) ∧ R (.returned (.tuple #[.agg #[.int .i64 KI,.int .u64 KJ,.slice KK KL KM,.slice KN KO KQ],.int .i64 Jo])) Av))) (∃ R7 R8 R9 SA SB SC SD SE SF SG SH SI SJ SK,Au AL b4 0 [.int .i64 R7,.int .i64 R8,.string R9,.slice SA SB SC,.int .i64 SD,.int .i64 SE,.int .i64 SF,.slice SG SH SI,.bool SJ,.int .i64 SK] ∧ LS AL b8 2 fun qA lD qB => LS AL b9 2 fun zQ zR zS => Spec prog 161 #[.pointer q0,.agg #[.int .i64 R7,.int .i64 R8,.string R9,.slice SA SB SC,.int .i64 SD,.int .i64 SE,.int .i64 SF,.slice SG SH SI,.bool SJ,.int .i64 SK],.slice qA lD qB,.slice zQ zR zS] AL (AA R (fun z Av => ∃ KR KS KT KU KV KW KX KY SL,z = (.tuple #[.agg #[.int .i64 KR,.int .u64 KS,.slice KT KU KV,.slice KW KX KY],.int .i64 SL]) ∧ R (.returned (.tuple #[.agg #[.int .i64 KR,.int .u64 KS,.slice KT KU KV,.slice KW KX KY],.int .i64 SL])) Av))))))))) (LI .i64 AH b8 0 fun pw => Br (pw = 1) (∃ RM NS RN RO RP RQ RR RS RT RU RV RW RX RY,Au AH b4 0 [.int .i64 RM,.int .i64 NS,.string RN,.slice RO RP RQ,.int .i64 RR,.int .i64 RS,.int .i64 RT,.slice RU RV RW,.bool RX,.int .i64 RY] ∧ LS AH b9 2 fun zL n45 zM => Spec prog 157 #[.pointer q0,.agg #[.int .i64 RM,.int .i64 NS,.string RN,.slice RO RP RQ,.int .i64 RR,.int .i64 RS,.int .i64 RT,.slice RU RV RW,.bool RX,.int .i64 RY],.slice zL n45 zM,(.func (.func 158) #[] #[(.pointer (aD b4 0)),(.pointer (aD b8 0))])] AH (AA R (fun z AL => ∃ J2 J3 J4 J5 J6 J7 J8 J9 Og,z = (.tuple #[.agg #[.int .i64 J2,.int .u64 J3,.slice J4 J5 J6,.slice J7 J8 J9],.int .i64 Og]) ∧ R (.returned (.tuple #[.agg #[.int .i64 J2,.int .u64 J3,.slice J4 J5 J6,.slice J7 J8 J9],.int .i64 Og])) AL))) (LI .i64 AH b9 0 fun ra => Br (ra = 1) (∃ RZ Ra Rb Rc Re Rf Rh Ri Rj Rk Rl Rm Rn Ro,Au AH b4 0 [.int .i64 RZ,.int .i64 Ra,.string Rb,.slice Rc Re Rf,.int .i64 Rh,.int .i64 Ri,.int .i64 Rj,.slice Rk Rl Rm,.bool Rn,.int .i64 Ro] ∧ LS AH b8 2 fun rf n57 rh => Spec prog 157 #[.pointer q0,.agg #[.int .i64 RZ,.int .i64 Ra,.string Rb,.slice Rc Re Rf,.int .i64 Rh,.int .i64 Ri,.int .i64 Rj,.slice Rk Rl Rm,.bool Rn,.int .i64 Ro],.slice rf n57 rh,(.func (.func 159) #[] #[(.pointer (aD b4 0)),(.pointer (aD b9 0))])] AH (AA R (fun z AL => ∃ KA KB KC KD KE KF KG KH Jt,z = (.tuple #[.agg #[.int .i64 KA,.int .u64 KB,.slice KC KD KE,.slice KF KG KH],.int .i64 Jt]) ∧ R (.returned (.tuple #[.agg #[.int .i64 KA,.int .u64 KB,.slice KC KD KE,.slice KF KG KH],.int .i64 Jt])) AL))) (LI .i64 AH b4 1 fun rE => Spec prog 128 #[.int .i64 rE] AH (AA R (CB fun t65 AL => Bo t65 (∃ Rp Rq Rt Ru Rv Rx Ry Rz R0 R1 R3 R4 R5 R6,Au AL b4 0 [.int .i64 Rp,.int .i64 Rq,.string Rt,.slice Ru Rv Rx,.int .i64 Ry,.int .i64 Rz,.int .i64 R0,.slice R1 R3 R4,.bool R5,.int .i64 R6] ∧ LS AL b8 2 fun rF n69 ur => LS AL b9 2 fun zN zO zP => Spec prog 160 #[.pointer q0,.agg #[.int .i64 Rp,.int .i64 Rq,.string Rt,.slice Ru Rv Rx,.int .i64 Ry,.int .i64 Rz,.int .i64 R0,.slice R1 R3 R4,.bool R5,.int .i64 R6],.slice rF n69 ur,.slice zN zO zP] AL (AA R (fun z Av => ∃ KI KJ KK KL KM KN KO KQ Jo,z = (.tuple #[.agg #[.int .i64 KI,.int .u64 KJ,.slice KK KL KM,.slice KN KO KQ],.int .i64 Jo]) ∧ R (.returned (.tuple #[.agg #[.int .i64 KI,.int .u64 KJ,.slice KK KL KM,.slice KN KO KQ],.int .i64 Jo])) Av))) (∃ R7 R8 R9 SA SB SC SD SE SF SG SH SI SJ SK,Au AL b4 0 [.int .i64 R7,.int .i64 R8,.string R9,.slice SA SB SC,.int .i64 SD,.int .i64 SE,.int .i64 SF,.slice SG SH SI,.bool SJ,.int .i64 SK] ∧ LS AL b8 2 fun qA lD qB => LS AL b9 2 fun zQ zR zS => Spec prog 161 #[.pointer q0,.agg #[.int .i64 R7,.int .i64 R8,.string R9,.slice SA SB SC,.int .i64 SD,.int .i64 SE,.int .i64 SF,.slice SG SH SI,.bool SJ,.int .i64 SK],.slice qA lD qB,.slice zQ zR zS] AL (AA R (fun z Av => ∃ KR KS KT KU KV KW KX KY SL,z = (.tuple #[.agg #[.int .i64 KR,.int .u64 KS,.slice KT KU KV,.slice KW KX KY],.int .i64 SL]) ∧ R (.returned (.tuple #[.agg #[.int .i64 KR,.int .u64 KS,.slice KT KU KV,.slice KW KX KY],.int .i64 SL])) Av)))))))))))) : Spec prog 105 #[.pointer q0,.agg #[.int .i64 Dl,.int .i64 Cc,.string Dn,.slice Du Dy Dz,.int .i64 Dm,.int .i64 Dx,.int .i64 DT,.slice EB D0 EC,.bool DU,.int .i64 Cm],.slice p2 n2 c2] σ R := M.start h ok
end C5
namespace Gs
variable {s0 : ByteArray} {x3 : Int}
def M : Fw := ⟨prog,131,f131,[90],[],false,[],[],[(224,[(0,wT),(3,wI)])]⟩
theorem ok : M.Ok := ⟨.cons call90 (AJ.nil),mixed,func131,by kernel_rfl⟩
def F3 := M.pt 0
theorem start (h : F3 R s0 0 σ) : Spec prog 131 #[.string s0] σ R := M.start h ok
theorem As (h : Br (x3 < ((ByteArray.size s0 : Nat) : Int)) (∃ u11 : UInt8,0 ≤ x3 ∧ (ByteArray.data s0)[Int.toNat x3]? = some u11 ∧ Spec prog 90 #[(.int .u8 ((UInt8.toNat u11 : Nat) : Int))] σ (AA R (CB fun t12 y => Bo t12 (AG (x3 + 1) ∧ F3 R s0 (x3 + 1) y) (R (.returned (.int .i64 x3)) y)))) (R (.returned (.int .i64 x3)) σ)) : F3 R s0 x3 σ := M.of h ok rfl
end Gs
namespace DG
variable {p0 : Option Addr} {n0 c0 : Nat}
def M : Fw := ⟨prog,185,f185,[186],[],false,[],[],[]⟩
theorem ok : M.Ok := ⟨.cons call186 (AJ.nil),mixed,func185,by kernel_rfl⟩
theorem start (h : AG ((n0 : Int) - 1) ∧ Pq p0 fun b7 o7 => In (((n0 : Int) - 1)) (n0 : Int) ∧ LI .u64 σ b7 (o7 + Int.toNat ((n0 : Int) - 1) * 1) fun x8 => Spec prog 186 #[.int .u64 x8] σ (AA R (CI .u64 fun x9 y => R (.returned (.int .u64 x9)) y))) : Spec prog 185 #[.slice p0 n0 c0] σ R := M.start h ok
end DG
namespace DH
variable {p0 p1 : Option Addr} {n0 c0 n1 c1 : Nat}
def M : Fw := ⟨prog,189,f189,[190],[],false,[],[],[]⟩
theorem ok : M.Ok := ⟨.cons call190 (AJ.nil),mixed,func189,by kernel_rfl⟩
theorem start (h : AG ((n0 : Int) - 1) ∧ Pq p0 fun b9 o9 => In (((n0 : Int) - 1)) (n0 : Int) ∧ LI .u64 σ b9 (o9 + Int.toNat ((n0 : Int) - 1) * 1) fun x10 => In 0 (n0 : Int) ∧ LI .u64 σ b9 o9 fun FE => Spec prog 190 #[.int .u64 x10,.int .u64 FE] σ (AA R (CI .u64 fun Hm y => R (.returned (.int .u64 Hm)) y))) : Spec prog 189 #[.slice p0 n0 c0,.slice p1 n1 c1] σ R := M.start h ok
end DH
namespace dA
variable {Eu ES Pz NC Hk JM : Int} {P0 : ByteArray} {Ua RC p1 : Option Addr} {To Ub QL RD n1 c1 : Nat} {Mb : Bool}
def M : Fw := ⟨prog,207,f207,[146,149,150],[2],false,[],[],[]⟩
theorem ok : M.Ok := ⟨.cons call146 (.cons call149 (.cons call150 (AJ.nil))),mixed,func207,by kernel_rfl⟩
theorem start (h : ∀ b2 : Nat,Br (Hk = 3) (Spec prog 149 #[.slice p1 n1 c1,.slice RC QL RD] σ (AA R (CS fun Lx n11 Ly y => R (.returned (.slice Lx n11 Ly)) y))) (Spec prog 150 #[.slice p1 n1 c1,.slice RC QL RD] σ (AA R (CS fun EA n15 Dt y => Spec prog 146 #[.slice EA n15 Dt] y (AA R (CS fun Em n16 ER AH => R (.returned (.slice Em n16 ER)) AH)))))) : Spec prog 207 #[.agg #[.int .i64 Eu,.int .i64 ES,.string P0,.slice Ua To Ub,.int .i64 Pz,.int .i64 NC,.int .i64 Hk,.slice RC QL RD,.bool Mb,.int .i64 JM],.slice p1 n1 c1] σ R := M.start h ok
end dA
namespace strings_Split
variable {s0 s1 : ByteArray}
end strings_Split
namespace FQ
variable {p0 Du EB p2 : Option Addr} {n0 c0 Dy Dz D0 EC n2 c2 b3 : Nat} {Dl Cc Dm Dx DT Cm : Int} {Dn : ByteArray} {DU : Bool}
def M : Fw := ⟨prog,224,f224,[],[5],false,[],[],[]⟩
theorem ok : M.Ok := ⟨AJ.nil,mixed,func224,by kernel_rfl⟩
theorem start (h : ∀ b5 : Nat,∃ v9,Hp.ld σ ⟨b3,0,none⟩ = some v9 ∧ ∃ (f11 : Nat) (vN vO : Array Value),v9 = .func (.func f11) vN vO ∧ Enters prog f11 ∧ Spec prog f11 (vN ++ #[.slice p0 n0 c0] ++ vO) σ (AA R (CI .u64 fun x11 y => R (.returned (.tuple #[.int .u64 x11,.bool true])) y))) : Spec prog 224 #[.slice p0 n0 c0,.agg #[.int .i64 Dl,.int .i64 Cc,.string Dn,.slice Du Dy Dz,.int .i64 Dm,.int .i64 Dx,.int .i64 DT,.slice EB D0 EC,.bool DU,.int .i64 Cm],.slice p2 n2 c2,(.pointer (aD b3 0))] σ R := M.start h ok
end FQ
namespace EW
variable {x0 : Int}
def M : Fw := ⟨prog,302,f302,[],[],false,[],[],[]⟩
theorem ok : M.Ok := ⟨AJ.nil,mixed,func302,by kernel_rfl⟩
theorem start (h : Df (Go.bits .or .u8 x0 32) fun x4 => R (.returned (.int .u8 x4)) σ) : Spec prog 302 #[.int .u8 x0] σ R := M.start h ok
end EW
namespace CF
variable {s0 s1 : ByteArray}
def M : Fw := ⟨prog,315,f315,[],[],false,[],[],[]⟩
theorem ok : M.Ok := ⟨AJ.nil,mixed,func315,by kernel_rfl⟩
theorem start (h : Br ((((ByteArray.size s1 : Nat) : Int) : Int) ≤ ((ByteArray.size s0 : Nat) : Int)) (∃ s14,YF prog (Instr.sliceAt 9 (.string s0) none (some (.int .i64 ((ByteArray.size s1 : Nat) : Int))) none) σ (.string s14) ∧ R (.returned (.bool (ByteArray.toList s14 == ByteArray.toList s1))) σ) (R (.returned (.bool false)) σ)) : Spec prog 315 #[.string s0,.string s1] σ R := M.start h ok
end CF
end TwW
end
end
