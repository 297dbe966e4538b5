/-
  Part 2 of the proof that the law EvalSumsUptoCardSaid of the given program answers true for every input of the given statement; the input reads behind the call as it did. (The texts: packed from 7 texts. Names are shortened by the packing program, for the bound on size.)
-/
import Derived.Test.YtlmhidjgplomgaaGreatDoorA1
set_option linter.all false
section
namespace Tw
open Go
variable [Ey]
def kg (P : Program) : Op → Bool
 | .call c => match c.callee with
   | .builtin .len => false
   | .builtin .cap => false
   | .builtin .min => match c.argTypes.toList with
     | T :: _ => zC P T
     | [] => false
   | .builtin .max => match c.argTypes.toList with
     | T :: _ => zC P T
     | [] => false
   | .builtin .real => false
   | .builtin .imag => false
   | .builtin .complex => false
   | _ => true
 | .convert T T' _ => match P.underlying T,P.underlying T' with
   | some (.int _),some (.int _) => false
   | _,_ => true
 | .box .. => true
 | .alloc .. => true
 | .store .. => true
 | .buildSlice .. => true
 | .makeSlice .. => true
 | .mapUpdate .. => true
 | .makeMap .. => true
 | .insert .. => true
 | .range .. => true
 | .next .. => true
 | .lookup .. => true
 | .entryStore .. => true
 | .mapEntry .. => true
 | .makeChan .. => true
 | .binOp b T _ _ _ => flB b && zC P T
 | _ => false
def gO (s : S) : Option Operand → Option (Option Value)
 | none => some none
 | some x => match s.op x with
   | some v => some (some (v.den s.vl))
   | none => none
def sM (P : Program) (b : BinOp) (T : TypeId) (x y : Option SV) : Bool := match Wj x,Wj y with
 | some _,some _ => true
 | _,_ => match P.underlying T with
   | some .string => match b with
     | .eql => true
     | .neq => true
     | .add => true
     | _ => false
   | some (.pointer _) => true
   | some .bool => true
   | _ => false
def AKw : Option SV → Bool
 | some (.v (.a (.sl _ _ _))) => true
 | _ => false
def anyM (P : Program) (op : Op) (ty : TypeId) (s : S) : Option (Sem Value) := match op with
 | .slice T x lo hi mx => match AKw (s.op x) && mx.isNone with
   | true => none
   | false => match s.op x,gO s lo,gO s hi,gO s mx with
     | some w,some l,some h,some m => some (Instr.sliceAt T (w.den s.vl) l h m)
     | _,_,_,_ => none
 | .unOp u _ x => match u,s.op x with
   | .not,_ => none
   | .neg,v => match Wj v,v with
     | some _,_ => none
     | none,some v => some (Op.unary .neg (v.den s.vl))
     | none,none => none
   | u,some v => some (Op.unary u (v.den s.vl))
   | _,none => none
 | .binOp b T x y _ => match sM P b T (s.op x) (s.op y) with
   | true => none
   | false => match s.op x,s.op y with
     | some u,some v => some (do eqGuard b T x y (u.den s.vl) (v.den s.vl); binOp b T (u.den s.vl) (v.den s.vl))
     | _,_ => none
 | .call c => match c.callee,c.args.toList,c.argTypes.toList with
   | .builtin .len,[x],[T] => match s.op x with
     | some (.v (.a (.mp m))) => some (Builtin.len_ #[T] ty #[.map m])
     | _ => none
   | .builtin .real,[x],_ => match s.op x with
     | some v => some (Builtin.real_ c.argTypes ty #[v.den s.vl])
     | none => none
   | .builtin .imag,[x],_ => match s.op x with
     | some v => some (Builtin.imag_ c.argTypes ty #[v.den s.vl])
     | none => none
   | .builtin .complex,[x,y],_ => match s.op x,s.op y with
     | some u,some v => some (Builtin.complex_ c.argTypes ty #[u.den s.vl,v.den s.vl])
     | _,_ => none
   | _,_,_ => none
 | _ => none
theorem OS {s : S} {J : Env} {x : Option Operand} {v : Option Value} (h : gO s x = some v) : x.map (AD (s.e J)) = v := by
 cases x with
 | none => simp only [gO,Option.some.injEq] at h; subst h; rfl
 | some x =>
   simp only [gO] at h
   split at h
   · rename_i u hu
     cases h
     simp only [Option.map_some]
     rw [ev hu]
   · cases h
theorem gP {P : Program} {op : Op} {ty : TypeId} {s : S} {m : Sem Value} (h : anyM P op ty s = some m) (J : Env) : ∀ o : Oper,o.op = op → o.type = ty → execOp (AD (s.e J)) o = (do pure (Next.value (← m))) := fun o ho ht => by
 unfold anyM at h
 split at h
 · rename_i T x lo hi mx
   split at h
   · cases h
   · split at h
     · rename_i w l hh mm h1 h2 h3 h4
       cases h
       simp only [execOp,ho,OS h2,OS h3,OS h4,ev h1]
     · cases h
 · rename_i u T x
   split at h
   · cases h
   · split at h
     · cases h
     · rename_i hv
       cases h
       simp only [execOp,ho,ev hv]
     · cases h
   · rename_i hv
     cases h
     simp only [execOp,ho,ev hv]
   · cases h
 · rename_i b T x y T'
   split at h
   · cases h
   · split at h
     · rename_i u v hu hv
       cases h
       simp only [execOp,ho,ev hu,ev hv]
     · cases h
 · rename_i c
   obtain ⟨ce,AWS,ts⟩ := c
   split at h
   · rename_i x T h1 h2 h3
     simp only at h1 h2 h3
     have e1 : AWS = #[x] := by rw [← Array.toList_inj]; simpa using h2
     have e2 : ts = #[T] := by rw [← Array.toList_inj]; simpa using h3
     subst h1 e1 e2
     split at h
     · rename_i mm hx
       cases h
       exact aK (by rw [ev hx]; rfl) o ho ht
     · cases h
   · rename_i x h1 h2
     simp only at h1 h2 h
     have e1 : AWS = #[x] := by rw [← Array.toList_inj]; simpa using h2
     subst h1 e1
     split at h
     · rename_i v hv
       cases h
       exact PE (ev hv) o ho ht
     · cases h
   · rename_i x h1 h2
     simp only at h1 h2 h
     have e1 : AWS = #[x] := by rw [← Array.toList_inj]; simpa using h2
     subst h1 e1
     split at h
     · rename_i v hv
       cases h
       exact PF (ev hv) o ho ht
     · cases h
   · rename_i x y h1 h2
     simp only at h1 h2 h
     have e1 : AWS = #[x,y] := by rw [← Array.toList_inj]; simpa using h2
     subst h1 e1
     split at h
     · rename_i u v hu hv
       cases h
       exact Jr (ev hu) (ev hv) o ho ht
     · cases h
   · cases h
 · cases h
def zD (P : Program) (ty : TypeId) (m : Sem Value) (s : S) (K : SV → S → Prop) : Prop := s.ex P ty fun v s => YF P m s.σ (v.den s.vl) ∧ K v s
theorem Q9 {P : Program} {op : Op} {ty : TypeId} {s : S} {m : Sem Value} {K : SV → S → Prop} (hm : anyM P op ty s = some m) (h : zD P ty m s K) : ∃ v s',s.IA s' ∧ (∀ J,Yd P (s.e J) s.b s.σ op ty (v.den s'.vl)) ∧ K v s' := by
 obtain ⟨v,s',h1,hy,hk⟩ := S.Q7 h
 rw [h1.σ] at hy
 exact ⟨v,s',h1,fun J => Yd.any (gP hm J) hy,hk⟩
def RA (ops : Array Oper) (gd : Option (Nat × Bool)) (s : S) (K : Bool → S → Prop) : Prop := match gd with
 | none => K true s
 | some (j,want) => match (ops[j]?).bind (·.dst) with
   | none => False
   | some d => match VR s.env d with
     | some (.v (.a .un)) => K false s
     | v => s.sI v fun t s => K (t == want) s
theorem Im {ops : Array Oper} {gd : Option (Nat × Bool)} {s : S} {K : Bool → S → Prop} (h : RA ops gd s K) : ∃ b s',s.IA s' ∧ (∀ J,AP ops (s.e J) gd = b) ∧ K b s' := by
 unfold RA at h
 split at h
 · exact ⟨true,s,.refl s,fun _ => rfl,h⟩
 · rename_i j want
   split at h
   · cases h
   · rename_i d hd
     split at h
     · rename_i hv
       refine ⟨false,s,.refl s,fun J => ?_,h⟩
       have : s.e J d = undef := EC hv
       simp only [AP,hd,this]
       rfl
     · obtain ⟨t,s',x,h1,h2,h3,h4,h⟩ := S.FI h
       refine ⟨_,s',h1,fun J => ?_,h⟩
       have : s.e J d = .bool t := (EC h3).trans h4
       simp only [AP,hd,this]
       cases t <;> cases want <;> rfl
def dt (J : Env) (K : S → Prop) : Env → Bx → Hp → Prop := fun e bx σ => ∃ s,e = s.e J ∧ bx = s.b ∧ σ = s.σ ∧ K s
structure Cx extends ak where
 n : Nat
 OT : List (Nat × TypeId) := []
structure Cx.Ok (c : Cx) (g : Gl) : Prop where
 P : c.P = g.P
 R : c.R = g.R
 E : AG g.P c.NB
 n : c.n = g.n
 Gp : g.Gp = none
 ds : g.ds = []
def kp0 : KP := fun _ _ F => F
def gQ (l : List FG) (i : Nat) (o : Nat) (xs : List Bf) : List FG := match l with
 | [] => []
 | (j,t,cs) :: l => bif Nat.beq j i then (j,t,ae cs o xs) :: l else (j,t,cs) :: gQ l i o xs
def RB {α : Type} : List α → Nat
 | [] => 0
 | _ :: l => RB l + 1
theorem QV {α : Type} : ∀ l : List α,RB l = l.length
 | [] => rfl
 | _ :: l => by simp only [RB,List.length_cons]; rw [QV l]
def OU : List Bf → List Value
 | [] => []
 | .raw v :: l => v :: OU l
 | .un :: l => undef :: OU l
 | _ :: l => OU l
def zF (F : Prop) : List Value → Prop
 | [] => F
 | [v] => (Value.oneCell' v = true) ∧ F
 | l => zG l ∧ F
where
 zG : List Value → Prop
   | [] => True
   | [v] => Value.oneCell' v = true
   | v :: l => Value.oneCell' v = true ∧ zG l
def SV.av : SV → Option (List Bf)
 | .v (.a x) => some [x]
 | .v (.agg l) => some l
 | .UH _ => none
def mapOf (P : Program) (l : List (Nat × TypeId)) (x : Operand) : Option (TypeId × TypeId) := match x with
 | .tmp t => match l.find? fun p => Nat.beq p.1 t with
   | some p => match P.underlying p.2 with
     | some (.map k v) => some (k,v)
     | _ => none
   | none => none
 | _ => none
def kh (c : Cx) (dst : Option Nat) (x : Operand) (ty : TypeId) (s : S) (K : S → Prop) : Prop := match dst,s.op x,mapOf c.P c.OT x with
 | some d,some u,some (tk,tv) => AJ c.P (Instr.next (u.den s.vl) false ty) s.σ (fun v σ1 => (v = (.tuple #[(.bool false)]) ∧ K ((s.hp σ1).put (some d) (.UH [.a (.bl false)]))) ∨
     (match s.ok with
       | true => q8 c.P tk s.vl fun a vl => q8 c.P tv vl fun b vl => v = (SV.UH [.a (.bl true),a,b]).den vl ∧ K (((s.hp σ1).w vl).put (some d) (.UH [.a (.bl true),a,b]))
       | false => False))
 | _,_,_ => False
def zH (c : Cx) (T : TypeId) (i o : Nat) (v : SV) (s : S) (K : S → Prop) : Prop := match v.av,XB c.P T with
 | some l,some n => match XK s.bx i with
   | some (t,cs) => match Nat.beq (RB l) n && Nat.ble (o + RB l) (RB cs) with
     | true => zF (K ⟨s.env,gQ s.bx i o l,s.vl,s.σ⟩) (OU l)
     | false => False
   | none => False
 | _,_ => False
def ki (c : Cx) (ops : Array Oper) (i : Nat) (s : S) (K : S → Prop) : Prop := match ops[i]? with
 | none => False
 | some o => match HB o.dst c.n with
   | false => False
   | true => RA ops o.guard s fun b s => match b with
     | false => K (s.put o.dst (.at .un))
     | true => match o.op with
       | .load T x => ldV c.P T x s fun _ v s => K (s.put o.dst v)
       | .mapUpdate T m k v => match o.dst,s.op m,s.op k,s.op v with
         | none,some m,some k,some v => AJ c.P (Instr.mapUpdate T (m.den s.vl) (k.den s.vl) (v.den s.vl)) s.σ (fun _ σ1 => K (s.hp σ1))
         | _,_,_,_ => False
       | .insert T m k v => match o.dst,s.op m,s.op k,s.op v with
         | none,some m,some k,some v => AJ c.P (Instr.mapUpdate T (m.den s.vl) (k.den s.vl) (v.den s.vl)) s.σ (fun _ σ1 => K (s.hp σ1))
         | _,_,_,_ => False
       | .next x false => kh c o.dst x o.type s K
       | .entry x => match s.op x,mapOf c.P c.OT x with
         | some u,some (tk,tv) => AJ c.P (Instr.entry (u.den s.vl)) s.σ (fun v σ1 => Gu (ka c.P tk tv) o.dst (s.hp σ1) s.σ v kp0 K)
         | _,_ => False
       | .panic x => match s.op x with
         | some (.v (.a (.raw (.iface T u)))) => c.R (.panicked [{ v := .iface T u,recovered := false }]) s.σ
         | _ => False
       | .store T x y => match o.dst,kT (s.op x),s.op y with
         | none,some (.bx i b),some v => zH c T i b v s K
         | _,_,_ => gM c.toak o.dst (.store T x y) o.type s kp0 K
       | op => match kg c.P op,anyM c.P op o.type s with
         | true,_ => gM c.toak o.dst op o.type s kp0 K
         | false,some m => zD c.P o.type m s fun v s => K (s.put o.dst v)
         | false,none => yv c.P c.wr op s fun v s => K (s.put o.dst v)
def sN (c : Cx) (ops : Array Oper) : List Nat → S → (S → Prop) → Prop
 | [],s,K => K s
 | i :: is,s,K => ki c ops i s fun s => sN c ops is s K
section
variable {g : Gl} {ops : Array Oper} {i : Nat} {J : Env} {s : S} {K : S → Prop} {c : Cx}
theorem du {s s' : S} {K : Env → Bx → Hp → Prop} (h : s.IA s') (hk : AL g ops i (s'.e J) s'.b s'.σ K) : AL g ops i (s.e J) s.b s.σ K := by
 rw [← h.e J,← h.b,← h.σ]; exact hk
theorem ADn {s : S} {o : Oper} {K : SV → S → Prop} {K' : Env → Bx → Hp → Prop} (ho : ops[i]? = some o) (hw : AP ops (s.e J) o.guard = true) (hd : HB o.dst g.n = true) (h : YP g.P o.op o.type s K) (hk : ∀ v s',s.IA s' → K v s' → K' ((s'.put o.dst v).e J) s'.b s'.σ) :
   AL g ops i (s.e J) s.b s.σ K' := by
 obtain ⟨v,s',h1,h2,h3⟩ := h
 have := hk v s' h1 h3
 rw [S.H7,h1.e J,h1.b,h1.σ] at this
 exact AL.y (Cv ho) hw hd (h2 J _) this
theorem Yd.up {P : Program} {e : Env} {bx : Bx} {σ : Hp} {b : Nat} {op : Op} {ty : TypeId} {v : Value} (h : Yd P e bx (fun x => if x = b then σ x else none) op ty v) : Yd P e bx σ op ty v := fun o ho ht w hs hb => h o ho ht w (fun k u hk => by
 simp only at hk
 split at hk
 · exact hs k u hk
 · cases hk) hb
theorem AL.mono {e : Env} {bx : Bx} {σ : Hp} {K K' : Env → Bx → Hp → Prop} (h : AL g ops i e bx σ K) (hk : ∀ e bx σ,K e bx σ → K' e bx σ) : AL g ops i e bx σ K' := fun w0 F a w st => wpOpIn_mono (fun a' w' ⟨e',b',σ',Mz,h'⟩ => ⟨e',b',σ',Mz,hk _ _ _ h'⟩) (h w0 F a w st)
theorem ADo {dst : Option Nat} {op : Op} {ty : TypeId} {gd : Option (Nat × Bool)} (hc : c.Ok g) (hs : sig ops i = some (dst,op,ty,gd)) (hw : AP ops (s.e J) gd = true) (hd : HB dst g.n = true) (h : gM c.toak dst op ty s kp0 K) : AL g ops i (s.e J) s.b s.σ (dt J K) := by
 have := Q8 (c := c.toak) (kq := fun _ _ => True) (J := J) hc.P hc.R hc.E (fun _ _ F h => ⟨h,trivial⟩) (fun _ _ _ => trivial) hs hw hd h
 intro w0 F a w st
 refine wpOpIn_mono ?_ (this w0 F a w st)
 rintro a' w' ⟨e',GJ,σ',Mz,s',rfl,rfl,rfl,_,_,hk⟩
 exact ⟨_,_,_,Mz,s',rfl,rfl,rfl,hk⟩
theorem XP {dst : Option Nat} {x : Operand} {ty : TypeId} {gd : Option (Nat × Bool)} (hc : c.Ok g) (hs : sig ops i = some (dst,.next x false,ty,gd)) (hw : AP ops (s.e J) gd = true) (hd : HB dst g.n = true) (h : kh c dst x ty s K) : AL g ops i (s.e J) s.b s.σ (dt J K) := by
 unfold kh at h
 split at h
 · rename_i d u tk tv hu hm
   rw [hc.P] at h
   refine AL.Qr hs hw hd (Instr.next (u.den s.vl) false ty) (fun o ho ht => by simp only [execOp,ho,ht]; rw [ev hu]) (h.mono fun v σ1 hr => ?_)
   rcases hr with ⟨rfl,hk⟩ | hr
   · exact ⟨_,(S.H7 (s := s.hp σ1) (x := .UH [.a (.bl false)])).symm,(S.H8 (s := s.hp σ1) (x := .UH [.a (.bl false)])).symm,(S.FH (s := s.hp σ1) (x := .UH [.a (.bl false)])).symm,hk⟩
   · split at hr
     · rename_i D1
       obtain ⟨a,w1,h1,hr⟩ := ED hr
       obtain ⟨b,w2,h2,hr⟩ := ED hr
       obtain ⟨hv,hk⟩ := hr
       have PD := S.Q0 (s := s.hp σ1) D1 (h1.trans h2).le
       refine ⟨_,?_,?_,?_,hk⟩
       · rw [S.H7,PD.e J,hv]; rfl
       · rw [S.H8,PD.b]; rfl
       · rw [S.FH]; rfl
     · cases hr
 · cases h
theorem XQ {vl : Vl} {i o : Nat} {l : List Bf} : ∀ {bx : List FG} {t : TypeId} {cs : List Bf},XK bx i = some (t,cs) → ∃ j,(ET vl bx)[j]? = some (nth 0 vl.δ i,.cells (A6 vl cs).toArray t (0,0)) ∧ ET vl (gQ bx i o l) = (ET vl bx).set j (nth 0 vl.δ i,.cells (A6 vl (ae cs o l)).toArray t (0,0))
 | (k,u,ds) :: r,t,cs,h => by
   simp only [XK] at h
   cases hk : Nat.beq k i with
   | true =>
     rw [hk] at h; simp only [cond_true,Option.some.injEq,Prod.mk.injEq] at h
     obtain ⟨rfl,rfl⟩ := h
     have := Nat.eq_of_beq_eq_true hk
     subst this
     exact ⟨0,rfl,by simp only [gQ,hk,cond_true,ET,List.set_cons_zero]⟩
   | false =>
     rw [hk] at h; simp only [cond_false] at h
     obtain ⟨j,h1,h2⟩ := XQ (vl := vl) (o := o) (l := l) h
     exact ⟨j + 1,by simpa only [ET,List.getElem?_cons_succ] using h1,by simp only [gQ,hk,cond_false,ET,List.set_cons_succ,h2]⟩
theorem aw {F : Prop} {l : List Value} (h : zF F l) : F ∧ ∀ v ∈ l,Value.oneCell' v = true := by
 have cj : ∀ {l : List Value},zF.zG l → ∀ v ∈ l,Value.oneCell' v = true := fun {l} => by
   induction l with
   | nil => intro _ v hv; cases hv
   | cons a l ih =>
     intro h v hv
     cases l with
     | nil => simp at hv; subst hv; exact h
     | cons b l =>
       rcases List.mem_cons.1 hv with rfl | hv
       · exact h.1
       · exact ih h.2 v hv
 match l,h with
 | [],h => exact ⟨h,fun v hv => by cases hv⟩
 | [v],h => exact ⟨h.2,fun u hu => by simp at hu; subst hu; exact h.1⟩
 | a :: b :: l,h => exact ⟨h.2,cj h.1⟩
theorem RC {vl : Vl} : ∀ {l : List Bf},(∀ v ∈ OU l,Value.oneCell' v = true) → ∀ u ∈ A6 vl l,Value.oneCell' u = true
 | [],_,u,hu => by cases hu
 | x :: l,h,u,hu => by
   have tl : ∀ v ∈ OU l,Value.oneCell' v = true := fun v hv => h v (by cases x <;> first | exact hv | exact List.mem_cons_of_mem _ hv)
   rcases List.mem_cons.1 hu with rfl | hu
   · cases x <;> try rfl
     case bs i n => cases n <;> rfl
     case raw v => exact h v (List.mem_cons_self ..)
     case un => exact h undef (List.mem_cons_self ..)
   · exact RC tl u hu
theorem ax {vl : Vl} {v : SV} {l : List Bf} (h : v.av = some l) (ho : ∀ u ∈ A6 vl l,Value.oneCell' u = true) : (v.den vl).cells = (A6 vl l).toArray := by
 unfold SV.av at h
 split at h
 · rename_i x
   cases h
   have := ho (x.den vl) (List.mem_cons_self ..)
   simp only [SV.den,Gd.den,A6]
   cases hx : x.den vl <;> first | rfl | (rw [hx] at this; cases this)
 · cases h; rfl
 · cases h
theorem ay {T ty : TypeId} {x y : Operand} {gd : Option (Nat × Bool)} {k b : Nat} {v : SV} (hc : c.Ok g) (hs : sig ops i = some (none,.store T x y,ty,gd)) (hw : AP ops (s.e J) gd = true) (hx : kT (s.op x) = some (.bx k b)) (hy : s.op y = some v) (h : zH c T k b v s K) : AL g ops i (s.e J) s.b s.σ (dt J K) := by
 unfold zH at h
 split at h
 · rename_i l n hl hz
   split at h
   · rename_i t cs hg
     split at h
     · rename_i hd
       simp only [Bool.and_eq_true,QV] at hd
       obtain ⟨hk,ho⟩ := aw h
       have az := RC (vl := s.vl) ho
       have bB := ax (vl := s.vl) hl az
       obtain ⟨u,e1,e2⟩ := EV hx
       obtain ⟨j,h1,h2⟩ := XQ (vl := s.vl) (o := b) (l := l) hg
       rw [hc.P] at hz
       refine AL.yS (b := nth 0 s.vl.δ k) (o := b) (c := (A6 s.vl cs).toArray) (c' := (A6 s.vl (ae cs b l)).toArray) (t := t) (j := j) hs hw (CN hz) (by rw [ev e1,e2]; rfl) (ev hy) h1 ?_ ?_ ?_ ?_ ?_
       · rw [bB]; simp [Cw]; exact Nat.eq_of_beq_eq_true hd.1
       · have := Nat.eq_of_beq_eq_true hd.1
         have h3 := Nat.le_of_ble_eq_true hd.2
         exact Nat.ble_eq_true_of_le (by simp [Cw]; omega)
       · rw [bB]; exact List.all_eq_true.2 fun u hu => az u (by simpa using hu)
       · rw [bB,Q4]
       · exact ⟨⟨s.env,gQ s.bx k b l,s.vl,s.σ⟩,rfl,h2.symm,rfl,hk⟩
     · cases h
   · cases h
 · cases h
theorem XR (hc : c.Ok g) (h : ki c ops i s K) : AL g ops i (s.e J) s.b s.σ (dt J K) := by
 unfold ki at h
 split at h
 · cases h
 · rename_i o ho
   split at h
   · cases h
   · rename_i hd
     rw [hc.n] at hd
     obtain ⟨b,s1,h1,hw,h⟩ := Im h
     have hw := hw J
     rw [← h1.e J] at hw
     refine du h1 ?_
     cases b with
     | false => exact AL.no (Cv ho) hw hd ⟨_,(S.H7 (x := .at .un)).symm,S.H8.symm,S.FH.symm,h⟩
     | true =>
       simp only at h
       split at h
       · rename_i T x FU
         obtain ⟨m,v,s2,h2,hk,hy⟩ := UU (ty := o.type) h
         have hs := Cv ho
         rw [FU] at hs
         refine AL.y (v := v.den s2.vl) hs hw hd ?_ ⟨s2.put o.dst v,by rw [S.H7,h2.e J],by rw [S.H8,h2.b],by rw [S.FH,h2.σ],hk⟩
         have hy := hy J
         rw [hc.P] at hy
         cases m with
         | none => exact hy _
         | some b => exact Yd.up hy
       · rename_i T m k v FU
         split at h
         · rename_i um uk uv Mb hm hk hv
           have hs := Cv ho
           rw [FU,Mb] at hs
           rw [hc.P] at h
           exact AL.ru hs hw rfl _ (fun o ho ht => by simp only [execOp,ho]; rw [ev hm,ev hk,ev hv]) (h.mono fun _ σ1 hr => ⟨s1.hp σ1,rfl,rfl,rfl,hr⟩)
         · cases h
       · rename_i T m k v FU
         split at h
         · rename_i um uk uv Mb hm hk hv
           have hs := Cv ho
           rw [FU,Mb] at hs
           rw [hc.P] at h
           exact AL.ru hs hw rfl _ (fun o ho ht => by simp only [execOp,ho]; rw [ev hm,ev hk,ev hv]) (h.mono fun _ σ1 hr => ⟨s1.hp σ1,rfl,rfl,rfl,hr⟩)
         · cases h
       · have FU := ‹o.op = Op.next _ false›
         have hs := Cv ho
         rw [FU] at hs
         exact XP hc hs hw hd h
       · have FU := ‹o.op = Op.entry _›
         have hs := Cv ho
         rw [FU] at hs
         split at h
         · rename_i u tk tv hu hm
           rw [hc.P] at h
           have := AL.Qr (K := zB J s1 (fun _ _ => True) K) hs hw hd (Instr.entry (u.den s1.vl)) (fun o ho ht => by simp only [execOp,ho]; rw [ev hu]) (h.mono fun v σ1 hr => Ac (kq := fun _ _ => True) gL (fun _ _ F h => ⟨h,trivial⟩) hr J)
           exact this.mono fun e bx σ ⟨s',e1,e2,e3,_,_,hk⟩ => ⟨s',e1,e2,e3,hk⟩
         · cases h
       · have FU := ‹o.op = Op.panic _›
         split at h
         · rename_i T u hx
           have hs := Cv ho
           rw [FU] at hs
           rw [hc.R] at h
           exact AL.panic hs hw (by rw [ev hx]; rfl) hc.Gp hc.ds h
         · cases h
       · have FU := ‹o.op = Op.store _ _ _›
         have hs := Cv ho
         rw [FU] at hs
         split at h
         · rename_i i' b v Mb hx hy
           rw [Mb] at hs
           exact ay hc hs hw hx hy h
         · exact ADo hc hs hw hd h
       · split at h
         · exact ADo hc (Cv ho) hw hd h
         · rename_i m _ hm
           rw [hc.P] at h hm
           obtain ⟨v,s2,h2,hy,hk⟩ := Q9 hm h
           exact AL.y (v := v.den s2.vl) (Cv ho) hw hd (hy J) ⟨s2.put o.dst v,by rw [S.H7,h2.e J],by rw [S.H8,h2.b],by rw [S.FH,h2.σ],hk⟩
         · rw [hc.P] at h
           exact ADn ho hw hd (XL h) fun v s' jh hk => ⟨s'.put o.dst v,rfl,S.H8.symm,S.FH.symm,hk⟩
theorem Me (hc : c.Ok g) : ∀ {is : List Nat} {s : S},sN c ops is s K → Seq g ops is (s.e J) s.b s.σ (dt J K)
 | [],s,h => ⟨s,rfl,rfl,rfl,h⟩
 | i :: is,s,h => (XR hc h).mono fun e bx σ ⟨s',h1,h2,h3,h4⟩ => by subst h1 h2 h3; exact Me hc h4
theorem RD {K K' : Env → Bx → Hp → Prop} (hk : ∀ e bx σ,K e bx σ → K' e bx σ) : ∀ {is : List Nat} {e : Env} {bx : Bx} {σ : Hp},Seq g ops is e bx σ K → Seq g ops is e bx σ K'
 | [],_,_,_,h => hk _ _ _ h
 | i :: is,e,bx,σ,h => AL.mono h fun _ _ _ h => RD hk h
theorem Io {K K' : Env → Bx → Hp → Prop} (hk : ∀ e bx σ,K e bx σ → K' e bx σ) : ∀ {p : Ord} {q : Ib} {e : Env} {bx : Bx} {σ : Hp},Jo g ops p q e bx σ K → Jo g ops p q e bx σ K'
 | .done,_,_,_,_,h => hk _ _ _ h
 | .yes i r,q,e,bx,σ,⟨own,o,v,h1,h2,h3,h4,h5⟩ => ⟨own,o,v,h1,h2,h3,h4,Io hk h5⟩
 | .alt i r t,q,e,bx,σ,⟨h1,h2⟩ => ⟨AL.mono h1 fun _ _ _ ⟨h3,h4⟩ => ⟨h3,Io hk h4⟩,Io hk h2⟩
 | .no,_,_,_,_,_ => trivial
def RE : Ord → List Nat
 | .done => []
 | .yes _ r => RE r
 | .alt i r _ => i :: RE r
 | .no => []
def ADp (ops : Array Oper) (i : Nat) : Nat → Nat → Option (List Nat)
 | 0,_ => none
 | f + 1,t => match H3 ops t i with
   | true => some [t]
   | false => (List.range t).findSome? fun u => match Nat.blt i u && H3 ops t u with
     | true => match ADp ops i f u with
       | some p => some (t :: p)
       | none => none
     | false => none
def waits (ops : Array Oper) (i : Nat) : List Nat → List (List Nat)
 | [] => []
 | t :: l => match ADp ops i 40 t with
   | some p => p :: waits ops i l
   | none => waits ops i l
def vh (L : Ib) : KP := fun σ0 σ1 F => match L with
 | none => Ext σ0 σ1 ∧ F
 | some [] => F
 | some (x :: l) => Kp ((x :: l).map Prod.fst) σ0 σ1 ∧ F
def Fc (c : Cx) (ops : Array Oper) : Ord → Ib → S → (S → Prop) → Prop
 | .done,_,s,K => K s
 | .yes i r,L,s,K => match ops[i]? with
   | none => False
   | some o => match HB o.dst c.n && L.ok i with
     | false => False
     | true => RA ops o.guard s fun b s => match b with
       | false => Fc c ops r L (s.put o.dst (.at .un)) K
       | true => match o.op with
         | .load T x => ldV c.P T x s fun m v s => match m,L with
           | none,_ => Fc c ops r L (s.put o.dst v) K
           | some _,none => Fc c ops r L (s.put o.dst v) K
           | some b,some l => match (MY (some l) (some (b,waits ops i (RE r)))).ok i && Qq ops i (some (b,waits ops i (RE r))) with
             | true => Fc c ops r (MY (some l) (some (b,waits ops i (RE r)))) (s.put o.dst v) K
             | false => False
         | op => match kg c.P op,anyM c.P op o.type s,L with
           | true,_,_ => False
           | false,some m,none => zD c.P o.type m s fun v s => Fc c ops r none (s.put o.dst v) K
           | false,some _,some _ => False
           | false,none,L => yv c.P c.wr op s fun v s => Fc c ops r L (s.put o.dst v) K
 | .alt i r t,L,s,K =>
   match t with
   | .no => XS c ops i L s fun s => Fc c ops r (Fa L i) s K
   | t => (XS c ops i L s fun s => Fc c ops r (Fa L i) s K) ∧ Fc c ops t L s K
 | .no,_,_,_ => True
where
 XS (c : Cx) (ops : Array Oper) (i : Nat) (L : Ib) (s : S) (K : S → Prop) : Prop := match ops[i]? with
   | none => False
   | some o => match HB o.dst c.n with
     | false => False
     | true => RA ops o.guard s fun b s => match b with
       | false => K (s.put o.dst (.at .un))
       | true => gM c.toak o.dst o.op o.type s (vh (Fa L i)) K
def kqL (q : Ib) (σ σ' : Hp) : Prop := match q with
 | none => ∀ b o,σ b = some o → σ' b = some o
 | some L => ∀ x ∈ L,∀ o,σ x.1 = some o → σ' x.1 = some o
theorem zI {q : Ib} {bx GJ : Bx} {σ σ' : Hp} (h : kqL q σ σ') (hb : ∀ p ∈ bx,p ∈ GJ) : Jk q bx σ GJ σ' := ⟨hb,h⟩
theorem gR {L : Ib} {σ0 σ1 : Hp} {F : Prop} (h : vh L σ0 σ1 F) : F ∧ kqL L σ0 σ1 := by
 unfold vh at h
 split at h
 · exact ⟨h.2,h.1⟩
 · exact ⟨h,fun x hx => by cases hx⟩
 · exact ⟨h.2,fun y hy o ho => h.1 y.1 (List.mem_map.2 ⟨y,hy,rfl⟩) o ho⟩
theorem sO {L : Ib} {σ0 σ1 : Hp} (h : Ext σ0 σ1) : kqL L σ0 σ1 := by
 cases L with
 | none => exact h
 | some l => exact fun x _ o ho => h _ _ ho
theorem XT {L : Ib} (hc : c.Ok g) (h : Fc.XS c ops i L s K) : AL g ops i (s.e J) s.b s.σ fun e' GJ σ' => Jk (Fa L i) s.b s.σ GJ σ' ∧ dt J K e' GJ σ' := by
 unfold Fc.XS at h
 split at h
 · cases h
 · rename_i o ho
   split at h
   · cases h
   · rename_i hd
     rw [hc.n] at hd
     obtain ⟨b,s1,h1,hw,h⟩ := Im h
     have hw := hw J
     rw [← h1.e J] at hw
     have key : AL g ops i (s1.e J) s1.b s1.σ fun e' GJ σ' => Jk (Fa L i) s1.b s1.σ GJ σ' ∧ dt J K e' GJ σ' := by
       cases b with
       | false => exact AL.no (Cv ho) hw hd ⟨Jk.refl _ _ _,_,(S.H7 (x := .at .un)).symm,S.H8.symm,S.FH.symm,h⟩
       | true =>
         have := Q8 (c := c.toak) (kq := kqL (Fa L i)) (J := J) hc.P hc.R hc.E (fun _ _ F h => gR h) (fun _ _ h => sO h) (Cv ho) hw hd h
         exact this.mono fun e' GJ σ' ⟨s',e1,e2,e3,hq,hb,hk⟩ => ⟨zI hq hb,s',e1,e2,e3,hk⟩
     have := du (K := fun e' GJ σ' => Jk (Fa L i) s1.b s1.σ GJ σ' ∧ dt J K e' GJ σ') h1 key
     rw [h1.b,h1.σ] at this
     exact this
theorem Cy (hc : c.Ok g) : ∀ {p : Ord} {q : Ib} {s : S},Fc c ops p q s K → Jo g ops p q (s.e J) s.b s.σ (dt J K)
 | .done,q,s,h => ⟨s,rfl,rfl,rfl,h⟩
 | .yes i r,q,s,h => by
   simp only [Fc] at h
   split at h
   · cases h
   · rename_i o ho
     split at h
     · cases h
     · rename_i hd
       simp only [Bool.and_eq_true] at hd
       obtain ⟨hd,hq⟩ := hd
       rw [hc.n] at hd
       obtain ⟨b,s1,h1,hw,h⟩ := Im h
       have hw := hw J
       rw [← h1.e J] at hw
       rw [← h1.e J,← h1.b,← h1.σ]
       have go : ∀ {v : SV} {s2 : S} {own : Option (Nat × List (List Nat))},s1.IA s2 → ((MY q own).ok i && Qq ops i own) = true → Yd g.P (s1.e J) s1.b (OH q own s1.σ) o.op o.type (v.den s2.vl) → AP ops (s1.e J) o.guard = true → Fc c ops r (MY q own) (s2.put o.dst v) K → Jo g ops (.yes i r) q (s1.e J) s1.b s1.σ (dt J K) := fun {v s2 own} h2 D1 hy hw hk => by
         have := Cy hc hk
         rw [S.H7,S.H8,S.FH,h2.e J,h2.b,h2.σ] at this
         exact ⟨own,o,v.den s2.vl,D1,ho,.inl ⟨hw,hy⟩,HB.lt hd,this⟩
       cases b with
       | false =>
         have := Cy hc h
         rw [S.H7,S.H8,S.FH] at this
         exact ⟨none,o,undef,ok_none hq,ho,.inr ⟨hw,rfl⟩,HB.lt hd,by rw [FD]; exact this⟩
       | true =>
         simp only at h
         split at h
         · rename_i T x FU
           obtain ⟨m,v,s2,h2,hk,hy⟩ := UU (ty := o.type) h
           have hy := hy J
           rw [hc.P,← FU] at hy
           split at hk
           · exact go (own := none) h2 (ok_none hq) (hy _) hw (by rw [FD]; exact hk)
           · exact go (own := none) h2 (ok_none hq) (Yd.up hy) hw (by rw [FD]; exact hk)
           · rename_i b l
             split at hk
             · rename_i D1
               exact go h2 D1 hy hw hk
             · cases hk
         · split at h
           · cases h
           · have hm := ‹anyM c.P o.op o.type s1 = some _›
             rw [hc.P] at h hm
             obtain ⟨v,s2,h2,hy,hk⟩ := Q9 hm h
             exact go (own := none) h2 (ok_none hq) (hy J) hw hk
           · cases h
           · rw [hc.P] at h
             obtain ⟨v,s2,h2,hy,hk⟩ := XL (ty := o.type) h
             exact go (own := none) h2 (ok_none hq) (hy J _) hw (by rw [FD]; exact hk)
 | .alt i r t,q,s,h => by
   have key : ∀ {t : Ord},(Fc.XS c ops i q s fun s => Fc c ops r (Fa q i) s K) → Jo g ops t q (s.e J) s.b s.σ (dt J K) → Jo g ops (.alt i r t) q (s.e J) s.b s.σ (dt J K) := fun {t} h1 h2 =>
     ⟨(XT hc h1).mono fun e bx σ ⟨hk,s',e1,e2,e3,h3⟩ => ⟨hk,by subst e1 e2 e3; exact Cy hc h3⟩,h2⟩
   cases t with
   | no => exact key h trivial
   | done => exact key h.1 (Cy hc h.2)
   | yes j u => exact key h.1 (Cy hc h.2)
   | alt j u w => exact key h.1 (Cy hc h.2)
 | .no,q,s,h => trivial
def dw (P : Program) (ops : Array Oper) (m : Nat) : Nat → Array Bool → Ord
 | 0,_ => .no
 | f + 1,listed => match (List.range m).all fun i => listed.getD i false with
   | true => .done
   | false => match (Region.ready .any ops listed).find? fun j => Nat.blt j m && match ops[j]? with | some o => !kg P o.op | none => false with
     | some j => .yes j (dw P ops m f (listed.setIfInBounds j true))
     | none => (Region.ready .any ops listed).foldr (fun j acc => .alt j (dw P ops m f (listed.setIfInBounds j true)) acc) .no
def zJ (c : Cx) (ops : Array Oper) (draw : Bool) (m : Nat) (q : Ib) (s : S) (K : S → Prop) : Prop := match draw with
 | false => sN c ops (List.range ops.size) s K
 | true => match VP ops m (dw c.P ops m (ops.size + 1) (Array.replicate ops.size false)) (List.range' m (ops.size - m)) with
   | true => Fc c ops (dw c.P ops m (ops.size + 1) (Array.replicate ops.size false)) q s fun s => sN c ops (List.range' m (ops.size - m)) s K
   | false => False
theorem bC {k : List Item} {id m : Nat} {draw : Bool} {q : Ib} (hc : c.Ok g) (hm : g.P.follows .mixedOrders = true) (h : zJ c ops draw m q s K) (hk : ∀ s,K s → At g k (s.e J) s.b s.σ) : At g (.code (.region id ops draw) :: k) (s.e J) s.b s.σ := by
 have fin : ∀ e bx σ,dt J K e bx σ → At g k e bx σ := fun e bx σ ⟨s',e1,e2,e3,h⟩ => by subst e1 e2 e3; exact hk s' h
 cases draw with
 | false =>
   refine At.region rfl rfl ?_
   have : Seq g ops (List.range ops.size) (s.e J) s.b s.σ (dt J K) := Me hc h
   exact RD fin this
 | true =>
   simp only [zJ] at h
   split at h
   · rename_i hp
     refine At.ADj hm rfl hp (q := q) ?_
     have := Cy (J := J) hc h
     refine Io (fun e bx σ ⟨s',e1,e2,e3,h⟩ => ?_) this
     subst e1 e2 e3
     exact RD fin (Me hc h)
   · cases h
end
end Tw
end
section
namespace Tw
open Go
variable [Ey]
def node (body : Code) : List Bool → Code
 | [] => body
 | false :: p => cl (node body p)
 | true :: p => cr (node body p)
inductive It where
 | c (p : List Bool)
 | Q1 (i : Nat)
 | lp (p : List Bool)
 | sc (p : List Bool)
def It.den (body : Code) : It → Item
 | .c p => .code (node body p)
 | .Q1 i => .inBlock i
 | .lp p => .inLoop (node body p)
 | .sc p => .inScope (node body p)
def Cz (body : Code) : List It → List Item
 | [] => []
 | x :: l => x.den body :: Cz body l
def OV : List Bool → List Bool → Bool
 | [],[] => true
 | a :: p,b :: q => (bif a then b else !b) && OV p q
 | _,_ => false
theorem UY : ∀ {p q : List Bool},OV p q = true → p = q
 | [],[],_ => rfl
 | a :: p,b :: q,h => by
   simp only [OV,Bool.and_eq_true] at h
   rw [UY h.2]
   cases a <;> cases b <;> simp at h <;> rfl
 | [],_ :: _,h => by cases h
 | _ :: _,[],h => by cases h
def It.eq : It → It → Bool
 | .c p,.c q => OV p q
 | .Q1 i,.Q1 j => Nat.beq i j
 | .lp p,.lp q => OV p q
 | .sc p,.sc q => OV p q
 | _,_ => false
def dz : List It → List It → Bool
 | [],[] => true
 | x :: l,y :: m => x.eq y && dz l m
 | _,_ => false
theorem XU : ∀ {l m : List It},dz l m = true → l = m
 | [],[],_ => rfl
 | x :: l,y :: m,h => by
   simp only [dz,Bool.and_eq_true] at h
   rw [XU h.2]
   have : x = y := by
     cases x <;> cases y <;> simp only [It.eq] at h <;> first
       | (rw [UY h.1])
       | (rw [Nat.eq_of_beq_eq_true h.1])
       | (exact absurd h.1 (by simp))
   rw [this]
 | [],_ :: _,h => by cases h
 | _ :: _,[],h => by cases h
structure Cut where
 todo : List It
 f : S → Prop
def Cut.Ok (g : Gl) (body : Code) (k : Cut) : Prop := ∀ s J,k.f s → At g (Cz body k.todo) (s.e J) s.b s.σ
def sP : List Cut → List It → Option (S → Prop)
 | [],_ => none
 | k :: l,t => match dz k.todo t with
   | true => some k.f
   | false => sP l t
theorem eA {g : Gl} {body : Code} : ∀ {l : List Cut} {t : List It} {f : S → Prop},(∀ k ∈ l,k.Ok g body) → sP l t = some f → ∀ s J,f s → At g (Cz body t) (s.e J) s.b s.σ
 | k :: l,t,f,hl,h => by
   simp only [sP] at h
   split at h
   · rename_i he
     cases h
     rw [← XU he]
     exact hl k (List.mem_cons_self ..)
   · exact eA (fun k hk => hl k (List.mem_cons_of_mem _ hk)) h
def PH (i : Nat) : List It → Option (List It)
 | [] => none
 | .Q1 j :: r => match Nat.beq i j with
   | true => some r
   | false => PH i r
 | _ :: r => PH i r
def VY (l : Nat) : Code → List Bool → Option (List It)
 | .seq a b,p => match VY l a (false :: p) with
   | some r => some (r ++ [.c (true :: p)])
   | none => VY l b (true :: p)
 | .label j,_ => match Nat.beq j l with
   | true => some []
   | false => none
 | _,_ => none
def PI (body : Code) (l : Nat) : List It → Option (List It)
 | [] => none
 | .sc p :: r => match VY l (node body p) p with
   | some m => some (m ++ (.sc p :: r))
   | none => PI body l r
 | _ :: r => PI body l r
structure Fx extends Cx where
 body : Code
 res : List ResultVar
 reg : List (Nat × Nat × Bool)
def kj : List (Nat × Nat × Bool) → Nat → Nat → Nat × Ib
 | [],_,m => (m,some [])
 | (i,m,b) :: l,id,z => match Nat.beq i id with
   | true => (m,bif b then none else some [])
   | false => kj l id z
def bD (c : Fx) (s : S) : List ResultVar → Option (List SV)
 | [] => some []
 | .tmp t :: r => match VR s.env t,bD c s r with
   | some v,some l => some (v :: l)
   | _,_ => none
 | .cell p T :: r => match kT (VR s.env p),bD c s r with
   | some (.bx i 0),some l => match XK s.bx i,XC c.P T with
     | some (_,cs),some true => match XB c.P T with
       | some n => match decide (cs.length = n) with
         | true => some (.v (.agg cs) :: l)
         | false => none
       | none => none
     | some (_,x :: _),some false => some (.at x :: l)
     | _,_ => none
   | _,_ => none
def VM (c : Fx) (s : S) : Prop := match bD c s c.res with
 | some l => c.R (.returned (Qt (CJ s.vl l))) s.σ
 | none => False
def C0 (c : Fx) (cuts : List Cut) : Nat → Bool → List It → S → Prop
 | 0,_,_,_ => False
 | f + 1,first,todo,s => match (bif first then none else sP cuts todo) with
   | some k => k s
   | none => match todo with
     | [] => VM c s
     | .Q1 _ :: r => C0 c cuts f false r s
     | .lp p :: r => C0 c cuts f false (.c p :: .lp p :: r) s
     | .sc _ :: r => C0 c cuts f false r s
     | .c p :: r => match node c.body p with
       | .skip => C0 c cuts f false r s
       | .seq _ _ => C0 c cuts f false (.c (false :: p) :: .c (true :: p) :: r) s
       | .block i _ => C0 c cuts f false (.c (false :: p) :: .Q1 i :: r) s
       | .loop _ => C0 c cuts f false (.c (false :: p) :: .lp (false :: p) :: r) s
       | .exit i => match PH i r with
         | some r => C0 c cuts f false r s
         | none => False
       | .scope _ => C0 c cuts f false (.c (false :: p) :: .sc (false :: p) :: r) s
       | .label _ => C0 c cuts f false r s
       | .goto l => match PI c.body l r with
         | some r => C0 c cuts f false r s
         | none => False
       | .cond x _ _ => s.sI (s.op x) fun t s => C0 c cuts f false (.c ((!t) :: p) :: r) s
       | .ret => VM c s
       | .region id ops draw => zJ c.toCx ops draw (kj c.reg id ops.size).1 (kj c.reg id ops.size).2 s fun s => C0 c cuts f false r s
       | _ => False
structure Fx.Ok (c : Fx) (g : Gl) (fn : Func) : Prop where
 cx : c.toCx.Ok g
 mixed : g.P.follows .mixedOrders = true
 fnc : g.P.funcs[g.f]? = some fn
 res : fn.results = c.res.toArray
 Gp : g.Gp = none
 ds : g.ds = []
section
variable {g : Gl} {c : Fx} {fn : Func} {cuts : List Cut} {J : Env}
theorem Gv (hP : c.P = g.P) {s : S} : ∀ {rs : List ResultVar} {l : List SV},bD c s rs = some l → HN g.P (s.e J) s.b s.σ rs (CJ s.vl l)
 | [],l,h => by simp only [bD,Option.some.injEq] at h; subst h; rfl
 | .tmp t :: r,l,h => by
   simp only [bD] at h
   split at h
   · rename_i v l' h1 h2
     cases h
     refine ⟨_,?_,Gv hP h2⟩
     rw [show s.e J t = v.den s.vl from EC h1]; rfl
   · cases h
 | .cell p T :: r,l,h => by
   simp only [bD] at h
   split at h
   · rename_i i l' h1 h2
     obtain ⟨u,e1,e2⟩ := EV h1
     have hp : s.e J p = .pointer (some ⟨nth 0 s.vl.δ i,0,none⟩) := (EC e1).trans (e2 _)
     split at h
     · rename_i t cs hb ha
       split at h
       · rename_i n hn
         split at h
         · rename_i hd
           have hd := of_decide_eq_true hd
           cases h
           rw [hP] at ha hn
           exact ⟨_,_,rfl,⟨_,hp,j9 (EU ha) (CN hn) (by simp [Cw]; exact hd) (Jp hb)⟩,Gv hP h2⟩
         · cases h
       · cases h
     · rename_i t x cs hb ha
       cases h
       rw [hP] at ha
       exact ⟨_,_,rfl,⟨_,hp,rv (EU ha) (Jp hb) rfl⟩,Gv hP h2⟩
     · cases h
   · cases h
theorem IC {body : Code} {i : Nat} : ∀ {r r' : List It},PH i r = some r' → exitTo i (Cz body r) = some (Cz body r')
 | .Q1 j :: r,r',h => by
   simp only [PH] at h
   split at h
   · rename_i he
     cases h
     have := Nat.eq_of_beq_eq_true he
     subst this
     simp [Cz,It.den,exitTo]
   · rename_i he
     have Az : i ≠ j := fun e => by subst e; rw [Nat.beq_refl] at he; cases he
     simp only [Cz,It.den,exitTo]
     rw [if_neg (by simpa using Ne.symm Az)]
     exact IC h
 | .c p :: r,r',h => by simp only [PH] at h; simp only [Cz,It.den,exitTo]; exact IC h
 | .lp p :: r,r',h => by simp only [PH] at h; simp only [Cz,It.den,exitTo]; exact IC h
 | .sc p :: r,r',h => by simp only [PH] at h; simp only [Cz,It.den,exitTo]; exact IC h
theorem RF {body : Code} : ∀ {l m : List It},Cz body (l ++ m) = Cz body l ++ Cz body m
 | [],_ => rfl
 | x :: l,m => by simp only [List.cons_append,Cz,RF]
theorem LV {l : Nat} : ∀ {x : Code} {p : List Bool},VY l x p = none → findLabel x l = none
 | .seq a b,p,h => by
   simp only [VY] at h
   split at h
   · cases h
   · rename_i h1
     simp only [findLabel,LV h1,LV h]
 | .label j,p,h => by
   simp only [VY] at h
   split at h
   · cases h
   · rename_i h1
     have : j ≠ l := fun e => by subst e; rw [Nat.beq_refl] at h1; cases h1
     simp [findLabel,this]
 | .skip,p,h => rfl
 | .region ..,p,h => rfl
 | .cond ..,p,h => rfl
 | .block ..,p,h => rfl
 | .loop ..,p,h => rfl
 | .rangeFunc ..,p,h => rfl
 | .exit ..,p,h => rfl
 | .scope ..,p,h => rfl
 | .goto ..,p,h => rfl
 | .ret,p,h => rfl
 | .refuse ..,p,h => rfl
theorem RG {l : Nat} {body : Code} : ∀ {x : Code} {p : List Bool} {m : List It},node body p = x → VY l x p = some m → ∃ rest,findLabel x l = some rest ∧ ∀ {k : List Item} {e : Env} {bx : Bx} {σ : Hp},At g (Cz body m ++ k) e bx σ → At g (.code rest :: k) e bx σ
 | .seq a b,p,m,hx,h => by
   simp only [VY] at h
   split at h
   · rename_i r h1
     cases h
     obtain ⟨rest,e1,e2⟩ := RG (body := body) (x := a) (p := false :: p) (by simp only [node,hx,cl]) h1
     refine ⟨.seq rest b,by simp only [findLabel,e1],fun h => At.seq rfl (e2 ?_)⟩
     rw [RF,List.append_assoc] at h
     simp only [Cz,It.den,node,hx,cr,List.cons_append,List.nil_append] at h
     exact h
   · rename_i h1
     obtain ⟨rest,e1,e2⟩ := RG (body := body) (x := b) (p := true :: p) (by simp only [node,hx,cr]) h
     exact ⟨rest,by simp only [findLabel,LV h1,e1],e2⟩
 | .label j,p,m,hx,h => by
   simp only [VY] at h
   split at h
   · rename_i h1
     cases h
     have := Nat.eq_of_beq_eq_true h1
     subst this
     exact ⟨.skip,by simp [findLabel],fun h => At.skip h⟩
   · cases h
theorem ID {l : Nat} {body : Code} : ∀ {r r' : List It},PI body l r = some r' → ∃ k',gotoIn l (Cz body r) = some k' ∧ ∀ {e : Env} {bx : Bx} {σ : Hp},At g (Cz body r') e bx σ → At g k' e bx σ
 | .sc p :: r,r',h => by
   simp only [PI] at h
   split at h
   · rename_i m h1
     cases h
     obtain ⟨rest,e1,e2⟩ := RG (g := g) rfl h1
     refine ⟨.code rest :: .inScope (node body p) :: Cz body r,by simp only [Cz,It.den,gotoIn,e1],fun h => e2 ?_⟩
     rw [RF] at h
     exact h
   · rename_i h1
     obtain ⟨k',e1,e2⟩ := ID h
     exact ⟨k',by simp only [Cz,It.den,gotoIn,LV h1,e1],e2⟩
 | .c p :: r,r',h => by simp only [PI] at h; simp only [Cz,It.den,gotoIn]; exact ID h
 | .lp p :: r,r',h => by simp only [PI] at h; simp only [Cz,It.den,gotoIn]; exact ID h
 | .Q1 p :: r,r',h => by simp only [PI] at h; simp only [Cz,It.den,gotoIn]; exact ID h
theorem Ao (hc : c.Ok g fn) (hk : ∀ k ∈ cuts,k.Ok g c.body) : ∀ {f : Nat} {first : Bool} {todo : List It} {s : S},C0 c cuts f first todo s → At g (Cz c.body todo) (s.e J) s.b s.σ
 | 0,_,_,_,h => h.elim
 | f + 1,first,todo,s,h => by
   have hl : ∀ σ,left g.ds σ = σ := fun σ => by rw [hc.ds]; rfl
   have ji : Marks g.ds s.σ := by rw [hc.ds]; trivial
   simp only [C0] at h
   split at h
   · rename_i k ADs
     cases first with
     | true => cases ADs
     | false => exact eA hk ADs s J h
   · split at h
     · unfold VM at h
       split at h
       · rename_i l Wk
         rw [hc.cx.R] at h
         exact At.ADW hc.fnc hc.res (by rw [hl]; exact Gv hc.cx.P Wk) (by rw [hl]; exact h) hc.Gp ji
       · cases h
     · exact At.inBlock (Ao hc hk h)
     · exact At.inLoop (Ao hc hk h)
     · exact At.inScope (Ao hc hk h)
     · rename_i p r _
       have e : Cz c.body (.c p :: r) = .code (node c.body p) :: Cz c.body r := rfl
       rw [e]
       split at h
       · rename_i hn; rw [hn]; exact At.skip (Ao hc hk h)
       · rename_i a b hn
         refine At.seq hn ?_
         have := Ao hc hk h
         simp only [Cz,It.den,node,hn,cl,cr] at this
         exact this
       · rename_i i a hn
         refine At.block hn ?_
         have := Ao hc hk h
         simp only [Cz,It.den,node,hn,cl] at this
         exact this
       · rename_i a hn
         refine At.loop hn ?_
         have := Ao hc hk h
         simp only [Cz,It.den,node,hn,cl] at this
         exact this
       · rename_i i hn
         split at h
         · rename_i r' hr
           exact At.exit hn (IC hr) (Ao hc hk h)
         · cases h
       · rename_i a hn
         refine At.scope hn ?_
         have := Ao hc hk h
         simp only [Cz,It.den,node,hn,cl] at this
         exact this
       · rename_i l hn; rw [hn]; exact At.label (Ao hc hk h)
       · rename_i l hn
         split at h
         · rename_i r' hr
           obtain ⟨k',e1,e2⟩ := ID (g := g) hr
           exact At.goto hn e1 (e2 (Ao hc hk h))
         · cases h
       · rename_i x a b hn
         obtain ⟨t,s',v,h1,h2,h3,h4,h⟩ := S.FI h
         have hx : AD (s.e J) x = .bool t := by rw [ev h3,h4]
         have := Ao hc hk h
         rw [h1.e J,h1.b,h1.σ] at this
         cases t with
         | true =>
           refine At.vT hn hx ?_
           simp only [Cz,It.den,node,hn,cl,Bool.not_true] at this
           exact this
         | false =>
           refine At.vU hn hx ?_
           simp only [Cz,It.den,node,hn,cr,Bool.not_false] at this
           exact this
       · rename_i hn
         unfold VM at h
         split at h
         · rename_i l Wk
           rw [hc.cx.R] at h
           exact At.VM hn hc.fnc hc.res (by rw [hl]; exact Gv hc.cx.P Wk) (by rw [hl]; exact h) hc.Gp ji
         · cases h
       · rename_i id ops draw hn
         rw [hn]
         exact bC hc.cx hc.mixed h fun s' h' => Ao hc hk h'
       · cases h
end
def S.gS (s : S) : List Nat → Option (List Value)
 | [] => some []
 | t :: l => match VR s.env t,s.gS l with
   | some v,some r => some (v.den s.vl :: r)
   | _,_ => none
theorem UZ {s : S} {J : Env} : ∀ {l : List Nat} {vs : List Value},s.gS l = some vs → Live (s.e J) (l.zip vs)
 | [],vs,h => by simp only [S.gS,Option.some.injEq] at h; subst h; trivial
 | t :: l,vs,h => by
   simp only [S.gS] at h
   split at h
   · rename_i v r h1 h2
     cases h
     exact ⟨EC h1,UZ h2⟩
   · cases h
def eB (i : Nat) : List FG → Option (FG × List FG)
 | [] => none
 | x :: l => match Nat.beq x.1 i with
   | true => some (x,l)
   | false => eB i l
def vi : Option SV → Option Nat
 | some (.v (.a (.pt (.bx i 0)))) => some i
 | _ => none
def S.VZ (s : S) : List Nat → List FG → Option (List FG)
 | [],_ => some []
 | t :: l,bx => match vi (VR s.env t) with
   | some i => match eB i bx with
     | some (x,r) => match s.VZ l r with
       | some m => some (x :: m)
       | none => none
     | none => none
   | none => none
def RH (vl : Vl) : List Nat → List FG → List (Nat × Value)
 | t :: l,x :: r => (t,.pointer (some ⟨nth 0 vl.δ x.1,0,none⟩)) :: RH vl l r
 | _,_ => []
theorem Ua {vl : Vl} {i : Nat} : ∀ {l r : List FG} {x : FG},eB i l = some (x,r) → x.1 = i ∧ ∀ m : List FG,(ET vl m).Sublist (ET vl r) → (ET vl (x :: m)).Sublist (ET vl l)
 | y :: l,r,x,h => by
   simp only [eB] at h
   split at h
   · rename_i he
     cases h
     exact ⟨Nat.eq_of_beq_eq_true he,fun m hm => List.Sublist.cons_cons _ hm⟩
   · obtain ⟨h1,h2⟩ := Ua (vl := vl) h
     exact ⟨h1,fun m hm => List.Sublist.cons _ (h2 m hm)⟩
theorem XV {s : S} {J : Env} : ∀ {l : List Nat} {bx B : List FG},s.VZ l bx = some B → (ET s.vl B).Sublist (ET s.vl bx) ∧ Live (s.e J) (RH s.vl l B)
 | [],bx,B,h => by simp only [S.VZ,Option.some.injEq] at h; subst h; exact ⟨List.nil_sublist _,trivial⟩
 | t :: l,bx,B,h => by
   simp only [S.VZ] at h
   split at h
   · rename_i i hi
     split at h
     · rename_i x r hx
       split at h
       · rename_i m hm
         cases h
         obtain ⟨h1,h2⟩ := Ua (vl := s.vl) hx
         obtain ⟨h3,h4⟩ := XV (s := s) (J := J) hm
         refine ⟨h2 m h3,?_,h4⟩
         unfold vi at hi
         split at hi
         · rename_i hg
           cases hi
           rw [h1]
           exact EC hg
         · cases hi
       · cases h
     · cases h
   · cases h
theorem Live.app {e : Env} : ∀ {l m : List (Nat × Value)},Live e l → Live e m → Live e (l ++ m)
 | [],_,_,h => h
 | (_,_) :: _,_,h,g => ⟨h.1,Live.app h.2 g⟩
theorem At.ADt {g : Gl} {k : List Item} {s : S} {J : Env} {l bl : List Nat} {vs : List Value} {B : List FG} (h : s.gS l = some vs) (hb : s.VZ bl s.bx = some B) (hk : ∀ J,At g k (Jj J (RH s.vl bl B ++ l.zip vs)) (ET s.vl B) s.σ) : At g k (s.e J) s.b s.σ := by
 obtain ⟨h1,h2⟩ := XV (J := J) hb
 exact At.sub h1 (At.live (h2.app (UZ h)) (hk _))
def RI : Nat → List Value → List (Nat × Value)
 | _,[] => []
 | k,v :: l => (k,v) :: RI (k + 1) l
theorem RJ {e : Env} : ∀ {l : List Value} {k : Nat},(∀ j v,l[j]? = some v → e (k + j) = v) → Live e (RI k l)
 | [],_,_ => trivial
 | v :: l,k,h => ⟨h 0 v rfl,RJ fun j u hj => by rw [show k + 1 + j = k + (j + 1) by omega]; exact h (j + 1) u (by simpa using hj)⟩
theorem Spec.walk {P : Program} {f : FuncId} {fn : Func} {R : Rr} {args : Array Value} {n fuel : Nat} (c : Fx) (cuts : List Cut) (s : S) (hc : c.Ok (Gl.fn P f n R) fn) (hb : fn.body = some c.body) (hnt : fn.ntmps = n) (hn : Nat.ble args.size n = true)
   (hk : ∀ k ∈ cuts,k.Ok (Gl.fn P f n R) c.body) (he : HD s.vl s.env = RI 0 args.toList) (hbx : s.bx = []) (h : C0 c cuts fuel true [.c []] s) : Spec P f args s.σ R := by
 subst hnt
 refine Spec.dT hc.fnc hb (Nat.le_of_ble_eq_true hn) fun e hee => ?_
 have hl : Live e (HD s.vl s.env) := by
   rw [he]
   refine RJ fun j v hj => ?_
   rw [Nat.zero_add,hee]
   simp only [Array.getD_eq_getD_getElem?]
   rw [← Array.getElem?_toList,hj]; rfl
 have := Ao (J := e) hc hk h
 have Pw : s.b = [] := by rw [S.b,hbx]; rfl
 rw [Pw] at this
 exact At.live hl this
end Tw
end
section
namespace Tw
open Go
variable [Ey]
inductive Dv where
 | I (k : IntKind) (x : Int)
 | B (t : Bool)
 | T (x : ByteArray)
 | L (p : Option Addr) (n c : Nat)
 | Q (p : Option Addr)
 | A (b : Nat)
 | M (x : Option Nat)
 | V (x : Value)
def Dv.den : Dv → Value
 | .I k x => .int k x
 | .B t => .bool t
 | .T x => .string x
 | .L p n c => .slice p n c
 | .Q p => .pointer p
 | .A b => .pointer (some ⟨b,0,none⟩)
 | .M x => .map x
 | .V x => x
def XW : List Dv → List Value
 | [] => []
 | x :: l => x.den :: XW l
inductive Dw where
 | o (x : Dv)
 | G (l : List Dv)
 | U (l : List Dv)
 | X (T : TypeId) (l : List Dv)
def Dw.den : Dw → Value
 | .o x => x.den
 | .G l => .agg (XW l).toArray
 | .U l => .tuple (XW l).toArray
 | .X _ _ => undef
structure Nm where
 ρ : List (Option Addr)
 β : List BK
structure Nm.le (n : Nm) (v : Vl) : Prop where
 ρ : ∀ i,i < n.ρ.length → nth none v.ρ i = nth none n.ρ i
 β : ∀ i,i < n.β.length → nth (.var false) v.β i = nth (.var false) n.β i
def Dv.sym : Dv → Nm → Bf × Nm
 | .I k x,n => (.int k x,n)
 | .B t,n => (.bs (RB n.β) false,⟨n.ρ,n.β ++ [.var t]⟩)
 | .T x,n => (.str x,n)
 | .L p k c,n => (.sl (.var (RB n.ρ)) k c,⟨n.ρ ++ [p],n.β⟩)
 | .Q p,n => (.pt (.var (RB n.ρ)),⟨n.ρ ++ [p],n.β⟩)
 | .A b,n => (.pt (.at b 0),n)
 | .M x,n => (.mp x,n)
 | .V x,n => (.raw x,n)
theorem Nm.ADu {n : Nm} {v : Vl} {p : Option Addr} (h : Nm.le ⟨n.ρ ++ [p],n.β⟩ v) : n.le v ∧ nth none v.ρ (RB n.ρ) = p := by
 refine ⟨⟨fun i hi => (h.ρ i (by simp only [List.length_append]; omega)).trans (LR hi),h.β⟩,?_⟩
 rw [QV,h.ρ _ (by simp)]; exact LU
theorem Nm.AKx {n : Nm} {v : Vl} {p : BK} (h : Nm.le ⟨n.ρ,n.β ++ [p]⟩ v) : n.le v ∧ nth (.var false) v.β (RB n.β) = p := by
 refine ⟨⟨h.ρ,fun i hi => (h.β i (by simp only [List.length_append]; omega)).trans (LR hi)⟩,?_⟩
 rw [QV,h.β _ (by simp)]; exact LU
theorem Dv.OW {x : Dv} {n : Nm} {v : Vl} (h : (x.sym n).2.le v) : (x.sym n).1.den v = x.den ∧ n.le v := by
 cases x with
 | B t => obtain ⟨h1,h2⟩ := Nm.AKx h; exact ⟨by simp only [Dv.sym,Bf.den,h2]; rfl,h1⟩
 | L p k c => obtain ⟨h1,h2⟩ := Nm.ADu h; exact ⟨by simp only [Dv.sym,Bf.den,PV.den,h2]; rfl,h1⟩
 | Q p => obtain ⟨h1,h2⟩ := Nm.ADu h; exact ⟨by simp only [Dv.sym,Bf.den,PV.den,h2]; rfl,h1⟩
 | _ => exact ⟨rfl,h⟩
def XX : List Dv → Nm → List Bf × Nm
 | [],n => ([],n)
 | x :: l,n => match x.sym n with
   | (a,n) => match XX l n with
     | (r,n) => (a :: r,n)
theorem QW {v : Vl} : ∀ {l : List Dv} {n : Nm},(XX l n).2.le v → A6 v (XX l n).1 = XW l ∧ n.le v
 | [],n,h => ⟨rfl,h⟩
 | x :: l,n,h => by
   obtain ⟨h1,h2⟩ := QW (l := l) (n := (x.sym n).2) h
   obtain ⟨h3,h4⟩ := Dv.OW h2
   exact ⟨by simp only [XX,A6,XW,h3]; rw [← h1],h4⟩
def atoms : List Bf → List Gd
 | [] => []
 | x :: l => .a x :: atoms l
theorem Ub {v : Vl} : ∀ l,HS v (atoms l) = A6 v l
 | [] => rfl
 | x :: l => by simp only [atoms,HS,A6]; rw [Ub l]; rfl
def Dw.sym : Dw → Nm → SV × Nm
 | .o x,n => match x.sym n with | (a,n) => (.v (.a a),n)
 | .G l,n => match XX l n with | (a,n) => (.v (.agg a),n)
 | .U l,n => match XX l n with | (a,n) => (.UH (atoms a),n)
 | .X _ _,n => (.v (.a .un),n)
theorem Dw.OW {x : Dw} {n : Nm} {v : Vl} (h : (x.sym n).2.le v) : (x.sym n).1.den v = x.den ∧ n.le v := by
 cases x with
 | o x => exact Dv.OW (x := x) h
 | G l => obtain ⟨h1,h2⟩ := QW (l := l) h; exact ⟨by simp only [Dw.sym,SV.den,Gd.den,Dw.den]; rw [← h1],h2⟩
 | U l => obtain ⟨h1,h2⟩ := QW (l := l) h; exact ⟨by simp only [Dw.sym,SV.den,Dw.den]; rw [Ub,← h1],h2⟩
 | X T l => exact ⟨rfl,h⟩
abbrev Bv := Nat × TypeId × List Dv
def Px : List (Nat × Dw) → List (Nat × Value)
 | [] => []
 | (_,.X _ _) :: l => Px l
 | (t,x) :: l => (t,x.den) :: Px l
def OX : List (Nat × Dw) → Nm → List (Nat × SV) × Nm
 | [],n => ([],n)
 | (_,.X _ _) :: l,n => OX l n
 | (t,x) :: l,n => match x.sym n with
   | (a,n) => match OX l n with
     | (r,n) => ((t,a) :: r,n)
theorem LX {v : Vl} : ∀ {l : List (Nat × Dw)} {n : Nm},(OX l n).2.le v → HD v (OX l n).1 = Px l ∧ n.le v
 | [],n,h => ⟨rfl,h⟩
 | (t,.o x) :: l,n,h => by
   obtain ⟨h1,h2⟩ := LX (l := l) (n := ((Dw.o x).sym n).2) h
   obtain ⟨h3,h4⟩ := Dw.OW h2
   exact ⟨by simp only [OX,HD,Px,h3]; rw [← h1],h4⟩
 | (t,.G x) :: l,n,h => by
   obtain ⟨h1,h2⟩ := LX (l := l) (n := ((Dw.G x).sym n).2) h
   obtain ⟨h3,h4⟩ := Dw.OW h2
   exact ⟨by simp only [OX,HD,Px,h3]; rw [← h1],h4⟩
 | (t,.U x) :: l,n,h => by
   obtain ⟨h1,h2⟩ := LX (l := l) (n := ((Dw.U x).sym n).2) h
   obtain ⟨h3,h4⟩ := Dw.OW h2
   exact ⟨by simp only [OX,HD,Px,h3]; rw [← h1],h4⟩
 | (_,.X T x) :: l,n,h => LX (l := l) (n := n) h
def Jd : List (Nat × Dw) → List Bv → List Bv
 | [],r => r
 | (t,.X T l) :: m,r => Jd m ((t,T,l) :: r)
 | _ :: m,r => Jd m r
def XY : List Bv → Nat → Nm → List FG × Nm
 | [],_,n => ([],n)
 | (_,T,l) :: m,j,n => match XX l n with
   | (a,n) => match XY m (j + 1) n with
     | (r,n) => ((j,T,a) :: r,n)
def sQ : List Bv → Nat → List (Nat × SV)
 | [],_ => []
 | (t,_,_) :: m,j => (t,.v (.a (.pt (.bx j 0)))) :: sQ m (j + 1)
abbrev Bw := Nat × TypeId × List Value
def Tm : List Bv → List Bw
 | [] => []
 | (t,T,l) :: m => (t,T,XW l) :: Tm m
def bE : List Bw → List Nat → List (Nat × Value)
 | (t,_,_) :: m,b :: δ => (t,.pointer (some ⟨b,0,none⟩)) :: bE m δ
 | _,_ => []
def zK : List Bw → List Nat → Bx
 | (_,T,l) :: m,b :: δ => (b,.cells l.toArray T (0,0)) :: zK m δ
 | _,_ => []
def PB : List Bw → (List Nat → Prop) → Prop
 | [],K => K []
 | _ :: m,K => ∀ b : Nat,PB m fun δ => K (b :: δ)
theorem ko : ∀ {l : List Bw} {K : List Nat → Prop},PB l K → ∀ δ,δ.length = l.length → K δ
 | [],K,h,[],_ => h
 | _ :: m,K,h,b :: δ,hl => ko (h b) δ (by simpa using hl)
theorem kr : ∀ {l : List Bw} {K : List Nat → Prop},(∀ δ,δ.length = l.length → K δ) → PB l K
 | [],K,h => h [] rfl
 | _ :: m,K,h => fun b => kr fun δ hl => h (b :: δ) (by simp [hl])
def PTv (g : Gl) (td : List Item) (bs : List Bw) (ts : List (Nat × Value)) (σ : Hp) : Prop :=
 ∀ J : Env,PB bs fun δ => At g td (Jj J (bE bs δ ++ ts)) (zK bs δ) σ
theorem eC {δ0 : List Nat} {v : Vl} : ∀ {m : List Bv} {j : Nat} {n : Nm} {δ : List Nat},δ.length = m.length → (∀ i,i < δ.length → nth 0 v.δ (j + i) = nth 0 δ i) → (XY m j n).2.le v →
   ET v (XY m j n).1 = zK (Tm m) δ ∧ HD v (sQ m j) = bE (Tm m) δ ∧ n.le v
 | [],j,n,[],_,_,h => ⟨rfl,rfl,h⟩
 | (t,T,l) :: m,j,n,b :: δ,hl,hd,h => by
   obtain ⟨h1,h2,h3⟩ := eC (δ0 := δ0) (m := m) (j := j + 1) (n := (XX l n).2) (δ := δ) (by simpa using hl) (fun i hi => by
     have := hd (i + 1) (by simpa using hi)
     rw [show j + 1 + i = j + (i + 1) by omega]; exact this) h
   obtain ⟨h4,h5⟩ := QW h3
   have hb : nth 0 v.δ j = b := hd 0 (by simp)
   refine ⟨?_,?_,h5⟩
   · simp only [XY,ET,Tm,zK,hb,h4]; rw [← h1]
   · simp only [sQ,HD,Tm,bE,SV.den,Gd.den,Bf.den,PV.den,hb]; rw [h2]
def gT (D : List (Nat × Dw)) (δ : List Nat) (σ : Hp) : S := match OX D ⟨[],[]⟩ with
 | (e,n) => match Jd D [] with
   | bs => match XY bs 0 n with
     | (x,n) => ⟨sQ bs 0 ++ e,x,⟨n.ρ,n.β,δ⟩,σ⟩
theorem XZ {v : Vl} : ∀ {l m : List (Nat × SV)},HD v (l ++ m) = HD v l ++ HD v m
 | [],_ => rfl
 | (t,x) :: l,m => by simp only [List.cons_append,HD]; rw [XZ]
theorem zL {D : List (Nat × Dw)} {δ : List Nat} {σ : Hp} {J : Env} (hl : δ.length = (Jd D []).length) :
   (gT D δ σ).e J = Jj J (bE (Tm (Jd D [])) δ ++ Px D) ∧ (gT D δ σ).b = zK (Tm (Jd D [])) δ := by
 have hle : (XY (Jd D []) 0 (OX D ⟨[],[]⟩).2).2.le ⟨(XY (Jd D []) 0 (OX D ⟨[],[]⟩).2).2.ρ,(XY (Jd D []) 0 (OX D ⟨[],[]⟩).2).2.β,δ⟩ := ⟨fun _ _ => rfl,fun _ _ => rfl⟩
 obtain ⟨h1,h2,h3⟩ := eC (δ0 := []) (δ := δ) hl (fun i _ => by rw [Nat.zero_add]) hle
 obtain ⟨h4,_⟩ := LX h3
 exact ⟨by simp only [gT,S.e,XZ]; rw [h2,h4],h1⟩
def ADv : Nat → Nat → List Bool
 | 0,_ => []
 | f + 1,n => match Nat.ble n 1 with
   | true => []
   | false => Nat.beq (n % 2) 1 :: ADv f (n / 2)
def pth (n : Nat) : List Bool := ADv 400 n
def Mf (body : Code) : List Bool → List It
 | [] => []
 | t :: p => match node body p with
   | .seq _ _ => bif t then Mf body p else .c (true :: p) :: Mf body p
   | .block i _ => .Q1 i :: Mf body p
   | .loop _ => .lp (false :: p) :: Mf body p
   | .scope _ => .sc (false :: p) :: Mf body p
   | _ => Mf body p
def sR (body : Code) (n : Nat) : List It := .c (pth n) :: Mf body (pth n)
inductive Sh where
 | I (k : IntKind) | B | T | L | Q | A | M | V
inductive Sw where
 | o (x : Sh)
 | G (l : List Sh)
 | U (l : List Sh)
 | X (T : TypeId) (l : List Sh)
abbrev ArS : Sh → Type → Type
 | .I _,C => Int → C
 | .B,C => Bool → C
 | .T,C => ByteArray → C
 | .L,C => Option Addr → Nat → Nat → C
 | .Q,C => Option Addr → C
 | .A,C => Nat → C
 | .M,C => Option Nat → C
 | .V,C => Value → C
def ADw {C : Type} : (x : Sh) → (Dv → C) → ArS x C
 | .I k,K => fun x => K (.I k x)
 | .B,K => fun x => K (.B x)
 | .T,K => fun x => K (.T x)
 | .L,K => fun p n c => K (.L p n c)
 | .Q,K => fun x => K (.Q x)
 | .A,K => fun x => K (.A x)
 | .M,K => fun x => K (.M x)
 | .V,K => fun x => K (.V x)
abbrev ArL : List Sh → Type → Type
 | [],A => A
 | x :: l,A => ArS x (ArL l A)
def sS {A : Type} : (l : List Sh) → (List Dv → A) → ArL l A
 | [],K => K []
 | x :: l,K => ADw x fun d => sS l fun r => K (d :: r)
abbrev ArW : Sw → Type → Type
 | .o x,C => ArS x C
 | .G l,C => ArL l C
 | .U l,C => ArL l C
 | .X _ l,C => ArL l C
def AKz {A : Type} : (x : Sw) → (Dw → A) → ArW x A
 | .o x,K => ADw x fun d => K (.o d)
 | .G l,K => sS l fun d => K (.G d)
 | .U l,K => sS l fun d => K (.U d)
 | .X T l,K => sS l fun d => K (.X T d)
abbrev Ar : List (Nat × Sw) → Type → Type
 | [],A => A
 | (_,x) :: l,A => ArW x (Ar l A)
def cur {A : Type} : (l : List (Nat × Sw)) → (List (Nat × Dw) → A) → Ar l A
 | [],K => K []
 | (t,x) :: l,K => AKz x fun d => cur l fun r => K ((t,d) :: r)
structure Fw where
 P : Program
 f : Nat
 fn : Func
 NB : List Nat
 hid : List Nat
 wr : Bool
 reg : List (Nat × Nat × Bool)
 OT : List (Nat × TypeId)
 cuts : List (Nat × List (Nat × Sw))
def Fw.K (M : Fw) : Code := M.fn.body.getD .skip
def Fw.gl (M : Fw) (R : Rr) : Gl := Gl.fn M.P M.f M.fn.ntmps R
def Fw.cx (M : Fw) (R : Rr) : Fx := { P := M.P,R := R,NB := M.NB,hid := M.hid,wr := M.wr,n := M.fn.ntmps,body := M.K,res := M.fn.results.toList,reg := M.reg,OT := M.OT }
def Xa (vl : Vl) : List Nat → List FG → List Bw
 | t :: l,x :: r => (t,x.2.1,A6 vl x.2.2) :: Xa vl l r
 | _,_ => []
def tmps : List (Nat × Sw) → List Nat
 | [] => []
 | (_,.X _ _) :: l => tmps l
 | (t,_) :: l => t :: tmps l
def ks : List (Nat × Sw) → List Nat → List Nat
 | [],r => r
 | (t,.X _ _) :: l,r => ks l (t :: r)
 | _ :: l,r => ks l r
def Fw.cut (M : Fw) (R : Rr) (c : Nat × List (Nat × Sw)) : Cut := ⟨sR M.K c.1,fun s => match s.gS (tmps c.2),s.VZ (ks c.2 []) s.bx with
 | some vs,some B => PTv (M.gl R) (Cz M.K (sR M.K c.1)) (Xa s.vl (ks c.2 []) B) ((tmps c.2).zip vs) s.σ
 | _,_ => False⟩
def Tn (M : Fw) (R : Rr) : List (Nat × List (Nat × Sw)) → List Cut
 | [] => []
 | c :: l => M.cut R c :: Tn M R l
def Fw.zM (M : Fw) (at_ : Nat) (R : Rr) (D : List (Nat × Dw)) (σ : Hp) : Prop := PTv (M.gl R) (Cz M.K (sR M.K at_)) (Tm (Jd D [])) (Px D) σ
noncomputable def Fw.pt (M : Fw) (i : Nat) (R : Rr) : Ar (nth (0,[]) M.cuts i).2 (Hp → Prop) := cur (nth (0,[]) M.cuts i).2 (M.zM (nth (0,[]) M.cuts i).1 R)
structure Fw.Ok (M : Fw) : Prop where
 E : AG M.P M.NB
 mixed : M.P.follows .mixedOrders = true
 fnc : M.P.funcs[M.f]? = some M.fn
 body : M.fn.body.isSome = true
theorem Fw.vj {M : Fw} {R : Rr} (h : M.Ok) : (M.cx R).Ok (M.gl R) M.fn := ⟨⟨rfl,rfl,h.E,rfl,rfl,rfl⟩,h.mixed,h.fnc,rfl,rfl,rfl⟩
theorem Xb {vl : Vl} : ∀ {l : List Nat} {B : List FG},∃ δ : List Nat,δ.length = (Xa vl l B).length ∧ bE (Xa vl l B) δ = RH vl l B ∧ (l.length = B.length → zK (Xa vl l B) δ = ET vl B)
 | [],[] => ⟨[],rfl,rfl,fun _ => rfl⟩
 | [],_ :: _ => ⟨[],rfl,rfl,fun h => by simp at h⟩
 | _ :: _,[] => ⟨[],rfl,rfl,fun h => by simp at h⟩
 | t :: l,(i,T,cs) :: B => by
   obtain ⟨δ,h1,h2,h3⟩ := Xb (vl := vl) (l := l) (B := B)
   exact ⟨nth 0 vl.δ i :: δ,by simp [Xa,h1],by simp only [Xa,bE,RH]; rw [h2],fun h => by simp only [Xa,zK,ET]; rw [h3 (by simpa using h)]⟩
theorem Xc {s : S} : ∀ {l : List Nat} {bx B : List FG},s.VZ l bx = some B → l.length = B.length
 | [],bx,B,h => by simp only [S.VZ,Option.some.injEq] at h; subst h; rfl
 | t :: l,bx,B,h => by
   simp only [S.VZ] at h
   split at h
   · split at h
     · split at h
       · rename_i m hm
         cases h
         simp [Xc hm]
       · cases h
     · cases h
   · cases h
theorem Fw.zN (M : Fw) (R : Rr) (c : Nat × List (Nat × Sw)) : (M.cut R c).Ok (M.gl R) M.K := fun s J h => by
 simp only [Fw.cut] at h
 split at h
 · rename_i vs B h1 h2
   obtain ⟨δ,e1,e2,e3⟩ := Xb (vl := s.vl) (l := ks c.2 []) (B := B)
   refine At.ADt h1 h2 fun J => ?_
   have := ko (h J) δ e1
   rw [e2,e3 (Xc h2)] at this
   exact this
 · cases h
theorem Va {M : Fw} {R : Rr} : ∀ {l : List (Nat × List (Nat × Sw))},∀ k ∈ Tn M R l,k.Ok (M.gl R) M.K
 | c :: l,k,hk => by
   rcases List.mem_cons.1 hk with rfl | hk
   · exact M.zN R c
   · exact Va k hk
theorem Xd : ∀ {l : List Bv},(Tm l).length = l.length
 | [] => rfl
 | _ :: m => by simp only [Tm,List.length_cons]; rw [Xd]
def PX (F : Prop) : List Bv → (List Nat → Prop) → Prop
 | [],K => F = K []
 | _ :: m,K => ∀ b : Nat,PX F m fun δ => K (b :: δ)
theorem kt {F : Prop} (h : F) : ∀ {l : List Bv} {K : List Nat → Prop},PX F l K → ∀ δ,δ.length = l.length → K δ
 | [],K,e,[],_ => e ▸ h
 | _ :: m,K,e,b :: δ,hl => kt h (e b) δ (by simpa using hl)
theorem Fw.ofB {M : Fw} {R : Rr} {at_ : Nat} {D : List (Nat × Dw)} {σ : Hp} {F : Prop} (h : F) (ok : M.Ok) (e : PX F (Jd D []) fun δ => C0 (M.cx R) (Tn M R M.cuts) 4000 true (sR M.K at_) (gT D δ σ)) : M.zM at_ R D σ := fun J => by
 refine kr fun δ hl => ?_
 rw [Xd] at hl
 have := Ao (J := J) (Fw.vj ok) Va (kt h e δ hl)
 obtain ⟨e1,e2⟩ := zL (D := D) (σ := σ) (J := J) hl
 rw [e1,e2] at this
 exact this
theorem Fw.of {M : Fw} {R : Rr} {at_ : Nat} {D : List (Nat × Dw)} {σ : Hp} {F : Prop} (h : F) (ok : M.Ok) (hb : Jd D [] = []) (e : F = C0 (M.cx R) (Tn M R M.cuts) 4000 true (sR M.K at_) (gT D [] σ) := by kernel_rfl) : M.zM at_ R D σ :=
 M.ofB h ok (by rw [hb]; exact e)
theorem Fw.jj {M : Fw} {R : Rr} {at_ : Nat} {D : List (Nat × Dw)} {σ : Hp} {F : Prop} {x1 : Bv} (h : F) (ok : M.Ok) (hb : Jd D [] = [x1]) (e : ∀ b1 : Nat,F = C0 (M.cx R) (Tn M R M.cuts) 4000 true (sR M.K at_) (gT D [b1] σ)) : M.zM at_ R D σ :=
 M.ofB h ok (by rw [hb]; exact e)
theorem Fw.gU {M : Fw} {R : Rr} {at_ : Nat} {D : List (Nat × Dw)} {σ : Hp} {F : Prop} {x1 x2 : Bv} (h : F) (ok : M.Ok) (hb : Jd D [] = [x1,x2]) (e : ∀ b1 b2 : Nat,F = C0 (M.cx R) (Tn M R M.cuts) 4000 true (sR M.K at_) (gT D [b1,b2] σ)) : M.zM at_ R D σ :=
 M.ofB h ok (by rw [hb]; exact e)
theorem Fw.of3 {M : Fw} {R : Rr} {at_ : Nat} {D : List (Nat × Dw)} {σ : Hp} {F : Prop} {x1 x2 x3 : Bv} (h : F) (ok : M.Ok) (hb : Jd D [] = [x1,x2,x3]) (e : ∀ b1 b2 b3 : Nat,F = C0 (M.cx R) (Tn M R M.cuts) 4000 true (sR M.K at_) (gT D [b1,b2,b3] σ)) : M.zM at_ R D σ :=
 M.ofB h ok (by rw [hb]; exact e)
theorem Fw.of4 {M : Fw} {R : Rr} {at_ : Nat} {D : List (Nat × Dw)} {σ : Hp} {F : Prop} {x1 x2 x3 x4 : Bv} (h : F) (ok : M.Ok) (hb : Jd D [] = [x1,x2,x3,x4]) (e : ∀ b1 b2 b3 b4 : Nat,F = C0 (M.cx R) (Tn M R M.cuts) 4000 true (sR M.K at_) (gT D [b1,b2,b3,b4] σ)) : M.zM at_ R D σ :=
 M.ofB h ok (by rw [hb]; exact e)
def zO : Value → Dv
 | .int k x => .I k x
 | .bool t => .B t
 | .string x => .T x
 | .slice p n c => .L p n c
 | .pointer p => .Q p
 | .map x => .M x
 | x => .V x
theorem Xe (x : Value) : (zO x).den = x := by cases x <;> rfl
def eD : List Value → List Dv
 | [] => []
 | x :: l => zO x :: eD l
theorem Uc : ∀ l : List Value,XW (eD l) = l
 | [] => rfl
 | x :: l => by simp only [eD,XW]; rw [Xe,Uc]
def gV : Value → Dw
 | .agg cs => .G (eD cs.toList)
 | x => .o (zO x)
theorem ku (x : Value) : (gV x).den = x := by
 cases x
 case agg cs => simp only [gV,Dw.den,Uc]
 all_goals (simp only [gV,Dw.den]; exact Xe _)
def kv : Value → Dw
 | .pointer (some ⟨b,0,none⟩) => .o (.A b)
 | x => .o (.V x)
theorem kx (x : Value) : (kv x).den = x := by
 unfold kv; split <;> rfl
def gW (np : Nat) : Nat → List Value → List (Nat × Dw)
 | _,[] => []
 | k,x :: l => match Nat.blt k np with
   | true => (k,gV x) :: gW np (k + 1) l
   | false => (k,kv x) :: gW np (k + 1) l
theorem ky (x : Value) : (∃ y,gV x = .o y) ∨ ∃ y,gV x = .G y := by cases x <;> first | exact .inr ⟨_,rfl⟩ | exact .inl ⟨_,rfl⟩
theorem kz (x : Value) : ∃ y,kv x = .o y := by unfold kv; split <;> exact ⟨_,rfl⟩
theorem Vb {np : Nat} : ∀ {l : List Value} {k : Nat},Px (gW np k l) = RI k l ∧ Jd (gW np k l) [] = []
 | [],_ => ⟨rfl,rfl⟩
 | x :: l,k => by
   obtain ⟨h1,h2⟩ := Vb (np := np) (l := l) (k := k + 1)
   simp only [gW]
   split
   · have hd := ku x
     rcases ky x with ⟨y,hy⟩ | ⟨y,hy⟩ <;> rw [hy] at hd ⊢ <;> exact ⟨by simp only [Px,RI]; rw [hd,h1],h2⟩
   · have hd := kx x
     obtain ⟨y,hy⟩ := kz x
     rw [hy] at hd ⊢
     exact ⟨by simp only [Px,RI]; rw [hd,h1],h2⟩
def Fw.run (M : Fw) (R : Rr) (k : Nat) (D : List (Nat × Dw)) (σ : Hp) : Prop := match Nat.ble k M.fn.ntmps with
 | true => C0 (M.cx R) (Tn M R M.cuts) 4000 true [.c []] (gT D [] σ)
 | false => False
theorem Fw.D6 {M : Fw} {R : Rr} {args : Array Value} {σ : Hp} {F : Prop} (h : F) (ok : M.Ok) (D : List (Nat × Dw)) (hx : Jd D [] = []) (hD : Px D = RI 0 args.toList) (e : F = M.run R args.size D σ) : Spec M.P M.f args σ R := by
 subst e
 unfold Fw.run at h
 split at h
 case h_2 => exact h.elim
 rename_i hn
 obtain ⟨fb,hb⟩ := Option.isSome_iff_exists.1 ok.body
 refine Spec.walk (c := M.cx R) (cuts := Tn M R M.cuts) (s := gT D [] σ) (fuel := 4000) (Fw.vj ok) ?_ rfl hn Va ?_ ?_ h
 · show M.fn.body = some (M.fn.body.getD .skip)
   rw [hb]; rfl
 · obtain ⟨h4,_⟩ := LX (l := D) (n := ⟨[],[]⟩) (v := ⟨(OX D ⟨[],[]⟩).2.ρ,(OX D ⟨[],[]⟩).2.β,[]⟩) ⟨fun _ _ => rfl,fun _ _ => rfl⟩
   rw [hD] at h4
   simp only [gT,hx]
   exact h4
 · simp only [gT,hx]; rfl
theorem Fw.start {M : Fw} {R : Rr} {args : Array Value} {σ : Hp} {F : Prop} (h : F) (ok : M.Ok) (e : F = M.run R args.size (gW M.fn.params.size 0 args.toList) σ := by kernel_rfl) : Spec M.P M.f args σ R :=
 M.D6 h ok _ Vb.2 Vb.1 e
abbrev wI : Sw := .o (.I .i64)
abbrev wU : Sw := .o (.I .u64)
abbrev w8 : Sw := .o (.I .u8)
abbrev wB : Sw := .o .B
abbrev wT : Sw := .o .T
abbrev wL : Sw := .o .L
abbrev wQ : Sw := .o .Q
abbrev wA : Sw := .o .A
abbrev wM : Sw := .o .M
abbrev wV : Sw := .o .V
abbrev aD (b o : Nat) : Option Addr := some ⟨b,o,none⟩
abbrev Br (p A B : Prop) : Prop := (p → A) ∧ (¬ p → B)
abbrev Bm (p A B : Prop) : Prop := (¬ p → A) ∧ (p → B)
abbrev Bo (t : Bool) (A B : Prop) : Prop := (t = true → A) ∧ (t = false → B)
abbrev Bn (t : Bool) (A B : Prop) : Prop := (t = false → A) ∧ (t = true → B)
abbrev Pq (p : Option Addr) (K : Nat → Nat → Prop) : Prop := ∃ b o : Nat,p = some ⟨b,o,none⟩ ∧ K b o
abbrev In (x n : Int) : Prop := (0 : Int) ≤ x ∧ x < n
abbrev Df (r : Int) (K : Int → Prop) : Prop := ∀ x : Int,x = r → K x
abbrev Al (σ : Hp) (K : Nat → Prop) : Prop := ∀ b : Nat,σ b = none → K b
abbrev LI (k : IntKind) (σ : Hp) (b o : Nat) (K : Int → Prop) : Prop := ∃ x : Int,Hp.ld σ ⟨b,o,none⟩ = some (.int k x) ∧ K x
abbrev LB (σ : Hp) (b o : Nat) (K : Bool → Prop) : Prop := ∃ x : Bool,Hp.ld σ ⟨b,o,none⟩ = some (.bool x) ∧ K x
abbrev LT (σ : Hp) (b o : Nat) (K : ByteArray → Prop) : Prop := ∃ x : ByteArray,Hp.ld σ ⟨b,o,none⟩ = some (.string x) ∧ K x
abbrev LQ (σ : Hp) (b o : Nat) (K : Option Addr → Prop) : Prop := ∃ x : Option Addr,Hp.ld σ ⟨b,o,none⟩ = some (.pointer x) ∧ K x
abbrev LS (σ : Hp) (b o : Nat) (K : Option Addr → Nat → Nat → Prop) : Prop := ∃ p : Option Addr,∃ n : Nat,∃ c : Nat,Hp.ld σ ⟨b,o,none⟩ = some (.slice p n c) ∧ K p n c
abbrev CI (k : IntKind) (K : Int → Hp → Prop) : Value → Hp → Prop := fun v σ => ∃ x : Int,v = .int k x ∧ K x σ
abbrev CB (K : Bool → Hp → Prop) : Value → Hp → Prop := fun v σ => ∃ x : Bool,v = .bool x ∧ K x σ
abbrev CT (K : ByteArray → Hp → Prop) : Value → Hp → Prop := fun v σ => ∃ x : ByteArray,v = .string x ∧ K x σ
abbrev CQ (K : Option Addr → Hp → Prop) : Value → Hp → Prop := fun v σ => ∃ x : Option Addr,v = .pointer x ∧ K x σ
abbrev CS (K : Option Addr → Nat → Nat → Hp → Prop) : Value → Hp → Prop := fun v σ => ∃ p : Option Addr,∃ n : Nat,∃ c : Nat,v = .slice p n c ∧ K p n c σ
end Tw
end
section
set_option maxRecDepth 100000
noncomputable section
namespace TwW
open Go Tw Go.Proofs.Tryz
variable [Ey] {R : Rr} {σ : Hp}

namespace A0
variable {p0 p3 : Option Addr} {n0 c0 n3 c3 : Nat} {x4 : Int}
def M : Fw := ⟨prog,13,f13,[33,34],[],false,[],[],[(464,[(0,wL),(3,wL),(4,wI)])]⟩
theorem ok : M.Ok := ⟨.cons call33 (.cons call34 (AG.nil)),mixed,func13,by kernel_rfl⟩
def Bk := M.pt 0
theorem start (h : Bk R p0 n0 c0 none 0 0 0 σ) : Spec prog 13 #[.slice p0 n0 c0] σ R := M.start h ok
theorem A5 (h : Br (x4 < (n0 : Int)) (Pq p0 fun BL ND => In x4 (n0 : Int) ∧ LS σ BL (ND + Int.toNat x4 * 2) fun Wl n16 To => In x4 (n0 : Int) ∧ LS σ BL ((ND + Int.toNat x4 * 2) + 1) fun QX n22 PJ => Spec prog 33 #[.slice Wl n16 To] σ (AA R (CS fun p17 n17 c17 y => Kp [BL] σ y ∧ Spec prog 34 #[.slice QX n22 PJ] y (AA R (CS fun q9 n23 rE AF => Al AF fun Ji => AJ prog (Builtin.append_ #[23,23] 23 #[.slice p3 n3 c3,(.slice (aD Ji 0) 1 1)]) (Hp.set AF Ji (.cells #[.slice p17 n17 c17,.slice q9 n23 rE] 40 (0,0))) (CS fun p26 n26 c26 AH => AN (x4 + 1) ∧ Bk R (aD BL ND) n0 c0 p26 n26 c26 (x4 + 1) AH)))))) (R (.returned (.slice p3 n3 c3)) σ)) : Bk R p0 n0 c0 p3 n3 c3 x4 σ := M.of h ok rfl
end A0
namespace JN
variable {p0 : Option Addr} {n0 c0 : Nat}
def M : Fw := ⟨prog,34,f34,[],[],false,[],[],[]⟩
theorem ok : M.Ok := ⟨AG.nil,mixed,func34,by kernel_rfl⟩
theorem start (h : Al σ fun b3 => AJ prog (Builtin.append_ #[38,38] 38 #[(.slice (aD b3 0) 0 0),.slice p0 n0 c0]) (Hp.set σ b3 (.cells #[] 50 (0,0))) (CS fun p5 n5 c5 y => R (.returned (.slice p5 n5 c5)) y)) : Spec prog 34 #[.slice p0 n0 c0] σ R := M.start h ok
end JN
namespace Bs
def K0 := f35.body.getD .skip
def K1 := cl K0
def K2 := cr K0
def K3 := cl K2
def K4 := cl K3
def K5 := cr K3
def K6 := cl K5
def K7 := cr K5
def K8 := cl K7
def K9 := cl K8
def K10 := cr K8
def K11 := cr K7
def K12 := cr K2
def K13 := cl K12
def K14 := cl K13
def K15 := cr K13
def zP := cl K15
def K17 := cl zP
def K18 := cr zP
def K19 := cr K15
def K20 := cr K12
def K21 := cl K20
def K22 := cl K21
def K23 := cr K21
def K24 := cl K23
def K25 := cl K24
def K26 := cr K24
def K27 := cr K23
def K28 := cr K20
def K29 := cl K28
def K30 := cr K28
def K31 := cl K30
def K32 := cr K30
def K33 := cl K32
def K34 := cl K33
def K35 := cr K33
def K36 := cl K35
def K37 := cl K36
def K38 := cr K36
def K39 := cl K38
def K40 := cl K39
def K41 := cr K39
def K42 := cl K41
def K43 := cl K42
def K44 := cr K42
def K45 := cl K44
def K46 := cl K45
def K47 := cr K45
def K48 := cr K44
def K49 := cr K41
def K50 := cl K49
def K51 := cr K49
def K52 := cl K51
def K53 := cl K52
def K54 := cl K53
def K55 := cr K53
def K56 := cl K55
def K57 := cl K56
def K58 := cr K56
def K59 := cr K55
def K60 := cl K59
def K61 := cl K60
def K62 := cl K61
def K63 := cr K61
def K64 := cl K63
def K65 := cr K63
def K66 := cl K65
def K67 := cl K66
def K68 := cr K66
def K69 := cl K68
def K70 := cl K69
def K71 := cr K69
def K72 := cl K71
def K73 := cr K71
def K74 := cr K68
def K75 := cr K65
def K76 := cr K59
def K77 := cr K32
def K78 := cl K77
def K79 := cr K77
def K80 := cl K79
def K81 := cr K79
def K82 : Code := .ret
abbrev gl (R : Rr) : Gl := Gl.fn prog 35 117 R
def Js (R : Rr) (l : Nat) (r0 : Loop) (b5 b6 Cb BF DC BL : Nat) (vk : Int) (σ : Hp) : Prop := ∀ (J : Env),At (Gl.round prog 35 117 l R) [.code K37,.beginRound,.code K38] (Jj J [(5,(.pointer (some ⟨b5,0,none⟩))),(6,(.pointer (some ⟨b6,0,none⟩))),(10,(.pointer (some ⟨Cb,0,none⟩))),(11,(.pointer (some ⟨BF,0,none⟩))),(13,(.pointer (some ⟨DC,0,none⟩))),(14,(.pointer (some ⟨BL,0,none⟩))),(56,(.int .i64 vk))]) [] σ
def Py (R : Rr) (l : Nat) (r0 : Loop) (DC BL : Nat) (x15 : Int) (jl : Option Addr) (Xf Zv : Nat) (NF Pz : Int) (σ : Hp) : Prop := ∀ (J : Env),At (Gl.round prog 35 117 l R) [.code K54,.code K55,.inLoop K53,.inBlock 2,.inBlock 1] (Jj J [(13,(.pointer (some ⟨DC,0,none⟩))),(14,(.pointer (some ⟨BL,0,none⟩))),(15,(.int .i64 x15)),(67,(.slice jl Xf Zv)),(68,(.int .i64 NF)),(69,(.int .i64 Pz))]) [] σ
def sT (R : Rr) (l : Nat) (r0 : Loop) (DC BL : Nat) (x15 : Int) (CR : Nat) (Hj : Int) (jl : Option Addr) (Xf Zv : Nat) (NF Pz : Int) (σ : Hp) : Prop := ∀ (J : Env),At (Gl.round prog 35 117 l R) [.code K75,.inBlock 3,.code K76,.inLoop K53,.inBlock 2,.inBlock 1] (Jj J [(13,(.pointer (some ⟨DC,0,none⟩))),(14,(.pointer (some ⟨BL,0,none⟩))),(15,(.int .i64 x15)),(19,(.pointer (some ⟨CR,0,none⟩))),(20,(.int .i64 Hj)),(67,(.slice jl Xf Zv)),(68,(.int .i64 NF)),(69,(.int .i64 Pz))]) [] σ
theorem start {R : Rr} {p0 p1 : Option Addr} {n0 c0 n1 c1 : Nat} {x2 x3 x4 : Int} {σ : Hp} (h : ∀ b5 : Nat,σ b5 = none → ∀ b6 : Nat,(Hp.set σ b5 (.cells #[(.slice p0 n0 c0)] 22 (0,0))) b6 = none → ∀ Cb : Nat,(Hp.set (Hp.set σ b5 (.cells #[(.slice p0 n0 c0)] 22 (0,0))) b6 (.cells #[(.slice p1 n1 c1)] 23 (0,0))) Cb = none → ∀ BF : Nat,(Hp.set (Hp.set (Hp.set σ b5 (.cells #[(.slice p0 n0 c0)] 22 (0,0))) b6 (.cells #[(.slice p1 n1 c1)] 23 (0,0))) Cb (.cells #[(.slice none 0 0)] 23 (0,0))) BF = none → ∃ QX : Option Addr,∃ n22 : Nat,∃ PJ : Nat,Hp.ld (Hp.set (Hp.set (Hp.set (Hp.set σ b5 (.cells #[(.slice p0 n0 c0)] 22 (0,0))) b6 (.cells #[(.slice p1 n1 c1)] 23 (0,0))) Cb (.cells #[(.slice none 0 0)] 23 (0,0))) BF (.cells #[(.int .i64 0)] 24 (0,0))) ⟨b5,0,none⟩ = some (.slice QX n22 PJ) ∧ ∃ q9 : Option Addr,∃ n23 : Nat,∃ rE : Nat,Hp.ld (Hp.set (Hp.set (Hp.set (Hp.set σ b5 (.cells #[(.slice p0 n0 c0)] 22 (0,0))) b6 (.cells #[(.slice p1 n1 c1)] 23 (0,0))) Cb (.cells #[(.slice none 0 0)] 23 (0,0))) BF (.cells #[(.int .i64 0)] 24 (0,0))) ⟨b6,0,none⟩ = some (.slice q9 n23 rE) ∧ Spec prog 28 #[(.slice QX n22 PJ),(.slice q9 n23 rE)] (Hp.set (Hp.set (Hp.set (Hp.set σ b5 (.cells #[(.slice p0 n0 c0)] 22 (0,0))) b6 (.cells #[(.slice p1 n1 c1)] 23 (0,0))) Cb (.cells #[(.slice none 0 0)] 23 (0,0))) BF (.cells #[(.int .i64 0)] 24 (0,0))) (AA R (fun v σ1 => ∃ JO : Int,v = (.int .i64 JO) ∧ ((JO : Int) ≠ 0 → AJ prog (Instr.storeAt 23 (.pointer (some ⟨Cb,0,none⟩)) (.slice none 0 0)) σ1 (fun _ GK => AJ prog (Instr.storeAt 24 (.pointer (some ⟨BF,0,none⟩)) (.int .i64 JO)) GK (fun _ CK => ∃ Ci : Option Addr,∃ Cj : Nat,∃ Ck : Nat,∃ Cm : Int,Hp.ld CK ⟨Cb,0,none⟩ = some (.slice Ci Cj Ck) ∧ Hp.ld CK ⟨BF,0,none⟩ = some (.int .i64 Cm) ∧ R (.returned (.tuple #[(.slice Ci Cj Ck),(.int .i64 Cm)])) CK))) ∧ (¬ ((JO : Int) ≠ 0) → Spec prog 29 #[(.int .i64 x2)] σ1 (AA R (fun v_2 GK => ∃ t29 : Bool,v_2 = (.bool t29) ∧ (t29 = false → AJ prog (Instr.storeAt 23 (.pointer (some ⟨Cb,0,none⟩)) (.slice none 0 0)) GK (fun _ CK => AJ prog (Instr.storeAt 24 (.pointer (some ⟨BF,0,none⟩)) (.int .i64 221)) CK (fun _ Cn => ∃ Ci : Option Addr,∃ Cj : Nat,∃ Ck : Nat,∃ Cm : Int,Hp.ld Cn ⟨Cb,0,none⟩ = some (.slice Ci Cj Ck) ∧ Hp.ld Cn ⟨BF,0,none⟩ = some (.int .i64 Cm) ∧ R (.returned (.tuple #[(.slice Ci Cj Ck),(.int .i64 Cm)])) Cn))) ∧ (t29 = true → Spec prog 29 #[(.int .i64 x3)] GK (AA R (fun v_3 CK => ∃ t33 : Bool,v_3 = (.bool t33) ∧ (t33 = false → AJ prog (Instr.storeAt 23 (.pointer (some ⟨Cb,0,none⟩)) (.slice none 0 0)) CK (fun _ Cn => AJ prog (Instr.storeAt 24 (.pointer (some ⟨BF,0,none⟩)) (.int .i64 221)) Cn (fun _ Bc => ∃ Ci : Option Addr,∃ Cj : Nat,∃ Ck : Nat,∃ Cm : Int,Hp.ld Bc ⟨Cb,0,none⟩ = some (.slice Ci Cj Ck) ∧ Hp.ld Bc ⟨BF,0,none⟩ = some (.int .i64 Cm) ∧ R (.returned (.tuple #[(.slice Ci Cj Ck),(.int .i64 Cm)])) Bc))) ∧ (t33 = true → ((x3 : Int) < x2 → AJ prog (Instr.storeAt 23 (.pointer (some ⟨Cb,0,none⟩)) (.slice none 0 0)) CK (fun _ Cn => AJ prog (Instr.storeAt 24 (.pointer (some ⟨BF,0,none⟩)) (.int .i64 221)) Cn (fun _ Bc => ∃ Ci : Option Addr,∃ Cj : Nat,∃ Ck : Nat,∃ Cm : Int,Hp.ld Bc ⟨Cb,0,none⟩ = some (.slice Ci Cj Ck) ∧ Hp.ld Bc ⟨BF,0,none⟩ = some (.int .i64 Cm) ∧ R (.returned (.tuple #[(.slice Ci Cj Ck),(.int .i64 Cm)])) Bc))) ∧ (¬ ((x3 : Int) < x2) → ((x4 : Int) < 1 → AJ prog (Instr.storeAt 23 (.pointer (some ⟨Cb,0,none⟩)) (.slice none 0 0)) CK (fun _ Cn => AJ prog (Instr.storeAt 24 (.pointer (some ⟨BF,0,none⟩)) (.int .i64 221)) Cn (fun _ Bc => ∃ Ci : Option Addr,∃ Cj : Nat,∃ Ck : Nat,∃ Cm : Int,Hp.ld Bc ⟨Cb,0,none⟩ = some (.slice Ci Cj Ck) ∧ Hp.ld Bc ⟨BF,0,none⟩ = some (.int .i64 Cm) ∧ R (.returned (.tuple #[(.slice Ci Cj Ck),(.int .i64 Cm)])) Bc))) ∧ (¬ ((x4 : Int) < 1) → AN (x3 - x2) ∧ x4 ≠ (0 : Int) ∧ ∀ RL : Int,RL = IntKind.i64.wrap (Int.tdiv (x3 - x2) x4) → ((512 : Int) ≤ RL → AJ prog (Instr.storeAt 23 (.pointer (some ⟨Cb,0,none⟩)) (.slice none 0 0)) CK (fun _ Cn => AJ prog (Instr.storeAt 24 (.pointer (some ⟨BF,0,none⟩)) (.int .i64 222)) Cn (fun _ Bc => ∃ Ci : Option Addr,∃ Cj : Nat,∃ Ck : Nat,∃ Cm : Int,Hp.ld Bc ⟨Cb,0,none⟩ = some (.slice Ci Cj Ck) ∧ Hp.ld Bc ⟨BF,0,none⟩ = some (.int .i64 Cm) ∧ R (.returned (.tuple #[(.slice Ci Cj Ck),(.int .i64 Cm)])) Bc))) ∧ (¬ ((512 : Int) ≤ RL) → AJ prog (Instr.makeMap 99 none) CK (fun v_4 Cn => ∃ m51 : Nat,v_4 = (.map (some m51)) ∧ ∀ DC : Nat,Cn DC = none → AJ prog (Instr.storeAt 99 (.pointer (some ⟨DC,0,none⟩)) (.map (some m51))) (Hp.set Cn DC (.cells #[(.map none)] 99 (0,0))) (fun _ Bc => ∀ BL : Nat,Bc BL = none → Spec prog 48 #[(.int .i64 x2),(.int .i64 x3),(.int .i64 x4)] (Hp.set Bc BL (.cells #[(.slice none 0 0)] 23 (0,0))) (AA R (fun v_5 NG => ∃ f55 : Fn,∃ a55 : Array Value,∃ c55 : Array Value,(Value.func f55 a55 c55) = v_5 ∧ ∃ (gf : Nat) (lb : Array Value),(Value.func f55 a55 c55) = .func (.func gf) #[] lb ∧ Enters prog gf ∧ ∀ (bF Zw : Nat) (P0 : Loop),bF ≠ Zw → NG bF = none → NG Zw = none → (∀ (R2 : Rr) (σ2 : Hp) (sU : Int),σ2 Zw = some (.loop (lp P0 .ready none)) → Js R2 Zw P0 b5 b6 Cb BF DC BL sU σ2 → H6 prog Zw #[(.int .i64 sU)] σ2 R2) → Spec prog gf (#[.func (.yield Zw) #[] #[]] ++ lb) (Hp.set (Hp.set NG bF (.deferred (some []))) Zw (.loop (lp P0 .ready none))) (fun en Jt => ∃ (v : Value) (s : LoopState) (p : Option Code),en = .returned v ∧ Jt Zw = some (.loop (lp P0 s p)) ∧ s ≠ .busy ∧ ((p = none ∧ ∃ sV : Option Addr,∃ n114 : Nat,∃ sW : Nat,Hp.ld (Hp.set Jt Zw (.loop (lp P0 .exhausted none))) ⟨BL,0,none⟩ = some (.slice sV n114 sW) ∧ Spec prog 50 #[(.slice sV n114 sW),(.func (.func 51) #[] #[])] (Hp.set Jt Zw (.loop (lp P0 .exhausted none))) (AA (NP R) (fun v_6 Ud => v_6 = (.tuple #[]) ∧ ∃ k0 : Option Addr,∃ n116 : Nat,∃ k8 : Nat,Hp.ld Ud ⟨BL,0,none⟩ = some (.slice k0 n116 k8) ∧ AJ prog (Instr.storeAt 23 (.pointer (some ⟨Cb,0,none⟩)) (.slice k0 n116 k8)) Ud (fun _ vm => AJ prog (Instr.storeAt 24 (.pointer (some ⟨BF,0,none⟩)) (.int .i64 0)) vm (fun _ RM => ∃ Ci : Option Addr,∃ Cj : Nat,∃ Ck : Nat,∃ Cm : Int,RM bF = some (.deferred (some [])) ∧ Hp.ld (Hp.set RM bF (.deferred none)) ⟨Cb,0,none⟩ = some (.slice Ci Cj Ck) ∧ Hp.ld (Hp.set RM bF (.deferred none)) ⟨BF,0,none⟩ = some (.int .i64 Cm) ∧ R (.returned (.tuple #[(.slice Ci Cj Ck),(.int .i64 Cm)])) (Hp.set RM bF (.deferred none))))))) ∨ (p = (some .ret) ∧ ∃ Vc : Option Addr,∃ Vd : Nat,∃ Ve : Nat,∃ Vf : Int,(Hp.set Jt Zw (.loop (lp P0 .exhausted (some .ret)))) bF = some (.deferred (some [])) ∧ Hp.ld (Hp.set (Hp.set Jt Zw (.loop (lp P0 .exhausted (some .ret)))) bF (.deferred none)) ⟨Cb,0,none⟩ = some (.slice Vc Vd Ve) ∧ Hp.ld (Hp.set (Hp.set Jt Zw (.loop (lp P0 .exhausted (some .ret)))) bF (.deferred none)) ⟨BF,0,none⟩ = some (.int .i64 Vf) ∧ R (.returned (.tuple #[(.slice Vc Vd Ve),(.int .i64 Vf)])) (Hp.set (Hp.set Jt Zw (.loop (lp P0 .exhausted (some .ret)))) bF (.deferred none)))))))))))))))))))))) : Spec prog 35 #[(.slice p0 n0 c0),(.slice p1 n1 c1),(.int .i64 x2),(.int .i64 x3),(.int .i64 x4)] σ R := by
 refine Spec.dT (fn := f35) (c := K0) func35 (by kernel_rfl) (Nat.le_of_ble_eq_true (by kernel_rfl)) (fun e he => ?_)
 refine At.ofL (l := [(0,(.slice p0 n0 c0)),(1,(.slice p1 n1 c1)),(2,(.int .i64 x2)),(3,(.int .i64 x3)),(4,(.int .i64 x4))]) ⟨he 0,he 1,he 2,he 3,he 4,trivial⟩ (fun J => ?_)
 show At (gl R) _ _ _ _
 refine At.s K1 K2 ?_
 refine At.rg 0 [0,1,2,3] ?_
 refine Seq.o ?_
 refine AL.yR (T := 22) (d := (some 5)) (ty := 0) (x := (.tmp 0)) (gd := none) (cs := #[(.slice p0 n0 c0)]) (by kernel_rfl) rfl rfl rfl (fun b5 hn => ?_)
 replace h := h b5 hn
 refine Seq.o ?_
 refine AL.yR (T := 23) (d := (some 6)) (ty := 0) (x := (.tmp 1)) (gd := none) (cs := #[(.slice p1 n1 c1)]) (by kernel_rfl) rfl rfl rfl (fun b6 hn => ?_)
 replace h := h b6 hn
 refine Seq.o ?_
 refine AL.OK (T := 23) (d := (some 10)) (ty := 0)  (gd := none) (cs := #[(.slice none 0 0)]) (by kernel_rfl) rfl rfl zeroValue23 rfl (fun Cb hn => ?_)
 replace h := h Cb hn
 refine Seq.o ?_
 refine AL.OK (T := 24) (d := (some 11)) (ty := 0)  (gd := none) (cs := #[(.int .i64 0)]) (by kernel_rfl) rfl rfl zeroValue24 rfl (fun BF hn => ?_)
 replace h := h BF hn
 refine Seq.done ?_
 refine At.s K3 K12 (At.s K4 K5 ?_)
 refine At.rg 1 [0,1,2,3] ?_
 obtain ⟨QX,n22,PJ,hl,h⟩ := h
 refine Seq.z 22 (.load 22 (.tmp 5)) 22 (.slice QX n22 PJ) (Y.ld isAgg22 rfl hl) ?_
 obtain ⟨q9,n23,rE,hl,h⟩ := h
 refine Seq.z 23 (.load 23 (.tmp 6)) 23 (.slice q9 n23 rE) (Y.ld isAgg23 rfl hl) ?_
 refine Seq.o ?_
 refine AL.cl (some 24) call28 (h.cont fun v σ1 h2 => ?_); replace h := h2; clear h2
 obtain ⟨JO,rfl,h⟩ := h
 refine Seq.u 12 (.int .i64 JO) (Seq.done ?_)
 refine At.s K6 K7 ?_
 refine At.rg 2 [0,1] ?_
 refine Seq.us [(25,.int .i64 JO),(26,.bool (decide ((JO : Int) ≠ 0)))] (Seq.done ?_)
 cases hb : (decide ((JO : Int) ≠ 0)) with
 | true =>
   replace h := h.1 (of_decide_eq_true hb)
   refine At.cT 26 K8 K11 ?_
   refine At.s K9 K10 ?_
   refine At.rg 3 [0,1,2] ?_
   refine Seq.u 27 (.int .i64 JO) ?_
   refine Seq.o ?_
   refine AL.store (T := 23) (ty := 0) (x := (.tmp 10)) (y := (.const (.slice none 0 0))) (p := (.pointer (some ⟨Cb,0,none⟩))) (v := (.slice none 0 0)) (gd := none) (by kernel_rfl) rfl rfl rfl (h.mono (fun _ GK h2 => ?_)); replace h := h2; clear h2
   refine Seq.o ?_
   refine AL.store (T := 24) (ty := 0) (x := (.tmp 11)) (y := (.tmp 27)) (p := (.pointer (some ⟨BF,0,none⟩))) (v := (.int .i64 JO)) (gd := none) (by kernel_rfl) rfl rfl rfl (h.mono (fun _ CK h2 => ?_)); replace h := h2; clear h2
   refine Seq.done ?_
   obtain ⟨Ci,Cj,Ck,Cm,OY,OZ,h⟩ := h
   exact At.rt [.cell 10 23,.cell 11 24] [(.slice Ci Cj Ck),(.int .i64 Cm)] func35 ⟨_,_,rfl,⟨_,rfl,By isAgg23 OY⟩,⟨_,_,rfl,⟨_,rfl,By isAgg24 OZ⟩,rfl⟩⟩ h
 | false =>
   replace h := h.2 (of_decide_eq_false hb)
   refine At.cF 26 K8 K11 ?_
   refine At.skip ?_
   refine At.s K13 K20 (At.s K14 K15 ?_)
   refine At.rg 4 [0,1,2,3,4,5,6,7,8,9,10,11,12,13,14,15,16] ?_
   refine Seq.u 28 (.int .i64 x2) ?_
   refine Seq.o ?_
   refine AL.cl (some 29) call29 (h.cont fun v_2 GK h2 => ?_); replace h := h2; clear h2
   obtain ⟨t29,rfl,h⟩ := h
   refine Seq.us [(30,.bool (!t29)),(31,.bool (!t29))] ?_
   cases hb : (!t29) with
   | true =>
     replace h := h.1 (Tw.nt hb)
     refine Seq.n 32 ?_
     refine Seq.n 33 ?_
     refine Seq.n 34 ?_
     refine Seq.us [(35,.bool true),(36,.bool true)] ?_
     refine Seq.n 37 ?_
     refine Seq.n 38 ?_
     refine Seq.n 39 ?_
     refine Seq.us [(40,.bool true),(41,.bool true)] ?_
     refine Seq.n 42 ?_
     refine Seq.n 43 ?_
     refine Seq.u 44 (.bool true) (Seq.done ?_)
     refine At.cT 44 zP K19 ?_
     refine At.s K17 K18 ?_
     refine At.rg 5 [0,1] ?_
     refine Seq.o ?_
     refine AL.store (T := 23) (ty := 0) (x := (.tmp 10)) (y := (.const (.slice none 0 0))) (p := (.pointer (some ⟨Cb,0,none⟩))) (v := (.slice none 0 0)) (gd := none) (by kernel_rfl) rfl rfl rfl (h.mono (fun _ CK h2 => ?_)); replace h := h2; clear h2
     refine Seq.o ?_
     refine AL.store (T := 24) (ty := 0) (x := (.tmp 11)) (y := (.const (.int .i64 221))) (p := (.pointer (some ⟨BF,0,none⟩))) (v := (.int .i64 221)) (gd := none) (by kernel_rfl) rfl rfl rfl (h.mono (fun _ Cn h2 => ?_)); replace h := h2; clear h2
     refine Seq.done ?_
     obtain ⟨Ci,Cj,Ck,Cm,OY,OZ,h⟩ := h
     exact At.rt [.cell 10 23,.cell 11 24] [(.slice Ci Cj Ck),(.int .i64 Cm)] func35 ⟨_,_,rfl,⟨_,rfl,By isAgg23 OY⟩,⟨_,_,rfl,⟨_,rfl,By isAgg24 OZ⟩,rfl⟩⟩ h
   | false =>
     replace h := h.2 (Tw.nf hb)
     refine Seq.u 32 (.int .i64 x3) ?_
     refine Seq.o ?_
     refine AL.cl (some 33) call29 (h.cont fun v_3 CK h2 => ?_); replace h := h2; clear h2
     obtain ⟨t33,rfl,h⟩ := h
     refine Seq.us [(34,.bool (!t33)),(35,.bool (!t33)),(36,.bool (!t33))] ?_
     cases hb : (!t33) with
     | true =>
       replace h := h.1 (Tw.nt hb)
       refine Seq.n 37 ?_
       refine Seq.n 38 ?_
       refine Seq.n 39 ?_
       refine Seq.us [(40,.bool true),(41,.bool true)] ?_
       refine Seq.n 42 ?_
       refine Seq.n 43 ?_
       refine Seq.u 44 (.bool true) (Seq.done ?_)
       refine At.L [(2,(.int .i64 x2)),(3,(.int .i64 x3)),(4,(.int .i64 x4)),(5,(.pointer (some ⟨b5,0,none⟩))),(6,(.pointer (some ⟨b6,0,none⟩))),(10,(.pointer (some ⟨Cb,0,none⟩))),(11,(.pointer (some ⟨BF,0,none⟩))),(44,(.bool true))] fun J => ?_
       refine At.cT 44 zP K19 ?_
       refine At.s K17 K18 ?_
       refine At.rg 5 [0,1] ?_
       refine Seq.o ?_
       refine AL.store (T := 23) (ty := 0) (x := (.tmp 10)) (y := (.const (.slice none 0 0))) (p := (.pointer (some ⟨Cb,0,none⟩))) (v := (.slice none 0 0)) (gd := none) (by kernel_rfl) rfl rfl rfl (h.mono (fun _ Cn h2 => ?_)); replace h := h2; clear h2
       refine Seq.o ?_
       refine AL.store (T := 24) (ty := 0) (x := (.tmp 11)) (y := (.const (.int .i64 221))) (p := (.pointer (some ⟨BF,0,none⟩))) (v := (.int .i64 221)) (gd := none) (by kernel_rfl) rfl rfl rfl (h.mono (fun _ Bc h2 => ?_)); replace h := h2; clear h2
       refine Seq.done ?_
       obtain ⟨Ci,Cj,Ck,Cm,OY,OZ,h⟩ := h
       exact At.rt [.cell 10 23,.cell 11 24] [(.slice Ci Cj Ck),(.int .i64 Cm)] func35 ⟨_,_,rfl,⟨_,rfl,By isAgg23 OY⟩,⟨_,_,rfl,⟨_,rfl,By isAgg24 OZ⟩,rfl⟩⟩ h
     | false =>
       replace h := h.2 (Tw.nf hb)
       refine Seq.us [(37,.int .i64 x2),(38,.int .i64 x3),(39,.bool (decide ((x3 : Int) < x2))),(40,.bool (decide ((x3 : Int) < x2))),(41,.bool (decide ((x3 : Int) < x2)))] ?_
       cases hb : (decide ((x3 : Int) < x2)) with
       | true =>
         replace h := h.1 (of_decide_eq_true hb)
         refine Seq.n 42 ?_
         refine Seq.n 43 ?_
         refine Seq.u 44 (.bool true) (Seq.done ?_)
         refine At.cT 44 zP K19 ?_
         refine At.s K17 K18 ?_
         refine At.rg 5 [0,1] ?_
         refine Seq.o ?_
         refine AL.store (T := 23) (ty := 0) (x := (.tmp 10)) (y := (.const (.slice none 0 0))) (p := (.pointer (some ⟨Cb,0,none⟩))) (v := (.slice none 0 0)) (gd := none) (by kernel_rfl) rfl rfl rfl (h.mono (fun _ Cn h2 => ?_)); replace h := h2; clear h2
         refine Seq.o ?_
         refine AL.store (T := 24) (ty := 0) (x := (.tmp 11)) (y := (.const (.int .i64 221))) (p := (.pointer (some ⟨BF,0,none⟩))) (v := (.int .i64 221)) (gd := none) (by kernel_rfl) rfl rfl rfl (h.mono (fun _ Bc h2 => ?_)); replace h := h2; clear h2
         refine Seq.done ?_
         obtain ⟨Ci,Cj,Ck,Cm,OY,OZ,h⟩ := h
         exact At.rt [.cell 10 23,.cell 11 24] [(.slice Ci Cj Ck),(.int .i64 Cm)] func35 ⟨_,_,rfl,⟨_,rfl,By isAgg23 OY⟩,⟨_,_,rfl,⟨_,rfl,By isAgg24 OZ⟩,rfl⟩⟩ h
       | false =>
         replace h := h.2 (of_decide_eq_false hb)
         refine Seq.us [(42,.int .i64 x4),(43,.bool (decide ((x4 : Int) < 1))),(44,.bool (decide ((x4 : Int) < 1)))] (Seq.done ?_)
         cases hb : (decide ((x4 : Int) < 1)) with
         | true =>
           replace h := h.1 (of_decide_eq_true hb)
           refine At.cT 44 zP K19 ?_
           refine At.s K17 K18 ?_
           refine At.rg 5 [0,1] ?_
           refine Seq.o ?_
           refine AL.store (T := 23) (ty := 0) (x := (.tmp 10)) (y := (.const (.slice none 0 0))) (p := (.pointer (some ⟨Cb,0,none⟩))) (v := (.slice none 0 0)) (gd := none) (by kernel_rfl) rfl rfl rfl (h.mono (fun _ Cn h2 => ?_)); replace h := h2; clear h2
           refine Seq.o ?_
           refine AL.store (T := 24) (ty := 0) (x := (.tmp 11)) (y := (.const (.int .i64 221))) (p := (.pointer (some ⟨BF,0,none⟩))) (v := (.int .i64 221)) (gd := none) (by kernel_rfl) rfl rfl rfl (h.mono (fun _ Bc h2 => ?_)); replace h := h2; clear h2
           refine Seq.done ?_
           obtain ⟨Ci,Cj,Ck,Cm,OY,OZ,h⟩ := h
           exact At.rt [.cell 10 23,.cell 11 24] [(.slice Ci Cj Ck),(.int .i64 Cm)] func35 ⟨_,_,rfl,⟨_,rfl,By isAgg23 OY⟩,⟨_,_,rfl,⟨_,rfl,By isAgg24 OZ⟩,rfl⟩⟩ h
         | false =>
           replace h := h.2 (of_decide_eq_false hb)
           refine At.cF 44 zP K19 ?_
           refine At.skip ?_
           refine At.s K21 K28 (At.s K22 K23 ?_)
           refine At.rg 6 [0,1,2,3,4,5] ?_
           refine Seq.us [(45,.int .i64 x3),(46,.int .i64 x2)] ?_
           obtain ⟨hi,h⟩ := h
           refine Seq.z 47 (.binOp .sub 2 (.tmp 45) (.tmp 46) 2) 2 (.int .i64 (x3 - x2)) (Y.AKR hi rfl rfl) ?_
           refine Seq.u 48 (.int .i64 x4) ?_
           obtain ⟨hc,h⟩ := h
           obtain ⟨RL,vo⟩ : ∃ y,y = IntKind.i64.wrap (Int.tdiv (x3 - x2) x4) := ⟨_,rfl⟩
           replace h := h RL vo
           refine Seq.y (d := (some 49)) (op := (.binOp .quo 2 (.tmp 47) (.tmp 48) 2)) (ty := 2) (v := (.int .i64 RL)) (by kernel_rfl) rfl (vo ▸ Y.quo hc rfl rfl) ?_
           refine Seq.u 50 (.bool (decide ((512 : Int) ≤ RL))) (Seq.done ?_)
           cases hb : (decide ((512 : Int) ≤ RL)) with
           | true =>
             replace h := h.1 (of_decide_eq_true hb)
             refine At.cT 50 K24 K27 ?_
             refine At.s K25 K26 ?_
             refine At.rg 7 [0,1] ?_
             refine Seq.o ?_
             refine AL.store (T := 23) (ty := 0) (x := (.tmp 10)) (y := (.const (.slice none 0 0))) (p := (.pointer (some ⟨Cb,0,none⟩))) (v := (.slice none 0 0)) (gd := none) (by kernel_rfl) rfl rfl rfl (h.mono (fun _ Cn h2 => ?_)); replace h := h2; clear h2
             refine Seq.o ?_
             refine AL.store (T := 24) (ty := 0) (x := (.tmp 11)) (y := (.const (.int .i64 222))) (p := (.pointer (some ⟨BF,0,none⟩))) (v := (.int .i64 222)) (gd := none) (by kernel_rfl) rfl rfl rfl (h.mono (fun _ Bc h2 => ?_)); replace h := h2; clear h2
             refine Seq.done ?_
             obtain ⟨Ci,Cj,Ck,Cm,OY,OZ,h⟩ := h
             exact At.rt [.cell 10 23,.cell 11 24] [(.slice Ci Cj Ck),(.int .i64 Cm)] func35 ⟨_,_,rfl,⟨_,rfl,By isAgg23 OY⟩,⟨_,_,rfl,⟨_,rfl,By isAgg24 OZ⟩,rfl⟩⟩ h
           | false =>
             replace h := h.2 (of_decide_eq_false hb)
             refine At.cF 50 K24 K27 ?_
             refine At.skip ?_
             refine At.s K29 K30 ?_
             refine At.rg 8 [0,1,2] ?_
             refine Seq.o ?_
             refine AL.Qr (d := (some 51)) (op := (.makeMap 99 none)) (ty := 99) (gd := none) (by kernel_rfl) rfl rfl (Instr.makeMap 99 none) (fun o ho ht => by simp only [execOp,ho]; rfl) (h.mono (fun v_4 Cn h2 => ?_)); replace h := h2; clear h2
             obtain ⟨m51,rfl,h⟩ := h
             refine Seq.o ?_
             refine AL.OK (T := 99) (d := (some 13)) (ty := 0)  (gd := none) (cs := #[(.map none)]) (by kernel_rfl) rfl rfl zeroValue99 rfl (fun DC hn => ?_)
             replace h := h DC hn
             refine Seq.o ?_
             refine AL.store (T := 99) (ty := 0) (x := (.tmp 13)) (y := (.tmp 51)) (p := (.pointer (some ⟨DC,0,none⟩))) (v := (.map (some m51))) (gd := none) (by kernel_rfl) rfl rfl rfl (h.mono (fun _ Bc h2 => ?_)); replace h := h2; clear h2
             refine Seq.done ?_
             refine At.s K31 K32 ?_
             refine At.rg 9 [0] ?_
             refine Seq.o ?_
             refine AL.OK (T := 23) (d := (some 14)) (ty := 0)  (gd := none) (cs := #[(.slice none 0 0)]) (by kernel_rfl) rfl rfl zeroValue23 rfl (fun BL hn => ?_)
             replace h := h BL hn
             refine Seq.done ?_
             refine At.s K33 K77 (At.s K34 K35 ?_)
             refine At.rg 10 [0,1,2,3] ?_
             refine Seq.us [(52,.int .i64 x2),(53,.int .i64 x3),(54,.int .i64 x4)] ?_
             refine Seq.o ?_
             refine AL.cl (some 55) call48 (h.cont fun v_5 NG h2 => ?_); replace h := h2; clear h2
             obtain ⟨f55,a55,c55,rfl,h⟩ := h
             refine Seq.done ?_
             refine At.b 0 K36 ?_
             obtain ⟨gf,lb,hgv,OJ,h⟩ := h
             refine At.range (gop := (.tmp 55)) (ps := #[56]) (assign := K37) (body := K38) (gf := gf) (lb := lb) (by kernel_rfl) rfl rfl hgv OJ (fun bF Zw P0 hDl hD hl hrf bG hra hrb hrs hre => ?_)
             refine (h bF Zw P0 hDl hD hl (fun R2 σ2 sU zQ hp => H6.dT (n := 117) zQ bG hrs (by decide) hre (fn := f35) (by rw [hrf]; exact func35) ?_)).mono (fun en Jt h => ?_)
             · rw [hrf,hra,hrb]
               exact At.v [(5,(.pointer (some ⟨b5,0,none⟩))),(6,(.pointer (some ⟨b6,0,none⟩))),(10,(.pointer (some ⟨Cb,0,none⟩))),(11,(.pointer (some ⟨BF,0,none⟩))),(13,(.pointer (some ⟨DC,0,none⟩))),(14,(.pointer (some ⟨BL,0,none⟩))),(56,(.int .i64 sU))] (hp _)
             obtain ⟨v,s,p,he,yc,hs,h⟩ := h
             refine ⟨v,s,p,he,yc,hs,?_⟩
             rcases h with h | h
             · obtain ⟨rfl,h⟩ := h
               show At (Gl.behind prog 35 117 bF R) [.inBlock 0,.code K77] _ _ _
               refine At.inBlock ?_
               refine At.s K78 K79 ?_
               refine At.rg 25 [0,1] ?_
               obtain ⟨sV,n114,sW,hl,h⟩ := h
               refine Seq.z 114 (.load 23 (.tmp 14)) 23 (.slice sV n114 sW) (Y.ld isAgg23 rfl hl) ?_
               refine Seq.o ?_
               refine AL.cl (some 115) call50 (h.cont fun v_6 Ud h2 => ?_); replace h := h2; clear h2
               obtain ⟨rfl,h⟩ := h
               refine Seq.done ?_
               refine At.L [(10,(.pointer (some ⟨Cb,0,none⟩))),(11,(.pointer (some ⟨BF,0,none⟩))),(14,(.pointer (some ⟨BL,0,none⟩)))] fun J => ?_
               refine At.s K80 K81 ?_
               refine At.rg 26 [0,1,2] ?_
               obtain ⟨k0,n116,k8,hl,h⟩ := h
               refine Seq.z 116 (.load 23 (.tmp 14)) 23 (.slice k0 n116 k8) (Y.ld isAgg23 rfl hl) ?_
               refine Seq.o ?_
               refine AL.store (T := 23) (ty := 0) (x := (.tmp 10)) (y := (.tmp 116)) (p := (.pointer (some ⟨Cb,0,none⟩))) (v := (.slice k0 n116 k8)) (gd := none) (by kernel_rfl) rfl rfl rfl (h.mono (fun _ vm h2 => ?_)); replace h := h2; clear h2
               refine Seq.o ?_
               refine AL.store (T := 24) (ty := 0) (x := (.tmp 11)) (y := (.const (.int .i64 0))) (p := (.pointer (some ⟨BF,0,none⟩))) (v := (.int .i64 0)) (gd := none) (by kernel_rfl) rfl rfl rfl (h.mono (fun _ RM h2 => ?_)); replace h := h2; clear h2
               refine Seq.done ?_
               obtain ⟨Ci,Cj,Ck,Cm,ji,OY,OZ,h⟩ := h
               exact At.VM (rs := [.cell 10 23,.cell 11 24]) (vs := [(.slice Ci Cj Ck),(.int .i64 Cm)]) (by kernel_rfl) func35 (by kernel_rfl) ⟨_,_,rfl,⟨_,rfl,By isAgg23 OY⟩,⟨_,_,rfl,⟨_,rfl,By isAgg24 OZ⟩,rfl⟩⟩ h rfl (kI ji)
             · obtain ⟨rfl,h⟩ := h
               show At (Gl.behind prog 35 117 bF R) [.code K82,.inBlock 0,.code K77] _ _ _
               obtain ⟨Vc,Vd,Ve,Vf,ji,zR,zS,h⟩ := h
               exact At.VM (rs := [.cell 10 23,.cell 11 24]) (vs := [(.slice Vc Vd Ve),(.int .i64 Vf)]) (by kernel_rfl) func35 (by kernel_rfl) ⟨_,_,rfl,⟨_,rfl,By isAgg23 zR⟩,⟨_,_,rfl,⟨_,rfl,By isAgg24 zS⟩,rfl⟩⟩ h rfl (kI ji)
theorem LY {R : Rr} {l b5 b6 Cb BF DC BL : Nat} {r0 : Loop} {vk : Int} {σ : Hp} (h : σ l = some (.loop (lp r0 .ready none)) ∧ ∃ vq : Option Addr,∃ rF : Nat,∃ c58 : Nat,Hp.ld (Hp.set σ l (.loop (lp r0 .busy none))) ⟨b5,0,none⟩ = some (.slice vq rF c58) ∧ ∃ vr : Option Addr,∃ n59 : Nat,∃ vt : Nat,Hp.ld (Hp.set σ l (.loop (lp r0 .busy none))) ⟨b6,0,none⟩ = some (.slice vr n59 vt) ∧ Spec prog 30 #[(.slice vq rF c58),(.slice vr n59 vt),(.int .i64 vk)] (Hp.set σ l (.loop (lp r0 .busy none))) (AA (NP R) (fun v σ1 => ∃ Xg : Option Addr,∃ RN : Nat,∃ Xh : Nat,∃ Oa : Int,v = (.tuple #[(.slice Xg RN Xh),(.int .i64 Oa)]) ∧ ((Oa : Int) ≠ 0 → AJ prog (Instr.storeAt 23 (.pointer (some ⟨Cb,0,none⟩)) (.slice none 0 0)) σ1 (fun _ GK => AJ prog (Instr.storeAt 24 (.pointer (some ⟨BF,0,none⟩)) (.int .i64 Oa)) GK (fun _ CK => CK l = some (.loop (lp r0 .busy none)) ∧ R (.returned (.bool false)) (Hp.set CK l (.loop (lp r0 .done (some .ret))))))) ∧ (¬ ((Oa : Int) ≠ 0) → Py R l r0 DC BL vk Xg RN Xh ((RN : Int)) 0 σ1)))) : Js R l r0 b5 b6 Cb BF DC BL vk σ := by
 intro J
 show At (Gl.round prog 35 117 l R) _ _ _ _
 refine At.rg 11 [0] ?_
 refine Seq.u 15 (.int .i64 vk) (Seq.done ?_)
 obtain ⟨dR,h⟩ := h
 refine At.beginRound rfl dR ?_
 refine At.b 1 K39 ?_
 refine At.s K40 K41 ?_
 refine At.rg 12 [0,1,2,3,4,5,6,7,8] ?_
 obtain ⟨vq,rF,c58,hl,h⟩ := h
 refine Seq.z 58 (.load 22 (.tmp 5)) 22 (.slice vq rF c58) (Y.ld isAgg22 rfl hl) ?_
 obtain ⟨vr,n59,vt,hl,h⟩ := h
 refine Seq.z 59 (.load 23 (.tmp 6)) 23 (.slice vr n59 vt) (Y.ld isAgg23 rfl hl) ?_
 refine Seq.u 60 (.int .i64 vk) ?_
 refine Seq.o ?_
 refine AL.cl (some 61) call30 (h.cont fun v σ1 h2 => ?_); replace h := h2; clear h2
 obtain ⟨Xg,RN,Xh,Oa,rfl,h⟩ := h
 refine Seq.us [(57,.tuple #[(.slice Xg RN Xh),(.int .i64 Oa)]),(62,.slice Xg RN Xh),(63,.int .i64 Oa),(16,.slice Xg RN Xh),(17,.int .i64 Oa)] (Seq.done ?_)
 refine At.s K42 K49 (At.s K43 K44 ?_)
 refine At.rg 13 [0,1] ?_
 refine Seq.us [(64,.int .i64 Oa),(65,.bool (decide ((Oa : Int) ≠ 0)))] (Seq.done ?_)
 cases hb : (decide ((Oa : Int) ≠ 0)) with
 | true =>
  replace h := h.1 (of_decide_eq_true hb)
  refine At.cT 65 K45 K48 ?_
  refine At.s K46 K47 ?_
  refine At.rg 14 [0,1,2] ?_
  refine Seq.u 66 (.int .i64 Oa) ?_
  refine Seq.o ?_
  refine AL.store (T := 23) (ty := 0) (x := (.tmp 10)) (y := (.const (.slice none 0 0))) (p := (.pointer (some ⟨Cb,0,none⟩))) (v := (.slice none 0 0)) (gd := none) (by kernel_rfl) rfl rfl rfl (h.mono (fun _ GK h2 => ?_)); replace h := h2; clear h2
  refine Seq.o ?_
  refine AL.store (T := 24) (ty := 0) (x := (.tmp 11)) (y := (.tmp 66)) (p := (.pointer (some ⟨BF,0,none⟩))) (v := (.int .i64 Oa)) (gd := none) (by kernel_rfl) rfl rfl rfl (h.mono (fun _ CK h2 => ?_)); replace h := h2; clear h2
  refine Seq.done ?_
  exact At.j4 (by kernel_rfl) rfl h.1 h.2
 | false =>
  replace h := h.2 (of_decide_eq_false hb)
  refine At.cF 65 K45 K48 ?_
  refine At.skip ?_
  refine At.s K50 K51 ?_
  refine At.rg 15 [0,1,2] ?_
  refine Seq.u 67 (.slice Xg RN Xh) ?_
  refine Seq.z 68 (.call { callee := .builtin .len,args := #[(.tmp 67)],argTypes := #[67] }) 3 (.int .i64 (RN : Int)) (Y.yL underlying67 rfl rfl) ?_
  refine Seq.u 69 (.int .i64 0) (Seq.done ?_)
  refine At.b 2 K52 ?_
  refine At.loop (x := K53) (by kernel_rfl) ?_
  refine At.s K54 K55 ?_
  exact At.v [(13,(.pointer (some ⟨DC,0,none⟩))),(14,(.pointer (some ⟨BL,0,none⟩))),(15,(.int .i64 vk)),(67,(.slice Xg RN Xh)),(68,(.int .i64 (RN : Int))),(69,(.int .i64 0))] (h _)
theorem QY {R : Rr} {l DC BL Xf Zv : Nat} {r0 : Loop} {x15 NF Pz : Int} {jl : Option Addr} {σ : Hp} (h : ((Pz : Int) < NF → ∃ (Vg k9 : Nat),jl = some ⟨Vg,k9,none⟩ ∧ ((0 : Int) ≤ Pz ∧ Pz < (Xf : Int)) ∧ ∃ lA : Option Addr,∃ lB : Nat,∃ lD : Nat,∃ Ju : Int,Au σ Vg (k9 + Int.toNat Pz * 2) [(.slice lA lB lD),(.int .u64 Ju)] ∧ ∀ CR : Nat,σ CR = none → AJ prog (Instr.storeAt 71 (.pointer (some ⟨CR,0,none⟩)) (.agg #[(.slice lA lB lD),(.int .u64 Ju)])) (Hp.set σ CR (.cells #[(.slice none 0 0),(.int .u64 0)] 71 (0,0))) (fun _ σ1 => ∃ bH : Option Nat,Hp.ld σ1 ⟨DC,0,none⟩ = some (.map bH) ∧ ∃ zT : Option Addr,∃ zU : Nat,∃ zV : Nat,Hp.ld σ1 ⟨CR,0,none⟩ = some (.slice zT zU zV) ∧ Spec prog 49 #[(.slice zT zU zV)] σ1 (AA (NP R) (fun v GK => ∃ s77 : ByteArray,v = (.string s77) ∧ Kp [DC] σ1 GK ∧ AJ prog (Instr.lookup 99 (.map bH) (.string s77) true) GK (fun v_2 CK => ∃ bI : Int,∃ Tp : Bool,v_2 = (.tuple #[(.int .i64 bI),(.bool Tp)]) ∧ (Tp = false → ∃ sY : Option Addr,∃ Xi : Nat,∃ sZ : Nat,Hp.ld CK ⟨BL,0,none⟩ = some (.slice sY Xi sZ) ∧ ∃ m85 : Option Nat,Hp.ld CK ⟨DC,0,none⟩ = some (.map m85) ∧ ∃ p87 : Option Addr,∃ n87 : Nat,∃ c87 : Nat,Hp.ld CK ⟨CR,0,none⟩ = some (.slice p87 n87 c87) ∧ Spec prog 49 #[(.slice p87 n87 c87)] CK (AA (NP R) (fun v_3 Cn => ∃ s88 : ByteArray,v_3 = (.string s88) ∧ Kp [DC] CK Cn ∧ AJ prog (Instr.mapUpdate 99 (.map m85) (.string s88) (.int .i64 (Xi : Int))) Cn (fun _ Bc => ∃ p90 : Option Addr,∃ n90 : Nat,∃ c90 : Nat,Hp.ld Bc ⟨BL,0,none⟩ = some (.slice p90 n90 c90) ∧ ∃ p93 : Option Addr,∃ n93 : Nat,∃ c93 : Nat,Hp.ld Bc ⟨CR,0,none⟩ = some (.slice p93 n93 c93) ∧ ∀ jm : Nat,Bc jm = none → AJ prog (Builtin.append_ #[37,37] 37 #[(.slice (some ⟨jm,0,none⟩) 0 0),(.slice p93 n93 c93)]) (Hp.set Bc jm (.cells #[] 56 (0,0))) (fun v_4 NG => ∃ sa : Option Addr,∃ sb : Nat,∃ sd : Nat,v_4 = (.slice sa sb sd) ∧ Kp [BL] (Hp.set Bc jm (.cells #[] 56 (0,0))) NG ∧ ∀ se : Nat,NG se = none → AJ prog (Builtin.append_ #[23,23] 23 #[(.slice p90 n90 c90),(.slice (some ⟨se,0,none⟩) 1 1)]) (Hp.set NG se (.cells #[(.slice sa sb sd),(.slice none 0 0)] 40 (0,0))) (fun v_5 Jt => ∃ p97 : Option Addr,∃ n97 : Nat,∃ c97 : Nat,v_5 = (.slice p97 n97 c97) ∧ AJ prog (Instr.storeAt 23 (.pointer (some ⟨BL,0,none⟩)) (.slice p97 n97 c97)) Jt (fun _ Ud => sT R l r0 DC BL x15 CR ((Xi : Int)) ((some ⟨Vg,k9,none⟩)) Xf Zv NF Pz Ud))))))) ∧ (Tp = true → sT R l r0 DC BL x15 CR bI ((some ⟨Vg,k9,none⟩)) Xf Zv NF Pz CK)))))) ∧ (¬ ((Pz : Int) < NF) → σ l = some (.loop (lp r0 .busy none)) ∧ R (.returned (.bool true)) (Hp.set σ l (.loop (lp r0 .ready none))))) : Py R l r0 DC BL x15 jl Xf Zv NF Pz σ := by
 intro J
 show At (Gl.round prog 35 117 l R) _ _ _ _
 refine At.rg 16 [0] ?_
 refine Seq.u 70 (.bool (decide ((Pz : Int) < NF))) (Seq.done ?_)
 refine At.s K56 K59 ?_
 cases hb : (decide ((Pz : Int) < NF)) with
 | true =>
  replace h := h.1 (of_decide_eq_true hb)
  refine At.cT 70 K57 K58 ?_
  refine At.skip ?_
  refine At.s K60 K76 ?_
  refine At.b 3 K61 ?_
  refine At.s K62 K63 ?_
  refine At.rg 17 [0,1,2,3] ?_
  obtain ⟨Vg,k9,hq,h⟩ := h
  subst hq
  obtain ⟨hi,h⟩ := h
  refine Seq.z 71 (.indexAddr 67 (.tmp 67) (.tmp 69)) 0 (.pointer (some ⟨Vg,(k9 + Int.toNat Pz * 2),none⟩)) (Y.idx underlying67 sizeOf71 rfl rfl hi rfl) ?_
  obtain ⟨lA,lB,lD,Ju,hl,h⟩ := h
  refine Seq.z 72 (.load 71 (.tmp 71)) 71 (.agg #[(.slice lA lB lD),(.int .u64 Ju)]) (Y.lda isAgg71 sizeOf71 rfl rfl hl) ?_
  refine Seq.o ?_
  refine AL.OK (T := 71) (d := (some 19)) (ty := 0)  (gd := none) (cs := #[(.slice none 0 0),(.int .u64 0)]) (by kernel_rfl) rfl rfl zeroValue71 rfl (fun CR hn => ?_)
  replace h := h CR hn
  refine Seq.o ?_
  refine AL.store (T := 71) (ty := 0) (x := (.tmp 19)) (y := (.tmp 72)) (p := (.pointer (some ⟨CR,0,none⟩))) (v := (.agg #[(.slice lA lB lD),(.int .u64 Ju)])) (gd := none) (by kernel_rfl) rfl rfl rfl (h.mono (fun _ σ1 h2 => ?_)); replace h := h2; clear h2
  refine Seq.done ?_
  refine At.s K64 K65 ?_
  refine At.draw (id := 18) (ops := cO K64) (n := 10) (q := (some [])) (plan := [(0,true),(1,true),(2,true),(3,false),(4,false),(5,true),(6,true),(7,true),(8,true),(9,true)]) (tl := []) mixed (by kernel_rfl) (by kernel_rfl) ?_
  obtain ⟨bH,hl,h⟩ := h
  refine Head.yl DC [[4]] rfl (by kernel_rfl) (d := (some 74)) (op := (.load 99 (.tmp 13))) (ty := 99) (v := (.map bH)) (by kernel_rfl) rfl (Y.ld isAgg99 rfl (Hf hl)) ?_
  refine Head.z 75 (.fieldAddr 71 (.tmp 19) 0) 0 (.pointer (some ⟨CR,0,none⟩)) (Y.fieldAddr (fd := (LN prog 71 0)) underlying71 (by kernel_rfl) sizeOf37 rfl rfl) ?_
  obtain ⟨zT,zU,zV,hl,h⟩ := h
  refine Head.yl CR [[3],[4,3]] rfl (by kernel_rfl) (d := (some 76)) (op := (.load 37 (.tmp 75))) (ty := 37) (v := (.slice zT zU zV)) (by kernel_rfl) rfl (Y.ld isAgg37 rfl (Hf hl)) ?_
  refine Head.o (q' := (some [(DC,[4])])) rfl ?_
  refine AL.cl (some 77) call49 (h.cont fun v GK h2 => ?_); replace h := h2; clear h2
  obtain ⟨s77,rfl,hk,h⟩ := h
  refine ⟨⟨fun _ h => h,W4 (L := [(DC,[4])]) hk⟩,?_⟩
  refine Head.o (q' := (some [])) rfl ?_
  refine AL.Qr (d := (some 78)) (op := (.lookup 99 (.tmp 74) (.tmp 77) true)) (ty := 102) (gd := none) (by kernel_rfl) rfl rfl (Instr.lookup 99 (.map bH) (.string s77) true) (fun o ho ht => by simp only [execOp,ho]; rfl) (h.mono (fun v_2 CK h2 => ?_)); replace h := h2; clear h2
  obtain ⟨bI,Tp,rfl,h⟩ := h
  refine ⟨⟨fun _ h => h,W4 (L := []) Kp.nil⟩,?_⟩
  refine Head.u 73 (.tuple #[(.int .i64 bI),(.bool Tp)]) ?_
  refine Head.u 79 (.int .i64 bI) ?_
  refine Head.u 80 (.bool Tp) ?_
  refine Head.u 20 (.int .i64 bI) ?_
  refine Head.u 21 (.bool Tp) ?_
  refine Head.done ?_
  refine Seq.done ?_
  refine At.s K66 K75 (At.s K67 K68 ?_)
  refine At.rg 19 [0,1] ?_
  refine Seq.us [(81,.bool Tp),(82,.bool (!Tp))] (Seq.done ?_)
  cases hb : (!Tp) with
  | true =>
   replace h := h.1 (Tw.nt hb)
   refine At.cT 82 K69 K74 ?_
   refine At.s K70 K71 ?_
   refine At.rg 20 [0,1,2] ?_
   obtain ⟨sY,Xi,sZ,hl,h⟩ := h
   refine Seq.z 83 (.load 23 (.tmp 14)) 23 (.slice sY Xi sZ) (Y.ld isAgg23 rfl hl) ?_
   refine Seq.z 84 (.call { callee := .builtin .len,args := #[(.tmp 83)],argTypes := #[23] }) 3 (.int .i64 (Xi : Int)) (Y.yL underlying23 rfl rfl) ?_
   refine Seq.u 20 (.int .i64 (Xi : Int)) (Seq.done ?_)
   refine At.s K72 K73 ?_
   refine At.draw (id := 21) (ops := cO K72) (n := 5) (q := (some [])) (plan := [(0,true),(1,true),(2,true),(4,true),(3,false)]) (tl := [5]) mixed (by kernel_rfl) (by kernel_rfl) ?_
   obtain ⟨m85,hl,h⟩ := h
   refine Head.yl DC [] rfl (by kernel_rfl) (d := (some 85)) (op := (.load 99 (.tmp 13))) (ty := 99) (v := (.map m85)) (by kernel_rfl) rfl (Y.ld isAgg99 rfl (Hf hl)) ?_
   refine Head.z 86 (.fieldAddr 71 (.tmp 19) 0) 0 (.pointer (some ⟨CR,0,none⟩)) (Y.fieldAddr (fd := (LN prog 71 0)) underlying71 (by kernel_rfl) sizeOf37 rfl rfl) ?_
   obtain ⟨p87,n87,c87,hl,h⟩ := h
   refine Head.yl CR [[3]] rfl (by kernel_rfl) (d := (some 87)) (op := (.load 37 (.tmp 86))) (ty := 37) (v := (.slice p87 n87 c87)) (by kernel_rfl) rfl (Y.ld isAgg37 rfl (Hf hl)) ?_
   refine Head.u 89 (.int .i64 (Xi : Int)) ?_
   refine Head.o (q' := (some [(DC,[])])) rfl ?_
   refine AL.cl (some 88) call49 (h.cont fun v_3 Cn h2 => ?_); replace h := h2; clear h2
   obtain ⟨s88,rfl,hk,h⟩ := h
   refine ⟨⟨fun _ h => h,W4 (L := [(DC,[])]) hk⟩,?_⟩
   refine Head.done ?_
   refine Seq.o ?_
   refine AL.ru (d := none) (op := (.mapUpdate 99 (.tmp 85) (.tmp 88) (.tmp 89))) (ty := 0) (gd := none) (by kernel_rfl) rfl rfl (Instr.mapUpdate 99 (.map m85) (.string s88) (.int .i64 (Xi : Int))) (fun o ho ht => by simp only [execOp,ho]; rfl) (h.mono (fun _ Bc h2 => ?_)); replace h := h2; clear h2
   refine Seq.done ?_
   refine At.draw (id := 22) (ops := cO K73) (n := 7) (q := (some [])) (plan := [(0,true),(2,true),(3,true),(1,false),(4,false),(5,true),(6,false)]) (tl := [7,8]) mixed (by kernel_rfl) (by kernel_rfl) ?_
   obtain ⟨p90,n90,c90,hl,h⟩ := h
   refine Head.yl BL [] rfl (by kernel_rfl) (d := (some 90)) (op := (.load 23 (.tmp 14))) (ty := 23) (v := (.slice p90 n90 c90)) (by kernel_rfl) rfl (Y.ld isAgg23 rfl (Hf hl)) ?_
   refine Head.z 92 (.fieldAddr 71 (.tmp 19) 0) 0 (.pointer (some ⟨CR,0,none⟩)) (Y.fieldAddr (fd := (LN prog 71 0)) underlying71 (by kernel_rfl) sizeOf37 rfl rfl) ?_
   obtain ⟨p93,n93,c93,hl,h⟩ := h
   refine Head.yl CR [[4],[6,5,4]] rfl (by kernel_rfl) (d := (some 93)) (op := (.load 37 (.tmp 92))) (ty := 37) (v := (.slice p93 n93 c93)) (by kernel_rfl) rfl (Y.ld isAgg37 rfl (Hf hl)) ?_
   refine Head.o (q' := (some [(CR,[4,6]),(BL,[])])) rfl ?_
   refine AL.Ii (T := 37) (E := 56) (m := 0) (ps := #[]) (d := (some 91)) (ty := 37) (gd := none) (vs := []) (cs := #[]) underlying37 (by kernel_rfl) rfl rfl rfl (by kernel_rfl) (fun jm hn => ?_)
   refine ⟨⟨fun _ h => h,W4 (Kp.FE (Ext.set hn))⟩,?_⟩
   replace h := h jm hn
   refine Head.o (q' := (some [(BL,[])])) rfl ?_
   refine AL.Qr (d := (some 94)) (op := (.call { callee := .builtin .append,args := #[(.tmp 91),(.tmp 93)],argTypes := #[37,37] })) (ty := 37) (gd := none) (by kernel_rfl) rfl rfl (Builtin.append_ #[37,37] 37 #[(.slice (some ⟨jm,0,none⟩) 0 0),(.slice p93 n93 c93)]) (fun o ho ht => FW rfl rfl o ho ht) (h.mono (fun v_4 NG h2 => ?_)); replace h := h2; clear h2
   obtain ⟨sa,sb,sd,rfl,hk,h⟩ := h
   refine ⟨⟨fun _ h => h,W4 (L := [(BL,[])]) hk⟩,?_⟩
   refine Head.z 95 (.build 40 #[(0,(.tmp 94))]) 40 (.agg #[(.slice sa sb sd),(.slice none 0 0)]) (Y.build (vs := [(0,(.slice sa sb sd))]) rfl (by kernel_rfl)) ?_
   refine Head.o (q' := (some [(BL,[])])) rfl ?_
   refine AL.Ii (T := 23) (E := 40) (m := 1) (ps := #[(0,(.tmp 95))]) (d := (some 96)) (ty := 23) (gd := none) (vs := [(0,(.agg #[(.slice sa sb sd),(.slice none 0 0)]))]) (cs := #[(.slice sa sb sd),(.slice none 0 0)]) underlying23 (by kernel_rfl) rfl rfl rfl (by kernel_rfl) (fun se hn => ?_)
   refine ⟨⟨fun _ h => h,W4 (Kp.FE (Ext.set hn))⟩,?_⟩
   replace h := h se hn
   refine Head.done ?_
   refine Seq.o ?_
   refine AL.Qr (d := (some 97)) (op := (.call { callee := .builtin .append,args := #[(.tmp 90),(.tmp 96)],argTypes := #[23,23] })) (ty := 23) (gd := none) (by kernel_rfl) rfl rfl (Builtin.append_ #[23,23] 23 #[(.slice p90 n90 c90),(.slice (some ⟨se,0,none⟩) 1 1)]) (fun o ho ht => FW rfl rfl o ho ht) (h.mono (fun v_5 Jt h2 => ?_)); replace h := h2; clear h2
   obtain ⟨p97,n97,c97,rfl,h⟩ := h
   refine Seq.o ?_
   refine AL.store (T := 23) (ty := 0) (x := (.tmp 14)) (y := (.tmp 97)) (p := (.pointer (some ⟨BL,0,none⟩))) (v := (.slice p97 n97 c97)) (gd := none) (by kernel_rfl) rfl rfl rfl (h.mono (fun _ Ud h2 => ?_)); replace h := h2; clear h2
   refine Seq.done ?_
   refine At.L [(13,(.pointer (some ⟨DC,0,none⟩))),(14,(.pointer (some ⟨BL,0,none⟩))),(15,(.int .i64 x15)),(19,(.pointer (some ⟨CR,0,none⟩))),(20,(.int .i64 (Xi : Int))),(67,(.slice (some ⟨Vg,k9,none⟩) Xf Zv)),(68,(.int .i64 NF)),(69,(.int .i64 Pz))] fun J => ?_
   exact At.v [(13,(.pointer (some ⟨DC,0,none⟩))),(14,(.pointer (some ⟨BL,0,none⟩))),(15,(.int .i64 x15)),(19,(.pointer (some ⟨CR,0,none⟩))),(20,(.int .i64 (Xi : Int))),(67,(.slice (some ⟨Vg,k9,none⟩) Xf Zv)),(68,(.int .i64 NF)),(69,(.int .i64 Pz))] (h _)
  | false =>
   replace h := h.2 (Tw.nf hb)
   refine At.cF 82 K69 K74 ?_
   refine At.skip ?_
   exact At.v [(13,(.pointer (some ⟨DC,0,none⟩))),(14,(.pointer (some ⟨BL,0,none⟩))),(15,(.int .i64 x15)),(19,(.pointer (some ⟨CR,0,none⟩))),(20,(.int .i64 bI)),(67,(.slice (some ⟨Vg,k9,none⟩) Xf Zv)),(68,(.int .i64 NF)),(69,(.int .i64 Pz))] (h _)
 | false =>
  replace h := h.2 (of_decide_eq_false hb)
  refine At.cF 70 K57 K58 ?_
  refine At.x 2 [.inBlock 1] ?_
  refine At.inBlock ?_
  exact At.j3 rfl h.1 h.2
theorem sf {R : Rr} {l DC BL CR Xf Zv : Nat} {r0 : Loop} {x15 Hj NF Pz : Int} {jl : Option Addr} {σ : Hp} (h : ∃ p98 : Option Addr,∃ n98 : Nat,∃ c98 : Nat,Hp.ld σ ⟨BL,0,none⟩ = some (.slice p98 n98 c98) ∧ ∃ si : Option Addr,∃ n100 : Nat,∃ zW : Nat,Hp.ld σ ⟨BL,0,none⟩ = some (.slice si n100 zW) ∧ ∃ (bJ lE : Nat),si = some ⟨bJ,lE,none⟩ ∧ ((0 : Int) ≤ Hj ∧ Hj < (n100 : Int)) ∧ ∃ lF : Option Addr,∃ n104 : Nat,∃ lG : Nat,Hp.ld σ ⟨bJ,((lE + Int.toNat Hj * 2) + 1),none⟩ = some (.slice lF n104 lG) ∧ ∃ Vh : Int,Hp.ld σ ⟨CR,1,none⟩ = some (.int .u64 Vh) ∧ ∀ Ob : Nat,σ Ob = none → AJ prog (Builtin.append_ #[38,38] 38 #[(.slice lF n104 lG),(.slice (some ⟨Ob,0,none⟩) 1 1)]) (Hp.set σ Ob (.cells #[(.int .i64 x15),(.int .u64 Vh)] 50 (0,0))) (fun v σ1 => ∃ sj : Option Addr,∃ n110 : Nat,∃ sk : Nat,v = (.slice sj n110 sk) ∧ Kp [BL] (Hp.set σ Ob (.cells #[(.int .i64 x15),(.int .u64 Vh)] 50 (0,0))) σ1 ∧ ∃ (gX gY : Nat),p98 = some ⟨gX,gY,none⟩ ∧ ((0 : Int) ≤ Hj ∧ Hj < (n98 : Int)) ∧ AJ prog (Instr.storeAt 38 (.pointer (some ⟨gX,((gY + Int.toNat Hj * 2) + 1),none⟩)) (.slice sj n110 sk)) σ1 (fun _ GK => AN (Pz + 1) ∧ Py R l r0 DC BL x15 jl Xf Zv NF ((Pz + 1)) GK))) : sT R l r0 DC BL x15 CR Hj jl Xf Zv NF Pz σ := by
 intro J
 show At (Gl.round prog 35 117 l R) _ _ _ _
 refine At.draw (id := 23) (ops := cO K75) (n := 15) (q := (some [])) (plan := [(0,true),(1,true),(2,true),(3,true),(4,true),(5,true),(6,true),(7,true),(8,true),(9,true),(10,true),(11,false),(12,false),(13,true),(14,true)]) (tl := [15]) mixed (by kernel_rfl) (by kernel_rfl) ?_
 obtain ⟨p98,n98,c98,hl,h⟩ := h
 refine Head.yl BL [] rfl (by kernel_rfl) (d := (some 98)) (op := (.load 23 (.tmp 14))) (ty := 23) (v := (.slice p98 n98 c98)) (by kernel_rfl) rfl (Y.ld isAgg23 rfl (Hf hl)) ?_
 refine Head.u 99 (.int .i64 Hj) ?_
 obtain ⟨si,n100,zW,hl,h⟩ := h
 refine Head.yl BL [[12,6,5,4]] rfl (by kernel_rfl) (d := (some 100)) (op := (.load 23 (.tmp 14))) (ty := 23) (v := (.slice si n100 zW)) (by kernel_rfl) rfl (Y.ld isAgg23 rfl (Hf hl)) ?_
 refine Head.u 101 (.int .i64 Hj) ?_
 obtain ⟨bJ,lE,hq,h⟩ := h
 subst hq
 obtain ⟨hi,h⟩ := h
 refine Head.z 102 (.indexAddr 23 (.tmp 100) (.tmp 101)) 0 (.pointer (some ⟨bJ,(lE + Int.toNat Hj * 2),none⟩)) (Y.idx underlying23 sizeOf40 rfl rfl hi rfl) ?_
 refine Head.z 103 (.fieldAddr 40 (.tmp 102) 1) 0 (.pointer (some ⟨bJ,((lE + Int.toNat Hj * 2) + 1),none⟩)) (Y.fieldAddr (fd := (LN prog 40 1)) underlying40 (by kernel_rfl) sizeOf38 rfl rfl) ?_
 obtain ⟨lF,n104,lG,hl,h⟩ := h
 refine Head.yl bJ [[12]] rfl (by kernel_rfl) (d := (some 104)) (op := (.load 38 (.tmp 103))) (ty := 38) (v := (.slice lF n104 lG)) (by kernel_rfl) rfl (Y.ld isAgg38 rfl (Hf hl)) ?_
 refine Head.u 105 (.int .i64 x15) ?_
 refine Head.z 106 (.fieldAddr 71 (.tmp 19) 1) 0 (.pointer (some ⟨CR,1,none⟩)) (Y.fieldAddr (fd := (LN prog 71 1)) underlying71 (by kernel_rfl) sizeOf48 rfl rfl) ?_
 obtain ⟨Vh,hl,h⟩ := h
 refine Head.yl CR [[11,10],[12,11,10]] rfl (by kernel_rfl) (d := (some 107)) (op := (.load 48 (.tmp 106))) (ty := 48) (v := (.int .u64 Vh)) (by kernel_rfl) rfl (Y.ld isAgg48 rfl (Hf hl)) ?_
 refine Head.z 108 (.build 50 #[(0,(.tmp 105)),(1,(.tmp 107))]) 50 (.agg #[(.int .i64 x15),(.int .u64 Vh)]) (Y.build (vs := [(0,(.int .i64 x15)),(1,(.int .u64 Vh))]) rfl (by kernel_rfl)) ?_
 refine Head.o (q' := (some [(bJ,[12]),(BL,[12]),(BL,[])])) rfl ?_
 refine AL.Ii (T := 38) (E := 50) (m := 1) (ps := #[(0,(.tmp 108))]) (d := (some 109)) (ty := 38) (gd := none) (vs := [(0,(.agg #[(.int .i64 x15),(.int .u64 Vh)]))]) (cs := #[(.int .i64 x15),(.int .u64 Vh)]) underlying38 (by kernel_rfl) rfl rfl rfl (by kernel_rfl) (fun Ob hn => ?_)
 refine ⟨⟨fun _ h => h,W4 (Kp.FE (Ext.set hn))⟩,?_⟩
 replace h := h Ob hn
 refine Head.o (q' := (some [(BL,[])])) rfl ?_
 refine AL.Qr (d := (some 110)) (op := (.call { callee := .builtin .append,args := #[(.tmp 104),(.tmp 109)],argTypes := #[38,38] })) (ty := 38) (gd := none) (by kernel_rfl) rfl rfl (Builtin.append_ #[38,38] 38 #[(.slice lF n104 lG),(.slice (some ⟨Ob,0,none⟩) 1 1)]) (fun o ho ht => FW rfl rfl o ho ht) (h.mono (fun v σ1 h2 => ?_)); replace h := h2; clear h2
 obtain ⟨sj,n110,sk,rfl,hk,h⟩ := h
 refine ⟨⟨fun _ h => h,W4 (L := [(BL,[])]) hk⟩,?_⟩
 obtain ⟨gX,gY,hq,h⟩ := h
 subst hq
 obtain ⟨hi,h⟩ := h
 refine Head.z 111 (.indexAddr 23 (.tmp 98) (.tmp 99)) 0 (.pointer (some ⟨gX,(gY + Int.toNat Hj * 2),none⟩)) (Y.idx underlying23 sizeOf40 rfl rfl hi rfl) ?_
 refine Head.z 112 (.fieldAddr 40 (.tmp 111) 1) 0 (.pointer (some ⟨gX,((gY + Int.toNat Hj * 2) + 1),none⟩)) (Y.fieldAddr (fd := (LN prog 40 1)) underlying40 (by kernel_rfl) sizeOf38 rfl rfl) ?_
 refine Head.done ?_
 refine Seq.o ?_
 refine AL.store (T := 38) (ty := 0) (x := (.tmp 112)) (y := (.tmp 110)) (p := (.pointer (some ⟨gX,((gY + Int.toNat Hj * 2) + 1),none⟩))) (v := (.slice sj n110 sk)) (gd := none) (by kernel_rfl) rfl rfl rfl (h.mono (fun _ GK h2 => ?_)); replace h := h2; clear h2
 refine Seq.done ?_
 refine At.inBlock ?_
 refine At.rg 24 [0,1] ?_
 obtain ⟨hi,h⟩ := h
 refine Seq.z 113 (.binOp .add 3 (.tmp 69) (.const (.int .i64 1)) 3) 3 (.int .i64 (Pz + 1)) (Y.AKQ hi rfl rfl) ?_
 refine Seq.u 69 (.int .i64 (Pz + 1)) (Seq.done ?_)
 refine At.inLoop ?_
 refine At.s K54 K55 ?_
 exact At.v [(13,(.pointer (some ⟨DC,0,none⟩))),(14,(.pointer (some ⟨BL,0,none⟩))),(15,(.int .i64 x15)),(67,(.slice jl Xf Zv)),(68,(.int .i64 NF)),(69,(.int .i64 (Pz + 1)))] (h _)
end Bs
namespace Fe
variable {p0 q5 La : Option Addr} {n0 c0 n11 Lc : Nat} {x12 E8 : Int}
def M : Fw := ⟨prog,37,f37,[53],[7],false,[],[],[(232,[(0,wL),(5,wQ),(11,wL),(12,wI),(13,wI)])]⟩
theorem ok : M.Ok := ⟨.cons call53 (AG.nil),mixed,func37,by kernel_rfl⟩
def A8 := M.pt 0
theorem start (h : Al σ fun Cb => A8 R p0 n0 c0 (aD Cb 0) p0 n0 c0 (n0 : Int) 0 (Hp.set σ Cb (.cells #[.slice none 0 0] 110 (0,0)))) : Spec prog 37 #[.slice p0 n0 c0] σ R := M.start h ok
theorem Aa (h : Br (E8 < x12) (Pq La fun ME Vi => In E8 (n11 : Int) ∧ ∃ RO Xj lH gZ ga gb AEH AEI AEJ AEK AEL AEM AEN AEO,Au σ ME (Vi + Int.toNat E8 * 10) [.int .i64 RO,.int .i64 Xj,.string lH,.slice gZ ga gb,.int .i64 AEH,.int .i64 AEI,.int .i64 AEJ,.slice AEK AEL AEM,.bool AEN,.int .i64 AEO] ∧ ∀ b7 : Nat,Spec prog 53 #[.pointer q5,.agg #[.int .i64 RO,.int .i64 Xj,.string lH,.slice gZ ga gb,.int .i64 AEH,.int .i64 AEI,.int .i64 AEJ,.slice AEK AEL AEM,.bool AEN,.int .i64 AEO]] σ (AA R (CI .i64 fun Hj y => Br (Hj ≠ 0) (R (.returned (.tuple #[.int .i64 0,.int .i64 E8,.int .i64 Hj])) y) (AN (E8 + 1) ∧ A8 R p0 n0 c0 q5 (aD ME Vi) n11 Lc x12 (E8 + 1) y)))) (Pq q5 fun Xk sn => LS σ Xk sn fun p29 n29 c29 => Br ((n29 : Int) ≠ 1) (R (.returned (.tuple #[.int .i64 0,(.int .i64 (n0 : Int)),.int .i64 190])) σ) (Br (4096 < (n0 : Int)) (R (.returned (.tuple #[.int .i64 0,(.int .i64 (n0 : Int)),.int .i64 190])) σ) (LS σ Xk sn fun p42 n42 c42 => Pq p42 fun eE o43 => In 0 (n42 : Int) ∧ LI .i64 σ eE o43 fun x45 => R (.returned (.tuple #[.int .i64 x45,.int .i64 0,.int .i64 0])) σ)))) : A8 R p0 n0 c0 q5 La n11 Lc x12 E8 σ := M.of h ok rfl
end Fe
namespace CU
variable {p0 p1 : Option Addr} {n0 c0 n1 c1 : Nat} {x5 : Int}
def M : Fw := ⟨prog,41,f41,[],[],false,[(6,9,true)],[],[(464,[(0,wL),(1,wL),(5,wI)])]⟩
theorem ok : M.Ok := ⟨AG.nil,mixed,func41,by kernel_rfl⟩
def E1 := M.pt 0
theorem start (h : Br ((n0 : Int) ≠ (n1 : Int)) (R (.returned (.bool false)) σ) (E1 R p0 n0 c0 p1 n1 c1 0 σ)) : Spec prog 41 #[.slice p0 n0 c0,.slice p1 n1 c1] σ R := M.start h ok
theorem EW (h : Br (x5 < (n0 : Int)) (Pq p0 fun CR Wm => In x5 (n0 : Int) ∧ ∃ zX zY,Au σ CR (Wm + Int.toNat x5 * 2) [.string zX,.string zY] ∧ Pq p1 fun OB eF => In x5 (n1 : Int) ∧ ∃ zZ za,Au σ OB (eF + Int.toNat x5 * 2) [.string zZ,.string za] ∧ ∃ t25,YF prog ((do eqGuard .neq 56 (.tmp 20) (.tmp 24) (.agg #[.string zX,.string zY]) (.agg #[.string zZ,.string za]); binOp .neq 56 (.agg #[.string zX,.string zY]) (.agg #[.string zZ,.string za]))) σ (.bool t25) ∧ Bo t25 (R (.returned (.bool false)) σ) (AN (x5 + 1) ∧ E1 R (aD CR Wm) n0 c0 (aD OB eF) n1 c1 (x5 + 1) σ)) (R (.returned (.bool true)) σ)) : E1 R p0 n0 c0 p1 n1 c1 x5 σ := M.of h ok rfl
end CU
namespace EE
variable {p0 p8 : Option Addr} {n0 c0 n8 c8 : Nat} {x9 x10 : Int}
def M : Fw := ⟨prog,68,f68,[98,99],[4],false,[(10,14,true)],[],[(232,[(0,wL),(8,wL),(9,wI),(10,wI)])]⟩
theorem ok : M.Ok := ⟨.cons call98 (.cons call99 (AG.nil)),mixed,func68,by kernel_rfl⟩
def Lq := M.pt 0
theorem start (h : Br (16 < (n0 : Int)) (R (.returned (.int .i64 30)) σ) (Lq R p0 n0 c0 p0 n0 c0 (n0 : Int) 0 σ)) : Spec prog 68 #[.slice p0 n0 c0] σ R := M.start h ok
theorem Ip (h : Br (x10 < x9) (Pq p8 fun DC jn => In x10 (n8 : Int) ∧ ∃ so bK,Au σ DC (jn + Int.toNat x10 * 2) [.string so,.string bK] ∧ ∀ b4 : Nat,Spec prog 98 #[.string so] σ (AA R (CB fun t18 y => Bn t18 (R (.returned (.int .i64 31)) y) (Bo ((ByteArray.toList bK == ByteArray.toList (ByteArray.mk #[]))) (R (.returned (.int .i64 32)) y) (Br ((256 : Int) < ((ByteArray.size bK : Nat) : Int)) (R (.returned (.int .i64 32)) y) (Spec prog 99 #[.string bK] y (AA R (CB fun t33 AF => Bn t33 (R (.returned (.int .i64 32)) AF) (Br (0 < x10) (AN (x10 - 1) ∧ Pq p0 fun jo jq => In (x10 - 1) (n0 : Int) ∧ LT AF jo (jq + Int.toNat (x10 - 1) * 2) fun s47 => ∃ t48,YF prog ((do eqGuard .leq 9 (.tmp 41) (.tmp 47) (.string so) (.string s47); binOp .leq 9 (.string so) (.string s47))) AF (.bool t48) ∧ Bo t48 (R (.returned (.int .i64 33)) AF) (AN (x10 + 1) ∧ Lq R (aD jo jq) n0 c0 (aD DC jn) n8 c8 x9 (x10 + 1) AF)) (AN (x10 + 1) ∧ Lq R p0 n0 c0 (aD DC jn) n8 c8 x9 (x10 + 1) AF)))))))))) (R (.returned (.int .i64 0)) σ)) : Lq R p0 n0 c0 p8 n8 c8 x9 x10 σ := M.of h ok rfl
end EE
namespace Ax
variable {p0 p1 La : Option Addr} {n0 c0 n1 c1 n11 Lc : Nat} {v2 : Value} {x12 E8 : Int}
def M : Fw := ⟨prog,75,f75,[],[8,9],false,[],[],[(104,[(0,wL),(1,wL),(2,wV),(11,wL),(12,wI),(13,wI)])]⟩
theorem ok : M.Ok := ⟨AG.nil,mixed,func75,by kernel_rfl⟩
def Hs := M.pt 0
theorem start (h : Hs R p0 n0 c0 p1 n1 c1 v2 p0 n0 c0 (n0 : Int) 0 σ) : Spec prog 75 #[.slice p0 n0 c0,.slice p1 n1 c1,v2] σ R := M.D6 h ok [(0,.o (.L p0 n0 c0)),(1,.o (.L p1 n1 c1)),(2,.o (.V v2))] rfl rfl (by kernel_rfl)
theorem Bg (h : Br (E8 < x12) (Pq La fun ME Vi => In E8 (n11 : Int) ∧ ∃ AEP AEQ,Au σ ME (Vi + Int.toNat E8 * 2) [.string AEP,.string AEQ] ∧ ∀ b8 : Nat,Br ((n1 : Int) ≤ E8) (R (.returned (.int .i64 1)) σ) (Pq p1 fun sq o24 => In E8 (n1 : Int) ∧ ∃ AER AES,Au σ sq (o24 + Int.toNat E8 * 2) [.string AER,.string AES] ∧ ∀ b9 : Nat,∃ (f29 : Nat) (vu vv : Array Value),v2 = .func (.func f29) vu vv ∧ Enters prog f29 ∧ Spec prog f29 (vu ++ #[.agg #[.string AEP,.string AEQ],.agg #[.string AER,.string AES]] ++ vv) σ (AA R (CI .i64 fun Vj y => Br (Vj ≠ 0) (R (.returned (.int .i64 Vj)) y) (AN (E8 + 1) ∧ Hs R p0 n0 c0 (aD sq o24) n1 c1 v2 (aD ME Vi) n11 Lc x12 (E8 + 1) y))))) (Br ((n0 : Int) < (n1 : Int)) (R (.returned (.int .i64 (-1))) σ) (R (.returned (.int .i64 0)) σ))) : Hs R p0 n0 c0 p1 n1 c1 v2 La n11 Lc x12 E8 σ := M.of h ok rfl
end Ax
end TwW
end
end
section
set_option maxRecDepth 100000
noncomputable section
namespace TwW
open Go Tw Go.Proofs.Tryz
variable [Ey] {R : Rr} {σ : Hp}

namespace DD
variable {q0 : Option Addr}
def M : Fw := ⟨prog,96,f96,[95],[],false,[],[],[]⟩
theorem ok : M.Ok := ⟨.cons call95 (AG.nil),mixed,func96,by kernel_rfl⟩
theorem start (h : Spec prog 95 #[.pointer q0,(.func (.func 139) #[.pointer q0] #[]),.int .i64 11,.int .i64 13] σ (AA R (fun z y => z = (.tuple #[]) ∧ R (.returned (.tuple #[])) y))) : Spec prog 96 #[.pointer q0] σ R := M.start h ok
end DD
namespace Jv
variable {x0 : Int}
def M : Fw := ⟨prog,124,f124,[],[],false,[],[],[]⟩
theorem ok : M.Ok := ⟨AG.nil,mixed,func124,by kernel_rfl⟩
theorem start (h : Br (5 ≤ x0) (R (.returned (.bool (decide (x0 ≤ 10)))) σ) (R (.returned (.bool false)) σ)) : Spec prog 124 #[.int .i64 x0] σ R := M.start h ok
end Jv
namespace PK
variable {s0 : ByteArray}
def M : Fw := ⟨prog,140,f140,[172,173,174],[],false,[],[],[]⟩
theorem ok : M.Ok := ⟨.cons call172 (.cons call173 (.cons call174 (AG.nil))),mixed,func140,by kernel_rfl⟩
theorem start (h : Spec prog 172 #[.string s0] σ (AA R (CB fun t7 y => Bn t7 (R (.returned (.tuple #[.int .u64 0,.bool false])) y) (Spec prog 173 #[.string s0,.int .i64 64] y (AA R (fun z AF => ∃ gh gi,z = (.tuple #[gh,gi]) ∧ Spec prog 174 #[gh] AF (AA R (CI .u64 fun x15 AH => R (.returned (.tuple #[.int .u64 x15,.bool true])) AH)))))))) : Spec prog 140 #[.string s0] σ R := M.start h ok
end PK
namespace RP
variable {p0 p1 : Option Addr} {n0 c0 n1 c1 : Nat}
def M : Fw := ⟨prog,149,f149,[197],[],false,[],[],[]⟩
theorem ok : M.Ok := ⟨.cons call197 (AG.nil),mixed,func149,by kernel_rfl⟩
theorem start (h : Al σ fun b3 => Spec prog 197 #[.slice p0 n0 c0,(.func (.func 198) #[] #[(.pointer (aD b3 0))])] (Hp.set σ b3 (.cells #[.slice p1 n1 c1] 34 (0,0))) (AA R (CS fun p7 n7 c7 y => R (.returned (.slice p7 n7 c7)) y))) : Spec prog 149 #[.slice p0 n0 c0,.slice p1 n1 c1] σ R := M.start h ok
end RP
namespace Dl
variable {p0 : Option Addr} {n0 c0 : Nat}
def M : Fw := ⟨prog,153,f153,[202],[],false,[],[],[]⟩
theorem ok : M.Ok := ⟨.cons call202 (AG.nil),mixed,func153,by kernel_rfl⟩
theorem start (h : Spec prog 202 #[.int .i64 9,.slice p0 n0 c0] σ (AA R (CI .u64 fun x4 y => R (.returned (.int .u64 x4)) y))) : Spec prog 153 #[.slice p0 n0 c0] σ R := M.start h ok
end Dl
namespace DE
variable {x0 : Int} {b1 b2 : Nat}
def M : Fw := ⟨prog,159,f159,[156],[],false,[],[],[]⟩
theorem ok : M.Ok := ⟨.cons call156 (AG.nil),mixed,func159,by kernel_rfl⟩
theorem start (h : ∃ F5 F6 s6c F7 GC GD x6e x6f x6g p6h n6h c6h t6i x6j,Au σ b1 0 [.int .i64 F5,.int .i64 F6,.string s6c,.slice F7 GC GD,.int .i64 x6e,.int .i64 x6f,.int .i64 x6g,.slice p6h n6h c6h,.bool t6i,.int .i64 x6j] ∧ LI .u64 σ b2 1 fun x9 => Spec prog 156 #[.agg #[.int .i64 F5,.int .i64 F6,.string s6c,.slice F7 GC GD,.int .i64 x6e,.int .i64 x6f,.int .i64 x6g,.slice p6h n6h c6h,.bool t6i,.int .i64 x6j],.int .u64 x0,.int .u64 x9] σ (AA R (fun z y => ∃ Iq RQ,z = (.tuple #[.int .u64 Iq,.bool RQ]) ∧ R (.returned (.tuple #[.int .u64 Iq,.bool RQ])) y))) : Spec prog 159 #[.int .u64 x0,(.pointer (aD b1 0)),(.pointer (aD b2 0))] σ R := M.start h ok
end DE
namespace PL
variable {s0 : ByteArray}
def M : Fw := ⟨prog,172,f172,[213],[],false,[],[],[]⟩
theorem ok : M.Ok := ⟨.cons call213 (AG.nil),mixed,func172,by kernel_rfl⟩
theorem start (h : Spec prog 213 #[.string s0] σ (AA R (CI .i64 fun x6 y => Br (x6 = 0) (R (.returned (.bool false)) y) (Br (1 < x6) (∃ Ld : UInt8,(0 : Int) ≤ 0 ∧ (ByteArray.data s0)[Int.toNat 0]? = some Ld ∧ Br ((((UInt8.toNat Ld : Nat) : Int) : Int) = 48) (R (.returned (.bool false)) y) (Br (x6 = ((ByteArray.size s0 : Nat) : Int)) (R (.returned (.bool (decide (x6 ≤ 15)))) y) (AN (x6 + 1) ∧ ∃ vw,YF prog (Instr.sliceAt 9 (.string s0) (some (.int .i64 (x6 + 1))) none none) y (.string vw) ∧ Spec prog 213 #[.string vw] y (AA R (CI .i64 fun Xl AF => ∃ vx : UInt8,0 ≤ x6 ∧ (ByteArray.data s0)[Int.toNat x6]? = some vx ∧ Br ((((UInt8.toNat vx : Nat) : Int) : Int) = 46) (Br (0 < Xl) (AN (x6 + 1) ∧ AN ((x6 + 1) + Xl) ∧ Br ((((x6 + 1) + Xl) : Int) = ((ByteArray.size s0 : Nat) : Int)) (AN (x6 + Xl) ∧ R (.returned (.bool (decide (((x6 + Xl) : Int) ≤ 15)))) AF) (R (.returned (.bool false)) AF)) (R (.returned (.bool false)) AF)) (R (.returned (.bool false)) AF)))))) (Br (x6 = ((ByteArray.size s0 : Nat) : Int)) (R (.returned (.bool (decide (x6 ≤ 15)))) y) (AN (x6 + 1) ∧ ∃ vw,YF prog (Instr.sliceAt 9 (.string s0) (some (.int .i64 (x6 + 1))) none none) y (.string vw) ∧ Spec prog 213 #[.string vw] y (AA R (CI .i64 fun Xl AF => ∃ vx : UInt8,0 ≤ x6 ∧ (ByteArray.data s0)[Int.toNat x6]? = some vx ∧ Br ((((UInt8.toNat vx : Nat) : Int) : Int) = 46) (Br (0 < Xl) (AN (x6 + 1) ∧ AN ((x6 + 1) + Xl) ∧ Br ((((x6 + 1) + Xl) : Int) = ((ByteArray.size s0 : Nat) : Int)) (AN (x6 + Xl) ∧ R (.returned (.bool (decide (((x6 + Xl) : Int) ≤ 15)))) AF) (R (.returned (.bool false)) AF)) (R (.returned (.bool false)) AF)) (R (.returned (.bool false)) AF))))))))) : Spec prog 172 #[.string s0] σ R := M.start h ok
end PL
namespace eG
variable {x0 : Int}
def M : Fw := ⟨prog,182,f182,[],[],false,[],[],[]⟩
theorem ok : M.Ok := ⟨AG.nil,mixed,func182,by kernel_rfl⟩
theorem start (h : EN prog 22 #[.int .u64 x0] σ (fun z y => ∃ x4,(Value.float .f64 x4) = z ∧ R (.returned (Value.float .f64 x4)) y)) : Spec prog 182 #[.int .u64 x0] σ R := M.start h ok
end eG
namespace NH
variable {f0 : Fn} {a0 c0 : Array Value}
def M : Fw := ⟨prog,188,f188,[],[],false,[],[],[]⟩
theorem ok : M.Ok := ⟨AG.nil,mixed,func188,by kernel_rfl⟩
theorem start (h : Al σ fun b1 => R (.returned (.func (.func 226) #[] #[(.pointer (aD b1 0))])) (Hp.set σ b1 (.cells #[(Value.func f0 a0 c0)] 232 (0,0)))) : Spec prog 188 #[(Value.func f0 a0 c0)] σ R := M.D6 h ok [(0,.o (.V (Value.func f0 a0 c0)))] rfl rfl (by kernel_rfl)
end NH
namespace CO
variable {p0 p5 p8 : Option Addr} {n0 c0 n5 c5 n8 c8 : Nat} {v1 : Value} {x9 x10 : Int}
def M : Fw := ⟨prog,197,f197,[],[7],false,[],[],[(232,[(1,wV),(5,wL),(8,wL),(9,wI),(10,wI)]),(935,[(1,wV),(5,wL),(8,wL),(9,wI),(10,wI)])]⟩
theorem ok : M.Ok := ⟨AG.nil,mixed,func197,by kernel_rfl⟩
def A8 := M.pt 0
def Xm := M.pt 1
theorem start (h : A8 R v1 none 0 0 p0 n0 c0 (n0 : Int) 0 σ) : Spec prog 197 #[.slice p0 n0 c0,v1] σ R := M.D6 h ok [(0,.o (.L p0 n0 c0)),(1,.o (.V v1))] rfl rfl (by kernel_rfl)
theorem Aa (h : Br (x10 < x9) (Pq p8 fun PM P1 => In x10 (n8 : Int) ∧ ∃ zb gj,Au σ PM (P1 + Int.toNat x10 * 2) [.string zb,.string gj] ∧ ∀ b7 : Nat,∃ (f16 : Nat) (vy vz : Array Value),v1 = .func (.func f16) vy vz ∧ Enters prog f16 ∧ Spec prog f16 (vy ++ #[.agg #[.string zb,.string gj]] ++ vz) σ (AA R (CB fun t16 y => Bo t16 (Al y fun CR => AJ prog (Builtin.append_ #[37,37] 37 #[.slice p5 n5 c5,(.slice (aD CR 0) 1 1)]) (Hp.set y CR (.cells #[.string zb,.string gj] 56 (0,0))) (CS fun p20 n20 c20 AF => Xm R v1 p20 n20 c20 (aD PM P1) n8 c8 x9 x10 AF)) (Xm R v1 p5 n5 c5 (aD PM P1) n8 c8 x9 x10 y)))) (R (.returned (.slice p5 n5 c5)) σ)) : A8 R v1 p5 n5 c5 p8 n8 c8 x9 x10 σ := M.of h ok rfl
theorem QZ (h : AN (x10 + 1) ∧ A8 R v1 p5 n5 c5 p8 n8 c8 x9 (x10 + 1) σ) : Xm R v1 p5 n5 c5 p8 n8 c8 x9 x10 σ := M.of h ok rfl
end CO
namespace BM
variable {p0 : Option Addr} {n0 c0 : Nat} {s1 : ByteArray} {x7 x8 : Int}
def M : Fw := ⟨prog,228,f228,[],[],false,[],[],[(104,[(0,wL),(1,wT),(7,wI),(8,wI)])]⟩
theorem ok : M.Ok := ⟨AG.nil,mixed,func228,by kernel_rfl⟩
def Hs := M.pt 0
theorem start (h : Hs R p0 n0 c0 s1 (n0 : Int) 0 σ) : Spec prog 228 #[.slice p0 n0 c0,.string s1] σ R := M.start h ok
theorem Bg (h : Br (x8 < x7) (Pq p0 fun BL ND => In x8 (n0 : Int) ∧ LT σ BL (ND + Int.toNat x8 * 1) fun s15 => Bo (ByteArray.toList s1 == ByteArray.toList s15) (R (.returned (.int .i64 x8)) σ) (AN (x8 + 1) ∧ Hs R (aD BL ND) n0 c0 s1 x7 (x8 + 1) σ)) (R (.returned (.int .i64 (-1))) σ)) : Hs R p0 n0 c0 s1 x7 x8 σ := M.of h ok rfl
end BM
namespace BU
variable {q0 : Option Addr}
def M : Fw := ⟨prog,230,f230,[136,138,250,251],[],false,[],[],[]⟩
theorem ok : M.Ok := ⟨.cons call136 (.cons call138 (.cons call250 (.cons call251 (AG.nil)))),mixed,func230,by kernel_rfl⟩
theorem start (h : Spec prog 136 #[.pointer q0,.int .i64 5,(.string (ByteArray.mk #[45]))] σ (AA R (CB fun t3 y => Bn t3 (Spec prog 250 #[.pointer q0] y (AA R (fun z AF => z = (.tuple #[]) ∧ R (.returned (.tuple #[])) AF))) (Spec prog 251 #[.pointer q0,(.func (.func 230) #[.pointer q0] #[])] y (AA R (fun z AF => z = (.tuple #[]) ∧ Spec prog 138 #[.pointer q0,(.agg #[.int .i64 7,.int .i64 0,(.string (ByteArray.mk #[])),.slice none 0 0,.int .i64 0,.int .i64 0,.int .i64 0,.slice none 0 0,.bool false,.int .i64 1])] AF (AA R (fun z AH => z = (.tuple #[]) ∧ R (.returned (.tuple #[])) AH)))))))) : Spec prog 230 #[.pointer q0] σ R := M.start h ok
end BU
namespace Bd
variable {s0 : ByteArray} {x1 : Int}
def M : Fw := ⟨prog,231,f231,[252,253],[],false,[],[],[]⟩
theorem ok : M.Ok := ⟨.cons call252 (.cons call253 (AG.nil)),mixed,func231,by kernel_rfl⟩
theorem start (h : Br (x1 = 32) (Spec prog 252 #[.string s0] σ (AA R (fun z y => ∃ AEc Tq AEd,z = (.tuple #[AEc,.int .i64 Tq,AEd]) ∧ AJ prog (convert 280 51 AEc) y (fun z AF => ∃ Dm,(Value.float .f64 Dm) = z ∧ R (.returned (.tuple #[(Value.float .f64 Dm),.int .i64 Tq,AEd])) AF)))) (Spec prog 253 #[.string s0] σ (AA R (fun z y => ∃ AEe gk AEf,z = (.tuple #[AEe,.int .i64 gk,AEf]) ∧ R (.returned (.tuple #[AEe,.int .i64 gk,AEf])) y)))) : Spec prog 231 #[.string s0,.int .i64 x1] σ R := M.start h ok
end Bd
namespace HT
variable {s0 s1 : ByteArray}
def M : Fw := ⟨prog,285,f285,[315],[],false,[],[],[]⟩
theorem ok : M.Ok := ⟨.cons call315 (AG.nil),mixed,func285,by kernel_rfl⟩
theorem start (h : Spec prog 315 #[.string s0,.string s1] σ (AA R (CB fun t7 y => R (.returned (.bool t7)) y))) : Spec prog 285 #[.string s0,.string s1] σ R := M.start h ok
end HT
namespace BO
variable {b0 : Nat}
def M : Fw := ⟨prog,294,f294,[65,210],[],false,[],[],[]⟩
theorem ok : M.Ok := ⟨.cons call65 (.cons call210 (AG.nil)),mixed,func294,by kernel_rfl⟩
theorem start (h : LQ σ b0 0 fun q1 => Spec prog 65 #[.pointer q1] σ (AA R (fun z y => z = (.tuple #[]) ∧ LQ y b0 0 fun q3 => Spec prog 210 #[.pointer q3,(.string (ByteArray.mk #[41]))] y (AA R (fun z AF => z = (.tuple #[]) ∧ R (.returned (.tuple #[])) AF))))) : Spec prog 294 #[(.pointer (aD b0 0))] σ R := M.start h ok
end BO
end TwW
end
end
section
set_option maxRecDepth 100000
noncomputable section
namespace TwW
open Go Tw Go.Proofs.Tryz
variable [Ey] {R : Rr} {σ : Hp}

namespace CV
variable {p0 p1 : Option Addr} {n0 c0 n1 c1 : Nat} {x5 : Int}
def M : Fw := ⟨prog,18,f18,[36,41],[],false,[],[],[(464,[(0,wL),(1,wL),(5,wI)])]⟩
theorem ok : M.Ok := ⟨.cons call36 (.cons call41 (AG.nil)),mixed,func18,by kernel_rfl⟩
def E1 := M.pt 0
theorem start (h : Br ((n0 : Int) ≠ (n1 : Int)) (R (.returned (.bool false)) σ) (E1 R p0 n0 c0 p1 n1 c1 0 σ)) : Spec prog 18 #[.slice p0 n0 c0,.slice p1 n1 c1] σ R := M.start h ok
theorem EW (h : Br (x5 < (n0 : Int)) (Pq p0 fun CR Wm => In x5 (n0 : Int) ∧ LS σ CR (Wm + Int.toNat x5 * 2) fun NI n21 Lr => Pq p1 fun sq o24 => In x5 (n1 : Int) ∧ LS σ sq (o24 + Int.toNat x5 * 2) fun p26 n26 c26 => Spec prog 41 #[.slice NI n21 Lr,.slice p26 n26 c26] σ (AA R (CB fun t27 y => Bn t27 (R (.returned (.bool false)) y) (In x5 (n0 : Int) ∧ LS y CR ((Wm + Int.toNat x5 * 2) + 1) fun p34 n34 c34 => In x5 (n1 : Int) ∧ LS y sq ((o24 + Int.toNat x5 * 2) + 1) fun p39 n39 c39 => Spec prog 36 #[.slice p34 n34 c34,.slice p39 n39 c39] y (AA R (CB fun t40 AF => Bn t40 (R (.returned (.bool false)) AF) (AN (x5 + 1) ∧ E1 R (aD CR Wm) n0 c0 (aD sq o24) n1 c1 (x5 + 1) AF))))))) (R (.returned (.bool true)) σ)) : E1 R p0 n0 c0 p1 n1 c1 x5 σ := M.of h ok rfl
end CV
namespace Xn
variable {p0 : Option Addr} {n0 c0 : Nat}
def M : Fw := ⟨prog,49,f49,[72],[],false,[],[],[]⟩
theorem ok : M.Ok := ⟨.cons call72 (AG.nil),mixed,func49,by kernel_rfl⟩
theorem start (h : Spec prog 72 #[.slice p0 n0 c0] σ (AA R (CS fun p4 n4 c4 y => AJ prog (convert 90 9 (.slice p4 n4 c4)) y (CT fun s5 AF => R (.returned (.string s5)) AF)))) : Spec prog 49 #[.slice p0 n0 c0] σ R := M.start h ok
end Xn
namespace PN
def M : Fw := ⟨prog,61,f61,[],[],false,[],[],[]⟩
theorem ok : M.Ok := ⟨AG.nil,mixed,func61,by kernel_rfl⟩
theorem start (h : Al σ fun b1 => R (.returned (.slice (aD b1 0) 12 12)) (Hp.set σ b1 (.cells #[(.string (ByteArray.mk #[114,97,116,101])),(.string (ByteArray.mk #[105,110,99,114,101,97,115,101])),(.string (ByteArray.mk #[100,101,108,116,97])),(.string (ByteArray.mk #[115,117,109,95,111,118,101,114,95,116,105,109,101])),(.string (ByteArray.mk #[97,118,103,95,111,118,101,114,95,116,105,109,101])),(.string (ByteArray.mk #[109,105,110,95,111,118,101,114,95,116,105,109,101])),(.string (ByteArray.mk #[109,97,120,95,111,118,101,114,95,116,105,109,101])),(.string (ByteArray.mk #[99,111,117,110,116,95,111,118,101,114,95,116,105,109,101])),(.string (ByteArray.mk #[108,97,115,116,95,111,118,101,114,95,116,105,109,101])),(.string (ByteArray.mk #[119,97,118,101])),(.string (ByteArray.mk #[97,98,115])),(.string (ByteArray.mk #[102,108,111,111,114]))] 9 (0,0)))) : Spec prog 61 #[] σ R := M.start h ok
end PN
namespace JP
variable {q0 : Option Addr}
def M : Fw := ⟨prog,65,f65,[95],[],false,[],[],[]⟩
theorem ok : M.Ok := ⟨.cons call95 (AG.nil),mixed,func65,by kernel_rfl⟩
theorem start (h : Spec prog 95 #[.pointer q0,(.func (.func 96) #[.pointer q0] #[]),.int .i64 12,.int .i64 12] σ (AA R (fun z y => z = (.tuple #[]) ∧ R (.returned (.tuple #[])) y))) : Spec prog 65 #[.pointer q0] σ R := M.start h ok
end JP
namespace IE
variable {q0 : Option Addr}
def M : Fw := ⟨prog,66,f66,[],[2],false,[],[],[]⟩
theorem ok : M.Ok := ⟨AG.nil,mixed,func66,by kernel_rfl⟩
theorem start (h : ∀ b2 : Nat,Pq q0 fun b4 o4 => LS σ b4 o4 fun p6 n6 c6 => Pq p6 fun b7 o7 => In 0 (n6 : Int) ∧ ∃ D7 EF s8c x8d,Au σ b7 o7 [.int .i64 D7,.int .i64 EF,.string s8c,.int .i64 x8d] ∧ R (.returned (.agg #[.int .i64 D7,.int .i64 EF,.string s8c,.int .i64 x8d])) σ) : Spec prog 66 #[.pointer q0] σ R := M.start h ok
end IE
namespace RR
def M : Fw := ⟨prog,70,f70,[],[],false,[],[],[]⟩
theorem ok : M.Ok := ⟨AG.nil,mixed,func70,by kernel_rfl⟩
theorem start (h : Al σ fun b1 => R (.returned (.slice (aD b1 0) 8 8)) (Hp.set σ b1 (.cells #[.nilFunc,(.func (.func 100) #[] #[]),(.func (.func 101) #[] #[]),(.func (.func 102) #[] #[]),(.func (.func 103) #[] #[]),(.func (.func 104) #[] #[]),(.func (.func 105) #[] #[]),(.func (.func 106) #[] #[])] 137 (0,0)))) : Spec prog 70 #[] σ R := M.start h ok
end RR
namespace RS
variable {E2 EX P2 NJ Ht JQ : Int} {P3 : ByteArray} {Ue RT : Option Addr} {Ts Uf Qa RU : Nat} {Mg : Bool}
def M : Fw := ⟨prog,79,f79,[94,120,121,122,123,124],[1],false,[],[],[]⟩
theorem ok : M.Ok := ⟨.cons call94 (.cons call120 (.cons call121 (.cons call122 (.cons call123 (.cons call124 (AG.nil)))))),mixed,func79,by kernel_rfl⟩
theorem start (h : ∀ b1 : Nat,Spec prog 121 #[.agg #[.int .i64 E2,.int .i64 EX,.string P3,.slice Ue Ts Uf,.int .i64 P2,.int .i64 NJ,.int .i64 Ht,.slice RT Qa RU,.bool Mg,.int .i64 JQ]] σ (AA R (fun z y => ∃ Ir HE Is Iu Iv Iw Ix Iy Iz I0 I1 I2 Jw I3,z = (.agg #[.int .i64 Ir,.int .i64 HE,.string Is,.slice Iu Iv Iw,.int .i64 Ix,.int .i64 Iy,.int .i64 Iz,.slice I0 I1 I2,.bool Jw,.int .i64 I3]) ∧ Spec prog 120 #[.agg #[.int .i64 E2,.int .i64 EX,.string P3,.slice Ue Ts Uf,.int .i64 P2,.int .i64 NJ,.int .i64 Ht,.slice RT Qa RU,.bool Mg,.int .i64 JQ],.agg #[.int .i64 Ir,.int .i64 HE,.string Is,.slice Iu Iv Iw,.int .i64 Ix,.int .i64 Iy,.int .i64 Iz,.slice I0 I1 I2,.bool Jw,.int .i64 I3]] y (AA R (CB fun t6 AF => Bn t6 (R (.returned (.bool false)) AF) (Spec prog 122 #[.agg #[.int .i64 E2,.int .i64 EX,.string P3,.slice Ue Ts Uf,.int .i64 P2,.int .i64 NJ,.int .i64 Ht,.slice RT Qa RU,.bool Mg,.int .i64 JQ]] AF (AA R (CB fun t10 AH => Bn t10 (R (.returned (.bool false)) AH) (Br (0 < (Ts : Int)) (Br (E2 ≠ 2) (Br (E2 ≠ 3) (R (.returned (.bool false)) AH) (Br (E2 = 1) (Spec prog 94 #[.string P3] AH (AA R (CB fun t35 Ab => R (.returned (.bool t35)) Ab))) (Br (E2 = 2) (Spec prog 123 #[.int .i64 NJ,.int .i64 0] AH (AA R (CB fun t40 Ab => R (.returned (.bool t40)) Ab))) (Br (E2 = 3) (Spec prog 123 #[.int .i64 P2,.int .i64 1] AH (AA R (CB fun t45 Ab => Bo t45 (Spec prog 123 #[.int .i64 NJ,.int .i64 0] Ab (AA R (CB fun t49 DV => R (.returned (.bool t49)) DV))) (R (.returned (.bool false)) Ab)))) (Br (E2 = 4) (Br (JQ = 1) (Br (1 ≤ EX) (R (.returned (.bool (decide (EX ≤ 12)))) AH) (R (.returned (.bool false)) AH)) (R (.returned (.bool false)) AH)) (Br (E2 = 5) (Br (JQ = 1) (Br (1 ≤ EX) (Br (EX ≤ 5) (Br (Ht = 0) (R (.returned (.bool true)) AH) (Br (Ht = 1) (R (.returned (.bool true)) AH) (R (.returned (.bool (decide (Ht = 2)))) AH))) (R (.returned (.bool false)) AH)) (R (.returned (.bool false)) AH)) (R (.returned (.bool false)) AH)) (Br (E2 = 6) (Br (JQ = 2) (Br (1 ≤ EX) (Br (EX ≤ 13) (Br (Ht = 0) (Bn Mg (R (.returned (.bool true)) AH) (Spec prog 124 #[.int .i64 EX] AH (AA R (CB fun t133 Ab => R (.returned (.bool t133)) Ab)))) (Br (Ht = 3) (Bn Mg (R (.returned (.bool true)) AH) (Spec prog 124 #[.int .i64 EX] AH (AA R (CB fun t133 Ab => R (.returned (.bool t133)) Ab)))) (Br (Ht = 4) (Bn Mg (R (.returned (.bool true)) AH) (Spec prog 124 #[.int .i64 EX] AH (AA R (CB fun t133 Ab => R (.returned (.bool t133)) Ab)))) (R (.returned (.bool false)) AH)))) (R (.returned (.bool false)) AH)) (R (.returned (.bool false)) AH)) (R (.returned (.bool false)) AH)) (Br (E2 = 7) (R (.returned (.bool (decide (JQ = 1)))) AH) (R (.returned (.bool false)) AH))))))))) (Br (E2 = 1) (Spec prog 94 #[.string P3] AH (AA R (CB fun t35 Ab => R (.returned (.bool t35)) Ab))) (Br (E2 = 2) (Spec prog 123 #[.int .i64 NJ,.int .i64 0] AH (AA R (CB fun t40 Ab => R (.returned (.bool t40)) Ab))) (Br (E2 = 3) (Spec prog 123 #[.int .i64 P2,.int .i64 1] AH (AA R (CB fun t45 Ab => Bo t45 (Spec prog 123 #[.int .i64 NJ,.int .i64 0] Ab (AA R (CB fun t49 DV => R (.returned (.bool t49)) DV))) (R (.returned (.bool false)) Ab)))) (Br (E2 = 4) (Br (JQ = 1) (Br (1 ≤ EX) (R (.returned (.bool (decide (EX ≤ 12)))) AH) (R (.returned (.bool false)) AH)) (R (.returned (.bool false)) AH)) (Br (E2 = 5) (Br (JQ = 1) (Br (1 ≤ EX) (Br (EX ≤ 5) (Br (Ht = 0) (R (.returned (.bool true)) AH) (Br (Ht = 1) (R (.returned (.bool true)) AH) (R (.returned (.bool (decide (Ht = 2)))) AH))) (R (.returned (.bool false)) AH)) (R (.returned (.bool false)) AH)) (R (.returned (.bool false)) AH)) (Br (E2 = 6) (Br (JQ = 2) (Br (1 ≤ EX) (Br (EX ≤ 13) (Br (Ht = 0) (Bn Mg (R (.returned (.bool true)) AH) (Spec prog 124 #[.int .i64 EX] AH (AA R (CB fun t133 Ab => R (.returned (.bool t133)) Ab)))) (Br (Ht = 3) (Bn Mg (R (.returned (.bool true)) AH) (Spec prog 124 #[.int .i64 EX] AH (AA R (CB fun t133 Ab => R (.returned (.bool t133)) Ab)))) (Br (Ht = 4) (Bn Mg (R (.returned (.bool true)) AH) (Spec prog 124 #[.int .i64 EX] AH (AA R (CB fun t133 Ab => R (.returned (.bool t133)) Ab)))) (R (.returned (.bool false)) AH)))) (R (.returned (.bool false)) AH)) (R (.returned (.bool false)) AH)) (R (.returned (.bool false)) AH)) (Br (E2 = 7) (R (.returned (.bool (decide (JQ = 1)))) AH) (R (.returned (.bool false)) AH))))))))) (Br (E2 = 1) (Spec prog 94 #[.string P3] AH (AA R (CB fun t35 Ab => R (.returned (.bool t35)) Ab))) (Br (E2 = 2) (Spec prog 123 #[.int .i64 NJ,.int .i64 0] AH (AA R (CB fun t40 Ab => R (.returned (.bool t40)) Ab))) (Br (E2 = 3) (Spec prog 123 #[.int .i64 P2,.int .i64 1] AH (AA R (CB fun t45 Ab => Bo t45 (Spec prog 123 #[.int .i64 NJ,.int .i64 0] Ab (AA R (CB fun t49 DV => R (.returned (.bool t49)) DV))) (R (.returned (.bool false)) Ab)))) (Br (E2 = 4) (Br (JQ = 1) (Br (1 ≤ EX) (R (.returned (.bool (decide (EX ≤ 12)))) AH) (R (.returned (.bool false)) AH)) (R (.returned (.bool false)) AH)) (Br (E2 = 5) (Br (JQ = 1) (Br (1 ≤ EX) (Br (EX ≤ 5) (Br (Ht = 0) (R (.returned (.bool true)) AH) (Br (Ht = 1) (R (.returned (.bool true)) AH) (R (.returned (.bool (decide (Ht = 2)))) AH))) (R (.returned (.bool false)) AH)) (R (.returned (.bool false)) AH)) (R (.returned (.bool false)) AH)) (Br (E2 = 6) (Br (JQ = 2) (Br (1 ≤ EX) (Br (EX ≤ 13) (Br (Ht = 0) (Bn Mg (R (.returned (.bool true)) AH) (Spec prog 124 #[.int .i64 EX] AH (AA R (CB fun t133 Ab => R (.returned (.bool t133)) Ab)))) (Br (Ht = 3) (Bn Mg (R (.returned (.bool true)) AH) (Spec prog 124 #[.int .i64 EX] AH (AA R (CB fun t133 Ab => R (.returned (.bool t133)) Ab)))) (Br (Ht = 4) (Bn Mg (R (.returned (.bool true)) AH) (Spec prog 124 #[.int .i64 EX] AH (AA R (CB fun t133 Ab => R (.returned (.bool t133)) Ab)))) (R (.returned (.bool false)) AH)))) (R (.returned (.bool false)) AH)) (R (.returned (.bool false)) AH)) (R (.returned (.bool false)) AH)) (Br (E2 = 7) (R (.returned (.bool (decide (JQ = 1)))) AH) (R (.returned (.bool false)) AH))))))))))))))))) : Spec prog 79 #[.agg #[.int .i64 E2,.int .i64 EX,.string P3,.slice Ue Ts Uf,.int .i64 P2,.int .i64 NJ,.int .i64 Ht,.slice RT Qa RU,.bool Mg,.int .i64 JQ]] σ R := M.start h ok
end RS
namespace EY
variable {q0 Dc Dn p2 : Option Addr} {DW CP DX Dd C1 CW : Int} {DY : ByteArray} {De Dg Dh Dp n2 c2 : Nat} {C2 : Bool}
def M : Fw := ⟨prog,83,f83,[],[4],false,[],[],[]⟩
theorem ok : M.Ok := ⟨AG.nil,mixed,func83,by kernel_rfl⟩
theorem start (h : ∀ b4 : Nat,Pq p2 fun b9 o9 => In 0 (n2 : Int) ∧ LI .i64 σ b9 o9 fun x11 => Br (x11 ≠ 2) (R (.returned (.tuple #[.int .i64 0,.int .i64 191])) σ) (R (.returned (.tuple #[.int .i64 2,.int .i64 0])) σ)) : Spec prog 83 #[.pointer q0,.agg #[.int .i64 DW,.int .i64 CP,.string DY,.slice Dc De Dg,.int .i64 DX,.int .i64 Dd,.int .i64 C1,.slice Dn Dh Dp,.bool C2,.int .i64 CW],.slice p2 n2 c2] σ R := M.start h ok
end EY
namespace MF
variable {p0 : Option Addr} {n0 c0 : Nat} {s1 : ByteArray}
def M : Fw := ⟨prog,108,f108,[107],[],false,[],[],[]⟩
theorem ok : M.Ok := ⟨.cons call107 (AG.nil),mixed,func108,by kernel_rfl⟩
theorem start (h : Df (IntKind.u64.wrap ((ByteArray.size s1 : Nat) : Int)) fun x8 => Spec prog 107 #[.slice p0 n0 c0,.int .u64 x8] σ (AA R (CS fun p9 n9 c9 y => AJ prog (Builtin.append_ #[90,9] 90 #[.slice p9 n9 c9,.string s1]) y (CS fun La n11 Lc AF => R (.returned (.slice La n11 Lc)) AF)))) : Spec prog 108 #[.slice p0 n0 c0,.string s1] σ R := M.start h ok
end MF
namespace B9
variable {s0 s1 : ByteArray}
def M : Fw := ⟨prog,119,f119,[],[],false,[],[],[]⟩
theorem ok : M.Ok := ⟨AG.nil,mixed,func119,by kernel_rfl⟩
theorem start (h : EN prog 168 #[.string s0,.string s1] σ (CI .i64 fun x7 y => R (.returned (.int .i64 x7)) y)) : Spec prog 119 #[.string s0,.string s1] σ R := M.start h ok
end B9
namespace PO
variable {E2 EX P2 NJ Ht JQ DW CP DX Dd C1 CW : Int} {P3 DY : ByteArray} {Ue RT Dc Dn : Option Addr} {Ts Uf Qa RU De Dg Dh Dp : Nat} {Mg C2 : Bool}
def M : Fw := ⟨prog,120,f120,[],[2,3],false,[],[],[]⟩
theorem ok : M.Ok := ⟨AG.nil,mixed,func120,by kernel_rfl⟩
theorem start (h : ∀ b2 : Nat,∀ b3 : Nat,Br (E2 = DW) (Br (EX = CP) (Bo (ByteArray.toList P3 == ByteArray.toList DY) (Br (P2 = DX) (Br (NJ = Dd) (Br (Ht = C1) (Bo Mg (Bo C2 (R (.returned (.bool (decide (JQ = CW)))) σ) (R (.returned (.bool false)) σ)) (Bo C2 (R (.returned (.bool false)) σ) (R (.returned (.bool (decide (JQ = CW)))) σ))) (R (.returned (.bool false)) σ)) (R (.returned (.bool false)) σ)) (R (.returned (.bool false)) σ)) (R (.returned (.bool false)) σ)) (R (.returned (.bool false)) σ)) (R (.returned (.bool false)) σ)) : Spec prog 120 #[.agg #[.int .i64 E2,.int .i64 EX,.string P3,.slice Ue Ts Uf,.int .i64 P2,.int .i64 NJ,.int .i64 Ht,.slice RT Qa RU,.bool Mg,.int .i64 JQ],.agg #[.int .i64 DW,.int .i64 CP,.string DY,.slice Dc De Dg,.int .i64 DX,.int .i64 Dd,.int .i64 C1,.slice Dn Dh Dp,.bool C2,.int .i64 CW]] σ R := M.start h ok
end PO
namespace RV
variable {x0 : Int}
def M : Fw := ⟨prog,125,f125,[],[],false,[],[],[]⟩
theorem ok : M.Ok := ⟨AG.nil,mixed,func125,by kernel_rfl⟩
theorem start (h : Br (1 ≤ x0) (R (.returned (.bool (decide (x0 ≤ 4)))) σ) (R (.returned (.bool false)) σ)) : Spec prog 125 #[.int .i64 x0] σ R := M.start h ok
end RV
namespace Ug
def M : Fw := ⟨prog,134,f134,[],[],false,[],[],[]⟩
theorem ok : M.Ok := ⟨AG.nil,mixed,func134,by kernel_rfl⟩
theorem start (h : Al σ fun b1 => R (.returned (.slice (aD b1 0) 14 14)) (Hp.set σ b1 (.cells #[(.string (ByteArray.mk #[])),(.string (ByteArray.mk #[43])),(.string (ByteArray.mk #[45])),(.string (ByteArray.mk #[42])),(.string (ByteArray.mk #[47])),(.string (ByteArray.mk #[61,61])),(.string (ByteArray.mk #[33,61])),(.string (ByteArray.mk #[60])),(.string (ByteArray.mk #[60,61])),(.string (ByteArray.mk #[62])),(.string (ByteArray.mk #[62,61])),(.string (ByteArray.mk #[97,110,100])),(.string (ByteArray.mk #[111,114])),(.string (ByteArray.mk #[117,110,108,101,115,115]))] 9 (0,0)))) : Spec prog 134 #[] σ R := M.start h ok
end Ug
namespace Ah
variable {q0 q1 : Option Addr} {s2a s2b zc zd : ByteArray} {x3a x3b x11 : Int} {b7 : Nat}
def M : Fw := ⟨prog,137,f137,[135,136,170],[6],false,[(6,12,false)],[],[(56,[(0,wQ),(1,wQ),(7,wA),(10,.G [.T,.T]),(11,wI)])]⟩
theorem ok : M.Ok := ⟨.cons call135 (.cons call136 (.cons call170 (AG.nil))),mixed,func137,by kernel_rfl⟩
def rG := M.pt 0
theorem start (h : ∀ b6 : Nat,Al σ fun b7 => rG R q0 q1 b7 s2a s2b 0 (Hp.set σ b7 (.cells #[.int .i64 x3a,.int .i64 x3b] 182 (0,0)))) : Spec prog 137 #[.pointer q0,.pointer q1,.agg #[.string s2a,.string s2b],.agg #[.int .i64 x3a,.int .i64 x3b]] σ R := M.start h ok
theorem RW (h : Br (x11 < 2) (In x11 2 ∧ ∃ s14 : ByteArray,[zc,zd][Int.toNat x11]? = some s14 ∧ Spec prog 136 #[.pointer q0,.int .i64 3,.string s14] σ (AA R (CB fun t17 y => Bo t17 (Spec prog 135 #[.pointer q0] y (AA R (fun z AF => ∃ Jx Oc Vk ze,z = (.agg #[.int .i64 Jx,.int .i64 Oc,.string Vk,.int .i64 ze]) ∧ In x11 2 ∧ LI .i64 AF b7 (0 + Int.toNat x11 * 1) fun JO => Spec prog 170 #[.pointer q0] AF (AA R (CS fun p26 n26 c26 AH => Kp [b7] AF AH ∧ Pq q1 fun Xk sn => AJ prog (Instr.storeAt 3 (.pointer (aD Xk (sn + 6))) (.int .i64 JO)) AH (fun _ Ab => AJ prog (Instr.storeAt 34 (.pointer (aD Xk (sn + 7))) (.slice p26 n26 c26)) Ab (fun _ DV => R (.returned (.tuple #[])) DV))))))) (AN (x11 + 1) ∧ rG R q0 q1 b7 zc zd (x11 + 1) y)))) (R (.returned (.tuple #[])) σ)) : rG R q0 q1 b7 zc zd x11 σ := M.of h ok rfl
end Ah
namespace Gw
variable {p0 : Option Addr} {n0 c0 : Nat}
def M : Fw := ⟨prog,155,f155,[143],[],false,[],[],[]⟩
theorem ok : M.Ok := ⟨.cons call143 (AG.nil),mixed,func155,by kernel_rfl⟩
theorem start (h : Spec prog 143 #[(.int .i64 (n0 : Int))] σ (AA R (CI .u64 fun x5 y => R (.returned (.int .u64 x5)) y))) : Spec prog 155 #[.slice p0 n0 c0] σ R := M.start h ok
end Gw
namespace Ap
variable {q0 Dc Dn p2 p3 Iu I0 Eu E3 Hu v7 : Option Addr} {DW CP DX Dd C1 CW Ir HE Ix Iy Iz I3 D7 EF Xo eH : Int} {DY Is : ByteArray} {De Dg Dh Dp n2 c2 n3 c3 Iv Iw I1 I2 Ev Ew E4 E5 n14 Ge n41 jr : Nat} {C2 Jw : Bool} {m12 : Option Nat}
def M : Fw := ⟨prog,161,f161,[49,124,148,156,206,207],[5,8,16,18],false,[],[],[(2024,[(5,.X 36 [.I .i64,.I .i64,.T,.L,.I .i64,.I .i64,.I .i64,.L,.B,.I .i64]),(8,.X 93 [.I .i64,.I .u64,.L,.L]),(12,wM),(14,wL),(41,wL),(42,wI),(43,wI)]),(8103,[(5,.X 36 [.I .i64,.I .i64,.T,.L,.I .i64,.I .i64,.I .i64,.L,.B,.I .i64]),(8,.X 93 [.I .i64,.I .u64,.L,.L]),(12,wM),(14,wL),(41,wL),(42,wI),(43,wI)])]⟩
theorem ok : M.Ok := ⟨.cons call49 (.cons call124 (.cons call148 (.cons call156 (.cons call206 (.cons call207 (AG.nil)))))),mixed,func161,by kernel_rfl⟩
def Vm := M.pt 0
def NK := M.pt 1
theorem start (h : ∀ b5 : Nat,∀ b8 : Nat,Spec prog 206 #[.agg #[.int .i64 DW,.int .i64 CP,.string DY,.slice Dc De Dg,.int .i64 DX,.int .i64 Dd,.int .i64 C1,.slice Dn Dh Dp,.bool C2,.int .i64 CW],.slice p2 n2 c2] σ (AA R (fun z y => ∃ ALZ lI,z = (.tuple #[.map ALZ,.bool lI]) ∧ Spec prog 206 #[.agg #[.int .i64 DW,.int .i64 CP,.string DY,.slice Dc De Dg,.int .i64 DX,.int .i64 Dd,.int .i64 C1,.slice Dn Dh Dp,.bool C2,.int .i64 CW],.slice p3 n3 c3] y (AA R (fun z AF => ∃ AEm AEn,z = (.tuple #[.map AEm,.bool AEn]) ∧ Bn lI (R (.returned (.tuple #[.agg #[.int .i64 0,.int .u64 0,.slice none 0 0,.slice none 0 0],.int .i64 223])) AF) (Bn AEn (R (.returned (.tuple #[.agg #[.int .i64 0,.int .u64 0,.slice none 0 0,.slice none 0 0],.int .i64 223])) AF) (Vm R DW CP DY Dc De Dg DX Dd C1 Dn Dh Dp C2 CW 0 0 none 0 0 none 0 0 AEm none 0 0 p2 n2 c2 (n2 : Int) 0 AF))))))) : Spec prog 161 #[.pointer q0,.agg #[.int .i64 DW,.int .i64 CP,.string DY,.slice Dc De Dg,.int .i64 DX,.int .i64 Dd,.int .i64 C1,.slice Dn Dh Dp,.bool C2,.int .i64 CW],.slice p2 n2 c2,.slice p3 n3 c3] σ R := M.start h ok
theorem Qb (h : Br (eH < Xo) (Pq v7 fun jo jq => In eH (n41 : Int) ∧ ∃ zf zg zh zi,Au σ jo (jq + Int.toNat eH * 2) [.slice zf zg zh,.int .u64 zi] ∧ ∀ ME : Nat,Spec prog 207 #[.agg #[.int .i64 Ir,.int .i64 HE,.string Is,.slice Iu Iv Iw,.int .i64 Ix,.int .i64 Iy,.int .i64 Iz,.slice I0 I1 I2,.bool Jw,.int .i64 I3],.slice zf zg zh] σ (AA R (CS fun bL n50 bM y => Spec prog 49 #[.slice bL n50 bM] y (AA R (CT fun s54 AF => AJ prog (Instr.lookup 243 (.map m12) (.string s54) true) AF (fun z AH => ∃ AEo AEp AEq wC AEr,z = (.tuple #[.agg #[.slice AEo AEp AEq,.int .u64 wC],.bool AEr]) ∧ ∀ Uh : Nat,Bn AEr (NK R Ir HE Is Iu Iv Iw Ix Iy Iz I0 I1 I2 Jw I3 D7 EF Eu Ev Ew E3 E4 E5 m12 Hu n14 Ge (aD jo jq) n41 jr Xo eH AH) (Spec prog 156 #[.agg #[.int .i64 Ir,.int .i64 HE,.string Is,.slice Iu Iv Iw,.int .i64 Ix,.int .i64 Iy,.int .i64 Iz,.slice I0 I1 I2,.bool Jw,.int .i64 I3],.int .u64 zi,.int .u64 wC] AH (AA R (fun z Ab => ∃ zj AEs,z = (.tuple #[.int .u64 zj,.bool AEs]) ∧ Spec prog 124 #[.int .i64 HE] Ab (AA R (CB fun t72 DV => Bn t72 (Al DV fun wD => AJ prog (Builtin.append_ #[67,67] 67 #[.slice Hu n14 Ge,(.slice (aD wD 0) 1 1)]) (Hp.set DV wD (.cells #[.slice bL n50 bM,.int .u64 zj] 71 (0,0))) (CS fun sY Xi sZ Ex => NK R Ir HE Is Iu Iv Iw Ix Iy Iz I0 I1 I2 Jw I3 D7 EF Eu Ev Ew E3 E4 E5 m12 sY Xi sZ (aD jo jq) n41 jr Xo eH Ex)) (Bo Jw (Al DV fun wD => AJ prog (Builtin.append_ #[67,67] 67 #[.slice Hu n14 Ge,(.slice (aD wD 0) 1 1)]) (Hp.set DV wD (.cells #[.slice bL n50 bM,.int .u64 zj] 71 (0,0))) (CS fun sY Xi sZ Ex => NK R Ir HE Is Iu Iv Iw Ix Iy Iz I0 I1 I2 true I3 D7 EF Eu Ev Ew E3 E4 E5 m12 sY Xi sZ (aD jo jq) n41 jr Xo eH Ex)) (Bo AEs (Al DV fun b88 => AJ prog (Builtin.append_ #[67,67] 67 #[.slice Hu n14 Ge,(.slice (aD b88 0) 1 1)]) (Hp.set DV b88 (.cells #[.slice zf zg zh,.int .u64 zi] 71 (0,0))) (CS fun p89 n89 c89 Ex => NK R Ir HE Is Iu Iv Iw Ix Iy Iz I0 I1 I2 false I3 D7 EF Eu Ev Ew E3 E4 E5 m12 p89 n89 c89 (aD jo jq) n41 jr Xo eH Ex)) (NK R Ir HE Is Iu Iv Iw Ix Iy Iz I0 I1 I2 false I3 D7 EF Eu Ev Ew E3 E4 E5 m12 Hu n14 Ge (aD jo jq) n41 jr Xo eH DV)))))))))))))) (Spec prog 148 #[.slice Hu n14 Ge] σ (AA R (fun z y => ∃ wE wF wG wH wJ wK wN wO AEt,z = (.tuple #[.agg #[.int .i64 wE,.int .u64 wF,.slice wG wH wJ,.slice wK wN wO],.int .i64 AEt]) ∧ R (.returned (.tuple #[.agg #[.int .i64 wE,.int .u64 wF,.slice wG wH wJ,.slice wK wN wO],.int .i64 AEt])) y)))) : Vm R Ir HE Is Iu Iv Iw Ix Iy Iz I0 I1 I2 Jw I3 D7 EF Eu Ev Ew E3 E4 E5 m12 Hu n14 Ge v7 n41 jr Xo eH σ := M.gU h ok rfl fun _ _ => by kernel_rfl
theorem Vn (h : AN (eH + 1) ∧ Vm R Ir HE Is Iu Iv Iw Ix Iy Iz I0 I1 I2 Jw I3 D7 EF Eu Ev Ew E3 E4 E5 m12 Hu n14 Ge v7 n41 jr Xo (eH + 1) σ) : NK R Ir HE Is Iu Iv Iw Ix Iy Iz I0 I1 I2 Jw I3 D7 EF Eu Ev Ew E3 E4 E5 m12 Hu n14 Ge v7 n41 jr Xo eH σ := M.gU h ok rfl fun _ _ => by kernel_rfl
end Ap
namespace Xp
variable {v0 : Value}
def M : Fw := ⟨prog,181,f181,[],[],false,[],[],[]⟩
theorem ok : M.Ok := ⟨AG.nil,mixed,func181,by kernel_rfl⟩
theorem start (h : EN prog 45 #[v0] σ (CI .u64 fun x4 y => Df (Go.bits .andNot .u64 x4 9223372036854775808) fun x5 => EN prog 22 #[.int .u64 x5] y (fun z AF => ∃ x6,(Value.float .f64 x6) = z ∧ R (.returned (Value.float .f64 x6)) AF))) : Spec prog 181 #[v0] σ R := M.D6 h ok [(0,.o (.V v0))] rfl rfl (by kernel_rfl)
end Xp
namespace CL
variable {f0 : Fn} {a0 c0 : Array Value}
def M : Fw := ⟨prog,184,f184,[],[],false,[],[],[]⟩
theorem ok : M.Ok := ⟨AG.nil,mixed,func184,by kernel_rfl⟩
theorem start (h : Al σ fun b1 => R (.returned (.func (.func 224) #[] #[(.pointer (aD b1 0))])) (Hp.set σ b1 (.cells #[(Value.func f0 a0 c0)] 201 (0,0)))) : Spec prog 184 #[(Value.func f0 a0 c0)] σ R := M.D6 h ok [(0,.o (.V (Value.func f0 a0 c0)))] rfl rfl (by kernel_rfl)
end CL
namespace BQ
variable {p0 : Option Addr} {n0 c0 : Nat} {x3 : Int}
def M : Fw := ⟨prog,187,f187,[225],[],false,[],[],[(224,[(0,wL),(3,wI)])]⟩
theorem ok : M.Ok := ⟨.cons call225 (AG.nil),mixed,func187,by kernel_rfl⟩
def Gf := M.pt 0
theorem start (h : Gf R p0 n0 c0 8 σ) : Spec prog 187 #[.slice p0 n0 c0] σ R := M.start h ok
theorem BA (h : Br ((n0 : Int) < x3) (2 ≠ (0 : Int) ∧ Df (IntKind.i64.wrap (Int.tdiv x3 2)) fun x11 => Gf R p0 n0 c0 x11 σ) (AN ((n0 : Int) - x3) ∧ ((0 : Int) ≤ ((n0 : Int) - x3) ∧ ((n0 : Int) - x3) ≤ (n0 : Int)) ∧ Spec prog 225 #[(.slice (Ic p0 (Int.toNat ((n0 : Int) - x3)) c0 1) (n0 - Int.toNat ((n0 : Int) - x3)) (c0 - Int.toNat ((n0 : Int) - x3)))] σ (AA R (fun z y => ∃ Jx Oc,z = (.tuple #[.int .u64 Jx,.int .i64 Oc]) ∧ R (.returned (.int .u64 Jx)) y)))) : Gf R p0 n0 c0 x3 σ := M.of h ok rfl
end BQ
namespace RX
variable {v0 : Value}
def M : Fw := ⟨prog,216,f216,[],[],false,[],[],[]⟩
theorem ok : M.Ok := ⟨AG.nil,mixed,func216,by kernel_rfl⟩
theorem start (h : ∃ t5,YF prog ((do eqGuard .neq 51 (.tmp 3) (.tmp 4) v0 v0; binOp .neq 51 v0 v0)) σ (.bool t5) ∧ R (.returned (.bool t5)) σ) : Spec prog 216 #[v0] σ R := M.D6 h ok [(0,.o (.V v0))] rfl rfl (by kernel_rfl)
end RX
namespace I4
variable {p0 Dc Dn p2 : Option Addr} {n0 c0 De Dg Dh Dp n2 c2 b3 : Nat} {DW CP DX Dd C1 CW : Int} {DY : ByteArray} {C2 : Bool}
def M : Fw := ⟨prog,226,f226,[],[5],false,[],[],[]⟩
theorem ok : M.Ok := ⟨AG.nil,mixed,func226,by kernel_rfl⟩
theorem start (h : ∀ b5 : Nat,Br ((n0 : Int) < 2) (R (.returned (.tuple #[.int .u64 0,.bool false])) σ) (∃ v12,Hp.ld σ ⟨b3,0,none⟩ = some v12 ∧ ∃ (f15 : Nat) (wP wR : Array Value),v12 = .func (.func f15) wP wR ∧ Enters prog f15 ∧ Spec prog f15 (wP ++ #[.slice p0 n0 c0,.slice p2 n2 c2] ++ wR) σ (AA R (CI .u64 fun x15 y => R (.returned (.tuple #[.int .u64 x15,.bool true])) y)))) : Spec prog 226 #[.slice p0 n0 c0,.agg #[.int .i64 DW,.int .i64 CP,.string DY,.slice Dc De Dg,.int .i64 DX,.int .i64 Dd,.int .i64 C1,.slice Dn Dh Dp,.bool C2,.int .i64 CW],.slice p2 n2 c2,(.pointer (aD b3 0))] σ R := M.start h ok
end I4
namespace C3
variable {Tt js : Option Addr} {MG RY gn lJ : Nat} {s1 : ByteArray} {x65 wS : Int}
def M : Fw := ⟨prog,257,f257,[260,285,286],[2],false,[(1,14,true)],[],[(2024,[(1,wT),(64,wL),(65,wI),(66,wI)])]⟩
theorem ok : M.Ok := ⟨.cons call260 (.cons call285 (.cons call286 (AG.nil))),mixed,func257,by kernel_rfl⟩
def Ls := M.pt 0
theorem start (h : ∀ b2 : Nat,Pq Tt fun PM P1 => In 0 (MG : Int) ∧ LT σ PM P1 fun zk => AN ((MG : Int) - 1) ∧ In (((MG : Int) - 1)) (MG : Int) ∧ LT σ PM (P1 + Int.toNat ((MG : Int) - 1) * 1) fun zl => Br ((MG : Int) = 1) (R (.returned (.bool (ByteArray.toList s1 == ByteArray.toList zk))) σ) (AN (((ByteArray.size zk : Nat) : Int) + ((ByteArray.size zl : Nat) : Int)) ∧ Br ((((ByteArray.size s1 : Nat) : Int) : Int) < (((ByteArray.size zk : Nat) : Int) + ((ByteArray.size zl : Nat) : Int))) (R (.returned (.bool false)) σ) (Spec prog 285 #[.string s1,.string zk] σ (AA R (CB fun t40 y => Bn t40 (R (.returned (.bool false)) y) (Spec prog 286 #[.string s1,.string zl] y (AA R (CB fun t46 AF => Bn t46 (R (.returned (.bool false)) AF) (AN (((ByteArray.size s1 : Nat) : Int) - ((ByteArray.size zl : Nat) : Int)) ∧ ∃ s57,YF prog (Instr.sliceAt 9 (.string s1) (some (.int .i64 ((ByteArray.size zk : Nat) : Int))) (some (.int .i64 (((ByteArray.size s1 : Nat) : Int) - ((ByteArray.size zl : Nat) : Int)))) none) AF (.string s57) ∧ AN ((MG : Int) - 1) ∧ ((0 : Int) ≤ 1 ∧ 1 ≤ ((MG : Int) - 1) ∧ ((MG : Int) - 1) ≤ (RY : Int)) ∧ Ls R s57 ((Ic (aD PM P1) (1) RY 1)) ((Int.toNat ((MG : Int) - 1) - 1)) (RY - 1) ((((Int.toNat ((MG : Int) - 1) - 1) : Nat) : Int)) 0 AF))))))))) : Spec prog 257 #[.agg #[.slice Tt MG RY],.string s1] σ R := M.start h ok
theorem I5 (h : Br (wS < x65) (Pq js fun b68 o68 => In wS (gn : Int) ∧ LT σ b68 (o68 + Int.toNat wS * 1) fun s69 => Spec prog 260 #[.string s1,.string s69] σ (AA R (CI .i64 fun x72 y => Br (x72 < 0) (R (.returned (.bool false)) y) (AN (x72 + ((ByteArray.size s69 : Nat) : Int)) ∧ ∃ s80,YF prog (Instr.sliceAt 9 (.string s1) (some (.int .i64 (x72 + ((ByteArray.size s69 : Nat) : Int)))) none none) y (.string s80) ∧ AN (wS + 1) ∧ Ls R s80 (aD b68 o68) gn lJ x65 (wS + 1) y)))) (R (.returned (.bool true)) σ)) : Ls R s1 js gn lJ x65 wS σ := M.of h ok rfl
end C3
namespace EZ
variable {q0 : Option Addr}
def M : Fw := ⟨prog,298,f298,[66,67,135],[],false,[],[],[(14,[(0,wQ)])]⟩
theorem ok : M.Ok := ⟨.cons call66 (.cons call67 (.cons call135 (AG.nil))),mixed,func298,by kernel_rfl⟩
def Gf := M.pt 0
theorem start (h : Spec prog 66 #[.pointer q0] σ (AA R (fun z y => ∃ F2 Ff HU x4d,z = (.agg #[.int .i64 F2,.int .i64 Ff,.string HU,.int .i64 x4d]) ∧ Br (F2 ≠ 2) (Spec prog 67 #[.pointer q0] y (AA R (fun z AF => z = (.tuple #[]) ∧ Gf R q0 AF))) (Gf R q0 y)))) : Spec prog 298 #[.pointer q0] σ R := M.start h ok
theorem BA (h : Spec prog 135 #[.pointer q0] σ (AA R (fun z y => ∃ Iq zm ALg AEv,z = (.agg #[.int .i64 Iq,.int .i64 zm,.string ALg,.int .i64 AEv]) ∧ R (.returned (.int .i64 AEv)) y))) : Gf R q0 σ := M.of h ok rfl
end EZ
end TwW
end
end
section
set_option maxRecDepth 100000
noncomputable section
namespace TwW
open Go Tw Go.Proofs.Tryz
variable [Ey] {R : Rr} {σ : Hp}

namespace Fg
variable {s0 : ByteArray} {x3 : Int}
def M : Fw := ⟨prog,19,f19,[42],[],false,[],[],[(208,[(0,wT),(3,wI)])]⟩
theorem ok : M.Ok := ⟨.cons call42 (AG.nil),mixed,func19,by kernel_rfl⟩
def Gf := M.pt 0
theorem start (h : Gf R s0 0 σ) : Spec prog 19 #[.string s0] σ R := M.start h ok
theorem BA (h : Br (x3 < ((ByteArray.size s0 : Nat) : Int)) (∃ wX : UInt8,0 ≤ x3 ∧ (ByteArray.data s0)[Int.toNat x3]? = some wX ∧ Br ((((UInt8.toNat wX : Nat) : Int) : Int) < 97) (R (.returned (.bool false)) σ) (∃ u17 : UInt8,0 ≤ x3 ∧ (ByteArray.data s0)[Int.toNat x3]? = some u17 ∧ Br ((122 : Int) < ((UInt8.toNat u17 : Nat) : Int)) (R (.returned (.bool false)) σ) (AN (x3 + 1) ∧ Gf R s0 (x3 + 1) σ))) (Bn ((ByteArray.toList s0 == ByteArray.toList (ByteArray.mk #[]))) (Br ((((ByteArray.size s0 : Nat) : Int) : Int) < 60) (Spec prog 42 #[.string s0] σ (AA R (CB fun t29 y => R (.returned (.bool (!t29))) y))) (R (.returned (.bool false)) σ)) (R (.returned (.bool false)) σ))) : Gf R s0 x3 σ := M.of h ok rfl
end Fg
namespace Fh
variable {p0 p1 Eu E3 : Option Addr} {n0 c0 n1 c1 Ev Ew E4 E5 : Nat} {x2 D7 EF x9 : Int}
def M : Fw := ⟨prog,30,f30,[47],[8],false,[],[],[(30,[(8,.X 93 [.I .i64,.I .u64,.L,.L]),(9,wI)])]⟩
theorem ok : M.Ok := ⟨.cons call47 (AG.nil),mixed,func30,by kernel_rfl⟩
def Bk := M.pt 0
theorem start (h : Al σ fun BL => Spec prog 47 #[(.pointer (aD BL 0)),.slice p0 n0 c0] (Hp.set σ BL (.cells #[.slice p1 n1 c1,.int .i64 x2] 97 (0,0))) (AA R (fun z y => ∃ eI eJ wY wZ wa lK lL lN zn,z = (.tuple #[.agg #[.int .i64 eI,.int .u64 eJ,.slice wY wZ wa,.slice lK lL lN],.int .i64 zn]) ∧ ∀ b8 : Nat,Br (eI = 1) (Al y fun Ji => Bk R eI eJ (aD Ji 0) 1 1 lK lL lN zn (Hp.set y Ji (.cells #[.slice none 0 0,.int .u64 eJ] 71 (0,0)))) (Bk R eI eJ wY wZ wa lK lL lN zn y)))) : Spec prog 30 #[.slice p0 n0 c0,.slice p1 n1 c1,.int .i64 x2] σ R := M.start h ok
theorem A5 (h : R (.returned (.tuple #[.slice Eu Ev Ew,.int .i64 x9])) σ) : Bk R D7 EF Eu Ev Ew E3 E4 E5 x9 σ := M.jj h ok rfl fun _ => by kernel_rfl
end Fh
namespace NL
variable {x0 x1 x2 : Int}
def M : Fw := ⟨prog,48,f48,[],[],false,[],[],[]⟩
theorem ok : M.Ok := ⟨AG.nil,mixed,func48,by kernel_rfl⟩
theorem start (h : Al σ fun b3 => Al (Hp.set σ b3 (.cells #[.int .i64 x0] 2 (0,0))) fun b4 => Al (Hp.set (Hp.set σ b3 (.cells #[.int .i64 x0] 2 (0,0))) b4 (.cells #[.int .i64 x1] 2 (0,0))) fun b5 => R (.returned (.func (.func 71) #[] #[(.pointer (aD b3 0)),(.pointer (aD b5 0)),(.pointer (aD b4 0))])) (Hp.set (Hp.set (Hp.set σ b3 (.cells #[.int .i64 x0] 2 (0,0))) b4 (.cells #[.int .i64 x1] 2 (0,0))) b5 (.cells #[.int .i64 x2] 2 (0,0)))) : Spec prog 48 #[.int .i64 x0,.int .i64 x1,.int .i64 x2] σ R := M.start h ok
end NL
namespace JR
variable {q0 Dc Dn : Option Addr} {DW CP DX Dd C1 CW : Int} {DY : ByteArray} {De Dg Dh Dp : Nat} {C2 : Bool}
def M : Fw := ⟨prog,53,f53,[79,80,81],[3],false,[(6,9,true)],[],[]⟩
theorem ok : M.Ok := ⟨.cons call79 (.cons call80 (.cons call81 (AG.nil))),mixed,func53,by kernel_rfl⟩
theorem start (h : ∀ b3 : Nat,Spec prog 79 #[.agg #[.int .i64 DW,.int .i64 CP,.string DY,.slice Dc De Dg,.int .i64 DX,.int .i64 Dd,.int .i64 C1,.slice Dn Dh Dp,.bool C2,.int .i64 CW]] σ (AA R (CB fun t10 y => Bn t10 (R (.returned (.int .i64 190)) y) (Pq q0 fun ME Vi => LS y ME Vi fun rH n18 rI => Br ((n18 : Int) < CW) (R (.returned (.int .i64 190)) y) (Spec prog 80 #[.slice Dc De Dg] y (AA R (CI .i64 fun JO AF => Br (JO ≠ 0) (R (.returned (.int .i64 193)) AF) (AJ prog (Instr.makeMap 150 none) AF (fun z AH => ∃ sr,z = (.map (some sr)) ∧ Spec prog 81 #[.int .i64 1] AH (AA R (fun z Ab => ∃ f27 a27 c27,(Value.func f27 a27 c27) = z ∧ AJ prog (Instr.mapUpdate 150 (.map (some sr)) (.int .i64 1) (Value.func f27 a27 c27)) Ab (fun _ DV => Spec prog 81 #[.int .i64 2] DV (AA R (fun z Ex => ∃ f28 a28 c28,(Value.func f28 a28 c28) = z ∧ AJ prog (Instr.mapUpdate 150 (.map (some sr)) (.int .i64 2) (Value.func f28 a28 c28)) Ex (fun _ D3 => Spec prog 81 #[.int .i64 3] D3 (AA R (fun z Hk => ∃ f29 a29 c29,(Value.func f29 a29 c29) = z ∧ AJ prog (Instr.mapUpdate 150 (.map (some sr)) (.int .i64 3) (Value.func f29 a29 c29)) Hk (fun _ P4 => AJ prog (Instr.mapUpdate 150 (.map (some sr)) (.int .i64 4) (.func (.func 82) #[(.pointer (aD ME Vi))] #[])) P4 (fun _ Lt => AJ prog (Instr.mapUpdate 150 (.map (some sr)) (.int .i64 5) (.func (.func 83) #[(.pointer (aD ME Vi))] #[])) Lt (fun _ lO => AJ prog (Instr.mapUpdate 150 (.map (some sr)) (.int .i64 6) (.func (.func 84) #[(.pointer (aD ME Vi))] #[])) lO (fun _ ALh => AJ prog (Instr.mapUpdate 150 (.map (some sr)) (.int .i64 7) (.func (.func 85) #[(.pointer (aD ME Vi))] #[])) ALh (fun _ su => LS su ME Vi fun p42 n42 c42 => AN ((n42 : Int) - CW) ∧ LS su ME Vi fun p56 n56 c56 => ((0 : Int) ≤ ((n42 : Int) - CW) ∧ ((n42 : Int) - CW) ≤ (n56 : Int)) ∧ AJ prog (Instr.lookup 150 (.map (some sr)) (.int .i64 DW) false) su (fun z AEx => ∃ v51,v51 = z ∧ Kp [ME] su AEx ∧ ∃ (f59 : Nat) (wc we : Array Value),v51 = .func (.func f59) wc we ∧ Enters prog f59 ∧ Spec prog f59 (wc ++ #[.agg #[.int .i64 DW,.int .i64 CP,.string DY,.slice Dc De Dg,.int .i64 DX,.int .i64 Dd,.int .i64 C1,.slice Dn Dh Dp,.bool C2,.int .i64 CW],(.slice (Ic p56 (Int.toNat ((n42 : Int) - CW)) c56 1) (n56 - Int.toNat ((n42 : Int) - CW)) (c56 - Int.toNat ((n42 : Int) - CW)))] ++ we) AEx (AA R (fun z bN => ∃ Vo Hl,z = (.tuple #[.int .i64 Vo,.int .i64 Hl]) ∧ LS bN ME Vi fun rJ lP eM => ((0 : Int) ≤ ((n42 : Int) - CW) ∧ ((n42 : Int) - CW) ≤ (eM : Int)) ∧ Al bN fun Vg => AJ prog (Builtin.append_ #[108,108] 108 #[(.slice rJ (Int.toNat ((n42 : Int) - CW)) eM),(.slice (aD Vg 0) 1 1)]) (Hp.set bN Vg (.cells #[.int .i64 Vo] 113 (0,0))) (CS fun p72 n72 c72 zo => AJ prog (Instr.storeAt 108 (.pointer (aD ME Vi)) (.slice p72 n72 c72)) zo (fun _ zp => R (.returned (.int .i64 Hl)) zp))))))))))))))))))))))))))) : Spec prog 53 #[.pointer q0,.agg #[.int .i64 DW,.int .i64 CP,.string DY,.slice Dc De Dg,.int .i64 DX,.int .i64 Dd,.int .i64 C1,.slice Dn Dh Dp,.bool C2,.int .i64 CW]] σ R := M.start h ok
end JR
namespace Dq
variable {p0 : Option Addr} {n0 c0 : Nat} {x3 : Int}
def M : Fw := ⟨prog,69,f69,[],[],false,[(4,12,true)],[],[(208,[(0,wL),(3,wI)])]⟩
theorem ok : M.Ok := ⟨AG.nil,mixed,func69,by kernel_rfl⟩
def Gf := M.pt 0
theorem start (h : Gf R p0 n0 c0 1 σ) : Spec prog 69 #[.slice p0 n0 c0] σ R := M.start h ok
theorem BA (h : Br (x3 < (n0 : Int)) (Pq p0 fun PM P1 => In x3 (n0 : Int) ∧ LI .i64 σ PM (P1 + Int.toNat x3 * 2) fun Zx => AN (x3 - 1) ∧ In (x3 - 1) (n0 : Int) ∧ LI .i64 σ PM (P1 + Int.toNat (x3 - 1) * 2) fun Hj => Br (Zx ≤ Hj) (R (.returned (.bool false)) σ) (AN (x3 + 1) ∧ Gf R (aD PM P1) n0 c0 (x3 + 1) σ)) (R (.returned (.bool (decide (0 < (n0 : Int))))) σ)) : Gf R p0 n0 c0 x3 σ := M.of h ok rfl
end Dq
namespace HV
variable {s0 : ByteArray} {x1 : Int}
def M : Fw := ⟨prog,130,f130,[169],[],false,[],[],[]⟩
theorem ok : M.Ok := ⟨.cons call169 (AG.nil),mixed,func130,by kernel_rfl⟩
theorem start (h : Spec prog 169 #[.string s0,.int .u8 x1] σ (AA R (CI .i64 fun x7 y => R (.returned (.int .i64 x7)) y))) : Spec prog 130 #[.string s0,.int .u8 x1] σ R := M.start h ok
end HV
namespace NN
variable {s0 : ByteArray}
def M : Fw := ⟨prog,132,f132,[],[],false,[],[],[]⟩
theorem ok : M.Ok := ⟨AG.nil,mixed,func132,by kernel_rfl⟩
theorem start (h : Br ((1 : Int) < ((ByteArray.size s0 : Nat) : Int)) (∃ u8 : UInt8,(0 : Int) ≤ 0 ∧ (ByteArray.data s0)[Int.toNat 0]? = some u8 ∧ R (.returned (.bool (decide ((((UInt8.toNat u8 : Nat) : Int) : Int) = 48)))) σ) (R (.returned (.bool false)) σ)) : Spec prog 132 #[.string s0] σ R := M.start h ok
end NN
namespace PQ
variable {p0 : Option Addr} {n0 c0 : Nat} {x1 x2 : Int}
def M : Fw := ⟨prog,141,f141,[175],[],false,[],[],[]⟩
theorem ok : M.Ok := ⟨.cons call175 (AG.nil),mixed,func141,by kernel_rfl⟩
theorem start (h : Spec prog 175 #[.slice p0 n0 c0,.int .i64 x1,(.func (.func 176) #[] #[])] σ (AA R (fun z y => ∃ GQ ALl,z = (.tuple #[.int .i64 GQ,.bool ALl]) ∧ Spec prog 175 #[.slice p0 n0 c0,.int .i64 x2,(.func (.func 177) #[] #[])] y (AA R (fun z AF => ∃ IF ALm,z = (.tuple #[.int .i64 IF,.bool ALm]) ∧ ((0 : Int) ≤ (if IF < GQ then IF else GQ) ∧ (if IF < GQ then IF else GQ) ≤ IF ∧ IF ≤ (c0 : Int)) ∧ R (.returned (.slice (Ic p0 (Int.toNat (if IF < GQ then IF else GQ)) c0 2) (Int.toNat IF - Int.toNat (if IF < GQ then IF else GQ)) (c0 - Int.toNat (if IF < GQ then IF else GQ)))) AF))))) : Spec prog 141 #[.slice p0 n0 c0,.int .i64 x1,.int .i64 x2] σ R := M.start h ok
end PQ
namespace I6
variable {x0 : Int}
def M : Fw := ⟨prog,145,f145,[174,182,183],[],false,[],[],[]⟩
theorem ok : M.Ok := ⟨.cons call174 (.cons call182 (.cons call183 (AG.nil))),mixed,func145,by kernel_rfl⟩
theorem start (h : Spec prog 182 #[.int .u64 x0] σ (AA R (fun z y => ∃ x4,(Value.float .f64 x4) = z ∧ Spec prog 183 #[(Value.float .f64 x4)] y (AA R (fun z AF => ∃ x5,(Value.float .f64 x5) = z ∧ Spec prog 174 #[(Value.float .f64 x5)] AF (AA R (CI .u64 fun x6 AH => R (.returned (.int .u64 x6)) AH))))))) : Spec prog 145 #[.int .u64 x0] σ R := M.start h ok
end I6
namespace A3
variable {q0 Dc Dn p2 Iu I0 Eu E3 Zy eO : Option Addr} {DW CP DX Dd C1 CW Ir HE Ix Iy Iz I3 D7 EF x16 x17 : Int} {DY Is : ByteArray} {De Dg Dh Dp n2 c2 Iv Iw I1 I2 Ev Ew E4 E5 n10 Tu n15 Xq : Nat} {C2 Jw : Bool} {v3 : Value}
def M : Fw := ⟨prog,157,f157,[124,146,148],[5,8,12],false,[],[],[(232,[(3,wV),(5,.X 36 [.I .i64,.I .i64,.T,.L,.I .i64,.I .i64,.I .i64,.L,.B,.I .i64]),(8,.X 93 [.I .i64,.I .u64,.L,.L]),(10,wL),(15,wL),(16,wI),(17,wI)]),(935,[(3,wV),(5,.X 36 [.I .i64,.I .i64,.T,.L,.I .i64,.I .i64,.I .i64,.L,.B,.I .i64]),(8,.X 93 [.I .i64,.I .u64,.L,.L]),(10,wL),(15,wL),(16,wI),(17,wI)])]⟩
theorem ok : M.Ok := ⟨.cons call124 (.cons call146 (.cons call148 (AG.nil))),mixed,func157,by kernel_rfl⟩
def A8 := M.pt 0
def FJ := M.pt 1
theorem start (h : ∀ b5 : Nat,∀ b8 : Nat,A8 R v3 DW CP DY Dc De Dg DX Dd C1 Dn Dh Dp C2 CW 0 0 none 0 0 none 0 0 none 0 0 p2 n2 c2 (n2 : Int) 0 σ) : Spec prog 157 #[.pointer q0,.agg #[.int .i64 DW,.int .i64 CP,.string DY,.slice Dc De Dg,.int .i64 DX,.int .i64 Dd,.int .i64 C1,.slice Dn Dh Dp,.bool C2,.int .i64 CW],.slice p2 n2 c2,v3] σ R := M.D6 h ok [(0,.o (.Q q0)),(1,.G [.I .i64 DW,.I .i64 CP,.T DY,.L Dc De Dg,.I .i64 DX,.I .i64 Dd,.I .i64 C1,.L Dn Dh Dp,.B C2,.I .i64 CW]),(2,.o (.L p2 n2 c2)),(3,.o (.V v3))] rfl rfl (by kernel_rfl)
theorem Aa (h : Br (x17 < x16) (Pq eO fun CR Wm => In x17 (n15 : Int) ∧ ∃ sv tA tB Vp,Au σ CR (Wm + Int.toNat x17 * 2) [.slice sv tA tB,.int .u64 Vp] ∧ ∀ PM : Nat,∃ (f25 : Nat) (wg wh : Array Value),v3 = .func (.func f25) wg wh ∧ Enters prog f25 ∧ Spec prog f25 (wg ++ #[.int .u64 Vp] ++ wh) σ (AA R (fun z y => ∃ zq lI,z = (.tuple #[.int .u64 zq,.bool lI]) ∧ Spec prog 124 #[.int .i64 HE] y (AA R (CB fun t31 AF => Bn t31 (Spec prog 146 #[.slice sv tA tB] AF (AA R (CS fun zr n40 zt AH => Al AH fun eE => AJ prog (Builtin.append_ #[67,67] 67 #[.slice Zy n10 Tu,(.slice (aD eE 0) 1 1)]) (Hp.set AH eE (.cells #[.slice zr n40 zt,.int .u64 zq] 71 (0,0))) (CS fun zu n44 zv Ab => FJ R v3 Ir HE Is Iu Iv Iw Ix Iy Iz I0 I1 I2 Jw I3 D7 EF Eu Ev Ew E3 E4 E5 zu n44 zv (aD CR Wm) n15 Xq x16 x17 Ab)))) (Bo Jw (Spec prog 146 #[.slice sv tA tB] AF (AA R (CS fun zr n40 zt AH => Al AH fun eE => AJ prog (Builtin.append_ #[67,67] 67 #[.slice Zy n10 Tu,(.slice (aD eE 0) 1 1)]) (Hp.set AH eE (.cells #[.slice zr n40 zt,.int .u64 zq] 71 (0,0))) (CS fun zu n44 zv Ab => FJ R v3 Ir HE Is Iu Iv Iw Ix Iy Iz I0 I1 I2 true I3 D7 EF Eu Ev Ew E3 E4 E5 zu n44 zv (aD CR Wm) n15 Xq x16 x17 Ab)))) (Bo lI (Al AF fun Ui => AJ prog (Builtin.append_ #[67,67] 67 #[.slice Zy n10 Tu,(.slice (aD Ui 0) 1 1)]) (Hp.set AF Ui (.cells #[.slice sv tA tB,.int .u64 Vp] 71 (0,0))) (CS fun bL n50 bM AH => FJ R v3 Ir HE Is Iu Iv Iw Ix Iy Iz I0 I1 I2 false I3 D7 EF Eu Ev Ew E3 E4 E5 bL n50 bM (aD CR Wm) n15 Xq x16 x17 AH)) (FJ R v3 Ir HE Is Iu Iv Iw Ix Iy Iz I0 I1 I2 false I3 D7 EF Eu Ev Ew E3 E4 E5 Zy n10 Tu (aD CR Wm) n15 Xq x16 x17 AF)))))))) (Spec prog 148 #[.slice Zy n10 Tu] σ (AA R (fun z y => ∃ Xr Xs Xt Xu Xv Xw Xx Xy lQ,z = (.tuple #[.agg #[.int .i64 Xr,.int .u64 Xs,.slice Xt Xu Xv,.slice Xw Xx Xy],.int .i64 lQ]) ∧ R (.returned (.tuple #[.agg #[.int .i64 Xr,.int .u64 Xs,.slice Xt Xu Xv,.slice Xw Xx Xy],.int .i64 lQ])) y)))) : A8 R v3 Ir HE Is Iu Iv Iw Ix Iy Iz I0 I1 I2 Jw I3 D7 EF Eu Ev Ew E3 E4 E5 Zy n10 Tu eO n15 Xq x16 x17 σ := M.gU h ok rfl fun _ _ => by kernel_rfl
theorem FX (h : AN (x17 + 1) ∧ A8 R v3 Ir HE Is Iu Iv Iw Ix Iy Iz I0 I1 I2 Jw I3 D7 EF Eu Ev Ew E3 E4 E5 Zy n10 Tu eO n15 Xq x16 (x17 + 1) σ) : FJ R v3 Ir HE Is Iu Iv Iw Ix Iy Iz I0 I1 I2 Jw I3 D7 EF Eu Ev Ew E3 E4 E5 Zy n10 Tu eO n15 Xq x16 x17 σ := M.gU h ok rfl fun _ _ => by kernel_rfl
end A3
namespace PR
def M : Fw := ⟨prog,178,f178,[],[],false,[],[],[]⟩
theorem ok : M.Ok := ⟨AG.nil,mixed,func178,by kernel_rfl⟩
theorem start (h : Al σ fun b1 => R (.returned (.slice (aD b1 0) 5 5)) (Hp.set σ b1 (.cells #[.nilFunc,(.func (.func 217) #[] #[]),(.func (.func 218) #[] #[]),(.func (.func 219) #[] #[]),(.func (.func 220) #[] #[])] 221 (0,0)))) : Spec prog 178 #[] σ R := M.start h ok
end PR
namespace Dr
variable {s0 : ByteArray} {p2 p3 p7 : Option Addr} {n2 c2 n3 c3 n7 c7 : Nat} {x8 x9 : Int}
def M : Fw := ⟨prog,179,f179,[221],[2,3],false,[(5,8,false)],[],[(232,[(2,.X 224 [.L]),(3,.X 224 [.L]),(7,wL),(8,wI),(9,wI)])]⟩
theorem ok : M.Ok := ⟨.cons call221 (AG.nil),mixed,func179,by kernel_rfl⟩
def A8 := M.pt 0
theorem start (h : ∀ b2 : Nat,∀ b3 : Nat,Spec prog 221 #[.string s0,(.string (ByteArray.mk #[124]))] σ (AA R (CS fun p7 n7 c7 y => A8 R none 0 0 none 0 0 p7 n7 c7 (n7 : Int) 0 y))) : Spec prog 179 #[.string s0] σ R := M.start h ok
theorem Aa (h : Br (x9 < x8) (Pq p7 fun BF jt => In x9 (n7 : Int) ∧ LT σ BF (jt + Int.toNat x9 * 1) fun s12 => Spec prog 221 #[.string s12,(.string (ByteArray.mk #[42]))] σ (AA R (CS fun Wl n16 To y => Al y fun Uh => AJ prog (Builtin.append_ #[222,222] 222 #[.slice p3 n3 c3,(.slice (aD Uh 0) 1 1)]) (Hp.set y Uh (.cells #[.slice Wl n16 To] 257 (0,0))) (CS fun p19 n19 c19 AF => AN (x9 + 1) ∧ A8 R p2 n2 c2 p19 n19 c19 (aD BF jt) n7 c7 x8 (x9 + 1) AF)))) (R (.returned (.agg #[.slice p3 n3 c3])) σ)) : A8 R p2 n2 c2 p3 n3 c3 p7 n7 c7 x8 x9 σ := M.gU h ok rfl fun _ _ => by kernel_rfl
end Dr
namespace PS
variable {x0 : Int}
def M : Fw := ⟨prog,186,f186,[174,182],[],false,[],[],[]⟩
theorem ok : M.Ok := ⟨.cons call174 (.cons call182 (AG.nil)),mixed,func186,by kernel_rfl⟩
theorem start (h : Spec prog 182 #[.int .u64 x0] σ (AA R (fun z y => ∃ x4,(Value.float .f64 x4) = z ∧ Spec prog 174 #[(Value.float .f64 x4)] y (AA R (CI .u64 fun x5 AF => R (.returned (.int .u64 x5)) AF))))) : Spec prog 186 #[.int .u64 x0] σ R := M.start h ok
end PS
namespace Xz
variable {x0 x1 : Int}
def M : Fw := ⟨prog,194,f194,[203],[],false,[],[],[]⟩
theorem ok : M.Ok := ⟨.cons call203 (AG.nil),mixed,func194,by kernel_rfl⟩
theorem start (h : Spec prog 203 #[.int .i64 4,.int .u64 x0,.int .u64 x1] σ (AA R (fun z y => ∃ Iq RQ,z = (.tuple #[.int .u64 Iq,.bool RQ]) ∧ R (.returned (.int .u64 Iq)) y))) : Spec prog 194 #[.int .u64 x0,.int .u64 x1] σ R := M.start h ok
end Xz
namespace MH
variable {Tt p1a : Option Addr} {MG RY n1a c1a : Nat} {EX CP : Int}
def M : Fw := ⟨prog,196,f196,[52],[2,3],false,[],[],[]⟩
theorem ok : M.Ok := ⟨.cons call52 (AG.nil),mixed,func196,by kernel_rfl⟩
theorem start (h : ∀ b2 : Nat,∀ b3 : Nat,Spec prog 52 #[.slice Tt MG RY,.slice p1a n1a c1a] σ (AA R (CI .i64 fun x9 y => R (.returned (.int .i64 x9)) y))) : Spec prog 196 #[.agg #[.slice Tt MG RY,.int .u64 EX],.agg #[.slice p1a n1a c1a,.int .u64 CP]] σ R := M.start h ok
end MH
namespace Ea
variable {p0 : Option Addr} {n0 c0 : Nat} {s1 : ByteArray}
def M : Fw := ⟨prog,199,f199,[228],[],false,[],[],[]⟩
theorem ok : M.Ok := ⟨.cons call228 (AG.nil),mixed,func199,by kernel_rfl⟩
theorem start (h : Spec prog 228 #[.slice p0 n0 c0,.string s1] σ (AA R (CI .i64 fun x7 y => R (.returned (.bool (decide (0 ≤ x7)))) y))) : Spec prog 199 #[.slice p0 n0 c0,.string s1] σ R := M.start h ok
end Ea
namespace FK
variable {x0 x5 x15 x16 : Int} {p1 Hu : Option Addr} {n1 c1 n14 Ge : Nat}
def M : Fw := ⟨prog,202,f202,[186,204,229],[],false,[],[],[(232,[(0,wI),(5,wU),(14,wL),(15,wI),(16,wI)]),(935,[(0,wI),(5,wU),(14,wL),(15,wI),(16,wI)])]⟩
theorem ok : M.Ok := ⟨.cons call186 (.cons call204 (.cons call229 (AG.nil))),mixed,func202,by kernel_rfl⟩
def A8 := M.pt 0
def lR := M.pt 1
theorem start (h : Pq p1 fun BF jt => In 0 (n1 : Int) ∧ LI .u64 σ BF jt fun x12 => ((0 : Int) ≤ 1 ∧ 1 ≤ (n1 : Int)) ∧ A8 R x0 x12 ((Ic (aD BF jt) (1) c1 1)) (n1 - 1) (c1 - 1) ((((n1 - 1) : Nat) : Int)) 0 σ) : Spec prog 202 #[.int .i64 x0,.slice p1 n1 c1] σ R := M.start h ok
theorem Aa (h : Br (x16 < x15) (Pq Hu fun Uh bO => In x16 (n14 : Int) ∧ LI .u64 σ Uh (bO + Int.toNat x16 * 1) fun Dm => Spec prog 204 #[.int .i64 x0,.int .u64 Dm,.int .u64 x5] σ (AA R (fun z y => ∃ AE3 ALn,z = (.tuple #[.bool AE3,.bool ALn]) ∧ Bo AE3 (lR R x0 Dm (aD Uh bO) n14 Ge x15 x16 y) (Spec prog 229 #[.int .u64 x5] y (AA R (CB fun t30 AF => Bo t30 (lR R x0 Dm (aD Uh bO) n14 Ge x15 x16 AF) (lR R x0 x5 (aD Uh bO) n14 Ge x15 x16 AF))))))) (Spec prog 186 #[.int .u64 x5] σ (AA R (CI .u64 fun Wn y => R (.returned (.int .u64 Wn)) y)))) : A8 R x0 x5 Hu n14 Ge x15 x16 σ := M.of h ok rfl
theorem tC (h : AN (x16 + 1) ∧ A8 R x0 x5 Hu n14 Ge x15 (x16 + 1) σ) : lR R x0 x5 Hu n14 Ge x15 x16 σ := M.of h ok rfl
end FK
namespace X0
variable {x0 : Int}
def M : Fw := ⟨prog,229,f229,[186],[],false,[],[],[]⟩
theorem ok : M.Ok := ⟨.cons call186 (AG.nil),mixed,func229,by kernel_rfl⟩
theorem start (h : Spec prog 186 #[.int .u64 x0] σ (AA R (CI .u64 fun x4 y => R (.returned (.bool (decide (x4 = 9221120237041090560)))) y))) : Spec prog 229 #[.int .u64 x0] σ R := M.start h ok
end X0
namespace BV
variable {Tt p8 : Option Addr} {MG RY n8 c8 : Nat} {s1 : ByteArray} {x9 x10 : Int}
def M : Fw := ⟨prog,236,f236,[257],[2,6],false,[],[],[(104,[(1,wT),(8,wL),(9,wI),(10,wI)])]⟩
theorem ok : M.Ok := ⟨.cons call257 (AG.nil),mixed,func236,by kernel_rfl⟩
def Hs := M.pt 0
theorem start (h : ∀ b2 : Nat,Hs R s1 Tt MG RY (MG : Int) 0 σ) : Spec prog 236 #[.agg #[.slice Tt MG RY],.string s1] σ R := M.start h ok
theorem Bg (h : Br (x10 < x9) (Pq p8 fun PM P1 => In x10 (n8 : Int) ∧ ∃ lS lT lU,Au σ PM (P1 + Int.toNat x10 * 1) [.slice lS lT lU] ∧ ∀ b6 : Nat,Spec prog 257 #[.agg #[.slice lS lT lU],.string s1] σ (AA R (CB fun t16 y => Bo t16 (R (.returned (.bool true)) y) (AN (x10 + 1) ∧ Hs R s1 (aD PM P1) n8 c8 x9 (x10 + 1) y)))) (R (.returned (.bool false)) σ)) : Hs R s1 p8 n8 c8 x9 x10 σ := M.of h ok rfl
end BV
namespace EG
variable {s0 : ByteArray} {x3 x8 x9 x16 : Int} {v4 v2 : Value} {t11 : Bool}
def M : Fw := ⟨prog,253,f253,[271,272,273,278,279,280,282,283],[],false,[],[],[(254,[(0,wT),(3,wI),(4,wV)]),(8190,[(2,wV),(3,wI),(4,wV)]),(32446,[(0,wT),(3,wI),(4,wV),(8,wU),(9,wI),(11,wB),(16,wU)])]⟩
theorem ok : M.Ok := ⟨.cons call271 (.cons call272 (.cons call273 (.cons call278 (.cons call279 (.cons call280 (.cons call282 (.cons call283 (AG.nil)))))))),mixed,func253,by kernel_rfl⟩
def ALo := M.pt 0
def AE4 := M.pt 2
theorem start (h : Spec prog 271 #[.string s0] σ (AA R (fun z y => ∃ AE5 RZ AE6,z = (.tuple #[AE5,.int .i64 RZ,.bool AE6]) ∧ Bo AE6 (R (.returned (.tuple #[AE5,.int .i64 RZ,.nilIface])) y) (Spec prog 272 #[.string s0] y (AA R (fun z AF => ∃ gq bP tD zw AE7 Ra AE8,z = (.tuple #[.int .u64 gq,.int .i64 bP,.bool tD,.bool zw,.bool AE7,.int .i64 Ra,.bool AE8]) ∧ Bn AE8 (R (.returned (.tuple #[.float .f64 0,.int .i64 Ra,(.iface 264 (.int .i64 2))])) AF) (Bo AE7 (∃ s53,YF prog (Instr.sliceAt 9 (.string s0) none (some (.int .i64 Ra)) none) AF (.string s53) ∧ Spec prog 273 #[.string s53,(.pointer (aD 6 0)),.int .u64 gq,.int .i64 bP,.bool tD,.bool zw] AF (AA R (fun z AH => ∃ AE9 AFA,z = (.tuple #[AE9,AFA]) ∧ R (.returned (.tuple #[AE9,.int .i64 Ra,AFA])) AH))) (LB AF 5 0 fun t64 => Bo t64 (Spec prog 280 #[.bool tD] AF (AA R (CI .u64 fun wS AH => ((0 : Int) ≤ 63 ∧ 63 ≤ ((IntKind.bits .u64 : Nat) : Int)) ∧ Df (IntKind.u64.wrap (wS * 2 ^ Int.toNat 63)) fun bQ => Br (gq = 0) (Df (Go.bits .or .u64 bQ 0) fun x71 => EN prog 281 #[.int .u64 x71] AH (fun z Ab => ∃ x72,(Value.float .f64 x72) = z ∧ R (.returned (.tuple #[(Value.float .f64 x72),.int .i64 Ra,.nilIface])) Ab)) (Br (310 < bP) (Df (Go.bits .or .u64 bQ 9218868437227405312) fun x77 => EN prog 281 #[.int .u64 x77] AH (fun z Ab => ∃ x78,(Value.float .f64 x78) = z ∧ R (.returned (.tuple #[(Value.float .f64 x78),.int .i64 Ra,(.iface 264 (.int .i64 1))])) Ab)) (Br (bP < (-345)) (Df (Go.bits .or .u64 bQ 0) fun x84 => EN prog 281 #[.int .u64 x84] AH (fun z Ab => ∃ x85,(Value.float .f64 x85) = z ∧ R (.returned (.tuple #[(Value.float .f64 x85),.int .i64 Ra,.nilIface])) Ab)) (Bn zw (Spec prog 282 #[.int .u64 gq,.int .i64 bP,.bool tD] AH (AA R (fun z Ab => ∃ AFC AFD,z = (.tuple #[AFC,.bool AFD]) ∧ Bo AFD (R (.returned (.tuple #[AFC,.int .i64 Ra,.nilIface])) Ab) (AE4 R s0 Ra .nilIface gq bP false bQ Ab)))) (AE4 R s0 Ra .nilIface gq bP true bQ AH))))))) (ALo R s0 Ra .nilIface AF))))))))) : Spec prog 253 #[.string s0] σ R := M.start h ok
end EG
namespace Ai
variable {s0 : ByteArray} {x5 x6 x12 x7 : Int} {t13 t16 t19 : Bool}
def M : Fw := ⟨prog,271,f271,[299,300,301],[],false,[],[],[(128001,[(0,wT),(5,wI),(6,wI),(12,w8),(13,wB)]),(256005,[(0,wT),(5,wI),(6,wI),(12,w8),(16,wB)]),(8004,[(0,wT),(5,wI),(6,wI)]),(256007,[(0,wT),(19,wB)]),(126,[]),(32022,[(5,wI),(6,wI),(7,wI)]),(32006,[(0,wT),(5,wI)])]⟩
theorem ok : M.Ok := ⟨.cons call299 (.cons call300 (.cons call301 (AG.nil))),mixed,func271,by kernel_rfl⟩
def FL := M.pt 0
def zx := M.pt 1
def ALq := M.pt 2
def X9 := M.pt 3
def zy := M.pt 4
def AFE := M.pt 6
theorem start (h : Br ((((ByteArray.size s0 : Nat) : Int) : Int) = 0) (R (.returned (.tuple #[.float .f64 0,.int .i64 0,.bool false])) σ) (∃ wX : UInt8,(0 : Int) ≤ 0 ∧ (ByteArray.data s0)[Int.toNat 0]? = some wX ∧ Br ((((UInt8.toNat wX : Nat) : Int) : Int) = 43) (FL R s0 1 0 (((UInt8.toNat wX : Nat) : Int)) true σ) (FL R s0 1 0 (((UInt8.toNat wX : Nat) : Int)) ((decide ((((UInt8.toNat wX : Nat) : Int) : Int) = 45))) σ))) : Spec prog 271 #[.string s0] σ R := M.start h ok
theorem Vq (h : Bo t13 (∃ u23 : UInt8,(0 : Int) ≤ 0 ∧ (ByteArray.data s0)[Int.toNat 0]? = some u23 ∧ Br ((((UInt8.toNat u23 : Nat) : Int) : Int) = 45) (AFE R s0 (-1) σ) (AFE R s0 x5 σ)) (Br (x12 = 105) (zx R s0 x5 x6 x12 true σ) (zx R s0 x5 x6 x12 ((decide (x12 = 73))) σ))) : FL R s0 x5 x6 x12 t13 σ := M.of h ok rfl
theorem tE (h : Bo t16 (ALq R s0 x5 x6 σ) (Br (x12 = 110) (X9 R s0 true σ) (X9 R s0 ((decide (x12 = 78))) σ))) : zx R s0 x5 x6 x12 t16 σ := M.of h ok rfl
theorem Vr (h : Bo t19 (Spec prog 299 #[.string s0,(.string (ByteArray.mk #[110,97,110]))] σ (AA R (CI .i64 fun lV y => Br (lV = 3) (Spec prog 301 #[] y (AA R (fun z AF => ∃ RL,(Value.float .f64 RL) = z ∧ R (.returned (.tuple #[(Value.float .f64 RL),.int .i64 3,.bool true])) AF))) (zy R y)))) (zy R σ)) : X9 R s0 t19 σ := M.of h ok rfl
theorem tF (h : R (.returned (.tuple #[.float .f64 0,.int .i64 0,.bool false])) σ) : zy R  σ := M.of h ok rfl
end Ai
namespace CM
variable {t0 : Bool}
def M : Fw := ⟨prog,280,f280,[],[],false,[],[],[]⟩
theorem ok : M.Ok := ⟨AG.nil,mixed,func280,by kernel_rfl⟩
theorem start (h : Bo t0 (R (.returned (.int .u64 1)) σ) (R (.returned (.int .u64 0)) σ)) : Spec prog 280 #[.bool t0] σ R := M.start h ok
end CM
namespace HW
variable {s0 s1 : ByteArray}
def M : Fw := ⟨prog,286,f286,[316],[],false,[],[],[]⟩
theorem ok : M.Ok := ⟨.cons call316 (AG.nil),mixed,func286,by kernel_rfl⟩
theorem start (h : Spec prog 316 #[.string s0,.string s1] σ (AA R (CB fun t7 y => R (.returned (.bool t7)) y))) : Spec prog 286 #[.string s0,.string s1] σ R := M.start h ok
end HW
namespace CA
variable {s0 s1 : ByteArray}
def M : Fw := ⟨prog,316,f316,[],[],false,[],[],[]⟩
theorem ok : M.Ok := ⟨AG.nil,mixed,func316,by kernel_rfl⟩
theorem start (h : Br ((((ByteArray.size s1 : Nat) : Int) : Int) ≤ ((ByteArray.size s0 : Nat) : Int)) (AN (((ByteArray.size s0 : Nat) : Int) - ((ByteArray.size s1 : Nat) : Int)) ∧ ∃ s17,YF prog (Instr.sliceAt 9 (.string s0) (some (.int .i64 (((ByteArray.size s0 : Nat) : Int) - ((ByteArray.size s1 : Nat) : Int)))) none none) σ (.string s17) ∧ R (.returned (.bool (ByteArray.toList s17 == ByteArray.toList s1))) σ) (R (.returned (.bool false)) σ)) : Spec prog 316 #[.string s0,.string s1] σ R := M.start h ok
end CA
end TwW
end
end
section
set_option maxRecDepth 100000
noncomputable section
namespace TwW
open Go Tw Go.Proofs.Tryz
variable [Ey] {R : Rr} {σ : Hp}

namespace DF
variable {p0 p1 La p33 : Option Addr} {n0 c0 n1 c1 n11 Lc n33 c33 : Nat} {x2 zz Wn : Int}
def M : Fw := ⟨prog,11,f11,[28,29,30],[13],false,[],[],[(4072,[(2,wI),(11,wL),(33,wL),(34,wI),(35,wI)])]⟩
theorem ok : M.Ok := ⟨.cons call28 (.cons call29 (.cons call30 (AG.nil))),mixed,func11,by kernel_rfl⟩
def P5 := M.pt 0
theorem start (h : Spec prog 28 #[.slice p0 n0 c0,.slice p1 n1 c1] σ (AA R (CI .i64 fun x16 y => Br (x16 ≠ 0) (R (.returned (.tuple #[.slice none 0 0,.int .i64 x16])) y) (Spec prog 29 #[.int .i64 x2] y (AA R (CB fun t21 AF => Bn t21 (R (.returned (.tuple #[.slice none 0 0,.int .i64 221])) AF) (Spec prog 30 #[.slice p0 n0 c0,.slice p1 n1 c1,.int .i64 x2] AF (AA R (fun z AH => ∃ Mh Lu Mi YA,z = (.tuple #[.slice Mh Lu Mi,.int .i64 YA]) ∧ Br (YA ≠ 0) (R (.returned (.tuple #[.slice none 0 0,.int .i64 YA])) AH) (P5 R x2 none 0 0 Mh Lu Mi (Lu : Int) 0 AH)))))))))) : Spec prog 11 #[.slice p0 n0 c0,.slice p1 n1 c1,.int .i64 x2] σ R := M.start h ok
theorem Qc (h : Br (Wn < zz) (Pq p33 fun b37 o37 => In Wn (n33 : Int) ∧ ∃ tG tH tI HF,Au σ b37 (o37 + Int.toNat Wn * 2) [.slice tG tH tI,.int .u64 HF] ∧ ∀ DC : Nat,(Al σ fun Wo => (AJ prog (Builtin.append_ #[37,37] 37 #[(.slice (aD Wo 0) 0 0),.slice tG tH tI]) (Hp.set σ Wo (.cells #[] 56 (0,0))) (CS fun Wp n43 Wq y => Al y fun P6 => Al (Hp.set y P6 (.cells #[.int .i64 x2,.int .u64 HF] 50 (0,0))) fun Vs => AJ prog (Builtin.append_ #[23,23] 23 #[.slice La n11 Lc,(.slice (aD Vs 0) 1 1)]) (Hp.set (Hp.set y P6 (.cells #[.int .i64 x2,.int .u64 HF] 50 (0,0))) Vs (.cells #[.slice Wp n43 Wq,(.slice (aD P6 0) 1 1)] 40 (0,0))) (CS fun p51 n51 c51 AF => AN (Wn + 1) ∧ P5 R x2 p51 n51 c51 (aD b37 o37) n33 c33 zz (Wn + 1) AF))) ∧ (Al (Hp.set σ Wo (.cells #[] 56 (0,0))) fun P6 => AJ prog (Builtin.append_ #[37,37] 37 #[(.slice (aD Wo 0) 0 0),.slice tG tH tI]) (Hp.set (Hp.set σ Wo (.cells #[] 56 (0,0))) P6 (.cells #[.int .i64 x2,.int .u64 HF] 50 (0,0))) (CS fun Wp n43 Wq y => Al y fun Vs => AJ prog (Builtin.append_ #[23,23] 23 #[.slice La n11 Lc,(.slice (aD Vs 0) 1 1)]) (Hp.set y Vs (.cells #[.slice Wp n43 Wq,(.slice (aD P6 0) 1 1)] 40 (0,0))) (CS fun p51 n51 c51 AF => AN (Wn + 1) ∧ P5 R x2 p51 n51 c51 (aD b37 o37) n33 c33 zz (Wn + 1) AF)))) ∧ (Al σ fun P6 => Al (Hp.set σ P6 (.cells #[.int .i64 x2,.int .u64 HF] 50 (0,0))) fun Wo => AJ prog (Builtin.append_ #[37,37] 37 #[(.slice (aD Wo 0) 0 0),.slice tG tH tI]) (Hp.set (Hp.set σ P6 (.cells #[.int .i64 x2,.int .u64 HF] 50 (0,0))) Wo (.cells #[] 56 (0,0))) (CS fun Wp n43 Wq y => Al y fun Vs => AJ prog (Builtin.append_ #[23,23] 23 #[.slice La n11 Lc,(.slice (aD Vs 0) 1 1)]) (Hp.set y Vs (.cells #[.slice Wp n43 Wq,(.slice (aD P6 0) 1 1)] 40 (0,0))) (CS fun p51 n51 c51 AF => AN (Wn + 1) ∧ P5 R x2 p51 n51 c51 (aD b37 o37) n33 c33 zz (Wn + 1) AF)))) (R (.returned (.tuple #[.slice La n11 Lc,.int .i64 0])) σ)) : P5 R x2 La n11 Lc p33 n33 c33 zz Wn σ := M.of h ok rfl
end DF
namespace Rb
variable {s0 : ByteArray}
def M : Fw := ⟨prog,42,f42,[60,61,62],[],false,[],[],[]⟩
theorem ok : M.Ok := ⟨.cons call60 (.cons call61 (.cons call62 (AG.nil))),mixed,func42,by kernel_rfl⟩
theorem start (h : Spec prog 61 #[] σ (AA R (CS fun p3 n3 c3 y => Spec prog 60 #[.slice p3 n3 c3,.string s0] y (AA R (CI .i64 fun x5 AF => Br (0 ≤ x5) (R (.returned (.bool true)) AF) (Spec prog 62 #[] AF (AA R (CS fun p8 n8 c8 AH => Spec prog 60 #[.slice p8 n8 c8,.string s0] AH (AA R (CI .i64 fun x10 Ab => Br (0 ≤ x10) (R (.returned (.bool true)) Ab) (Al Ab fun BL => Spec prog 60 #[(.slice (aD BL 0) 9 9),.string s0] (Hp.set Ab BL (.cells #[(.string (ByteArray.mk #[111,114])),(.string (ByteArray.mk #[97,110,100])),(.string (ByteArray.mk #[117,110,108,101,115,115])),(.string (ByteArray.mk #[98,111,111,108])),(.string (ByteArray.mk #[111,110])),(.string (ByteArray.mk #[105,103,110,111,114,105,110,103])),(.string (ByteArray.mk #[98,121])),(.string (ByteArray.mk #[119,105,116,104,111,117,116])),(.string (ByteArray.mk #[111,102,102,115,101,116]))] 9 (0,0))) (AA R (CI .i64 fun x16 DV => R (.returned (.bool (decide (0 ≤ x16)))) DV))))))))))))) : Spec prog 42 #[.string s0] σ R := M.start h ok
end Rb
namespace CC
variable {q0 p1 p4c Gg p6 p7 Hu : Option Addr} {n1 c1 n4c c4c Gh Gi n6 c6 n7 c7 n14 Ge : Nat} {F2 Ff x15 x16 : Int}
def M : Fw := ⟨prog,47,f47,[70],[4,9],false,[],[],[(488,[(0,wQ),(4,.X 93 [.I .i64,.I .u64,.L,.L]),(6,wL),(7,wL),(14,wL),(15,wI),(16,wI)])]⟩
theorem ok : M.Ok := ⟨.cons call70 (AG.nil),mixed,func47,by kernel_rfl⟩
def E6 := M.pt 0
theorem start (h : ∀ b4 : Nat,Spec prog 70 #[] σ (AA R (CS fun p13 n13 c13 y => E6 R q0 0 0 none 0 0 none 0 0 p13 n13 c13 none 0 0 p1 n1 c1 (n1 : Int) 0 y))) : Spec prog 47 #[.pointer q0,.slice p1 n1 c1] σ R := M.start h ok
theorem FY (h : Br (x16 < x15) (Pq Hu fun Uh bO => In x16 (n14 : Int) ∧ ∃ Jx Oc Vk lW lX lY lZ la lf lg lh lj lk Eb,Au σ Uh (bO + Int.toNat x16 * 10) [.int .i64 Jx,.int .i64 Oc,.string Vk,.slice lW lX lY,.int .i64 lZ,.int .i64 la,.int .i64 lf,.slice lg lh lj,.bool lk,.int .i64 Eb] ∧ ∀ b9 : Nat,AN ((n7 : Int) - Eb) ∧ Pq p6 fun YB eP => In Jx (n6 : Int) ∧ ∃ v30,Hp.ld σ ⟨YB,(eP + Int.toNat Jx * 1),none⟩ = some v30 ∧ ((0 : Int) ≤ ((n7 : Int) - Eb) ∧ ((n7 : Int) - Eb) ≤ (n7 : Int)) ∧ (Al σ fun eQ => (AJ prog (Builtin.append_ #[136,136] 136 #[(.slice (aD eQ 0) 0 0),(.slice (Ic p7 (Int.toNat ((n7 : Int) - Eb)) c7 4) (n7 - Int.toNat ((n7 : Int) - Eb)) (c7 - Int.toNat ((n7 : Int) - Eb)))]) (Hp.set σ eQ (.cells #[] 93 (0,0))) (CS fun Uj n37 Uk y => Kp [YB] (Hp.set σ eQ (.cells #[] 93 (0,0))) y ∧ (∃ (f38 : Nat) (HX HY : Array Value),v30 = .func (.func f38) HX HY ∧ Enters prog f38 ∧ Spec prog f38 (HX ++ #[.pointer q0,.agg #[.int .i64 Jx,.int .i64 Oc,.string Vk,.slice lW lX lY,.int .i64 lZ,.int .i64 la,.int .i64 lf,.slice lg lh lj,.bool lk,.int .i64 Eb],.slice Uj n37 Uk] ++ HY) y (AA R (fun z AF => ∃ Jy Jz J0 J1 J2 J3 J4 J5 HF,z = (.tuple #[.agg #[.int .i64 Jy,.int .u64 Jz,.slice J0 J1 J2,.slice J3 J4 J5],.int .i64 HF]) ∧ Al AF fun BF => AJ prog (Instr.storeAt 93 (.pointer (aD BF 0)) (.agg #[.int .i64 Jy,.int .u64 Jz,.slice J0 J1 J2,.slice J3 J4 J5])) (Hp.set AF BF (.cells #[.int .i64 0,.int .u64 0,.slice none 0 0,.slice none 0 0] 93 (0,0))) (fun _ AH => Br (HF ≠ 0) (R (.returned (.tuple #[.agg #[.int .i64 0,.int .u64 0,.slice none 0 0,.slice none 0 0],.int .i64 HF])) AH) (((0 : Int) ≤ ((n7 : Int) - Eb) ∧ ((n7 : Int) - Eb) ≤ (c7 : Int)) ∧ ∃ NO NQ NR NS NT NU NV NW,Au AH BF 0 [.int .i64 NO,.int .u64 NQ,.slice NR NS NT,.slice NU NV NW] ∧ Al AH fun Ui => AJ prog (Builtin.append_ #[136,136] 136 #[(.slice p7 (Int.toNat ((n7 : Int) - Eb)) c7),(.slice (aD Ui 0) 1 1)]) (Hp.set AH Ui (.cells #[.int .i64 NO,.int .u64 NQ,.slice NR NS NT,.slice NU NV NW] 93 (0,0))) (CS fun bL n50 bM Ab => AN (x16 + 1) ∧ E6 R q0 F2 Ff p4c n4c c4c Gg Gh Gi (aD YB eP) n6 c6 bL n50 bM (aD Uh bO) n14 Ge x15 (x16 + 1) Ab)))))) ∧ (Al y fun BF => ∃ (f38 : Nat) (HX HY : Array Value),v30 = .func (.func f38) HX HY ∧ Enters prog f38 ∧ Spec prog f38 (HX ++ #[.pointer q0,.agg #[.int .i64 Jx,.int .i64 Oc,.string Vk,.slice lW lX lY,.int .i64 lZ,.int .i64 la,.int .i64 lf,.slice lg lh lj,.bool lk,.int .i64 Eb],.slice Uj n37 Uk] ++ HY) (Hp.set y BF (.cells #[.int .i64 0,.int .u64 0,.slice none 0 0,.slice none 0 0] 93 (0,0))) (AA R (fun z AF => ∃ Jy Jz J0 J1 J2 J3 J4 J5 HF,z = (.tuple #[.agg #[.int .i64 Jy,.int .u64 Jz,.slice J0 J1 J2,.slice J3 J4 J5],.int .i64 HF]) ∧ AJ prog (Instr.storeAt 93 (.pointer (aD BF 0)) (.agg #[.int .i64 Jy,.int .u64 Jz,.slice J0 J1 J2,.slice J3 J4 J5])) AF (fun _ AH => Br (HF ≠ 0) (R (.returned (.tuple #[.agg #[.int .i64 0,.int .u64 0,.slice none 0 0,.slice none 0 0],.int .i64 HF])) AH) (((0 : Int) ≤ ((n7 : Int) - Eb) ∧ ((n7 : Int) - Eb) ≤ (c7 : Int)) ∧ ∃ NO NQ NR NS NT NU NV NW,Au AH BF 0 [.int .i64 NO,.int .u64 NQ,.slice NR NS NT,.slice NU NV NW] ∧ Al AH fun Ui => AJ prog (Builtin.append_ #[136,136] 136 #[(.slice p7 (Int.toNat ((n7 : Int) - Eb)) c7),(.slice (aD Ui 0) 1 1)]) (Hp.set AH Ui (.cells #[.int .i64 NO,.int .u64 NQ,.slice NR NS NT,.slice NU NV NW] 93 (0,0))) (CS fun bL n50 bM Ab => AN (x16 + 1) ∧ E6 R q0 F2 Ff p4c n4c c4c Gg Gh Gi (aD YB eP) n6 c6 bL n50 bM (aD Uh bO) n14 Ge x15 (x16 + 1) Ab)))))))) ∧ (Al (Hp.set σ eQ (.cells #[] 93 (0,0))) fun BF => AJ prog (Builtin.append_ #[136,136] 136 #[(.slice (aD eQ 0) 0 0),(.slice (Ic p7 (Int.toNat ((n7 : Int) - Eb)) c7 4) (n7 - Int.toNat ((n7 : Int) - Eb)) (c7 - Int.toNat ((n7 : Int) - Eb)))]) (Hp.set (Hp.set σ eQ (.cells #[] 93 (0,0))) BF (.cells #[.int .i64 0,.int .u64 0,.slice none 0 0,.slice none 0 0] 93 (0,0))) (CS fun Uj n37 Uk y => Kp [YB] (Hp.set (Hp.set σ eQ (.cells #[] 93 (0,0))) BF (.cells #[.int .i64 0,.int .u64 0,.slice none 0 0,.slice none 0 0] 93 (0,0))) y ∧ ∃ (f38 : Nat) (HX HY : Array Value),v30 = .func (.func f38) HX HY ∧ Enters prog f38 ∧ Spec prog f38 (HX ++ #[.pointer q0,.agg #[.int .i64 Jx,.int .i64 Oc,.string Vk,.slice lW lX lY,.int .i64 lZ,.int .i64 la,.int .i64 lf,.slice lg lh lj,.bool lk,.int .i64 Eb],.slice Uj n37 Uk] ++ HY) y (AA R (fun z AF => ∃ Jy Jz J0 J1 J2 J3 J4 J5 HF,z = (.tuple #[.agg #[.int .i64 Jy,.int .u64 Jz,.slice J0 J1 J2,.slice J3 J4 J5],.int .i64 HF]) ∧ AJ prog (Instr.storeAt 93 (.pointer (aD BF 0)) (.agg #[.int .i64 Jy,.int .u64 Jz,.slice J0 J1 J2,.slice J3 J4 J5])) AF (fun _ AH => Br (HF ≠ 0) (R (.returned (.tuple #[.agg #[.int .i64 0,.int .u64 0,.slice none 0 0,.slice none 0 0],.int .i64 HF])) AH) (((0 : Int) ≤ ((n7 : Int) - Eb) ∧ ((n7 : Int) - Eb) ≤ (c7 : Int)) ∧ ∃ NO NQ NR NS NT NU NV NW,Au AH BF 0 [.int .i64 NO,.int .u64 NQ,.slice NR NS NT,.slice NU NV NW] ∧ Al AH fun Ui => AJ prog (Builtin.append_ #[136,136] 136 #[(.slice p7 (Int.toNat ((n7 : Int) - Eb)) c7),(.slice (aD Ui 0) 1 1)]) (Hp.set AH Ui (.cells #[.int .i64 NO,.int .u64 NQ,.slice NR NS NT,.slice NU NV NW] 93 (0,0))) (CS fun bL n50 bM Ab => AN (x16 + 1) ∧ E6 R q0 F2 Ff p4c n4c c4c Gg Gh Gi (aD YB eP) n6 c6 bL n50 bM (aD Uh bO) n14 Ge x15 (x16 + 1) Ab)))))))) ∧ (Al σ fun BF => Al (Hp.set σ BF (.cells #[.int .i64 0,.int .u64 0,.slice none 0 0,.slice none 0 0] 93 (0,0))) fun eQ => AJ prog (Builtin.append_ #[136,136] 136 #[(.slice (aD eQ 0) 0 0),(.slice (Ic p7 (Int.toNat ((n7 : Int) - Eb)) c7 4) (n7 - Int.toNat ((n7 : Int) - Eb)) (c7 - Int.toNat ((n7 : Int) - Eb)))]) (Hp.set (Hp.set σ BF (.cells #[.int .i64 0,.int .u64 0,.slice none 0 0,.slice none 0 0] 93 (0,0))) eQ (.cells #[] 93 (0,0))) (CS fun Uj n37 Uk y => Kp [YB] (Hp.set (Hp.set σ BF (.cells #[.int .i64 0,.int .u64 0,.slice none 0 0,.slice none 0 0] 93 (0,0))) eQ (.cells #[] 93 (0,0))) y ∧ ∃ (f38 : Nat) (HX HY : Array Value),v30 = .func (.func f38) HX HY ∧ Enters prog f38 ∧ Spec prog f38 (HX ++ #[.pointer q0,.agg #[.int .i64 Jx,.int .i64 Oc,.string Vk,.slice lW lX lY,.int .i64 lZ,.int .i64 la,.int .i64 lf,.slice lg lh lj,.bool lk,.int .i64 Eb],.slice Uj n37 Uk] ++ HY) y (AA R (fun z AF => ∃ Jy Jz J0 J1 J2 J3 J4 J5 HF,z = (.tuple #[.agg #[.int .i64 Jy,.int .u64 Jz,.slice J0 J1 J2,.slice J3 J4 J5],.int .i64 HF]) ∧ AJ prog (Instr.storeAt 93 (.pointer (aD BF 0)) (.agg #[.int .i64 Jy,.int .u64 Jz,.slice J0 J1 J2,.slice J3 J4 J5])) AF (fun _ AH => Br (HF ≠ 0) (R (.returned (.tuple #[.agg #[.int .i64 0,.int .u64 0,.slice none 0 0,.slice none 0 0],.int .i64 HF])) AH) (((0 : Int) ≤ ((n7 : Int) - Eb) ∧ ((n7 : Int) - Eb) ≤ (c7 : Int)) ∧ ∃ NO NQ NR NS NT NU NV NW,Au AH BF 0 [.int .i64 NO,.int .u64 NQ,.slice NR NS NT,.slice NU NV NW] ∧ Al AH fun Ui => AJ prog (Builtin.append_ #[136,136] 136 #[(.slice p7 (Int.toNat ((n7 : Int) - Eb)) c7),(.slice (aD Ui 0) 1 1)]) (Hp.set AH Ui (.cells #[.int .i64 NO,.int .u64 NQ,.slice NR NS NT,.slice NU NV NW] 93 (0,0))) (CS fun bL n50 bM Ab => AN (x16 + 1) ∧ E6 R q0 F2 Ff p4c n4c c4c Gg Gh Gi (aD YB eP) n6 c6 bL n50 bM (aD Uh bO) n14 Ge x15 (x16 + 1) Ab)))))))) (Pq p7 fun J6 o53 => In 0 (n7 : Int) ∧ ∃ YC YD AFK AFL AFM YE YG YH,Au σ J6 o53 [.int .i64 YC,.int .u64 YD,.slice AFK AFL AFM,.slice YE YG YH] ∧ R (.returned (.tuple #[.agg #[.int .i64 YC,.int .u64 YD,.slice AFK AFL AFM,.slice YE YG YH],.int .i64 0])) σ)) : E6 R q0 F2 Ff p4c n4c c4c Gg Gh Gi p6 n6 c6 p7 n7 c7 Hu n14 Ge x15 x16 σ := M.jj h ok rfl fun _ => by kernel_rfl
end CC
namespace JS
variable {wj Zz s1a s1b : ByteArray}
def M : Fw := ⟨prog,76,f76,[77,78],[2,3],false,[],[],[]⟩
theorem ok : M.Ok := ⟨.cons call77 (.cons call78 (AG.nil)),mixed,func76,by kernel_rfl⟩
theorem start (h : ∀ b2 : Nat,∀ b3 : Nat,Spec prog 78 #[.string wj,.string s1a] σ (AA R (CI .i64 fun x9 y => Spec prog 78 #[.string Zz,.string s1b] y (AA R (CI .i64 fun Zx AF => Al AF fun b15 => Spec prog 77 #[(.slice (aD b15 0) 2 2)] (Hp.set AF b15 (.cells #[.int .i64 x9,.int .i64 Zx] 3 (0,0))) (AA R (CI .i64 fun x16 AH => R (.returned (.int .i64 x16)) AH))))))) : Spec prog 76 #[.agg #[.string wj,.string Zz],.agg #[.string s1a,.string s1b]] σ R := M.start h ok
end JS
namespace JT
variable {s0 s1 : ByteArray}
def M : Fw := ⟨prog,78,f78,[119],[],false,[],[],[]⟩
theorem ok : M.Ok := ⟨.cons call119 (AG.nil),mixed,func78,by kernel_rfl⟩
theorem start (h : Spec prog 119 #[.string s0,.string s1] σ (AA R (CI .i64 fun x7 y => R (.returned (.int .i64 x7)) y))) : Spec prog 78 #[.string s0,.string s1] σ R := M.start h ok
end JT
namespace Fi
variable {p0 p8 : Option Addr} {n0 c0 n8 c8 : Nat} {x9 x10 : Int}
def M : Fw := ⟨prog,80,f80,[125,126],[4],false,[],[],[(232,[(8,wL),(9,wI),(10,wI)])]⟩
theorem ok : M.Ok := ⟨.cons call125 (.cons call126 (AG.nil)),mixed,func80,by kernel_rfl⟩
def Lq := M.pt 0
theorem start (h : Br (8 < (n0 : Int)) (R (.returned (.int .i64 41)) σ) (Lq R p0 n0 c0 (n0 : Int) 0 σ)) : Spec prog 80 #[.slice p0 n0 c0] σ R := M.start h ok
theorem Ip (h : Br (x10 < x9) (Pq p8 fun PM P1 => In x10 (n8 : Int) ∧ ∃ ll gj AFO,Au σ PM (P1 + Int.toNat x10 * 3) [.int .i64 ll,.string gj,.string AFO] ∧ ∀ b4 : Nat,Spec prog 125 #[.int .i64 ll] σ (AA R (CB fun t16 y => Bn t16 (R (.returned (.int .i64 40)) y) (Spec prog 126 #[.string gj] y (AA R (CB fun t21 AF => Bn t21 (R (.returned (.int .i64 40)) AF) (Br ((256 : Int) < ((ByteArray.size AFO : Nat) : Int)) (R (.returned (.int .i64 40)) AF) (AN (x10 + 1) ∧ Lq R (aD PM P1) n8 c8 x9 (x10 + 1) AF)))))))) (R (.returned (.int .i64 0)) σ)) : Lq R p8 n8 c8 x9 x10 σ := M.of h ok rfl
end Fi
namespace Bh
variable {q0 Dc Dn p2 : Option Addr} {DW CP DX Dd C1 CW x8 : Int} {DY : ByteArray} {De Dg Dh Dp n2 c2 : Nat} {C2 : Bool}
def M : Fw := ⟨prog,82,f82,[],[4],false,[],[],[(60,[(2,wL),(8,wI)])]⟩
theorem ok : M.Ok := ⟨AG.nil,mixed,func82,by kernel_rfl⟩
def E6 := M.pt 0
theorem start (h : ∀ b4 : Nat,Br (CP = 11) (E6 R p2 n2 c2 2 σ) (Br (CP = 12) (E6 R p2 n2 c2 2 σ) (E6 R p2 n2 c2 3 σ))) : Spec prog 82 #[.pointer q0,.agg #[.int .i64 DW,.int .i64 CP,.string DY,.slice Dc De Dg,.int .i64 DX,.int .i64 Dd,.int .i64 C1,.slice Dn Dh Dp,.bool C2,.int .i64 CW],.slice p2 n2 c2] σ R := M.start h ok
theorem FY (h : Pq p2 fun Uh bO => In 0 (n2 : Int) ∧ LI .i64 σ Uh bO fun Hj => Br (Hj ≠ x8) (R (.returned (.tuple #[.int .i64 0,.int .i64 191])) σ) (R (.returned (.tuple #[.int .i64 2,.int .i64 0])) σ)) : E6 R p2 n2 c2 x8 σ := M.of h ok rfl
end Bh
namespace Gx
variable {s0 : ByteArray} {x3 x4 x5 : Int}
def M : Fw := ⟨prog,93,f93,[131],[],false,[],[],[(2000,[(0,wT),(3,wI),(4,wI),(5,wI)]),(508,[(4,wI)])]⟩
theorem ok : M.Ok := ⟨.cons call131 (AG.nil),mixed,func93,by kernel_rfl⟩
def tJ := M.pt 0
def Py := M.pt 1
theorem start (h : Spec prog 131 #[.string s0] σ (AA R (CI .i64 fun x7 y => Br (x7 = 0) (R (.returned (.int .i64 0)) y) (Br (10 < x7) (R (.returned (.int .i64 0)) y) (∃ u16 : UInt8,(0 : Int) ≤ 0 ∧ (ByteArray.data s0)[Int.toNat 0]? = some u16 ∧ Br ((((UInt8.toNat u16 : Nat) : Int) : Int) = 48) (R (.returned (.int .i64 0)) y) (AN (x7 + 1) ∧ Br (((x7 + 1) : Int) ≠ ((ByteArray.size s0 : Nat) : Int)) (R (.returned (.int .i64 0)) y) (tJ R s0 x7 0 0 y))))))) : Spec prog 93 #[.string s0] σ R := M.start h ok
theorem eR (h : Br (x5 < x3) (AN (10 * x4) ∧ ∃ u35 : UInt8,0 ≤ x5 ∧ (ByteArray.data s0)[Int.toNat x5]? = some u35 ∧ Df (IntKind.u8.wrap (((UInt8.toNat u35 : Nat) : Int) - 48)) fun Z0 => Df (IntKind.i64.wrap Z0) fun P7 => AN ((10 * x4) + P7) ∧ AN (x5 + 1) ∧ tJ R s0 x3 (((10 * x4) + P7)) (x5 + 1) σ) (∃ u41 : UInt8,0 ≤ x3 ∧ (ByteArray.data s0)[Int.toNat x3]? = some u41 ∧ Br ((((UInt8.toNat u41 : Nat) : Int) : Int) = 115) (Py R x4 σ) (Br ((((UInt8.toNat u41 : Nat) : Int) : Int) = 109) (AN (x4 * 60) ∧ Py R (x4 * 60) σ) (Br ((((UInt8.toNat u41 : Nat) : Int) : Int) = 104) (AN (x4 * 3600) ∧ Py R (x4 * 3600) σ) (Br ((((UInt8.toNat u41 : Nat) : Int) : Int) = 100) (AN (x4 * 86400) ∧ Py R (x4 * 86400) σ) (R (.returned (.int .i64 0)) σ)))))) : tJ R s0 x3 x4 x5 σ := M.of h ok rfl
theorem QY (h : Br (2147483648 ≤ x4) (R (.returned (.int .i64 0)) σ) (R (.returned (.int .i64 x4)) σ)) : Py R x4 σ := M.of h ok rfl
end Gx
namespace FM
variable {s0 : ByteArray} {x3 : Int}
def M : Fw := ⟨prog,98,f98,[],[],false,[],[],[(464,[(0,wT),(3,wI)])]⟩
theorem ok : M.Ok := ⟨AG.nil,mixed,func98,by kernel_rfl⟩
def E1 := M.pt 0
theorem start (h : Bo ((ByteArray.toList s0 == ByteArray.toList (ByteArray.mk #[]))) (R (.returned (.bool false)) σ) (Br ((64 : Int) < ((ByteArray.size s0 : Nat) : Int)) (R (.returned (.bool false)) σ) (∃ Ld : UInt8,(0 : Int) ≤ 0 ∧ (ByteArray.data s0)[Int.toNat 0]? = some Ld ∧ Br ((48 : Int) ≤ ((UInt8.toNat Ld : Nat) : Int)) (∃ u18 : UInt8,(0 : Int) ≤ 0 ∧ (ByteArray.data s0)[Int.toNat 0]? = some u18 ∧ Br ((((UInt8.toNat u18 : Nat) : Int) : Int) ≤ 57) (R (.returned (.bool false)) σ) (E1 R s0 0 σ)) (E1 R s0 0 σ)))) : Spec prog 98 #[.string s0] σ R := M.start h ok
theorem EW (h : Br (x3 < ((ByteArray.size s0 : Nat) : Int)) (∃ Z1 : UInt8,0 ≤ x3 ∧ (ByteArray.data s0)[Int.toNat x3]? = some Z1 ∧ Br ((((UInt8.toNat Z1 : Nat) : Int) : Int) ≠ 95) (Br ((((UInt8.toNat Z1 : Nat) : Int) : Int) < 48) (Br ((((UInt8.toNat Z1 : Nat) : Int) : Int) < 65) (Br ((((UInt8.toNat Z1 : Nat) : Int) : Int) < 97) (R (.returned (.bool false)) σ) (Br ((122 : Int) < ((UInt8.toNat Z1 : Nat) : Int)) (R (.returned (.bool false)) σ) (AN (x3 + 1) ∧ E1 R s0 (x3 + 1) σ))) (Br ((90 : Int) < ((UInt8.toNat Z1 : Nat) : Int)) (Br ((((UInt8.toNat Z1 : Nat) : Int) : Int) < 97) (R (.returned (.bool false)) σ) (Br ((122 : Int) < ((UInt8.toNat Z1 : Nat) : Int)) (R (.returned (.bool false)) σ) (AN (x3 + 1) ∧ E1 R s0 (x3 + 1) σ))) (AN (x3 + 1) ∧ E1 R s0 (x3 + 1) σ))) (Br ((57 : Int) < ((UInt8.toNat Z1 : Nat) : Int)) (Br ((((UInt8.toNat Z1 : Nat) : Int) : Int) < 65) (Br ((((UInt8.toNat Z1 : Nat) : Int) : Int) < 97) (R (.returned (.bool false)) σ) (Br ((122 : Int) < ((UInt8.toNat Z1 : Nat) : Int)) (R (.returned (.bool false)) σ) (AN (x3 + 1) ∧ E1 R s0 (x3 + 1) σ))) (Br ((90 : Int) < ((UInt8.toNat Z1 : Nat) : Int)) (Br ((((UInt8.toNat Z1 : Nat) : Int) : Int) < 97) (R (.returned (.bool false)) σ) (Br ((122 : Int) < ((UInt8.toNat Z1 : Nat) : Int)) (R (.returned (.bool false)) σ) (AN (x3 + 1) ∧ E1 R s0 (x3 + 1) σ))) (AN (x3 + 1) ∧ E1 R s0 (x3 + 1) σ))) (AN (x3 + 1) ∧ E1 R s0 (x3 + 1) σ))) (AN (x3 + 1) ∧ E1 R s0 (x3 + 1) σ)) (R (.returned (.bool true)) σ)) : E1 R s0 x3 σ := M.of h ok rfl
end FM
namespace Aj
variable {s0 : ByteArray} {x3 x4 x5 x6 : Int}
def M : Fw := ⟨prog,99,f99,[],[],false,[],[],[(220,[(0,wT),(3,wI)]),(894,[(0,wT),(3,wI),(4,wI),(5,w8),(6,w8)]),(7164,[(0,wT),(3,wI),(4,wI),(5,w8),(6,w8)])]⟩
theorem ok : M.Ok := ⟨AG.nil,mixed,func99,by kernel_rfl⟩
def Bk := M.pt 0
def HG := M.pt 1
def lq := M.pt 2
theorem start (h : Bk R s0 0 σ) : Spec prog 99 #[.string s0] σ R := M.start h ok
theorem A5 (h : Br (x3 = ((ByteArray.size s0 : Nat) : Int)) (R (.returned (.bool true)) σ) (∃ Ld : UInt8,0 ≤ x3 ∧ (ByteArray.data s0)[Int.toNat x3]? = some Ld ∧ Br ((((UInt8.toNat Ld : Nat) : Int) : Int) < 128) (AN (x3 + 1) ∧ Bk R s0 (x3 + 1) σ) (Br ((194 : Int) ≤ ((UInt8.toNat Ld : Nat) : Int)) (Br ((((UInt8.toNat Ld : Nat) : Int) : Int) ≤ 223) (HG R s0 x3 1 128 191 σ) (Br ((224 : Int) ≤ ((UInt8.toNat Ld : Nat) : Int)) (Br ((((UInt8.toNat Ld : Nat) : Int) : Int) ≤ 239) (Br ((((UInt8.toNat Ld : Nat) : Int) : Int) = 224) (HG R s0 x3 2 160 191 σ) (Br ((((UInt8.toNat Ld : Nat) : Int) : Int) = 237) (HG R s0 x3 2 128 159 σ) (HG R s0 x3 2 128 191 σ))) (Br ((240 : Int) ≤ ((UInt8.toNat Ld : Nat) : Int)) (Br ((((UInt8.toNat Ld : Nat) : Int) : Int) ≤ 244) (Br ((((UInt8.toNat Ld : Nat) : Int) : Int) = 240) (HG R s0 x3 3 144 191 σ) (Br ((((UInt8.toNat Ld : Nat) : Int) : Int) = 244) (HG R s0 x3 3 128 143 σ) (HG R s0 x3 3 128 191 σ))) (R (.returned (.bool false)) σ)) (R (.returned (.bool false)) σ))) (Br ((240 : Int) ≤ ((UInt8.toNat Ld : Nat) : Int)) (Br ((((UInt8.toNat Ld : Nat) : Int) : Int) ≤ 244) (Br ((((UInt8.toNat Ld : Nat) : Int) : Int) = 240) (HG R s0 x3 3 144 191 σ) (Br ((((UInt8.toNat Ld : Nat) : Int) : Int) = 244) (HG R s0 x3 3 128 143 σ) (HG R s0 x3 3 128 191 σ))) (R (.returned (.bool false)) σ)) (R (.returned (.bool false)) σ)))) (Br ((224 : Int) ≤ ((UInt8.toNat Ld : Nat) : Int)) (Br ((((UInt8.toNat Ld : Nat) : Int) : Int) ≤ 239) (Br ((((UInt8.toNat Ld : Nat) : Int) : Int) = 224) (HG R s0 x3 2 160 191 σ) (Br ((((UInt8.toNat Ld : Nat) : Int) : Int) = 237) (HG R s0 x3 2 128 159 σ) (HG R s0 x3 2 128 191 σ))) (Br ((240 : Int) ≤ ((UInt8.toNat Ld : Nat) : Int)) (Br ((((UInt8.toNat Ld : Nat) : Int) : Int) ≤ 244) (Br ((((UInt8.toNat Ld : Nat) : Int) : Int) = 240) (HG R s0 x3 3 144 191 σ) (Br ((((UInt8.toNat Ld : Nat) : Int) : Int) = 244) (HG R s0 x3 3 128 143 σ) (HG R s0 x3 3 128 191 σ))) (R (.returned (.bool false)) σ)) (R (.returned (.bool false)) σ))) (Br ((240 : Int) ≤ ((UInt8.toNat Ld : Nat) : Int)) (Br ((((UInt8.toNat Ld : Nat) : Int) : Int) ≤ 244) (Br ((((UInt8.toNat Ld : Nat) : Int) : Int) = 240) (HG R s0 x3 3 144 191 σ) (Br ((((UInt8.toNat Ld : Nat) : Int) : Int) = 244) (HG R s0 x3 3 128 143 σ) (HG R s0 x3 3 128 191 σ))) (R (.returned (.bool false)) σ)) (R (.returned (.bool false)) σ)))))) : Bk R s0 x3 σ := M.of h ok rfl
theorem tK (h : AN (x3 + 1) ∧ lq R s0 (x3 + 1) x4 x5 x6 σ) : HG R s0 x3 x4 x5 x6 σ := M.of h ok rfl
theorem eT (h : Br (x4 = 0) (Bk R s0 x3 σ) (Br (x3 = ((ByteArray.size s0 : Nat) : Int)) (R (.returned (.bool false)) σ) (∃ u60 : UInt8,0 ≤ x3 ∧ (ByteArray.data s0)[Int.toNat x3]? = some u60 ∧ Br ((((UInt8.toNat u60 : Nat) : Int) : Int) < x5) (R (.returned (.bool false)) σ) (∃ u67 : UInt8,0 ≤ x3 ∧ (ByteArray.data s0)[Int.toNat x3]? = some u67 ∧ Br (x6 < ((UInt8.toNat u67 : Nat) : Int)) (R (.returned (.bool false)) σ) (AN (x4 - 1) ∧ AN (x3 + 1) ∧ lq R s0 (x3 + 1) (x4 - 1) 128 191 σ))))) : lq R s0 x3 x4 x5 x6 σ := M.of h ok rfl
end Aj
namespace C4
variable {q0 Dc Dn p2 : Option Addr} {DW CP DX Dd C1 CW : Int} {DY : ByteArray} {De Dg Dh Dp n2 c2 : Nat} {C2 : Bool}
def M : Fw := ⟨prog,105,f105,[128,156,157,160,161],[6],false,[(1,9,false)],[],[]⟩
theorem ok : M.Ok := ⟨.cons call128 (.cons call156 (.cons call157 (.cons call160 (.cons call161 (AG.nil))))),mixed,func105,by kernel_rfl⟩
theorem start (h : Al σ fun b4 => ∀ b6 : Nat,Pq p2 fun DC jn => In 0 (n2 : Int) ∧ ∃ GQ Tq AAB AAC AAD AAE AAF AAG,Au (Hp.set σ b4 (.cells #[.int .i64 DW,.int .i64 CP,.string DY,.slice Dc De Dg,.int .i64 DX,.int .i64 Dd,.int .i64 C1,.slice Dn Dh Dp,.bool C2,.int .i64 CW] 36 (0,0))) DC jn [.int .i64 GQ,.int .u64 Tq,.slice AAB AAC AAD,.slice AAE AAF AAG] ∧ In 1 (n2 : Int) ∧ ∃ RO Xj AAH AAI AAJ gZ ga gb,Au (Hp.set σ b4 (.cells #[.int .i64 DW,.int .i64 CP,.string DY,.slice Dc De Dg,.int .i64 DX,.int .i64 Dd,.int .i64 C1,.slice Dn Dh Dp,.bool C2,.int .i64 CW] 36 (0,0))) DC (jn + 4) [.int .i64 RO,.int .u64 Xj,.slice AAH AAI AAJ,.slice gZ ga gb] ∧ (Al (Hp.set σ b4 (.cells #[.int .i64 DW,.int .i64 CP,.string DY,.slice Dc De Dg,.int .i64 DX,.int .i64 Dd,.int .i64 C1,.slice Dn Dh Dp,.bool C2,.int .i64 CW] 36 (0,0))) fun b8 => Al (Hp.set (Hp.set σ b4 (.cells #[.int .i64 DW,.int .i64 CP,.string DY,.slice Dc De Dg,.int .i64 DX,.int .i64 Dd,.int .i64 C1,.slice Dn Dh Dp,.bool C2,.int .i64 CW] 36 (0,0))) b8 (.cells #[.int .i64 0,.int .u64 0,.slice none 0 0,.slice none 0 0] 93 (0,0))) fun b9 => AJ prog (Instr.storeAt 93 (.pointer (aD b8 0)) (.agg #[.int .i64 GQ,.int .u64 Tq,.slice AAB AAC AAD,.slice AAE AAF AAG])) (Hp.set (Hp.set (Hp.set σ b4 (.cells #[.int .i64 DW,.int .i64 CP,.string DY,.slice Dc De Dg,.int .i64 DX,.int .i64 Dd,.int .i64 C1,.slice Dn Dh Dp,.bool C2,.int .i64 CW] 36 (0,0))) b8 (.cells #[.int .i64 0,.int .u64 0,.slice none 0 0,.slice none 0 0] 93 (0,0))) b9 (.cells #[.int .i64 0,.int .u64 0,.slice none 0 0,.slice none 0 0] 93 (0,0))) (fun _ y => Kp [DC] (Hp.set (Hp.set (Hp.set σ b4 (.cells #[.int .i64 DW,.int .i64 CP,.string DY,.slice Dc De Dg,.int .i64 DX,.int .i64 Dd,.int .i64 C1,.slice Dn Dh Dp,.bool C2,.int .i64 CW] 36 (0,0))) b8 (.cells #[.int .i64 0,.int .u64 0,.slice none 0 0,.slice none 0 0] 93 (0,0))) b9 (.cells #[.int .i64 0,.int .u64 0,.slice none 0 0,.slice none 0 0] 93 (0,0))) y ∧ AJ prog (Instr.storeAt 93 (.pointer (aD b9 0)) (.agg #[.int .i64 RO,.int .u64 Xj,.slice AAH AAI AAJ,.slice gZ ga gb])) y (fun _ AF => LI .i64 AF b8 0 fun Hj => Br (Hj = 1) (LI .i64 AF b9 0 fun JO => Br (JO = 1) (∃ YI RZ lr lu lv lx ly lz l7 l8 mA mB mC mD,Au AF b4 0 [.int .i64 YI,.int .i64 RZ,.string lr,.slice lu lv lx,.int .i64 ly,.int .i64 lz,.int .i64 l7,.slice l8 mA mB,.bool mC,.int .i64 mD] ∧ LI .u64 AF b8 1 fun Ul => LI .u64 AF b9 1 fun mE => Spec prog 156 #[.agg #[.int .i64 YI,.int .i64 RZ,.string lr,.slice lu lv lx,.int .i64 ly,.int .i64 lz,.int .i64 l7,.slice l8 mA mB,.bool mC,.int .i64 mD],.int .u64 Ul,.int .u64 mE] AF (AA R (fun z AH => ∃ YJ mF,z = (.tuple #[.int .u64 YJ,.bool mF]) ∧ R (.returned (.tuple #[.agg #[.int .i64 1,.int .u64 YJ,.slice none 0 0,.slice none 0 0],.int .i64 0])) AH))) (LI .i64 AF b8 0 fun rK => Br (rK = 1) (∃ Od Lv Oe Rc Re Rf Rh Ri Rj Rk Rl Rm Rn Ro,Au AF b4 0 [.int .i64 Od,.int .i64 Lv,.string Oe,.slice Rc Re Rf,.int .i64 Rh,.int .i64 Ri,.int .i64 Rj,.slice Rk Rl Rm,.bool Rn,.int .i64 Ro] ∧ LS AF b9 2 fun p45 n45 c45 => Spec prog 157 #[.pointer q0,.agg #[.int .i64 Od,.int .i64 Lv,.string Oe,.slice Rc Re Rf,.int .i64 Rh,.int .i64 Ri,.int .i64 Rj,.slice Rk Rl Rm,.bool Rn,.int .i64 Ro],.slice p45 n45 c45,(.func (.func 158) #[] #[(.pointer (aD b4 0)),(.pointer (aD b8 0))])] AF (AA R (fun z AH => ∃ J7 J8 J9 KA KB KC KD KE Rp,z = (.tuple #[.agg #[.int .i64 J7,.int .u64 J8,.slice J9 KA KB,.slice KC KD KE],.int .i64 Rp]) ∧ R (.returned (.tuple #[.agg #[.int .i64 J7,.int .u64 J8,.slice J9 KA KB,.slice KC KD KE],.int .i64 Rp])) AH))) (LI .i64 AF b9 0 fun tL => Br (tL = 1) (∃ Rq Rt Ru Rv Rx Ry Rz R0 R3 R4 R5 R6 R7 R8,Au AF b4 0 [.int .i64 Rq,.int .i64 Rt,.string Ru,.slice Rv Rx Ry,.int .i64 Rz,.int .i64 R0,.int .i64 R3,.slice R4 R5 R6,.bool R7,.int .i64 R8] ∧ LS AF b8 2 fun p57 n57 c57 => Spec prog 157 #[.pointer q0,.agg #[.int .i64 Rq,.int .i64 Rt,.string Ru,.slice Rv Rx Ry,.int .i64 Rz,.int .i64 R0,.int .i64 R3,.slice R4 R5 R6,.bool R7,.int .i64 R8],.slice p57 n57 c57,(.func (.func 159) #[] #[(.pointer (aD b4 0)),(.pointer (aD b9 0))])] AF (AA R (fun z AH => ∃ KF KG KH KI KJ KK KL KM Hl,z = (.tuple #[.agg #[.int .i64 KF,.int .u64 KG,.slice KH KI KJ,.slice KK KL KM],.int .i64 Hl]) ∧ R (.returned (.tuple #[.agg #[.int .i64 KF,.int .u64 KG,.slice KH KI KJ,.slice KK KL KM],.int .i64 Hl])) AH))) (LI .i64 AF b4 1 fun x64 => Spec prog 128 #[.int .i64 x64] AF (AA R (CB fun t65 AH => Bo t65 (∃ KN KO KQ KR KS KT KU KV KW KX KY KZ Ka Kb,Au AH b4 0 [.int .i64 KN,.int .i64 KO,.string KQ,.slice KR KS KT,.int .i64 KU,.int .i64 KV,.int .i64 KW,.slice KX KY KZ,.bool Ka,.int .i64 Kb] ∧ LS AH b8 2 fun tM n69 tN => LS AH b9 2 fun p71 n71 c71 => Spec prog 160 #[.pointer q0,.agg #[.int .i64 KN,.int .i64 KO,.string KQ,.slice KR KS KT,.int .i64 KU,.int .i64 KV,.int .i64 KW,.slice KX KY KZ,.bool Ka,.int .i64 Kb],.slice tM n69 tN,.slice p71 n71 c71] AH (AA R (fun z Ab => ∃ Kc Kd Ke Kf Kg Kh Ki Kj Ju,z = (.tuple #[.agg #[.int .i64 Kc,.int .u64 Kd,.slice Ke Kf Kg,.slice Kh Ki Kj],.int .i64 Ju]) ∧ R (.returned (.tuple #[.agg #[.int .i64 Kc,.int .u64 Kd,.slice Ke Kf Kg,.slice Kh Ki Kj],.int .i64 Ju])) Ab))) (∃ R9 SA SB SC SD SE SF SG SH SI SJ SK SL SM,Au AH b4 0 [.int .i64 R9,.int .i64 SA,.string SB,.slice SC SD SE,.int .i64 SF,.int .i64 SG,.int .i64 SH,.slice SI SJ SK,.bool SL,.int .i64 SM] ∧ LS AH b8 2 fun rL mG rO => LS AH b9 2 fun p80 n80 c80 => Spec prog 161 #[.pointer q0,.agg #[.int .i64 R9,.int .i64 SA,.string SB,.slice SC SD SE,.int .i64 SF,.int .i64 SG,.int .i64 SH,.slice SI SJ SK,.bool SL,.int .i64 SM],.slice rL mG rO,.slice p80 n80 c80] AH (AA R (fun z Ab => ∃ Kk Kl Km Kn Ko Kq Kr Ks SN,z = (.tuple #[.agg #[.int .i64 Kk,.int .u64 Kl,.slice Km Kn Ko,.slice Kq Kr Ks],.int .i64 SN]) ∧ R (.returned (.tuple #[.agg #[.int .i64 Kk,.int .u64 Kl,.slice Km Kn Ko,.slice Kq Kr Ks],.int .i64 SN])) Ab))))))))) (LI .i64 AF b8 0 fun rK => Br (rK = 1) (∃ Od Lv Oe Rc Re Rf Rh Ri Rj Rk Rl Rm Rn Ro,Au AF b4 0 [.int .i64 Od,.int .i64 Lv,.string Oe,.slice Rc Re Rf,.int .i64 Rh,.int .i64 Ri,.int .i64 Rj,.slice Rk Rl Rm,.bool Rn,.int .i64 Ro] ∧ LS AF b9 2 fun p45 n45 c45 => Spec prog 157 #[.pointer q0,.agg #[.int .i64 Od,.int .i64 Lv,.string Oe,.slice Rc Re Rf,.int .i64 Rh,.int .i64 Ri,.int .i64 Rj,.slice Rk Rl Rm,.bool Rn,.int .i64 Ro],.slice p45 n45 c45,(.func (.func 158) #[] #[(.pointer (aD b4 0)),(.pointer (aD b8 0))])] AF (AA R (fun z AH => ∃ J7 J8 J9 KA KB KC KD KE Rp,z = (.tuple #[.agg #[.int .i64 J7,.int .u64 J8,.slice J9 KA KB,.slice KC KD KE],.int .i64 Rp]) ∧ R (.returned (.tuple #[.agg #[.int .i64 J7,.int .u64 J8,.slice J9 KA KB,.slice KC KD KE],.int .i64 Rp])) AH))) (LI .i64 AF b9 0 fun tL => Br (tL = 1) (∃ Rq Rt Ru Rv Rx Ry Rz R0 R3 R4 R5 R6 R7 R8,Au AF b4 0 [.int .i64 Rq,.int .i64 Rt,.string Ru,.slice Rv Rx Ry,.int .i64 Rz,.int .i64 R0,.int .i64 R3,.slice R4 R5 R6,.bool R7,.int .i64 R8] ∧ LS AF b8 2 fun p57 n57 c57 => Spec prog 157 #[.pointer q0,.agg #[.int .i64 Rq,.int .i64 Rt,.string Ru,.slice Rv Rx Ry,.int .i64 Rz,.int .i64 R0,.int .i64 R3,.slice R4 R5 R6,.bool R7,.int .i64 R8],.slice p57 n57 c57,(.func (.func 159) #[] #[(.pointer (aD b4 0)),(.pointer (aD b9 0))])] AF (AA R (fun z AH => ∃ KF KG KH KI KJ KK KL KM Hl,z = (.tuple #[.agg #[.int .i64 KF,.int .u64 KG,.slice KH KI KJ,.slice KK KL KM],.int .i64 Hl]) ∧ R (.returned (.tuple #[.agg #[.int .i64 KF,.int .u64 KG,.slice KH KI KJ,.slice KK KL KM],.int .i64 Hl])) AH))) (LI .i64 AF b4 1 fun x64 => Spec prog 128 #[.int .i64 x64] AF (AA R (CB fun t65 AH => Bo t65 (∃ KN KO KQ KR KS KT KU KV KW KX KY KZ Ka Kb,Au AH b4 0 [.int .i64 KN,.int .i64 KO,.string KQ,.slice KR KS KT,.int .i64 KU,.int .i64 KV,.int .i64 KW,.slice KX KY KZ,.bool Ka,.int .i64 Kb] ∧ LS AH b8 2 fun tM n69 tN => LS AH b9 2 fun p71 n71 c71 => Spec prog 160 #[.pointer q0,.agg #[.int .i64 KN,.int .i64 KO,.string KQ,.slice KR KS KT,.int .i64 KU,.int .i64 KV,.int .i64 KW,.slice KX KY KZ,.bool Ka,.int .i64 Kb],.slice tM n69 tN,.slice p71 n71 c71] AH (AA R (fun z Ab => ∃ Kc Kd Ke Kf Kg Kh Ki Kj Ju,z = (.tuple #[.agg #[.int .i64 Kc,.int .u64 Kd,.slice Ke Kf Kg,.slice Kh Ki Kj],.int .i64 Ju]) ∧ R (.returned (.tuple #[.agg #[.int .i64 Kc,.int .u64 Kd,.slice Ke Kf Kg,.slice Kh Ki Kj],.int .i64 Ju])) Ab))) (∃ R9 SA SB SC SD SE SF SG SH SI SJ SK SL SM,Au AH b4 0 [.int .i64 R9,.int .i64 SA,.string SB,.slice SC SD SE,.int .i64 SF,.int .i64 SG,.int .i64 SH,.slice SI SJ SK,.bool SL,.int .i64 SM] ∧ LS AH b8 2 fun rL mG rO => LS AH b9 2 fun p80 n80 c80 => Spec prog 161 #[.pointer q0,.agg #[.int .i64 R9,.int .i64 SA,.string SB,.slice SC SD SE,.int .i64 SF,.int .i64 SG,.int .i64 SH,.slice SI SJ SK,.bool SL,.int .i64 SM],.slice rL mG rO,.slice p80 n80 c80] AH (AA R (fun z Ab => ∃ Kk Kl Km Kn Ko Kq Kr Ks SN,z = (.tuple #[.agg #[.int .i64 Kk,.int .u64 Kl,.slice Km Kn Ko,.slice Kq Kr Ks],.int .i64 SN]) ∧ R (.returned (.tuple #[.agg #[.int .i64 Kk,.int .u64 Kl,.slice Km Kn Ko,.slice Kq Kr Ks],.int .i64 SN])) Ab))))))))))) ∧ (Al (Hp.set σ b4 (.cells #[.int .i64 DW,.int .i64 CP,.string DY,.slice Dc De Dg,.int .i64 DX,.int .i64 Dd,.int .i64 C1,.slice Dn Dh Dp,.bool C2,.int .i64 CW] 36 (0,0))) fun b9 => Al (Hp.set (Hp.set σ b4 (.cells #[.int .i64 DW,.int .i64 CP,.string DY,.slice Dc De Dg,.int .i64 DX,.int .i64 Dd,.int .i64 C1,.slice Dn Dh Dp,.bool C2,.int .i64 CW] 36 (0,0))) b9 (.cells #[.int .i64 0,.int .u64 0,.slice none 0 0,.slice none 0 0] 93 (0,0))) fun b8 => AJ prog (Instr.storeAt 93 (.pointer (aD b8 0)) (.agg #[.int .i64 GQ,.int .u64 Tq,.slice AAB AAC AAD,.slice AAE AAF AAG])) (Hp.set (Hp.set (Hp.set σ b4 (.cells #[.int .i64 DW,.int .i64 CP,.string DY,.slice Dc De Dg,.int .i64 DX,.int .i64 Dd,.int .i64 C1,.slice Dn Dh Dp,.bool C2,.int .i64 CW] 36 (0,0))) b9 (.cells #[.int .i64 0,.int .u64 0,.slice none 0 0,.slice none 0 0] 93 (0,0))) b8 (.cells #[.int .i64 0,.int .u64 0,.slice none 0 0,.slice none 0 0] 93 (0,0))) (fun _ y => Kp [DC] (Hp.set (Hp.set (Hp.set σ b4 (.cells #[.int .i64 DW,.int .i64 CP,.string DY,.slice Dc De Dg,.int .i64 DX,.int .i64 Dd,.int .i64 C1,.slice Dn Dh Dp,.bool C2,.int .i64 CW] 36 (0,0))) b9 (.cells #[.int .i64 0,.int .u64 0,.slice none 0 0,.slice none 0 0] 93 (0,0))) b8 (.cells #[.int .i64 0,.int .u64 0,.slice none 0 0,.slice none 0 0] 93 (0,0))) y ∧ AJ prog (Instr.storeAt 93 (.pointer (aD b9 0)) (.agg #[.int .i64 RO,.int .u64 Xj,.slice AAH AAI AAJ,.slice gZ ga gb])) y (fun _ AF => LI .i64 AF b8 0 fun Hj => Br (Hj = 1) (LI .i64 AF b9 0 fun JO => Br (JO = 1) (∃ YI RZ lr lu lv lx ly lz l7 l8 mA mB mC mD,Au AF b4 0 [.int .i64 YI,.int .i64 RZ,.string lr,.slice lu lv lx,.int .i64 ly,.int .i64 lz,.int .i64 l7,.slice l8 mA mB,.bool mC,.int .i64 mD] ∧ LI .u64 AF b8 1 fun Ul => LI .u64 AF b9 1 fun mE => Spec prog 156 #[.agg #[.int .i64 YI,.int .i64 RZ,.string lr,.slice lu lv lx,.int .i64 ly,.int .i64 lz,.int .i64 l7,.slice l8 mA mB,.bool mC,.int .i64 mD],.int .u64 Ul,.int .u64 mE] AF (AA R (fun z AH => ∃ YJ mF,z = (.tuple #[.int .u64 YJ,.bool mF]) ∧ R (.returned (.tuple #[.agg #[.int .i64 1,.int .u64 YJ,.slice none 0 0,.slice none 0 0],.int .i64 0])) AH))) (LI .i64 AF b8 0 fun rK => Br (rK = 1) (∃ Od Lv Oe Rc Re Rf Rh Ri Rj Rk Rl Rm Rn Ro,Au AF b4 0 [.int .i64 Od,.int .i64 Lv,.string Oe,.slice Rc Re Rf,.int .i64 Rh,.int .i64 Ri,.int .i64 Rj,.slice Rk Rl Rm,.bool Rn,.int .i64 Ro] ∧ LS AF b9 2 fun p45 n45 c45 => Spec prog 157 #[.pointer q0,.agg #[.int .i64 Od,.int .i64 Lv,.string Oe,.slice Rc Re Rf,.int .i64 Rh,.int .i64 Ri,.int .i64 Rj,.slice Rk Rl Rm,.bool Rn,.int .i64 Ro],.slice p45 n45 c45,(.func (.func 158) #[] #[(.pointer (aD b4 0)),(.pointer (aD b8 0))])] AF (AA R (fun z AH => ∃ J7 J8 J9 KA KB KC KD KE Rp,z = (.tuple #[.agg #[.int .i64 J7,.int .u64 J8,.slice J9 KA KB,.slice KC KD KE],.int .i64 Rp]) ∧ R (.returned (.tuple #[.agg #[.int .i64 J7,.int .u64 J8,.slice J9 KA KB,.slice KC KD KE],.int .i64 Rp])) AH))) (LI .i64 AF b9 0 fun tL => Br (tL = 1) (∃ Rq Rt Ru Rv Rx Ry Rz R0 R3 R4 R5 R6 R7 R8,Au AF b4 0 [.int .i64 Rq,.int .i64 Rt,.string Ru,.slice Rv Rx Ry,.int .i64 Rz,.int .i64 R0,.int .i64 R3,.slice R4 R5 R6,.bool R7,.int .i64 R8] ∧ LS AF b8 2 fun p57 n57 c57 => Spec prog 157 #[.pointer q0,.agg #[.int .i64 Rq,.int .i64 Rt,.string Ru,.slice Rv Rx Ry,.int .i64 Rz,.int .i64 R0,.int .i64 R3,.slice R4 R5 R6,.bool R7,.int .i64 R8],.slice p57 n57 c57,(.func (.func 159) #[] #[(.pointer (aD b4 0)),(.pointer (aD b9 0))])] AF (AA R (fun z AH => ∃ KF KG KH KI KJ KK KL KM Hl,z = (.tuple #[.agg #[.int .i64 KF,.int .u64 KG,.slice KH KI KJ,.slice KK KL KM],.int .i64 Hl]) ∧ R (.returned (.tuple #[.agg #[.int .i64 KF,.int .u64 KG,.slice KH KI KJ,.slice KK KL KM],.int .i64 Hl])) AH))) (LI .i64 AF b4 1 fun x64 => Spec prog 128 #[.int .i64 x64] AF (AA R (CB fun t65 AH => Bo t65 (∃ KN KO KQ KR KS KT KU KV KW KX KY KZ Ka Kb,Au AH b4 0 [.int .i64 KN,.int .i64 KO,.string KQ,.slice KR KS KT,.int .i64 KU,.int .i64 KV,.int .i64 KW,.slice KX KY KZ,.bool Ka,.int .i64 Kb] ∧ LS AH b8 2 fun tM n69 tN => LS AH b9 2 fun p71 n71 c71 => Spec prog 160 #[.pointer q0,.agg #[.int .i64 KN,.int .i64 KO,.string KQ,.slice KR KS KT,.int .i64 KU,.int .i64 KV,.int .i64 KW,.slice KX KY KZ,.bool Ka,.int .i64 Kb],.slice tM n69 tN,.slice p71 n71 c71] AH (AA R (fun z Ab => ∃ Kc Kd Ke Kf Kg Kh Ki Kj Ju,z = (.tuple #[.agg #[.int .i64 Kc,.int .u64 Kd,.slice Ke Kf Kg,.slice Kh Ki Kj],.int .i64 Ju]) ∧ R (.returned (.tuple #[.agg #[.int .i64 Kc,.int .u64 Kd,.slice Ke Kf Kg,.slice Kh Ki Kj],.int .i64 Ju])) Ab))) (∃ R9 SA SB SC SD SE SF SG SH SI SJ SK SL SM,Au AH b4 0 [.int .i64 R9,.int .i64 SA,.string SB,.slice SC SD SE,.int .i64 SF,.int .i64 SG,.int .i64 SH,.slice SI SJ SK,.bool SL,.int .i64 SM] ∧ LS AH b8 2 fun rL mG rO => LS AH b9 2 fun p80 n80 c80 => Spec prog 161 #[.pointer q0,.agg #[.int .i64 R9,.int .i64 SA,.string SB,.slice SC SD SE,.int .i64 SF,.int .i64 SG,.int .i64 SH,.slice SI SJ SK,.bool SL,.int .i64 SM],.slice rL mG rO,.slice p80 n80 c80] AH (AA R (fun z Ab => ∃ Kk Kl Km Kn Ko Kq Kr Ks SN,z = (.tuple #[.agg #[.int .i64 Kk,.int .u64 Kl,.slice Km Kn Ko,.slice Kq Kr Ks],.int .i64 SN]) ∧ R (.returned (.tuple #[.agg #[.int .i64 Kk,.int .u64 Kl,.slice Km Kn Ko,.slice Kq Kr Ks],.int .i64 SN])) Ab))))))))) (LI .i64 AF b8 0 fun rK => Br (rK = 1) (∃ Od Lv Oe Rc Re Rf Rh Ri Rj Rk Rl Rm Rn Ro,Au AF b4 0 [.int .i64 Od,.int .i64 Lv,.string Oe,.slice Rc Re Rf,.int .i64 Rh,.int .i64 Ri,.int .i64 Rj,.slice Rk Rl Rm,.bool Rn,.int .i64 Ro] ∧ LS AF b9 2 fun p45 n45 c45 => Spec prog 157 #[.pointer q0,.agg #[.int .i64 Od,.int .i64 Lv,.string Oe,.slice Rc Re Rf,.int .i64 Rh,.int .i64 Ri,.int .i64 Rj,.slice Rk Rl Rm,.bool Rn,.int .i64 Ro],.slice p45 n45 c45,(.func (.func 158) #[] #[(.pointer (aD b4 0)),(.pointer (aD b8 0))])] AF (AA R (fun z AH => ∃ J7 J8 J9 KA KB KC KD KE Rp,z = (.tuple #[.agg #[.int .i64 J7,.int .u64 J8,.slice J9 KA KB,.slice KC KD KE],.int .i64 Rp]) ∧ R (.returned (.tuple #[.agg #[.int .i64 J7,.int .u64 J8,.slice J9 KA KB,.slice KC KD KE],.int .i64 Rp])) AH))) (LI .i64 AF b9 0 fun tL => Br (tL = 1) (∃ Rq Rt Ru Rv Rx Ry Rz R0 R3 R4 R5 R6 R7 R8,Au AF b4 0 [.int .i64 Rq,.int .i64 Rt,.string Ru,.slice Rv Rx Ry,.int .i64 Rz,.int .i64 R0,.int .i64 R3,.slice R4 R5 R6,.bool R7,.int .i64 R8] ∧ LS AF b8 2 fun p57 n57 c57 => Spec prog 157 #[.pointer q0,.agg #[.int .i64 Rq,.int .i64 Rt,.string Ru,.slice Rv Rx Ry,.int .i64 Rz,.int .i64 R0,.int .i64 R3,.slice R4 R5 R6,.bool R7,.int .i64 R8],.slice p57 n57 c57,(.func (.func 159) #[] #[(.pointer (aD b4 0)),(.pointer (aD b9 0))])] AF (AA R (fun z AH => ∃ KF KG KH KI KJ KK KL KM Hl,z = (.tuple #[.agg #[.int .i64 KF,.int .u64 KG,.slice KH KI KJ,.slice KK KL KM],.int .i64 Hl]) ∧ R (.returned (.tuple #[.agg #[.int .i64 KF,.int .u64 KG,.slice KH KI KJ,.slice KK KL KM],.int .i64 Hl])) AH))) (LI .i64 AF b4 1 fun x64 => Spec prog 128 #[.int .i64 x64] AF (AA R (CB fun t65 AH => Bo t65 (∃ KN KO KQ KR KS KT KU KV KW KX KY KZ Ka Kb,Au AH b4 0 [.int .i64 KN,.int .i64 KO,.string KQ,.slice KR KS KT,.int .i64 KU,.int .i64 KV,.int .i64 KW,.slice KX KY KZ,.bool Ka,.int .i64 Kb] ∧ LS AH b8 2 fun tM n69 tN => LS AH b9 2 fun p71 n71 c71 => Spec prog 160 #[.pointer q0,.agg #[.int .i64 KN,.int .i64 KO,.string KQ,.slice KR KS KT,.int .i64 KU,.int .i64 KV,.int .i64 KW,.slice KX KY KZ,.bool Ka,.int .i64 Kb],.slice tM n69 tN,.slice p71 n71 c71] AH (AA R (fun z Ab => ∃ Kc Kd Ke Kf Kg Kh Ki Kj Ju,z = (.tuple #[.agg #[.int .i64 Kc,.int .u64 Kd,.slice Ke Kf Kg,.slice Kh Ki Kj],.int .i64 Ju]) ∧ R (.returned (.tuple #[.agg #[.int .i64 Kc,.int .u64 Kd,.slice Ke Kf Kg,.slice Kh Ki Kj],.int .i64 Ju])) Ab))) (∃ R9 SA SB SC SD SE SF SG SH SI SJ SK SL SM,Au AH b4 0 [.int .i64 R9,.int .i64 SA,.string SB,.slice SC SD SE,.int .i64 SF,.int .i64 SG,.int .i64 SH,.slice SI SJ SK,.bool SL,.int .i64 SM] ∧ LS AH b8 2 fun rL mG rO => LS AH b9 2 fun p80 n80 c80 => Spec prog 161 #[.pointer q0,.agg #[.int .i64 R9,.int .i64 SA,.string SB,.slice SC SD SE,.int .i64 SF,.int .i64 SG,.int .i64 SH,.slice SI SJ SK,.bool SL,.int .i64 SM],.slice rL mG rO,.slice p80 n80 c80] AH (AA R (fun z Ab => ∃ Kk Kl Km Kn Ko Kq Kr Ks SN,z = (.tuple #[.agg #[.int .i64 Kk,.int .u64 Kl,.slice Km Kn Ko,.slice Kq Kr Ks],.int .i64 SN]) ∧ R (.returned (.tuple #[.agg #[.int .i64 Kk,.int .u64 Kl,.slice Km Kn Ko,.slice Kq Kr Ks],.int .i64 SN])) Ab)))))))))))) : Spec prog 105 #[.pointer q0,.agg #[.int .i64 DW,.int .i64 CP,.string DY,.slice Dc De Dg,.int .i64 DX,.int .i64 Dd,.int .i64 C1,.slice Dn Dh Dp,.bool C2,.int .i64 CW],.slice p2 n2 c2] σ R := M.start h ok
end C4
namespace Gy
variable {s0 : ByteArray} {x3 : Int}
def M : Fw := ⟨prog,131,f131,[90],[],false,[],[],[(224,[(0,wT),(3,wI)])]⟩
theorem ok : M.Ok := ⟨.cons call90 (AG.nil),mixed,func131,by kernel_rfl⟩
def Gf := M.pt 0
theorem start (h : Gf R s0 0 σ) : Spec prog 131 #[.string s0] σ R := M.start h ok
theorem BA (h : Br (x3 < ((ByteArray.size s0 : Nat) : Int)) (∃ u11 : UInt8,0 ≤ x3 ∧ (ByteArray.data s0)[Int.toNat x3]? = some u11 ∧ Spec prog 90 #[(.int .u8 ((UInt8.toNat u11 : Nat) : Int))] σ (AA R (CB fun t12 y => Bo t12 (AN (x3 + 1) ∧ Gf R s0 (x3 + 1) y) (R (.returned (.int .i64 x3)) y)))) (R (.returned (.int .i64 x3)) σ)) : Gf R s0 x3 σ := M.of h ok rfl
end Gy
namespace DG
variable {q0 : Option Addr}
def M : Fw := ⟨prog,139,f139,[95],[],false,[],[],[]⟩
theorem ok : M.Ok := ⟨.cons call95 (AG.nil),mixed,func139,by kernel_rfl⟩
theorem start (h : Spec prog 95 #[.pointer q0,(.func (.func 171) #[.pointer q0] #[]),.int .i64 5,.int .i64 10] σ (AA R (fun z y => z = (.tuple #[]) ∧ R (.returned (.tuple #[])) y))) : Spec prog 139 #[.pointer q0] σ R := M.start h ok
end DG
namespace CD
variable {s0 : ByteArray} {x1 : Int}
def M : Fw := ⟨prog,169,f169,[],[],false,[],[],[]⟩
theorem ok : M.Ok := ⟨AG.nil,mixed,func169,by kernel_rfl⟩
theorem start (h : EN prog 209 #[.string s0,.int .u8 x1] σ (CI .i64 fun x7 y => R (.returned (.int .i64 x7)) y)) : Spec prog 169 #[.string s0,.int .u8 x1] σ R := M.start h ok
end CD
namespace BG
variable {q0 p3 : Option Addr} {n3 c3 : Nat}
def M : Fw := ⟨prog,170,f170,[135,136,210,211],[],false,[],[],[(480,[(0,wQ),(3,wL)]),(965,[(0,wQ),(3,wL)])]⟩
theorem ok : M.Ok := ⟨.cons call135 (.cons call136 (.cons call210 (.cons call211 (AG.nil)))),mixed,func170,by kernel_rfl⟩
def Bk := M.pt 0
def Vm := M.pt 1
theorem start (h : Spec prog 210 #[.pointer q0,(.string (ByteArray.mk #[40]))] σ (AA R (fun z y => z = (.tuple #[]) ∧ Bk R q0 none 0 0 y))) : Spec prog 170 #[.pointer q0] σ R := M.start h ok
theorem A5 (h : Spec prog 136 #[.pointer q0,.int .i64 5,(.string (ByteArray.mk #[41]))] σ (AA R (CB fun t7 y => Bn t7 (Br (0 < (n3 : Int)) (Spec prog 210 #[.pointer q0,(.string (ByteArray.mk #[44]))] y (AA R (fun z AF => z = (.tuple #[]) ∧ Vm R q0 p3 n3 c3 AF))) (Vm R q0 p3 n3 c3 y)) (Spec prog 135 #[.pointer q0] y (AA R (fun z AF => ∃ IF Vp ALr ALs,z = (.agg #[.int .i64 IF,.int .i64 Vp,.string ALr,.int .i64 ALs]) ∧ R (.returned (.slice p3 n3 c3)) AF)))))) : Bk R q0 p3 n3 c3 σ := M.of h ok rfl
theorem Qb (h : Spec prog 211 #[.pointer q0] σ (AA R (CT fun s16 y => Al y fun b17 => AJ prog (Builtin.append_ #[34,34] 34 #[.slice p3 n3 c3,(.slice (aD b17 0) 1 1)]) (Hp.set y b17 (.cells #[.string s16] 9 (0,0))) (CS fun rH n18 rI AF => Bk R q0 rH n18 rI AF)))) : Vm R q0 p3 n3 c3 σ := M.of h ok rfl
end BG
namespace DH
variable {p0 : Option Addr} {n0 c0 : Nat}
def M : Fw := ⟨prog,185,f185,[186],[],false,[],[],[]⟩
theorem ok : M.Ok := ⟨.cons call186 (AG.nil),mixed,func185,by kernel_rfl⟩
theorem start (h : AN ((n0 : Int) - 1) ∧ Pq p0 fun b7 o7 => In (((n0 : Int) - 1)) (n0 : Int) ∧ LI .u64 σ b7 (o7 + Int.toNat ((n0 : Int) - 1) * 1) fun x8 => Spec prog 186 #[.int .u64 x8] σ (AA R (CI .u64 fun x9 y => R (.returned (.int .u64 x9)) y))) : Spec prog 185 #[.slice p0 n0 c0] σ R := M.start h ok
end DH
namespace DI
variable {p0 p1 : Option Addr} {n0 c0 n1 c1 : Nat}
def M : Fw := ⟨prog,189,f189,[190],[],false,[],[],[]⟩
theorem ok : M.Ok := ⟨.cons call190 (AG.nil),mixed,func189,by kernel_rfl⟩
theorem start (h : AN ((n0 : Int) - 1) ∧ Pq p0 fun b9 o9 => In (((n0 : Int) - 1)) (n0 : Int) ∧ LI .u64 σ b9 (o9 + Int.toNat ((n0 : Int) - 1) * 1) fun x10 => In 0 (n0 : Int) ∧ LI .u64 σ b9 o9 fun E8 => Spec prog 190 #[.int .u64 x10,.int .u64 E8] σ (AA R (CI .u64 fun Zx y => R (.returned (.int .u64 Zx)) y))) : Spec prog 189 #[.slice p0 n0 c0,.slice p1 n1 c1] σ R := M.start h ok
end DI
namespace eU
variable {E2 EX P2 NJ Ht JQ : Int} {P3 : ByteArray} {Ue RT p1 : Option Addr} {Ts Uf Qa RU n1 c1 : Nat} {Mg : Bool}
def M : Fw := ⟨prog,207,f207,[146,149,150],[2],false,[],[],[]⟩
theorem ok : M.Ok := ⟨.cons call146 (.cons call149 (.cons call150 (AG.nil))),mixed,func207,by kernel_rfl⟩
theorem start (h : ∀ b2 : Nat,Br (Ht = 3) (Spec prog 149 #[.slice p1 n1 c1,.slice RT Qa RU] σ (AA R (CS fun La n11 Lc y => R (.returned (.slice La n11 Lc)) y))) (Spec prog 150 #[.slice p1 n1 c1,.slice RT Qa RU] σ (AA R (CS fun eO n15 Xq y => Spec prog 146 #[.slice eO n15 Xq] y (AA R (CS fun Wl n16 To AF => R (.returned (.slice Wl n16 To)) AF)))))) : Spec prog 207 #[.agg #[.int .i64 E2,.int .i64 EX,.string P3,.slice Ue Ts Uf,.int .i64 P2,.int .i64 NJ,.int .i64 Ht,.slice RT Qa RU,.bool Mg,.int .i64 JQ],.slice p1 n1 c1] σ R := M.start h ok
end eU
namespace Ec
variable {q0 : Option Addr}
def M : Fw := ⟨prog,211,f211,[66,67,126,135],[],false,[],[],[(14,[(0,wQ)])]⟩
theorem ok : M.Ok := ⟨.cons call66 (.cons call67 (.cons call126 (.cons call135 (AG.nil)))),mixed,func211,by kernel_rfl⟩
def Gf := M.pt 0
theorem start (h : Spec prog 66 #[.pointer q0] σ (AA R (fun z y => ∃ F2 Ff HU x4d,z = (.agg #[.int .i64 F2,.int .i64 Ff,.string HU,.int .i64 x4d]) ∧ Br (F2 ≠ 3) (Spec prog 67 #[.pointer q0] y (AA R (fun z AF => z = (.tuple #[]) ∧ Gf R q0 AF))) (Spec prog 66 #[.pointer q0] y (AA R (fun z AF => ∃ x9a x9b s9c x9d,z = (.agg #[.int .i64 x9a,.int .i64 x9b,.string s9c,.int .i64 x9d]) ∧ Spec prog 126 #[.string s9c] AF (AA R (CB fun t11 AH => Bn t11 (Spec prog 67 #[.pointer q0] AH (AA R (fun z Ab => z = (.tuple #[]) ∧ Gf R q0 Ab))) (Gf R q0 AH))))))))) : Spec prog 211 #[.pointer q0] σ R := M.start h ok
theorem BA (h : Spec prog 135 #[.pointer q0] σ (AA R (fun z y => ∃ RO Xj lH ALt,z = (.agg #[.int .i64 RO,.int .i64 Xj,.string lH,.int .i64 ALt]) ∧ R (.returned (.string lH)) y))) : Gf R q0 σ := M.of h ok rfl
end Ec
namespace strings_Split
variable {s0 s1 : ByteArray}
end strings_Split
namespace FZ
variable {p0 Dc Dn p2 : Option Addr} {n0 c0 De Dg Dh Dp n2 c2 b3 : Nat} {DW CP DX Dd C1 CW : Int} {DY : ByteArray} {C2 : Bool}
def M : Fw := ⟨prog,224,f224,[],[5],false,[],[],[]⟩
theorem ok : M.Ok := ⟨AG.nil,mixed,func224,by kernel_rfl⟩
theorem start (h : ∀ b5 : Nat,∃ v9,Hp.ld σ ⟨b3,0,none⟩ = some v9 ∧ ∃ (f11 : Nat) (YK YL : Array Value),v9 = .func (.func f11) YK YL ∧ Enters prog f11 ∧ Spec prog f11 (YK ++ #[.slice p0 n0 c0] ++ YL) σ (AA R (CI .u64 fun x11 y => R (.returned (.tuple #[.int .u64 x11,.bool true])) y))) : Spec prog 224 #[.slice p0 n0 c0,.agg #[.int .i64 DW,.int .i64 CP,.string DY,.slice Dc De Dg,.int .i64 DX,.int .i64 Dd,.int .i64 C1,.slice Dn Dh Dp,.bool C2,.int .i64 CW],.slice p2 n2 c2,(.pointer (aD b3 0))] σ R := M.start h ok
end FZ
namespace Ed
variable {q0 : Option Addr} {v1 : Value}
def M : Fw := ⟨prog,251,f251,[66,97,135],[],false,[],[],[(6,[(0,wQ),(1,wV)])]⟩
theorem ok : M.Ok := ⟨.cons call66 (.cons call97 (.cons call135 (AG.nil))),mixed,func251,by kernel_rfl⟩
def rG := M.pt 0
theorem start (h : Pq q0 fun b5 o5 => LI .i64 σ b5 (o5 + 1) fun x7 => Br (x7 = 64) (Spec prog 66 #[(.pointer (aD b5 o5))] σ (AA R (fun z y => ∃ gu P8 gw tO,z = (.agg #[.int .i64 gu,.int .i64 P8,.string gw,.int .i64 tO]) ∧ Spec prog 97 #[(.pointer (aD b5 o5)),.int .i64 182,.agg #[.int .i64 gu,.int .i64 P8,.string gw,.int .i64 tO]] y (AA R (fun z AF => z = (.tuple #[]) ∧ rG R (aD b5 o5) v1 AF))))) (rG R (aD b5 o5) v1 σ)) : Spec prog 251 #[.pointer q0,v1] σ R := M.D6 h ok [(0,.o (.Q q0)),(1,.o (.V v1))] rfl rfl (by kernel_rfl)
theorem RW (h : Pq q0 fun BL ND => LI .i64 σ BL (ND + 1) fun x16 => AN (x16 + 1) ∧ AJ prog (Instr.storeAt 3 (.pointer (aD BL (ND + 1))) (.int .i64 (x16 + 1))) σ (fun _ y => Spec prog 135 #[(.pointer (aD BL ND))] y (AA R (fun z AF => ∃ ALu ALv ALw ALx,z = (.agg #[.int .i64 ALu,.int .i64 ALv,.string ALw,.int .i64 ALx]) ∧ ∃ (f23 : Nat) (wk wm : Array Value),v1 = .func (.func f23) wk wm ∧ Enters prog f23 ∧ Spec prog f23 (wk ++ #[] ++ wm) AF (AA R (fun z AH => z = (.tuple #[]) ∧ LI .i64 AH BL (ND + 1) fun JU => AN (JU - 1) ∧ AJ prog (Instr.storeAt 3 (.pointer (aD BL (ND + 1))) (.int .i64 (JU - 1))) AH (fun _ Ab => R (.returned (.tuple #[])) Ab))))))) : rG R q0 v1 σ := M.of h ok rfl
end Ed
namespace Ee
variable {x0 : Int}
def M : Fw := ⟨prog,302,f302,[],[],false,[],[],[]⟩
theorem ok : M.Ok := ⟨AG.nil,mixed,func302,by kernel_rfl⟩
theorem start (h : Df (Go.bits .or .u8 x0 32) fun x4 => R (.returned (.int .u8 x4)) σ) : Spec prog 302 #[.int .u8 x0] σ R := M.start h ok
end Ee
namespace CE
variable {s0 s1 : ByteArray}
def M : Fw := ⟨prog,315,f315,[],[],false,[],[],[]⟩
theorem ok : M.Ok := ⟨AG.nil,mixed,func315,by kernel_rfl⟩
theorem start (h : Br ((((ByteArray.size s1 : Nat) : Int) : Int) ≤ ((ByteArray.size s0 : Nat) : Int)) (∃ s14,YF prog (Instr.sliceAt 9 (.string s0) none (some (.int .i64 ((ByteArray.size s1 : Nat) : Int))) none) σ (.string s14) ∧ R (.returned (.bool (ByteArray.toList s14 == ByteArray.toList s1))) σ) (R (.returned (.bool false)) σ)) : Spec prog 315 #[.string s0,.string s1] σ R := M.start h ok
end CE
end TwW
end
end
