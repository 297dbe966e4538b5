/-
  Part 2 of the proof that the law EvalOverUptoCardSaid of the given program answers true for every input of the given statement; the input reads behind the call as it did. (The texts: packed from 7 texts. Names are shortened by the packing program, for the bound on size.)
-/
import Derived.Test.YtlmhidjgplomgaaGreatDoorA1
set_option linter.all false
section
namespace Tw
open Go
variable [Ej]
def jw (P : Program) : Op → Bool
 | .call c => match c.callee with
   | .builtin .len => false
   | .builtin .cap => false
   | .builtin .min => match c.argTypes.toList with
     | T :: _ => xg P T
     | [] => false
   | .builtin .max => match c.argTypes.toList with
     | T :: _ => xg P T
     | [] => false
   | .builtin .real => false
   | .builtin .imag => false
   | .builtin .complex => false
   | _ => true
 | .convert T T' _ => match P.underlying T,P.underlying T' with
   | some (.int _),some (.int _) => false
   | _,_ => true
 | .box .. => true
 | .alloc .. => true
 | .store .. => true
 | .buildSlice .. => true
 | .makeSlice .. => true
 | .mapUpdate .. => true
 | .makeMap .. => true
 | .insert .. => true
 | .range .. => true
 | .next .. => true
 | .lookup .. => true
 | .entryStore .. => true
 | .mapEntry .. => true
 | .makeChan .. => true
 | .binOp b T _ _ _ => flB b && xg P T
 | _ => false
def fJ (s : S) : Option Operand → Option (Option Value)
 | none => some none
 | some x => match s.op x with
   | some v => some (some (v.den s.vl))
   | none => none
def qd (P : Program) (b : BinOp) (T : TypeId) (x y : Option SV) : Bool := match WL x,WL y with
 | some _,some _ => true
 | _,_ => match P.underlying T with
   | some .string => match b with
     | .eql => true
     | .neq => true
     | .add => true
     | _ => false
   | some (.pointer _) => true
   | some .bool => true
   | _ => false
def AJV : Option SV → Bool
 | some (.v (.a (.sl _ _ _))) => true
 | _ => false
def anyM (P : Program) (op : Op) (ty : TypeId) (s : S) : Option (Sem Value) := match op with
 | .slice T x lo hi mx => match AJV (s.op x) && mx.isNone with
   | true => none
   | false => match s.op x,fJ s lo,fJ s hi,fJ s mx with
     | some w,some l,some h,some m => some (Instr.sliceAt T (w.den s.vl) l h m)
     | _,_,_,_ => none
 | .unOp u _ x => match u,s.op x with
   | .not,_ => none
   | .neg,v => match WL v,v with
     | some _,_ => none
     | none,some v => some (Op.unary .neg (v.den s.vl))
     | none,none => none
   | u,some v => some (Op.unary u (v.den s.vl))
   | _,none => none
 | .binOp b T x y _ => match qd P b T (s.op x) (s.op y) with
   | true => none
   | false => match s.op x,s.op y with
     | some u,some v => some (do eqGuard b T x y (u.den s.vl) (v.den s.vl); binOp b T (u.den s.vl) (v.den s.vl))
     | _,_ => none
 | .call c => match c.callee,c.args.toList,c.argTypes.toList with
   | .builtin .len,[x],[T] => match s.op x with
     | some (.v (.a (.mp m))) => some (Builtin.len_ #[T] ty #[.map m])
     | _ => none
   | .builtin .real,[x],_ => match s.op x with
     | some v => some (Builtin.real_ c.argTypes ty #[v.den s.vl])
     | none => none
   | .builtin .imag,[x],_ => match s.op x with
     | some v => some (Builtin.imag_ c.argTypes ty #[v.den s.vl])
     | none => none
   | .builtin .complex,[x,y],_ => match s.op x,s.op y with
     | some u,some v => some (Builtin.complex_ c.argTypes ty #[u.den s.vl,v.den s.vl])
     | _,_ => none
   | _,_,_ => none
 | _ => none
theorem OE {s : S} {J : Env} {x : Option Operand} {v : Option Value} (h : fJ s x = some v) : x.map (AD (s.e J)) = v := by
 cases x with
 | none => simp only [fJ,Option.some.injEq] at h; subst h; rfl
 | some x =>
   simp only [fJ] at h
   split at h
   · rename_i u hu
     cases h
     simp only [Option.map_some]
     rw [ev hu]
   · cases h
theorem fK {P : Program} {op : Op} {ty : TypeId} {s : S} {m : Sem Value} (h : anyM P op ty s = some m) (J : Env) : ∀ o : Oper,o.op = op → o.type = ty → execOp (AD (s.e J)) o = (do pure (Next.value (← m))) := fun o ho ht => by
 unfold anyM at h
 split at h
 · rename_i T x lo hi mx
   split at h
   · cases h
   · split at h
     · rename_i w l hh mm h1 h2 h3 h4
       cases h
       simp only [execOp,ho,OE h2,OE h3,OE h4,ev h1]
     · cases h
 · rename_i u T x
   split at h
   · cases h
   · split at h
     · cases h
     · rename_i hv
       cases h
       simp only [execOp,ho,ev hv]
     · cases h
   · rename_i hv
     cases h
     simp only [execOp,ho,ev hv]
   · cases h
 · rename_i b T x y T'
   split at h
   · cases h
   · split at h
     · rename_i u v hu hv
       cases h
       simp only [execOp,ho,ev hu,ev hv]
     · cases h
 · rename_i c
   obtain ⟨ce,AUQ,ts⟩ := c
   split at h
   · rename_i x T h1 h2 h3
     simp only at h1 h2 h3
     have e1 : AUQ = #[x] := by rw [← Array.toList_inj]; simpa using h2
     have e2 : ts = #[T] := by rw [← Array.toList_inj]; simpa using h3
     subst h1 e1 e2
     split at h
     · rename_i mm hx
       cases h
       exact Zp (by rw [ev hx]; rfl) o ho ht
     · cases h
   · rename_i x h1 h2
     simp only at h1 h2 h
     have e1 : AUQ = #[x] := by rw [← Array.toList_inj]; simpa using h2
     subst h1 e1
     split at h
     · rename_i v hv
       cases h
       exact Oz (ev hv) o ho ht
     · cases h
   · rename_i x h1 h2
     simp only at h1 h2 h
     have e1 : AUQ = #[x] := by rw [← Array.toList_inj]; simpa using h2
     subst h1 e1
     split at h
     · rename_i v hv
       cases h
       exact O0 (ev hv) o ho ht
     · cases h
   · rename_i x y h1 h2
     simp only at h1 h2 h
     have e1 : AUQ = #[x,y] := by rw [← Array.toList_inj]; simpa using h2
     subst h1 e1
     split at h
     · rename_i u v hu hv
       cases h
       exact Je (ev hu) (ev hv) o ho ht
     · cases h
   · cases h
 · cases h
def xh (P : Program) (ty : TypeId) (m : Sem Value) (s : S) (K : SV → S → Prop) : Prop := s.ex P ty fun v s => YF P m s.σ (v.den s.vl) ∧ K v s
theorem Qq {P : Program} {op : Op} {ty : TypeId} {s : S} {m : Sem Value} {K : SV → S → Prop} (hm : anyM P op ty s = some m) (h : xh P ty m s K) : ∃ v s',s.Hx s' ∧ (∀ J,Yd P (s.e J) s.b s.σ op ty (v.den s'.vl)) ∧ K v s' := by
 obtain ⟨v,s',h1,hy,hk⟩ := S.Qo h
 rw [h1.σ] at hy
 exact ⟨v,s',h1,fun J => Yd.any (fK hm J) hy,hk⟩
def Qr (ops : Array Oper) (gd : Option (Nat × Bool)) (s : S) (K : Bool → S → Prop) : Prop := match gd with
 | none => K true s
 | some (j,want) => match (ops[j]?).bind (·.dst) with
   | none => False
   | some d => match U2 s.env d with
     | some (.v (.a .un)) => K false s
     | v => s.qZ v fun t s => K (t == want) s
theorem IW {ops : Array Oper} {gd : Option (Nat × Bool)} {s : S} {K : Bool → S → Prop} (h : Qr ops gd s K) : ∃ b s',s.Hx s' ∧ (∀ J,AR ops (s.e J) gd = b) ∧ K b s' := by
 unfold Qr at h
 split at h
 · exact ⟨true,s,.refl s,fun _ => rfl,h⟩
 · rename_i j want
   split at h
   · cases h
   · rename_i d hd
     split at h
     · rename_i hv
       refine ⟨false,s,.refl s,fun J => ?_,h⟩
       have : s.e J d = undef := D4 hv
       simp only [AR,hd,this]
       rfl
     · obtain ⟨t,s',x,h1,h2,h3,h4,h⟩ := S.E7 h
       refine ⟨_,s',h1,fun J => ?_,h⟩
       have : s.e J d = .bool t := (D4 h3).trans h4
       simp only [AR,hd,this]
       cases t <;> cases want <;> rfl
def dE (J : Env) (K : S → Prop) : Env → Bx → Hp → Prop := fun e bx σ => ∃ s,e = s.e J ∧ bx = s.b ∧ σ = s.σ ∧ K s
structure Cx extends aB where
 n : Nat
 OF : List (Nat × TypeId) := []
structure Cx.Ok (c : Cx) (g : Gl) : Prop where
 P : c.P = g.P
 R : c.R = g.R
 E : AG g.P c.M3
 n : c.n = g.n
 Ge : g.Ge = none
 ds : g.ds = []
def kp0 : KP := fun _ _ F => F
def fL (l : List E5) (i : Nat) (o : Nat) (xs : List Bb) : List E5 := match l with
 | [] => []
 | (j,t,cs) :: l => bif Nat.beq j i then (j,t,Z6 cs o xs) :: l else (j,t,cs) :: fL l i o xs
def Qt {α : Type} : List α → Nat
 | [] => 0
 | _ :: l => Qt l + 1
theorem QE {α : Type} : ∀ l : List α,Qt l = l.length
 | [] => rfl
 | _ :: l => by simp only [Qt,List.length_cons]; rw [QE l]
def OG : List Bb → List Value
 | [] => []
 | .raw v :: l => v :: OG l
 | .un :: l => undef :: OG l
 | _ :: l => OG l
def xi (F : Prop) : List Value → Prop
 | [] => F
 | [v] => (Value.oneCell' v = true) ∧ F
 | l => xj l ∧ F
where
 xj : List Value → Prop
   | [] => True
   | [v] => Value.oneCell' v = true
   | v :: l => Value.oneCell' v = true ∧ xj l
def SV.aG : SV → Option (List Bb)
 | .v (.a x) => some [x]
 | .v (.agg l) => some l
 | .Tm _ => none
def mapOf (P : Program) (l : List (Nat × TypeId)) (x : Operand) : Option (TypeId × TypeId) := match x with
 | .tmp t => match l.find? fun p => Nat.beq p.1 t with
   | some p => match P.underlying p.2 with
     | some (.map k v) => some (k,v)
     | _ => none
   | none => none
 | _ => none
def jx (c : Cx) (dst : Option Nat) (x : Operand) (ty : TypeId) (s : S) (K : S → Prop) : Prop := match dst,s.op x,mapOf c.P c.OF x with
 | some d,some u,some (tk,tv) => AJ c.P (Instr.next (u.den s.vl) false ty) s.σ (fun v σ1 => (v = (.tuple #[(.bool false)]) ∧ K ((s.hp σ1).put (some d) (.Tm [.a (.bl false)]))) ∨
     (match s.ok with
       | true => pc c.P tk s.vl fun a vl => pc c.P tv vl fun b vl => v = (SV.Tm [.a (.bl true),a,b]).den vl ∧ K (((s.hp σ1).w vl).put (some d) (.Tm [.a (.bl true),a,b]))
       | false => False))
 | _,_,_ => False
def xk (c : Cx) (T : TypeId) (i o : Nat) (v : SV) (s : S) (K : S → Prop) : Prop := match v.aG,Wi c.P T with
 | some l,some n => match Wr s.bx i with
   | some (t,cs) => match Nat.beq (Qt l) n && Nat.ble (o + Qt l) (Qt cs) with
     | true => xi (K ⟨s.env,fL s.bx i o l,s.vl,s.σ⟩) (OG l)
     | false => False
   | none => False
 | _,_ => False
def jy (c : Cx) (ops : Array Oper) (i : Nat) (s : S) (K : S → Prop) : Prop := match ops[i]? with
 | none => False
 | some o => match G3 o.dst c.n with
   | false => False
   | true => Qr ops o.guard s fun b s => match b with
     | false => K (s.put o.dst (.at .un))
     | true => match o.op with
       | .load T x => ldV c.P T x s fun _ v s => K (s.put o.dst v)
       | .mapUpdate T m k v => match o.dst,s.op m,s.op k,s.op v with
         | none,some m,some k,some v => AJ c.P (Instr.mapUpdate T (m.den s.vl) (k.den s.vl) (v.den s.vl)) s.σ (fun _ σ1 => K (s.hp σ1))
         | _,_,_,_ => False
       | .insert T m k v => match o.dst,s.op m,s.op k,s.op v with
         | none,some m,some k,some v => AJ c.P (Instr.mapUpdate T (m.den s.vl) (k.den s.vl) (v.den s.vl)) s.σ (fun _ σ1 => K (s.hp σ1))
         | _,_,_,_ => False
       | .next x false => jx c o.dst x o.type s K
       | .entry x => match s.op x,mapOf c.P c.OF x with
         | some u,some (tk,tv) => AJ c.P (Instr.entry (u.den s.vl)) s.σ (fun v σ1 => Gi (jt c.P tk tv) o.dst (s.hp σ1) s.σ v kp0 K)
         | _,_ => False
       | .panic x => match s.op x with
         | some (.v (.a (.raw (.iface T u)))) => c.R (.panicked [{ v := .iface T u,recovered := false }]) s.σ
         | _ => False
       | .store T x y => match o.dst,jj (s.op x),s.op y with
         | none,some (.bx i b),some v => xk c T i b v s K
         | _,_,_ => fH c.toaB o.dst (.store T x y) o.type s kp0 K
       | op => match jw c.P op,anyM c.P op o.type s with
         | true,_ => fH c.toaB o.dst op o.type s kp0 K
         | false,some m => xh c.P o.type m s fun v s => K (s.put o.dst v)
         | false,none => yv c.P c.wr op s fun v s => K (s.put o.dst v)
def qe (c : Cx) (ops : Array Oper) : List Nat → S → (S → Prop) → Prop
 | [],s,K => K s
 | i :: is,s,K => jy c ops i s fun s => qe c ops is s K
section
variable {g : Gl} {ops : Array Oper} {i : Nat} {J : Env} {s : S} {K : S → Prop} {c : Cx}
theorem dF {s s' : S} {K : Env → Bx → Hp → Prop} (h : s.Hx s') (hk : AL g ops i (s'.e J) s'.b s'.σ K) : AL g ops i (s.e J) s.b s.σ K := by
 rw [← h.e J,← h.b,← h.σ]; exact hk
theorem ACE {s : S} {o : Oper} {K : SV → S → Prop} {K' : Env → Bx → Hp → Prop} (ho : ops[i]? = some o) (hw : AR ops (s.e J) o.guard = true) (hd : G3 o.dst g.n = true) (h : YP g.P o.op o.type s K) (hk : ∀ v s',s.Hx s' → K v s' → K' ((s'.put o.dst v).e J) s'.b s'.σ) :
   AL g ops i (s.e J) s.b s.σ K' := by
 obtain ⟨v,s',h1,h2,h3⟩ := h
 have := hk v s' h1 h3
 rw [S.Hu,h1.e J,h1.b,h1.σ] at this
 exact AL.y (Cq ho) hw hd (h2 J _) this
theorem Yd.up {P : Program} {e : Env} {bx : Bx} {σ : Hp} {b : Nat} {op : Op} {ty : TypeId} {v : Value} (h : Yd P e bx (fun x => if x = b then σ x else none) op ty v) : Yd P e bx σ op ty v := fun o ho ht w hs hb => h o ho ht w (fun k u hk => by
 simp only at hk
 split at hk
 · exact hs k u hk
 · cases hk) hb
theorem AL.mono {e : Env} {bx : Bx} {σ : Hp} {K K' : Env → Bx → Hp → Prop} (h : AL g ops i e bx σ K) (hk : ∀ e bx σ,K e bx σ → K' e bx σ) : AL g ops i e bx σ K' := fun w0 F a w st => wpOpIn_mono (fun a' w' ⟨e',b',σ',Mo,h'⟩ => ⟨e',b',σ',Mo,hk _ _ _ h'⟩) (h w0 F a w st)
theorem ACF {dst : Option Nat} {op : Op} {ty : TypeId} {gd : Option (Nat × Bool)} (hc : c.Ok g) (hs : sig ops i = some (dst,op,ty,gd)) (hw : AR ops (s.e J) gd = true) (hd : G3 dst g.n = true) (h : fH c.toaB dst op ty s kp0 K) : AL g ops i (s.e J) s.b s.σ (dE J K) := by
 have := Qp (c := c.toaB) (kq := fun _ _ => True) (J := J) hc.P hc.R hc.E (fun _ _ F h => ⟨h,trivial⟩) (fun _ _ _ => trivial) hs hw hd h
 intro w0 F a w st
 refine wpOpIn_mono ?_ (this w0 F a w st)
 rintro a' w' ⟨e',F2,σ',Mo,s',rfl,rfl,rfl,_,_,hk⟩
 exact ⟨_,_,_,Mo,s',rfl,rfl,rfl,hk⟩
theorem Ww {dst : Option Nat} {x : Operand} {ty : TypeId} {gd : Option (Nat × Bool)} (hc : c.Ok g) (hs : sig ops i = some (dst,.next x false,ty,gd)) (hw : AR ops (s.e J) gd = true) (hd : G3 dst g.n = true) (h : jx c dst x ty s K) : AL g ops i (s.e J) s.b s.σ (dE J K) := by
 unfold jx at h
 split at h
 · rename_i d u tk tv hu hm
   rw [hc.P] at h
   refine AL.QZ hs hw hd (Instr.next (u.den s.vl) false ty) (fun o ho ht => by simp only [execOp,ho,ht]; rw [ev hu]) (h.mono fun v σ1 hr => ?_)
   rcases hr with ⟨rfl,hk⟩ | hr
   · exact ⟨_,(S.Hu (s := s.hp σ1) (x := .Tm [.a (.bl false)])).symm,(S.Hv (s := s.hp σ1) (x := .Tm [.a (.bl false)])).symm,(S.E6 (s := s.hp σ1) (x := .Tm [.a (.bl false)])).symm,hk⟩
   · split at hr
     · rename_i D3
       obtain ⟨a,w1,h1,hr⟩ := D5 hr
       obtain ⟨b,w2,h2,hr⟩ := D5 hr
       obtain ⟨hv,hk⟩ := hr
       have Oy := S.Qg (s := s.hp σ1) D3 (h1.trans h2).le
       refine ⟨_,?_,?_,?_,hk⟩
       · rw [S.Hu,Oy.e J,hv]; rfl
       · rw [S.Hv,Oy.b]; rfl
       · rw [S.E6]; rfl
     · cases hr
 · cases h
theorem Wx {vl : Vl} {i o : Nat} {l : List Bb} : ∀ {bx : List E5} {t : TypeId} {cs : List Bb},Wr bx i = some (t,cs) → ∃ j,(EJ vl bx)[j]? = some (nth 0 vl.δ i,.cells (A0 vl cs).toArray t (0,0)) ∧ EJ vl (fL bx i o l) = (EJ vl bx).set j (nth 0 vl.δ i,.cells (A0 vl (Z6 cs o l)).toArray t (0,0))
 | (k,u,ds) :: r,t,cs,h => by
   simp only [Wr] at h
   cases hk : Nat.beq k i with
   | true =>
     rw [hk] at h; simp only [cond_true,Option.some.injEq,Prod.mk.injEq] at h
     obtain ⟨rfl,rfl⟩ := h
     have := Nat.eq_of_beq_eq_true hk
     subst this
     exact ⟨0,rfl,by simp only [fL,hk,cond_true,EJ,List.set_cons_zero]⟩
   | false =>
     rw [hk] at h; simp only [cond_false] at h
     obtain ⟨j,h1,h2⟩ := Wx (vl := vl) (o := o) (l := l) h
     exact ⟨j + 1,by simpa only [EJ,List.getElem?_cons_succ] using h1,by simp only [fL,hk,cond_false,EJ,List.set_cons_succ,h2]⟩
theorem aH {F : Prop} {l : List Value} (h : xi F l) : F ∧ ∀ v ∈ l,Value.oneCell' v = true := by
 have cj : ∀ {l : List Value},xi.xj l → ∀ v ∈ l,Value.oneCell' v = true := fun {l} => by
   induction l with
   | nil => intro _ v hv; cases hv
   | cons a l ih =>
     intro h v hv
     cases l with
     | nil => simp at hv; subst hv; exact h
     | cons b l =>
       rcases List.mem_cons.1 hv with rfl | hv
       · exact h.1
       · exact ih h.2 v hv
 match l,h with
 | [],h => exact ⟨h,fun v hv => by cases hv⟩
 | [v],h => exact ⟨h.2,fun u hu => by simp at hu; subst hu; exact h.1⟩
 | a :: b :: l,h => exact ⟨h.2,cj h.1⟩
theorem Qu {vl : Vl} : ∀ {l : List Bb},(∀ v ∈ OG l,Value.oneCell' v = true) → ∀ u ∈ A0 vl l,Value.oneCell' u = true
 | [],_,u,hu => by cases hu
 | x :: l,h,u,hu => by
   have tl : ∀ v ∈ OG l,Value.oneCell' v = true := fun v hv => h v (by cases x <;> first | exact hv | exact List.mem_cons_of_mem _ hv)
   rcases List.mem_cons.1 hu with rfl | hu
   · cases x <;> try rfl
     case bs i n => cases n <;> rfl
     case raw v => exact h v (List.mem_cons_self ..)
     case un => exact h undef (List.mem_cons_self ..)
   · exact Qu tl u hu
theorem aI {vl : Vl} {v : SV} {l : List Bb} (h : v.aG = some l) (ho : ∀ u ∈ A0 vl l,Value.oneCell' u = true) : (v.den vl).cells = (A0 vl l).toArray := by
 unfold SV.aG at h
 split at h
 · rename_i x
   cases h
   have := ho (x.den vl) (List.mem_cons_self ..)
   simp only [SV.den,GV.den,A0]
   cases hx : x.den vl <;> first | rfl | (rw [hx] at this; cases this)
 · cases h; rfl
 · cases h
theorem aJ {T ty : TypeId} {x y : Operand} {gd : Option (Nat × Bool)} {k b : Nat} {v : SV} (hc : c.Ok g) (hs : sig ops i = some (none,.store T x y,ty,gd)) (hw : AR ops (s.e J) gd = true) (hx : jj (s.op x) = some (.bx k b)) (hy : s.op y = some v) (h : xk c T k b v s K) : AL g ops i (s.e J) s.b s.σ (dE J K) := by
 unfold xk at h
 split at h
 · rename_i l n hl hz
   split at h
   · rename_i t cs hg
     split at h
     · rename_i hd
       simp only [Bool.and_eq_true,QE] at hd
       obtain ⟨hk,ho⟩ := aH h
       have aK := Qu (vl := s.vl) ho
       have aL := aI (vl := s.vl) hl aK
       obtain ⟨u,e1,e2⟩ := EL hx
       obtain ⟨j,h1,h2⟩ := Wx (vl := s.vl) (o := b) (l := l) hg
       rw [hc.P] at hz
       refine AL.wv (b := nth 0 s.vl.δ k) (o := b) (c := (A0 s.vl cs).toArray) (c' := (A0 s.vl (Z6 cs b l)).toArray) (t := t) (j := j) hs hw (CJ hz) (by rw [ev e1,e2]; rfl) (ev hy) h1 ?_ ?_ ?_ ?_ ?_
       · rw [aL]; simp [Cr]; exact Nat.eq_of_beq_eq_true hd.1
       · have := Nat.eq_of_beq_eq_true hd.1
         have h3 := Nat.le_of_ble_eq_true hd.2
         exact Nat.ble_eq_true_of_le (by simp [Cr]; omega)
       · rw [aL]; exact List.all_eq_true.2 fun u hu => aK u (by simpa using hu)
       · rw [aL,Qk]
       · exact ⟨⟨s.env,fL s.bx k b l,s.vl,s.σ⟩,rfl,h2.symm,rfl,hk⟩
     · cases h
   · cases h
 · cases h
theorem Wy (hc : c.Ok g) (h : jy c ops i s K) : AL g ops i (s.e J) s.b s.σ (dE J K) := by
 unfold jy at h
 split at h
 · cases h
 · rename_i o ho
   split at h
   · cases h
   · rename_i hd
     rw [hc.n] at hd
     obtain ⟨b,s1,h1,hw,h⟩ := IW h
     have hw := hw J
     rw [← h1.e J] at hw
     refine dF h1 ?_
     cases b with
     | false => exact AL.no (Cq ho) hw hd ⟨_,(S.Hu (x := .at .un)).symm,S.Hv.symm,S.E6.symm,h⟩
     | true =>
       simp only at h
       split at h
       · rename_i T x G5
         obtain ⟨m,v,s2,h2,hk,hy⟩ := T3 (ty := o.type) h
         have hs := Cq ho
         rw [G5] at hs
         refine AL.y (v := v.den s2.vl) hs hw hd ?_ ⟨s2.put o.dst v,by rw [S.Hu,h2.e J],by rw [S.Hv,h2.b],by rw [S.E6,h2.σ],hk⟩
         have hy := hy J
         rw [hc.P] at hy
         cases m with
         | none => exact hy _
         | some b => exact Yd.up hy
       · rename_i T m k v G5
         split at h
         · rename_i um uk uv MO hm hk hv
           have hs := Cq ho
           rw [G5,MO] at hs
           rw [hc.P] at h
           exact AL.qO hs hw rfl _ (fun o ho ht => by simp only [execOp,ho]; rw [ev hm,ev hk,ev hv]) (h.mono fun _ σ1 hr => ⟨s1.hp σ1,rfl,rfl,rfl,hr⟩)
         · cases h
       · rename_i T m k v G5
         split at h
         · rename_i um uk uv MO hm hk hv
           have hs := Cq ho
           rw [G5,MO] at hs
           rw [hc.P] at h
           exact AL.qO hs hw rfl _ (fun o ho ht => by simp only [execOp,ho]; rw [ev hm,ev hk,ev hv]) (h.mono fun _ σ1 hr => ⟨s1.hp σ1,rfl,rfl,rfl,hr⟩)
         · cases h
       · have G5 := ‹o.op = Op.next _ false›
         have hs := Cq ho
         rw [G5] at hs
         exact Ww hc hs hw hd h
       · have G5 := ‹o.op = Op.entry _›
         have hs := Cq ho
         rw [G5] at hs
         split at h
         · rename_i u tk tv hu hm
           rw [hc.P] at h
           have := AL.QZ (K := xf J s1 (fun _ _ => True) K) hs hw hd (Instr.entry (u.den s1.vl)) (fun o ho ht => by simp only [execOp,ho]; rw [ev hu]) (h.mono fun v σ1 hr => Ac (kq := fun _ _ => True) fG (fun _ _ F h => ⟨h,trivial⟩) hr J)
           exact this.mono fun e bx σ ⟨s',e1,e2,e3,_,_,hk⟩ => ⟨s',e1,e2,e3,hk⟩
         · cases h
       · have G5 := ‹o.op = Op.panic _›
         split at h
         · rename_i T u hx
           have hs := Cq ho
           rw [G5] at hs
           rw [hc.R] at h
           exact AL.panic hs hw (by rw [ev hx]; rfl) hc.Ge hc.ds h
         · cases h
       · have G5 := ‹o.op = Op.store _ _ _›
         have hs := Cq ho
         rw [G5] at hs
         split at h
         · rename_i i' b v MO hx hy
           rw [MO] at hs
           exact aJ hc hs hw hx hy h
         · exact ACF hc hs hw hd h
       · split at h
         · exact ACF hc (Cq ho) hw hd h
         · rename_i m _ hm
           rw [hc.P] at h hm
           obtain ⟨v,s2,h2,hy,hk⟩ := Qq hm h
           exact AL.y (v := v.den s2.vl) (Cq ho) hw hd (hy J) ⟨s2.put o.dst v,by rw [S.Hu,h2.e J],by rw [S.Hv,h2.b],by rw [S.E6,h2.σ],hk⟩
         · rw [hc.P] at h
           exact ACE ho hw hd (Ws h) fun v s' il hk => ⟨s'.put o.dst v,rfl,S.Hv.symm,S.E6.symm,hk⟩
theorem MR (hc : c.Ok g) : ∀ {is : List Nat} {s : S},qe c ops is s K → Seq g ops is (s.e J) s.b s.σ (dE J K)
 | [],s,h => ⟨s,rfl,rfl,rfl,h⟩
 | i :: is,s,h => (Wy hc h).mono fun e bx σ ⟨s',h1,h2,h3,h4⟩ => by subst h1 h2 h3; exact MR hc h4
theorem Qv {K K' : Env → Bx → Hp → Prop} (hk : ∀ e bx σ,K e bx σ → K' e bx σ) : ∀ {is : List Nat} {e : Env} {bx : Bx} {σ : Hp},Seq g ops is e bx σ K → Seq g ops is e bx σ K'
 | [],_,_,_,h => hk _ _ _ h
 | i :: is,e,bx,σ,h => AL.mono h fun _ _ _ h => Qv hk h
theorem IX {K K' : Env → Bx → Hp → Prop} (hk : ∀ e bx σ,K e bx σ → K' e bx σ) : ∀ {p : Ord} {q : IK} {e : Env} {bx : Bx} {σ : Hp},Jb g ops p q e bx σ K → Jb g ops p q e bx σ K'
 | .done,_,_,_,_,h => hk _ _ _ h
 | .yes i r,q,e,bx,σ,⟨own,o,v,h1,h2,h3,h4,h5⟩ => ⟨own,o,v,h1,h2,h3,h4,IX hk h5⟩
 | .alt i r t,q,e,bx,σ,⟨h1,h2⟩ => ⟨AL.mono h1 fun _ _ _ ⟨h3,h4⟩ => ⟨h3,IX hk h4⟩,IX hk h2⟩
 | .no,_,_,_,_,_ => trivial
def Qw : Ord → List Nat
 | .done => []
 | .yes _ r => Qw r
 | .alt i r _ => i :: Qw r
 | .no => []
def ACG (ops : Array Oper) (i : Nat) : Nat → Nat → Option (List Nat)
 | 0,_ => none
 | f + 1,t => match Hr ops t i with
   | true => some [t]
   | false => (List.range t).findSome? fun u => match Nat.blt i u && Hr ops t u with
     | true => match ACG ops i f u with
       | some p => some (t :: p)
       | none => none
     | false => none
def waits (ops : Array Oper) (i : Nat) : List Nat → List (List Nat)
 | [] => []
 | t :: l => match ACG ops i 40 t with
   | some p => p :: waits ops i l
   | none => waits ops i l
def uK (L : IK) : KP := fun σ0 σ1 F => match L with
 | none => Ext σ0 σ1 ∧ F
 | some [] => F
 | some (x :: l) => Kp ((x :: l).map Prod.fst) σ0 σ1 ∧ F
def FP (c : Cx) (ops : Array Oper) : Ord → IK → S → (S → Prop) → Prop
 | .done,_,s,K => K s
 | .yes i r,L,s,K => match ops[i]? with
   | none => False
   | some o => match G3 o.dst c.n && L.ok i with
     | false => False
     | true => Qr ops o.guard s fun b s => match b with
       | false => FP c ops r L (s.put o.dst (.at .un)) K
       | true => match o.op with
         | .load T x => ldV c.P T x s fun m v s => match m,L with
           | none,_ => FP c ops r L (s.put o.dst v) K
           | some _,none => FP c ops r L (s.put o.dst v) K
           | some b,some l => match (MK (some l) (some (b,waits ops i (Qw r)))).ok i && QY ops i (some (b,waits ops i (Qw r))) with
             | true => FP c ops r (MK (some l) (some (b,waits ops i (Qw r)))) (s.put o.dst v) K
             | false => False
         | op => match jw c.P op,anyM c.P op o.type s,L with
           | true,_,_ => False
           | false,some m,none => xh c.P o.type m s fun v s => FP c ops r none (s.put o.dst v) K
           | false,some _,some _ => False
           | false,none,L => yv c.P c.wr op s fun v s => FP c ops r L (s.put o.dst v) K
 | .alt i r t,L,s,K =>
   match t with
   | .no => Wz c ops i L s fun s => FP c ops r (FN L i) s K
   | t => (Wz c ops i L s fun s => FP c ops r (FN L i) s K) ∧ FP c ops t L s K
 | .no,_,_,_ => True
where
 Wz (c : Cx) (ops : Array Oper) (i : Nat) (L : IK) (s : S) (K : S → Prop) : Prop := match ops[i]? with
   | none => False
   | some o => match G3 o.dst c.n with
     | false => False
     | true => Qr ops o.guard s fun b s => match b with
       | false => K (s.put o.dst (.at .un))
       | true => fH c.toaB o.dst o.op o.type s (uK (FN L i)) K
def kqL (q : IK) (σ σ' : Hp) : Prop := match q with
 | none => ∀ b o,σ b = some o → σ' b = some o
 | some L => ∀ x ∈ L,∀ o,σ x.1 = some o → σ' x.1 = some o
theorem xl {q : IK} {bx F2 : Bx} {σ σ' : Hp} (h : kqL q σ σ') (hb : ∀ p ∈ bx,p ∈ F2) : JY q bx σ F2 σ' := ⟨hb,h⟩
theorem fM {L : IK} {σ0 σ1 : Hp} {F : Prop} (h : uK L σ0 σ1 F) : F ∧ kqL L σ0 σ1 := by
 unfold uK at h
 split at h
 · exact ⟨h.2,h.1⟩
 · exact ⟨h,fun x hx => by cases hx⟩
 · exact ⟨h.2,fun y hy o ho => h.1 y.1 (List.mem_map.2 ⟨y,hy,rfl⟩) o ho⟩
theorem qf {L : IK} {σ0 σ1 : Hp} (h : Ext σ0 σ1) : kqL L σ0 σ1 := by
 cases L with
 | none => exact h
 | some l => exact fun x _ o ho => h _ _ ho
theorem W0 {L : IK} (hc : c.Ok g) (h : FP.Wz c ops i L s K) : AL g ops i (s.e J) s.b s.σ fun e' F2 σ' => JY (FN L i) s.b s.σ F2 σ' ∧ dE J K e' F2 σ' := by
 unfold FP.Wz at h
 split at h
 · cases h
 · rename_i o ho
   split at h
   · cases h
   · rename_i hd
     rw [hc.n] at hd
     obtain ⟨b,s1,h1,hw,h⟩ := IW h
     have hw := hw J
     rw [← h1.e J] at hw
     have key : AL g ops i (s1.e J) s1.b s1.σ fun e' F2 σ' => JY (FN L i) s1.b s1.σ F2 σ' ∧ dE J K e' F2 σ' := by
       cases b with
       | false => exact AL.no (Cq ho) hw hd ⟨JY.refl _ _ _,_,(S.Hu (x := .at .un)).symm,S.Hv.symm,S.E6.symm,h⟩
       | true =>
         have := Qp (c := c.toaB) (kq := kqL (FN L i)) (J := J) hc.P hc.R hc.E (fun _ _ F h => fM h) (fun _ _ h => qf h) (Cq ho) hw hd h
         exact this.mono fun e' F2 σ' ⟨s',e1,e2,e3,hq,hb,hk⟩ => ⟨xl hq hb,s',e1,e2,e3,hk⟩
     have := dF (K := fun e' F2 σ' => JY (FN L i) s1.b s1.σ F2 σ' ∧ dE J K e' F2 σ') h1 key
     rw [h1.b,h1.σ] at this
     exact this
theorem Cs (hc : c.Ok g) : ∀ {p : Ord} {q : IK} {s : S},FP c ops p q s K → Jb g ops p q (s.e J) s.b s.σ (dE J K)
 | .done,q,s,h => ⟨s,rfl,rfl,rfl,h⟩
 | .yes i r,q,s,h => by
   simp only [FP] at h
   split at h
   · cases h
   · rename_i o ho
     split at h
     · cases h
     · rename_i hd
       simp only [Bool.and_eq_true] at hd
       obtain ⟨hd,hq⟩ := hd
       rw [hc.n] at hd
       obtain ⟨b,s1,h1,hw,h⟩ := IW h
       have hw := hw J
       rw [← h1.e J] at hw
       rw [← h1.e J,← h1.b,← h1.σ]
       have go : ∀ {v : SV} {s2 : S} {own : Option (Nat × List (List Nat))},s1.Hx s2 → ((MK q own).ok i && QY ops i own) = true → Yd g.P (s1.e J) s1.b (N4 q own s1.σ) o.op o.type (v.den s2.vl) → AR ops (s1.e J) o.guard = true → FP c ops r (MK q own) (s2.put o.dst v) K → Jb g ops (.yes i r) q (s1.e J) s1.b s1.σ (dE J K) := fun {v s2 own} h2 D3 hy hw hk => by
         have := Cs hc hk
         rw [S.Hu,S.Hv,S.E6,h2.e J,h2.b,h2.σ] at this
         exact ⟨own,o,v.den s2.vl,D3,ho,.inl ⟨hw,hy⟩,G3.lt hd,this⟩
       cases b with
       | false =>
         have := Cs hc h
         rw [S.Hu,S.Hv,S.E6] at this
         exact ⟨none,o,undef,ok_none hq,ho,.inr ⟨hw,rfl⟩,G3.lt hd,by rw [E3]; exact this⟩
       | true =>
         simp only at h
         split at h
         · rename_i T x G5
           obtain ⟨m,v,s2,h2,hk,hy⟩ := T3 (ty := o.type) h
           have hy := hy J
           rw [hc.P,← G5] at hy
           split at hk
           · exact go (own := none) h2 (ok_none hq) (hy _) hw (by rw [E3]; exact hk)
           · exact go (own := none) h2 (ok_none hq) (Yd.up hy) hw (by rw [E3]; exact hk)
           · rename_i b l
             split at hk
             · rename_i D3
               exact go h2 D3 hy hw hk
             · cases hk
         · split at h
           · cases h
           · have hm := ‹anyM c.P o.op o.type s1 = some _›
             rw [hc.P] at h hm
             obtain ⟨v,s2,h2,hy,hk⟩ := Qq hm h
             exact go (own := none) h2 (ok_none hq) (hy J) hw hk
           · cases h
           · rw [hc.P] at h
             obtain ⟨v,s2,h2,hy,hk⟩ := Ws (ty := o.type) h
             exact go (own := none) h2 (ok_none hq) (hy J _) hw (by rw [E3]; exact hk)
 | .alt i r t,q,s,h => by
   have key : ∀ {t : Ord},(FP.Wz c ops i q s fun s => FP c ops r (FN q i) s K) → Jb g ops t q (s.e J) s.b s.σ (dE J K) → Jb g ops (.alt i r t) q (s.e J) s.b s.σ (dE J K) := fun {t} h1 h2 =>
     ⟨(W0 hc h1).mono fun e bx σ ⟨hk,s',e1,e2,e3,h3⟩ => ⟨hk,by subst e1 e2 e3; exact Cs hc h3⟩,h2⟩
   cases t with
   | no => exact key h trivial
   | done => exact key h.1 (Cs hc h.2)
   | yes j u => exact key h.1 (Cs hc h.2)
   | alt j u w => exact key h.1 (Cs hc h.2)
 | .no,q,s,h => trivial
def dG (P : Program) (ops : Array Oper) (m : Nat) : Nat → Array Bool → Ord
 | 0,_ => .no
 | f + 1,listed => match (List.range m).all fun i => listed.getD i false with
   | true => .done
   | false => match (Region.ready .any ops listed).find? fun j => Nat.blt j m && match ops[j]? with | some o => !jw P o.op | none => false with
     | some j => .yes j (dG P ops m f (listed.setIfInBounds j true))
     | none => (Region.ready .any ops listed).foldr (fun j acc => .alt j (dG P ops m f (listed.setIfInBounds j true)) acc) .no
def xn (c : Cx) (ops : Array Oper) (draw : Bool) (m : Nat) (q : IK) (s : S) (K : S → Prop) : Prop := match draw with
 | false => qe c ops (List.range ops.size) s K
 | true => match U0 ops m (dG c.P ops m (ops.size + 1) (Array.replicate ops.size false)) (List.range' m (ops.size - m)) with
   | true => FP c ops (dG c.P ops m (ops.size + 1) (Array.replicate ops.size false)) q s fun s => qe c ops (List.range' m (ops.size - m)) s K
   | false => False
theorem aM {k : List Item} {id m : Nat} {draw : Bool} {q : IK} (hc : c.Ok g) (hm : g.P.follows .mixedOrders = true) (h : xn c ops draw m q s K) (hk : ∀ s,K s → At g k (s.e J) s.b s.σ) : At g (.code (.region id ops draw) :: k) (s.e J) s.b s.σ := by
 have fin : ∀ e bx σ,dE J K e bx σ → At g k e bx σ := fun e bx σ ⟨s',e1,e2,e3,h⟩ => by subst e1 e2 e3; exact hk s' h
 cases draw with
 | false =>
   refine At.region rfl rfl ?_
   have : Seq g ops (List.range ops.size) (s.e J) s.b s.σ (dE J K) := MR hc h
   exact Qv fin this
 | true =>
   simp only [xn] at h
   split at h
   · rename_i hp
     refine At.ACA hm rfl hp (q := q) ?_
     have := Cs (J := J) hc h
     refine IX (fun e bx σ ⟨s',e1,e2,e3,h⟩ => ?_) this
     subst e1 e2 e3
     exact Qv fin (MR hc h)
   · cases h
end
end Tw
end
section
namespace Tw
open Go
variable [Ej]
def node (body : Code) : List Bool → Code
 | [] => body
 | false :: p => cl (node body p)
 | true :: p => cr (node body p)
inductive It where
 | c (p : List Bool)
 | Qh (i : Nat)
 | lp (p : List Bool)
 | sc (p : List Bool)
def It.den (body : Code) : It → Item
 | .c p => .code (node body p)
 | .Qh i => .inBlock i
 | .lp p => .inLoop (node body p)
 | .sc p => .inScope (node body p)
def Ct (body : Code) : List It → List Item
 | [] => []
 | x :: l => x.den body :: Ct body l
def OH : List Bool → List Bool → Bool
 | [],[] => true
 | a :: p,b :: q => (bif a then b else !b) && OH p q
 | _,_ => false
theorem T7 : ∀ {p q : List Bool},OH p q = true → p = q
 | [],[],_ => rfl
 | a :: p,b :: q,h => by
   simp only [OH,Bool.and_eq_true] at h
   rw [T7 h.2]
   cases a <;> cases b <;> simp at h <;> rfl
 | [],_ :: _,h => by cases h
 | _ :: _,[],h => by cases h
def It.eq : It → It → Bool
 | .c p,.c q => OH p q
 | .Qh i,.Qh j => Nat.beq i j
 | .lp p,.lp q => OH p q
 | .sc p,.sc q => OH p q
 | _,_ => false
def dH : List It → List It → Bool
 | [],[] => true
 | x :: l,y :: m => x.eq y && dH l m
 | _,_ => false
theorem W1 : ∀ {l m : List It},dH l m = true → l = m
 | [],[],_ => rfl
 | x :: l,y :: m,h => by
   simp only [dH,Bool.and_eq_true] at h
   rw [W1 h.2]
   have : x = y := by
     cases x <;> cases y <;> simp only [It.eq] at h <;> first
       | (rw [T7 h.1])
       | (rw [Nat.eq_of_beq_eq_true h.1])
       | (exact absurd h.1 (by simp))
   rw [this]
 | [],_ :: _,h => by cases h
 | _ :: _,[],h => by cases h
structure Cut where
 todo : List It
 f : S → Prop
def Cut.Ok (g : Gl) (body : Code) (k : Cut) : Prop := ∀ s J,k.f s → At g (Ct body k.todo) (s.e J) s.b s.σ
def qg : List Cut → List It → Option (S → Prop)
 | [],_ => none
 | k :: l,t => match dH k.todo t with
   | true => some k.f
   | false => qg l t
theorem dI {g : Gl} {body : Code} : ∀ {l : List Cut} {t : List It} {f : S → Prop},(∀ k ∈ l,k.Ok g body) → qg l t = some f → ∀ s J,f s → At g (Ct body t) (s.e J) s.b s.σ
 | k :: l,t,f,hl,h => by
   simp only [qg] at h
   split at h
   · rename_i he
     cases h
     rw [← W1 he]
     exact hl k (List.mem_cons_self ..)
   · exact dI (fun k hk => hl k (List.mem_cons_of_mem _ hk)) h
def O1 (i : Nat) : List It → Option (List It)
 | [] => none
 | .Qh j :: r => match Nat.beq i j with
   | true => some r
   | false => O1 i r
 | _ :: r => O1 i r
def U8 (l : Nat) : Code → List Bool → Option (List It)
 | .seq a b,p => match U8 l a (false :: p) with
   | some r => some (r ++ [.c (true :: p)])
   | none => U8 l b (true :: p)
 | .label j,_ => match Nat.beq j l with
   | true => some []
   | false => none
 | _,_ => none
def O2 (body : Code) (l : Nat) : List It → Option (List It)
 | [] => none
 | .sc p :: r => match U8 l (node body p) p with
   | some m => some (m ++ (.sc p :: r))
   | none => O2 body l r
 | _ :: r => O2 body l r
structure Fx extends Cx where
 body : Code
 res : List ResultVar
 reg : List (Nat × Nat × Bool)
def jz : List (Nat × Nat × Bool) → Nat → Nat → Nat × IK
 | [],_,m => (m,some [])
 | (i,m,b) :: l,id,z => match Nat.beq i id with
   | true => (m,bif b then none else some [])
   | false => jz l id z
def aN (c : Fx) (s : S) : List ResultVar → Option (List SV)
 | [] => some []
 | .tmp t :: r => match U2 s.env t,aN c s r with
   | some v,some l => some (v :: l)
   | _,_ => none
 | .cell p T :: r => match jj (U2 s.env p),aN c s r with
   | some (.bx i 0),some l => match Wr s.bx i,Wj c.P T with
     | some (_,cs),some true => match Wi c.P T with
       | some n => match decide (cs.length = n) with
         | true => some (.v (.agg cs) :: l)
         | false => none
       | none => none
     | some (_,x :: _),some false => some (.at x :: l)
     | _,_ => none
   | _,_ => none
def Ux (c : Fx) (s : S) : Prop := match aN c s c.res with
 | some l => c.R (.returned (Qa (CC s.vl l))) s.σ
 | none => False
def Cu (c : Fx) (cuts : List Cut) : Nat → Bool → List It → S → Prop
 | 0,_,_,_ => False
 | f + 1,first,todo,s => match (bif first then none else qg cuts todo) with
   | some k => k s
   | none => match todo with
     | [] => Ux c s
     | .Qh _ :: r => Cu c cuts f false r s
     | .lp p :: r => Cu c cuts f false (.c p :: .lp p :: r) s
     | .sc _ :: r => Cu c cuts f false r s
     | .c p :: r => match node c.body p with
       | .skip => Cu c cuts f false r s
       | .seq _ _ => Cu c cuts f false (.c (false :: p) :: .c (true :: p) :: r) s
       | .block i _ => Cu c cuts f false (.c (false :: p) :: .Qh i :: r) s
       | .loop _ => Cu c cuts f false (.c (false :: p) :: .lp (false :: p) :: r) s
       | .exit i => match O1 i r with
         | some r => Cu c cuts f false r s
         | none => False
       | .scope _ => Cu c cuts f false (.c (false :: p) :: .sc (false :: p) :: r) s
       | .label _ => Cu c cuts f false r s
       | .goto l => match O2 c.body l r with
         | some r => Cu c cuts f false r s
         | none => False
       | .cond x _ _ => s.qZ (s.op x) fun t s => Cu c cuts f false (.c ((!t) :: p) :: r) s
       | .ret => Ux c s
       | .region id ops draw => xn c.toCx ops draw (jz c.reg id ops.size).1 (jz c.reg id ops.size).2 s fun s => Cu c cuts f false r s
       | _ => False
structure Fx.Ok (c : Fx) (g : Gl) (fn : Func) : Prop where
 cx : c.toCx.Ok g
 mixed : g.P.follows .mixedOrders = true
 fnc : g.P.funcs[g.f]? = some fn
 res : fn.results = c.res.toArray
 Ge : g.Ge = none
 ds : g.ds = []
section
variable {g : Gl} {c : Fx} {fn : Func} {cuts : List Cut} {J : Env}
theorem Gj (hP : c.P = g.P) {s : S} : ∀ {rs : List ResultVar} {l : List SV},aN c s rs = some l → HF g.P (s.e J) s.b s.σ rs (CC s.vl l)
 | [],l,h => by simp only [aN,Option.some.injEq] at h; subst h; rfl
 | .tmp t :: r,l,h => by
   simp only [aN] at h
   split at h
   · rename_i v l' h1 h2
     cases h
     refine ⟨_,?_,Gj hP h2⟩
     rw [show s.e J t = v.den s.vl from D4 h1]; rfl
   · cases h
 | .cell p T :: r,l,h => by
   simp only [aN] at h
   split at h
   · rename_i i l' h1 h2
     obtain ⟨u,e1,e2⟩ := EL h1
     have hp : s.e J p = .pointer (some ⟨nth 0 s.vl.δ i,0,none⟩) := (D4 e1).trans (e2 _)
     split at h
     · rename_i t cs hb ha
       split at h
       · rename_i n hn
         split at h
         · rename_i hd
           have hd := of_decide_eq_true hd
           cases h
           rw [hP] at ha hn
           exact ⟨_,_,rfl,⟨_,hp,jT (EK ha) (CJ hn) (by simp [Cr]; exact hd) (Jc hb)⟩,Gj hP h2⟩
         · cases h
       · cases h
     · rename_i t x cs hb ha
       cases h
       rw [hP] at ha
       exact ⟨_,_,rfl,⟨_,hp,qP (EK ha) (Jc hb) rfl⟩,Gj hP h2⟩
     · cases h
   · cases h
theorem Hz {body : Code} {i : Nat} : ∀ {r r' : List It},O1 i r = some r' → exitTo i (Ct body r) = some (Ct body r')
 | .Qh j :: r,r',h => by
   simp only [O1] at h
   split at h
   · rename_i he
     cases h
     have := Nat.eq_of_beq_eq_true he
     subst this
     simp [Ct,It.den,exitTo]
   · rename_i he
     have A4 : i ≠ j := fun e => by subst e; rw [Nat.beq_refl] at he; cases he
     simp only [Ct,It.den,exitTo]
     rw [if_neg (by simpa using Ne.symm A4)]
     exact Hz h
 | .c p :: r,r',h => by simp only [O1] at h; simp only [Ct,It.den,exitTo]; exact Hz h
 | .lp p :: r,r',h => by simp only [O1] at h; simp only [Ct,It.den,exitTo]; exact Hz h
 | .sc p :: r,r',h => by simp only [O1] at h; simp only [Ct,It.den,exitTo]; exact Hz h
theorem Qy {body : Code} : ∀ {l m : List It},Ct body (l ++ m) = Ct body l ++ Ct body m
 | [],_ => rfl
 | x :: l,m => by simp only [List.cons_append,Ct,Qy]
theorem LD {l : Nat} : ∀ {x : Code} {p : List Bool},U8 l x p = none → findLabel x l = none
 | .seq a b,p,h => by
   simp only [U8] at h
   split at h
   · cases h
   · rename_i h1
     simp only [findLabel,LD h1,LD h]
 | .label j,p,h => by
   simp only [U8] at h
   split at h
   · cases h
   · rename_i h1
     have : j ≠ l := fun e => by subst e; rw [Nat.beq_refl] at h1; cases h1
     simp [findLabel,this]
 | .skip,p,h => rfl
 | .region ..,p,h => rfl
 | .cond ..,p,h => rfl
 | .block ..,p,h => rfl
 | .loop ..,p,h => rfl
 | .rangeFunc ..,p,h => rfl
 | .exit ..,p,h => rfl
 | .scope ..,p,h => rfl
 | .goto ..,p,h => rfl
 | .ret,p,h => rfl
 | .refuse ..,p,h => rfl
theorem Qz {l : Nat} {body : Code} : ∀ {x : Code} {p : List Bool} {m : List It},node body p = x → U8 l x p = some m → ∃ rest,findLabel x l = some rest ∧ ∀ {k : List Item} {e : Env} {bx : Bx} {σ : Hp},At g (Ct body m ++ k) e bx σ → At g (.code rest :: k) e bx σ
 | .seq a b,p,m,hx,h => by
   simp only [U8] at h
   split at h
   · rename_i r h1
     cases h
     obtain ⟨rest,e1,e2⟩ := Qz (body := body) (x := a) (p := false :: p) (by simp only [node,hx,cl]) h1
     refine ⟨.seq rest b,by simp only [findLabel,e1],fun h => At.seq rfl (e2 ?_)⟩
     rw [Qy,List.append_assoc] at h
     simp only [Ct,It.den,node,hx,cr,List.cons_append,List.nil_append] at h
     exact h
   · rename_i h1
     obtain ⟨rest,e1,e2⟩ := Qz (body := body) (x := b) (p := true :: p) (by simp only [node,hx,cr]) h
     exact ⟨rest,by simp only [findLabel,LD h1,e1],e2⟩
 | .label j,p,m,hx,h => by
   simp only [U8] at h
   split at h
   · rename_i h1
     cases h
     have := Nat.eq_of_beq_eq_true h1
     subst this
     exact ⟨.skip,by simp [findLabel],fun h => At.skip h⟩
   · cases h
theorem H0 {l : Nat} {body : Code} : ∀ {r r' : List It},O2 body l r = some r' → ∃ k',gotoIn l (Ct body r) = some k' ∧ ∀ {e : Env} {bx : Bx} {σ : Hp},At g (Ct body r') e bx σ → At g k' e bx σ
 | .sc p :: r,r',h => by
   simp only [O2] at h
   split at h
   · rename_i m h1
     cases h
     obtain ⟨rest,e1,e2⟩ := Qz (g := g) rfl h1
     refine ⟨.code rest :: .inScope (node body p) :: Ct body r,by simp only [Ct,It.den,gotoIn,e1],fun h => e2 ?_⟩
     rw [Qy] at h
     exact h
   · rename_i h1
     obtain ⟨k',e1,e2⟩ := H0 h
     exact ⟨k',by simp only [Ct,It.den,gotoIn,LD h1,e1],e2⟩
 | .c p :: r,r',h => by simp only [O2] at h; simp only [Ct,It.den,gotoIn]; exact H0 h
 | .lp p :: r,r',h => by simp only [O2] at h; simp only [Ct,It.den,gotoIn]; exact H0 h
 | .Qh p :: r,r',h => by simp only [O2] at h; simp only [Ct,It.den,gotoIn]; exact H0 h
theorem Am (hc : c.Ok g fn) (hk : ∀ k ∈ cuts,k.Ok g c.body) : ∀ {f : Nat} {first : Bool} {todo : List It} {s : S},Cu c cuts f first todo s → At g (Ct c.body todo) (s.e J) s.b s.σ
 | 0,_,_,_,h => h.elim
 | f + 1,first,todo,s,h => by
   have hl : ∀ σ,left g.ds σ = σ := fun σ => by rw [hc.ds]; rfl
   have iq : Marks g.ds s.σ := by rw [hc.ds]; trivial
   simp only [Cu] at h
   split at h
   · rename_i k ACJ
     cases first with
     | true => cases ACJ
     | false => exact dI hk ACJ s J h
   · split at h
     · unfold Ux at h
       split at h
       · rename_i l WM
         rw [hc.cx.R] at h
         exact At.ABx hc.fnc hc.res (by rw [hl]; exact Gj hc.cx.P WM) (by rw [hl]; exact h) hc.Ge iq
       · cases h
     · exact At.inBlock (Am hc hk h)
     · exact At.inLoop (Am hc hk h)
     · exact At.inScope (Am hc hk h)
     · rename_i p r _
       have e : Ct c.body (.c p :: r) = .code (node c.body p) :: Ct c.body r := rfl
       rw [e]
       split at h
       · rename_i hn; rw [hn]; exact At.skip (Am hc hk h)
       · rename_i a b hn
         refine At.seq hn ?_
         have := Am hc hk h
         simp only [Ct,It.den,node,hn,cl,cr] at this
         exact this
       · rename_i i a hn
         refine At.block hn ?_
         have := Am hc hk h
         simp only [Ct,It.den,node,hn,cl] at this
         exact this
       · rename_i a hn
         refine At.loop hn ?_
         have := Am hc hk h
         simp only [Ct,It.den,node,hn,cl] at this
         exact this
       · rename_i i hn
         split at h
         · rename_i r' hr
           exact At.exit hn (Hz hr) (Am hc hk h)
         · cases h
       · rename_i a hn
         refine At.scope hn ?_
         have := Am hc hk h
         simp only [Ct,It.den,node,hn,cl] at this
         exact this
       · rename_i l hn; rw [hn]; exact At.label (Am hc hk h)
       · rename_i l hn
         split at h
         · rename_i r' hr
           obtain ⟨k',e1,e2⟩ := H0 (g := g) hr
           exact At.goto hn e1 (e2 (Am hc hk h))
         · cases h
       · rename_i x a b hn
         obtain ⟨t,s',v,h1,h2,h3,h4,h⟩ := S.E7 h
         have hx : AD (s.e J) x = .bool t := by rw [ev h3,h4]
         have := Am hc hk h
         rw [h1.e J,h1.b,h1.σ] at this
         cases t with
         | true =>
           refine At.tw hn hx ?_
           simp only [Ct,It.den,node,hn,cl,Bool.not_true] at this
           exact this
         | false =>
           refine At.tz hn hx ?_
           simp only [Ct,It.den,node,hn,cr,Bool.not_false] at this
           exact this
       · rename_i hn
         unfold Ux at h
         split at h
         · rename_i l WM
           rw [hc.cx.R] at h
           exact At.Ux hn hc.fnc hc.res (by rw [hl]; exact Gj hc.cx.P WM) (by rw [hl]; exact h) hc.Ge iq
         · cases h
       · rename_i id ops draw hn
         rw [hn]
         exact aM hc.cx hc.mixed h fun s' h' => Am hc hk h'
       · cases h
end
def S.fN (s : S) : List Nat → Option (List Value)
 | [] => some []
 | t :: l => match U2 s.env t,s.fN l with
   | some v,some r => some (v.den s.vl :: r)
   | _,_ => none
theorem T8 {s : S} {J : Env} : ∀ {l : List Nat} {vs : List Value},s.fN l = some vs → Live (s.e J) (l.zip vs)
 | [],vs,h => by simp only [S.fN,Option.some.injEq] at h; subst h; trivial
 | t :: l,vs,h => by
   simp only [S.fN] at h
   split at h
   · rename_i v r h1 h2
     cases h
     exact ⟨D4 h1,T8 h2⟩
   · cases h
def dJ (i : Nat) : List E5 → Option (E5 × List E5)
 | [] => none
 | x :: l => match Nat.beq x.1 i with
   | true => some (x,l)
   | false => dJ i l
def uL : Option SV → Option Nat
 | some (.v (.a (.pt (.bx i 0)))) => some i
 | _ => none
def S.U9 (s : S) : List Nat → List E5 → Option (List E5)
 | [],_ => some []
 | t :: l,bx => match uL (U2 s.env t) with
   | some i => match dJ i bx with
     | some (x,r) => match s.U9 l r with
       | some m => some (x :: m)
       | none => none
     | none => none
   | none => none
def Q0 (vl : Vl) : List Nat → List E5 → List (Nat × Value)
 | t :: l,x :: r => (t,.pointer (some ⟨nth 0 vl.δ x.1,0,none⟩)) :: Q0 vl l r
 | _,_ => []
theorem T9 {vl : Vl} {i : Nat} : ∀ {l r : List E5} {x : E5},dJ i l = some (x,r) → x.1 = i ∧ ∀ m : List E5,(EJ vl m).Sublist (EJ vl r) → (EJ vl (x :: m)).Sublist (EJ vl l)
 | y :: l,r,x,h => by
   simp only [dJ] at h
   split at h
   · rename_i he
     cases h
     exact ⟨Nat.eq_of_beq_eq_true he,fun m hm => List.Sublist.cons_cons _ hm⟩
   · obtain ⟨h1,h2⟩ := T9 (vl := vl) h
     exact ⟨h1,fun m hm => List.Sublist.cons _ (h2 m hm)⟩
theorem W2 {s : S} {J : Env} : ∀ {l : List Nat} {bx B : List E5},s.U9 l bx = some B → (EJ s.vl B).Sublist (EJ s.vl bx) ∧ Live (s.e J) (Q0 s.vl l B)
 | [],bx,B,h => by simp only [S.U9,Option.some.injEq] at h; subst h; exact ⟨List.nil_sublist _,trivial⟩
 | t :: l,bx,B,h => by
   simp only [S.U9] at h
   split at h
   · rename_i i hi
     split at h
     · rename_i x r hx
       split at h
       · rename_i m hm
         cases h
         obtain ⟨h1,h2⟩ := T9 (vl := s.vl) hx
         obtain ⟨h3,h4⟩ := W2 (s := s) (J := J) hm
         refine ⟨h2 m h3,?_,h4⟩
         unfold uL at hi
         split at hi
         · rename_i hg
           cases hi
           rw [h1]
           exact D4 hg
         · cases hi
       · cases h
     · cases h
   · cases h
theorem Live.app {e : Env} : ∀ {l m : List (Nat × Value)},Live e l → Live e m → Live e (l ++ m)
 | [],_,_,h => h
 | (_,_) :: _,_,h,g => ⟨h.1,Live.app h.2 g⟩
theorem At.ACK {g : Gl} {k : List Item} {s : S} {J : Env} {l bl : List Nat} {vs : List Value} {B : List E5} (h : s.fN l = some vs) (hb : s.U9 bl s.bx = some B) (hk : ∀ J,At g k (JX J (Q0 s.vl bl B ++ l.zip vs)) (EJ s.vl B) s.σ) : At g k (s.e J) s.b s.σ := by
 obtain ⟨h1,h2⟩ := W2 (J := J) hb
 exact At.sub h1 (At.live (h2.app (T8 h)) (hk _))
def Q1 : Nat → List Value → List (Nat × Value)
 | _,[] => []
 | k,v :: l => (k,v) :: Q1 (k + 1) l
theorem Q2 {e : Env} : ∀ {l : List Value} {k : Nat},(∀ j v,l[j]? = some v → e (k + j) = v) → Live e (Q1 k l)
 | [],_,_ => trivial
 | v :: l,k,h => ⟨h 0 v rfl,Q2 fun j u hj => by rw [show k + 1 + j = k + (j + 1) by omega]; exact h (j + 1) u (by simpa using hj)⟩
theorem Spec.walk {P : Program} {f : FuncId} {fn : Func} {R : Rr} {args : Array Value} {n fuel : Nat} (c : Fx) (cuts : List Cut) (s : S) (hc : c.Ok (Gl.fn P f n R) fn) (hb : fn.body = some c.body) (hnt : fn.ntmps = n) (hn : Nat.ble args.size n = true)
   (hk : ∀ k ∈ cuts,k.Ok (Gl.fn P f n R) c.body) (he : G7 s.vl s.env = Q1 0 args.toList) (hbx : s.bx = []) (h : Cu c cuts fuel true [.c []] s) : Spec P f args s.σ R := by
 subst hnt
 refine Spec.cW hc.fnc hb (Nat.le_of_ble_eq_true hn) fun e hee => ?_
 have hl : Live e (G7 s.vl s.env) := by
   rw [he]
   refine Q2 fun j v hj => ?_
   rw [Nat.zero_add,hee]
   simp only [Array.getD_eq_getD_getElem?]
   rw [← Array.getElem?_toList,hj]; rfl
 have := Am (J := e) hc hk h
 have Pb : s.b = [] := by rw [S.b,hbx]; rfl
 rw [Pb] at this
 exact At.live hl this
end Tw
end
section
namespace Tw
open Go
variable [Ej]
inductive Dv where
 | I (k : IntKind) (x : Int)
 | B (t : Bool)
 | T (x : ByteArray)
 | L (p : Option Addr) (n c : Nat)
 | Q (p : Option Addr)
 | A (b : Nat)
 | M (x : Option Nat)
 | V (x : Value)
def Dv.den : Dv → Value
 | .I k x => .int k x
 | .B t => .bool t
 | .T x => .string x
 | .L p n c => .slice p n c
 | .Q p => .pointer p
 | .A b => .pointer (some ⟨b,0,none⟩)
 | .M x => .map x
 | .V x => x
def W3 : List Dv → List Value
 | [] => []
 | x :: l => x.den :: W3 l
inductive Dw where
 | o (x : Dv)
 | G (l : List Dv)
 | U (l : List Dv)
 | X (T : TypeId) (l : List Dv)
def Dw.den : Dw → Value
 | .o x => x.den
 | .G l => .agg (W3 l).toArray
 | .U l => .tuple (W3 l).toArray
 | .X _ _ => undef
structure Nm where
 ρ : List (Option Addr)
 β : List BK
structure Nm.le (n : Nm) (v : Vl) : Prop where
 ρ : ∀ i,i < n.ρ.length → nth none v.ρ i = nth none n.ρ i
 β : ∀ i,i < n.β.length → nth (.var false) v.β i = nth (.var false) n.β i
def Dv.sym : Dv → Nm → Bb × Nm
 | .I k x,n => (.int k x,n)
 | .B t,n => (.bs (Qt n.β) false,⟨n.ρ,n.β ++ [.var t]⟩)
 | .T x,n => (.str x,n)
 | .L p k c,n => (.sl (.var (Qt n.ρ)) k c,⟨n.ρ ++ [p],n.β⟩)
 | .Q p,n => (.pt (.var (Qt n.ρ)),⟨n.ρ ++ [p],n.β⟩)
 | .A b,n => (.pt (.at b 0),n)
 | .M x,n => (.mp x,n)
 | .V x,n => (.raw x,n)
theorem Nm.ACL {n : Nm} {v : Vl} {p : Option Addr} (h : Nm.le ⟨n.ρ ++ [p],n.β⟩ v) : n.le v ∧ nth none v.ρ (Qt n.ρ) = p := by
 refine ⟨⟨fun i hi => (h.ρ i (by simp only [List.length_append]; omega)).trans (LA hi),h.β⟩,?_⟩
 rw [QE,h.ρ _ (by simp)]; exact LC
theorem Nm.AJW {n : Nm} {v : Vl} {p : BK} (h : Nm.le ⟨n.ρ,n.β ++ [p]⟩ v) : n.le v ∧ nth (.var false) v.β (Qt n.β) = p := by
 refine ⟨⟨h.ρ,fun i hi => (h.β i (by simp only [List.length_append]; omega)).trans (LA hi)⟩,?_⟩
 rw [QE,h.β _ (by simp)]; exact LC
theorem Dv.OI {x : Dv} {n : Nm} {v : Vl} (h : (x.sym n).2.le v) : (x.sym n).1.den v = x.den ∧ n.le v := by
 cases x with
 | B t => obtain ⟨h1,h2⟩ := Nm.AJW h; exact ⟨by simp only [Dv.sym,Bb.den,h2]; rfl,h1⟩
 | L p k c => obtain ⟨h1,h2⟩ := Nm.ACL h; exact ⟨by simp only [Dv.sym,Bb.den,PV.den,h2]; rfl,h1⟩
 | Q p => obtain ⟨h1,h2⟩ := Nm.ACL h; exact ⟨by simp only [Dv.sym,Bb.den,PV.den,h2]; rfl,h1⟩
 | _ => exact ⟨rfl,h⟩
def W4 : List Dv → Nm → List Bb × Nm
 | [],n => ([],n)
 | x :: l,n => match x.sym n with
   | (a,n) => match W4 l n with
     | (r,n) => (a :: r,n)
theorem QF {v : Vl} : ∀ {l : List Dv} {n : Nm},(W4 l n).2.le v → A0 v (W4 l n).1 = W3 l ∧ n.le v
 | [],n,h => ⟨rfl,h⟩
 | x :: l,n,h => by
   obtain ⟨h1,h2⟩ := QF (l := l) (n := (x.sym n).2) h
   obtain ⟨h3,h4⟩ := Dv.OI h2
   exact ⟨by simp only [W4,A0,W3,h3]; rw [← h1],h4⟩
def atoms : List Bb → List GV
 | [] => []
 | x :: l => .a x :: atoms l
theorem UA {v : Vl} : ∀ l,HJ v (atoms l) = A0 v l
 | [] => rfl
 | x :: l => by simp only [atoms,HJ,A0]; rw [UA l]; rfl
def Dw.sym : Dw → Nm → SV × Nm
 | .o x,n => match x.sym n with | (a,n) => (.v (.a a),n)
 | .G l,n => match W4 l n with | (a,n) => (.v (.agg a),n)
 | .U l,n => match W4 l n with | (a,n) => (.Tm (atoms a),n)
 | .X _ _,n => (.v (.a .un),n)
theorem Dw.OI {x : Dw} {n : Nm} {v : Vl} (h : (x.sym n).2.le v) : (x.sym n).1.den v = x.den ∧ n.le v := by
 cases x with
 | o x => exact Dv.OI (x := x) h
 | G l => obtain ⟨h1,h2⟩ := QF (l := l) h; exact ⟨by simp only [Dw.sym,SV.den,GV.den,Dw.den]; rw [← h1],h2⟩
 | U l => obtain ⟨h1,h2⟩ := QF (l := l) h; exact ⟨by simp only [Dw.sym,SV.den,Dw.den]; rw [UA,← h1],h2⟩
 | X T l => exact ⟨rfl,h⟩
abbrev Bv := Nat × TypeId × List Dv
def Pc : List (Nat × Dw) → List (Nat × Value)
 | [] => []
 | (_,.X _ _) :: l => Pc l
 | (t,x) :: l => (t,x.den) :: Pc l
def OJ : List (Nat × Dw) → Nm → List (Nat × SV) × Nm
 | [],n => ([],n)
 | (_,.X _ _) :: l,n => OJ l n
 | (t,x) :: l,n => match x.sym n with
   | (a,n) => match OJ l n with
     | (r,n) => ((t,a) :: r,n)
theorem LF {v : Vl} : ∀ {l : List (Nat × Dw)} {n : Nm},(OJ l n).2.le v → G7 v (OJ l n).1 = Pc l ∧ n.le v
 | [],n,h => ⟨rfl,h⟩
 | (t,.o x) :: l,n,h => by
   obtain ⟨h1,h2⟩ := LF (l := l) (n := ((Dw.o x).sym n).2) h
   obtain ⟨h3,h4⟩ := Dw.OI h2
   exact ⟨by simp only [OJ,G7,Pc,h3]; rw [← h1],h4⟩
 | (t,.G x) :: l,n,h => by
   obtain ⟨h1,h2⟩ := LF (l := l) (n := ((Dw.G x).sym n).2) h
   obtain ⟨h3,h4⟩ := Dw.OI h2
   exact ⟨by simp only [OJ,G7,Pc,h3]; rw [← h1],h4⟩
 | (t,.U x) :: l,n,h => by
   obtain ⟨h1,h2⟩ := LF (l := l) (n := ((Dw.U x).sym n).2) h
   obtain ⟨h3,h4⟩ := Dw.OI h2
   exact ⟨by simp only [OJ,G7,Pc,h3]; rw [← h1],h4⟩
 | (_,.X T x) :: l,n,h => LF (l := l) (n := n) h
def JP : List (Nat × Dw) → List Bv → List Bv
 | [],r => r
 | (t,.X T l) :: m,r => JP m ((t,T,l) :: r)
 | _ :: m,r => JP m r
def W5 : List Bv → Nat → Nm → List E5 × Nm
 | [],_,n => ([],n)
 | (_,T,l) :: m,j,n => match W4 l n with
   | (a,n) => match W5 m (j + 1) n with
     | (r,n) => ((j,T,a) :: r,n)
def qh : List Bv → Nat → List (Nat × SV)
 | [],_ => []
 | (t,_,_) :: m,j => (t,.v (.a (.pt (.bx j 0)))) :: qh m (j + 1)
abbrev Bw := Nat × TypeId × List Value
def TP : List Bv → List Bw
 | [] => []
 | (t,T,l) :: m => (t,T,W3 l) :: TP m
def aO : List Bw → List Nat → List (Nat × Value)
 | (t,_,_) :: m,b :: δ => (t,.pointer (some ⟨b,0,none⟩)) :: aO m δ
 | _,_ => []
def xo : List Bw → List Nat → Bx
 | (_,T,l) :: m,b :: δ => (b,.cells l.toArray T (0,0)) :: xo m δ
 | _,_ => []
def PB : List Bw → (List Nat → Prop) → Prop
 | [],K => K []
 | _ :: m,K => ∀ b : Nat,PB m fun δ => K (b :: δ)
theorem j0 : ∀ {l : List Bw} {K : List Nat → Prop},PB l K → ∀ δ,δ.length = l.length → K δ
 | [],K,h,[],_ => h
 | _ :: m,K,h,b :: δ,hl => j0 (h b) δ (by simpa using hl)
theorem j1 : ∀ {l : List Bw} {K : List Nat → Prop},(∀ δ,δ.length = l.length → K δ) → PB l K
 | [],K,h => h [] rfl
 | _ :: m,K,h => fun b => j1 fun δ hl => h (b :: δ) (by simp [hl])
def PTv (g : Gl) (td : List Item) (bs : List Bw) (ts : List (Nat × Value)) (σ : Hp) : Prop :=
 ∀ J : Env,PB bs fun δ => At g td (JX J (aO bs δ ++ ts)) (xo bs δ) σ
theorem dK {δ0 : List Nat} {v : Vl} : ∀ {m : List Bv} {j : Nat} {n : Nm} {δ : List Nat},δ.length = m.length → (∀ i,i < δ.length → nth 0 v.δ (j + i) = nth 0 δ i) → (W5 m j n).2.le v →
   EJ v (W5 m j n).1 = xo (TP m) δ ∧ G7 v (qh m j) = aO (TP m) δ ∧ n.le v
 | [],j,n,[],_,_,h => ⟨rfl,rfl,h⟩
 | (t,T,l) :: m,j,n,b :: δ,hl,hd,h => by
   obtain ⟨h1,h2,h3⟩ := dK (δ0 := δ0) (m := m) (j := j + 1) (n := (W4 l n).2) (δ := δ) (by simpa using hl) (fun i hi => by
     have := hd (i + 1) (by simpa using hi)
     rw [show j + 1 + i = j + (i + 1) by omega]; exact this) h
   obtain ⟨h4,h5⟩ := QF h3
   have hb : nth 0 v.δ j = b := hd 0 (by simp)
   refine ⟨?_,?_,h5⟩
   · simp only [W5,EJ,TP,xo,hb,h4]; rw [← h1]
   · simp only [qh,G7,TP,aO,SV.den,GV.den,Bb.den,PV.den,hb]; rw [h2]
def fO (D : List (Nat × Dw)) (δ : List Nat) (σ : Hp) : S := match OJ D ⟨[],[]⟩ with
 | (e,n) => match JP D [] with
   | bs => match W5 bs 0 n with
     | (x,n) => ⟨qh bs 0 ++ e,x,⟨n.ρ,n.β,δ⟩,σ⟩
theorem W6 {v : Vl} : ∀ {l m : List (Nat × SV)},G7 v (l ++ m) = G7 v l ++ G7 v m
 | [],_ => rfl
 | (t,x) :: l,m => by simp only [List.cons_append,G7]; rw [W6]
theorem xp {D : List (Nat × Dw)} {δ : List Nat} {σ : Hp} {J : Env} (hl : δ.length = (JP D []).length) :
   (fO D δ σ).e J = JX J (aO (TP (JP D [])) δ ++ Pc D) ∧ (fO D δ σ).b = xo (TP (JP D [])) δ := by
 have hle : (W5 (JP D []) 0 (OJ D ⟨[],[]⟩).2).2.le ⟨(W5 (JP D []) 0 (OJ D ⟨[],[]⟩).2).2.ρ,(W5 (JP D []) 0 (OJ D ⟨[],[]⟩).2).2.β,δ⟩ := ⟨fun _ _ => rfl,fun _ _ => rfl⟩
 obtain ⟨h1,h2,h3⟩ := dK (δ0 := []) (δ := δ) hl (fun i _ => by rw [Nat.zero_add]) hle
 obtain ⟨h4,_⟩ := LF h3
 exact ⟨by simp only [fO,S.e,W6]; rw [h2,h4],h1⟩
def ACN : Nat → Nat → List Bool
 | 0,_ => []
 | f + 1,n => match Nat.ble n 1 with
   | true => []
   | false => Nat.beq (n % 2) 1 :: ACN f (n / 2)
def pth (n : Nat) : List Bool := ACN 400 n
def MT (body : Code) : List Bool → List It
 | [] => []
 | t :: p => match node body p with
   | .seq _ _ => bif t then MT body p else .c (true :: p) :: MT body p
   | .block i _ => .Qh i :: MT body p
   | .loop _ => .lp (false :: p) :: MT body p
   | .scope _ => .sc (false :: p) :: MT body p
   | _ => MT body p
def qi (body : Code) (n : Nat) : List It := .c (pth n) :: MT body (pth n)
inductive Sh where
 | I (k : IntKind) | B | T | L | Q | A | M | V
inductive Sw where
 | o (x : Sh)
 | G (l : List Sh)
 | U (l : List Sh)
 | X (T : TypeId) (l : List Sh)
abbrev ArS : Sh → Type → Type
 | .I _,C => Int → C
 | .B,C => Bool → C
 | .T,C => ByteArray → C
 | .L,C => Option Addr → Nat → Nat → C
 | .Q,C => Option Addr → C
 | .A,C => Nat → C
 | .M,C => Option Nat → C
 | .V,C => Value → C
def ACO {C : Type} : (x : Sh) → (Dv → C) → ArS x C
 | .I k,K => fun x => K (.I k x)
 | .B,K => fun x => K (.B x)
 | .T,K => fun x => K (.T x)
 | .L,K => fun p n c => K (.L p n c)
 | .Q,K => fun x => K (.Q x)
 | .A,K => fun x => K (.A x)
 | .M,K => fun x => K (.M x)
 | .V,K => fun x => K (.V x)
abbrev ArL : List Sh → Type → Type
 | [],A => A
 | x :: l,A => ArS x (ArL l A)
def qj {A : Type} : (l : List Sh) → (List Dv → A) → ArL l A
 | [],K => K []
 | x :: l,K => ACO x fun d => qj l fun r => K (d :: r)
abbrev ArW : Sw → Type → Type
 | .o x,C => ArS x C
 | .G l,C => ArL l C
 | .U l,C => ArL l C
 | .X _ l,C => ArL l C
def AJY {A : Type} : (x : Sw) → (Dw → A) → ArW x A
 | .o x,K => ACO x fun d => K (.o d)
 | .G l,K => qj l fun d => K (.G d)
 | .U l,K => qj l fun d => K (.U d)
 | .X T l,K => qj l fun d => K (.X T d)
abbrev Ar : List (Nat × Sw) → Type → Type
 | [],A => A
 | (_,x) :: l,A => ArW x (Ar l A)
def cur {A : Type} : (l : List (Nat × Sw)) → (List (Nat × Dw) → A) → Ar l A
 | [],K => K []
 | (t,x) :: l,K => AJY x fun d => cur l fun r => K ((t,d) :: r)
structure Fw where
 P : Program
 f : Nat
 fn : Func
 M3 : List Nat
 hid : List Nat
 wr : Bool
 reg : List (Nat × Nat × Bool)
 OF : List (Nat × TypeId)
 cuts : List (Nat × List (Nat × Sw))
def Fw.K (M : Fw) : Code := M.fn.body.getD .skip
def Fw.gl (M : Fw) (R : Rr) : Gl := Gl.fn M.P M.f M.fn.ntmps R
def Fw.cx (M : Fw) (R : Rr) : Fx := { P := M.P,R := R,M3 := M.M3,hid := M.hid,wr := M.wr,n := M.fn.ntmps,body := M.K,res := M.fn.results.toList,reg := M.reg,OF := M.OF }
def W7 (vl : Vl) : List Nat → List E5 → List Bw
 | t :: l,x :: r => (t,x.2.1,A0 vl x.2.2) :: W7 vl l r
 | _,_ => []
def tmps : List (Nat × Sw) → List Nat
 | [] => []
 | (_,.X _ _) :: l => tmps l
 | (t,_) :: l => t :: tmps l
def j2 : List (Nat × Sw) → List Nat → List Nat
 | [],r => r
 | (t,.X _ _) :: l,r => j2 l (t :: r)
 | _ :: l,r => j2 l r
def Fw.cut (M : Fw) (R : Rr) (c : Nat × List (Nat × Sw)) : Cut := ⟨qi M.K c.1,fun s => match s.fN (tmps c.2),s.U9 (j2 c.2 []) s.bx with
 | some vs,some B => PTv (M.gl R) (Ct M.K (qi M.K c.1)) (W7 s.vl (j2 c.2 []) B) ((tmps c.2).zip vs) s.σ
 | _,_ => False⟩
def TQ (M : Fw) (R : Rr) : List (Nat × List (Nat × Sw)) → List Cut
 | [] => []
 | c :: l => M.cut R c :: TQ M R l
def Fw.xq (M : Fw) (at_ : Nat) (R : Rr) (D : List (Nat × Dw)) (σ : Hp) : Prop := PTv (M.gl R) (Ct M.K (qi M.K at_)) (TP (JP D [])) (Pc D) σ
noncomputable def Fw.pt (M : Fw) (i : Nat) (R : Rr) : Ar (nth (0,[]) M.cuts i).2 (Hp → Prop) := cur (nth (0,[]) M.cuts i).2 (M.xq (nth (0,[]) M.cuts i).1 R)
structure Fw.Ok (M : Fw) : Prop where
 E : AG M.P M.M3
 mixed : M.P.follows .mixedOrders = true
 fnc : M.P.funcs[M.f]? = some M.fn
 body : M.fn.body.isSome = true
theorem Fw.uM {M : Fw} {R : Rr} (h : M.Ok) : (M.cx R).Ok (M.gl R) M.fn := ⟨⟨rfl,rfl,h.E,rfl,rfl,rfl⟩,h.mixed,h.fnc,rfl,rfl,rfl⟩
theorem W8 {vl : Vl} : ∀ {l : List Nat} {B : List E5},∃ δ : List Nat,δ.length = (W7 vl l B).length ∧ aO (W7 vl l B) δ = Q0 vl l B ∧ (l.length = B.length → xo (W7 vl l B) δ = EJ vl B)
 | [],[] => ⟨[],rfl,rfl,fun _ => rfl⟩
 | [],_ :: _ => ⟨[],rfl,rfl,fun h => by simp at h⟩
 | _ :: _,[] => ⟨[],rfl,rfl,fun h => by simp at h⟩
 | t :: l,(i,T,cs) :: B => by
   obtain ⟨δ,h1,h2,h3⟩ := W8 (vl := vl) (l := l) (B := B)
   exact ⟨nth 0 vl.δ i :: δ,by simp [W7,h1],by simp only [W7,aO,Q0]; rw [h2],fun h => by simp only [W7,xo,EJ]; rw [h3 (by simpa using h)]⟩
theorem W9 {s : S} : ∀ {l : List Nat} {bx B : List E5},s.U9 l bx = some B → l.length = B.length
 | [],bx,B,h => by simp only [S.U9,Option.some.injEq] at h; subst h; rfl
 | t :: l,bx,B,h => by
   simp only [S.U9] at h
   split at h
   · split at h
     · split at h
       · rename_i m hm
         cases h
         simp [W9 hm]
       · cases h
     · cases h
   · cases h
theorem Fw.xr (M : Fw) (R : Rr) (c : Nat × List (Nat × Sw)) : (M.cut R c).Ok (M.gl R) M.K := fun s J h => by
 simp only [Fw.cut] at h
 split at h
 · rename_i vs B h1 h2
   obtain ⟨δ,e1,e2,e3⟩ := W8 (vl := s.vl) (l := j2 c.2 []) (B := B)
   refine At.ACK h1 h2 fun J => ?_
   have := j0 (h J) δ e1
   rw [e2,e3 (W9 h2)] at this
   exact this
 · cases h
theorem VA {M : Fw} {R : Rr} : ∀ {l : List (Nat × List (Nat × Sw))},∀ k ∈ TQ M R l,k.Ok (M.gl R) M.K
 | c :: l,k,hk => by
   rcases List.mem_cons.1 hk with rfl | hk
   · exact M.xr R c
   · exact VA k hk
theorem XA : ∀ {l : List Bv},(TP l).length = l.length
 | [] => rfl
 | _ :: m => by simp only [TP,List.length_cons]; rw [XA]
def PX (F : Prop) : List Bv → (List Nat → Prop) → Prop
 | [],K => F = K []
 | _ :: m,K => ∀ b : Nat,PX F m fun δ => K (b :: δ)
theorem j3 {F : Prop} (h : F) : ∀ {l : List Bv} {K : List Nat → Prop},PX F l K → ∀ δ,δ.length = l.length → K δ
 | [],K,e,[],_ => e ▸ h
 | _ :: m,K,e,b :: δ,hl => j3 h (e b) δ (by simpa using hl)
theorem Fw.ofB {M : Fw} {R : Rr} {at_ : Nat} {D : List (Nat × Dw)} {σ : Hp} {F : Prop} (h : F) (ok : M.Ok) (e : PX F (JP D []) fun δ => Cu (M.cx R) (TQ M R M.cuts) 4000 true (qi M.K at_) (fO D δ σ)) : M.xq at_ R D σ := fun J => by
 refine j1 fun δ hl => ?_
 rw [XA] at hl
 have := Am (J := J) (Fw.uM ok) VA (j3 h e δ hl)
 obtain ⟨e1,e2⟩ := xp (D := D) (σ := σ) (J := J) hl
 rw [e1,e2] at this
 exact this
theorem Fw.of {M : Fw} {R : Rr} {at_ : Nat} {D : List (Nat × Dw)} {σ : Hp} {F : Prop} (h : F) (ok : M.Ok) (hb : JP D [] = []) (e : F = Cu (M.cx R) (TQ M R M.cuts) 4000 true (qi M.K at_) (fO D [] σ) := by kernel_rfl) : M.xq at_ R D σ :=
 M.ofB h ok (by rw [hb]; exact e)
theorem Fw.iu {M : Fw} {R : Rr} {at_ : Nat} {D : List (Nat × Dw)} {σ : Hp} {F : Prop} {x1 : Bv} (h : F) (ok : M.Ok) (hb : JP D [] = [x1]) (e : ∀ b1 : Nat,F = Cu (M.cx R) (TQ M R M.cuts) 4000 true (qi M.K at_) (fO D [b1] σ)) : M.xq at_ R D σ :=
 M.ofB h ok (by rw [hb]; exact e)
theorem Fw.fP {M : Fw} {R : Rr} {at_ : Nat} {D : List (Nat × Dw)} {σ : Hp} {F : Prop} {x1 x2 : Bv} (h : F) (ok : M.Ok) (hb : JP D [] = [x1,x2]) (e : ∀ b1 b2 : Nat,F = Cu (M.cx R) (TQ M R M.cuts) 4000 true (qi M.K at_) (fO D [b1,b2] σ)) : M.xq at_ R D σ :=
 M.ofB h ok (by rw [hb]; exact e)
theorem Fw.of3 {M : Fw} {R : Rr} {at_ : Nat} {D : List (Nat × Dw)} {σ : Hp} {F : Prop} {x1 x2 x3 : Bv} (h : F) (ok : M.Ok) (hb : JP D [] = [x1,x2,x3]) (e : ∀ b1 b2 b3 : Nat,F = Cu (M.cx R) (TQ M R M.cuts) 4000 true (qi M.K at_) (fO D [b1,b2,b3] σ)) : M.xq at_ R D σ :=
 M.ofB h ok (by rw [hb]; exact e)
theorem Fw.of4 {M : Fw} {R : Rr} {at_ : Nat} {D : List (Nat × Dw)} {σ : Hp} {F : Prop} {x1 x2 x3 x4 : Bv} (h : F) (ok : M.Ok) (hb : JP D [] = [x1,x2,x3,x4]) (e : ∀ b1 b2 b3 b4 : Nat,F = Cu (M.cx R) (TQ M R M.cuts) 4000 true (qi M.K at_) (fO D [b1,b2,b3,b4] σ)) : M.xq at_ R D σ :=
 M.ofB h ok (by rw [hb]; exact e)
def xt : Value → Dv
 | .int k x => .I k x
 | .bool t => .B t
 | .string x => .T x
 | .slice p n c => .L p n c
 | .pointer p => .Q p
 | .map x => .M x
 | x => .V x
theorem XB (x : Value) : (xt x).den = x := by cases x <;> rfl
def dL : List Value → List Dv
 | [] => []
 | x :: l => xt x :: dL l
theorem UB : ∀ l : List Value,W3 (dL l) = l
 | [] => rfl
 | x :: l => by simp only [dL,W3]; rw [XB,UB]
def fQ : Value → Dw
 | .agg cs => .G (dL cs.toList)
 | x => .o (xt x)
theorem j4 (x : Value) : (fQ x).den = x := by
 cases x
 case agg cs => simp only [fQ,Dw.den,UB]
 all_goals (simp only [fQ,Dw.den]; exact XB _)
def j5 : Value → Dw
 | .pointer (some ⟨b,0,none⟩) => .o (.A b)
 | x => .o (.V x)
theorem j6 (x : Value) : (j5 x).den = x := by
 unfold j5; split <;> rfl
def fR (np : Nat) : Nat → List Value → List (Nat × Dw)
 | _,[] => []
 | k,x :: l => match Nat.blt k np with
   | true => (k,fQ x) :: fR np (k + 1) l
   | false => (k,j5 x) :: fR np (k + 1) l
theorem j7 (x : Value) : (∃ y,fQ x = .o y) ∨ ∃ y,fQ x = .G y := by cases x <;> first | exact .inr ⟨_,rfl⟩ | exact .inl ⟨_,rfl⟩
theorem j8 (x : Value) : ∃ y,j5 x = .o y := by unfold j5; split <;> exact ⟨_,rfl⟩
theorem VB {np : Nat} : ∀ {l : List Value} {k : Nat},Pc (fR np k l) = Q1 k l ∧ JP (fR np k l) [] = []
 | [],_ => ⟨rfl,rfl⟩
 | x :: l,k => by
   obtain ⟨h1,h2⟩ := VB (np := np) (l := l) (k := k + 1)
   simp only [fR]
   split
   · have hd := j4 x
     rcases j7 x with ⟨y,hy⟩ | ⟨y,hy⟩ <;> rw [hy] at hd ⊢ <;> exact ⟨by simp only [Pc,Q1]; rw [hd,h1],h2⟩
   · have hd := j6 x
     obtain ⟨y,hy⟩ := j8 x
     rw [hy] at hd ⊢
     exact ⟨by simp only [Pc,Q1]; rw [hd,h1],h2⟩
def Fw.run (M : Fw) (R : Rr) (k : Nat) (D : List (Nat × Dw)) (σ : Hp) : Prop := match Nat.ble k M.fn.ntmps with
 | true => Cu (M.cx R) (TQ M R M.cuts) 4000 true [.c []] (fO D [] σ)
 | false => False
theorem Fw.Du {M : Fw} {R : Rr} {args : Array Value} {σ : Hp} {F : Prop} (h : F) (ok : M.Ok) (D : List (Nat × Dw)) (hx : JP D [] = []) (hD : Pc D = Q1 0 args.toList) (e : F = M.run R args.size D σ) : Spec M.P M.f args σ R := by
 subst e
 unfold Fw.run at h
 split at h
 case h_2 => exact h.elim
 rename_i hn
 obtain ⟨fb,hb⟩ := Option.isSome_iff_exists.1 ok.body
 refine Spec.walk (c := M.cx R) (cuts := TQ M R M.cuts) (s := fO D [] σ) (fuel := 4000) (Fw.uM ok) ?_ rfl hn VA ?_ ?_ h
 · show M.fn.body = some (M.fn.body.getD .skip)
   rw [hb]; rfl
 · obtain ⟨h4,_⟩ := LF (l := D) (n := ⟨[],[]⟩) (v := ⟨(OJ D ⟨[],[]⟩).2.ρ,(OJ D ⟨[],[]⟩).2.β,[]⟩) ⟨fun _ _ => rfl,fun _ _ => rfl⟩
   rw [hD] at h4
   simp only [fO,hx]
   exact h4
 · simp only [fO,hx]; rfl
theorem Fw.start {M : Fw} {R : Rr} {args : Array Value} {σ : Hp} {F : Prop} (h : F) (ok : M.Ok) (e : F = M.run R args.size (fR M.fn.params.size 0 args.toList) σ := by kernel_rfl) : Spec M.P M.f args σ R :=
 M.Du h ok _ VB.2 VB.1 e
abbrev wI : Sw := .o (.I .i64)
abbrev wU : Sw := .o (.I .u64)
abbrev w8 : Sw := .o (.I .u8)
abbrev wB : Sw := .o .B
abbrev wT : Sw := .o .T
abbrev wL : Sw := .o .L
abbrev wQ : Sw := .o .Q
abbrev wA : Sw := .o .A
abbrev wM : Sw := .o .M
abbrev wV : Sw := .o .V
abbrev aD (b o : Nat) : Option Addr := some ⟨b,o,none⟩
abbrev Br (p A B : Prop) : Prop := (p → A) ∧ (¬ p → B)
abbrev Bm (p A B : Prop) : Prop := (¬ p → A) ∧ (p → B)
abbrev Bo (t : Bool) (A B : Prop) : Prop := (t = true → A) ∧ (t = false → B)
abbrev Bn (t : Bool) (A B : Prop) : Prop := (t = false → A) ∧ (t = true → B)
abbrev Pq (p : Option Addr) (K : Nat → Nat → Prop) : Prop := ∃ b o : Nat,p = some ⟨b,o,none⟩ ∧ K b o
abbrev In (x n : Int) : Prop := (0 : Int) ≤ x ∧ x < n
abbrev Df (r : Int) (K : Int → Prop) : Prop := ∀ x : Int,x = r → K x
abbrev Al (σ : Hp) (K : Nat → Prop) : Prop := ∀ b : Nat,σ b = none → K b
abbrev LI (k : IntKind) (σ : Hp) (b o : Nat) (K : Int → Prop) : Prop := ∃ x : Int,Hp.ld σ ⟨b,o,none⟩ = some (.int k x) ∧ K x
abbrev LB (σ : Hp) (b o : Nat) (K : Bool → Prop) : Prop := ∃ x : Bool,Hp.ld σ ⟨b,o,none⟩ = some (.bool x) ∧ K x
abbrev LT (σ : Hp) (b o : Nat) (K : ByteArray → Prop) : Prop := ∃ x : ByteArray,Hp.ld σ ⟨b,o,none⟩ = some (.string x) ∧ K x
abbrev LQ (σ : Hp) (b o : Nat) (K : Option Addr → Prop) : Prop := ∃ x : Option Addr,Hp.ld σ ⟨b,o,none⟩ = some (.pointer x) ∧ K x
abbrev LS (σ : Hp) (b o : Nat) (K : Option Addr → Nat → Nat → Prop) : Prop := ∃ p : Option Addr,∃ n : Nat,∃ c : Nat,Hp.ld σ ⟨b,o,none⟩ = some (.slice p n c) ∧ K p n c
abbrev CI (k : IntKind) (K : Int → Hp → Prop) : Value → Hp → Prop := fun v σ => ∃ x : Int,v = .int k x ∧ K x σ
abbrev CB (K : Bool → Hp → Prop) : Value → Hp → Prop := fun v σ => ∃ x : Bool,v = .bool x ∧ K x σ
abbrev CT (K : ByteArray → Hp → Prop) : Value → Hp → Prop := fun v σ => ∃ x : ByteArray,v = .string x ∧ K x σ
abbrev CQ (K : Option Addr → Hp → Prop) : Value → Hp → Prop := fun v σ => ∃ x : Option Addr,v = .pointer x ∧ K x σ
abbrev CS (K : Option Addr → Nat → Nat → Hp → Prop) : Value → Hp → Prop := fun v σ => ∃ p : Option Addr,∃ n : Nat,∃ c : Nat,v = .slice p n c ∧ K p n c σ
end Tw
end
section
set_option maxRecDepth 100000
noncomputable section
namespace TwW
open Go Tw Go.Proofs.Tryz
variable [Ej] {R : Rr} {σ : Hp}

namespace CN
variable {p0 p3 : Option Addr} {n0 c0 n3 c3 : Nat} {x4 : Int}
def M : Fw := ⟨prog,13,f13,[33,34],[],false,[],[],[(464,[(0,wL),(3,wL),(4,wI)])]⟩
theorem ok : M.Ok := ⟨.cons call33 (.cons call34 (AG.nil)),mixed,func13,by kernel_rfl⟩
def BF := M.pt 0
theorem start (h : BF R p0 n0 c0 none 0 0 0 σ) : Spec prog 13 #[.slice p0 n0 c0] σ R := M.start h ok
theorem Ay (h : Br (x4 < (n0 : Int)) (Pq p0 fun BC O3 => In x4 (n0 : Int) ∧ LS σ BC (O3 + Int.toNat x4 * 2) fun aP n16 WN => In x4 (n0 : Int) ∧ LS σ BC ((O3 + Int.toNat x4 * 2) + 1) fun UC n22 TI => Spec prog 33 #[.slice aP n16 WN] σ (AA R (CS fun p17 n17 c17 y => Kp [BC] σ y ∧ Spec prog 34 #[.slice UC n22 TI] y (AA R (CS fun pd n23 pe AF => Al AF fun JV => AJ prog (Builtin.append_ #[23,23] 23 #[.slice p3 n3 c3,(.slice (aD JV 0) 1 1)]) (Hp.set AF JV (.cells #[.slice p17 n17 c17,.slice pd n23 pe] 40 (0,0))) (CS fun p26 n26 c26 AH => AM (x4 + 1) ∧ BF R (aD BC O3) n0 c0 p26 n26 c26 (x4 + 1) AH)))))) (R (.returned (.slice p3 n3 c3)) σ)) : BF R p0 n0 c0 p3 n3 c3 x4 σ := M.of h ok rfl
end CN
namespace Gk
variable {x0 : Int} {s3 : ByteArray} {t4 : Bool}
def M : Fw := ⟨prog,26,f26,[],[],false,[],[],[(464,[(0,wI),(3,wT),(4,wB)])]⟩
theorem ok : M.Ok := ⟨AG.nil,mixed,func26,by kernel_rfl⟩
def BF := M.pt 0
theorem start (h : BF R x0 (ByteArray.mk #[]) true σ) : Spec prog 26 #[.int .i64 x0] σ R := M.start h ok
theorem Ay (h : Bo t4 (10 ≠ (0 : Int) ∧ Df (Int.tmod x0 10) fun x11 => AM (48 + x11) ∧ Df (IntKind.u8.wrap (48 + x11)) fun Dn => Al σ fun BC => AJ prog (convert 90 9 (.slice (aD BC 0) 1 1)) (Hp.set σ BC (.cells #[.int .u8 Dn] 5 (0,0))) (CT fun pf y => (ByteArray.size pf + ByteArray.size s3 ≤ 9223372036854775807) ∧ 10 ≠ (0 : Int) ∧ Df (IntKind.i64.wrap (Int.tdiv x0 10)) fun Cn => BF R Cn (pf ++ s3) false y)) (Br (0 < x0) (10 ≠ (0 : Int) ∧ Df (Int.tmod x0 10) fun x11 => AM (48 + x11) ∧ Df (IntKind.u8.wrap (48 + x11)) fun Dn => Al σ fun BC => AJ prog (convert 90 9 (.slice (aD BC 0) 1 1)) (Hp.set σ BC (.cells #[.int .u8 Dn] 5 (0,0))) (CT fun pf y => (ByteArray.size pf + ByteArray.size s3 ≤ 9223372036854775807) ∧ 10 ≠ (0 : Int) ∧ Df (IntKind.i64.wrap (Int.tdiv x0 10)) fun Cn => BF R Cn (pf ++ s3) false y)) (R (.returned (.string s3)) σ))) : BF R x0 s3 t4 σ := M.of h ok rfl
end Gk
namespace I7
variable {p0 : Option Addr} {n0 c0 : Nat}
def M : Fw := ⟨prog,34,f34,[],[],false,[],[],[]⟩
theorem ok : M.Ok := ⟨AG.nil,mixed,func34,by kernel_rfl⟩
theorem start (h : Al σ fun b3 => AJ prog (Builtin.append_ #[38,38] 38 #[(.slice (aD b3 0) 0 0),.slice p0 n0 c0]) (Hp.set σ b3 (.cells #[] 50 (0,0))) (CS fun p5 n5 c5 y => R (.returned (.slice p5 n5 c5)) y)) : Spec prog 34 #[.slice p0 n0 c0] σ R := M.start h ok
end I7
namespace Bl
def K0 := f35.body.getD .skip
def K1 := cl K0
def K2 := cr K0
def K3 := cl K2
def K4 := cl K3
def K5 := cr K3
def K6 := cl K5
def K7 := cr K5
def K8 := cl K7
def K9 := cl K8
def K10 := cr K8
def K11 := cr K7
def K12 := cr K2
def K13 := cl K12
def K14 := cl K13
def K15 := cr K13
def xu := cl K15
def K17 := cl xu
def K18 := cr xu
def K19 := cr K15
def K20 := cr K12
def K21 := cl K20
def K22 := cl K21
def K23 := cr K21
def K24 := cl K23
def K25 := cl K24
def K26 := cr K24
def K27 := cr K23
def K28 := cr K20
def K29 := cl K28
def K30 := cr K28
def K31 := cl K30
def K32 := cr K30
def K33 := cl K32
def K34 := cl K33
def K35 := cr K33
def K36 := cl K35
def K37 := cl K36
def K38 := cr K36
def K39 := cl K38
def K40 := cl K39
def K41 := cr K39
def K42 := cl K41
def K43 := cl K42
def K44 := cr K42
def K45 := cl K44
def K46 := cl K45
def K47 := cr K45
def K48 := cr K44
def K49 := cr K41
def K50 := cl K49
def K51 := cr K49
def K52 := cl K51
def K53 := cl K52
def K54 := cl K53
def K55 := cr K53
def K56 := cl K55
def K57 := cl K56
def K58 := cr K56
def K59 := cr K55
def K60 := cl K59
def K61 := cl K60
def K62 := cl K61
def K63 := cr K61
def K64 := cl K63
def K65 := cr K63
def K66 := cl K65
def K67 := cl K66
def K68 := cr K66
def K69 := cl K68
def K70 := cl K69
def K71 := cr K69
def K72 := cl K71
def K73 := cr K71
def K74 := cr K68
def K75 := cr K65
def K76 := cr K59
def K77 := cr K32
def K78 := cl K77
def K79 := cr K77
def K80 := cl K79
def K81 := cr K79
def K82 : Code := .ret
abbrev gl (R : Rr) : Gl := Gl.fn prog 35 117 R
def Jf (R : Rr) (l : Nat) (r0 : Loop) (b5 b6 CW A8 C7 BC : Nat) (pg : Int) (σ : Hp) : Prop := ∀ (J : Env),At (Gl.round prog 35 117 l R) [.code K37,.beginRound,.code K38] (JX J [(5,(.pointer (some ⟨b5,0,none⟩))),(6,(.pointer (some ⟨b6,0,none⟩))),(10,(.pointer (some ⟨CW,0,none⟩))),(11,(.pointer (some ⟨A8,0,none⟩))),(13,(.pointer (some ⟨C7,0,none⟩))),(14,(.pointer (some ⟨BC,0,none⟩))),(56,(.int .i64 pg))]) [] σ
def Pd (R : Rr) (l : Nat) (r0 : Loop) (C7 BC : Nat) (x15 : Int) (iw : Option Addr) (XC ZQ : Nat) (M4 Pe : Int) (σ : Hp) : Prop := ∀ (J : Env),At (Gl.round prog 35 117 l R) [.code K54,.code K55,.inLoop K53,.inBlock 2,.inBlock 1] (JX J [(13,(.pointer (some ⟨C7,0,none⟩))),(14,(.pointer (some ⟨BC,0,none⟩))),(15,(.int .i64 x15)),(67,(.slice iw XC ZQ)),(68,(.int .i64 M4)),(69,(.int .i64 Pe))]) [] σ
def qk (R : Rr) (l : Nat) (r0 : Loop) (C7 BC : Nat) (x15 : Int) (C4 : Nat) (Hc : Int) (iw : Option Addr) (XC ZQ : Nat) (M4 Pe : Int) (σ : Hp) : Prop := ∀ (J : Env),At (Gl.round prog 35 117 l R) [.code K75,.inBlock 3,.code K76,.inLoop K53,.inBlock 2,.inBlock 1] (JX J [(13,(.pointer (some ⟨C7,0,none⟩))),(14,(.pointer (some ⟨BC,0,none⟩))),(15,(.int .i64 x15)),(19,(.pointer (some ⟨C4,0,none⟩))),(20,(.int .i64 Hc)),(67,(.slice iw XC ZQ)),(68,(.int .i64 M4)),(69,(.int .i64 Pe))]) [] σ
theorem start {R : Rr} {p0 p1 : Option Addr} {n0 c0 n1 c1 : Nat} {x2 x3 x4 : Int} {σ : Hp} (h : ∀ b5 : Nat,σ b5 = none → ∀ b6 : Nat,(Hp.set σ b5 (.cells #[(.slice p0 n0 c0)] 22 (0,0))) b6 = none → ∀ CW : Nat,(Hp.set (Hp.set σ b5 (.cells #[(.slice p0 n0 c0)] 22 (0,0))) b6 (.cells #[(.slice p1 n1 c1)] 23 (0,0))) CW = none → ∀ A8 : Nat,(Hp.set (Hp.set (Hp.set σ b5 (.cells #[(.slice p0 n0 c0)] 22 (0,0))) b6 (.cells #[(.slice p1 n1 c1)] 23 (0,0))) CW (.cells #[(.slice none 0 0)] 23 (0,0))) A8 = none → ∃ UC : Option Addr,∃ n22 : Nat,∃ TI : Nat,Hp.ld (Hp.set (Hp.set (Hp.set (Hp.set σ b5 (.cells #[(.slice p0 n0 c0)] 22 (0,0))) b6 (.cells #[(.slice p1 n1 c1)] 23 (0,0))) CW (.cells #[(.slice none 0 0)] 23 (0,0))) A8 (.cells #[(.int .i64 0)] 24 (0,0))) ⟨b5,0,none⟩ = some (.slice UC n22 TI) ∧ ∃ pd : Option Addr,∃ n23 : Nat,∃ pe : Nat,Hp.ld (Hp.set (Hp.set (Hp.set (Hp.set σ b5 (.cells #[(.slice p0 n0 c0)] 22 (0,0))) b6 (.cells #[(.slice p1 n1 c1)] 23 (0,0))) CW (.cells #[(.slice none 0 0)] 23 (0,0))) A8 (.cells #[(.int .i64 0)] 24 (0,0))) ⟨b6,0,none⟩ = some (.slice pd n23 pe) ∧ Spec prog 28 #[(.slice UC n22 TI),(.slice pd n23 pe)] (Hp.set (Hp.set (Hp.set (Hp.set σ b5 (.cells #[(.slice p0 n0 c0)] 22 (0,0))) b6 (.cells #[(.slice p1 n1 c1)] 23 (0,0))) CW (.cells #[(.slice none 0 0)] 23 (0,0))) A8 (.cells #[(.int .i64 0)] 24 (0,0))) (AA R (fun v σ1 => ∃ I8 : Int,v = (.int .i64 I8) ∧ ((I8 : Int) ≠ 0 → AJ prog (Instr.storeAt 23 (.pointer (some ⟨CW,0,none⟩)) (.slice none 0 0)) σ1 (fun _ F3 => AJ prog (Instr.storeAt 24 (.pointer (some ⟨A8,0,none⟩)) (.int .i64 I8)) F3 (fun _ CD => ∃ Cc : Option Addr,∃ Cd : Nat,∃ Ce : Nat,∃ Cf : Int,Hp.ld CD ⟨CW,0,none⟩ = some (.slice Cc Cd Ce) ∧ Hp.ld CD ⟨A8,0,none⟩ = some (.int .i64 Cf) ∧ R (.returned (.tuple #[(.slice Cc Cd Ce),(.int .i64 Cf)])) CD))) ∧ (¬ ((I8 : Int) ≠ 0) → Spec prog 29 #[(.int .i64 x2)] σ1 (AA R (fun v_2 F3 => ∃ t29 : Bool,v_2 = (.bool t29) ∧ (t29 = false → AJ prog (Instr.storeAt 23 (.pointer (some ⟨CW,0,none⟩)) (.slice none 0 0)) F3 (fun _ CD => AJ prog (Instr.storeAt 24 (.pointer (some ⟨A8,0,none⟩)) (.int .i64 221)) CD (fun _ Ci => ∃ Cc : Option Addr,∃ Cd : Nat,∃ Ce : Nat,∃ Cf : Int,Hp.ld Ci ⟨CW,0,none⟩ = some (.slice Cc Cd Ce) ∧ Hp.ld Ci ⟨A8,0,none⟩ = some (.int .i64 Cf) ∧ R (.returned (.tuple #[(.slice Cc Cd Ce),(.int .i64 Cf)])) Ci))) ∧ (t29 = true → Spec prog 29 #[(.int .i64 x3)] F3 (AA R (fun v_3 CD => ∃ t33 : Bool,v_3 = (.bool t33) ∧ (t33 = false → AJ prog (Instr.storeAt 23 (.pointer (some ⟨CW,0,none⟩)) (.slice none 0 0)) CD (fun _ Ci => AJ prog (Instr.storeAt 24 (.pointer (some ⟨A8,0,none⟩)) (.int .i64 221)) Ci (fun _ BY => ∃ Cc : Option Addr,∃ Cd : Nat,∃ Ce : Nat,∃ Cf : Int,Hp.ld BY ⟨CW,0,none⟩ = some (.slice Cc Cd Ce) ∧ Hp.ld BY ⟨A8,0,none⟩ = some (.int .i64 Cf) ∧ R (.returned (.tuple #[(.slice Cc Cd Ce),(.int .i64 Cf)])) BY))) ∧ (t33 = true → ((x3 : Int) < x2 → AJ prog (Instr.storeAt 23 (.pointer (some ⟨CW,0,none⟩)) (.slice none 0 0)) CD (fun _ Ci => AJ prog (Instr.storeAt 24 (.pointer (some ⟨A8,0,none⟩)) (.int .i64 221)) Ci (fun _ BY => ∃ Cc : Option Addr,∃ Cd : Nat,∃ Ce : Nat,∃ Cf : Int,Hp.ld BY ⟨CW,0,none⟩ = some (.slice Cc Cd Ce) ∧ Hp.ld BY ⟨A8,0,none⟩ = some (.int .i64 Cf) ∧ R (.returned (.tuple #[(.slice Cc Cd Ce),(.int .i64 Cf)])) BY))) ∧ (¬ ((x3 : Int) < x2) → ((x4 : Int) < 1 → AJ prog (Instr.storeAt 23 (.pointer (some ⟨CW,0,none⟩)) (.slice none 0 0)) CD (fun _ Ci => AJ prog (Instr.storeAt 24 (.pointer (some ⟨A8,0,none⟩)) (.int .i64 221)) Ci (fun _ BY => ∃ Cc : Option Addr,∃ Cd : Nat,∃ Ce : Nat,∃ Cf : Int,Hp.ld BY ⟨CW,0,none⟩ = some (.slice Cc Cd Ce) ∧ Hp.ld BY ⟨A8,0,none⟩ = some (.int .i64 Cf) ∧ R (.returned (.tuple #[(.slice Cc Cd Ce),(.int .i64 Cf)])) BY))) ∧ (¬ ((x4 : Int) < 1) → AM (x3 - x2) ∧ x4 ≠ (0 : Int) ∧ ∀ Q3 : Int,Q3 = IntKind.i64.wrap (Int.tdiv (x3 - x2) x4) → ((512 : Int) ≤ Q3 → AJ prog (Instr.storeAt 23 (.pointer (some ⟨CW,0,none⟩)) (.slice none 0 0)) CD (fun _ Ci => AJ prog (Instr.storeAt 24 (.pointer (some ⟨A8,0,none⟩)) (.int .i64 222)) Ci (fun _ BY => ∃ Cc : Option Addr,∃ Cd : Nat,∃ Ce : Nat,∃ Cf : Int,Hp.ld BY ⟨CW,0,none⟩ = some (.slice Cc Cd Ce) ∧ Hp.ld BY ⟨A8,0,none⟩ = some (.int .i64 Cf) ∧ R (.returned (.tuple #[(.slice Cc Cd Ce),(.int .i64 Cf)])) BY))) ∧ (¬ ((512 : Int) ≤ Q3) → AJ prog (Instr.makeMap 99 none) CD (fun v_4 Ci => ∃ m51 : Nat,v_4 = (.map (some m51)) ∧ ∀ C7 : Nat,Ci C7 = none → AJ prog (Instr.storeAt 99 (.pointer (some ⟨C7,0,none⟩)) (.map (some m51))) (Hp.set Ci C7 (.cells #[(.map none)] 99 (0,0))) (fun _ BY => ∀ BC : Nat,BY BC = none → Spec prog 48 #[(.int .i64 x2),(.int .i64 x3),(.int .i64 x4)] (Hp.set BY BC (.cells #[(.slice none 0 0)] 23 (0,0))) (AA R (fun v_5 M5 => ∃ f55 : Fn,∃ a55 : Array Value,∃ c55 : Array Value,(Value.func f55 a55 c55) = v_5 ∧ ∃ (gf : Nat) (lb : Array Value),(Value.func f55 a55 c55) = .func (.func gf) #[] lb ∧ Enters prog gf ∧ ∀ (aQ ZR : Nat) (Pf : Loop),aQ ≠ ZR → M5 aQ = none → M5 ZR = none → (∀ (R2 : Rr) (σ2 : Hp) (ql : Int),σ2 ZR = some (.loop (lp Pf .ready none)) → Jf R2 ZR Pf b5 b6 CW A8 C7 BC ql σ2 → Ht prog ZR #[(.int .i64 ql)] σ2 R2) → Spec prog gf (#[.func (.yield ZR) #[] #[]] ++ lb) (Hp.set (Hp.set M5 aQ (.deferred (some []))) ZR (.loop (lp Pf .ready none))) (fun en Jg => ∃ (v : Value) (s : LoopState) (p : Option Code),en = .returned v ∧ Jg ZR = some (.loop (lp Pf s p)) ∧ s ≠ .busy ∧ ((p = none ∧ ∃ qm : Option Addr,∃ n114 : Nat,∃ qo : Nat,Hp.ld (Hp.set Jg ZR (.loop (lp Pf .exhausted none))) ⟨BC,0,none⟩ = some (.slice qm n114 qo) ∧ Spec prog 50 #[(.slice qm n114 qo),(.func (.func 51) #[] #[])] (Hp.set Jg ZR (.loop (lp Pf .exhausted none))) (AA (NP R) (fun v_6 UD => v_6 = (.tuple #[]) ∧ ∃ j9 : Option Addr,∃ n116 : Nat,∃ kA : Nat,Hp.ld UD ⟨BC,0,none⟩ = some (.slice j9 n116 kA) ∧ AJ prog (Instr.storeAt 23 (.pointer (some ⟨CW,0,none⟩)) (.slice j9 n116 kA)) UD (fun _ uN => AJ prog (Instr.storeAt 24 (.pointer (some ⟨A8,0,none⟩)) (.int .i64 0)) uN (fun _ Q4 => ∃ Cc : Option Addr,∃ Cd : Nat,∃ Ce : Nat,∃ Cf : Int,Q4 aQ = some (.deferred (some [])) ∧ Hp.ld (Hp.set Q4 aQ (.deferred none)) ⟨CW,0,none⟩ = some (.slice Cc Cd Ce) ∧ Hp.ld (Hp.set Q4 aQ (.deferred none)) ⟨A8,0,none⟩ = some (.int .i64 Cf) ∧ R (.returned (.tuple #[(.slice Cc Cd Ce),(.int .i64 Cf)])) (Hp.set Q4 aQ (.deferred none))))))) ∨ (p = (some .ret) ∧ ∃ VC : Option Addr,∃ VD : Nat,∃ VE : Nat,∃ VF : Int,(Hp.set Jg ZR (.loop (lp Pf .exhausted (some .ret)))) aQ = some (.deferred (some [])) ∧ Hp.ld (Hp.set (Hp.set Jg ZR (.loop (lp Pf .exhausted (some .ret)))) aQ (.deferred none)) ⟨CW,0,none⟩ = some (.slice VC VD VE) ∧ Hp.ld (Hp.set (Hp.set Jg ZR (.loop (lp Pf .exhausted (some .ret)))) aQ (.deferred none)) ⟨A8,0,none⟩ = some (.int .i64 VF) ∧ R (.returned (.tuple #[(.slice VC VD VE),(.int .i64 VF)])) (Hp.set (Hp.set Jg ZR (.loop (lp Pf .exhausted (some .ret)))) aQ (.deferred none)))))))))))))))))))))) : Spec prog 35 #[(.slice p0 n0 c0),(.slice p1 n1 c1),(.int .i64 x2),(.int .i64 x3),(.int .i64 x4)] σ R := by
 refine Spec.cW (fn := f35) (c := K0) func35 (by kernel_rfl) (Nat.le_of_ble_eq_true (by kernel_rfl)) (fun e he => ?_)
 refine At.ofL (l := [(0,(.slice p0 n0 c0)),(1,(.slice p1 n1 c1)),(2,(.int .i64 x2)),(3,(.int .i64 x3)),(4,(.int .i64 x4))]) ⟨he 0,he 1,he 2,he 3,he 4,trivial⟩ (fun J => ?_)
 show At (gl R) _ _ _ _
 refine At.s K1 K2 ?_
 refine At.rg 0 [0,1,2,3] ?_
 refine Seq.o ?_
 refine AL.wu (T := 22) (d := (some 5)) (ty := 0) (x := (.tmp 0)) (gd := none) (cs := #[(.slice p0 n0 c0)]) (by kernel_rfl) rfl rfl rfl (fun b5 hn => ?_)
 replace h := h b5 hn
 refine Seq.o ?_
 refine AL.wu (T := 23) (d := (some 6)) (ty := 0) (x := (.tmp 1)) (gd := none) (cs := #[(.slice p1 n1 c1)]) (by kernel_rfl) rfl rfl rfl (fun b6 hn => ?_)
 replace h := h b6 hn
 refine Seq.o ?_
 refine AL.N7 (T := 23) (d := (some 10)) (ty := 0)  (gd := none) (cs := #[(.slice none 0 0)]) (by kernel_rfl) rfl rfl zeroValue23 rfl (fun CW hn => ?_)
 replace h := h CW hn
 refine Seq.o ?_
 refine AL.N7 (T := 24) (d := (some 11)) (ty := 0)  (gd := none) (cs := #[(.int .i64 0)]) (by kernel_rfl) rfl rfl zeroValue24 rfl (fun A8 hn => ?_)
 replace h := h A8 hn
 refine Seq.done ?_
 refine At.s K3 K12 (At.s K4 K5 ?_)
 refine At.rg 1 [0,1,2,3] ?_
 obtain ⟨UC,n22,TI,hl,h⟩ := h
 refine Seq.z 22 (.load 22 (.tmp 5)) 22 (.slice UC n22 TI) (Y.ld isAgg22 rfl hl) ?_
 obtain ⟨pd,n23,pe,hl,h⟩ := h
 refine Seq.z 23 (.load 23 (.tmp 6)) 23 (.slice pd n23 pe) (Y.ld isAgg23 rfl hl) ?_
 refine Seq.o ?_
 refine AL.cl (some 24) call28 (h.cont fun v σ1 h2 => ?_); replace h := h2; clear h2
 obtain ⟨I8,rfl,h⟩ := h
 refine Seq.u 12 (.int .i64 I8) (Seq.done ?_)
 refine At.s K6 K7 ?_
 refine At.rg 2 [0,1] ?_
 refine Seq.us [(25,.int .i64 I8),(26,.bool (decide ((I8 : Int) ≠ 0)))] (Seq.done ?_)
 cases hb : (decide ((I8 : Int) ≠ 0)) with
 | true =>
   replace h := h.1 (of_decide_eq_true hb)
   refine At.cT 26 K8 K11 ?_
   refine At.s K9 K10 ?_
   refine At.rg 3 [0,1,2] ?_
   refine Seq.u 27 (.int .i64 I8) ?_
   refine Seq.o ?_
   refine AL.store (T := 23) (ty := 0) (x := (.tmp 10)) (y := (.const (.slice none 0 0))) (p := (.pointer (some ⟨CW,0,none⟩))) (v := (.slice none 0 0)) (gd := none) (by kernel_rfl) rfl rfl rfl (h.mono (fun _ F3 h2 => ?_)); replace h := h2; clear h2
   refine Seq.o ?_
   refine AL.store (T := 24) (ty := 0) (x := (.tmp 11)) (y := (.tmp 27)) (p := (.pointer (some ⟨A8,0,none⟩))) (v := (.int .i64 I8)) (gd := none) (by kernel_rfl) rfl rfl rfl (h.mono (fun _ CD h2 => ?_)); replace h := h2; clear h2
   refine Seq.done ?_
   obtain ⟨Cc,Cd,Ce,Cf,OK,OL,h⟩ := h
   exact At.rt [.cell 10 23,.cell 11 24] [(.slice Cc Cd Ce),(.int .i64 Cf)] func35 ⟨_,_,rfl,⟨_,rfl,Bs isAgg23 OK⟩,⟨_,_,rfl,⟨_,rfl,Bs isAgg24 OL⟩,rfl⟩⟩ h
 | false =>
   replace h := h.2 (of_decide_eq_false hb)
   refine At.cF 26 K8 K11 ?_
   refine At.skip ?_
   refine At.s K13 K20 (At.s K14 K15 ?_)
   refine At.rg 4 [0,1,2,3,4,5,6,7,8,9,10,11,12,13,14,15,16] ?_
   refine Seq.u 28 (.int .i64 x2) ?_
   refine Seq.o ?_
   refine AL.cl (some 29) call29 (h.cont fun v_2 F3 h2 => ?_); replace h := h2; clear h2
   obtain ⟨t29,rfl,h⟩ := h
   refine Seq.us [(30,.bool (!t29)),(31,.bool (!t29))] ?_
   cases hb : (!t29) with
   | true =>
     replace h := h.1 (Tw.nt hb)
     refine Seq.n 32 ?_
     refine Seq.n 33 ?_
     refine Seq.n 34 ?_
     refine Seq.us [(35,.bool true),(36,.bool true)] ?_
     refine Seq.n 37 ?_
     refine Seq.n 38 ?_
     refine Seq.n 39 ?_
     refine Seq.us [(40,.bool true),(41,.bool true)] ?_
     refine Seq.n 42 ?_
     refine Seq.n 43 ?_
     refine Seq.u 44 (.bool true) (Seq.done ?_)
     refine At.cT 44 xu K19 ?_
     refine At.s K17 K18 ?_
     refine At.rg 5 [0,1] ?_
     refine Seq.o ?_
     refine AL.store (T := 23) (ty := 0) (x := (.tmp 10)) (y := (.const (.slice none 0 0))) (p := (.pointer (some ⟨CW,0,none⟩))) (v := (.slice none 0 0)) (gd := none) (by kernel_rfl) rfl rfl rfl (h.mono (fun _ CD h2 => ?_)); replace h := h2; clear h2
     refine Seq.o ?_
     refine AL.store (T := 24) (ty := 0) (x := (.tmp 11)) (y := (.const (.int .i64 221))) (p := (.pointer (some ⟨A8,0,none⟩))) (v := (.int .i64 221)) (gd := none) (by kernel_rfl) rfl rfl rfl (h.mono (fun _ Ci h2 => ?_)); replace h := h2; clear h2
     refine Seq.done ?_
     obtain ⟨Cc,Cd,Ce,Cf,OK,OL,h⟩ := h
     exact At.rt [.cell 10 23,.cell 11 24] [(.slice Cc Cd Ce),(.int .i64 Cf)] func35 ⟨_,_,rfl,⟨_,rfl,Bs isAgg23 OK⟩,⟨_,_,rfl,⟨_,rfl,Bs isAgg24 OL⟩,rfl⟩⟩ h
   | false =>
     replace h := h.2 (Tw.nf hb)
     refine Seq.u 32 (.int .i64 x3) ?_
     refine Seq.o ?_
     refine AL.cl (some 33) call29 (h.cont fun v_3 CD h2 => ?_); replace h := h2; clear h2
     obtain ⟨t33,rfl,h⟩ := h
     refine Seq.us [(34,.bool (!t33)),(35,.bool (!t33)),(36,.bool (!t33))] ?_
     cases hb : (!t33) with
     | true =>
       replace h := h.1 (Tw.nt hb)
       refine Seq.n 37 ?_
       refine Seq.n 38 ?_
       refine Seq.n 39 ?_
       refine Seq.us [(40,.bool true),(41,.bool true)] ?_
       refine Seq.n 42 ?_
       refine Seq.n 43 ?_
       refine Seq.u 44 (.bool true) (Seq.done ?_)
       refine At.L [(2,(.int .i64 x2)),(3,(.int .i64 x3)),(4,(.int .i64 x4)),(5,(.pointer (some ⟨b5,0,none⟩))),(6,(.pointer (some ⟨b6,0,none⟩))),(10,(.pointer (some ⟨CW,0,none⟩))),(11,(.pointer (some ⟨A8,0,none⟩))),(44,(.bool true))] fun J => ?_
       refine At.cT 44 xu K19 ?_
       refine At.s K17 K18 ?_
       refine At.rg 5 [0,1] ?_
       refine Seq.o ?_
       refine AL.store (T := 23) (ty := 0) (x := (.tmp 10)) (y := (.const (.slice none 0 0))) (p := (.pointer (some ⟨CW,0,none⟩))) (v := (.slice none 0 0)) (gd := none) (by kernel_rfl) rfl rfl rfl (h.mono (fun _ Ci h2 => ?_)); replace h := h2; clear h2
       refine Seq.o ?_
       refine AL.store (T := 24) (ty := 0) (x := (.tmp 11)) (y := (.const (.int .i64 221))) (p := (.pointer (some ⟨A8,0,none⟩))) (v := (.int .i64 221)) (gd := none) (by kernel_rfl) rfl rfl rfl (h.mono (fun _ BY h2 => ?_)); replace h := h2; clear h2
       refine Seq.done ?_
       obtain ⟨Cc,Cd,Ce,Cf,OK,OL,h⟩ := h
       exact At.rt [.cell 10 23,.cell 11 24] [(.slice Cc Cd Ce),(.int .i64 Cf)] func35 ⟨_,_,rfl,⟨_,rfl,Bs isAgg23 OK⟩,⟨_,_,rfl,⟨_,rfl,Bs isAgg24 OL⟩,rfl⟩⟩ h
     | false =>
       replace h := h.2 (Tw.nf hb)
       refine Seq.us [(37,.int .i64 x2),(38,.int .i64 x3),(39,.bool (decide ((x3 : Int) < x2))),(40,.bool (decide ((x3 : Int) < x2))),(41,.bool (decide ((x3 : Int) < x2)))] ?_
       cases hb : (decide ((x3 : Int) < x2)) with
       | true =>
         replace h := h.1 (of_decide_eq_true hb)
         refine Seq.n 42 ?_
         refine Seq.n 43 ?_
         refine Seq.u 44 (.bool true) (Seq.done ?_)
         refine At.cT 44 xu K19 ?_
         refine At.s K17 K18 ?_
         refine At.rg 5 [0,1] ?_
         refine Seq.o ?_
         refine AL.store (T := 23) (ty := 0) (x := (.tmp 10)) (y := (.const (.slice none 0 0))) (p := (.pointer (some ⟨CW,0,none⟩))) (v := (.slice none 0 0)) (gd := none) (by kernel_rfl) rfl rfl rfl (h.mono (fun _ Ci h2 => ?_)); replace h := h2; clear h2
         refine Seq.o ?_
         refine AL.store (T := 24) (ty := 0) (x := (.tmp 11)) (y := (.const (.int .i64 221))) (p := (.pointer (some ⟨A8,0,none⟩))) (v := (.int .i64 221)) (gd := none) (by kernel_rfl) rfl rfl rfl (h.mono (fun _ BY h2 => ?_)); replace h := h2; clear h2
         refine Seq.done ?_
         obtain ⟨Cc,Cd,Ce,Cf,OK,OL,h⟩ := h
         exact At.rt [.cell 10 23,.cell 11 24] [(.slice Cc Cd Ce),(.int .i64 Cf)] func35 ⟨_,_,rfl,⟨_,rfl,Bs isAgg23 OK⟩,⟨_,_,rfl,⟨_,rfl,Bs isAgg24 OL⟩,rfl⟩⟩ h
       | false =>
         replace h := h.2 (of_decide_eq_false hb)
         refine Seq.us [(42,.int .i64 x4),(43,.bool (decide ((x4 : Int) < 1))),(44,.bool (decide ((x4 : Int) < 1)))] (Seq.done ?_)
         cases hb : (decide ((x4 : Int) < 1)) with
         | true =>
           replace h := h.1 (of_decide_eq_true hb)
           refine At.cT 44 xu K19 ?_
           refine At.s K17 K18 ?_
           refine At.rg 5 [0,1] ?_
           refine Seq.o ?_
           refine AL.store (T := 23) (ty := 0) (x := (.tmp 10)) (y := (.const (.slice none 0 0))) (p := (.pointer (some ⟨CW,0,none⟩))) (v := (.slice none 0 0)) (gd := none) (by kernel_rfl) rfl rfl rfl (h.mono (fun _ Ci h2 => ?_)); replace h := h2; clear h2
           refine Seq.o ?_
           refine AL.store (T := 24) (ty := 0) (x := (.tmp 11)) (y := (.const (.int .i64 221))) (p := (.pointer (some ⟨A8,0,none⟩))) (v := (.int .i64 221)) (gd := none) (by kernel_rfl) rfl rfl rfl (h.mono (fun _ BY h2 => ?_)); replace h := h2; clear h2
           refine Seq.done ?_
           obtain ⟨Cc,Cd,Ce,Cf,OK,OL,h⟩ := h
           exact At.rt [.cell 10 23,.cell 11 24] [(.slice Cc Cd Ce),(.int .i64 Cf)] func35 ⟨_,_,rfl,⟨_,rfl,Bs isAgg23 OK⟩,⟨_,_,rfl,⟨_,rfl,Bs isAgg24 OL⟩,rfl⟩⟩ h
         | false =>
           replace h := h.2 (of_decide_eq_false hb)
           refine At.cF 44 xu K19 ?_
           refine At.skip ?_
           refine At.s K21 K28 (At.s K22 K23 ?_)
           refine At.rg 6 [0,1,2,3,4,5] ?_
           refine Seq.us [(45,.int .i64 x3),(46,.int .i64 x2)] ?_
           obtain ⟨hi,h⟩ := h
           refine Seq.z 47 (.binOp .sub 2 (.tmp 45) (.tmp 46) 2) 2 (.int .i64 (x3 - x2)) (Y.AI0 hi rfl rfl) ?_
           refine Seq.u 48 (.int .i64 x4) ?_
           obtain ⟨hc,h⟩ := h
           obtain ⟨Q3,uO⟩ : ∃ y,y = IntKind.i64.wrap (Int.tdiv (x3 - x2) x4) := ⟨_,rfl⟩
           replace h := h Q3 uO
           refine Seq.y (d := (some 49)) (op := (.binOp .quo 2 (.tmp 47) (.tmp 48) 2)) (ty := 2) (v := (.int .i64 Q3)) (by kernel_rfl) rfl (uO ▸ Y.quo hc rfl rfl) ?_
           refine Seq.u 50 (.bool (decide ((512 : Int) ≤ Q3))) (Seq.done ?_)
           cases hb : (decide ((512 : Int) ≤ Q3)) with
           | true =>
             replace h := h.1 (of_decide_eq_true hb)
             refine At.cT 50 K24 K27 ?_
             refine At.s K25 K26 ?_
             refine At.rg 7 [0,1] ?_
             refine Seq.o ?_
             refine AL.store (T := 23) (ty := 0) (x := (.tmp 10)) (y := (.const (.slice none 0 0))) (p := (.pointer (some ⟨CW,0,none⟩))) (v := (.slice none 0 0)) (gd := none) (by kernel_rfl) rfl rfl rfl (h.mono (fun _ Ci h2 => ?_)); replace h := h2; clear h2
             refine Seq.o ?_
             refine AL.store (T := 24) (ty := 0) (x := (.tmp 11)) (y := (.const (.int .i64 222))) (p := (.pointer (some ⟨A8,0,none⟩))) (v := (.int .i64 222)) (gd := none) (by kernel_rfl) rfl rfl rfl (h.mono (fun _ BY h2 => ?_)); replace h := h2; clear h2
             refine Seq.done ?_
             obtain ⟨Cc,Cd,Ce,Cf,OK,OL,h⟩ := h
             exact At.rt [.cell 10 23,.cell 11 24] [(.slice Cc Cd Ce),(.int .i64 Cf)] func35 ⟨_,_,rfl,⟨_,rfl,Bs isAgg23 OK⟩,⟨_,_,rfl,⟨_,rfl,Bs isAgg24 OL⟩,rfl⟩⟩ h
           | false =>
             replace h := h.2 (of_decide_eq_false hb)
             refine At.cF 50 K24 K27 ?_
             refine At.skip ?_
             refine At.s K29 K30 ?_
             refine At.rg 8 [0,1,2] ?_
             refine Seq.o ?_
             refine AL.QZ (d := (some 51)) (op := (.makeMap 99 none)) (ty := 99) (gd := none) (by kernel_rfl) rfl rfl (Instr.makeMap 99 none) (fun o ho ht => by simp only [execOp,ho]; rfl) (h.mono (fun v_4 Ci h2 => ?_)); replace h := h2; clear h2
             obtain ⟨m51,rfl,h⟩ := h
             refine Seq.o ?_
             refine AL.N7 (T := 99) (d := (some 13)) (ty := 0)  (gd := none) (cs := #[(.map none)]) (by kernel_rfl) rfl rfl zeroValue99 rfl (fun C7 hn => ?_)
             replace h := h C7 hn
             refine Seq.o ?_
             refine AL.store (T := 99) (ty := 0) (x := (.tmp 13)) (y := (.tmp 51)) (p := (.pointer (some ⟨C7,0,none⟩))) (v := (.map (some m51))) (gd := none) (by kernel_rfl) rfl rfl rfl (h.mono (fun _ BY h2 => ?_)); replace h := h2; clear h2
             refine Seq.done ?_
             refine At.s K31 K32 ?_
             refine At.rg 9 [0] ?_
             refine Seq.o ?_
             refine AL.N7 (T := 23) (d := (some 14)) (ty := 0)  (gd := none) (cs := #[(.slice none 0 0)]) (by kernel_rfl) rfl rfl zeroValue23 rfl (fun BC hn => ?_)
             replace h := h BC hn
             refine Seq.done ?_
             refine At.s K33 K77 (At.s K34 K35 ?_)
             refine At.rg 10 [0,1,2,3] ?_
             refine Seq.us [(52,.int .i64 x2),(53,.int .i64 x3),(54,.int .i64 x4)] ?_
             refine Seq.o ?_
             refine AL.cl (some 55) call48 (h.cont fun v_5 M5 h2 => ?_); replace h := h2; clear h2
             obtain ⟨f55,a55,c55,rfl,h⟩ := h
             refine Seq.done ?_
             refine At.b 0 K36 ?_
             obtain ⟨gf,lb,hgv,N6,h⟩ := h
             refine At.range (gop := (.tmp 55)) (ps := #[56]) (assign := K37) (body := K38) (gf := gf) (lb := lb) (by kernel_rfl) rfl rfl hgv N6 (fun aQ ZR Pf hDl hD hl hrf aR hra hrb hrs hre => ?_)
             refine (h aQ ZR Pf hDl hD hl (fun R2 σ2 ql xv hp => Ht.cW (n := 117) xv aR hrs (by decide) hre (fn := f35) (by rw [hrf]; exact func35) ?_)).mono (fun en Jg h => ?_)
             · rw [hrf,hra,hrb]
               exact At.v [(5,(.pointer (some ⟨b5,0,none⟩))),(6,(.pointer (some ⟨b6,0,none⟩))),(10,(.pointer (some ⟨CW,0,none⟩))),(11,(.pointer (some ⟨A8,0,none⟩))),(13,(.pointer (some ⟨C7,0,none⟩))),(14,(.pointer (some ⟨BC,0,none⟩))),(56,(.int .i64 ql))] (hp _)
             obtain ⟨v,s,p,he,xD,hs,h⟩ := h
             refine ⟨v,s,p,he,xD,hs,?_⟩
             rcases h with h | h
             · obtain ⟨rfl,h⟩ := h
               show At (Gl.behind prog 35 117 aQ R) [.inBlock 0,.code K77] _ _ _
               refine At.inBlock ?_
               refine At.s K78 K79 ?_
               refine At.rg 25 [0,1] ?_
               obtain ⟨qm,n114,qo,hl,h⟩ := h
               refine Seq.z 114 (.load 23 (.tmp 14)) 23 (.slice qm n114 qo) (Y.ld isAgg23 rfl hl) ?_
               refine Seq.o ?_
               refine AL.cl (some 115) call50 (h.cont fun v_6 UD h2 => ?_); replace h := h2; clear h2
               obtain ⟨rfl,h⟩ := h
               refine Seq.done ?_
               refine At.L [(10,(.pointer (some ⟨CW,0,none⟩))),(11,(.pointer (some ⟨A8,0,none⟩))),(14,(.pointer (some ⟨BC,0,none⟩)))] fun J => ?_
               refine At.s K80 K81 ?_
               refine At.rg 26 [0,1,2] ?_
               obtain ⟨j9,n116,kA,hl,h⟩ := h
               refine Seq.z 116 (.load 23 (.tmp 14)) 23 (.slice j9 n116 kA) (Y.ld isAgg23 rfl hl) ?_
               refine Seq.o ?_
               refine AL.store (T := 23) (ty := 0) (x := (.tmp 10)) (y := (.tmp 116)) (p := (.pointer (some ⟨CW,0,none⟩))) (v := (.slice j9 n116 kA)) (gd := none) (by kernel_rfl) rfl rfl rfl (h.mono (fun _ uN h2 => ?_)); replace h := h2; clear h2
               refine Seq.o ?_
               refine AL.store (T := 24) (ty := 0) (x := (.tmp 11)) (y := (.const (.int .i64 0))) (p := (.pointer (some ⟨A8,0,none⟩))) (v := (.int .i64 0)) (gd := none) (by kernel_rfl) rfl rfl rfl (h.mono (fun _ Q4 h2 => ?_)); replace h := h2; clear h2
               refine Seq.done ?_
               obtain ⟨Cc,Cd,Ce,Cf,iq,OK,OL,h⟩ := h
               exact At.Ux (rs := [.cell 10 23,.cell 11 24]) (vs := [(.slice Cc Cd Ce),(.int .i64 Cf)]) (by kernel_rfl) func35 (by kernel_rfl) ⟨_,_,rfl,⟨_,rfl,Bs isAgg23 OK⟩,⟨_,_,rfl,⟨_,rfl,Bs isAgg24 OL⟩,rfl⟩⟩ h rfl (jZ iq)
             · obtain ⟨rfl,h⟩ := h
               show At (Gl.behind prog 35 117 aQ R) [.code K82,.inBlock 0,.code K77] _ _ _
               obtain ⟨VC,VD,VE,VF,iq,xw,xx,h⟩ := h
               exact At.Ux (rs := [.cell 10 23,.cell 11 24]) (vs := [(.slice VC VD VE),(.int .i64 VF)]) (by kernel_rfl) func35 (by kernel_rfl) ⟨_,_,rfl,⟨_,rfl,Bs isAgg23 xw⟩,⟨_,_,rfl,⟨_,rfl,Bs isAgg24 xx⟩,rfl⟩⟩ h rfl (jZ iq)
theorem LG {R : Rr} {l b5 b6 CW A8 C7 BC : Nat} {r0 : Loop} {pg : Int} {σ : Hp} (h : σ l = some (.loop (lp r0 .ready none)) ∧ ∃ uP : Option Addr,∃ ph : Nat,∃ c58 : Nat,Hp.ld (Hp.set σ l (.loop (lp r0 .busy none))) ⟨b5,0,none⟩ = some (.slice uP ph c58) ∧ ∃ uQ : Option Addr,∃ n59 : Nat,∃ uR : Nat,Hp.ld (Hp.set σ l (.loop (lp r0 .busy none))) ⟨b6,0,none⟩ = some (.slice uQ n59 uR) ∧ Spec prog 30 #[(.slice uP ph c58),(.slice uQ n59 uR),(.int .i64 pg)] (Hp.set σ l (.loop (lp r0 .busy none))) (AA (NP R) (fun v σ1 => ∃ XD : Option Addr,∃ Q5 : Nat,∃ XE : Nat,∃ OM : Int,v = (.tuple #[(.slice XD Q5 XE),(.int .i64 OM)]) ∧ ((OM : Int) ≠ 0 → AJ prog (Instr.storeAt 23 (.pointer (some ⟨CW,0,none⟩)) (.slice none 0 0)) σ1 (fun _ F3 => AJ prog (Instr.storeAt 24 (.pointer (some ⟨A8,0,none⟩)) (.int .i64 OM)) F3 (fun _ CD => CD l = some (.loop (lp r0 .busy none)) ∧ R (.returned (.bool false)) (Hp.set CD l (.loop (lp r0 .done (some .ret))))))) ∧ (¬ ((OM : Int) ≠ 0) → Pd R l r0 C7 BC pg XD Q5 XE ((Q5 : Int)) 0 σ1)))) : Jf R l r0 b5 b6 CW A8 C7 BC pg σ := by
 intro J
 show At (Gl.round prog 35 117 l R) _ _ _ _
 refine At.rg 11 [0] ?_
 refine Seq.u 15 (.int .i64 pg) (Seq.done ?_)
 obtain ⟨cU,h⟩ := h
 refine At.beginRound rfl cU ?_
 refine At.b 1 K39 ?_
 refine At.s K40 K41 ?_
 refine At.rg 12 [0,1,2,3,4,5,6,7,8] ?_
 obtain ⟨uP,ph,c58,hl,h⟩ := h
 refine Seq.z 58 (.load 22 (.tmp 5)) 22 (.slice uP ph c58) (Y.ld isAgg22 rfl hl) ?_
 obtain ⟨uQ,n59,uR,hl,h⟩ := h
 refine Seq.z 59 (.load 23 (.tmp 6)) 23 (.slice uQ n59 uR) (Y.ld isAgg23 rfl hl) ?_
 refine Seq.u 60 (.int .i64 pg) ?_
 refine Seq.o ?_
 refine AL.cl (some 61) call30 (h.cont fun v σ1 h2 => ?_); replace h := h2; clear h2
 obtain ⟨XD,Q5,XE,OM,rfl,h⟩ := h
 refine Seq.us [(57,.tuple #[(.slice XD Q5 XE),(.int .i64 OM)]),(62,.slice XD Q5 XE),(63,.int .i64 OM),(16,.slice XD Q5 XE),(17,.int .i64 OM)] (Seq.done ?_)
 refine At.s K42 K49 (At.s K43 K44 ?_)
 refine At.rg 13 [0,1] ?_
 refine Seq.us [(64,.int .i64 OM),(65,.bool (decide ((OM : Int) ≠ 0)))] (Seq.done ?_)
 cases hb : (decide ((OM : Int) ≠ 0)) with
 | true =>
  replace h := h.1 (of_decide_eq_true hb)
  refine At.cT 65 K45 K48 ?_
  refine At.s K46 K47 ?_
  refine At.rg 14 [0,1,2] ?_
  refine Seq.u 66 (.int .i64 OM) ?_
  refine Seq.o ?_
  refine AL.store (T := 23) (ty := 0) (x := (.tmp 10)) (y := (.const (.slice none 0 0))) (p := (.pointer (some ⟨CW,0,none⟩))) (v := (.slice none 0 0)) (gd := none) (by kernel_rfl) rfl rfl rfl (h.mono (fun _ F3 h2 => ?_)); replace h := h2; clear h2
  refine Seq.o ?_
  refine AL.store (T := 24) (ty := 0) (x := (.tmp 11)) (y := (.tmp 66)) (p := (.pointer (some ⟨A8,0,none⟩))) (v := (.int .i64 OM)) (gd := none) (by kernel_rfl) rfl rfl rfl (h.mono (fun _ CD h2 => ?_)); replace h := h2; clear h2
  refine Seq.done ?_
  exact At.jO (by kernel_rfl) rfl h.1 h.2
 | false =>
  replace h := h.2 (of_decide_eq_false hb)
  refine At.cF 65 K45 K48 ?_
  refine At.skip ?_
  refine At.s K50 K51 ?_
  refine At.rg 15 [0,1,2] ?_
  refine Seq.u 67 (.slice XD Q5 XE) ?_
  refine Seq.z 68 (.call { callee := .builtin .len,args := #[(.tmp 67)],argTypes := #[67] }) 3 (.int .i64 (Q5 : Int)) (Y.wh underlying67 rfl rfl) ?_
  refine Seq.u 69 (.int .i64 0) (Seq.done ?_)
  refine At.b 2 K52 ?_
  refine At.loop (x := K53) (by kernel_rfl) ?_
  refine At.s K54 K55 ?_
  exact At.v [(13,(.pointer (some ⟨C7,0,none⟩))),(14,(.pointer (some ⟨BC,0,none⟩))),(15,(.int .i64 pg)),(67,(.slice XD Q5 XE)),(68,(.int .i64 (Q5 : Int))),(69,(.int .i64 0))] (h _)
theorem QG {R : Rr} {l C7 BC XC ZQ : Nat} {r0 : Loop} {x15 M4 Pe : Int} {iw : Option Addr} {σ : Hp} (h : ((Pe : Int) < M4 → ∃ (VH kB : Nat),iw = some ⟨VH,kB,none⟩ ∧ ((0 : Int) ≤ Pe ∧ Pe < (XC : Int)) ∧ ∃ kC : Option Addr,∃ kD : Nat,∃ kE : Nat,∃ Jh : Int,As σ VH (kB + Int.toNat Pe * 2) [(.slice kC kD kE),(.int .u64 Jh)] ∧ ∀ C4 : Nat,σ C4 = none → AJ prog (Instr.storeAt 71 (.pointer (some ⟨C4,0,none⟩)) (.agg #[(.slice kC kD kE),(.int .u64 Jh)])) (Hp.set σ C4 (.cells #[(.slice none 0 0),(.int .u64 0)] 71 (0,0))) (fun _ σ1 => ∃ aS : Option Nat,Hp.ld σ1 ⟨C7,0,none⟩ = some (.map aS) ∧ ∃ xy : Option Addr,∃ yA : Nat,∃ yB : Nat,Hp.ld σ1 ⟨C4,0,none⟩ = some (.slice xy yA yB) ∧ Spec prog 49 #[(.slice xy yA yB)] σ1 (AA (NP R) (fun v F3 => ∃ s77 : ByteArray,v = (.string s77) ∧ Kp [C7] σ1 F3 ∧ AJ prog (Instr.lookup 99 (.map aS) (.string s77) true) F3 (fun v_2 CD => ∃ aT : Int,∃ TR : Bool,v_2 = (.tuple #[(.int .i64 aT),(.bool TR)]) ∧ (TR = false → ∃ qp : Option Addr,∃ XF : Nat,∃ qq : Nat,Hp.ld CD ⟨BC,0,none⟩ = some (.slice qp XF qq) ∧ ∃ m85 : Option Nat,Hp.ld CD ⟨C7,0,none⟩ = some (.map m85) ∧ ∃ p87 : Option Addr,∃ n87 : Nat,∃ c87 : Nat,Hp.ld CD ⟨C4,0,none⟩ = some (.slice p87 n87 c87) ∧ Spec prog 49 #[(.slice p87 n87 c87)] CD (AA (NP R) (fun v_3 Ci => ∃ s88 : ByteArray,v_3 = (.string s88) ∧ Kp [C7] CD Ci ∧ AJ prog (Instr.mapUpdate 99 (.map m85) (.string s88) (.int .i64 (XF : Int))) Ci (fun _ BY => ∃ p90 : Option Addr,∃ n90 : Nat,∃ c90 : Nat,Hp.ld BY ⟨BC,0,none⟩ = some (.slice p90 n90 c90) ∧ ∃ p93 : Option Addr,∃ n93 : Nat,∃ c93 : Nat,Hp.ld BY ⟨C4,0,none⟩ = some (.slice p93 n93 c93) ∧ ∀ Lq : Nat,BY Lq = none → AJ prog (Builtin.append_ #[37,37] 37 #[(.slice (some ⟨Lq,0,none⟩) 0 0),(.slice p93 n93 c93)]) (Hp.set BY Lq (.cells #[] 56 (0,0))) (fun v_4 M5 => ∃ qt : Option Addr,∃ qu : Nat,∃ qw : Nat,v_4 = (.slice qt qu qw) ∧ Kp [BC] (Hp.set BY Lq (.cells #[] 56 (0,0))) M5 ∧ ∀ qz : Nat,M5 qz = none → AJ prog (Builtin.append_ #[23,23] 23 #[(.slice p90 n90 c90),(.slice (some ⟨qz,0,none⟩) 1 1)]) (Hp.set M5 qz (.cells #[(.slice qt qu qw),(.slice none 0 0)] 40 (0,0))) (fun v_5 Jg => ∃ p97 : Option Addr,∃ n97 : Nat,∃ c97 : Nat,v_5 = (.slice p97 n97 c97) ∧ AJ prog (Instr.storeAt 23 (.pointer (some ⟨BC,0,none⟩)) (.slice p97 n97 c97)) Jg (fun _ UD => qk R l r0 C7 BC x15 C4 ((XF : Int)) ((some ⟨VH,kB,none⟩)) XC ZQ M4 Pe UD))))))) ∧ (TR = true → qk R l r0 C7 BC x15 C4 aT ((some ⟨VH,kB,none⟩)) XC ZQ M4 Pe CD)))))) ∧ (¬ ((Pe : Int) < M4) → σ l = some (.loop (lp r0 .busy none)) ∧ R (.returned (.bool true)) (Hp.set σ l (.loop (lp r0 .ready none))))) : Pd R l r0 C7 BC x15 iw XC ZQ M4 Pe σ := by
 intro J
 show At (Gl.round prog 35 117 l R) _ _ _ _
 refine At.rg 16 [0] ?_
 refine Seq.u 70 (.bool (decide ((Pe : Int) < M4))) (Seq.done ?_)
 refine At.s K56 K59 ?_
 cases hb : (decide ((Pe : Int) < M4)) with
 | true =>
  replace h := h.1 (of_decide_eq_true hb)
  refine At.cT 70 K57 K58 ?_
  refine At.skip ?_
  refine At.s K60 K76 ?_
  refine At.b 3 K61 ?_
  refine At.s K62 K63 ?_
  refine At.rg 17 [0,1,2,3] ?_
  obtain ⟨VH,kB,hq,h⟩ := h
  subst hq
  obtain ⟨hi,h⟩ := h
  refine Seq.z 71 (.indexAddr 67 (.tmp 67) (.tmp 69)) 0 (.pointer (some ⟨VH,(kB + Int.toNat Pe * 2),none⟩)) (Y.idx underlying67 sizeOf71 rfl rfl hi rfl) ?_
  obtain ⟨kC,kD,kE,Jh,hl,h⟩ := h
  refine Seq.z 72 (.load 71 (.tmp 71)) 71 (.agg #[(.slice kC kD kE),(.int .u64 Jh)]) (Y.lda isAgg71 sizeOf71 rfl rfl hl) ?_
  refine Seq.o ?_
  refine AL.N7 (T := 71) (d := (some 19)) (ty := 0)  (gd := none) (cs := #[(.slice none 0 0),(.int .u64 0)]) (by kernel_rfl) rfl rfl zeroValue71 rfl (fun C4 hn => ?_)
  replace h := h C4 hn
  refine Seq.o ?_
  refine AL.store (T := 71) (ty := 0) (x := (.tmp 19)) (y := (.tmp 72)) (p := (.pointer (some ⟨C4,0,none⟩))) (v := (.agg #[(.slice kC kD kE),(.int .u64 Jh)])) (gd := none) (by kernel_rfl) rfl rfl rfl (h.mono (fun _ σ1 h2 => ?_)); replace h := h2; clear h2
  refine Seq.done ?_
  refine At.s K64 K65 ?_
  refine At.draw (id := 18) (ops := cO K64) (n := 10) (q := (some [])) (plan := [(0,true),(1,true),(2,true),(3,false),(4,false),(5,true),(6,true),(7,true),(8,true),(9,true)]) (tl := []) mixed (by kernel_rfl) (by kernel_rfl) ?_
  obtain ⟨aS,hl,h⟩ := h
  refine Head.yl C7 [[4]] rfl (by kernel_rfl) (d := (some 74)) (op := (.load 99 (.tmp 13))) (ty := 99) (v := (.map aS)) (by kernel_rfl) rfl (Y.ld isAgg99 rfl (HX hl)) ?_
  refine Head.z 75 (.fieldAddr 71 (.tmp 19) 0) 0 (.pointer (some ⟨C4,0,none⟩)) (Y.fieldAddr (fd := (Kx prog 71 0)) underlying71 (by kernel_rfl) sizeOf37 rfl rfl) ?_
  obtain ⟨xy,yA,yB,hl,h⟩ := h
  refine Head.yl C4 [[3],[4,3]] rfl (by kernel_rfl) (d := (some 76)) (op := (.load 37 (.tmp 75))) (ty := 37) (v := (.slice xy yA yB)) (by kernel_rfl) rfl (Y.ld isAgg37 rfl (HX hl)) ?_
  refine Head.o (q' := (some [(C7,[4])])) rfl ?_
  refine AL.cl (some 77) call49 (h.cont fun v F3 h2 => ?_); replace h := h2; clear h2
  obtain ⟨s77,rfl,hk,h⟩ := h
  refine ⟨⟨fun _ h => h,Wb (L := [(C7,[4])]) hk⟩,?_⟩
  refine Head.o (q' := (some [])) rfl ?_
  refine AL.QZ (d := (some 78)) (op := (.lookup 99 (.tmp 74) (.tmp 77) true)) (ty := 102) (gd := none) (by kernel_rfl) rfl rfl (Instr.lookup 99 (.map aS) (.string s77) true) (fun o ho ht => by simp only [execOp,ho]; rfl) (h.mono (fun v_2 CD h2 => ?_)); replace h := h2; clear h2
  obtain ⟨aT,TR,rfl,h⟩ := h
  refine ⟨⟨fun _ h => h,Wb (L := []) Kp.nil⟩,?_⟩
  refine Head.u 73 (.tuple #[(.int .i64 aT),(.bool TR)]) ?_
  refine Head.u 79 (.int .i64 aT) ?_
  refine Head.u 80 (.bool TR) ?_
  refine Head.u 20 (.int .i64 aT) ?_
  refine Head.u 21 (.bool TR) ?_
  refine Head.done ?_
  refine Seq.done ?_
  refine At.s K66 K75 (At.s K67 K68 ?_)
  refine At.rg 19 [0,1] ?_
  refine Seq.us [(81,.bool TR),(82,.bool (!TR))] (Seq.done ?_)
  cases hb : (!TR) with
  | true =>
   replace h := h.1 (Tw.nt hb)
   refine At.cT 82 K69 K74 ?_
   refine At.s K70 K71 ?_
   refine At.rg 20 [0,1,2] ?_
   obtain ⟨qp,XF,qq,hl,h⟩ := h
   refine Seq.z 83 (.load 23 (.tmp 14)) 23 (.slice qp XF qq) (Y.ld isAgg23 rfl hl) ?_
   refine Seq.z 84 (.call { callee := .builtin .len,args := #[(.tmp 83)],argTypes := #[23] }) 3 (.int .i64 (XF : Int)) (Y.wh underlying23 rfl rfl) ?_
   refine Seq.u 20 (.int .i64 (XF : Int)) (Seq.done ?_)
   refine At.s K72 K73 ?_
   refine At.draw (id := 21) (ops := cO K72) (n := 5) (q := (some [])) (plan := [(0,true),(1,true),(2,true),(4,true),(3,false)]) (tl := [5]) mixed (by kernel_rfl) (by kernel_rfl) ?_
   obtain ⟨m85,hl,h⟩ := h
   refine Head.yl C7 [] rfl (by kernel_rfl) (d := (some 85)) (op := (.load 99 (.tmp 13))) (ty := 99) (v := (.map m85)) (by kernel_rfl) rfl (Y.ld isAgg99 rfl (HX hl)) ?_
   refine Head.z 86 (.fieldAddr 71 (.tmp 19) 0) 0 (.pointer (some ⟨C4,0,none⟩)) (Y.fieldAddr (fd := (Kx prog 71 0)) underlying71 (by kernel_rfl) sizeOf37 rfl rfl) ?_
   obtain ⟨p87,n87,c87,hl,h⟩ := h
   refine Head.yl C4 [[3]] rfl (by kernel_rfl) (d := (some 87)) (op := (.load 37 (.tmp 86))) (ty := 37) (v := (.slice p87 n87 c87)) (by kernel_rfl) rfl (Y.ld isAgg37 rfl (HX hl)) ?_
   refine Head.u 89 (.int .i64 (XF : Int)) ?_
   refine Head.o (q' := (some [(C7,[])])) rfl ?_
   refine AL.cl (some 88) call49 (h.cont fun v_3 Ci h2 => ?_); replace h := h2; clear h2
   obtain ⟨s88,rfl,hk,h⟩ := h
   refine ⟨⟨fun _ h => h,Wb (L := [(C7,[])]) hk⟩,?_⟩
   refine Head.done ?_
   refine Seq.o ?_
   refine AL.qO (d := none) (op := (.mapUpdate 99 (.tmp 85) (.tmp 88) (.tmp 89))) (ty := 0) (gd := none) (by kernel_rfl) rfl rfl (Instr.mapUpdate 99 (.map m85) (.string s88) (.int .i64 (XF : Int))) (fun o ho ht => by simp only [execOp,ho]; rfl) (h.mono (fun _ BY h2 => ?_)); replace h := h2; clear h2
   refine Seq.done ?_
   refine At.draw (id := 22) (ops := cO K73) (n := 7) (q := (some [])) (plan := [(0,true),(2,true),(3,true),(1,false),(4,false),(5,true),(6,false)]) (tl := [7,8]) mixed (by kernel_rfl) (by kernel_rfl) ?_
   obtain ⟨p90,n90,c90,hl,h⟩ := h
   refine Head.yl BC [] rfl (by kernel_rfl) (d := (some 90)) (op := (.load 23 (.tmp 14))) (ty := 23) (v := (.slice p90 n90 c90)) (by kernel_rfl) rfl (Y.ld isAgg23 rfl (HX hl)) ?_
   refine Head.z 92 (.fieldAddr 71 (.tmp 19) 0) 0 (.pointer (some ⟨C4,0,none⟩)) (Y.fieldAddr (fd := (Kx prog 71 0)) underlying71 (by kernel_rfl) sizeOf37 rfl rfl) ?_
   obtain ⟨p93,n93,c93,hl,h⟩ := h
   refine Head.yl C4 [[4],[6,5,4]] rfl (by kernel_rfl) (d := (some 93)) (op := (.load 37 (.tmp 92))) (ty := 37) (v := (.slice p93 n93 c93)) (by kernel_rfl) rfl (Y.ld isAgg37 rfl (HX hl)) ?_
   refine Head.o (q' := (some [(C4,[4,6]),(BC,[])])) rfl ?_
   refine AL.IQ (T := 37) (E := 56) (m := 0) (ps := #[]) (d := (some 91)) (ty := 37) (gd := none) (vs := []) (cs := #[]) underlying37 (by kernel_rfl) rfl rfl rfl (by kernel_rfl) (fun Lq hn => ?_)
   refine ⟨⟨fun _ h => h,Wb (Kp.Dr (Ext.set hn))⟩,?_⟩
   replace h := h Lq hn
   refine Head.o (q' := (some [(BC,[])])) rfl ?_
   refine AL.QZ (d := (some 94)) (op := (.call { callee := .builtin .append,args := #[(.tmp 91),(.tmp 93)],argTypes := #[37,37] })) (ty := 37) (gd := none) (by kernel_rfl) rfl rfl (Builtin.append_ #[37,37] 37 #[(.slice (some ⟨Lq,0,none⟩) 0 0),(.slice p93 n93 c93)]) (fun o ho ht => FI rfl rfl o ho ht) (h.mono (fun v_4 M5 h2 => ?_)); replace h := h2; clear h2
   obtain ⟨qt,qu,qw,rfl,hk,h⟩ := h
   refine ⟨⟨fun _ h => h,Wb (L := [(BC,[])]) hk⟩,?_⟩
   refine Head.z 95 (.build 40 #[(0,(.tmp 94))]) 40 (.agg #[(.slice qt qu qw),(.slice none 0 0)]) (Y.build (vs := [(0,(.slice qt qu qw))]) rfl (by kernel_rfl)) ?_
   refine Head.o (q' := (some [(BC,[])])) rfl ?_
   refine AL.IQ (T := 23) (E := 40) (m := 1) (ps := #[(0,(.tmp 95))]) (d := (some 96)) (ty := 23) (gd := none) (vs := [(0,(.agg #[(.slice qt qu qw),(.slice none 0 0)]))]) (cs := #[(.slice qt qu qw),(.slice none 0 0)]) underlying23 (by kernel_rfl) rfl rfl rfl (by kernel_rfl) (fun qz hn => ?_)
   refine ⟨⟨fun _ h => h,Wb (Kp.Dr (Ext.set hn))⟩,?_⟩
   replace h := h qz hn
   refine Head.done ?_
   refine Seq.o ?_
   refine AL.QZ (d := (some 97)) (op := (.call { callee := .builtin .append,args := #[(.tmp 90),(.tmp 96)],argTypes := #[23,23] })) (ty := 23) (gd := none) (by kernel_rfl) rfl rfl (Builtin.append_ #[23,23] 23 #[(.slice p90 n90 c90),(.slice (some ⟨qz,0,none⟩) 1 1)]) (fun o ho ht => FI rfl rfl o ho ht) (h.mono (fun v_5 Jg h2 => ?_)); replace h := h2; clear h2
   obtain ⟨p97,n97,c97,rfl,h⟩ := h
   refine Seq.o ?_
   refine AL.store (T := 23) (ty := 0) (x := (.tmp 14)) (y := (.tmp 97)) (p := (.pointer (some ⟨BC,0,none⟩))) (v := (.slice p97 n97 c97)) (gd := none) (by kernel_rfl) rfl rfl rfl (h.mono (fun _ UD h2 => ?_)); replace h := h2; clear h2
   refine Seq.done ?_
   refine At.L [(13,(.pointer (some ⟨C7,0,none⟩))),(14,(.pointer (some ⟨BC,0,none⟩))),(15,(.int .i64 x15)),(19,(.pointer (some ⟨C4,0,none⟩))),(20,(.int .i64 (XF : Int))),(67,(.slice (some ⟨VH,kB,none⟩) XC ZQ)),(68,(.int .i64 M4)),(69,(.int .i64 Pe))] fun J => ?_
   exact At.v [(13,(.pointer (some ⟨C7,0,none⟩))),(14,(.pointer (some ⟨BC,0,none⟩))),(15,(.int .i64 x15)),(19,(.pointer (some ⟨C4,0,none⟩))),(20,(.int .i64 (XF : Int))),(67,(.slice (some ⟨VH,kB,none⟩) XC ZQ)),(68,(.int .i64 M4)),(69,(.int .i64 Pe))] (h _)
  | false =>
   replace h := h.2 (Tw.nf hb)
   refine At.cF 82 K69 K74 ?_
   refine At.skip ?_
   exact At.v [(13,(.pointer (some ⟨C7,0,none⟩))),(14,(.pointer (some ⟨BC,0,none⟩))),(15,(.int .i64 x15)),(19,(.pointer (some ⟨C4,0,none⟩))),(20,(.int .i64 aT)),(67,(.slice (some ⟨VH,kB,none⟩) XC ZQ)),(68,(.int .i64 M4)),(69,(.int .i64 Pe))] (h _)
 | false =>
  replace h := h.2 (of_decide_eq_false hb)
  refine At.cF 70 K57 K58 ?_
  refine At.x 2 [.inBlock 1] ?_
  refine At.inBlock ?_
  exact At.jN rfl h.1 h.2
theorem q6 {R : Rr} {l C7 BC C4 XC ZQ : Nat} {r0 : Loop} {x15 Hc M4 Pe : Int} {iw : Option Addr} {σ : Hp} (h : ∃ p98 : Option Addr,∃ n98 : Nat,∃ c98 : Nat,Hp.ld σ ⟨BC,0,none⟩ = some (.slice p98 n98 c98) ∧ ∃ q8 : Option Addr,∃ n100 : Nat,∃ yC : Nat,Hp.ld σ ⟨BC,0,none⟩ = some (.slice q8 n100 yC) ∧ ∃ (aU kF : Nat),q8 = some ⟨aU,kF,none⟩ ∧ ((0 : Int) ≤ Hc ∧ Hc < (n100 : Int)) ∧ ∃ kG : Option Addr,∃ n104 : Nat,∃ kH : Nat,Hp.ld σ ⟨aU,((kF + Int.toNat Hc * 2) + 1),none⟩ = some (.slice kG n104 kH) ∧ ∃ VI : Int,Hp.ld σ ⟨C4,1,none⟩ = some (.int .u64 VI) ∧ ∀ ON : Nat,σ ON = none → AJ prog (Builtin.append_ #[38,38] 38 #[(.slice kG n104 kH),(.slice (some ⟨ON,0,none⟩) 1 1)]) (Hp.set σ ON (.cells #[(.int .i64 x15),(.int .u64 VI)] 50 (0,0))) (fun v σ1 => ∃ q9 : Option Addr,∃ n110 : Nat,∃ rC : Nat,v = (.slice q9 n110 rC) ∧ Kp [BC] (Hp.set σ ON (.cells #[(.int .i64 x15),(.int .u64 VI)] 50 (0,0))) σ1 ∧ ∃ (fS fT : Nat),p98 = some ⟨fS,fT,none⟩ ∧ ((0 : Int) ≤ Hc ∧ Hc < (n98 : Int)) ∧ AJ prog (Instr.storeAt 38 (.pointer (some ⟨fS,((fT + Int.toNat Hc * 2) + 1),none⟩)) (.slice q9 n110 rC)) σ1 (fun _ F3 => AM (Pe + 1) ∧ Pd R l r0 C7 BC x15 iw XC ZQ M4 ((Pe + 1)) F3))) : qk R l r0 C7 BC x15 C4 Hc iw XC ZQ M4 Pe σ := by
 intro J
 show At (Gl.round prog 35 117 l R) _ _ _ _
 refine At.draw (id := 23) (ops := cO K75) (n := 15) (q := (some [])) (plan := [(0,true),(1,true),(2,true),(3,true),(4,true),(5,true),(6,true),(7,true),(8,true),(9,true),(10,true),(11,false),(12,false),(13,true),(14,true)]) (tl := [15]) mixed (by kernel_rfl) (by kernel_rfl) ?_
 obtain ⟨p98,n98,c98,hl,h⟩ := h
 refine Head.yl BC [] rfl (by kernel_rfl) (d := (some 98)) (op := (.load 23 (.tmp 14))) (ty := 23) (v := (.slice p98 n98 c98)) (by kernel_rfl) rfl (Y.ld isAgg23 rfl (HX hl)) ?_
 refine Head.u 99 (.int .i64 Hc) ?_
 obtain ⟨q8,n100,yC,hl,h⟩ := h
 refine Head.yl BC [[12,6,5,4]] rfl (by kernel_rfl) (d := (some 100)) (op := (.load 23 (.tmp 14))) (ty := 23) (v := (.slice q8 n100 yC)) (by kernel_rfl) rfl (Y.ld isAgg23 rfl (HX hl)) ?_
 refine Head.u 101 (.int .i64 Hc) ?_
 obtain ⟨aU,kF,hq,h⟩ := h
 subst hq
 obtain ⟨hi,h⟩ := h
 refine Head.z 102 (.indexAddr 23 (.tmp 100) (.tmp 101)) 0 (.pointer (some ⟨aU,(kF + Int.toNat Hc * 2),none⟩)) (Y.idx underlying23 sizeOf40 rfl rfl hi rfl) ?_
 refine Head.z 103 (.fieldAddr 40 (.tmp 102) 1) 0 (.pointer (some ⟨aU,((kF + Int.toNat Hc * 2) + 1),none⟩)) (Y.fieldAddr (fd := (Kx prog 40 1)) underlying40 (by kernel_rfl) sizeOf38 rfl rfl) ?_
 obtain ⟨kG,n104,kH,hl,h⟩ := h
 refine Head.yl aU [[12]] rfl (by kernel_rfl) (d := (some 104)) (op := (.load 38 (.tmp 103))) (ty := 38) (v := (.slice kG n104 kH)) (by kernel_rfl) rfl (Y.ld isAgg38 rfl (HX hl)) ?_
 refine Head.u 105 (.int .i64 x15) ?_
 refine Head.z 106 (.fieldAddr 71 (.tmp 19) 1) 0 (.pointer (some ⟨C4,1,none⟩)) (Y.fieldAddr (fd := (Kx prog 71 1)) underlying71 (by kernel_rfl) sizeOf48 rfl rfl) ?_
 obtain ⟨VI,hl,h⟩ := h
 refine Head.yl C4 [[11,10],[12,11,10]] rfl (by kernel_rfl) (d := (some 107)) (op := (.load 48 (.tmp 106))) (ty := 48) (v := (.int .u64 VI)) (by kernel_rfl) rfl (Y.ld isAgg48 rfl (HX hl)) ?_
 refine Head.z 108 (.build 50 #[(0,(.tmp 105)),(1,(.tmp 107))]) 50 (.agg #[(.int .i64 x15),(.int .u64 VI)]) (Y.build (vs := [(0,(.int .i64 x15)),(1,(.int .u64 VI))]) rfl (by kernel_rfl)) ?_
 refine Head.o (q' := (some [(aU,[12]),(BC,[12]),(BC,[])])) rfl ?_
 refine AL.IQ (T := 38) (E := 50) (m := 1) (ps := #[(0,(.tmp 108))]) (d := (some 109)) (ty := 38) (gd := none) (vs := [(0,(.agg #[(.int .i64 x15),(.int .u64 VI)]))]) (cs := #[(.int .i64 x15),(.int .u64 VI)]) underlying38 (by kernel_rfl) rfl rfl rfl (by kernel_rfl) (fun ON hn => ?_)
 refine ⟨⟨fun _ h => h,Wb (Kp.Dr (Ext.set hn))⟩,?_⟩
 replace h := h ON hn
 refine Head.o (q' := (some [(BC,[])])) rfl ?_
 refine AL.QZ (d := (some 110)) (op := (.call { callee := .builtin .append,args := #[(.tmp 104),(.tmp 109)],argTypes := #[38,38] })) (ty := 38) (gd := none) (by kernel_rfl) rfl rfl (Builtin.append_ #[38,38] 38 #[(.slice kG n104 kH),(.slice (some ⟨ON,0,none⟩) 1 1)]) (fun o ho ht => FI rfl rfl o ho ht) (h.mono (fun v σ1 h2 => ?_)); replace h := h2; clear h2
 obtain ⟨q9,n110,rC,rfl,hk,h⟩ := h
 refine ⟨⟨fun _ h => h,Wb (L := [(BC,[])]) hk⟩,?_⟩
 obtain ⟨fS,fT,hq,h⟩ := h
 subst hq
 obtain ⟨hi,h⟩ := h
 refine Head.z 111 (.indexAddr 23 (.tmp 98) (.tmp 99)) 0 (.pointer (some ⟨fS,(fT + Int.toNat Hc * 2),none⟩)) (Y.idx underlying23 sizeOf40 rfl rfl hi rfl) ?_
 refine Head.z 112 (.fieldAddr 40 (.tmp 111) 1) 0 (.pointer (some ⟨fS,((fT + Int.toNat Hc * 2) + 1),none⟩)) (Y.fieldAddr (fd := (Kx prog 40 1)) underlying40 (by kernel_rfl) sizeOf38 rfl rfl) ?_
 refine Head.done ?_
 refine Seq.o ?_
 refine AL.store (T := 38) (ty := 0) (x := (.tmp 112)) (y := (.tmp 110)) (p := (.pointer (some ⟨fS,((fT + Int.toNat Hc * 2) + 1),none⟩))) (v := (.slice q9 n110 rC)) (gd := none) (by kernel_rfl) rfl rfl rfl (h.mono (fun _ F3 h2 => ?_)); replace h := h2; clear h2
 refine Seq.done ?_
 refine At.inBlock ?_
 refine At.rg 24 [0,1] ?_
 obtain ⟨hi,h⟩ := h
 refine Seq.z 113 (.binOp .add 3 (.tmp 69) (.const (.int .i64 1)) 3) 3 (.int .i64 (Pe + 1)) (Y.AIz hi rfl rfl) ?_
 refine Seq.u 69 (.int .i64 (Pe + 1)) (Seq.done ?_)
 refine At.inLoop ?_
 refine At.s K54 K55 ?_
 exact At.v [(13,(.pointer (some ⟨C7,0,none⟩))),(14,(.pointer (some ⟨BC,0,none⟩))),(15,(.int .i64 x15)),(67,(.slice iw XC ZQ)),(68,(.int .i64 M4)),(69,(.int .i64 (Pe + 1)))] (h _)
end Bl
namespace FQ
variable {p0 q5 LH : Option Addr} {n0 c0 n11 LJ : Nat} {x12 Dn : Int}
def M : Fw := ⟨prog,37,f37,[53],[7],false,[],[],[(232,[(0,wL),(5,wQ),(11,wL),(12,wI),(13,wI)])]⟩
theorem ok : M.Ok := ⟨.cons call53 (AG.nil),mixed,func37,by kernel_rfl⟩
def A1 := M.pt 0
theorem start (h : Al σ fun CW => A1 R p0 n0 c0 (aD CW 0) p0 n0 c0 (n0 : Int) 0 (Hp.set σ CW (.cells #[.slice none 0 0] 110 (0,0)))) : Spec prog 37 #[.slice p0 n0 c0] σ R := M.start h ok
theorem Ab (h : Br (Dn < x12) (Pq LH fun I9 VJ => In Dn (n11 : Int) ∧ ∃ Q6 XG kI fU fV fW ACh ACi ACj ACk ACl ACm ACn ACo,As σ I9 (VJ + Int.toNat Dn * 10) [.int .i64 Q6,.int .i64 XG,.string kI,.slice fU fV fW,.int .i64 ACh,.int .i64 ACi,.int .i64 ACj,.slice ACk ACl ACm,.bool ACn,.int .i64 ACo] ∧ ∀ b7 : Nat,Spec prog 53 #[.pointer q5,.agg #[.int .i64 Q6,.int .i64 XG,.string kI,.slice fU fV fW,.int .i64 ACh,.int .i64 ACi,.int .i64 ACj,.slice ACk ACl ACm,.bool ACn,.int .i64 ACo]] σ (AA R (CI .i64 fun Hc y => Br (Hc ≠ 0) (R (.returned (.tuple #[.int .i64 0,.int .i64 Dn,.int .i64 Hc])) y) (AM (Dn + 1) ∧ A1 R p0 n0 c0 q5 (aD I9 VJ) n11 LJ x12 (Dn + 1) y)))) (Pq q5 fun XH rD => LS σ XH rD fun p29 n29 c29 => Br ((n29 : Int) ≠ 1) (R (.returned (.tuple #[.int .i64 0,(.int .i64 (n0 : Int)),.int .i64 190])) σ) (Br (4096 < (n0 : Int)) (R (.returned (.tuple #[.int .i64 0,(.int .i64 (n0 : Int)),.int .i64 190])) σ) (LS σ XH rD fun p42 n42 c42 => Pq p42 fun dM o43 => In 0 (n42 : Int) ∧ LI .i64 σ dM o43 fun x45 => R (.returned (.tuple #[.int .i64 x45,.int .i64 0,.int .i64 0])) σ)))) : A1 R p0 n0 c0 q5 LH n11 LJ x12 Dn σ := M.of h ok rfl
end FQ
namespace D6
variable {p0 p8 : Option Addr} {n0 c0 n8 c8 : Nat} {x9 x10 : Int}
def M : Fw := ⟨prog,68,f68,[98,99],[4],false,[(10,14,true)],[],[(232,[(0,wL),(8,wL),(9,wI),(10,wI)])]⟩
theorem ok : M.Ok := ⟨.cons call98 (.cons call99 (AG.nil)),mixed,func68,by kernel_rfl⟩
def Lc := M.pt 0
theorem start (h : Br (16 < (n0 : Int)) (R (.returned (.int .i64 30)) σ) (Lc R p0 n0 c0 p0 n0 c0 (n0 : Int) 0 σ)) : Spec prog 68 #[.slice p0 n0 c0] σ R := M.start h ok
theorem IY (h : Br (x10 < x9) (Pq p8 fun C7 ix => In x10 (n8 : Int) ∧ ∃ rE aV,As σ C7 (ix + Int.toNat x10 * 2) [.string rE,.string aV] ∧ ∀ b4 : Nat,Spec prog 98 #[.string rE] σ (AA R (CB fun t18 y => Bn t18 (R (.returned (.int .i64 31)) y) (Bo ((ByteArray.toList aV == ByteArray.toList (ByteArray.mk #[]))) (R (.returned (.int .i64 32)) y) (Br ((256 : Int) < ((ByteArray.size aV : Nat) : Int)) (R (.returned (.int .i64 32)) y) (Spec prog 99 #[.string aV] y (AA R (CB fun t33 AF => Bn t33 (R (.returned (.int .i64 32)) AF) (Br (0 < x10) (AM (x10 - 1) ∧ Pq p0 fun iy iz => In (x10 - 1) (n0 : Int) ∧ LT AF iy (iz + Int.toNat (x10 - 1) * 2) fun s47 => ∃ t48,YF prog ((do eqGuard .leq 9 (.tmp 41) (.tmp 47) (.string rE) (.string s47); binOp .leq 9 (.string rE) (.string s47))) AF (.bool t48) ∧ Bo t48 (R (.returned (.int .i64 33)) AF) (AM (x10 + 1) ∧ Lc R (aD iy iz) n0 c0 (aD C7 ix) n8 c8 x9 (x10 + 1) AF)) (AM (x10 + 1) ∧ Lc R p0 n0 c0 (aD C7 ix) n8 c8 x9 (x10 + 1) AF)))))))))) (R (.returned (.int .i64 0)) σ)) : Lc R p0 n0 c0 p8 n8 c8 x9 x10 σ := M.of h ok rfl
end D6
namespace Av
variable {p0 p1 LH : Option Addr} {n0 c0 n1 c1 n11 LJ : Nat} {v2 : Value} {x12 Dn : Int}
def M : Fw := ⟨prog,75,f75,[],[8,9],false,[],[],[(104,[(0,wL),(1,wL),(2,wV),(11,wL),(12,wI),(13,wI)])]⟩
theorem ok : M.Ok := ⟨AG.nil,mixed,func75,by kernel_rfl⟩
def Hi := M.pt 0
theorem start (h : Hi R p0 n0 c0 p1 n1 c1 v2 p0 n0 c0 (n0 : Int) 0 σ) : Spec prog 75 #[.slice p0 n0 c0,.slice p1 n1 c1,v2] σ R := M.Du h ok [(0,.o (.L p0 n0 c0)),(1,.o (.L p1 n1 c1)),(2,.o (.V v2))] rfl rfl (by kernel_rfl)
theorem Bc (h : Br (Dn < x12) (Pq LH fun I9 VJ => In Dn (n11 : Int) ∧ ∃ ACp ACq,As σ I9 (VJ + Int.toNat Dn * 2) [.string ACp,.string ACq] ∧ ∀ b8 : Nat,Br ((n1 : Int) ≤ Dn) (R (.returned (.int .i64 1)) σ) (Pq p1 fun b24 o24 => In Dn (n1 : Int) ∧ ∃ ACs ACt,As σ b24 (o24 + Int.toNat Dn * 2) [.string ACs,.string ACt] ∧ ∀ b9 : Nat,∃ (f29 : Nat) (uS uT : Array Value),v2 = .func (.func f29) uS uT ∧ Enters prog f29 ∧ Spec prog f29 (uS ++ #[.agg #[.string ACp,.string ACq],.agg #[.string ACs,.string ACt]] ++ uT) σ (AA R (CI .i64 fun x29 y => Br (x29 ≠ 0) (R (.returned (.int .i64 x29)) y) (AM (Dn + 1) ∧ Hi R p0 n0 c0 (aD b24 o24) n1 c1 v2 (aD I9 VJ) n11 LJ x12 (Dn + 1) y))))) (Br ((n0 : Int) < (n1 : Int)) (R (.returned (.int .i64 (-1))) σ) (R (.returned (.int .i64 0)) σ))) : Hi R p0 n0 c0 p1 n1 c1 v2 LH n11 LJ x12 Dn σ := M.of h ok rfl
end Av
end TwW
end
end
section
set_option maxRecDepth 100000
noncomputable section
namespace TwW
open Go Tw Go.Proofs.Tryz
variable [Ej] {R : Rr} {σ : Hp}

namespace C8
variable {q0 : Option Addr}
def M : Fw := ⟨prog,96,f96,[95],[],false,[],[],[]⟩
theorem ok : M.Ok := ⟨.cons call95 (AG.nil),mixed,func96,by kernel_rfl⟩
theorem start (h : Spec prog 95 #[.pointer q0,(.func (.func 139) #[.pointer q0] #[]),.int .i64 11,.int .i64 13] σ (AA R (fun z y => z = (.tuple #[]) ∧ R (.returned (.tuple #[])) y))) : Spec prog 96 #[.pointer q0] σ R := M.start h ok
end C8
namespace Ji
variable {x0 : Int}
def M : Fw := ⟨prog,124,f124,[],[],false,[],[],[]⟩
theorem ok : M.Ok := ⟨AG.nil,mixed,func124,by kernel_rfl⟩
theorem start (h : Br (5 ≤ x0) (R (.returned (.bool (decide (x0 ≤ 10)))) σ) (R (.returned (.bool false)) σ)) : Spec prog 124 #[.int .i64 x0] σ R := M.start h ok
end Ji
namespace O4
variable {s0 : ByteArray}
def M : Fw := ⟨prog,140,f140,[172,173,174],[],false,[],[],[]⟩
theorem ok : M.Ok := ⟨.cons call172 (.cons call173 (.cons call174 (AG.nil))),mixed,func140,by kernel_rfl⟩
theorem start (h : Spec prog 172 #[.string s0] σ (AA R (CB fun t7 y => Bn t7 (R (.returned (.tuple #[.int .u64 0,.bool false])) y) (Spec prog 173 #[.string s0,.int .i64 64] y (AA R (fun z AF => ∃ fX fY,z = (.tuple #[fX,fY]) ∧ Spec prog 174 #[fX] AF (AA R (CI .u64 fun x15 AH => R (.returned (.tuple #[.int .u64 x15,.bool true])) AH)))))))) : Spec prog 140 #[.string s0] σ R := M.start h ok
end O4
namespace Q7
variable {p0 p1 : Option Addr} {n0 c0 n1 c1 : Nat}
def M : Fw := ⟨prog,149,f149,[197],[],false,[],[],[]⟩
theorem ok : M.Ok := ⟨.cons call197 (AG.nil),mixed,func149,by kernel_rfl⟩
theorem start (h : Al σ fun b3 => Spec prog 197 #[.slice p0 n0 c0,(.func (.func 198) #[] #[(.pointer (aD b3 0))])] (Hp.set σ b3 (.cells #[.slice p1 n1 c1] 34 (0,0))) (AA R (CS fun p7 n7 c7 y => R (.returned (.slice p7 n7 c7)) y))) : Spec prog 149 #[.slice p0 n0 c0,.slice p1 n1 c1] σ R := M.start h ok
end Q7
namespace Dc
variable {p0 : Option Addr} {n0 c0 : Nat}
def M : Fw := ⟨prog,153,f153,[202],[],false,[],[],[]⟩
theorem ok : M.Ok := ⟨.cons call202 (AG.nil),mixed,func153,by kernel_rfl⟩
theorem start (h : Spec prog 202 #[.int .i64 9,.slice p0 n0 c0] σ (AA R (CI .u64 fun x4 y => R (.returned (.int .u64 x4)) y))) : Spec prog 153 #[.slice p0 n0 c0] σ R := M.start h ok
end Dc
namespace C9
variable {x0 : Int} {b1 b2 : Nat}
def M : Fw := ⟨prog,159,f159,[156],[],false,[],[],[]⟩
theorem ok : M.Ok := ⟨.cons call156 (AG.nil),mixed,func159,by kernel_rfl⟩
theorem start (h : ∃ Fp Fq s6c Fs Ft Fu x6e x6f x6g p6h n6h c6h t6i x6j,As σ b1 0 [.int .i64 Fp,.int .i64 Fq,.string s6c,.slice Fs Ft Fu,.int .i64 x6e,.int .i64 x6f,.int .i64 x6g,.slice p6h n6h c6h,.bool t6i,.int .i64 x6j] ∧ LI .u64 σ b2 1 fun x9 => Spec prog 156 #[.agg #[.int .i64 Fp,.int .i64 Fq,.string s6c,.slice Fs Ft Fu,.int .i64 x6e,.int .i64 x6f,.int .i64 x6g,.slice p6h n6h c6h,.bool t6i,.int .i64 x6j],.int .u64 x0,.int .u64 x9] σ (AA R (fun z y => ∃ IZ Q8,z = (.tuple #[.int .u64 IZ,.bool Q8]) ∧ R (.returned (.tuple #[.int .u64 IZ,.bool Q8])) y))) : Spec prog 159 #[.int .u64 x0,(.pointer (aD b1 0)),(.pointer (aD b2 0))] σ R := M.start h ok
end C9
namespace O5
variable {s0 : ByteArray}
def M : Fw := ⟨prog,172,f172,[213],[],false,[],[],[]⟩
theorem ok : M.Ok := ⟨.cons call213 (AG.nil),mixed,func172,by kernel_rfl⟩
theorem start (h : Spec prog 213 #[.string s0] σ (AA R (CI .i64 fun x6 y => Br (x6 = 0) (R (.returned (.bool false)) y) (Br (1 < x6) (∃ LK : UInt8,(0 : Int) ≤ 0 ∧ (ByteArray.data s0)[Int.toNat 0]? = some LK ∧ Br ((((UInt8.toNat LK : Nat) : Int) : Int) = 48) (R (.returned (.bool false)) y) (Br (x6 = ((ByteArray.size s0 : Nat) : Int)) (R (.returned (.bool (decide (x6 ≤ 15)))) y) (AM (x6 + 1) ∧ ∃ uU,YF prog (Instr.sliceAt 9 (.string s0) (some (.int .i64 (x6 + 1))) none none) y (.string uU) ∧ Spec prog 213 #[.string uU] y (AA R (CI .i64 fun XI AF => ∃ uV : UInt8,0 ≤ x6 ∧ (ByteArray.data s0)[Int.toNat x6]? = some uV ∧ Br ((((UInt8.toNat uV : Nat) : Int) : Int) = 46) (Br (0 < XI) (AM (x6 + 1) ∧ AM ((x6 + 1) + XI) ∧ Br ((((x6 + 1) + XI) : Int) = ((ByteArray.size s0 : Nat) : Int)) (AM (x6 + XI) ∧ R (.returned (.bool (decide (((x6 + XI) : Int) ≤ 15)))) AF) (R (.returned (.bool false)) AF)) (R (.returned (.bool false)) AF)) (R (.returned (.bool false)) AF)))))) (Br (x6 = ((ByteArray.size s0 : Nat) : Int)) (R (.returned (.bool (decide (x6 ≤ 15)))) y) (AM (x6 + 1) ∧ ∃ uU,YF prog (Instr.sliceAt 9 (.string s0) (some (.int .i64 (x6 + 1))) none none) y (.string uU) ∧ Spec prog 213 #[.string uU] y (AA R (CI .i64 fun XI AF => ∃ uV : UInt8,0 ≤ x6 ∧ (ByteArray.data s0)[Int.toNat x6]? = some uV ∧ Br ((((UInt8.toNat uV : Nat) : Int) : Int) = 46) (Br (0 < XI) (AM (x6 + 1) ∧ AM ((x6 + 1) + XI) ∧ Br ((((x6 + 1) + XI) : Int) = ((ByteArray.size s0 : Nat) : Int)) (AM (x6 + XI) ∧ R (.returned (.bool (decide (((x6 + XI) : Int) ≤ 15)))) AF) (R (.returned (.bool false)) AF)) (R (.returned (.bool false)) AF)) (R (.returned (.bool false)) AF))))))))) : Spec prog 172 #[.string s0] σ R := M.start h ok
end O5
namespace dO
variable {x0 : Int}
def M : Fw := ⟨prog,182,f182,[],[],false,[],[],[]⟩
theorem ok : M.Ok := ⟨AG.nil,mixed,func182,by kernel_rfl⟩
theorem start (h : EN prog 22 #[.int .u64 x0] σ (fun z y => ∃ x4,(Value.float .f64 x4) = z ∧ R (.returned (Value.float .f64 x4)) y)) : Spec prog 182 #[.int .u64 x0] σ R := M.start h ok
end dO
namespace M6
variable {f0 : Fn} {a0 c0 : Array Value}
def M : Fw := ⟨prog,188,f188,[],[],false,[],[],[]⟩
theorem ok : M.Ok := ⟨AG.nil,mixed,func188,by kernel_rfl⟩
theorem start (h : Al σ fun b1 => R (.returned (.func (.func 226) #[] #[(.pointer (aD b1 0))])) (Hp.set σ b1 (.cells #[(Value.func f0 a0 c0)] 232 (0,0)))) : Spec prog 188 #[(Value.func f0 a0 c0)] σ R := M.Du h ok [(0,.o (.V (Value.func f0 a0 c0)))] rfl rfl (by kernel_rfl)
end M6
namespace CK
variable {p0 p5 p8 : Option Addr} {n0 c0 n5 c5 n8 c8 : Nat} {v1 : Value} {x9 x10 : Int}
def M : Fw := ⟨prog,197,f197,[],[7],false,[],[],[(232,[(1,wV),(5,wL),(8,wL),(9,wI),(10,wI)]),(935,[(1,wV),(5,wL),(8,wL),(9,wI),(10,wI)])]⟩
theorem ok : M.Ok := ⟨AG.nil,mixed,func197,by kernel_rfl⟩
def A1 := M.pt 0
def XJ := M.pt 1
theorem start (h : A1 R v1 none 0 0 p0 n0 c0 (n0 : Int) 0 σ) : Spec prog 197 #[.slice p0 n0 c0,v1] σ R := M.Du h ok [(0,.o (.L p0 n0 c0)),(1,.o (.V v1))] rfl rfl (by kernel_rfl)
theorem Ab (h : Br (x10 < x9) (Pq p8 fun O6 Pg => In x10 (n8 : Int) ∧ ∃ yD fZ,As σ O6 (Pg + Int.toNat x10 * 2) [.string yD,.string fZ] ∧ ∀ b7 : Nat,∃ (f16 : Nat) (uW uX : Array Value),v1 = .func (.func f16) uW uX ∧ Enters prog f16 ∧ Spec prog f16 (uW ++ #[.agg #[.string yD,.string fZ]] ++ uX) σ (AA R (CB fun t16 y => Bo t16 (Al y fun C4 => AJ prog (Builtin.append_ #[37,37] 37 #[.slice p5 n5 c5,(.slice (aD C4 0) 1 1)]) (Hp.set y C4 (.cells #[.string yD,.string fZ] 56 (0,0))) (CS fun kJ n20 kL AF => XJ R v1 kJ n20 kL (aD O6 Pg) n8 c8 x9 x10 AF)) (XJ R v1 p5 n5 c5 (aD O6 Pg) n8 c8 x9 x10 y)))) (R (.returned (.slice p5 n5 c5)) σ)) : A1 R v1 p5 n5 c5 p8 n8 c8 x9 x10 σ := M.of h ok rfl
theorem QH (h : AM (x10 + 1) ∧ A1 R v1 p5 n5 c5 p8 n8 c8 x9 (x10 + 1) σ) : XJ R v1 p5 n5 c5 p8 n8 c8 x9 x10 σ := M.of h ok rfl
end CK
namespace BG
variable {p0 : Option Addr} {n0 c0 : Nat} {s1 : ByteArray} {x7 x8 : Int}
def M : Fw := ⟨prog,228,f228,[],[],false,[],[],[(104,[(0,wL),(1,wT),(7,wI),(8,wI)])]⟩
theorem ok : M.Ok := ⟨AG.nil,mixed,func228,by kernel_rfl⟩
def Hi := M.pt 0
theorem start (h : Hi R p0 n0 c0 s1 (n0 : Int) 0 σ) : Spec prog 228 #[.slice p0 n0 c0,.string s1] σ R := M.start h ok
theorem Bc (h : Br (x8 < x7) (Pq p0 fun BC O3 => In x8 (n0 : Int) ∧ LT σ BC (O3 + Int.toNat x8 * 1) fun pf => Bo (ByteArray.toList s1 == ByteArray.toList pf) (R (.returned (.int .i64 x8)) σ) (AM (x8 + 1) ∧ Hi R (aD BC O3) n0 c0 s1 x7 (x8 + 1) σ)) (R (.returned (.int .i64 (-1))) σ)) : Hi R p0 n0 c0 s1 x7 x8 σ := M.of h ok rfl
end BG
namespace BQ
variable {q0 : Option Addr}
def M : Fw := ⟨prog,230,f230,[136,138,250,251],[],false,[],[],[]⟩
theorem ok : M.Ok := ⟨.cons call136 (.cons call138 (.cons call250 (.cons call251 (AG.nil)))),mixed,func230,by kernel_rfl⟩
theorem start (h : Spec prog 136 #[.pointer q0,.int .i64 5,(.string (ByteArray.mk #[45]))] σ (AA R (CB fun t3 y => Bn t3 (Spec prog 250 #[.pointer q0] y (AA R (fun z AF => z = (.tuple #[]) ∧ R (.returned (.tuple #[])) AF))) (Spec prog 251 #[.pointer q0,(.func (.func 230) #[.pointer q0] #[])] y (AA R (fun z AF => z = (.tuple #[]) ∧ Spec prog 138 #[.pointer q0,(.agg #[.int .i64 7,.int .i64 0,(.string (ByteArray.mk #[])),.slice none 0 0,.int .i64 0,.int .i64 0,.int .i64 0,.slice none 0 0,.bool false,.int .i64 1])] AF (AA R (fun z AH => z = (.tuple #[]) ∧ R (.returned (.tuple #[])) AH)))))))) : Spec prog 230 #[.pointer q0] σ R := M.start h ok
end BQ
namespace BZ
variable {s0 : ByteArray} {x1 : Int}
def M : Fw := ⟨prog,231,f231,[252,253],[],false,[],[],[]⟩
theorem ok : M.Ok := ⟨.cons call252 (.cons call253 (AG.nil)),mixed,func231,by kernel_rfl⟩
theorem start (h : Br (x1 = 32) (Spec prog 252 #[.string s0] σ (AA R (fun z y => ∃ AC3 TS AC4,z = (.tuple #[AC3,.int .i64 TS,AC4]) ∧ AJ prog (convert 280 51 AC3) y (fun z AF => ∃ Cn,(Value.float .f64 Cn) = z ∧ R (.returned (.tuple #[(Value.float .f64 Cn),.int .i64 TS,AC4])) AF)))) (Spec prog 253 #[.string s0] σ (AA R (fun z y => ∃ AC5 fa AC6,z = (.tuple #[AC5,.int .i64 fa,AC6]) ∧ R (.returned (.tuple #[AC5,.int .i64 fa,AC6])) y)))) : Spec prog 231 #[.string s0,.int .i64 x1] σ R := M.start h ok
end BZ
namespace HK
variable {s0 s1 : ByteArray}
def M : Fw := ⟨prog,285,f285,[315],[],false,[],[],[]⟩
theorem ok : M.Ok := ⟨.cons call315 (AG.nil),mixed,func285,by kernel_rfl⟩
theorem start (h : Spec prog 315 #[.string s0,.string s1] σ (AA R (CB fun t7 y => R (.returned (.bool t7)) y))) : Spec prog 285 #[.string s0,.string s1] σ R := M.start h ok
end HK
namespace BH
variable {b0 : Nat}
def M : Fw := ⟨prog,294,f294,[65,210],[],false,[],[],[]⟩
theorem ok : M.Ok := ⟨.cons call65 (.cons call210 (AG.nil)),mixed,func294,by kernel_rfl⟩
theorem start (h : LQ σ b0 0 fun q1 => Spec prog 65 #[.pointer q1] σ (AA R (fun z y => z = (.tuple #[]) ∧ LQ y b0 0 fun q3 => Spec prog 210 #[.pointer q3,(.string (ByteArray.mk #[41]))] y (AA R (fun z AF => z = (.tuple #[]) ∧ R (.returned (.tuple #[])) AF))))) : Spec prog 294 #[(.pointer (aD b0 0))] σ R := M.start h ok
end BH
end TwW
end
end
section
set_option maxRecDepth 100000
noncomputable section
namespace TwW
open Go Tw Go.Proofs.Tryz
variable [Ej] {R : Rr} {σ : Hp}

namespace XK
variable {p0 : Option Addr} {n0 c0 : Nat}
def M : Fw := ⟨prog,49,f49,[72],[],false,[],[],[]⟩
theorem ok : M.Ok := ⟨.cons call72 (AG.nil),mixed,func49,by kernel_rfl⟩
theorem start (h : Spec prog 72 #[.slice p0 n0 c0] σ (AA R (CS fun p4 n4 c4 y => AJ prog (convert 90 9 (.slice p4 n4 c4)) y (CT fun s5 AF => R (.returned (.string s5)) AF)))) : Spec prog 49 #[.slice p0 n0 c0] σ R := M.start h ok
end XK
namespace JA
variable {q0 : Option Addr}
def M : Fw := ⟨prog,65,f65,[95],[],false,[],[],[]⟩
theorem ok : M.Ok := ⟨.cons call95 (AG.nil),mixed,func65,by kernel_rfl⟩
theorem start (h : Spec prog 95 #[.pointer q0,(.func (.func 96) #[.pointer q0] #[]),.int .i64 12,.int .i64 12] σ (AA R (fun z y => z = (.tuple #[]) ∧ R (.returned (.tuple #[])) y))) : Spec prog 65 #[.pointer q0] σ R := M.start h ok
end JA
namespace H3
variable {q0 : Option Addr}
def M : Fw := ⟨prog,66,f66,[],[2],false,[],[],[]⟩
theorem ok : M.Ok := ⟨AG.nil,mixed,func66,by kernel_rfl⟩
theorem start (h : ∀ b2 : Nat,Pq q0 fun b4 o4 => LS σ b4 o4 fun p6 n6 c6 => Pq p6 fun b7 o7 => In 0 (n6 : Int) ∧ ∃ Dx D7 s8c x8d,As σ b7 o7 [.int .i64 Dx,.int .i64 D7,.string s8c,.int .i64 x8d] ∧ R (.returned (.agg #[.int .i64 Dx,.int .i64 D7,.string s8c,.int .i64 x8d])) σ) : Spec prog 66 #[.pointer q0] σ R := M.start h ok
end H3
namespace Q9
def M : Fw := ⟨prog,70,f70,[],[],false,[],[],[]⟩
theorem ok : M.Ok := ⟨AG.nil,mixed,func70,by kernel_rfl⟩
theorem start (h : Al σ fun b1 => R (.returned (.slice (aD b1 0) 8 8)) (Hp.set σ b1 (.cells #[.nilFunc,(.func (.func 100) #[] #[]),(.func (.func 101) #[] #[]),(.func (.func 102) #[] #[]),(.func (.func 103) #[] #[]),(.func (.func 104) #[] #[]),(.func (.func 105) #[] #[]),(.func (.func 106) #[] #[])] 137 (0,0)))) : Spec prog 70 #[] σ R := M.start h ok
end Q9
namespace RA
variable {Er EM Ph M7 Hj JB : Int} {Pj : ByteArray} {UE RB : Option Addr} {TT UF QI RC : Nat} {MU : Bool}
def M : Fw := ⟨prog,79,f79,[94,120,121,122,123,124],[1],false,[],[],[]⟩
theorem ok : M.Ok := ⟨.cons call94 (.cons call120 (.cons call121 (.cons call122 (.cons call123 (.cons call124 (AG.nil)))))),mixed,func79,by kernel_rfl⟩
theorem start (h : ∀ b1 : Nat,Spec prog 121 #[.agg #[.int .i64 Er,.int .i64 EM,.string Pj,.slice UE TT UF,.int .i64 Ph,.int .i64 M7,.int .i64 Hj,.slice RB QI RC,.bool MU,.int .i64 JB]] σ (AA R (fun z y => ∃ Ia G8 Ib Ic Ie Ig Ih Ii Ij Ik Il Im Jj Io,z = (.agg #[.int .i64 Ia,.int .i64 G8,.string Ib,.slice Ic Ie Ig,.int .i64 Ih,.int .i64 Ii,.int .i64 Ij,.slice Ik Il Im,.bool Jj,.int .i64 Io]) ∧ Spec prog 120 #[.agg #[.int .i64 Er,.int .i64 EM,.string Pj,.slice UE TT UF,.int .i64 Ph,.int .i64 M7,.int .i64 Hj,.slice RB QI RC,.bool MU,.int .i64 JB],.agg #[.int .i64 Ia,.int .i64 G8,.string Ib,.slice Ic Ie Ig,.int .i64 Ih,.int .i64 Ii,.int .i64 Ij,.slice Ik Il Im,.bool Jj,.int .i64 Io]] y (AA R (CB fun t6 AF => Bn t6 (R (.returned (.bool false)) AF) (Spec prog 122 #[.agg #[.int .i64 Er,.int .i64 EM,.string Pj,.slice UE TT UF,.int .i64 Ph,.int .i64 M7,.int .i64 Hj,.slice RB QI RC,.bool MU,.int .i64 JB]] AF (AA R (CB fun t10 AH => Bn t10 (R (.returned (.bool false)) AH) (Br (0 < (TT : Int)) (Br (Er ≠ 2) (Br (Er ≠ 3) (R (.returned (.bool false)) AH) (Br (Er = 1) (Spec prog 94 #[.string Pj] AH (AA R (CB fun t35 AZ => R (.returned (.bool t35)) AZ))) (Br (Er = 2) (Spec prog 123 #[.int .i64 M7,.int .i64 0] AH (AA R (CB fun t40 AZ => R (.returned (.bool t40)) AZ))) (Br (Er = 3) (Spec prog 123 #[.int .i64 Ph,.int .i64 1] AH (AA R (CB fun t45 AZ => Bo t45 (Spec prog 123 #[.int .i64 M7,.int .i64 0] AZ (AA R (CB fun t49 CE => R (.returned (.bool t49)) CE))) (R (.returned (.bool false)) AZ)))) (Br (Er = 4) (Br (JB = 1) (Br (1 ≤ EM) (R (.returned (.bool (decide (EM ≤ 12)))) AH) (R (.returned (.bool false)) AH)) (R (.returned (.bool false)) AH)) (Br (Er = 5) (Br (JB = 1) (Br (1 ≤ EM) (Br (EM ≤ 5) (Br (Hj = 0) (R (.returned (.bool true)) AH) (Br (Hj = 1) (R (.returned (.bool true)) AH) (R (.returned (.bool (decide (Hj = 2)))) AH))) (R (.returned (.bool false)) AH)) (R (.returned (.bool false)) AH)) (R (.returned (.bool false)) AH)) (Br (Er = 6) (Br (JB = 2) (Br (1 ≤ EM) (Br (EM ≤ 13) (Br (Hj = 0) (Bn MU (R (.returned (.bool true)) AH) (Spec prog 124 #[.int .i64 EM] AH (AA R (CB fun t133 AZ => R (.returned (.bool t133)) AZ)))) (Br (Hj = 3) (Bn MU (R (.returned (.bool true)) AH) (Spec prog 124 #[.int .i64 EM] AH (AA R (CB fun t133 AZ => R (.returned (.bool t133)) AZ)))) (Br (Hj = 4) (Bn MU (R (.returned (.bool true)) AH) (Spec prog 124 #[.int .i64 EM] AH (AA R (CB fun t133 AZ => R (.returned (.bool t133)) AZ)))) (R (.returned (.bool false)) AH)))) (R (.returned (.bool false)) AH)) (R (.returned (.bool false)) AH)) (R (.returned (.bool false)) AH)) (Br (Er = 7) (R (.returned (.bool (decide (JB = 1)))) AH) (R (.returned (.bool false)) AH))))))))) (Br (Er = 1) (Spec prog 94 #[.string Pj] AH (AA R (CB fun t35 AZ => R (.returned (.bool t35)) AZ))) (Br (Er = 2) (Spec prog 123 #[.int .i64 M7,.int .i64 0] AH (AA R (CB fun t40 AZ => R (.returned (.bool t40)) AZ))) (Br (Er = 3) (Spec prog 123 #[.int .i64 Ph,.int .i64 1] AH (AA R (CB fun t45 AZ => Bo t45 (Spec prog 123 #[.int .i64 M7,.int .i64 0] AZ (AA R (CB fun t49 CE => R (.returned (.bool t49)) CE))) (R (.returned (.bool false)) AZ)))) (Br (Er = 4) (Br (JB = 1) (Br (1 ≤ EM) (R (.returned (.bool (decide (EM ≤ 12)))) AH) (R (.returned (.bool false)) AH)) (R (.returned (.bool false)) AH)) (Br (Er = 5) (Br (JB = 1) (Br (1 ≤ EM) (Br (EM ≤ 5) (Br (Hj = 0) (R (.returned (.bool true)) AH) (Br (Hj = 1) (R (.returned (.bool true)) AH) (R (.returned (.bool (decide (Hj = 2)))) AH))) (R (.returned (.bool false)) AH)) (R (.returned (.bool false)) AH)) (R (.returned (.bool false)) AH)) (Br (Er = 6) (Br (JB = 2) (Br (1 ≤ EM) (Br (EM ≤ 13) (Br (Hj = 0) (Bn MU (R (.returned (.bool true)) AH) (Spec prog 124 #[.int .i64 EM] AH (AA R (CB fun t133 AZ => R (.returned (.bool t133)) AZ)))) (Br (Hj = 3) (Bn MU (R (.returned (.bool true)) AH) (Spec prog 124 #[.int .i64 EM] AH (AA R (CB fun t133 AZ => R (.returned (.bool t133)) AZ)))) (Br (Hj = 4) (Bn MU (R (.returned (.bool true)) AH) (Spec prog 124 #[.int .i64 EM] AH (AA R (CB fun t133 AZ => R (.returned (.bool t133)) AZ)))) (R (.returned (.bool false)) AH)))) (R (.returned (.bool false)) AH)) (R (.returned (.bool false)) AH)) (R (.returned (.bool false)) AH)) (Br (Er = 7) (R (.returned (.bool (decide (JB = 1)))) AH) (R (.returned (.bool false)) AH))))))))) (Br (Er = 1) (Spec prog 94 #[.string Pj] AH (AA R (CB fun t35 AZ => R (.returned (.bool t35)) AZ))) (Br (Er = 2) (Spec prog 123 #[.int .i64 M7,.int .i64 0] AH (AA R (CB fun t40 AZ => R (.returned (.bool t40)) AZ))) (Br (Er = 3) (Spec prog 123 #[.int .i64 Ph,.int .i64 1] AH (AA R (CB fun t45 AZ => Bo t45 (Spec prog 123 #[.int .i64 M7,.int .i64 0] AZ (AA R (CB fun t49 CE => R (.returned (.bool t49)) CE))) (R (.returned (.bool false)) AZ)))) (Br (Er = 4) (Br (JB = 1) (Br (1 ≤ EM) (R (.returned (.bool (decide (EM ≤ 12)))) AH) (R (.returned (.bool false)) AH)) (R (.returned (.bool false)) AH)) (Br (Er = 5) (Br (JB = 1) (Br (1 ≤ EM) (Br (EM ≤ 5) (Br (Hj = 0) (R (.returned (.bool true)) AH) (Br (Hj = 1) (R (.returned (.bool true)) AH) (R (.returned (.bool (decide (Hj = 2)))) AH))) (R (.returned (.bool false)) AH)) (R (.returned (.bool false)) AH)) (R (.returned (.bool false)) AH)) (Br (Er = 6) (Br (JB = 2) (Br (1 ≤ EM) (Br (EM ≤ 13) (Br (Hj = 0) (Bn MU (R (.returned (.bool true)) AH) (Spec prog 124 #[.int .i64 EM] AH (AA R (CB fun t133 AZ => R (.returned (.bool t133)) AZ)))) (Br (Hj = 3) (Bn MU (R (.returned (.bool true)) AH) (Spec prog 124 #[.int .i64 EM] AH (AA R (CB fun t133 AZ => R (.returned (.bool t133)) AZ)))) (Br (Hj = 4) (Bn MU (R (.returned (.bool true)) AH) (Spec prog 124 #[.int .i64 EM] AH (AA R (CB fun t133 AZ => R (.returned (.bool t133)) AZ)))) (R (.returned (.bool false)) AH)))) (R (.returned (.bool false)) AH)) (R (.returned (.bool false)) AH)) (R (.returned (.bool false)) AH)) (Br (Er = 7) (R (.returned (.bool (decide (JB = 1)))) AH) (R (.returned (.bool false)) AH))))))))))))))))) : Spec prog 79 #[.agg #[.int .i64 Er,.int .i64 EM,.string Pj,.slice UE TT UF,.int .i64 Ph,.int .i64 M7,.int .i64 Hj,.slice RB QI RC,.bool MU,.int .i64 JB]] σ R := M.start h ok
end RA
namespace EO
variable {q0 DV Dd p2 : Option Addr} {DR CL DS DW Cv CO : Int} {DT : ByteArray} {DX DY DZ De n2 c2 : Nat} {Cw : Bool}
def M : Fw := ⟨prog,83,f83,[],[4],false,[],[],[]⟩
theorem ok : M.Ok := ⟨AG.nil,mixed,func83,by kernel_rfl⟩
theorem start (h : ∀ b4 : Nat,Pq p2 fun b9 o9 => In 0 (n2 : Int) ∧ LI .i64 σ b9 o9 fun x11 => Br (x11 ≠ 2) (R (.returned (.tuple #[.int .i64 0,.int .i64 191])) σ) (R (.returned (.tuple #[.int .i64 2,.int .i64 0])) σ)) : Spec prog 83 #[.pointer q0,.agg #[.int .i64 DR,.int .i64 CL,.string DT,.slice DV DX DY,.int .i64 DS,.int .i64 DW,.int .i64 Cv,.slice Dd DZ De,.bool Cw,.int .i64 CO],.slice p2 n2 c2] σ R := M.start h ok
end EO
namespace Lr
variable {p0 : Option Addr} {n0 c0 : Nat} {s1 : ByteArray}
def M : Fw := ⟨prog,108,f108,[107],[],false,[],[],[]⟩
theorem ok : M.Ok := ⟨.cons call107 (AG.nil),mixed,func108,by kernel_rfl⟩
theorem start (h : Df (IntKind.u64.wrap ((ByteArray.size s1 : Nat) : Int)) fun x8 => Spec prog 107 #[.slice p0 n0 c0,.int .u64 x8] σ (AA R (CS fun p9 n9 c9 y => AJ prog (Builtin.append_ #[90,9] 90 #[.slice p9 n9 c9,.string s1]) y (CS fun LH n11 LJ AF => R (.returned (.slice LH n11 LJ)) AF)))) : Spec prog 108 #[.slice p0 n0 c0,.string s1] σ R := M.start h ok
end Lr
namespace Bu
variable {s0 s1 : ByteArray}
def M : Fw := ⟨prog,119,f119,[],[],false,[],[],[]⟩
theorem ok : M.Ok := ⟨AG.nil,mixed,func119,by kernel_rfl⟩
theorem start (h : EN prog 168 #[.string s0,.string s1] σ (CI .i64 fun x7 y => R (.returned (.int .i64 x7)) y)) : Spec prog 119 #[.string s0,.string s1] σ R := M.start h ok
end Bu
namespace O7
variable {Er EM Ph M7 Hj JB DR CL DS DW Cv CO : Int} {Pj DT : ByteArray} {UE RB DV Dd : Option Addr} {TT UF QI RC DX DY DZ De : Nat} {MU Cw : Bool}
def M : Fw := ⟨prog,120,f120,[],[2,3],false,[],[],[]⟩
theorem ok : M.Ok := ⟨AG.nil,mixed,func120,by kernel_rfl⟩
theorem start (h : ∀ b2 : Nat,∀ b3 : Nat,Br (Er = DR) (Br (EM = CL) (Bo (ByteArray.toList Pj == ByteArray.toList DT) (Br (Ph = DS) (Br (M7 = DW) (Br (Hj = Cv) (Bo MU (Bo Cw (R (.returned (.bool (decide (JB = CO)))) σ) (R (.returned (.bool false)) σ)) (Bo Cw (R (.returned (.bool false)) σ) (R (.returned (.bool (decide (JB = CO)))) σ))) (R (.returned (.bool false)) σ)) (R (.returned (.bool false)) σ)) (R (.returned (.bool false)) σ)) (R (.returned (.bool false)) σ)) (R (.returned (.bool false)) σ)) (R (.returned (.bool false)) σ)) : Spec prog 120 #[.agg #[.int .i64 Er,.int .i64 EM,.string Pj,.slice UE TT UF,.int .i64 Ph,.int .i64 M7,.int .i64 Hj,.slice RB QI RC,.bool MU,.int .i64 JB],.agg #[.int .i64 DR,.int .i64 CL,.string DT,.slice DV DX DY,.int .i64 DS,.int .i64 DW,.int .i64 Cv,.slice Dd DZ De,.bool Cw,.int .i64 CO]] σ R := M.start h ok
end O7
namespace RD
variable {x0 : Int}
def M : Fw := ⟨prog,125,f125,[],[],false,[],[],[]⟩
theorem ok : M.Ok := ⟨AG.nil,mixed,func125,by kernel_rfl⟩
theorem start (h : Br (1 ≤ x0) (R (.returned (.bool (decide (x0 ≤ 4)))) σ) (R (.returned (.bool false)) σ)) : Spec prog 125 #[.int .i64 x0] σ R := M.start h ok
end RD
namespace UG
def M : Fw := ⟨prog,134,f134,[],[],false,[],[],[]⟩
theorem ok : M.Ok := ⟨AG.nil,mixed,func134,by kernel_rfl⟩
theorem start (h : Al σ fun b1 => R (.returned (.slice (aD b1 0) 14 14)) (Hp.set σ b1 (.cells #[(.string (ByteArray.mk #[])),(.string (ByteArray.mk #[43])),(.string (ByteArray.mk #[45])),(.string (ByteArray.mk #[42])),(.string (ByteArray.mk #[47])),(.string (ByteArray.mk #[61,61])),(.string (ByteArray.mk #[33,61])),(.string (ByteArray.mk #[60])),(.string (ByteArray.mk #[60,61])),(.string (ByteArray.mk #[62])),(.string (ByteArray.mk #[62,61])),(.string (ByteArray.mk #[97,110,100])),(.string (ByteArray.mk #[111,114])),(.string (ByteArray.mk #[117,110,108,101,115,115]))] 9 (0,0)))) : Spec prog 134 #[] σ R := M.start h ok
end UG
namespace Ag
variable {q0 q1 : Option Addr} {s2a s2b yE yF : ByteArray} {x3a x3b x11 : Int} {b7 : Nat}
def M : Fw := ⟨prog,137,f137,[135,136,170],[6],false,[(6,12,false)],[],[(56,[(0,wQ),(1,wQ),(7,wA),(10,.G [.T,.T]),(11,wI)])]⟩
theorem ok : M.Ok := ⟨.cons call135 (.cons call136 (.cons call170 (AG.nil))),mixed,func137,by kernel_rfl⟩
def pj := M.pt 0
theorem start (h : ∀ b6 : Nat,Al σ fun b7 => pj R q0 q1 b7 s2a s2b 0 (Hp.set σ b7 (.cells #[.int .i64 x3a,.int .i64 x3b] 182 (0,0)))) : Spec prog 137 #[.pointer q0,.pointer q1,.agg #[.string s2a,.string s2b],.agg #[.int .i64 x3a,.int .i64 x3b]] σ R := M.start h ok
theorem RE (h : Br (x11 < 2) (In x11 2 ∧ ∃ s14 : ByteArray,[yE,yF][Int.toNat x11]? = some s14 ∧ Spec prog 136 #[.pointer q0,.int .i64 3,.string s14] σ (AA R (CB fun t17 y => Bo t17 (Spec prog 135 #[.pointer q0] y (AA R (fun z AF => ∃ Jk OO VK yG,z = (.agg #[.int .i64 Jk,.int .i64 OO,.string VK,.int .i64 yG]) ∧ In x11 2 ∧ LI .i64 AF b7 (0 + Int.toNat x11 * 1) fun I8 => Spec prog 170 #[.pointer q0] AF (AA R (CS fun p26 n26 c26 AH => Kp [b7] AF AH ∧ Pq q1 fun XH rD => AJ prog (Instr.storeAt 3 (.pointer (aD XH (rD + 6))) (.int .i64 I8)) AH (fun _ AZ => AJ prog (Instr.storeAt 34 (.pointer (aD XH (rD + 7))) (.slice p26 n26 c26)) AZ (fun _ CE => R (.returned (.tuple #[])) CE))))))) (AM (x11 + 1) ∧ pj R q0 q1 b7 yE yF (x11 + 1) y)))) (R (.returned (.tuple #[])) σ)) : pj R q0 q1 b7 yE yF x11 σ := M.of h ok rfl
end Ag
namespace Gm
variable {p0 : Option Addr} {n0 c0 : Nat}
def M : Fw := ⟨prog,155,f155,[143],[],false,[],[],[]⟩
theorem ok : M.Ok := ⟨.cons call143 (AG.nil),mixed,func155,by kernel_rfl⟩
theorem start (h : Spec prog 143 #[(.int .i64 (n0 : Int))] σ (AA R (CI .u64 fun x5 y => R (.returned (.int .u64 x5)) y))) : Spec prog 155 #[.slice p0 n0 c0] σ R := M.start h ok
end Gm
namespace An
variable {q0 DV Dd p2 p3 Ic Ik Em Es JC uY : Option Addr} {DR CL DS DW Cv CO Ia G8 Ih Ii Ij Io Dx D7 XL dP : Int} {DT Ib : ByteArray} {DX DY DZ De n2 c2 n3 c3 Ie Ig Il Im En Eo Eu Ev n14 HL n41 jA : Nat} {Cw Jj : Bool} {m12 : Option Nat}
def M : Fw := ⟨prog,161,f161,[49,124,148,156,206,207],[5,8,16,18],false,[],[],[(2024,[(5,.X 36 [.I .i64,.I .i64,.T,.L,.I .i64,.I .i64,.I .i64,.L,.B,.I .i64]),(8,.X 93 [.I .i64,.I .u64,.L,.L]),(12,wM),(14,wL),(41,wL),(42,wI),(43,wI)]),(8103,[(5,.X 36 [.I .i64,.I .i64,.T,.L,.I .i64,.I .i64,.I .i64,.L,.B,.I .i64]),(8,.X 93 [.I .i64,.I .u64,.L,.L]),(12,wM),(14,wL),(41,wL),(42,wI),(43,wI)])]⟩
theorem ok : M.Ok := ⟨.cons call49 (.cons call124 (.cons call148 (.cons call156 (.cons call206 (.cons call207 (AG.nil)))))),mixed,func161,by kernel_rfl⟩
def VL := M.pt 0
def M8 := M.pt 1
theorem start (h : ∀ b5 : Nat,∀ b8 : Nat,Spec prog 206 #[.agg #[.int .i64 DR,.int .i64 CL,.string DT,.slice DV DX DY,.int .i64 DS,.int .i64 DW,.int .i64 Cv,.slice Dd DZ De,.bool Cw,.int .i64 CO],.slice p2 n2 c2] σ (AA R (fun z y => ∃ AKA kN,z = (.tuple #[.map AKA,.bool kN]) ∧ Spec prog 206 #[.agg #[.int .i64 DR,.int .i64 CL,.string DT,.slice DV DX DY,.int .i64 DS,.int .i64 DW,.int .i64 Cv,.slice Dd DZ De,.bool Cw,.int .i64 CO],.slice p3 n3 c3] y (AA R (fun z AF => ∃ ADB ADC,z = (.tuple #[.map ADB,.bool ADC]) ∧ Bn kN (R (.returned (.tuple #[.agg #[.int .i64 0,.int .u64 0,.slice none 0 0,.slice none 0 0],.int .i64 223])) AF) (Bn ADC (R (.returned (.tuple #[.agg #[.int .i64 0,.int .u64 0,.slice none 0 0,.slice none 0 0],.int .i64 223])) AF) (VL R DR CL DT DV DX DY DS DW Cv Dd DZ De Cw CO 0 0 none 0 0 none 0 0 ADB none 0 0 p2 n2 c2 (n2 : Int) 0 AF))))))) : Spec prog 161 #[.pointer q0,.agg #[.int .i64 DR,.int .i64 CL,.string DT,.slice DV DX DY,.int .i64 DS,.int .i64 DW,.int .i64 Cv,.slice Dd DZ De,.bool Cw,.int .i64 CO],.slice p2 n2 c2,.slice p3 n3 c3] σ R := M.start h ok
theorem QJ (h : Br (dP < XL) (Pq uY fun iy iz => In dP (n41 : Int) ∧ ∃ yH yI yJ yK,As σ iy (iz + Int.toNat dP * 2) [.slice yH yI yJ,.int .u64 yK] ∧ ∀ I9 : Nat,Spec prog 207 #[.agg #[.int .i64 Ia,.int .i64 G8,.string Ib,.slice Ic Ie Ig,.int .i64 Ih,.int .i64 Ii,.int .i64 Ij,.slice Ik Il Im,.bool Jj,.int .i64 Io],.slice yH yI yJ] σ (AA R (CS fun aW n50 aX y => Spec prog 49 #[.slice aW n50 aX] y (AA R (CT fun s54 AF => AJ prog (Instr.lookup 243 (.map m12) (.string s54) true) AF (fun z AH => ∃ ADD ADE ADF uZ ADG,z = (.tuple #[.agg #[.slice ADD ADE ADF,.int .u64 uZ],.bool ADG]) ∧ ∀ UH : Nat,Bn ADG (M8 R Ia G8 Ib Ic Ie Ig Ih Ii Ij Ik Il Im Jj Io Dx D7 Em En Eo Es Eu Ev m12 JC n14 HL (aD iy iz) n41 jA XL dP AH) (Spec prog 156 #[.agg #[.int .i64 Ia,.int .i64 G8,.string Ib,.slice Ic Ie Ig,.int .i64 Ih,.int .i64 Ii,.int .i64 Ij,.slice Ik Il Im,.bool Jj,.int .i64 Io],.int .u64 yK,.int .u64 uZ] AH (AA R (fun z AZ => ∃ yL ADH,z = (.tuple #[.int .u64 yL,.bool ADH]) ∧ Spec prog 124 #[.int .i64 G8] AZ (AA R (CB fun t72 CE => Bn t72 (Al CE fun ua => AJ prog (Builtin.append_ #[67,67] 67 #[.slice JC n14 HL,(.slice (aD ua 0) 1 1)]) (Hp.set CE ua (.cells #[.slice aW n50 aX,.int .u64 yL] 71 (0,0))) (CS fun qp XF qq Fv => M8 R Ia G8 Ib Ic Ie Ig Ih Ii Ij Ik Il Im Jj Io Dx D7 Em En Eo Es Eu Ev m12 qp XF qq (aD iy iz) n41 jA XL dP Fv)) (Bo Jj (Al CE fun ua => AJ prog (Builtin.append_ #[67,67] 67 #[.slice JC n14 HL,(.slice (aD ua 0) 1 1)]) (Hp.set CE ua (.cells #[.slice aW n50 aX,.int .u64 yL] 71 (0,0))) (CS fun qp XF qq Fv => M8 R Ia G8 Ib Ic Ie Ig Ih Ii Ij Ik Il Im true Io Dx D7 Em En Eo Es Eu Ev m12 qp XF qq (aD iy iz) n41 jA XL dP Fv)) (Bo ADH (Al CE fun b88 => AJ prog (Builtin.append_ #[67,67] 67 #[.slice JC n14 HL,(.slice (aD b88 0) 1 1)]) (Hp.set CE b88 (.cells #[.slice yH yI yJ,.int .u64 yK] 71 (0,0))) (CS fun aY aZ ad Fv => M8 R Ia G8 Ib Ic Ie Ig Ih Ii Ij Ik Il Im false Io Dx D7 Em En Eo Es Eu Ev m12 aY aZ ad (aD iy iz) n41 jA XL dP Fv)) (M8 R Ia G8 Ib Ic Ie Ig Ih Ii Ij Ik Il Im false Io Dx D7 Em En Eo Es Eu Ev m12 JC n14 HL (aD iy iz) n41 jA XL dP CE)))))))))))))) (Spec prog 148 #[.slice JC n14 HL] σ (AA R (fun z y => ∃ ub uc ud ue uf ug uh ui ADI,z = (.tuple #[.agg #[.int .i64 ub,.int .u64 uc,.slice ud ue uf,.slice ug uh ui],.int .i64 ADI]) ∧ R (.returned (.tuple #[.agg #[.int .i64 ub,.int .u64 uc,.slice ud ue uf,.slice ug uh ui],.int .i64 ADI])) y)))) : VL R Ia G8 Ib Ic Ie Ig Ih Ii Ij Ik Il Im Jj Io Dx D7 Em En Eo Es Eu Ev m12 JC n14 HL uY n41 jA XL dP σ := M.fP h ok rfl fun _ _ => by kernel_rfl
theorem VM (h : AM (dP + 1) ∧ VL R Ia G8 Ib Ic Ie Ig Ih Ii Ij Ik Il Im Jj Io Dx D7 Em En Eo Es Eu Ev m12 JC n14 HL uY n41 jA XL (dP + 1) σ) : M8 R Ia G8 Ib Ic Ie Ig Ih Ii Ij Ik Il Im Jj Io Dx D7 Em En Eo Es Eu Ev m12 JC n14 HL uY n41 jA XL dP σ := M.fP h ok rfl fun _ _ => by kernel_rfl
end An
namespace XM
variable {v0 : Value}
def M : Fw := ⟨prog,181,f181,[],[],false,[],[],[]⟩
theorem ok : M.Ok := ⟨AG.nil,mixed,func181,by kernel_rfl⟩
theorem start (h : EN prog 45 #[v0] σ (CI .u64 fun x4 y => Df (Go.bits .andNot .u64 x4 9223372036854775808) fun x5 => EN prog 22 #[.int .u64 x5] y (fun z AF => ∃ x6,(Value.float .f64 x6) = z ∧ R (.returned (Value.float .f64 x6)) AF))) : Spec prog 181 #[v0] σ R := M.Du h ok [(0,.o (.V v0))] rfl rfl (by kernel_rfl)
end XM
namespace CF
variable {f0 : Fn} {a0 c0 : Array Value}
def M : Fw := ⟨prog,184,f184,[],[],false,[],[],[]⟩
theorem ok : M.Ok := ⟨AG.nil,mixed,func184,by kernel_rfl⟩
theorem start (h : Al σ fun b1 => R (.returned (.func (.func 224) #[] #[(.pointer (aD b1 0))])) (Hp.set σ b1 (.cells #[(Value.func f0 a0 c0)] 201 (0,0)))) : Spec prog 184 #[(Value.func f0 a0 c0)] σ R := M.Du h ok [(0,.o (.V (Value.func f0 a0 c0)))] rfl rfl (by kernel_rfl)
end CF
namespace BJ
variable {p0 : Option Addr} {n0 c0 : Nat} {x3 : Int}
def M : Fw := ⟨prog,187,f187,[225],[],false,[],[],[(224,[(0,wL),(3,wI)])]⟩
theorem ok : M.Ok := ⟨.cons call225 (AG.nil),mixed,func187,by kernel_rfl⟩
def JD := M.pt 0
theorem start (h : JD R p0 n0 c0 8 σ) : Spec prog 187 #[.slice p0 n0 c0] σ R := M.start h ok
theorem BR (h : Br ((n0 : Int) < x3) (2 ≠ (0 : Int) ∧ Df (IntKind.i64.wrap (Int.tdiv x3 2)) fun x11 => JD R p0 n0 c0 x11 σ) (AM ((n0 : Int) - x3) ∧ ((0 : Int) ≤ ((n0 : Int) - x3) ∧ ((n0 : Int) - x3) ≤ (n0 : Int)) ∧ Spec prog 225 #[(.slice (IL p0 (Int.toNat ((n0 : Int) - x3)) c0 1) (n0 - Int.toNat ((n0 : Int) - x3)) (c0 - Int.toNat ((n0 : Int) - x3)))] σ (AA R (fun z y => ∃ Jk OO,z = (.tuple #[.int .u64 Jk,.int .i64 OO]) ∧ R (.returned (.int .u64 Jk)) y)))) : JD R p0 n0 c0 x3 σ := M.of h ok rfl
end BJ
namespace RF
variable {v0 : Value}
def M : Fw := ⟨prog,216,f216,[],[],false,[],[],[]⟩
theorem ok : M.Ok := ⟨AG.nil,mixed,func216,by kernel_rfl⟩
theorem start (h : ∃ t5,YF prog ((do eqGuard .neq 51 (.tmp 3) (.tmp 4) v0 v0; binOp .neq 51 v0 v0)) σ (.bool t5) ∧ R (.returned (.bool t5)) σ) : Spec prog 216 #[v0] σ R := M.Du h ok [(0,.o (.V v0))] rfl rfl (by kernel_rfl)
end RF
namespace Ip
variable {p0 DV Dd p2 : Option Addr} {n0 c0 DX DY DZ De n2 c2 b3 : Nat} {DR CL DS DW Cv CO : Int} {DT : ByteArray} {Cw : Bool}
def M : Fw := ⟨prog,226,f226,[],[5],false,[],[],[]⟩
theorem ok : M.Ok := ⟨AG.nil,mixed,func226,by kernel_rfl⟩
theorem start (h : ∀ b5 : Nat,Br ((n0 : Int) < 2) (R (.returned (.tuple #[.int .u64 0,.bool false])) σ) (∃ v12,Hp.ld σ ⟨b3,0,none⟩ = some v12 ∧ ∃ (f15 : Nat) (uj uo : Array Value),v12 = .func (.func f15) uj uo ∧ Enters prog f15 ∧ Spec prog f15 (uj ++ #[.slice p0 n0 c0,.slice p2 n2 c2] ++ uo) σ (AA R (CI .u64 fun x15 y => R (.returned (.tuple #[.int .u64 x15,.bool true])) y)))) : Spec prog 226 #[.slice p0 n0 c0,.agg #[.int .i64 DR,.int .i64 CL,.string DT,.slice DV DX DY,.int .i64 DS,.int .i64 DW,.int .i64 Cv,.slice Dd DZ De,.bool Cw,.int .i64 CO],.slice p2 n2 c2,(.pointer (aD b3 0))] σ R := M.start h ok
end Ip
namespace Cy
variable {TU fc : Option Addr} {Ls RG XN fe : Nat} {s1 : ByteArray} {x65 uq : Int}
def M : Fw := ⟨prog,257,f257,[260,285,286],[2],false,[(1,14,true)],[],[(2024,[(1,wT),(64,wL),(65,wI),(66,wI)])]⟩
theorem ok : M.Ok := ⟨.cons call260 (.cons call285 (.cons call286 (AG.nil))),mixed,func257,by kernel_rfl⟩
def Ld := M.pt 0
theorem start (h : ∀ b2 : Nat,Pq TU fun O6 Pg => In 0 (Ls : Int) ∧ LT σ O6 Pg fun yM => AM ((Ls : Int) - 1) ∧ In (((Ls : Int) - 1)) (Ls : Int) ∧ LT σ O6 (Pg + Int.toNat ((Ls : Int) - 1) * 1) fun yN => Br ((Ls : Int) = 1) (R (.returned (.bool (ByteArray.toList s1 == ByteArray.toList yM))) σ) (AM (((ByteArray.size yM : Nat) : Int) + ((ByteArray.size yN : Nat) : Int)) ∧ Br ((((ByteArray.size s1 : Nat) : Int) : Int) < (((ByteArray.size yM : Nat) : Int) + ((ByteArray.size yN : Nat) : Int))) (R (.returned (.bool false)) σ) (Spec prog 285 #[.string s1,.string yM] σ (AA R (CB fun t40 y => Bn t40 (R (.returned (.bool false)) y) (Spec prog 286 #[.string s1,.string yN] y (AA R (CB fun t46 AF => Bn t46 (R (.returned (.bool false)) AF) (AM (((ByteArray.size s1 : Nat) : Int) - ((ByteArray.size yN : Nat) : Int)) ∧ ∃ s57,YF prog (Instr.sliceAt 9 (.string s1) (some (.int .i64 ((ByteArray.size yM : Nat) : Int))) (some (.int .i64 (((ByteArray.size s1 : Nat) : Int) - ((ByteArray.size yN : Nat) : Int)))) none) AF (.string s57) ∧ AM ((Ls : Int) - 1) ∧ ((0 : Int) ≤ 1 ∧ 1 ≤ ((Ls : Int) - 1) ∧ ((Ls : Int) - 1) ≤ (RG : Int)) ∧ Ld R s57 ((IL (aD O6 Pg) (1) RG 1)) ((Int.toNat ((Ls : Int) - 1) - 1)) (RG - 1) ((((Int.toNat ((Ls : Int) - 1) - 1) : Nat) : Int)) 0 AF))))))))) : Spec prog 257 #[.agg #[.slice TU Ls RG],.string s1] σ R := M.start h ok
theorem Iq (h : Br (uq < x65) (Pq fc fun b68 o68 => In uq (XN : Int) ∧ LT σ b68 (o68 + Int.toNat uq * 1) fun s69 => Spec prog 260 #[.string s1,.string s69] σ (AA R (CI .i64 fun x72 y => Br (x72 < 0) (R (.returned (.bool false)) y) (AM (x72 + ((ByteArray.size s69 : Nat) : Int)) ∧ ∃ s80,YF prog (Instr.sliceAt 9 (.string s1) (some (.int .i64 (x72 + ((ByteArray.size s69 : Nat) : Int)))) none none) y (.string s80) ∧ AM (uq + 1) ∧ Ld R s80 (aD b68 o68) XN fe x65 (uq + 1) y)))) (R (.returned (.bool true)) σ)) : Ld R s1 fc XN fe x65 uq σ := M.of h ok rfl
end Cy
namespace EP
variable {q0 : Option Addr}
def M : Fw := ⟨prog,298,f298,[66,67,135],[],false,[],[],[(14,[(0,wQ)])]⟩
theorem ok : M.Ok := ⟨.cons call66 (.cons call67 (.cons call135 (AG.nil))),mixed,func298,by kernel_rfl⟩
def JD := M.pt 0
theorem start (h : Spec prog 66 #[.pointer q0] σ (AA R (fun z y => ∃ Fm FR HM x4d,z = (.agg #[.int .i64 Fm,.int .i64 FR,.string HM,.int .i64 x4d]) ∧ Br (Fm ≠ 2) (Spec prog 67 #[.pointer q0] y (AA R (fun z AF => z = (.tuple #[]) ∧ JD R q0 AF))) (JD R q0 y)))) : Spec prog 298 #[.pointer q0] σ R := M.start h ok
theorem BR (h : Spec prog 135 #[.pointer q0] σ (AA R (fun z y => ∃ IZ yO AKE ADK,z = (.agg #[.int .i64 IZ,.int .i64 yO,.string AKE,.int .i64 ADK]) ∧ R (.returned (.int .i64 ADK)) y))) : JD R q0 σ := M.of h ok rfl
end EP
end TwW
end
end
section
set_option maxRecDepth 100000
noncomputable section
namespace TwW
open Go Tw Go.Proofs.Tryz
variable [Ej] {R : Rr} {σ : Hp}

namespace FT
variable {p0 p1 Em Es : Option Addr} {n0 c0 n1 c1 En Eo Eu Ev : Nat} {x2 Dx D7 x9 : Int}
def M : Fw := ⟨prog,30,f30,[47],[8],false,[],[],[(30,[(8,.X 93 [.I .i64,.I .u64,.L,.L]),(9,wI)])]⟩
theorem ok : M.Ok := ⟨.cons call47 (AG.nil),mixed,func30,by kernel_rfl⟩
def BF := M.pt 0
theorem start (h : Al σ fun BC => Spec prog 47 #[(.pointer (aD BC 0)),.slice p0 n0 c0] (Hp.set σ BC (.cells #[.slice p1 n1 c1,.int .i64 x2] 97 (0,0))) (AA R (fun z y => ∃ dQ dR ur uu uw kO kP kQ yP,z = (.tuple #[.agg #[.int .i64 dQ,.int .u64 dR,.slice ur uu uw,.slice kO kP kQ],.int .i64 yP]) ∧ ∀ b8 : Nat,Br (dQ = 1) (Al y fun JV => BF R dQ dR (aD JV 0) 1 1 kO kP kQ yP (Hp.set y JV (.cells #[.slice none 0 0,.int .u64 dR] 71 (0,0)))) (BF R dQ dR ur uu uw kO kP kQ yP y)))) : Spec prog 30 #[.slice p0 n0 c0,.slice p1 n1 c1,.int .i64 x2] σ R := M.start h ok
theorem Ay (h : R (.returned (.tuple #[.slice Em En Eo,.int .i64 x9])) σ) : BF R Dx D7 Em En Eo Es Eu Ev x9 σ := M.iu h ok rfl fun _ => by kernel_rfl
end FT
namespace M9
variable {x0 x1 x2 : Int}
def M : Fw := ⟨prog,48,f48,[],[],false,[],[],[]⟩
theorem ok : M.Ok := ⟨AG.nil,mixed,func48,by kernel_rfl⟩
theorem start (h : Al σ fun b3 => Al (Hp.set σ b3 (.cells #[.int .i64 x0] 2 (0,0))) fun b4 => Al (Hp.set (Hp.set σ b3 (.cells #[.int .i64 x0] 2 (0,0))) b4 (.cells #[.int .i64 x1] 2 (0,0))) fun b5 => R (.returned (.func (.func 71) #[] #[(.pointer (aD b3 0)),(.pointer (aD b5 0)),(.pointer (aD b4 0))])) (Hp.set (Hp.set (Hp.set σ b3 (.cells #[.int .i64 x0] 2 (0,0))) b4 (.cells #[.int .i64 x1] 2 (0,0))) b5 (.cells #[.int .i64 x2] 2 (0,0)))) : Spec prog 48 #[.int .i64 x0,.int .i64 x1,.int .i64 x2] σ R := M.start h ok
end M9
namespace JE
variable {q0 DV Dd : Option Addr} {DR CL DS DW Cv CO : Int} {DT : ByteArray} {DX DY DZ De : Nat} {Cw : Bool}
def M : Fw := ⟨prog,53,f53,[79,80,81],[3],false,[(6,9,true)],[],[]⟩
theorem ok : M.Ok := ⟨.cons call79 (.cons call80 (.cons call81 (AG.nil))),mixed,func53,by kernel_rfl⟩
theorem start (h : ∀ b3 : Nat,Spec prog 79 #[.agg #[.int .i64 DR,.int .i64 CL,.string DT,.slice DV DX DY,.int .i64 DS,.int .i64 DW,.int .i64 Cv,.slice Dd DZ De,.bool Cw,.int .i64 CO]] σ (AA R (CB fun t10 y => Bn t10 (R (.returned (.int .i64 190)) y) (Pq q0 fun I9 VJ => LS y I9 VJ fun p18 n18 c18 => Br ((n18 : Int) < CO) (R (.returned (.int .i64 190)) y) (Spec prog 80 #[.slice DV DX DY] y (AA R (CI .i64 fun I8 AF => Br (I8 ≠ 0) (R (.returned (.int .i64 193)) AF) (AJ prog (Instr.makeMap 150 none) AF (fun z AH => ∃ rF,z = (.map (some rF)) ∧ Spec prog 81 #[.int .i64 1] AH (AA R (fun z AZ => ∃ f27 a27 c27,(Value.func f27 a27 c27) = z ∧ AJ prog (Instr.mapUpdate 150 (.map (some rF)) (.int .i64 1) (Value.func f27 a27 c27)) AZ (fun _ CE => Spec prog 81 #[.int .i64 2] CE (AA R (fun z Fv => ∃ f28 a28 c28,(Value.func f28 a28 c28) = z ∧ AJ prog (Instr.mapUpdate 150 (.map (some rF)) (.int .i64 2) (Value.func f28 a28 c28)) Fv (fun _ Gn => Spec prog 81 #[.int .i64 3] Gn (AA R (fun z Ms => ∃ f29 a29 c29,(Value.func f29 a29 c29) = z ∧ AJ prog (Instr.mapUpdate 150 (.map (some rF)) (.int .i64 3) (Value.func f29 a29 c29)) Ms (fun _ VN => AJ prog (Instr.mapUpdate 150 (.map (some rF)) (.int .i64 4) (.func (.func 82) #[(.pointer (aD I9 VJ))] #[])) VN (fun _ Lf => AJ prog (Instr.mapUpdate 150 (.map (some rF)) (.int .i64 5) (.func (.func 83) #[(.pointer (aD I9 VJ))] #[])) Lf (fun _ kR => AJ prog (Instr.mapUpdate 150 (.map (some rF)) (.int .i64 6) (.func (.func 84) #[(.pointer (aD I9 VJ))] #[])) kR (fun _ AKF => AJ prog (Instr.mapUpdate 150 (.map (some rF)) (.int .i64 7) (.func (.func 85) #[(.pointer (aD I9 VJ))] #[])) AKF (fun _ rG => LS rG I9 VJ fun p42 n42 c42 => AM ((n42 : Int) - CO) ∧ LS rG I9 VJ fun p56 n56 c56 => ((0 : Int) ≤ ((n42 : Int) - CO) ∧ ((n42 : Int) - CO) ≤ (n56 : Int)) ∧ AJ prog (Instr.lookup 150 (.map (some rF)) (.int .i64 DR) false) rG (fun z ADL => ∃ v51,v51 = z ∧ Kp [I9] rG ADL ∧ ∃ (f59 : Nat) (ux uy : Array Value),v51 = .func (.func f59) ux uy ∧ Enters prog f59 ∧ Spec prog f59 (ux ++ #[.agg #[.int .i64 DR,.int .i64 CL,.string DT,.slice DV DX DY,.int .i64 DS,.int .i64 DW,.int .i64 Cv,.slice Dd DZ De,.bool Cw,.int .i64 CO],(.slice (IL p56 (Int.toNat ((n42 : Int) - CO)) c56 1) (n56 - Int.toNat ((n42 : Int) - CO)) (c56 - Int.toNat ((n42 : Int) - CO)))] ++ uy) ADL (AA R (fun z ae => ∃ VO Hd,z = (.tuple #[.int .i64 VO,.int .i64 Hd]) ∧ LS ae I9 VJ fun pk kS dS => ((0 : Int) ≤ ((n42 : Int) - CO) ∧ ((n42 : Int) - CO) ≤ (dS : Int)) ∧ Al ae fun VH => AJ prog (Builtin.append_ #[108,108] 108 #[(.slice pk (Int.toNat ((n42 : Int) - CO)) dS),(.slice (aD VH 0) 1 1)]) (Hp.set ae VH (.cells #[.int .i64 VO] 113 (0,0))) (CS fun p72 n72 c72 yQ => AJ prog (Instr.storeAt 108 (.pointer (aD I9 VJ)) (.slice p72 n72 c72)) yQ (fun _ yR => R (.returned (.int .i64 Hd)) yR))))))))))))))))))))))))))) : Spec prog 53 #[.pointer q0,.agg #[.int .i64 DR,.int .i64 CL,.string DT,.slice DV DX DY,.int .i64 DS,.int .i64 DW,.int .i64 Cv,.slice Dd DZ De,.bool Cw,.int .i64 CO]] σ R := M.start h ok
end JE
namespace Dg
variable {p0 : Option Addr} {n0 c0 : Nat} {x3 : Int}
def M : Fw := ⟨prog,69,f69,[],[],false,[(4,12,true)],[],[(208,[(0,wL),(3,wI)])]⟩
theorem ok : M.Ok := ⟨AG.nil,mixed,func69,by kernel_rfl⟩
def JD := M.pt 0
theorem start (h : JD R p0 n0 c0 1 σ) : Spec prog 69 #[.slice p0 n0 c0] σ R := M.start h ok
theorem BR (h : Br (x3 < (n0 : Int)) (Pq p0 fun O6 Pg => In x3 (n0 : Int) ∧ LI .i64 σ O6 (Pg + Int.toNat x3 * 2) fun ZS => AM (x3 - 1) ∧ In (x3 - 1) (n0 : Int) ∧ LI .i64 σ O6 (Pg + Int.toNat (x3 - 1) * 2) fun Hc => Br (ZS ≤ Hc) (R (.returned (.bool false)) σ) (AM (x3 + 1) ∧ JD R (aD O6 Pg) n0 c0 (x3 + 1) σ)) (R (.returned (.bool (decide (0 < (n0 : Int))))) σ)) : JD R p0 n0 c0 x3 σ := M.of h ok rfl
end Dg
namespace HN
variable {s0 : ByteArray} {x1 : Int}
def M : Fw := ⟨prog,130,f130,[169],[],false,[],[],[]⟩
theorem ok : M.Ok := ⟨.cons call169 (AG.nil),mixed,func130,by kernel_rfl⟩
theorem start (h : Spec prog 169 #[.string s0,.int .u8 x1] σ (AA R (CI .i64 fun x7 y => R (.returned (.int .i64 x7)) y))) : Spec prog 130 #[.string s0,.int .u8 x1] σ R := M.start h ok
end HN
namespace NA
variable {s0 : ByteArray}
def M : Fw := ⟨prog,132,f132,[],[],false,[],[],[]⟩
theorem ok : M.Ok := ⟨AG.nil,mixed,func132,by kernel_rfl⟩
theorem start (h : Br ((1 : Int) < ((ByteArray.size s0 : Nat) : Int)) (∃ u8 : UInt8,(0 : Int) ≤ 0 ∧ (ByteArray.data s0)[Int.toNat 0]? = some u8 ∧ R (.returned (.bool (decide ((((UInt8.toNat u8 : Nat) : Int) : Int) = 48)))) σ) (R (.returned (.bool false)) σ)) : Spec prog 132 #[.string s0] σ R := M.start h ok
end NA
namespace O8
variable {p0 : Option Addr} {n0 c0 : Nat} {x1 x2 : Int}
def M : Fw := ⟨prog,141,f141,[175],[],false,[],[],[]⟩
theorem ok : M.Ok := ⟨.cons call175 (AG.nil),mixed,func141,by kernel_rfl⟩
theorem start (h : Spec prog 175 #[.slice p0 n0 c0,.int .i64 x1,(.func (.func 176) #[] #[])] σ (AA R (fun z y => ∃ GI AKJ,z = (.tuple #[.int .i64 GI,.bool AKJ]) ∧ Spec prog 175 #[.slice p0 n0 c0,.int .i64 x2,(.func (.func 177) #[] #[])] y (AA R (fun z AF => ∃ H4 AKK,z = (.tuple #[.int .i64 H4,.bool AKK]) ∧ ((0 : Int) ≤ (if H4 < GI then H4 else GI) ∧ (if H4 < GI then H4 else GI) ≤ H4 ∧ H4 ≤ (c0 : Int)) ∧ R (.returned (.slice (IL p0 (Int.toNat (if H4 < GI then H4 else GI)) c0 2) (Int.toNat H4 - Int.toNat (if H4 < GI then H4 else GI)) (c0 - Int.toNat (if H4 < GI then H4 else GI)))) AF))))) : Spec prog 141 #[.slice p0 n0 c0,.int .i64 x1,.int .i64 x2] σ R := M.start h ok
end O8
namespace Ir
variable {x0 : Int}
def M : Fw := ⟨prog,145,f145,[174,182,183],[],false,[],[],[]⟩
theorem ok : M.Ok := ⟨.cons call174 (.cons call182 (.cons call183 (AG.nil))),mixed,func145,by kernel_rfl⟩
theorem start (h : Spec prog 182 #[.int .u64 x0] σ (AA R (fun z y => ∃ x4,(Value.float .f64 x4) = z ∧ Spec prog 183 #[(Value.float .f64 x4)] y (AA R (fun z AF => ∃ x5,(Value.float .f64 x5) = z ∧ Spec prog 174 #[(Value.float .f64 x5)] AF (AA R (CI .u64 fun x6 AH => R (.returned (.int .u64 x6)) AH))))))) : Spec prog 145 #[.int .u64 x0] σ R := M.start h ok
end Ir
namespace Az
variable {q0 DV Dd p2 Ic Ik Em Es ZT dT : Option Addr} {DR CL DS DW Cv CO Ia G8 Ih Ii Ij Io Dx D7 x16 x17 : Int} {DT Ib : ByteArray} {DX DY DZ De n2 c2 Ie Ig Il Im En Eo Eu Ev n10 TV n15 XO : Nat} {Cw Jj : Bool} {v3 : Value}
def M : Fw := ⟨prog,157,f157,[124,146,148],[5,8,12],false,[],[],[(232,[(3,wV),(5,.X 36 [.I .i64,.I .i64,.T,.L,.I .i64,.I .i64,.I .i64,.L,.B,.I .i64]),(8,.X 93 [.I .i64,.I .u64,.L,.L]),(10,wL),(15,wL),(16,wI),(17,wI)]),(935,[(3,wV),(5,.X 36 [.I .i64,.I .i64,.T,.L,.I .i64,.I .i64,.I .i64,.L,.B,.I .i64]),(8,.X 93 [.I .i64,.I .u64,.L,.L]),(10,wL),(15,wL),(16,wI),(17,wI)])]⟩
theorem ok : M.Ok := ⟨.cons call124 (.cons call146 (.cons call148 (AG.nil))),mixed,func157,by kernel_rfl⟩
def A1 := M.pt 0
def G9 := M.pt 1
theorem start (h : ∀ b5 : Nat,∀ b8 : Nat,A1 R v3 DR CL DT DV DX DY DS DW Cv Dd DZ De Cw CO 0 0 none 0 0 none 0 0 none 0 0 p2 n2 c2 (n2 : Int) 0 σ) : Spec prog 157 #[.pointer q0,.agg #[.int .i64 DR,.int .i64 CL,.string DT,.slice DV DX DY,.int .i64 DS,.int .i64 DW,.int .i64 Cv,.slice Dd DZ De,.bool Cw,.int .i64 CO],.slice p2 n2 c2,v3] σ R := M.Du h ok [(0,.o (.Q q0)),(1,.G [.I .i64 DR,.I .i64 CL,.T DT,.L DV DX DY,.I .i64 DS,.I .i64 DW,.I .i64 Cv,.L Dd DZ De,.B Cw,.I .i64 CO]),(2,.o (.L p2 n2 c2)),(3,.o (.V v3))] rfl rfl (by kernel_rfl)
theorem Ab (h : Br (x17 < x16) (Pq dT fun C4 kT => In x17 (n15 : Int) ∧ ∃ rH rI rJ VP,As σ C4 (kT + Int.toNat x17 * 2) [.slice rH rI rJ,.int .u64 VP] ∧ ∀ O6 : Nat,∃ (f25 : Nat) (uz u4 : Array Value),v3 = .func (.func f25) uz u4 ∧ Enters prog f25 ∧ Spec prog f25 (uz ++ #[.int .u64 VP] ++ u4) σ (AA R (fun z y => ∃ yS kN,z = (.tuple #[.int .u64 yS,.bool kN]) ∧ Spec prog 124 #[.int .i64 G8] y (AA R (CB fun t31 AF => Bn t31 (Spec prog 146 #[.slice rH rI rJ] AF (AA R (CS fun yT n40 yU AH => Al AH fun dM => AJ prog (Builtin.append_ #[67,67] 67 #[.slice ZT n10 TV,(.slice (aD dM 0) 1 1)]) (Hp.set AH dM (.cells #[.slice yT n40 yU,.int .u64 yS] 71 (0,0))) (CS fun yV n44 yW AZ => G9 R v3 Ia G8 Ib Ic Ie Ig Ih Ii Ij Ik Il Im Jj Io Dx D7 Em En Eo Es Eu Ev yV n44 yW (aD C4 kT) n15 XO x16 x17 AZ)))) (Bo Jj (Spec prog 146 #[.slice rH rI rJ] AF (AA R (CS fun yT n40 yU AH => Al AH fun dM => AJ prog (Builtin.append_ #[67,67] 67 #[.slice ZT n10 TV,(.slice (aD dM 0) 1 1)]) (Hp.set AH dM (.cells #[.slice yT n40 yU,.int .u64 yS] 71 (0,0))) (CS fun yV n44 yW AZ => G9 R v3 Ia G8 Ib Ic Ie Ig Ih Ii Ij Ik Il Im true Io Dx D7 Em En Eo Es Eu Ev yV n44 yW (aD C4 kT) n15 XO x16 x17 AZ)))) (Bo kN (Al AF fun EE => AJ prog (Builtin.append_ #[67,67] 67 #[.slice ZT n10 TV,(.slice (aD EE 0) 1 1)]) (Hp.set AF EE (.cells #[.slice rH rI rJ,.int .u64 VP] 71 (0,0))) (CS fun aW n50 aX AH => G9 R v3 Ia G8 Ib Ic Ie Ig Ih Ii Ij Ik Il Im false Io Dx D7 Em En Eo Es Eu Ev aW n50 aX (aD C4 kT) n15 XO x16 x17 AH)) (G9 R v3 Ia G8 Ib Ic Ie Ig Ih Ii Ij Ik Il Im false Io Dx D7 Em En Eo Es Eu Ev ZT n10 TV (aD C4 kT) n15 XO x16 x17 AF)))))))) (Spec prog 148 #[.slice ZT n10 TV] σ (AA R (fun z y => ∃ XP XQ XR XS XT XU XV XW kU,z = (.tuple #[.agg #[.int .i64 XP,.int .u64 XQ,.slice XR XS XT,.slice XU XV XW],.int .i64 kU]) ∧ R (.returned (.tuple #[.agg #[.int .i64 XP,.int .u64 XQ,.slice XR XS XT,.slice XU XV XW],.int .i64 kU])) y)))) : A1 R v3 Ia G8 Ib Ic Ie Ig Ih Ii Ij Ik Il Im Jj Io Dx D7 Em En Eo Es Eu Ev ZT n10 TV dT n15 XO x16 x17 σ := M.fP h ok rfl fun _ _ => by kernel_rfl
theorem Is (h : AM (x17 + 1) ∧ A1 R v3 Ia G8 Ib Ic Ie Ig Ih Ii Ij Ik Il Im Jj Io Dx D7 Em En Eo Es Eu Ev ZT n10 TV dT n15 XO x16 (x17 + 1) σ) : G9 R v3 Ia G8 Ib Ic Ie Ig Ih Ii Ij Ik Il Im Jj Io Dx D7 Em En Eo Es Eu Ev ZT n10 TV dT n15 XO x16 x17 σ := M.fP h ok rfl fun _ _ => by kernel_rfl
end Az
namespace O9
def M : Fw := ⟨prog,178,f178,[],[],false,[],[],[]⟩
theorem ok : M.Ok := ⟨AG.nil,mixed,func178,by kernel_rfl⟩
theorem start (h : Al σ fun b1 => R (.returned (.slice (aD b1 0) 5 5)) (Hp.set σ b1 (.cells #[.nilFunc,(.func (.func 217) #[] #[]),(.func (.func 218) #[] #[]),(.func (.func 219) #[] #[]),(.func (.func 220) #[] #[])] 221 (0,0)))) : Spec prog 178 #[] σ R := M.start h ok
end O9
namespace Dh
variable {s0 : ByteArray} {p2 p3 p7 : Option Addr} {n2 c2 n3 c3 n7 c7 : Nat} {x8 x9 : Int}
def M : Fw := ⟨prog,179,f179,[221],[2,3],false,[(5,8,false)],[],[(232,[(2,.X 224 [.L]),(3,.X 224 [.L]),(7,wL),(8,wI),(9,wI)])]⟩
theorem ok : M.Ok := ⟨.cons call221 (AG.nil),mixed,func179,by kernel_rfl⟩
def A1 := M.pt 0
theorem start (h : ∀ b2 : Nat,∀ b3 : Nat,Spec prog 221 #[.string s0,(.string (ByteArray.mk #[124]))] σ (AA R (CS fun p7 n7 c7 y => A1 R none 0 0 none 0 0 p7 n7 c7 (n7 : Int) 0 y))) : Spec prog 179 #[.string s0] σ R := M.start h ok
theorem Ab (h : Br (x9 < x8) (Pq p7 fun A8 jB => In x9 (n7 : Int) ∧ LT σ A8 (jB + Int.toNat x9 * 1) fun s12 => Spec prog 221 #[.string s12,(.string (ByteArray.mk #[42]))] σ (AA R (CS fun aP n16 WN y => Al y fun UH => AJ prog (Builtin.append_ #[222,222] 222 #[.slice p3 n3 c3,(.slice (aD UH 0) 1 1)]) (Hp.set y UH (.cells #[.slice aP n16 WN] 257 (0,0))) (CS fun po n19 fg AF => AM (x9 + 1) ∧ A1 R p2 n2 c2 po n19 fg (aD A8 jB) n7 c7 x8 (x9 + 1) AF)))) (R (.returned (.agg #[.slice p3 n3 c3])) σ)) : A1 R p2 n2 c2 p3 n3 c3 p7 n7 c7 x8 x9 σ := M.fP h ok rfl fun _ _ => by kernel_rfl
end Dh
namespace PA
variable {x0 : Int}
def M : Fw := ⟨prog,186,f186,[174,182],[],false,[],[],[]⟩
theorem ok : M.Ok := ⟨.cons call174 (.cons call182 (AG.nil)),mixed,func186,by kernel_rfl⟩
theorem start (h : Spec prog 182 #[.int .u64 x0] σ (AA R (fun z y => ∃ x4,(Value.float .f64 x4) = z ∧ Spec prog 174 #[(Value.float .f64 x4)] y (AA R (CI .u64 fun x5 AF => R (.returned (.int .u64 x5)) AF))))) : Spec prog 186 #[.int .u64 x0] σ R := M.start h ok
end PA
namespace XX
variable {x0 x1 : Int}
def M : Fw := ⟨prog,194,f194,[203],[],false,[],[],[]⟩
theorem ok : M.Ok := ⟨.cons call203 (AG.nil),mixed,func194,by kernel_rfl⟩
theorem start (h : Spec prog 203 #[.int .i64 4,.int .u64 x0,.int .u64 x1] σ (AA R (fun z y => ∃ IZ Q8,z = (.tuple #[.int .u64 IZ,.bool Q8]) ∧ R (.returned (.int .u64 IZ)) y))) : Spec prog 194 #[.int .u64 x0,.int .u64 x1] σ R := M.start h ok
end XX
namespace Lt
variable {TU p1a : Option Addr} {Ls RG n1a c1a : Nat} {EM CL : Int}
def M : Fw := ⟨prog,196,f196,[52],[2,3],false,[],[],[]⟩
theorem ok : M.Ok := ⟨.cons call52 (AG.nil),mixed,func196,by kernel_rfl⟩
theorem start (h : ∀ b2 : Nat,∀ b3 : Nat,Spec prog 52 #[.slice TU Ls RG,.slice p1a n1a c1a] σ (AA R (CI .i64 fun x9 y => R (.returned (.int .i64 x9)) y))) : Spec prog 196 #[.agg #[.slice TU Ls RG,.int .u64 EM],.agg #[.slice p1a n1a c1a,.int .u64 CL]] σ R := M.start h ok
end Lt
namespace ER
variable {p0 : Option Addr} {n0 c0 : Nat} {s1 : ByteArray}
def M : Fw := ⟨prog,199,f199,[228],[],false,[],[],[]⟩
theorem ok : M.Ok := ⟨.cons call228 (AG.nil),mixed,func199,by kernel_rfl⟩
theorem start (h : Spec prog 228 #[.slice p0 n0 c0,.string s1] σ (AA R (CI .i64 fun x7 y => R (.returned (.bool (decide (0 ≤ x7)))) y))) : Spec prog 199 #[.slice p0 n0 c0,.string s1] σ R := M.start h ok
end ER
namespace E8
variable {x0 x5 x15 x16 : Int} {p1 JC : Option Addr} {n1 c1 n14 HL : Nat}
def M : Fw := ⟨prog,202,f202,[186,204,229],[],false,[],[],[(232,[(0,wI),(5,wU),(14,wL),(15,wI),(16,wI)]),(935,[(0,wI),(5,wU),(14,wL),(15,wI),(16,wI)])]⟩
theorem ok : M.Ok := ⟨.cons call186 (.cons call204 (.cons call229 (AG.nil))),mixed,func202,by kernel_rfl⟩
def A1 := M.pt 0
def kV := M.pt 1
theorem start (h : Pq p1 fun A8 jB => In 0 (n1 : Int) ∧ LI .u64 σ A8 jB fun x12 => ((0 : Int) ≤ 1 ∧ 1 ≤ (n1 : Int)) ∧ A1 R x0 x12 ((IL (aD A8 jB) (1) c1 1)) (n1 - 1) (c1 - 1) ((((n1 - 1) : Nat) : Int)) 0 σ) : Spec prog 202 #[.int .i64 x0,.slice p1 n1 c1] σ R := M.start h ok
theorem Ab (h : Br (x16 < x15) (Pq JC fun UH af => In x16 (n14 : Int) ∧ LI .u64 σ UH (af + Int.toNat x16 * 1) fun Cn => Spec prog 204 #[.int .i64 x0,.int .u64 Cn,.int .u64 x5] σ (AA R (fun z y => ∃ ADP AKL,z = (.tuple #[.bool ADP,.bool AKL]) ∧ Bo ADP (kV R x0 Cn (aD UH af) n14 HL x15 x16 y) (Spec prog 229 #[.int .u64 x5] y (AA R (CB fun t30 AF => Bo t30 (kV R x0 Cn (aD UH af) n14 HL x15 x16 AF) (kV R x0 x5 (aD UH af) n14 HL x15 x16 AF))))))) (Spec prog 186 #[.int .u64 x5] σ (AA R (CI .u64 fun WO y => R (.returned (.int .u64 WO)) y)))) : A1 R x0 x5 JC n14 HL x15 x16 σ := M.of h ok rfl
theorem rK (h : AM (x16 + 1) ∧ A1 R x0 x5 JC n14 HL x15 (x16 + 1) σ) : kV R x0 x5 JC n14 HL x15 x16 σ := M.of h ok rfl
end E8
namespace XY
variable {x0 : Int}
def M : Fw := ⟨prog,229,f229,[186],[],false,[],[],[]⟩
theorem ok : M.Ok := ⟨.cons call186 (AG.nil),mixed,func229,by kernel_rfl⟩
theorem start (h : Spec prog 186 #[.int .u64 x0] σ (AA R (CI .u64 fun x4 y => R (.returned (.bool (decide (x4 = 9221120237041090560)))) y))) : Spec prog 229 #[.int .u64 x0] σ R := M.start h ok
end XY
namespace BS
variable {TU p8 : Option Addr} {Ls RG n8 c8 : Nat} {s1 : ByteArray} {x9 x10 : Int}
def M : Fw := ⟨prog,236,f236,[257],[2,6],false,[],[],[(104,[(1,wT),(8,wL),(9,wI),(10,wI)])]⟩
theorem ok : M.Ok := ⟨.cons call257 (AG.nil),mixed,func236,by kernel_rfl⟩
def Hi := M.pt 0
theorem start (h : ∀ b2 : Nat,Hi R s1 TU Ls RG (Ls : Int) 0 σ) : Spec prog 236 #[.agg #[.slice TU Ls RG],.string s1] σ R := M.start h ok
theorem Bc (h : Br (x10 < x9) (Pq p8 fun O6 Pg => In x10 (n8 : Int) ∧ ∃ kW kX kY,As σ O6 (Pg + Int.toNat x10 * 1) [.slice kW kX kY] ∧ ∀ b6 : Nat,Spec prog 257 #[.agg #[.slice kW kX kY],.string s1] σ (AA R (CB fun t16 y => Bo t16 (R (.returned (.bool true)) y) (AM (x10 + 1) ∧ Hi R s1 (aD O6 Pg) n8 c8 x9 (x10 + 1) y)))) (R (.returned (.bool false)) σ)) : Hi R s1 p8 n8 c8 x9 x10 σ := M.of h ok rfl
end BS
namespace D8
variable {s0 : ByteArray} {x3 x8 x9 x16 : Int} {v4 v2 : Value} {t11 : Bool}
def M : Fw := ⟨prog,253,f253,[271,272,273,278,279,280,282,283],[],false,[],[],[(254,[(0,wT),(3,wI),(4,wV)]),(8190,[(2,wV),(3,wI),(4,wV)]),(32446,[(0,wT),(3,wI),(4,wV),(8,wU),(9,wI),(11,wB),(16,wU)])]⟩
theorem ok : M.Ok := ⟨.cons call271 (.cons call272 (.cons call273 (.cons call278 (.cons call279 (.cons call280 (.cons call282 (.cons call283 (AG.nil)))))))),mixed,func253,by kernel_rfl⟩
def AKM := M.pt 0
def ADQ := M.pt 2
theorem start (h : Spec prog 271 #[.string s0] σ (AA R (fun z y => ∃ ADR RH ADS,z = (.tuple #[ADR,.int .i64 RH,.bool ADS]) ∧ Bo ADS (R (.returned (.tuple #[ADR,.int .i64 RH,.nilIface])) y) (Spec prog 272 #[.string s0] y (AA R (fun z AF => ∃ fh ah rL yX ADT RI ADU,z = (.tuple #[.int .u64 fh,.int .i64 ah,.bool rL,.bool yX,.bool ADT,.int .i64 RI,.bool ADU]) ∧ Bn ADU (R (.returned (.tuple #[.float .f64 0,.int .i64 RI,(.iface 264 (.int .i64 2))])) AF) (Bo ADT (∃ s53,YF prog (Instr.sliceAt 9 (.string s0) none (some (.int .i64 RI)) none) AF (.string s53) ∧ Spec prog 273 #[.string s53,(.pointer (aD 6 0)),.int .u64 fh,.int .i64 ah,.bool rL,.bool yX] AF (AA R (fun z AH => ∃ ADV ADW,z = (.tuple #[ADV,ADW]) ∧ R (.returned (.tuple #[ADV,.int .i64 RI,ADW])) AH))) (LB AF 5 0 fun t64 => Bo t64 (Spec prog 280 #[.bool rL] AF (AA R (CI .u64 fun uq AH => ((0 : Int) ≤ 63 ∧ 63 ≤ ((IntKind.bits .u64 : Nat) : Int)) ∧ Df (IntKind.u64.wrap (uq * 2 ^ Int.toNat 63)) fun ai => Br (fh = 0) (Df (Go.bits .or .u64 ai 0) fun x71 => EN prog 281 #[.int .u64 x71] AH (fun z AZ => ∃ x72,(Value.float .f64 x72) = z ∧ R (.returned (.tuple #[(Value.float .f64 x72),.int .i64 RI,.nilIface])) AZ)) (Br (310 < ah) (Df (Go.bits .or .u64 ai 9218868437227405312) fun x77 => EN prog 281 #[.int .u64 x77] AH (fun z AZ => ∃ x78,(Value.float .f64 x78) = z ∧ R (.returned (.tuple #[(Value.float .f64 x78),.int .i64 RI,(.iface 264 (.int .i64 1))])) AZ)) (Br (ah < (-345)) (Df (Go.bits .or .u64 ai 0) fun x84 => EN prog 281 #[.int .u64 x84] AH (fun z AZ => ∃ x85,(Value.float .f64 x85) = z ∧ R (.returned (.tuple #[(Value.float .f64 x85),.int .i64 RI,.nilIface])) AZ)) (Bn yX (Spec prog 282 #[.int .u64 fh,.int .i64 ah,.bool rL] AH (AA R (fun z AZ => ∃ ADY ADZ,z = (.tuple #[ADY,.bool ADZ]) ∧ Bo ADZ (R (.returned (.tuple #[ADY,.int .i64 RI,.nilIface])) AZ) (ADQ R s0 RI .nilIface fh ah false ai AZ)))) (ADQ R s0 RI .nilIface fh ah true ai AH))))))) (AKM R s0 RI .nilIface AF))))))))) : Spec prog 253 #[.string s0] σ R := M.start h ok
end D8
namespace Ah
variable {s0 : ByteArray} {x5 x6 x12 x7 : Int} {t13 t16 t19 : Bool}
def M : Fw := ⟨prog,271,f271,[299,300,301],[],false,[],[],[(128001,[(0,wT),(5,wI),(6,wI),(12,w8),(13,wB)]),(256005,[(0,wT),(5,wI),(6,wI),(12,w8),(16,wB)]),(8004,[(0,wT),(5,wI),(6,wI)]),(256007,[(0,wT),(19,wB)]),(126,[]),(32022,[(5,wI),(6,wI),(7,wI)]),(32006,[(0,wT),(5,wI)])]⟩
theorem ok : M.Ok := ⟨.cons call299 (.cons call300 (.cons call301 (AG.nil))),mixed,func271,by kernel_rfl⟩
def E9 := M.pt 0
def yY := M.pt 1
def AKN := M.pt 2
def XZ := M.pt 3
def yZ := M.pt 4
def ADa := M.pt 6
theorem start (h : Br ((((ByteArray.size s0 : Nat) : Int) : Int) = 0) (R (.returned (.tuple #[.float .f64 0,.int .i64 0,.bool false])) σ) (∃ u12 : UInt8,(0 : Int) ≤ 0 ∧ (ByteArray.data s0)[Int.toNat 0]? = some u12 ∧ Br ((((UInt8.toNat u12 : Nat) : Int) : Int) = 43) (E9 R s0 1 0 (((UInt8.toNat u12 : Nat) : Int)) true σ) (E9 R s0 1 0 (((UInt8.toNat u12 : Nat) : Int)) ((decide ((((UInt8.toNat u12 : Nat) : Int) : Int) = 45))) σ))) : Spec prog 271 #[.string s0] σ R := M.start h ok
theorem VQ (h : Bo t13 (∃ u23 : UInt8,(0 : Int) ≤ 0 ∧ (ByteArray.data s0)[Int.toNat 0]? = some u23 ∧ Br ((((UInt8.toNat u23 : Nat) : Int) : Int) = 45) (ADa R s0 (-1) σ) (ADa R s0 x5 σ)) (Br (x12 = 105) (yY R s0 x5 x6 x12 true σ) (yY R s0 x5 x6 x12 ((decide (x12 = 73))) σ))) : E9 R s0 x5 x6 x12 t13 σ := M.of h ok rfl
theorem rO (h : Bo t16 (AKN R s0 x5 x6 σ) (Br (x12 = 110) (XZ R s0 true σ) (XZ R s0 ((decide (x12 = 78))) σ))) : yY R s0 x5 x6 x12 t16 σ := M.of h ok rfl
theorem VR (h : Bo t19 (Spec prog 299 #[.string s0,(.string (ByteArray.mk #[110,97,110]))] σ (AA R (CI .i64 fun kZ y => Br (kZ = 3) (Spec prog 301 #[] y (AA R (fun z AF => ∃ Q3,(Value.float .f64 Q3) = z ∧ R (.returned (.tuple #[(Value.float .f64 Q3),.int .i64 3,.bool true])) AF))) (yZ R y)))) (yZ R σ)) : XZ R s0 t19 σ := M.of h ok rfl
theorem rR (h : R (.returned (.tuple #[.float .f64 0,.int .i64 0,.bool false])) σ) : yZ R  σ := M.of h ok rfl
end Ah
namespace CG
variable {t0 : Bool}
def M : Fw := ⟨prog,280,f280,[],[],false,[],[],[]⟩
theorem ok : M.Ok := ⟨AG.nil,mixed,func280,by kernel_rfl⟩
theorem start (h : Bo t0 (R (.returned (.int .u64 1)) σ) (R (.returned (.int .u64 0)) σ)) : Spec prog 280 #[.bool t0] σ R := M.start h ok
end CG
namespace HO
variable {s0 s1 : ByteArray}
def M : Fw := ⟨prog,286,f286,[316],[],false,[],[],[]⟩
theorem ok : M.Ok := ⟨.cons call316 (AG.nil),mixed,func286,by kernel_rfl⟩
theorem start (h : Spec prog 316 #[.string s0,.string s1] σ (AA R (CB fun t7 y => R (.returned (.bool t7)) y))) : Spec prog 286 #[.string s0,.string s1] σ R := M.start h ok
end HO
namespace By
variable {s0 s1 : ByteArray}
def M : Fw := ⟨prog,316,f316,[],[],false,[],[],[]⟩
theorem ok : M.Ok := ⟨AG.nil,mixed,func316,by kernel_rfl⟩
theorem start (h : Br ((((ByteArray.size s1 : Nat) : Int) : Int) ≤ ((ByteArray.size s0 : Nat) : Int)) (AM (((ByteArray.size s0 : Nat) : Int) - ((ByteArray.size s1 : Nat) : Int)) ∧ ∃ s17,YF prog (Instr.sliceAt 9 (.string s0) (some (.int .i64 (((ByteArray.size s0 : Nat) : Int) - ((ByteArray.size s1 : Nat) : Int)))) none none) σ (.string s17) ∧ R (.returned (.bool (ByteArray.toList s17 == ByteArray.toList s1))) σ) (R (.returned (.bool false)) σ)) : Spec prog 316 #[.string s0,.string s1] σ R := M.start h ok
end By
end TwW
end
end
section
set_option maxRecDepth 100000
noncomputable section
namespace TwW
open Go Tw Go.Proofs.Tryz
variable [Ej] {R : Rr} {σ : Hp}

namespace DA
variable {p0 p1 LH p33 : Option Addr} {n0 c0 n1 c1 n11 LJ n33 c33 : Nat} {x2 ya WO : Int}
def M : Fw := ⟨prog,11,f11,[28,29,30],[13],false,[],[],[(4072,[(2,wI),(11,wL),(33,wL),(34,wI),(35,wI)])]⟩
theorem ok : M.Ok := ⟨.cons call28 (.cons call29 (.cons call30 (AG.nil))),mixed,func11,by kernel_rfl⟩
def Pk := M.pt 0
theorem start (h : Spec prog 28 #[.slice p0 n0 c0,.slice p1 n1 c1] σ (AA R (CI .i64 fun x16 y => Br (x16 ≠ 0) (R (.returned (.tuple #[.slice none 0 0,.int .i64 x16])) y) (Spec prog 29 #[.int .i64 x2] y (AA R (CB fun t21 AF => Bn t21 (R (.returned (.tuple #[.slice none 0 0,.int .i64 221])) AF) (Spec prog 30 #[.slice p0 n0 c0,.slice p1 n1 c1,.int .i64 x2] AF (AA R (fun z AH => ∃ MV Lg MW Xa,z = (.tuple #[.slice MV Lg MW,.int .i64 Xa]) ∧ Br (Xa ≠ 0) (R (.returned (.tuple #[.slice none 0 0,.int .i64 Xa])) AH) (Pk R x2 none 0 0 MV Lg MW (Lg : Int) 0 AH)))))))))) : Spec prog 11 #[.slice p0 n0 c0,.slice p1 n1 c1,.int .i64 x2] σ R := M.start h ok
theorem QK (h : Br (WO < ya) (Pq p33 fun b37 o37 => In WO (n33 : Int) ∧ ∃ rU rV rW HA,As σ b37 (o37 + Int.toNat WO * 2) [.slice rU rV rW,.int .u64 HA] ∧ ∀ C7 : Nat,(Al σ fun WQ => (AJ prog (Builtin.append_ #[37,37] 37 #[(.slice (aD WQ 0) 0 0),.slice rU rV rW]) (Hp.set σ WQ (.cells #[] 56 (0,0))) (CS fun jC n43 jD y => Al y fun Pm => Al (Hp.set y Pm (.cells #[.int .i64 x2,.int .u64 HA] 50 (0,0))) fun VT => AJ prog (Builtin.append_ #[23,23] 23 #[.slice LH n11 LJ,(.slice (aD VT 0) 1 1)]) (Hp.set (Hp.set y Pm (.cells #[.int .i64 x2,.int .u64 HA] 50 (0,0))) VT (.cells #[.slice jC n43 jD,(.slice (aD Pm 0) 1 1)] 40 (0,0))) (CS fun p51 n51 c51 AF => AM (WO + 1) ∧ Pk R x2 p51 n51 c51 (aD b37 o37) n33 c33 ya (WO + 1) AF))) ∧ (Al (Hp.set σ WQ (.cells #[] 56 (0,0))) fun Pm => AJ prog (Builtin.append_ #[37,37] 37 #[(.slice (aD WQ 0) 0 0),.slice rU rV rW]) (Hp.set (Hp.set σ WQ (.cells #[] 56 (0,0))) Pm (.cells #[.int .i64 x2,.int .u64 HA] 50 (0,0))) (CS fun jC n43 jD y => Al y fun VT => AJ prog (Builtin.append_ #[23,23] 23 #[.slice LH n11 LJ,(.slice (aD VT 0) 1 1)]) (Hp.set y VT (.cells #[.slice jC n43 jD,(.slice (aD Pm 0) 1 1)] 40 (0,0))) (CS fun p51 n51 c51 AF => AM (WO + 1) ∧ Pk R x2 p51 n51 c51 (aD b37 o37) n33 c33 ya (WO + 1) AF)))) ∧ (Al σ fun Pm => Al (Hp.set σ Pm (.cells #[.int .i64 x2,.int .u64 HA] 50 (0,0))) fun WQ => AJ prog (Builtin.append_ #[37,37] 37 #[(.slice (aD WQ 0) 0 0),.slice rU rV rW]) (Hp.set (Hp.set σ Pm (.cells #[.int .i64 x2,.int .u64 HA] 50 (0,0))) WQ (.cells #[] 56 (0,0))) (CS fun jC n43 jD y => Al y fun VT => AJ prog (Builtin.append_ #[23,23] 23 #[.slice LH n11 LJ,(.slice (aD VT 0) 1 1)]) (Hp.set y VT (.cells #[.slice jC n43 jD,(.slice (aD Pm 0) 1 1)] 40 (0,0))) (CS fun p51 n51 c51 AF => AM (WO + 1) ∧ Pk R x2 p51 n51 c51 (aD b37 o37) n33 c33 ya (WO + 1) AF)))) (R (.returned (.tuple #[.slice LH n11 LJ,.int .i64 0])) σ)) : Pk R x2 LH n11 LJ p33 n33 c33 ya WO σ := M.of h ok rfl
end DA
namespace Bz
variable {q0 p1 p4c GX p6 p7 JC : Option Addr} {n1 c1 n4c c4c GY GZ n6 c6 n7 c7 n14 HL : Nat} {Fm FR x15 x16 : Int}
def M : Fw := ⟨prog,47,f47,[70],[4,9],false,[],[],[(488,[(0,wQ),(4,.X 93 [.I .i64,.I .u64,.L,.L]),(6,wL),(7,wL),(14,wL),(15,wI),(16,wI)])]⟩
theorem ok : M.Ok := ⟨.cons call70 (AG.nil),mixed,func47,by kernel_rfl⟩
def Ew := M.pt 0
theorem start (h : ∀ b4 : Nat,Spec prog 70 #[] σ (AA R (CS fun p13 n13 c13 y => Ew R q0 0 0 none 0 0 none 0 0 p13 n13 c13 none 0 0 p1 n1 c1 (n1 : Int) 0 y))) : Spec prog 47 #[.pointer q0,.slice p1 n1 c1] σ R := M.start h ok
theorem FJ (h : Br (x16 < x15) (Pq JC fun UH af => In x16 (n14 : Int) ∧ ∃ Jk OO VK ka kc ke kg kh ki kj ko kr ks ES,As σ UH (af + Int.toNat x16 * 10) [.int .i64 Jk,.int .i64 OO,.string VK,.slice ka kc ke,.int .i64 kg,.int .i64 kh,.int .i64 ki,.slice kj ko kr,.bool ks,.int .i64 ES] ∧ ∀ b9 : Nat,AM ((n7 : Int) - ES) ∧ Pq p6 fun Pn dU => In Jk (n6 : Int) ∧ ∃ v30,Hp.ld σ ⟨Pn,(dU + Int.toNat Jk * 1),none⟩ = some v30 ∧ ((0 : Int) ≤ ((n7 : Int) - ES) ∧ ((n7 : Int) - ES) ≤ (n7 : Int)) ∧ (Al σ fun dV => (AJ prog (Builtin.append_ #[136,136] 136 #[(.slice (aD dV 0) 0 0),(.slice (IL p7 (Int.toNat ((n7 : Int) - ES)) c7 4) (n7 - Int.toNat ((n7 : Int) - ES)) (c7 - Int.toNat ((n7 : Int) - ES)))]) (Hp.set σ dV (.cells #[] 93 (0,0))) (CS fun UI n37 UJ y => Kp [Pn] (Hp.set σ dV (.cells #[] 93 (0,0))) y ∧ (∃ (f38 : Nat) (HP HQ : Array Value),v30 = .func (.func f38) HP HQ ∧ Enters prog f38 ∧ Spec prog f38 (HP ++ #[.pointer q0,.agg #[.int .i64 Jk,.int .i64 OO,.string VK,.slice ka kc ke,.int .i64 kg,.int .i64 kh,.int .i64 ki,.slice kj ko kr,.bool ks,.int .i64 ES],.slice UI n37 UJ] ++ HQ) y (AA R (fun z AF => ∃ Jl Jm Jn Jo Jp Jq Jr Js HA,z = (.tuple #[.agg #[.int .i64 Jl,.int .u64 Jm,.slice Jn Jo Jp,.slice Jq Jr Js],.int .i64 HA]) ∧ Al AF fun A8 => AJ prog (Instr.storeAt 93 (.pointer (aD A8 0)) (.agg #[.int .i64 Jl,.int .u64 Jm,.slice Jn Jo Jp,.slice Jq Jr Js])) (Hp.set AF A8 (.cells #[.int .i64 0,.int .u64 0,.slice none 0 0,.slice none 0 0] 93 (0,0))) (fun _ AH => Br (HA ≠ 0) (R (.returned (.tuple #[.agg #[.int .i64 0,.int .u64 0,.slice none 0 0,.slice none 0 0],.int .i64 HA])) AH) (((0 : Int) ≤ ((n7 : Int) - ES) ∧ ((n7 : Int) - ES) ≤ (c7 : Int)) ∧ ∃ NB NC ND NF NG NH NI NJ,As AH A8 0 [.int .i64 NB,.int .u64 NC,.slice ND NF NG,.slice NH NI NJ] ∧ Al AH fun EE => AJ prog (Builtin.append_ #[136,136] 136 #[(.slice p7 (Int.toNat ((n7 : Int) - ES)) c7),(.slice (aD EE 0) 1 1)]) (Hp.set AH EE (.cells #[.int .i64 NB,.int .u64 NC,.slice ND NF NG,.slice NH NI NJ] 93 (0,0))) (CS fun aW n50 aX AZ => AM (x16 + 1) ∧ Ew R q0 Fm FR p4c n4c c4c GX GY GZ (aD Pn dU) n6 c6 aW n50 aX (aD UH af) n14 HL x15 (x16 + 1) AZ)))))) ∧ (Al y fun A8 => ∃ (f38 : Nat) (HP HQ : Array Value),v30 = .func (.func f38) HP HQ ∧ Enters prog f38 ∧ Spec prog f38 (HP ++ #[.pointer q0,.agg #[.int .i64 Jk,.int .i64 OO,.string VK,.slice ka kc ke,.int .i64 kg,.int .i64 kh,.int .i64 ki,.slice kj ko kr,.bool ks,.int .i64 ES],.slice UI n37 UJ] ++ HQ) (Hp.set y A8 (.cells #[.int .i64 0,.int .u64 0,.slice none 0 0,.slice none 0 0] 93 (0,0))) (AA R (fun z AF => ∃ Jl Jm Jn Jo Jp Jq Jr Js HA,z = (.tuple #[.agg #[.int .i64 Jl,.int .u64 Jm,.slice Jn Jo Jp,.slice Jq Jr Js],.int .i64 HA]) ∧ AJ prog (Instr.storeAt 93 (.pointer (aD A8 0)) (.agg #[.int .i64 Jl,.int .u64 Jm,.slice Jn Jo Jp,.slice Jq Jr Js])) AF (fun _ AH => Br (HA ≠ 0) (R (.returned (.tuple #[.agg #[.int .i64 0,.int .u64 0,.slice none 0 0,.slice none 0 0],.int .i64 HA])) AH) (((0 : Int) ≤ ((n7 : Int) - ES) ∧ ((n7 : Int) - ES) ≤ (c7 : Int)) ∧ ∃ NB NC ND NF NG NH NI NJ,As AH A8 0 [.int .i64 NB,.int .u64 NC,.slice ND NF NG,.slice NH NI NJ] ∧ Al AH fun EE => AJ prog (Builtin.append_ #[136,136] 136 #[(.slice p7 (Int.toNat ((n7 : Int) - ES)) c7),(.slice (aD EE 0) 1 1)]) (Hp.set AH EE (.cells #[.int .i64 NB,.int .u64 NC,.slice ND NF NG,.slice NH NI NJ] 93 (0,0))) (CS fun aW n50 aX AZ => AM (x16 + 1) ∧ Ew R q0 Fm FR p4c n4c c4c GX GY GZ (aD Pn dU) n6 c6 aW n50 aX (aD UH af) n14 HL x15 (x16 + 1) AZ)))))))) ∧ (Al (Hp.set σ dV (.cells #[] 93 (0,0))) fun A8 => AJ prog (Builtin.append_ #[136,136] 136 #[(.slice (aD dV 0) 0 0),(.slice (IL p7 (Int.toNat ((n7 : Int) - ES)) c7 4) (n7 - Int.toNat ((n7 : Int) - ES)) (c7 - Int.toNat ((n7 : Int) - ES)))]) (Hp.set (Hp.set σ dV (.cells #[] 93 (0,0))) A8 (.cells #[.int .i64 0,.int .u64 0,.slice none 0 0,.slice none 0 0] 93 (0,0))) (CS fun UI n37 UJ y => Kp [Pn] (Hp.set (Hp.set σ dV (.cells #[] 93 (0,0))) A8 (.cells #[.int .i64 0,.int .u64 0,.slice none 0 0,.slice none 0 0] 93 (0,0))) y ∧ ∃ (f38 : Nat) (HP HQ : Array Value),v30 = .func (.func f38) HP HQ ∧ Enters prog f38 ∧ Spec prog f38 (HP ++ #[.pointer q0,.agg #[.int .i64 Jk,.int .i64 OO,.string VK,.slice ka kc ke,.int .i64 kg,.int .i64 kh,.int .i64 ki,.slice kj ko kr,.bool ks,.int .i64 ES],.slice UI n37 UJ] ++ HQ) y (AA R (fun z AF => ∃ Jl Jm Jn Jo Jp Jq Jr Js HA,z = (.tuple #[.agg #[.int .i64 Jl,.int .u64 Jm,.slice Jn Jo Jp,.slice Jq Jr Js],.int .i64 HA]) ∧ AJ prog (Instr.storeAt 93 (.pointer (aD A8 0)) (.agg #[.int .i64 Jl,.int .u64 Jm,.slice Jn Jo Jp,.slice Jq Jr Js])) AF (fun _ AH => Br (HA ≠ 0) (R (.returned (.tuple #[.agg #[.int .i64 0,.int .u64 0,.slice none 0 0,.slice none 0 0],.int .i64 HA])) AH) (((0 : Int) ≤ ((n7 : Int) - ES) ∧ ((n7 : Int) - ES) ≤ (c7 : Int)) ∧ ∃ NB NC ND NF NG NH NI NJ,As AH A8 0 [.int .i64 NB,.int .u64 NC,.slice ND NF NG,.slice NH NI NJ] ∧ Al AH fun EE => AJ prog (Builtin.append_ #[136,136] 136 #[(.slice p7 (Int.toNat ((n7 : Int) - ES)) c7),(.slice (aD EE 0) 1 1)]) (Hp.set AH EE (.cells #[.int .i64 NB,.int .u64 NC,.slice ND NF NG,.slice NH NI NJ] 93 (0,0))) (CS fun aW n50 aX AZ => AM (x16 + 1) ∧ Ew R q0 Fm FR p4c n4c c4c GX GY GZ (aD Pn dU) n6 c6 aW n50 aX (aD UH af) n14 HL x15 (x16 + 1) AZ)))))))) ∧ (Al σ fun A8 => Al (Hp.set σ A8 (.cells #[.int .i64 0,.int .u64 0,.slice none 0 0,.slice none 0 0] 93 (0,0))) fun dV => AJ prog (Builtin.append_ #[136,136] 136 #[(.slice (aD dV 0) 0 0),(.slice (IL p7 (Int.toNat ((n7 : Int) - ES)) c7 4) (n7 - Int.toNat ((n7 : Int) - ES)) (c7 - Int.toNat ((n7 : Int) - ES)))]) (Hp.set (Hp.set σ A8 (.cells #[.int .i64 0,.int .u64 0,.slice none 0 0,.slice none 0 0] 93 (0,0))) dV (.cells #[] 93 (0,0))) (CS fun UI n37 UJ y => Kp [Pn] (Hp.set (Hp.set σ A8 (.cells #[.int .i64 0,.int .u64 0,.slice none 0 0,.slice none 0 0] 93 (0,0))) dV (.cells #[] 93 (0,0))) y ∧ ∃ (f38 : Nat) (HP HQ : Array Value),v30 = .func (.func f38) HP HQ ∧ Enters prog f38 ∧ Spec prog f38 (HP ++ #[.pointer q0,.agg #[.int .i64 Jk,.int .i64 OO,.string VK,.slice ka kc ke,.int .i64 kg,.int .i64 kh,.int .i64 ki,.slice kj ko kr,.bool ks,.int .i64 ES],.slice UI n37 UJ] ++ HQ) y (AA R (fun z AF => ∃ Jl Jm Jn Jo Jp Jq Jr Js HA,z = (.tuple #[.agg #[.int .i64 Jl,.int .u64 Jm,.slice Jn Jo Jp,.slice Jq Jr Js],.int .i64 HA]) ∧ AJ prog (Instr.storeAt 93 (.pointer (aD A8 0)) (.agg #[.int .i64 Jl,.int .u64 Jm,.slice Jn Jo Jp,.slice Jq Jr Js])) AF (fun _ AH => Br (HA ≠ 0) (R (.returned (.tuple #[.agg #[.int .i64 0,.int .u64 0,.slice none 0 0,.slice none 0 0],.int .i64 HA])) AH) (((0 : Int) ≤ ((n7 : Int) - ES) ∧ ((n7 : Int) - ES) ≤ (c7 : Int)) ∧ ∃ NB NC ND NF NG NH NI NJ,As AH A8 0 [.int .i64 NB,.int .u64 NC,.slice ND NF NG,.slice NH NI NJ] ∧ Al AH fun EE => AJ prog (Builtin.append_ #[136,136] 136 #[(.slice p7 (Int.toNat ((n7 : Int) - ES)) c7),(.slice (aD EE 0) 1 1)]) (Hp.set AH EE (.cells #[.int .i64 NB,.int .u64 NC,.slice ND NF NG,.slice NH NI NJ] 93 (0,0))) (CS fun aW n50 aX AZ => AM (x16 + 1) ∧ Ew R q0 Fm FR p4c n4c c4c GX GY GZ (aD Pn dU) n6 c6 aW n50 aX (aD UH af) n14 HL x15 (x16 + 1) AZ)))))))) (Pq p7 fun OP o53 => In 0 (n7 : Int) ∧ ∃ Xb Xc ADh ADi ADj Xd Xe Xf,As σ OP o53 [.int .i64 Xb,.int .u64 Xc,.slice ADh ADi ADj,.slice Xd Xe Xf] ∧ R (.returned (.tuple #[.agg #[.int .i64 Xb,.int .u64 Xc,.slice ADh ADi ADj,.slice Xd Xe Xf],.int .i64 0])) σ)) : Ew R q0 Fm FR p4c n4c c4c GX GY GZ p6 n6 c6 p7 n7 c7 JC n14 HL x15 x16 σ := M.iu h ok rfl fun _ => by kernel_rfl
end Bz
namespace JF
variable {u5 ZU s1a s1b : ByteArray}
def M : Fw := ⟨prog,76,f76,[77,78],[2,3],false,[],[],[]⟩
theorem ok : M.Ok := ⟨.cons call77 (.cons call78 (AG.nil)),mixed,func76,by kernel_rfl⟩
theorem start (h : ∀ b2 : Nat,∀ b3 : Nat,Spec prog 78 #[.string u5,.string s1a] σ (AA R (CI .i64 fun x9 y => Spec prog 78 #[.string ZU,.string s1b] y (AA R (CI .i64 fun ZS AF => Al AF fun b15 => Spec prog 77 #[(.slice (aD b15 0) 2 2)] (Hp.set AF b15 (.cells #[.int .i64 x9,.int .i64 ZS] 3 (0,0))) (AA R (CI .i64 fun x16 AH => R (.returned (.int .i64 x16)) AH))))))) : Spec prog 76 #[.agg #[.string u5,.string ZU],.agg #[.string s1a,.string s1b]] σ R := M.start h ok
end JF
namespace JG
variable {s0 s1 : ByteArray}
def M : Fw := ⟨prog,78,f78,[119],[],false,[],[],[]⟩
theorem ok : M.Ok := ⟨.cons call119 (AG.nil),mixed,func78,by kernel_rfl⟩
theorem start (h : Spec prog 119 #[.string s0,.string s1] σ (AA R (CI .i64 fun x7 y => R (.returned (.int .i64 x7)) y))) : Spec prog 78 #[.string s0,.string s1] σ R := M.start h ok
end JG
namespace FU
variable {p0 p8 : Option Addr} {n0 c0 n8 c8 : Nat} {x9 x10 : Int}
def M : Fw := ⟨prog,80,f80,[125,126],[4],false,[],[],[(232,[(8,wL),(9,wI),(10,wI)])]⟩
theorem ok : M.Ok := ⟨.cons call125 (.cons call126 (AG.nil)),mixed,func80,by kernel_rfl⟩
def Lc := M.pt 0
theorem start (h : Br (8 < (n0 : Int)) (R (.returned (.int .i64 41)) σ) (Lc R p0 n0 c0 (n0 : Int) 0 σ)) : Spec prog 80 #[.slice p0 n0 c0] σ R := M.start h ok
theorem IY (h : Br (x10 < x9) (Pq p8 fun O6 Pg => In x10 (n8 : Int) ∧ ∃ kt fZ ADl,As σ O6 (Pg + Int.toNat x10 * 3) [.int .i64 kt,.string fZ,.string ADl] ∧ ∀ b4 : Nat,Spec prog 125 #[.int .i64 kt] σ (AA R (CB fun t16 y => Bn t16 (R (.returned (.int .i64 40)) y) (Spec prog 126 #[.string fZ] y (AA R (CB fun t21 AF => Bn t21 (R (.returned (.int .i64 40)) AF) (Br ((256 : Int) < ((ByteArray.size ADl : Nat) : Int)) (R (.returned (.int .i64 40)) AF) (AM (x10 + 1) ∧ Lc R (aD O6 Pg) n8 c8 x9 (x10 + 1) AF)))))))) (R (.returned (.int .i64 0)) σ)) : Lc R p8 n8 c8 x9 x10 σ := M.of h ok rfl
end FU
namespace Bf
variable {q0 DV Dd p2 : Option Addr} {DR CL DS DW Cv CO x8 : Int} {DT : ByteArray} {DX DY DZ De n2 c2 : Nat} {Cw : Bool}
def M : Fw := ⟨prog,82,f82,[],[4],false,[],[],[(60,[(2,wL),(8,wI)])]⟩
theorem ok : M.Ok := ⟨AG.nil,mixed,func82,by kernel_rfl⟩
def Ew := M.pt 0
theorem start (h : ∀ b4 : Nat,Br (CL = 11) (Ew R p2 n2 c2 2 σ) (Br (CL = 12) (Ew R p2 n2 c2 2 σ) (Ew R p2 n2 c2 3 σ))) : Spec prog 82 #[.pointer q0,.agg #[.int .i64 DR,.int .i64 CL,.string DT,.slice DV DX DY,.int .i64 DS,.int .i64 DW,.int .i64 Cv,.slice Dd DZ De,.bool Cw,.int .i64 CO],.slice p2 n2 c2] σ R := M.start h ok
theorem FJ (h : Pq p2 fun UH af => In 0 (n2 : Int) ∧ LI .i64 σ UH af fun Hc => Br (Hc ≠ x8) (R (.returned (.tuple #[.int .i64 0,.int .i64 191])) σ) (R (.returned (.tuple #[.int .i64 2,.int .i64 0])) σ)) : Ew R p2 n2 c2 x8 σ := M.of h ok rfl
end Bf
namespace Gp
variable {s0 : ByteArray} {x3 x4 x5 : Int}
def M : Fw := ⟨prog,93,f93,[131],[],false,[],[],[(2000,[(0,wT),(3,wI),(4,wI),(5,wI)]),(508,[(4,wI)])]⟩
theorem ok : M.Ok := ⟨.cons call131 (AG.nil),mixed,func93,by kernel_rfl⟩
def rX := M.pt 0
def Pd := M.pt 1
theorem start (h : Spec prog 131 #[.string s0] σ (AA R (CI .i64 fun x7 y => Br (x7 = 0) (R (.returned (.int .i64 0)) y) (Br (10 < x7) (R (.returned (.int .i64 0)) y) (∃ u16 : UInt8,(0 : Int) ≤ 0 ∧ (ByteArray.data s0)[Int.toNat 0]? = some u16 ∧ Br ((((UInt8.toNat u16 : Nat) : Int) : Int) = 48) (R (.returned (.int .i64 0)) y) (AM (x7 + 1) ∧ Br (((x7 + 1) : Int) ≠ ((ByteArray.size s0 : Nat) : Int)) (R (.returned (.int .i64 0)) y) (rX R s0 x7 0 0 y))))))) : Spec prog 93 #[.string s0] σ R := M.start h ok
theorem dW (h : Br (x5 < x3) (AM (10 * x4) ∧ ∃ u35 : UInt8,0 ≤ x5 ∧ (ByteArray.data s0)[Int.toNat x5]? = some u35 ∧ Df (IntKind.u8.wrap (((UInt8.toNat u35 : Nat) : Int) - 48)) fun ZV => Df (IntKind.i64.wrap ZV) fun Po => AM ((10 * x4) + Po) ∧ AM (x5 + 1) ∧ rX R s0 x3 (((10 * x4) + Po)) (x5 + 1) σ) (∃ u41 : UInt8,0 ≤ x3 ∧ (ByteArray.data s0)[Int.toNat x3]? = some u41 ∧ Br ((((UInt8.toNat u41 : Nat) : Int) : Int) = 115) (Pd R x4 σ) (Br ((((UInt8.toNat u41 : Nat) : Int) : Int) = 109) (AM (x4 * 60) ∧ Pd R (x4 * 60) σ) (Br ((((UInt8.toNat u41 : Nat) : Int) : Int) = 104) (AM (x4 * 3600) ∧ Pd R (x4 * 3600) σ) (Br ((((UInt8.toNat u41 : Nat) : Int) : Int) = 100) (AM (x4 * 86400) ∧ Pd R (x4 * 86400) σ) (R (.returned (.int .i64 0)) σ)))))) : rX R s0 x3 x4 x5 σ := M.of h ok rfl
theorem QG (h : Br (2147483648 ≤ x4) (R (.returned (.int .i64 0)) σ) (R (.returned (.int .i64 x4)) σ)) : Pd R x4 σ := M.of h ok rfl
end Gp
namespace FA
variable {s0 : ByteArray} {x3 : Int}
def M : Fw := ⟨prog,98,f98,[],[],false,[],[],[(464,[(0,wT),(3,wI)])]⟩
theorem ok : M.Ok := ⟨AG.nil,mixed,func98,by kernel_rfl⟩
def JQ := M.pt 0
theorem start (h : Bo ((ByteArray.toList s0 == ByteArray.toList (ByteArray.mk #[]))) (R (.returned (.bool false)) σ) (Br ((64 : Int) < ((ByteArray.size s0 : Nat) : Int)) (R (.returned (.bool false)) σ) (∃ LK : UInt8,(0 : Int) ≤ 0 ∧ (ByteArray.data s0)[Int.toNat 0]? = some LK ∧ Br ((48 : Int) ≤ ((UInt8.toNat LK : Nat) : Int)) (∃ u18 : UInt8,(0 : Int) ≤ 0 ∧ (ByteArray.data s0)[Int.toNat 0]? = some u18 ∧ Br ((((UInt8.toNat u18 : Nat) : Int) : Int) ≤ 57) (R (.returned (.bool false)) σ) (JQ R s0 0 σ)) (JQ R s0 0 σ)))) : Spec prog 98 #[.string s0] σ R := M.start h ok
theorem NK (h : Br (x3 < ((ByteArray.size s0 : Nat) : Int)) (∃ ZW : UInt8,0 ≤ x3 ∧ (ByteArray.data s0)[Int.toNat x3]? = some ZW ∧ Br ((((UInt8.toNat ZW : Nat) : Int) : Int) ≠ 95) (Br ((((UInt8.toNat ZW : Nat) : Int) : Int) < 48) (Br ((((UInt8.toNat ZW : Nat) : Int) : Int) < 65) (Br ((((UInt8.toNat ZW : Nat) : Int) : Int) < 97) (R (.returned (.bool false)) σ) (Br ((122 : Int) < ((UInt8.toNat ZW : Nat) : Int)) (R (.returned (.bool false)) σ) (AM (x3 + 1) ∧ JQ R s0 (x3 + 1) σ))) (Br ((90 : Int) < ((UInt8.toNat ZW : Nat) : Int)) (Br ((((UInt8.toNat ZW : Nat) : Int) : Int) < 97) (R (.returned (.bool false)) σ) (Br ((122 : Int) < ((UInt8.toNat ZW : Nat) : Int)) (R (.returned (.bool false)) σ) (AM (x3 + 1) ∧ JQ R s0 (x3 + 1) σ))) (AM (x3 + 1) ∧ JQ R s0 (x3 + 1) σ))) (Br ((57 : Int) < ((UInt8.toNat ZW : Nat) : Int)) (Br ((((UInt8.toNat ZW : Nat) : Int) : Int) < 65) (Br ((((UInt8.toNat ZW : Nat) : Int) : Int) < 97) (R (.returned (.bool false)) σ) (Br ((122 : Int) < ((UInt8.toNat ZW : Nat) : Int)) (R (.returned (.bool false)) σ) (AM (x3 + 1) ∧ JQ R s0 (x3 + 1) σ))) (Br ((90 : Int) < ((UInt8.toNat ZW : Nat) : Int)) (Br ((((UInt8.toNat ZW : Nat) : Int) : Int) < 97) (R (.returned (.bool false)) σ) (Br ((122 : Int) < ((UInt8.toNat ZW : Nat) : Int)) (R (.returned (.bool false)) σ) (AM (x3 + 1) ∧ JQ R s0 (x3 + 1) σ))) (AM (x3 + 1) ∧ JQ R s0 (x3 + 1) σ))) (AM (x3 + 1) ∧ JQ R s0 (x3 + 1) σ))) (AM (x3 + 1) ∧ JQ R s0 (x3 + 1) σ)) (R (.returned (.bool true)) σ)) : JQ R s0 x3 σ := M.of h ok rfl
end FA
namespace Ai
variable {s0 : ByteArray} {x3 x4 x5 x6 : Int}
def M : Fw := ⟨prog,99,f99,[],[],false,[],[],[(220,[(0,wT),(3,wI)]),(894,[(0,wT),(3,wI),(4,wI),(5,w8),(6,w8)]),(7164,[(0,wT),(3,wI),(4,wI),(5,w8),(6,w8)])]⟩
theorem ok : M.Ok := ⟨AG.nil,mixed,func99,by kernel_rfl⟩
def BF := M.pt 0
def HB := M.pt 1
def ku := M.pt 2
theorem start (h : BF R s0 0 σ) : Spec prog 99 #[.string s0] σ R := M.start h ok
theorem Ay (h : Br (x3 = ((ByteArray.size s0 : Nat) : Int)) (R (.returned (.bool true)) σ) (∃ LK : UInt8,0 ≤ x3 ∧ (ByteArray.data s0)[Int.toNat x3]? = some LK ∧ Br ((((UInt8.toNat LK : Nat) : Int) : Int) < 128) (AM (x3 + 1) ∧ BF R s0 (x3 + 1) σ) (Br ((194 : Int) ≤ ((UInt8.toNat LK : Nat) : Int)) (Br ((((UInt8.toNat LK : Nat) : Int) : Int) ≤ 223) (HB R s0 x3 1 128 191 σ) (Br ((224 : Int) ≤ ((UInt8.toNat LK : Nat) : Int)) (Br ((((UInt8.toNat LK : Nat) : Int) : Int) ≤ 239) (Br ((((UInt8.toNat LK : Nat) : Int) : Int) = 224) (HB R s0 x3 2 160 191 σ) (Br ((((UInt8.toNat LK : Nat) : Int) : Int) = 237) (HB R s0 x3 2 128 159 σ) (HB R s0 x3 2 128 191 σ))) (Br ((240 : Int) ≤ ((UInt8.toNat LK : Nat) : Int)) (Br ((((UInt8.toNat LK : Nat) : Int) : Int) ≤ 244) (Br ((((UInt8.toNat LK : Nat) : Int) : Int) = 240) (HB R s0 x3 3 144 191 σ) (Br ((((UInt8.toNat LK : Nat) : Int) : Int) = 244) (HB R s0 x3 3 128 143 σ) (HB R s0 x3 3 128 191 σ))) (R (.returned (.bool false)) σ)) (R (.returned (.bool false)) σ))) (Br ((240 : Int) ≤ ((UInt8.toNat LK : Nat) : Int)) (Br ((((UInt8.toNat LK : Nat) : Int) : Int) ≤ 244) (Br ((((UInt8.toNat LK : Nat) : Int) : Int) = 240) (HB R s0 x3 3 144 191 σ) (Br ((((UInt8.toNat LK : Nat) : Int) : Int) = 244) (HB R s0 x3 3 128 143 σ) (HB R s0 x3 3 128 191 σ))) (R (.returned (.bool false)) σ)) (R (.returned (.bool false)) σ)))) (Br ((224 : Int) ≤ ((UInt8.toNat LK : Nat) : Int)) (Br ((((UInt8.toNat LK : Nat) : Int) : Int) ≤ 239) (Br ((((UInt8.toNat LK : Nat) : Int) : Int) = 224) (HB R s0 x3 2 160 191 σ) (Br ((((UInt8.toNat LK : Nat) : Int) : Int) = 237) (HB R s0 x3 2 128 159 σ) (HB R s0 x3 2 128 191 σ))) (Br ((240 : Int) ≤ ((UInt8.toNat LK : Nat) : Int)) (Br ((((UInt8.toNat LK : Nat) : Int) : Int) ≤ 244) (Br ((((UInt8.toNat LK : Nat) : Int) : Int) = 240) (HB R s0 x3 3 144 191 σ) (Br ((((UInt8.toNat LK : Nat) : Int) : Int) = 244) (HB R s0 x3 3 128 143 σ) (HB R s0 x3 3 128 191 σ))) (R (.returned (.bool false)) σ)) (R (.returned (.bool false)) σ))) (Br ((240 : Int) ≤ ((UInt8.toNat LK : Nat) : Int)) (Br ((((UInt8.toNat LK : Nat) : Int) : Int) ≤ 244) (Br ((((UInt8.toNat LK : Nat) : Int) : Int) = 240) (HB R s0 x3 3 144 191 σ) (Br ((((UInt8.toNat LK : Nat) : Int) : Int) = 244) (HB R s0 x3 3 128 143 σ) (HB R s0 x3 3 128 191 σ))) (R (.returned (.bool false)) σ)) (R (.returned (.bool false)) σ)))))) : BF R s0 x3 σ := M.of h ok rfl
theorem rY (h : AM (x3 + 1) ∧ ku R s0 (x3 + 1) x4 x5 x6 σ) : HB R s0 x3 x4 x5 x6 σ := M.of h ok rfl
theorem dX (h : Br (x4 = 0) (BF R s0 x3 σ) (Br (x3 = ((ByteArray.size s0 : Nat) : Int)) (R (.returned (.bool false)) σ) (∃ u60 : UInt8,0 ≤ x3 ∧ (ByteArray.data s0)[Int.toNat x3]? = some u60 ∧ Br ((((UInt8.toNat u60 : Nat) : Int) : Int) < x5) (R (.returned (.bool false)) σ) (∃ u67 : UInt8,0 ≤ x3 ∧ (ByteArray.data s0)[Int.toNat x3]? = some u67 ∧ Br (x6 < ((UInt8.toNat u67 : Nat) : Int)) (R (.returned (.bool false)) σ) (AM (x4 - 1) ∧ AM (x3 + 1) ∧ ku R s0 (x3 + 1) (x4 - 1) 128 191 σ))))) : ku R s0 x3 x4 x5 x6 σ := M.of h ok rfl
end Ai
namespace Cz
variable {q0 DV Dd p2 : Option Addr} {DR CL DS DW Cv CO : Int} {DT : ByteArray} {DX DY DZ De n2 c2 : Nat} {Cw : Bool}
def M : Fw := ⟨prog,105,f105,[128,156,157,160,161],[6],false,[(1,9,false)],[],[]⟩
theorem ok : M.Ok := ⟨.cons call128 (.cons call156 (.cons call157 (.cons call160 (.cons call161 (AG.nil))))),mixed,func105,by kernel_rfl⟩
theorem start (h : Al σ fun b4 => ∀ b6 : Nat,Pq p2 fun C7 ix => In 0 (n2 : Int) ∧ ∃ GI TS yb yc yd ye yf yh,As (Hp.set σ b4 (.cells #[.int .i64 DR,.int .i64 CL,.string DT,.slice DV DX DY,.int .i64 DS,.int .i64 DW,.int .i64 Cv,.slice Dd DZ De,.bool Cw,.int .i64 CO] 36 (0,0))) C7 ix [.int .i64 GI,.int .u64 TS,.slice yb yc yd,.slice ye yf yh] ∧ In 1 (n2 : Int) ∧ ∃ Q6 XG yi yj yk fU fV fW,As (Hp.set σ b4 (.cells #[.int .i64 DR,.int .i64 CL,.string DT,.slice DV DX DY,.int .i64 DS,.int .i64 DW,.int .i64 Cv,.slice Dd DZ De,.bool Cw,.int .i64 CO] 36 (0,0))) C7 (ix + 4) [.int .i64 Q6,.int .u64 XG,.slice yi yj yk,.slice fU fV fW] ∧ (Al (Hp.set σ b4 (.cells #[.int .i64 DR,.int .i64 CL,.string DT,.slice DV DX DY,.int .i64 DS,.int .i64 DW,.int .i64 Cv,.slice Dd DZ De,.bool Cw,.int .i64 CO] 36 (0,0))) fun b8 => Al (Hp.set (Hp.set σ b4 (.cells #[.int .i64 DR,.int .i64 CL,.string DT,.slice DV DX DY,.int .i64 DS,.int .i64 DW,.int .i64 Cv,.slice Dd DZ De,.bool Cw,.int .i64 CO] 36 (0,0))) b8 (.cells #[.int .i64 0,.int .u64 0,.slice none 0 0,.slice none 0 0] 93 (0,0))) fun b9 => AJ prog (Instr.storeAt 93 (.pointer (aD b8 0)) (.agg #[.int .i64 GI,.int .u64 TS,.slice yb yc yd,.slice ye yf yh])) (Hp.set (Hp.set (Hp.set σ b4 (.cells #[.int .i64 DR,.int .i64 CL,.string DT,.slice DV DX DY,.int .i64 DS,.int .i64 DW,.int .i64 Cv,.slice Dd DZ De,.bool Cw,.int .i64 CO] 36 (0,0))) b8 (.cells #[.int .i64 0,.int .u64 0,.slice none 0 0,.slice none 0 0] 93 (0,0))) b9 (.cells #[.int .i64 0,.int .u64 0,.slice none 0 0,.slice none 0 0] 93 (0,0))) (fun _ y => Kp [C7] (Hp.set (Hp.set (Hp.set σ b4 (.cells #[.int .i64 DR,.int .i64 CL,.string DT,.slice DV DX DY,.int .i64 DS,.int .i64 DW,.int .i64 Cv,.slice Dd DZ De,.bool Cw,.int .i64 CO] 36 (0,0))) b8 (.cells #[.int .i64 0,.int .u64 0,.slice none 0 0,.slice none 0 0] 93 (0,0))) b9 (.cells #[.int .i64 0,.int .u64 0,.slice none 0 0,.slice none 0 0] 93 (0,0))) y ∧ AJ prog (Instr.storeAt 93 (.pointer (aD b9 0)) (.agg #[.int .i64 Q6,.int .u64 XG,.slice yi yj yk,.slice fU fV fW])) y (fun _ AF => LI .i64 AF b8 0 fun Hc => Br (Hc = 1) (LI .i64 AF b9 0 fun I8 => Br (I8 = 1) (∃ Xg RH kv kx ky kz k0 k8 k9 lA lB lC lD lE,As AF b4 0 [.int .i64 Xg,.int .i64 RH,.string kv,.slice kx ky kz,.int .i64 k0,.int .i64 k8,.int .i64 k9,.slice lA lB lC,.bool lD,.int .i64 lE] ∧ LI .u64 AF b8 1 fun UK => LI .u64 AF b9 1 fun lF => Spec prog 156 #[.agg #[.int .i64 Xg,.int .i64 RH,.string kv,.slice kx ky kz,.int .i64 k0,.int .i64 k8,.int .i64 k9,.slice lA lB lC,.bool lD,.int .i64 lE],.int .u64 UK,.int .u64 lF] AF (AA R (fun z AH => ∃ Xh lG,z = (.tuple #[.int .u64 Xh,.bool lG]) ∧ R (.returned (.tuple #[.agg #[.int .i64 1,.int .u64 Xh,.slice none 0 0,.slice none 0 0],.int .i64 0])) AH))) (LI .i64 AF b8 0 fun fi => Br (fi = 1) (∃ OQ Lh OR RJ RL RM RN RO RP RQ RR RS RT RU,As AF b4 0 [.int .i64 OQ,.int .i64 Lh,.string OR,.slice RJ RL RM,.int .i64 RN,.int .i64 RO,.int .i64 RP,.slice RQ RR RS,.bool RT,.int .i64 RU] ∧ LS AF b9 2 fun ym n45 yn => Spec prog 157 #[.pointer q0,.agg #[.int .i64 OQ,.int .i64 Lh,.string OR,.slice RJ RL RM,.int .i64 RN,.int .i64 RO,.int .i64 RP,.slice RQ RR RS,.bool RT,.int .i64 RU],.slice ym n45 yn,(.func (.func 158) #[] #[(.pointer (aD b4 0)),(.pointer (aD b8 0))])] AF (AA R (fun z AH => ∃ Jt Ju Jv Jw Jx Jy Jz J0 RV,z = (.tuple #[.agg #[.int .i64 Jt,.int .u64 Ju,.slice Jv Jw Jx,.slice Jy Jz J0],.int .i64 RV]) ∧ R (.returned (.tuple #[.agg #[.int .i64 Jt,.int .u64 Ju,.slice Jv Jw Jx,.slice Jy Jz J0],.int .i64 RV])) AH))) (LI .i64 AF b9 0 fun rZ => Br (rZ = 1) (∃ RW RX RY RZ Ra Rb Rc Re Rf Rh Ri Rj Rk Rl,As AF b4 0 [.int .i64 RW,.int .i64 RX,.string RY,.slice RZ Ra Rb,.int .i64 Rc,.int .i64 Re,.int .i64 Rf,.slice Rh Ri Rj,.bool Rk,.int .i64 Rl] ∧ LS AF b8 2 fun yo n57 yp => Spec prog 157 #[.pointer q0,.agg #[.int .i64 RW,.int .i64 RX,.string RY,.slice RZ Ra Rb,.int .i64 Rc,.int .i64 Re,.int .i64 Rf,.slice Rh Ri Rj,.bool Rk,.int .i64 Rl],.slice yo n57 yp,(.func (.func 159) #[] #[(.pointer (aD b4 0)),(.pointer (aD b9 0))])] AF (AA R (fun z AH => ∃ J1 J2 J3 J4 J5 J6 J7 J8 Hd,z = (.tuple #[.agg #[.int .i64 J1,.int .u64 J2,.slice J3 J4 J5,.slice J6 J7 J8],.int .i64 Hd]) ∧ R (.returned (.tuple #[.agg #[.int .i64 J1,.int .u64 J2,.slice J3 J4 J5,.slice J6 J7 J8],.int .i64 Hd])) AH))) (LI .i64 AF b4 1 fun yq => Spec prog 128 #[.int .i64 yq] AF (AA R (CB fun t65 AH => Bo t65 (∃ J9 KA KB KC KD KE KF KG KH KI KJ KK KL KM,As AH b4 0 [.int .i64 J9,.int .i64 KA,.string KB,.slice KC KD KE,.int .i64 KF,.int .i64 KG,.int .i64 KH,.slice KI KJ KK,.bool KL,.int .i64 KM] ∧ LS AH b8 2 fun ra n69 rf => LS AH b9 2 fun yr yt yu => Spec prog 160 #[.pointer q0,.agg #[.int .i64 J9,.int .i64 KA,.string KB,.slice KC KD KE,.int .i64 KF,.int .i64 KG,.int .i64 KH,.slice KI KJ KK,.bool KL,.int .i64 KM],.slice ra n69 rf,.slice yr yt yu] AH (AA R (fun z AZ => ∃ KN KO KQ KR KS KT KU KV Jh,z = (.tuple #[.agg #[.int .i64 KN,.int .u64 KO,.slice KQ KR KS,.slice KT KU KV],.int .i64 Jh]) ∧ R (.returned (.tuple #[.agg #[.int .i64 KN,.int .u64 KO,.slice KQ KR KS,.slice KT KU KV],.int .i64 Jh])) AZ))) (∃ Rm Rn Ro Rp Rq Rt Ru Rv Rx Ry Rz R0 R3 R4,As AH b4 0 [.int .i64 Rm,.int .i64 Rn,.string Ro,.slice Rp Rq Rt,.int .i64 Ru,.int .i64 Rv,.int .i64 Rx,.slice Ry Rz R0,.bool R3,.int .i64 R4] ∧ LS AH b8 2 fun pq lH pr => LS AH b9 2 fun yw yx yy => Spec prog 161 #[.pointer q0,.agg #[.int .i64 Rm,.int .i64 Rn,.string Ro,.slice Rp Rq Rt,.int .i64 Ru,.int .i64 Rv,.int .i64 Rx,.slice Ry Rz R0,.bool R3,.int .i64 R4],.slice pq lH pr,.slice yw yx yy] AH (AA R (fun z AZ => ∃ KW KX KY KZ Ka Kb Kc Kd R5,z = (.tuple #[.agg #[.int .i64 KW,.int .u64 KX,.slice KY KZ Ka,.slice Kb Kc Kd],.int .i64 R5]) ∧ R (.returned (.tuple #[.agg #[.int .i64 KW,.int .u64 KX,.slice KY KZ Ka,.slice Kb Kc Kd],.int .i64 R5])) AZ))))))))) (LI .i64 AF b8 0 fun fi => Br (fi = 1) (∃ OQ Lh OR RJ RL RM RN RO RP RQ RR RS RT RU,As AF b4 0 [.int .i64 OQ,.int .i64 Lh,.string OR,.slice RJ RL RM,.int .i64 RN,.int .i64 RO,.int .i64 RP,.slice RQ RR RS,.bool RT,.int .i64 RU] ∧ LS AF b9 2 fun ym n45 yn => Spec prog 157 #[.pointer q0,.agg #[.int .i64 OQ,.int .i64 Lh,.string OR,.slice RJ RL RM,.int .i64 RN,.int .i64 RO,.int .i64 RP,.slice RQ RR RS,.bool RT,.int .i64 RU],.slice ym n45 yn,(.func (.func 158) #[] #[(.pointer (aD b4 0)),(.pointer (aD b8 0))])] AF (AA R (fun z AH => ∃ Jt Ju Jv Jw Jx Jy Jz J0 RV,z = (.tuple #[.agg #[.int .i64 Jt,.int .u64 Ju,.slice Jv Jw Jx,.slice Jy Jz J0],.int .i64 RV]) ∧ R (.returned (.tuple #[.agg #[.int .i64 Jt,.int .u64 Ju,.slice Jv Jw Jx,.slice Jy Jz J0],.int .i64 RV])) AH))) (LI .i64 AF b9 0 fun rZ => Br (rZ = 1) (∃ RW RX RY RZ Ra Rb Rc Re Rf Rh Ri Rj Rk Rl,As AF b4 0 [.int .i64 RW,.int .i64 RX,.string RY,.slice RZ Ra Rb,.int .i64 Rc,.int .i64 Re,.int .i64 Rf,.slice Rh Ri Rj,.bool Rk,.int .i64 Rl] ∧ LS AF b8 2 fun yo n57 yp => Spec prog 157 #[.pointer q0,.agg #[.int .i64 RW,.int .i64 RX,.string RY,.slice RZ Ra Rb,.int .i64 Rc,.int .i64 Re,.int .i64 Rf,.slice Rh Ri Rj,.bool Rk,.int .i64 Rl],.slice yo n57 yp,(.func (.func 159) #[] #[(.pointer (aD b4 0)),(.pointer (aD b9 0))])] AF (AA R (fun z AH => ∃ J1 J2 J3 J4 J5 J6 J7 J8 Hd,z = (.tuple #[.agg #[.int .i64 J1,.int .u64 J2,.slice J3 J4 J5,.slice J6 J7 J8],.int .i64 Hd]) ∧ R (.returned (.tuple #[.agg #[.int .i64 J1,.int .u64 J2,.slice J3 J4 J5,.slice J6 J7 J8],.int .i64 Hd])) AH))) (LI .i64 AF b4 1 fun yq => Spec prog 128 #[.int .i64 yq] AF (AA R (CB fun t65 AH => Bo t65 (∃ J9 KA KB KC KD KE KF KG KH KI KJ KK KL KM,As AH b4 0 [.int .i64 J9,.int .i64 KA,.string KB,.slice KC KD KE,.int .i64 KF,.int .i64 KG,.int .i64 KH,.slice KI KJ KK,.bool KL,.int .i64 KM] ∧ LS AH b8 2 fun ra n69 rf => LS AH b9 2 fun yr yt yu => Spec prog 160 #[.pointer q0,.agg #[.int .i64 J9,.int .i64 KA,.string KB,.slice KC KD KE,.int .i64 KF,.int .i64 KG,.int .i64 KH,.slice KI KJ KK,.bool KL,.int .i64 KM],.slice ra n69 rf,.slice yr yt yu] AH (AA R (fun z AZ => ∃ KN KO KQ KR KS KT KU KV Jh,z = (.tuple #[.agg #[.int .i64 KN,.int .u64 KO,.slice KQ KR KS,.slice KT KU KV],.int .i64 Jh]) ∧ R (.returned (.tuple #[.agg #[.int .i64 KN,.int .u64 KO,.slice KQ KR KS,.slice KT KU KV],.int .i64 Jh])) AZ))) (∃ Rm Rn Ro Rp Rq Rt Ru Rv Rx Ry Rz R0 R3 R4,As AH b4 0 [.int .i64 Rm,.int .i64 Rn,.string Ro,.slice Rp Rq Rt,.int .i64 Ru,.int .i64 Rv,.int .i64 Rx,.slice Ry Rz R0,.bool R3,.int .i64 R4] ∧ LS AH b8 2 fun pq lH pr => LS AH b9 2 fun yw yx yy => Spec prog 161 #[.pointer q0,.agg #[.int .i64 Rm,.int .i64 Rn,.string Ro,.slice Rp Rq Rt,.int .i64 Ru,.int .i64 Rv,.int .i64 Rx,.slice Ry Rz R0,.bool R3,.int .i64 R4],.slice pq lH pr,.slice yw yx yy] AH (AA R (fun z AZ => ∃ KW KX KY KZ Ka Kb Kc Kd R5,z = (.tuple #[.agg #[.int .i64 KW,.int .u64 KX,.slice KY KZ Ka,.slice Kb Kc Kd],.int .i64 R5]) ∧ R (.returned (.tuple #[.agg #[.int .i64 KW,.int .u64 KX,.slice KY KZ Ka,.slice Kb Kc Kd],.int .i64 R5])) AZ))))))))))) ∧ (Al (Hp.set σ b4 (.cells #[.int .i64 DR,.int .i64 CL,.string DT,.slice DV DX DY,.int .i64 DS,.int .i64 DW,.int .i64 Cv,.slice Dd DZ De,.bool Cw,.int .i64 CO] 36 (0,0))) fun b9 => Al (Hp.set (Hp.set σ b4 (.cells #[.int .i64 DR,.int .i64 CL,.string DT,.slice DV DX DY,.int .i64 DS,.int .i64 DW,.int .i64 Cv,.slice Dd DZ De,.bool Cw,.int .i64 CO] 36 (0,0))) b9 (.cells #[.int .i64 0,.int .u64 0,.slice none 0 0,.slice none 0 0] 93 (0,0))) fun b8 => AJ prog (Instr.storeAt 93 (.pointer (aD b8 0)) (.agg #[.int .i64 GI,.int .u64 TS,.slice yb yc yd,.slice ye yf yh])) (Hp.set (Hp.set (Hp.set σ b4 (.cells #[.int .i64 DR,.int .i64 CL,.string DT,.slice DV DX DY,.int .i64 DS,.int .i64 DW,.int .i64 Cv,.slice Dd DZ De,.bool Cw,.int .i64 CO] 36 (0,0))) b9 (.cells #[.int .i64 0,.int .u64 0,.slice none 0 0,.slice none 0 0] 93 (0,0))) b8 (.cells #[.int .i64 0,.int .u64 0,.slice none 0 0,.slice none 0 0] 93 (0,0))) (fun _ y => Kp [C7] (Hp.set (Hp.set (Hp.set σ b4 (.cells #[.int .i64 DR,.int .i64 CL,.string DT,.slice DV DX DY,.int .i64 DS,.int .i64 DW,.int .i64 Cv,.slice Dd DZ De,.bool Cw,.int .i64 CO] 36 (0,0))) b9 (.cells #[.int .i64 0,.int .u64 0,.slice none 0 0,.slice none 0 0] 93 (0,0))) b8 (.cells #[.int .i64 0,.int .u64 0,.slice none 0 0,.slice none 0 0] 93 (0,0))) y ∧ AJ prog (Instr.storeAt 93 (.pointer (aD b9 0)) (.agg #[.int .i64 Q6,.int .u64 XG,.slice yi yj yk,.slice fU fV fW])) y (fun _ AF => LI .i64 AF b8 0 fun Hc => Br (Hc = 1) (LI .i64 AF b9 0 fun I8 => Br (I8 = 1) (∃ Xg RH kv kx ky kz k0 k8 k9 lA lB lC lD lE,As AF b4 0 [.int .i64 Xg,.int .i64 RH,.string kv,.slice kx ky kz,.int .i64 k0,.int .i64 k8,.int .i64 k9,.slice lA lB lC,.bool lD,.int .i64 lE] ∧ LI .u64 AF b8 1 fun UK => LI .u64 AF b9 1 fun lF => Spec prog 156 #[.agg #[.int .i64 Xg,.int .i64 RH,.string kv,.slice kx ky kz,.int .i64 k0,.int .i64 k8,.int .i64 k9,.slice lA lB lC,.bool lD,.int .i64 lE],.int .u64 UK,.int .u64 lF] AF (AA R (fun z AH => ∃ Xh lG,z = (.tuple #[.int .u64 Xh,.bool lG]) ∧ R (.returned (.tuple #[.agg #[.int .i64 1,.int .u64 Xh,.slice none 0 0,.slice none 0 0],.int .i64 0])) AH))) (LI .i64 AF b8 0 fun fi => Br (fi = 1) (∃ OQ Lh OR RJ RL RM RN RO RP RQ RR RS RT RU,As AF b4 0 [.int .i64 OQ,.int .i64 Lh,.string OR,.slice RJ RL RM,.int .i64 RN,.int .i64 RO,.int .i64 RP,.slice RQ RR RS,.bool RT,.int .i64 RU] ∧ LS AF b9 2 fun ym n45 yn => Spec prog 157 #[.pointer q0,.agg #[.int .i64 OQ,.int .i64 Lh,.string OR,.slice RJ RL RM,.int .i64 RN,.int .i64 RO,.int .i64 RP,.slice RQ RR RS,.bool RT,.int .i64 RU],.slice ym n45 yn,(.func (.func 158) #[] #[(.pointer (aD b4 0)),(.pointer (aD b8 0))])] AF (AA R (fun z AH => ∃ Jt Ju Jv Jw Jx Jy Jz J0 RV,z = (.tuple #[.agg #[.int .i64 Jt,.int .u64 Ju,.slice Jv Jw Jx,.slice Jy Jz J0],.int .i64 RV]) ∧ R (.returned (.tuple #[.agg #[.int .i64 Jt,.int .u64 Ju,.slice Jv Jw Jx,.slice Jy Jz J0],.int .i64 RV])) AH))) (LI .i64 AF b9 0 fun rZ => Br (rZ = 1) (∃ RW RX RY RZ Ra Rb Rc Re Rf Rh Ri Rj Rk Rl,As AF b4 0 [.int .i64 RW,.int .i64 RX,.string RY,.slice RZ Ra Rb,.int .i64 Rc,.int .i64 Re,.int .i64 Rf,.slice Rh Ri Rj,.bool Rk,.int .i64 Rl] ∧ LS AF b8 2 fun yo n57 yp => Spec prog 157 #[.pointer q0,.agg #[.int .i64 RW,.int .i64 RX,.string RY,.slice RZ Ra Rb,.int .i64 Rc,.int .i64 Re,.int .i64 Rf,.slice Rh Ri Rj,.bool Rk,.int .i64 Rl],.slice yo n57 yp,(.func (.func 159) #[] #[(.pointer (aD b4 0)),(.pointer (aD b9 0))])] AF (AA R (fun z AH => ∃ J1 J2 J3 J4 J5 J6 J7 J8 Hd,z = (.tuple #[.agg #[.int .i64 J1,.int .u64 J2,.slice J3 J4 J5,.slice J6 J7 J8],.int .i64 Hd]) ∧ R (.returned (.tuple #[.agg #[.int .i64 J1,.int .u64 J2,.slice J3 J4 J5,.slice J6 J7 J8],.int .i64 Hd])) AH))) (LI .i64 AF b4 1 fun yq => Spec prog 128 #[.int .i64 yq] AF (AA R (CB fun t65 AH => Bo t65 (∃ J9 KA KB KC KD KE KF KG KH KI KJ KK KL KM,As AH b4 0 [.int .i64 J9,.int .i64 KA,.string KB,.slice KC KD KE,.int .i64 KF,.int .i64 KG,.int .i64 KH,.slice KI KJ KK,.bool KL,.int .i64 KM] ∧ LS AH b8 2 fun ra n69 rf => LS AH b9 2 fun yr yt yu => Spec prog 160 #[.pointer q0,.agg #[.int .i64 J9,.int .i64 KA,.string KB,.slice KC KD KE,.int .i64 KF,.int .i64 KG,.int .i64 KH,.slice KI KJ KK,.bool KL,.int .i64 KM],.slice ra n69 rf,.slice yr yt yu] AH (AA R (fun z AZ => ∃ KN KO KQ KR KS KT KU KV Jh,z = (.tuple #[.agg #[.int .i64 KN,.int .u64 KO,.slice KQ KR KS,.slice KT KU KV],.int .i64 Jh]) ∧ R (.returned (.tuple #[.agg #[.int .i64 KN,.int .u64 KO,.slice KQ KR KS,.slice KT KU KV],.int .i64 Jh])) AZ))) (∃ Rm Rn Ro Rp Rq Rt Ru Rv Rx Ry Rz R0 R3 R4,As AH b4 0 [.int .i64 Rm,.int .i64 Rn,.string Ro,.slice Rp Rq Rt,.int .i64 Ru,.int .i64 Rv,.int .i64 Rx,.slice Ry Rz R0,.bool R3,.int .i64 R4] ∧ LS AH b8 2 fun pq lH pr => LS AH b9 2 fun yw yx yy => Spec prog 161 #[.pointer q0,.agg #[.int .i64 Rm,.int .i64 Rn,.string Ro,.slice Rp Rq Rt,.int .i64 Ru,.int .i64 Rv,.int .i64 Rx,.slice Ry Rz R0,.bool R3,.int .i64 R4],.slice pq lH pr,.slice yw yx yy] AH (AA R (fun z AZ => ∃ KW KX KY KZ Ka Kb Kc Kd R5,z = (.tuple #[.agg #[.int .i64 KW,.int .u64 KX,.slice KY KZ Ka,.slice Kb Kc Kd],.int .i64 R5]) ∧ R (.returned (.tuple #[.agg #[.int .i64 KW,.int .u64 KX,.slice KY KZ Ka,.slice Kb Kc Kd],.int .i64 R5])) AZ))))))))) (LI .i64 AF b8 0 fun fi => Br (fi = 1) (∃ OQ Lh OR RJ RL RM RN RO RP RQ RR RS RT RU,As AF b4 0 [.int .i64 OQ,.int .i64 Lh,.string OR,.slice RJ RL RM,.int .i64 RN,.int .i64 RO,.int .i64 RP,.slice RQ RR RS,.bool RT,.int .i64 RU] ∧ LS AF b9 2 fun ym n45 yn => Spec prog 157 #[.pointer q0,.agg #[.int .i64 OQ,.int .i64 Lh,.string OR,.slice RJ RL RM,.int .i64 RN,.int .i64 RO,.int .i64 RP,.slice RQ RR RS,.bool RT,.int .i64 RU],.slice ym n45 yn,(.func (.func 158) #[] #[(.pointer (aD b4 0)),(.pointer (aD b8 0))])] AF (AA R (fun z AH => ∃ Jt Ju Jv Jw Jx Jy Jz J0 RV,z = (.tuple #[.agg #[.int .i64 Jt,.int .u64 Ju,.slice Jv Jw Jx,.slice Jy Jz J0],.int .i64 RV]) ∧ R (.returned (.tuple #[.agg #[.int .i64 Jt,.int .u64 Ju,.slice Jv Jw Jx,.slice Jy Jz J0],.int .i64 RV])) AH))) (LI .i64 AF b9 0 fun rZ => Br (rZ = 1) (∃ RW RX RY RZ Ra Rb Rc Re Rf Rh Ri Rj Rk Rl,As AF b4 0 [.int .i64 RW,.int .i64 RX,.string RY,.slice RZ Ra Rb,.int .i64 Rc,.int .i64 Re,.int .i64 Rf,.slice Rh Ri Rj,.bool Rk,.int .i64 Rl] ∧ LS AF b8 2 fun yo n57 yp => Spec prog 157 #[.pointer q0,.agg #[.int .i64 RW,.int .i64 RX,.string RY,.slice RZ Ra Rb,.int .i64 Rc,.int .i64 Re,.int .i64 Rf,.slice Rh Ri Rj,.bool Rk,.int .i64 Rl],.slice yo n57 yp,(.func (.func 159) #[] #[(.pointer (aD b4 0)),(.pointer (aD b9 0))])] AF (AA R (fun z AH => ∃ J1 J2 J3 J4 J5 J6 J7 J8 Hd,z = (.tuple #[.agg #[.int .i64 J1,.int .u64 J2,.slice J3 J4 J5,.slice J6 J7 J8],.int .i64 Hd]) ∧ R (.returned (.tuple #[.agg #[.int .i64 J1,.int .u64 J2,.slice J3 J4 J5,.slice J6 J7 J8],.int .i64 Hd])) AH))) (LI .i64 AF b4 1 fun yq => Spec prog 128 #[.int .i64 yq] AF (AA R (CB fun t65 AH => Bo t65 (∃ J9 KA KB KC KD KE KF KG KH KI KJ KK KL KM,As AH b4 0 [.int .i64 J9,.int .i64 KA,.string KB,.slice KC KD KE,.int .i64 KF,.int .i64 KG,.int .i64 KH,.slice KI KJ KK,.bool KL,.int .i64 KM] ∧ LS AH b8 2 fun ra n69 rf => LS AH b9 2 fun yr yt yu => Spec prog 160 #[.pointer q0,.agg #[.int .i64 J9,.int .i64 KA,.string KB,.slice KC KD KE,.int .i64 KF,.int .i64 KG,.int .i64 KH,.slice KI KJ KK,.bool KL,.int .i64 KM],.slice ra n69 rf,.slice yr yt yu] AH (AA R (fun z AZ => ∃ KN KO KQ KR KS KT KU KV Jh,z = (.tuple #[.agg #[.int .i64 KN,.int .u64 KO,.slice KQ KR KS,.slice KT KU KV],.int .i64 Jh]) ∧ R (.returned (.tuple #[.agg #[.int .i64 KN,.int .u64 KO,.slice KQ KR KS,.slice KT KU KV],.int .i64 Jh])) AZ))) (∃ Rm Rn Ro Rp Rq Rt Ru Rv Rx Ry Rz R0 R3 R4,As AH b4 0 [.int .i64 Rm,.int .i64 Rn,.string Ro,.slice Rp Rq Rt,.int .i64 Ru,.int .i64 Rv,.int .i64 Rx,.slice Ry Rz R0,.bool R3,.int .i64 R4] ∧ LS AH b8 2 fun pq lH pr => LS AH b9 2 fun yw yx yy => Spec prog 161 #[.pointer q0,.agg #[.int .i64 Rm,.int .i64 Rn,.string Ro,.slice Rp Rq Rt,.int .i64 Ru,.int .i64 Rv,.int .i64 Rx,.slice Ry Rz R0,.bool R3,.int .i64 R4],.slice pq lH pr,.slice yw yx yy] AH (AA R (fun z AZ => ∃ KW KX KY KZ Ka Kb Kc Kd R5,z = (.tuple #[.agg #[.int .i64 KW,.int .u64 KX,.slice KY KZ Ka,.slice Kb Kc Kd],.int .i64 R5]) ∧ R (.returned (.tuple #[.agg #[.int .i64 KW,.int .u64 KX,.slice KY KZ Ka,.slice Kb Kc Kd],.int .i64 R5])) AZ)))))))))))) : Spec prog 105 #[.pointer q0,.agg #[.int .i64 DR,.int .i64 CL,.string DT,.slice DV DX DY,.int .i64 DS,.int .i64 DW,.int .i64 Cv,.slice Dd DZ De,.bool Cw,.int .i64 CO],.slice p2 n2 c2] σ R := M.start h ok
end Cz
namespace Gq
variable {s0 : ByteArray} {x3 : Int}
def M : Fw := ⟨prog,131,f131,[90],[],false,[],[],[(224,[(0,wT),(3,wI)])]⟩
theorem ok : M.Ok := ⟨.cons call90 (AG.nil),mixed,func131,by kernel_rfl⟩
def JD := M.pt 0
theorem start (h : JD R s0 0 σ) : Spec prog 131 #[.string s0] σ R := M.start h ok
theorem BR (h : Br (x3 < ((ByteArray.size s0 : Nat) : Int)) (∃ u11 : UInt8,0 ≤ x3 ∧ (ByteArray.data s0)[Int.toNat x3]? = some u11 ∧ Spec prog 90 #[(.int .u8 ((UInt8.toNat u11 : Nat) : Int))] σ (AA R (CB fun t12 y => Bo t12 (AM (x3 + 1) ∧ JD R s0 (x3 + 1) y) (R (.returned (.int .i64 x3)) y)))) (R (.returned (.int .i64 x3)) σ)) : JD R s0 x3 σ := M.of h ok rfl
end Gq
namespace DB
variable {q0 : Option Addr}
def M : Fw := ⟨prog,139,f139,[95],[],false,[],[],[]⟩
theorem ok : M.Ok := ⟨.cons call95 (AG.nil),mixed,func139,by kernel_rfl⟩
theorem start (h : Spec prog 95 #[.pointer q0,(.func (.func 171) #[.pointer q0] #[]),.int .i64 5,.int .i64 10] σ (AA R (fun z y => z = (.tuple #[]) ∧ R (.returned (.tuple #[])) y))) : Spec prog 139 #[.pointer q0] σ R := M.start h ok
end DB
namespace B4
variable {s0 : ByteArray} {x1 : Int}
def M : Fw := ⟨prog,169,f169,[],[],false,[],[],[]⟩
theorem ok : M.Ok := ⟨AG.nil,mixed,func169,by kernel_rfl⟩
theorem start (h : EN prog 209 #[.string s0,.int .u8 x1] σ (CI .i64 fun x7 y => R (.returned (.int .i64 x7)) y)) : Spec prog 169 #[.string s0,.int .u8 x1] σ R := M.start h ok
end B4
namespace A9
variable {q0 p3 : Option Addr} {n3 c3 : Nat}
def M : Fw := ⟨prog,170,f170,[135,136,210,211],[],false,[],[],[(480,[(0,wQ),(3,wL)]),(965,[(0,wQ),(3,wL)])]⟩
theorem ok : M.Ok := ⟨.cons call135 (.cons call136 (.cons call210 (.cons call211 (AG.nil)))),mixed,func170,by kernel_rfl⟩
def BF := M.pt 0
def VL := M.pt 1
theorem start (h : Spec prog 210 #[.pointer q0,(.string (ByteArray.mk #[40]))] σ (AA R (fun z y => z = (.tuple #[]) ∧ BF R q0 none 0 0 y))) : Spec prog 170 #[.pointer q0] σ R := M.start h ok
theorem Ay (h : Spec prog 136 #[.pointer q0,.int .i64 5,(.string (ByteArray.mk #[41]))] σ (AA R (CB fun t7 y => Bn t7 (Br (0 < (n3 : Int)) (Spec prog 210 #[.pointer q0,(.string (ByteArray.mk #[44]))] y (AA R (fun z AF => z = (.tuple #[]) ∧ VL R q0 p3 n3 c3 AF))) (VL R q0 p3 n3 c3 y)) (Spec prog 135 #[.pointer q0] y (AA R (fun z AF => ∃ H4 VP AKO AKP,z = (.agg #[.int .i64 H4,.int .i64 VP,.string AKO,.int .i64 AKP]) ∧ R (.returned (.slice p3 n3 c3)) AF)))))) : BF R q0 p3 n3 c3 σ := M.of h ok rfl
theorem QJ (h : Spec prog 211 #[.pointer q0] σ (AA R (CT fun s16 y => Al y fun b17 => AJ prog (Builtin.append_ #[34,34] 34 #[.slice p3 n3 c3,(.slice (aD b17 0) 1 1)]) (Hp.set y b17 (.cells #[.string s16] 9 (0,0))) (CS fun p18 n18 c18 AF => BF R q0 p18 n18 c18 AF)))) : VL R q0 p3 n3 c3 σ := M.of h ok rfl
end A9
namespace DC
variable {p0 : Option Addr} {n0 c0 : Nat}
def M : Fw := ⟨prog,185,f185,[186],[],false,[],[],[]⟩
theorem ok : M.Ok := ⟨.cons call186 (AG.nil),mixed,func185,by kernel_rfl⟩
theorem start (h : AM ((n0 : Int) - 1) ∧ Pq p0 fun b7 o7 => In (((n0 : Int) - 1)) (n0 : Int) ∧ LI .u64 σ b7 (o7 + Int.toNat ((n0 : Int) - 1) * 1) fun x8 => Spec prog 186 #[.int .u64 x8] σ (AA R (CI .u64 fun x9 y => R (.returned (.int .u64 x9)) y))) : Spec prog 185 #[.slice p0 n0 c0] σ R := M.start h ok
end DC
namespace DD
variable {p0 p1 : Option Addr} {n0 c0 n1 c1 : Nat}
def M : Fw := ⟨prog,189,f189,[190],[],false,[],[],[]⟩
theorem ok : M.Ok := ⟨.cons call190 (AG.nil),mixed,func189,by kernel_rfl⟩
theorem start (h : AM ((n0 : Int) - 1) ∧ Pq p0 fun b9 o9 => In (((n0 : Int) - 1)) (n0 : Int) ∧ LI .u64 σ b9 (o9 + Int.toNat ((n0 : Int) - 1) * 1) fun x10 => In 0 (n0 : Int) ∧ LI .u64 σ b9 o9 fun Dn => Spec prog 190 #[.int .u64 x10,.int .u64 Dn] σ (AA R (CI .u64 fun ZS y => R (.returned (.int .u64 ZS)) y))) : Spec prog 189 #[.slice p0 n0 c0,.slice p1 n1 c1] σ R := M.start h ok
end DD
namespace dY
variable {Er EM Ph M7 Hj JB : Int} {Pj : ByteArray} {UE RB p1 : Option Addr} {TT UF QI RC n1 c1 : Nat} {MU : Bool}
def M : Fw := ⟨prog,207,f207,[146,149,150],[2],false,[],[],[]⟩
theorem ok : M.Ok := ⟨.cons call146 (.cons call149 (.cons call150 (AG.nil))),mixed,func207,by kernel_rfl⟩
theorem start (h : ∀ b2 : Nat,Br (Hj = 3) (Spec prog 149 #[.slice p1 n1 c1,.slice RB QI RC] σ (AA R (CS fun LH n11 LJ y => R (.returned (.slice LH n11 LJ)) y))) (Spec prog 150 #[.slice p1 n1 c1,.slice RB QI RC] σ (AA R (CS fun dT n15 XO y => Spec prog 146 #[.slice dT n15 XO] y (AA R (CS fun aP n16 WN AF => R (.returned (.slice aP n16 WN)) AF)))))) : Spec prog 207 #[.agg #[.int .i64 Er,.int .i64 EM,.string Pj,.slice UE TT UF,.int .i64 Ph,.int .i64 M7,.int .i64 Hj,.slice RB QI RC,.bool MU,.int .i64 JB],.slice p1 n1 c1] σ R := M.start h ok
end dY
namespace ET
variable {q0 : Option Addr}
def M : Fw := ⟨prog,211,f211,[66,67,126,135],[],false,[],[],[(14,[(0,wQ)])]⟩
theorem ok : M.Ok := ⟨.cons call66 (.cons call67 (.cons call126 (.cons call135 (AG.nil)))),mixed,func211,by kernel_rfl⟩
def JD := M.pt 0
theorem start (h : Spec prog 66 #[.pointer q0] σ (AA R (fun z y => ∃ Fm FR HM x4d,z = (.agg #[.int .i64 Fm,.int .i64 FR,.string HM,.int .i64 x4d]) ∧ Br (Fm ≠ 3) (Spec prog 67 #[.pointer q0] y (AA R (fun z AF => z = (.tuple #[]) ∧ JD R q0 AF))) (Spec prog 66 #[.pointer q0] y (AA R (fun z AF => ∃ x9a x9b s9c x9d,z = (.agg #[.int .i64 x9a,.int .i64 x9b,.string s9c,.int .i64 x9d]) ∧ Spec prog 126 #[.string s9c] AF (AA R (CB fun t11 AH => Bn t11 (Spec prog 67 #[.pointer q0] AH (AA R (fun z AZ => z = (.tuple #[]) ∧ JD R q0 AZ))) (JD R q0 AH))))))))) : Spec prog 211 #[.pointer q0] σ R := M.start h ok
theorem BR (h : Spec prog 135 #[.pointer q0] σ (AA R (fun z y => ∃ Q6 XG kI AKQ,z = (.agg #[.int .i64 Q6,.int .i64 XG,.string kI,.int .i64 AKQ]) ∧ R (.returned (.string kI)) y))) : JD R q0 σ := M.of h ok rfl
end ET
namespace strings_Split
variable {s0 s1 : ByteArray}
end strings_Split
namespace FK
variable {p0 DV Dd p2 : Option Addr} {n0 c0 DX DY DZ De n2 c2 b3 : Nat} {DR CL DS DW Cv CO : Int} {DT : ByteArray} {Cw : Bool}
def M : Fw := ⟨prog,224,f224,[],[5],false,[],[],[]⟩
theorem ok : M.Ok := ⟨AG.nil,mixed,func224,by kernel_rfl⟩
theorem start (h : ∀ b5 : Nat,∃ v9,Hp.ld σ ⟨b3,0,none⟩ = some v9 ∧ ∃ (f11 : Nat) (Xi Xj : Array Value),v9 = .func (.func f11) Xi Xj ∧ Enters prog f11 ∧ Spec prog f11 (Xi ++ #[.slice p0 n0 c0] ++ Xj) σ (AA R (CI .u64 fun x11 y => R (.returned (.tuple #[.int .u64 x11,.bool true])) y))) : Spec prog 224 #[.slice p0 n0 c0,.agg #[.int .i64 DR,.int .i64 CL,.string DT,.slice DV DX DY,.int .i64 DS,.int .i64 DW,.int .i64 Cv,.slice Dd DZ De,.bool Cw,.int .i64 CO],.slice p2 n2 c2,(.pointer (aD b3 0))] σ R := M.start h ok
end FK
namespace EU
variable {q0 : Option Addr} {v1 : Value}
def M : Fw := ⟨prog,251,f251,[66,97,135],[],false,[],[],[(6,[(0,wQ),(1,wV)])]⟩
theorem ok : M.Ok := ⟨.cons call66 (.cons call97 (.cons call135 (AG.nil))),mixed,func251,by kernel_rfl⟩
def pj := M.pt 0
theorem start (h : Pq q0 fun b5 o5 => LI .i64 σ b5 (o5 + 1) fun x7 => Br (x7 = 64) (Spec prog 66 #[(.pointer (aD b5 o5))] σ (AA R (fun z y => ∃ fj Pp fk rh,z = (.agg #[.int .i64 fj,.int .i64 Pp,.string fk,.int .i64 rh]) ∧ Spec prog 97 #[(.pointer (aD b5 o5)),.int .i64 182,.agg #[.int .i64 fj,.int .i64 Pp,.string fk,.int .i64 rh]] y (AA R (fun z AF => z = (.tuple #[]) ∧ pj R (aD b5 o5) v1 AF))))) (pj R (aD b5 o5) v1 σ)) : Spec prog 251 #[.pointer q0,v1] σ R := M.Du h ok [(0,.o (.Q q0)),(1,.o (.V v1))] rfl rfl (by kernel_rfl)
theorem RE (h : Pq q0 fun BC O3 => LI .i64 σ BC (O3 + 1) fun x16 => AM (x16 + 1) ∧ AJ prog (Instr.storeAt 3 (.pointer (aD BC (O3 + 1))) (.int .i64 (x16 + 1))) σ (fun _ y => Spec prog 135 #[(.pointer (aD BC O3))] y (AA R (fun z AF => ∃ AKR AKS AKT AKU,z = (.agg #[.int .i64 AKR,.int .i64 AKS,.string AKT,.int .i64 AKU]) ∧ ∃ (f23 : Nat) (u6 u7 : Array Value),v1 = .func (.func f23) u6 u7 ∧ Enters prog f23 ∧ Spec prog f23 (u6 ++ #[] ++ u7) AF (AA R (fun z AH => z = (.tuple #[]) ∧ LI .i64 AH BC (O3 + 1) fun JH => AM (JH - 1) ∧ AJ prog (Instr.storeAt 3 (.pointer (aD BC (O3 + 1))) (.int .i64 (JH - 1))) AH (fun _ AZ => R (.returned (.tuple #[])) AZ))))))) : pj R q0 v1 σ := M.of h ok rfl
end EU
namespace EV
variable {x0 : Int}
def M : Fw := ⟨prog,302,f302,[],[],false,[],[],[]⟩
theorem ok : M.Ok := ⟨AG.nil,mixed,func302,by kernel_rfl⟩
theorem start (h : Df (Go.bits .or .u8 x0 32) fun x4 => R (.returned (.int .u8 x4)) σ) : Spec prog 302 #[.int .u8 x0] σ R := M.start h ok
end EV
namespace B8
variable {s0 s1 : ByteArray}
def M : Fw := ⟨prog,315,f315,[],[],false,[],[],[]⟩
theorem ok : M.Ok := ⟨AG.nil,mixed,func315,by kernel_rfl⟩
theorem start (h : Br ((((ByteArray.size s1 : Nat) : Int) : Int) ≤ ((ByteArray.size s0 : Nat) : Int)) (∃ s14,YF prog (Instr.sliceAt 9 (.string s0) none (some (.int .i64 ((ByteArray.size s1 : Nat) : Int))) none) σ (.string s14) ∧ R (.returned (.bool (ByteArray.toList s14 == ByteArray.toList s1))) σ) (R (.returned (.bool false)) σ)) : Spec prog 315 #[.string s0,.string s1] σ R := M.start h ok
end B8
end TwW
end
end
