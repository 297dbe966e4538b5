/-
  Part 2 of the proof that the law EvalSetsUptoCardSaid of the given program answers true for every input of the given statement; the input reads behind the call as it did. (The texts: packed from 7 texts. Names are shortened by the packing program, for the bound on size.)
-/
import Derived.Test.YtlmhidjgplomgaaGreatDoorA1
set_option linter.all false
section
namespace Tw
open Go
variable [FB]
def lG (P : Program) : Op → Bool
 | .call c => match c.callee with
   | .builtin .len => false
   | .builtin .cap => false
   | .builtin .min => false
   | .builtin .max => false
   | .builtin .real => false
   | .builtin .imag => false
   | .builtin .complex => false
   | _ => true
 | .convert T T' _ => match P.underlying T,P.underlying T' with
   | some (.int _),some (.int _) => false
   | _,_ => true
 | .box .. => true
 | .alloc .. => true
 | .store .. => true
 | .buildSlice .. => true
 | .makeSlice .. => true
 | .mapUpdate .. => true
 | .makeMap .. => true
 | .insert .. => true
 | .range .. => true
 | .next .. => true
 | .lookup .. => true
 | .entryStore .. => true
 | .mapEntry .. => true
 | .makeChan .. => true
 | .binOp b T _ _ _ => flB b && AK1 P T
 | _ => false
def iE (s : S) : Option Operand → Option (Option Value)
 | none => some none
 | some x => match s.op x with
   | some v => some (some (v.den s.vl))
   | none => none
def sS (P : Program) (b : BinOp) (T : TypeId) (x y : Option SV) : Bool := match XH x,XH y with
 | some _,some _ => true
 | _,_ => match P.underlying T with
   | some .string => match b with
     | .eql => true
     | .neq => true
     | .add => true
     | _ => false
   | some (.pointer _) => true
   | some .bool => true
   | _ => false
def AK2 : Option SV → Bool
 | some (.v (.a (.sl _ _ _))) => true
 | _ => false
def anyM (P : Program) (op : Op) (ty : TypeId) (s : S) : Option (Sem Value) := match op with
 | .slice T x lo hi mx => match AK2 (s.op x) && mx.isNone with
   | true => none
   | false => match s.op x,iE s lo,iE s hi,iE s mx with
     | some w,some l,some h,some m => some (Instr.sliceAt T (w.den s.vl) l h m)
     | _,_,_,_ => none
 | .unOp u _ x => match u,s.op x with
   | .not,_ => none
   | .neg,v => match XH v,v with
     | some _,_ => none
     | none,some v => some (Op.unary .neg (v.den s.vl))
     | none,none => none
   | u,some v => some (Op.unary u (v.den s.vl))
   | _,none => none
 | .binOp b T x y _ => match sS P b T (s.op x) (s.op y) with
   | true => none
   | false => match s.op x,s.op y with
     | some u,some v => some (do eqGuard b T x y (u.den s.vl) (v.den s.vl); binOp b T (u.den s.vl) (v.den s.vl))
     | _,_ => none
 | .call c => match c.callee,c.args.toList,c.argTypes.toList with
   | .builtin .len,[x],[T] => match s.op x with
     | some (.v (.a (.mp m))) => some (Builtin.len_ #[T] ty #[.map m])
     | _ => none
   | .builtin .real,[x],_ => match s.op x with
     | some v => some (Builtin.real_ c.argTypes ty #[v.den s.vl])
     | none => none
   | .builtin .imag,[x],_ => match s.op x with
     | some v => some (Builtin.imag_ c.argTypes ty #[v.den s.vl])
     | none => none
   | .builtin .complex,[x,y],_ => match s.op x,s.op y with
     | some u,some v => some (Builtin.complex_ c.argTypes ty #[u.den s.vl,v.den s.vl])
     | _,_ => none
   | _,_,_ => none
 | _ => none
theorem Ov {s : S} {J : Env} {x : Option Operand} {v : Option Value} (h : iE s x = some v) : x.map (AD (s.e J)) = v := by
 cases x with
 | none => simp only [iE,Option.some.injEq] at h; subst h; rfl
 | some x =>
   simp only [iE] at h
   split at h
   · rename_i u hu
     cases h
     simp only [Option.map_some]
     rw [ev hu]
   · cases h
theorem iF {P : Program} {op : Op} {ty : TypeId} {s : S} {m : Sem Value} (h : anyM P op ty s = some m) (J : Env) : ∀ o : Oper,o.op = op → o.type = ty → execOp (AD (s.e J)) o = (do pure (Next.value (← m))) := fun o ho ht => by
 unfold anyM at h
 split at h
 · rename_i T x lo hi mx
   split at h
   · cases h
   · split at h
     · rename_i w l hh mm h1 h2 h3 h4
       cases h
       simp only [execOp,ho,Ov h2,Ov h3,Ov h4,ev h1]
     · cases h
 · rename_i u T x
   split at h
   · cases h
   · split at h
     · cases h
     · rename_i hv
       cases h
       simp only [execOp,ho,ev hv]
     · cases h
   · rename_i hv
     cases h
     simp only [execOp,ho,ev hv]
   · cases h
 · rename_i b T x y T'
   split at h
   · cases h
   · split at h
     · rename_i u v hu hv
       cases h
       simp only [execOp,ho,ev hu,ev hv]
     · cases h
 · rename_i c
   obtain ⟨ce,AWh,ts⟩ := c
   split at h
   · rename_i x T h1 h2 h3
     simp only at h1 h2 h3
     have e1 : AWh = #[x] := by rw [← Array.toList_inj]; simpa using h2
     have e2 : ts = #[T] := by rw [← Array.toList_inj]; simpa using h3
     subst h1 e1 e2
     split at h
     · rename_i mm hx
       cases h
       exact bK (by rw [ev hx]; rfl) o ho ht
     · cases h
   · rename_i x h1 h2
     simp only at h1 h2 h
     have e1 : AWh = #[x] := by rw [← Array.toList_inj]; simpa using h2
     subst h1 e1
     split at h
     · rename_i v hv
       cases h
       exact Pj (ev hv) o ho ht
     · cases h
   · rename_i x h1 h2
     simp only at h1 h2 h
     have e1 : AWh = #[x] := by rw [← Array.toList_inj]; simpa using h2
     subst h1 e1
     split at h
     · rename_i v hv
       cases h
       exact Pk (ev hv) o ho ht
     · cases h
   · rename_i x y h1 h2
     simp only at h1 h2 h
     have e1 : AWh = #[x,y] := by rw [← Array.toList_inj]; simpa using h2
     subst h1 e1
     split at h
     · rename_i u v hu hv
       cases h
       exact J5 (ev hu) (ev hv) o ho ht
     · cases h
   · cases h
 · cases h
def zG (P : Program) (ty : TypeId) (m : Sem Value) (s : S) (K : SV → S → Prop) : Prop := s.ex P ty fun v s => YF P m s.σ (v.den s.vl) ∧ K v s
theorem Rc {P : Program} {op : Op} {ty : TypeId} {s : S} {m : Sem Value} {K : SV → S → Prop} (hm : anyM P op ty s = some m) (h : zG P ty m s K) : ∃ v s',s.IH s' ∧ (∀ J,Yd P (s.e J) s.b s.σ op ty (v.den s'.vl)) ∧ K v s' := by
 obtain ⟨v,s',h1,hy,hk⟩ := S.Ra h
 rw [h1.σ] at hy
 exact ⟨v,s',h1,fun J => Yd.any (iF hm J) hy,hk⟩
def Re (ops : Array Oper) (gd : Option (Nat × Bool)) (s : S) (K : Bool → S → Prop) : Prop := match gd with
 | none => K true s
 | some (j,want) => match (ops[j]?).bind (·.dst) with
   | none => False
   | some d => match Vy s.env d with
     | some (.v (.a .un)) => K false s
     | v => s.sO v fun t s => K (t == want) s
theorem I2 {ops : Array Oper} {gd : Option (Nat × Bool)} {s : S} {K : Bool → S → Prop} (h : Re ops gd s K) : ∃ b s',s.IH s' ∧ (∀ J,AP ops (s.e J) gd = b) ∧ K b s' := by
 unfold Re at h
 split at h
 · exact ⟨true,s,.refl s,fun _ => rfl,h⟩
 · rename_i j want
   split at h
   · cases h
   · rename_i d hd
     split at h
     · rename_i hv
       refine ⟨false,s,.refl s,fun J => ?_,h⟩
       have : s.e J d = undef := EO hv
       simp only [AP,hd,this]
       rfl
     · obtain ⟨t,s',x,h1,h2,h3,h4,h⟩ := S.FT h
       refine ⟨_,s',h1,fun J => ?_,h⟩
       have : s.e J d = .bool t := (EO h3).trans h4
       simp only [AP,hd,this]
       cases t <;> cases want <;> rfl
def fC (J : Env) (K : S → Prop) : Env → Bx → Hp → Prop := fun e bx σ => ∃ s,e = s.e J ∧ bx = s.b ∧ σ = s.σ ∧ K s
structure Cx extends bm where
 n : Nat
 Ow : List (Nat × TypeId) := []
structure Cx.Ok (c : Cx) (g : Gl) : Prop where
 P : c.P = g.P
 R : c.R = g.R
 E : AG g.P c.Nc
 n : c.n = g.n
 G0 : g.G0 = none
 ds : g.ds = []
def kp0 : KP := fun _ _ F => F
def iG (l : List FQ) (i : Nat) (o : Nat) (xs : List Bk) : List FQ := match l with
 | [] => []
 | (j,t,cs) :: l => bif Nat.beq j i then (j,t,bd cs o xs) :: l else (j,t,cs) :: iG l i o xs
def Rf {α : Type} : List α → Nat
 | [] => 0
 | _ :: l => Rf l + 1
theorem Q1 {α : Type} : ∀ l : List α,Rf l = l.length
 | [] => rfl
 | _ :: l => by simp only [Rf,List.length_cons]; rw [Q1 l]
def Ox : List Bk → List Value
 | [] => []
 | .raw v :: l => v :: Ox l
 | .un :: l => undef :: Ox l
 | _ :: l => Ox l
def zH (F : Prop) : List Value → Prop
 | [] => F
 | [v] => (Value.oneCell' v = true) ∧ F
 | l => zI l ∧ F
where
 zI : List Value → Prop
   | [] => True
   | [v] => Value.oneCell' v = true
   | v :: l => Value.oneCell' v = true ∧ zI l
def SV.bn : SV → Option (List Bk)
 | .v (.a x) => some [x]
 | .v (.agg l) => some l
 | .Up _ => none
def mapOf (P : Program) (l : List (Nat × TypeId)) (x : Operand) : Option (TypeId × TypeId) := match x with
 | .tmp t => match l.find? fun p => Nat.beq p.1 t with
   | some p => match P.underlying p.2 with
     | some (.map k v) => some (k,v)
     | _ => none
   | none => none
 | _ => none
def lH (c : Cx) (dst : Option Nat) (x : Operand) (ty : TypeId) (s : S) (K : S → Prop) : Prop := match dst,s.op x,mapOf c.P c.Ow x with
 | some d,some u,some (tk,tv) => AK c.P (Instr.next (u.den s.vl) false ty) s.σ (fun v σ1 => (v = (.tuple #[(.bool false)]) ∧ K ((s.hp σ1).put (some d) (.Up [.a (.bl false)]))) ∨
     (match s.ok with
       | true => j6 c.P tk s.vl fun a vl => j6 c.P tv vl fun b vl => v = (SV.Up [.a (.bl true),a,b]).den vl ∧ K (((s.hp σ1).w vl).put (some d) (.Up [.a (.bl true),a,b]))
       | false => False))
 | _,_,_ => False
def zJ (c : Cx) (T : TypeId) (i o : Nat) (v : SV) (s : S) (K : S → Prop) : Prop := match v.bn,Xa c.P T with
 | some l,some n => match Xj s.bx i with
   | some (t,cs) => match Nat.beq (Rf l) n && Nat.ble (o + Rf l) (Rf cs) with
     | true => zH (K ⟨s.env,iG s.bx i o l,s.vl,s.σ⟩) (Ox l)
     | false => False
   | none => False
 | _,_ => False
def lI (c : Cx) (ops : Array Oper) (i : Nat) (s : S) (K : S → Prop) : Prop := match ops[i]? with
 | none => False
 | some o => match HL o.dst c.n with
   | false => False
   | true => Re ops o.guard s fun b s => match b with
     | false => K (s.put o.dst (.at .un))
     | true => match o.op with
       | .load T x => ldV c.P T x s fun _ v s => K (s.put o.dst v)
       | .mapUpdate T m k v => match o.dst,s.op m,s.op k,s.op v with
         | none,some m,some k,some v => AK c.P (Instr.mapUpdate T (m.den s.vl) (k.den s.vl) (v.den s.vl)) s.σ (fun _ σ1 => K (s.hp σ1))
         | _,_,_,_ => False
       | .insert T m k v => match o.dst,s.op m,s.op k,s.op v with
         | none,some m,some k,some v => AK c.P (Instr.mapUpdate T (m.den s.vl) (k.den s.vl) (v.den s.vl)) s.σ (fun _ σ1 => K (s.hp σ1))
         | _,_,_,_ => False
       | .next x false => lH c o.dst x o.type s K
       | .entry x => match s.op x,mapOf c.P c.Ow x with
         | some u,some (tk,tv) => AK c.P (Instr.entry (u.den s.vl)) s.σ (fun v σ1 => Hu (lD c.P tk tv) o.dst (s.hp σ1) s.σ v kp0 K)
         | _,_ => False
       | .panic x => match s.op x with
         | some (.v (.a (.raw (.iface T u)))) => c.R (.panicked [{ v := .iface T u,recovered := false }]) s.σ
         | _ => False
       | .store T x y => match o.dst,kz (s.op x),s.op y with
         | none,some (.bx i b),some v => zJ c T i b v s K
         | _,_,_ => iC c.tobm o.dst (.store T x y) o.type s kp0 K
       | op => match lG c.P op,anyM c.P op o.type s with
         | true,_ => iC c.tobm o.dst op o.type s kp0 K
         | false,some m => zG c.P o.type m s fun v s => K (s.put o.dst v)
         | false,none => yv c.P c.wr op s fun v s => K (s.put o.dst v)
def sT (c : Cx) (ops : Array Oper) : List Nat → S → (S → Prop) → Prop
 | [],s,K => K s
 | i :: is,s,K => lI c ops i s fun s => sT c ops is s K
section
variable {g : Gl} {ops : Array Oper} {i : Nat} {J : Env} {s : S} {K : S → Prop} {c : Cx}
theorem fD {s s' : S} {K : Env → Bx → Hp → Prop} (h : s.IH s') (hk : AM g ops i (s'.e J) s'.b s'.σ K) : AM g ops i (s.e J) s.b s.σ K := by
 rw [← h.e J,← h.b,← h.σ]; exact hk
theorem ADc {s : S} {o : Oper} {K : SV → S → Prop} {K' : Env → Bx → Hp → Prop} (ho : ops[i]? = some o) (hw : AP ops (s.e J) o.guard = true) (hd : HL o.dst g.n = true) (h : YP g.P o.op o.type s K) (hk : ∀ v s',s.IH s' → K v s' → K' ((s'.put o.dst v).e J) s'.b s'.σ) :
   AM g ops i (s.e J) s.b s.σ K' := by
 obtain ⟨v,s',h1,h2,h3⟩ := h
 have := hk v s' h1 h3
 rw [S.IE,h1.e J,h1.b,h1.σ] at this
 exact AM.y (DD ho) hw hd (h2 J _) this
theorem Yd.up {P : Program} {e : Env} {bx : Bx} {σ : Hp} {b : Nat} {op : Op} {ty : TypeId} {v : Value} (h : Yd P e bx (fun x => if x = b then σ x else none) op ty v) : Yd P e bx σ op ty v := fun o ho ht w hs hb => h o ho ht w (fun k u hk => by
 simp only at hk
 split at hk
 · exact hs k u hk
 · cases hk) hb
theorem AM.mono {e : Env} {bx : Bx} {σ : Hp} {K K' : Env → Bx → Hp → Prop} (h : AM g ops i e bx σ K) (hk : ∀ e bx σ,K e bx σ → K' e bx σ) : AM g ops i e bx σ K' := fun w0 F a w st => wpOpIn_mono (fun a' w' ⟨e',b',σ',NS,h'⟩ => ⟨e',b',σ',NS,hk _ _ _ h'⟩) (h w0 F a w st)
theorem ADd {dst : Option Nat} {op : Op} {ty : TypeId} {gd : Option (Nat × Bool)} (hc : c.Ok g) (hs : sig ops i = some (dst,op,ty,gd)) (hw : AP ops (s.e J) gd = true) (hd : HL dst g.n = true) (h : iC c.tobm dst op ty s kp0 K) : AM g ops i (s.e J) s.b s.σ (fC J K) := by
 have := Rb (c := c.tobm) (kq := fun _ _ => True) (J := J) hc.P hc.R hc.E (fun _ _ F h => ⟨h,trivial⟩) (fun _ _ _ => trivial) hs hw hd h
 intro w0 F a w st
 refine wpOpIn_mono ?_ (this w0 F a w st)
 rintro a' w' ⟨e',GV,σ',NS,s',rfl,rfl,rfl,_,_,hk⟩
 exact ⟨_,_,_,NS,s',rfl,rfl,rfl,hk⟩
theorem Xo {dst : Option Nat} {x : Operand} {ty : TypeId} {gd : Option (Nat × Bool)} (hc : c.Ok g) (hs : sig ops i = some (dst,.next x false,ty,gd)) (hw : AP ops (s.e J) gd = true) (hd : HL dst g.n = true) (h : lH c dst x ty s K) : AM g ops i (s.e J) s.b s.σ (fC J K) := by
 unfold lH at h
 split at h
 · rename_i d u tk tv hu hm
   rw [hc.P] at h
   refine AM.UN hs hw hd (Instr.next (u.den s.vl) false ty) (fun o ho ht => by simp only [execOp,ho,ht]; rw [ev hu]) (h.mono fun v σ1 hr => ?_)
   rcases hr with ⟨rfl,hk⟩ | hr
   · exact ⟨_,(S.IE (s := s.hp σ1) (x := .Up [.a (.bl false)])).symm,(S.IF (s := s.hp σ1) (x := .Up [.a (.bl false)])).symm,(S.FR (s := s.hp σ1) (x := .Up [.a (.bl false)])).symm,hk⟩
   · split at hr
     · rename_i Cz
       obtain ⟨a,w1,h1,hr⟩ := EP hr
       obtain ⟨b,w2,h2,hr⟩ := EP hr
       obtain ⟨hv,hk⟩ := hr
       have Ph := S.RT (s := s.hp σ1) Cz (h1.trans h2).le
       refine ⟨_,?_,?_,?_,hk⟩
       · rw [S.IE,Ph.e J,hv]; rfl
       · rw [S.IF,Ph.b]; rfl
       · rw [S.FR]; rfl
     · cases hr
 · cases h
theorem Xp {vl : Vl} {i o : Nat} {l : List Bk} : ∀ {bx : List FQ} {t : TypeId} {cs : List Bk},Xj bx i = some (t,cs) → ∃ j,(Eg vl bx)[j]? = some (nth 0 vl.δ i,.cells (A8 vl cs).toArray t (0,0)) ∧ Eg vl (iG bx i o l) = (Eg vl bx).set j (nth 0 vl.δ i,.cells (A8 vl (bd cs o l)).toArray t (0,0))
 | (k,u,ds) :: r,t,cs,h => by
   simp only [Xj] at h
   cases hk : Nat.beq k i with
   | true =>
     rw [hk] at h; simp only [cond_true,Option.some.injEq,Prod.mk.injEq] at h
     obtain ⟨rfl,rfl⟩ := h
     have := Nat.eq_of_beq_eq_true hk
     subst this
     exact ⟨0,rfl,by simp only [iG,hk,cond_true,Eg,List.set_cons_zero]⟩
   | false =>
     rw [hk] at h; simp only [cond_false] at h
     obtain ⟨j,h1,h2⟩ := Xp (vl := vl) (o := o) (l := l) h
     exact ⟨j + 1,by simpa only [Eg,List.getElem?_cons_succ] using h1,by simp only [iG,hk,cond_false,Eg,List.set_cons_succ,h2]⟩
theorem bo {F : Prop} {l : List Value} (h : zH F l) : F ∧ ∀ v ∈ l,Value.oneCell' v = true := by
 have cj : ∀ {l : List Value},zH.zI l → ∀ v ∈ l,Value.oneCell' v = true := fun {l} => by
   induction l with
   | nil => intro _ v hv; cases hv
   | cons a l ih =>
     intro h v hv
     cases l with
     | nil => simp at hv; subst hv; exact h
     | cons b l =>
       rcases List.mem_cons.1 hv with rfl | hv
       · exact h.1
       · exact ih h.2 v hv
 match l,h with
 | [],h => exact ⟨h,fun v hv => by cases hv⟩
 | [v],h => exact ⟨h.2,fun u hu => by simp at hu; subst hu; exact h.1⟩
 | a :: b :: l,h => exact ⟨h.2,cj h.1⟩
theorem Rh {vl : Vl} : ∀ {l : List Bk},(∀ v ∈ Ox l,Value.oneCell' v = true) → ∀ u ∈ A8 vl l,Value.oneCell' u = true
 | [],_,u,hu => by cases hu
 | x :: l,h,u,hu => by
   have tl : ∀ v ∈ Ox l,Value.oneCell' v = true := fun v hv => h v (by cases x <;> first | exact hv | exact List.mem_cons_of_mem _ hv)
   rcases List.mem_cons.1 hu with rfl | hu
   · cases x <;> try rfl
     case bs i n => cases n <;> rfl
     case raw v => exact h v (List.mem_cons_self ..)
     case un => exact h undef (List.mem_cons_self ..)
   · exact Rh tl u hu
theorem bp {vl : Vl} {v : SV} {l : List Bk} (h : v.bn = some l) (ho : ∀ u ∈ A8 vl l,Value.oneCell' u = true) : (v.den vl).cells = (A8 vl l).toArray := by
 unfold SV.bn at h
 split at h
 · rename_i x
   cases h
   have := ho (x.den vl) (List.mem_cons_self ..)
   simp only [SV.den,Gp.den,A8]
   cases hx : x.den vl <;> first | rfl | (rw [hx] at this; cases this)
 · cases h; rfl
 · cases h
theorem bq {T ty : TypeId} {x y : Operand} {gd : Option (Nat × Bool)} {k b : Nat} {v : SV} (hc : c.Ok g) (hs : sig ops i = some (none,.store T x y,ty,gd)) (hw : AP ops (s.e J) gd = true) (hx : kz (s.op x) = some (.bx k b)) (hy : s.op y = some v) (h : zJ c T k b v s K) : AM g ops i (s.e J) s.b s.σ (fC J K) := by
 unfold zJ at h
 split at h
 · rename_i l n hl hz
   split at h
   · rename_i t cs hg
     split at h
     · rename_i hd
       simp only [Bool.and_eq_true,Q1] at hd
       obtain ⟨hk,ho⟩ := bo h
       have br := Rh (vl := s.vl) ho
       have Xq := bp (vl := s.vl) hl br
       obtain ⟨u,e1,e2⟩ := Ei hx
       obtain ⟨j,h1,h2⟩ := Xp (vl := s.vl) (o := b) (l := l) hg
       rw [hc.P] at hz
       refine AM.yW (b := nth 0 s.vl.δ k) (o := b) (c := (A8 s.vl cs).toArray) (c' := (A8 s.vl (bd cs b l)).toArray) (t := t) (j := j) hs hw (CX hz) (by rw [ev e1,e2]; rfl) (ev hy) h1 ?_ ?_ ?_ ?_ ?_
       · rw [Xq]; simp [DF]; exact Nat.eq_of_beq_eq_true hd.1
       · have := Nat.eq_of_beq_eq_true hd.1
         have h3 := Nat.le_of_ble_eq_true hd.2
         exact Nat.ble_eq_true_of_le (by simp [DF]; omega)
       · rw [Xq]; exact List.all_eq_true.2 fun u hu => br u (by simpa using hu)
       · rw [Xq,RX]
       · exact ⟨⟨s.env,iG s.bx k b l,s.vl,s.σ⟩,rfl,h2.symm,rfl,hk⟩
     · cases h
   · cases h
 · cases h
theorem Xr (hc : c.Ok g) (h : lI c ops i s K) : AM g ops i (s.e J) s.b s.σ (fC J K) := by
 unfold lI at h
 split at h
 · cases h
 · rename_i o ho
   split at h
   · cases h
   · rename_i hd
     rw [hc.n] at hd
     obtain ⟨b,s1,h1,hw,h⟩ := I2 h
     have hw := hw J
     rw [← h1.e J] at hw
     refine fD h1 ?_
     cases b with
     | false => exact AM.no (DD ho) hw hd ⟨_,(S.IE (x := .at .un)).symm,S.IF.symm,S.FR.symm,h⟩
     | true =>
       simp only at h
       split at h
       · rename_i T x Jd
         obtain ⟨m,v,s2,h2,hk,hy⟩ := U1 (ty := o.type) h
         have hs := DD ho
         rw [Jd] at hs
         refine AM.y (v := v.den s2.vl) hs hw hd ?_ ⟨s2.put o.dst v,by rw [S.IE,h2.e J],by rw [S.IF,h2.b],by rw [S.FR,h2.σ],hk⟩
         have hy := hy J
         rw [hc.P] at hy
         cases m with
         | none => exact hy _
         | some b => exact Yd.up hy
       · rename_i T m k v Jd
         split at h
         · rename_i um uk uv My hm hk hv
           have hs := DD ho
           rw [Jd,My] at hs
           rw [hc.P] at h
           exact AM.sD hs hw rfl _ (fun o ho ht => by simp only [execOp,ho]; rw [ev hm,ev hk,ev hv]) (h.mono fun _ σ1 hr => ⟨s1.hp σ1,rfl,rfl,rfl,hr⟩)
         · cases h
       · rename_i T m k v Jd
         split at h
         · rename_i um uk uv My hm hk hv
           have hs := DD ho
           rw [Jd,My] at hs
           rw [hc.P] at h
           exact AM.sD hs hw rfl _ (fun o ho ht => by simp only [execOp,ho]; rw [ev hm,ev hk,ev hv]) (h.mono fun _ σ1 hr => ⟨s1.hp σ1,rfl,rfl,rfl,hr⟩)
         · cases h
       · have Jd := ‹o.op = Op.next _ false›
         have hs := DD ho
         rw [Jd] at hs
         exact Xo hc hs hw hd h
       · have Jd := ‹o.op = Op.entry _›
         have hs := DD ho
         rw [Jd] at hs
         split at h
         · rename_i u tk tv hu hm
           rw [hc.P] at h
           have := AM.UN (K := zF J s1 (fun _ _ => True) K) hs hw hd (Instr.entry (u.den s1.vl)) (fun o ho ht => by simp only [execOp,ho]; rw [ev hu]) (h.mono fun v σ1 hr => Ah (kq := fun _ _ => True) iB (fun _ _ F h => ⟨h,trivial⟩) hr J)
           exact this.mono fun e bx σ ⟨s',e1,e2,e3,_,_,hk⟩ => ⟨s',e1,e2,e3,hk⟩
         · cases h
       · have Jd := ‹o.op = Op.panic _›
         split at h
         · rename_i T u hx
           have hs := DD ho
           rw [Jd] at hs
           rw [hc.R] at h
           exact AM.panic hs hw (by rw [ev hx]; rfl) hc.G0 hc.ds h
         · cases h
       · have Jd := ‹o.op = Op.store _ _ _›
         have hs := DD ho
         rw [Jd] at hs
         split at h
         · rename_i i' b v My hx hy
           rw [My] at hs
           exact bq hc hs hw hx hy h
         · exact ADd hc hs hw hd h
       · split at h
         · exact ADd hc (DD ho) hw hd h
         · rename_i m _ hm
           rw [hc.P] at h hm
           obtain ⟨v,s2,h2,hy,hk⟩ := Rc hm h
           exact AM.y (v := v.den s2.vl) (DD ho) hw hd (hy J) ⟨s2.put o.dst v,by rw [S.IE,h2.e J],by rw [S.IF,h2.b],by rw [S.FR,h2.σ],hk⟩
         · rw [hc.P] at h
           exact ADc ho hw hd (Xk h) fun v s' j7 hk => ⟨s'.put o.dst v,rfl,S.IF.symm,S.FR.symm,hk⟩
theorem M3 (hc : c.Ok g) : ∀ {is : List Nat} {s : S},sT c ops is s K → Seq g ops is (s.e J) s.b s.σ (fC J K)
 | [],s,h => ⟨s,rfl,rfl,rfl,h⟩
 | i :: is,s,h => (Xr hc h).mono fun e bx σ ⟨s',h1,h2,h3,h4⟩ => by subst h1 h2 h3; exact M3 hc h4
theorem Ri {K K' : Env → Bx → Hp → Prop} (hk : ∀ e bx σ,K e bx σ → K' e bx σ) : ∀ {is : List Nat} {e : Env} {bx : Bx} {σ : Hp},Seq g ops is e bx σ K → Seq g ops is e bx σ K'
 | [],_,_,_,h => hk _ _ _ h
 | i :: is,e,bx,σ,h => AM.mono h fun _ _ _ h => Ri hk h
theorem I3 {K K' : Env → Bx → Hp → Prop} (hk : ∀ e bx σ,K e bx σ → K' e bx σ) : ∀ {p : Ord} {q : Iq} {e : Env} {bx : Bx} {σ : Hp},J3 g ops p q e bx σ K → J3 g ops p q e bx σ K'
 | .done,_,_,_,_,h => hk _ _ _ h
 | .yes i r,q,e,bx,σ,⟨own,o,v,h1,h2,h3,h4,h5⟩ => ⟨own,o,v,h1,h2,h3,h4,I3 hk h5⟩
 | .alt i r t,q,e,bx,σ,⟨h1,h2⟩ => ⟨AM.mono h1 fun _ _ _ ⟨h3,h4⟩ => ⟨h3,I3 hk h4⟩,I3 hk h2⟩
 | .no,_,_,_,_,_ => trivial
def Rj : Ord → List Nat
 | .done => []
 | .yes _ r => Rj r
 | .alt i r _ => i :: Rj r
 | .no => []
def ADe (ops : Array Oper) (i : Nat) : Nat → Nat → Option (List Nat)
 | 0,_ => none
 | f + 1,t => match IA ops t i with
   | true => some [t]
   | false => (List.range t).findSome? fun u => match Nat.blt i u && IA ops t u with
     | true => match ADe ops i f u with
       | some p => some (t :: p)
       | none => none
     | false => none
def waits (ops : Array Oper) (i : Nat) : List Nat → List (List Nat)
 | [] => []
 | t :: l => match ADe ops i 40 t with
   | some p => p :: waits ops i l
   | none => waits ops i l
def vo (L : Iq) : KP := fun σ0 σ1 F => match L with
 | none => Ext σ0 σ1 ∧ F
 | some [] => F
 | some (x :: l) => Kp ((x :: l).map Prod.fst) σ0 σ1 ∧ F
def Fk (c : Cx) (ops : Array Oper) : Ord → Iq → S → (S → Prop) → Prop
 | .done,_,s,K => K s
 | .yes i r,L,s,K => match ops[i]? with
   | none => False
   | some o => match HL o.dst c.n && L.ok i with
     | false => False
     | true => Re ops o.guard s fun b s => match b with
       | false => Fk c ops r L (s.put o.dst (.at .un)) K
       | true => match o.op with
         | .load T x => ldV c.P T x s fun m v s => match m,L with
           | none,_ => Fk c ops r L (s.put o.dst v) K
           | some _,none => Fk c ops r L (s.put o.dst v) K
           | some b,some l => match (Mv (some l) (some (b,waits ops i (Rj r)))).ok i && RN ops i (some (b,waits ops i (Rj r))) with
             | true => Fk c ops r (Mv (some l) (some (b,waits ops i (Rj r)))) (s.put o.dst v) K
             | false => False
         | op => match lG c.P op,anyM c.P op o.type s,L with
           | true,_,_ => False
           | false,some m,none => zG c.P o.type m s fun v s => Fk c ops r none (s.put o.dst v) K
           | false,some _,some _ => False
           | false,none,L => yv c.P c.wr op s fun v s => Fk c ops r L (s.put o.dst v) K
 | .alt i r t,L,s,K =>
   match t with
   | .no => Xs c ops i L s fun s => Fk c ops r (Fi L i) s K
   | t => (Xs c ops i L s fun s => Fk c ops r (Fi L i) s K) ∧ Fk c ops t L s K
 | .no,_,_,_ => True
where
 Xs (c : Cx) (ops : Array Oper) (i : Nat) (L : Iq) (s : S) (K : S → Prop) : Prop := match ops[i]? with
   | none => False
   | some o => match HL o.dst c.n with
     | false => False
     | true => Re ops o.guard s fun b s => match b with
       | false => K (s.put o.dst (.at .un))
       | true => iC c.tobm o.dst o.op o.type s (vo (Fi L i)) K
def kqL (q : Iq) (σ σ' : Hp) : Prop := match q with
 | none => ∀ b o,σ b = some o → σ' b = some o
 | some L => ∀ x ∈ L,∀ o,σ x.1 = some o → σ' x.1 = some o
theorem zK {q : Iq} {bx GV : Bx} {σ σ' : Hp} (h : kqL q σ σ') (hb : ∀ p ∈ bx,p ∈ GV) : J1 q bx σ GV σ' := ⟨hb,h⟩
theorem iH {L : Iq} {σ0 σ1 : Hp} {F : Prop} (h : vo L σ0 σ1 F) : F ∧ kqL L σ0 σ1 := by
 unfold vo at h
 split at h
 · exact ⟨h.2,h.1⟩
 · exact ⟨h,fun x hx => by cases hx⟩
 · exact ⟨h.2,fun y hy o ho => h.1 y.1 (List.mem_map.2 ⟨y,hy,rfl⟩) o ho⟩
theorem sU {L : Iq} {σ0 σ1 : Hp} (h : Ext σ0 σ1) : kqL L σ0 σ1 := by
 cases L with
 | none => exact h
 | some l => exact fun x _ o ho => h _ _ ho
theorem Xt {L : Iq} (hc : c.Ok g) (h : Fk.Xs c ops i L s K) : AM g ops i (s.e J) s.b s.σ fun e' GV σ' => J1 (Fi L i) s.b s.σ GV σ' ∧ fC J K e' GV σ' := by
 unfold Fk.Xs at h
 split at h
 · cases h
 · rename_i o ho
   split at h
   · cases h
   · rename_i hd
     rw [hc.n] at hd
     obtain ⟨b,s1,h1,hw,h⟩ := I2 h
     have hw := hw J
     rw [← h1.e J] at hw
     have key : AM g ops i (s1.e J) s1.b s1.σ fun e' GV σ' => J1 (Fi L i) s1.b s1.σ GV σ' ∧ fC J K e' GV σ' := by
       cases b with
       | false => exact AM.no (DD ho) hw hd ⟨J1.refl _ _ _,_,(S.IE (x := .at .un)).symm,S.IF.symm,S.FR.symm,h⟩
       | true =>
         have := Rb (c := c.tobm) (kq := kqL (Fi L i)) (J := J) hc.P hc.R hc.E (fun _ _ F h => iH h) (fun _ _ h => sU h) (DD ho) hw hd h
         exact this.mono fun e' GV σ' ⟨s',e1,e2,e3,hq,hb,hk⟩ => ⟨zK hq hb,s',e1,e2,e3,hk⟩
     have := fD (K := fun e' GV σ' => J1 (Fi L i) s1.b s1.σ GV σ' ∧ fC J K e' GV σ') h1 key
     rw [h1.b,h1.σ] at this
     exact this
theorem DG (hc : c.Ok g) : ∀ {p : Ord} {q : Iq} {s : S},Fk c ops p q s K → J3 g ops p q (s.e J) s.b s.σ (fC J K)
 | .done,q,s,h => ⟨s,rfl,rfl,rfl,h⟩
 | .yes i r,q,s,h => by
   simp only [Fk] at h
   split at h
   · cases h
   · rename_i o ho
     split at h
     · cases h
     · rename_i hd
       simp only [Bool.and_eq_true] at hd
       obtain ⟨hd,hq⟩ := hd
       rw [hc.n] at hd
       obtain ⟨b,s1,h1,hw,h⟩ := I2 h
       have hw := hw J
       rw [← h1.e J] at hw
       rw [← h1.e J,← h1.b,← h1.σ]
       have go : ∀ {v : SV} {s2 : S} {own : Option (Nat × List (List Nat))},s1.IH s2 → ((Mv q own).ok i && RN ops i own) = true → Yd g.P (s1.e J) s1.b (Od q own s1.σ) o.op o.type (v.den s2.vl) → AP ops (s1.e J) o.guard = true → Fk c ops r (Mv q own) (s2.put o.dst v) K → J3 g ops (.yes i r) q (s1.e J) s1.b s1.σ (fC J K) := fun {v s2 own} h2 Cz hy hw hk => by
         have := DG hc hk
         rw [S.IE,S.IF,S.FR,h2.e J,h2.b,h2.σ] at this
         exact ⟨own,o,v.den s2.vl,Cz,ho,.inl ⟨hw,hy⟩,HL.lt hd,this⟩
       cases b with
       | false =>
         have := DG hc h
         rw [S.IE,S.IF,S.FR] at this
         exact ⟨none,o,undef,ok_none hq,ho,.inr ⟨hw,rfl⟩,HL.lt hd,by rw [FO]; exact this⟩
       | true =>
         simp only at h
         split at h
         · rename_i T x Jd
           obtain ⟨m,v,s2,h2,hk,hy⟩ := U1 (ty := o.type) h
           have hy := hy J
           rw [hc.P,← Jd] at hy
           split at hk
           · exact go (own := none) h2 (ok_none hq) (hy _) hw (by rw [FO]; exact hk)
           · exact go (own := none) h2 (ok_none hq) (Yd.up hy) hw (by rw [FO]; exact hk)
           · rename_i b l
             split at hk
             · rename_i Cz
               exact go h2 Cz hy hw hk
             · cases hk
         · split at h
           · cases h
           · have hm := ‹anyM c.P o.op o.type s1 = some _›
             rw [hc.P] at h hm
             obtain ⟨v,s2,h2,hy,hk⟩ := Rc hm h
             exact go (own := none) h2 (ok_none hq) (hy J) hw hk
           · cases h
           · rw [hc.P] at h
             obtain ⟨v,s2,h2,hy,hk⟩ := Xk (ty := o.type) h
             exact go (own := none) h2 (ok_none hq) (hy J _) hw (by rw [FO]; exact hk)
 | .alt i r t,q,s,h => by
   have key : ∀ {t : Ord},(Fk.Xs c ops i q s fun s => Fk c ops r (Fi q i) s K) → J3 g ops t q (s.e J) s.b s.σ (fC J K) → J3 g ops (.alt i r t) q (s.e J) s.b s.σ (fC J K) := fun {t} h1 h2 =>
     ⟨(Xt hc h1).mono fun e bx σ ⟨hk,s',e1,e2,e3,h3⟩ => ⟨hk,by subst e1 e2 e3; exact DG hc h3⟩,h2⟩
   cases t with
   | no => exact key h trivial
   | done => exact key h.1 (DG hc h.2)
   | yes j u => exact key h.1 (DG hc h.2)
   | alt j u w => exact key h.1 (DG hc h.2)
 | .no,q,s,h => trivial
def fE (P : Program) (ops : Array Oper) (m : Nat) : Nat → Array Bool → Ord
 | 0,_ => .no
 | f + 1,listed => match (List.range m).all fun i => listed.getD i false with
   | true => .done
   | false => match (Region.ready .any ops listed).find? fun j => Nat.blt j m && match ops[j]? with | some o => !lG P o.op | none => false with
     | some j => .yes j (fE P ops m f (listed.setIfInBounds j true))
     | none => (Region.ready .any ops listed).foldr (fun j acc => .alt j (fE P ops m f (listed.setIfInBounds j true)) acc) .no
def zL (c : Cx) (ops : Array Oper) (draw : Bool) (m : Nat) (q : Iq) (s : S) (K : S → Prop) : Prop := match draw with
 | false => sT c ops (List.range ops.size) s K
 | true => match Vw ops m (fE c.P ops m (ops.size + 1) (Array.replicate ops.size false)) (List.range' m (ops.size - m)) with
   | true => Fk c ops (fE c.P ops m (ops.size + 1) (Array.replicate ops.size false)) q s fun s => sT c ops (List.range' m (ops.size - m)) s K
   | false => False
theorem bu {k : List Item} {id m : Nat} {draw : Bool} {q : Iq} (hc : c.Ok g) (hm : g.P.follows .mixedOrders = true) (h : zL c ops draw m q s K) (hk : ∀ s,K s → At g k (s.e J) s.b s.σ) : At g (.code (.region id ops draw) :: k) (s.e J) s.b s.σ := by
 have fin : ∀ e bx σ,fC J K e bx σ → At g k e bx σ := fun e bx σ ⟨s',e1,e2,e3,h⟩ => by subst e1 e2 e3; exact hk s' h
 cases draw with
 | false =>
   refine At.region rfl rfl ?_
   have : Seq g ops (List.range ops.size) (s.e J) s.b s.σ (fC J K) := M3 hc h
   exact Ri fin this
 | true =>
   simp only [zL] at h
   split at h
   · rename_i hp
     refine At.ADY hm rfl hp (q := q) ?_
     have := DG (J := J) hc h
     refine I3 (fun e bx σ ⟨s',e1,e2,e3,h⟩ => ?_) this
     subst e1 e2 e3
     exact Ri fin (M3 hc h)
   · cases h
end
end Tw
end
section
namespace Tw
open Go
variable [FB]
def node (body : Code) : List Bool → Code
 | [] => body
 | false :: p => cl (node body p)
 | true :: p => cr (node body p)
inductive It where
 | c (p : List Bool)
 | RU (i : Nat)
 | lp (p : List Bool)
 | sc (p : List Bool)
def It.den (body : Code) : It → Item
 | .c p => .code (node body p)
 | .RU i => .inBlock i
 | .lp p => .inLoop (node body p)
 | .sc p => .inScope (node body p)
def DH (body : Code) : List It → List Item
 | [] => []
 | x :: l => x.den body :: DH body l
def Oy : List Bool → List Bool → Bool
 | [],[] => true
 | a :: p,b :: q => (bif a then b else !b) && Oy p q
 | _,_ => false
theorem U4 : ∀ {p q : List Bool},Oy p q = true → p = q
 | [],[],_ => rfl
 | a :: p,b :: q,h => by
   simp only [Oy,Bool.and_eq_true] at h
   rw [U4 h.2]
   cases a <;> cases b <;> simp at h <;> rfl
 | [],_ :: _,h => by cases h
 | _ :: _,[],h => by cases h
def It.eq : It → It → Bool
 | .c p,.c q => Oy p q
 | .RU i,.RU j => Nat.beq i j
 | .lp p,.lp q => Oy p q
 | .sc p,.sc q => Oy p q
 | _,_ => false
def fF : List It → List It → Bool
 | [],[] => true
 | x :: l,y :: m => x.eq y && fF l m
 | _,_ => false
theorem Xu : ∀ {l m : List It},fF l m = true → l = m
 | [],[],_ => rfl
 | x :: l,y :: m,h => by
   simp only [fF,Bool.and_eq_true] at h
   rw [Xu h.2]
   have : x = y := by
     cases x <;> cases y <;> simp only [It.eq] at h <;> first
       | (rw [U4 h.1])
       | (rw [Nat.eq_of_beq_eq_true h.1])
       | (exact absurd h.1 (by simp))
   rw [this]
 | [],_ :: _,h => by cases h
 | _ :: _,[],h => by cases h
structure Cut where
 todo : List It
 f : S → Prop
def Cut.Ok (g : Gl) (body : Code) (k : Cut) : Prop := ∀ s J,k.f s → At g (DH body k.todo) (s.e J) s.b s.σ
def sV : List Cut → List It → Option (S → Prop)
 | [],_ => none
 | k :: l,t => match fF k.todo t with
   | true => some k.f
   | false => sV l t
theorem fG {g : Gl} {body : Code} : ∀ {l : List Cut} {t : List It} {f : S → Prop},(∀ k ∈ l,k.Ok g body) → sV l t = some f → ∀ s J,f s → At g (DH body t) (s.e J) s.b s.σ
 | k :: l,t,f,hl,h => by
   simp only [sV] at h
   split at h
   · rename_i he
     cases h
     rw [← Xu he]
     exact hl k (List.mem_cons_self ..)
   · exact fG (fun k hk => hl k (List.mem_cons_of_mem _ hk)) h
def Pm (i : Nat) : List It → Option (List It)
 | [] => none
 | .RU j :: r => match Nat.beq i j with
   | true => some r
   | false => Pm i r
 | _ :: r => Pm i r
def V4 (l : Nat) : Code → List Bool → Option (List It)
 | .seq a b,p => match V4 l a (false :: p) with
   | some r => some (r ++ [.c (true :: p)])
   | none => V4 l b (true :: p)
 | .label j,_ => match Nat.beq j l with
   | true => some []
   | false => none
 | _,_ => none
def Pn (body : Code) (l : Nat) : List It → Option (List It)
 | [] => none
 | .sc p :: r => match V4 l (node body p) p with
   | some m => some (m ++ (.sc p :: r))
   | none => Pn body l r
 | _ :: r => Pn body l r
structure Fx extends Cx where
 body : Code
 res : List ResultVar
 reg : List (Nat × Nat × Bool)
def lJ : List (Nat × Nat × Bool) → Nat → Nat → Nat × Iq
 | [],_,m => (m,some [])
 | (i,m,b) :: l,id,z => match Nat.beq i id with
   | true => (m,bif b then none else some [])
   | false => lJ l id z
def bw (c : Fx) (s : S) : List ResultVar → Option (List SV)
 | [] => some []
 | .tmp t :: r => match Vy s.env t,bw c s r with
   | some v,some l => some (v :: l)
   | _,_ => none
 | .cell p T :: r => match kz (Vy s.env p),bw c s r with
   | some (.bx i 0),some l => match Xj s.bx i,Xb c.P T with
     | some (_,cs),some true => match Xa c.P T with
       | some n => match decide (cs.length = n) with
         | true => some (.v (.agg cs) :: l)
         | false => none
       | none => none
     | some (_,x :: _),some false => some (.at x :: l)
     | _,_ => none
   | _,_ => none
def Vs (c : Fx) (s : S) : Prop := match bw c s c.res with
 | some l => c.R (.returned (RP (C0 s.vl l))) s.σ
 | none => False
def DI (c : Fx) (cuts : List Cut) : Nat → Bool → List It → S → Prop
 | 0,_,_,_ => False
 | f + 1,first,todo,s => match (bif first then none else sV cuts todo) with
   | some k => k s
   | none => match todo with
     | [] => Vs c s
     | .RU _ :: r => DI c cuts f false r s
     | .lp p :: r => DI c cuts f false (.c p :: .lp p :: r) s
     | .sc _ :: r => DI c cuts f false r s
     | .c p :: r => match node c.body p with
       | .skip => DI c cuts f false r s
       | .seq _ _ => DI c cuts f false (.c (false :: p) :: .c (true :: p) :: r) s
       | .block i _ => DI c cuts f false (.c (false :: p) :: .RU i :: r) s
       | .loop _ => DI c cuts f false (.c (false :: p) :: .lp (false :: p) :: r) s
       | .exit i => match Pm i r with
         | some r => DI c cuts f false r s
         | none => False
       | .scope _ => DI c cuts f false (.c (false :: p) :: .sc (false :: p) :: r) s
       | .label _ => DI c cuts f false r s
       | .goto l => match Pn c.body l r with
         | some r => DI c cuts f false r s
         | none => False
       | .cond x _ _ => s.sO (s.op x) fun t s => DI c cuts f false (.c ((!t) :: p) :: r) s
       | .ret => Vs c s
       | .region id ops draw => zL c.toCx ops draw (lJ c.reg id ops.size).1 (lJ c.reg id ops.size).2 s fun s => DI c cuts f false r s
       | _ => False
structure Fx.Ok (c : Fx) (g : Gl) (fn : Func) : Prop where
 cx : c.toCx.Ok g
 mixed : g.P.follows .mixedOrders = true
 fnc : g.P.funcs[g.f]? = some fn
 res : fn.results = c.res.toArray
 G0 : g.G0 = none
 ds : g.ds = []
section
variable {g : Gl} {c : Fx} {fn : Func} {cuts : List Cut} {J : Env}
theorem G4 (hP : c.P = g.P) {s : S} : ∀ {rs : List ResultVar} {l : List SV},bw c s rs = some l → HW g.P (s.e J) s.b s.σ rs (C0 s.vl l)
 | [],l,h => by simp only [bw,Option.some.injEq] at h; subst h; rfl
 | .tmp t :: r,l,h => by
   simp only [bw] at h
   split at h
   · rename_i v l' h1 h2
     cases h
     refine ⟨_,?_,G4 hP h2⟩
     rw [show s.e J t = v.den s.vl from EO h1]; rfl
   · cases h
 | .cell p T :: r,l,h => by
   simp only [bw] at h
   split at h
   · rename_i i l' h1 h2
     obtain ⟨u,e1,e2⟩ := Ei h1
     have hp : s.e J p = .pointer (some ⟨nth 0 s.vl.δ i,0,none⟩) := (EO e1).trans (e2 _)
     split at h
     · rename_i t cs hb ha
       split at h
       · rename_i n hn
         split at h
         · rename_i hd
           have hd := of_decide_eq_true hd
           cases h
           rw [hP] at ha hn
           exact ⟨_,_,rfl,⟨_,hp,kY (Eh ha) (CX hn) (by simp [DF]; exact hd) (J4 hb)⟩,G4 hP h2⟩
         · cases h
       · cases h
     · rename_i t x cs hb ha
       cases h
       rw [hP] at ha
       exact ⟨_,_,rfl,⟨_,hp,sE (Eh ha) (J4 hb) rfl⟩,G4 hP h2⟩
     · cases h
   · cases h
theorem IJ {body : Code} {i : Nat} : ∀ {r r' : List It},Pm i r = some r' → exitTo i (DH body r) = some (DH body r')
 | .RU j :: r,r',h => by
   simp only [Pm] at h
   split at h
   · rename_i he
     cases h
     have := Nat.eq_of_beq_eq_true he
     subst this
     simp [DH,It.den,exitTo]
   · rename_i he
     have A5 : i ≠ j := fun e => by subst e; rw [Nat.beq_refl] at he; cases he
     simp only [DH,It.den,exitTo]
     rw [if_neg (by simpa using Ne.symm A5)]
     exact IJ h
 | .c p :: r,r',h => by simp only [Pm] at h; simp only [DH,It.den,exitTo]; exact IJ h
 | .lp p :: r,r',h => by simp only [Pm] at h; simp only [DH,It.den,exitTo]; exact IJ h
 | .sc p :: r,r',h => by simp only [Pm] at h; simp only [DH,It.den,exitTo]; exact IJ h
theorem Rk {body : Code} : ∀ {l m : List It},DH body (l ++ m) = DH body l ++ DH body m
 | [],_ => rfl
 | x :: l,m => by simp only [List.cons_append,DH,Rk]
theorem Lt {l : Nat} : ∀ {x : Code} {p : List Bool},V4 l x p = none → findLabel x l = none
 | .seq a b,p,h => by
   simp only [V4] at h
   split at h
   · cases h
   · rename_i h1
     simp only [findLabel,Lt h1,Lt h]
 | .label j,p,h => by
   simp only [V4] at h
   split at h
   · cases h
   · rename_i h1
     have : j ≠ l := fun e => by subst e; rw [Nat.beq_refl] at h1; cases h1
     simp [findLabel,this]
 | .skip,p,h => rfl
 | .region ..,p,h => rfl
 | .cond ..,p,h => rfl
 | .block ..,p,h => rfl
 | .loop ..,p,h => rfl
 | .rangeFunc ..,p,h => rfl
 | .exit ..,p,h => rfl
 | .scope ..,p,h => rfl
 | .goto ..,p,h => rfl
 | .ret,p,h => rfl
 | .refuse ..,p,h => rfl
theorem Rl {l : Nat} {body : Code} : ∀ {x : Code} {p : List Bool} {m : List It},node body p = x → V4 l x p = some m → ∃ rest,findLabel x l = some rest ∧ ∀ {k : List Item} {e : Env} {bx : Bx} {σ : Hp},At g (DH body m ++ k) e bx σ → At g (.code rest :: k) e bx σ
 | .seq a b,p,m,hx,h => by
   simp only [V4] at h
   split at h
   · rename_i r h1
     cases h
     obtain ⟨rest,e1,e2⟩ := Rl (body := body) (x := a) (p := false :: p) (by simp only [node,hx,cl]) h1
     refine ⟨.seq rest b,by simp only [findLabel,e1],fun h => At.seq rfl (e2 ?_)⟩
     rw [Rk,List.append_assoc] at h
     simp only [DH,It.den,node,hx,cr,List.cons_append,List.nil_append] at h
     exact h
   · rename_i h1
     obtain ⟨rest,e1,e2⟩ := Rl (body := body) (x := b) (p := true :: p) (by simp only [node,hx,cr]) h
     exact ⟨rest,by simp only [findLabel,Lt h1,e1],e2⟩
 | .label j,p,m,hx,h => by
   simp only [V4] at h
   split at h
   · rename_i h1
     cases h
     have := Nat.eq_of_beq_eq_true h1
     subst this
     exact ⟨.skip,by simp [findLabel],fun h => At.skip h⟩
   · cases h
theorem IK {l : Nat} {body : Code} : ∀ {r r' : List It},Pn body l r = some r' → ∃ k',gotoIn l (DH body r) = some k' ∧ ∀ {e : Env} {bx : Bx} {σ : Hp},At g (DH body r') e bx σ → At g k' e bx σ
 | .sc p :: r,r',h => by
   simp only [Pn] at h
   split at h
   · rename_i m h1
     cases h
     obtain ⟨rest,e1,e2⟩ := Rl (g := g) rfl h1
     refine ⟨.code rest :: .inScope (node body p) :: DH body r,by simp only [DH,It.den,gotoIn,e1],fun h => e2 ?_⟩
     rw [Rk] at h
     exact h
   · rename_i h1
     obtain ⟨k',e1,e2⟩ := IK h
     exact ⟨k',by simp only [DH,It.den,gotoIn,Lt h1,e1],e2⟩
 | .c p :: r,r',h => by simp only [Pn] at h; simp only [DH,It.den,gotoIn]; exact IK h
 | .lp p :: r,r',h => by simp only [Pn] at h; simp only [DH,It.den,gotoIn]; exact IK h
 | .RU p :: r,r',h => by simp only [Pn] at h; simp only [DH,It.den,gotoIn]; exact IK h
theorem Au (hc : c.Ok g fn) (hk : ∀ k ∈ cuts,k.Ok g c.body) : ∀ {f : Nat} {first : Bool} {todo : List It} {s : S},DI c cuts f first todo s → At g (DH c.body todo) (s.e J) s.b s.σ
 | 0,_,_,_,h => h.elim
 | f + 1,first,todo,s,h => by
   have hl : ∀ σ,left g.ds σ = σ := fun σ => by rw [hc.ds]; rfl
   have rJ : Marks g.ds s.σ := by rw [hc.ds]; trivial
   simp only [DI] at h
   split at h
   · rename_i k ADh
     cases first with
     | true => cases ADh
     | false => exact fG hk ADh s J h
   · split at h
     · unfold Vs at h
       split at h
       · rename_i l fH
         rw [hc.cx.R] at h
         exact At.ADL hc.fnc hc.res (by rw [hl]; exact G4 hc.cx.P fH) (by rw [hl]; exact h) hc.G0 rJ
       · cases h
     · exact At.inBlock (Au hc hk h)
     · exact At.inLoop (Au hc hk h)
     · exact At.inScope (Au hc hk h)
     · rename_i p r _
       have e : DH c.body (.c p :: r) = .code (node c.body p) :: DH c.body r := rfl
       rw [e]
       split at h
       · rename_i hn; rw [hn]; exact At.skip (Au hc hk h)
       · rename_i a b hn
         refine At.seq hn ?_
         have := Au hc hk h
         simp only [DH,It.den,node,hn,cl,cr] at this
         exact this
       · rename_i i a hn
         refine At.block hn ?_
         have := Au hc hk h
         simp only [DH,It.den,node,hn,cl] at this
         exact this
       · rename_i a hn
         refine At.loop hn ?_
         have := Au hc hk h
         simp only [DH,It.den,node,hn,cl] at this
         exact this
       · rename_i i hn
         split at h
         · rename_i r' hr
           exact At.exit hn (IJ hr) (Au hc hk h)
         · cases h
       · rename_i a hn
         refine At.scope hn ?_
         have := Au hc hk h
         simp only [DH,It.den,node,hn,cl] at this
         exact this
       · rename_i l hn; rw [hn]; exact At.label (Au hc hk h)
       · rename_i l hn
         split at h
         · rename_i r' hr
           obtain ⟨k',e1,e2⟩ := IK (g := g) hr
           exact At.goto hn e1 (e2 (Au hc hk h))
         · cases h
       · rename_i x a b hn
         obtain ⟨t,s',v,h1,h2,h3,h4,h⟩ := S.FT h
         have hx : AD (s.e J) x = .bool t := by rw [ev h3,h4]
         have := Au hc hk h
         rw [h1.e J,h1.b,h1.σ] at this
         cases t with
         | true =>
           refine At.vY hn hx ?_
           simp only [DH,It.den,node,hn,cl,Bool.not_true] at this
           exact this
         | false =>
           refine At.vZ hn hx ?_
           simp only [DH,It.den,node,hn,cr,Bool.not_false] at this
           exact this
       · rename_i hn
         unfold Vs at h
         split at h
         · rename_i l fH
           rw [hc.cx.R] at h
           exact At.Vs hn hc.fnc hc.res (by rw [hl]; exact G4 hc.cx.P fH) (by rw [hl]; exact h) hc.G0 rJ
         · cases h
       · rename_i id ops draw hn
         rw [hn]
         exact bu hc.cx hc.mixed h fun s' h' => Au hc hk h'
       · cases h
end
def S.iI (s : S) : List Nat → Option (List Value)
 | [] => some []
 | t :: l => match Vy s.env t,s.iI l with
   | some v,some r => some (v.den s.vl :: r)
   | _,_ => none
theorem U5 {s : S} {J : Env} : ∀ {l : List Nat} {vs : List Value},s.iI l = some vs → Live (s.e J) (l.zip vs)
 | [],vs,h => by simp only [S.iI,Option.some.injEq] at h; subst h; trivial
 | t :: l,vs,h => by
   simp only [S.iI] at h
   split at h
   · rename_i v r h1 h2
     cases h
     exact ⟨EO h1,U5 h2⟩
   · cases h
def fI (i : Nat) : List FQ → Option (FQ × List FQ)
 | [] => none
 | x :: l => match Nat.beq x.1 i with
   | true => some (x,l)
   | false => fI i l
def vq : Option SV → Option Nat
 | some (.v (.a (.pt (.bx i 0)))) => some i
 | _ => none
def S.V5 (s : S) : List Nat → List FQ → Option (List FQ)
 | [],_ => some []
 | t :: l,bx => match vq (Vy s.env t) with
   | some i => match fI i bx with
     | some (x,r) => match s.V5 l r with
       | some m => some (x :: m)
       | none => none
     | none => none
   | none => none
def Rm (vl : Vl) : List Nat → List FQ → List (Nat × Value)
 | t :: l,x :: r => (t,.pointer (some ⟨nth 0 vl.δ x.1,0,none⟩)) :: Rm vl l r
 | _,_ => []
theorem U6 {vl : Vl} {i : Nat} : ∀ {l r : List FQ} {x : FQ},fI i l = some (x,r) → x.1 = i ∧ ∀ m : List FQ,(Eg vl m).Sublist (Eg vl r) → (Eg vl (x :: m)).Sublist (Eg vl l)
 | y :: l,r,x,h => by
   simp only [fI] at h
   split at h
   · rename_i he
     cases h
     exact ⟨Nat.eq_of_beq_eq_true he,fun m hm => List.Sublist.cons_cons _ hm⟩
   · obtain ⟨h1,h2⟩ := U6 (vl := vl) h
     exact ⟨h1,fun m hm => List.Sublist.cons _ (h2 m hm)⟩
theorem Xv {s : S} {J : Env} : ∀ {l : List Nat} {bx B : List FQ},s.V5 l bx = some B → (Eg s.vl B).Sublist (Eg s.vl bx) ∧ Live (s.e J) (Rm s.vl l B)
 | [],bx,B,h => by simp only [S.V5,Option.some.injEq] at h; subst h; exact ⟨List.nil_sublist _,trivial⟩
 | t :: l,bx,B,h => by
   simp only [S.V5] at h
   split at h
   · rename_i i hi
     split at h
     · rename_i x r hx
       split at h
       · rename_i m hm
         cases h
         obtain ⟨h1,h2⟩ := U6 (vl := s.vl) hx
         obtain ⟨h3,h4⟩ := Xv (s := s) (J := J) hm
         refine ⟨h2 m h3,?_,h4⟩
         unfold vq at hi
         split at hi
         · rename_i hg
           cases hi
           rw [h1]
           exact EO hg
         · cases hi
       · cases h
     · cases h
   · cases h
theorem Live.app {e : Env} : ∀ {l m : List (Nat × Value)},Live e l → Live e m → Live e (l ++ m)
 | [],_,_,h => h
 | (_,_) :: _,_,h,g => ⟨h.1,Live.app h.2 g⟩
theorem At.ADi {g : Gl} {k : List Item} {s : S} {J : Env} {l bl : List Nat} {vs : List Value} {B : List FQ} (h : s.iI l = some vs) (hb : s.V5 bl s.bx = some B) (hk : ∀ J,At g k (J0 J (Rm s.vl bl B ++ l.zip vs)) (Eg s.vl B) s.σ) : At g k (s.e J) s.b s.σ := by
 obtain ⟨h1,h2⟩ := Xv (J := J) hb
 exact At.sub h1 (At.live (h2.app (U5 h)) (hk _))
def Rn : Nat → List Value → List (Nat × Value)
 | _,[] => []
 | k,v :: l => (k,v) :: Rn (k + 1) l
theorem Ro {e : Env} : ∀ {l : List Value} {k : Nat},(∀ j v,l[j]? = some v → e (k + j) = v) → Live e (Rn k l)
 | [],_,_ => trivial
 | v :: l,k,h => ⟨h 0 v rfl,Ro fun j u hj => by rw [show k + 1 + j = k + (j + 1) by omega]; exact h (j + 1) u (by simpa using hj)⟩
theorem Spec.walk {P : Program} {f : FuncId} {fn : Func} {R : Rr} {args : Array Value} {n fuel : Nat} (c : Fx) (cuts : List Cut) (s : S) (hc : c.Ok (Gl.fn P f n R) fn) (hb : fn.body = some c.body) (hnt : fn.ntmps = n) (hn : Nat.ble args.size n = true)
   (hk : ∀ k ∈ cuts,k.Ok (Gl.fn P f n R) c.body) (he : HP s.vl s.env = Rn 0 args.toList) (hbx : s.bx = []) (h : DI c cuts fuel true [.c []] s) : Spec P f args s.σ R := by
 subst hnt
 refine Spec.eW hc.fnc hb (Nat.le_of_ble_eq_true hn) fun e hee => ?_
 have hl : Live e (HP s.vl s.env) := by
   rw [he]
   refine Ro fun j v hj => ?_
   rw [Nat.zero_add,hee]
   simp only [Array.getD_eq_getD_getElem?]
   rw [← Array.getElem?_toList,hj]; rfl
 have := Au (J := e) hc hk h
 have M4 : s.b = [] := by rw [S.b,hbx]; rfl
 rw [M4] at this
 exact At.live hl this
end Tw
end
section
namespace Tw
open Go
variable [FB]
inductive Dv where
 | I (k : IntKind) (x : Int)
 | B (t : Bool)
 | T (x : ByteArray)
 | L (p : Option Addr) (n c : Nat)
 | Q (p : Option Addr)
 | A (b : Nat)
 | M (x : Option Nat)
 | V (x : Value)
def Dv.den : Dv → Value
 | .I k x => .int k x
 | .B t => .bool t
 | .T x => .string x
 | .L p n c => .slice p n c
 | .Q p => .pointer p
 | .A b => .pointer (some ⟨b,0,none⟩)
 | .M x => .map x
 | .V x => x
def Xw : List Dv → List Value
 | [] => []
 | x :: l => x.den :: Xw l
inductive Dw where
 | o (x : Dv)
 | G (l : List Dv)
 | U (l : List Dv)
 | X (T : TypeId) (l : List Dv)
def Dw.den : Dw → Value
 | .o x => x.den
 | .G l => .agg (Xw l).toArray
 | .U l => .tuple (Xw l).toArray
 | .X _ _ => undef
structure Nm where
 ρ : List (Option Addr)
 β : List BK
structure Nm.le (n : Nm) (v : Vl) : Prop where
 ρ : ∀ i,i < n.ρ.length → nth none v.ρ i = nth none n.ρ i
 β : ∀ i,i < n.β.length → nth (.var false) v.β i = nth (.var false) n.β i
def Dv.sym : Dv → Nm → Bk × Nm
 | .I k x,n => (.int k x,n)
 | .B t,n => (.bs (Rf n.β) false,⟨n.ρ,n.β ++ [.var t]⟩)
 | .T x,n => (.str x,n)
 | .L p k c,n => (.sl (.var (Rf n.ρ)) k c,⟨n.ρ ++ [p],n.β⟩)
 | .Q p,n => (.pt (.var (Rf n.ρ)),⟨n.ρ ++ [p],n.β⟩)
 | .A b,n => (.pt (.at b 0),n)
 | .M x,n => (.mp x,n)
 | .V x,n => (.raw x,n)
theorem Nm.ADj {n : Nm} {v : Vl} {p : Option Addr} (h : Nm.le ⟨n.ρ ++ [p],n.β⟩ v) : n.le v ∧ nth none v.ρ (Rf n.ρ) = p := by
 refine ⟨⟨fun i hi => (h.ρ i (by simp only [List.length_append]; omega)).trans (Lr hi),h.β⟩,?_⟩
 rw [Q1,h.ρ _ (by simp)]; exact Ls
theorem Nm.AK3 {n : Nm} {v : Vl} {p : BK} (h : Nm.le ⟨n.ρ,n.β ++ [p]⟩ v) : n.le v ∧ nth (.var false) v.β (Rf n.β) = p := by
 refine ⟨⟨h.ρ,fun i hi => (h.β i (by simp only [List.length_append]; omega)).trans (Lr hi)⟩,?_⟩
 rw [Q1,h.β _ (by simp)]; exact Ls
theorem Dv.Oz {x : Dv} {n : Nm} {v : Vl} (h : (x.sym n).2.le v) : (x.sym n).1.den v = x.den ∧ n.le v := by
 cases x with
 | B t => obtain ⟨h1,h2⟩ := Nm.AK3 h; exact ⟨by simp only [Dv.sym,Bk.den,h2]; rfl,h1⟩
 | L p k c => obtain ⟨h1,h2⟩ := Nm.ADj h; exact ⟨by simp only [Dv.sym,Bk.den,PV.den,h2]; rfl,h1⟩
 | Q p => obtain ⟨h1,h2⟩ := Nm.ADj h; exact ⟨by simp only [Dv.sym,Bk.den,PV.den,h2]; rfl,h1⟩
 | _ => exact ⟨rfl,h⟩
def Xx : List Dv → Nm → List Bk × Nm
 | [],n => ([],n)
 | x :: l,n => match x.sym n with
   | (a,n) => match Xx l n with
     | (r,n) => (a :: r,n)
theorem Q2 {v : Vl} : ∀ {l : List Dv} {n : Nm},(Xx l n).2.le v → A8 v (Xx l n).1 = Xw l ∧ n.le v
 | [],n,h => ⟨rfl,h⟩
 | x :: l,n,h => by
   obtain ⟨h1,h2⟩ := Q2 (l := l) (n := (x.sym n).2) h
   obtain ⟨h3,h4⟩ := Dv.Oz h2
   exact ⟨by simp only [Xx,A8,Xw,h3]; rw [← h1],h4⟩
def atoms : List Bk → List Gp
 | [] => []
 | x :: l => .a x :: atoms l
theorem U7 {v : Vl} : ∀ l,Hb v (atoms l) = A8 v l
 | [] => rfl
 | x :: l => by simp only [atoms,Hb,A8]; rw [U7 l]; rfl
def Dw.sym : Dw → Nm → SV × Nm
 | .o x,n => match x.sym n with | (a,n) => (.v (.a a),n)
 | .G l,n => match Xx l n with | (a,n) => (.v (.agg a),n)
 | .U l,n => match Xx l n with | (a,n) => (.Up (atoms a),n)
 | .X _ _,n => (.v (.a .un),n)
theorem Dw.Oz {x : Dw} {n : Nm} {v : Vl} (h : (x.sym n).2.le v) : (x.sym n).1.den v = x.den ∧ n.le v := by
 cases x with
 | o x => exact Dv.Oz (x := x) h
 | G l => obtain ⟨h1,h2⟩ := Q2 (l := l) h; exact ⟨by simp only [Dw.sym,SV.den,Gp.den,Dw.den]; rw [← h1],h2⟩
 | U l => obtain ⟨h1,h2⟩ := Q2 (l := l) h; exact ⟨by simp only [Dw.sym,SV.den,Dw.den]; rw [U7,← h1],h2⟩
 | X T l => exact ⟨rfl,h⟩
abbrev Bv := Nat × TypeId × List Dv
def QP : List (Nat × Dw) → List (Nat × Value)
 | [] => []
 | (_,.X _ _) :: l => QP l
 | (t,x) :: l => (t,x.den) :: QP l
def O0 : List (Nat × Dw) → Nm → List (Nat × SV) × Nm
 | [],n => ([],n)
 | (_,.X _ _) :: l,n => O0 l n
 | (t,x) :: l,n => match x.sym n with
   | (a,n) => match O0 l n with
     | (r,n) => ((t,a) :: r,n)
theorem Lu {v : Vl} : ∀ {l : List (Nat × Dw)} {n : Nm},(O0 l n).2.le v → HP v (O0 l n).1 = QP l ∧ n.le v
 | [],n,h => ⟨rfl,h⟩
 | (t,.o x) :: l,n,h => by
   obtain ⟨h1,h2⟩ := Lu (l := l) (n := ((Dw.o x).sym n).2) h
   obtain ⟨h3,h4⟩ := Dw.Oz h2
   exact ⟨by simp only [O0,HP,QP,h3]; rw [← h1],h4⟩
 | (t,.G x) :: l,n,h => by
   obtain ⟨h1,h2⟩ := Lu (l := l) (n := ((Dw.G x).sym n).2) h
   obtain ⟨h3,h4⟩ := Dw.Oz h2
   exact ⟨by simp only [O0,HP,QP,h3]; rw [← h1],h4⟩
 | (t,.U x) :: l,n,h => by
   obtain ⟨h1,h2⟩ := Lu (l := l) (n := ((Dw.U x).sym n).2) h
   obtain ⟨h3,h4⟩ := Dw.Oz h2
   exact ⟨by simp only [O0,HP,QP,h3]; rw [← h1],h4⟩
 | (_,.X T x) :: l,n,h => Lu (l := l) (n := n) h
def Ju : List (Nat × Dw) → List Bv → List Bv
 | [],r => r
 | (t,.X T l) :: m,r => Ju m ((t,T,l) :: r)
 | _ :: m,r => Ju m r
def Xy : List Bv → Nat → Nm → List FQ × Nm
 | [],_,n => ([],n)
 | (_,T,l) :: m,j,n => match Xx l n with
   | (a,n) => match Xy m (j + 1) n with
     | (r,n) => ((j,T,a) :: r,n)
def sW : List Bv → Nat → List (Nat × SV)
 | [],_ => []
 | (t,_,_) :: m,j => (t,.v (.a (.pt (.bx j 0)))) :: sW m (j + 1)
abbrev Bw := Nat × TypeId × List Value
def UR : List Bv → List Bw
 | [] => []
 | (t,T,l) :: m => (t,T,Xw l) :: UR m
def bz : List Bw → List Nat → List (Nat × Value)
 | (t,_,_) :: m,b :: δ => (t,.pointer (some ⟨b,0,none⟩)) :: bz m δ
 | _,_ => []
def zM : List Bw → List Nat → Bx
 | (_,T,l) :: m,b :: δ => (b,.cells l.toArray T (0,0)) :: zM m δ
 | _,_ => []
def PB : List Bw → (List Nat → Prop) → Prop
 | [],K => K []
 | _ :: m,K => ∀ b : Nat,PB m fun δ => K (b :: δ)
theorem lK : ∀ {l : List Bw} {K : List Nat → Prop},PB l K → ∀ δ,δ.length = l.length → K δ
 | [],K,h,[],_ => h
 | _ :: m,K,h,b :: δ,hl => lK (h b) δ (by simpa using hl)
theorem lL : ∀ {l : List Bw} {K : List Nat → Prop},(∀ δ,δ.length = l.length → K δ) → PB l K
 | [],K,h => h [] rfl
 | _ :: m,K,h => fun b => lL fun δ hl => h (b :: δ) (by simp [hl])
def PTv (g : Gl) (td : List Item) (bs : List Bw) (ts : List (Nat × Value)) (σ : Hp) : Prop :=
 ∀ J : Env,PB bs fun δ => At g td (J0 J (bz bs δ ++ ts)) (zM bs δ) σ
theorem fJ {δ0 : List Nat} {v : Vl} : ∀ {m : List Bv} {j : Nat} {n : Nm} {δ : List Nat},δ.length = m.length → (∀ i,i < δ.length → nth 0 v.δ (j + i) = nth 0 δ i) → (Xy m j n).2.le v →
   Eg v (Xy m j n).1 = zM (UR m) δ ∧ HP v (sW m j) = bz (UR m) δ ∧ n.le v
 | [],j,n,[],_,_,h => ⟨rfl,rfl,h⟩
 | (t,T,l) :: m,j,n,b :: δ,hl,hd,h => by
   obtain ⟨h1,h2,h3⟩ := fJ (δ0 := δ0) (m := m) (j := j + 1) (n := (Xx l n).2) (δ := δ) (by simpa using hl) (fun i hi => by
     have := hd (i + 1) (by simpa using hi)
     rw [show j + 1 + i = j + (i + 1) by omega]; exact this) h
   obtain ⟨h4,h5⟩ := Q2 h3
   have hb : nth 0 v.δ j = b := hd 0 (by simp)
   refine ⟨?_,?_,h5⟩
   · simp only [Xy,Eg,UR,zM,hb,h4]; rw [← h1]
   · simp only [sW,HP,UR,bz,SV.den,Gp.den,Bk.den,PV.den,hb]; rw [h2]
def iJ (D : List (Nat × Dw)) (δ : List Nat) (σ : Hp) : S := match O0 D ⟨[],[]⟩ with
 | (e,n) => match Ju D [] with
   | bs => match Xy bs 0 n with
     | (x,n) => ⟨sW bs 0 ++ e,x,⟨n.ρ,n.β,δ⟩,σ⟩
theorem Xz {v : Vl} : ∀ {l m : List (Nat × SV)},HP v (l ++ m) = HP v l ++ HP v m
 | [],_ => rfl
 | (t,x) :: l,m => by simp only [List.cons_append,HP]; rw [Xz]
theorem zN {D : List (Nat × Dw)} {δ : List Nat} {σ : Hp} {J : Env} (hl : δ.length = (Ju D []).length) :
   (iJ D δ σ).e J = J0 J (bz (UR (Ju D [])) δ ++ QP D) ∧ (iJ D δ σ).b = zM (UR (Ju D [])) δ := by
 have hle : (Xy (Ju D []) 0 (O0 D ⟨[],[]⟩).2).2.le ⟨(Xy (Ju D []) 0 (O0 D ⟨[],[]⟩).2).2.ρ,(Xy (Ju D []) 0 (O0 D ⟨[],[]⟩).2).2.β,δ⟩ := ⟨fun _ _ => rfl,fun _ _ => rfl⟩
 obtain ⟨h1,h2,h3⟩ := fJ (δ0 := []) (δ := δ) hl (fun i _ => by rw [Nat.zero_add]) hle
 obtain ⟨h4,_⟩ := Lu h3
 exact ⟨by simp only [iJ,S.e,Xz]; rw [h2,h4],h1⟩
def ADk : Nat → Nat → List Bool
 | 0,_ => []
 | f + 1,n => match Nat.ble n 1 with
   | true => []
   | false => Nat.beq (n % 2) 1 :: ADk f (n / 2)
def pth (n : Nat) : List Bool := ADk 400 n
def M5 (body : Code) : List Bool → List It
 | [] => []
 | t :: p => match node body p with
   | .seq _ _ => bif t then M5 body p else .c (true :: p) :: M5 body p
   | .block i _ => .RU i :: M5 body p
   | .loop _ => .lp (false :: p) :: M5 body p
   | .scope _ => .sc (false :: p) :: M5 body p
   | _ => M5 body p
def sY (body : Code) (n : Nat) : List It := .c (pth n) :: M5 body (pth n)
inductive Sh where
 | I (k : IntKind) | B | T | L | Q | A | M | V
inductive Sw where
 | o (x : Sh)
 | G (l : List Sh)
 | U (l : List Sh)
 | X (T : TypeId) (l : List Sh)
abbrev ArS : Sh → Type → Type
 | .I _,C => Int → C
 | .B,C => Bool → C
 | .T,C => ByteArray → C
 | .L,C => Option Addr → Nat → Nat → C
 | .Q,C => Option Addr → C
 | .A,C => Nat → C
 | .M,C => Option Nat → C
 | .V,C => Value → C
def ADl {C : Type} : (x : Sh) → (Dv → C) → ArS x C
 | .I k,K => fun x => K (.I k x)
 | .B,K => fun x => K (.B x)
 | .T,K => fun x => K (.T x)
 | .L,K => fun p n c => K (.L p n c)
 | .Q,K => fun x => K (.Q x)
 | .A,K => fun x => K (.A x)
 | .M,K => fun x => K (.M x)
 | .V,K => fun x => K (.V x)
abbrev ArL : List Sh → Type → Type
 | [],A => A
 | x :: l,A => ArS x (ArL l A)
def sZ {A : Type} : (l : List Sh) → (List Dv → A) → ArL l A
 | [],K => K []
 | x :: l,K => ADl x fun d => sZ l fun r => K (d :: r)
abbrev ArW : Sw → Type → Type
 | .o x,C => ArS x C
 | .G l,C => ArL l C
 | .U l,C => ArL l C
 | .X _ l,C => ArL l C
def AK5 {A : Type} : (x : Sw) → (Dw → A) → ArW x A
 | .o x,K => ADl x fun d => K (.o d)
 | .G l,K => sZ l fun d => K (.G d)
 | .U l,K => sZ l fun d => K (.U d)
 | .X T l,K => sZ l fun d => K (.X T d)
abbrev Ar : List (Nat × Sw) → Type → Type
 | [],A => A
 | (_,x) :: l,A => ArW x (Ar l A)
def cur {A : Type} : (l : List (Nat × Sw)) → (List (Nat × Dw) → A) → Ar l A
 | [],K => K []
 | (t,x) :: l,K => AK5 x fun d => cur l fun r => K ((t,d) :: r)
structure Fw where
 P : Program
 f : Nat
 fn : Func
 Nc : List Nat
 hid : List Nat
 wr : Bool
 reg : List (Nat × Nat × Bool)
 Ow : List (Nat × TypeId)
 cuts : List (Nat × List (Nat × Sw))
def Fw.K (M : Fw) : Code := M.fn.body.getD .skip
def Fw.gl (M : Fw) (R : Rr) : Gl := Gl.fn M.P M.f M.fn.ntmps R
def Fw.cx (M : Fw) (R : Rr) : Fx := { P := M.P,R := R,Nc := M.Nc,hid := M.hid,wr := M.wr,n := M.fn.ntmps,body := M.K,res := M.fn.results.toList,reg := M.reg,Ow := M.Ow }
def X0 (vl : Vl) : List Nat → List FQ → List Bw
 | t :: l,x :: r => (t,x.2.1,A8 vl x.2.2) :: X0 vl l r
 | _,_ => []
def tmps : List (Nat × Sw) → List Nat
 | [] => []
 | (_,.X _ _) :: l => tmps l
 | (t,_) :: l => t :: tmps l
def lM : List (Nat × Sw) → List Nat → List Nat
 | [],r => r
 | (t,.X _ _) :: l,r => lM l (t :: r)
 | _ :: l,r => lM l r
def Fw.cut (M : Fw) (R : Rr) (c : Nat × List (Nat × Sw)) : Cut := ⟨sY M.K c.1,fun s => match s.iI (tmps c.2),s.V5 (lM c.2 []) s.bx with
 | some vs,some B => PTv (M.gl R) (DH M.K (sY M.K c.1)) (X0 s.vl (lM c.2 []) B) ((tmps c.2).zip vs) s.σ
 | _,_ => False⟩
def US (M : Fw) (R : Rr) : List (Nat × List (Nat × Sw)) → List Cut
 | [] => []
 | c :: l => M.cut R c :: US M R l
def Fw.zO (M : Fw) (at_ : Nat) (R : Rr) (D : List (Nat × Dw)) (σ : Hp) : Prop := PTv (M.gl R) (DH M.K (sY M.K at_)) (UR (Ju D [])) (QP D) σ
noncomputable def Fw.pt (M : Fw) (i : Nat) (R : Rr) : Ar (nth (0,[]) M.cuts i).2 (Hp → Prop) := cur (nth (0,[]) M.cuts i).2 (M.zO (nth (0,[]) M.cuts i).1 R)
structure Fw.Ok (M : Fw) : Prop where
 E : AG M.P M.Nc
 mixed : M.P.follows .mixedOrders = true
 fnc : M.P.funcs[M.f]? = some M.fn
 body : M.fn.body.isSome = true
theorem Fw.vr {M : Fw} {R : Rr} (h : M.Ok) : (M.cx R).Ok (M.gl R) M.fn := ⟨⟨rfl,rfl,h.E,rfl,rfl,rfl⟩,h.mixed,h.fnc,rfl,rfl,rfl⟩
theorem X8 {vl : Vl} : ∀ {l : List Nat} {B : List FQ},∃ δ : List Nat,δ.length = (X0 vl l B).length ∧ bz (X0 vl l B) δ = Rm vl l B ∧ (l.length = B.length → zM (X0 vl l B) δ = Eg vl B)
 | [],[] => ⟨[],rfl,rfl,fun _ => rfl⟩
 | [],_ :: _ => ⟨[],rfl,rfl,fun h => by simp at h⟩
 | _ :: _,[] => ⟨[],rfl,rfl,fun h => by simp at h⟩
 | t :: l,(i,T,cs) :: B => by
   obtain ⟨δ,h1,h2,h3⟩ := X8 (vl := vl) (l := l) (B := B)
   exact ⟨nth 0 vl.δ i :: δ,by simp [X0,h1],by simp only [X0,bz,Rm]; rw [h2],fun h => by simp only [X0,zM,Eg]; rw [h3 (by simpa using h)]⟩
theorem X9 {s : S} : ∀ {l : List Nat} {bx B : List FQ},s.V5 l bx = some B → l.length = B.length
 | [],bx,B,h => by simp only [S.V5,Option.some.injEq] at h; subst h; rfl
 | t :: l,bx,B,h => by
   simp only [S.V5] at h
   split at h
   · split at h
     · split at h
       · rename_i m hm
         cases h
         simp [X9 hm]
       · cases h
     · cases h
   · cases h
theorem Fw.zP (M : Fw) (R : Rr) (c : Nat × List (Nat × Sw)) : (M.cut R c).Ok (M.gl R) M.K := fun s J h => by
 simp only [Fw.cut] at h
 split at h
 · rename_i vs B h1 h2
   obtain ⟨δ,e1,e2,e3⟩ := X8 (vl := s.vl) (l := lM c.2 []) (B := B)
   refine At.ADi h1 h2 fun J => ?_
   have := lK (h J) δ e1
   rw [e2,e3 (X9 h2)] at this
   exact this
 · cases h
theorem V6 {M : Fw} {R : Rr} : ∀ {l : List (Nat × List (Nat × Sw))},∀ k ∈ US M R l,k.Ok (M.gl R) M.K
 | c :: l,k,hk => by
   rcases List.mem_cons.1 hk with rfl | hk
   · exact M.zP R c
   · exact V6 k hk
theorem YA : ∀ {l : List Bv},(UR l).length = l.length
 | [] => rfl
 | _ :: m => by simp only [UR,List.length_cons]; rw [YA]
def PX (F : Prop) : List Bv → (List Nat → Prop) → Prop
 | [],K => F = K []
 | _ :: m,K => ∀ b : Nat,PX F m fun δ => K (b :: δ)
theorem lN {F : Prop} (h : F) : ∀ {l : List Bv} {K : List Nat → Prop},PX F l K → ∀ δ,δ.length = l.length → K δ
 | [],K,e,[],_ => e ▸ h
 | _ :: m,K,e,b :: δ,hl => lN h (e b) δ (by simpa using hl)
theorem Fw.ofB {M : Fw} {R : Rr} {at_ : Nat} {D : List (Nat × Dw)} {σ : Hp} {F : Prop} (h : F) (ok : M.Ok) (e : PX F (Ju D []) fun δ => DI (M.cx R) (US M R M.cuts) 4000 true (sY M.K at_) (iJ D δ σ)) : M.zO at_ R D σ := fun J => by
 refine lL fun δ hl => ?_
 rw [YA] at hl
 have := Au (J := J) (Fw.vr ok) V6 (lN h e δ hl)
 obtain ⟨e1,e2⟩ := zN (D := D) (σ := σ) (J := J) hl
 rw [e1,e2] at this
 exact this
theorem Fw.of {M : Fw} {R : Rr} {at_ : Nat} {D : List (Nat × Dw)} {σ : Hp} {F : Prop} (h : F) (ok : M.Ok) (hb : Ju D [] = []) (e : F = DI (M.cx R) (US M R M.cuts) 4000 true (sY M.K at_) (iJ D [] σ) := by kernel_rfl) : M.zO at_ R D σ :=
 M.ofB h ok (by rw [hb]; exact e)
theorem Fw.j8 {M : Fw} {R : Rr} {at_ : Nat} {D : List (Nat × Dw)} {σ : Hp} {F : Prop} {x1 : Bv} (h : F) (ok : M.Ok) (hb : Ju D [] = [x1]) (e : ∀ b1 : Nat,F = DI (M.cx R) (US M R M.cuts) 4000 true (sY M.K at_) (iJ D [b1] σ)) : M.zO at_ R D σ :=
 M.ofB h ok (by rw [hb]; exact e)
theorem Fw.iK {M : Fw} {R : Rr} {at_ : Nat} {D : List (Nat × Dw)} {σ : Hp} {F : Prop} {x1 x2 : Bv} (h : F) (ok : M.Ok) (hb : Ju D [] = [x1,x2]) (e : ∀ b1 b2 : Nat,F = DI (M.cx R) (US M R M.cuts) 4000 true (sY M.K at_) (iJ D [b1,b2] σ)) : M.zO at_ R D σ :=
 M.ofB h ok (by rw [hb]; exact e)
theorem Fw.of3 {M : Fw} {R : Rr} {at_ : Nat} {D : List (Nat × Dw)} {σ : Hp} {F : Prop} {x1 x2 x3 : Bv} (h : F) (ok : M.Ok) (hb : Ju D [] = [x1,x2,x3]) (e : ∀ b1 b2 b3 : Nat,F = DI (M.cx R) (US M R M.cuts) 4000 true (sY M.K at_) (iJ D [b1,b2,b3] σ)) : M.zO at_ R D σ :=
 M.ofB h ok (by rw [hb]; exact e)
theorem Fw.of4 {M : Fw} {R : Rr} {at_ : Nat} {D : List (Nat × Dw)} {σ : Hp} {F : Prop} {x1 x2 x3 x4 : Bv} (h : F) (ok : M.Ok) (hb : Ju D [] = [x1,x2,x3,x4]) (e : ∀ b1 b2 b3 b4 : Nat,F = DI (M.cx R) (US M R M.cuts) 4000 true (sY M.K at_) (iJ D [b1,b2,b3,b4] σ)) : M.zO at_ R D σ :=
 M.ofB h ok (by rw [hb]; exact e)
def zQ : Value → Dv
 | .int k x => .I k x
 | .bool t => .B t
 | .string x => .T x
 | .slice p n c => .L p n c
 | .pointer p => .Q p
 | .map x => .M x
 | x => .V x
theorem YB (x : Value) : (zQ x).den = x := by cases x <;> rfl
def fK : List Value → List Dv
 | [] => []
 | x :: l => zQ x :: fK l
theorem U8 : ∀ l : List Value,Xw (fK l) = l
 | [] => rfl
 | x :: l => by simp only [fK,Xw]; rw [YB,U8]
def iL : Value → Dw
 | .agg cs => .G (fK cs.toList)
 | x => .o (zQ x)
theorem lO (x : Value) : (iL x).den = x := by
 cases x
 case agg cs => simp only [iL,Dw.den,U8]
 all_goals (simp only [iL,Dw.den]; exact YB _)
def lP : Value → Dw
 | .pointer (some ⟨b,0,none⟩) => .o (.A b)
 | x => .o (.V x)
theorem lQ (x : Value) : (lP x).den = x := by
 unfold lP; split <;> rfl
def iM (np : Nat) : Nat → List Value → List (Nat × Dw)
 | _,[] => []
 | k,x :: l => match Nat.blt k np with
   | true => (k,iL x) :: iM np (k + 1) l
   | false => (k,lP x) :: iM np (k + 1) l
theorem lR (x : Value) : (∃ y,iL x = .o y) ∨ ∃ y,iL x = .G y := by cases x <;> first | exact .inr ⟨_,rfl⟩ | exact .inl ⟨_,rfl⟩
theorem lS (x : Value) : ∃ y,lP x = .o y := by unfold lP; split <;> exact ⟨_,rfl⟩
theorem V7 {np : Nat} : ∀ {l : List Value} {k : Nat},QP (iM np k l) = Rn k l ∧ Ju (iM np k l) [] = []
 | [],_ => ⟨rfl,rfl⟩
 | x :: l,k => by
   obtain ⟨h1,h2⟩ := V7 (np := np) (l := l) (k := k + 1)
   simp only [iM]
   split
   · have hd := lO x
     rcases lR x with ⟨y,hy⟩ | ⟨y,hy⟩ <;> rw [hy] at hd ⊢ <;> exact ⟨by simp only [QP,Rn]; rw [hd,h1],h2⟩
   · have hd := lQ x
     obtain ⟨y,hy⟩ := lS x
     rw [hy] at hd ⊢
     exact ⟨by simp only [QP,Rn]; rw [hd,h1],h2⟩
def Fw.run (M : Fw) (R : Rr) (k : Nat) (D : List (Nat × Dw)) (σ : Hp) : Prop := match Nat.ble k M.fn.ntmps with
 | true => DI (M.cx R) (US M R M.cuts) 4000 true [.c []] (iJ D [] σ)
 | false => False
theorem Fw.EE {M : Fw} {R : Rr} {args : Array Value} {σ : Hp} {F : Prop} (h : F) (ok : M.Ok) (D : List (Nat × Dw)) (hx : Ju D [] = []) (hD : QP D = Rn 0 args.toList) (e : F = M.run R args.size D σ) : Spec M.P M.f args σ R := by
 subst e
 unfold Fw.run at h
 split at h
 case h_2 => exact h.elim
 rename_i hn
 obtain ⟨fb,hb⟩ := Option.isSome_iff_exists.1 ok.body
 refine Spec.walk (c := M.cx R) (cuts := US M R M.cuts) (s := iJ D [] σ) (fuel := 4000) (Fw.vr ok) ?_ rfl hn V6 ?_ ?_ h
 · show M.fn.body = some (M.fn.body.getD .skip)
   rw [hb]; rfl
 · obtain ⟨h4,_⟩ := Lu (l := D) (n := ⟨[],[]⟩) (v := ⟨(O0 D ⟨[],[]⟩).2.ρ,(O0 D ⟨[],[]⟩).2.β,[]⟩) ⟨fun _ _ => rfl,fun _ _ => rfl⟩
   rw [hD] at h4
   simp only [iJ,hx]
   exact h4
 · simp only [iJ,hx]; rfl
theorem Fw.start {M : Fw} {R : Rr} {args : Array Value} {σ : Hp} {F : Prop} (h : F) (ok : M.Ok) (e : F = M.run R args.size (iM M.fn.params.size 0 args.toList) σ := by kernel_rfl) : Spec M.P M.f args σ R :=
 M.EE h ok _ V7.2 V7.1 e
abbrev wI : Sw := .o (.I .i64)
abbrev wU : Sw := .o (.I .u64)
abbrev w8 : Sw := .o (.I .u8)
abbrev wB : Sw := .o .B
abbrev wT : Sw := .o .T
abbrev wL : Sw := .o .L
abbrev wQ : Sw := .o .Q
abbrev wA : Sw := .o .A
abbrev wM : Sw := .o .M
abbrev wV : Sw := .o .V
abbrev aD (b o : Nat) : Option Addr := some ⟨b,o,none⟩
abbrev Br (p A B : Prop) : Prop := (p → A) ∧ (¬ p → B)
abbrev Bm (p A B : Prop) : Prop := (¬ p → A) ∧ (p → B)
abbrev Bo (t : Bool) (A B : Prop) : Prop := (t = true → A) ∧ (t = false → B)
abbrev Bn (t : Bool) (A B : Prop) : Prop := (t = false → A) ∧ (t = true → B)
abbrev Pq (p : Option Addr) (K : Nat → Nat → Prop) : Prop := ∃ b o : Nat,p = some ⟨b,o,none⟩ ∧ K b o
abbrev In (x n : Int) : Prop := (0 : Int) ≤ x ∧ x < n
abbrev Df (r : Int) (K : Int → Prop) : Prop := ∀ x : Int,x = r → K x
abbrev Al (σ : Hp) (K : Nat → Prop) : Prop := ∀ b : Nat,σ b = none → K b
abbrev LI (k : IntKind) (σ : Hp) (b o : Nat) (K : Int → Prop) : Prop := ∃ x : Int,Hp.ld σ ⟨b,o,none⟩ = some (.int k x) ∧ K x
abbrev LB (σ : Hp) (b o : Nat) (K : Bool → Prop) : Prop := ∃ x : Bool,Hp.ld σ ⟨b,o,none⟩ = some (.bool x) ∧ K x
abbrev LT (σ : Hp) (b o : Nat) (K : ByteArray → Prop) : Prop := ∃ x : ByteArray,Hp.ld σ ⟨b,o,none⟩ = some (.string x) ∧ K x
abbrev LQ (σ : Hp) (b o : Nat) (K : Option Addr → Prop) : Prop := ∃ x : Option Addr,Hp.ld σ ⟨b,o,none⟩ = some (.pointer x) ∧ K x
abbrev LS (σ : Hp) (b o : Nat) (K : Option Addr → Nat → Nat → Prop) : Prop := ∃ p : Option Addr,∃ n : Nat,∃ c : Nat,Hp.ld σ ⟨b,o,none⟩ = some (.slice p n c) ∧ K p n c
abbrev CI (k : IntKind) (K : Int → Hp → Prop) : Value → Hp → Prop := fun v σ => ∃ x : Int,v = .int k x ∧ K x σ
abbrev CB (K : Bool → Hp → Prop) : Value → Hp → Prop := fun v σ => ∃ x : Bool,v = .bool x ∧ K x σ
abbrev CT (K : ByteArray → Hp → Prop) : Value → Hp → Prop := fun v σ => ∃ x : ByteArray,v = .string x ∧ K x σ
abbrev CQ (K : Option Addr → Hp → Prop) : Value → Hp → Prop := fun v σ => ∃ x : Option Addr,v = .pointer x ∧ K x σ
abbrev CS (K : Option Addr → Nat → Nat → Hp → Prop) : Value → Hp → Prop := fun v σ => ∃ p : Option Addr,∃ n : Nat,∃ c : Nat,v = .slice p n c ∧ K p n c σ
end Tw
end
section
set_option maxRecDepth 100000
noncomputable section
namespace TwW
open Go Tw Go.Proofs.Tryz
variable [FB] {R : Rr} {σ : Hp}

namespace Cb
variable {p0 p3 : Option Addr} {n0 c0 n3 c3 : Nat} {x4 : Int}
def M : Fw := ⟨prog,13,f13,[33,34],[],false,[],[],[(464,[(0,wL),(3,wL),(4,wI)])]⟩
theorem ok : M.Ok := ⟨.cons call33 (.cons call34 (AG.nil)),mixed,func13,by kernel_rfl⟩
def Bh := M.pt 0
theorem start (h : Bh R p0 n0 c0 none 0 0 0 σ) : Spec prog 13 #[.slice p0 n0 c0] σ R := M.start h ok
theorem A3 (h : Br (x4 < (n0 : Int)) (Pq p0 fun BY Q3 => In x4 (n0 : Int) ∧ LS σ BY (Q3 + Int.toNat x4 * 2) fun fL n16 YC => In x4 (n0 : Int) ∧ LS σ BY ((Q3 + Int.toNat x4 * 2) + 1) fun U9 n22 UK => Spec prog 33 #[.slice fL n16 YC] σ (AA R (CS fun p17 n17 c17 y => Kp [BY] σ y ∧ Spec prog 34 #[.slice U9 n22 UK] y (AA R (CS fun cA n23 cB AF => Al AF fun Lv => AK prog (Builtin.append_ #[23,23] 23 #[.slice p3 n3 c3,(.slice (aD Lv 0) 1 1)]) (Hp.set AF Lv (.cells #[.slice p17 n17 c17,.slice cA n23 cB] 40 (0,0))) (CS fun p26 n26 c26 AH => AJ (x4 + 1) ∧ Bh R (aD BY Q3) n0 c0 p26 n26 c26 (x4 + 1) AH)))))) (R (.returned (.slice p3 n3 c3)) σ)) : Bh R p0 n0 c0 p3 n3 c3 x4 σ := M.of h ok rfl
end Cb
namespace Jg
variable {p0 : Option Addr} {n0 c0 : Nat}
def M : Fw := ⟨prog,34,f34,[],[],false,[],[],[]⟩
theorem ok : M.Ok := ⟨AG.nil,mixed,func34,by kernel_rfl⟩
theorem start (h : Al σ fun b3 => AK prog (Builtin.append_ #[38,38] 38 #[(.slice (aD b3 0) 0 0),.slice p0 n0 c0]) (Hp.set σ b3 (.cells #[] 50 (0,0))) (CS fun p5 n5 c5 y => R (.returned (.slice p5 n5 c5)) y)) : Spec prog 34 #[.slice p0 n0 c0] σ R := M.start h ok
end Jg
namespace CA
def K0 := f35.body.getD .skip
def K1 := cl K0
def K2 := cr K0
def K3 := cl K2
def K4 := cl K3
def K5 := cr K3
def K6 := cl K5
def K7 := cr K5
def K8 := cl K7
def K9 := cl K8
def K10 := cr K8
def K11 := cr K7
def K12 := cr K2
def K13 := cl K12
def K14 := cl K13
def K15 := cr K13
def zR := cl K15
def K17 := cl zR
def K18 := cr zR
def K19 := cr K15
def K20 := cr K12
def K21 := cl K20
def K22 := cl K21
def K23 := cr K21
def K24 := cl K23
def K25 := cl K24
def K26 := cr K24
def K27 := cr K23
def K28 := cr K20
def K29 := cl K28
def K30 := cr K28
def K31 := cl K30
def K32 := cr K30
def K33 := cl K32
def K34 := cl K33
def K35 := cr K33
def K36 := cl K35
def K37 := cl K36
def K38 := cr K36
def K39 := cl K38
def K40 := cl K39
def K41 := cr K39
def K42 := cl K41
def K43 := cl K42
def K44 := cr K42
def K45 := cl K44
def K46 := cl K45
def K47 := cr K45
def K48 := cr K44
def K49 := cr K41
def K50 := cl K49
def K51 := cr K49
def K52 := cl K51
def K53 := cl K52
def K54 := cl K53
def K55 := cr K53
def K56 := cl K55
def K57 := cl K56
def K58 := cr K56
def K59 := cr K55
def K60 := cl K59
def K61 := cl K60
def K62 := cl K61
def K63 := cr K61
def K64 := cl K63
def K65 := cr K63
def K66 := cl K65
def K67 := cl K66
def K68 := cr K66
def K69 := cl K68
def K70 := cl K69
def K71 := cr K69
def K72 := cl K71
def K73 := cr K71
def K74 := cr K68
def K75 := cr K65
def K76 := cr K59
def K77 := cr K32
def K78 := cl K77
def K79 := cr K77
def K80 := cl K79
def K81 := cr K79
def K82 : Code := .ret
abbrev gl (R : Rr) : Gl := Gl.fn prog 35 117 R
def J6 (R : Rr) (l : Nat) (r0 : Loop) (b5 b6 Cm BG Cn BY : Nat) (vt : Int) (σ : Hp) : Prop := ∀ (J : Env),At (Gl.round prog 35 117 l R) [.code K37,.beginRound,.code K38] (J0 J [(5,(.pointer (some ⟨b5,0,none⟩))),(6,(.pointer (some ⟨b6,0,none⟩))),(10,(.pointer (some ⟨Cm,0,none⟩))),(11,(.pointer (some ⟨BG,0,none⟩))),(13,(.pointer (some ⟨Cn,0,none⟩))),(14,(.pointer (some ⟨BY,0,none⟩))),(56,(.int .i64 vt))]) [] σ
def QQ (R : Rr) (l : Nat) (r0 : Loop) (Cn BY : Nat) (x15 : Int) (j9 : Option Addr) (YD aX : Nat) (Nf QR : Int) (σ : Hp) : Prop := ∀ (J : Env),At (Gl.round prog 35 117 l R) [.code K54,.code K55,.inLoop K53,.inBlock 2,.inBlock 1] (J0 J [(13,(.pointer (some ⟨Cn,0,none⟩))),(14,(.pointer (some ⟨BY,0,none⟩))),(15,(.int .i64 x15)),(67,(.slice j9 YD aX)),(68,(.int .i64 Nf)),(69,(.int .i64 QR))]) [] σ
def sd (R : Rr) (l : Nat) (r0 : Loop) (Cn BY : Nat) (x15 : Int) (Cc : Nat) (Hv : Int) (j9 : Option Addr) (YD aX : Nat) (Nf QR : Int) (σ : Hp) : Prop := ∀ (J : Env),At (Gl.round prog 35 117 l R) [.code K75,.inBlock 3,.code K76,.inLoop K53,.inBlock 2,.inBlock 1] (J0 J [(13,(.pointer (some ⟨Cn,0,none⟩))),(14,(.pointer (some ⟨BY,0,none⟩))),(15,(.int .i64 x15)),(19,(.pointer (some ⟨Cc,0,none⟩))),(20,(.int .i64 Hv)),(67,(.slice j9 YD aX)),(68,(.int .i64 Nf)),(69,(.int .i64 QR))]) [] σ
theorem start {R : Rr} {p0 p1 : Option Addr} {n0 c0 n1 c1 : Nat} {x2 x3 x4 : Int} {σ : Hp} (h : ∀ b5 : Nat,σ b5 = none → ∀ b6 : Nat,(Hp.set σ b5 (.cells #[(.slice p0 n0 c0)] 22 (0,0))) b6 = none → ∀ Cm : Nat,(Hp.set (Hp.set σ b5 (.cells #[(.slice p0 n0 c0)] 22 (0,0))) b6 (.cells #[(.slice p1 n1 c1)] 23 (0,0))) Cm = none → ∀ BG : Nat,(Hp.set (Hp.set (Hp.set σ b5 (.cells #[(.slice p0 n0 c0)] 22 (0,0))) b6 (.cells #[(.slice p1 n1 c1)] 23 (0,0))) Cm (.cells #[(.slice none 0 0)] 23 (0,0))) BG = none → ∃ U9 : Option Addr,∃ n22 : Nat,∃ UK : Nat,Hp.ld (Hp.set (Hp.set (Hp.set (Hp.set σ b5 (.cells #[(.slice p0 n0 c0)] 22 (0,0))) b6 (.cells #[(.slice p1 n1 c1)] 23 (0,0))) Cm (.cells #[(.slice none 0 0)] 23 (0,0))) BG (.cells #[(.int .i64 0)] 24 (0,0))) ⟨b5,0,none⟩ = some (.slice U9 n22 UK) ∧ ∃ cA : Option Addr,∃ n23 : Nat,∃ cB : Nat,Hp.ld (Hp.set (Hp.set (Hp.set (Hp.set σ b5 (.cells #[(.slice p0 n0 c0)] 22 (0,0))) b6 (.cells #[(.slice p1 n1 c1)] 23 (0,0))) Cm (.cells #[(.slice none 0 0)] 23 (0,0))) BG (.cells #[(.int .i64 0)] 24 (0,0))) ⟨b6,0,none⟩ = some (.slice cA n23 cB) ∧ Spec prog 28 #[(.slice U9 n22 UK),(.slice cA n23 cB)] (Hp.set (Hp.set (Hp.set (Hp.set σ b5 (.cells #[(.slice p0 n0 c0)] 22 (0,0))) b6 (.cells #[(.slice p1 n1 c1)] 23 (0,0))) Cm (.cells #[(.slice none 0 0)] 23 (0,0))) BG (.cells #[(.int .i64 0)] 24 (0,0))) (AA R (fun v σ1 => ∃ IL : Int,v = (.int .i64 IL) ∧ ((IL : Int) ≠ 0 → AK prog (Instr.storeAt 23 (.pointer (some ⟨Cm,0,none⟩)) (.slice none 0 0)) σ1 (fun _ GY => AK prog (Instr.storeAt 24 (.pointer (some ⟨BG,0,none⟩)) (.int .i64 IL)) GY (fun _ CR => ∃ Ct : Option Addr,∃ Cu : Nat,∃ Cv : Nat,∃ Cw : Int,Hp.ld CR ⟨Cm,0,none⟩ = some (.slice Ct Cu Cv) ∧ Hp.ld CR ⟨BG,0,none⟩ = some (.int .i64 Cw) ∧ R (.returned (.tuple #[(.slice Ct Cu Cv),(.int .i64 Cw)])) CR))) ∧ (¬ ((IL : Int) ≠ 0) → Spec prog 29 #[(.int .i64 x2)] σ1 (AA R (fun v_2 GY => ∃ t29 : Bool,v_2 = (.bool t29) ∧ (t29 = false → AK prog (Instr.storeAt 23 (.pointer (some ⟨Cm,0,none⟩)) (.slice none 0 0)) GY (fun _ CR => AK prog (Instr.storeAt 24 (.pointer (some ⟨BG,0,none⟩)) (.int .i64 221)) CR (fun _ C1 => ∃ Ct : Option Addr,∃ Cu : Nat,∃ Cv : Nat,∃ Cw : Int,Hp.ld C1 ⟨Cm,0,none⟩ = some (.slice Ct Cu Cv) ∧ Hp.ld C1 ⟨BG,0,none⟩ = some (.int .i64 Cw) ∧ R (.returned (.tuple #[(.slice Ct Cu Cv),(.int .i64 Cw)])) C1))) ∧ (t29 = true → Spec prog 29 #[(.int .i64 x3)] GY (AA R (fun v_3 CR => ∃ t33 : Bool,v_3 = (.bool t33) ∧ (t33 = false → AK prog (Instr.storeAt 23 (.pointer (some ⟨Cm,0,none⟩)) (.slice none 0 0)) CR (fun _ C1 => AK prog (Instr.storeAt 24 (.pointer (some ⟨BG,0,none⟩)) (.int .i64 221)) C1 (fun _ Bi => ∃ Ct : Option Addr,∃ Cu : Nat,∃ Cv : Nat,∃ Cw : Int,Hp.ld Bi ⟨Cm,0,none⟩ = some (.slice Ct Cu Cv) ∧ Hp.ld Bi ⟨BG,0,none⟩ = some (.int .i64 Cw) ∧ R (.returned (.tuple #[(.slice Ct Cu Cv),(.int .i64 Cw)])) Bi))) ∧ (t33 = true → ((x3 : Int) < x2 → AK prog (Instr.storeAt 23 (.pointer (some ⟨Cm,0,none⟩)) (.slice none 0 0)) CR (fun _ C1 => AK prog (Instr.storeAt 24 (.pointer (some ⟨BG,0,none⟩)) (.int .i64 221)) C1 (fun _ Bi => ∃ Ct : Option Addr,∃ Cu : Nat,∃ Cv : Nat,∃ Cw : Int,Hp.ld Bi ⟨Cm,0,none⟩ = some (.slice Ct Cu Cv) ∧ Hp.ld Bi ⟨BG,0,none⟩ = some (.int .i64 Cw) ∧ R (.returned (.tuple #[(.slice Ct Cu Cv),(.int .i64 Cw)])) Bi))) ∧ (¬ ((x3 : Int) < x2) → ((x4 : Int) < 1 → AK prog (Instr.storeAt 23 (.pointer (some ⟨Cm,0,none⟩)) (.slice none 0 0)) CR (fun _ C1 => AK prog (Instr.storeAt 24 (.pointer (some ⟨BG,0,none⟩)) (.int .i64 221)) C1 (fun _ Bi => ∃ Ct : Option Addr,∃ Cu : Nat,∃ Cv : Nat,∃ Cw : Int,Hp.ld Bi ⟨Cm,0,none⟩ = some (.slice Ct Cu Cv) ∧ Hp.ld Bi ⟨BG,0,none⟩ = some (.int .i64 Cw) ∧ R (.returned (.tuple #[(.slice Ct Cu Cv),(.int .i64 Cw)])) Bi))) ∧ (¬ ((x4 : Int) < 1) → AJ (x3 - x2) ∧ x4 ≠ (0 : Int) ∧ ∀ Rp : Int,Rp = IntKind.i64.wrap (Int.tdiv (x3 - x2) x4) → ((512 : Int) ≤ Rp → AK prog (Instr.storeAt 23 (.pointer (some ⟨Cm,0,none⟩)) (.slice none 0 0)) CR (fun _ C1 => AK prog (Instr.storeAt 24 (.pointer (some ⟨BG,0,none⟩)) (.int .i64 222)) C1 (fun _ Bi => ∃ Ct : Option Addr,∃ Cu : Nat,∃ Cv : Nat,∃ Cw : Int,Hp.ld Bi ⟨Cm,0,none⟩ = some (.slice Ct Cu Cv) ∧ Hp.ld Bi ⟨BG,0,none⟩ = some (.int .i64 Cw) ∧ R (.returned (.tuple #[(.slice Ct Cu Cv),(.int .i64 Cw)])) Bi))) ∧ (¬ ((512 : Int) ≤ Rp) → AK prog (Instr.makeMap 99 none) CR (fun v_4 C1 => ∃ m51 : Nat,v_4 = (.map (some m51)) ∧ ∀ Cn : Nat,C1 Cn = none → AK prog (Instr.storeAt 99 (.pointer (some ⟨Cn,0,none⟩)) (.map (some m51))) (Hp.set C1 Cn (.cells #[(.map none)] 99 (0,0))) (fun _ Bi => ∀ BY : Nat,Bi BY = none → Spec prog 48 #[(.int .i64 x2),(.int .i64 x3),(.int .i64 x4)] (Hp.set Bi BY (.cells #[(.slice none 0 0)] 23 (0,0))) (AA R (fun v_5 Ng => ∃ f55 : Fn,∃ a55 : Array Value,∃ c55 : Array Value,(Value.func f55 a55 c55) = v_5 ∧ ∃ (gf : Nat) (lb : Array Value),(Value.func f55 a55 c55) = .func (.func gf) #[] lb ∧ Enters prog gf ∧ ∀ (cC aY : Nat) (QS : Loop),cC ≠ aY → Ng cC = none → Ng aY = none → (∀ (R2 : Rr) (σ2 : Hp) (se : Int),σ2 aY = some (.loop (lp QS .ready none)) → J6 R2 aY QS b5 b6 Cm BG Cn BY se σ2 → ID prog aY #[(.int .i64 se)] σ2 R2) → Spec prog gf (#[.func (.yield aY) #[] #[]] ++ lb) (Hp.set (Hp.set Ng cC (.deferred (some []))) aY (.loop (lp QS .ready none))) (fun en J7 => ∃ (v : Value) (s : LoopState) (p : Option Code),en = .returned v ∧ J7 aY = some (.loop (lp QS s p)) ∧ s ≠ .busy ∧ ((p = none ∧ ∃ sf : Option Addr,∃ n114 : Nat,∃ sg : Nat,Hp.ld (Hp.set J7 aY (.loop (lp QS .exhausted none))) ⟨BY,0,none⟩ = some (.slice sf n114 sg) ∧ Spec prog 50 #[(.slice sf n114 sg),(.func (.func 51) #[] #[])] (Hp.set J7 aY (.loop (lp QS .exhausted none))) (AA (NP R) (fun v_6 VA => v_6 = (.tuple #[]) ∧ ∃ lT : Option Addr,∃ n116 : Nat,∃ lU : Nat,Hp.ld VA ⟨BY,0,none⟩ = some (.slice lT n116 lU) ∧ AK prog (Instr.storeAt 23 (.pointer (some ⟨Cm,0,none⟩)) (.slice lT n116 lU)) VA (fun _ vu => AK prog (Instr.storeAt 24 (.pointer (some ⟨BG,0,none⟩)) (.int .i64 0)) vu (fun _ Rq => ∃ Ct : Option Addr,∃ Cu : Nat,∃ Cv : Nat,∃ Cw : Int,Rq cC = some (.deferred (some [])) ∧ Hp.ld (Hp.set Rq cC (.deferred none)) ⟨Cm,0,none⟩ = some (.slice Ct Cu Cv) ∧ Hp.ld (Hp.set Rq cC (.deferred none)) ⟨BG,0,none⟩ = some (.int .i64 Cw) ∧ R (.returned (.tuple #[(.slice Ct Cu Cv),(.int .i64 Cw)])) (Hp.set Rq cC (.deferred none))))))) ∨ (p = (some .ret) ∧ ∃ V8 : Option Addr,∃ V9 : Nat,∃ WA : Nat,∃ WB : Int,(Hp.set J7 aY (.loop (lp QS .exhausted (some .ret)))) cC = some (.deferred (some [])) ∧ Hp.ld (Hp.set (Hp.set J7 aY (.loop (lp QS .exhausted (some .ret)))) cC (.deferred none)) ⟨Cm,0,none⟩ = some (.slice V8 V9 WA) ∧ Hp.ld (Hp.set (Hp.set J7 aY (.loop (lp QS .exhausted (some .ret)))) cC (.deferred none)) ⟨BG,0,none⟩ = some (.int .i64 WB) ∧ R (.returned (.tuple #[(.slice V8 V9 WA),(.int .i64 WB)])) (Hp.set (Hp.set J7 aY (.loop (lp QS .exhausted (some .ret)))) cC (.deferred none)))))))))))))))))))))) : Spec prog 35 #[(.slice p0 n0 c0),(.slice p1 n1 c1),(.int .i64 x2),(.int .i64 x3),(.int .i64 x4)] σ R := by
 refine Spec.eW (fn := f35) (c := K0) func35 (by kernel_rfl) (Nat.le_of_ble_eq_true (by kernel_rfl)) (fun e he => ?_)
 refine At.ofL (l := [(0,(.slice p0 n0 c0)),(1,(.slice p1 n1 c1)),(2,(.int .i64 x2)),(3,(.int .i64 x3)),(4,(.int .i64 x4))]) ⟨he 0,he 1,he 2,he 3,he 4,trivial⟩ (fun J => ?_)
 show At (gl R) _ _ _ _
 refine At.s K1 K2 ?_
 refine At.rg 0 [0,1,2,3] ?_
 refine Seq.o ?_
 refine AM.yV (T := 22) (d := (some 5)) (ty := 0) (x := (.tmp 0)) (gd := none) (cs := #[(.slice p0 n0 c0)]) (by kernel_rfl) rfl rfl rfl (fun b5 hn => ?_)
 replace h := h b5 hn
 refine Seq.o ?_
 refine AM.yV (T := 23) (d := (some 6)) (ty := 0) (x := (.tmp 1)) (gd := none) (cs := #[(.slice p1 n1 c1)]) (by kernel_rfl) rfl rfl rfl (fun b6 hn => ?_)
 replace h := h b6 hn
 refine Seq.o ?_
 refine AM.Oh (T := 23) (d := (some 10)) (ty := 0)  (gd := none) (cs := #[(.slice none 0 0)]) (by kernel_rfl) rfl rfl zeroValue23 rfl (fun Cm hn => ?_)
 replace h := h Cm hn
 refine Seq.o ?_
 refine AM.Oh (T := 24) (d := (some 11)) (ty := 0)  (gd := none) (cs := #[(.int .i64 0)]) (by kernel_rfl) rfl rfl zeroValue24 rfl (fun BG hn => ?_)
 replace h := h BG hn
 refine Seq.done ?_
 refine At.s K3 K12 (At.s K4 K5 ?_)
 refine At.rg 1 [0,1,2,3] ?_
 obtain ⟨U9,n22,UK,hl,h⟩ := h
 refine Seq.z 22 (.load 22 (.tmp 5)) 22 (.slice U9 n22 UK) (Y.ld isAgg22 rfl hl) ?_
 obtain ⟨cA,n23,cB,hl,h⟩ := h
 refine Seq.z 23 (.load 23 (.tmp 6)) 23 (.slice cA n23 cB) (Y.ld isAgg23 rfl hl) ?_
 refine Seq.o ?_
 refine AM.cl (some 24) call28 (h.cont fun v σ1 h2 => ?_); replace h := h2; clear h2
 obtain ⟨IL,rfl,h⟩ := h
 refine Seq.u 12 (.int .i64 IL) (Seq.done ?_)
 refine At.s K6 K7 ?_
 refine At.rg 2 [0,1] ?_
 refine Seq.us [(25,.int .i64 IL),(26,.bool (decide ((IL : Int) ≠ 0)))] (Seq.done ?_)
 cases hb : (decide ((IL : Int) ≠ 0)) with
 | true =>
   replace h := h.1 (of_decide_eq_true hb)
   refine At.cT 26 K8 K11 ?_
   refine At.s K9 K10 ?_
   refine At.rg 3 [0,1,2] ?_
   refine Seq.u 27 (.int .i64 IL) ?_
   refine Seq.o ?_
   refine AM.store (T := 23) (ty := 0) (x := (.tmp 10)) (y := (.const (.slice none 0 0))) (p := (.pointer (some ⟨Cm,0,none⟩))) (v := (.slice none 0 0)) (gd := none) (by kernel_rfl) rfl rfl rfl (h.mono (fun _ GY h2 => ?_)); replace h := h2; clear h2
   refine Seq.o ?_
   refine AM.store (T := 24) (ty := 0) (x := (.tmp 11)) (y := (.tmp 27)) (p := (.pointer (some ⟨BG,0,none⟩))) (v := (.int .i64 IL)) (gd := none) (by kernel_rfl) rfl rfl rfl (h.mono (fun _ CR h2 => ?_)); replace h := h2; clear h2
   refine Seq.done ?_
   obtain ⟨Ct,Cu,Cv,Cw,O1,O2,h⟩ := h
   exact At.rt [.cell 10 23,.cell 11 24] [(.slice Ct Cu Cv),(.int .i64 Cw)] func35 ⟨_,_,rfl,⟨_,rfl,CE isAgg23 O1⟩,⟨_,_,rfl,⟨_,rfl,CE isAgg24 O2⟩,rfl⟩⟩ h
 | false =>
   replace h := h.2 (of_decide_eq_false hb)
   refine At.cF 26 K8 K11 ?_
   refine At.skip ?_
   refine At.s K13 K20 (At.s K14 K15 ?_)
   refine At.rg 4 [0,1,2,3,4,5,6,7,8,9,10,11,12,13,14,15,16] ?_
   refine Seq.u 28 (.int .i64 x2) ?_
   refine Seq.o ?_
   refine AM.cl (some 29) call29 (h.cont fun v_2 GY h2 => ?_); replace h := h2; clear h2
   obtain ⟨t29,rfl,h⟩ := h
   refine Seq.us [(30,.bool (!t29)),(31,.bool (!t29))] ?_
   cases hb : (!t29) with
   | true =>
     replace h := h.1 (Tw.nt hb)
     refine Seq.n 32 ?_
     refine Seq.n 33 ?_
     refine Seq.n 34 ?_
     refine Seq.us [(35,.bool true),(36,.bool true)] ?_
     refine Seq.n 37 ?_
     refine Seq.n 38 ?_
     refine Seq.n 39 ?_
     refine Seq.us [(40,.bool true),(41,.bool true)] ?_
     refine Seq.n 42 ?_
     refine Seq.n 43 ?_
     refine Seq.u 44 (.bool true) (Seq.done ?_)
     refine At.cT 44 zR K19 ?_
     refine At.s K17 K18 ?_
     refine At.rg 5 [0,1] ?_
     refine Seq.o ?_
     refine AM.store (T := 23) (ty := 0) (x := (.tmp 10)) (y := (.const (.slice none 0 0))) (p := (.pointer (some ⟨Cm,0,none⟩))) (v := (.slice none 0 0)) (gd := none) (by kernel_rfl) rfl rfl rfl (h.mono (fun _ CR h2 => ?_)); replace h := h2; clear h2
     refine Seq.o ?_
     refine AM.store (T := 24) (ty := 0) (x := (.tmp 11)) (y := (.const (.int .i64 221))) (p := (.pointer (some ⟨BG,0,none⟩))) (v := (.int .i64 221)) (gd := none) (by kernel_rfl) rfl rfl rfl (h.mono (fun _ C1 h2 => ?_)); replace h := h2; clear h2
     refine Seq.done ?_
     obtain ⟨Ct,Cu,Cv,Cw,O1,O2,h⟩ := h
     exact At.rt [.cell 10 23,.cell 11 24] [(.slice Ct Cu Cv),(.int .i64 Cw)] func35 ⟨_,_,rfl,⟨_,rfl,CE isAgg23 O1⟩,⟨_,_,rfl,⟨_,rfl,CE isAgg24 O2⟩,rfl⟩⟩ h
   | false =>
     replace h := h.2 (Tw.nf hb)
     refine Seq.u 32 (.int .i64 x3) ?_
     refine Seq.o ?_
     refine AM.cl (some 33) call29 (h.cont fun v_3 CR h2 => ?_); replace h := h2; clear h2
     obtain ⟨t33,rfl,h⟩ := h
     refine Seq.us [(34,.bool (!t33)),(35,.bool (!t33)),(36,.bool (!t33))] ?_
     cases hb : (!t33) with
     | true =>
       replace h := h.1 (Tw.nt hb)
       refine Seq.n 37 ?_
       refine Seq.n 38 ?_
       refine Seq.n 39 ?_
       refine Seq.us [(40,.bool true),(41,.bool true)] ?_
       refine Seq.n 42 ?_
       refine Seq.n 43 ?_
       refine Seq.u 44 (.bool true) (Seq.done ?_)
       refine At.L [(2,(.int .i64 x2)),(3,(.int .i64 x3)),(4,(.int .i64 x4)),(5,(.pointer (some ⟨b5,0,none⟩))),(6,(.pointer (some ⟨b6,0,none⟩))),(10,(.pointer (some ⟨Cm,0,none⟩))),(11,(.pointer (some ⟨BG,0,none⟩))),(44,(.bool true))] fun J => ?_
       refine At.cT 44 zR K19 ?_
       refine At.s K17 K18 ?_
       refine At.rg 5 [0,1] ?_
       refine Seq.o ?_
       refine AM.store (T := 23) (ty := 0) (x := (.tmp 10)) (y := (.const (.slice none 0 0))) (p := (.pointer (some ⟨Cm,0,none⟩))) (v := (.slice none 0 0)) (gd := none) (by kernel_rfl) rfl rfl rfl (h.mono (fun _ C1 h2 => ?_)); replace h := h2; clear h2
       refine Seq.o ?_
       refine AM.store (T := 24) (ty := 0) (x := (.tmp 11)) (y := (.const (.int .i64 221))) (p := (.pointer (some ⟨BG,0,none⟩))) (v := (.int .i64 221)) (gd := none) (by kernel_rfl) rfl rfl rfl (h.mono (fun _ Bi h2 => ?_)); replace h := h2; clear h2
       refine Seq.done ?_
       obtain ⟨Ct,Cu,Cv,Cw,O1,O2,h⟩ := h
       exact At.rt [.cell 10 23,.cell 11 24] [(.slice Ct Cu Cv),(.int .i64 Cw)] func35 ⟨_,_,rfl,⟨_,rfl,CE isAgg23 O1⟩,⟨_,_,rfl,⟨_,rfl,CE isAgg24 O2⟩,rfl⟩⟩ h
     | false =>
       replace h := h.2 (Tw.nf hb)
       refine Seq.us [(37,.int .i64 x2),(38,.int .i64 x3),(39,.bool (decide ((x3 : Int) < x2))),(40,.bool (decide ((x3 : Int) < x2))),(41,.bool (decide ((x3 : Int) < x2)))] ?_
       cases hb : (decide ((x3 : Int) < x2)) with
       | true =>
         replace h := h.1 (of_decide_eq_true hb)
         refine Seq.n 42 ?_
         refine Seq.n 43 ?_
         refine Seq.u 44 (.bool true) (Seq.done ?_)
         refine At.cT 44 zR K19 ?_
         refine At.s K17 K18 ?_
         refine At.rg 5 [0,1] ?_
         refine Seq.o ?_
         refine AM.store (T := 23) (ty := 0) (x := (.tmp 10)) (y := (.const (.slice none 0 0))) (p := (.pointer (some ⟨Cm,0,none⟩))) (v := (.slice none 0 0)) (gd := none) (by kernel_rfl) rfl rfl rfl (h.mono (fun _ C1 h2 => ?_)); replace h := h2; clear h2
         refine Seq.o ?_
         refine AM.store (T := 24) (ty := 0) (x := (.tmp 11)) (y := (.const (.int .i64 221))) (p := (.pointer (some ⟨BG,0,none⟩))) (v := (.int .i64 221)) (gd := none) (by kernel_rfl) rfl rfl rfl (h.mono (fun _ Bi h2 => ?_)); replace h := h2; clear h2
         refine Seq.done ?_
         obtain ⟨Ct,Cu,Cv,Cw,O1,O2,h⟩ := h
         exact At.rt [.cell 10 23,.cell 11 24] [(.slice Ct Cu Cv),(.int .i64 Cw)] func35 ⟨_,_,rfl,⟨_,rfl,CE isAgg23 O1⟩,⟨_,_,rfl,⟨_,rfl,CE isAgg24 O2⟩,rfl⟩⟩ h
       | false =>
         replace h := h.2 (of_decide_eq_false hb)
         refine Seq.us [(42,.int .i64 x4),(43,.bool (decide ((x4 : Int) < 1))),(44,.bool (decide ((x4 : Int) < 1)))] (Seq.done ?_)
         cases hb : (decide ((x4 : Int) < 1)) with
         | true =>
           replace h := h.1 (of_decide_eq_true hb)
           refine At.cT 44 zR K19 ?_
           refine At.s K17 K18 ?_
           refine At.rg 5 [0,1] ?_
           refine Seq.o ?_
           refine AM.store (T := 23) (ty := 0) (x := (.tmp 10)) (y := (.const (.slice none 0 0))) (p := (.pointer (some ⟨Cm,0,none⟩))) (v := (.slice none 0 0)) (gd := none) (by kernel_rfl) rfl rfl rfl (h.mono (fun _ C1 h2 => ?_)); replace h := h2; clear h2
           refine Seq.o ?_
           refine AM.store (T := 24) (ty := 0) (x := (.tmp 11)) (y := (.const (.int .i64 221))) (p := (.pointer (some ⟨BG,0,none⟩))) (v := (.int .i64 221)) (gd := none) (by kernel_rfl) rfl rfl rfl (h.mono (fun _ Bi h2 => ?_)); replace h := h2; clear h2
           refine Seq.done ?_
           obtain ⟨Ct,Cu,Cv,Cw,O1,O2,h⟩ := h
           exact At.rt [.cell 10 23,.cell 11 24] [(.slice Ct Cu Cv),(.int .i64 Cw)] func35 ⟨_,_,rfl,⟨_,rfl,CE isAgg23 O1⟩,⟨_,_,rfl,⟨_,rfl,CE isAgg24 O2⟩,rfl⟩⟩ h
         | false =>
           replace h := h.2 (of_decide_eq_false hb)
           refine At.cF 44 zR K19 ?_
           refine At.skip ?_
           refine At.s K21 K28 (At.s K22 K23 ?_)
           refine At.rg 6 [0,1,2,3,4,5] ?_
           refine Seq.us [(45,.int .i64 x3),(46,.int .i64 x2)] ?_
           obtain ⟨hi,h⟩ := h
           refine Seq.z 47 (.binOp .sub 2 (.tmp 45) (.tmp 46) 2) 2 (.int .i64 (x3 - x2)) (Y.AKW hi rfl rfl) ?_
           refine Seq.u 48 (.int .i64 x4) ?_
           obtain ⟨hc,h⟩ := h
           obtain ⟨Rp,vv⟩ : ∃ y,y = IntKind.i64.wrap (Int.tdiv (x3 - x2) x4) := ⟨_,rfl⟩
           replace h := h Rp vv
           refine Seq.y (d := (some 49)) (op := (.binOp .quo 2 (.tmp 47) (.tmp 48) 2)) (ty := 2) (v := (.int .i64 Rp)) (by kernel_rfl) rfl (vv ▸ Y.quo hc rfl rfl) ?_
           refine Seq.u 50 (.bool (decide ((512 : Int) ≤ Rp))) (Seq.done ?_)
           cases hb : (decide ((512 : Int) ≤ Rp)) with
           | true =>
             replace h := h.1 (of_decide_eq_true hb)
             refine At.cT 50 K24 K27 ?_
             refine At.s K25 K26 ?_
             refine At.rg 7 [0,1] ?_
             refine Seq.o ?_
             refine AM.store (T := 23) (ty := 0) (x := (.tmp 10)) (y := (.const (.slice none 0 0))) (p := (.pointer (some ⟨Cm,0,none⟩))) (v := (.slice none 0 0)) (gd := none) (by kernel_rfl) rfl rfl rfl (h.mono (fun _ C1 h2 => ?_)); replace h := h2; clear h2
             refine Seq.o ?_
             refine AM.store (T := 24) (ty := 0) (x := (.tmp 11)) (y := (.const (.int .i64 222))) (p := (.pointer (some ⟨BG,0,none⟩))) (v := (.int .i64 222)) (gd := none) (by kernel_rfl) rfl rfl rfl (h.mono (fun _ Bi h2 => ?_)); replace h := h2; clear h2
             refine Seq.done ?_
             obtain ⟨Ct,Cu,Cv,Cw,O1,O2,h⟩ := h
             exact At.rt [.cell 10 23,.cell 11 24] [(.slice Ct Cu Cv),(.int .i64 Cw)] func35 ⟨_,_,rfl,⟨_,rfl,CE isAgg23 O1⟩,⟨_,_,rfl,⟨_,rfl,CE isAgg24 O2⟩,rfl⟩⟩ h
           | false =>
             replace h := h.2 (of_decide_eq_false hb)
             refine At.cF 50 K24 K27 ?_
             refine At.skip ?_
             refine At.s K29 K30 ?_
             refine At.rg 8 [0,1,2] ?_
             refine Seq.o ?_
             refine AM.UN (d := (some 51)) (op := (.makeMap 99 none)) (ty := 99) (gd := none) (by kernel_rfl) rfl rfl (Instr.makeMap 99 none) (fun o ho ht => by simp only [execOp,ho]; rfl) (h.mono (fun v_4 C1 h2 => ?_)); replace h := h2; clear h2
             obtain ⟨m51,rfl,h⟩ := h
             refine Seq.o ?_
             refine AM.Oh (T := 99) (d := (some 13)) (ty := 0)  (gd := none) (cs := #[(.map none)]) (by kernel_rfl) rfl rfl zeroValue99 rfl (fun Cn hn => ?_)
             replace h := h Cn hn
             refine Seq.o ?_
             refine AM.store (T := 99) (ty := 0) (x := (.tmp 13)) (y := (.tmp 51)) (p := (.pointer (some ⟨Cn,0,none⟩))) (v := (.map (some m51))) (gd := none) (by kernel_rfl) rfl rfl rfl (h.mono (fun _ Bi h2 => ?_)); replace h := h2; clear h2
             refine Seq.done ?_
             refine At.s K31 K32 ?_
             refine At.rg 9 [0] ?_
             refine Seq.o ?_
             refine AM.Oh (T := 23) (d := (some 14)) (ty := 0)  (gd := none) (cs := #[(.slice none 0 0)]) (by kernel_rfl) rfl rfl zeroValue23 rfl (fun BY hn => ?_)
             replace h := h BY hn
             refine Seq.done ?_
             refine At.s K33 K77 (At.s K34 K35 ?_)
             refine At.rg 10 [0,1,2,3] ?_
             refine Seq.us [(52,.int .i64 x2),(53,.int .i64 x3),(54,.int .i64 x4)] ?_
             refine Seq.o ?_
             refine AM.cl (some 55) call48 (h.cont fun v_5 Ng h2 => ?_); replace h := h2; clear h2
             obtain ⟨f55,a55,c55,rfl,h⟩ := h
             refine Seq.done ?_
             refine At.b 0 K36 ?_
             obtain ⟨gf,lb,hgv,Og,h⟩ := h
             refine At.range (gop := (.tmp 55)) (ps := #[56]) (assign := K37) (body := K38) (gf := gf) (lb := lb) (by kernel_rfl) rfl rfl hgv Og (fun cC aY QS hDl hD hl hrf cD hra hrb hrs hre => ?_)
             refine (h cC aY QS hDl hD hl (fun R2 σ2 se zS hp => ID.eW (n := 117) zS cD hrs (by decide) hre (fn := f35) (by rw [hrf]; exact func35) ?_)).mono (fun en J7 h => ?_)
             · rw [hrf,hra,hrb]
               exact At.v [(5,(.pointer (some ⟨b5,0,none⟩))),(6,(.pointer (some ⟨b6,0,none⟩))),(10,(.pointer (some ⟨Cm,0,none⟩))),(11,(.pointer (some ⟨BG,0,none⟩))),(13,(.pointer (some ⟨Cn,0,none⟩))),(14,(.pointer (some ⟨BY,0,none⟩))),(56,(.int .i64 se))] (hp _)
             obtain ⟨v,s,p,he,yf,hs,h⟩ := h
             refine ⟨v,s,p,he,yf,hs,?_⟩
             rcases h with h | h
             · obtain ⟨rfl,h⟩ := h
               show At (Gl.behind prog 35 117 cC R) [.inBlock 0,.code K77] _ _ _
               refine At.inBlock ?_
               refine At.s K78 K79 ?_
               refine At.rg 25 [0,1] ?_
               obtain ⟨sf,n114,sg,hl,h⟩ := h
               refine Seq.z 114 (.load 23 (.tmp 14)) 23 (.slice sf n114 sg) (Y.ld isAgg23 rfl hl) ?_
               refine Seq.o ?_
               refine AM.cl (some 115) call50 (h.cont fun v_6 VA h2 => ?_); replace h := h2; clear h2
               obtain ⟨rfl,h⟩ := h
               refine Seq.done ?_
               refine At.L [(10,(.pointer (some ⟨Cm,0,none⟩))),(11,(.pointer (some ⟨BG,0,none⟩))),(14,(.pointer (some ⟨BY,0,none⟩)))] fun J => ?_
               refine At.s K80 K81 ?_
               refine At.rg 26 [0,1,2] ?_
               obtain ⟨lT,n116,lU,hl,h⟩ := h
               refine Seq.z 116 (.load 23 (.tmp 14)) 23 (.slice lT n116 lU) (Y.ld isAgg23 rfl hl) ?_
               refine Seq.o ?_
               refine AM.store (T := 23) (ty := 0) (x := (.tmp 10)) (y := (.tmp 116)) (p := (.pointer (some ⟨Cm,0,none⟩))) (v := (.slice lT n116 lU)) (gd := none) (by kernel_rfl) rfl rfl rfl (h.mono (fun _ vu h2 => ?_)); replace h := h2; clear h2
               refine Seq.o ?_
               refine AM.store (T := 24) (ty := 0) (x := (.tmp 11)) (y := (.const (.int .i64 0))) (p := (.pointer (some ⟨BG,0,none⟩))) (v := (.int .i64 0)) (gd := none) (by kernel_rfl) rfl rfl rfl (h.mono (fun _ Rq h2 => ?_)); replace h := h2; clear h2
               refine Seq.done ?_
               obtain ⟨Ct,Cu,Cv,Cw,rJ,O1,O2,h⟩ := h
               exact At.Vs (rs := [.cell 10 23,.cell 11 24]) (vs := [(.slice Ct Cu Cv),(.int .i64 Cw)]) (by kernel_rfl) func35 (by kernel_rfl) ⟨_,_,rfl,⟨_,rfl,CE isAgg23 O1⟩,⟨_,_,rfl,⟨_,rfl,CE isAgg24 O2⟩,rfl⟩⟩ h rfl (kj rJ)
             · obtain ⟨rfl,h⟩ := h
               show At (Gl.behind prog 35 117 cC R) [.code K82,.inBlock 0,.code K77] _ _ _
               obtain ⟨V8,V9,WA,WB,rJ,zT,zU,h⟩ := h
               exact At.Vs (rs := [.cell 10 23,.cell 11 24]) (vs := [(.slice V8 V9 WA),(.int .i64 WB)]) (by kernel_rfl) func35 (by kernel_rfl) ⟨_,_,rfl,⟨_,rfl,CE isAgg23 zT⟩,⟨_,_,rfl,⟨_,rfl,CE isAgg24 zU⟩,rfl⟩⟩ h rfl (kj rJ)
theorem Lw {R : Rr} {l b5 b6 Cm BG Cn BY : Nat} {r0 : Loop} {vt : Int} {σ : Hp} (h : σ l = some (.loop (lp r0 .ready none)) ∧ ∃ rK : Option Addr,∃ kA : Nat,∃ vw : Nat,Hp.ld (Hp.set σ l (.loop (lp r0 .busy none))) ⟨b5,0,none⟩ = some (.slice rK kA vw) ∧ ∃ vx : Option Addr,∃ n59 : Nat,∃ vy : Nat,Hp.ld (Hp.set σ l (.loop (lp r0 .busy none))) ⟨b6,0,none⟩ = some (.slice vx n59 vy) ∧ Spec prog 30 #[(.slice rK kA vw),(.slice vx n59 vy),(.int .i64 vt)] (Hp.set σ l (.loop (lp r0 .busy none))) (AA (NP R) (fun v σ1 => ∃ Rt : Option Addr,∃ MR : Nat,∃ Ru : Nat,∃ Jv : Int,v = (.tuple #[(.slice Rt MR Ru),(.int .i64 Jv)]) ∧ ((Jv : Int) ≠ 0 → AK prog (Instr.storeAt 23 (.pointer (some ⟨Cm,0,none⟩)) (.slice none 0 0)) σ1 (fun _ GY => AK prog (Instr.storeAt 24 (.pointer (some ⟨BG,0,none⟩)) (.int .i64 Jv)) GY (fun _ CR => CR l = some (.loop (lp r0 .busy none)) ∧ R (.returned (.bool false)) (Hp.set CR l (.loop (lp r0 .done (some .ret))))))) ∧ (¬ ((Jv : Int) ≠ 0) → QQ R l r0 Cn BY vt Rt MR Ru ((MR : Int)) 0 σ1)))) : J6 R l r0 b5 b6 Cm BG Cn BY vt σ := by
 intro J
 show At (Gl.round prog 35 117 l R) _ _ _ _
 refine At.rg 11 [0] ?_
 refine Seq.u 15 (.int .i64 vt) (Seq.done ?_)
 obtain ⟨eU,h⟩ := h
 refine At.beginRound rfl eU ?_
 refine At.b 1 K39 ?_
 refine At.s K40 K41 ?_
 refine At.rg 12 [0,1,2,3,4,5,6,7,8] ?_
 obtain ⟨rK,kA,vw,hl,h⟩ := h
 refine Seq.z 58 (.load 22 (.tmp 5)) 22 (.slice rK kA vw) (Y.ld isAgg22 rfl hl) ?_
 obtain ⟨vx,n59,vy,hl,h⟩ := h
 refine Seq.z 59 (.load 23 (.tmp 6)) 23 (.slice vx n59 vy) (Y.ld isAgg23 rfl hl) ?_
 refine Seq.u 60 (.int .i64 vt) ?_
 refine Seq.o ?_
 refine AM.cl (some 61) call30 (h.cont fun v σ1 h2 => ?_); replace h := h2; clear h2
 obtain ⟨Rt,MR,Ru,Jv,rfl,h⟩ := h
 refine Seq.us [(57,.tuple #[(.slice Rt MR Ru),(.int .i64 Jv)]),(62,.slice Rt MR Ru),(63,.int .i64 Jv),(16,.slice Rt MR Ru),(17,.int .i64 Jv)] (Seq.done ?_)
 refine At.s K42 K49 (At.s K43 K44 ?_)
 refine At.rg 13 [0,1] ?_
 refine Seq.us [(64,.int .i64 Jv),(65,.bool (decide ((Jv : Int) ≠ 0)))] (Seq.done ?_)
 cases hb : (decide ((Jv : Int) ≠ 0)) with
 | true =>
  replace h := h.1 (of_decide_eq_true hb)
  refine At.cT 65 K45 K48 ?_
  refine At.s K46 K47 ?_
  refine At.rg 14 [0,1,2] ?_
  refine Seq.u 66 (.int .i64 Jv) ?_
  refine Seq.o ?_
  refine AM.store (T := 23) (ty := 0) (x := (.tmp 10)) (y := (.const (.slice none 0 0))) (p := (.pointer (some ⟨Cm,0,none⟩))) (v := (.slice none 0 0)) (gd := none) (by kernel_rfl) rfl rfl rfl (h.mono (fun _ GY h2 => ?_)); replace h := h2; clear h2
  refine Seq.o ?_
  refine AM.store (T := 24) (ty := 0) (x := (.tmp 11)) (y := (.tmp 66)) (p := (.pointer (some ⟨BG,0,none⟩))) (v := (.int .i64 Jv)) (gd := none) (by kernel_rfl) rfl rfl rfl (h.mono (fun _ CR h2 => ?_)); replace h := h2; clear h2
  refine Seq.done ?_
  exact At.kT (by kernel_rfl) rfl h.1 h.2
 | false =>
  replace h := h.2 (of_decide_eq_false hb)
  refine At.cF 65 K45 K48 ?_
  refine At.skip ?_
  refine At.s K50 K51 ?_
  refine At.rg 15 [0,1,2] ?_
  refine Seq.u 67 (.slice Rt MR Ru) ?_
  refine Seq.z 68 (.call { callee := .builtin .len,args := #[(.tmp 67)],argTypes := #[67] }) 3 (.int .i64 (MR : Int)) (Y.yP underlying67 rfl rfl) ?_
  refine Seq.u 69 (.int .i64 0) (Seq.done ?_)
  refine At.b 2 K52 ?_
  refine At.loop (x := K53) (by kernel_rfl) ?_
  refine At.s K54 K55 ?_
  exact At.v [(13,(.pointer (some ⟨Cn,0,none⟩))),(14,(.pointer (some ⟨BY,0,none⟩))),(15,(.int .i64 vt)),(67,(.slice Rt MR Ru)),(68,(.int .i64 (MR : Int))),(69,(.int .i64 0))] (h _)
theorem Q4 {R : Rr} {l Cn BY YD aX : Nat} {r0 : Loop} {x15 Nf QR : Int} {j9 : Option Addr} {σ : Hp} (h : ((QR : Int) < Nf → ∃ (WC lV : Nat),j9 = some ⟨WC,lV,none⟩ ∧ ((0 : Int) ≤ QR ∧ QR < (YD : Int)) ∧ ∃ lW : Option Addr,∃ lX : Nat,∃ lY : Nat,∃ J8 : Int,Ay σ WC (lV + Int.toNat QR * 2) [(.slice lW lX lY),(.int .u64 J8)] ∧ ∀ Cc : Nat,σ Cc = none → AK prog (Instr.storeAt 71 (.pointer (some ⟨Cc,0,none⟩)) (.agg #[(.slice lW lX lY),(.int .u64 J8)])) (Hp.set σ Cc (.cells #[(.slice none 0 0),(.int .u64 0)] 71 (0,0))) (fun _ σ1 => ∃ cE : Option Nat,Hp.ld σ1 ⟨Cn,0,none⟩ = some (.map cE) ∧ ∃ lZ : Option Addr,∃ lf : Nat,∃ lg : Nat,Hp.ld σ1 ⟨Cc,0,none⟩ = some (.slice lZ lf lg) ∧ Spec prog 49 #[(.slice lZ lf lg)] σ1 (AA (NP R) (fun v GY => ∃ s77 : ByteArray,v = (.string s77) ∧ Kp [Cn] σ1 GY ∧ AK prog (Instr.lookup 99 (.map cE) (.string s77) true) GY (fun v_2 CR => ∃ cG : Int,∃ UT : Bool,v_2 = (.tuple #[(.int .i64 cG),(.bool UT)]) ∧ (UT = false → ∃ si : Option Addr,∃ YE : Nat,∃ sj : Nat,Hp.ld CR ⟨BY,0,none⟩ = some (.slice si YE sj) ∧ ∃ m85 : Option Nat,Hp.ld CR ⟨Cn,0,none⟩ = some (.map m85) ∧ ∃ p87 : Option Addr,∃ n87 : Nat,∃ c87 : Nat,Hp.ld CR ⟨Cc,0,none⟩ = some (.slice p87 n87 c87) ∧ Spec prog 49 #[(.slice p87 n87 c87)] CR (AA (NP R) (fun v_3 C1 => ∃ s88 : ByteArray,v_3 = (.string s88) ∧ Kp [Cn] CR C1 ∧ AK prog (Instr.mapUpdate 99 (.map m85) (.string s88) (.int .i64 (YE : Int))) C1 (fun _ Bi => ∃ p90 : Option Addr,∃ n90 : Nat,∃ c90 : Nat,Hp.ld Bi ⟨BY,0,none⟩ = some (.slice p90 n90 c90) ∧ ∃ p93 : Option Addr,∃ n93 : Nat,∃ c93 : Nat,Hp.ld Bi ⟨Cc,0,none⟩ = some (.slice p93 n93 c93) ∧ ∀ kB : Nat,Bi kB = none → AK prog (Builtin.append_ #[37,37] 37 #[(.slice (some ⟨kB,0,none⟩) 0 0),(.slice p93 n93 c93)]) (Hp.set Bi kB (.cells #[] 56 (0,0))) (fun v_4 Ng => ∃ sk : Option Addr,∃ sn : Nat,∃ so : Nat,v_4 = (.slice sk sn so) ∧ Kp [BY] (Hp.set Bi kB (.cells #[] 56 (0,0))) Ng ∧ ∀ sq : Nat,Ng sq = none → AK prog (Builtin.append_ #[23,23] 23 #[(.slice p90 n90 c90),(.slice (some ⟨sq,0,none⟩) 1 1)]) (Hp.set Ng sq (.cells #[(.slice sk sn so),(.slice none 0 0)] 40 (0,0))) (fun v_5 J7 => ∃ p97 : Option Addr,∃ n97 : Nat,∃ c97 : Nat,v_5 = (.slice p97 n97 c97) ∧ AK prog (Instr.storeAt 23 (.pointer (some ⟨BY,0,none⟩)) (.slice p97 n97 c97)) J7 (fun _ VA => sd R l r0 Cn BY x15 Cc ((YE : Int)) ((some ⟨WC,lV,none⟩)) YD aX Nf QR VA))))))) ∧ (UT = true → sd R l r0 Cn BY x15 Cc cG ((some ⟨WC,lV,none⟩)) YD aX Nf QR CR)))))) ∧ (¬ ((QR : Int) < Nf) → σ l = some (.loop (lp r0 .busy none)) ∧ R (.returned (.bool true)) (Hp.set σ l (.loop (lp r0 .ready none))))) : QQ R l r0 Cn BY x15 j9 YD aX Nf QR σ := by
 intro J
 show At (Gl.round prog 35 117 l R) _ _ _ _
 refine At.rg 16 [0] ?_
 refine Seq.u 70 (.bool (decide ((QR : Int) < Nf))) (Seq.done ?_)
 refine At.s K56 K59 ?_
 cases hb : (decide ((QR : Int) < Nf)) with
 | true =>
  replace h := h.1 (of_decide_eq_true hb)
  refine At.cT 70 K57 K58 ?_
  refine At.skip ?_
  refine At.s K60 K76 ?_
  refine At.b 3 K61 ?_
  refine At.s K62 K63 ?_
  refine At.rg 17 [0,1,2,3] ?_
  obtain ⟨WC,lV,hq,h⟩ := h
  subst hq
  obtain ⟨hi,h⟩ := h
  refine Seq.z 71 (.indexAddr 67 (.tmp 67) (.tmp 69)) 0 (.pointer (some ⟨WC,(lV + Int.toNat QR * 2),none⟩)) (Y.idx underlying67 sizeOf71 rfl rfl hi rfl) ?_
  obtain ⟨lW,lX,lY,J8,hl,h⟩ := h
  refine Seq.z 72 (.load 71 (.tmp 71)) 71 (.agg #[(.slice lW lX lY),(.int .u64 J8)]) (Y.lda isAgg71 sizeOf71 rfl rfl hl) ?_
  refine Seq.o ?_
  refine AM.Oh (T := 71) (d := (some 19)) (ty := 0)  (gd := none) (cs := #[(.slice none 0 0),(.int .u64 0)]) (by kernel_rfl) rfl rfl zeroValue71 rfl (fun Cc hn => ?_)
  replace h := h Cc hn
  refine Seq.o ?_
  refine AM.store (T := 71) (ty := 0) (x := (.tmp 19)) (y := (.tmp 72)) (p := (.pointer (some ⟨Cc,0,none⟩))) (v := (.agg #[(.slice lW lX lY),(.int .u64 J8)])) (gd := none) (by kernel_rfl) rfl rfl rfl (h.mono (fun _ σ1 h2 => ?_)); replace h := h2; clear h2
  refine Seq.done ?_
  refine At.s K64 K65 ?_
  refine At.draw (id := 18) (ops := cO K64) (n := 10) (q := (some [])) (plan := [(0,true),(1,true),(2,true),(3,false),(4,false),(5,true),(6,true),(7,true),(8,true),(9,true)]) (tl := []) mixed (by kernel_rfl) (by kernel_rfl) ?_
  obtain ⟨cE,hl,h⟩ := h
  refine Head.yl Cn [[4]] rfl (by kernel_rfl) (d := (some 74)) (op := (.load 99 (.tmp 13))) (ty := 99) (v := (.map cE)) (by kernel_rfl) rfl (Y.ld isAgg99 rfl (Hq hl)) ?_
  refine Head.z 75 (.fieldAddr 71 (.tmp 19) 0) 0 (.pointer (some ⟨Cc,0,none⟩)) (Y.fieldAddr (fd := (Lp prog 71 0)) underlying71 (by kernel_rfl) sizeOf37 rfl rfl) ?_
  obtain ⟨lZ,lf,lg,hl,h⟩ := h
  refine Head.yl Cc [[3],[4,3]] rfl (by kernel_rfl) (d := (some 76)) (op := (.load 37 (.tmp 75))) (ty := 37) (v := (.slice lZ lf lg)) (by kernel_rfl) rfl (Y.ld isAgg37 rfl (Hq hl)) ?_
  refine Head.o (q' := (some [(Cn,[4])])) rfl ?_
  refine AM.cl (some 77) call49 (h.cont fun v GY h2 => ?_); replace h := h2; clear h2
  obtain ⟨s77,rfl,hk,h⟩ := h
  refine ⟨⟨fun _ h => h,XT (L := [(Cn,[4])]) hk⟩,?_⟩
  refine Head.o (q' := (some [])) rfl ?_
  refine AM.UN (d := (some 78)) (op := (.lookup 99 (.tmp 74) (.tmp 77) true)) (ty := 102) (gd := none) (by kernel_rfl) rfl rfl (Instr.lookup 99 (.map cE) (.string s77) true) (fun o ho ht => by simp only [execOp,ho]; rfl) (h.mono (fun v_2 CR h2 => ?_)); replace h := h2; clear h2
  obtain ⟨cG,UT,rfl,h⟩ := h
  refine ⟨⟨fun _ h => h,XT (L := []) Kp.nil⟩,?_⟩
  refine Head.u 73 (.tuple #[(.int .i64 cG),(.bool UT)]) ?_
  refine Head.u 79 (.int .i64 cG) ?_
  refine Head.u 80 (.bool UT) ?_
  refine Head.u 20 (.int .i64 cG) ?_
  refine Head.u 21 (.bool UT) ?_
  refine Head.done ?_
  refine Seq.done ?_
  refine At.s K66 K75 (At.s K67 K68 ?_)
  refine At.rg 19 [0,1] ?_
  refine Seq.us [(81,.bool UT),(82,.bool (!UT))] (Seq.done ?_)
  cases hb : (!UT) with
  | true =>
   replace h := h.1 (Tw.nt hb)
   refine At.cT 82 K69 K74 ?_
   refine At.s K70 K71 ?_
   refine At.rg 20 [0,1,2] ?_
   obtain ⟨si,YE,sj,hl,h⟩ := h
   refine Seq.z 83 (.load 23 (.tmp 14)) 23 (.slice si YE sj) (Y.ld isAgg23 rfl hl) ?_
   refine Seq.z 84 (.call { callee := .builtin .len,args := #[(.tmp 83)],argTypes := #[23] }) 3 (.int .i64 (YE : Int)) (Y.yP underlying23 rfl rfl) ?_
   refine Seq.u 20 (.int .i64 (YE : Int)) (Seq.done ?_)
   refine At.s K72 K73 ?_
   refine At.draw (id := 21) (ops := cO K72) (n := 5) (q := (some [])) (plan := [(0,true),(1,true),(2,true),(4,true),(3,false)]) (tl := [5]) mixed (by kernel_rfl) (by kernel_rfl) ?_
   obtain ⟨m85,hl,h⟩ := h
   refine Head.yl Cn [] rfl (by kernel_rfl) (d := (some 85)) (op := (.load 99 (.tmp 13))) (ty := 99) (v := (.map m85)) (by kernel_rfl) rfl (Y.ld isAgg99 rfl (Hq hl)) ?_
   refine Head.z 86 (.fieldAddr 71 (.tmp 19) 0) 0 (.pointer (some ⟨Cc,0,none⟩)) (Y.fieldAddr (fd := (Lp prog 71 0)) underlying71 (by kernel_rfl) sizeOf37 rfl rfl) ?_
   obtain ⟨p87,n87,c87,hl,h⟩ := h
   refine Head.yl Cc [[3]] rfl (by kernel_rfl) (d := (some 87)) (op := (.load 37 (.tmp 86))) (ty := 37) (v := (.slice p87 n87 c87)) (by kernel_rfl) rfl (Y.ld isAgg37 rfl (Hq hl)) ?_
   refine Head.u 89 (.int .i64 (YE : Int)) ?_
   refine Head.o (q' := (some [(Cn,[])])) rfl ?_
   refine AM.cl (some 88) call49 (h.cont fun v_3 C1 h2 => ?_); replace h := h2; clear h2
   obtain ⟨s88,rfl,hk,h⟩ := h
   refine ⟨⟨fun _ h => h,XT (L := [(Cn,[])]) hk⟩,?_⟩
   refine Head.done ?_
   refine Seq.o ?_
   refine AM.sD (d := none) (op := (.mapUpdate 99 (.tmp 85) (.tmp 88) (.tmp 89))) (ty := 0) (gd := none) (by kernel_rfl) rfl rfl (Instr.mapUpdate 99 (.map m85) (.string s88) (.int .i64 (YE : Int))) (fun o ho ht => by simp only [execOp,ho]; rfl) (h.mono (fun _ Bi h2 => ?_)); replace h := h2; clear h2
   refine Seq.done ?_
   refine At.draw (id := 22) (ops := cO K73) (n := 7) (q := (some [])) (plan := [(0,true),(2,true),(3,true),(1,false),(4,false),(5,true),(6,false)]) (tl := [7,8]) mixed (by kernel_rfl) (by kernel_rfl) ?_
   obtain ⟨p90,n90,c90,hl,h⟩ := h
   refine Head.yl BY [] rfl (by kernel_rfl) (d := (some 90)) (op := (.load 23 (.tmp 14))) (ty := 23) (v := (.slice p90 n90 c90)) (by kernel_rfl) rfl (Y.ld isAgg23 rfl (Hq hl)) ?_
   refine Head.z 92 (.fieldAddr 71 (.tmp 19) 0) 0 (.pointer (some ⟨Cc,0,none⟩)) (Y.fieldAddr (fd := (Lp prog 71 0)) underlying71 (by kernel_rfl) sizeOf37 rfl rfl) ?_
   obtain ⟨p93,n93,c93,hl,h⟩ := h
   refine Head.yl Cc [[4],[6,5,4]] rfl (by kernel_rfl) (d := (some 93)) (op := (.load 37 (.tmp 92))) (ty := 37) (v := (.slice p93 n93 c93)) (by kernel_rfl) rfl (Y.ld isAgg37 rfl (Hq hl)) ?_
   refine Head.o (q' := (some [(Cc,[4,6]),(BY,[])])) rfl ?_
   refine AM.Ix (T := 37) (E := 56) (m := 0) (ps := #[]) (d := (some 91)) (ty := 37) (gd := none) (vs := []) (cs := #[]) underlying37 (by kernel_rfl) rfl rfl rfl (by kernel_rfl) (fun kB hn => ?_)
   refine ⟨⟨fun _ h => h,XT (Kp.Ho (Ext.set hn))⟩,?_⟩
   replace h := h kB hn
   refine Head.o (q' := (some [(BY,[])])) rfl ?_
   refine AM.UN (d := (some 94)) (op := (.call { callee := .builtin .append,args := #[(.tmp 91),(.tmp 93)],argTypes := #[37,37] })) (ty := 37) (gd := none) (by kernel_rfl) rfl rfl (Builtin.append_ #[37,37] 37 #[(.slice (some ⟨kB,0,none⟩) 0 0),(.slice p93 n93 c93)]) (fun o ho ht => Fe rfl rfl o ho ht) (h.mono (fun v_4 Ng h2 => ?_)); replace h := h2; clear h2
   obtain ⟨sk,sn,so,rfl,hk,h⟩ := h
   refine ⟨⟨fun _ h => h,XT (L := [(BY,[])]) hk⟩,?_⟩
   refine Head.z 95 (.build 40 #[(0,(.tmp 94))]) 40 (.agg #[(.slice sk sn so),(.slice none 0 0)]) (Y.build (vs := [(0,(.slice sk sn so))]) rfl (by kernel_rfl)) ?_
   refine Head.o (q' := (some [(BY,[])])) rfl ?_
   refine AM.Ix (T := 23) (E := 40) (m := 1) (ps := #[(0,(.tmp 95))]) (d := (some 96)) (ty := 23) (gd := none) (vs := [(0,(.agg #[(.slice sk sn so),(.slice none 0 0)]))]) (cs := #[(.slice sk sn so),(.slice none 0 0)]) underlying23 (by kernel_rfl) rfl rfl rfl (by kernel_rfl) (fun sq hn => ?_)
   refine ⟨⟨fun _ h => h,XT (Kp.Ho (Ext.set hn))⟩,?_⟩
   replace h := h sq hn
   refine Head.done ?_
   refine Seq.o ?_
   refine AM.UN (d := (some 97)) (op := (.call { callee := .builtin .append,args := #[(.tmp 90),(.tmp 96)],argTypes := #[23,23] })) (ty := 23) (gd := none) (by kernel_rfl) rfl rfl (Builtin.append_ #[23,23] 23 #[(.slice p90 n90 c90),(.slice (some ⟨sq,0,none⟩) 1 1)]) (fun o ho ht => Fe rfl rfl o ho ht) (h.mono (fun v_5 J7 h2 => ?_)); replace h := h2; clear h2
   obtain ⟨p97,n97,c97,rfl,h⟩ := h
   refine Seq.o ?_
   refine AM.store (T := 23) (ty := 0) (x := (.tmp 14)) (y := (.tmp 97)) (p := (.pointer (some ⟨BY,0,none⟩))) (v := (.slice p97 n97 c97)) (gd := none) (by kernel_rfl) rfl rfl rfl (h.mono (fun _ VA h2 => ?_)); replace h := h2; clear h2
   refine Seq.done ?_
   refine At.L [(13,(.pointer (some ⟨Cn,0,none⟩))),(14,(.pointer (some ⟨BY,0,none⟩))),(15,(.int .i64 x15)),(19,(.pointer (some ⟨Cc,0,none⟩))),(20,(.int .i64 (YE : Int))),(67,(.slice (some ⟨WC,lV,none⟩) YD aX)),(68,(.int .i64 Nf)),(69,(.int .i64 QR))] fun J => ?_
   exact At.v [(13,(.pointer (some ⟨Cn,0,none⟩))),(14,(.pointer (some ⟨BY,0,none⟩))),(15,(.int .i64 x15)),(19,(.pointer (some ⟨Cc,0,none⟩))),(20,(.int .i64 (YE : Int))),(67,(.slice (some ⟨WC,lV,none⟩) YD aX)),(68,(.int .i64 Nf)),(69,(.int .i64 QR))] (h _)
  | false =>
   replace h := h.2 (Tw.nf hb)
   refine At.cF 82 K69 K74 ?_
   refine At.skip ?_
   exact At.v [(13,(.pointer (some ⟨Cn,0,none⟩))),(14,(.pointer (some ⟨BY,0,none⟩))),(15,(.int .i64 x15)),(19,(.pointer (some ⟨Cc,0,none⟩))),(20,(.int .i64 cG)),(67,(.slice (some ⟨WC,lV,none⟩) YD aX)),(68,(.int .i64 Nf)),(69,(.int .i64 QR))] (h _)
 | false =>
  replace h := h.2 (of_decide_eq_false hb)
  refine At.cF 70 K57 K58 ?_
  refine At.x 2 [.inBlock 1] ?_
  refine At.inBlock ?_
  exact At.kS rfl h.1 h.2
theorem sr {R : Rr} {l Cn BY Cc YD aX : Nat} {r0 : Loop} {x15 Hv Nf QR : Int} {j9 : Option Addr} {σ : Hp} (h : ∃ p98 : Option Addr,∃ n98 : Nat,∃ c98 : Nat,Hp.ld σ ⟨BY,0,none⟩ = some (.slice p98 n98 c98) ∧ ∃ su : Option Addr,∃ n100 : Nat,∃ zV : Nat,Hp.ld σ ⟨BY,0,none⟩ = some (.slice su n100 zV) ∧ ∃ (cH lh : Nat),su = some ⟨cH,lh,none⟩ ∧ ((0 : Int) ≤ Hv ∧ Hv < (n100 : Int)) ∧ ∃ lj : Option Addr,∃ n104 : Nat,∃ lk : Nat,Hp.ld σ ⟨cH,((lh + Int.toNat Hv * 2) + 1),none⟩ = some (.slice lj n104 lk) ∧ ∃ WD : Int,Hp.ld σ ⟨Cc,1,none⟩ = some (.int .u64 WD) ∧ ∀ O3 : Nat,σ O3 = none → AK prog (Builtin.append_ #[38,38] 38 #[(.slice lj n104 lk),(.slice (some ⟨O3,0,none⟩) 1 1)]) (Hp.set σ O3 (.cells #[(.int .i64 x15),(.int .u64 WD)] 50 (0,0))) (fun v σ1 => ∃ sv : Option Addr,∃ n110 : Nat,∃ tA : Nat,v = (.slice sv n110 tA) ∧ Kp [BY] (Hp.set σ O3 (.cells #[(.int .i64 x15),(.int .u64 WD)] 50 (0,0))) σ1 ∧ ∃ (iN iO : Nat),p98 = some ⟨iN,iO,none⟩ ∧ ((0 : Int) ≤ Hv ∧ Hv < (n98 : Int)) ∧ AK prog (Instr.storeAt 38 (.pointer (some ⟨iN,((iO + Int.toNat Hv * 2) + 1),none⟩)) (.slice sv n110 tA)) σ1 (fun _ GY => AJ (QR + 1) ∧ QQ R l r0 Cn BY x15 j9 YD aX Nf ((QR + 1)) GY))) : sd R l r0 Cn BY x15 Cc Hv j9 YD aX Nf QR σ := by
 intro J
 show At (Gl.round prog 35 117 l R) _ _ _ _
 refine At.draw (id := 23) (ops := cO K75) (n := 15) (q := (some [])) (plan := [(0,true),(1,true),(2,true),(3,true),(4,true),(5,true),(6,true),(7,true),(8,true),(9,true),(10,true),(11,false),(12,false),(13,true),(14,true)]) (tl := [15]) mixed (by kernel_rfl) (by kernel_rfl) ?_
 obtain ⟨p98,n98,c98,hl,h⟩ := h
 refine Head.yl BY [] rfl (by kernel_rfl) (d := (some 98)) (op := (.load 23 (.tmp 14))) (ty := 23) (v := (.slice p98 n98 c98)) (by kernel_rfl) rfl (Y.ld isAgg23 rfl (Hq hl)) ?_
 refine Head.u 99 (.int .i64 Hv) ?_
 obtain ⟨su,n100,zV,hl,h⟩ := h
 refine Head.yl BY [[12,6,5,4]] rfl (by kernel_rfl) (d := (some 100)) (op := (.load 23 (.tmp 14))) (ty := 23) (v := (.slice su n100 zV)) (by kernel_rfl) rfl (Y.ld isAgg23 rfl (Hq hl)) ?_
 refine Head.u 101 (.int .i64 Hv) ?_
 obtain ⟨cH,lh,hq,h⟩ := h
 subst hq
 obtain ⟨hi,h⟩ := h
 refine Head.z 102 (.indexAddr 23 (.tmp 100) (.tmp 101)) 0 (.pointer (some ⟨cH,(lh + Int.toNat Hv * 2),none⟩)) (Y.idx underlying23 sizeOf40 rfl rfl hi rfl) ?_
 refine Head.z 103 (.fieldAddr 40 (.tmp 102) 1) 0 (.pointer (some ⟨cH,((lh + Int.toNat Hv * 2) + 1),none⟩)) (Y.fieldAddr (fd := (Lp prog 40 1)) underlying40 (by kernel_rfl) sizeOf38 rfl rfl) ?_
 obtain ⟨lj,n104,lk,hl,h⟩ := h
 refine Head.yl cH [[12]] rfl (by kernel_rfl) (d := (some 104)) (op := (.load 38 (.tmp 103))) (ty := 38) (v := (.slice lj n104 lk)) (by kernel_rfl) rfl (Y.ld isAgg38 rfl (Hq hl)) ?_
 refine Head.u 105 (.int .i64 x15) ?_
 refine Head.z 106 (.fieldAddr 71 (.tmp 19) 1) 0 (.pointer (some ⟨Cc,1,none⟩)) (Y.fieldAddr (fd := (Lp prog 71 1)) underlying71 (by kernel_rfl) sizeOf48 rfl rfl) ?_
 obtain ⟨WD,hl,h⟩ := h
 refine Head.yl Cc [[11,10],[12,11,10]] rfl (by kernel_rfl) (d := (some 107)) (op := (.load 48 (.tmp 106))) (ty := 48) (v := (.int .u64 WD)) (by kernel_rfl) rfl (Y.ld isAgg48 rfl (Hq hl)) ?_
 refine Head.z 108 (.build 50 #[(0,(.tmp 105)),(1,(.tmp 107))]) 50 (.agg #[(.int .i64 x15),(.int .u64 WD)]) (Y.build (vs := [(0,(.int .i64 x15)),(1,(.int .u64 WD))]) rfl (by kernel_rfl)) ?_
 refine Head.o (q' := (some [(cH,[12]),(BY,[12]),(BY,[])])) rfl ?_
 refine AM.Ix (T := 38) (E := 50) (m := 1) (ps := #[(0,(.tmp 108))]) (d := (some 109)) (ty := 38) (gd := none) (vs := [(0,(.agg #[(.int .i64 x15),(.int .u64 WD)]))]) (cs := #[(.int .i64 x15),(.int .u64 WD)]) underlying38 (by kernel_rfl) rfl rfl rfl (by kernel_rfl) (fun O3 hn => ?_)
 refine ⟨⟨fun _ h => h,XT (Kp.Ho (Ext.set hn))⟩,?_⟩
 replace h := h O3 hn
 refine Head.o (q' := (some [(BY,[])])) rfl ?_
 refine AM.UN (d := (some 110)) (op := (.call { callee := .builtin .append,args := #[(.tmp 104),(.tmp 109)],argTypes := #[38,38] })) (ty := 38) (gd := none) (by kernel_rfl) rfl rfl (Builtin.append_ #[38,38] 38 #[(.slice lj n104 lk),(.slice (some ⟨O3,0,none⟩) 1 1)]) (fun o ho ht => Fe rfl rfl o ho ht) (h.mono (fun v σ1 h2 => ?_)); replace h := h2; clear h2
 obtain ⟨sv,n110,tA,rfl,hk,h⟩ := h
 refine ⟨⟨fun _ h => h,XT (L := [(BY,[])]) hk⟩,?_⟩
 obtain ⟨iN,iO,hq,h⟩ := h
 subst hq
 obtain ⟨hi,h⟩ := h
 refine Head.z 111 (.indexAddr 23 (.tmp 98) (.tmp 99)) 0 (.pointer (some ⟨iN,(iO + Int.toNat Hv * 2),none⟩)) (Y.idx underlying23 sizeOf40 rfl rfl hi rfl) ?_
 refine Head.z 112 (.fieldAddr 40 (.tmp 111) 1) 0 (.pointer (some ⟨iN,((iO + Int.toNat Hv * 2) + 1),none⟩)) (Y.fieldAddr (fd := (Lp prog 40 1)) underlying40 (by kernel_rfl) sizeOf38 rfl rfl) ?_
 refine Head.done ?_
 refine Seq.o ?_
 refine AM.store (T := 38) (ty := 0) (x := (.tmp 112)) (y := (.tmp 110)) (p := (.pointer (some ⟨iN,((iO + Int.toNat Hv * 2) + 1),none⟩))) (v := (.slice sv n110 tA)) (gd := none) (by kernel_rfl) rfl rfl rfl (h.mono (fun _ GY h2 => ?_)); replace h := h2; clear h2
 refine Seq.done ?_
 refine At.inBlock ?_
 refine At.rg 24 [0,1] ?_
 obtain ⟨hi,h⟩ := h
 refine Seq.z 113 (.binOp .add 3 (.tmp 69) (.const (.int .i64 1)) 3) 3 (.int .i64 (QR + 1)) (Y.AKV hi rfl rfl) ?_
 refine Seq.u 69 (.int .i64 (QR + 1)) (Seq.done ?_)
 refine At.inLoop ?_
 refine At.s K54 K55 ?_
 exact At.v [(13,(.pointer (some ⟨Cn,0,none⟩))),(14,(.pointer (some ⟨BY,0,none⟩))),(15,(.int .i64 x15)),(67,(.slice j9 YD aX)),(68,(.int .i64 Nf)),(69,(.int .i64 (QR + 1)))] (h _)
end CA
namespace Fm
variable {p0 q5 Ly : Option Addr} {n0 c0 n11 Lz : Nat} {x12 FK : Int}
def M : Fw := ⟨prog,37,f37,[53],[7],false,[],[],[(232,[(0,wL),(5,wQ),(11,wL),(12,wI),(13,wI)])]⟩
theorem ok : M.Ok := ⟨.cons call53 (AG.nil),mixed,func37,by kernel_rfl⟩
def BA := M.pt 0
theorem start (h : Al σ fun Cm => BA R p0 n0 c0 (aD Cm 0) p0 n0 c0 (n0 : Int) 0 (Hp.set σ Cm (.cells #[.slice none 0 0] 110 (0,0)))) : Spec prog 37 #[.slice p0 n0 c0] σ R := M.start h ok
theorem AZ (h : Br (FK < x12) (Pq Ly fun Hy Nh => In FK (n11 : Int) ∧ ∃ Rv YG ll iP iQ iR AD6 AD7 AD8 AD9 AEA AEB AEC AED,Ay σ Hy (Nh + Int.toNat FK * 10) [.int .i64 Rv,.int .i64 YG,.string ll,.slice iP iQ iR,.int .i64 AD6,.int .i64 AD7,.int .i64 AD8,.slice AD9 AEA AEB,.bool AEC,.int .i64 AED] ∧ ∀ b7 : Nat,Spec prog 53 #[.pointer q5,.agg #[.int .i64 Rv,.int .i64 YG,.string ll,.slice iP iQ iR,.int .i64 AD6,.int .i64 AD7,.int .i64 AD8,.slice AD9 AEA AEB,.bool AEC,.int .i64 AED]] σ (AA R (CI .i64 fun Hv y => Br (Hv ≠ 0) (R (.returned (.tuple #[.int .i64 0,.int .i64 FK,.int .i64 Hv])) y) (AJ (FK + 1) ∧ BA R p0 n0 c0 q5 (aD Hy Nh) n11 Lz x12 (FK + 1) y)))) (Pq q5 fun O4 WE => LS σ O4 WE fun p29 n29 c29 => Br ((n29 : Int) ≠ 1) (R (.returned (.tuple #[.int .i64 0,(.int .i64 (n0 : Int)),.int .i64 190])) σ) (Br (4096 < (n0 : Int)) (R (.returned (.tuple #[.int .i64 0,(.int .i64 (n0 : Int)),.int .i64 190])) σ) (LS σ O4 WE fun p42 n42 c42 => Pq p42 fun fM o43 => In 0 (n42 : Int) ∧ LI .i64 σ fM o43 fun fN => R (.returned (.tuple #[.int .i64 fN,.int .i64 0,.int .i64 0])) σ)))) : BA R p0 n0 c0 q5 Ly n11 Lz x12 FK σ := M.of h ok rfl
end Fm
namespace Cd
variable {p0 p1 : Option Addr} {n0 c0 n1 c1 : Nat} {x5 : Int}
def M : Fw := ⟨prog,41,f41,[],[],false,[(6,9,true)],[],[(464,[(0,wL),(1,wL),(5,wI)])]⟩
theorem ok : M.Ok := ⟨AG.nil,mixed,func41,by kernel_rfl⟩
def A0 := M.pt 0
theorem start (h : Br ((n0 : Int) ≠ (n1 : Int)) (R (.returned (.bool false)) σ) (A0 R p0 n0 c0 p1 n1 c1 0 σ)) : Spec prog 41 #[.slice p0 n0 c0,.slice p1 n1 c1] σ R := M.start h ok
theorem BC (h : Br (x5 < (n0 : Int)) (Pq p0 fun Cc XJ => In x5 (n0 : Int) ∧ ∃ zW zX,Ay σ Cc (XJ + Int.toNat x5 * 2) [.string zW,.string zX] ∧ Pq p1 fun OX fO => In x5 (n1 : Int) ∧ ∃ zY zZ,Ay σ OX (fO + Int.toNat x5 * 2) [.string zY,.string zZ] ∧ ∃ t25,YF prog ((do eqGuard .neq 56 (.tmp 20) (.tmp 24) (.agg #[.string zW,.string zX]) (.agg #[.string zY,.string zZ]); binOp .neq 56 (.agg #[.string zW,.string zX]) (.agg #[.string zY,.string zZ]))) σ (.bool t25) ∧ Bo t25 (R (.returned (.bool false)) σ) (AJ (x5 + 1) ∧ A0 R (aD Cc XJ) n0 c0 (aD OX fO) n1 c1 (x5 + 1) σ)) (R (.returned (.bool true)) σ)) : A0 R p0 n0 c0 p1 n1 c1 x5 σ := M.of h ok rfl
end Cd
namespace ER
variable {p0 p8 : Option Addr} {n0 c0 n8 c8 : Nat} {x9 x10 : Int}
def M : Fw := ⟨prog,68,f68,[98,99],[4],false,[(10,14,true)],[],[(232,[(0,wL),(8,wL),(9,wI),(10,wI)])]⟩
theorem ok : M.Ok := ⟨.cons call98 (.cons call99 (AG.nil)),mixed,func68,by kernel_rfl⟩
def MT := M.pt 0
theorem start (h : Br (16 < (n0 : Int)) (R (.returned (.int .i64 30)) σ) (MT R p0 n0 c0 p0 n0 c0 (n0 : Int) 0 σ)) : Spec prog 68 #[.slice p0 n0 c0] σ R := M.start h ok
theorem I4 (h : Br (x10 < x9) (Pq p8 fun Cn WG => In x10 (n8 : Int) ∧ ∃ tB cI,Ay σ Cn (WG + Int.toNat x10 * 2) [.string tB,.string cI] ∧ ∀ b4 : Nat,Spec prog 98 #[.string tB] σ (AA R (CB fun t18 y => Bn t18 (R (.returned (.int .i64 31)) y) (Bo ((ByteArray.toList cI == ByteArray.toList (ByteArray.mk #[]))) (R (.returned (.int .i64 32)) y) (Br ((256 : Int) < ((ByteArray.size cI : Nat) : Int)) (R (.returned (.int .i64 32)) y) (Spec prog 99 #[.string cI] y (AA R (CB fun t33 AF => Bn t33 (R (.returned (.int .i64 32)) AF) (Br (0 < x10) (AJ (x10 - 1) ∧ Pq p0 fun kC kD => In (x10 - 1) (n0 : Int) ∧ LT AF kC (kD + Int.toNat (x10 - 1) * 2) fun s47 => ∃ t48,YF prog ((do eqGuard .leq 9 (.tmp 41) (.tmp 47) (.string tB) (.string s47); binOp .leq 9 (.string tB) (.string s47))) AF (.bool t48) ∧ Bo t48 (R (.returned (.int .i64 33)) AF) (AJ (x10 + 1) ∧ MT R (aD kC kD) n0 c0 (aD Cn WG) n8 c8 x9 (x10 + 1) AF)) (AJ (x10 + 1) ∧ MT R p0 n0 c0 (aD Cn WG) n8 c8 x9 (x10 + 1) AF)))))))))) (R (.returned (.int .i64 0)) σ)) : MT R p0 n0 c0 p8 n8 c8 x9 x10 σ := M.of h ok rfl
end ER
namespace A1
variable {p0 p1 Ly : Option Addr} {n0 c0 n1 c1 n11 Lz : Nat} {v2 : Value} {x12 FK : Int}
def M : Fw := ⟨prog,75,f75,[],[8,9],false,[],[],[(104,[(0,wL),(1,wL),(2,wV),(11,wL),(12,wI),(13,wI)])]⟩
theorem ok : M.Ok := ⟨AG.nil,mixed,func75,by kernel_rfl⟩
def Hz := M.pt 0
theorem start (h : Hz R p0 n0 c0 p1 n1 c1 v2 p0 n0 c0 (n0 : Int) 0 σ) : Spec prog 75 #[.slice p0 n0 c0,.slice p1 n1 c1,v2] σ R := M.EE h ok [(0,.o (.L p0 n0 c0)),(1,.o (.L p1 n1 c1)),(2,.o (.V v2))] rfl rfl (by kernel_rfl)
theorem Bl (h : Br (FK < x12) (Pq Ly fun Hy Nh => In FK (n11 : Int) ∧ ∃ AEE AEF,Ay σ Hy (Nh + Int.toNat FK * 2) [.string AEE,.string AEF] ∧ ∀ b8 : Nat,Br ((n1 : Int) ≤ FK) (R (.returned (.int .i64 1)) σ) (Pq p1 fun tC o24 => In FK (n1 : Int) ∧ ∃ AEG AEH,Ay σ tC (o24 + Int.toNat FK * 2) [.string AEG,.string AEH] ∧ ∀ b9 : Nat,∃ (f29 : Nat) (vz v7 : Array Value),v2 = .func (.func f29) vz v7 ∧ Enters prog f29 ∧ Spec prog f29 (vz ++ #[.agg #[.string AEE,.string AEF],.agg #[.string AEG,.string AEH]] ++ v7) σ (AA R (CI .i64 fun x29 y => Br (x29 ≠ 0) (R (.returned (.int .i64 x29)) y) (AJ (FK + 1) ∧ Hz R p0 n0 c0 (aD tC o24) n1 c1 v2 (aD Hy Nh) n11 Lz x12 (FK + 1) y))))) (Br ((n0 : Int) < (n1 : Int)) (R (.returned (.int .i64 (-1))) σ) (R (.returned (.int .i64 0)) σ))) : Hz R p0 n0 c0 p1 n1 c1 v2 Ly n11 Lz x12 FK σ := M.of h ok rfl
end A1
end TwW
end
end
section
set_option maxRecDepth 100000
noncomputable section
namespace TwW
open Go Tw Go.Proofs.Tryz
variable [FB] {R : Rr} {σ : Hp}

namespace DS
variable {q0 : Option Addr}
def M : Fw := ⟨prog,96,f96,[95],[],false,[],[],[]⟩
theorem ok : M.Ok := ⟨.cons call95 (AG.nil),mixed,func96,by kernel_rfl⟩
theorem start (h : Spec prog 95 #[.pointer q0,(.func (.func 139) #[.pointer q0] #[]),.int .i64 11,.int .i64 13] σ (AA R (fun z y => z = (.tuple #[]) ∧ R (.returned (.tuple #[])) y))) : Spec prog 96 #[.pointer q0] σ R := M.start h ok
end DS
namespace J9
variable {x0 : Int}
def M : Fw := ⟨prog,124,f124,[],[],false,[],[],[]⟩
theorem ok : M.Ok := ⟨AG.nil,mixed,func124,by kernel_rfl⟩
theorem start (h : Br (5 ≤ x0) (R (.returned (.bool (decide (x0 ≤ 10)))) σ) (R (.returned (.bool false)) σ)) : Spec prog 124 #[.int .i64 x0] σ R := M.start h ok
end J9
namespace Po
variable {s0 : ByteArray}
def M : Fw := ⟨prog,140,f140,[172,173,174],[],false,[],[],[]⟩
theorem ok : M.Ok := ⟨.cons call172 (.cons call173 (.cons call174 (AG.nil))),mixed,func140,by kernel_rfl⟩
theorem start (h : Spec prog 172 #[.string s0] σ (AA R (CB fun t7 y => Bn t7 (R (.returned (.tuple #[.int .u64 0,.bool false])) y) (Spec prog 173 #[.string s0,.int .i64 64] y (AA R (fun z AF => ∃ iS iT,z = (.tuple #[iS,iT]) ∧ Spec prog 174 #[iS] AF (AA R (CI .u64 fun x15 AH => R (.returned (.tuple #[.int .u64 x15,.bool true])) AH)))))))) : Spec prog 140 #[.string s0] σ R := M.start h ok
end Po
namespace Rx
variable {p0 p1 : Option Addr} {n0 c0 n1 c1 : Nat}
def M : Fw := ⟨prog,149,f149,[197],[],false,[],[],[]⟩
theorem ok : M.Ok := ⟨.cons call197 (AG.nil),mixed,func149,by kernel_rfl⟩
theorem start (h : Al σ fun b3 => Spec prog 197 #[.slice p0 n0 c0,(.func (.func 198) #[] #[(.pointer (aD b3 0))])] (Hp.set σ b3 (.cells #[.slice p1 n1 c1] 34 (0,0))) (AA R (CS fun p7 n7 c7 y => R (.returned (.slice p7 n7 c7)) y))) : Spec prog 149 #[.slice p0 n0 c0,.slice p1 n1 c1] σ R := M.start h ok
end Rx
namespace D2
variable {p0 : Option Addr} {n0 c0 : Nat}
def M : Fw := ⟨prog,153,f153,[202],[],false,[],[],[]⟩
theorem ok : M.Ok := ⟨.cons call202 (AG.nil),mixed,func153,by kernel_rfl⟩
theorem start (h : Spec prog 202 #[.int .i64 9,.slice p0 n0 c0] σ (AA R (CI .u64 fun x4 y => R (.returned (.int .u64 x4)) y))) : Spec prog 153 #[.slice p0 n0 c0] σ R := M.start h ok
end D2
namespace DT
variable {x0 : Int} {b1 b2 : Nat}
def M : Fw := ⟨prog,159,f159,[156],[],false,[],[],[]⟩
theorem ok : M.Ok := ⟨.cons call156 (AG.nil),mixed,func159,by kernel_rfl⟩
theorem start (h : ∃ GL GM s6c GN GO GQ x6e x6f x6g p6h n6h c6h t6i x6j,Ay σ b1 0 [.int .i64 GL,.int .i64 GM,.string s6c,.slice GN GO GQ,.int .i64 x6e,.int .i64 x6f,.int .i64 x6g,.slice p6h n6h c6h,.bool t6i,.int .i64 x6j] ∧ LI .u64 σ b2 1 fun x9 => Spec prog 156 #[.agg #[.int .i64 GL,.int .i64 GM,.string s6c,.slice GN GO GQ,.int .i64 x6e,.int .i64 x6f,.int .i64 x6g,.slice p6h n6h c6h,.bool t6i,.int .i64 x6j],.int .u64 x0,.int .u64 x9] σ (AA R (fun z y => ∃ I5 Ry,z = (.tuple #[.int .u64 I5,.bool Ry]) ∧ R (.returned (.tuple #[.int .u64 I5,.bool Ry])) y))) : Spec prog 159 #[.int .u64 x0,(.pointer (aD b1 0)),(.pointer (aD b2 0))] σ R := M.start h ok
end DT
namespace Pp
variable {s0 : ByteArray}
def M : Fw := ⟨prog,172,f172,[213],[],false,[],[],[]⟩
theorem ok : M.Ok := ⟨.cons call213 (AG.nil),mixed,func172,by kernel_rfl⟩
theorem start (h : Spec prog 213 #[.string s0] σ (AA R (CI .i64 fun x6 y => Br (x6 = 0) (R (.returned (.bool false)) y) (Br (1 < x6) (∃ L9 : UInt8,(0 : Int) ≤ 0 ∧ (ByteArray.data s0)[Int.toNat 0]? = some L9 ∧ Br ((((UInt8.toNat L9 : Nat) : Int) : Int) = 48) (R (.returned (.bool false)) y) (Br (x6 = ((ByteArray.size s0 : Nat) : Int)) (R (.returned (.bool (decide (x6 ≤ 15)))) y) (AJ (x6 + 1) ∧ ∃ wC,YF prog (Instr.sliceAt 9 (.string s0) (some (.int .i64 (x6 + 1))) none none) y (.string wC) ∧ Spec prog 213 #[.string wC] y (AA R (CI .i64 fun YH AF => ∃ Md : UInt8,0 ≤ x6 ∧ (ByteArray.data s0)[Int.toNat x6]? = some Md ∧ Br ((((UInt8.toNat Md : Nat) : Int) : Int) = 46) (Br (0 < YH) (AJ (x6 + 1) ∧ AJ ((x6 + 1) + YH) ∧ Br ((((x6 + 1) + YH) : Int) = ((ByteArray.size s0 : Nat) : Int)) (AJ (x6 + YH) ∧ R (.returned (.bool (decide (((x6 + YH) : Int) ≤ 15)))) AF) (R (.returned (.bool false)) AF)) (R (.returned (.bool false)) AF)) (R (.returned (.bool false)) AF)))))) (Br (x6 = ((ByteArray.size s0 : Nat) : Int)) (R (.returned (.bool (decide (x6 ≤ 15)))) y) (AJ (x6 + 1) ∧ ∃ wC,YF prog (Instr.sliceAt 9 (.string s0) (some (.int .i64 (x6 + 1))) none none) y (.string wC) ∧ Spec prog 213 #[.string wC] y (AA R (CI .i64 fun YH AF => ∃ Md : UInt8,0 ≤ x6 ∧ (ByteArray.data s0)[Int.toNat x6]? = some Md ∧ Br ((((UInt8.toNat Md : Nat) : Int) : Int) = 46) (Br (0 < YH) (AJ (x6 + 1) ∧ AJ ((x6 + 1) + YH) ∧ Br ((((x6 + 1) + YH) : Int) = ((ByteArray.size s0 : Nat) : Int)) (AJ (x6 + YH) ∧ R (.returned (.bool (decide (((x6 + YH) : Int) ≤ 15)))) AF) (R (.returned (.bool false)) AF)) (R (.returned (.bool false)) AF)) (R (.returned (.bool false)) AF))))))))) : Spec prog 172 #[.string s0] σ R := M.start h ok
end Pp
namespace fP
variable {x0 : Int}
def M : Fw := ⟨prog,182,f182,[],[],false,[],[],[]⟩
theorem ok : M.Ok := ⟨AG.nil,mixed,func182,by kernel_rfl⟩
theorem start (h : EN prog 22 #[.int .u64 x0] σ (fun z y => ∃ x4,(Value.float .f64 x4) = z ∧ R (.returned (Value.float .f64 x4)) y)) : Spec prog 182 #[.int .u64 x0] σ R := M.start h ok
end fP
namespace Ni
variable {f0 : Fn} {a0 c0 : Array Value}
def M : Fw := ⟨prog,188,f188,[],[],false,[],[],[]⟩
theorem ok : M.Ok := ⟨AG.nil,mixed,func188,by kernel_rfl⟩
theorem start (h : Al σ fun b1 => R (.returned (.func (.func 226) #[] #[(.pointer (aD b1 0))])) (Hp.set σ b1 (.cells #[(Value.func f0 a0 c0)] 232 (0,0)))) : Spec prog 188 #[(Value.func f0 a0 c0)] σ R := M.EE h ok [(0,.o (.V (Value.func f0 a0 c0)))] rfl rfl (by kernel_rfl)
end Ni
namespace CY
variable {p0 p5 p8 : Option Addr} {n0 c0 n5 c5 n8 c8 : Nat} {v1 : Value} {x9 x10 : Int}
def M : Fw := ⟨prog,197,f197,[],[7],false,[],[],[(232,[(1,wV),(5,wL),(8,wL),(9,wI),(10,wI)]),(935,[(1,wV),(5,wL),(8,wL),(9,wI),(10,wI)])]⟩
theorem ok : M.Ok := ⟨AG.nil,mixed,func197,by kernel_rfl⟩
def BA := M.pt 0
def QT := M.pt 1
theorem start (h : BA R v1 none 0 0 p0 n0 c0 (n0 : Int) 0 σ) : Spec prog 197 #[.slice p0 n0 c0,v1] σ R := M.EE h ok [(0,.o (.L p0 n0 c0)),(1,.o (.V v1))] rfl rfl (by kernel_rfl)
theorem AZ (h : Br (x10 < x9) (Pq p8 fun Pr QU => In x10 (n8 : Int) ∧ ∃ za iU,Ay σ Pr (QU + Int.toNat x10 * 2) [.string za,.string iU] ∧ ∀ b7 : Nat,∃ (f16 : Nat) (wD wE : Array Value),v1 = .func (.func f16) wD wE ∧ Enters prog f16 ∧ Spec prog f16 (wD ++ #[.agg #[.string za,.string iU]] ++ wE) σ (AA R (CB fun t16 y => Bo t16 (Al y fun Cc => AK prog (Builtin.append_ #[37,37] 37 #[.slice p5 n5 c5,(.slice (aD Cc 0) 1 1)]) (Hp.set y Cc (.cells #[.string za,.string iU] 56 (0,0))) (CS fun p20 n20 c20 AF => QT R v1 p20 n20 c20 (aD Pr QU) n8 c8 x9 x10 AF)) (QT R v1 p5 n5 c5 (aD Pr QU) n8 c8 x9 x10 y)))) (R (.returned (.slice p5 n5 c5)) σ)) : BA R v1 p5 n5 c5 p8 n8 c8 x9 x10 σ := M.of h ok rfl
theorem MA (h : AJ (x10 + 1) ∧ BA R v1 p5 n5 c5 p8 n8 c8 x9 (x10 + 1) σ) : QT R v1 p5 n5 c5 p8 n8 c8 x9 x10 σ := M.of h ok rfl
end CY
namespace BP
variable {p0 : Option Addr} {n0 c0 : Nat} {s1 : ByteArray} {x7 x8 : Int}
def M : Fw := ⟨prog,228,f228,[],[],false,[],[],[(104,[(0,wL),(1,wT),(7,wI),(8,wI)])]⟩
theorem ok : M.Ok := ⟨AG.nil,mixed,func228,by kernel_rfl⟩
def Hz := M.pt 0
theorem start (h : Hz R p0 n0 c0 s1 (n0 : Int) 0 σ) : Spec prog 228 #[.slice p0 n0 c0,.string s1] σ R := M.start h ok
theorem Bl (h : Br (x8 < x7) (Pq p0 fun BY Q3 => In x8 (n0 : Int) ∧ LT σ BY (Q3 + Int.toNat x8 * 1) fun s15 => Bo (ByteArray.toList s1 == ByteArray.toList s15) (R (.returned (.int .i64 x8)) σ) (AJ (x8 + 1) ∧ Hz R (aD BY Q3) n0 c0 s1 x7 (x8 + 1) σ)) (R (.returned (.int .i64 (-1))) σ)) : Hz R p0 n0 c0 s1 x7 x8 σ := M.of h ok rfl
end BP
namespace Bc
variable {q0 : Option Addr}
def M : Fw := ⟨prog,230,f230,[136,138,250,251],[],false,[],[],[]⟩
theorem ok : M.Ok := ⟨.cons call136 (.cons call138 (.cons call250 (.cons call251 (AG.nil)))),mixed,func230,by kernel_rfl⟩
theorem start (h : Spec prog 136 #[.pointer q0,.int .i64 5,(.string (ByteArray.mk #[45]))] σ (AA R (CB fun t3 y => Bn t3 (Spec prog 250 #[.pointer q0] y (AA R (fun z AF => z = (.tuple #[]) ∧ R (.returned (.tuple #[])) AF))) (Spec prog 251 #[.pointer q0,(.func (.func 230) #[.pointer q0] #[])] y (AA R (fun z AF => z = (.tuple #[]) ∧ Spec prog 138 #[.pointer q0,(.agg #[.int .i64 7,.int .i64 0,(.string (ByteArray.mk #[])),.slice none 0 0,.int .i64 0,.int .i64 0,.int .i64 0,.slice none 0 0,.bool false,.int .i64 1])] AF (AA R (fun z AH => z = (.tuple #[]) ∧ R (.returned (.tuple #[])) AH)))))))) : Spec prog 230 #[.pointer q0] σ R := M.start h ok
end Bc
namespace Bj
variable {s0 : ByteArray} {x1 : Int}
def M : Fw := ⟨prog,231,f231,[252,253],[],false,[],[],[]⟩
theorem ok : M.Ok := ⟨.cons call252 (.cons call253 (AG.nil)),mixed,func231,by kernel_rfl⟩
theorem start (h : Br (x1 = 32) (Spec prog 252 #[.string s0] σ (AA R (fun z y => ∃ AET UU AEU,z = (.tuple #[AET,.int .i64 UU,AEU]) ∧ AK prog (convert 280 51 AET) y (fun z AF => ∃ DU,(Value.float .f64 DU) = z ∧ R (.returned (.tuple #[(Value.float .f64 DU),.int .i64 UU,AEU])) AF)))) (Spec prog 253 #[.string s0] σ (AA R (fun z y => ∃ AEV iV AEW,z = (.tuple #[AEV,.int .i64 iV,AEW]) ∧ R (.returned (.tuple #[AEV,.int .i64 iV,AEW])) y)))) : Spec prog 231 #[.string s0,.int .i64 x1] σ R := M.start h ok
end Bj
namespace Hc
variable {s0 s1 : ByteArray}
def M : Fw := ⟨prog,285,f285,[315],[],false,[],[],[]⟩
theorem ok : M.Ok := ⟨.cons call315 (AG.nil),mixed,func285,by kernel_rfl⟩
theorem start (h : Spec prog 315 #[.string s0,.string s1] σ (AA R (CB fun t7 y => R (.returned (.bool t7)) y))) : Spec prog 285 #[.string s0,.string s1] σ R := M.start h ok
end Hc
namespace BR
variable {b0 : Nat}
def M : Fw := ⟨prog,294,f294,[65,210],[],false,[],[],[]⟩
theorem ok : M.Ok := ⟨.cons call65 (.cons call210 (AG.nil)),mixed,func294,by kernel_rfl⟩
theorem start (h : LQ σ b0 0 fun q1 => Spec prog 65 #[.pointer q1] σ (AA R (fun z y => z = (.tuple #[]) ∧ LQ y b0 0 fun q3 => Spec prog 210 #[.pointer q3,(.string (ByteArray.mk #[41]))] y (AA R (fun z AF => z = (.tuple #[]) ∧ R (.returned (.tuple #[])) AF))))) : Spec prog 294 #[(.pointer (aD b0 0))] σ R := M.start h ok
end BR
end TwW
end
end
section
set_option maxRecDepth 100000
noncomputable section
namespace TwW
open Go Tw Go.Proofs.Tryz
variable [FB] {R : Rr} {σ : Hp}

namespace KA
variable {p0 : Option Addr} {n0 c0 : Nat} {x1 : Int} {s2 s3 : ByteArray}
def M : Fw := ⟨prog,4,f4,[14,17,18,19,20,21],[],false,[],[],[]⟩
theorem ok : M.Ok := ⟨.cons call14 (.cons call17 (.cons call18 (.cons call19 (.cons call20 (.cons call21 (AG.nil)))))),mixed,func4,by kernel_rfl⟩
theorem start (h : Spec prog 19 #[.string s2] σ (AA R (CB fun t22 y => Bn t22 (Spec prog 14 #[] y (AA R (CB fun t29 AF => R (.returned (.bool t29)) AF))) (Spec prog 19 #[.string s3] y (AA R (CB fun t26 AF => Bn t26 (Spec prog 14 #[] AF (AA R (CB fun t29 AH => R (.returned (.bool t29)) AH))) (Spec prog 20 #[.string s2,.slice p0 n0 c0,.int .i64 x1] AF (AA R (fun z AH => ∃ iW Rz lq O5,z = (.tuple #[.slice iW Rz lq,.int .i64 O5]) ∧ Spec prog 20 #[.string s3,.slice p0 n0 c0,.int .i64 x1] AH (AA R (fun z Ac => ∃ ALh zb ALi tD,z = (.tuple #[.slice ALh zb ALi,.int .i64 tD]) ∧ (ByteArray.size s2 + ByteArray.size (ByteArray.mk #[32,97,110,100,32]) ≤ 9223372036854775807) ∧ (ByteArray.size (s2 ++ (ByteArray.mk #[32,97,110,100,32])) + ByteArray.size s3 ≤ 9223372036854775807) ∧ Spec prog 20 #[(.string ((s2 ++ (ByteArray.mk #[32,97,110,100,32])) ++ s3)),.slice p0 n0 c0,.int .i64 x1] Ac (AA R (fun z EF => ∃ AEX tE AEY YI,z = (.tuple #[.slice AEX tE AEY,.int .i64 YI]) ∧ (ByteArray.size s2 + ByteArray.size (ByteArray.mk #[32,117,110,108,101,115,115,32]) ≤ 9223372036854775807) ∧ (ByteArray.size (s2 ++ (ByteArray.mk #[32,117,110,108,101,115,115,32])) + ByteArray.size s3 ≤ 9223372036854775807) ∧ Spec prog 20 #[(.string ((s2 ++ (ByteArray.mk #[32,117,110,108,101,115,115,32])) ++ s3)),.slice p0 n0 c0,.int .i64 x1] EF (AA R (fun z Fo => ∃ Rt MR Ru Jv,z = (.tuple #[.slice Rt MR Ru,.int .i64 Jv]) ∧ (ByteArray.size s2 + ByteArray.size (ByteArray.mk #[32,111,114,32]) ≤ 9223372036854775807) ∧ (ByteArray.size (s2 ++ (ByteArray.mk #[32,111,114,32])) + ByteArray.size s3 ≤ 9223372036854775807) ∧ Spec prog 20 #[(.string ((s2 ++ (ByteArray.mk #[32,111,114,32])) ++ s3)),.slice p0 n0 c0,.int .i64 x1] Fo (AA R (fun z EG => ∃ iX YJ iY cJ,z = (.tuple #[.slice iX YJ iY,.int .i64 cJ]) ∧ Br (O5 ≠ 0) (Br (O5 = tD) (Br (YI = O5) (Br (Jv = O5) (Br (cJ = O5) (Spec prog 14 #[] EG (AA R (CB fun t99 Jw => R (.returned (.bool t99)) Jw))) (R (.returned (.bool false)) EG)) (R (.returned (.bool false)) EG)) (R (.returned (.bool false)) EG)) (R (.returned (.bool false)) EG)) (Br (tD ≠ 0) (Br (O5 = tD) (Br (YI = O5) (Br (Jv = O5) (Br (cJ = O5) (Spec prog 14 #[] EG (AA R (CB fun t99 Jw => R (.returned (.bool t99)) Jw))) (R (.returned (.bool false)) EG)) (R (.returned (.bool false)) EG)) (R (.returned (.bool false)) EG)) (R (.returned (.bool false)) EG)) (Br (YI ≠ 0) (R (.returned (.bool false)) EG) (Br (Jv ≠ 0) (R (.returned (.bool false)) EG) (Br (cJ ≠ 0) (R (.returned (.bool false)) EG) (Al EG fun AEZ => Spec prog 17 #[(.slice (aD AEZ 0) 2 2)] (Hp.set EG AEZ (.cells #[.slice AEX tE AEY,.slice Rt MR Ru] 23 (0,0))) (AA R (fun z Jw => ∃ wF wG wH wJ,z = (.tuple #[.slice wF wG wH,.int .i64 wJ]) ∧ Br (wJ ≠ 0) (R (.returned (.bool false)) Jw) (Spec prog 18 #[.slice wF wG wH,.slice iW Rz lq] Jw (AA R (CB fun t123 QV => Bn t123 (R (.returned (.bool false)) QV) (AJ ((tE : Int) + (MR : Int)) ∧ Br ((((tE : Int) + (MR : Int)) : Int) ≠ (Rz : Int)) (R (.returned (.bool false)) QV) (Br ((YJ : Int) < (Rz : Int)) (R (.returned (.bool false)) QV) (AJ ((Rz : Int) + (zb : Int)) ∧ Br ((((Rz : Int) + (zb : Int)) : Int) < (YJ : Int)) (R (.returned (.bool false)) QV) (Spec prog 21 #[.slice iX YJ iY,.slice iW Rz lq] QV (AA R (CB fun t155 I6 => Bo t155 (Spec prog 14 #[] I6 (AA R (CB fun t157 cK => R (.returned (.bool t157)) cK))) (R (.returned (.bool false)) I6)))))))))))))))))))))))))))))))))) : Spec prog 4 #[.slice p0 n0 c0,.int .i64 x1,.string s2,.string s3] σ R := M.start h ok
end KA
namespace Ce
variable {p0 p1 : Option Addr} {n0 c0 n1 c1 : Nat} {x5 : Int}
def M : Fw := ⟨prog,18,f18,[36,41],[],false,[],[],[(464,[(0,wL),(1,wL),(5,wI)])]⟩
theorem ok : M.Ok := ⟨.cons call36 (.cons call41 (AG.nil)),mixed,func18,by kernel_rfl⟩
def A0 := M.pt 0
theorem start (h : Br ((n0 : Int) ≠ (n1 : Int)) (R (.returned (.bool false)) σ) (A0 R p0 n0 c0 p1 n1 c1 0 σ)) : Spec prog 18 #[.slice p0 n0 c0,.slice p1 n1 c1] σ R := M.start h ok
theorem BC (h : Br (x5 < (n0 : Int)) (Pq p0 fun Cc XJ => In x5 (n0 : Int) ∧ LS σ Cc (XJ + Int.toNat x5 * 2) fun Nj n21 MU => Pq p1 fun tC o24 => In x5 (n1 : Int) ∧ LS σ tC (o24 + Int.toNat x5 * 2) fun p26 n26 c26 => Spec prog 41 #[.slice Nj n21 MU,.slice p26 n26 c26] σ (AA R (CB fun t27 y => Bn t27 (R (.returned (.bool false)) y) (In x5 (n0 : Int) ∧ LS y Cc ((XJ + Int.toNat x5 * 2) + 1) fun p34 n34 c34 => In x5 (n1 : Int) ∧ LS y tC ((o24 + Int.toNat x5 * 2) + 1) fun wK n39 c39 => Spec prog 36 #[.slice p34 n34 c34,.slice wK n39 c39] y (AA R (CB fun t40 AF => Bn t40 (R (.returned (.bool false)) AF) (AJ (x5 + 1) ∧ A0 R (aD Cc XJ) n0 c0 (aD tC o24) n1 c1 (x5 + 1) AF))))))) (R (.returned (.bool true)) σ)) : A0 R p0 n0 c0 p1 n1 c1 x5 σ := M.of h ok rfl
end Ce
namespace BT
variable {p0 : Option Addr} {n0 c0 : Nat} {x3 x4 : Int}
def M : Fw := ⟨prog,39,f39,[56,57],[],false,[(9,20,true)],[],[(208,[(0,wL),(3,wI)]),(26928,[(0,wL),(3,wI),(4,wI)])]⟩
theorem ok : M.Ok := ⟨.cons call56 (.cons call57 (AG.nil)),mixed,func39,by kernel_rfl⟩
def ES := M.pt 0
def R0 := M.pt 1
theorem start (h : ES R p0 n0 c0 0 σ) : Spec prog 39 #[.slice p0 n0 c0] σ R := M.start h ok
theorem Af (h : Br (x3 < (n0 : Int)) (Pq p0 fun Cn WG => In x3 (n0 : Int) ∧ LS σ Cn (WG + Int.toNat x3 * 2) fun aZ n15 WH => Spec prog 56 #[.slice aZ n15 WH] σ (AA R (CI .i64 fun x16 y => Br (x16 ≠ 0) (R (.returned (.int .i64 100)) y) (In x3 (n0 : Int) ∧ LS y Cn ((WG + Int.toNat x3 * 2) + 1) fun cA n23 cB => Br ((n23 : Int) = 0) (R (.returned (.int .i64 100)) y) (Br (0 < x3) (AJ (x3 - 1) ∧ In (x3 - 1) (n0 : Int) ∧ LS y Cn (WG + Int.toNat (x3 - 1) * 2) fun p36 n36 c36 => In x3 (n0 : Int) ∧ LS y Cn (WG + Int.toNat x3 * 2) fun rL n41 fQ => Spec prog 57 #[.slice p36 n36 c36,.slice rL n41 fQ] y (AA R (CI .i64 fun UW AF => Br (0 ≤ UW) (R (.returned (.int .i64 100)) AF) (R0 R (aD Cn WG) n0 c0 x3 1 AF)))) (R0 R (aD Cn WG) n0 c0 x3 1 y)))))) (R (.returned (.int .i64 0)) σ)) : ES R p0 n0 c0 x3 σ := M.of h ok rfl
theorem Nk (h : Pq p0 fun Ps o49 => In x3 (n0 : Int) ∧ LS σ Ps ((o49 + Int.toNat x3 * 2) + 1) fun p51 n51 c51 => Br (x4 < (n51 : Int)) (In x3 (n0 : Int) ∧ LS σ Ps ((o49 + Int.toNat x3 * 2) + 1) fun p60 n60 c60 => Pq p60 fun zc o62 => In x4 (n60 : Int) ∧ LI .i64 σ zc (o62 + Int.toNat x4 * 2) fun lr => In x3 (n0 : Int) ∧ LS σ Ps ((o49 + Int.toNat x3 * 2) + 1) fun lu n69 rO => AJ (x4 - 1) ∧ Pq lu fun b72 o72 => In (x4 - 1) (n69 : Int) ∧ LI .i64 σ b72 (o72 + Int.toNat (x4 - 1) * 2) fun x74 => Br (lr ≤ x74) (R (.returned (.int .i64 100)) σ) (AJ (x4 + 1) ∧ R0 R (aD Ps o49) n0 c0 x3 (x4 + 1) σ)) (AJ (x3 + 1) ∧ ES R (aD Ps o49) n0 c0 (x3 + 1) σ)) : R0 R p0 n0 c0 x3 x4 σ := M.of h ok rfl
end BT
namespace YK
variable {p0 : Option Addr} {n0 c0 : Nat}
def M : Fw := ⟨prog,49,f49,[72],[],false,[],[],[]⟩
theorem ok : M.Ok := ⟨.cons call72 (AG.nil),mixed,func49,by kernel_rfl⟩
theorem start (h : Spec prog 72 #[.slice p0 n0 c0] σ (AA R (CS fun p4 n4 c4 y => AK prog (convert 90 9 (.slice p4 n4 c4)) y (CT fun s5 AF => R (.returned (.string s5)) AF)))) : Spec prog 49 #[.slice p0 n0 c0] σ R := M.start h ok
end YK
namespace Pu
def M : Fw := ⟨prog,61,f61,[],[],false,[],[],[]⟩
theorem ok : M.Ok := ⟨AG.nil,mixed,func61,by kernel_rfl⟩
theorem start (h : Al σ fun b1 => R (.returned (.slice (aD b1 0) 12 12)) (Hp.set σ b1 (.cells #[(.string (ByteArray.mk #[114,97,116,101])),(.string (ByteArray.mk #[105,110,99,114,101,97,115,101])),(.string (ByteArray.mk #[100,101,108,116,97])),(.string (ByteArray.mk #[115,117,109,95,111,118,101,114,95,116,105,109,101])),(.string (ByteArray.mk #[97,118,103,95,111,118,101,114,95,116,105,109,101])),(.string (ByteArray.mk #[109,105,110,95,111,118,101,114,95,116,105,109,101])),(.string (ByteArray.mk #[109,97,120,95,111,118,101,114,95,116,105,109,101])),(.string (ByteArray.mk #[99,111,117,110,116,95,111,118,101,114,95,116,105,109,101])),(.string (ByteArray.mk #[108,97,115,116,95,111,118,101,114,95,116,105,109,101])),(.string (ByteArray.mk #[119,97,118,101])),(.string (ByteArray.mk #[97,98,115])),(.string (ByteArray.mk #[102,108,111,111,114]))] 9 (0,0)))) : Spec prog 61 #[] σ R := M.start h ok
end Pu
namespace Jh
variable {q0 : Option Addr}
def M : Fw := ⟨prog,65,f65,[95],[],false,[],[],[]⟩
theorem ok : M.Ok := ⟨.cons call95 (AG.nil),mixed,func65,by kernel_rfl⟩
theorem start (h : Spec prog 95 #[.pointer q0,(.func (.func 96) #[.pointer q0] #[]),.int .i64 12,.int .i64 12] σ (AA R (fun z y => z = (.tuple #[]) ∧ R (.returned (.tuple #[])) y))) : Spec prog 65 #[.pointer q0] σ R := M.start h ok
end Jh
namespace IM
variable {q0 : Option Addr}
def M : Fw := ⟨prog,66,f66,[],[2],false,[],[],[]⟩
theorem ok : M.Ok := ⟨AG.nil,mixed,func66,by kernel_rfl⟩
theorem start (h : ∀ b2 : Nat,Pq q0 fun b4 o4 => LS σ b4 o4 fun p6 n6 c6 => Pq p6 fun b7 o7 => In 0 (n6 : Int) ∧ ∃ EH ET s8c x8d,Ay σ b7 o7 [.int .i64 EH,.int .i64 ET,.string s8c,.int .i64 x8d] ∧ R (.returned (.agg #[.int .i64 EH,.int .i64 ET,.string s8c,.int .i64 x8d])) σ) : Spec prog 66 #[.pointer q0] σ R := M.start h ok
end IM
namespace R3
def M : Fw := ⟨prog,70,f70,[],[],false,[],[],[]⟩
theorem ok : M.Ok := ⟨AG.nil,mixed,func70,by kernel_rfl⟩
theorem start (h : Al σ fun b1 => R (.returned (.slice (aD b1 0) 8 8)) (Hp.set σ b1 (.cells #[.nilFunc,(.func (.func 100) #[] #[]),(.func (.func 101) #[] #[]),(.func (.func 102) #[] #[]),(.func (.func 103) #[] #[]),(.func (.func 104) #[] #[]),(.func (.func 105) #[] #[]),(.func (.func 106) #[] #[])] 137 (0,0)))) : Spec prog 70 #[] σ R := M.start h ok
end R3
namespace R4
variable {FD Ej QW Nl H0 Ji : Int} {QX : ByteArray} {VB R5 : Option Addr} {UX VC Q5 R6 : Nat} {M6 : Bool}
def M : Fw := ⟨prog,79,f79,[94,120,121,122,123,124],[1],false,[],[],[]⟩
theorem ok : M.Ok := ⟨.cons call94 (.cons call120 (.cons call121 (.cons call122 (.cons call123 (.cons call124 (AG.nil)))))),mixed,func79,by kernel_rfl⟩
theorem start (h : ∀ b1 : Nat,Spec prog 121 #[.agg #[.int .i64 FD,.int .i64 Ej,.string QX,.slice VB UX VC,.int .i64 QW,.int .i64 Nl,.int .i64 H0,.slice R5 Q5 R6,.bool M6,.int .i64 Ji]] σ (AA R (fun z y => ∃ I7 HQ I8 I9 JA JB JC JD JE JF JG JH KB JI,z = (.agg #[.int .i64 I7,.int .i64 HQ,.string I8,.slice I9 JA JB,.int .i64 JC,.int .i64 JD,.int .i64 JE,.slice JF JG JH,.bool KB,.int .i64 JI]) ∧ Spec prog 120 #[.agg #[.int .i64 FD,.int .i64 Ej,.string QX,.slice VB UX VC,.int .i64 QW,.int .i64 Nl,.int .i64 H0,.slice R5 Q5 R6,.bool M6,.int .i64 Ji],.agg #[.int .i64 I7,.int .i64 HQ,.string I8,.slice I9 JA JB,.int .i64 JC,.int .i64 JD,.int .i64 JE,.slice JF JG JH,.bool KB,.int .i64 JI]] y (AA R (CB fun t6 AF => Bn t6 (R (.returned (.bool false)) AF) (Spec prog 122 #[.agg #[.int .i64 FD,.int .i64 Ej,.string QX,.slice VB UX VC,.int .i64 QW,.int .i64 Nl,.int .i64 H0,.slice R5 Q5 R6,.bool M6,.int .i64 Ji]] AF (AA R (CB fun t10 AH => Bn t10 (R (.returned (.bool false)) AH) (Br (0 < (UX : Int)) (Br (FD ≠ 2) (Br (FD ≠ 3) (R (.returned (.bool false)) AH) (Br (FD = 1) (Spec prog 94 #[.string QX] AH (AA R (CB fun t35 Ac => R (.returned (.bool t35)) Ac))) (Br (FD = 2) (Spec prog 123 #[.int .i64 Nl,.int .i64 0] AH (AA R (CB fun t40 Ac => R (.returned (.bool t40)) Ac))) (Br (FD = 3) (Spec prog 123 #[.int .i64 QW,.int .i64 1] AH (AA R (CB fun t45 Ac => Bo t45 (Spec prog 123 #[.int .i64 Nl,.int .i64 0] Ac (AA R (CB fun t49 EF => R (.returned (.bool t49)) EF))) (R (.returned (.bool false)) Ac)))) (Br (FD = 4) (Br (Ji = 1) (Br (1 ≤ Ej) (R (.returned (.bool (decide (Ej ≤ 12)))) AH) (R (.returned (.bool false)) AH)) (R (.returned (.bool false)) AH)) (Br (FD = 5) (Br (Ji = 1) (Br (1 ≤ Ej) (Br (Ej ≤ 5) (Br (H0 = 0) (R (.returned (.bool true)) AH) (Br (H0 = 1) (R (.returned (.bool true)) AH) (R (.returned (.bool (decide (H0 = 2)))) AH))) (R (.returned (.bool false)) AH)) (R (.returned (.bool false)) AH)) (R (.returned (.bool false)) AH)) (Br (FD = 6) (Br (Ji = 2) (Br (1 ≤ Ej) (Br (Ej ≤ 13) (Br (H0 = 0) (Bn M6 (R (.returned (.bool true)) AH) (Spec prog 124 #[.int .i64 Ej] AH (AA R (CB fun t133 Ac => R (.returned (.bool t133)) Ac)))) (Br (H0 = 3) (Bn M6 (R (.returned (.bool true)) AH) (Spec prog 124 #[.int .i64 Ej] AH (AA R (CB fun t133 Ac => R (.returned (.bool t133)) Ac)))) (Br (H0 = 4) (Bn M6 (R (.returned (.bool true)) AH) (Spec prog 124 #[.int .i64 Ej] AH (AA R (CB fun t133 Ac => R (.returned (.bool t133)) Ac)))) (R (.returned (.bool false)) AH)))) (R (.returned (.bool false)) AH)) (R (.returned (.bool false)) AH)) (R (.returned (.bool false)) AH)) (Br (FD = 7) (R (.returned (.bool (decide (Ji = 1)))) AH) (R (.returned (.bool false)) AH))))))))) (Br (FD = 1) (Spec prog 94 #[.string QX] AH (AA R (CB fun t35 Ac => R (.returned (.bool t35)) Ac))) (Br (FD = 2) (Spec prog 123 #[.int .i64 Nl,.int .i64 0] AH (AA R (CB fun t40 Ac => R (.returned (.bool t40)) Ac))) (Br (FD = 3) (Spec prog 123 #[.int .i64 QW,.int .i64 1] AH (AA R (CB fun t45 Ac => Bo t45 (Spec prog 123 #[.int .i64 Nl,.int .i64 0] Ac (AA R (CB fun t49 EF => R (.returned (.bool t49)) EF))) (R (.returned (.bool false)) Ac)))) (Br (FD = 4) (Br (Ji = 1) (Br (1 ≤ Ej) (R (.returned (.bool (decide (Ej ≤ 12)))) AH) (R (.returned (.bool false)) AH)) (R (.returned (.bool false)) AH)) (Br (FD = 5) (Br (Ji = 1) (Br (1 ≤ Ej) (Br (Ej ≤ 5) (Br (H0 = 0) (R (.returned (.bool true)) AH) (Br (H0 = 1) (R (.returned (.bool true)) AH) (R (.returned (.bool (decide (H0 = 2)))) AH))) (R (.returned (.bool false)) AH)) (R (.returned (.bool false)) AH)) (R (.returned (.bool false)) AH)) (Br (FD = 6) (Br (Ji = 2) (Br (1 ≤ Ej) (Br (Ej ≤ 13) (Br (H0 = 0) (Bn M6 (R (.returned (.bool true)) AH) (Spec prog 124 #[.int .i64 Ej] AH (AA R (CB fun t133 Ac => R (.returned (.bool t133)) Ac)))) (Br (H0 = 3) (Bn M6 (R (.returned (.bool true)) AH) (Spec prog 124 #[.int .i64 Ej] AH (AA R (CB fun t133 Ac => R (.returned (.bool t133)) Ac)))) (Br (H0 = 4) (Bn M6 (R (.returned (.bool true)) AH) (Spec prog 124 #[.int .i64 Ej] AH (AA R (CB fun t133 Ac => R (.returned (.bool t133)) Ac)))) (R (.returned (.bool false)) AH)))) (R (.returned (.bool false)) AH)) (R (.returned (.bool false)) AH)) (R (.returned (.bool false)) AH)) (Br (FD = 7) (R (.returned (.bool (decide (Ji = 1)))) AH) (R (.returned (.bool false)) AH))))))))) (Br (FD = 1) (Spec prog 94 #[.string QX] AH (AA R (CB fun t35 Ac => R (.returned (.bool t35)) Ac))) (Br (FD = 2) (Spec prog 123 #[.int .i64 Nl,.int .i64 0] AH (AA R (CB fun t40 Ac => R (.returned (.bool t40)) Ac))) (Br (FD = 3) (Spec prog 123 #[.int .i64 QW,.int .i64 1] AH (AA R (CB fun t45 Ac => Bo t45 (Spec prog 123 #[.int .i64 Nl,.int .i64 0] Ac (AA R (CB fun t49 EF => R (.returned (.bool t49)) EF))) (R (.returned (.bool false)) Ac)))) (Br (FD = 4) (Br (Ji = 1) (Br (1 ≤ Ej) (R (.returned (.bool (decide (Ej ≤ 12)))) AH) (R (.returned (.bool false)) AH)) (R (.returned (.bool false)) AH)) (Br (FD = 5) (Br (Ji = 1) (Br (1 ≤ Ej) (Br (Ej ≤ 5) (Br (H0 = 0) (R (.returned (.bool true)) AH) (Br (H0 = 1) (R (.returned (.bool true)) AH) (R (.returned (.bool (decide (H0 = 2)))) AH))) (R (.returned (.bool false)) AH)) (R (.returned (.bool false)) AH)) (R (.returned (.bool false)) AH)) (Br (FD = 6) (Br (Ji = 2) (Br (1 ≤ Ej) (Br (Ej ≤ 13) (Br (H0 = 0) (Bn M6 (R (.returned (.bool true)) AH) (Spec prog 124 #[.int .i64 Ej] AH (AA R (CB fun t133 Ac => R (.returned (.bool t133)) Ac)))) (Br (H0 = 3) (Bn M6 (R (.returned (.bool true)) AH) (Spec prog 124 #[.int .i64 Ej] AH (AA R (CB fun t133 Ac => R (.returned (.bool t133)) Ac)))) (Br (H0 = 4) (Bn M6 (R (.returned (.bool true)) AH) (Spec prog 124 #[.int .i64 Ej] AH (AA R (CB fun t133 Ac => R (.returned (.bool t133)) Ac)))) (R (.returned (.bool false)) AH)))) (R (.returned (.bool false)) AH)) (R (.returned (.bool false)) AH)) (R (.returned (.bool false)) AH)) (Br (FD = 7) (R (.returned (.bool (decide (Ji = 1)))) AH) (R (.returned (.bool false)) AH))))))))))))))))) : Spec prog 79 #[.agg #[.int .i64 FD,.int .i64 Ej,.string QX,.slice VB UX VC,.int .i64 QW,.int .i64 Nl,.int .i64 H0,.slice R5 Q5 R6,.bool M6,.int .i64 Ji]] σ R := M.start h ok
end R4
namespace Ek
variable {q0 Dt D3 p2 : Option Addr} {Dm CZ Dn Du DJ Cf : Int} {Dp : ByteArray} {Dx Dy Dz D4 n2 c2 : Nat} {DK : Bool}
def M : Fw := ⟨prog,83,f83,[],[4],false,[],[],[]⟩
theorem ok : M.Ok := ⟨AG.nil,mixed,func83,by kernel_rfl⟩
theorem start (h : ∀ b4 : Nat,Pq p2 fun b9 o9 => In 0 (n2 : Int) ∧ LI .i64 σ b9 o9 fun x11 => Br (x11 ≠ 2) (R (.returned (.tuple #[.int .i64 0,.int .i64 191])) σ) (R (.returned (.tuple #[.int .i64 2,.int .i64 0])) σ)) : Spec prog 83 #[.pointer q0,.agg #[.int .i64 Dm,.int .i64 CZ,.string Dp,.slice Dt Dx Dy,.int .i64 Dn,.int .i64 Du,.int .i64 DJ,.slice D3 Dz D4,.bool DK,.int .i64 Cf],.slice p2 n2 c2] σ R := M.start h ok
end Ek
namespace Me
variable {p0 : Option Addr} {n0 c0 : Nat} {s1 : ByteArray}
def M : Fw := ⟨prog,108,f108,[107],[],false,[],[],[]⟩
theorem ok : M.Ok := ⟨.cons call107 (AG.nil),mixed,func108,by kernel_rfl⟩
theorem start (h : Df (IntKind.u64.wrap ((ByteArray.size s1 : Nat) : Int)) fun x8 => Spec prog 107 #[.slice p0 n0 c0,.int .u64 x8] σ (AA R (CS fun p9 n9 c9 y => AK prog (Builtin.append_ #[90,9] 90 #[.slice p9 n9 c9,.string s1]) y (CS fun Ly n11 Lz AF => R (.returned (.slice Ly n11 Lz)) AF)))) : Spec prog 108 #[.slice p0 n0 c0,.string s1] σ R := M.start h ok
end Me
namespace CG
variable {s0 s1 : ByteArray}
def M : Fw := ⟨prog,119,f119,[],[],false,[],[],[]⟩
theorem ok : M.Ok := ⟨AG.nil,mixed,func119,by kernel_rfl⟩
theorem start (h : EN prog 168 #[.string s0,.string s1] σ (CI .i64 fun x7 y => R (.returned (.int .i64 x7)) y)) : Spec prog 119 #[.string s0,.string s1] σ R := M.start h ok
end CG
namespace Pv
variable {FD Ej QW Nl H0 Ji Dm CZ Dn Du DJ Cf : Int} {QX Dp : ByteArray} {VB R5 Dt D3 : Option Addr} {UX VC Q5 R6 Dx Dy Dz D4 : Nat} {M6 DK : Bool}
def M : Fw := ⟨prog,120,f120,[],[2,3],false,[],[],[]⟩
theorem ok : M.Ok := ⟨AG.nil,mixed,func120,by kernel_rfl⟩
theorem start (h : ∀ b2 : Nat,∀ b3 : Nat,Br (FD = Dm) (Br (Ej = CZ) (Bo (ByteArray.toList QX == ByteArray.toList Dp) (Br (QW = Dn) (Br (Nl = Du) (Br (H0 = DJ) (Bo M6 (Bo DK (R (.returned (.bool (decide (Ji = Cf)))) σ) (R (.returned (.bool false)) σ)) (Bo DK (R (.returned (.bool false)) σ) (R (.returned (.bool (decide (Ji = Cf)))) σ))) (R (.returned (.bool false)) σ)) (R (.returned (.bool false)) σ)) (R (.returned (.bool false)) σ)) (R (.returned (.bool false)) σ)) (R (.returned (.bool false)) σ)) (R (.returned (.bool false)) σ)) : Spec prog 120 #[.agg #[.int .i64 FD,.int .i64 Ej,.string QX,.slice VB UX VC,.int .i64 QW,.int .i64 Nl,.int .i64 H0,.slice R5 Q5 R6,.bool M6,.int .i64 Ji],.agg #[.int .i64 Dm,.int .i64 CZ,.string Dp,.slice Dt Dx Dy,.int .i64 Dn,.int .i64 Du,.int .i64 DJ,.slice D3 Dz D4,.bool DK,.int .i64 Cf]] σ R := M.start h ok
end Pv
namespace R7
variable {x0 : Int}
def M : Fw := ⟨prog,125,f125,[],[],false,[],[],[]⟩
theorem ok : M.Ok := ⟨AG.nil,mixed,func125,by kernel_rfl⟩
theorem start (h : Br (1 ≤ x0) (R (.returned (.bool (decide (x0 ≤ 4)))) σ) (R (.returned (.bool false)) σ)) : Spec prog 125 #[.int .i64 x0] σ R := M.start h ok
end R7
namespace VD
def M : Fw := ⟨prog,134,f134,[],[],false,[],[],[]⟩
theorem ok : M.Ok := ⟨AG.nil,mixed,func134,by kernel_rfl⟩
theorem start (h : Al σ fun b1 => R (.returned (.slice (aD b1 0) 14 14)) (Hp.set σ b1 (.cells #[(.string (ByteArray.mk #[])),(.string (ByteArray.mk #[43])),(.string (ByteArray.mk #[45])),(.string (ByteArray.mk #[42])),(.string (ByteArray.mk #[47])),(.string (ByteArray.mk #[61,61])),(.string (ByteArray.mk #[33,61])),(.string (ByteArray.mk #[60])),(.string (ByteArray.mk #[60,61])),(.string (ByteArray.mk #[62])),(.string (ByteArray.mk #[62,61])),(.string (ByteArray.mk #[97,110,100])),(.string (ByteArray.mk #[111,114])),(.string (ByteArray.mk #[117,110,108,101,115,115]))] 9 (0,0)))) : Spec prog 134 #[] σ R := M.start h ok
end VD
namespace Ai
variable {q0 q1 : Option Addr} {s2a s2b zd ze : ByteArray} {x3a x3b x11 : Int} {b7 : Nat}
def M : Fw := ⟨prog,137,f137,[135,136,170],[6],false,[(6,12,false)],[],[(56,[(0,wQ),(1,wQ),(7,wA),(10,.G [.T,.T]),(11,wI)])]⟩
theorem ok : M.Ok := ⟨.cons call135 (.cons call136 (.cons call170 (AG.nil))),mixed,func137,by kernel_rfl⟩
def rR := M.pt 0
theorem start (h : ∀ b6 : Nat,Al σ fun b7 => rR R q0 q1 b7 s2a s2b 0 (Hp.set σ b7 (.cells #[.int .i64 x3a,.int .i64 x3b] 182 (0,0)))) : Spec prog 137 #[.pointer q0,.pointer q1,.agg #[.string s2a,.string s2b],.agg #[.int .i64 x3a,.int .i64 x3b]] σ R := M.start h ok
theorem R8 (h : Br (x11 < 2) (In x11 2 ∧ ∃ s14 : ByteArray,[zd,ze][Int.toNat x11]? = some s14 ∧ Spec prog 136 #[.pointer q0,.int .i64 3,.string s14] σ (AA R (CB fun t17 y => Bo t17 (Spec prog 135 #[.pointer q0] y (AA R (fun z AF => ∃ KC O6 WI zf,z = (.agg #[.int .i64 KC,.int .i64 O6,.string WI,.int .i64 zf]) ∧ In x11 2 ∧ LI .i64 AF b7 (0 + Int.toNat x11 * 1) fun IL => Spec prog 170 #[.pointer q0] AF (AA R (CS fun p26 n26 c26 AH => Kp [b7] AF AH ∧ Pq q1 fun O4 WE => AK prog (Instr.storeAt 3 (.pointer (aD O4 (WE + 6))) (.int .i64 IL)) AH (fun _ Ac => AK prog (Instr.storeAt 34 (.pointer (aD O4 (WE + 7))) (.slice p26 n26 c26)) Ac (fun _ EF => R (.returned (.tuple #[])) EF))))))) (AJ (x11 + 1) ∧ rR R q0 q1 b7 zd ze (x11 + 1) y)))) (R (.returned (.tuple #[])) σ)) : rR R q0 q1 b7 zd ze x11 σ := M.of h ok rfl
end Ai
namespace G5
variable {p0 : Option Addr} {n0 c0 : Nat}
def M : Fw := ⟨prog,155,f155,[143],[],false,[],[],[]⟩
theorem ok : M.Ok := ⟨.cons call143 (AG.nil),mixed,func155,by kernel_rfl⟩
theorem start (h : Spec prog 143 #[(.int .i64 (n0 : Int))] σ (AA R (CI .u64 fun x5 y => R (.returned (.int .u64 x5)) y))) : Spec prog 155 #[.slice p0 n0 c0] σ R := M.start h ok
end G5
namespace Av
variable {q0 Dt D3 p2 p3 I9 JF E8 FE Jj rL : Option Addr} {Dm CZ Dn Du DJ Cf I7 HQ JC JD JE JI EH ET UW fR : Int} {Dp I8 : ByteArray} {Dx Dy Dz D4 n2 c2 n3 c3 JA JB JG JH E9 FA FG FH n14 Hd n41 fQ : Nat} {DK KB : Bool} {m12 : Option Nat}
def M : Fw := ⟨prog,161,f161,[49,124,148,156,206,207],[5,8,16,18],false,[],[],[(2024,[(5,.X 36 [.I .i64,.I .i64,.T,.L,.I .i64,.I .i64,.I .i64,.L,.B,.I .i64]),(8,.X 93 [.I .i64,.I .u64,.L,.L]),(12,wM),(14,wL),(41,wL),(42,wI),(43,wI)]),(8103,[(5,.X 36 [.I .i64,.I .i64,.T,.L,.I .i64,.I .i64,.I .i64,.L,.B,.I .i64]),(8,.X 93 [.I .i64,.I .u64,.L,.L]),(12,wM),(14,wL),(41,wL),(42,wI),(43,wI)])]⟩
theorem ok : M.Ok := ⟨.cons call49 (.cons call124 (.cons call148 (.cons call156 (.cons call206 (.cons call207 (AG.nil)))))),mixed,func161,by kernel_rfl⟩
def WJ := M.pt 0
def Nn := M.pt 1
theorem start (h : ∀ b5 : Nat,∀ b8 : Nat,Spec prog 206 #[.agg #[.int .i64 Dm,.int .i64 CZ,.string Dp,.slice Dt Dx Dy,.int .i64 Dn,.int .i64 Du,.int .i64 DJ,.slice D3 Dz D4,.bool DK,.int .i64 Cf],.slice p2 n2 c2] σ (AA R (fun z y => ∃ ALn lv,z = (.tuple #[.map ALn,.bool lv]) ∧ Spec prog 206 #[.agg #[.int .i64 Dm,.int .i64 CZ,.string Dp,.slice Dt Dx Dy,.int .i64 Dn,.int .i64 Du,.int .i64 DJ,.slice D3 Dz D4,.bool DK,.int .i64 Cf],.slice p3 n3 c3] y (AA R (fun z AF => ∃ AEh AEi,z = (.tuple #[.map AEh,.bool AEi]) ∧ Bn lv (R (.returned (.tuple #[.agg #[.int .i64 0,.int .u64 0,.slice none 0 0,.slice none 0 0],.int .i64 223])) AF) (Bn AEi (R (.returned (.tuple #[.agg #[.int .i64 0,.int .u64 0,.slice none 0 0,.slice none 0 0],.int .i64 223])) AF) (WJ R Dm CZ Dp Dt Dx Dy Dn Du DJ D3 Dz D4 DK Cf 0 0 none 0 0 none 0 0 AEh none 0 0 p2 n2 c2 (n2 : Int) 0 AF))))))) : Spec prog 161 #[.pointer q0,.agg #[.int .i64 Dm,.int .i64 CZ,.string Dp,.slice Dt Dx Dy,.int .i64 Dn,.int .i64 Du,.int .i64 DJ,.slice D3 Dz D4,.bool DK,.int .i64 Cf],.slice p2 n2 c2,.slice p3 n3 c3] σ R := M.start h ok
theorem Q6 (h : Br (fR < UW) (Pq rL fun kC kD => In fR (n41 : Int) ∧ ∃ zg zh zi zj,Ay σ kC (kD + Int.toNat fR * 2) [.slice zg zh zi,.int .u64 zj] ∧ ∀ Hy : Nat,Spec prog 207 #[.agg #[.int .i64 I7,.int .i64 HQ,.string I8,.slice I9 JA JB,.int .i64 JC,.int .i64 JD,.int .i64 JE,.slice JF JG JH,.bool KB,.int .i64 JI],.slice zg zh zi] σ (AA R (CS fun cL n50 cM y => Spec prog 49 #[.slice cL n50 cM] y (AA R (CT fun s54 AF => AK prog (Instr.lookup 243 (.map m12) (.string s54) true) AF (fun z AH => ∃ AEj AEk AEl wN AEm,z = (.tuple #[.agg #[.slice AEj AEk AEl,.int .u64 wN],.bool AEm]) ∧ ∀ Q7 : Nat,Bn AEm (Nn R I7 HQ I8 I9 JA JB JC JD JE JF JG JH KB JI EH ET E8 E9 FA FE FG FH m12 Jj n14 Hd (aD kC kD) n41 fQ UW fR AH) (Spec prog 156 #[.agg #[.int .i64 I7,.int .i64 HQ,.string I8,.slice I9 JA JB,.int .i64 JC,.int .i64 JD,.int .i64 JE,.slice JF JG JH,.bool KB,.int .i64 JI],.int .u64 zj,.int .u64 wN] AH (AA R (fun z Ac => ∃ zk AEn,z = (.tuple #[.int .u64 zk,.bool AEn]) ∧ Spec prog 124 #[.int .i64 HQ] Ac (AA R (CB fun t72 EF => Bn t72 (Al EF fun wO => AK prog (Builtin.append_ #[67,67] 67 #[.slice Jj n14 Hd,(.slice (aD wO 0) 1 1)]) (Hp.set EF wO (.cells #[.slice cL n50 cM,.int .u64 zk] 71 (0,0))) (CS fun si YE sj Fo => Nn R I7 HQ I8 I9 JA JB JC JD JE JF JG JH KB JI EH ET E8 E9 FA FE FG FH m12 si YE sj (aD kC kD) n41 fQ UW fR Fo)) (Bo KB (Al EF fun wO => AK prog (Builtin.append_ #[67,67] 67 #[.slice Jj n14 Hd,(.slice (aD wO 0) 1 1)]) (Hp.set EF wO (.cells #[.slice cL n50 cM,.int .u64 zk] 71 (0,0))) (CS fun si YE sj Fo => Nn R I7 HQ I8 I9 JA JB JC JD JE JF JG JH true JI EH ET E8 E9 FA FE FG FH m12 si YE sj (aD kC kD) n41 fQ UW fR Fo)) (Bo AEn (Al EF fun b88 => AK prog (Builtin.append_ #[67,67] 67 #[.slice Jj n14 Hd,(.slice (aD b88 0) 1 1)]) (Hp.set EF b88 (.cells #[.slice zg zh zi,.int .u64 zj] 71 (0,0))) (CS fun p89 n89 c89 Fo => Nn R I7 HQ I8 I9 JA JB JC JD JE JF JG JH false JI EH ET E8 E9 FA FE FG FH m12 p89 n89 c89 (aD kC kD) n41 fQ UW fR Fo)) (Nn R I7 HQ I8 I9 JA JB JC JD JE JF JG JH false JI EH ET E8 E9 FA FE FG FH m12 Jj n14 Hd (aD kC kD) n41 fQ UW fR EF)))))))))))))) (Spec prog 148 #[.slice Jj n14 Hd] σ (AA R (fun z y => ∃ wP wR wS wX wY wZ wa wc AEs,z = (.tuple #[.agg #[.int .i64 wP,.int .u64 wR,.slice wS wX wY,.slice wZ wa wc],.int .i64 AEs]) ∧ R (.returned (.tuple #[.agg #[.int .i64 wP,.int .u64 wR,.slice wS wX wY,.slice wZ wa wc],.int .i64 AEs])) y)))) : WJ R I7 HQ I8 I9 JA JB JC JD JE JF JG JH KB JI EH ET E8 E9 FA FE FG FH m12 Jj n14 Hd rL n41 fQ UW fR σ := M.iK h ok rfl fun _ _ => by kernel_rfl
theorem WK (h : AJ (fR + 1) ∧ WJ R I7 HQ I8 I9 JA JB JC JD JE JF JG JH KB JI EH ET E8 E9 FA FE FG FH m12 Jj n14 Hd rL n41 fQ UW (fR + 1) σ) : Nn R I7 HQ I8 I9 JA JB JC JD JE JF JG JH KB JI EH ET E8 E9 FA FE FG FH m12 Jj n14 Hd rL n41 fQ UW fR σ := M.iK h ok rfl fun _ _ => by kernel_rfl
end Av
namespace YL
variable {v0 : Value}
def M : Fw := ⟨prog,181,f181,[],[],false,[],[],[]⟩
theorem ok : M.Ok := ⟨AG.nil,mixed,func181,by kernel_rfl⟩
theorem start (h : EN prog 45 #[v0] σ (CI .u64 fun x4 y => Df (Go.bits .andNot .u64 x4 9223372036854775808) fun x5 => EN prog 22 #[.int .u64 x5] y (fun z AF => ∃ x6,(Value.float .f64 x6) = z ∧ R (.returned (Value.float .f64 x6)) AF))) : Spec prog 181 #[v0] σ R := M.EE h ok [(0,.o (.V v0))] rfl rfl (by kernel_rfl)
end YL
namespace CU
variable {f0 : Fn} {a0 c0 : Array Value}
def M : Fw := ⟨prog,184,f184,[],[],false,[],[],[]⟩
theorem ok : M.Ok := ⟨AG.nil,mixed,func184,by kernel_rfl⟩
theorem start (h : Al σ fun b1 => R (.returned (.func (.func 224) #[] #[(.pointer (aD b1 0))])) (Hp.set σ b1 (.cells #[(Value.func f0 a0 c0)] 201 (0,0)))) : Spec prog 184 #[(Value.func f0 a0 c0)] σ R := M.EE h ok [(0,.o (.V (Value.func f0 a0 c0)))] rfl rfl (by kernel_rfl)
end CU
namespace BU
variable {p0 : Option Addr} {n0 c0 : Nat} {x3 : Int}
def M : Fw := ⟨prog,187,f187,[225],[],false,[],[],[(224,[(0,wL),(3,wI)])]⟩
theorem ok : M.Ok := ⟨.cons call225 (AG.nil),mixed,func187,by kernel_rfl⟩
def ES := M.pt 0
theorem start (h : ES R p0 n0 c0 8 σ) : Spec prog 187 #[.slice p0 n0 c0] σ R := M.start h ok
theorem Af (h : Br ((n0 : Int) < x3) (2 ≠ (0 : Int) ∧ Df (IntKind.i64.wrap (Int.tdiv x3 2)) fun x11 => ES R p0 n0 c0 x11 σ) (AJ ((n0 : Int) - x3) ∧ ((0 : Int) ≤ ((n0 : Int) - x3) ∧ ((n0 : Int) - x3) ≤ (n0 : Int)) ∧ Spec prog 225 #[(.slice (Ir p0 (Int.toNat ((n0 : Int) - x3)) c0 1) (n0 - Int.toNat ((n0 : Int) - x3)) (c0 - Int.toNat ((n0 : Int) - x3)))] σ (AA R (fun z y => ∃ KC O6,z = (.tuple #[.int .u64 KC,.int .i64 O6]) ∧ R (.returned (.int .u64 KC)) y)))) : ES R p0 n0 c0 x3 σ := M.of h ok rfl
end BU
namespace R9
variable {v0 : Value}
def M : Fw := ⟨prog,216,f216,[],[],false,[],[],[]⟩
theorem ok : M.Ok := ⟨AG.nil,mixed,func216,by kernel_rfl⟩
theorem start (h : ∃ t5,YF prog ((do eqGuard .neq 51 (.tmp 3) (.tmp 4) v0 v0; binOp .neq 51 v0 v0)) σ (.bool t5) ∧ R (.returned (.bool t5)) σ) : Spec prog 216 #[v0] σ R := M.EE h ok [(0,.o (.V v0))] rfl rfl (by kernel_rfl)
end R9
namespace JJ
variable {p0 Dt D3 p2 : Option Addr} {n0 c0 Dx Dy Dz D4 n2 c2 b3 : Nat} {Dm CZ Dn Du DJ Cf : Int} {Dp : ByteArray} {DK : Bool}
def M : Fw := ⟨prog,226,f226,[],[5],false,[],[],[]⟩
theorem ok : M.Ok := ⟨AG.nil,mixed,func226,by kernel_rfl⟩
theorem start (h : ∀ b5 : Nat,Br ((n0 : Int) < 2) (R (.returned (.tuple #[.int .u64 0,.bool false])) σ) (∃ v12,Hp.ld σ ⟨b3,0,none⟩ = some v12 ∧ ∃ (f15 : Nat) (we wg : Array Value),v12 = .func (.func f15) we wg ∧ Enters prog f15 ∧ Spec prog f15 (we ++ #[.slice p0 n0 c0,.slice p2 n2 c2] ++ wg) σ (AA R (CI .u64 fun x15 y => R (.returned (.tuple #[.int .u64 x15,.bool true])) y)))) : Spec prog 226 #[.slice p0 n0 c0,.agg #[.int .i64 Dm,.int .i64 CZ,.string Dp,.slice Dt Dx Dy,.int .i64 Dn,.int .i64 Du,.int .i64 DJ,.slice D3 Dz D4,.bool DK,.int .i64 Cf],.slice p2 n2 c2,(.pointer (aD b3 0))] σ R := M.start h ok
end JJ
namespace DL
variable {Pw rU : Option Addr} {Jx OY lz rV : Nat} {s1 : ByteArray} {zl wh : Int}
def M : Fw := ⟨prog,257,f257,[260,285,286],[2],false,[(1,14,true)],[],[(2024,[(1,wT),(64,wL),(65,wI),(66,wI)])]⟩
theorem ok : M.Ok := ⟨.cons call260 (.cons call285 (.cons call286 (AG.nil))),mixed,func257,by kernel_rfl⟩
def MV := M.pt 0
theorem start (h : ∀ b2 : Nat,Pq Pw fun Pr QU => In 0 (Jx : Int) ∧ LT σ Pr QU fun tF => AJ ((Jx : Int) - 1) ∧ In (((Jx : Int) - 1)) (Jx : Int) ∧ LT σ Pr (QU + Int.toNat ((Jx : Int) - 1) * 1) fun zm => Br ((Jx : Int) = 1) (R (.returned (.bool (ByteArray.toList s1 == ByteArray.toList tF))) σ) (AJ (((ByteArray.size tF : Nat) : Int) + ((ByteArray.size zm : Nat) : Int)) ∧ Br ((((ByteArray.size s1 : Nat) : Int) : Int) < (((ByteArray.size tF : Nat) : Int) + ((ByteArray.size zm : Nat) : Int))) (R (.returned (.bool false)) σ) (Spec prog 285 #[.string s1,.string tF] σ (AA R (CB fun t40 y => Bn t40 (R (.returned (.bool false)) y) (Spec prog 286 #[.string s1,.string zm] y (AA R (CB fun t46 AF => Bn t46 (R (.returned (.bool false)) AF) (AJ (((ByteArray.size s1 : Nat) : Int) - ((ByteArray.size zm : Nat) : Int)) ∧ ∃ s57,YF prog (Instr.sliceAt 9 (.string s1) (some (.int .i64 ((ByteArray.size tF : Nat) : Int))) (some (.int .i64 (((ByteArray.size s1 : Nat) : Int) - ((ByteArray.size zm : Nat) : Int)))) none) AF (.string s57) ∧ AJ ((Jx : Int) - 1) ∧ ((0 : Int) ≤ 1 ∧ 1 ≤ ((Jx : Int) - 1) ∧ ((Jx : Int) - 1) ≤ (OY : Int)) ∧ MV R s57 ((Ir (aD Pr QU) (1) OY 1)) ((Int.toNat ((Jx : Int) - 1) - 1)) (OY - 1) ((((Int.toNat ((Jx : Int) - 1) - 1) : Nat) : Int)) 0 AF))))))))) : Spec prog 257 #[.agg #[.slice Pw Jx OY],.string s1] σ R := M.start h ok
theorem JK (h : Br (wh < zl) (Pq rU fun b68 o68 => In wh (lz : Int) ∧ LT σ b68 (o68 + Int.toNat wh * 1) fun s69 => Spec prog 260 #[.string s1,.string s69] σ (AA R (CI .i64 fun rW y => Br (rW < 0) (R (.returned (.bool false)) y) (AJ (rW + ((ByteArray.size s69 : Nat) : Int)) ∧ ∃ s80,YF prog (Instr.sliceAt 9 (.string s1) (some (.int .i64 (rW + ((ByteArray.size s69 : Nat) : Int)))) none none) y (.string s80) ∧ AJ (wh + 1) ∧ MV R s80 (aD b68 o68) lz rV zl (wh + 1) y)))) (R (.returned (.bool true)) σ)) : MV R s1 rU lz rV zl wh σ := M.of h ok rfl
end DL
namespace Em
variable {q0 : Option Addr}
def M : Fw := ⟨prog,298,f298,[66,67,135],[],false,[],[],[(14,[(0,wQ)])]⟩
theorem ok : M.Ok := ⟨.cons call66 (.cons call67 (.cons call135 (AG.nil))),mixed,func298,by kernel_rfl⟩
def ES := M.pt 0
theorem start (h : Spec prog 66 #[.pointer q0] σ (AA R (fun z y => ∃ GJ Fp He x4d,z = (.agg #[.int .i64 GJ,.int .i64 Fp,.string He,.int .i64 x4d]) ∧ Br (GJ ≠ 2) (Spec prog 67 #[.pointer q0] y (AA R (fun z AF => z = (.tuple #[]) ∧ ES R q0 AF))) (ES R q0 y)))) : Spec prog 298 #[.pointer q0] σ R := M.start h ok
theorem Af (h : Spec prog 135 #[.pointer q0] σ (AA R (fun z y => ∃ I5 zn ALq AEu,z = (.agg #[.int .i64 I5,.int .i64 zn,.string ALq,.int .i64 AEu]) ∧ R (.returned (.int .i64 AEu)) y))) : ES R q0 σ := M.of h ok rfl
end Em
end TwW
end
end
section
set_option maxRecDepth 100000
noncomputable section
namespace TwW
open Go Tw Go.Proofs.Tryz
variable [FB] {R : Rr} {σ : Hp}

namespace Fq
variable {s0 : ByteArray} {x3 : Int}
def M : Fw := ⟨prog,19,f19,[42],[],false,[],[],[(208,[(0,wT),(3,wI)])]⟩
theorem ok : M.Ok := ⟨.cons call42 (AG.nil),mixed,func19,by kernel_rfl⟩
def ES := M.pt 0
theorem start (h : ES R s0 0 σ) : Spec prog 19 #[.string s0] σ R := M.start h ok
theorem Af (h : Br (x3 < ((ByteArray.size s0 : Nat) : Int)) (∃ Mf : UInt8,0 ≤ x3 ∧ (ByteArray.data s0)[Int.toNat x3]? = some Mf ∧ Br ((((UInt8.toNat Mf : Nat) : Int) : Int) < 97) (R (.returned (.bool false)) σ) (∃ u17 : UInt8,0 ≤ x3 ∧ (ByteArray.data s0)[Int.toNat x3]? = some u17 ∧ Br ((122 : Int) < ((UInt8.toNat u17 : Nat) : Int)) (R (.returned (.bool false)) σ) (AJ (x3 + 1) ∧ ES R s0 (x3 + 1) σ))) (Bn ((ByteArray.toList s0 == ByteArray.toList (ByteArray.mk #[]))) (Br ((((ByteArray.size s0 : Nat) : Int) : Int) < 60) (Spec prog 42 #[.string s0] σ (AA R (CB fun t29 y => R (.returned (.bool (!t29))) y))) (R (.returned (.bool false)) σ)) (R (.returned (.bool false)) σ))) : ES R s0 x3 σ := M.of h ok rfl
end Fq
namespace Fs
variable {p0 p1 E8 FE : Option Addr} {n0 c0 n1 c1 E9 FA FG FH : Nat} {x2 EH ET x9 : Int}
def M : Fw := ⟨prog,30,f30,[47],[8],false,[],[],[(30,[(8,.X 93 [.I .i64,.I .u64,.L,.L]),(9,wI)])]⟩
theorem ok : M.Ok := ⟨.cons call47 (AG.nil),mixed,func30,by kernel_rfl⟩
def Bh := M.pt 0
theorem start (h : Al σ fun BY => Spec prog 47 #[(.pointer (aD BY 0)),.slice p0 n0 c0] (Hp.set σ BY (.cells #[.slice p1 n1 c1,.int .i64 x2] 97 (0,0))) (AA R (fun z y => ∃ fS fT wj wk wm l5 l6 l7 zo,z = (.tuple #[.agg #[.int .i64 fS,.int .u64 fT,.slice wj wk wm,.slice l5 l6 l7],.int .i64 zo]) ∧ ∀ b8 : Nat,Br (fS = 1) (Al y fun Lv => Bh R fS fT (aD Lv 0) 1 1 l5 l6 l7 zo (Hp.set y Lv (.cells #[.slice none 0 0,.int .u64 fT] 71 (0,0)))) (Bh R fS fT wj wk wm l5 l6 l7 zo y)))) : Spec prog 30 #[.slice p0 n0 c0,.slice p1 n1 c1,.int .i64 x2] σ R := M.start h ok
theorem A3 (h : R (.returned (.tuple #[.slice E8 E9 FA,.int .i64 x9])) σ) : Bh R EH ET E8 E9 FA FE FG FH x9 σ := M.j8 h ok rfl fun _ => by kernel_rfl
end Fs
namespace G6
variable {p0 p1 : Option Addr} {n0 c0 n1 c1 : Nat} {x2 x8 x9 : Int}
def M : Fw := ⟨prog,44,f44,[57],[],false,[],[],[(208,[(0,wL),(1,wL),(2,wI),(8,wI)]),(211,[(0,wL),(1,wL),(2,wI),(8,wI)]),(53840,[(0,wL),(1,wL),(2,wI),(8,wI),(9,wI)])]⟩
theorem ok : M.Ok := ⟨.cons call57 (AG.nil),mixed,func44,by kernel_rfl⟩
def ES := M.pt 0
def YM := M.pt 1
def QT := M.pt 2
theorem start (h : ES R p0 n0 c0 p1 n1 c1 x2 0 σ) : Spec prog 44 #[.slice p0 n0 c0,.slice p1 n1 c1,.int .i64 x2] σ R := M.start h ok
theorem Af (h : Br (x8 < (n0 : Int)) (Pq p0 fun Q7 WL => In x8 (n0 : Int) ∧ LS σ Q7 (WL + Int.toNat x8 * 2) fun p20 n20 c20 => Spec prog 57 #[.slice p20 n20 c20,.slice p1 n1 c1] σ (AA R (CI .i64 fun Is y => Br (Is = 0) (QT R (aD Q7 WL) n0 c0 p1 n1 c1 x2 x8 0 y) (YM R (aD Q7 WL) n0 c0 p1 n1 c1 x2 x8 y)))) (R (.returned (.tuple #[.int .u64 0,.bool false])) σ)) : ES R p0 n0 c0 p1 n1 c1 x2 x8 σ := M.of h ok rfl
theorem WM (h : AJ (x8 + 1) ∧ ES R p0 n0 c0 p1 n1 c1 x2 (x8 + 1) σ) : YM R p0 n0 c0 p1 n1 c1 x2 x8 σ := M.of h ok rfl
theorem MA (h : Pq p0 fun O4 WE => In x8 (n0 : Int) ∧ LS σ O4 ((WE + Int.toNat x8 * 2) + 1) fun p29 n29 c29 => Br (x9 < (n29 : Int)) (In x8 (n0 : Int) ∧ LS σ O4 ((WE + Int.toNat x8 * 2) + 1) fun p38 n38 c38 => Pq p38 fun VE o40 => In x9 (n38 : Int) ∧ LI .i64 σ VE (o40 + Int.toNat x9 * 2) fun UW => Br (UW = x2) (In x8 (n0 : Int) ∧ LS σ O4 ((WE + Int.toNat x8 * 2) + 1) fun p49 n49 c49 => Pq p49 fun b51 o51 => In x9 (n49 : Int) ∧ LI .u64 σ b51 ((o51 + Int.toNat x9 * 2) + 1) fun x53 => R (.returned (.tuple #[.int .u64 x53,.bool true])) σ) (AJ (x9 + 1) ∧ QT R (aD O4 WE) n0 c0 p1 n1 c1 x2 x8 (x9 + 1) σ)) (YM R (aD O4 WE) n0 c0 p1 n1 c1 x2 x8 σ)) : QT R p0 n0 c0 p1 n1 c1 x2 x8 x9 σ := M.of h ok rfl
end G6
namespace No
variable {x0 x1 x2 : Int}
def M : Fw := ⟨prog,48,f48,[],[],false,[],[],[]⟩
theorem ok : M.Ok := ⟨AG.nil,mixed,func48,by kernel_rfl⟩
theorem start (h : Al σ fun b3 => Al (Hp.set σ b3 (.cells #[.int .i64 x0] 2 (0,0))) fun b4 => Al (Hp.set (Hp.set σ b3 (.cells #[.int .i64 x0] 2 (0,0))) b4 (.cells #[.int .i64 x1] 2 (0,0))) fun b5 => R (.returned (.func (.func 71) #[] #[(.pointer (aD b3 0)),(.pointer (aD b5 0)),(.pointer (aD b4 0))])) (Hp.set (Hp.set (Hp.set σ b3 (.cells #[.int .i64 x0] 2 (0,0))) b4 (.cells #[.int .i64 x1] 2 (0,0))) b5 (.cells #[.int .i64 x2] 2 (0,0)))) : Spec prog 48 #[.int .i64 x0,.int .i64 x1,.int .i64 x2] σ R := M.start h ok
end No
namespace Jk
variable {q0 Dt D3 : Option Addr} {Dm CZ Dn Du DJ Cf : Int} {Dp : ByteArray} {Dx Dy Dz D4 : Nat} {DK : Bool}
def M : Fw := ⟨prog,53,f53,[79,80,81],[3],false,[(6,9,true)],[],[]⟩
theorem ok : M.Ok := ⟨.cons call79 (.cons call80 (.cons call81 (AG.nil))),mixed,func53,by kernel_rfl⟩
theorem start (h : ∀ b3 : Nat,Spec prog 79 #[.agg #[.int .i64 Dm,.int .i64 CZ,.string Dp,.slice Dt Dx Dy,.int .i64 Dn,.int .i64 Du,.int .i64 DJ,.slice D3 Dz D4,.bool DK,.int .i64 Cf]] σ (AA R (CB fun t10 y => Bn t10 (R (.returned (.int .i64 190)) y) (Pq q0 fun Hy Nh => LS y Hy Nh fun p18 n18 c18 => Br ((n18 : Int) < Cf) (R (.returned (.int .i64 190)) y) (Spec prog 80 #[.slice Dt Dx Dy] y (AA R (CI .i64 fun IL AF => Br (IL ≠ 0) (R (.returned (.int .i64 193)) AF) (AK prog (Instr.makeMap 150 none) AF (fun z AH => ∃ tG,z = (.map (some tG)) ∧ Spec prog 81 #[.int .i64 1] AH (AA R (fun z Ac => ∃ f27 a27 c27,(Value.func f27 a27 c27) = z ∧ AK prog (Instr.mapUpdate 150 (.map (some tG)) (.int .i64 1) (Value.func f27 a27 c27)) Ac (fun _ EF => Spec prog 81 #[.int .i64 2] EF (AA R (fun z Fo => ∃ f28 a28 zp,(Value.func f28 a28 zp) = z ∧ AK prog (Instr.mapUpdate 150 (.map (some tG)) (.int .i64 2) (Value.func f28 a28 zp)) Fo (fun _ EG => Spec prog 81 #[.int .i64 3] EG (AA R (fun z Jw => ∃ f29 a29 c29,(Value.func f29 a29 c29) = z ∧ AK prog (Instr.mapUpdate 150 (.map (some tG)) (.int .i64 3) (Value.func f29 a29 c29)) Jw (fun _ QV => AK prog (Instr.mapUpdate 150 (.map (some tG)) (.int .i64 4) (.func (.func 82) #[(.pointer (aD Hy Nh))] #[])) QV (fun _ I6 => AK prog (Instr.mapUpdate 150 (.map (some tG)) (.int .i64 5) (.func (.func 83) #[(.pointer (aD Hy Nh))] #[])) I6 (fun _ cK => AK prog (Instr.mapUpdate 150 (.map (some tG)) (.int .i64 6) (.func (.func 84) #[(.pointer (aD Hy Nh))] #[])) cK (fun _ ALr => AK prog (Instr.mapUpdate 150 (.map (some tG)) (.int .i64 7) (.func (.func 85) #[(.pointer (aD Hy Nh))] #[])) ALr (fun _ tH => LS tH Hy Nh fun p42 n42 c42 => AJ ((n42 : Int) - Cf) ∧ LS tH Hy Nh fun p56 n56 c56 => ((0 : Int) ≤ ((n42 : Int) - Cf) ∧ ((n42 : Int) - Cf) ≤ (n56 : Int)) ∧ AK prog (Instr.lookup 150 (.map (some tG)) (.int .i64 Dm) false) tH (fun z AEy => ∃ v51,v51 = z ∧ Kp [Hy] tH AEy ∧ ∃ (f59 : Nat) (wo wq : Array Value),v51 = .func (.func f59) wo wq ∧ Enters prog f59 ∧ Spec prog f59 (wo ++ #[.agg #[.int .i64 Dm,.int .i64 CZ,.string Dp,.slice Dt Dx Dy,.int .i64 Dn,.int .i64 Du,.int .i64 DJ,.slice D3 Dz D4,.bool DK,.int .i64 Cf],(.slice (Ir p56 (Int.toNat ((n42 : Int) - Cf)) c56 1) (n56 - Int.toNat ((n42 : Int) - Cf)) (c56 - Int.toNat ((n42 : Int) - Cf)))] ++ wq) AEy (AA R (fun z cP => ∃ WN Hw,z = (.tuple #[.int .i64 WN,.int .i64 Hw]) ∧ LS cP Hy Nh fun rY l8 fU => ((0 : Int) ≤ ((n42 : Int) - Cf) ∧ ((n42 : Int) - Cf) ≤ (fU : Int)) ∧ Al cP fun WC => AK prog (Builtin.append_ #[108,108] 108 #[(.slice rY (Int.toNat ((n42 : Int) - Cf)) fU),(.slice (aD WC 0) 1 1)]) (Hp.set cP WC (.cells #[.int .i64 WN] 113 (0,0))) (CS fun p72 n72 c72 zq => AK prog (Instr.storeAt 108 (.pointer (aD Hy Nh)) (.slice p72 n72 c72)) zq (fun _ zr => R (.returned (.int .i64 Hw)) zr))))))))))))))))))))))))))) : Spec prog 53 #[.pointer q0,.agg #[.int .i64 Dm,.int .i64 CZ,.string Dp,.slice Dt Dx Dy,.int .i64 Dn,.int .i64 Du,.int .i64 DJ,.slice D3 Dz D4,.bool DK,.int .i64 Cf]] σ R := M.start h ok
end Jk
namespace D5
variable {p0 : Option Addr} {n0 c0 : Nat} {x3 : Int}
def M : Fw := ⟨prog,69,f69,[],[],false,[(4,12,true)],[],[(208,[(0,wL),(3,wI)])]⟩
theorem ok : M.Ok := ⟨AG.nil,mixed,func69,by kernel_rfl⟩
def ES := M.pt 0
theorem start (h : ES R p0 n0 c0 1 σ) : Spec prog 69 #[.slice p0 n0 c0] σ R := M.start h ok
theorem Af (h : Br (x3 < (n0 : Int)) (Pq p0 fun Pr QU => In x3 (n0 : Int) ∧ LI .i64 σ Pr (QU + Int.toNat x3 * 2) fun XK => AJ (x3 - 1) ∧ In (x3 - 1) (n0 : Int) ∧ LI .i64 σ Pr (QU + Int.toNat (x3 - 1) * 2) fun Hv => Br (XK ≤ Hv) (R (.returned (.bool false)) σ) (AJ (x3 + 1) ∧ ES R (aD Pr QU) n0 c0 (x3 + 1) σ)) (R (.returned (.bool (decide (0 < (n0 : Int))))) σ)) : ES R p0 n0 c0 x3 σ := M.of h ok rfl
end D5
namespace SA
variable {s0 s1 : ByteArray}
def M : Fw := ⟨prog,89,f89,[],[],false,[],[],[]⟩
theorem ok : M.Ok := ⟨AG.nil,mixed,func89,by kernel_rfl⟩
theorem start (h : ∃ t8,YF prog ((do eqGuard .lss 9 (.tmp 6) (.tmp 7) (.string s0) (.string s1); binOp .lss 9 (.string s0) (.string s1))) σ (.bool t8) ∧ Bo t8 (R (.returned (.int .i64 (-1))) σ) (∃ t12,YF prog ((do eqGuard .gtr 9 (.tmp 10) (.tmp 11) (.string s0) (.string s1); binOp .gtr 9 (.string s0) (.string s1))) σ (.bool t12) ∧ Bo t12 (R (.returned (.int .i64 1)) σ) (R (.returned (.int .i64 0)) σ))) : Spec prog 89 #[.string s0,.string s1] σ R := M.start h ok
end SA
namespace Hf
variable {s0 : ByteArray} {x1 : Int}
def M : Fw := ⟨prog,130,f130,[169],[],false,[],[],[]⟩
theorem ok : M.Ok := ⟨.cons call169 (AG.nil),mixed,func130,by kernel_rfl⟩
theorem start (h : Spec prog 169 #[.string s0,.int .u8 x1] σ (AA R (CI .i64 fun x7 y => R (.returned (.int .i64 x7)) y))) : Spec prog 130 #[.string s0,.int .u8 x1] σ R := M.start h ok
end Hf
namespace Np
variable {s0 : ByteArray}
def M : Fw := ⟨prog,132,f132,[],[],false,[],[],[]⟩
theorem ok : M.Ok := ⟨AG.nil,mixed,func132,by kernel_rfl⟩
theorem start (h : Br ((1 : Int) < ((ByteArray.size s0 : Nat) : Int)) (∃ u8 : UInt8,(0 : Int) ≤ 0 ∧ (ByteArray.data s0)[Int.toNat 0]? = some u8 ∧ R (.returned (.bool (decide ((((UInt8.toNat u8 : Nat) : Int) : Int) = 48)))) σ) (R (.returned (.bool false)) σ)) : Spec prog 132 #[.string s0] σ R := M.start h ok
end Np
namespace Px
variable {p0 : Option Addr} {n0 c0 : Nat} {x1 x2 : Int}
def M : Fw := ⟨prog,141,f141,[175],[],false,[],[],[]⟩
theorem ok : M.Ok := ⟨.cons call175 (AG.nil),mixed,func141,by kernel_rfl⟩
theorem start (h : Spec prog 175 #[.slice p0 n0 c0,.int .i64 x1,(.func (.func 176) #[] #[])] σ (AA R (fun z y => ∃ Gf ALv,z = (.tuple #[.int .i64 Gf,.bool ALv]) ∧ Spec prog 175 #[.slice p0 n0 c0,.int .i64 x2,(.func (.func 177) #[] #[])] y (AA R (fun z AF => ∃ IN ALw,z = (.tuple #[.int .i64 IN,.bool ALw]) ∧ ((0 : Int) ≤ (if IN < Gf then IN else Gf) ∧ (if IN < Gf then IN else Gf) ≤ IN ∧ IN ≤ (c0 : Int)) ∧ R (.returned (.slice (Ir p0 (Int.toNat (if IN < Gf then IN else Gf)) c0 2) (Int.toNat IN - Int.toNat (if IN < Gf then IN else Gf)) (c0 - Int.toNat (if IN < Gf then IN else Gf)))) AF))))) : Spec prog 141 #[.slice p0 n0 c0,.int .i64 x1,.int .i64 x2] σ R := M.start h ok
end Px
namespace JL
variable {x0 : Int}
def M : Fw := ⟨prog,145,f145,[174,182,183],[],false,[],[],[]⟩
theorem ok : M.Ok := ⟨.cons call174 (.cons call182 (.cons call183 (AG.nil))),mixed,func145,by kernel_rfl⟩
theorem start (h : Spec prog 182 #[.int .u64 x0] σ (AA R (fun z y => ∃ x4,(Value.float .f64 x4) = z ∧ Spec prog 183 #[(Value.float .f64 x4)] y (AA R (fun z AF => ∃ x5,(Value.float .f64 x5) = z ∧ Spec prog 174 #[(Value.float .f64 x5)] AF (AA R (CI .u64 fun x6 AH => R (.returned (.int .u64 x6)) AH))))))) : Spec prog 145 #[.int .u64 x0] σ R := M.start h ok
end JL
namespace A6
variable {q0 Dt D3 p2 I9 JF E8 FE Q8 aZ : Option Addr} {Dm CZ Dn Du DJ Cf I7 HQ JC JD JE JI EH ET x16 x17 : Int} {Dp I8 : ByteArray} {Dx Dy Dz D4 n2 c2 JA JB JG JH E9 FA FG FH n10 Nq n15 WH : Nat} {DK KB : Bool} {v3 : Value}
def M : Fw := ⟨prog,157,f157,[124,146,148],[5,8,12],false,[],[],[(232,[(3,wV),(5,.X 36 [.I .i64,.I .i64,.T,.L,.I .i64,.I .i64,.I .i64,.L,.B,.I .i64]),(8,.X 93 [.I .i64,.I .u64,.L,.L]),(10,wL),(15,wL),(16,wI),(17,wI)]),(935,[(3,wV),(5,.X 36 [.I .i64,.I .i64,.T,.L,.I .i64,.I .i64,.I .i64,.L,.B,.I .i64]),(8,.X 93 [.I .i64,.I .u64,.L,.L]),(10,wL),(15,wL),(16,wI),(17,wI)])]⟩
theorem ok : M.Ok := ⟨.cons call124 (.cons call146 (.cons call148 (AG.nil))),mixed,func157,by kernel_rfl⟩
def BA := M.pt 0
def DV := M.pt 1
theorem start (h : ∀ b5 : Nat,∀ b8 : Nat,BA R v3 Dm CZ Dp Dt Dx Dy Dn Du DJ D3 Dz D4 DK Cf 0 0 none 0 0 none 0 0 none 0 0 p2 n2 c2 (n2 : Int) 0 σ) : Spec prog 157 #[.pointer q0,.agg #[.int .i64 Dm,.int .i64 CZ,.string Dp,.slice Dt Dx Dy,.int .i64 Dn,.int .i64 Du,.int .i64 DJ,.slice D3 Dz D4,.bool DK,.int .i64 Cf],.slice p2 n2 c2,v3] σ R := M.EE h ok [(0,.o (.Q q0)),(1,.G [.I .i64 Dm,.I .i64 CZ,.T Dp,.L Dt Dx Dy,.I .i64 Dn,.I .i64 Du,.I .i64 DJ,.L D3 Dz D4,.B DK,.I .i64 Cf]),(2,.o (.L p2 n2 c2)),(3,.o (.V v3))] rfl rfl (by kernel_rfl)
theorem AZ (h : Br (x17 < x16) (Pq aZ fun Cc XJ => In x17 (n15 : Int) ∧ ∃ tI tJ tK WO,Ay σ Cc (XJ + Int.toNat x17 * 2) [.slice tI tJ tK,.int .u64 WO] ∧ ∀ Pr : Nat,∃ (f25 : Nat) (wu wv : Array Value),v3 = .func (.func f25) wu wv ∧ Enters prog f25 ∧ Spec prog f25 (wu ++ #[.int .u64 WO] ++ wv) σ (AA R (fun z y => ∃ zt lv,z = (.tuple #[.int .u64 zt,.bool lv]) ∧ Spec prog 124 #[.int .i64 HQ] y (AA R (CB fun t31 AF => Bn t31 (Spec prog 146 #[.slice tI tJ tK] AF (AA R (CS fun zu n40 zv AH => Al AH fun fM => AK prog (Builtin.append_ #[67,67] 67 #[.slice Q8 n10 Nq,(.slice (aD fM 0) 1 1)]) (Hp.set AH fM (.cells #[.slice zu n40 zv,.int .u64 zt] 71 (0,0))) (CS fun tL n44 wx Ac => DV R v3 I7 HQ I8 I9 JA JB JC JD JE JF JG JH KB JI EH ET E8 E9 FA FE FG FH tL n44 wx (aD Cc XJ) n15 WH x16 x17 Ac)))) (Bo KB (Spec prog 146 #[.slice tI tJ tK] AF (AA R (CS fun zu n40 zv AH => Al AH fun fM => AK prog (Builtin.append_ #[67,67] 67 #[.slice Q8 n10 Nq,(.slice (aD fM 0) 1 1)]) (Hp.set AH fM (.cells #[.slice zu n40 zv,.int .u64 zt] 71 (0,0))) (CS fun tL n44 wx Ac => DV R v3 I7 HQ I8 I9 JA JB JC JD JE JF JG JH true JI EH ET E8 E9 FA FE FG FH tL n44 wx (aD Cc XJ) n15 WH x16 x17 Ac)))) (Bo lv (Al AF fun Ps => AK prog (Builtin.append_ #[67,67] 67 #[.slice Q8 n10 Nq,(.slice (aD Ps 0) 1 1)]) (Hp.set AF Ps (.cells #[.slice tI tJ tK,.int .u64 WO] 71 (0,0))) (CS fun cL n50 cM AH => DV R v3 I7 HQ I8 I9 JA JB JC JD JE JF JG JH false JI EH ET E8 E9 FA FE FG FH cL n50 cM (aD Cc XJ) n15 WH x16 x17 AH)) (DV R v3 I7 HQ I8 I9 JA JB JC JD JE JF JG JH false JI EH ET E8 E9 FA FE FG FH Q8 n10 Nq (aD Cc XJ) n15 WH x16 x17 AF)))))))) (Spec prog 148 #[.slice Q8 n10 Nq] σ (AA R (fun z y => ∃ YO YQ YR YS YT YU YV YW mA,z = (.tuple #[.agg #[.int .i64 YO,.int .u64 YQ,.slice YR YS YT,.slice YU YV YW],.int .i64 mA]) ∧ R (.returned (.tuple #[.agg #[.int .i64 YO,.int .u64 YQ,.slice YR YS YT,.slice YU YV YW],.int .i64 mA])) y)))) : BA R v3 I7 HQ I8 I9 JA JB JC JD JE JF JG JH KB JI EH ET E8 E9 FA FE FG FH Q8 n10 Nq aZ n15 WH x16 x17 σ := M.iK h ok rfl fun _ _ => by kernel_rfl
theorem Ff (h : AJ (x17 + 1) ∧ BA R v3 I7 HQ I8 I9 JA JB JC JD JE JF JG JH KB JI EH ET E8 E9 FA FE FG FH Q8 n10 Nq aZ n15 WH x16 (x17 + 1) σ) : DV R v3 I7 HQ I8 I9 JA JB JC JD JE JF JG JH KB JI EH ET E8 E9 FA FE FG FH Q8 n10 Nq aZ n15 WH x16 x17 σ := M.iK h ok rfl fun _ _ => by kernel_rfl
end A6
namespace Py
def M : Fw := ⟨prog,178,f178,[],[],false,[],[],[]⟩
theorem ok : M.Ok := ⟨AG.nil,mixed,func178,by kernel_rfl⟩
theorem start (h : Al σ fun b1 => R (.returned (.slice (aD b1 0) 5 5)) (Hp.set σ b1 (.cells #[.nilFunc,(.func (.func 217) #[] #[]),(.func (.func 218) #[] #[]),(.func (.func 219) #[] #[]),(.func (.func 220) #[] #[])] 221 (0,0)))) : Spec prog 178 #[] σ R := M.start h ok
end Py
namespace D6
variable {s0 : ByteArray} {p2 p3 p7 : Option Addr} {n2 c2 n3 c3 n7 c7 : Nat} {x8 x9 : Int}
def M : Fw := ⟨prog,179,f179,[221],[2,3],false,[(5,8,false)],[],[(232,[(2,.X 224 [.L]),(3,.X 224 [.L]),(7,wL),(8,wI),(9,wI)])]⟩
theorem ok : M.Ok := ⟨.cons call221 (AG.nil),mixed,func179,by kernel_rfl⟩
def BA := M.pt 0
theorem start (h : ∀ b2 : Nat,∀ b3 : Nat,Spec prog 221 #[.string s0,(.string (ByteArray.mk #[124]))] σ (AA R (CS fun p7 n7 c7 y => BA R none 0 0 none 0 0 p7 n7 c7 (n7 : Int) 0 y))) : Spec prog 179 #[.string s0] σ R := M.start h ok
theorem AZ (h : Br (x9 < x8) (Pq p7 fun BG kE => In x9 (n7 : Int) ∧ LT σ BG (kE + Int.toNat x9 * 1) fun zw => Spec prog 221 #[.string zw,(.string (ByteArray.mk #[42]))] σ (AA R (CS fun fL n16 YC y => Al y fun Q7 => AK prog (Builtin.append_ #[222,222] 222 #[.slice p3 n3 c3,(.slice (aD Q7 0) 1 1)]) (Hp.set y Q7 (.cells #[.slice fL n16 YC] 257 (0,0))) (CS fun p19 n19 c19 AF => AJ (x9 + 1) ∧ BA R p2 n2 c2 p19 n19 c19 (aD BG kE) n7 c7 x8 (x9 + 1) AF)))) (R (.returned (.agg #[.slice p3 n3 c3])) σ)) : BA R p2 n2 c2 p3 n3 c3 p7 n7 c7 x8 x9 σ := M.iK h ok rfl fun _ _ => by kernel_rfl
end D6
namespace Pz
variable {x0 : Int}
def M : Fw := ⟨prog,186,f186,[174,182],[],false,[],[],[]⟩
theorem ok : M.Ok := ⟨.cons call174 (.cons call182 (AG.nil)),mixed,func186,by kernel_rfl⟩
theorem start (h : Spec prog 182 #[.int .u64 x0] σ (AA R (fun z y => ∃ x4,(Value.float .f64 x4) = z ∧ Spec prog 174 #[(Value.float .f64 x4)] y (AA R (CI .u64 fun x5 AF => R (.returned (.int .u64 x5)) AF))))) : Spec prog 186 #[.int .u64 x0] σ R := M.start h ok
end Pz
namespace YX
variable {x0 x1 : Int}
def M : Fw := ⟨prog,194,f194,[203],[],false,[],[],[]⟩
theorem ok : M.Ok := ⟨.cons call203 (AG.nil),mixed,func194,by kernel_rfl⟩
theorem start (h : Spec prog 203 #[.int .i64 4,.int .u64 x0,.int .u64 x1] σ (AA R (fun z y => ∃ I5 Ry,z = (.tuple #[.int .u64 I5,.bool Ry]) ∧ R (.returned (.int .u64 I5)) y))) : Spec prog 194 #[.int .u64 x0,.int .u64 x1] σ R := M.start h ok
end YX
namespace Mg
variable {Pw p1a : Option Addr} {Jx OY n1a c1a : Nat} {Ej CZ : Int}
def M : Fw := ⟨prog,196,f196,[52],[2,3],false,[],[],[]⟩
theorem ok : M.Ok := ⟨.cons call52 (AG.nil),mixed,func196,by kernel_rfl⟩
theorem start (h : ∀ b2 : Nat,∀ b3 : Nat,Spec prog 52 #[.slice Pw Jx OY,.slice p1a n1a c1a] σ (AA R (CI .i64 fun x9 y => R (.returned (.int .i64 x9)) y))) : Spec prog 196 #[.agg #[.slice Pw Jx OY,.int .u64 Ej],.agg #[.slice p1a n1a c1a,.int .u64 CZ]] σ R := M.start h ok
end Mg
namespace En
variable {p0 : Option Addr} {n0 c0 : Nat} {s1 : ByteArray}
def M : Fw := ⟨prog,199,f199,[228],[],false,[],[],[]⟩
theorem ok : M.Ok := ⟨.cons call228 (AG.nil),mixed,func199,by kernel_rfl⟩
theorem start (h : Spec prog 228 #[.slice p0 n0 c0,.string s1] σ (AA R (CI .i64 fun x7 y => R (.returned (.bool (decide (0 ≤ x7)))) y))) : Spec prog 199 #[.slice p0 n0 c0,.string s1] σ R := M.start h ok
end En
namespace FU
variable {x0 x5 x15 x16 : Int} {p1 Jj : Option Addr} {n1 c1 n14 Hd : Nat}
def M : Fw := ⟨prog,202,f202,[186,204,229],[],false,[],[],[(232,[(0,wI),(5,wU),(14,wL),(15,wI),(16,wI)]),(935,[(0,wI),(5,wU),(14,wL),(15,wI),(16,wI)])]⟩
theorem ok : M.Ok := ⟨.cons call186 (.cons call204 (.cons call229 (AG.nil))),mixed,func202,by kernel_rfl⟩
def BA := M.pt 0
def mB := M.pt 1
theorem start (h : Pq p1 fun BG kE => In 0 (n1 : Int) ∧ LI .u64 σ BG kE fun x12 => ((0 : Int) ≤ 1 ∧ 1 ≤ (n1 : Int)) ∧ BA R x0 x12 ((Ir (aD BG kE) (1) c1 1)) (n1 - 1) (c1 - 1) ((((n1 - 1) : Nat) : Int)) 0 σ) : Spec prog 202 #[.int .i64 x0,.slice p1 n1 c1] σ R := M.start h ok
theorem AZ (h : Br (x16 < x15) (Pq Jj fun Q7 WL => In x16 (n14 : Int) ∧ LI .u64 σ Q7 (WL + Int.toNat x16 * 1) fun DU => Spec prog 204 #[.int .i64 x0,.int .u64 DU,.int .u64 x5] σ (AA R (fun z y => ∃ AE4 ALx,z = (.tuple #[.bool AE4,.bool ALx]) ∧ Bo AE4 (mB R x0 DU (aD Q7 WL) n14 Hd x15 x16 y) (Spec prog 229 #[.int .u64 x5] y (AA R (CB fun t30 AF => Bo t30 (mB R x0 DU (aD Q7 WL) n14 Hd x15 x16 AF) (mB R x0 x5 (aD Q7 WL) n14 Hd x15 x16 AF))))))) (Spec prog 186 #[.int .u64 x5] σ (AA R (CI .u64 fun Q9 y => R (.returned (.int .u64 Q9)) y)))) : BA R x0 x5 Jj n14 Hd x15 x16 σ := M.of h ok rfl
theorem tM (h : AJ (x16 + 1) ∧ BA R x0 x5 Jj n14 Hd x15 (x16 + 1) σ) : mB R x0 x5 Jj n14 Hd x15 x16 σ := M.of h ok rfl
end FU
namespace YY
variable {x0 : Int}
def M : Fw := ⟨prog,229,f229,[186],[],false,[],[],[]⟩
theorem ok : M.Ok := ⟨.cons call186 (AG.nil),mixed,func229,by kernel_rfl⟩
theorem start (h : Spec prog 186 #[.int .u64 x0] σ (AA R (CI .u64 fun x4 y => R (.returned (.bool (decide (x4 = 9221120237041090560)))) y))) : Spec prog 229 #[.int .u64 x0] σ R := M.start h ok
end YY
namespace Bd
variable {Pw p8 : Option Addr} {Jx OY n8 c8 : Nat} {s1 : ByteArray} {x9 x10 : Int}
def M : Fw := ⟨prog,236,f236,[257],[2,6],false,[],[],[(104,[(1,wT),(8,wL),(9,wI),(10,wI)])]⟩
theorem ok : M.Ok := ⟨.cons call257 (AG.nil),mixed,func236,by kernel_rfl⟩
def Hz := M.pt 0
theorem start (h : ∀ b2 : Nat,Hz R s1 Pw Jx OY (Jx : Int) 0 σ) : Spec prog 236 #[.agg #[.slice Pw Jx OY],.string s1] σ R := M.start h ok
theorem Bl (h : Br (x10 < x9) (Pq p8 fun Pr QU => In x10 (n8 : Int) ∧ ∃ mC mD mE,Ay σ Pr (QU + Int.toNat x10 * 1) [.slice mC mD mE] ∧ ∀ b6 : Nat,Spec prog 257 #[.agg #[.slice mC mD mE],.string s1] σ (AA R (CB fun t16 y => Bo t16 (R (.returned (.bool true)) y) (AJ (x10 + 1) ∧ Hz R s1 (aD Pr QU) n8 c8 x9 (x10 + 1) y)))) (R (.returned (.bool false)) σ)) : Hz R s1 p8 n8 c8 x9 x10 σ := M.of h ok rfl
end Bd
namespace EU
variable {s0 : ByteArray} {x3 x8 x9 x16 : Int} {v4 v2 : Value} {t11 : Bool}
def M : Fw := ⟨prog,253,f253,[271,272,273,278,279,280,282,283],[],false,[],[],[(254,[(0,wT),(3,wI),(4,wV)]),(8190,[(2,wV),(3,wI),(4,wV)]),(32446,[(0,wT),(3,wI),(4,wV),(8,wU),(9,wI),(11,wB),(16,wU)])]⟩
theorem ok : M.Ok := ⟨.cons call271 (.cons call272 (.cons call273 (.cons call278 (.cons call279 (.cons call280 (.cons call282 (.cons call283 (AG.nil)))))))),mixed,func253,by kernel_rfl⟩
def ALy := M.pt 0
def AE5 := M.pt 2
theorem start (h : Spec prog 271 #[.string s0] σ (AA R (fun z y => ∃ AE6 SB AE7,z = (.tuple #[AE6,.int .i64 SB,.bool AE7]) ∧ Bo AE7 (R (.returned (.tuple #[AE6,.int .i64 SB,.nilIface])) y) (Spec prog 272 #[.string s0] y (AA R (fun z AF => ∃ iZ cQ tN zx AE8 SC AE9,z = (.tuple #[.int .u64 iZ,.int .i64 cQ,.bool tN,.bool zx,.bool AE8,.int .i64 SC,.bool AE9]) ∧ Bn AE9 (R (.returned (.tuple #[.float .f64 0,.int .i64 SC,(.iface 264 (.int .i64 2))])) AF) (Bo AE8 (∃ s53,YF prog (Instr.sliceAt 9 (.string s0) none (some (.int .i64 SC)) none) AF (.string s53) ∧ Spec prog 273 #[.string s53,(.pointer (aD 6 0)),.int .u64 iZ,.int .i64 cQ,.bool tN,.bool zx] AF (AA R (fun z AH => ∃ AFA AFB,z = (.tuple #[AFA,AFB]) ∧ R (.returned (.tuple #[AFA,.int .i64 SC,AFB])) AH))) (LB AF 5 0 fun t64 => Bo t64 (Spec prog 280 #[.bool tN] AF (AA R (CI .u64 fun wh AH => ((0 : Int) ≤ 63 ∧ 63 ≤ ((IntKind.bits .u64 : Nat) : Int)) ∧ Df (IntKind.u64.wrap (wh * 2 ^ Int.toNat 63)) fun cR => Br (iZ = 0) (Df (Go.bits .or .u64 cR 0) fun wy => EN prog 281 #[.int .u64 wy] AH (fun z Ac => ∃ rW,(Value.float .f64 rW) = z ∧ R (.returned (.tuple #[(Value.float .f64 rW),.int .i64 SC,.nilIface])) Ac)) (Br (310 < cQ) (Df (Go.bits .or .u64 cR 9218868437227405312) fun x77 => EN prog 281 #[.int .u64 x77] AH (fun z Ac => ∃ x78,(Value.float .f64 x78) = z ∧ R (.returned (.tuple #[(Value.float .f64 x78),.int .i64 SC,(.iface 264 (.int .i64 1))])) Ac)) (Br (cQ < (-345)) (Df (Go.bits .or .u64 cR 0) fun x84 => EN prog 281 #[.int .u64 x84] AH (fun z Ac => ∃ x85,(Value.float .f64 x85) = z ∧ R (.returned (.tuple #[(Value.float .f64 x85),.int .i64 SC,.nilIface])) Ac)) (Bn zx (Spec prog 282 #[.int .u64 iZ,.int .i64 cQ,.bool tN] AH (AA R (fun z Ac => ∃ AFC AFD,z = (.tuple #[AFC,.bool AFD]) ∧ Bo AFD (R (.returned (.tuple #[AFC,.int .i64 SC,.nilIface])) Ac) (AE5 R s0 SC .nilIface iZ cQ false cR Ac)))) (AE5 R s0 SC .nilIface iZ cQ true cR AH))))))) (ALy R s0 SC .nilIface AF))))))))) : Spec prog 253 #[.string s0] σ R := M.start h ok
end EU
namespace Aj
variable {s0 : ByteArray} {x5 x6 x12 x7 : Int} {t13 t16 t19 : Bool}
def M : Fw := ⟨prog,271,f271,[299,300,301],[],false,[],[],[(128001,[(0,wT),(5,wI),(6,wI),(12,w8),(13,wB)]),(256005,[(0,wT),(5,wI),(6,wI),(12,w8),(16,wB)]),(8004,[(0,wT),(5,wI),(6,wI)]),(256007,[(0,wT),(19,wB)]),(126,[]),(32022,[(5,wI),(6,wI),(7,wI)]),(32006,[(0,wT),(5,wI)])]⟩
theorem ok : M.Ok := ⟨.cons call299 (.cons call300 (.cons call301 (AG.nil))),mixed,func271,by kernel_rfl⟩
def FV := M.pt 0
def zy := M.pt 1
def ALz := M.pt 2
def YZ := M.pt 3
def zz := M.pt 4
def AFE := M.pt 6
theorem start (h : Br ((((ByteArray.size s0 : Nat) : Int) : Int) = 0) (R (.returned (.tuple #[.float .f64 0,.int .i64 0,.bool false])) σ) (∃ Mf : UInt8,(0 : Int) ≤ 0 ∧ (ByteArray.data s0)[Int.toNat 0]? = some Mf ∧ Br ((((UInt8.toNat Mf : Nat) : Int) : Int) = 43) (FV R s0 1 0 (((UInt8.toNat Mf : Nat) : Int)) true σ) (FV R s0 1 0 (((UInt8.toNat Mf : Nat) : Int)) ((decide ((((UInt8.toNat Mf : Nat) : Int) : Int) = 45))) σ))) : Spec prog 271 #[.string s0] σ R := M.start h ok
theorem WQ (h : Bo t13 (∃ u23 : UInt8,(0 : Int) ≤ 0 ∧ (ByteArray.data s0)[Int.toNat 0]? = some u23 ∧ Br ((((UInt8.toNat u23 : Nat) : Int) : Int) = 45) (AFE R s0 (-1) σ) (AFE R s0 x5 σ)) (Br (x12 = 105) (zy R s0 x5 x6 x12 true σ) (zy R s0 x5 x6 x12 ((decide (x12 = 73))) σ))) : FV R s0 x5 x6 x12 t13 σ := M.of h ok rfl
theorem tO (h : Bo t16 (ALz R s0 x5 x6 σ) (Br (x12 = 110) (YZ R s0 true σ) (YZ R s0 ((decide (x12 = 78))) σ))) : zy R s0 x5 x6 x12 t16 σ := M.of h ok rfl
theorem WR (h : Bo t19 (Spec prog 299 #[.string s0,(.string (ByteArray.mk #[110,97,110]))] σ (AA R (CI .i64 fun mF y => Br (mF = 3) (Spec prog 301 #[] y (AA R (fun z AF => ∃ Rp,(Value.float .f64 Rp) = z ∧ R (.returned (.tuple #[(Value.float .f64 Rp),.int .i64 3,.bool true])) AF))) (zz R y)))) (zz R σ)) : YZ R s0 t19 σ := M.of h ok rfl
theorem tP (h : R (.returned (.tuple #[.float .f64 0,.int .i64 0,.bool false])) σ) : zz R  σ := M.of h ok rfl
end Aj
namespace CV
variable {t0 : Bool}
def M : Fw := ⟨prog,280,f280,[],[],false,[],[],[]⟩
theorem ok : M.Ok := ⟨AG.nil,mixed,func280,by kernel_rfl⟩
theorem start (h : Bo t0 (R (.returned (.int .u64 1)) σ) (R (.returned (.int .u64 0)) σ)) : Spec prog 280 #[.bool t0] σ R := M.start h ok
end CV
namespace Hg
variable {s0 s1 : ByteArray}
def M : Fw := ⟨prog,286,f286,[316],[],false,[],[],[]⟩
theorem ok : M.Ok := ⟨.cons call316 (AG.nil),mixed,func286,by kernel_rfl⟩
theorem start (h : Spec prog 316 #[.string s0,.string s1] σ (AA R (CB fun t7 y => R (.returned (.bool t7)) y))) : Spec prog 286 #[.string s0,.string s1] σ R := M.start h ok
end Hg
namespace CH
variable {s0 s1 : ByteArray}
def M : Fw := ⟨prog,316,f316,[],[],false,[],[],[]⟩
theorem ok : M.Ok := ⟨AG.nil,mixed,func316,by kernel_rfl⟩
theorem start (h : Br ((((ByteArray.size s1 : Nat) : Int) : Int) ≤ ((ByteArray.size s0 : Nat) : Int)) (AJ (((ByteArray.size s0 : Nat) : Int) - ((ByteArray.size s1 : Nat) : Int)) ∧ ∃ s17,YF prog (Instr.sliceAt 9 (.string s0) (some (.int .i64 (((ByteArray.size s0 : Nat) : Int) - ((ByteArray.size s1 : Nat) : Int)))) none none) σ (.string s17) ∧ R (.returned (.bool (ByteArray.toList s17 == ByteArray.toList s1))) σ) (R (.returned (.bool false)) σ)) : Spec prog 316 #[.string s0,.string s1] σ R := M.start h ok
end CH
end TwW
end
end
section
set_option maxRecDepth 100000
noncomputable section
namespace TwW
open Go Tw Go.Proofs.Tryz
variable [FB] {R : Rr} {σ : Hp}

namespace DW
variable {p0 p1 Ly p33 : Option Addr} {n0 c0 n1 c1 n11 Lz n33 c33 : Nat} {x2 kF Q9 : Int}
def M : Fw := ⟨prog,11,f11,[28,29,30],[13],false,[],[],[(4072,[(2,wI),(11,wL),(33,wL),(34,wI),(35,wI)])]⟩
theorem ok : M.Ok := ⟨.cons call28 (.cons call29 (.cons call30 (AG.nil))),mixed,func11,by kernel_rfl⟩
def QY := M.pt 0
theorem start (h : Spec prog 28 #[.slice p0 n0 c0,.slice p1 n1 c1] σ (AA R (CI .i64 fun x16 y => Br (x16 ≠ 0) (R (.returned (.tuple #[.slice none 0 0,.int .i64 x16])) y) (Spec prog 29 #[.int .i64 x2] y (AA R (CB fun t21 AF => Bn t21 (R (.returned (.tuple #[.slice none 0 0,.int .i64 221])) AF) (Spec prog 30 #[.slice p0 n0 c0,.slice p1 n1 c1,.int .i64 x2] AF (AA R (fun z AH => ∃ M7 MW M8 Ya,z = (.tuple #[.slice M7 MW M8,.int .i64 Ya]) ∧ Br (Ya ≠ 0) (R (.returned (.tuple #[.slice none 0 0,.int .i64 Ya])) AH) (QY R x2 none 0 0 M7 MW M8 (MW : Int) 0 AH)))))))))) : Spec prog 11 #[.slice p0 n0 c0,.slice p1 n1 c1,.int .i64 x2] σ R := M.start h ok
theorem RA (h : Br (Q9 < kF) (Pq p33 fun b37 o37 => In Q9 (n33 : Int) ∧ ∃ tQ tR tS HR,Ay σ b37 (o37 + Int.toNat Q9 * 2) [.slice tQ tR tS,.int .u64 HR] ∧ ∀ Cn : Nat,(Al σ fun VE => (AK prog (Builtin.append_ #[37,37] 37 #[(.slice (aD VE 0) 0 0),.slice tQ tR tS]) (Hp.set σ VE (.cells #[] 56 (0,0))) (CS fun kG n43 kH y => Al y fun QZ => Al (Hp.set y QZ (.cells #[.int .i64 x2,.int .u64 HR] 50 (0,0))) fun WS => AK prog (Builtin.append_ #[23,23] 23 #[.slice Ly n11 Lz,(.slice (aD WS 0) 1 1)]) (Hp.set (Hp.set y QZ (.cells #[.int .i64 x2,.int .u64 HR] 50 (0,0))) WS (.cells #[.slice kG n43 kH,(.slice (aD QZ 0) 1 1)] 40 (0,0))) (CS fun p51 n51 c51 AF => AJ (Q9 + 1) ∧ QY R x2 p51 n51 c51 (aD b37 o37) n33 c33 kF (Q9 + 1) AF))) ∧ (Al (Hp.set σ VE (.cells #[] 56 (0,0))) fun QZ => AK prog (Builtin.append_ #[37,37] 37 #[(.slice (aD VE 0) 0 0),.slice tQ tR tS]) (Hp.set (Hp.set σ VE (.cells #[] 56 (0,0))) QZ (.cells #[.int .i64 x2,.int .u64 HR] 50 (0,0))) (CS fun kG n43 kH y => Al y fun WS => AK prog (Builtin.append_ #[23,23] 23 #[.slice Ly n11 Lz,(.slice (aD WS 0) 1 1)]) (Hp.set y WS (.cells #[.slice kG n43 kH,(.slice (aD QZ 0) 1 1)] 40 (0,0))) (CS fun p51 n51 c51 AF => AJ (Q9 + 1) ∧ QY R x2 p51 n51 c51 (aD b37 o37) n33 c33 kF (Q9 + 1) AF)))) ∧ (Al σ fun QZ => Al (Hp.set σ QZ (.cells #[.int .i64 x2,.int .u64 HR] 50 (0,0))) fun VE => AK prog (Builtin.append_ #[37,37] 37 #[(.slice (aD VE 0) 0 0),.slice tQ tR tS]) (Hp.set (Hp.set σ QZ (.cells #[.int .i64 x2,.int .u64 HR] 50 (0,0))) VE (.cells #[] 56 (0,0))) (CS fun kG n43 kH y => Al y fun WS => AK prog (Builtin.append_ #[23,23] 23 #[.slice Ly n11 Lz,(.slice (aD WS 0) 1 1)]) (Hp.set y WS (.cells #[.slice kG n43 kH,(.slice (aD QZ 0) 1 1)] 40 (0,0))) (CS fun p51 n51 c51 AF => AJ (Q9 + 1) ∧ QY R x2 p51 n51 c51 (aD b37 o37) n33 c33 kF (Q9 + 1) AF)))) (R (.returned (.tuple #[.slice Ly n11 Lz,.int .i64 0])) σ)) : QY R x2 Ly n11 Lz p33 n33 c33 kF Q9 σ := M.of h ok rfl
end DW
namespace CW
variable {p0 p6 : Option Addr} {n0 c0 n6 c6 : Nat} {x4 x7 : Int}
def M : Fw := ⟨prog,17,f17,[39,40],[],false,[],[],[(208,[(0,wL),(4,wI)]),(976,[(0,wL),(6,wL),(7,wI)])]⟩
theorem ok : M.Ok := ⟨.cons call39 (.cons call40 (AG.nil)),mixed,func17,by kernel_rfl⟩
def ES := M.pt 0
def AAA := M.pt 1
theorem start (h : ES R p0 n0 c0 0 σ) : Spec prog 17 #[.slice p0 n0 c0] σ R := M.start h ok
theorem Af (h : Br (x4 < (n0 : Int)) (Pq p0 fun Hy Nh => In x4 (n0 : Int) ∧ LS σ Hy (Nh + Int.toNat x4 * 1) fun p17 n17 c17 => Spec prog 39 #[.slice p17 n17 c17] σ (AA R (CI .i64 fun SD y => Br (SD ≠ 0) (R (.returned (.tuple #[.slice none 0 0,.int .i64 SD])) y) (AJ (x4 + 1) ∧ ES R (aD Hy Nh) n0 c0 (x4 + 1) y)))) (AAA R p0 n0 c0 none 0 0 0 σ)) : ES R p0 n0 c0 x4 σ := M.of h ok rfl
theorem WT (h : Br (x7 < (n0 : Int)) (Pq p0 fun b31 o31 => In x7 (n0 : Int) ∧ LS σ b31 (o31 + Int.toNat x7 * 1) fun p32 n32 c32 => Spec prog 40 #[.slice p6 n6 c6,.slice p32 n32 c32] σ (AA R (CS fun p33 n33 c33 y => AJ (x7 + 1) ∧ AAA R (aD b31 o31) n0 c0 p33 n33 c33 (x7 + 1) y))) (R (.returned (.tuple #[.slice p6 n6 c6,.int .i64 0])) σ)) : AAA R p0 n0 c0 p6 n6 c6 x7 σ := M.of h ok rfl
end CW
namespace SE
variable {s0 : ByteArray}
def M : Fw := ⟨prog,42,f42,[60,61,62],[],false,[],[],[]⟩
theorem ok : M.Ok := ⟨.cons call60 (.cons call61 (.cons call62 (AG.nil))),mixed,func42,by kernel_rfl⟩
theorem start (h : Spec prog 61 #[] σ (AA R (CS fun p3 n3 c3 y => Spec prog 60 #[.slice p3 n3 c3,.string s0] y (AA R (CI .i64 fun x5 AF => Br (0 ≤ x5) (R (.returned (.bool true)) AF) (Spec prog 62 #[] AF (AA R (CS fun p8 n8 c8 AH => Spec prog 60 #[.slice p8 n8 c8,.string s0] AH (AA R (CI .i64 fun x10 Ac => Br (0 ≤ x10) (R (.returned (.bool true)) Ac) (Al Ac fun BY => Spec prog 60 #[(.slice (aD BY 0) 9 9),.string s0] (Hp.set Ac BY (.cells #[(.string (ByteArray.mk #[111,114])),(.string (ByteArray.mk #[97,110,100])),(.string (ByteArray.mk #[117,110,108,101,115,115])),(.string (ByteArray.mk #[98,111,111,108])),(.string (ByteArray.mk #[111,110])),(.string (ByteArray.mk #[105,103,110,111,114,105,110,103])),(.string (ByteArray.mk #[98,121])),(.string (ByteArray.mk #[119,105,116,104,111,117,116])),(.string (ByteArray.mk #[111,102,102,115,101,116]))] 9 (0,0))) (AA R (CI .i64 fun x16 EF => R (.returned (.bool (decide (0 ≤ x16)))) EF))))))))))))) : Spec prog 42 #[.string s0] σ R := M.start h ok
end SE
namespace CJ
variable {q0 p1 p4c Gq p6 p7 Jj : Option Addr} {n1 c1 n4c c4c Gr Gs n6 c6 n7 c7 n14 Hd : Nat} {GJ Fp x15 x16 : Int}
def M : Fw := ⟨prog,47,f47,[70],[4,9],false,[],[],[(488,[(0,wQ),(4,.X 93 [.I .i64,.I .u64,.L,.L]),(6,wL),(7,wL),(14,wL),(15,wI),(16,wI)])]⟩
theorem ok : M.Ok := ⟨.cons call70 (AG.nil),mixed,func47,by kernel_rfl⟩
def FI := M.pt 0
theorem start (h : ∀ b4 : Nat,Spec prog 70 #[] σ (AA R (CS fun p13 n13 c13 y => FI R q0 0 0 none 0 0 none 0 0 p13 n13 c13 none 0 0 p1 n1 c1 (n1 : Int) 0 y))) : Spec prog 47 #[.pointer q0,.slice p1 n1 c1] σ R := M.start h ok
theorem Fg (h : Br (x16 < x15) (Pq Jj fun Q7 WL => In x16 (n14 : Int) ∧ ∃ KC O6 WI mG mH mI mJ mK mL mM mN mO mP Eo,Ay σ Q7 (WL + Int.toNat x16 * 10) [.int .i64 KC,.int .i64 O6,.string WI,.slice mG mH mI,.int .i64 mJ,.int .i64 mK,.int .i64 mL,.slice mM mN mO,.bool mP,.int .i64 Eo] ∧ ∀ b9 : Nat,AJ ((n7 : Int) - Eo) ∧ Pq p6 fun Yb fV => In KC (n6 : Int) ∧ ∃ v30,Hp.ld σ ⟨Yb,(fV + Int.toNat KC * 1),none⟩ = some v30 ∧ ((0 : Int) ≤ ((n7 : Int) - Eo) ∧ ((n7 : Int) - Eo) ≤ (n7 : Int)) ∧ (Al σ fun fW => (AK prog (Builtin.append_ #[136,136] 136 #[(.slice (aD fW 0) 0 0),(.slice (Ir p7 (Int.toNat ((n7 : Int) - Eo)) c7 4) (n7 - Int.toNat ((n7 : Int) - Eo)) (c7 - Int.toNat ((n7 : Int) - Eo)))]) (Hp.set σ fW (.cells #[] 93 (0,0))) (CS fun VF n37 VH y => Kp [Yb] (Hp.set σ fW (.cells #[] 93 (0,0))) y ∧ (∃ (f38 : Nat) (Hh Hi : Array Value),v30 = .func (.func f38) Hh Hi ∧ Enters prog f38 ∧ Spec prog f38 (Hh ++ #[.pointer q0,.agg #[.int .i64 KC,.int .i64 O6,.string WI,.slice mG mH mI,.int .i64 mJ,.int .i64 mK,.int .i64 mL,.slice mM mN mO,.bool mP,.int .i64 Eo],.slice VF n37 VH] ++ Hi) y (AA R (fun z AF => ∃ KD KE KF KG KH KI KJ KK HR,z = (.tuple #[.agg #[.int .i64 KD,.int .u64 KE,.slice KF KG KH,.slice KI KJ KK],.int .i64 HR]) ∧ Al AF fun BG => AK prog (Instr.storeAt 93 (.pointer (aD BG 0)) (.agg #[.int .i64 KD,.int .u64 KE,.slice KF KG KH,.slice KI KJ KK])) (Hp.set AF BG (.cells #[.int .i64 0,.int .u64 0,.slice none 0 0,.slice none 0 0] 93 (0,0))) (fun _ AH => Br (HR ≠ 0) (R (.returned (.tuple #[.agg #[.int .i64 0,.int .u64 0,.slice none 0 0,.slice none 0 0],.int .i64 HR])) AH) (((0 : Int) ≤ ((n7 : Int) - Eo) ∧ ((n7 : Int) - Eo) ≤ (c7 : Int)) ∧ ∃ Nr Ns Nt Nu Nv Nw Nx Ny,Ay AH BG 0 [.int .i64 Nr,.int .u64 Ns,.slice Nt Nu Nv,.slice Nw Nx Ny] ∧ Al AH fun Ps => AK prog (Builtin.append_ #[136,136] 136 #[(.slice p7 (Int.toNat ((n7 : Int) - Eo)) c7),(.slice (aD Ps 0) 1 1)]) (Hp.set AH Ps (.cells #[.int .i64 Nr,.int .u64 Ns,.slice Nt Nu Nv,.slice Nw Nx Ny] 93 (0,0))) (CS fun cL n50 cM Ac => AJ (x16 + 1) ∧ FI R q0 GJ Fp p4c n4c c4c Gq Gr Gs (aD Yb fV) n6 c6 cL n50 cM (aD Q7 WL) n14 Hd x15 (x16 + 1) Ac)))))) ∧ (Al y fun BG => ∃ (f38 : Nat) (Hh Hi : Array Value),v30 = .func (.func f38) Hh Hi ∧ Enters prog f38 ∧ Spec prog f38 (Hh ++ #[.pointer q0,.agg #[.int .i64 KC,.int .i64 O6,.string WI,.slice mG mH mI,.int .i64 mJ,.int .i64 mK,.int .i64 mL,.slice mM mN mO,.bool mP,.int .i64 Eo],.slice VF n37 VH] ++ Hi) (Hp.set y BG (.cells #[.int .i64 0,.int .u64 0,.slice none 0 0,.slice none 0 0] 93 (0,0))) (AA R (fun z AF => ∃ KD KE KF KG KH KI KJ KK HR,z = (.tuple #[.agg #[.int .i64 KD,.int .u64 KE,.slice KF KG KH,.slice KI KJ KK],.int .i64 HR]) ∧ AK prog (Instr.storeAt 93 (.pointer (aD BG 0)) (.agg #[.int .i64 KD,.int .u64 KE,.slice KF KG KH,.slice KI KJ KK])) AF (fun _ AH => Br (HR ≠ 0) (R (.returned (.tuple #[.agg #[.int .i64 0,.int .u64 0,.slice none 0 0,.slice none 0 0],.int .i64 HR])) AH) (((0 : Int) ≤ ((n7 : Int) - Eo) ∧ ((n7 : Int) - Eo) ≤ (c7 : Int)) ∧ ∃ Nr Ns Nt Nu Nv Nw Nx Ny,Ay AH BG 0 [.int .i64 Nr,.int .u64 Ns,.slice Nt Nu Nv,.slice Nw Nx Ny] ∧ Al AH fun Ps => AK prog (Builtin.append_ #[136,136] 136 #[(.slice p7 (Int.toNat ((n7 : Int) - Eo)) c7),(.slice (aD Ps 0) 1 1)]) (Hp.set AH Ps (.cells #[.int .i64 Nr,.int .u64 Ns,.slice Nt Nu Nv,.slice Nw Nx Ny] 93 (0,0))) (CS fun cL n50 cM Ac => AJ (x16 + 1) ∧ FI R q0 GJ Fp p4c n4c c4c Gq Gr Gs (aD Yb fV) n6 c6 cL n50 cM (aD Q7 WL) n14 Hd x15 (x16 + 1) Ac)))))))) ∧ (Al (Hp.set σ fW (.cells #[] 93 (0,0))) fun BG => AK prog (Builtin.append_ #[136,136] 136 #[(.slice (aD fW 0) 0 0),(.slice (Ir p7 (Int.toNat ((n7 : Int) - Eo)) c7 4) (n7 - Int.toNat ((n7 : Int) - Eo)) (c7 - Int.toNat ((n7 : Int) - Eo)))]) (Hp.set (Hp.set σ fW (.cells #[] 93 (0,0))) BG (.cells #[.int .i64 0,.int .u64 0,.slice none 0 0,.slice none 0 0] 93 (0,0))) (CS fun VF n37 VH y => Kp [Yb] (Hp.set (Hp.set σ fW (.cells #[] 93 (0,0))) BG (.cells #[.int .i64 0,.int .u64 0,.slice none 0 0,.slice none 0 0] 93 (0,0))) y ∧ ∃ (f38 : Nat) (Hh Hi : Array Value),v30 = .func (.func f38) Hh Hi ∧ Enters prog f38 ∧ Spec prog f38 (Hh ++ #[.pointer q0,.agg #[.int .i64 KC,.int .i64 O6,.string WI,.slice mG mH mI,.int .i64 mJ,.int .i64 mK,.int .i64 mL,.slice mM mN mO,.bool mP,.int .i64 Eo],.slice VF n37 VH] ++ Hi) y (AA R (fun z AF => ∃ KD KE KF KG KH KI KJ KK HR,z = (.tuple #[.agg #[.int .i64 KD,.int .u64 KE,.slice KF KG KH,.slice KI KJ KK],.int .i64 HR]) ∧ AK prog (Instr.storeAt 93 (.pointer (aD BG 0)) (.agg #[.int .i64 KD,.int .u64 KE,.slice KF KG KH,.slice KI KJ KK])) AF (fun _ AH => Br (HR ≠ 0) (R (.returned (.tuple #[.agg #[.int .i64 0,.int .u64 0,.slice none 0 0,.slice none 0 0],.int .i64 HR])) AH) (((0 : Int) ≤ ((n7 : Int) - Eo) ∧ ((n7 : Int) - Eo) ≤ (c7 : Int)) ∧ ∃ Nr Ns Nt Nu Nv Nw Nx Ny,Ay AH BG 0 [.int .i64 Nr,.int .u64 Ns,.slice Nt Nu Nv,.slice Nw Nx Ny] ∧ Al AH fun Ps => AK prog (Builtin.append_ #[136,136] 136 #[(.slice p7 (Int.toNat ((n7 : Int) - Eo)) c7),(.slice (aD Ps 0) 1 1)]) (Hp.set AH Ps (.cells #[.int .i64 Nr,.int .u64 Ns,.slice Nt Nu Nv,.slice Nw Nx Ny] 93 (0,0))) (CS fun cL n50 cM Ac => AJ (x16 + 1) ∧ FI R q0 GJ Fp p4c n4c c4c Gq Gr Gs (aD Yb fV) n6 c6 cL n50 cM (aD Q7 WL) n14 Hd x15 (x16 + 1) Ac)))))))) ∧ (Al σ fun BG => Al (Hp.set σ BG (.cells #[.int .i64 0,.int .u64 0,.slice none 0 0,.slice none 0 0] 93 (0,0))) fun fW => AK prog (Builtin.append_ #[136,136] 136 #[(.slice (aD fW 0) 0 0),(.slice (Ir p7 (Int.toNat ((n7 : Int) - Eo)) c7 4) (n7 - Int.toNat ((n7 : Int) - Eo)) (c7 - Int.toNat ((n7 : Int) - Eo)))]) (Hp.set (Hp.set σ BG (.cells #[.int .i64 0,.int .u64 0,.slice none 0 0,.slice none 0 0] 93 (0,0))) fW (.cells #[] 93 (0,0))) (CS fun VF n37 VH y => Kp [Yb] (Hp.set (Hp.set σ BG (.cells #[.int .i64 0,.int .u64 0,.slice none 0 0,.slice none 0 0] 93 (0,0))) fW (.cells #[] 93 (0,0))) y ∧ ∃ (f38 : Nat) (Hh Hi : Array Value),v30 = .func (.func f38) Hh Hi ∧ Enters prog f38 ∧ Spec prog f38 (Hh ++ #[.pointer q0,.agg #[.int .i64 KC,.int .i64 O6,.string WI,.slice mG mH mI,.int .i64 mJ,.int .i64 mK,.int .i64 mL,.slice mM mN mO,.bool mP,.int .i64 Eo],.slice VF n37 VH] ++ Hi) y (AA R (fun z AF => ∃ KD KE KF KG KH KI KJ KK HR,z = (.tuple #[.agg #[.int .i64 KD,.int .u64 KE,.slice KF KG KH,.slice KI KJ KK],.int .i64 HR]) ∧ AK prog (Instr.storeAt 93 (.pointer (aD BG 0)) (.agg #[.int .i64 KD,.int .u64 KE,.slice KF KG KH,.slice KI KJ KK])) AF (fun _ AH => Br (HR ≠ 0) (R (.returned (.tuple #[.agg #[.int .i64 0,.int .u64 0,.slice none 0 0,.slice none 0 0],.int .i64 HR])) AH) (((0 : Int) ≤ ((n7 : Int) - Eo) ∧ ((n7 : Int) - Eo) ≤ (c7 : Int)) ∧ ∃ Nr Ns Nt Nu Nv Nw Nx Ny,Ay AH BG 0 [.int .i64 Nr,.int .u64 Ns,.slice Nt Nu Nv,.slice Nw Nx Ny] ∧ Al AH fun Ps => AK prog (Builtin.append_ #[136,136] 136 #[(.slice p7 (Int.toNat ((n7 : Int) - Eo)) c7),(.slice (aD Ps 0) 1 1)]) (Hp.set AH Ps (.cells #[.int .i64 Nr,.int .u64 Ns,.slice Nt Nu Nv,.slice Nw Nx Ny] 93 (0,0))) (CS fun cL n50 cM Ac => AJ (x16 + 1) ∧ FI R q0 GJ Fp p4c n4c c4c Gq Gr Gs (aD Yb fV) n6 c6 cL n50 cM (aD Q7 WL) n14 Hd x15 (x16 + 1) Ac)))))))) (Pq p7 fun O7 o53 => In 0 (n7 : Int) ∧ ∃ Yc Ye AFI AFJ AFK Yf Yg Yh,Ay σ O7 o53 [.int .i64 Yc,.int .u64 Ye,.slice AFI AFJ AFK,.slice Yf Yg Yh] ∧ R (.returned (.tuple #[.agg #[.int .i64 Yc,.int .u64 Ye,.slice AFI AFJ AFK,.slice Yf Yg Yh],.int .i64 0])) σ)) : FI R q0 GJ Fp p4c n4c c4c Gq Gr Gs p6 n6 c6 p7 n7 c7 Jj n14 Hd x15 x16 σ := M.j8 h ok rfl fun _ => by kernel_rfl
end CJ
namespace Jl
variable {wz ad s1a s1b : ByteArray}
def M : Fw := ⟨prog,76,f76,[77,78],[2,3],false,[],[],[]⟩
theorem ok : M.Ok := ⟨.cons call77 (.cons call78 (AG.nil)),mixed,func76,by kernel_rfl⟩
theorem start (h : ∀ b2 : Nat,∀ b3 : Nat,Spec prog 78 #[.string wz,.string s1a] σ (AA R (CI .i64 fun x9 y => Spec prog 78 #[.string ad,.string s1b] y (AA R (CI .i64 fun XK AF => Al AF fun b15 => Spec prog 77 #[(.slice (aD b15 0) 2 2)] (Hp.set AF b15 (.cells #[.int .i64 x9,.int .i64 XK] 3 (0,0))) (AA R (CI .i64 fun x16 AH => R (.returned (.int .i64 x16)) AH))))))) : Spec prog 76 #[.agg #[.string wz,.string ad],.agg #[.string s1a,.string s1b]] σ R := M.start h ok
end Jl
namespace Jm
variable {s0 s1 : ByteArray}
def M : Fw := ⟨prog,78,f78,[119],[],false,[],[],[]⟩
theorem ok : M.Ok := ⟨.cons call119 (AG.nil),mixed,func78,by kernel_rfl⟩
theorem start (h : Spec prog 119 #[.string s0,.string s1] σ (AA R (CI .i64 fun x7 y => R (.returned (.int .i64 x7)) y))) : Spec prog 78 #[.string s0,.string s1] σ R := M.start h ok
end Jm
namespace Ft
variable {p0 p8 : Option Addr} {n0 c0 n8 c8 : Nat} {x9 x10 : Int}
def M : Fw := ⟨prog,80,f80,[125,126],[4],false,[],[],[(232,[(8,wL),(9,wI),(10,wI)])]⟩
theorem ok : M.Ok := ⟨.cons call125 (.cons call126 (AG.nil)),mixed,func80,by kernel_rfl⟩
def MT := M.pt 0
theorem start (h : Br (8 < (n0 : Int)) (R (.returned (.int .i64 41)) σ) (MT R p0 n0 c0 (n0 : Int) 0 σ)) : Spec prog 80 #[.slice p0 n0 c0] σ R := M.start h ok
theorem I4 (h : Br (x10 < x9) (Pq p8 fun Pr QU => In x10 (n8 : Int) ∧ ∃ mQ iU AFM,Ay σ Pr (QU + Int.toNat x10 * 3) [.int .i64 mQ,.string iU,.string AFM] ∧ ∀ b4 : Nat,Spec prog 125 #[.int .i64 mQ] σ (AA R (CB fun t16 y => Bn t16 (R (.returned (.int .i64 40)) y) (Spec prog 126 #[.string iU] y (AA R (CB fun t21 AF => Bn t21 (R (.returned (.int .i64 40)) AF) (Br ((256 : Int) < ((ByteArray.size AFM : Nat) : Int)) (R (.returned (.int .i64 40)) AF) (AJ (x10 + 1) ∧ MT R (aD Pr QU) n8 c8 x9 (x10 + 1) AF)))))))) (R (.returned (.int .i64 0)) σ)) : MT R p8 n8 c8 x9 x10 σ := M.of h ok rfl
end Ft
namespace Bq
variable {q0 Dt D3 p2 : Option Addr} {Dm CZ Dn Du DJ Cf x8 : Int} {Dp : ByteArray} {Dx Dy Dz D4 n2 c2 : Nat} {DK : Bool}
def M : Fw := ⟨prog,82,f82,[],[4],false,[],[],[(60,[(2,wL),(8,wI)])]⟩
theorem ok : M.Ok := ⟨AG.nil,mixed,func82,by kernel_rfl⟩
def FI := M.pt 0
theorem start (h : ∀ b4 : Nat,Br (CZ = 11) (FI R p2 n2 c2 2 σ) (Br (CZ = 12) (FI R p2 n2 c2 2 σ) (FI R p2 n2 c2 3 σ))) : Spec prog 82 #[.pointer q0,.agg #[.int .i64 Dm,.int .i64 CZ,.string Dp,.slice Dt Dx Dy,.int .i64 Dn,.int .i64 Du,.int .i64 DJ,.slice D3 Dz D4,.bool DK,.int .i64 Cf],.slice p2 n2 c2] σ R := M.start h ok
theorem Fg (h : Pq p2 fun Q7 WL => In 0 (n2 : Int) ∧ LI .i64 σ Q7 WL fun Hv => Br (Hv ≠ x8) (R (.returned (.tuple #[.int .i64 0,.int .i64 191])) σ) (R (.returned (.tuple #[.int .i64 2,.int .i64 0])) σ)) : FI R p2 n2 c2 x8 σ := M.of h ok rfl
end Bq
namespace G7
variable {s0 : ByteArray} {x3 x4 x5 : Int}
def M : Fw := ⟨prog,93,f93,[131],[],false,[],[],[(2000,[(0,wT),(3,wI),(4,wI),(5,wI)]),(508,[(4,wI)])]⟩
theorem ok : M.Ok := ⟨.cons call131 (AG.nil),mixed,func93,by kernel_rfl⟩
def tT := M.pt 0
def QQ := M.pt 1
theorem start (h : Spec prog 131 #[.string s0] σ (AA R (CI .i64 fun x7 y => Br (x7 = 0) (R (.returned (.int .i64 0)) y) (Br (10 < x7) (R (.returned (.int .i64 0)) y) (∃ u16 : UInt8,(0 : Int) ≤ 0 ∧ (ByteArray.data s0)[Int.toNat 0]? = some u16 ∧ Br ((((UInt8.toNat u16 : Nat) : Int) : Int) = 48) (R (.returned (.int .i64 0)) y) (AJ (x7 + 1) ∧ Br (((x7 + 1) : Int) ≠ ((ByteArray.size s0 : Nat) : Int)) (R (.returned (.int .i64 0)) y) (tT R s0 x7 0 0 y))))))) : Spec prog 93 #[.string s0] σ R := M.start h ok
theorem fX (h : Br (x5 < x3) (AJ (10 * x4) ∧ ∃ u35 : UInt8,0 ≤ x5 ∧ (ByteArray.data s0)[Int.toNat x5]? = some u35 ∧ Df (IntKind.u8.wrap (((UInt8.toNat u35 : Nat) : Int) - 48)) fun ae => Df (IntKind.i64.wrap ae) fun Qa => AJ ((10 * x4) + Qa) ∧ AJ (x5 + 1) ∧ tT R s0 x3 (((10 * x4) + Qa)) (x5 + 1) σ) (∃ u41 : UInt8,0 ≤ x3 ∧ (ByteArray.data s0)[Int.toNat x3]? = some u41 ∧ Br ((((UInt8.toNat u41 : Nat) : Int) : Int) = 115) (QQ R x4 σ) (Br ((((UInt8.toNat u41 : Nat) : Int) : Int) = 109) (AJ (x4 * 60) ∧ QQ R (x4 * 60) σ) (Br ((((UInt8.toNat u41 : Nat) : Int) : Int) = 104) (AJ (x4 * 3600) ∧ QQ R (x4 * 3600) σ) (Br ((((UInt8.toNat u41 : Nat) : Int) : Int) = 100) (AJ (x4 * 86400) ∧ QQ R (x4 * 86400) σ) (R (.returned (.int .i64 0)) σ)))))) : tT R s0 x3 x4 x5 σ := M.of h ok rfl
theorem Q4 (h : Br (2147483648 ≤ x4) (R (.returned (.int .i64 0)) σ) (R (.returned (.int .i64 x4)) σ)) : QQ R x4 σ := M.of h ok rfl
end G7
namespace FW
variable {s0 : ByteArray} {x3 : Int}
def M : Fw := ⟨prog,98,f98,[],[],false,[],[],[(464,[(0,wT),(3,wI)])]⟩
theorem ok : M.Ok := ⟨AG.nil,mixed,func98,by kernel_rfl⟩
def A0 := M.pt 0
theorem start (h : Bo ((ByteArray.toList s0 == ByteArray.toList (ByteArray.mk #[]))) (R (.returned (.bool false)) σ) (Br ((64 : Int) < ((ByteArray.size s0 : Nat) : Int)) (R (.returned (.bool false)) σ) (∃ L9 : UInt8,(0 : Int) ≤ 0 ∧ (ByteArray.data s0)[Int.toNat 0]? = some L9 ∧ Br ((48 : Int) ≤ ((UInt8.toNat L9 : Nat) : Int)) (∃ u18 : UInt8,(0 : Int) ≤ 0 ∧ (ByteArray.data s0)[Int.toNat 0]? = some u18 ∧ Br ((((UInt8.toNat u18 : Nat) : Int) : Int) ≤ 57) (R (.returned (.bool false)) σ) (A0 R s0 0 σ)) (A0 R s0 0 σ)))) : Spec prog 98 #[.string s0] σ R := M.start h ok
theorem BC (h : Br (x3 < ((ByteArray.size s0 : Nat) : Int)) (∃ af : UInt8,0 ≤ x3 ∧ (ByteArray.data s0)[Int.toNat x3]? = some af ∧ Br ((((UInt8.toNat af : Nat) : Int) : Int) ≠ 95) (Br ((((UInt8.toNat af : Nat) : Int) : Int) < 48) (Br ((((UInt8.toNat af : Nat) : Int) : Int) < 65) (Br ((((UInt8.toNat af : Nat) : Int) : Int) < 97) (R (.returned (.bool false)) σ) (Br ((122 : Int) < ((UInt8.toNat af : Nat) : Int)) (R (.returned (.bool false)) σ) (AJ (x3 + 1) ∧ A0 R s0 (x3 + 1) σ))) (Br ((90 : Int) < ((UInt8.toNat af : Nat) : Int)) (Br ((((UInt8.toNat af : Nat) : Int) : Int) < 97) (R (.returned (.bool false)) σ) (Br ((122 : Int) < ((UInt8.toNat af : Nat) : Int)) (R (.returned (.bool false)) σ) (AJ (x3 + 1) ∧ A0 R s0 (x3 + 1) σ))) (AJ (x3 + 1) ∧ A0 R s0 (x3 + 1) σ))) (Br ((57 : Int) < ((UInt8.toNat af : Nat) : Int)) (Br ((((UInt8.toNat af : Nat) : Int) : Int) < 65) (Br ((((UInt8.toNat af : Nat) : Int) : Int) < 97) (R (.returned (.bool false)) σ) (Br ((122 : Int) < ((UInt8.toNat af : Nat) : Int)) (R (.returned (.bool false)) σ) (AJ (x3 + 1) ∧ A0 R s0 (x3 + 1) σ))) (Br ((90 : Int) < ((UInt8.toNat af : Nat) : Int)) (Br ((((UInt8.toNat af : Nat) : Int) : Int) < 97) (R (.returned (.bool false)) σ) (Br ((122 : Int) < ((UInt8.toNat af : Nat) : Int)) (R (.returned (.bool false)) σ) (AJ (x3 + 1) ∧ A0 R s0 (x3 + 1) σ))) (AJ (x3 + 1) ∧ A0 R s0 (x3 + 1) σ))) (AJ (x3 + 1) ∧ A0 R s0 (x3 + 1) σ))) (AJ (x3 + 1) ∧ A0 R s0 (x3 + 1) σ)) (R (.returned (.bool true)) σ)) : A0 R s0 x3 σ := M.of h ok rfl
end FW
namespace Am
variable {s0 : ByteArray} {x3 x4 x5 x6 : Int}
def M : Fw := ⟨prog,99,f99,[],[],false,[],[],[(220,[(0,wT),(3,wI)]),(894,[(0,wT),(3,wI),(4,wI),(5,w8),(6,w8)]),(7164,[(0,wT),(3,wI),(4,wI),(5,w8),(6,w8)])]⟩
theorem ok : M.Ok := ⟨AG.nil,mixed,func99,by kernel_rfl⟩
def Bh := M.pt 0
def HS := M.pt 1
def mR := M.pt 2
theorem start (h : Bh R s0 0 σ) : Spec prog 99 #[.string s0] σ R := M.start h ok
theorem A3 (h : Br (x3 = ((ByteArray.size s0 : Nat) : Int)) (R (.returned (.bool true)) σ) (∃ L9 : UInt8,0 ≤ x3 ∧ (ByteArray.data s0)[Int.toNat x3]? = some L9 ∧ Br ((((UInt8.toNat L9 : Nat) : Int) : Int) < 128) (AJ (x3 + 1) ∧ Bh R s0 (x3 + 1) σ) (Br ((194 : Int) ≤ ((UInt8.toNat L9 : Nat) : Int)) (Br ((((UInt8.toNat L9 : Nat) : Int) : Int) ≤ 223) (HS R s0 x3 1 128 191 σ) (Br ((224 : Int) ≤ ((UInt8.toNat L9 : Nat) : Int)) (Br ((((UInt8.toNat L9 : Nat) : Int) : Int) ≤ 239) (Br ((((UInt8.toNat L9 : Nat) : Int) : Int) = 224) (HS R s0 x3 2 160 191 σ) (Br ((((UInt8.toNat L9 : Nat) : Int) : Int) = 237) (HS R s0 x3 2 128 159 σ) (HS R s0 x3 2 128 191 σ))) (Br ((240 : Int) ≤ ((UInt8.toNat L9 : Nat) : Int)) (Br ((((UInt8.toNat L9 : Nat) : Int) : Int) ≤ 244) (Br ((((UInt8.toNat L9 : Nat) : Int) : Int) = 240) (HS R s0 x3 3 144 191 σ) (Br ((((UInt8.toNat L9 : Nat) : Int) : Int) = 244) (HS R s0 x3 3 128 143 σ) (HS R s0 x3 3 128 191 σ))) (R (.returned (.bool false)) σ)) (R (.returned (.bool false)) σ))) (Br ((240 : Int) ≤ ((UInt8.toNat L9 : Nat) : Int)) (Br ((((UInt8.toNat L9 : Nat) : Int) : Int) ≤ 244) (Br ((((UInt8.toNat L9 : Nat) : Int) : Int) = 240) (HS R s0 x3 3 144 191 σ) (Br ((((UInt8.toNat L9 : Nat) : Int) : Int) = 244) (HS R s0 x3 3 128 143 σ) (HS R s0 x3 3 128 191 σ))) (R (.returned (.bool false)) σ)) (R (.returned (.bool false)) σ)))) (Br ((224 : Int) ≤ ((UInt8.toNat L9 : Nat) : Int)) (Br ((((UInt8.toNat L9 : Nat) : Int) : Int) ≤ 239) (Br ((((UInt8.toNat L9 : Nat) : Int) : Int) = 224) (HS R s0 x3 2 160 191 σ) (Br ((((UInt8.toNat L9 : Nat) : Int) : Int) = 237) (HS R s0 x3 2 128 159 σ) (HS R s0 x3 2 128 191 σ))) (Br ((240 : Int) ≤ ((UInt8.toNat L9 : Nat) : Int)) (Br ((((UInt8.toNat L9 : Nat) : Int) : Int) ≤ 244) (Br ((((UInt8.toNat L9 : Nat) : Int) : Int) = 240) (HS R s0 x3 3 144 191 σ) (Br ((((UInt8.toNat L9 : Nat) : Int) : Int) = 244) (HS R s0 x3 3 128 143 σ) (HS R s0 x3 3 128 191 σ))) (R (.returned (.bool false)) σ)) (R (.returned (.bool false)) σ))) (Br ((240 : Int) ≤ ((UInt8.toNat L9 : Nat) : Int)) (Br ((((UInt8.toNat L9 : Nat) : Int) : Int) ≤ 244) (Br ((((UInt8.toNat L9 : Nat) : Int) : Int) = 240) (HS R s0 x3 3 144 191 σ) (Br ((((UInt8.toNat L9 : Nat) : Int) : Int) = 244) (HS R s0 x3 3 128 143 σ) (HS R s0 x3 3 128 191 σ))) (R (.returned (.bool false)) σ)) (R (.returned (.bool false)) σ)))))) : Bh R s0 x3 σ := M.of h ok rfl
theorem tU (h : AJ (x3 + 1) ∧ mR R s0 (x3 + 1) x4 x5 x6 σ) : HS R s0 x3 x4 x5 x6 σ := M.of h ok rfl
theorem fY (h : Br (x4 = 0) (Bh R s0 x3 σ) (Br (x3 = ((ByteArray.size s0 : Nat) : Int)) (R (.returned (.bool false)) σ) (∃ u60 : UInt8,0 ≤ x3 ∧ (ByteArray.data s0)[Int.toNat x3]? = some u60 ∧ Br ((((UInt8.toNat u60 : Nat) : Int) : Int) < x5) (R (.returned (.bool false)) σ) (∃ u67 : UInt8,0 ≤ x3 ∧ (ByteArray.data s0)[Int.toNat x3]? = some u67 ∧ Br (x6 < ((UInt8.toNat u67 : Nat) : Int)) (R (.returned (.bool false)) σ) (AJ (x4 - 1) ∧ AJ (x3 + 1) ∧ mR R s0 (x3 + 1) (x4 - 1) 128 191 σ))))) : mR R s0 x3 x4 x5 x6 σ := M.of h ok rfl
end Am
namespace DM
variable {q0 Dt D3 p2 : Option Addr} {Dm CZ Dn Du DJ Cf : Int} {Dp : ByteArray} {Dx Dy Dz D4 n2 c2 : Nat} {DK : Bool}
def M : Fw := ⟨prog,105,f105,[128,156,157,160,161],[6],false,[(1,9,false)],[],[]⟩
theorem ok : M.Ok := ⟨.cons call128 (.cons call156 (.cons call157 (.cons call160 (.cons call161 (AG.nil))))),mixed,func105,by kernel_rfl⟩
theorem start (h : Al σ fun b4 => ∀ b6 : Nat,Pq p2 fun Cn WG => In 0 (n2 : Int) ∧ ∃ Gf UU AAB AAC AAD AAE AAF AAG,Ay (Hp.set σ b4 (.cells #[.int .i64 Dm,.int .i64 CZ,.string Dp,.slice Dt Dx Dy,.int .i64 Dn,.int .i64 Du,.int .i64 DJ,.slice D3 Dz D4,.bool DK,.int .i64 Cf] 36 (0,0))) Cn WG [.int .i64 Gf,.int .u64 UU,.slice AAB AAC AAD,.slice AAE AAF AAG] ∧ In 1 (n2 : Int) ∧ ∃ Rv YG AAH AAI AAJ iP iQ iR,Ay (Hp.set σ b4 (.cells #[.int .i64 Dm,.int .i64 CZ,.string Dp,.slice Dt Dx Dy,.int .i64 Dn,.int .i64 Du,.int .i64 DJ,.slice D3 Dz D4,.bool DK,.int .i64 Cf] 36 (0,0))) Cn (WG + 4) [.int .i64 Rv,.int .u64 YG,.slice AAH AAI AAJ,.slice iP iQ iR] ∧ (Al (Hp.set σ b4 (.cells #[.int .i64 Dm,.int .i64 CZ,.string Dp,.slice Dt Dx Dy,.int .i64 Dn,.int .i64 Du,.int .i64 DJ,.slice D3 Dz D4,.bool DK,.int .i64 Cf] 36 (0,0))) fun b8 => Al (Hp.set (Hp.set σ b4 (.cells #[.int .i64 Dm,.int .i64 CZ,.string Dp,.slice Dt Dx Dy,.int .i64 Dn,.int .i64 Du,.int .i64 DJ,.slice D3 Dz D4,.bool DK,.int .i64 Cf] 36 (0,0))) b8 (.cells #[.int .i64 0,.int .u64 0,.slice none 0 0,.slice none 0 0] 93 (0,0))) fun b9 => AK prog (Instr.storeAt 93 (.pointer (aD b8 0)) (.agg #[.int .i64 Gf,.int .u64 UU,.slice AAB AAC AAD,.slice AAE AAF AAG])) (Hp.set (Hp.set (Hp.set σ b4 (.cells #[.int .i64 Dm,.int .i64 CZ,.string Dp,.slice Dt Dx Dy,.int .i64 Dn,.int .i64 Du,.int .i64 DJ,.slice D3 Dz D4,.bool DK,.int .i64 Cf] 36 (0,0))) b8 (.cells #[.int .i64 0,.int .u64 0,.slice none 0 0,.slice none 0 0] 93 (0,0))) b9 (.cells #[.int .i64 0,.int .u64 0,.slice none 0 0,.slice none 0 0] 93 (0,0))) (fun _ y => Kp [Cn] (Hp.set (Hp.set (Hp.set σ b4 (.cells #[.int .i64 Dm,.int .i64 CZ,.string Dp,.slice Dt Dx Dy,.int .i64 Dn,.int .i64 Du,.int .i64 DJ,.slice D3 Dz D4,.bool DK,.int .i64 Cf] 36 (0,0))) b8 (.cells #[.int .i64 0,.int .u64 0,.slice none 0 0,.slice none 0 0] 93 (0,0))) b9 (.cells #[.int .i64 0,.int .u64 0,.slice none 0 0,.slice none 0 0] 93 (0,0))) y ∧ AK prog (Instr.storeAt 93 (.pointer (aD b9 0)) (.agg #[.int .i64 Rv,.int .u64 YG,.slice AAH AAI AAJ,.slice iP iQ iR])) y (fun _ AF => LI .i64 AF b8 0 fun Hv => Br (Hv = 1) (LI .i64 AF b9 0 fun IL => Br (IL = 1) (∃ Yi SB mS mT mU mV mW mX mY mZ mc me mg mh,Ay AF b4 0 [.int .i64 Yi,.int .i64 SB,.string mS,.slice mT mU mV,.int .i64 mW,.int .i64 mX,.int .i64 mY,.slice mZ mc me,.bool mg,.int .i64 mh] ∧ LI .u64 AF b8 1 fun SF => LI .u64 AF b9 1 fun mi => Spec prog 156 #[.agg #[.int .i64 Yi,.int .i64 SB,.string mS,.slice mT mU mV,.int .i64 mW,.int .i64 mX,.int .i64 mY,.slice mZ mc me,.bool mg,.int .i64 mh],.int .u64 SF,.int .u64 mi] AF (AA R (fun z AH => ∃ Yj mj,z = (.tuple #[.int .u64 Yj,.bool mj]) ∧ R (.returned (.tuple #[.agg #[.int .i64 1,.int .u64 Yj,.slice none 0 0,.slice none 0 0],.int .i64 0])) AH))) (LI .i64 AF b8 0 fun rZ => Br (rZ = 1) (∃ O8 MX O9 SG SH SI SJ SK SL SM SN SO SP SQ,Ay AF b4 0 [.int .i64 O8,.int .i64 MX,.string O9,.slice SG SH SI,.int .i64 SJ,.int .i64 SK,.int .i64 SL,.slice SM SN SO,.bool SP,.int .i64 SQ] ∧ LS AF b9 2 fun p45 n45 c45 => Spec prog 157 #[.pointer q0,.agg #[.int .i64 O8,.int .i64 MX,.string O9,.slice SG SH SI,.int .i64 SJ,.int .i64 SK,.int .i64 SL,.slice SM SN SO,.bool SP,.int .i64 SQ],.slice p45 n45 c45,(.func (.func 158) #[] #[(.pointer (aD b4 0)),(.pointer (aD b8 0))])] AF (AA R (fun z AH => ∃ KL KM KN KO KQ KR KS KT SR,z = (.tuple #[.agg #[.int .i64 KL,.int .u64 KM,.slice KN KO KQ,.slice KR KS KT],.int .i64 SR]) ∧ R (.returned (.tuple #[.agg #[.int .i64 KL,.int .u64 KM,.slice KN KO KQ,.slice KR KS KT],.int .i64 SR])) AH))) (LI .i64 AF b9 0 fun tV => Br (tV = 1) (∃ SS SU SX SY SZ Sa Sb Sc Sd Se Sf Sg Si Sj,Ay AF b4 0 [.int .i64 SS,.int .i64 SU,.string SX,.slice SY SZ Sa,.int .i64 Sb,.int .i64 Sc,.int .i64 Sd,.slice Se Sf Sg,.bool Si,.int .i64 Sj] ∧ LS AF b8 2 fun tW n57 tX => Spec prog 157 #[.pointer q0,.agg #[.int .i64 SS,.int .i64 SU,.string SX,.slice SY SZ Sa,.int .i64 Sb,.int .i64 Sc,.int .i64 Sd,.slice Se Sf Sg,.bool Si,.int .i64 Sj],.slice tW n57 tX,(.func (.func 159) #[] #[(.pointer (aD b4 0)),(.pointer (aD b9 0))])] AF (AA R (fun z AH => ∃ KU KV KW KX KY KZ Ka Kb Hw,z = (.tuple #[.agg #[.int .i64 KU,.int .u64 KV,.slice KW KX KY,.slice KZ Ka Kb],.int .i64 Hw]) ∧ R (.returned (.tuple #[.agg #[.int .i64 KU,.int .u64 KV,.slice KW KX KY,.slice KZ Ka Kb],.int .i64 Hw])) AH))) (LI .i64 AF b4 1 fun lr => Spec prog 128 #[.int .i64 lr] AF (AA R (CB fun t65 AH => Bo t65 (∃ Kc Kd Ke Kf Kg Kh Ki Kj Kk Kl Km Kn Ko Kq,Ay AH b4 0 [.int .i64 Kc,.int .i64 Kd,.string Ke,.slice Kf Kg Kh,.int .i64 Ki,.int .i64 Kj,.int .i64 Kk,.slice Kl Km Kn,.bool Ko,.int .i64 Kq] ∧ LS AH b8 2 fun lu n69 rO => LS AH b9 2 fun p71 n71 c71 => Spec prog 160 #[.pointer q0,.agg #[.int .i64 Kc,.int .i64 Kd,.string Ke,.slice Kf Kg Kh,.int .i64 Ki,.int .i64 Kj,.int .i64 Kk,.slice Kl Km Kn,.bool Ko,.int .i64 Kq],.slice lu n69 rO,.slice p71 n71 c71] AH (AA R (fun z Ac => ∃ Kr Ks Kt Ku Kv Kw Kx Ky J8,z = (.tuple #[.agg #[.int .i64 Kr,.int .u64 Ks,.slice Kt Ku Kv,.slice Kw Kx Ky],.int .i64 J8]) ∧ R (.returned (.tuple #[.agg #[.int .i64 Kr,.int .u64 Ks,.slice Kt Ku Kv,.slice Kw Kx Ky],.int .i64 J8])) Ac))) (∃ Sk Sl Sm Sn Sp Ss Su Sv Sx Sz S0 S1 S2 S3,Ay AH b4 0 [.int .i64 Sk,.int .i64 Sl,.string Sm,.slice Sn Sp Ss,.int .i64 Su,.int .i64 Sv,.int .i64 Sx,.slice Sz S0 S1,.bool S2,.int .i64 S3] ∧ LS AH b8 2 fun ra ml rf => LS AH b9 2 fun p80 n80 c80 => Spec prog 161 #[.pointer q0,.agg #[.int .i64 Sk,.int .i64 Sl,.string Sm,.slice Sn Sp Ss,.int .i64 Su,.int .i64 Sv,.int .i64 Sx,.slice Sz S0 S1,.bool S2,.int .i64 S3],.slice ra ml rf,.slice p80 n80 c80] AH (AA R (fun z Ac => ∃ Kz LA LC LD LF LG LH LJ S4,z = (.tuple #[.agg #[.int .i64 Kz,.int .u64 LA,.slice LC LD LF,.slice LG LH LJ],.int .i64 S4]) ∧ R (.returned (.tuple #[.agg #[.int .i64 Kz,.int .u64 LA,.slice LC LD LF,.slice LG LH LJ],.int .i64 S4])) Ac))))))))) (LI .i64 AF b8 0 fun rZ => Br (rZ = 1) (∃ O8 MX O9 SG SH SI SJ SK SL SM SN SO SP SQ,Ay AF b4 0 [.int .i64 O8,.int .i64 MX,.string O9,.slice SG SH SI,.int .i64 SJ,.int .i64 SK,.int .i64 SL,.slice SM SN SO,.bool SP,.int .i64 SQ] ∧ LS AF b9 2 fun p45 n45 c45 => Spec prog 157 #[.pointer q0,.agg #[.int .i64 O8,.int .i64 MX,.string O9,.slice SG SH SI,.int .i64 SJ,.int .i64 SK,.int .i64 SL,.slice SM SN SO,.bool SP,.int .i64 SQ],.slice p45 n45 c45,(.func (.func 158) #[] #[(.pointer (aD b4 0)),(.pointer (aD b8 0))])] AF (AA R (fun z AH => ∃ KL KM KN KO KQ KR KS KT SR,z = (.tuple #[.agg #[.int .i64 KL,.int .u64 KM,.slice KN KO KQ,.slice KR KS KT],.int .i64 SR]) ∧ R (.returned (.tuple #[.agg #[.int .i64 KL,.int .u64 KM,.slice KN KO KQ,.slice KR KS KT],.int .i64 SR])) AH))) (LI .i64 AF b9 0 fun tV => Br (tV = 1) (∃ SS SU SX SY SZ Sa Sb Sc Sd Se Sf Sg Si Sj,Ay AF b4 0 [.int .i64 SS,.int .i64 SU,.string SX,.slice SY SZ Sa,.int .i64 Sb,.int .i64 Sc,.int .i64 Sd,.slice Se Sf Sg,.bool Si,.int .i64 Sj] ∧ LS AF b8 2 fun tW n57 tX => Spec prog 157 #[.pointer q0,.agg #[.int .i64 SS,.int .i64 SU,.string SX,.slice SY SZ Sa,.int .i64 Sb,.int .i64 Sc,.int .i64 Sd,.slice Se Sf Sg,.bool Si,.int .i64 Sj],.slice tW n57 tX,(.func (.func 159) #[] #[(.pointer (aD b4 0)),(.pointer (aD b9 0))])] AF (AA R (fun z AH => ∃ KU KV KW KX KY KZ Ka Kb Hw,z = (.tuple #[.agg #[.int .i64 KU,.int .u64 KV,.slice KW KX KY,.slice KZ Ka Kb],.int .i64 Hw]) ∧ R (.returned (.tuple #[.agg #[.int .i64 KU,.int .u64 KV,.slice KW KX KY,.slice KZ Ka Kb],.int .i64 Hw])) AH))) (LI .i64 AF b4 1 fun lr => Spec prog 128 #[.int .i64 lr] AF (AA R (CB fun t65 AH => Bo t65 (∃ Kc Kd Ke Kf Kg Kh Ki Kj Kk Kl Km Kn Ko Kq,Ay AH b4 0 [.int .i64 Kc,.int .i64 Kd,.string Ke,.slice Kf Kg Kh,.int .i64 Ki,.int .i64 Kj,.int .i64 Kk,.slice Kl Km Kn,.bool Ko,.int .i64 Kq] ∧ LS AH b8 2 fun lu n69 rO => LS AH b9 2 fun p71 n71 c71 => Spec prog 160 #[.pointer q0,.agg #[.int .i64 Kc,.int .i64 Kd,.string Ke,.slice Kf Kg Kh,.int .i64 Ki,.int .i64 Kj,.int .i64 Kk,.slice Kl Km Kn,.bool Ko,.int .i64 Kq],.slice lu n69 rO,.slice p71 n71 c71] AH (AA R (fun z Ac => ∃ Kr Ks Kt Ku Kv Kw Kx Ky J8,z = (.tuple #[.agg #[.int .i64 Kr,.int .u64 Ks,.slice Kt Ku Kv,.slice Kw Kx Ky],.int .i64 J8]) ∧ R (.returned (.tuple #[.agg #[.int .i64 Kr,.int .u64 Ks,.slice Kt Ku Kv,.slice Kw Kx Ky],.int .i64 J8])) Ac))) (∃ Sk Sl Sm Sn Sp Ss Su Sv Sx Sz S0 S1 S2 S3,Ay AH b4 0 [.int .i64 Sk,.int .i64 Sl,.string Sm,.slice Sn Sp Ss,.int .i64 Su,.int .i64 Sv,.int .i64 Sx,.slice Sz S0 S1,.bool S2,.int .i64 S3] ∧ LS AH b8 2 fun ra ml rf => LS AH b9 2 fun p80 n80 c80 => Spec prog 161 #[.pointer q0,.agg #[.int .i64 Sk,.int .i64 Sl,.string Sm,.slice Sn Sp Ss,.int .i64 Su,.int .i64 Sv,.int .i64 Sx,.slice Sz S0 S1,.bool S2,.int .i64 S3],.slice ra ml rf,.slice p80 n80 c80] AH (AA R (fun z Ac => ∃ Kz LA LC LD LF LG LH LJ S4,z = (.tuple #[.agg #[.int .i64 Kz,.int .u64 LA,.slice LC LD LF,.slice LG LH LJ],.int .i64 S4]) ∧ R (.returned (.tuple #[.agg #[.int .i64 Kz,.int .u64 LA,.slice LC LD LF,.slice LG LH LJ],.int .i64 S4])) Ac))))))))))) ∧ (Al (Hp.set σ b4 (.cells #[.int .i64 Dm,.int .i64 CZ,.string Dp,.slice Dt Dx Dy,.int .i64 Dn,.int .i64 Du,.int .i64 DJ,.slice D3 Dz D4,.bool DK,.int .i64 Cf] 36 (0,0))) fun b9 => Al (Hp.set (Hp.set σ b4 (.cells #[.int .i64 Dm,.int .i64 CZ,.string Dp,.slice Dt Dx Dy,.int .i64 Dn,.int .i64 Du,.int .i64 DJ,.slice D3 Dz D4,.bool DK,.int .i64 Cf] 36 (0,0))) b9 (.cells #[.int .i64 0,.int .u64 0,.slice none 0 0,.slice none 0 0] 93 (0,0))) fun b8 => AK prog (Instr.storeAt 93 (.pointer (aD b8 0)) (.agg #[.int .i64 Gf,.int .u64 UU,.slice AAB AAC AAD,.slice AAE AAF AAG])) (Hp.set (Hp.set (Hp.set σ b4 (.cells #[.int .i64 Dm,.int .i64 CZ,.string Dp,.slice Dt Dx Dy,.int .i64 Dn,.int .i64 Du,.int .i64 DJ,.slice D3 Dz D4,.bool DK,.int .i64 Cf] 36 (0,0))) b9 (.cells #[.int .i64 0,.int .u64 0,.slice none 0 0,.slice none 0 0] 93 (0,0))) b8 (.cells #[.int .i64 0,.int .u64 0,.slice none 0 0,.slice none 0 0] 93 (0,0))) (fun _ y => Kp [Cn] (Hp.set (Hp.set (Hp.set σ b4 (.cells #[.int .i64 Dm,.int .i64 CZ,.string Dp,.slice Dt Dx Dy,.int .i64 Dn,.int .i64 Du,.int .i64 DJ,.slice D3 Dz D4,.bool DK,.int .i64 Cf] 36 (0,0))) b9 (.cells #[.int .i64 0,.int .u64 0,.slice none 0 0,.slice none 0 0] 93 (0,0))) b8 (.cells #[.int .i64 0,.int .u64 0,.slice none 0 0,.slice none 0 0] 93 (0,0))) y ∧ AK prog (Instr.storeAt 93 (.pointer (aD b9 0)) (.agg #[.int .i64 Rv,.int .u64 YG,.slice AAH AAI AAJ,.slice iP iQ iR])) y (fun _ AF => LI .i64 AF b8 0 fun Hv => Br (Hv = 1) (LI .i64 AF b9 0 fun IL => Br (IL = 1) (∃ Yi SB mS mT mU mV mW mX mY mZ mc me mg mh,Ay AF b4 0 [.int .i64 Yi,.int .i64 SB,.string mS,.slice mT mU mV,.int .i64 mW,.int .i64 mX,.int .i64 mY,.slice mZ mc me,.bool mg,.int .i64 mh] ∧ LI .u64 AF b8 1 fun SF => LI .u64 AF b9 1 fun mi => Spec prog 156 #[.agg #[.int .i64 Yi,.int .i64 SB,.string mS,.slice mT mU mV,.int .i64 mW,.int .i64 mX,.int .i64 mY,.slice mZ mc me,.bool mg,.int .i64 mh],.int .u64 SF,.int .u64 mi] AF (AA R (fun z AH => ∃ Yj mj,z = (.tuple #[.int .u64 Yj,.bool mj]) ∧ R (.returned (.tuple #[.agg #[.int .i64 1,.int .u64 Yj,.slice none 0 0,.slice none 0 0],.int .i64 0])) AH))) (LI .i64 AF b8 0 fun rZ => Br (rZ = 1) (∃ O8 MX O9 SG SH SI SJ SK SL SM SN SO SP SQ,Ay AF b4 0 [.int .i64 O8,.int .i64 MX,.string O9,.slice SG SH SI,.int .i64 SJ,.int .i64 SK,.int .i64 SL,.slice SM SN SO,.bool SP,.int .i64 SQ] ∧ LS AF b9 2 fun p45 n45 c45 => Spec prog 157 #[.pointer q0,.agg #[.int .i64 O8,.int .i64 MX,.string O9,.slice SG SH SI,.int .i64 SJ,.int .i64 SK,.int .i64 SL,.slice SM SN SO,.bool SP,.int .i64 SQ],.slice p45 n45 c45,(.func (.func 158) #[] #[(.pointer (aD b4 0)),(.pointer (aD b8 0))])] AF (AA R (fun z AH => ∃ KL KM KN KO KQ KR KS KT SR,z = (.tuple #[.agg #[.int .i64 KL,.int .u64 KM,.slice KN KO KQ,.slice KR KS KT],.int .i64 SR]) ∧ R (.returned (.tuple #[.agg #[.int .i64 KL,.int .u64 KM,.slice KN KO KQ,.slice KR KS KT],.int .i64 SR])) AH))) (LI .i64 AF b9 0 fun tV => Br (tV = 1) (∃ SS SU SX SY SZ Sa Sb Sc Sd Se Sf Sg Si Sj,Ay AF b4 0 [.int .i64 SS,.int .i64 SU,.string SX,.slice SY SZ Sa,.int .i64 Sb,.int .i64 Sc,.int .i64 Sd,.slice Se Sf Sg,.bool Si,.int .i64 Sj] ∧ LS AF b8 2 fun tW n57 tX => Spec prog 157 #[.pointer q0,.agg #[.int .i64 SS,.int .i64 SU,.string SX,.slice SY SZ Sa,.int .i64 Sb,.int .i64 Sc,.int .i64 Sd,.slice Se Sf Sg,.bool Si,.int .i64 Sj],.slice tW n57 tX,(.func (.func 159) #[] #[(.pointer (aD b4 0)),(.pointer (aD b9 0))])] AF (AA R (fun z AH => ∃ KU KV KW KX KY KZ Ka Kb Hw,z = (.tuple #[.agg #[.int .i64 KU,.int .u64 KV,.slice KW KX KY,.slice KZ Ka Kb],.int .i64 Hw]) ∧ R (.returned (.tuple #[.agg #[.int .i64 KU,.int .u64 KV,.slice KW KX KY,.slice KZ Ka Kb],.int .i64 Hw])) AH))) (LI .i64 AF b4 1 fun lr => Spec prog 128 #[.int .i64 lr] AF (AA R (CB fun t65 AH => Bo t65 (∃ Kc Kd Ke Kf Kg Kh Ki Kj Kk Kl Km Kn Ko Kq,Ay AH b4 0 [.int .i64 Kc,.int .i64 Kd,.string Ke,.slice Kf Kg Kh,.int .i64 Ki,.int .i64 Kj,.int .i64 Kk,.slice Kl Km Kn,.bool Ko,.int .i64 Kq] ∧ LS AH b8 2 fun lu n69 rO => LS AH b9 2 fun p71 n71 c71 => Spec prog 160 #[.pointer q0,.agg #[.int .i64 Kc,.int .i64 Kd,.string Ke,.slice Kf Kg Kh,.int .i64 Ki,.int .i64 Kj,.int .i64 Kk,.slice Kl Km Kn,.bool Ko,.int .i64 Kq],.slice lu n69 rO,.slice p71 n71 c71] AH (AA R (fun z Ac => ∃ Kr Ks Kt Ku Kv Kw Kx Ky J8,z = (.tuple #[.agg #[.int .i64 Kr,.int .u64 Ks,.slice Kt Ku Kv,.slice Kw Kx Ky],.int .i64 J8]) ∧ R (.returned (.tuple #[.agg #[.int .i64 Kr,.int .u64 Ks,.slice Kt Ku Kv,.slice Kw Kx Ky],.int .i64 J8])) Ac))) (∃ Sk Sl Sm Sn Sp Ss Su Sv Sx Sz S0 S1 S2 S3,Ay AH b4 0 [.int .i64 Sk,.int .i64 Sl,.string Sm,.slice Sn Sp Ss,.int .i64 Su,.int .i64 Sv,.int .i64 Sx,.slice Sz S0 S1,.bool S2,.int .i64 S3] ∧ LS AH b8 2 fun ra ml rf => LS AH b9 2 fun p80 n80 c80 => Spec prog 161 #[.pointer q0,.agg #[.int .i64 Sk,.int .i64 Sl,.string Sm,.slice Sn Sp Ss,.int .i64 Su,.int .i64 Sv,.int .i64 Sx,.slice Sz S0 S1,.bool S2,.int .i64 S3],.slice ra ml rf,.slice p80 n80 c80] AH (AA R (fun z Ac => ∃ Kz LA LC LD LF LG LH LJ S4,z = (.tuple #[.agg #[.int .i64 Kz,.int .u64 LA,.slice LC LD LF,.slice LG LH LJ],.int .i64 S4]) ∧ R (.returned (.tuple #[.agg #[.int .i64 Kz,.int .u64 LA,.slice LC LD LF,.slice LG LH LJ],.int .i64 S4])) Ac))))))))) (LI .i64 AF b8 0 fun rZ => Br (rZ = 1) (∃ O8 MX O9 SG SH SI SJ SK SL SM SN SO SP SQ,Ay AF b4 0 [.int .i64 O8,.int .i64 MX,.string O9,.slice SG SH SI,.int .i64 SJ,.int .i64 SK,.int .i64 SL,.slice SM SN SO,.bool SP,.int .i64 SQ] ∧ LS AF b9 2 fun p45 n45 c45 => Spec prog 157 #[.pointer q0,.agg #[.int .i64 O8,.int .i64 MX,.string O9,.slice SG SH SI,.int .i64 SJ,.int .i64 SK,.int .i64 SL,.slice SM SN SO,.bool SP,.int .i64 SQ],.slice p45 n45 c45,(.func (.func 158) #[] #[(.pointer (aD b4 0)),(.pointer (aD b8 0))])] AF (AA R (fun z AH => ∃ KL KM KN KO KQ KR KS KT SR,z = (.tuple #[.agg #[.int .i64 KL,.int .u64 KM,.slice KN KO KQ,.slice KR KS KT],.int .i64 SR]) ∧ R (.returned (.tuple #[.agg #[.int .i64 KL,.int .u64 KM,.slice KN KO KQ,.slice KR KS KT],.int .i64 SR])) AH))) (LI .i64 AF b9 0 fun tV => Br (tV = 1) (∃ SS SU SX SY SZ Sa Sb Sc Sd Se Sf Sg Si Sj,Ay AF b4 0 [.int .i64 SS,.int .i64 SU,.string SX,.slice SY SZ Sa,.int .i64 Sb,.int .i64 Sc,.int .i64 Sd,.slice Se Sf Sg,.bool Si,.int .i64 Sj] ∧ LS AF b8 2 fun tW n57 tX => Spec prog 157 #[.pointer q0,.agg #[.int .i64 SS,.int .i64 SU,.string SX,.slice SY SZ Sa,.int .i64 Sb,.int .i64 Sc,.int .i64 Sd,.slice Se Sf Sg,.bool Si,.int .i64 Sj],.slice tW n57 tX,(.func (.func 159) #[] #[(.pointer (aD b4 0)),(.pointer (aD b9 0))])] AF (AA R (fun z AH => ∃ KU KV KW KX KY KZ Ka Kb Hw,z = (.tuple #[.agg #[.int .i64 KU,.int .u64 KV,.slice KW KX KY,.slice KZ Ka Kb],.int .i64 Hw]) ∧ R (.returned (.tuple #[.agg #[.int .i64 KU,.int .u64 KV,.slice KW KX KY,.slice KZ Ka Kb],.int .i64 Hw])) AH))) (LI .i64 AF b4 1 fun lr => Spec prog 128 #[.int .i64 lr] AF (AA R (CB fun t65 AH => Bo t65 (∃ Kc Kd Ke Kf Kg Kh Ki Kj Kk Kl Km Kn Ko Kq,Ay AH b4 0 [.int .i64 Kc,.int .i64 Kd,.string Ke,.slice Kf Kg Kh,.int .i64 Ki,.int .i64 Kj,.int .i64 Kk,.slice Kl Km Kn,.bool Ko,.int .i64 Kq] ∧ LS AH b8 2 fun lu n69 rO => LS AH b9 2 fun p71 n71 c71 => Spec prog 160 #[.pointer q0,.agg #[.int .i64 Kc,.int .i64 Kd,.string Ke,.slice Kf Kg Kh,.int .i64 Ki,.int .i64 Kj,.int .i64 Kk,.slice Kl Km Kn,.bool Ko,.int .i64 Kq],.slice lu n69 rO,.slice p71 n71 c71] AH (AA R (fun z Ac => ∃ Kr Ks Kt Ku Kv Kw Kx Ky J8,z = (.tuple #[.agg #[.int .i64 Kr,.int .u64 Ks,.slice Kt Ku Kv,.slice Kw Kx Ky],.int .i64 J8]) ∧ R (.returned (.tuple #[.agg #[.int .i64 Kr,.int .u64 Ks,.slice Kt Ku Kv,.slice Kw Kx Ky],.int .i64 J8])) Ac))) (∃ Sk Sl Sm Sn Sp Ss Su Sv Sx Sz S0 S1 S2 S3,Ay AH b4 0 [.int .i64 Sk,.int .i64 Sl,.string Sm,.slice Sn Sp Ss,.int .i64 Su,.int .i64 Sv,.int .i64 Sx,.slice Sz S0 S1,.bool S2,.int .i64 S3] ∧ LS AH b8 2 fun ra ml rf => LS AH b9 2 fun p80 n80 c80 => Spec prog 161 #[.pointer q0,.agg #[.int .i64 Sk,.int .i64 Sl,.string Sm,.slice Sn Sp Ss,.int .i64 Su,.int .i64 Sv,.int .i64 Sx,.slice Sz S0 S1,.bool S2,.int .i64 S3],.slice ra ml rf,.slice p80 n80 c80] AH (AA R (fun z Ac => ∃ Kz LA LC LD LF LG LH LJ S4,z = (.tuple #[.agg #[.int .i64 Kz,.int .u64 LA,.slice LC LD LF,.slice LG LH LJ],.int .i64 S4]) ∧ R (.returned (.tuple #[.agg #[.int .i64 Kz,.int .u64 LA,.slice LC LD LF,.slice LG LH LJ],.int .i64 S4])) Ac)))))))))))) : Spec prog 105 #[.pointer q0,.agg #[.int .i64 Dm,.int .i64 CZ,.string Dp,.slice Dt Dx Dy,.int .i64 Dn,.int .i64 Du,.int .i64 DJ,.slice D3 Dz D4,.bool DK,.int .i64 Cf],.slice p2 n2 c2] σ R := M.start h ok
end DM
namespace G8
variable {s0 : ByteArray} {x3 : Int}
def M : Fw := ⟨prog,131,f131,[90],[],false,[],[],[(224,[(0,wT),(3,wI)])]⟩
theorem ok : M.Ok := ⟨.cons call90 (AG.nil),mixed,func131,by kernel_rfl⟩
def ES := M.pt 0
theorem start (h : ES R s0 0 σ) : Spec prog 131 #[.string s0] σ R := M.start h ok
theorem Af (h : Br (x3 < ((ByteArray.size s0 : Nat) : Int)) (∃ u11 : UInt8,0 ≤ x3 ∧ (ByteArray.data s0)[Int.toNat x3]? = some u11 ∧ Spec prog 90 #[(.int .u8 ((UInt8.toNat u11 : Nat) : Int))] σ (AA R (CB fun t12 y => Bo t12 (AJ (x3 + 1) ∧ ES R s0 (x3 + 1) y) (R (.returned (.int .i64 x3)) y)))) (R (.returned (.int .i64 x3)) σ)) : ES R s0 x3 σ := M.of h ok rfl
end G8
namespace DX
variable {q0 : Option Addr}
def M : Fw := ⟨prog,139,f139,[95],[],false,[],[],[]⟩
theorem ok : M.Ok := ⟨.cons call95 (AG.nil),mixed,func139,by kernel_rfl⟩
theorem start (h : Spec prog 95 #[.pointer q0,(.func (.func 171) #[.pointer q0] #[]),.int .i64 5,.int .i64 10] σ (AA R (fun z y => z = (.tuple #[]) ∧ R (.returned (.tuple #[])) y))) : Spec prog 139 #[.pointer q0] σ R := M.start h ok
end DX
namespace CK
variable {s0 : ByteArray} {x1 : Int}
def M : Fw := ⟨prog,169,f169,[],[],false,[],[],[]⟩
theorem ok : M.Ok := ⟨AG.nil,mixed,func169,by kernel_rfl⟩
theorem start (h : EN prog 209 #[.string s0,.int .u8 x1] σ (CI .i64 fun x7 y => R (.returned (.int .i64 x7)) y)) : Spec prog 169 #[.string s0,.int .u8 x1] σ R := M.start h ok
end CK
namespace BH
variable {q0 p3 : Option Addr} {n3 c3 : Nat}
def M : Fw := ⟨prog,170,f170,[135,136,210,211],[],false,[],[],[(480,[(0,wQ),(3,wL)]),(965,[(0,wQ),(3,wL)])]⟩
theorem ok : M.Ok := ⟨.cons call135 (.cons call136 (.cons call210 (.cons call211 (AG.nil)))),mixed,func170,by kernel_rfl⟩
def Bh := M.pt 0
def WJ := M.pt 1
theorem start (h : Spec prog 210 #[.pointer q0,(.string (ByteArray.mk #[40]))] σ (AA R (fun z y => z = (.tuple #[]) ∧ Bh R q0 none 0 0 y))) : Spec prog 170 #[.pointer q0] σ R := M.start h ok
theorem A3 (h : Spec prog 136 #[.pointer q0,.int .i64 5,(.string (ByteArray.mk #[41]))] σ (AA R (CB fun t7 y => Bn t7 (Br (0 < (n3 : Int)) (Spec prog 210 #[.pointer q0,(.string (ByteArray.mk #[44]))] y (AA R (fun z AF => z = (.tuple #[]) ∧ WJ R q0 p3 n3 c3 AF))) (WJ R q0 p3 n3 c3 y)) (Spec prog 135 #[.pointer q0] y (AA R (fun z AF => ∃ IN WO AL1 AL2,z = (.agg #[.int .i64 IN,.int .i64 WO,.string AL1,.int .i64 AL2]) ∧ R (.returned (.slice p3 n3 c3)) AF)))))) : Bh R q0 p3 n3 c3 σ := M.of h ok rfl
theorem Q6 (h : Spec prog 211 #[.pointer q0] σ (AA R (CT fun s16 y => Al y fun b17 => AK prog (Builtin.append_ #[34,34] 34 #[.slice p3 n3 c3,(.slice (aD b17 0) 1 1)]) (Hp.set y b17 (.cells #[.string s16] 9 (0,0))) (CS fun p18 n18 c18 AF => Bh R q0 p18 n18 c18 AF)))) : WJ R q0 p3 n3 c3 σ := M.of h ok rfl
end BH
namespace DY
variable {p0 : Option Addr} {n0 c0 : Nat}
def M : Fw := ⟨prog,185,f185,[186],[],false,[],[],[]⟩
theorem ok : M.Ok := ⟨.cons call186 (AG.nil),mixed,func185,by kernel_rfl⟩
theorem start (h : AJ ((n0 : Int) - 1) ∧ Pq p0 fun b7 o7 => In (((n0 : Int) - 1)) (n0 : Int) ∧ LI .u64 σ b7 (o7 + Int.toNat ((n0 : Int) - 1) * 1) fun x8 => Spec prog 186 #[.int .u64 x8] σ (AA R (CI .u64 fun x9 y => R (.returned (.int .u64 x9)) y))) : Spec prog 185 #[.slice p0 n0 c0] σ R := M.start h ok
end DY
namespace DZ
variable {p0 p1 : Option Addr} {n0 c0 n1 c1 : Nat}
def M : Fw := ⟨prog,189,f189,[190],[],false,[],[],[]⟩
theorem ok : M.Ok := ⟨.cons call190 (AG.nil),mixed,func189,by kernel_rfl⟩
theorem start (h : AJ ((n0 : Int) - 1) ∧ Pq p0 fun b9 o9 => In (((n0 : Int) - 1)) (n0 : Int) ∧ LI .u64 σ b9 (o9 + Int.toNat ((n0 : Int) - 1) * 1) fun x10 => In 0 (n0 : Int) ∧ LI .u64 σ b9 o9 fun FK => Spec prog 190 #[.int .u64 x10,.int .u64 FK] σ (AA R (CI .u64 fun XK y => R (.returned (.int .u64 XK)) y))) : Spec prog 189 #[.slice p0 n0 c0,.slice p1 n1 c1] σ R := M.start h ok
end DZ
namespace fZ
variable {FD Ej QW Nl H0 Ji : Int} {QX : ByteArray} {VB R5 p1 : Option Addr} {UX VC Q5 R6 n1 c1 : Nat} {M6 : Bool}
def M : Fw := ⟨prog,207,f207,[146,149,150],[2],false,[],[],[]⟩
theorem ok : M.Ok := ⟨.cons call146 (.cons call149 (.cons call150 (AG.nil))),mixed,func207,by kernel_rfl⟩
theorem start (h : ∀ b2 : Nat,Br (H0 = 3) (Spec prog 149 #[.slice p1 n1 c1,.slice R5 Q5 R6] σ (AA R (CS fun Ly n11 Lz y => R (.returned (.slice Ly n11 Lz)) y))) (Spec prog 150 #[.slice p1 n1 c1,.slice R5 Q5 R6] σ (AA R (CS fun aZ n15 WH y => Spec prog 146 #[.slice aZ n15 WH] y (AA R (CS fun fL n16 YC AF => R (.returned (.slice fL n16 YC)) AF)))))) : Spec prog 207 #[.agg #[.int .i64 FD,.int .i64 Ej,.string QX,.slice VB UX VC,.int .i64 QW,.int .i64 Nl,.int .i64 H0,.slice R5 Q5 R6,.bool M6,.int .i64 Ji],.slice p1 n1 c1] σ R := M.start h ok
end fZ
namespace Ep
variable {q0 : Option Addr}
def M : Fw := ⟨prog,211,f211,[66,67,126,135],[],false,[],[],[(14,[(0,wQ)])]⟩
theorem ok : M.Ok := ⟨.cons call66 (.cons call67 (.cons call126 (.cons call135 (AG.nil)))),mixed,func211,by kernel_rfl⟩
def ES := M.pt 0
theorem start (h : Spec prog 66 #[.pointer q0] σ (AA R (fun z y => ∃ GJ Fp He x4d,z = (.agg #[.int .i64 GJ,.int .i64 Fp,.string He,.int .i64 x4d]) ∧ Br (GJ ≠ 3) (Spec prog 67 #[.pointer q0] y (AA R (fun z AF => z = (.tuple #[]) ∧ ES R q0 AF))) (Spec prog 66 #[.pointer q0] y (AA R (fun z AF => ∃ x9a x9b s9c x9d,z = (.agg #[.int .i64 x9a,.int .i64 x9b,.string s9c,.int .i64 x9d]) ∧ Spec prog 126 #[.string s9c] AF (AA R (CB fun t11 AH => Bn t11 (Spec prog 67 #[.pointer q0] AH (AA R (fun z Ac => z = (.tuple #[]) ∧ ES R q0 Ac))) (ES R q0 AH))))))))) : Spec prog 211 #[.pointer q0] σ R := M.start h ok
theorem Af (h : Spec prog 135 #[.pointer q0] σ (AA R (fun z y => ∃ Rv YG ll AL3,z = (.agg #[.int .i64 Rv,.int .i64 YG,.string ll,.int .i64 AL3]) ∧ R (.returned (.string ll)) y))) : ES R q0 σ := M.of h ok rfl
end Ep
namespace strings_Split
variable {s0 s1 : ByteArray}
end strings_Split
namespace Fh
variable {p0 Dt D3 p2 : Option Addr} {n0 c0 Dx Dy Dz D4 n2 c2 b3 : Nat} {Dm CZ Dn Du DJ Cf : Int} {Dp : ByteArray} {DK : Bool}
def M : Fw := ⟨prog,224,f224,[],[5],false,[],[],[]⟩
theorem ok : M.Ok := ⟨AG.nil,mixed,func224,by kernel_rfl⟩
theorem start (h : ∀ b5 : Nat,∃ v9,Hp.ld σ ⟨b3,0,none⟩ = some v9 ∧ ∃ (f11 : Nat) (Yk Yl : Array Value),v9 = .func (.func f11) Yk Yl ∧ Enters prog f11 ∧ Spec prog f11 (Yk ++ #[.slice p0 n0 c0] ++ Yl) σ (AA R (CI .u64 fun x11 y => R (.returned (.tuple #[.int .u64 x11,.bool true])) y))) : Spec prog 224 #[.slice p0 n0 c0,.agg #[.int .i64 Dm,.int .i64 CZ,.string Dp,.slice Dt Dx Dy,.int .i64 Dn,.int .i64 Du,.int .i64 DJ,.slice D3 Dz D4,.bool DK,.int .i64 Cf],.slice p2 n2 c2,(.pointer (aD b3 0))] σ R := M.start h ok
end Fh
namespace Er
variable {q0 : Option Addr} {v1 : Value}
def M : Fw := ⟨prog,251,f251,[66,97,135],[],false,[],[],[(6,[(0,wQ),(1,wV)])]⟩
theorem ok : M.Ok := ⟨.cons call66 (.cons call97 (.cons call135 (AG.nil))),mixed,func251,by kernel_rfl⟩
def rR := M.pt 0
theorem start (h : Pq q0 fun b5 o5 => LI .i64 σ b5 (o5 + 1) fun x7 => Br (x7 = 64) (Spec prog 66 #[(.pointer (aD b5 o5))] σ (AA R (fun z y => ∃ ia Qb ib tY,z = (.agg #[.int .i64 ia,.int .i64 Qb,.string ib,.int .i64 tY]) ∧ Spec prog 97 #[(.pointer (aD b5 o5)),.int .i64 182,.agg #[.int .i64 ia,.int .i64 Qb,.string ib,.int .i64 tY]] y (AA R (fun z AF => z = (.tuple #[]) ∧ rR R (aD b5 o5) v1 AF))))) (rR R (aD b5 o5) v1 σ)) : Spec prog 251 #[.pointer q0,v1] σ R := M.EE h ok [(0,.o (.Q q0)),(1,.o (.V v1))] rfl rfl (by kernel_rfl)
theorem R8 (h : Pq q0 fun BY Q3 => LI .i64 σ BY (Q3 + 1) fun x16 => AJ (x16 + 1) ∧ AK prog (Instr.storeAt 3 (.pointer (aD BY (Q3 + 1))) (.int .i64 (x16 + 1))) σ (fun _ y => Spec prog 135 #[(.pointer (aD BY Q3))] y (AA R (fun z AF => ∃ AL4 AL5 AL6 AL7,z = (.agg #[.int .i64 AL4,.int .i64 AL5,.string AL6,.int .i64 AL7]) ∧ ∃ (f23 : Nat) (w6 w7 : Array Value),v1 = .func (.func f23) w6 w7 ∧ Enters prog f23 ∧ Spec prog f23 (w6 ++ #[] ++ w7) AF (AA R (fun z AH => z = (.tuple #[]) ∧ LI .i64 AH BY (Q3 + 1) fun Jz => AJ (Jz - 1) ∧ AK prog (Instr.storeAt 3 (.pointer (aD BY (Q3 + 1))) (.int .i64 (Jz - 1))) AH (fun _ Ac => R (.returned (.tuple #[])) Ac))))))) : rR R q0 v1 σ := M.of h ok rfl
end Er
namespace Es
variable {x0 : Int}
def M : Fw := ⟨prog,302,f302,[],[],false,[],[],[]⟩
theorem ok : M.Ok := ⟨AG.nil,mixed,func302,by kernel_rfl⟩
theorem start (h : Df (Go.bits .or .u8 x0 32) fun x4 => R (.returned (.int .u8 x4)) σ) : Spec prog 302 #[.int .u8 x0] σ R := M.start h ok
end Es
namespace CL
variable {s0 s1 : ByteArray}
def M : Fw := ⟨prog,315,f315,[],[],false,[],[],[]⟩
theorem ok : M.Ok := ⟨AG.nil,mixed,func315,by kernel_rfl⟩
theorem start (h : Br ((((ByteArray.size s1 : Nat) : Int) : Int) ≤ ((ByteArray.size s0 : Nat) : Int)) (∃ s14,YF prog (Instr.sliceAt 9 (.string s0) none (some (.int .i64 ((ByteArray.size s1 : Nat) : Int))) none) σ (.string s14) ∧ R (.returned (.bool (ByteArray.toList s14 == ByteArray.toList s1))) σ) (R (.returned (.bool false)) σ)) : Spec prog 315 #[.string s0,.string s1] σ R := M.start h ok
end CL
end TwW
end
end
