/-
  Part 2 of the proof that the law EvalFiltersUptoCardSaid of the given program answers true for every input of the given statement; the input reads behind the call as it did. (The texts: packed from 7 texts. Names are shortened by the packing program, for the bound on size.)
-/
import Derived.Test.YtlmhidjgplomgaaGreatDoorA1
set_option linter.all false
section
namespace Tw
open Go
variable [E5]
def kg (P : Program) : Op → Bool
 | .call c => match c.callee with
   | .builtin .len => false
   | .builtin .cap => false
   | .builtin .min => false
   | .builtin .max => false
   | .builtin .real => false
   | .builtin .imag => false
   | .builtin .complex => false
   | _ => true
 | .convert T T' _ => match P.underlying T,P.underlying T' with
   | some (.int _),some (.int _) => false
   | _,_ => true
 | .box .. => true
 | .alloc .. => true
 | .store .. => true
 | .buildSlice .. => true
 | .makeSlice .. => true
 | .mapUpdate .. => true
 | .makeMap .. => true
 | .insert .. => true
 | .range .. => true
 | .next .. => true
 | .lookup .. => true
 | .entryStore .. => true
 | .mapEntry .. => true
 | .makeChan .. => true
 | .binOp b T _ _ _ => flB b && AKk P T
 | _ => false
def gZ (s : S) : Option Operand → Option (Option Value)
 | none => some none
 | some x => match s.op x with
   | some v => some (some (v.den s.vl))
   | none => none
def ru (P : Program) (b : BinOp) (T : TypeId) (x y : Option SV) : Bool := match XC x,XC y with
 | some _,some _ => true
 | _,_ => match P.underlying T with
   | some .string => match b with
     | .eql => true
     | .neq => true
     | .add => true
     | _ => false
   | some (.pointer _) => true
   | some .bool => true
   | _ => false
def AKl : Option SV → Bool
 | some (.v (.a (.sl _ _ _))) => true
 | _ => false
def anyM (P : Program) (op : Op) (ty : TypeId) (s : S) : Option (Sem Value) := match op with
 | .slice T x lo hi mx => match AKl (s.op x) && mx.isNone with
   | true => none
   | false => match s.op x,gZ s lo,gZ s hi,gZ s mx with
     | some w,some l,some h,some m => some (Instr.sliceAt T (w.den s.vl) l h m)
     | _,_,_,_ => none
 | .unOp u _ x => match u,s.op x with
   | .not,_ => none
   | .neg,v => match XC v,v with
     | some _,_ => none
     | none,some v => some (Op.unary .neg (v.den s.vl))
     | none,none => none
   | u,some v => some (Op.unary u (v.den s.vl))
   | _,none => none
 | .binOp b T x y _ => match ru P b T (s.op x) (s.op y) with
   | true => none
   | false => match s.op x,s.op y with
     | some u,some v => some (do eqGuard b T x y (u.den s.vl) (v.den s.vl); binOp b T (u.den s.vl) (v.den s.vl))
     | _,_ => none
 | .call c => match c.callee,c.args.toList,c.argTypes.toList with
   | .builtin .len,[x],[T] => match s.op x with
     | some (.v (.a (.mp m))) => some (Builtin.len_ #[T] ty #[.map m])
     | _ => none
   | .builtin .real,[x],_ => match s.op x with
     | some v => some (Builtin.real_ c.argTypes ty #[v.den s.vl])
     | none => none
   | .builtin .imag,[x],_ => match s.op x with
     | some v => some (Builtin.imag_ c.argTypes ty #[v.den s.vl])
     | none => none
   | .builtin .complex,[x,y],_ => match s.op x,s.op y with
     | some u,some v => some (Builtin.complex_ c.argTypes ty #[u.den s.vl,v.den s.vl])
     | _,_ => none
   | _,_,_ => none
 | _ => none
theorem Ow {s : S} {J : Env} {x : Option Operand} {v : Option Value} (h : gZ s x = some v) : x.map (AD (s.e J)) = v := by
 cases x with
 | none => simp only [gZ,Option.some.injEq] at h; subst h; rfl
 | some x =>
   simp only [gZ] at h
   split at h
   · rename_i u hu
     cases h
     simp only [Option.map_some]
     rw [ev hu]
   · cases h
theorem ga {P : Program} {op : Op} {ty : TypeId} {s : S} {m : Sem Value} (h : anyM P op ty s = some m) (J : Env) : ∀ o : Oper,o.op = op → o.type = ty → execOp (AD (s.e J)) o = (do pure (Next.value (← m))) := fun o ho ht => by
 unfold anyM at h
 split at h
 · rename_i T x lo hi mx
   split at h
   · cases h
   · split at h
     · rename_i w l hh mm h1 h2 h3 h4
       cases h
       simp only [execOp,ho,Ow h2,Ow h3,Ow h4,ev h1]
     · cases h
 · rename_i u T x
   split at h
   · cases h
   · split at h
     · cases h
     · rename_i hv
       cases h
       simp only [execOp,ho,ev hv]
     · cases h
   · rename_i hv
     cases h
     simp only [execOp,ho,ev hv]
   · cases h
 · rename_i b T x y T'
   split at h
   · cases h
   · split at h
     · rename_i u v hu hv
       cases h
       simp only [execOp,ho,ev hu,ev hv]
     · cases h
 · rename_i c
   obtain ⟨ce,AWZ,ts⟩ := c
   split at h
   · rename_i x T h1 h2 h3
     simp only at h1 h2 h3
     have e1 : AWZ = #[x] := by rw [← Array.toList_inj]; simpa using h2
     have e2 : ts = #[T] := by rw [← Array.toList_inj]; simpa using h3
     subst h1 e1 e2
     split at h
     · rename_i mm hx
       cases h
       exact au (by rw [ev hx]; rfl) o ho ht
     · cases h
   · rename_i x h1 h2
     simp only at h1 h2 h
     have e1 : AWZ = #[x] := by rw [← Array.toList_inj]; simpa using h2
     subst h1 e1
     split at h
     · rename_i v hv
       cases h
       exact Pk (ev hv) o ho ht
     · cases h
   · rename_i x h1 h2
     simp only at h1 h2 h
     have e1 : AWZ = #[x] := by rw [← Array.toList_inj]; simpa using h2
     subst h1 e1
     split at h
     · rename_i v hv
       cases h
       exact Pm (ev hv) o ho ht
     · cases h
   · rename_i x y h1 h2
     simp only at h1 h2 h
     have e1 : AWZ = #[x,y] := by rw [← Array.toList_inj]; simpa using h2
     subst h1 e1
     split at h
     · rename_i u v hu hv
       cases h
       exact J3 (ev hu) (ev hv) o ho ht
     · cases h
   · cases h
 · cases h
def ye (P : Program) (ty : TypeId) (m : Sem Value) (s : S) (K : SV → S → Prop) : Prop := s.ex P ty fun v s => YF P m s.σ (v.den s.vl) ∧ K v s
theorem Rb {P : Program} {op : Op} {ty : TypeId} {s : S} {m : Sem Value} {K : SV → S → Prop} (hm : anyM P op ty s = some m) (h : ye P ty m s K) : ∃ v s',s.II s' ∧ (∀ J,Yd P (s.e J) s.b s.σ op ty (v.den s'.vl)) ∧ K v s' := by
 obtain ⟨v,s',h1,hy,hk⟩ := S.RZ h
 rw [h1.σ] at hy
 exact ⟨v,s',h1,fun J => Yd.any (ga hm J) hy,hk⟩
def Rc (ops : Array Oper) (gd : Option (Nat × Bool)) (s : S) (K : Bool → S → Prop) : Prop := match gd with
 | none => K true s
 | some (j,want) => match (ops[j]?).bind (·.dst) with
   | none => False
   | some d => match Vn s.env d with
     | some (.v (.a .un)) => K false s
     | v => s.rl v fun t s => K (t == want) s
theorem I0 {ops : Array Oper} {gd : Option (Nat × Bool)} {s : S} {K : Bool → S → Prop} (h : Rc ops gd s K) : ∃ b s',s.II s' ∧ (∀ J,AP ops (s.e J) gd = b) ∧ K b s' := by
 unfold Rc at h
 split at h
 · exact ⟨true,s,.refl s,fun _ => rfl,h⟩
 · rename_i j want
   split at h
   · cases h
   · rename_i d hd
     split at h
     · rename_i hv
       refine ⟨false,s,.refl s,fun J => ?_,h⟩
       have : s.e J d = undef := EM hv
       simp only [AP,hd,this]
       rfl
     · obtain ⟨t,s',x,h1,h2,h3,h4,h⟩ := S.FQ h
       refine ⟨_,s',h1,fun J => ?_,h⟩
       have : s.e J d = .bool t := (EM h3).trans h4
       simp only [AP,hd,this]
       cases t <;> cases want <;> rfl
def eT (J : Env) (K : S → Prop) : Env → Bx → Hp → Prop := fun e bx σ => ∃ s,e = s.e J ∧ bx = s.b ∧ σ = s.σ ∧ K s
structure Cx extends bR where
 n : Nat
 Ox : List (Nat × TypeId) := []
structure Cx.Ok (c : Cx) (g : Gl) : Prop where
 P : c.P = g.P
 R : c.R = g.R
 E : AG g.P c.Nb
 n : c.n = g.n
 Gx : g.Gx = none
 ds : g.ds = []
def kp0 : KP := fun _ _ F => F
def gb (l : List FO) (i : Nat) (o : Nat) (xs : List Bl) : List FO := match l with
 | [] => []
 | (j,t,cs) :: l => bif Nat.beq j i then (j,t,bM cs o xs) :: l else (j,t,cs) :: gb l i o xs
def Re {α : Type} : List α → Nat
 | [] => 0
 | _ :: l => Re l + 1
theorem Q0 {α : Type} : ∀ l : List α,Re l = l.length
 | [] => rfl
 | _ :: l => by simp only [Re,List.length_cons]; rw [Q0 l]
def Oy : List Bl → List Value
 | [] => []
 | .raw v :: l => v :: Oy l
 | .un :: l => undef :: Oy l
 | _ :: l => Oy l
def yf (F : Prop) : List Value → Prop
 | [] => F
 | [v] => (Value.oneCell' v = true) ∧ F
 | l => yh l ∧ F
where
 yh : List Value → Prop
   | [] => True
   | [v] => Value.oneCell' v = true
   | v :: l => Value.oneCell' v = true ∧ yh l
def SV.bS : SV → Option (List Bl)
 | .v (.a x) => some [x]
 | .v (.agg l) => some l
 | .Uf _ => none
def mapOf (P : Program) (l : List (Nat × TypeId)) (x : Operand) : Option (TypeId × TypeId) := match x with
 | .tmp t => match l.find? fun p => Nat.beq p.1 t with
   | some p => match P.underlying p.2 with
     | some (.map k v) => some (k,v)
     | _ => none
   | none => none
 | _ => none
def kh (c : Cx) (dst : Option Nat) (x : Operand) (ty : TypeId) (s : S) (K : S → Prop) : Prop := match dst,s.op x,mapOf c.P c.Ox x with
 | some d,some u,some (tk,tv) => AK c.P (Instr.next (u.den s.vl) false ty) s.σ (fun v σ1 => (v = (.tuple #[(.bool false)]) ∧ K ((s.hp σ1).put (some d) (.Uf [.a (.bl false)]))) ∨
     (match s.ok with
       | true => qh c.P tk s.vl fun a vl => qh c.P tv vl fun b vl => v = (SV.Uf [.a (.bl true),a,b]).den vl ∧ K (((s.hp σ1).w vl).put (some d) (.Uf [.a (.bl true),a,b]))
       | false => False))
 | _,_,_ => False
def yi (c : Cx) (T : TypeId) (i o : Nat) (v : SV) (s : S) (K : S → Prop) : Prop := match v.bS,XU c.P T with
 | some l,some n => match Xd s.bx i with
   | some (t,cs) => match Nat.beq (Re l) n && Nat.ble (o + Re l) (Re cs) with
     | true => yf (K ⟨s.env,gb s.bx i o l,s.vl,s.σ⟩) (Oy l)
     | false => False
   | none => False
 | _,_ => False
def ki (c : Cx) (ops : Array Oper) (i : Nat) (s : S) (K : S → Prop) : Prop := match ops[i]? with
 | none => False
 | some o => match HK o.dst c.n with
   | false => False
   | true => Rc ops o.guard s fun b s => match b with
     | false => K (s.put o.dst (.at .un))
     | true => match o.op with
       | .load T x => ldV c.P T x s fun _ v s => K (s.put o.dst v)
       | .mapUpdate T m k v => match o.dst,s.op m,s.op k,s.op v with
         | none,some m,some k,some v => AK c.P (Instr.mapUpdate T (m.den s.vl) (k.den s.vl) (v.den s.vl)) s.σ (fun _ σ1 => K (s.hp σ1))
         | _,_,_,_ => False
       | .insert T m k v => match o.dst,s.op m,s.op k,s.op v with
         | none,some m,some k,some v => AK c.P (Instr.mapUpdate T (m.den s.vl) (k.den s.vl) (v.den s.vl)) s.σ (fun _ σ1 => K (s.hp σ1))
         | _,_,_,_ => False
       | .next x false => kh c o.dst x o.type s K
       | .entry x => match s.op x,mapOf c.P c.Ox x with
         | some u,some (tk,tv) => AK c.P (Instr.entry (u.den s.vl)) s.σ (fun v σ1 => Hu (ka c.P tk tv) o.dst (s.hp σ1) s.σ v kp0 K)
         | _,_ => False
       | .panic x => match s.op x with
         | some (.v (.a (.raw (.iface T u)))) => c.R (.panicked [{ v := .iface T u,recovered := false }]) s.σ
         | _ => False
       | .store T x y => match o.dst,kT (s.op x),s.op y with
         | none,some (.bx i b),some v => yi c T i b v s K
         | _,_,_ => gX c.tobR o.dst (.store T x y) o.type s kp0 K
       | op => match kg c.P op,anyM c.P op o.type s with
         | true,_ => gX c.tobR o.dst op o.type s kp0 K
         | false,some m => ye c.P o.type m s fun v s => K (s.put o.dst v)
         | false,none => yv c.P c.wr op s fun v s => K (s.put o.dst v)
def rv (c : Cx) (ops : Array Oper) : List Nat → S → (S → Prop) → Prop
 | [],s,K => K s
 | i :: is,s,K => ki c ops i s fun s => rv c ops is s K
section
variable {g : Gl} {ops : Array Oper} {i : Nat} {J : Env} {s : S} {K : S → Prop} {c : Cx}
theorem eU {s s' : S} {K : Env → Bx → Hp → Prop} (h : s.II s') (hk : AM g ops i (s'.e J) s'.b s'.σ K) : AM g ops i (s.e J) s.b s.σ K := by
 rw [← h.e J,← h.b,← h.σ]; exact hk
theorem ADE {s : S} {o : Oper} {K : SV → S → Prop} {K' : Env → Bx → Hp → Prop} (ho : ops[i]? = some o) (hw : AP ops (s.e J) o.guard = true) (hd : HK o.dst g.n = true) (h : YP g.P o.op o.type s K) (hk : ∀ v s',s.II s' → K v s' → K' ((s'.put o.dst v).e J) s'.b s'.σ) :
   AM g ops i (s.e J) s.b s.σ K' := by
 obtain ⟨v,s',h1,h2,h3⟩ := h
 have := hk v s' h1 h3
 rw [S.IF,h1.e J,h1.b,h1.σ] at this
 exact AM.y (C9 ho) hw hd (h2 J _) this
theorem Yd.up {P : Program} {e : Env} {bx : Bx} {σ : Hp} {b : Nat} {op : Op} {ty : TypeId} {v : Value} (h : Yd P e bx (fun x => if x = b then σ x else none) op ty v) : Yd P e bx σ op ty v := fun o ho ht w hs hb => h o ho ht w (fun k u hk => by
 simp only at hk
 split at hk
 · exact hs k u hk
 · cases hk) hb
theorem AM.mono {e : Env} {bx : Bx} {σ : Hp} {K K' : Env → Bx → Hp → Prop} (h : AM g ops i e bx σ K) (hk : ∀ e bx σ,K e bx σ → K' e bx σ) : AM g ops i e bx σ K' := fun w0 F a w st => wpOpIn_mono (fun a' w' ⟨e',b',σ',NO,h'⟩ => ⟨e',b',σ',NO,hk _ _ _ h'⟩) (h w0 F a w st)
theorem ADF {dst : Option Nat} {op : Op} {ty : TypeId} {gd : Option (Nat × Bool)} (hc : c.Ok g) (hs : sig ops i = some (dst,op,ty,gd)) (hw : AP ops (s.e J) gd = true) (hd : HK dst g.n = true) (h : gX c.tobR dst op ty s kp0 K) : AM g ops i (s.e J) s.b s.σ (eT J K) := by
 have := Ra (c := c.tobR) (kq := fun _ _ => True) (J := J) hc.P hc.R hc.E (fun _ _ F h => ⟨h,trivial⟩) (fun _ _ _ => trivial) hs hw hd h
 intro w0 F a w st
 refine wpOpIn_mono ?_ (this w0 F a w st)
 rintro a' w' ⟨e',GN,σ',NO,s',rfl,rfl,rfl,_,_,hk⟩
 exact ⟨_,_,_,NO,s',rfl,rfl,rfl,hk⟩
theorem Xi {dst : Option Nat} {x : Operand} {ty : TypeId} {gd : Option (Nat × Bool)} (hc : c.Ok g) (hs : sig ops i = some (dst,.next x false,ty,gd)) (hw : AP ops (s.e J) gd = true) (hd : HK dst g.n = true) (h : kh c dst x ty s K) : AM g ops i (s.e J) s.b s.σ (eT J K) := by
 unfold kh at h
 split at h
 · rename_i d u tk tv hu hm
   rw [hc.P] at h
   refine AM.UE hs hw hd (Instr.next (u.den s.vl) false ty) (fun o ho ht => by simp only [execOp,ho,ht]; rw [ev hu]) (h.mono fun v σ1 hr => ?_)
   rcases hr with ⟨rfl,hk⟩ | hr
   · exact ⟨_,(S.IF (s := s.hp σ1) (x := .Uf [.a (.bl false)])).symm,(S.IG (s := s.hp σ1) (x := .Uf [.a (.bl false)])).symm,(S.FP (s := s.hp σ1) (x := .Uf [.a (.bl false)])).symm,hk⟩
   · split at hr
     · rename_i C8
       obtain ⟨a,w1,h1,hr⟩ := EO hr
       obtain ⟨b,w2,h2,hr⟩ := EO hr
       obtain ⟨hv,hk⟩ := hr
       have Pj := S.RS (s := s.hp σ1) C8 (h1.trans h2).le
       refine ⟨_,?_,?_,?_,hk⟩
       · rw [S.IF,Pj.e J,hv]; rfl
       · rw [S.IG,Pj.b]; rfl
       · rw [S.FP]; rfl
     · cases hr
 · cases h
theorem Xj {vl : Vl} {i o : Nat} {l : List Bl} : ∀ {bx : List FO} {t : TypeId} {cs : List Bl},Xd bx i = some (t,cs) → ∃ j,(Ed vl bx)[j]? = some (nth 0 vl.δ i,.cells (A4 vl cs).toArray t (0,0)) ∧ Ed vl (gb bx i o l) = (Ed vl bx).set j (nth 0 vl.δ i,.cells (A4 vl (bM cs o l)).toArray t (0,0))
 | (k,u,ds) :: r,t,cs,h => by
   simp only [Xd] at h
   cases hk : Nat.beq k i with
   | true =>
     rw [hk] at h; simp only [cond_true,Option.some.injEq,Prod.mk.injEq] at h
     obtain ⟨rfl,rfl⟩ := h
     have := Nat.eq_of_beq_eq_true hk
     subst this
     exact ⟨0,rfl,by simp only [gb,hk,cond_true,Ed,List.set_cons_zero]⟩
   | false =>
     rw [hk] at h; simp only [cond_false] at h
     obtain ⟨j,h1,h2⟩ := Xj (vl := vl) (o := o) (l := l) h
     exact ⟨j + 1,by simpa only [Ed,List.getElem?_cons_succ] using h1,by simp only [gb,hk,cond_false,Ed,List.set_cons_succ,h2]⟩
theorem bT {F : Prop} {l : List Value} (h : yf F l) : F ∧ ∀ v ∈ l,Value.oneCell' v = true := by
 have cj : ∀ {l : List Value},yf.yh l → ∀ v ∈ l,Value.oneCell' v = true := fun {l} => by
   induction l with
   | nil => intro _ v hv; cases hv
   | cons a l ih =>
     intro h v hv
     cases l with
     | nil => simp at hv; subst hv; exact h
     | cons b l =>
       rcases List.mem_cons.1 hv with rfl | hv
       · exact h.1
       · exact ih h.2 v hv
 match l,h with
 | [],h => exact ⟨h,fun v hv => by cases hv⟩
 | [v],h => exact ⟨h.2,fun u hu => by simp at hu; subst hu; exact h.1⟩
 | a :: b :: l,h => exact ⟨h.2,cj h.1⟩
theorem Rf {vl : Vl} : ∀ {l : List Bl},(∀ v ∈ Oy l,Value.oneCell' v = true) → ∀ u ∈ A4 vl l,Value.oneCell' u = true
 | [],_,u,hu => by cases hu
 | x :: l,h,u,hu => by
   have tl : ∀ v ∈ Oy l,Value.oneCell' v = true := fun v hv => h v (by cases x <;> first | exact hv | exact List.mem_cons_of_mem _ hv)
   rcases List.mem_cons.1 hu with rfl | hu
   · cases x <;> try rfl
     case bs i n => cases n <;> rfl
     case raw v => exact h v (List.mem_cons_self ..)
     case un => exact h undef (List.mem_cons_self ..)
   · exact Rf tl u hu
theorem bU {vl : Vl} {v : SV} {l : List Bl} (h : v.bS = some l) (ho : ∀ u ∈ A4 vl l,Value.oneCell' u = true) : (v.den vl).cells = (A4 vl l).toArray := by
 unfold SV.bS at h
 split at h
 · rename_i x
   cases h
   have := ho (x.den vl) (List.mem_cons_self ..)
   simp only [SV.den,Gj.den,A4]
   cases hx : x.den vl <;> first | rfl | (rw [hx] at this; cases this)
 · cases h; rfl
 · cases h
theorem bV {T ty : TypeId} {x y : Operand} {gd : Option (Nat × Bool)} {k b : Nat} {v : SV} (hc : c.Ok g) (hs : sig ops i = some (none,.store T x y,ty,gd)) (hw : AP ops (s.e J) gd = true) (hx : kT (s.op x) = some (.bx k b)) (hy : s.op y = some v) (h : yi c T k b v s K) : AM g ops i (s.e J) s.b s.σ (eT J K) := by
 unfold yi at h
 split at h
 · rename_i l n hl hz
   split at h
   · rename_i t cs hg
     split at h
     · rename_i hd
       simp only [Bool.and_eq_true,Q0] at hd
       obtain ⟨hk,ho⟩ := bT h
       have bW := Rf (vl := s.vl) ho
       have bX := bU (vl := s.vl) hl bW
       obtain ⟨u,e1,e2⟩ := Ef hx
       obtain ⟨j,h1,h2⟩ := Xj (vl := s.vl) (o := b) (l := l) hg
       rw [hc.P] at hz
       refine AM.xu (b := nth 0 s.vl.δ k) (o := b) (c := (A4 s.vl cs).toArray) (c' := (A4 s.vl (bM cs b l)).toArray) (t := t) (j := j) hs hw (CZ hz) (by rw [ev e1,e2]; rfl) (ev hy) h1 ?_ ?_ ?_ ?_ ?_
       · rw [bX]; simp [DB]; exact Nat.eq_of_beq_eq_true hd.1
       · have := Nat.eq_of_beq_eq_true hd.1
         have h3 := Nat.le_of_ble_eq_true hd.2
         exact Nat.ble_eq_true_of_le (by simp [DB]; omega)
       · rw [bX]; exact List.all_eq_true.2 fun u hu => bW u (by simpa using hu)
       · rw [bX,RW]
       · exact ⟨⟨s.env,gb s.bx k b l,s.vl,s.σ⟩,rfl,h2.symm,rfl,hk⟩
     · cases h
   · cases h
 · cases h
theorem Xk (hc : c.Ok g) (h : ki c ops i s K) : AM g ops i (s.e J) s.b s.σ (eT J K) := by
 unfold ki at h
 split at h
 · cases h
 · rename_i o ho
   split at h
   · cases h
   · rename_i hd
     rw [hc.n] at hd
     obtain ⟨b,s1,h1,hw,h⟩ := I0 h
     have hw := hw J
     rw [← h1.e J] at hw
     refine eU h1 ?_
     cases b with
     | false => exact AM.no (C9 ho) hw hd ⟨_,(S.IF (x := .at .un)).symm,S.IG.symm,S.FP.symm,h⟩
     | true =>
       simp only at h
       split at h
       · rename_i T x JZ
         obtain ⟨m,v,s2,h2,hk,hy⟩ := Ur (ty := o.type) h
         have hs := C9 ho
         rw [JZ] at hs
         refine AM.y (v := v.den s2.vl) hs hw hd ?_ ⟨s2.put o.dst v,by rw [S.IF,h2.e J],by rw [S.IG,h2.b],by rw [S.FP,h2.σ],hk⟩
         have hy := hy J
         rw [hc.P] at hy
         cases m with
         | none => exact hy _
         | some b => exact Yd.up hy
       · rename_i T m k v JZ
         split at h
         · rename_i um uk uv Ms hm hk hv
           have hs := C9 ho
           rw [JZ,Ms] at hs
           rw [hc.P] at h
           exact AM.rV hs hw rfl _ (fun o ho ht => by simp only [execOp,ho]; rw [ev hm,ev hk,ev hv]) (h.mono fun _ σ1 hr => ⟨s1.hp σ1,rfl,rfl,rfl,hr⟩)
         · cases h
       · rename_i T m k v JZ
         split at h
         · rename_i um uk uv Ms hm hk hv
           have hs := C9 ho
           rw [JZ,Ms] at hs
           rw [hc.P] at h
           exact AM.rV hs hw rfl _ (fun o ho ht => by simp only [execOp,ho]; rw [ev hm,ev hk,ev hv]) (h.mono fun _ σ1 hr => ⟨s1.hp σ1,rfl,rfl,rfl,hr⟩)
         · cases h
       · have JZ := ‹o.op = Op.next _ false›
         have hs := C9 ho
         rw [JZ] at hs
         exact Xi hc hs hw hd h
       · have JZ := ‹o.op = Op.entry _›
         have hs := C9 ho
         rw [JZ] at hs
         split at h
         · rename_i u tk tv hu hm
           rw [hc.P] at h
           have := AM.UE (K := yd J s1 (fun _ _ => True) K) hs hw hd (Instr.entry (u.den s1.vl)) (fun o ho ht => by simp only [execOp,ho]; rw [ev hu]) (h.mono fun v σ1 hr => Ah (kq := fun _ _ => True) gW (fun _ _ F h => ⟨h,trivial⟩) hr J)
           exact this.mono fun e bx σ ⟨s',e1,e2,e3,_,_,hk⟩ => ⟨s',e1,e2,e3,hk⟩
         · cases h
       · have JZ := ‹o.op = Op.panic _›
         split at h
         · rename_i T u hx
           have hs := C9 ho
           rw [JZ] at hs
           rw [hc.R] at h
           exact AM.panic hs hw (by rw [ev hx]; rfl) hc.Gx hc.ds h
         · cases h
       · have JZ := ‹o.op = Op.store _ _ _›
         have hs := C9 ho
         rw [JZ] at hs
         split at h
         · rename_i i' b v Ms hx hy
           rw [Ms] at hs
           exact bV hc hs hw hx hy h
         · exact ADF hc hs hw hd h
       · split at h
         · exact ADF hc (C9 ho) hw hd h
         · rename_i m _ hm
           rw [hc.P] at h hm
           obtain ⟨v,s2,h2,hy,hk⟩ := Rb hm h
           exact AM.y (v := v.den s2.vl) (C9 ho) hw hd (hy J) ⟨s2.put o.dst v,by rw [S.IF,h2.e J],by rw [S.IG,h2.b],by rw [S.FP,h2.σ],hk⟩
         · rw [hc.P] at h
           exact ADE ho hw hd (Xe h) fun v s' ji hk => ⟨s'.put o.dst v,rfl,S.IG.symm,S.FP.symm,hk⟩
theorem Mx (hc : c.Ok g) : ∀ {is : List Nat} {s : S},rv c ops is s K → Seq g ops is (s.e J) s.b s.σ (eT J K)
 | [],s,h => ⟨s,rfl,rfl,rfl,h⟩
 | i :: is,s,h => (Xk hc h).mono fun e bx σ ⟨s',h1,h2,h3,h4⟩ => by subst h1 h2 h3; exact Mx hc h4
theorem Rh {K K' : Env → Bx → Hp → Prop} (hk : ∀ e bx σ,K e bx σ → K' e bx σ) : ∀ {is : List Nat} {e : Env} {bx : Bx} {σ : Hp},Seq g ops is e bx σ K → Seq g ops is e bx σ K'
 | [],_,_,_,h => hk _ _ _ h
 | i :: is,e,bx,σ,h => AM.mono h fun _ _ _ h => Rh hk h
theorem I1 {K K' : Env → Bx → Hp → Prop} (hk : ∀ e bx σ,K e bx σ → K' e bx σ) : ∀ {p : Ord} {q : Io} {e : Env} {bx : Bx} {σ : Hp},J1 g ops p q e bx σ K → J1 g ops p q e bx σ K'
 | .done,_,_,_,_,h => hk _ _ _ h
 | .yes i r,q,e,bx,σ,⟨own,o,v,h1,h2,h3,h4,h5⟩ => ⟨own,o,v,h1,h2,h3,h4,I1 hk h5⟩
 | .alt i r t,q,e,bx,σ,⟨h1,h2⟩ => ⟨AM.mono h1 fun _ _ _ ⟨h3,h4⟩ => ⟨h3,I1 hk h4⟩,I1 hk h2⟩
 | .no,_,_,_,_,_ => trivial
def Ri : Ord → List Nat
 | .done => []
 | .yes _ r => Ri r
 | .alt i r _ => i :: Ri r
 | .no => []
def ADG (ops : Array Oper) (i : Nat) : Nat → Nat → Option (List Nat)
 | 0,_ => none
 | f + 1,t => match IB ops t i with
   | true => some [t]
   | false => (List.range t).findSome? fun u => match Nat.blt i u && IB ops t u with
     | true => match ADG ops i f u with
       | some p => some (t :: p)
       | none => none
     | false => none
def waits (ops : Array Oper) (i : Nat) : List Nat → List (List Nat)
 | [] => []
 | t :: l => match ADG ops i 40 t with
   | some p => p :: waits ops i l
   | none => waits ops i l
def vK (L : Io) : KP := fun σ0 σ1 F => match L with
 | none => Ext σ0 σ1 ∧ F
 | some [] => F
 | some (x :: l) => Kp ((x :: l).map Prod.fst) σ0 σ1 ∧ F
def Fj (c : Cx) (ops : Array Oper) : Ord → Io → S → (S → Prop) → Prop
 | .done,_,s,K => K s
 | .yes i r,L,s,K => match ops[i]? with
   | none => False
   | some o => match HK o.dst c.n && L.ok i with
     | false => False
     | true => Rc ops o.guard s fun b s => match b with
       | false => Fj c ops r L (s.put o.dst (.at .un)) K
       | true => match o.op with
         | .load T x => ldV c.P T x s fun m v s => match m,L with
           | none,_ => Fj c ops r L (s.put o.dst v) K
           | some _,none => Fj c ops r L (s.put o.dst v) K
           | some b,some l => match (Mp (some l) (some (b,waits ops i (Ri r)))).ok i && RM ops i (some (b,waits ops i (Ri r))) with
             | true => Fj c ops r (Mp (some l) (some (b,waits ops i (Ri r)))) (s.put o.dst v) K
             | false => False
         | op => match kg c.P op,anyM c.P op o.type s,L with
           | true,_,_ => False
           | false,some m,none => ye c.P o.type m s fun v s => Fj c ops r none (s.put o.dst v) K
           | false,some _,some _ => False
           | false,none,L => yv c.P c.wr op s fun v s => Fj c ops r L (s.put o.dst v) K
 | .alt i r t,L,s,K =>
   match t with
   | .no => Xl c ops i L s fun s => Fj c ops r (Fh L i) s K
   | t => (Xl c ops i L s fun s => Fj c ops r (Fh L i) s K) ∧ Fj c ops t L s K
 | .no,_,_,_ => True
where
 Xl (c : Cx) (ops : Array Oper) (i : Nat) (L : Io) (s : S) (K : S → Prop) : Prop := match ops[i]? with
   | none => False
   | some o => match HK o.dst c.n with
     | false => False
     | true => Rc ops o.guard s fun b s => match b with
       | false => K (s.put o.dst (.at .un))
       | true => gX c.tobR o.dst o.op o.type s (vK (Fh L i)) K
def kqL (q : Io) (σ σ' : Hp) : Prop := match q with
 | none => ∀ b o,σ b = some o → σ' b = some o
 | some L => ∀ x ∈ L,∀ o,σ x.1 = some o → σ' x.1 = some o
theorem yj {q : Io} {bx GN : Bx} {σ σ' : Hp} (h : kqL q σ σ') (hb : ∀ p ∈ bx,p ∈ GN) : Jz q bx σ GN σ' := ⟨hb,h⟩
theorem gh {L : Io} {σ0 σ1 : Hp} {F : Prop} (h : vK L σ0 σ1 F) : F ∧ kqL L σ0 σ1 := by
 unfold vK at h
 split at h
 · exact ⟨h.2,h.1⟩
 · exact ⟨h,fun x hx => by cases hx⟩
 · exact ⟨h.2,fun y hy o ho => h.1 y.1 (List.mem_map.2 ⟨y,hy,rfl⟩) o ho⟩
theorem ry {L : Io} {σ0 σ1 : Hp} (h : Ext σ0 σ1) : kqL L σ0 σ1 := by
 cases L with
 | none => exact h
 | some l => exact fun x _ o ho => h _ _ ho
theorem Xm {L : Io} (hc : c.Ok g) (h : Fj.Xl c ops i L s K) : AM g ops i (s.e J) s.b s.σ fun e' GN σ' => Jz (Fh L i) s.b s.σ GN σ' ∧ eT J K e' GN σ' := by
 unfold Fj.Xl at h
 split at h
 · cases h
 · rename_i o ho
   split at h
   · cases h
   · rename_i hd
     rw [hc.n] at hd
     obtain ⟨b,s1,h1,hw,h⟩ := I0 h
     have hw := hw J
     rw [← h1.e J] at hw
     have key : AM g ops i (s1.e J) s1.b s1.σ fun e' GN σ' => Jz (Fh L i) s1.b s1.σ GN σ' ∧ eT J K e' GN σ' := by
       cases b with
       | false => exact AM.no (C9 ho) hw hd ⟨Jz.refl _ _ _,_,(S.IF (x := .at .un)).symm,S.IG.symm,S.FP.symm,h⟩
       | true =>
         have := Ra (c := c.tobR) (kq := kqL (Fh L i)) (J := J) hc.P hc.R hc.E (fun _ _ F h => gh h) (fun _ _ h => ry h) (C9 ho) hw hd h
         exact this.mono fun e' GN σ' ⟨s',e1,e2,e3,hq,hb,hk⟩ => ⟨yj hq hb,s',e1,e2,e3,hk⟩
     have := eU (K := fun e' GN σ' => Jz (Fh L i) s1.b s1.σ GN σ' ∧ eT J K e' GN σ') h1 key
     rw [h1.b,h1.σ] at this
     exact this
theorem DC (hc : c.Ok g) : ∀ {p : Ord} {q : Io} {s : S},Fj c ops p q s K → J1 g ops p q (s.e J) s.b s.σ (eT J K)
 | .done,q,s,h => ⟨s,rfl,rfl,rfl,h⟩
 | .yes i r,q,s,h => by
   simp only [Fj] at h
   split at h
   · cases h
   · rename_i o ho
     split at h
     · cases h
     · rename_i hd
       simp only [Bool.and_eq_true] at hd
       obtain ⟨hd,hq⟩ := hd
       rw [hc.n] at hd
       obtain ⟨b,s1,h1,hw,h⟩ := I0 h
       have hw := hw J
       rw [← h1.e J] at hw
       rw [← h1.e J,← h1.b,← h1.σ]
       have go : ∀ {v : SV} {s2 : S} {own : Option (Nat × List (List Nat))},s1.II s2 → ((Mp q own).ok i && RM ops i own) = true → Yd g.P (s1.e J) s1.b (Oe q own s1.σ) o.op o.type (v.den s2.vl) → AP ops (s1.e J) o.guard = true → Fj c ops r (Mp q own) (s2.put o.dst v) K → J1 g ops (.yes i r) q (s1.e J) s1.b s1.σ (eT J K) := fun {v s2 own} h2 C8 hy hw hk => by
         have := DC hc hk
         rw [S.IF,S.IG,S.FP,h2.e J,h2.b,h2.σ] at this
         exact ⟨own,o,v.den s2.vl,C8,ho,.inl ⟨hw,hy⟩,HK.lt hd,this⟩
       cases b with
       | false =>
         have := DC hc h
         rw [S.IF,S.IG,S.FP] at this
         exact ⟨none,o,undef,ok_none hq,ho,.inr ⟨hw,rfl⟩,HK.lt hd,by rw [FM]; exact this⟩
       | true =>
         simp only at h
         split at h
         · rename_i T x JZ
           obtain ⟨m,v,s2,h2,hk,hy⟩ := Ur (ty := o.type) h
           have hy := hy J
           rw [hc.P,← JZ] at hy
           split at hk
           · exact go (own := none) h2 (ok_none hq) (hy _) hw (by rw [FM]; exact hk)
           · exact go (own := none) h2 (ok_none hq) (Yd.up hy) hw (by rw [FM]; exact hk)
           · rename_i b l
             split at hk
             · rename_i C8
               exact go h2 C8 hy hw hk
             · cases hk
         · split at h
           · cases h
           · have hm := ‹anyM c.P o.op o.type s1 = some _›
             rw [hc.P] at h hm
             obtain ⟨v,s2,h2,hy,hk⟩ := Rb hm h
             exact go (own := none) h2 (ok_none hq) (hy J) hw hk
           · cases h
           · rw [hc.P] at h
             obtain ⟨v,s2,h2,hy,hk⟩ := Xe (ty := o.type) h
             exact go (own := none) h2 (ok_none hq) (hy J _) hw (by rw [FM]; exact hk)
 | .alt i r t,q,s,h => by
   have key : ∀ {t : Ord},(Fj.Xl c ops i q s fun s => Fj c ops r (Fh q i) s K) → J1 g ops t q (s.e J) s.b s.σ (eT J K) → J1 g ops (.alt i r t) q (s.e J) s.b s.σ (eT J K) := fun {t} h1 h2 =>
     ⟨(Xm hc h1).mono fun e bx σ ⟨hk,s',e1,e2,e3,h3⟩ => ⟨hk,by subst e1 e2 e3; exact DC hc h3⟩,h2⟩
   cases t with
   | no => exact key h trivial
   | done => exact key h.1 (DC hc h.2)
   | yes j u => exact key h.1 (DC hc h.2)
   | alt j u w => exact key h.1 (DC hc h.2)
 | .no,q,s,h => trivial
def eV (P : Program) (ops : Array Oper) (m : Nat) : Nat → Array Bool → Ord
 | 0,_ => .no
 | f + 1,listed => match (List.range m).all fun i => listed.getD i false with
   | true => .done
   | false => match (Region.ready .any ops listed).find? fun j => Nat.blt j m && match ops[j]? with | some o => !kg P o.op | none => false with
     | some j => .yes j (eV P ops m f (listed.setIfInBounds j true))
     | none => (Region.ready .any ops listed).foldr (fun j acc => .alt j (eV P ops m f (listed.setIfInBounds j true)) acc) .no
def yk (c : Cx) (ops : Array Oper) (draw : Bool) (m : Nat) (q : Io) (s : S) (K : S → Prop) : Prop := match draw with
 | false => rv c ops (List.range ops.size) s K
 | true => match Vk ops m (eV c.P ops m (ops.size + 1) (Array.replicate ops.size false)) (List.range' m (ops.size - m)) with
   | true => Fj c ops (eV c.P ops m (ops.size + 1) (Array.replicate ops.size false)) q s fun s => rv c ops (List.range' m (ops.size - m)) s K
   | false => False
theorem bY {k : List Item} {id m : Nat} {draw : Bool} {q : Io} (hc : c.Ok g) (hm : g.P.follows .mixedOrders = true) (h : yk c ops draw m q s K) (hk : ∀ s,K s → At g k (s.e J) s.b s.σ) : At g (.code (.region id ops draw) :: k) (s.e J) s.b s.σ := by
 have fin : ∀ e bx σ,eT J K e bx σ → At g k e bx σ := fun e bx σ ⟨s',e1,e2,e3,h⟩ => by subst e1 e2 e3; exact hk s' h
 cases draw with
 | false =>
   refine At.region rfl rfl ?_
   have : Seq g ops (List.range ops.size) (s.e J) s.b s.σ (eT J K) := Mx hc h
   exact Rh fin this
 | true =>
   simp only [yk] at h
   split at h
   · rename_i hp
     refine At.ADA hm rfl hp (q := q) ?_
     have := DC (J := J) hc h
     refine I1 (fun e bx σ ⟨s',e1,e2,e3,h⟩ => ?_) this
     subst e1 e2 e3
     exact Rh fin (Mx hc h)
   · cases h
end
end Tw
end
section
namespace Tw
open Go
variable [E5]
def node (body : Code) : List Bool → Code
 | [] => body
 | false :: p => cl (node body p)
 | true :: p => cr (node body p)
inductive It where
 | c (p : List Bool)
 | RT (i : Nat)
 | lp (p : List Bool)
 | sc (p : List Bool)
def It.den (body : Code) : It → Item
 | .c p => .code (node body p)
 | .RT i => .inBlock i
 | .lp p => .inLoop (node body p)
 | .sc p => .inScope (node body p)
def DD (body : Code) : List It → List Item
 | [] => []
 | x :: l => x.den body :: DD body l
def Oz : List Bool → List Bool → Bool
 | [],[] => true
 | a :: p,b :: q => (bif a then b else !b) && Oz p q
 | _,_ => false
theorem Uu : ∀ {p q : List Bool},Oz p q = true → p = q
 | [],[],_ => rfl
 | a :: p,b :: q,h => by
   simp only [Oz,Bool.and_eq_true] at h
   rw [Uu h.2]
   cases a <;> cases b <;> simp at h <;> rfl
 | [],_ :: _,h => by cases h
 | _ :: _,[],h => by cases h
def It.eq : It → It → Bool
 | .c p,.c q => Oz p q
 | .RT i,.RT j => Nat.beq i j
 | .lp p,.lp q => Oz p q
 | .sc p,.sc q => Oz p q
 | _,_ => false
def eW : List It → List It → Bool
 | [],[] => true
 | x :: l,y :: m => x.eq y && eW l m
 | _,_ => false
theorem Xn : ∀ {l m : List It},eW l m = true → l = m
 | [],[],_ => rfl
 | x :: l,y :: m,h => by
   simp only [eW,Bool.and_eq_true] at h
   rw [Xn h.2]
   have : x = y := by
     cases x <;> cases y <;> simp only [It.eq] at h <;> first
       | (rw [Uu h.1])
       | (rw [Nat.eq_of_beq_eq_true h.1])
       | (exact absurd h.1 (by simp))
   rw [this]
 | [],_ :: _,h => by cases h
 | _ :: _,[],h => by cases h
structure Cut where
 todo : List It
 f : S → Prop
def Cut.Ok (g : Gl) (body : Code) (k : Cut) : Prop := ∀ s J,k.f s → At g (DD body k.todo) (s.e J) s.b s.σ
def rz : List Cut → List It → Option (S → Prop)
 | [],_ => none
 | k :: l,t => match eW k.todo t with
   | true => some k.f
   | false => rz l t
theorem eX {g : Gl} {body : Code} : ∀ {l : List Cut} {t : List It} {f : S → Prop},(∀ k ∈ l,k.Ok g body) → rz l t = some f → ∀ s J,f s → At g (DD body t) (s.e J) s.b s.σ
 | k :: l,t,f,hl,h => by
   simp only [rz] at h
   split at h
   · rename_i he
     cases h
     rw [← Xn he]
     exact hl k (List.mem_cons_self ..)
   · exact eX (fun k hk => hl k (List.mem_cons_of_mem _ hk)) h
def Pn (i : Nat) : List It → Option (List It)
 | [] => none
 | .RT j :: r => match Nat.beq i j with
   | true => some r
   | false => Pn i r
 | _ :: r => Pn i r
def Vt (l : Nat) : Code → List Bool → Option (List It)
 | .seq a b,p => match Vt l a (false :: p) with
   | some r => some (r ++ [.c (true :: p)])
   | none => Vt l b (true :: p)
 | .label j,_ => match Nat.beq j l with
   | true => some []
   | false => none
 | _,_ => none
def Po (body : Code) (l : Nat) : List It → Option (List It)
 | [] => none
 | .sc p :: r => match Vt l (node body p) p with
   | some m => some (m ++ (.sc p :: r))
   | none => Po body l r
 | _ :: r => Po body l r
structure Fx extends Cx where
 body : Code
 res : List ResultVar
 reg : List (Nat × Nat × Bool)
def kj : List (Nat × Nat × Bool) → Nat → Nat → Nat × Io
 | [],_,m => (m,some [])
 | (i,m,b) :: l,id,z => match Nat.beq i id with
   | true => (m,bif b then none else some [])
   | false => kj l id z
def bZ (c : Fx) (s : S) : List ResultVar → Option (List SV)
 | [] => some []
 | .tmp t :: r => match Vn s.env t,bZ c s r with
   | some v,some l => some (v :: l)
   | _,_ => none
 | .cell p T :: r => match kT (Vn s.env p),bZ c s r with
   | some (.bx i 0),some l => match Xd s.bx i,XV c.P T with
     | some (_,cs),some true => match XU c.P T with
       | some n => match decide (cs.length = n) with
         | true => some (.v (.agg cs) :: l)
         | false => none
       | none => none
     | some (_,x :: _),some false => some (.at x :: l)
     | _,_ => none
   | _,_ => none
def Vh (c : Fx) (s : S) : Prop := match bZ c s c.res with
 | some l => c.R (.returned (RO (Cw s.vl l))) s.σ
 | none => False
def DE (c : Fx) (cuts : List Cut) : Nat → Bool → List It → S → Prop
 | 0,_,_,_ => False
 | f + 1,first,todo,s => match (bif first then none else rz cuts todo) with
   | some k => k s
   | none => match todo with
     | [] => Vh c s
     | .RT _ :: r => DE c cuts f false r s
     | .lp p :: r => DE c cuts f false (.c p :: .lp p :: r) s
     | .sc _ :: r => DE c cuts f false r s
     | .c p :: r => match node c.body p with
       | .skip => DE c cuts f false r s
       | .seq _ _ => DE c cuts f false (.c (false :: p) :: .c (true :: p) :: r) s
       | .block i _ => DE c cuts f false (.c (false :: p) :: .RT i :: r) s
       | .loop _ => DE c cuts f false (.c (false :: p) :: .lp (false :: p) :: r) s
       | .exit i => match Pn i r with
         | some r => DE c cuts f false r s
         | none => False
       | .scope _ => DE c cuts f false (.c (false :: p) :: .sc (false :: p) :: r) s
       | .label _ => DE c cuts f false r s
       | .goto l => match Po c.body l r with
         | some r => DE c cuts f false r s
         | none => False
       | .cond x _ _ => s.rl (s.op x) fun t s => DE c cuts f false (.c ((!t) :: p) :: r) s
       | .ret => Vh c s
       | .region id ops draw => yk c.toCx ops draw (kj c.reg id ops.size).1 (kj c.reg id ops.size).2 s fun s => DE c cuts f false r s
       | _ => False
structure Fx.Ok (c : Fx) (g : Gl) (fn : Func) : Prop where
 cx : c.toCx.Ok g
 mixed : g.P.follows .mixedOrders = true
 fnc : g.P.funcs[g.f]? = some fn
 res : fn.results = c.res.toArray
 Gx : g.Gx = none
 ds : g.ds = []
section
variable {g : Gl} {c : Fx} {fn : Func} {cuts : List Cut} {J : Env}
theorem G1 (hP : c.P = g.P) {s : S} : ∀ {rs : List ResultVar} {l : List SV},bZ c s rs = some l → HV g.P (s.e J) s.b s.σ rs (Cw s.vl l)
 | [],l,h => by simp only [bZ,Option.some.injEq] at h; subst h; rfl
 | .tmp t :: r,l,h => by
   simp only [bZ] at h
   split at h
   · rename_i v l' h1 h2
     cases h
     refine ⟨_,?_,G1 hP h2⟩
     rw [show s.e J t = v.den s.vl from EM h1]; rfl
   · cases h
 | .cell p T :: r,l,h => by
   simp only [bZ] at h
   split at h
   · rename_i i l' h1 h2
     obtain ⟨u,e1,e2⟩ := Ef h1
     have hp : s.e J p = .pointer (some ⟨nth 0 s.vl.δ i,0,none⟩) := (EM e1).trans (e2 _)
     split at h
     · rename_i t cs hb ha
       split at h
       · rename_i n hn
         split at h
         · rename_i hd
           have hd := of_decide_eq_true hd
           cases h
           rw [hP] at ha hn
           exact ⟨_,_,rfl,⟨_,hp,kB (Ee ha) (CZ hn) (by simp [DB]; exact hd) (J2 hb)⟩,G1 hP h2⟩
         · cases h
       · cases h
     · rename_i t x cs hb ha
       cases h
       rw [hP] at ha
       exact ⟨_,_,rfl,⟨_,hp,rW (Ee ha) (J2 hb) rfl⟩,G1 hP h2⟩
     · cases h
   · cases h
theorem IK {body : Code} {i : Nat} : ∀ {r r' : List It},Pn i r = some r' → exitTo i (DD body r) = some (DD body r')
 | .RT j :: r,r',h => by
   simp only [Pn] at h
   split at h
   · rename_i he
     cases h
     have := Nat.eq_of_beq_eq_true he
     subst this
     simp [DD,It.den,exitTo]
   · rename_i he
     have A6 : i ≠ j := fun e => by subst e; rw [Nat.beq_refl] at he; cases he
     simp only [DD,It.den,exitTo]
     rw [if_neg (by simpa using Ne.symm A6)]
     exact IK h
 | .c p :: r,r',h => by simp only [Pn] at h; simp only [DD,It.den,exitTo]; exact IK h
 | .lp p :: r,r',h => by simp only [Pn] at h; simp only [DD,It.den,exitTo]; exact IK h
 | .sc p :: r,r',h => by simp only [Pn] at h; simp only [DD,It.den,exitTo]; exact IK h
theorem Rj {body : Code} : ∀ {l m : List It},DD body (l ++ m) = DD body l ++ DD body m
 | [],_ => rfl
 | x :: l,m => by simp only [List.cons_append,DD,Rj]
theorem Lq {l : Nat} : ∀ {x : Code} {p : List Bool},Vt l x p = none → findLabel x l = none
 | .seq a b,p,h => by
   simp only [Vt] at h
   split at h
   · cases h
   · rename_i h1
     simp only [findLabel,Lq h1,Lq h]
 | .label j,p,h => by
   simp only [Vt] at h
   split at h
   · cases h
   · rename_i h1
     have : j ≠ l := fun e => by subst e; rw [Nat.beq_refl] at h1; cases h1
     simp [findLabel,this]
 | .skip,p,h => rfl
 | .region ..,p,h => rfl
 | .cond ..,p,h => rfl
 | .block ..,p,h => rfl
 | .loop ..,p,h => rfl
 | .rangeFunc ..,p,h => rfl
 | .exit ..,p,h => rfl
 | .scope ..,p,h => rfl
 | .goto ..,p,h => rfl
 | .ret,p,h => rfl
 | .refuse ..,p,h => rfl
theorem Rk {l : Nat} {body : Code} : ∀ {x : Code} {p : List Bool} {m : List It},node body p = x → Vt l x p = some m → ∃ rest,findLabel x l = some rest ∧ ∀ {k : List Item} {e : Env} {bx : Bx} {σ : Hp},At g (DD body m ++ k) e bx σ → At g (.code rest :: k) e bx σ
 | .seq a b,p,m,hx,h => by
   simp only [Vt] at h
   split at h
   · rename_i r h1
     cases h
     obtain ⟨rest,e1,e2⟩ := Rk (body := body) (x := a) (p := false :: p) (by simp only [node,hx,cl]) h1
     refine ⟨.seq rest b,by simp only [findLabel,e1],fun h => At.seq rfl (e2 ?_)⟩
     rw [Rj,List.append_assoc] at h
     simp only [DD,It.den,node,hx,cr,List.cons_append,List.nil_append] at h
     exact h
   · rename_i h1
     obtain ⟨rest,e1,e2⟩ := Rk (body := body) (x := b) (p := true :: p) (by simp only [node,hx,cr]) h
     exact ⟨rest,by simp only [findLabel,Lq h1,e1],e2⟩
 | .label j,p,m,hx,h => by
   simp only [Vt] at h
   split at h
   · rename_i h1
     cases h
     have := Nat.eq_of_beq_eq_true h1
     subst this
     exact ⟨.skip,by simp [findLabel],fun h => At.skip h⟩
   · cases h
theorem IL {l : Nat} {body : Code} : ∀ {r r' : List It},Po body l r = some r' → ∃ k',gotoIn l (DD body r) = some k' ∧ ∀ {e : Env} {bx : Bx} {σ : Hp},At g (DD body r') e bx σ → At g k' e bx σ
 | .sc p :: r,r',h => by
   simp only [Po] at h
   split at h
   · rename_i m h1
     cases h
     obtain ⟨rest,e1,e2⟩ := Rk (g := g) rfl h1
     refine ⟨.code rest :: .inScope (node body p) :: DD body r,by simp only [DD,It.den,gotoIn,e1],fun h => e2 ?_⟩
     rw [Rj] at h
     exact h
   · rename_i h1
     obtain ⟨k',e1,e2⟩ := IL h
     exact ⟨k',by simp only [DD,It.den,gotoIn,Lq h1,e1],e2⟩
 | .c p :: r,r',h => by simp only [Po] at h; simp only [DD,It.den,gotoIn]; exact IL h
 | .lp p :: r,r',h => by simp only [Po] at h; simp only [DD,It.den,gotoIn]; exact IL h
 | .RT p :: r,r',h => by simp only [Po] at h; simp only [DD,It.den,gotoIn]; exact IL h
theorem Aq (hc : c.Ok g fn) (hk : ∀ k ∈ cuts,k.Ok g c.body) : ∀ {f : Nat} {first : Bool} {todo : List It} {s : S},DE c cuts f first todo s → At g (DD c.body todo) (s.e J) s.b s.σ
 | 0,_,_,_,h => h.elim
 | f + 1,first,todo,s,h => by
   have hl : ∀ σ,left g.ds σ = σ := fun σ => by rw [hc.ds]; rfl
   have qi : Marks g.ds s.σ := by rw [hc.ds]; trivial
   simp only [DE] at h
   split at h
   · rename_i k ADJ
     cases first with
     | true => cases ADJ
     | false => exact eX hk ADJ s J h
   · split at h
     · unfold Vh at h
       split at h
       · rename_i l eY
         rw [hc.cx.R] at h
         exact At.ACx hc.fnc hc.res (by rw [hl]; exact G1 hc.cx.P eY) (by rw [hl]; exact h) hc.Gx qi
       · cases h
     · exact At.inBlock (Aq hc hk h)
     · exact At.inLoop (Aq hc hk h)
     · exact At.inScope (Aq hc hk h)
     · rename_i p r _
       have e : DD c.body (.c p :: r) = .code (node c.body p) :: DD c.body r := rfl
       rw [e]
       split at h
       · rename_i hn; rw [hn]; exact At.skip (Aq hc hk h)
       · rename_i a b hn
         refine At.seq hn ?_
         have := Aq hc hk h
         simp only [DD,It.den,node,hn,cl,cr] at this
         exact this
       · rename_i i a hn
         refine At.block hn ?_
         have := Aq hc hk h
         simp only [DD,It.den,node,hn,cl] at this
         exact this
       · rename_i a hn
         refine At.loop hn ?_
         have := Aq hc hk h
         simp only [DD,It.den,node,hn,cl] at this
         exact this
       · rename_i i hn
         split at h
         · rename_i r' hr
           exact At.exit hn (IK hr) (Aq hc hk h)
         · cases h
       · rename_i a hn
         refine At.scope hn ?_
         have := Aq hc hk h
         simp only [DD,It.den,node,hn,cl] at this
         exact this
       · rename_i l hn; rw [hn]; exact At.label (Aq hc hk h)
       · rename_i l hn
         split at h
         · rename_i r' hr
           obtain ⟨k',e1,e2⟩ := IL (g := g) hr
           exact At.goto hn e1 (e2 (Aq hc hk h))
         · cases h
       · rename_i x a b hn
         obtain ⟨t,s',v,h1,h2,h3,h4,h⟩ := S.FQ h
         have hx : AD (s.e J) x = .bool t := by rw [ev h3,h4]
         have := Aq hc hk h
         rw [h1.e J,h1.b,h1.σ] at this
         cases t with
         | true =>
           refine At.u6 hn hx ?_
           simp only [DD,It.den,node,hn,cl,Bool.not_true] at this
           exact this
         | false =>
           refine At.u7 hn hx ?_
           simp only [DD,It.den,node,hn,cr,Bool.not_false] at this
           exact this
       · rename_i hn
         unfold Vh at h
         split at h
         · rename_i l eY
           rw [hc.cx.R] at h
           exact At.Vh hn hc.fnc hc.res (by rw [hl]; exact G1 hc.cx.P eY) (by rw [hl]; exact h) hc.Gx qi
         · cases h
       · rename_i id ops draw hn
         rw [hn]
         exact bY hc.cx hc.mixed h fun s' h' => Aq hc hk h'
       · cases h
end
def S.gi (s : S) : List Nat → Option (List Value)
 | [] => some []
 | t :: l => match Vn s.env t,s.gi l with
   | some v,some r => some (v.den s.vl :: r)
   | _,_ => none
theorem Uv {s : S} {J : Env} : ∀ {l : List Nat} {vs : List Value},s.gi l = some vs → Live (s.e J) (l.zip vs)
 | [],vs,h => by simp only [S.gi,Option.some.injEq] at h; subst h; trivial
 | t :: l,vs,h => by
   simp only [S.gi] at h
   split at h
   · rename_i v r h1 h2
     cases h
     exact ⟨EM h1,Uv h2⟩
   · cases h
def eZ (i : Nat) : List FO → Option (FO × List FO)
 | [] => none
 | x :: l => match Nat.beq x.1 i with
   | true => some (x,l)
   | false => eZ i l
def vL : Option SV → Option Nat
 | some (.v (.a (.pt (.bx i 0)))) => some i
 | _ => none
def S.Vu (s : S) : List Nat → List FO → Option (List FO)
 | [],_ => some []
 | t :: l,bx => match vL (Vn s.env t) with
   | some i => match eZ i bx with
     | some (x,r) => match s.Vu l r with
       | some m => some (x :: m)
       | none => none
     | none => none
   | none => none
def Rl (vl : Vl) : List Nat → List FO → List (Nat × Value)
 | t :: l,x :: r => (t,.pointer (some ⟨nth 0 vl.δ x.1,0,none⟩)) :: Rl vl l r
 | _,_ => []
theorem Uw {vl : Vl} {i : Nat} : ∀ {l r : List FO} {x : FO},eZ i l = some (x,r) → x.1 = i ∧ ∀ m : List FO,(Ed vl m).Sublist (Ed vl r) → (Ed vl (x :: m)).Sublist (Ed vl l)
 | y :: l,r,x,h => by
   simp only [eZ] at h
   split at h
   · rename_i he
     cases h
     exact ⟨Nat.eq_of_beq_eq_true he,fun m hm => List.Sublist.cons_cons _ hm⟩
   · obtain ⟨h1,h2⟩ := Uw (vl := vl) h
     exact ⟨h1,fun m hm => List.Sublist.cons _ (h2 m hm)⟩
theorem Xo {s : S} {J : Env} : ∀ {l : List Nat} {bx B : List FO},s.Vu l bx = some B → (Ed s.vl B).Sublist (Ed s.vl bx) ∧ Live (s.e J) (Rl s.vl l B)
 | [],bx,B,h => by simp only [S.Vu,Option.some.injEq] at h; subst h; exact ⟨List.nil_sublist _,trivial⟩
 | t :: l,bx,B,h => by
   simp only [S.Vu] at h
   split at h
   · rename_i i hi
     split at h
     · rename_i x r hx
       split at h
       · rename_i m hm
         cases h
         obtain ⟨h1,h2⟩ := Uw (vl := s.vl) hx
         obtain ⟨h3,h4⟩ := Xo (s := s) (J := J) hm
         refine ⟨h2 m h3,?_,h4⟩
         unfold vL at hi
         split at hi
         · rename_i hg
           cases hi
           rw [h1]
           exact EM hg
         · cases hi
       · cases h
     · cases h
   · cases h
theorem Live.app {e : Env} : ∀ {l m : List (Nat × Value)},Live e l → Live e m → Live e (l ++ m)
 | [],_,_,h => h
 | (_,_) :: _,_,h,g => ⟨h.1,Live.app h.2 g⟩
theorem At.ADK {g : Gl} {k : List Item} {s : S} {J : Env} {l bl : List Nat} {vs : List Value} {B : List FO} (h : s.gi l = some vs) (hb : s.Vu bl s.bx = some B) (hk : ∀ J,At g k (Jy J (Rl s.vl bl B ++ l.zip vs)) (Ed s.vl B) s.σ) : At g k (s.e J) s.b s.σ := by
 obtain ⟨h1,h2⟩ := Xo (J := J) hb
 exact At.sub h1 (At.live (h2.app (Uv h)) (hk _))
def Rm : Nat → List Value → List (Nat × Value)
 | _,[] => []
 | k,v :: l => (k,v) :: Rm (k + 1) l
theorem Rn {e : Env} : ∀ {l : List Value} {k : Nat},(∀ j v,l[j]? = some v → e (k + j) = v) → Live e (Rm k l)
 | [],_,_ => trivial
 | v :: l,k,h => ⟨h 0 v rfl,Rn fun j u hj => by rw [show k + 1 + j = k + (j + 1) by omega]; exact h (j + 1) u (by simpa using hj)⟩
theorem Spec.walk {P : Program} {f : FuncId} {fn : Func} {R : Rr} {args : Array Value} {n fuel : Nat} (c : Fx) (cuts : List Cut) (s : S) (hc : c.Ok (Gl.fn P f n R) fn) (hb : fn.body = some c.body) (hnt : fn.ntmps = n) (hn : Nat.ble args.size n = true)
   (hk : ∀ k ∈ cuts,k.Ok (Gl.fn P f n R) c.body) (he : HN s.vl s.env = Rm 0 args.toList) (hbx : s.bx = []) (h : DE c cuts fuel true [.c []] s) : Spec P f args s.σ R := by
 subst hnt
 refine Spec.dw hc.fnc hb (Nat.le_of_ble_eq_true hn) fun e hee => ?_
 have hl : Live e (HN s.vl s.env) := by
   rw [he]
   refine Rn fun j v hj => ?_
   rw [Nat.zero_add,hee]
   simp only [Array.getD_eq_getD_getElem?]
   rw [← Array.getElem?_toList,hj]; rfl
 have := Aq (J := e) hc hk h
 have Pp : s.b = [] := by rw [S.b,hbx]; rfl
 rw [Pp] at this
 exact At.live hl this
end Tw
end
section
namespace Tw
open Go
variable [E5]
inductive Dv where
 | I (k : IntKind) (x : Int)
 | B (t : Bool)
 | T (x : ByteArray)
 | L (p : Option Addr) (n c : Nat)
 | Q (p : Option Addr)
 | A (b : Nat)
 | M (x : Option Nat)
 | V (x : Value)
def Dv.den : Dv → Value
 | .I k x => .int k x
 | .B t => .bool t
 | .T x => .string x
 | .L p n c => .slice p n c
 | .Q p => .pointer p
 | .A b => .pointer (some ⟨b,0,none⟩)
 | .M x => .map x
 | .V x => x
def Xp : List Dv → List Value
 | [] => []
 | x :: l => x.den :: Xp l
inductive Dw where
 | o (x : Dv)
 | G (l : List Dv)
 | U (l : List Dv)
 | X (T : TypeId) (l : List Dv)
def Dw.den : Dw → Value
 | .o x => x.den
 | .G l => .agg (Xp l).toArray
 | .U l => .tuple (Xp l).toArray
 | .X _ _ => undef
structure Nm where
 ρ : List (Option Addr)
 β : List BK
structure Nm.le (n : Nm) (v : Vl) : Prop where
 ρ : ∀ i,i < n.ρ.length → nth none v.ρ i = nth none n.ρ i
 β : ∀ i,i < n.β.length → nth (.var false) v.β i = nth (.var false) n.β i
def Dv.sym : Dv → Nm → Bl × Nm
 | .I k x,n => (.int k x,n)
 | .B t,n => (.bs (Re n.β) false,⟨n.ρ,n.β ++ [.var t]⟩)
 | .T x,n => (.str x,n)
 | .L p k c,n => (.sl (.var (Re n.ρ)) k c,⟨n.ρ ++ [p],n.β⟩)
 | .Q p,n => (.pt (.var (Re n.ρ)),⟨n.ρ ++ [p],n.β⟩)
 | .A b,n => (.pt (.at b 0),n)
 | .M x,n => (.mp x,n)
 | .V x,n => (.raw x,n)
theorem Nm.ADL {n : Nm} {v : Vl} {p : Option Addr} (h : Nm.le ⟨n.ρ ++ [p],n.β⟩ v) : n.le v ∧ nth none v.ρ (Re n.ρ) = p := by
 refine ⟨⟨fun i hi => (h.ρ i (by simp only [List.length_append]; omega)).trans (Lo hi),h.β⟩,?_⟩
 rw [Q0,h.ρ _ (by simp)]; exact Lp
theorem Nm.AKm {n : Nm} {v : Vl} {p : BK} (h : Nm.le ⟨n.ρ,n.β ++ [p]⟩ v) : n.le v ∧ nth (.var false) v.β (Re n.β) = p := by
 refine ⟨⟨h.ρ,fun i hi => (h.β i (by simp only [List.length_append]; omega)).trans (Lo hi)⟩,?_⟩
 rw [Q0,h.β _ (by simp)]; exact Lp
theorem Dv.O0 {x : Dv} {n : Nm} {v : Vl} (h : (x.sym n).2.le v) : (x.sym n).1.den v = x.den ∧ n.le v := by
 cases x with
 | B t => obtain ⟨h1,h2⟩ := Nm.AKm h; exact ⟨by simp only [Dv.sym,Bl.den,h2]; rfl,h1⟩
 | L p k c => obtain ⟨h1,h2⟩ := Nm.ADL h; exact ⟨by simp only [Dv.sym,Bl.den,PV.den,h2]; rfl,h1⟩
 | Q p => obtain ⟨h1,h2⟩ := Nm.ADL h; exact ⟨by simp only [Dv.sym,Bl.den,PV.den,h2]; rfl,h1⟩
 | _ => exact ⟨rfl,h⟩
def Xq : List Dv → Nm → List Bl × Nm
 | [],n => ([],n)
 | x :: l,n => match x.sym n with
   | (a,n) => match Xq l n with
     | (r,n) => (a :: r,n)
theorem Q1 {v : Vl} : ∀ {l : List Dv} {n : Nm},(Xq l n).2.le v → A4 v (Xq l n).1 = Xp l ∧ n.le v
 | [],n,h => ⟨rfl,h⟩
 | x :: l,n,h => by
   obtain ⟨h1,h2⟩ := Q1 (l := l) (n := (x.sym n).2) h
   obtain ⟨h3,h4⟩ := Dv.O0 h2
   exact ⟨by simp only [Xq,A4,Xp,h3]; rw [← h1],h4⟩
def atoms : List Bl → List Gj
 | [] => []
 | x :: l => .a x :: atoms l
theorem Ux {v : Vl} : ∀ l,Hb v (atoms l) = A4 v l
 | [] => rfl
 | x :: l => by simp only [atoms,Hb,A4]; rw [Ux l]; rfl
def Dw.sym : Dw → Nm → SV × Nm
 | .o x,n => match x.sym n with | (a,n) => (.v (.a a),n)
 | .G l,n => match Xq l n with | (a,n) => (.v (.agg a),n)
 | .U l,n => match Xq l n with | (a,n) => (.Uf (atoms a),n)
 | .X _ _,n => (.v (.a .un),n)
theorem Dw.O0 {x : Dw} {n : Nm} {v : Vl} (h : (x.sym n).2.le v) : (x.sym n).1.den v = x.den ∧ n.le v := by
 cases x with
 | o x => exact Dv.O0 (x := x) h
 | G l => obtain ⟨h1,h2⟩ := Q1 (l := l) h; exact ⟨by simp only [Dw.sym,SV.den,Gj.den,Dw.den]; rw [← h1],h2⟩
 | U l => obtain ⟨h1,h2⟩ := Q1 (l := l) h; exact ⟨by simp only [Dw.sym,SV.den,Dw.den]; rw [Ux,← h1],h2⟩
 | X T l => exact ⟨rfl,h⟩
abbrev Bv := Nat × TypeId × List Dv
def QQ : List (Nat × Dw) → List (Nat × Value)
 | [] => []
 | (_,.X _ _) :: l => QQ l
 | (t,x) :: l => (t,x.den) :: QQ l
def O1 : List (Nat × Dw) → Nm → List (Nat × SV) × Nm
 | [],n => ([],n)
 | (_,.X _ _) :: l,n => O1 l n
 | (t,x) :: l,n => match x.sym n with
   | (a,n) => match O1 l n with
     | (r,n) => ((t,a) :: r,n)
theorem Lr {v : Vl} : ∀ {l : List (Nat × Dw)} {n : Nm},(O1 l n).2.le v → HN v (O1 l n).1 = QQ l ∧ n.le v
 | [],n,h => ⟨rfl,h⟩
 | (t,.o x) :: l,n,h => by
   obtain ⟨h1,h2⟩ := Lr (l := l) (n := ((Dw.o x).sym n).2) h
   obtain ⟨h3,h4⟩ := Dw.O0 h2
   exact ⟨by simp only [O1,HN,QQ,h3]; rw [← h1],h4⟩
 | (t,.G x) :: l,n,h => by
   obtain ⟨h1,h2⟩ := Lr (l := l) (n := ((Dw.G x).sym n).2) h
   obtain ⟨h3,h4⟩ := Dw.O0 h2
   exact ⟨by simp only [O1,HN,QQ,h3]; rw [← h1],h4⟩
 | (t,.U x) :: l,n,h => by
   obtain ⟨h1,h2⟩ := Lr (l := l) (n := ((Dw.U x).sym n).2) h
   obtain ⟨h3,h4⟩ := Dw.O0 h2
   exact ⟨by simp only [O1,HN,QQ,h3]; rw [← h1],h4⟩
 | (_,.X T x) :: l,n,h => Lr (l := l) (n := n) h
def Jr : List (Nat × Dw) → List Bv → List Bv
 | [],r => r
 | (t,.X T l) :: m,r => Jr m ((t,T,l) :: r)
 | _ :: m,r => Jr m r
def Xr : List Bv → Nat → Nm → List FO × Nm
 | [],_,n => ([],n)
 | (_,T,l) :: m,j,n => match Xq l n with
   | (a,n) => match Xr m (j + 1) n with
     | (r,n) => ((j,T,a) :: r,n)
def r6 : List Bv → Nat → List (Nat × SV)
 | [],_ => []
 | (t,_,_) :: m,j => (t,.v (.a (.pt (.bx j 0)))) :: r6 m (j + 1)
abbrev Bw := Nat × TypeId × List Value
def UI : List Bv → List Bw
 | [] => []
 | (t,T,l) :: m => (t,T,Xp l) :: UI m
def bc : List Bw → List Nat → List (Nat × Value)
 | (t,_,_) :: m,b :: δ => (t,.pointer (some ⟨b,0,none⟩)) :: bc m δ
 | _,_ => []
def ym : List Bw → List Nat → Bx
 | (_,T,l) :: m,b :: δ => (b,.cells l.toArray T (0,0)) :: ym m δ
 | _,_ => []
def PB : List Bw → (List Nat → Prop) → Prop
 | [],K => K []
 | _ :: m,K => ∀ b : Nat,PB m fun δ => K (b :: δ)
theorem kl : ∀ {l : List Bw} {K : List Nat → Prop},PB l K → ∀ δ,δ.length = l.length → K δ
 | [],K,h,[],_ => h
 | _ :: m,K,h,b :: δ,hl => kl (h b) δ (by simpa using hl)
theorem ko : ∀ {l : List Bw} {K : List Nat → Prop},(∀ δ,δ.length = l.length → K δ) → PB l K
 | [],K,h => h [] rfl
 | _ :: m,K,h => fun b => ko fun δ hl => h (b :: δ) (by simp [hl])
def PTv (g : Gl) (td : List Item) (bs : List Bw) (ts : List (Nat × Value)) (σ : Hp) : Prop :=
 ∀ J : Env,PB bs fun δ => At g td (Jy J (bc bs δ ++ ts)) (ym bs δ) σ
theorem eb {δ0 : List Nat} {v : Vl} : ∀ {m : List Bv} {j : Nat} {n : Nm} {δ : List Nat},δ.length = m.length → (∀ i,i < δ.length → nth 0 v.δ (j + i) = nth 0 δ i) → (Xr m j n).2.le v →
   Ed v (Xr m j n).1 = ym (UI m) δ ∧ HN v (r6 m j) = bc (UI m) δ ∧ n.le v
 | [],j,n,[],_,_,h => ⟨rfl,rfl,h⟩
 | (t,T,l) :: m,j,n,b :: δ,hl,hd,h => by
   obtain ⟨h1,h2,h3⟩ := eb (δ0 := δ0) (m := m) (j := j + 1) (n := (Xq l n).2) (δ := δ) (by simpa using hl) (fun i hi => by
     have := hd (i + 1) (by simpa using hi)
     rw [show j + 1 + i = j + (i + 1) by omega]; exact this) h
   obtain ⟨h4,h5⟩ := Q1 h3
   have hb : nth 0 v.δ j = b := hd 0 (by simp)
   refine ⟨?_,?_,h5⟩
   · simp only [Xr,Ed,UI,ym,hb,h4]; rw [← h1]
   · simp only [r6,HN,UI,bc,SV.den,Gj.den,Bl.den,PV.den,hb]; rw [h2]
def gj (D : List (Nat × Dw)) (δ : List Nat) (σ : Hp) : S := match O1 D ⟨[],[]⟩ with
 | (e,n) => match Jr D [] with
   | bs => match Xr bs 0 n with
     | (x,n) => ⟨r6 bs 0 ++ e,x,⟨n.ρ,n.β,δ⟩,σ⟩
theorem Xs {v : Vl} : ∀ {l m : List (Nat × SV)},HN v (l ++ m) = HN v l ++ HN v m
 | [],_ => rfl
 | (t,x) :: l,m => by simp only [List.cons_append,HN]; rw [Xs]
theorem yn {D : List (Nat × Dw)} {δ : List Nat} {σ : Hp} {J : Env} (hl : δ.length = (Jr D []).length) :
   (gj D δ σ).e J = Jy J (bc (UI (Jr D [])) δ ++ QQ D) ∧ (gj D δ σ).b = ym (UI (Jr D [])) δ := by
 have hle : (Xr (Jr D []) 0 (O1 D ⟨[],[]⟩).2).2.le ⟨(Xr (Jr D []) 0 (O1 D ⟨[],[]⟩).2).2.ρ,(Xr (Jr D []) 0 (O1 D ⟨[],[]⟩).2).2.β,δ⟩ := ⟨fun _ _ => rfl,fun _ _ => rfl⟩
 obtain ⟨h1,h2,h3⟩ := eb (δ0 := []) (δ := δ) hl (fun i _ => by rw [Nat.zero_add]) hle
 obtain ⟨h4,_⟩ := Lr h3
 exact ⟨by simp only [gj,S.e,Xs]; rw [h2,h4],h1⟩
def ADM : Nat → Nat → List Bool
 | 0,_ => []
 | f + 1,n => match Nat.ble n 1 with
   | true => []
   | false => Nat.beq (n % 2) 1 :: ADM f (n / 2)
def pth (n : Nat) : List Bool := ADM 400 n
def My (body : Code) : List Bool → List It
 | [] => []
 | t :: p => match node body p with
   | .seq _ _ => bif t then My body p else .c (true :: p) :: My body p
   | .block i _ => .RT i :: My body p
   | .loop _ => .lp (false :: p) :: My body p
   | .scope _ => .sc (false :: p) :: My body p
   | _ => My body p
def r7 (body : Code) (n : Nat) : List It := .c (pth n) :: My body (pth n)
inductive Sh where
 | I (k : IntKind) | B | T | L | Q | A | M | V
inductive Sw where
 | o (x : Sh)
 | G (l : List Sh)
 | U (l : List Sh)
 | X (T : TypeId) (l : List Sh)
abbrev ArS : Sh → Type → Type
 | .I _,C => Int → C
 | .B,C => Bool → C
 | .T,C => ByteArray → C
 | .L,C => Option Addr → Nat → Nat → C
 | .Q,C => Option Addr → C
 | .A,C => Nat → C
 | .M,C => Option Nat → C
 | .V,C => Value → C
def ADN {C : Type} : (x : Sh) → (Dv → C) → ArS x C
 | .I k,K => fun x => K (.I k x)
 | .B,K => fun x => K (.B x)
 | .T,K => fun x => K (.T x)
 | .L,K => fun p n c => K (.L p n c)
 | .Q,K => fun x => K (.Q x)
 | .A,K => fun x => K (.A x)
 | .M,K => fun x => K (.M x)
 | .V,K => fun x => K (.V x)
abbrev ArL : List Sh → Type → Type
 | [],A => A
 | x :: l,A => ArS x (ArL l A)
def r8 {A : Type} : (l : List Sh) → (List Dv → A) → ArL l A
 | [],K => K []
 | x :: l,K => ADN x fun d => r8 l fun r => K (d :: r)
abbrev ArW : Sw → Type → Type
 | .o x,C => ArS x C
 | .G l,C => ArL l C
 | .U l,C => ArL l C
 | .X _ l,C => ArL l C
def AKo {A : Type} : (x : Sw) → (Dw → A) → ArW x A
 | .o x,K => ADN x fun d => K (.o d)
 | .G l,K => r8 l fun d => K (.G d)
 | .U l,K => r8 l fun d => K (.U d)
 | .X T l,K => r8 l fun d => K (.X T d)
abbrev Ar : List (Nat × Sw) → Type → Type
 | [],A => A
 | (_,x) :: l,A => ArW x (Ar l A)
def cur {A : Type} : (l : List (Nat × Sw)) → (List (Nat × Dw) → A) → Ar l A
 | [],K => K []
 | (t,x) :: l,K => AKo x fun d => cur l fun r => K ((t,d) :: r)
structure Fw where
 P : Program
 f : Nat
 fn : Func
 Nb : List Nat
 hid : List Nat
 wr : Bool
 reg : List (Nat × Nat × Bool)
 Ox : List (Nat × TypeId)
 cuts : List (Nat × List (Nat × Sw))
def Fw.K (M : Fw) : Code := M.fn.body.getD .skip
def Fw.gl (M : Fw) (R : Rr) : Gl := Gl.fn M.P M.f M.fn.ntmps R
def Fw.cx (M : Fw) (R : Rr) : Fx := { P := M.P,R := R,Nb := M.Nb,hid := M.hid,wr := M.wr,n := M.fn.ntmps,body := M.K,res := M.fn.results.toList,reg := M.reg,Ox := M.Ox }
def Xt (vl : Vl) : List Nat → List FO → List Bw
 | t :: l,x :: r => (t,x.2.1,A4 vl x.2.2) :: Xt vl l r
 | _,_ => []
def tmps : List (Nat × Sw) → List Nat
 | [] => []
 | (_,.X _ _) :: l => tmps l
 | (t,_) :: l => t :: tmps l
def kr : List (Nat × Sw) → List Nat → List Nat
 | [],r => r
 | (t,.X _ _) :: l,r => kr l (t :: r)
 | _ :: l,r => kr l r
def Fw.cut (M : Fw) (R : Rr) (c : Nat × List (Nat × Sw)) : Cut := ⟨r7 M.K c.1,fun s => match s.gi (tmps c.2),s.Vu (kr c.2 []) s.bx with
 | some vs,some B => PTv (M.gl R) (DD M.K (r7 M.K c.1)) (Xt s.vl (kr c.2 []) B) ((tmps c.2).zip vs) s.σ
 | _,_ => False⟩
def UJ (M : Fw) (R : Rr) : List (Nat × List (Nat × Sw)) → List Cut
 | [] => []
 | c :: l => M.cut R c :: UJ M R l
def Fw.yo (M : Fw) (at_ : Nat) (R : Rr) (D : List (Nat × Dw)) (σ : Hp) : Prop := PTv (M.gl R) (DD M.K (r7 M.K at_)) (UI (Jr D [])) (QQ D) σ
noncomputable def Fw.pt (M : Fw) (i : Nat) (R : Rr) : Ar (nth (0,[]) M.cuts i).2 (Hp → Prop) := cur (nth (0,[]) M.cuts i).2 (M.yo (nth (0,[]) M.cuts i).1 R)
structure Fw.Ok (M : Fw) : Prop where
 E : AG M.P M.Nb
 mixed : M.P.follows .mixedOrders = true
 fnc : M.P.funcs[M.f]? = some M.fn
 body : M.fn.body.isSome = true
theorem Fw.vM {M : Fw} {R : Rr} (h : M.Ok) : (M.cx R).Ok (M.gl R) M.fn := ⟨⟨rfl,rfl,h.E,rfl,rfl,rfl⟩,h.mixed,h.fnc,rfl,rfl,rfl⟩
theorem Xu {vl : Vl} : ∀ {l : List Nat} {B : List FO},∃ δ : List Nat,δ.length = (Xt vl l B).length ∧ bc (Xt vl l B) δ = Rl vl l B ∧ (l.length = B.length → ym (Xt vl l B) δ = Ed vl B)
 | [],[] => ⟨[],rfl,rfl,fun _ => rfl⟩
 | [],_ :: _ => ⟨[],rfl,rfl,fun h => by simp at h⟩
 | _ :: _,[] => ⟨[],rfl,rfl,fun h => by simp at h⟩
 | t :: l,(i,T,cs) :: B => by
   obtain ⟨δ,h1,h2,h3⟩ := Xu (vl := vl) (l := l) (B := B)
   exact ⟨nth 0 vl.δ i :: δ,by simp [Xt,h1],by simp only [Xt,bc,Rl]; rw [h2],fun h => by simp only [Xt,ym,Ed]; rw [h3 (by simpa using h)]⟩
theorem Xv {s : S} : ∀ {l : List Nat} {bx B : List FO},s.Vu l bx = some B → l.length = B.length
 | [],bx,B,h => by simp only [S.Vu,Option.some.injEq] at h; subst h; rfl
 | t :: l,bx,B,h => by
   simp only [S.Vu] at h
   split at h
   · split at h
     · split at h
       · rename_i m hm
         cases h
         simp [Xv hm]
       · cases h
     · cases h
   · cases h
theorem Fw.yp (M : Fw) (R : Rr) (c : Nat × List (Nat × Sw)) : (M.cut R c).Ok (M.gl R) M.K := fun s J h => by
 simp only [Fw.cut] at h
 split at h
 · rename_i vs B h1 h2
   obtain ⟨δ,e1,e2,e3⟩ := Xu (vl := s.vl) (l := kr c.2 []) (B := B)
   refine At.ADK h1 h2 fun J => ?_
   have := kl (h J) δ e1
   rw [e2,e3 (Xv h2)] at this
   exact this
 · cases h
theorem Vw {M : Fw} {R : Rr} : ∀ {l : List (Nat × List (Nat × Sw))},∀ k ∈ UJ M R l,k.Ok (M.gl R) M.K
 | c :: l,k,hk => by
   rcases List.mem_cons.1 hk with rfl | hk
   · exact M.yp R c
   · exact Vw k hk
theorem Xw : ∀ {l : List Bv},(UI l).length = l.length
 | [] => rfl
 | _ :: m => by simp only [UI,List.length_cons]; rw [Xw]
def PX (F : Prop) : List Bv → (List Nat → Prop) → Prop
 | [],K => F = K []
 | _ :: m,K => ∀ b : Nat,PX F m fun δ => K (b :: δ)
theorem ks {F : Prop} (h : F) : ∀ {l : List Bv} {K : List Nat → Prop},PX F l K → ∀ δ,δ.length = l.length → K δ
 | [],K,e,[],_ => e ▸ h
 | _ :: m,K,e,b :: δ,hl => ks h (e b) δ (by simpa using hl)
theorem Fw.ofB {M : Fw} {R : Rr} {at_ : Nat} {D : List (Nat × Dw)} {σ : Hp} {F : Prop} (h : F) (ok : M.Ok) (e : PX F (Jr D []) fun δ => DE (M.cx R) (UJ M R M.cuts) 4000 true (r7 M.K at_) (gj D δ σ)) : M.yo at_ R D σ := fun J => by
 refine ko fun δ hl => ?_
 rw [Xw] at hl
 have := Aq (J := J) (Fw.vM ok) Vw (ks h e δ hl)
 obtain ⟨e1,e2⟩ := yn (D := D) (σ := σ) (J := J) hl
 rw [e1,e2] at this
 exact this
theorem Fw.of {M : Fw} {R : Rr} {at_ : Nat} {D : List (Nat × Dw)} {σ : Hp} {F : Prop} (h : F) (ok : M.Ok) (hb : Jr D [] = []) (e : F = DE (M.cx R) (UJ M R M.cuts) 4000 true (r7 M.K at_) (gj D [] σ) := by kernel_rfl) : M.yo at_ R D σ :=
 M.ofB h ok (by rw [hb]; exact e)
theorem Fw.jj {M : Fw} {R : Rr} {at_ : Nat} {D : List (Nat × Dw)} {σ : Hp} {F : Prop} {x1 : Bv} (h : F) (ok : M.Ok) (hb : Jr D [] = [x1]) (e : ∀ b1 : Nat,F = DE (M.cx R) (UJ M R M.cuts) 4000 true (r7 M.K at_) (gj D [b1] σ)) : M.yo at_ R D σ :=
 M.ofB h ok (by rw [hb]; exact e)
theorem Fw.gk {M : Fw} {R : Rr} {at_ : Nat} {D : List (Nat × Dw)} {σ : Hp} {F : Prop} {x1 x2 : Bv} (h : F) (ok : M.Ok) (hb : Jr D [] = [x1,x2]) (e : ∀ b1 b2 : Nat,F = DE (M.cx R) (UJ M R M.cuts) 4000 true (r7 M.K at_) (gj D [b1,b2] σ)) : M.yo at_ R D σ :=
 M.ofB h ok (by rw [hb]; exact e)
theorem Fw.of3 {M : Fw} {R : Rr} {at_ : Nat} {D : List (Nat × Dw)} {σ : Hp} {F : Prop} {x1 x2 x3 : Bv} (h : F) (ok : M.Ok) (hb : Jr D [] = [x1,x2,x3]) (e : ∀ b1 b2 b3 : Nat,F = DE (M.cx R) (UJ M R M.cuts) 4000 true (r7 M.K at_) (gj D [b1,b2,b3] σ)) : M.yo at_ R D σ :=
 M.ofB h ok (by rw [hb]; exact e)
theorem Fw.of4 {M : Fw} {R : Rr} {at_ : Nat} {D : List (Nat × Dw)} {σ : Hp} {F : Prop} {x1 x2 x3 x4 : Bv} (h : F) (ok : M.Ok) (hb : Jr D [] = [x1,x2,x3,x4]) (e : ∀ b1 b2 b3 b4 : Nat,F = DE (M.cx R) (UJ M R M.cuts) 4000 true (r7 M.K at_) (gj D [b1,b2,b3,b4] σ)) : M.yo at_ R D σ :=
 M.ofB h ok (by rw [hb]; exact e)
def yq : Value → Dv
 | .int k x => .I k x
 | .bool t => .B t
 | .string x => .T x
 | .slice p n c => .L p n c
 | .pointer p => .Q p
 | .map x => .M x
 | x => .V x
theorem Xx (x : Value) : (yq x).den = x := by cases x <;> rfl
def ec : List Value → List Dv
 | [] => []
 | x :: l => yq x :: ec l
theorem Uy : ∀ l : List Value,Xp (ec l) = l
 | [] => rfl
 | x :: l => by simp only [ec,Xp]; rw [Xx,Uy]
def gn : Value → Dw
 | .agg cs => .G (ec cs.toList)
 | x => .o (yq x)
theorem kt (x : Value) : (gn x).den = x := by
 cases x
 case agg cs => simp only [gn,Dw.den,Uy]
 all_goals (simp only [gn,Dw.den]; exact Xx _)
def ku : Value → Dw
 | .pointer (some ⟨b,0,none⟩) => .o (.A b)
 | x => .o (.V x)
theorem kv (x : Value) : (ku x).den = x := by
 unfold ku; split <;> rfl
def gq (np : Nat) : Nat → List Value → List (Nat × Dw)
 | _,[] => []
 | k,x :: l => match Nat.blt k np with
   | true => (k,gn x) :: gq np (k + 1) l
   | false => (k,ku x) :: gq np (k + 1) l
theorem kx (x : Value) : (∃ y,gn x = .o y) ∨ ∃ y,gn x = .G y := by cases x <;> first | exact .inr ⟨_,rfl⟩ | exact .inl ⟨_,rfl⟩
theorem ky (x : Value) : ∃ y,ku x = .o y := by unfold ku; split <;> exact ⟨_,rfl⟩
theorem Vx {np : Nat} : ∀ {l : List Value} {k : Nat},QQ (gq np k l) = Rm k l ∧ Jr (gq np k l) [] = []
 | [],_ => ⟨rfl,rfl⟩
 | x :: l,k => by
   obtain ⟨h1,h2⟩ := Vx (np := np) (l := l) (k := k + 1)
   simp only [gq]
   split
   · have hd := kt x
     rcases kx x with ⟨y,hy⟩ | ⟨y,hy⟩ <;> rw [hy] at hd ⊢ <;> exact ⟨by simp only [QQ,Rm]; rw [hd,h1],h2⟩
   · have hd := kv x
     obtain ⟨y,hy⟩ := ky x
     rw [hy] at hd ⊢
     exact ⟨by simp only [QQ,Rm]; rw [hd,h1],h2⟩
def Fw.run (M : Fw) (R : Rr) (k : Nat) (D : List (Nat × Dw)) (σ : Hp) : Prop := match Nat.ble k M.fn.ntmps with
 | true => DE (M.cx R) (UJ M R M.cuts) 4000 true [.c []] (gj D [] σ)
 | false => False
theorem Fw.EF {M : Fw} {R : Rr} {args : Array Value} {σ : Hp} {F : Prop} (h : F) (ok : M.Ok) (D : List (Nat × Dw)) (hx : Jr D [] = []) (hD : QQ D = Rm 0 args.toList) (e : F = M.run R args.size D σ) : Spec M.P M.f args σ R := by
 subst e
 unfold Fw.run at h
 split at h
 case h_2 => exact h.elim
 rename_i hn
 obtain ⟨fb,hb⟩ := Option.isSome_iff_exists.1 ok.body
 refine Spec.walk (c := M.cx R) (cuts := UJ M R M.cuts) (s := gj D [] σ) (fuel := 4000) (Fw.vM ok) ?_ rfl hn Vw ?_ ?_ h
 · show M.fn.body = some (M.fn.body.getD .skip)
   rw [hb]; rfl
 · obtain ⟨h4,_⟩ := Lr (l := D) (n := ⟨[],[]⟩) (v := ⟨(O1 D ⟨[],[]⟩).2.ρ,(O1 D ⟨[],[]⟩).2.β,[]⟩) ⟨fun _ _ => rfl,fun _ _ => rfl⟩
   rw [hD] at h4
   simp only [gj,hx]
   exact h4
 · simp only [gj,hx]; rfl
theorem Fw.start {M : Fw} {R : Rr} {args : Array Value} {σ : Hp} {F : Prop} (h : F) (ok : M.Ok) (e : F = M.run R args.size (gq M.fn.params.size 0 args.toList) σ := by kernel_rfl) : Spec M.P M.f args σ R :=
 M.EF h ok _ Vx.2 Vx.1 e
abbrev wI : Sw := .o (.I .i64)
abbrev wU : Sw := .o (.I .u64)
abbrev w8 : Sw := .o (.I .u8)
abbrev wB : Sw := .o .B
abbrev wT : Sw := .o .T
abbrev wL : Sw := .o .L
abbrev wQ : Sw := .o .Q
abbrev wA : Sw := .o .A
abbrev wM : Sw := .o .M
abbrev wV : Sw := .o .V
abbrev aD (b o : Nat) : Option Addr := some ⟨b,o,none⟩
abbrev Br (p A B : Prop) : Prop := (p → A) ∧ (¬ p → B)
abbrev Bm (p A B : Prop) : Prop := (¬ p → A) ∧ (p → B)
abbrev Bo (t : Bool) (A B : Prop) : Prop := (t = true → A) ∧ (t = false → B)
abbrev Bn (t : Bool) (A B : Prop) : Prop := (t = false → A) ∧ (t = true → B)
abbrev Pq (p : Option Addr) (K : Nat → Nat → Prop) : Prop := ∃ b o : Nat,p = some ⟨b,o,none⟩ ∧ K b o
abbrev In (x n : Int) : Prop := (0 : Int) ≤ x ∧ x < n
abbrev Df (r : Int) (K : Int → Prop) : Prop := ∀ x : Int,x = r → K x
abbrev Al (σ : Hp) (K : Nat → Prop) : Prop := ∀ b : Nat,σ b = none → K b
abbrev LI (k : IntKind) (σ : Hp) (b o : Nat) (K : Int → Prop) : Prop := ∃ x : Int,Hp.ld σ ⟨b,o,none⟩ = some (.int k x) ∧ K x
abbrev LB (σ : Hp) (b o : Nat) (K : Bool → Prop) : Prop := ∃ x : Bool,Hp.ld σ ⟨b,o,none⟩ = some (.bool x) ∧ K x
abbrev LT (σ : Hp) (b o : Nat) (K : ByteArray → Prop) : Prop := ∃ x : ByteArray,Hp.ld σ ⟨b,o,none⟩ = some (.string x) ∧ K x
abbrev LQ (σ : Hp) (b o : Nat) (K : Option Addr → Prop) : Prop := ∃ x : Option Addr,Hp.ld σ ⟨b,o,none⟩ = some (.pointer x) ∧ K x
abbrev LS (σ : Hp) (b o : Nat) (K : Option Addr → Nat → Nat → Prop) : Prop := ∃ p : Option Addr,∃ n : Nat,∃ c : Nat,Hp.ld σ ⟨b,o,none⟩ = some (.slice p n c) ∧ K p n c
abbrev CI (k : IntKind) (K : Int → Hp → Prop) : Value → Hp → Prop := fun v σ => ∃ x : Int,v = .int k x ∧ K x σ
abbrev CB (K : Bool → Hp → Prop) : Value → Hp → Prop := fun v σ => ∃ x : Bool,v = .bool x ∧ K x σ
abbrev CT (K : ByteArray → Hp → Prop) : Value → Hp → Prop := fun v σ => ∃ x : ByteArray,v = .string x ∧ K x σ
abbrev CQ (K : Option Addr → Hp → Prop) : Value → Hp → Prop := fun v σ => ∃ x : Option Addr,v = .pointer x ∧ K x σ
abbrev CS (K : Option Addr → Nat → Nat → Hp → Prop) : Value → Hp → Prop := fun v σ => ∃ p : Option Addr,∃ n : Nat,∃ c : Nat,v = .slice p n c ∧ K p n c σ
end Tw
end
section
set_option maxRecDepth 100000
noncomputable section
namespace TwW
open Go Tw Go.Proofs.Tryz
variable [E5] {R : Rr} {σ : Hp}

namespace Cc
variable {p0 p3 : Option Addr} {n0 c0 n3 c3 : Nat} {x4 : Int}
def M : Fw := ⟨prog,13,f13,[33,34],[],false,[],[],[(464,[(0,wL),(3,wL),(4,wI)])]⟩
theorem ok : M.Ok := ⟨.cons call33 (.cons call34 (AG.nil)),mixed,func13,by kernel_rfl⟩
def Bh := M.pt 0
theorem start (h : Bh R p0 n0 c0 none 0 0 0 σ) : Spec prog 13 #[.slice p0 n0 c0] σ R := M.start h ok
theorem A0 (h : Br (x4 < (n0 : Int)) (Pq p0 fun BO Nc => In x4 (n0 : Int) ∧ LS σ BO (Nc + Int.toNat x4 * 2) fun bd n16 XE => In x4 (n0 : Int) ∧ LS σ BO ((Nc + Int.toNat x4 * 2) + 1) fun Uz n22 UB => Spec prog 33 #[.slice bd n16 XE] σ (AA R (CS fun p17 n17 c17 y => Kp [BO] σ y ∧ Spec prog 34 #[.slice Uz n22 UB] y (AA R (CS fun bg n23 bh AF => Al AF fun Jw => AK prog (Builtin.append_ #[23,23] 23 #[.slice p3 n3 c3,(.slice (aD Jw 0) 1 1)]) (Hp.set AF Jw (.cells #[.slice p17 n17 c17,.slice bg n23 bh] 40 (0,0))) (CS fun p26 n26 c26 AH => AI (x4 + 1) ∧ Bh R (aD BO Nc) n0 c0 p26 n26 c26 (x4 + 1) AH)))))) (R (.returned (.slice p3 n3 c3)) σ)) : Bh R p0 n0 c0 p3 n3 c3 x4 σ := M.of h ok rfl
end Cc
namespace Jc
variable {p0 : Option Addr} {n0 c0 : Nat}
def M : Fw := ⟨prog,34,f34,[],[],false,[],[],[]⟩
theorem ok : M.Ok := ⟨AG.nil,mixed,func34,by kernel_rfl⟩
theorem start (h : Al σ fun b3 => AK prog (Builtin.append_ #[38,38] 38 #[(.slice (aD b3 0) 0 0),.slice p0 n0 c0]) (Hp.set σ b3 (.cells #[] 50 (0,0))) (CS fun p5 n5 c5 y => R (.returned (.slice p5 n5 c5)) y)) : Spec prog 34 #[.slice p0 n0 c0] σ R := M.start h ok
end Jc
namespace CC
def K0 := f35.body.getD .skip
def K1 := cl K0
def K2 := cr K0
def K3 := cl K2
def K4 := cl K3
def K5 := cr K3
def K6 := cl K5
def K7 := cr K5
def K8 := cl K7
def K9 := cl K8
def K10 := cr K8
def K11 := cr K7
def K12 := cr K2
def K13 := cl K12
def K14 := cl K13
def K15 := cr K13
def yr := cl K15
def K17 := cl yr
def K18 := cr yr
def K19 := cr K15
def K20 := cr K12
def K21 := cl K20
def K22 := cl K21
def K23 := cr K21
def K24 := cl K23
def K25 := cl K24
def K26 := cr K24
def K27 := cr K23
def K28 := cr K20
def K29 := cl K28
def K30 := cr K28
def K31 := cl K30
def K32 := cr K30
def K33 := cl K32
def K34 := cl K33
def K35 := cr K33
def K36 := cl K35
def K37 := cl K36
def K38 := cr K36
def K39 := cl K38
def K40 := cl K39
def K41 := cr K39
def K42 := cl K41
def K43 := cl K42
def K44 := cr K42
def K45 := cl K44
def K46 := cl K45
def K47 := cr K45
def K48 := cr K44
def K49 := cr K41
def K50 := cl K49
def K51 := cr K49
def K52 := cl K51
def K53 := cl K52
def K54 := cl K53
def K55 := cr K53
def K56 := cl K55
def K57 := cl K56
def K58 := cr K56
def K59 := cr K55
def K60 := cl K59
def K61 := cl K60
def K62 := cl K61
def K63 := cr K61
def K64 := cl K63
def K65 := cr K63
def K66 := cl K65
def K67 := cl K66
def K68 := cr K66
def K69 := cl K68
def K70 := cl K69
def K71 := cr K69
def K72 := cl K71
def K73 := cr K71
def K74 := cr K68
def K75 := cr K65
def K76 := cr K59
def K77 := cr K32
def K78 := cl K77
def K79 := cr K77
def K80 := cl K79
def K81 := cr K79
def K82 : Code := .ret
abbrev gl (R : Rr) : Gl := Gl.fn prog 35 117 R
def J4 (R : Rr) (l : Nat) (r0 : Loop) (b5 b6 Cj BG Ck BO : Nat) (vN : Int) (σ : Hp) : Prop := ∀ (J : Env),At (Gl.round prog 35 117 l R) [.code K37,.beginRound,.code K38] (Jy J [(5,(.pointer (some ⟨b5,0,none⟩))),(6,(.pointer (some ⟨b6,0,none⟩))),(10,(.pointer (some ⟨Cj,0,none⟩))),(11,(.pointer (some ⟨BG,0,none⟩))),(13,(.pointer (some ⟨Ck,0,none⟩))),(14,(.pointer (some ⟨BO,0,none⟩))),(56,(.int .i64 vN))]) [] σ
def QR (R : Rr) (l : Nat) (r0 : Loop) (Ck BO : Nat) (x15 : Int) (jl : Option Addr) (Xy aJ : Nat) (Nf QS : Int) (σ : Hp) : Prop := ∀ (J : Env),At (Gl.round prog 35 117 l R) [.code K54,.code K55,.inLoop K53,.inBlock 2,.inBlock 1] (Jy J [(13,(.pointer (some ⟨Ck,0,none⟩))),(14,(.pointer (some ⟨BO,0,none⟩))),(15,(.int .i64 x15)),(67,(.slice jl Xy aJ)),(68,(.int .i64 Nf)),(69,(.int .i64 QS))]) [] σ
def r9 (R : Rr) (l : Nat) (r0 : Loop) (Ck BO : Nat) (x15 : Int) (DO : Nat) (Hv : Int) (jl : Option Addr) (Xy aJ : Nat) (Nf QS : Int) (σ : Hp) : Prop := ∀ (J : Env),At (Gl.round prog 35 117 l R) [.code K75,.inBlock 3,.code K76,.inLoop K53,.inBlock 2,.inBlock 1] (Jy J [(13,(.pointer (some ⟨Ck,0,none⟩))),(14,(.pointer (some ⟨BO,0,none⟩))),(15,(.int .i64 x15)),(19,(.pointer (some ⟨DO,0,none⟩))),(20,(.int .i64 Hv)),(67,(.slice jl Xy aJ)),(68,(.int .i64 Nf)),(69,(.int .i64 QS))]) [] σ
theorem start {R : Rr} {p0 p1 : Option Addr} {n0 c0 n1 c1 : Nat} {x2 x3 x4 : Int} {σ : Hp} (h : ∀ b5 : Nat,σ b5 = none → ∀ b6 : Nat,(Hp.set σ b5 (.cells #[(.slice p0 n0 c0)] 22 (0,0))) b6 = none → ∀ Cj : Nat,(Hp.set (Hp.set σ b5 (.cells #[(.slice p0 n0 c0)] 22 (0,0))) b6 (.cells #[(.slice p1 n1 c1)] 23 (0,0))) Cj = none → ∀ BG : Nat,(Hp.set (Hp.set (Hp.set σ b5 (.cells #[(.slice p0 n0 c0)] 22 (0,0))) b6 (.cells #[(.slice p1 n1 c1)] 23 (0,0))) Cj (.cells #[(.slice none 0 0)] 23 (0,0))) BG = none → ∃ Uz : Option Addr,∃ n22 : Nat,∃ UB : Nat,Hp.ld (Hp.set (Hp.set (Hp.set (Hp.set σ b5 (.cells #[(.slice p0 n0 c0)] 22 (0,0))) b6 (.cells #[(.slice p1 n1 c1)] 23 (0,0))) Cj (.cells #[(.slice none 0 0)] 23 (0,0))) BG (.cells #[(.int .i64 0)] 24 (0,0))) ⟨b5,0,none⟩ = some (.slice Uz n22 UB) ∧ ∃ bg : Option Addr,∃ n23 : Nat,∃ bh : Nat,Hp.ld (Hp.set (Hp.set (Hp.set (Hp.set σ b5 (.cells #[(.slice p0 n0 c0)] 22 (0,0))) b6 (.cells #[(.slice p1 n1 c1)] 23 (0,0))) Cj (.cells #[(.slice none 0 0)] 23 (0,0))) BG (.cells #[(.int .i64 0)] 24 (0,0))) ⟨b6,0,none⟩ = some (.slice bg n23 bh) ∧ Spec prog 28 #[(.slice Uz n22 UB),(.slice bg n23 bh)] (Hp.set (Hp.set (Hp.set (Hp.set σ b5 (.cells #[(.slice p0 n0 c0)] 22 (0,0))) b6 (.cells #[(.slice p1 n1 c1)] 23 (0,0))) Cj (.cells #[(.slice none 0 0)] 23 (0,0))) BG (.cells #[(.int .i64 0)] 24 (0,0))) (AA R (fun v σ1 => ∃ IM : Int,v = (.int .i64 IM) ∧ ((IM : Int) ≠ 0 → AK prog (Instr.storeAt 23 (.pointer (some ⟨Cj,0,none⟩)) (.slice none 0 0)) σ1 (fun _ GO => AK prog (Instr.storeAt 24 (.pointer (some ⟨BG,0,none⟩)) (.int .i64 IM)) GO (fun _ CV => ∃ Cr : Option Addr,∃ Cs : Nat,∃ Ct : Nat,∃ Cu : Int,Hp.ld CV ⟨Cj,0,none⟩ = some (.slice Cr Cs Ct) ∧ Hp.ld CV ⟨BG,0,none⟩ = some (.int .i64 Cu) ∧ R (.returned (.tuple #[(.slice Cr Cs Ct),(.int .i64 Cu)])) CV))) ∧ (¬ ((IM : Int) ≠ 0) → Spec prog 29 #[(.int .i64 x2)] σ1 (AA R (fun v_2 GO => ∃ t29 : Bool,v_2 = (.bool t29) ∧ (t29 = false → AK prog (Instr.storeAt 23 (.pointer (some ⟨Cj,0,none⟩)) (.slice none 0 0)) GO (fun _ CV => AK prog (Instr.storeAt 24 (.pointer (some ⟨BG,0,none⟩)) (.int .i64 221)) CV (fun _ Cy => ∃ Cr : Option Addr,∃ Cs : Nat,∃ Ct : Nat,∃ Cu : Int,Hp.ld Cy ⟨Cj,0,none⟩ = some (.slice Cr Cs Ct) ∧ Hp.ld Cy ⟨BG,0,none⟩ = some (.int .i64 Cu) ∧ R (.returned (.tuple #[(.slice Cr Cs Ct),(.int .i64 Cu)])) Cy))) ∧ (t29 = true → Spec prog 29 #[(.int .i64 x3)] GO (AA R (fun v_3 CV => ∃ t33 : Bool,v_3 = (.bool t33) ∧ (t33 = false → AK prog (Instr.storeAt 23 (.pointer (some ⟨Cj,0,none⟩)) (.slice none 0 0)) CV (fun _ Cy => AK prog (Instr.storeAt 24 (.pointer (some ⟨BG,0,none⟩)) (.int .i64 221)) Cy (fun _ Bi => ∃ Cr : Option Addr,∃ Cs : Nat,∃ Ct : Nat,∃ Cu : Int,Hp.ld Bi ⟨Cj,0,none⟩ = some (.slice Cr Cs Ct) ∧ Hp.ld Bi ⟨BG,0,none⟩ = some (.int .i64 Cu) ∧ R (.returned (.tuple #[(.slice Cr Cs Ct),(.int .i64 Cu)])) Bi))) ∧ (t33 = true → ((x3 : Int) < x2 → AK prog (Instr.storeAt 23 (.pointer (some ⟨Cj,0,none⟩)) (.slice none 0 0)) CV (fun _ Cy => AK prog (Instr.storeAt 24 (.pointer (some ⟨BG,0,none⟩)) (.int .i64 221)) Cy (fun _ Bi => ∃ Cr : Option Addr,∃ Cs : Nat,∃ Ct : Nat,∃ Cu : Int,Hp.ld Bi ⟨Cj,0,none⟩ = some (.slice Cr Cs Ct) ∧ Hp.ld Bi ⟨BG,0,none⟩ = some (.int .i64 Cu) ∧ R (.returned (.tuple #[(.slice Cr Cs Ct),(.int .i64 Cu)])) Bi))) ∧ (¬ ((x3 : Int) < x2) → ((x4 : Int) < 1 → AK prog (Instr.storeAt 23 (.pointer (some ⟨Cj,0,none⟩)) (.slice none 0 0)) CV (fun _ Cy => AK prog (Instr.storeAt 24 (.pointer (some ⟨BG,0,none⟩)) (.int .i64 221)) Cy (fun _ Bi => ∃ Cr : Option Addr,∃ Cs : Nat,∃ Ct : Nat,∃ Cu : Int,Hp.ld Bi ⟨Cj,0,none⟩ = some (.slice Cr Cs Ct) ∧ Hp.ld Bi ⟨BG,0,none⟩ = some (.int .i64 Cu) ∧ R (.returned (.tuple #[(.slice Cr Cs Ct),(.int .i64 Cu)])) Bi))) ∧ (¬ ((x4 : Int) < 1) → AI (x3 - x2) ∧ x4 ≠ (0 : Int) ∧ ∀ Ro : Int,Ro = IntKind.i64.wrap (Int.tdiv (x3 - x2) x4) → ((512 : Int) ≤ Ro → AK prog (Instr.storeAt 23 (.pointer (some ⟨Cj,0,none⟩)) (.slice none 0 0)) CV (fun _ Cy => AK prog (Instr.storeAt 24 (.pointer (some ⟨BG,0,none⟩)) (.int .i64 222)) Cy (fun _ Bi => ∃ Cr : Option Addr,∃ Cs : Nat,∃ Ct : Nat,∃ Cu : Int,Hp.ld Bi ⟨Cj,0,none⟩ = some (.slice Cr Cs Ct) ∧ Hp.ld Bi ⟨BG,0,none⟩ = some (.int .i64 Cu) ∧ R (.returned (.tuple #[(.slice Cr Cs Ct),(.int .i64 Cu)])) Bi))) ∧ (¬ ((512 : Int) ≤ Ro) → AK prog (Instr.makeMap 99 none) CV (fun v_4 Cy => ∃ m51 : Nat,v_4 = (.map (some m51)) ∧ ∀ Ck : Nat,Cy Ck = none → AK prog (Instr.storeAt 99 (.pointer (some ⟨Ck,0,none⟩)) (.map (some m51))) (Hp.set Cy Ck (.cells #[(.map none)] 99 (0,0))) (fun _ Bi => ∀ BO : Nat,Bi BO = none → Spec prog 48 #[(.int .i64 x2),(.int .i64 x3),(.int .i64 x4)] (Hp.set Bi BO (.cells #[(.slice none 0 0)] 23 (0,0))) (AA R (fun v_5 Ng => ∃ f55 : Fn,∃ a55 : Array Value,∃ c55 : Array Value,(Value.func f55 a55 c55) = v_5 ∧ ∃ (gf : Nat) (lb : Array Value),(Value.func f55 a55 c55) = .func (.func gf) #[] lb ∧ Enters prog gf ∧ ∀ (bj aK : Nat) (QT : Loop),bj ≠ aK → Ng bj = none → Ng aK = none → (∀ (R2 : Rr) (σ2 : Hp) (sB : Int),σ2 aK = some (.loop (lp QT .ready none)) → J4 R2 aK QT b5 b6 Cj BG Ck BO sB σ2 → IE prog aK #[(.int .i64 sB)] σ2 R2) → Spec prog gf (#[.func (.yield aK) #[] #[]] ++ lb) (Hp.set (Hp.set Ng bj (.deferred (some []))) aK (.loop (lp QT .ready none))) (fun en J5 => ∃ (v : Value) (s : LoopState) (p : Option Code),en = .returned v ∧ J5 aK = some (.loop (lp QT s p)) ∧ s ≠ .busy ∧ ((p = none ∧ ∃ sC : Option Addr,∃ n114 : Nat,∃ sD : Nat,Hp.ld (Hp.set J5 aK (.loop (lp QT .exhausted none))) ⟨BO,0,none⟩ = some (.slice sC n114 sD) ∧ Spec prog 50 #[(.slice sC n114 sD),(.func (.func 51) #[] #[])] (Hp.set J5 aK (.loop (lp QT .exhausted none))) (AA (NP R) (fun v_6 U0 => v_6 = (.tuple #[]) ∧ ∃ kz : Option Addr,∃ n116 : Nat,∃ k0 : Nat,Hp.ld U0 ⟨BO,0,none⟩ = some (.slice kz n116 k0) ∧ AK prog (Instr.storeAt 23 (.pointer (some ⟨Cj,0,none⟩)) (.slice kz n116 k0)) U0 (fun _ vO => AK prog (Instr.storeAt 24 (.pointer (some ⟨BG,0,none⟩)) (.int .i64 0)) vO (fun _ Rp => ∃ Cr : Option Addr,∃ Cs : Nat,∃ Ct : Nat,∃ Cu : Int,Rp bj = some (.deferred (some [])) ∧ Hp.ld (Hp.set Rp bj (.deferred none)) ⟨Cj,0,none⟩ = some (.slice Cr Cs Ct) ∧ Hp.ld (Hp.set Rp bj (.deferred none)) ⟨BG,0,none⟩ = some (.int .i64 Cu) ∧ R (.returned (.tuple #[(.slice Cr Cs Ct),(.int .i64 Cu)])) (Hp.set Rp bj (.deferred none))))))) ∨ (p = (some .ret) ∧ ∃ Vy : Option Addr,∃ Vz : Nat,∃ V0 : Nat,∃ V1 : Int,(Hp.set J5 aK (.loop (lp QT .exhausted (some .ret)))) bj = some (.deferred (some [])) ∧ Hp.ld (Hp.set (Hp.set J5 aK (.loop (lp QT .exhausted (some .ret)))) bj (.deferred none)) ⟨Cj,0,none⟩ = some (.slice Vy Vz V0) ∧ Hp.ld (Hp.set (Hp.set J5 aK (.loop (lp QT .exhausted (some .ret)))) bj (.deferred none)) ⟨BG,0,none⟩ = some (.int .i64 V1) ∧ R (.returned (.tuple #[(.slice Vy Vz V0),(.int .i64 V1)])) (Hp.set (Hp.set J5 aK (.loop (lp QT .exhausted (some .ret)))) bj (.deferred none)))))))))))))))))))))) : Spec prog 35 #[(.slice p0 n0 c0),(.slice p1 n1 c1),(.int .i64 x2),(.int .i64 x3),(.int .i64 x4)] σ R := by
 refine Spec.dw (fn := f35) (c := K0) func35 (by kernel_rfl) (Nat.le_of_ble_eq_true (by kernel_rfl)) (fun e he => ?_)
 refine At.ofL (l := [(0,(.slice p0 n0 c0)),(1,(.slice p1 n1 c1)),(2,(.int .i64 x2)),(3,(.int .i64 x3)),(4,(.int .i64 x4))]) ⟨he 0,he 1,he 2,he 3,he 4,trivial⟩ (fun J => ?_)
 show At (gl R) _ _ _ _
 refine At.s K1 K2 ?_
 refine At.rg 0 [0,1,2,3] ?_
 refine Seq.o ?_
 refine AM.xt (T := 22) (d := (some 5)) (ty := 0) (x := (.tmp 0)) (gd := none) (cs := #[(.slice p0 n0 c0)]) (by kernel_rfl) rfl rfl rfl (fun b5 hn => ?_)
 replace h := h b5 hn
 refine Seq.o ?_
 refine AM.xt (T := 23) (d := (some 6)) (ty := 0) (x := (.tmp 1)) (gd := none) (cs := #[(.slice p1 n1 c1)]) (by kernel_rfl) rfl rfl rfl (fun b6 hn => ?_)
 replace h := h b6 hn
 refine Seq.o ?_
 refine AM.Oi (T := 23) (d := (some 10)) (ty := 0)  (gd := none) (cs := #[(.slice none 0 0)]) (by kernel_rfl) rfl rfl zeroValue23 rfl (fun Cj hn => ?_)
 replace h := h Cj hn
 refine Seq.o ?_
 refine AM.Oi (T := 24) (d := (some 11)) (ty := 0)  (gd := none) (cs := #[(.int .i64 0)]) (by kernel_rfl) rfl rfl zeroValue24 rfl (fun BG hn => ?_)
 replace h := h BG hn
 refine Seq.done ?_
 refine At.s K3 K12 (At.s K4 K5 ?_)
 refine At.rg 1 [0,1,2,3] ?_
 obtain ⟨Uz,n22,UB,hl,h⟩ := h
 refine Seq.z 22 (.load 22 (.tmp 5)) 22 (.slice Uz n22 UB) (Y.ld isAgg22 rfl hl) ?_
 obtain ⟨bg,n23,bh,hl,h⟩ := h
 refine Seq.z 23 (.load 23 (.tmp 6)) 23 (.slice bg n23 bh) (Y.ld isAgg23 rfl hl) ?_
 refine Seq.o ?_
 refine AM.cl (some 24) call28 (h.cont fun v σ1 h2 => ?_); replace h := h2; clear h2
 obtain ⟨IM,rfl,h⟩ := h
 refine Seq.u 12 (.int .i64 IM) (Seq.done ?_)
 refine At.s K6 K7 ?_
 refine At.rg 2 [0,1] ?_
 refine Seq.us [(25,.int .i64 IM),(26,.bool (decide ((IM : Int) ≠ 0)))] (Seq.done ?_)
 cases hb : (decide ((IM : Int) ≠ 0)) with
 | true =>
   replace h := h.1 (of_decide_eq_true hb)
   refine At.cT 26 K8 K11 ?_
   refine At.s K9 K10 ?_
   refine At.rg 3 [0,1,2] ?_
   refine Seq.u 27 (.int .i64 IM) ?_
   refine Seq.o ?_
   refine AM.store (T := 23) (ty := 0) (x := (.tmp 10)) (y := (.const (.slice none 0 0))) (p := (.pointer (some ⟨Cj,0,none⟩))) (v := (.slice none 0 0)) (gd := none) (by kernel_rfl) rfl rfl rfl (h.mono (fun _ GO h2 => ?_)); replace h := h2; clear h2
   refine Seq.o ?_
   refine AM.store (T := 24) (ty := 0) (x := (.tmp 11)) (y := (.tmp 27)) (p := (.pointer (some ⟨BG,0,none⟩))) (v := (.int .i64 IM)) (gd := none) (by kernel_rfl) rfl rfl rfl (h.mono (fun _ CV h2 => ?_)); replace h := h2; clear h2
   refine Seq.done ?_
   obtain ⟨Cr,Cs,Ct,Cu,O2,O3,h⟩ := h
   exact At.rt [.cell 10 23,.cell 11 24] [(.slice Cr Cs Ct),(.int .i64 Cu)] func35 ⟨_,_,rfl,⟨_,rfl,CG isAgg23 O2⟩,⟨_,_,rfl,⟨_,rfl,CG isAgg24 O3⟩,rfl⟩⟩ h
 | false =>
   replace h := h.2 (of_decide_eq_false hb)
   refine At.cF 26 K8 K11 ?_
   refine At.skip ?_
   refine At.s K13 K20 (At.s K14 K15 ?_)
   refine At.rg 4 [0,1,2,3,4,5,6,7,8,9,10,11,12,13,14,15,16] ?_
   refine Seq.u 28 (.int .i64 x2) ?_
   refine Seq.o ?_
   refine AM.cl (some 29) call29 (h.cont fun v_2 GO h2 => ?_); replace h := h2; clear h2
   obtain ⟨t29,rfl,h⟩ := h
   refine Seq.us [(30,.bool (!t29)),(31,.bool (!t29))] ?_
   cases hb : (!t29) with
   | true =>
     replace h := h.1 (Tw.nt hb)
     refine Seq.n 32 ?_
     refine Seq.n 33 ?_
     refine Seq.n 34 ?_
     refine Seq.us [(35,.bool true),(36,.bool true)] ?_
     refine Seq.n 37 ?_
     refine Seq.n 38 ?_
     refine Seq.n 39 ?_
     refine Seq.us [(40,.bool true),(41,.bool true)] ?_
     refine Seq.n 42 ?_
     refine Seq.n 43 ?_
     refine Seq.u 44 (.bool true) (Seq.done ?_)
     refine At.cT 44 yr K19 ?_
     refine At.s K17 K18 ?_
     refine At.rg 5 [0,1] ?_
     refine Seq.o ?_
     refine AM.store (T := 23) (ty := 0) (x := (.tmp 10)) (y := (.const (.slice none 0 0))) (p := (.pointer (some ⟨Cj,0,none⟩))) (v := (.slice none 0 0)) (gd := none) (by kernel_rfl) rfl rfl rfl (h.mono (fun _ CV h2 => ?_)); replace h := h2; clear h2
     refine Seq.o ?_
     refine AM.store (T := 24) (ty := 0) (x := (.tmp 11)) (y := (.const (.int .i64 221))) (p := (.pointer (some ⟨BG,0,none⟩))) (v := (.int .i64 221)) (gd := none) (by kernel_rfl) rfl rfl rfl (h.mono (fun _ Cy h2 => ?_)); replace h := h2; clear h2
     refine Seq.done ?_
     obtain ⟨Cr,Cs,Ct,Cu,O2,O3,h⟩ := h
     exact At.rt [.cell 10 23,.cell 11 24] [(.slice Cr Cs Ct),(.int .i64 Cu)] func35 ⟨_,_,rfl,⟨_,rfl,CG isAgg23 O2⟩,⟨_,_,rfl,⟨_,rfl,CG isAgg24 O3⟩,rfl⟩⟩ h
   | false =>
     replace h := h.2 (Tw.nf hb)
     refine Seq.u 32 (.int .i64 x3) ?_
     refine Seq.o ?_
     refine AM.cl (some 33) call29 (h.cont fun v_3 CV h2 => ?_); replace h := h2; clear h2
     obtain ⟨t33,rfl,h⟩ := h
     refine Seq.us [(34,.bool (!t33)),(35,.bool (!t33)),(36,.bool (!t33))] ?_
     cases hb : (!t33) with
     | true =>
       replace h := h.1 (Tw.nt hb)
       refine Seq.n 37 ?_
       refine Seq.n 38 ?_
       refine Seq.n 39 ?_
       refine Seq.us [(40,.bool true),(41,.bool true)] ?_
       refine Seq.n 42 ?_
       refine Seq.n 43 ?_
       refine Seq.u 44 (.bool true) (Seq.done ?_)
       refine At.L [(2,(.int .i64 x2)),(3,(.int .i64 x3)),(4,(.int .i64 x4)),(5,(.pointer (some ⟨b5,0,none⟩))),(6,(.pointer (some ⟨b6,0,none⟩))),(10,(.pointer (some ⟨Cj,0,none⟩))),(11,(.pointer (some ⟨BG,0,none⟩))),(44,(.bool true))] fun J => ?_
       refine At.cT 44 yr K19 ?_
       refine At.s K17 K18 ?_
       refine At.rg 5 [0,1] ?_
       refine Seq.o ?_
       refine AM.store (T := 23) (ty := 0) (x := (.tmp 10)) (y := (.const (.slice none 0 0))) (p := (.pointer (some ⟨Cj,0,none⟩))) (v := (.slice none 0 0)) (gd := none) (by kernel_rfl) rfl rfl rfl (h.mono (fun _ Cy h2 => ?_)); replace h := h2; clear h2
       refine Seq.o ?_
       refine AM.store (T := 24) (ty := 0) (x := (.tmp 11)) (y := (.const (.int .i64 221))) (p := (.pointer (some ⟨BG,0,none⟩))) (v := (.int .i64 221)) (gd := none) (by kernel_rfl) rfl rfl rfl (h.mono (fun _ Bi h2 => ?_)); replace h := h2; clear h2
       refine Seq.done ?_
       obtain ⟨Cr,Cs,Ct,Cu,O2,O3,h⟩ := h
       exact At.rt [.cell 10 23,.cell 11 24] [(.slice Cr Cs Ct),(.int .i64 Cu)] func35 ⟨_,_,rfl,⟨_,rfl,CG isAgg23 O2⟩,⟨_,_,rfl,⟨_,rfl,CG isAgg24 O3⟩,rfl⟩⟩ h
     | false =>
       replace h := h.2 (Tw.nf hb)
       refine Seq.us [(37,.int .i64 x2),(38,.int .i64 x3),(39,.bool (decide ((x3 : Int) < x2))),(40,.bool (decide ((x3 : Int) < x2))),(41,.bool (decide ((x3 : Int) < x2)))] ?_
       cases hb : (decide ((x3 : Int) < x2)) with
       | true =>
         replace h := h.1 (of_decide_eq_true hb)
         refine Seq.n 42 ?_
         refine Seq.n 43 ?_
         refine Seq.u 44 (.bool true) (Seq.done ?_)
         refine At.cT 44 yr K19 ?_
         refine At.s K17 K18 ?_
         refine At.rg 5 [0,1] ?_
         refine Seq.o ?_
         refine AM.store (T := 23) (ty := 0) (x := (.tmp 10)) (y := (.const (.slice none 0 0))) (p := (.pointer (some ⟨Cj,0,none⟩))) (v := (.slice none 0 0)) (gd := none) (by kernel_rfl) rfl rfl rfl (h.mono (fun _ Cy h2 => ?_)); replace h := h2; clear h2
         refine Seq.o ?_
         refine AM.store (T := 24) (ty := 0) (x := (.tmp 11)) (y := (.const (.int .i64 221))) (p := (.pointer (some ⟨BG,0,none⟩))) (v := (.int .i64 221)) (gd := none) (by kernel_rfl) rfl rfl rfl (h.mono (fun _ Bi h2 => ?_)); replace h := h2; clear h2
         refine Seq.done ?_
         obtain ⟨Cr,Cs,Ct,Cu,O2,O3,h⟩ := h
         exact At.rt [.cell 10 23,.cell 11 24] [(.slice Cr Cs Ct),(.int .i64 Cu)] func35 ⟨_,_,rfl,⟨_,rfl,CG isAgg23 O2⟩,⟨_,_,rfl,⟨_,rfl,CG isAgg24 O3⟩,rfl⟩⟩ h
       | false =>
         replace h := h.2 (of_decide_eq_false hb)
         refine Seq.us [(42,.int .i64 x4),(43,.bool (decide ((x4 : Int) < 1))),(44,.bool (decide ((x4 : Int) < 1)))] (Seq.done ?_)
         cases hb : (decide ((x4 : Int) < 1)) with
         | true =>
           replace h := h.1 (of_decide_eq_true hb)
           refine At.cT 44 yr K19 ?_
           refine At.s K17 K18 ?_
           refine At.rg 5 [0,1] ?_
           refine Seq.o ?_
           refine AM.store (T := 23) (ty := 0) (x := (.tmp 10)) (y := (.const (.slice none 0 0))) (p := (.pointer (some ⟨Cj,0,none⟩))) (v := (.slice none 0 0)) (gd := none) (by kernel_rfl) rfl rfl rfl (h.mono (fun _ Cy h2 => ?_)); replace h := h2; clear h2
           refine Seq.o ?_
           refine AM.store (T := 24) (ty := 0) (x := (.tmp 11)) (y := (.const (.int .i64 221))) (p := (.pointer (some ⟨BG,0,none⟩))) (v := (.int .i64 221)) (gd := none) (by kernel_rfl) rfl rfl rfl (h.mono (fun _ Bi h2 => ?_)); replace h := h2; clear h2
           refine Seq.done ?_
           obtain ⟨Cr,Cs,Ct,Cu,O2,O3,h⟩ := h
           exact At.rt [.cell 10 23,.cell 11 24] [(.slice Cr Cs Ct),(.int .i64 Cu)] func35 ⟨_,_,rfl,⟨_,rfl,CG isAgg23 O2⟩,⟨_,_,rfl,⟨_,rfl,CG isAgg24 O3⟩,rfl⟩⟩ h
         | false =>
           replace h := h.2 (of_decide_eq_false hb)
           refine At.cF 44 yr K19 ?_
           refine At.skip ?_
           refine At.s K21 K28 (At.s K22 K23 ?_)
           refine At.rg 6 [0,1,2,3,4,5] ?_
           refine Seq.us [(45,.int .i64 x3),(46,.int .i64 x2)] ?_
           obtain ⟨hi,h⟩ := h
           refine Seq.z 47 (.binOp .sub 2 (.tmp 45) (.tmp 46) 2) 2 (.int .i64 (x3 - x2)) (Y.AKF hi rfl rfl) ?_
           refine Seq.u 48 (.int .i64 x4) ?_
           obtain ⟨hc,h⟩ := h
           obtain ⟨Ro,vP⟩ : ∃ y,y = IntKind.i64.wrap (Int.tdiv (x3 - x2) x4) := ⟨_,rfl⟩
           replace h := h Ro vP
           refine Seq.y (d := (some 49)) (op := (.binOp .quo 2 (.tmp 47) (.tmp 48) 2)) (ty := 2) (v := (.int .i64 Ro)) (by kernel_rfl) rfl (vP ▸ Y.quo hc rfl rfl) ?_
           refine Seq.u 50 (.bool (decide ((512 : Int) ≤ Ro))) (Seq.done ?_)
           cases hb : (decide ((512 : Int) ≤ Ro)) with
           | true =>
             replace h := h.1 (of_decide_eq_true hb)
             refine At.cT 50 K24 K27 ?_
             refine At.s K25 K26 ?_
             refine At.rg 7 [0,1] ?_
             refine Seq.o ?_
             refine AM.store (T := 23) (ty := 0) (x := (.tmp 10)) (y := (.const (.slice none 0 0))) (p := (.pointer (some ⟨Cj,0,none⟩))) (v := (.slice none 0 0)) (gd := none) (by kernel_rfl) rfl rfl rfl (h.mono (fun _ Cy h2 => ?_)); replace h := h2; clear h2
             refine Seq.o ?_
             refine AM.store (T := 24) (ty := 0) (x := (.tmp 11)) (y := (.const (.int .i64 222))) (p := (.pointer (some ⟨BG,0,none⟩))) (v := (.int .i64 222)) (gd := none) (by kernel_rfl) rfl rfl rfl (h.mono (fun _ Bi h2 => ?_)); replace h := h2; clear h2
             refine Seq.done ?_
             obtain ⟨Cr,Cs,Ct,Cu,O2,O3,h⟩ := h
             exact At.rt [.cell 10 23,.cell 11 24] [(.slice Cr Cs Ct),(.int .i64 Cu)] func35 ⟨_,_,rfl,⟨_,rfl,CG isAgg23 O2⟩,⟨_,_,rfl,⟨_,rfl,CG isAgg24 O3⟩,rfl⟩⟩ h
           | false =>
             replace h := h.2 (of_decide_eq_false hb)
             refine At.cF 50 K24 K27 ?_
             refine At.skip ?_
             refine At.s K29 K30 ?_
             refine At.rg 8 [0,1,2] ?_
             refine Seq.o ?_
             refine AM.UE (d := (some 51)) (op := (.makeMap 99 none)) (ty := 99) (gd := none) (by kernel_rfl) rfl rfl (Instr.makeMap 99 none) (fun o ho ht => by simp only [execOp,ho]; rfl) (h.mono (fun v_4 Cy h2 => ?_)); replace h := h2; clear h2
             obtain ⟨m51,rfl,h⟩ := h
             refine Seq.o ?_
             refine AM.Oi (T := 99) (d := (some 13)) (ty := 0)  (gd := none) (cs := #[(.map none)]) (by kernel_rfl) rfl rfl zeroValue99 rfl (fun Ck hn => ?_)
             replace h := h Ck hn
             refine Seq.o ?_
             refine AM.store (T := 99) (ty := 0) (x := (.tmp 13)) (y := (.tmp 51)) (p := (.pointer (some ⟨Ck,0,none⟩))) (v := (.map (some m51))) (gd := none) (by kernel_rfl) rfl rfl rfl (h.mono (fun _ Bi h2 => ?_)); replace h := h2; clear h2
             refine Seq.done ?_
             refine At.s K31 K32 ?_
             refine At.rg 9 [0] ?_
             refine Seq.o ?_
             refine AM.Oi (T := 23) (d := (some 14)) (ty := 0)  (gd := none) (cs := #[(.slice none 0 0)]) (by kernel_rfl) rfl rfl zeroValue23 rfl (fun BO hn => ?_)
             replace h := h BO hn
             refine Seq.done ?_
             refine At.s K33 K77 (At.s K34 K35 ?_)
             refine At.rg 10 [0,1,2,3] ?_
             refine Seq.us [(52,.int .i64 x2),(53,.int .i64 x3),(54,.int .i64 x4)] ?_
             refine Seq.o ?_
             refine AM.cl (some 55) call48 (h.cont fun v_5 Ng h2 => ?_); replace h := h2; clear h2
             obtain ⟨f55,a55,c55,rfl,h⟩ := h
             refine Seq.done ?_
             refine At.b 0 K36 ?_
             obtain ⟨gf,lb,hgv,Oh,h⟩ := h
             refine At.range (gop := (.tmp 55)) (ps := #[56]) (assign := K37) (body := K38) (gf := gf) (lb := lb) (by kernel_rfl) rfl rfl hgv Oh (fun bj aK QT hDl hD hl hrf bk hra hrb hrs hre => ?_)
             refine (h bj aK QT hDl hD hl (fun R2 σ2 sB yt hp => IE.dw (n := 117) yt bk hrs (by decide) hre (fn := f35) (by rw [hrf]; exact func35) ?_)).mono (fun en J5 h => ?_)
             · rw [hrf,hra,hrb]
               exact At.v [(5,(.pointer (some ⟨b5,0,none⟩))),(6,(.pointer (some ⟨b6,0,none⟩))),(10,(.pointer (some ⟨Cj,0,none⟩))),(11,(.pointer (some ⟨BG,0,none⟩))),(13,(.pointer (some ⟨Ck,0,none⟩))),(14,(.pointer (some ⟨BO,0,none⟩))),(56,(.int .i64 sB))] (hp _)
             obtain ⟨v,s,p,he,yE,hs,h⟩ := h
             refine ⟨v,s,p,he,yE,hs,?_⟩
             rcases h with h | h
             · obtain ⟨rfl,h⟩ := h
               show At (Gl.behind prog 35 117 bj R) [.inBlock 0,.code K77] _ _ _
               refine At.inBlock ?_
               refine At.s K78 K79 ?_
               refine At.rg 25 [0,1] ?_
               obtain ⟨sC,n114,sD,hl,h⟩ := h
               refine Seq.z 114 (.load 23 (.tmp 14)) 23 (.slice sC n114 sD) (Y.ld isAgg23 rfl hl) ?_
               refine Seq.o ?_
               refine AM.cl (some 115) call50 (h.cont fun v_6 U0 h2 => ?_); replace h := h2; clear h2
               obtain ⟨rfl,h⟩ := h
               refine Seq.done ?_
               refine At.L [(10,(.pointer (some ⟨Cj,0,none⟩))),(11,(.pointer (some ⟨BG,0,none⟩))),(14,(.pointer (some ⟨BO,0,none⟩)))] fun J => ?_
               refine At.s K80 K81 ?_
               refine At.rg 26 [0,1,2] ?_
               obtain ⟨kz,n116,k0,hl,h⟩ := h
               refine Seq.z 116 (.load 23 (.tmp 14)) 23 (.slice kz n116 k0) (Y.ld isAgg23 rfl hl) ?_
               refine Seq.o ?_
               refine AM.store (T := 23) (ty := 0) (x := (.tmp 10)) (y := (.tmp 116)) (p := (.pointer (some ⟨Cj,0,none⟩))) (v := (.slice kz n116 k0)) (gd := none) (by kernel_rfl) rfl rfl rfl (h.mono (fun _ vO h2 => ?_)); replace h := h2; clear h2
               refine Seq.o ?_
               refine AM.store (T := 24) (ty := 0) (x := (.tmp 11)) (y := (.const (.int .i64 0))) (p := (.pointer (some ⟨BG,0,none⟩))) (v := (.int .i64 0)) (gd := none) (by kernel_rfl) rfl rfl rfl (h.mono (fun _ Rp h2 => ?_)); replace h := h2; clear h2
               refine Seq.done ?_
               obtain ⟨Cr,Cs,Ct,Cu,qi,O2,O3,h⟩ := h
               exact At.Vh (rs := [.cell 10 23,.cell 11 24]) (vs := [(.slice Cr Cs Ct),(.int .i64 Cu)]) (by kernel_rfl) func35 (by kernel_rfl) ⟨_,_,rfl,⟨_,rfl,CG isAgg23 O2⟩,⟨_,_,rfl,⟨_,rfl,CG isAgg24 O3⟩,rfl⟩⟩ h rfl (kJ qi)
             · obtain ⟨rfl,h⟩ := h
               show At (Gl.behind prog 35 117 bj R) [.code K82,.inBlock 0,.code K77] _ _ _
               obtain ⟨Vy,Vz,V0,V1,qi,yu,yw,h⟩ := h
               exact At.Vh (rs := [.cell 10 23,.cell 11 24]) (vs := [(.slice Vy Vz V0),(.int .i64 V1)]) (by kernel_rfl) func35 (by kernel_rfl) ⟨_,_,rfl,⟨_,rfl,CG isAgg23 yu⟩,⟨_,_,rfl,⟨_,rfl,CG isAgg24 yw⟩,rfl⟩⟩ h rfl (kJ qi)
theorem Ls {R : Rr} {l b5 b6 Cj BG Ck BO : Nat} {r0 : Loop} {vN : Int} {σ : Hp} (h : σ l = some (.loop (lp r0 .ready none)) ∧ ∃ qj : Option Addr,∃ jm : Nat,∃ vQ : Nat,Hp.ld (Hp.set σ l (.loop (lp r0 .busy none))) ⟨b5,0,none⟩ = some (.slice qj jm vQ) ∧ ∃ vR : Option Addr,∃ n59 : Nat,∃ vS : Nat,Hp.ld (Hp.set σ l (.loop (lp r0 .busy none))) ⟨b6,0,none⟩ = some (.slice vR n59 vS) ∧ Spec prog 30 #[(.slice qj jm vQ),(.slice vR n59 vS),(.int .i64 vN)] (Hp.set σ l (.loop (lp r0 .busy none))) (AA (NP R) (fun v σ1 => ∃ Xz : Option Addr,∃ Rq : Nat,∃ X0 : Nat,∃ O4 : Int,v = (.tuple #[(.slice Xz Rq X0),(.int .i64 O4)]) ∧ ((O4 : Int) ≠ 0 → AK prog (Instr.storeAt 23 (.pointer (some ⟨Cj,0,none⟩)) (.slice none 0 0)) σ1 (fun _ GO => AK prog (Instr.storeAt 24 (.pointer (some ⟨BG,0,none⟩)) (.int .i64 O4)) GO (fun _ CV => CV l = some (.loop (lp r0 .busy none)) ∧ R (.returned (.bool false)) (Hp.set CV l (.loop (lp r0 .done (some .ret))))))) ∧ (¬ ((O4 : Int) ≠ 0) → QR R l r0 Ck BO vN Xz Rq X0 ((Rq : Int)) 0 σ1)))) : J4 R l r0 b5 b6 Cj BG Ck BO vN σ := by
 intro J
 show At (Gl.round prog 35 117 l R) _ _ _ _
 refine At.rg 11 [0] ?_
 refine Seq.u 15 (.int .i64 vN) (Seq.done ?_)
 obtain ⟨dt,h⟩ := h
 refine At.beginRound rfl dt ?_
 refine At.b 1 K39 ?_
 refine At.s K40 K41 ?_
 refine At.rg 12 [0,1,2,3,4,5,6,7,8] ?_
 obtain ⟨qj,jm,vQ,hl,h⟩ := h
 refine Seq.z 58 (.load 22 (.tmp 5)) 22 (.slice qj jm vQ) (Y.ld isAgg22 rfl hl) ?_
 obtain ⟨vR,n59,vS,hl,h⟩ := h
 refine Seq.z 59 (.load 23 (.tmp 6)) 23 (.slice vR n59 vS) (Y.ld isAgg23 rfl hl) ?_
 refine Seq.u 60 (.int .i64 vN) ?_
 refine Seq.o ?_
 refine AM.cl (some 61) call30 (h.cont fun v σ1 h2 => ?_); replace h := h2; clear h2
 obtain ⟨Xz,Rq,X0,O4,rfl,h⟩ := h
 refine Seq.us [(57,.tuple #[(.slice Xz Rq X0),(.int .i64 O4)]),(62,.slice Xz Rq X0),(63,.int .i64 O4),(16,.slice Xz Rq X0),(17,.int .i64 O4)] (Seq.done ?_)
 refine At.s K42 K49 (At.s K43 K44 ?_)
 refine At.rg 13 [0,1] ?_
 refine Seq.us [(64,.int .i64 O4),(65,.bool (decide ((O4 : Int) ≠ 0)))] (Seq.done ?_)
 cases hb : (decide ((O4 : Int) ≠ 0)) with
 | true =>
  replace h := h.1 (of_decide_eq_true hb)
  refine At.cT 65 K45 K48 ?_
  refine At.s K46 K47 ?_
  refine At.rg 14 [0,1,2] ?_
  refine Seq.u 66 (.int .i64 O4) ?_
  refine Seq.o ?_
  refine AM.store (T := 23) (ty := 0) (x := (.tmp 10)) (y := (.const (.slice none 0 0))) (p := (.pointer (some ⟨Cj,0,none⟩))) (v := (.slice none 0 0)) (gd := none) (by kernel_rfl) rfl rfl rfl (h.mono (fun _ GO h2 => ?_)); replace h := h2; clear h2
  refine Seq.o ?_
  refine AM.store (T := 24) (ty := 0) (x := (.tmp 11)) (y := (.tmp 66)) (p := (.pointer (some ⟨BG,0,none⟩))) (v := (.int .i64 O4)) (gd := none) (by kernel_rfl) rfl rfl rfl (h.mono (fun _ CV h2 => ?_)); replace h := h2; clear h2
  refine Seq.done ?_
  exact At.j6 (by kernel_rfl) rfl h.1 h.2
 | false =>
  replace h := h.2 (of_decide_eq_false hb)
  refine At.cF 65 K45 K48 ?_
  refine At.skip ?_
  refine At.s K50 K51 ?_
  refine At.rg 15 [0,1,2] ?_
  refine Seq.u 67 (.slice Xz Rq X0) ?_
  refine Seq.z 68 (.call { callee := .builtin .len,args := #[(.tmp 67)],argTypes := #[67] }) 3 (.int .i64 (Rq : Int)) (Y.xk underlying67 rfl rfl) ?_
  refine Seq.u 69 (.int .i64 0) (Seq.done ?_)
  refine At.b 2 K52 ?_
  refine At.loop (x := K53) (by kernel_rfl) ?_
  refine At.s K54 K55 ?_
  exact At.v [(13,(.pointer (some ⟨Ck,0,none⟩))),(14,(.pointer (some ⟨BO,0,none⟩))),(15,(.int .i64 vN)),(67,(.slice Xz Rq X0)),(68,(.int .i64 (Rq : Int))),(69,(.int .i64 0))] (h _)
theorem Q2 {R : Rr} {l Ck BO Xy aJ : Nat} {r0 : Loop} {x15 Nf QS : Int} {jl : Option Addr} {σ : Hp} (h : ((QS : Int) < Nf → ∃ (V2 k8 : Nat),jl = some ⟨V2,k8,none⟩ ∧ ((0 : Int) ≤ QS ∧ QS < (Xy : Int)) ∧ ∃ k9 : Option Addr,∃ lA : Nat,∃ lB : Nat,∃ J6 : Int,Aw σ V2 (k8 + Int.toNat QS * 2) [(.slice k9 lA lB),(.int .u64 J6)] ∧ ∀ DO : Nat,σ DO = none → AK prog (Instr.storeAt 71 (.pointer (some ⟨DO,0,none⟩)) (.agg #[(.slice k9 lA lB),(.int .u64 J6)])) (Hp.set σ DO (.cells #[(.slice none 0 0),(.int .u64 0)] 71 (0,0))) (fun _ σ1 => ∃ bm : Option Nat,Hp.ld σ1 ⟨Ck,0,none⟩ = some (.map bm) ∧ ∃ lC : Option Addr,∃ lD : Nat,∃ lE : Nat,Hp.ld σ1 ⟨DO,0,none⟩ = some (.slice lC lD lE) ∧ Spec prog 49 #[(.slice lC lD lE)] σ1 (AA (NP R) (fun v GO => ∃ s77 : ByteArray,v = (.string s77) ∧ Kp [Ck] σ1 GO ∧ AK prog (Instr.lookup 99 (.map bm) (.string s77) true) GO (fun v_2 CV => ∃ bn : Int,∃ UK : Bool,v_2 = (.tuple #[(.int .i64 bn),(.bool UK)]) ∧ (UK = false → ∃ sE : Option Addr,∃ X7 : Nat,∃ sF : Nat,Hp.ld CV ⟨BO,0,none⟩ = some (.slice sE X7 sF) ∧ ∃ m85 : Option Nat,Hp.ld CV ⟨Ck,0,none⟩ = some (.map m85) ∧ ∃ p87 : Option Addr,∃ n87 : Nat,∃ c87 : Nat,Hp.ld CV ⟨DO,0,none⟩ = some (.slice p87 n87 c87) ∧ Spec prog 49 #[(.slice p87 n87 c87)] CV (AA (NP R) (fun v_3 Cy => ∃ s88 : ByteArray,v_3 = (.string s88) ∧ Kp [Ck] CV Cy ∧ AK prog (Instr.mapUpdate 99 (.map m85) (.string s88) (.int .i64 (X7 : Int))) Cy (fun _ Bi => ∃ p90 : Option Addr,∃ n90 : Nat,∃ c90 : Nat,Hp.ld Bi ⟨BO,0,none⟩ = some (.slice p90 n90 c90) ∧ ∃ p93 : Option Addr,∃ n93 : Nat,∃ c93 : Nat,Hp.ld Bi ⟨DO,0,none⟩ = some (.slice p93 n93 c93) ∧ ∀ jn : Nat,Bi jn = none → AK prog (Builtin.append_ #[37,37] 37 #[(.slice (some ⟨jn,0,none⟩) 0 0),(.slice p93 n93 c93)]) (Hp.set Bi jn (.cells #[] 56 (0,0))) (fun v_4 Ng => ∃ sG : Option Addr,∃ sH : Nat,∃ sI : Nat,v_4 = (.slice sG sH sI) ∧ Kp [BO] (Hp.set Bi jn (.cells #[] 56 (0,0))) Ng ∧ ∀ sJ : Nat,Ng sJ = none → AK prog (Builtin.append_ #[23,23] 23 #[(.slice p90 n90 c90),(.slice (some ⟨sJ,0,none⟩) 1 1)]) (Hp.set Ng sJ (.cells #[(.slice sG sH sI),(.slice none 0 0)] 40 (0,0))) (fun v_5 J5 => ∃ p97 : Option Addr,∃ n97 : Nat,∃ c97 : Nat,v_5 = (.slice p97 n97 c97) ∧ AK prog (Instr.storeAt 23 (.pointer (some ⟨BO,0,none⟩)) (.slice p97 n97 c97)) J5 (fun _ U0 => r9 R l r0 Ck BO x15 DO ((X7 : Int)) ((some ⟨V2,k8,none⟩)) Xy aJ Nf QS U0))))))) ∧ (UK = true → r9 R l r0 Ck BO x15 DO bn ((some ⟨V2,k8,none⟩)) Xy aJ Nf QS CV)))))) ∧ (¬ ((QS : Int) < Nf) → σ l = some (.loop (lp r0 .busy none)) ∧ R (.returned (.bool true)) (Hp.set σ l (.loop (lp r0 .ready none))))) : QR R l r0 Ck BO x15 jl Xy aJ Nf QS σ := by
 intro J
 show At (Gl.round prog 35 117 l R) _ _ _ _
 refine At.rg 16 [0] ?_
 refine Seq.u 70 (.bool (decide ((QS : Int) < Nf))) (Seq.done ?_)
 refine At.s K56 K59 ?_
 cases hb : (decide ((QS : Int) < Nf)) with
 | true =>
  replace h := h.1 (of_decide_eq_true hb)
  refine At.cT 70 K57 K58 ?_
  refine At.skip ?_
  refine At.s K60 K76 ?_
  refine At.b 3 K61 ?_
  refine At.s K62 K63 ?_
  refine At.rg 17 [0,1,2,3] ?_
  obtain ⟨V2,k8,hq,h⟩ := h
  subst hq
  obtain ⟨hi,h⟩ := h
  refine Seq.z 71 (.indexAddr 67 (.tmp 67) (.tmp 69)) 0 (.pointer (some ⟨V2,(k8 + Int.toNat QS * 2),none⟩)) (Y.idx underlying67 sizeOf71 rfl rfl hi rfl) ?_
  obtain ⟨k9,lA,lB,J6,hl,h⟩ := h
  refine Seq.z 72 (.load 71 (.tmp 71)) 71 (.agg #[(.slice k9 lA lB),(.int .u64 J6)]) (Y.lda isAgg71 sizeOf71 rfl rfl hl) ?_
  refine Seq.o ?_
  refine AM.Oi (T := 71) (d := (some 19)) (ty := 0)  (gd := none) (cs := #[(.slice none 0 0),(.int .u64 0)]) (by kernel_rfl) rfl rfl zeroValue71 rfl (fun DO hn => ?_)
  replace h := h DO hn
  refine Seq.o ?_
  refine AM.store (T := 71) (ty := 0) (x := (.tmp 19)) (y := (.tmp 72)) (p := (.pointer (some ⟨DO,0,none⟩))) (v := (.agg #[(.slice k9 lA lB),(.int .u64 J6)])) (gd := none) (by kernel_rfl) rfl rfl rfl (h.mono (fun _ σ1 h2 => ?_)); replace h := h2; clear h2
  refine Seq.done ?_
  refine At.s K64 K65 ?_
  refine At.draw (id := 18) (ops := cO K64) (n := 10) (q := (some [])) (plan := [(0,true),(1,true),(2,true),(3,false),(4,false),(5,true),(6,true),(7,true),(8,true),(9,true)]) (tl := []) mixed (by kernel_rfl) (by kernel_rfl) ?_
  obtain ⟨bm,hl,h⟩ := h
  refine Head.yl Ck [[4]] rfl (by kernel_rfl) (d := (some 74)) (op := (.load 99 (.tmp 13))) (ty := 99) (v := (.map bm)) (by kernel_rfl) rfl (Y.ld isAgg99 rfl (Hq hl)) ?_
  refine Head.z 75 (.fieldAddr 71 (.tmp 19) 0) 0 (.pointer (some ⟨DO,0,none⟩)) (Y.fieldAddr (fd := (Lm prog 71 0)) underlying71 (by kernel_rfl) sizeOf37 rfl rfl) ?_
  obtain ⟨lC,lD,lE,hl,h⟩ := h
  refine Head.yl DO [[3],[4,3]] rfl (by kernel_rfl) (d := (some 76)) (op := (.load 37 (.tmp 75))) (ty := 37) (v := (.slice lC lD lE)) (by kernel_rfl) rfl (Y.ld isAgg37 rfl (Hq hl)) ?_
  refine Head.o (q' := (some [(Ck,[4])])) rfl ?_
  refine AM.cl (some 77) call49 (h.cont fun v GO h2 => ?_); replace h := h2; clear h2
  obtain ⟨s77,rfl,hk,h⟩ := h
  refine ⟨⟨fun _ h => h,XN (L := [(Ck,[4])]) hk⟩,?_⟩
  refine Head.o (q' := (some [])) rfl ?_
  refine AM.UE (d := (some 78)) (op := (.lookup 99 (.tmp 74) (.tmp 77) true)) (ty := 102) (gd := none) (by kernel_rfl) rfl rfl (Instr.lookup 99 (.map bm) (.string s77) true) (fun o ho ht => by simp only [execOp,ho]; rfl) (h.mono (fun v_2 CV h2 => ?_)); replace h := h2; clear h2
  obtain ⟨bn,UK,rfl,h⟩ := h
  refine ⟨⟨fun _ h => h,XN (L := []) Kp.nil⟩,?_⟩
  refine Head.u 73 (.tuple #[(.int .i64 bn),(.bool UK)]) ?_
  refine Head.u 79 (.int .i64 bn) ?_
  refine Head.u 80 (.bool UK) ?_
  refine Head.u 20 (.int .i64 bn) ?_
  refine Head.u 21 (.bool UK) ?_
  refine Head.done ?_
  refine Seq.done ?_
  refine At.s K66 K75 (At.s K67 K68 ?_)
  refine At.rg 19 [0,1] ?_
  refine Seq.us [(81,.bool UK),(82,.bool (!UK))] (Seq.done ?_)
  cases hb : (!UK) with
  | true =>
   replace h := h.1 (Tw.nt hb)
   refine At.cT 82 K69 K74 ?_
   refine At.s K70 K71 ?_
   refine At.rg 20 [0,1,2] ?_
   obtain ⟨sE,X7,sF,hl,h⟩ := h
   refine Seq.z 83 (.load 23 (.tmp 14)) 23 (.slice sE X7 sF) (Y.ld isAgg23 rfl hl) ?_
   refine Seq.z 84 (.call { callee := .builtin .len,args := #[(.tmp 83)],argTypes := #[23] }) 3 (.int .i64 (X7 : Int)) (Y.xk underlying23 rfl rfl) ?_
   refine Seq.u 20 (.int .i64 (X7 : Int)) (Seq.done ?_)
   refine At.s K72 K73 ?_
   refine At.draw (id := 21) (ops := cO K72) (n := 5) (q := (some [])) (plan := [(0,true),(1,true),(2,true),(4,true),(3,false)]) (tl := [5]) mixed (by kernel_rfl) (by kernel_rfl) ?_
   obtain ⟨m85,hl,h⟩ := h
   refine Head.yl Ck [] rfl (by kernel_rfl) (d := (some 85)) (op := (.load 99 (.tmp 13))) (ty := 99) (v := (.map m85)) (by kernel_rfl) rfl (Y.ld isAgg99 rfl (Hq hl)) ?_
   refine Head.z 86 (.fieldAddr 71 (.tmp 19) 0) 0 (.pointer (some ⟨DO,0,none⟩)) (Y.fieldAddr (fd := (Lm prog 71 0)) underlying71 (by kernel_rfl) sizeOf37 rfl rfl) ?_
   obtain ⟨p87,n87,c87,hl,h⟩ := h
   refine Head.yl DO [[3]] rfl (by kernel_rfl) (d := (some 87)) (op := (.load 37 (.tmp 86))) (ty := 37) (v := (.slice p87 n87 c87)) (by kernel_rfl) rfl (Y.ld isAgg37 rfl (Hq hl)) ?_
   refine Head.u 89 (.int .i64 (X7 : Int)) ?_
   refine Head.o (q' := (some [(Ck,[])])) rfl ?_
   refine AM.cl (some 88) call49 (h.cont fun v_3 Cy h2 => ?_); replace h := h2; clear h2
   obtain ⟨s88,rfl,hk,h⟩ := h
   refine ⟨⟨fun _ h => h,XN (L := [(Ck,[])]) hk⟩,?_⟩
   refine Head.done ?_
   refine Seq.o ?_
   refine AM.rV (d := none) (op := (.mapUpdate 99 (.tmp 85) (.tmp 88) (.tmp 89))) (ty := 0) (gd := none) (by kernel_rfl) rfl rfl (Instr.mapUpdate 99 (.map m85) (.string s88) (.int .i64 (X7 : Int))) (fun o ho ht => by simp only [execOp,ho]; rfl) (h.mono (fun _ Bi h2 => ?_)); replace h := h2; clear h2
   refine Seq.done ?_
   refine At.draw (id := 22) (ops := cO K73) (n := 7) (q := (some [])) (plan := [(0,true),(2,true),(3,true),(1,false),(4,false),(5,true),(6,false)]) (tl := [7,8]) mixed (by kernel_rfl) (by kernel_rfl) ?_
   obtain ⟨p90,n90,c90,hl,h⟩ := h
   refine Head.yl BO [] rfl (by kernel_rfl) (d := (some 90)) (op := (.load 23 (.tmp 14))) (ty := 23) (v := (.slice p90 n90 c90)) (by kernel_rfl) rfl (Y.ld isAgg23 rfl (Hq hl)) ?_
   refine Head.z 92 (.fieldAddr 71 (.tmp 19) 0) 0 (.pointer (some ⟨DO,0,none⟩)) (Y.fieldAddr (fd := (Lm prog 71 0)) underlying71 (by kernel_rfl) sizeOf37 rfl rfl) ?_
   obtain ⟨p93,n93,c93,hl,h⟩ := h
   refine Head.yl DO [[4],[6,5,4]] rfl (by kernel_rfl) (d := (some 93)) (op := (.load 37 (.tmp 92))) (ty := 37) (v := (.slice p93 n93 c93)) (by kernel_rfl) rfl (Y.ld isAgg37 rfl (Hq hl)) ?_
   refine Head.o (q' := (some [(DO,[4,6]),(BO,[])])) rfl ?_
   refine AM.Iv (T := 37) (E := 56) (m := 0) (ps := #[]) (d := (some 91)) (ty := 37) (gd := none) (vs := []) (cs := #[]) underlying37 (by kernel_rfl) rfl rfl rfl (by kernel_rfl) (fun jn hn => ?_)
   refine ⟨⟨fun _ h => h,XN (Kp.Ho (Ext.set hn))⟩,?_⟩
   replace h := h jn hn
   refine Head.o (q' := (some [(BO,[])])) rfl ?_
   refine AM.UE (d := (some 94)) (op := (.call { callee := .builtin .append,args := #[(.tmp 91),(.tmp 93)],argTypes := #[37,37] })) (ty := 37) (gd := none) (by kernel_rfl) rfl rfl (Builtin.append_ #[37,37] 37 #[(.slice (some ⟨jn,0,none⟩) 0 0),(.slice p93 n93 c93)]) (fun o ho ht => Fc rfl rfl o ho ht) (h.mono (fun v_4 Ng h2 => ?_)); replace h := h2; clear h2
   obtain ⟨sG,sH,sI,rfl,hk,h⟩ := h
   refine ⟨⟨fun _ h => h,XN (L := [(BO,[])]) hk⟩,?_⟩
   refine Head.z 95 (.build 40 #[(0,(.tmp 94))]) 40 (.agg #[(.slice sG sH sI),(.slice none 0 0)]) (Y.build (vs := [(0,(.slice sG sH sI))]) rfl (by kernel_rfl)) ?_
   refine Head.o (q' := (some [(BO,[])])) rfl ?_
   refine AM.Iv (T := 23) (E := 40) (m := 1) (ps := #[(0,(.tmp 95))]) (d := (some 96)) (ty := 23) (gd := none) (vs := [(0,(.agg #[(.slice sG sH sI),(.slice none 0 0)]))]) (cs := #[(.slice sG sH sI),(.slice none 0 0)]) underlying23 (by kernel_rfl) rfl rfl rfl (by kernel_rfl) (fun sJ hn => ?_)
   refine ⟨⟨fun _ h => h,XN (Kp.Ho (Ext.set hn))⟩,?_⟩
   replace h := h sJ hn
   refine Head.done ?_
   refine Seq.o ?_
   refine AM.UE (d := (some 97)) (op := (.call { callee := .builtin .append,args := #[(.tmp 90),(.tmp 96)],argTypes := #[23,23] })) (ty := 23) (gd := none) (by kernel_rfl) rfl rfl (Builtin.append_ #[23,23] 23 #[(.slice p90 n90 c90),(.slice (some ⟨sJ,0,none⟩) 1 1)]) (fun o ho ht => Fc rfl rfl o ho ht) (h.mono (fun v_5 J5 h2 => ?_)); replace h := h2; clear h2
   obtain ⟨p97,n97,c97,rfl,h⟩ := h
   refine Seq.o ?_
   refine AM.store (T := 23) (ty := 0) (x := (.tmp 14)) (y := (.tmp 97)) (p := (.pointer (some ⟨BO,0,none⟩))) (v := (.slice p97 n97 c97)) (gd := none) (by kernel_rfl) rfl rfl rfl (h.mono (fun _ U0 h2 => ?_)); replace h := h2; clear h2
   refine Seq.done ?_
   refine At.L [(13,(.pointer (some ⟨Ck,0,none⟩))),(14,(.pointer (some ⟨BO,0,none⟩))),(15,(.int .i64 x15)),(19,(.pointer (some ⟨DO,0,none⟩))),(20,(.int .i64 (X7 : Int))),(67,(.slice (some ⟨V2,k8,none⟩) Xy aJ)),(68,(.int .i64 Nf)),(69,(.int .i64 QS))] fun J => ?_
   exact At.v [(13,(.pointer (some ⟨Ck,0,none⟩))),(14,(.pointer (some ⟨BO,0,none⟩))),(15,(.int .i64 x15)),(19,(.pointer (some ⟨DO,0,none⟩))),(20,(.int .i64 (X7 : Int))),(67,(.slice (some ⟨V2,k8,none⟩) Xy aJ)),(68,(.int .i64 Nf)),(69,(.int .i64 QS))] (h _)
  | false =>
   replace h := h.2 (Tw.nf hb)
   refine At.cF 82 K69 K74 ?_
   refine At.skip ?_
   exact At.v [(13,(.pointer (some ⟨Ck,0,none⟩))),(14,(.pointer (some ⟨BO,0,none⟩))),(15,(.int .i64 x15)),(19,(.pointer (some ⟨DO,0,none⟩))),(20,(.int .i64 bn)),(67,(.slice (some ⟨V2,k8,none⟩) Xy aJ)),(68,(.int .i64 Nf)),(69,(.int .i64 QS))] (h _)
 | false =>
  replace h := h.2 (of_decide_eq_false hb)
  refine At.cF 70 K57 K58 ?_
  refine At.x 2 [.inBlock 1] ?_
  refine At.inBlock ?_
  exact At.j5 rfl h.1 h.2
theorem sK {R : Rr} {l Ck BO DO Xy aJ : Nat} {r0 : Loop} {x15 Hv Nf QS : Int} {jl : Option Addr} {σ : Hp} (h : ∃ p98 : Option Addr,∃ n98 : Nat,∃ c98 : Nat,Hp.ld σ ⟨BO,0,none⟩ = some (.slice p98 n98 c98) ∧ ∃ sL : Option Addr,∃ n100 : Nat,∃ yx : Nat,Hp.ld σ ⟨BO,0,none⟩ = some (.slice sL n100 yx) ∧ ∃ (bo lF : Nat),sL = some ⟨bo,lF,none⟩ ∧ ((0 : Int) ≤ Hv ∧ Hv < (n100 : Int)) ∧ ∃ lG : Option Addr,∃ n104 : Nat,∃ lH : Nat,Hp.ld σ ⟨bo,((lF + Int.toNat Hv * 2) + 1),none⟩ = some (.slice lG n104 lH) ∧ ∃ V3 : Int,Hp.ld σ ⟨DO,1,none⟩ = some (.int .u64 V3) ∧ ∀ O5 : Nat,σ O5 = none → AK prog (Builtin.append_ #[38,38] 38 #[(.slice lG n104 lH),(.slice (some ⟨O5,0,none⟩) 1 1)]) (Hp.set σ O5 (.cells #[(.int .i64 x15),(.int .u64 V3)] 50 (0,0))) (fun v σ1 => ∃ sM : Option Addr,∃ n110 : Nat,∃ sN : Nat,v = (.slice sM n110 sN) ∧ Kp [BO] (Hp.set σ O5 (.cells #[(.int .i64 x15),(.int .u64 V3)] 50 (0,0))) σ1 ∧ ∃ (gu gw : Nat),p98 = some ⟨gu,gw,none⟩ ∧ ((0 : Int) ≤ Hv ∧ Hv < (n98 : Int)) ∧ AK prog (Instr.storeAt 38 (.pointer (some ⟨gu,((gw + Int.toNat Hv * 2) + 1),none⟩)) (.slice sM n110 sN)) σ1 (fun _ GO => AI (QS + 1) ∧ QR R l r0 Ck BO x15 jl Xy aJ Nf ((QS + 1)) GO))) : r9 R l r0 Ck BO x15 DO Hv jl Xy aJ Nf QS σ := by
 intro J
 show At (Gl.round prog 35 117 l R) _ _ _ _
 refine At.draw (id := 23) (ops := cO K75) (n := 15) (q := (some [])) (plan := [(0,true),(1,true),(2,true),(3,true),(4,true),(5,true),(6,true),(7,true),(8,true),(9,true),(10,true),(11,false),(12,false),(13,true),(14,true)]) (tl := [15]) mixed (by kernel_rfl) (by kernel_rfl) ?_
 obtain ⟨p98,n98,c98,hl,h⟩ := h
 refine Head.yl BO [] rfl (by kernel_rfl) (d := (some 98)) (op := (.load 23 (.tmp 14))) (ty := 23) (v := (.slice p98 n98 c98)) (by kernel_rfl) rfl (Y.ld isAgg23 rfl (Hq hl)) ?_
 refine Head.u 99 (.int .i64 Hv) ?_
 obtain ⟨sL,n100,yx,hl,h⟩ := h
 refine Head.yl BO [[12,6,5,4]] rfl (by kernel_rfl) (d := (some 100)) (op := (.load 23 (.tmp 14))) (ty := 23) (v := (.slice sL n100 yx)) (by kernel_rfl) rfl (Y.ld isAgg23 rfl (Hq hl)) ?_
 refine Head.u 101 (.int .i64 Hv) ?_
 obtain ⟨bo,lF,hq,h⟩ := h
 subst hq
 obtain ⟨hi,h⟩ := h
 refine Head.z 102 (.indexAddr 23 (.tmp 100) (.tmp 101)) 0 (.pointer (some ⟨bo,(lF + Int.toNat Hv * 2),none⟩)) (Y.idx underlying23 sizeOf40 rfl rfl hi rfl) ?_
 refine Head.z 103 (.fieldAddr 40 (.tmp 102) 1) 0 (.pointer (some ⟨bo,((lF + Int.toNat Hv * 2) + 1),none⟩)) (Y.fieldAddr (fd := (Lm prog 40 1)) underlying40 (by kernel_rfl) sizeOf38 rfl rfl) ?_
 obtain ⟨lG,n104,lH,hl,h⟩ := h
 refine Head.yl bo [[12]] rfl (by kernel_rfl) (d := (some 104)) (op := (.load 38 (.tmp 103))) (ty := 38) (v := (.slice lG n104 lH)) (by kernel_rfl) rfl (Y.ld isAgg38 rfl (Hq hl)) ?_
 refine Head.u 105 (.int .i64 x15) ?_
 refine Head.z 106 (.fieldAddr 71 (.tmp 19) 1) 0 (.pointer (some ⟨DO,1,none⟩)) (Y.fieldAddr (fd := (Lm prog 71 1)) underlying71 (by kernel_rfl) sizeOf48 rfl rfl) ?_
 obtain ⟨V3,hl,h⟩ := h
 refine Head.yl DO [[11,10],[12,11,10]] rfl (by kernel_rfl) (d := (some 107)) (op := (.load 48 (.tmp 106))) (ty := 48) (v := (.int .u64 V3)) (by kernel_rfl) rfl (Y.ld isAgg48 rfl (Hq hl)) ?_
 refine Head.z 108 (.build 50 #[(0,(.tmp 105)),(1,(.tmp 107))]) 50 (.agg #[(.int .i64 x15),(.int .u64 V3)]) (Y.build (vs := [(0,(.int .i64 x15)),(1,(.int .u64 V3))]) rfl (by kernel_rfl)) ?_
 refine Head.o (q' := (some [(bo,[12]),(BO,[12]),(BO,[])])) rfl ?_
 refine AM.Iv (T := 38) (E := 50) (m := 1) (ps := #[(0,(.tmp 108))]) (d := (some 109)) (ty := 38) (gd := none) (vs := [(0,(.agg #[(.int .i64 x15),(.int .u64 V3)]))]) (cs := #[(.int .i64 x15),(.int .u64 V3)]) underlying38 (by kernel_rfl) rfl rfl rfl (by kernel_rfl) (fun O5 hn => ?_)
 refine ⟨⟨fun _ h => h,XN (Kp.Ho (Ext.set hn))⟩,?_⟩
 replace h := h O5 hn
 refine Head.o (q' := (some [(BO,[])])) rfl ?_
 refine AM.UE (d := (some 110)) (op := (.call { callee := .builtin .append,args := #[(.tmp 104),(.tmp 109)],argTypes := #[38,38] })) (ty := 38) (gd := none) (by kernel_rfl) rfl rfl (Builtin.append_ #[38,38] 38 #[(.slice lG n104 lH),(.slice (some ⟨O5,0,none⟩) 1 1)]) (fun o ho ht => Fc rfl rfl o ho ht) (h.mono (fun v σ1 h2 => ?_)); replace h := h2; clear h2
 obtain ⟨sM,n110,sN,rfl,hk,h⟩ := h
 refine ⟨⟨fun _ h => h,XN (L := [(BO,[])]) hk⟩,?_⟩
 obtain ⟨gu,gw,hq,h⟩ := h
 subst hq
 obtain ⟨hi,h⟩ := h
 refine Head.z 111 (.indexAddr 23 (.tmp 98) (.tmp 99)) 0 (.pointer (some ⟨gu,(gw + Int.toNat Hv * 2),none⟩)) (Y.idx underlying23 sizeOf40 rfl rfl hi rfl) ?_
 refine Head.z 112 (.fieldAddr 40 (.tmp 111) 1) 0 (.pointer (some ⟨gu,((gw + Int.toNat Hv * 2) + 1),none⟩)) (Y.fieldAddr (fd := (Lm prog 40 1)) underlying40 (by kernel_rfl) sizeOf38 rfl rfl) ?_
 refine Head.done ?_
 refine Seq.o ?_
 refine AM.store (T := 38) (ty := 0) (x := (.tmp 112)) (y := (.tmp 110)) (p := (.pointer (some ⟨gu,((gw + Int.toNat Hv * 2) + 1),none⟩))) (v := (.slice sM n110 sN)) (gd := none) (by kernel_rfl) rfl rfl rfl (h.mono (fun _ GO h2 => ?_)); replace h := h2; clear h2
 refine Seq.done ?_
 refine At.inBlock ?_
 refine At.rg 24 [0,1] ?_
 obtain ⟨hi,h⟩ := h
 refine Seq.z 113 (.binOp .add 3 (.tmp 69) (.const (.int .i64 1)) 3) 3 (.int .i64 (QS + 1)) (Y.AKE hi rfl rfl) ?_
 refine Seq.u 69 (.int .i64 (QS + 1)) (Seq.done ?_)
 refine At.inLoop ?_
 refine At.s K54 K55 ?_
 exact At.v [(13,(.pointer (some ⟨Ck,0,none⟩))),(14,(.pointer (some ⟨BO,0,none⟩))),(15,(.int .i64 x15)),(67,(.slice jl Xy aJ)),(68,(.int .i64 Nf)),(69,(.int .i64 (QS + 1)))] (h _)
end CC
namespace Fk
variable {p0 q5 IN : Option Addr} {n0 c0 n11 IP : Nat} {x12 FI : Int}
def M : Fw := ⟨prog,37,f37,[53],[7],false,[],[],[(232,[(0,wL),(5,wQ),(11,wL),(12,wI),(13,wI)])]⟩
theorem ok : M.Ok := ⟨.cons call53 (AG.nil),mixed,func37,by kernel_rfl⟩
def A7 := M.pt 0
theorem start (h : Al σ fun Cj => A7 R p0 n0 c0 (aD Cj 0) p0 n0 c0 (n0 : Int) 0 (Hp.set σ Cj (.cells #[.slice none 0 0] 110 (0,0)))) : Spec prog 37 #[.slice p0 n0 c0] σ R := M.start h ok
theorem Aa (h : Br (FI < x12) (Pq IN fun H0 Nh => In FI (n11 : Int) ∧ ∃ Rt X8 lI gx gy hJ ADg ADh ADi ADj ADk ADl ADm ADn,Aw σ H0 (Nh + Int.toNat FI * 10) [.int .i64 Rt,.int .i64 X8,.string lI,.slice gx gy hJ,.int .i64 ADg,.int .i64 ADh,.int .i64 ADi,.slice ADj ADk ADl,.bool ADm,.int .i64 ADn] ∧ ∀ b7 : Nat,Spec prog 53 #[.pointer q5,.agg #[.int .i64 Rt,.int .i64 X8,.string lI,.slice gx gy hJ,.int .i64 ADg,.int .i64 ADh,.int .i64 ADi,.slice ADj ADk ADl,.bool ADm,.int .i64 ADn]] σ (AA R (CI .i64 fun Hv y => Br (Hv ≠ 0) (R (.returned (.tuple #[.int .i64 0,.int .i64 FI,.int .i64 Hv])) y) (AI (FI + 1) ∧ A7 R p0 n0 c0 q5 (aD H0 Nh) n11 IP x12 (FI + 1) y)))) (Pq q5 fun O6 V4 => LS σ O6 V4 fun p29 n29 c29 => Br ((n29 : Int) ≠ 1) (R (.returned (.tuple #[.int .i64 0,(.int .i64 (n0 : Int)),.int .i64 190])) σ) (Br (4096 < (n0 : Int)) (R (.returned (.tuple #[.int .i64 0,(.int .i64 (n0 : Int)),.int .i64 190])) σ) (LS σ O6 V4 fun p42 n42 c42 => Pq p42 fun ed o43 => In 0 (n42 : Int) ∧ LI .i64 σ ed o43 fun eh => R (.returned (.tuple #[.int .i64 eh,.int .i64 0,.int .i64 0])) σ)))) : A7 R p0 n0 c0 q5 IN n11 IP x12 FI σ := M.of h ok rfl
end Fk
namespace EP
variable {p0 p8 : Option Addr} {n0 c0 n8 c8 : Nat} {x9 x10 : Int}
def M : Fw := ⟨prog,68,f68,[98,99],[4],false,[(10,14,true)],[],[(232,[(0,wL),(8,wL),(9,wI),(10,wI)])]⟩
theorem ok : M.Ok := ⟨.cons call98 (.cons call99 (AG.nil)),mixed,func68,by kernel_rfl⟩
def MM := M.pt 0
theorem start (h : Br (16 < (n0 : Int)) (R (.returned (.int .i64 30)) σ) (MM R p0 n0 c0 p0 n0 c0 (n0 : Int) 0 σ)) : Spec prog 68 #[.slice p0 n0 c0] σ R := M.start h ok
theorem I2 (h : Br (x10 < x9) (Pq p8 fun Ck V5 => In x10 (n8 : Int) ∧ ∃ sO bp,Aw σ Ck (V5 + Int.toNat x10 * 2) [.string sO,.string bp] ∧ ∀ b4 : Nat,Spec prog 98 #[.string sO] σ (AA R (CB fun t18 y => Bn t18 (R (.returned (.int .i64 31)) y) (Bo ((ByteArray.toList bp == ByteArray.toList (ByteArray.mk #[]))) (R (.returned (.int .i64 32)) y) (Br ((256 : Int) < ((ByteArray.size bp : Nat) : Int)) (R (.returned (.int .i64 32)) y) (Spec prog 99 #[.string bp] y (AA R (CB fun t33 AF => Bn t33 (R (.returned (.int .i64 32)) AF) (Br (0 < x10) (AI (x10 - 1) ∧ Pq p0 fun jo jq => In (x10 - 1) (n0 : Int) ∧ LT AF jo (jq + Int.toNat (x10 - 1) * 2) fun s47 => ∃ t48,YF prog ((do eqGuard .leq 9 (.tmp 41) (.tmp 47) (.string sO) (.string s47); binOp .leq 9 (.string sO) (.string s47))) AF (.bool t48) ∧ Bo t48 (R (.returned (.int .i64 33)) AF) (AI (x10 + 1) ∧ MM R (aD jo jq) n0 c0 (aD Ck V5) n8 c8 x9 (x10 + 1) AF)) (AI (x10 + 1) ∧ MM R p0 n0 c0 (aD Ck V5) n8 c8 x9 (x10 + 1) AF)))))))))) (R (.returned (.int .i64 0)) σ)) : MM R p0 n0 c0 p8 n8 c8 x9 x10 σ := M.of h ok rfl
end EP
namespace Ay
variable {p0 p1 IN : Option Addr} {n0 c0 n1 c1 n11 IP : Nat} {v2 : Value} {x12 FI : Int}
def M : Fw := ⟨prog,75,f75,[],[8,9],false,[],[],[(104,[(0,wL),(1,wL),(2,wV),(11,wL),(12,wI),(13,wI)])]⟩
theorem ok : M.Ok := ⟨AG.nil,mixed,func75,by kernel_rfl⟩
def H3 := M.pt 0
theorem start (h : H3 R p0 n0 c0 p1 n1 c1 v2 p0 n0 c0 (n0 : Int) 0 σ) : Spec prog 75 #[.slice p0 n0 c0,.slice p1 n1 c1,v2] σ R := M.EF h ok [(0,.o (.L p0 n0 c0)),(1,.o (.L p1 n1 c1)),(2,.o (.V v2))] rfl rfl (by kernel_rfl)
theorem Bp (h : Br (FI < x12) (Pq IN fun H0 Nh => In FI (n11 : Int) ∧ ∃ ADo ADp,Aw σ H0 (Nh + Int.toNat FI * 2) [.string ADo,.string ADp] ∧ ∀ b8 : Nat,Br ((n1 : Int) ≤ FI) (R (.returned (.int .i64 1)) σ) (Pq p1 fun b24 o24 => In FI (n1 : Int) ∧ ∃ ADr ADs,Aw σ b24 (o24 + Int.toNat FI * 2) [.string ADr,.string ADs] ∧ ∀ b9 : Nat,∃ (f29 : Nat) (vT vU : Array Value),v2 = .func (.func f29) vT vU ∧ Enters prog f29 ∧ Spec prog f29 (vT ++ #[.agg #[.string ADo,.string ADp],.agg #[.string ADr,.string ADs]] ++ vU) σ (AA R (CI .i64 fun x29 y => Br (x29 ≠ 0) (R (.returned (.int .i64 x29)) y) (AI (FI + 1) ∧ H3 R p0 n0 c0 (aD b24 o24) n1 c1 v2 (aD H0 Nh) n11 IP x12 (FI + 1) y))))) (Br ((n0 : Int) < (n1 : Int)) (R (.returned (.int .i64 (-1))) σ) (R (.returned (.int .i64 0)) σ))) : H3 R p0 n0 c0 p1 n1 c1 v2 IN n11 IP x12 FI σ := M.of h ok rfl
end Ay
namespace DR
variable {q0 : Option Addr}
def M : Fw := ⟨prog,96,f96,[95],[],false,[],[],[]⟩
theorem ok : M.Ok := ⟨.cons call95 (AG.nil),mixed,func96,by kernel_rfl⟩
theorem start (h : Spec prog 95 #[.pointer q0,(.func (.func 139) #[.pointer q0] #[]),.int .i64 11,.int .i64 13] σ (AA R (fun z y => z = (.tuple #[]) ∧ R (.returned (.tuple #[])) y))) : Spec prog 96 #[.pointer q0] σ R := M.start h ok
end DR
namespace J7
variable {x0 : Int}
def M : Fw := ⟨prog,124,f124,[],[],false,[],[],[]⟩
theorem ok : M.Ok := ⟨AG.nil,mixed,func124,by kernel_rfl⟩
theorem start (h : Br (5 ≤ x0) (R (.returned (.bool (decide (x0 ≤ 10)))) σ) (R (.returned (.bool false)) σ)) : Spec prog 124 #[.int .i64 x0] σ R := M.start h ok
end J7
namespace Pr
variable {s0 : ByteArray}
def M : Fw := ⟨prog,140,f140,[172,173,174],[],false,[],[],[]⟩
theorem ok : M.Ok := ⟨.cons call172 (.cons call173 (.cons call174 (AG.nil))),mixed,func140,by kernel_rfl⟩
theorem start (h : Spec prog 172 #[.string s0] σ (AA R (CB fun t7 y => Bn t7 (R (.returned (.tuple #[.int .u64 0,.bool false])) y) (Spec prog 173 #[.string s0,.int .i64 64] y (AA R (fun z AF => ∃ hY hZ,z = (.tuple #[hY,hZ]) ∧ Spec prog 174 #[hY] AF (AA R (CI .u64 fun x15 AH => R (.returned (.tuple #[.int .u64 x15,.bool true])) AH)))))))) : Spec prog 140 #[.string s0] σ R := M.start h ok
end Pr
end TwW
end
end
section
set_option maxRecDepth 100000
noncomputable section
namespace TwW
open Go Tw Go.Proofs.Tryz
variable [E5] {R : Rr} {σ : Hp}

namespace Ru
variable {p0 p1 : Option Addr} {n0 c0 n1 c1 : Nat}
def M : Fw := ⟨prog,149,f149,[197],[],false,[],[],[]⟩
theorem ok : M.Ok := ⟨.cons call197 (AG.nil),mixed,func149,by kernel_rfl⟩
theorem start (h : Al σ fun b3 => Spec prog 197 #[.slice p0 n0 c0,(.func (.func 198) #[] #[(.pointer (aD b3 0))])] (Hp.set σ b3 (.cells #[.slice p1 n1 c1] 34 (0,0))) (AA R (CS fun p7 n7 c7 y => R (.returned (.slice p7 n7 c7)) y))) : Spec prog 149 #[.slice p0 n0 c0,.slice p1 n1 c1] σ R := M.start h ok
end Ru
namespace D4
variable {p0 : Option Addr} {n0 c0 : Nat}
def M : Fw := ⟨prog,153,f153,[202],[],false,[],[],[]⟩
theorem ok : M.Ok := ⟨.cons call202 (AG.nil),mixed,func153,by kernel_rfl⟩
theorem start (h : Spec prog 202 #[.int .i64 9,.slice p0 n0 c0] σ (AA R (CI .u64 fun x4 y => R (.returned (.int .u64 x4)) y))) : Spec prog 153 #[.slice p0 n0 c0] σ R := M.start h ok
end D4
namespace DS
variable {x0 : Int} {b1 b2 : Nat}
def M : Fw := ⟨prog,159,f159,[156],[],false,[],[],[]⟩
theorem ok : M.Ok := ⟨.cons call156 (AG.nil),mixed,func159,by kernel_rfl⟩
theorem start (h : ∃ GH GI s6c GJ GK GL x6e x6f x6g p6h n6h c6h t6i x6j,Aw σ b1 0 [.int .i64 GH,.int .i64 GI,.string s6c,.slice GJ GK GL,.int .i64 x6e,.int .i64 x6f,.int .i64 x6g,.slice p6h n6h c6h,.bool t6i,.int .i64 x6j] ∧ LI .u64 σ b2 1 fun x9 => Spec prog 156 #[.agg #[.int .i64 GH,.int .i64 GI,.string s6c,.slice GJ GK GL,.int .i64 x6e,.int .i64 x6f,.int .i64 x6g,.slice p6h n6h c6h,.bool t6i,.int .i64 x6j],.int .u64 x0,.int .u64 x9] σ (AA R (fun z y => ∃ I3 Rv,z = (.tuple #[.int .u64 I3,.bool Rv]) ∧ R (.returned (.tuple #[.int .u64 I3,.bool Rv])) y))) : Spec prog 159 #[.int .u64 x0,(.pointer (aD b1 0)),(.pointer (aD b2 0))] σ R := M.start h ok
end DS
namespace Ps
variable {s0 : ByteArray}
def M : Fw := ⟨prog,172,f172,[213],[],false,[],[],[]⟩
theorem ok : M.Ok := ⟨.cons call213 (AG.nil),mixed,func172,by kernel_rfl⟩
theorem start (h : Spec prog 213 #[.string s0] σ (AA R (CI .i64 fun x6 y => Br (x6 = 0) (R (.returned (.bool false)) y) (Br (1 < x6) (∃ Lt : UInt8,(0 : Int) ≤ 0 ∧ (ByteArray.data s0)[Int.toNat 0]? = some Lt ∧ Br ((((UInt8.toNat Lt : Nat) : Int) : Int) = 48) (R (.returned (.bool false)) y) (Br (x6 = ((ByteArray.size s0 : Nat) : Int)) (R (.returned (.bool (decide (x6 ≤ 15)))) y) (AI (x6 + 1) ∧ ∃ vV,YF prog (Instr.sliceAt 9 (.string s0) (some (.int .i64 (x6 + 1))) none none) y (.string vV) ∧ Spec prog 213 #[.string vV] y (AA R (CI .i64 fun X9 AF => ∃ MY : UInt8,0 ≤ x6 ∧ (ByteArray.data s0)[Int.toNat x6]? = some MY ∧ Br ((((UInt8.toNat MY : Nat) : Int) : Int) = 46) (Br (0 < X9) (AI (x6 + 1) ∧ AI ((x6 + 1) + X9) ∧ Br ((((x6 + 1) + X9) : Int) = ((ByteArray.size s0 : Nat) : Int)) (AI (x6 + X9) ∧ R (.returned (.bool (decide (((x6 + X9) : Int) ≤ 15)))) AF) (R (.returned (.bool false)) AF)) (R (.returned (.bool false)) AF)) (R (.returned (.bool false)) AF)))))) (Br (x6 = ((ByteArray.size s0 : Nat) : Int)) (R (.returned (.bool (decide (x6 ≤ 15)))) y) (AI (x6 + 1) ∧ ∃ vV,YF prog (Instr.sliceAt 9 (.string s0) (some (.int .i64 (x6 + 1))) none none) y (.string vV) ∧ Spec prog 213 #[.string vV] y (AA R (CI .i64 fun X9 AF => ∃ MY : UInt8,0 ≤ x6 ∧ (ByteArray.data s0)[Int.toNat x6]? = some MY ∧ Br ((((UInt8.toNat MY : Nat) : Int) : Int) = 46) (Br (0 < X9) (AI (x6 + 1) ∧ AI ((x6 + 1) + X9) ∧ Br ((((x6 + 1) + X9) : Int) = ((ByteArray.size s0 : Nat) : Int)) (AI (x6 + X9) ∧ R (.returned (.bool (decide (((x6 + X9) : Int) ≤ 15)))) AF) (R (.returned (.bool false)) AF)) (R (.returned (.bool false)) AF)) (R (.returned (.bool false)) AF))))))))) : Spec prog 172 #[.string s0] σ R := M.start h ok
end Ps
namespace ej
variable {x0 : Int}
def M : Fw := ⟨prog,182,f182,[],[],false,[],[],[]⟩
theorem ok : M.Ok := ⟨AG.nil,mixed,func182,by kernel_rfl⟩
theorem start (h : EN prog 22 #[.int .u64 x0] σ (fun z y => ∃ x4,(Value.float .f64 x4) = z ∧ R (.returned (Value.float .f64 x4)) y)) : Spec prog 182 #[.int .u64 x0] σ R := M.start h ok
end ej
namespace Ni
variable {f0 : Fn} {a0 c0 : Array Value}
def M : Fw := ⟨prog,188,f188,[],[],false,[],[],[]⟩
theorem ok : M.Ok := ⟨AG.nil,mixed,func188,by kernel_rfl⟩
theorem start (h : Al σ fun b1 => R (.returned (.func (.func 226) #[] #[(.pointer (aD b1 0))])) (Hp.set σ b1 (.cells #[(Value.func f0 a0 c0)] 232 (0,0)))) : Spec prog 188 #[(Value.func f0 a0 c0)] σ R := M.EF h ok [(0,.o (.V (Value.func f0 a0 c0)))] rfl rfl (by kernel_rfl)
end Ni
namespace Ca
variable {p0 p5 p8 : Option Addr} {n0 c0 n5 c5 n8 c8 : Nat} {v1 : Value} {x9 x10 : Int}
def M : Fw := ⟨prog,197,f197,[],[7],false,[],[],[(232,[(1,wV),(5,wL),(8,wL),(9,wI),(10,wI)]),(935,[(1,wV),(5,wL),(8,wL),(9,wI),(10,wI)])]⟩
theorem ok : M.Ok := ⟨AG.nil,mixed,func197,by kernel_rfl⟩
def A7 := M.pt 0
def QU := M.pt 1
theorem start (h : A7 R v1 none 0 0 p0 n0 c0 (n0 : Int) 0 σ) : Spec prog 197 #[.slice p0 n0 c0,v1] σ R := M.EF h ok [(0,.o (.L p0 n0 c0)),(1,.o (.V v1))] rfl rfl (by kernel_rfl)
theorem Aa (h : Br (x10 < x9) (Pq p8 fun Pu QV => In x10 (n8 : Int) ∧ ∃ yy iA,Aw σ Pu (QV + Int.toNat x10 * 2) [.string yy,.string iA] ∧ ∀ b7 : Nat,∃ (f16 : Nat) (vW vX : Array Value),v1 = .func (.func f16) vW vX ∧ Enters prog f16 ∧ Spec prog f16 (vW ++ #[.agg #[.string yy,.string iA]] ++ vX) σ (AA R (CB fun t16 y => Bo t16 (Al y fun DO => AK prog (Builtin.append_ #[37,37] 37 #[.slice p5 n5 c5,(.slice (aD DO 0) 1 1)]) (Hp.set y DO (.cells #[.string yy,.string iA] 56 (0,0))) (CS fun p20 n20 c20 AF => QU R v1 p20 n20 c20 (aD Pu QV) n8 c8 x9 x10 AF)) (QU R v1 p5 n5 c5 (aD Pu QV) n8 c8 x9 x10 y)))) (R (.returned (.slice p5 n5 c5)) σ)) : A7 R v1 p5 n5 c5 p8 n8 c8 x9 x10 σ := M.of h ok rfl
theorem Lu (h : AI (x10 + 1) ∧ A7 R v1 p5 n5 c5 p8 n8 c8 x9 (x10 + 1) σ) : QU R v1 p5 n5 c5 p8 n8 c8 x9 x10 σ := M.of h ok rfl
end Ca
namespace BP
variable {p0 : Option Addr} {n0 c0 : Nat} {s1 : ByteArray} {x7 x8 : Int}
def M : Fw := ⟨prog,228,f228,[],[],false,[],[],[(104,[(0,wL),(1,wT),(7,wI),(8,wI)])]⟩
theorem ok : M.Ok := ⟨AG.nil,mixed,func228,by kernel_rfl⟩
def H3 := M.pt 0
theorem start (h : H3 R p0 n0 c0 s1 (n0 : Int) 0 σ) : Spec prog 228 #[.slice p0 n0 c0,.string s1] σ R := M.start h ok
theorem Bp (h : Br (x8 < x7) (Pq p0 fun BO Nc => In x8 (n0 : Int) ∧ LT σ BO (Nc + Int.toNat x8 * 1) fun s15 => Bo (ByteArray.toList s1 == ByteArray.toList s15) (R (.returned (.int .i64 x8)) σ) (AI (x8 + 1) ∧ H3 R (aD BO Nc) n0 c0 s1 x7 (x8 + 1) σ)) (R (.returned (.int .i64 (-1))) σ)) : H3 R p0 n0 c0 s1 x7 x8 σ := M.of h ok rfl
end BP
namespace Bc
variable {q0 : Option Addr}
def M : Fw := ⟨prog,230,f230,[136,138,250,251],[],false,[],[],[]⟩
theorem ok : M.Ok := ⟨.cons call136 (.cons call138 (.cons call250 (.cons call251 (AG.nil)))),mixed,func230,by kernel_rfl⟩
theorem start (h : Spec prog 136 #[.pointer q0,.int .i64 5,(.string (ByteArray.mk #[45]))] σ (AA R (CB fun t3 y => Bn t3 (Spec prog 250 #[.pointer q0] y (AA R (fun z AF => z = (.tuple #[]) ∧ R (.returned (.tuple #[])) AF))) (Spec prog 251 #[.pointer q0,(.func (.func 230) #[.pointer q0] #[])] y (AA R (fun z AF => z = (.tuple #[]) ∧ Spec prog 138 #[.pointer q0,(.agg #[.int .i64 7,.int .i64 0,(.string (ByteArray.mk #[])),.slice none 0 0,.int .i64 0,.int .i64 0,.int .i64 0,.slice none 0 0,.bool false,.int .i64 1])] AF (AA R (fun z AH => z = (.tuple #[]) ∧ R (.returned (.tuple #[])) AH)))))))) : Spec prog 230 #[.pointer q0] σ R := M.start h ok
end Bc
namespace Bj
variable {s0 : ByteArray} {x1 : Int}
def M : Fw := ⟨prog,231,f231,[252,253],[],false,[],[],[]⟩
theorem ok : M.Ok := ⟨.cons call252 (.cons call253 (AG.nil)),mixed,func231,by kernel_rfl⟩
theorem start (h : Br (x1 = 32) (Spec prog 252 #[.string s0] σ (AA R (fun z y => ∃ AD4 UL AD5,z = (.tuple #[AD4,.int .i64 UL,AD5]) ∧ AK prog (convert 280 51 AD4) y (fun z AF => ∃ DT,(Value.float .f64 DT) = z ∧ R (.returned (.tuple #[(Value.float .f64 DT),.int .i64 UL,AD5])) AF)))) (Spec prog 253 #[.string s0] σ (AA R (fun z y => ∃ AD6 iB AD7,z = (.tuple #[AD6,.int .i64 iB,AD7]) ∧ R (.returned (.tuple #[AD6,.int .i64 iB,AD7])) y)))) : Spec prog 231 #[.string s0,.int .i64 x1] σ R := M.start h ok
end Bj
namespace Hc
variable {s0 s1 : ByteArray}
def M : Fw := ⟨prog,285,f285,[315],[],false,[],[],[]⟩
theorem ok : M.Ok := ⟨.cons call315 (AG.nil),mixed,func285,by kernel_rfl⟩
theorem start (h : Spec prog 315 #[.string s0,.string s1] σ (AA R (CB fun t7 y => R (.returned (.bool t7)) y))) : Spec prog 285 #[.string s0,.string s1] σ R := M.start h ok
end Hc
namespace BR
variable {b0 : Nat}
def M : Fw := ⟨prog,294,f294,[65,210],[],false,[],[],[]⟩
theorem ok : M.Ok := ⟨.cons call65 (.cons call210 (AG.nil)),mixed,func294,by kernel_rfl⟩
theorem start (h : LQ σ b0 0 fun q1 => Spec prog 65 #[.pointer q1] σ (AA R (fun z y => z = (.tuple #[]) ∧ LQ y b0 0 fun q3 => Spec prog 210 #[.pointer q3,(.string (ByteArray.mk #[41]))] y (AA R (fun z AF => z = (.tuple #[]) ∧ R (.returned (.tuple #[])) AF))))) : Spec prog 294 #[(.pointer (aD b0 0))] σ R := M.start h ok
end BR
end TwW
end
end
section
set_option maxRecDepth 100000
noncomputable section
namespace TwW
open Go Tw Go.Proofs.Tryz
variable [E5] {R : Rr} {σ : Hp}

namespace BT
variable {p0 : Option Addr} {n0 c0 : Nat} {x3 x4 : Int}
def M : Fw := ⟨prog,39,f39,[56,57],[],false,[(9,20,true)],[],[(208,[(0,wL),(3,wI)]),(26928,[(0,wL),(3,wI),(4,wI)])]⟩
theorem ok : M.Ok := ⟨.cons call56 (.cons call57 (AG.nil)),mixed,func39,by kernel_rfl⟩
def Dm := M.pt 0
def Rx := M.pt 1
theorem start (h : Dm R p0 n0 c0 0 σ) : Spec prog 39 #[.slice p0 n0 c0] σ R := M.start h ok
theorem Ac (h : Br (x3 < (n0 : Int)) (Pq p0 fun Ck V5 => In x3 (n0 : Int) ∧ LS σ Ck (V5 + Int.toNat x3 * 2) fun aL n15 V6 => Spec prog 56 #[.slice aL n15 V6] σ (AA R (CI .i64 fun x16 y => Br (x16 ≠ 0) (R (.returned (.int .i64 100)) y) (In x3 (n0 : Int) ∧ LS y Ck ((V5 + Int.toNat x3 * 2) + 1) fun bg n23 bh => Br ((n23 : Int) = 0) (R (.returned (.int .i64 100)) y) (Br (0 < x3) (AI (x3 - 1) ∧ In (x3 - 1) (n0 : Int) ∧ LS y Ck (V5 + Int.toNat (x3 - 1) * 2) fun p36 n36 c36 => In x3 (n0 : Int) ∧ LS y Ck (V5 + Int.toNat x3 * 2) fun qk n41 eo => Spec prog 57 #[.slice p36 n36 c36,.slice qk n41 eo] y (AA R (CI .i64 fun UM AF => Br (0 ≤ UM) (R (.returned (.int .i64 100)) AF) (Rx R (aD Ck V5) n0 c0 x3 1 AF)))) (Rx R (aD Ck V5) n0 c0 x3 1 y)))))) (R (.returned (.int .i64 0)) σ)) : Dm R p0 n0 c0 x3 σ := M.of h ok rfl
theorem Nj (h : Pq p0 fun Pv o49 => In x3 (n0 : Int) ∧ LS σ Pv ((o49 + Int.toNat x3 * 2) + 1) fun p51 n51 c51 => Br (x4 < (n51 : Int)) (In x3 (n0 : Int) ∧ LS σ Pv ((o49 + Int.toNat x3 * 2) + 1) fun p60 n60 c60 => Pq p60 fun yz o62 => In x4 (n60 : Int) ∧ LI .i64 σ yz (o62 + Int.toNat x4 * 2) fun lJ => In x3 (n0 : Int) ∧ LS σ Pv ((o49 + Int.toNat x3 * 2) + 1) fun lK n69 ql => AI (x4 - 1) ∧ Pq lK fun b72 o72 => In (x4 - 1) (n69 : Int) ∧ LI .i64 σ b72 (o72 + Int.toNat (x4 - 1) * 2) fun x74 => Br (lJ ≤ x74) (R (.returned (.int .i64 100)) σ) (AI (x4 + 1) ∧ Rx R (aD Pv o49) n0 c0 x3 (x4 + 1) σ)) (AI (x3 + 1) ∧ Dm R (aD Pv o49) n0 c0 (x3 + 1) σ)) : Rx R p0 n0 c0 x3 x4 σ := M.of h ok rfl
end BT
namespace YA
variable {p0 : Option Addr} {n0 c0 : Nat}
def M : Fw := ⟨prog,49,f49,[72],[],false,[],[],[]⟩
theorem ok : M.Ok := ⟨.cons call72 (AG.nil),mixed,func49,by kernel_rfl⟩
theorem start (h : Spec prog 72 #[.slice p0 n0 c0] σ (AA R (CS fun p4 n4 c4 y => AK prog (convert 90 9 (.slice p4 n4 c4)) y (CT fun s5 AF => R (.returned (.string s5)) AF)))) : Spec prog 49 #[.slice p0 n0 c0] σ R := M.start h ok
end YA
namespace Pw
def M : Fw := ⟨prog,61,f61,[],[],false,[],[],[]⟩
theorem ok : M.Ok := ⟨AG.nil,mixed,func61,by kernel_rfl⟩
theorem start (h : Al σ fun b1 => R (.returned (.slice (aD b1 0) 12 12)) (Hp.set σ b1 (.cells #[(.string (ByteArray.mk #[114,97,116,101])),(.string (ByteArray.mk #[105,110,99,114,101,97,115,101])),(.string (ByteArray.mk #[100,101,108,116,97])),(.string (ByteArray.mk #[115,117,109,95,111,118,101,114,95,116,105,109,101])),(.string (ByteArray.mk #[97,118,103,95,111,118,101,114,95,116,105,109,101])),(.string (ByteArray.mk #[109,105,110,95,111,118,101,114,95,116,105,109,101])),(.string (ByteArray.mk #[109,97,120,95,111,118,101,114,95,116,105,109,101])),(.string (ByteArray.mk #[99,111,117,110,116,95,111,118,101,114,95,116,105,109,101])),(.string (ByteArray.mk #[108,97,115,116,95,111,118,101,114,95,116,105,109,101])),(.string (ByteArray.mk #[119,97,118,101])),(.string (ByteArray.mk #[97,98,115])),(.string (ByteArray.mk #[102,108,111,111,114]))] 9 (0,0)))) : Spec prog 61 #[] σ R := M.start h ok
end Pw
namespace Jd
variable {q0 : Option Addr}
def M : Fw := ⟨prog,65,f65,[95],[],false,[],[],[]⟩
theorem ok : M.Ok := ⟨.cons call95 (AG.nil),mixed,func65,by kernel_rfl⟩
theorem start (h : Spec prog 95 #[.pointer q0,(.func (.func 96) #[.pointer q0] #[]),.int .i64 12,.int .i64 12] σ (AA R (fun z y => z = (.tuple #[]) ∧ R (.returned (.tuple #[])) y))) : Spec prog 65 #[.pointer q0] σ R := M.start h ok
end Jd
namespace IQ
variable {q0 : Option Addr}
def M : Fw := ⟨prog,66,f66,[],[2],false,[],[],[]⟩
theorem ok : M.Ok := ⟨AG.nil,mixed,func66,by kernel_rfl⟩
theorem start (h : ∀ b2 : Nat,Pq q0 fun b4 o4 => LS σ b4 o4 fun p6 n6 c6 => Pq p6 fun b7 o7 => In 0 (n6 : Int) ∧ ∃ EG ER s8c x8d,Aw σ b7 o7 [.int .i64 EG,.int .i64 ER,.string s8c,.int .i64 x8d] ∧ R (.returned (.agg #[.int .i64 EG,.int .i64 ER,.string s8c,.int .i64 x8d])) σ) : Spec prog 66 #[.pointer q0] σ R := M.start h ok
end IQ
namespace Ry
def M : Fw := ⟨prog,70,f70,[],[],false,[],[],[]⟩
theorem ok : M.Ok := ⟨AG.nil,mixed,func70,by kernel_rfl⟩
theorem start (h : Al σ fun b1 => R (.returned (.slice (aD b1 0) 8 8)) (Hp.set σ b1 (.cells #[.nilFunc,(.func (.func 100) #[] #[]),(.func (.func 101) #[] #[]),(.func (.func 102) #[] #[]),(.func (.func 103) #[] #[]),(.func (.func 104) #[] #[]),(.func (.func 105) #[] #[]),(.func (.func 106) #[] #[])] 137 (0,0)))) : Spec prog 70 #[] σ R := M.start h ok
end Ry
namespace Rz
variable {FA Eg QW Nk H4 Je : Int} {QX : ByteArray} {U1 R0 : Option Addr} {UN U2 Q3 R3 : Nat} {Mz : Bool}
def M : Fw := ⟨prog,79,f79,[94,120,121,122,123,124],[1],false,[],[],[]⟩
theorem ok : M.Ok := ⟨.cons call94 (.cons call120 (.cons call121 (.cons call122 (.cons call123 (.cons call124 (AG.nil)))))),mixed,func79,by kernel_rfl⟩
theorem start (h : ∀ b1 : Nat,Spec prog 121 #[.agg #[.int .i64 FA,.int .i64 Eg,.string QX,.slice U1 UN U2,.int .i64 QW,.int .i64 Nk,.int .i64 H4,.slice R0 Q3 R3,.bool Mz,.int .i64 Je]] σ (AA R (fun z y => ∃ I4 HO I5 I6 I7 I8 I9 JA JB JC JD JE J8 JF,z = (.agg #[.int .i64 I4,.int .i64 HO,.string I5,.slice I6 I7 I8,.int .i64 I9,.int .i64 JA,.int .i64 JB,.slice JC JD JE,.bool J8,.int .i64 JF]) ∧ Spec prog 120 #[.agg #[.int .i64 FA,.int .i64 Eg,.string QX,.slice U1 UN U2,.int .i64 QW,.int .i64 Nk,.int .i64 H4,.slice R0 Q3 R3,.bool Mz,.int .i64 Je],.agg #[.int .i64 I4,.int .i64 HO,.string I5,.slice I6 I7 I8,.int .i64 I9,.int .i64 JA,.int .i64 JB,.slice JC JD JE,.bool J8,.int .i64 JF]] y (AA R (CB fun t6 AF => Bn t6 (R (.returned (.bool false)) AF) (Spec prog 122 #[.agg #[.int .i64 FA,.int .i64 Eg,.string QX,.slice U1 UN U2,.int .i64 QW,.int .i64 Nk,.int .i64 H4,.slice R0 Q3 R3,.bool Mz,.int .i64 Je]] AF (AA R (CB fun t10 AH => Bn t10 (R (.returned (.bool false)) AH) (Br (0 < (UN : Int)) (Br (FA ≠ 2) (Br (FA ≠ 3) (R (.returned (.bool false)) AH) (Br (FA = 1) (Spec prog 94 #[.string QX] AH (AA R (CB fun t35 Ab => R (.returned (.bool t35)) Ab))) (Br (FA = 2) (Spec prog 123 #[.int .i64 Nk,.int .i64 0] AH (AA R (CB fun t40 Ab => R (.returned (.bool t40)) Ab))) (Br (FA = 3) (Spec prog 123 #[.int .i64 QW,.int .i64 1] AH (AA R (CB fun t45 Ab => Bo t45 (Spec prog 123 #[.int .i64 Nk,.int .i64 0] Ab (AA R (CB fun t49 C4 => R (.returned (.bool t49)) C4))) (R (.returned (.bool false)) Ab)))) (Br (FA = 4) (Br (Je = 1) (Br (1 ≤ Eg) (R (.returned (.bool (decide (Eg ≤ 12)))) AH) (R (.returned (.bool false)) AH)) (R (.returned (.bool false)) AH)) (Br (FA = 5) (Br (Je = 1) (Br (1 ≤ Eg) (Br (Eg ≤ 5) (Br (H4 = 0) (R (.returned (.bool true)) AH) (Br (H4 = 1) (R (.returned (.bool true)) AH) (R (.returned (.bool (decide (H4 = 2)))) AH))) (R (.returned (.bool false)) AH)) (R (.returned (.bool false)) AH)) (R (.returned (.bool false)) AH)) (Br (FA = 6) (Br (Je = 2) (Br (1 ≤ Eg) (Br (Eg ≤ 13) (Br (H4 = 0) (Bn Mz (R (.returned (.bool true)) AH) (Spec prog 124 #[.int .i64 Eg] AH (AA R (CB fun t133 Ab => R (.returned (.bool t133)) Ab)))) (Br (H4 = 3) (Bn Mz (R (.returned (.bool true)) AH) (Spec prog 124 #[.int .i64 Eg] AH (AA R (CB fun t133 Ab => R (.returned (.bool t133)) Ab)))) (Br (H4 = 4) (Bn Mz (R (.returned (.bool true)) AH) (Spec prog 124 #[.int .i64 Eg] AH (AA R (CB fun t133 Ab => R (.returned (.bool t133)) Ab)))) (R (.returned (.bool false)) AH)))) (R (.returned (.bool false)) AH)) (R (.returned (.bool false)) AH)) (R (.returned (.bool false)) AH)) (Br (FA = 7) (R (.returned (.bool (decide (Je = 1)))) AH) (R (.returned (.bool false)) AH))))))))) (Br (FA = 1) (Spec prog 94 #[.string QX] AH (AA R (CB fun t35 Ab => R (.returned (.bool t35)) Ab))) (Br (FA = 2) (Spec prog 123 #[.int .i64 Nk,.int .i64 0] AH (AA R (CB fun t40 Ab => R (.returned (.bool t40)) Ab))) (Br (FA = 3) (Spec prog 123 #[.int .i64 QW,.int .i64 1] AH (AA R (CB fun t45 Ab => Bo t45 (Spec prog 123 #[.int .i64 Nk,.int .i64 0] Ab (AA R (CB fun t49 C4 => R (.returned (.bool t49)) C4))) (R (.returned (.bool false)) Ab)))) (Br (FA = 4) (Br (Je = 1) (Br (1 ≤ Eg) (R (.returned (.bool (decide (Eg ≤ 12)))) AH) (R (.returned (.bool false)) AH)) (R (.returned (.bool false)) AH)) (Br (FA = 5) (Br (Je = 1) (Br (1 ≤ Eg) (Br (Eg ≤ 5) (Br (H4 = 0) (R (.returned (.bool true)) AH) (Br (H4 = 1) (R (.returned (.bool true)) AH) (R (.returned (.bool (decide (H4 = 2)))) AH))) (R (.returned (.bool false)) AH)) (R (.returned (.bool false)) AH)) (R (.returned (.bool false)) AH)) (Br (FA = 6) (Br (Je = 2) (Br (1 ≤ Eg) (Br (Eg ≤ 13) (Br (H4 = 0) (Bn Mz (R (.returned (.bool true)) AH) (Spec prog 124 #[.int .i64 Eg] AH (AA R (CB fun t133 Ab => R (.returned (.bool t133)) Ab)))) (Br (H4 = 3) (Bn Mz (R (.returned (.bool true)) AH) (Spec prog 124 #[.int .i64 Eg] AH (AA R (CB fun t133 Ab => R (.returned (.bool t133)) Ab)))) (Br (H4 = 4) (Bn Mz (R (.returned (.bool true)) AH) (Spec prog 124 #[.int .i64 Eg] AH (AA R (CB fun t133 Ab => R (.returned (.bool t133)) Ab)))) (R (.returned (.bool false)) AH)))) (R (.returned (.bool false)) AH)) (R (.returned (.bool false)) AH)) (R (.returned (.bool false)) AH)) (Br (FA = 7) (R (.returned (.bool (decide (Je = 1)))) AH) (R (.returned (.bool false)) AH))))))))) (Br (FA = 1) (Spec prog 94 #[.string QX] AH (AA R (CB fun t35 Ab => R (.returned (.bool t35)) Ab))) (Br (FA = 2) (Spec prog 123 #[.int .i64 Nk,.int .i64 0] AH (AA R (CB fun t40 Ab => R (.returned (.bool t40)) Ab))) (Br (FA = 3) (Spec prog 123 #[.int .i64 QW,.int .i64 1] AH (AA R (CB fun t45 Ab => Bo t45 (Spec prog 123 #[.int .i64 Nk,.int .i64 0] Ab (AA R (CB fun t49 C4 => R (.returned (.bool t49)) C4))) (R (.returned (.bool false)) Ab)))) (Br (FA = 4) (Br (Je = 1) (Br (1 ≤ Eg) (R (.returned (.bool (decide (Eg ≤ 12)))) AH) (R (.returned (.bool false)) AH)) (R (.returned (.bool false)) AH)) (Br (FA = 5) (Br (Je = 1) (Br (1 ≤ Eg) (Br (Eg ≤ 5) (Br (H4 = 0) (R (.returned (.bool true)) AH) (Br (H4 = 1) (R (.returned (.bool true)) AH) (R (.returned (.bool (decide (H4 = 2)))) AH))) (R (.returned (.bool false)) AH)) (R (.returned (.bool false)) AH)) (R (.returned (.bool false)) AH)) (Br (FA = 6) (Br (Je = 2) (Br (1 ≤ Eg) (Br (Eg ≤ 13) (Br (H4 = 0) (Bn Mz (R (.returned (.bool true)) AH) (Spec prog 124 #[.int .i64 Eg] AH (AA R (CB fun t133 Ab => R (.returned (.bool t133)) Ab)))) (Br (H4 = 3) (Bn Mz (R (.returned (.bool true)) AH) (Spec prog 124 #[.int .i64 Eg] AH (AA R (CB fun t133 Ab => R (.returned (.bool t133)) Ab)))) (Br (H4 = 4) (Bn Mz (R (.returned (.bool true)) AH) (Spec prog 124 #[.int .i64 Eg] AH (AA R (CB fun t133 Ab => R (.returned (.bool t133)) Ab)))) (R (.returned (.bool false)) AH)))) (R (.returned (.bool false)) AH)) (R (.returned (.bool false)) AH)) (R (.returned (.bool false)) AH)) (Br (FA = 7) (R (.returned (.bool (decide (Je = 1)))) AH) (R (.returned (.bool false)) AH))))))))))))))))) : Spec prog 79 #[.agg #[.int .i64 FA,.int .i64 Eg,.string QX,.slice U1 UN U2,.int .i64 QW,.int .i64 Nk,.int .i64 H4,.slice R0 Q3 R3,.bool Mz,.int .i64 Je]] σ R := M.start h ok
end Rz
namespace Eh
variable {q0 Dx D5 p2 : Option Addr} {Dq Cb Dr Dy DF Cd : Int} {Dt : ByteArray} {Dz D0 D1 D6 n2 c2 : Nat} {DG : Bool}
def M : Fw := ⟨prog,83,f83,[],[4],false,[],[],[]⟩
theorem ok : M.Ok := ⟨AG.nil,mixed,func83,by kernel_rfl⟩
theorem start (h : ∀ b4 : Nat,Pq p2 fun b9 o9 => In 0 (n2 : Int) ∧ LI .i64 σ b9 o9 fun x11 => Br (x11 ≠ 2) (R (.returned (.tuple #[.int .i64 0,.int .i64 191])) σ) (R (.returned (.tuple #[.int .i64 2,.int .i64 0])) σ)) : Spec prog 83 #[.pointer q0,.agg #[.int .i64 Dq,.int .i64 Cb,.string Dt,.slice Dx Dz D0,.int .i64 Dr,.int .i64 Dy,.int .i64 DF,.slice D5 D1 D6,.bool DG,.int .i64 Cd],.slice p2 n2 c2] σ R := M.start h ok
end Eh
namespace MZ
variable {p0 : Option Addr} {n0 c0 : Nat} {s1 : ByteArray}
def M : Fw := ⟨prog,108,f108,[107],[],false,[],[],[]⟩
theorem ok : M.Ok := ⟨.cons call107 (AG.nil),mixed,func108,by kernel_rfl⟩
theorem start (h : Df (IntKind.u64.wrap ((ByteArray.size s1 : Nat) : Int)) fun x8 => Spec prog 107 #[.slice p0 n0 c0,.int .u64 x8] σ (AA R (CS fun p9 n9 c9 y => AK prog (Builtin.append_ #[90,9] 90 #[.slice p9 n9 c9,.string s1]) y (CS fun IN n11 IP AF => R (.returned (.slice IN n11 IP)) AF)))) : Spec prog 108 #[.slice p0 n0 c0,.string s1] σ R := M.start h ok
end MZ
namespace CK
variable {s0 s1 : ByteArray}
def M : Fw := ⟨prog,119,f119,[],[],false,[],[],[]⟩
theorem ok : M.Ok := ⟨AG.nil,mixed,func119,by kernel_rfl⟩
theorem start (h : EN prog 168 #[.string s0,.string s1] σ (CI .i64 fun x7 y => R (.returned (.int .i64 x7)) y)) : Spec prog 119 #[.string s0,.string s1] σ R := M.start h ok
end CK
namespace Px
variable {FA Eg QW Nk H4 Je Dq Cb Dr Dy DF Cd : Int} {QX Dt : ByteArray} {U1 R0 Dx D5 : Option Addr} {UN U2 Q3 R3 Dz D0 D1 D6 : Nat} {Mz DG : Bool}
def M : Fw := ⟨prog,120,f120,[],[2,3],false,[],[],[]⟩
theorem ok : M.Ok := ⟨AG.nil,mixed,func120,by kernel_rfl⟩
theorem start (h : ∀ b2 : Nat,∀ b3 : Nat,Br (FA = Dq) (Br (Eg = Cb) (Bo (ByteArray.toList QX == ByteArray.toList Dt) (Br (QW = Dr) (Br (Nk = Dy) (Br (H4 = DF) (Bo Mz (Bo DG (R (.returned (.bool (decide (Je = Cd)))) σ) (R (.returned (.bool false)) σ)) (Bo DG (R (.returned (.bool false)) σ) (R (.returned (.bool (decide (Je = Cd)))) σ))) (R (.returned (.bool false)) σ)) (R (.returned (.bool false)) σ)) (R (.returned (.bool false)) σ)) (R (.returned (.bool false)) σ)) (R (.returned (.bool false)) σ)) (R (.returned (.bool false)) σ)) : Spec prog 120 #[.agg #[.int .i64 FA,.int .i64 Eg,.string QX,.slice U1 UN U2,.int .i64 QW,.int .i64 Nk,.int .i64 H4,.slice R0 Q3 R3,.bool Mz,.int .i64 Je],.agg #[.int .i64 Dq,.int .i64 Cb,.string Dt,.slice Dx Dz D0,.int .i64 Dr,.int .i64 Dy,.int .i64 DF,.slice D5 D1 D6,.bool DG,.int .i64 Cd]] σ R := M.start h ok
end Px
namespace R4
variable {x0 : Int}
def M : Fw := ⟨prog,125,f125,[],[],false,[],[],[]⟩
theorem ok : M.Ok := ⟨AG.nil,mixed,func125,by kernel_rfl⟩
theorem start (h : Br (1 ≤ x0) (R (.returned (.bool (decide (x0 ≤ 4)))) σ) (R (.returned (.bool false)) σ)) : Spec prog 125 #[.int .i64 x0] σ R := M.start h ok
end R4
namespace U3
def M : Fw := ⟨prog,134,f134,[],[],false,[],[],[]⟩
theorem ok : M.Ok := ⟨AG.nil,mixed,func134,by kernel_rfl⟩
theorem start (h : Al σ fun b1 => R (.returned (.slice (aD b1 0) 14 14)) (Hp.set σ b1 (.cells #[(.string (ByteArray.mk #[])),(.string (ByteArray.mk #[43])),(.string (ByteArray.mk #[45])),(.string (ByteArray.mk #[42])),(.string (ByteArray.mk #[47])),(.string (ByteArray.mk #[61,61])),(.string (ByteArray.mk #[33,61])),(.string (ByteArray.mk #[60])),(.string (ByteArray.mk #[60,61])),(.string (ByteArray.mk #[62])),(.string (ByteArray.mk #[62,61])),(.string (ByteArray.mk #[97,110,100])),(.string (ByteArray.mk #[111,114])),(.string (ByteArray.mk #[117,110,108,101,115,115]))] 9 (0,0)))) : Spec prog 134 #[] σ R := M.start h ok
end U3
namespace Ai
variable {q0 q1 : Option Addr} {s2a s2b y5 y7 : ByteArray} {x3a x3b x11 : Int} {b7 : Nat}
def M : Fw := ⟨prog,137,f137,[135,136,170],[6],false,[(6,12,false)],[],[(56,[(0,wQ),(1,wQ),(7,wA),(10,.G [.T,.T]),(11,wI)])]⟩
theorem ok : M.Ok := ⟨.cons call135 (.cons call136 (.cons call170 (AG.nil))),mixed,func137,by kernel_rfl⟩
def qm := M.pt 0
theorem start (h : ∀ b6 : Nat,Al σ fun b7 => qm R q0 q1 b7 s2a s2b 0 (Hp.set σ b7 (.cells #[.int .i64 x3a,.int .i64 x3b] 182 (0,0)))) : Spec prog 137 #[.pointer q0,.pointer q1,.agg #[.string s2a,.string s2b],.agg #[.int .i64 x3a,.int .i64 x3b]] σ R := M.start h ok
theorem R5 (h : Br (x11 < 2) (In x11 2 ∧ ∃ s14 : ByteArray,[y5,y7][Int.toNat x11]? = some s14 ∧ Spec prog 136 #[.pointer q0,.int .i64 3,.string s14] σ (AA R (CB fun t17 y => Bo t17 (Spec prog 135 #[.pointer q0] y (AA R (fun z AF => ∃ J9 O7 V7 y8,z = (.agg #[.int .i64 J9,.int .i64 O7,.string V7,.int .i64 y8]) ∧ In x11 2 ∧ LI .i64 AF b7 (0 + Int.toNat x11 * 1) fun IM => Spec prog 170 #[.pointer q0] AF (AA R (CS fun p26 n26 c26 AH => Kp [b7] AF AH ∧ Pq q1 fun O6 V4 => AK prog (Instr.storeAt 3 (.pointer (aD O6 (V4 + 6))) (.int .i64 IM)) AH (fun _ Ab => AK prog (Instr.storeAt 34 (.pointer (aD O6 (V4 + 7))) (.slice p26 n26 c26)) Ab (fun _ C4 => R (.returned (.tuple #[])) C4))))))) (AI (x11 + 1) ∧ qm R q0 q1 b7 y5 y7 (x11 + 1) y)))) (R (.returned (.tuple #[])) σ)) : qm R q0 q1 b7 y5 y7 x11 σ := M.of h ok rfl
end Ai
namespace G2
variable {p0 : Option Addr} {n0 c0 : Nat}
def M : Fw := ⟨prog,155,f155,[143],[],false,[],[],[]⟩
theorem ok : M.Ok := ⟨.cons call143 (AG.nil),mixed,func155,by kernel_rfl⟩
theorem start (h : Spec prog 143 #[(.int .i64 (n0 : Int))] σ (AA R (CI .u64 fun x5 y => R (.returned (.int .u64 x5)) y))) : Spec prog 155 #[.slice p0 n0 c0] σ R := M.start h ok
end G2
namespace As
variable {q0 Dx D5 p2 p3 I6 JC E6 FB Jf qk : Option Addr} {Dq Cb Dr Dy DF Cd I4 HO I9 JA JB JF EG ER UM et : Int} {Dt I5 : ByteArray} {Dz D0 D1 D6 n2 c2 n3 c3 I7 I8 JD JE E7 E8 FC FD n14 Hd n41 eo : Nat} {DG J8 : Bool} {m12 : Option Nat}
def M : Fw := ⟨prog,161,f161,[49,124,148,156,206,207],[5,8,16,18],false,[],[],[(2024,[(5,.X 36 [.I .i64,.I .i64,.T,.L,.I .i64,.I .i64,.I .i64,.L,.B,.I .i64]),(8,.X 93 [.I .i64,.I .u64,.L,.L]),(12,wM),(14,wL),(41,wL),(42,wI),(43,wI)]),(8103,[(5,.X 36 [.I .i64,.I .i64,.T,.L,.I .i64,.I .i64,.I .i64,.L,.B,.I .i64]),(8,.X 93 [.I .i64,.I .u64,.L,.L]),(12,wM),(14,wL),(41,wL),(42,wI),(43,wI)])]⟩
theorem ok : M.Ok := ⟨.cons call49 (.cons call124 (.cons call148 (.cons call156 (.cons call206 (.cons call207 (AG.nil)))))),mixed,func161,by kernel_rfl⟩
def V8 := M.pt 0
def Nl := M.pt 1
theorem start (h : ∀ b5 : Nat,∀ b8 : Nat,Spec prog 206 #[.agg #[.int .i64 Dq,.int .i64 Cb,.string Dt,.slice Dx Dz D0,.int .i64 Dr,.int .i64 Dy,.int .i64 DF,.slice D5 D1 D6,.bool DG,.int .i64 Cd],.slice p2 n2 c2] σ (AA R (fun z y => ∃ ALW lL,z = (.tuple #[.map ALW,.bool lL]) ∧ Spec prog 206 #[.agg #[.int .i64 Dq,.int .i64 Cb,.string Dt,.slice Dx Dz D0,.int .i64 Dr,.int .i64 Dy,.int .i64 DF,.slice D5 D1 D6,.bool DG,.int .i64 Cd],.slice p3 n3 c3] y (AA R (fun z AF => ∃ AED AEE,z = (.tuple #[.map AED,.bool AEE]) ∧ Bn lL (R (.returned (.tuple #[.agg #[.int .i64 0,.int .u64 0,.slice none 0 0,.slice none 0 0],.int .i64 223])) AF) (Bn AEE (R (.returned (.tuple #[.agg #[.int .i64 0,.int .u64 0,.slice none 0 0,.slice none 0 0],.int .i64 223])) AF) (V8 R Dq Cb Dt Dx Dz D0 Dr Dy DF D5 D1 D6 DG Cd 0 0 none 0 0 none 0 0 AED none 0 0 p2 n2 c2 (n2 : Int) 0 AF))))))) : Spec prog 161 #[.pointer q0,.agg #[.int .i64 Dq,.int .i64 Cb,.string Dt,.slice Dx Dz D0,.int .i64 Dr,.int .i64 Dy,.int .i64 DF,.slice D5 D1 D6,.bool DG,.int .i64 Cd],.slice p2 n2 c2,.slice p3 n3 c3] σ R := M.start h ok
theorem Q4 (h : Br (et < UM) (Pq qk fun jo jq => In et (n41 : Int) ∧ ∃ y9 zA zB zC,Aw σ jo (jq + Int.toNat et * 2) [.slice y9 zA zB,.int .u64 zC] ∧ ∀ H0 : Nat,Spec prog 207 #[.agg #[.int .i64 I4,.int .i64 HO,.string I5,.slice I6 I7 I8,.int .i64 I9,.int .i64 JA,.int .i64 JB,.slice JC JD JE,.bool J8,.int .i64 JF],.slice y9 zA zB] σ (AA R (CS fun bq n50 br y => Spec prog 49 #[.slice bq n50 br] y (AA R (CT fun s54 AF => AK prog (Instr.lookup 243 (.map m12) (.string s54) true) AF (fun z AH => ∃ AEF AEG AEH vY AEI,z = (.tuple #[.agg #[.slice AEF AEG AEH,.int .u64 vY],.bool AEI]) ∧ ∀ Q5 : Nat,Bn AEI (Nl R I4 HO I5 I6 I7 I8 I9 JA JB JC JD JE J8 JF EG ER E6 E7 E8 FB FC FD m12 Jf n14 Hd (aD jo jq) n41 eo UM et AH) (Spec prog 156 #[.agg #[.int .i64 I4,.int .i64 HO,.string I5,.slice I6 I7 I8,.int .i64 I9,.int .i64 JA,.int .i64 JB,.slice JC JD JE,.bool J8,.int .i64 JF],.int .u64 zC,.int .u64 vY] AH (AA R (fun z Ab => ∃ zD AEJ,z = (.tuple #[.int .u64 zD,.bool AEJ]) ∧ Spec prog 124 #[.int .i64 HO] Ab (AA R (CB fun t72 C4 => Bn t72 (Al C4 fun iC => AK prog (Builtin.append_ #[67,67] 67 #[.slice Jf n14 Hd,(.slice (aD iC 0) 1 1)]) (Hp.set C4 iC (.cells #[.slice bq n50 br,.int .u64 zD] 71 (0,0))) (CS fun sE X7 sF FE => Nl R I4 HO I5 I6 I7 I8 I9 JA JB JC JD JE J8 JF EG ER E6 E7 E8 FB FC FD m12 sE X7 sF (aD jo jq) n41 eo UM et FE)) (Bo J8 (Al C4 fun iC => AK prog (Builtin.append_ #[67,67] 67 #[.slice Jf n14 Hd,(.slice (aD iC 0) 1 1)]) (Hp.set C4 iC (.cells #[.slice bq n50 br,.int .u64 zD] 71 (0,0))) (CS fun sE X7 sF FE => Nl R I4 HO I5 I6 I7 I8 I9 JA JB JC JD JE true JF EG ER E6 E7 E8 FB FC FD m12 sE X7 sF (aD jo jq) n41 eo UM et FE)) (Bo AEJ (Al C4 fun b88 => AK prog (Builtin.append_ #[67,67] 67 #[.slice Jf n14 Hd,(.slice (aD b88 0) 1 1)]) (Hp.set C4 b88 (.cells #[.slice y9 zA zB,.int .u64 zC] 71 (0,0))) (CS fun p89 n89 c89 FE => Nl R I4 HO I5 I6 I7 I8 I9 JA JB JC JD JE false JF EG ER E6 E7 E8 FB FC FD m12 p89 n89 c89 (aD jo jq) n41 eo UM et FE)) (Nl R I4 HO I5 I6 I7 I8 I9 JA JB JC JD JE false JF EG ER E6 E7 E8 FB FC FD m12 Jf n14 Hd (aD jo jq) n41 eo UM et C4)))))))))))))) (Spec prog 148 #[.slice Jf n14 Hd] σ (AA R (fun z y => ∃ vZ va vd ve vf vg vh vi AEO,z = (.tuple #[.agg #[.int .i64 vZ,.int .u64 va,.slice vd ve vf,.slice vg vh vi],.int .i64 AEO]) ∧ R (.returned (.tuple #[.agg #[.int .i64 vZ,.int .u64 va,.slice vd ve vf,.slice vg vh vi],.int .i64 AEO])) y)))) : V8 R I4 HO I5 I6 I7 I8 I9 JA JB JC JD JE J8 JF EG ER E6 E7 E8 FB FC FD m12 Jf n14 Hd qk n41 eo UM et σ := M.gk h ok rfl fun _ _ => by kernel_rfl
theorem V9 (h : AI (et + 1) ∧ V8 R I4 HO I5 I6 I7 I8 I9 JA JB JC JD JE J8 JF EG ER E6 E7 E8 FB FC FD m12 Jf n14 Hd qk n41 eo UM (et + 1) σ) : Nl R I4 HO I5 I6 I7 I8 I9 JA JB JC JD JE J8 JF EG ER E6 E7 E8 FB FC FD m12 Jf n14 Hd qk n41 eo UM et σ := M.gk h ok rfl fun _ _ => by kernel_rfl
end As
namespace YB
variable {v0 : Value}
def M : Fw := ⟨prog,181,f181,[],[],false,[],[],[]⟩
theorem ok : M.Ok := ⟨AG.nil,mixed,func181,by kernel_rfl⟩
theorem start (h : EN prog 45 #[v0] σ (CI .u64 fun x4 y => Df (Go.bits .andNot .u64 x4 9223372036854775808) fun x5 => EN prog 22 #[.int .u64 x5] y (fun z AF => ∃ x6,(Value.float .f64 x6) = z ∧ R (.returned (Value.float .f64 x6)) AF))) : Spec prog 181 #[v0] σ R := M.EF h ok [(0,.o (.V v0))] rfl rfl (by kernel_rfl)
end YB
namespace CW
variable {f0 : Fn} {a0 c0 : Array Value}
def M : Fw := ⟨prog,184,f184,[],[],false,[],[],[]⟩
theorem ok : M.Ok := ⟨AG.nil,mixed,func184,by kernel_rfl⟩
theorem start (h : Al σ fun b1 => R (.returned (.func (.func 224) #[] #[(.pointer (aD b1 0))])) (Hp.set σ b1 (.cells #[(Value.func f0 a0 c0)] 201 (0,0)))) : Spec prog 184 #[(Value.func f0 a0 c0)] σ R := M.EF h ok [(0,.o (.V (Value.func f0 a0 c0)))] rfl rfl (by kernel_rfl)
end CW
namespace BU
variable {p0 : Option Addr} {n0 c0 : Nat} {x3 : Int}
def M : Fw := ⟨prog,187,f187,[225],[],false,[],[],[(224,[(0,wL),(3,wI)])]⟩
theorem ok : M.Ok := ⟨.cons call225 (AG.nil),mixed,func187,by kernel_rfl⟩
def Dm := M.pt 0
theorem start (h : Dm R p0 n0 c0 8 σ) : Spec prog 187 #[.slice p0 n0 c0] σ R := M.start h ok
theorem Ac (h : Br ((n0 : Int) < x3) (2 ≠ (0 : Int) ∧ Df (IntKind.i64.wrap (Int.tdiv x3 2)) fun x11 => Dm R p0 n0 c0 x11 σ) (AI ((n0 : Int) - x3) ∧ ((0 : Int) ≤ ((n0 : Int) - x3) ∧ ((n0 : Int) - x3) ≤ (n0 : Int)) ∧ Spec prog 225 #[(.slice (Ip p0 (Int.toNat ((n0 : Int) - x3)) c0 1) (n0 - Int.toNat ((n0 : Int) - x3)) (c0 - Int.toNat ((n0 : Int) - x3)))] σ (AA R (fun z y => ∃ J9 O7,z = (.tuple #[.int .u64 J9,.int .i64 O7]) ∧ R (.returned (.int .u64 J9)) y)))) : Dm R p0 n0 c0 x3 σ := M.of h ok rfl
end BU
namespace R6
variable {v0 : Value}
def M : Fw := ⟨prog,216,f216,[],[],false,[],[],[]⟩
theorem ok : M.Ok := ⟨AG.nil,mixed,func216,by kernel_rfl⟩
theorem start (h : ∃ t5,YF prog ((do eqGuard .neq 51 (.tmp 3) (.tmp 4) v0 v0; binOp .neq 51 v0 v0)) σ (.bool t5) ∧ R (.returned (.bool t5)) σ) : Spec prog 216 #[v0] σ R := M.EF h ok [(0,.o (.V v0))] rfl rfl (by kernel_rfl)
end R6
namespace JG
variable {p0 Dx D5 p2 : Option Addr} {n0 c0 Dz D0 D1 D6 n2 c2 b3 : Nat} {Dq Cb Dr Dy DF Cd : Int} {Dt : ByteArray} {DG : Bool}
def M : Fw := ⟨prog,226,f226,[],[5],false,[],[],[]⟩
theorem ok : M.Ok := ⟨AG.nil,mixed,func226,by kernel_rfl⟩
theorem start (h : ∀ b5 : Nat,Br ((n0 : Int) < 2) (R (.returned (.tuple #[.int .u64 0,.bool false])) σ) (∃ v12,Hp.ld σ ⟨b3,0,none⟩ = some v12 ∧ ∃ (f15 : Nat) (vj vk : Array Value),v12 = .func (.func f15) vj vk ∧ Enters prog f15 ∧ Spec prog f15 (vj ++ #[.slice p0 n0 c0,.slice p2 n2 c2] ++ vk) σ (AA R (CI .u64 fun x15 y => R (.returned (.tuple #[.int .u64 x15,.bool true])) y)))) : Spec prog 226 #[.slice p0 n0 c0,.agg #[.int .i64 Dq,.int .i64 Cb,.string Dt,.slice Dx Dz D0,.int .i64 Dr,.int .i64 Dy,.int .i64 DF,.slice D5 D1 D6,.bool DG,.int .i64 Cd],.slice p2 n2 c2,(.pointer (aD b3 0))] σ R := M.start h ok
end JG
namespace DH
variable {Py qo : Option Addr} {Js OZ lM qp : Nat} {s1 : ByteArray} {zF vm : Int}
def M : Fw := ⟨prog,257,f257,[260,285,286],[2],false,[(1,14,true)],[],[(2024,[(1,wT),(64,wL),(65,wI),(66,wI)])]⟩
theorem ok : M.Ok := ⟨.cons call260 (.cons call285 (.cons call286 (AG.nil))),mixed,func257,by kernel_rfl⟩
def MN := M.pt 0
theorem start (h : ∀ b2 : Nat,Pq Py fun Pu QV => In 0 (Js : Int) ∧ LT σ Pu QV fun zG => AI ((Js : Int) - 1) ∧ In (((Js : Int) - 1)) (Js : Int) ∧ LT σ Pu (QV + Int.toNat ((Js : Int) - 1) * 1) fun zH => Br ((Js : Int) = 1) (R (.returned (.bool (ByteArray.toList s1 == ByteArray.toList zG))) σ) (AI (((ByteArray.size zG : Nat) : Int) + ((ByteArray.size zH : Nat) : Int)) ∧ Br ((((ByteArray.size s1 : Nat) : Int) : Int) < (((ByteArray.size zG : Nat) : Int) + ((ByteArray.size zH : Nat) : Int))) (R (.returned (.bool false)) σ) (Spec prog 285 #[.string s1,.string zG] σ (AA R (CB fun t40 y => Bn t40 (R (.returned (.bool false)) y) (Spec prog 286 #[.string s1,.string zH] y (AA R (CB fun t46 AF => Bn t46 (R (.returned (.bool false)) AF) (AI (((ByteArray.size s1 : Nat) : Int) - ((ByteArray.size zH : Nat) : Int)) ∧ ∃ s57,YF prog (Instr.sliceAt 9 (.string s1) (some (.int .i64 ((ByteArray.size zG : Nat) : Int))) (some (.int .i64 (((ByteArray.size s1 : Nat) : Int) - ((ByteArray.size zH : Nat) : Int)))) none) AF (.string s57) ∧ AI ((Js : Int) - 1) ∧ ((0 : Int) ≤ 1 ∧ 1 ≤ ((Js : Int) - 1) ∧ ((Js : Int) - 1) ≤ (OZ : Int)) ∧ MN R s57 ((Ip (aD Pu QV) (1) OZ 1)) ((Int.toNat ((Js : Int) - 1) - 1)) (OZ - 1) ((((Int.toNat ((Js : Int) - 1) - 1) : Nat) : Int)) 0 AF))))))))) : Spec prog 257 #[.agg #[.slice Py Js OZ],.string s1] σ R := M.start h ok
theorem JH (h : Br (vm < zF) (Pq qo fun b68 o68 => In vm (lM : Int) ∧ LT σ b68 (o68 + Int.toNat vm * 1) fun s69 => Spec prog 260 #[.string s1,.string s69] σ (AA R (CI .i64 fun qq y => Br (qq < 0) (R (.returned (.bool false)) y) (AI (qq + ((ByteArray.size s69 : Nat) : Int)) ∧ ∃ s80,YF prog (Instr.sliceAt 9 (.string s1) (some (.int .i64 (qq + ((ByteArray.size s69 : Nat) : Int)))) none none) y (.string s80) ∧ AI (vm + 1) ∧ MN R s80 (aD b68 o68) lM qp zF (vm + 1) y)))) (R (.returned (.bool true)) σ)) : MN R s1 qo lM qp zF vm σ := M.of h ok rfl
end DH
namespace Ei
variable {q0 : Option Addr}
def M : Fw := ⟨prog,298,f298,[66,67,135],[],false,[],[],[(14,[(0,wQ)])]⟩
theorem ok : M.Ok := ⟨.cons call66 (.cons call67 (.cons call135 (AG.nil))),mixed,func298,by kernel_rfl⟩
def Dm := M.pt 0
theorem start (h : Spec prog 66 #[.pointer q0] σ (AA R (fun z y => ∃ GF Fm He x4d,z = (.agg #[.int .i64 GF,.int .i64 Fm,.string He,.int .i64 x4d]) ∧ Br (GF ≠ 2) (Spec prog 67 #[.pointer q0] y (AA R (fun z AF => z = (.tuple #[]) ∧ Dm R q0 AF))) (Dm R q0 y)))) : Spec prog 298 #[.pointer q0] σ R := M.start h ok
theorem Ac (h : Spec prog 135 #[.pointer q0] σ (AA R (fun z y => ∃ I3 zI ALZ AEQ,z = (.agg #[.int .i64 I3,.int .i64 zI,.string ALZ,.int .i64 AEQ]) ∧ R (.returned (.int .i64 AEQ)) y))) : Dm R q0 σ := M.of h ok rfl
end Ei
end TwW
end
end
section
set_option maxRecDepth 100000
noncomputable section
namespace TwW
open Go Tw Go.Proofs.Tryz
variable [E5] {R : Rr} {σ : Hp}

namespace Fo
variable {s0 : ByteArray} {x3 : Int}
def M : Fw := ⟨prog,19,f19,[42],[],false,[],[],[(208,[(0,wT),(3,wI)])]⟩
theorem ok : M.Ok := ⟨.cons call42 (AG.nil),mixed,func19,by kernel_rfl⟩
def Dm := M.pt 0
theorem start (h : Dm R s0 0 σ) : Spec prog 19 #[.string s0] σ R := M.start h ok
theorem Ac (h : Br (x3 < ((ByteArray.size s0 : Nat) : Int)) (∃ Ma : UInt8,0 ≤ x3 ∧ (ByteArray.data s0)[Int.toNat x3]? = some Ma ∧ Br ((((UInt8.toNat Ma : Nat) : Int) : Int) < 97) (R (.returned (.bool false)) σ) (∃ u17 : UInt8,0 ≤ x3 ∧ (ByteArray.data s0)[Int.toNat x3]? = some u17 ∧ Br ((122 : Int) < ((UInt8.toNat u17 : Nat) : Int)) (R (.returned (.bool false)) σ) (AI (x3 + 1) ∧ Dm R s0 (x3 + 1) σ))) (Bn ((ByteArray.toList s0 == ByteArray.toList (ByteArray.mk #[]))) (Br ((((ByteArray.size s0 : Nat) : Int) : Int) < 60) (Spec prog 42 #[.string s0] σ (AA R (CB fun t29 y => R (.returned (.bool (!t29))) y))) (R (.returned (.bool false)) σ)) (R (.returned (.bool false)) σ))) : Dm R s0 x3 σ := M.of h ok rfl
end Fo
namespace Fp
variable {p0 p1 E6 FB : Option Addr} {n0 c0 n1 c1 E7 E8 FC FD : Nat} {x2 EG ER x9 : Int}
def M : Fw := ⟨prog,30,f30,[47],[8],false,[],[],[(30,[(8,.X 93 [.I .i64,.I .u64,.L,.L]),(9,wI)])]⟩
theorem ok : M.Ok := ⟨.cons call47 (AG.nil),mixed,func30,by kernel_rfl⟩
def Bh := M.pt 0
theorem start (h : Al σ fun BO => Spec prog 47 #[(.pointer (aD BO 0)),.slice p0 n0 c0] (Hp.set σ BO (.cells #[.slice p1 n1 c1,.int .i64 x2] 97 (0,0))) (AA R (fun z y => ∃ eu ew vo vq vr lN lO lP zJ,z = (.tuple #[.agg #[.int .i64 eu,.int .u64 ew,.slice vo vq vr,.slice lN lO lP],.int .i64 zJ]) ∧ ∀ b8 : Nat,Br (eu = 1) (Al y fun Jw => Bh R eu ew (aD Jw 0) 1 1 lN lO lP zJ (Hp.set y Jw (.cells #[.slice none 0 0,.int .u64 ew] 71 (0,0)))) (Bh R eu ew vo vq vr lN lO lP zJ y)))) : Spec prog 30 #[.slice p0 n0 c0,.slice p1 n1 c1,.int .i64 x2] σ R := M.start h ok
theorem A0 (h : R (.returned (.tuple #[.slice E6 E7 E8,.int .i64 x9])) σ) : Bh R EG ER E6 E7 E8 FB FC FD x9 σ := M.jj h ok rfl fun _ => by kernel_rfl
end Fp
namespace G3
variable {p0 p1 : Option Addr} {n0 c0 n1 c1 : Nat} {x2 x8 x9 : Int}
def M : Fw := ⟨prog,44,f44,[57],[],false,[],[],[(208,[(0,wL),(1,wL),(2,wI),(8,wI)]),(211,[(0,wL),(1,wL),(2,wI),(8,wI)]),(53840,[(0,wL),(1,wL),(2,wI),(8,wI),(9,wI)])]⟩
theorem ok : M.Ok := ⟨.cons call57 (AG.nil),mixed,func44,by kernel_rfl⟩
def Dm := M.pt 0
def YC := M.pt 1
def QU := M.pt 2
theorem start (h : Dm R p0 n0 c0 p1 n1 c1 x2 0 σ) : Spec prog 44 #[.slice p0 n0 c0,.slice p1 n1 c1,.int .i64 x2] σ R := M.start h ok
theorem Ac (h : Br (x8 < (n0 : Int)) (Pq p0 fun Q5 WA => In x8 (n0 : Int) ∧ LS σ Q5 (WA + Int.toNat x8 * 2) fun p20 n20 c20 => Spec prog 57 #[.slice p20 n20 c20,.slice p1 n1 c1] σ (AA R (CI .i64 fun Iq y => Br (Iq = 0) (QU R (aD Q5 WA) n0 c0 p1 n1 c1 x2 x8 0 y) (YC R (aD Q5 WA) n0 c0 p1 n1 c1 x2 x8 y)))) (R (.returned (.tuple #[.int .u64 0,.bool false])) σ)) : Dm R p0 n0 c0 p1 n1 c1 x2 x8 σ := M.of h ok rfl
theorem WB (h : AI (x8 + 1) ∧ Dm R p0 n0 c0 p1 n1 c1 x2 (x8 + 1) σ) : YC R p0 n0 c0 p1 n1 c1 x2 x8 σ := M.of h ok rfl
theorem Lu (h : Pq p0 fun O6 V4 => In x8 (n0 : Int) ∧ LS σ O6 ((V4 + Int.toNat x8 * 2) + 1) fun p29 n29 c29 => Br (x9 < (n29 : Int)) (In x8 (n0 : Int) ∧ LS σ O6 ((V4 + Int.toNat x8 * 2) + 1) fun p38 n38 c38 => Pq p38 fun U4 o40 => In x9 (n38 : Int) ∧ LI .i64 σ U4 (o40 + Int.toNat x9 * 2) fun UM => Br (UM = x2) (In x8 (n0 : Int) ∧ LS σ O6 ((V4 + Int.toNat x8 * 2) + 1) fun p49 n49 c49 => Pq p49 fun b51 o51 => In x9 (n49 : Int) ∧ LI .u64 σ b51 ((o51 + Int.toNat x9 * 2) + 1) fun x53 => R (.returned (.tuple #[.int .u64 x53,.bool true])) σ) (AI (x9 + 1) ∧ QU R (aD O6 V4) n0 c0 p1 n1 c1 x2 x8 (x9 + 1) σ)) (YC R (aD O6 V4) n0 c0 p1 n1 c1 x2 x8 σ)) : QU R p0 n0 c0 p1 n1 c1 x2 x8 x9 σ := M.of h ok rfl
end G3
namespace Nn
variable {x0 x1 x2 : Int}
def M : Fw := ⟨prog,48,f48,[],[],false,[],[],[]⟩
theorem ok : M.Ok := ⟨AG.nil,mixed,func48,by kernel_rfl⟩
theorem start (h : Al σ fun b3 => Al (Hp.set σ b3 (.cells #[.int .i64 x0] 2 (0,0))) fun b4 => Al (Hp.set (Hp.set σ b3 (.cells #[.int .i64 x0] 2 (0,0))) b4 (.cells #[.int .i64 x1] 2 (0,0))) fun b5 => R (.returned (.func (.func 71) #[] #[(.pointer (aD b3 0)),(.pointer (aD b5 0)),(.pointer (aD b4 0))])) (Hp.set (Hp.set (Hp.set σ b3 (.cells #[.int .i64 x0] 2 (0,0))) b4 (.cells #[.int .i64 x1] 2 (0,0))) b5 (.cells #[.int .i64 x2] 2 (0,0)))) : Spec prog 48 #[.int .i64 x0,.int .i64 x1,.int .i64 x2] σ R := M.start h ok
end Nn
namespace Jg
variable {q0 Dx D5 : Option Addr} {Dq Cb Dr Dy DF Cd : Int} {Dt : ByteArray} {Dz D0 D1 D6 : Nat} {DG : Bool}
def M : Fw := ⟨prog,53,f53,[79,80,81],[3],false,[(6,9,true)],[],[]⟩
theorem ok : M.Ok := ⟨.cons call79 (.cons call80 (.cons call81 (AG.nil))),mixed,func53,by kernel_rfl⟩
theorem start (h : ∀ b3 : Nat,Spec prog 79 #[.agg #[.int .i64 Dq,.int .i64 Cb,.string Dt,.slice Dx Dz D0,.int .i64 Dr,.int .i64 Dy,.int .i64 DF,.slice D5 D1 D6,.bool DG,.int .i64 Cd]] σ (AA R (CB fun t10 y => Bn t10 (R (.returned (.int .i64 190)) y) (Pq q0 fun H0 Nh => LS y H0 Nh fun p18 n18 c18 => Br ((n18 : Int) < Cd) (R (.returned (.int .i64 190)) y) (Spec prog 80 #[.slice Dx Dz D0] y (AA R (CI .i64 fun IM AF => Br (IM ≠ 0) (R (.returned (.int .i64 193)) AF) (AK prog (Instr.makeMap 150 none) AF (fun z AH => ∃ sP,z = (.map (some sP)) ∧ Spec prog 81 #[.int .i64 1] AH (AA R (fun z Ab => ∃ f27 a27 c27,(Value.func f27 a27 c27) = z ∧ AK prog (Instr.mapUpdate 150 (.map (some sP)) (.int .i64 1) (Value.func f27 a27 c27)) Ab (fun _ C4 => Spec prog 81 #[.int .i64 2] C4 (AA R (fun z FE => ∃ f28 a28 zK,(Value.func f28 a28 zK) = z ∧ AK prog (Instr.mapUpdate 150 (.map (some sP)) (.int .i64 2) (Value.func f28 a28 zK)) FE (fun _ G4 => Spec prog 81 #[.int .i64 3] G4 (AA R (fun z NS => ∃ f29 a29 c29,(Value.func f29 a29 c29) = z ∧ AK prog (Instr.mapUpdate 150 (.map (some sP)) (.int .i64 3) (Value.func f29 a29 c29)) NS (fun _ WC => AK prog (Instr.mapUpdate 150 (.map (some sP)) (.int .i64 4) (.func (.func 82) #[(.pointer (aD H0 Nh))] #[])) WC (fun _ MO => AK prog (Instr.mapUpdate 150 (.map (some sP)) (.int .i64 5) (.func (.func 83) #[(.pointer (aD H0 Nh))] #[])) MO (fun _ lQ => AK prog (Instr.mapUpdate 150 (.map (some sP)) (.int .i64 6) (.func (.func 84) #[(.pointer (aD H0 Nh))] #[])) lQ (fun _ ALa => AK prog (Instr.mapUpdate 150 (.map (some sP)) (.int .i64 7) (.func (.func 85) #[(.pointer (aD H0 Nh))] #[])) ALa (fun _ sQ => LS sQ H0 Nh fun p42 n42 c42 => AI ((n42 : Int) - Cd) ∧ LS sQ H0 Nh fun p56 n56 c56 => ((0 : Int) ≤ ((n42 : Int) - Cd) ∧ ((n42 : Int) - Cd) ≤ (n56 : Int)) ∧ AK prog (Instr.lookup 150 (.map (some sP)) (.int .i64 Dq) false) sQ (fun z AEU => ∃ v51,v51 = z ∧ Kp [H0] sQ AEU ∧ ∃ (f59 : Nat) (vt vu : Array Value),v51 = .func (.func f59) vt vu ∧ Enters prog f59 ∧ Spec prog f59 (vt ++ #[.agg #[.int .i64 Dq,.int .i64 Cb,.string Dt,.slice Dx Dz D0,.int .i64 Dr,.int .i64 Dy,.int .i64 DF,.slice D5 D1 D6,.bool DG,.int .i64 Cd],(.slice (Ip p56 (Int.toNat ((n42 : Int) - Cd)) c56 1) (n56 - Int.toNat ((n42 : Int) - Cd)) (c56 - Int.toNat ((n42 : Int) - Cd)))] ++ vu) AEU (AA R (fun z bu => ∃ WD Hw,z = (.tuple #[.int .i64 WD,.int .i64 Hw]) ∧ LS bu H0 Nh fun qs lR ey => ((0 : Int) ≤ ((n42 : Int) - Cd) ∧ ((n42 : Int) - Cd) ≤ (ey : Int)) ∧ Al bu fun V2 => AK prog (Builtin.append_ #[108,108] 108 #[(.slice qs (Int.toNat ((n42 : Int) - Cd)) ey),(.slice (aD V2 0) 1 1)]) (Hp.set bu V2 (.cells #[.int .i64 WD] 113 (0,0))) (CS fun p72 n72 c72 zL => AK prog (Instr.storeAt 108 (.pointer (aD H0 Nh)) (.slice p72 n72 c72)) zL (fun _ zM => R (.returned (.int .i64 Hw)) zM))))))))))))))))))))))))))) : Spec prog 53 #[.pointer q0,.agg #[.int .i64 Dq,.int .i64 Cb,.string Dt,.slice Dx Dz D0,.int .i64 Dr,.int .i64 Dy,.int .i64 DF,.slice D5 D1 D6,.bool DG,.int .i64 Cd]] σ R := M.start h ok
end Jg
namespace D7
variable {p0 : Option Addr} {n0 c0 : Nat} {x3 : Int}
def M : Fw := ⟨prog,69,f69,[],[],false,[(4,12,true)],[],[(208,[(0,wL),(3,wI)])]⟩
theorem ok : M.Ok := ⟨AG.nil,mixed,func69,by kernel_rfl⟩
def Dm := M.pt 0
theorem start (h : Dm R p0 n0 c0 1 σ) : Spec prog 69 #[.slice p0 n0 c0] σ R := M.start h ok
theorem Ac (h : Br (x3 < (n0 : Int)) (Pq p0 fun Pu QV => In x3 (n0 : Int) ∧ LI .i64 σ Pu (QV + Int.toNat x3 * 2) fun QY => AI (x3 - 1) ∧ In (x3 - 1) (n0 : Int) ∧ LI .i64 σ Pu (QV + Int.toNat (x3 - 1) * 2) fun Hv => Br (QY ≤ Hv) (R (.returned (.bool false)) σ) (AI (x3 + 1) ∧ Dm R (aD Pu QV) n0 c0 (x3 + 1) σ)) (R (.returned (.bool (decide (0 < (n0 : Int))))) σ)) : Dm R p0 n0 c0 x3 σ := M.of h ok rfl
end D7
namespace R7
variable {s0 s1 : ByteArray}
def M : Fw := ⟨prog,89,f89,[],[],false,[],[],[]⟩
theorem ok : M.Ok := ⟨AG.nil,mixed,func89,by kernel_rfl⟩
theorem start (h : ∃ t8,YF prog ((do eqGuard .lss 9 (.tmp 6) (.tmp 7) (.string s0) (.string s1); binOp .lss 9 (.string s0) (.string s1))) σ (.bool t8) ∧ Bo t8 (R (.returned (.int .i64 (-1))) σ) (∃ t12,YF prog ((do eqGuard .gtr 9 (.tmp 10) (.tmp 11) (.string s0) (.string s1); binOp .gtr 9 (.string s0) (.string s1))) σ (.bool t12) ∧ Bo t12 (R (.returned (.int .i64 1)) σ) (R (.returned (.int .i64 0)) σ))) : Spec prog 89 #[.string s0,.string s1] σ R := M.start h ok
end R7
namespace Hf
variable {s0 : ByteArray} {x1 : Int}
def M : Fw := ⟨prog,130,f130,[169],[],false,[],[],[]⟩
theorem ok : M.Ok := ⟨.cons call169 (AG.nil),mixed,func130,by kernel_rfl⟩
theorem start (h : Spec prog 169 #[.string s0,.int .u8 x1] σ (AA R (CI .i64 fun x7 y => R (.returned (.int .i64 x7)) y))) : Spec prog 130 #[.string s0,.int .u8 x1] σ R := M.start h ok
end Hf
namespace No
variable {s0 : ByteArray}
def M : Fw := ⟨prog,132,f132,[],[],false,[],[],[]⟩
theorem ok : M.Ok := ⟨AG.nil,mixed,func132,by kernel_rfl⟩
theorem start (h : Br ((1 : Int) < ((ByteArray.size s0 : Nat) : Int)) (∃ u8 : UInt8,(0 : Int) ≤ 0 ∧ (ByteArray.data s0)[Int.toNat 0]? = some u8 ∧ R (.returned (.bool (decide ((((UInt8.toNat u8 : Nat) : Int) : Int) = 48)))) σ) (R (.returned (.bool false)) σ)) : Spec prog 132 #[.string s0] σ R := M.start h ok
end No
namespace Pz
variable {p0 : Option Addr} {n0 c0 : Nat} {x1 x2 : Int}
def M : Fw := ⟨prog,141,f141,[175],[],false,[],[],[]⟩
theorem ok : M.Ok := ⟨.cons call175 (AG.nil),mixed,func141,by kernel_rfl⟩
theorem start (h : Spec prog 175 #[.slice p0 n0 c0,.int .i64 x1,(.func (.func 176) #[] #[])] σ (AA R (fun z y => ∃ GZ ALe,z = (.tuple #[.int .i64 GZ,.bool ALe]) ∧ Spec prog 175 #[.slice p0 n0 c0,.int .i64 x2,(.func (.func 177) #[] #[])] y (AA R (fun z AF => ∃ IS ALf,z = (.tuple #[.int .i64 IS,.bool ALf]) ∧ ((0 : Int) ≤ (if IS < GZ then IS else GZ) ∧ (if IS < GZ then IS else GZ) ≤ IS ∧ IS ≤ (c0 : Int)) ∧ R (.returned (.slice (Ip p0 (Int.toNat (if IS < GZ then IS else GZ)) c0 2) (Int.toNat IS - Int.toNat (if IS < GZ then IS else GZ)) (c0 - Int.toNat (if IS < GZ then IS else GZ)))) AF))))) : Spec prog 141 #[.slice p0 n0 c0,.int .i64 x1,.int .i64 x2] σ R := M.start h ok
end Pz
namespace JI
variable {x0 : Int}
def M : Fw := ⟨prog,145,f145,[174,182,183],[],false,[],[],[]⟩
theorem ok : M.Ok := ⟨.cons call174 (.cons call182 (.cons call183 (AG.nil))),mixed,func145,by kernel_rfl⟩
theorem start (h : Spec prog 182 #[.int .u64 x0] σ (AA R (fun z y => ∃ x4,(Value.float .f64 x4) = z ∧ Spec prog 183 #[(Value.float .f64 x4)] y (AA R (fun z AF => ∃ x5,(Value.float .f64 x5) = z ∧ Spec prog 174 #[(Value.float .f64 x5)] AF (AA R (CI .u64 fun x6 AH => R (.returned (.int .u64 x6)) AH))))))) : Spec prog 145 #[.int .u64 x0] σ R := M.start h ok
end JI
namespace A2
variable {q0 Dx D5 p2 I6 JC E6 FB Q6 aL : Option Addr} {Dq Cb Dr Dy DF Cd I4 HO I9 JA JB JF EG ER x16 x17 : Int} {Dt I5 : ByteArray} {Dz D0 D1 D6 n2 c2 I7 I8 JD JE E7 E8 FC FD n10 Np n15 V6 : Nat} {DG J8 : Bool} {v3 : Value}
def M : Fw := ⟨prog,157,f157,[124,146,148],[5,8,12],false,[],[],[(232,[(3,wV),(5,.X 36 [.I .i64,.I .i64,.T,.L,.I .i64,.I .i64,.I .i64,.L,.B,.I .i64]),(8,.X 93 [.I .i64,.I .u64,.L,.L]),(10,wL),(15,wL),(16,wI),(17,wI)]),(935,[(3,wV),(5,.X 36 [.I .i64,.I .i64,.T,.L,.I .i64,.I .i64,.I .i64,.L,.B,.I .i64]),(8,.X 93 [.I .i64,.I .u64,.L,.L]),(10,wL),(15,wL),(16,wI),(17,wI)])]⟩
theorem ok : M.Ok := ⟨.cons call124 (.cons call146 (.cons call148 (AG.nil))),mixed,func157,by kernel_rfl⟩
def A7 := M.pt 0
def DU := M.pt 1
theorem start (h : ∀ b5 : Nat,∀ b8 : Nat,A7 R v3 Dq Cb Dt Dx Dz D0 Dr Dy DF D5 D1 D6 DG Cd 0 0 none 0 0 none 0 0 none 0 0 p2 n2 c2 (n2 : Int) 0 σ) : Spec prog 157 #[.pointer q0,.agg #[.int .i64 Dq,.int .i64 Cb,.string Dt,.slice Dx Dz D0,.int .i64 Dr,.int .i64 Dy,.int .i64 DF,.slice D5 D1 D6,.bool DG,.int .i64 Cd],.slice p2 n2 c2,v3] σ R := M.EF h ok [(0,.o (.Q q0)),(1,.G [.I .i64 Dq,.I .i64 Cb,.T Dt,.L Dx Dz D0,.I .i64 Dr,.I .i64 Dy,.I .i64 DF,.L D5 D1 D6,.B DG,.I .i64 Cd]),(2,.o (.L p2 n2 c2)),(3,.o (.V v3))] rfl rfl (by kernel_rfl)
theorem Aa (h : Br (x17 < x16) (Pq aL fun DO lS => In x17 (n15 : Int) ∧ ∃ sR sS sT WE,Aw σ DO (lS + Int.toNat x17 * 2) [.slice sR sS sT,.int .u64 WE] ∧ ∀ Pu : Nat,∃ (f25 : Nat) (vv vw : Array Value),v3 = .func (.func f25) vv vw ∧ Enters prog f25 ∧ Spec prog f25 (vv ++ #[.int .u64 WE] ++ vw) σ (AA R (fun z y => ∃ zN lL,z = (.tuple #[.int .u64 zN,.bool lL]) ∧ Spec prog 124 #[.int .i64 HO] y (AA R (CB fun t31 AF => Bn t31 (Spec prog 146 #[.slice sR sS sT] AF (AA R (CS fun zO n40 zP AH => Al AH fun ed => AK prog (Builtin.append_ #[67,67] 67 #[.slice Q6 n10 Np,(.slice (aD ed 0) 1 1)]) (Hp.set AH ed (.cells #[.slice zO n40 zP,.int .u64 zN] 71 (0,0))) (CS fun sU n44 vx Ab => DU R v3 I4 HO I5 I6 I7 I8 I9 JA JB JC JD JE J8 JF EG ER E6 E7 E8 FB FC FD sU n44 vx (aD DO lS) n15 V6 x16 x17 Ab)))) (Bo J8 (Spec prog 146 #[.slice sR sS sT] AF (AA R (CS fun zO n40 zP AH => Al AH fun ed => AK prog (Builtin.append_ #[67,67] 67 #[.slice Q6 n10 Np,(.slice (aD ed 0) 1 1)]) (Hp.set AH ed (.cells #[.slice zO n40 zP,.int .u64 zN] 71 (0,0))) (CS fun sU n44 vx Ab => DU R v3 I4 HO I5 I6 I7 I8 I9 JA JB JC JD JE true JF EG ER E6 E7 E8 FB FC FD sU n44 vx (aD DO lS) n15 V6 x16 x17 Ab)))) (Bo lL (Al AF fun Pv => AK prog (Builtin.append_ #[67,67] 67 #[.slice Q6 n10 Np,(.slice (aD Pv 0) 1 1)]) (Hp.set AF Pv (.cells #[.slice sR sS sT,.int .u64 WE] 71 (0,0))) (CS fun bq n50 br AH => DU R v3 I4 HO I5 I6 I7 I8 I9 JA JB JC JD JE false JF EG ER E6 E7 E8 FB FC FD bq n50 br (aD DO lS) n15 V6 x16 x17 AH)) (DU R v3 I4 HO I5 I6 I7 I8 I9 JA JB JC JD JE false JF EG ER E6 E7 E8 FB FC FD Q6 n10 Np (aD DO lS) n15 V6 x16 x17 AF)))))))) (Spec prog 148 #[.slice Q6 n10 Np] σ (AA R (fun z y => ∃ YD YE YG YH YI YJ YK YL WG,z = (.tuple #[.agg #[.int .i64 YD,.int .u64 YE,.slice YG YH YI,.slice YJ YK YL],.int .i64 WG]) ∧ R (.returned (.tuple #[.agg #[.int .i64 YD,.int .u64 YE,.slice YG YH YI,.slice YJ YK YL],.int .i64 WG])) y)))) : A7 R v3 I4 HO I5 I6 I7 I8 I9 JA JB JC JD JE J8 JF EG ER E6 E7 E8 FB FC FD Q6 n10 Np aL n15 V6 x16 x17 σ := M.gk h ok rfl fun _ _ => by kernel_rfl
theorem Fe (h : AI (x17 + 1) ∧ A7 R v3 I4 HO I5 I6 I7 I8 I9 JA JB JC JD JE J8 JF EG ER E6 E7 E8 FB FC FD Q6 n10 Np aL n15 V6 x16 (x17 + 1) σ) : DU R v3 I4 HO I5 I6 I7 I8 I9 JA JB JC JD JE J8 JF EG ER E6 E7 E8 FB FC FD Q6 n10 Np aL n15 V6 x16 x17 σ := M.gk h ok rfl fun _ _ => by kernel_rfl
end A2
namespace P0
def M : Fw := ⟨prog,178,f178,[],[],false,[],[],[]⟩
theorem ok : M.Ok := ⟨AG.nil,mixed,func178,by kernel_rfl⟩
theorem start (h : Al σ fun b1 => R (.returned (.slice (aD b1 0) 5 5)) (Hp.set σ b1 (.cells #[.nilFunc,(.func (.func 217) #[] #[]),(.func (.func 218) #[] #[]),(.func (.func 219) #[] #[]),(.func (.func 220) #[] #[])] 221 (0,0)))) : Spec prog 178 #[] σ R := M.start h ok
end P0
namespace D8
variable {s0 : ByteArray} {p2 p3 p7 : Option Addr} {n2 c2 n3 c3 n7 c7 : Nat} {x8 x9 : Int}
def M : Fw := ⟨prog,179,f179,[221],[2,3],false,[(5,8,false)],[],[(232,[(2,.X 224 [.L]),(3,.X 224 [.L]),(7,wL),(8,wI),(9,wI)])]⟩
theorem ok : M.Ok := ⟨.cons call221 (AG.nil),mixed,func179,by kernel_rfl⟩
def A7 := M.pt 0
theorem start (h : ∀ b2 : Nat,∀ b3 : Nat,Spec prog 221 #[.string s0,(.string (ByteArray.mk #[124]))] σ (AA R (CS fun p7 n7 c7 y => A7 R none 0 0 none 0 0 p7 n7 c7 (n7 : Int) 0 y))) : Spec prog 179 #[.string s0] σ R := M.start h ok
theorem Aa (h : Br (x9 < x8) (Pq p7 fun BG jr => In x9 (n7 : Int) ∧ LT σ BG (jr + Int.toNat x9 * 1) fun s12 => Spec prog 221 #[.string s12,(.string (ByteArray.mk #[42]))] σ (AA R (CS fun bd n16 XE y => Al y fun Q5 => AK prog (Builtin.append_ #[222,222] 222 #[.slice p3 n3 c3,(.slice (aD Q5 0) 1 1)]) (Hp.set y Q5 (.cells #[.slice bd n16 XE] 257 (0,0))) (CS fun p19 n19 c19 AF => AI (x9 + 1) ∧ A7 R p2 n2 c2 p19 n19 c19 (aD BG jr) n7 c7 x8 (x9 + 1) AF)))) (R (.returned (.agg #[.slice p3 n3 c3])) σ)) : A7 R p2 n2 c2 p3 n3 c3 p7 n7 c7 x8 x9 σ := M.gk h ok rfl fun _ _ => by kernel_rfl
end D8
namespace P1
variable {x0 : Int}
def M : Fw := ⟨prog,186,f186,[174,182],[],false,[],[],[]⟩
theorem ok : M.Ok := ⟨.cons call174 (.cons call182 (AG.nil)),mixed,func186,by kernel_rfl⟩
theorem start (h : Spec prog 182 #[.int .u64 x0] σ (AA R (fun z y => ∃ x4,(Value.float .f64 x4) = z ∧ Spec prog 174 #[(Value.float .f64 x4)] y (AA R (CI .u64 fun x5 AF => R (.returned (.int .u64 x5)) AF))))) : Spec prog 186 #[.int .u64 x0] σ R := M.start h ok
end P1
namespace YM
variable {x0 x1 : Int}
def M : Fw := ⟨prog,194,f194,[203],[],false,[],[],[]⟩
theorem ok : M.Ok := ⟨.cons call203 (AG.nil),mixed,func194,by kernel_rfl⟩
theorem start (h : Spec prog 203 #[.int .i64 4,.int .u64 x0,.int .u64 x1] σ (AA R (fun z y => ∃ I3 Rv,z = (.tuple #[.int .u64 I3,.bool Rv]) ∧ R (.returned (.int .u64 I3)) y))) : Spec prog 194 #[.int .u64 x0,.int .u64 x1] σ R := M.start h ok
end YM
namespace Mb
variable {Py p1a : Option Addr} {Js OZ n1a c1a : Nat} {Eg Cb : Int}
def M : Fw := ⟨prog,196,f196,[52],[2,3],false,[],[],[]⟩
theorem ok : M.Ok := ⟨.cons call52 (AG.nil),mixed,func196,by kernel_rfl⟩
theorem start (h : ∀ b2 : Nat,∀ b3 : Nat,Spec prog 52 #[.slice Py Js OZ,.slice p1a n1a c1a] σ (AA R (CI .i64 fun x9 y => R (.returned (.int .i64 x9)) y))) : Spec prog 196 #[.agg #[.slice Py Js OZ,.int .u64 Eg],.agg #[.slice p1a n1a c1a,.int .u64 Cb]] σ R := M.start h ok
end Mb
namespace Ej
variable {p0 : Option Addr} {n0 c0 : Nat} {s1 : ByteArray}
def M : Fw := ⟨prog,199,f199,[228],[],false,[],[],[]⟩
theorem ok : M.Ok := ⟨.cons call228 (AG.nil),mixed,func199,by kernel_rfl⟩
theorem start (h : Spec prog 228 #[.slice p0 n0 c0,.string s1] σ (AA R (CI .i64 fun x7 y => R (.returned (.bool (decide (0 ≤ x7)))) y))) : Spec prog 199 #[.slice p0 n0 c0,.string s1] σ R := M.start h ok
end Ej
namespace FR
variable {x0 x5 x15 x16 : Int} {p1 Jf : Option Addr} {n1 c1 n14 Hd : Nat}
def M : Fw := ⟨prog,202,f202,[186,204,229],[],false,[],[],[(232,[(0,wI),(5,wU),(14,wL),(15,wI),(16,wI)]),(935,[(0,wI),(5,wU),(14,wL),(15,wI),(16,wI)])]⟩
theorem ok : M.Ok := ⟨.cons call186 (.cons call204 (.cons call229 (AG.nil))),mixed,func202,by kernel_rfl⟩
def A7 := M.pt 0
def lT := M.pt 1
theorem start (h : Pq p1 fun BG jr => In 0 (n1 : Int) ∧ LI .u64 σ BG jr fun x12 => ((0 : Int) ≤ 1 ∧ 1 ≤ (n1 : Int)) ∧ A7 R x0 x12 ((Ip (aD BG jr) (1) c1 1)) (n1 - 1) (c1 - 1) ((((n1 - 1) : Nat) : Int)) 0 σ) : Spec prog 202 #[.int .i64 x0,.slice p1 n1 c1] σ R := M.start h ok
theorem Aa (h : Br (x16 < x15) (Pq Jf fun Q5 WA => In x16 (n14 : Int) ∧ LI .u64 σ Q5 (WA + Int.toNat x16 * 1) fun DT => Spec prog 204 #[.int .i64 x0,.int .u64 DT,.int .u64 x5] σ (AA R (fun z y => ∃ AEa ALg,z = (.tuple #[.bool AEa,.bool ALg]) ∧ Bo AEa (lT R x0 DT (aD Q5 WA) n14 Hd x15 x16 y) (Spec prog 229 #[.int .u64 x5] y (AA R (CB fun t30 AF => Bo t30 (lT R x0 DT (aD Q5 WA) n14 Hd x15 x16 AF) (lT R x0 x5 (aD Q5 WA) n14 Hd x15 x16 AF))))))) (Spec prog 186 #[.int .u64 x5] σ (AA R (CI .u64 fun Q7 y => R (.returned (.int .u64 Q7)) y)))) : A7 R x0 x5 Jf n14 Hd x15 x16 σ := M.of h ok rfl
theorem sV (h : AI (x16 + 1) ∧ A7 R x0 x5 Jf n14 Hd x15 (x16 + 1) σ) : lT R x0 x5 Jf n14 Hd x15 x16 σ := M.of h ok rfl
end FR
namespace YO
variable {x0 : Int}
def M : Fw := ⟨prog,229,f229,[186],[],false,[],[],[]⟩
theorem ok : M.Ok := ⟨.cons call186 (AG.nil),mixed,func229,by kernel_rfl⟩
theorem start (h : Spec prog 186 #[.int .u64 x0] σ (AA R (CI .u64 fun x4 y => R (.returned (.bool (decide (x4 = 9221120237041090560)))) y))) : Spec prog 229 #[.int .u64 x0] σ R := M.start h ok
end YO
namespace Bd
variable {Py p8 : Option Addr} {Js OZ n8 c8 : Nat} {s1 : ByteArray} {x9 x10 : Int}
def M : Fw := ⟨prog,236,f236,[257],[2,6],false,[],[],[(104,[(1,wT),(8,wL),(9,wI),(10,wI)])]⟩
theorem ok : M.Ok := ⟨.cons call257 (AG.nil),mixed,func236,by kernel_rfl⟩
def H3 := M.pt 0
theorem start (h : ∀ b2 : Nat,H3 R s1 Py Js OZ (Js : Int) 0 σ) : Spec prog 236 #[.agg #[.slice Py Js OZ],.string s1] σ R := M.start h ok
theorem Bp (h : Br (x10 < x9) (Pq p8 fun Pu QV => In x10 (n8 : Int) ∧ ∃ lU lV lW,Aw σ Pu (QV + Int.toNat x10 * 1) [.slice lU lV lW] ∧ ∀ b6 : Nat,Spec prog 257 #[.agg #[.slice lU lV lW],.string s1] σ (AA R (CB fun t16 y => Bo t16 (R (.returned (.bool true)) y) (AI (x10 + 1) ∧ H3 R s1 (aD Pu QV) n8 c8 x9 (x10 + 1) y)))) (R (.returned (.bool false)) σ)) : H3 R s1 p8 n8 c8 x9 x10 σ := M.of h ok rfl
end Bd
namespace ES
variable {s0 : ByteArray} {x3 x8 x9 x16 : Int} {v4 v2 : Value} {t11 : Bool}
def M : Fw := ⟨prog,253,f253,[271,272,273,278,279,280,282,283],[],false,[],[],[(254,[(0,wT),(3,wI),(4,wV)]),(8190,[(2,wV),(3,wI),(4,wV)]),(32446,[(0,wT),(3,wI),(4,wV),(8,wU),(9,wI),(11,wB),(16,wU)])]⟩
theorem ok : M.Ok := ⟨.cons call271 (.cons call272 (.cons call273 (.cons call278 (.cons call279 (.cons call280 (.cons call282 (.cons call283 (AG.nil)))))))),mixed,func253,by kernel_rfl⟩
def ALh := M.pt 0
def AEb := M.pt 2
theorem start (h : Spec prog 271 #[.string s0] σ (AA R (fun z y => ∃ AEc KA AEd,z = (.tuple #[AEc,.int .i64 KA,.bool AEd]) ∧ Bo AEd (R (.returned (.tuple #[AEc,.int .i64 KA,.nilIface])) y) (Spec prog 272 #[.string s0] y (AA R (fun z AF => ∃ iD bw sW zQ AEe R8 AEf,z = (.tuple #[.int .u64 iD,.int .i64 bw,.bool sW,.bool zQ,.bool AEe,.int .i64 R8,.bool AEf]) ∧ Bn AEf (R (.returned (.tuple #[.float .f64 0,.int .i64 R8,(.iface 264 (.int .i64 2))])) AF) (Bo AEe (∃ s53,YF prog (Instr.sliceAt 9 (.string s0) none (some (.int .i64 R8)) none) AF (.string s53) ∧ Spec prog 273 #[.string s53,(.pointer (aD 6 0)),.int .u64 iD,.int .i64 bw,.bool sW,.bool zQ] AF (AA R (fun z AH => ∃ AEg AEh,z = (.tuple #[AEg,AEh]) ∧ R (.returned (.tuple #[AEg,.int .i64 R8,AEh])) AH))) (LB AF 5 0 fun t64 => Bo t64 (Spec prog 280 #[.bool sW] AF (AA R (CI .u64 fun vm AH => ((0 : Int) ≤ 63 ∧ 63 ≤ ((IntKind.bits .u64 : Nat) : Int)) ∧ Df (IntKind.u64.wrap (vm * 2 ^ Int.toNat 63)) fun bz => Br (iD = 0) (Df (Go.bits .or .u64 bz 0) fun vy => EN prog 281 #[.int .u64 vy] AH (fun z Ab => ∃ qq,(Value.float .f64 qq) = z ∧ R (.returned (.tuple #[(Value.float .f64 qq),.int .i64 R8,.nilIface])) Ab)) (Br (310 < bw) (Df (Go.bits .or .u64 bz 9218868437227405312) fun x77 => EN prog 281 #[.int .u64 x77] AH (fun z Ab => ∃ x78,(Value.float .f64 x78) = z ∧ R (.returned (.tuple #[(Value.float .f64 x78),.int .i64 R8,(.iface 264 (.int .i64 1))])) Ab)) (Br (bw < (-345)) (Df (Go.bits .or .u64 bz 0) fun x84 => EN prog 281 #[.int .u64 x84] AH (fun z Ab => ∃ x85,(Value.float .f64 x85) = z ∧ R (.returned (.tuple #[(Value.float .f64 x85),.int .i64 R8,.nilIface])) Ab)) (Bn zQ (Spec prog 282 #[.int .u64 iD,.int .i64 bw,.bool sW] AH (AA R (fun z Ab => ∃ AEi AEj,z = (.tuple #[AEi,.bool AEj]) ∧ Bo AEj (R (.returned (.tuple #[AEi,.int .i64 R8,.nilIface])) Ab) (AEb R s0 R8 .nilIface iD bw false bz Ab)))) (AEb R s0 R8 .nilIface iD bw true bz AH))))))) (ALh R s0 R8 .nilIface AF))))))))) : Spec prog 253 #[.string s0] σ R := M.start h ok
end ES
namespace Aj
variable {s0 : ByteArray} {x5 x6 x12 x7 : Int} {t13 t16 t19 : Bool}
def M : Fw := ⟨prog,271,f271,[299,300,301],[],false,[],[],[(128001,[(0,wT),(5,wI),(6,wI),(12,w8),(13,wB)]),(256005,[(0,wT),(5,wI),(6,wI),(12,w8),(16,wB)]),(8004,[(0,wT),(5,wI),(6,wI)]),(256007,[(0,wT),(19,wB)]),(126,[]),(32022,[(5,wI),(6,wI),(7,wI)]),(32006,[(0,wT),(5,wI)])]⟩
theorem ok : M.Ok := ⟨.cons call299 (.cons call300 (.cons call301 (AG.nil))),mixed,func271,by kernel_rfl⟩
def FT := M.pt 0
def zR := M.pt 1
def ALi := M.pt 2
def YQ := M.pt 3
def zS := M.pt 4
def AEk := M.pt 6
theorem start (h : Br ((((ByteArray.size s0 : Nat) : Int) : Int) = 0) (R (.returned (.tuple #[.float .f64 0,.int .i64 0,.bool false])) σ) (∃ Ma : UInt8,(0 : Int) ≤ 0 ∧ (ByteArray.data s0)[Int.toNat 0]? = some Ma ∧ Br ((((UInt8.toNat Ma : Nat) : Int) : Int) = 43) (FT R s0 1 0 (((UInt8.toNat Ma : Nat) : Int)) true σ) (FT R s0 1 0 (((UInt8.toNat Ma : Nat) : Int)) ((decide ((((UInt8.toNat Ma : Nat) : Int) : Int) = 45))) σ))) : Spec prog 271 #[.string s0] σ R := M.start h ok
theorem WH (h : Bo t13 (∃ u23 : UInt8,(0 : Int) ≤ 0 ∧ (ByteArray.data s0)[Int.toNat 0]? = some u23 ∧ Br ((((UInt8.toNat u23 : Nat) : Int) : Int) = 45) (AEk R s0 (-1) σ) (AEk R s0 x5 σ)) (Br (x12 = 105) (zR R s0 x5 x6 x12 true σ) (zR R s0 x5 x6 x12 ((decide (x12 = 73))) σ))) : FT R s0 x5 x6 x12 t13 σ := M.of h ok rfl
theorem sY (h : Bo t16 (ALi R s0 x5 x6 σ) (Br (x12 = 110) (YQ R s0 true σ) (YQ R s0 ((decide (x12 = 78))) σ))) : zR R s0 x5 x6 x12 t16 σ := M.of h ok rfl
theorem WI (h : Bo t19 (Spec prog 299 #[.string s0,(.string (ByteArray.mk #[110,97,110]))] σ (AA R (CI .i64 fun lX y => Br (lX = 3) (Spec prog 301 #[] y (AA R (fun z AF => ∃ Ro,(Value.float .f64 Ro) = z ∧ R (.returned (.tuple #[(Value.float .f64 Ro),.int .i64 3,.bool true])) AF))) (zS R y)))) (zS R σ)) : YQ R s0 t19 σ := M.of h ok rfl
theorem sZ (h : R (.returned (.tuple #[.float .f64 0,.int .i64 0,.bool false])) σ) : zS R  σ := M.of h ok rfl
end Aj
namespace CX
variable {t0 : Bool}
def M : Fw := ⟨prog,280,f280,[],[],false,[],[],[]⟩
theorem ok : M.Ok := ⟨AG.nil,mixed,func280,by kernel_rfl⟩
theorem start (h : Bo t0 (R (.returned (.int .u64 1)) σ) (R (.returned (.int .u64 0)) σ)) : Spec prog 280 #[.bool t0] σ R := M.start h ok
end CX
namespace Hg
variable {s0 s1 : ByteArray}
def M : Fw := ⟨prog,286,f286,[316],[],false,[],[],[]⟩
theorem ok : M.Ok := ⟨.cons call316 (AG.nil),mixed,func286,by kernel_rfl⟩
theorem start (h : Spec prog 316 #[.string s0,.string s1] σ (AA R (CB fun t7 y => R (.returned (.bool t7)) y))) : Spec prog 286 #[.string s0,.string s1] σ R := M.start h ok
end Hg
namespace CL
variable {s0 s1 : ByteArray}
def M : Fw := ⟨prog,316,f316,[],[],false,[],[],[]⟩
theorem ok : M.Ok := ⟨AG.nil,mixed,func316,by kernel_rfl⟩
theorem start (h : Br ((((ByteArray.size s1 : Nat) : Int) : Int) ≤ ((ByteArray.size s0 : Nat) : Int)) (AI (((ByteArray.size s0 : Nat) : Int) - ((ByteArray.size s1 : Nat) : Int)) ∧ ∃ s17,YF prog (Instr.sliceAt 9 (.string s0) (some (.int .i64 (((ByteArray.size s0 : Nat) : Int) - ((ByteArray.size s1 : Nat) : Int)))) none none) σ (.string s17) ∧ R (.returned (.bool (ByteArray.toList s17 == ByteArray.toList s1))) σ) (R (.returned (.bool false)) σ)) : Spec prog 316 #[.string s0,.string s1] σ R := M.start h ok
end CL
end TwW
end
end
section
set_option maxRecDepth 100000
noncomputable section
namespace TwW
open Go Tw Go.Proofs.Tryz
variable [E5] {R : Rr} {σ : Hp}

namespace A9
variable {p0 p7 p9 IN sa : Option Addr} {n0 c0 n7 c7 n9 c9 n11 IP n13 sb : Nat} {x1 x10 x12 QY x15 x16 : Int} {s2 : ByteArray}
def M : Fw := ⟨prog,8,f8,[14,17,19,20,21,23,25],[],false,[],[],[(32720,[(7,wL),(9,wL),(10,wI),(11,wL),(12,wI),(13,wL),(14,wI),(15,wI),(16,wI)]),(32723,[(7,wL),(9,wL),(10,wI),(11,wL),(12,wI),(13,wL),(14,wI),(15,wI),(16,wI)])]⟩
theorem ok : M.Ok := ⟨.cons call14 (.cons call17 (.cons call19 (.cons call20 (.cons call21 (.cons call23 (.cons call25 (AG.nil))))))),mixed,func8,by kernel_rfl⟩
def sd := M.pt 0
def se := M.pt 1
theorem start (h : Spec prog 19 #[.string s2] σ (AA R (CB fun t21 y => Bn t21 (Spec prog 14 #[] y (AA R (CB fun t23 AF => R (.returned (.bool t23)) AF))) (Spec prog 20 #[.string s2,.slice p0 n0 c0,.int .i64 x1] y (AA R (fun z AF => ∃ AEl AEm AEn KA,z = (.tuple #[.slice AEl AEm AEn,.int .i64 KA]) ∧ (ByteArray.size s2 + ByteArray.size (ByteArray.mk #[32,62,32,50]) ≤ 9223372036854775807) ∧ Spec prog 20 #[(.string (s2 ++ (ByteArray.mk #[32,62,32,50]))),.slice p0 n0 c0,.int .i64 x1] AF (AA R (fun z AH => ∃ AEo AEp AEq zT,z = (.tuple #[.slice AEo AEp AEq,.int .i64 zT]) ∧ (ByteArray.size s2 + ByteArray.size (ByteArray.mk #[32,60,61,32,50]) ≤ 9223372036854775807) ∧ Spec prog 20 #[(.string (s2 ++ (ByteArray.mk #[32,60,61,32,50]))),.slice p0 n0 c0,.int .i64 x1] AH (AA R (fun z Ab => ∃ AEr AEs AEt MP,z = (.tuple #[.slice AEr AEs AEt,.int .i64 MP]) ∧ (ByteArray.size (ByteArray.mk #[99,111,117,110,116,40]) + ByteArray.size s2 ≤ 9223372036854775807) ∧ (ByteArray.size ((ByteArray.mk #[99,111,117,110,116,40]) ++ s2) + ByteArray.size (ByteArray.mk #[32,62,32,98,111,111,108,32,50,41]) ≤ 9223372036854775807) ∧ Spec prog 20 #[(.string (((ByteArray.mk #[99,111,117,110,116,40]) ++ s2) ++ (ByteArray.mk #[32,62,32,98,111,111,108,32,50,41]))),.slice p0 n0 c0,.int .i64 x1] Ab (AA R (fun z C4 => ∃ AEu AEv AEw WG,z = (.tuple #[.slice AEu AEv AEw,.int .i64 WG]) ∧ Br (KA ≠ 0) (Br (zT = KA) (Br (MP = KA) (Br (WG = KA) (Spec prog 14 #[] C4 (AA R (CB fun t72 FE => R (.returned (.bool t72)) FE))) (R (.returned (.bool false)) C4)) (R (.returned (.bool false)) C4)) (R (.returned (.bool false)) C4)) (sd R AEl AEm AEn AEo AEp AEq zT AEr AEs AEt MP AEu AEv AEw WG 0 0 C4))))))))))))) : Spec prog 8 #[.slice p0 n0 c0,.int .i64 x1,.string s2] σ R := M.start h ok
theorem e9 (h : Br (x16 < (n7 : Int)) (Pq p7 fun iC o82 => In x16 (n7 : Int) ∧ LS σ iC ((o82 + Int.toNat x16 * 2) + 1) fun p84 n84 c84 => Br ((n84 : Int) ≠ 1) (R (.returned (.bool false)) σ) (In x16 (n7 : Int) ∧ LS σ iC ((o82 + Int.toNat x16 * 2) + 1) fun p91 n91 c91 => Pq p91 fun b92 o92 => In 0 (n91 : Int) ∧ LI .u64 σ b92 (o92 + 1) fun x94 => EN prog 22 #[.int .u64 x94] σ (fun z y => ∃ zU,(Value.float .f64 zU) = z ∧ ∃ t98,YF prog ((do eqGuard .neq 51 (.tmp 96) (.tmp 97) (Value.float .f64 zU) (Value.float .f64 zU); binOp .neq 51 (Value.float .f64 zU) (Value.float .f64 zU))) y (.bool t98) ∧ Bo t98 (AI (x15 + 1) ∧ se R (aD iC o82) n7 c7 p9 n9 c9 x10 IN n11 IP x12 sa n13 sb QY (x15 + 1) x16 y) (se R (aD iC o82) n7 c7 p9 n9 c9 x10 IN n11 IP x12 sa n13 sb QY x15 x16 y)))) (Al σ fun AEx => Spec prog 17 #[(.slice (aD AEx 0) 2 2)] (Hp.set σ AEx (.cells #[.slice p9 n9 c9,.slice IN n11 IP] 23 (0,0))) (AA R (fun z y => ∃ vz lY v7 wC,z = (.tuple #[.slice vz lY v7,.int .i64 wC]) ∧ Br (x10 ≠ 0) (R (.returned (.bool false)) y) (Br (x12 ≠ 0) (R (.returned (.bool false)) y) (Br (QY ≠ 0) (R (.returned (.bool false)) y) (Br (wC ≠ 0) (R (.returned (.bool false)) y) (AI ((n9 : Int) + (n11 : Int)) ∧ AI ((n7 : Int) - x15) ∧ Br ((((n9 : Int) + (n11 : Int)) : Int) ≠ ((n7 : Int) - x15)) (R (.returned (.bool false)) y) (AI ((n9 : Int) + (n11 : Int)) ∧ Br ((lY : Int) ≠ ((n9 : Int) + (n11 : Int))) (R (.returned (.bool false)) y) (Spec prog 21 #[.slice p7 n7 c7,.slice vz lY v7] y (AA R (CB fun t147 AF => Bn t147 (R (.returned (.bool false)) AF) (Br ((n7 : Int) = 0) (Br ((n13 : Int) = 0) (Spec prog 14 #[] AF (AA R (CB fun t172 AH => R (.returned (.bool t172)) AH))) (Br ((n13 : Int) = 1) (AK prog (convert 3 51 (.int .i64 (n7 : Int))) AF (fun z AH => ∃ lZ,(Value.float .f64 lZ) = z ∧ Spec prog 25 #[(Value.float .f64 lZ)] AH (AA R (CI .u64 fun zV Ab => Spec prog 23 #[.slice sa n13 sb,.int .u64 zV] Ab (AA R (CB fun t168 C4 => Bo t168 (Spec prog 14 #[] C4 (AA R (CB fun t172 FE => R (.returned (.bool t172)) FE))) (R (.returned (.bool false)) C4))))))) (R (.returned (.bool false)) AF))) (Br ((n13 : Int) = 1) (AK prog (convert 3 51 (.int .i64 (n7 : Int))) AF (fun z AH => ∃ lZ,(Value.float .f64 lZ) = z ∧ Spec prog 25 #[(Value.float .f64 lZ)] AH (AA R (CI .u64 fun zV Ab => Spec prog 23 #[.slice sa n13 sb,.int .u64 zV] Ab (AA R (CB fun t168 C4 => Bo t168 (Spec prog 14 #[] C4 (AA R (CB fun t172 FE => R (.returned (.bool t172)) FE))) (R (.returned (.bool false)) C4))))))) (R (.returned (.bool false)) AF))))))))))))))) : sd R p7 n7 c7 p9 n9 c9 x10 IN n11 IP x12 sa n13 sb QY x15 x16 σ := M.of h ok rfl
theorem sf (h : AI (x16 + 1) ∧ sd R p7 n7 c7 p9 n9 c9 x10 IN n11 IP x12 sa n13 sb QY x15 (x16 + 1) σ) : se R p7 n7 c7 p9 n9 c9 x10 IN n11 IP x12 sa n13 sb QY x15 x16 σ := M.of h ok rfl
end A9
namespace DV
variable {p0 p1 IN p33 : Option Addr} {n0 c0 n1 c1 n11 IP n33 c33 : Nat} {x2 js Q7 : Int}
def M : Fw := ⟨prog,11,f11,[28,29,30],[13],false,[],[],[(4072,[(2,wI),(11,wL),(33,wL),(34,wI),(35,wI)])]⟩
theorem ok : M.Ok := ⟨.cons call28 (.cons call29 (.cons call30 (AG.nil))),mixed,func11,by kernel_rfl⟩
def QZ := M.pt 0
theorem start (h : Spec prog 28 #[.slice p0 n0 c0,.slice p1 n1 c1] σ (AA R (CI .i64 fun x16 y => Br (x16 ≠ 0) (R (.returned (.tuple #[.slice none 0 0,.int .i64 x16])) y) (Spec prog 29 #[.int .i64 x2] y (AA R (CB fun t21 AF => Bn t21 (R (.returned (.tuple #[.slice none 0 0,.int .i64 221])) AF) (Spec prog 30 #[.slice p0 n0 c0,.slice p1 n1 c1,.int .i64 x2] AF (AA R (fun z AH => ∃ M0 MQ M1 YR,z = (.tuple #[.slice M0 MQ M1,.int .i64 YR]) ∧ Br (YR ≠ 0) (R (.returned (.tuple #[.slice none 0 0,.int .i64 YR])) AH) (QZ R x2 none 0 0 M0 MQ M1 (MQ : Int) 0 AH)))))))))) : Spec prog 11 #[.slice p0 n0 c0,.slice p1 n1 c1,.int .i64 x2] σ R := M.start h ok
theorem Q8 (h : Br (Q7 < js) (Pq p33 fun b37 o37 => In Q7 (n33 : Int) ∧ ∃ si sj sk HP,Aw σ b37 (o37 + Int.toNat Q7 * 2) [.slice si sj sk,.int .u64 HP] ∧ ∀ Ck : Nat,(Al σ fun U4 => (AK prog (Builtin.append_ #[37,37] 37 #[(.slice (aD U4 0) 0 0),.slice si sj sk]) (Hp.set σ U4 (.cells #[] 56 (0,0))) (CS fun jt n43 ju y => Al y fun Qa => Al (Hp.set y Qa (.cells #[.int .i64 x2,.int .u64 HP] 50 (0,0))) fun WJ => AK prog (Builtin.append_ #[23,23] 23 #[.slice IN n11 IP,(.slice (aD WJ 0) 1 1)]) (Hp.set (Hp.set y Qa (.cells #[.int .i64 x2,.int .u64 HP] 50 (0,0))) WJ (.cells #[.slice jt n43 ju,(.slice (aD Qa 0) 1 1)] 40 (0,0))) (CS fun p51 n51 c51 AF => AI (Q7 + 1) ∧ QZ R x2 p51 n51 c51 (aD b37 o37) n33 c33 js (Q7 + 1) AF))) ∧ (Al (Hp.set σ U4 (.cells #[] 56 (0,0))) fun Qa => AK prog (Builtin.append_ #[37,37] 37 #[(.slice (aD U4 0) 0 0),.slice si sj sk]) (Hp.set (Hp.set σ U4 (.cells #[] 56 (0,0))) Qa (.cells #[.int .i64 x2,.int .u64 HP] 50 (0,0))) (CS fun jt n43 ju y => Al y fun WJ => AK prog (Builtin.append_ #[23,23] 23 #[.slice IN n11 IP,(.slice (aD WJ 0) 1 1)]) (Hp.set y WJ (.cells #[.slice jt n43 ju,(.slice (aD Qa 0) 1 1)] 40 (0,0))) (CS fun p51 n51 c51 AF => AI (Q7 + 1) ∧ QZ R x2 p51 n51 c51 (aD b37 o37) n33 c33 js (Q7 + 1) AF)))) ∧ (Al σ fun Qa => Al (Hp.set σ Qa (.cells #[.int .i64 x2,.int .u64 HP] 50 (0,0))) fun U4 => AK prog (Builtin.append_ #[37,37] 37 #[(.slice (aD U4 0) 0 0),.slice si sj sk]) (Hp.set (Hp.set σ Qa (.cells #[.int .i64 x2,.int .u64 HP] 50 (0,0))) U4 (.cells #[] 56 (0,0))) (CS fun jt n43 ju y => Al y fun WJ => AK prog (Builtin.append_ #[23,23] 23 #[.slice IN n11 IP,(.slice (aD WJ 0) 1 1)]) (Hp.set y WJ (.cells #[.slice jt n43 ju,(.slice (aD Qa 0) 1 1)] 40 (0,0))) (CS fun p51 n51 c51 AF => AI (Q7 + 1) ∧ QZ R x2 p51 n51 c51 (aD b37 o37) n33 c33 js (Q7 + 1) AF)))) (R (.returned (.tuple #[.slice IN n11 IP,.int .i64 0])) σ)) : QZ R x2 IN n11 IP p33 n33 c33 js Q7 σ := M.of h ok rfl
end DV
namespace CY
variable {p0 p6 : Option Addr} {n0 c0 n6 c6 : Nat} {x4 x7 : Int}
def M : Fw := ⟨prog,17,f17,[39,40],[],false,[],[],[(208,[(0,wL),(4,wI)]),(976,[(0,wL),(6,wL),(7,wI)])]⟩
theorem ok : M.Ok := ⟨.cons call39 (.cons call40 (AG.nil)),mixed,func17,by kernel_rfl⟩
def Dm := M.pt 0
def zW := M.pt 1
theorem start (h : Dm R p0 n0 c0 0 σ) : Spec prog 17 #[.slice p0 n0 c0] σ R := M.start h ok
theorem Ac (h : Br (x4 < (n0 : Int)) (Pq p0 fun H0 Nh => In x4 (n0 : Int) ∧ LS σ H0 (Nh + Int.toNat x4 * 1) fun p17 n17 c17 => Spec prog 39 #[.slice p17 n17 c17] σ (AA R (CI .i64 fun R9 y => Br (R9 ≠ 0) (R (.returned (.tuple #[.slice none 0 0,.int .i64 R9])) y) (AI (x4 + 1) ∧ Dm R (aD H0 Nh) n0 c0 (x4 + 1) y)))) (zW R p0 n0 c0 none 0 0 0 σ)) : Dm R p0 n0 c0 x4 σ := M.of h ok rfl
theorem WK (h : Br (x7 < (n0 : Int)) (Pq p0 fun b31 o31 => In x7 (n0 : Int) ∧ LS σ b31 (o31 + Int.toNat x7 * 1) fun p32 n32 c32 => Spec prog 40 #[.slice p6 n6 c6,.slice p32 n32 c32] σ (AA R (CS fun p33 n33 c33 y => AI (x7 + 1) ∧ zW R (aD b31 o31) n0 c0 p33 n33 c33 (x7 + 1) y))) (R (.returned (.tuple #[.slice p6 n6 c6,.int .i64 0])) σ)) : zW R p0 n0 c0 p6 n6 c6 x7 σ := M.of h ok rfl
end CY
namespace SA
variable {s0 : ByteArray}
def M : Fw := ⟨prog,42,f42,[60,61,62],[],false,[],[],[]⟩
theorem ok : M.Ok := ⟨.cons call60 (.cons call61 (.cons call62 (AG.nil))),mixed,func42,by kernel_rfl⟩
theorem start (h : Spec prog 61 #[] σ (AA R (CS fun p3 n3 c3 y => Spec prog 60 #[.slice p3 n3 c3,.string s0] y (AA R (CI .i64 fun x5 AF => Br (0 ≤ x5) (R (.returned (.bool true)) AF) (Spec prog 62 #[] AF (AA R (CS fun p8 n8 c8 AH => Spec prog 60 #[.slice p8 n8 c8,.string s0] AH (AA R (CI .i64 fun x10 Ab => Br (0 ≤ x10) (R (.returned (.bool true)) Ab) (Al Ab fun BO => Spec prog 60 #[(.slice (aD BO 0) 9 9),.string s0] (Hp.set Ab BO (.cells #[(.string (ByteArray.mk #[111,114])),(.string (ByteArray.mk #[97,110,100])),(.string (ByteArray.mk #[117,110,108,101,115,115])),(.string (ByteArray.mk #[98,111,111,108])),(.string (ByteArray.mk #[111,110])),(.string (ByteArray.mk #[105,103,110,111,114,105,110,103])),(.string (ByteArray.mk #[98,121])),(.string (ByteArray.mk #[119,105,116,104,111,117,116])),(.string (ByteArray.mk #[111,102,102,115,101,116]))] 9 (0,0))) (AA R (CI .i64 fun x16 C4 => R (.returned (.bool (decide (0 ≤ x16)))) C4))))))))))))) : Spec prog 42 #[.string s0] σ R := M.start h ok
end SA
namespace CM
variable {q0 p1 p4c Gk p6 p7 Jf : Option Addr} {n1 c1 n4c c4c Gm Gn n6 c6 n7 c7 n14 Hd : Nat} {GF Fm x15 x16 : Int}
def M : Fw := ⟨prog,47,f47,[70],[4,9],false,[],[],[(488,[(0,wQ),(4,.X 93 [.I .i64,.I .u64,.L,.L]),(6,wL),(7,wL),(14,wL),(15,wI),(16,wI)])]⟩
theorem ok : M.Ok := ⟨.cons call70 (AG.nil),mixed,func47,by kernel_rfl⟩
def FG := M.pt 0
theorem start (h : ∀ b4 : Nat,Spec prog 70 #[] σ (AA R (CS fun sa n13 sb y => FG R q0 0 0 none 0 0 none 0 0 sa n13 sb none 0 0 p1 n1 c1 (n1 : Int) 0 y))) : Spec prog 47 #[.pointer q0,.slice p1 n1 c1] σ R := M.start h ok
theorem Ff (h : Br (x16 < x15) (Pq Jf fun Q5 WA => In x16 (n14 : Int) ∧ ∃ J9 O7 V7 lf lg lh lj lk ll lq lr lu lv Ek,Aw σ Q5 (WA + Int.toNat x16 * 10) [.int .i64 J9,.int .i64 O7,.string V7,.slice lf lg lh,.int .i64 lj,.int .i64 lk,.int .i64 ll,.slice lq lr lu,.bool lv,.int .i64 Ek] ∧ ∀ b9 : Nat,AI ((n7 : Int) - Ek) ∧ Pq p6 fun YS fA => In J9 (n6 : Int) ∧ ∃ v30,Hp.ld σ ⟨YS,(fA + Int.toNat J9 * 1),none⟩ = some v30 ∧ ((0 : Int) ≤ ((n7 : Int) - Ek) ∧ ((n7 : Int) - Ek) ≤ (n7 : Int)) ∧ (Al σ fun fB => (AK prog (Builtin.append_ #[136,136] 136 #[(.slice (aD fB 0) 0 0),(.slice (Ip p7 (Int.toNat ((n7 : Int) - Ek)) c7 4) (n7 - Int.toNat ((n7 : Int) - Ek)) (c7 - Int.toNat ((n7 : Int) - Ek)))]) (Hp.set σ fB (.cells #[] 93 (0,0))) (CS fun U5 n37 U6 y => Kp [YS] (Hp.set σ fB (.cells #[] 93 (0,0))) y ∧ (∃ (f38 : Nat) (Hh Hi : Array Value),v30 = .func (.func f38) Hh Hi ∧ Enters prog f38 ∧ Spec prog f38 (Hh ++ #[.pointer q0,.agg #[.int .i64 J9,.int .i64 O7,.string V7,.slice lf lg lh,.int .i64 lj,.int .i64 lk,.int .i64 ll,.slice lq lr lu,.bool lv,.int .i64 Ek],.slice U5 n37 U6] ++ Hi) y (AA R (fun z AF => ∃ KB KC KD KE KF KG KH KI HP,z = (.tuple #[.agg #[.int .i64 KB,.int .u64 KC,.slice KD KE KF,.slice KG KH KI],.int .i64 HP]) ∧ Al AF fun BG => AK prog (Instr.storeAt 93 (.pointer (aD BG 0)) (.agg #[.int .i64 KB,.int .u64 KC,.slice KD KE KF,.slice KG KH KI])) (Hp.set AF BG (.cells #[.int .i64 0,.int .u64 0,.slice none 0 0,.slice none 0 0] 93 (0,0))) (fun _ AH => Br (HP ≠ 0) (R (.returned (.tuple #[.agg #[.int .i64 0,.int .u64 0,.slice none 0 0,.slice none 0 0],.int .i64 HP])) AH) (((0 : Int) ≤ ((n7 : Int) - Ek) ∧ ((n7 : Int) - Ek) ≤ (c7 : Int)) ∧ ∃ Nq Nr Ns Nt Nu Nv Nw Nx,Aw AH BG 0 [.int .i64 Nq,.int .u64 Nr,.slice Ns Nt Nu,.slice Nv Nw Nx] ∧ Al AH fun Pv => AK prog (Builtin.append_ #[136,136] 136 #[(.slice p7 (Int.toNat ((n7 : Int) - Ek)) c7),(.slice (aD Pv 0) 1 1)]) (Hp.set AH Pv (.cells #[.int .i64 Nq,.int .u64 Nr,.slice Ns Nt Nu,.slice Nv Nw Nx] 93 (0,0))) (CS fun bq n50 br Ab => AI (x16 + 1) ∧ FG R q0 GF Fm p4c n4c c4c Gk Gm Gn (aD YS fA) n6 c6 bq n50 br (aD Q5 WA) n14 Hd x15 (x16 + 1) Ab)))))) ∧ (Al y fun BG => ∃ (f38 : Nat) (Hh Hi : Array Value),v30 = .func (.func f38) Hh Hi ∧ Enters prog f38 ∧ Spec prog f38 (Hh ++ #[.pointer q0,.agg #[.int .i64 J9,.int .i64 O7,.string V7,.slice lf lg lh,.int .i64 lj,.int .i64 lk,.int .i64 ll,.slice lq lr lu,.bool lv,.int .i64 Ek],.slice U5 n37 U6] ++ Hi) (Hp.set y BG (.cells #[.int .i64 0,.int .u64 0,.slice none 0 0,.slice none 0 0] 93 (0,0))) (AA R (fun z AF => ∃ KB KC KD KE KF KG KH KI HP,z = (.tuple #[.agg #[.int .i64 KB,.int .u64 KC,.slice KD KE KF,.slice KG KH KI],.int .i64 HP]) ∧ AK prog (Instr.storeAt 93 (.pointer (aD BG 0)) (.agg #[.int .i64 KB,.int .u64 KC,.slice KD KE KF,.slice KG KH KI])) AF (fun _ AH => Br (HP ≠ 0) (R (.returned (.tuple #[.agg #[.int .i64 0,.int .u64 0,.slice none 0 0,.slice none 0 0],.int .i64 HP])) AH) (((0 : Int) ≤ ((n7 : Int) - Ek) ∧ ((n7 : Int) - Ek) ≤ (c7 : Int)) ∧ ∃ Nq Nr Ns Nt Nu Nv Nw Nx,Aw AH BG 0 [.int .i64 Nq,.int .u64 Nr,.slice Ns Nt Nu,.slice Nv Nw Nx] ∧ Al AH fun Pv => AK prog (Builtin.append_ #[136,136] 136 #[(.slice p7 (Int.toNat ((n7 : Int) - Ek)) c7),(.slice (aD Pv 0) 1 1)]) (Hp.set AH Pv (.cells #[.int .i64 Nq,.int .u64 Nr,.slice Ns Nt Nu,.slice Nv Nw Nx] 93 (0,0))) (CS fun bq n50 br Ab => AI (x16 + 1) ∧ FG R q0 GF Fm p4c n4c c4c Gk Gm Gn (aD YS fA) n6 c6 bq n50 br (aD Q5 WA) n14 Hd x15 (x16 + 1) Ab)))))))) ∧ (Al (Hp.set σ fB (.cells #[] 93 (0,0))) fun BG => AK prog (Builtin.append_ #[136,136] 136 #[(.slice (aD fB 0) 0 0),(.slice (Ip p7 (Int.toNat ((n7 : Int) - Ek)) c7 4) (n7 - Int.toNat ((n7 : Int) - Ek)) (c7 - Int.toNat ((n7 : Int) - Ek)))]) (Hp.set (Hp.set σ fB (.cells #[] 93 (0,0))) BG (.cells #[.int .i64 0,.int .u64 0,.slice none 0 0,.slice none 0 0] 93 (0,0))) (CS fun U5 n37 U6 y => Kp [YS] (Hp.set (Hp.set σ fB (.cells #[] 93 (0,0))) BG (.cells #[.int .i64 0,.int .u64 0,.slice none 0 0,.slice none 0 0] 93 (0,0))) y ∧ ∃ (f38 : Nat) (Hh Hi : Array Value),v30 = .func (.func f38) Hh Hi ∧ Enters prog f38 ∧ Spec prog f38 (Hh ++ #[.pointer q0,.agg #[.int .i64 J9,.int .i64 O7,.string V7,.slice lf lg lh,.int .i64 lj,.int .i64 lk,.int .i64 ll,.slice lq lr lu,.bool lv,.int .i64 Ek],.slice U5 n37 U6] ++ Hi) y (AA R (fun z AF => ∃ KB KC KD KE KF KG KH KI HP,z = (.tuple #[.agg #[.int .i64 KB,.int .u64 KC,.slice KD KE KF,.slice KG KH KI],.int .i64 HP]) ∧ AK prog (Instr.storeAt 93 (.pointer (aD BG 0)) (.agg #[.int .i64 KB,.int .u64 KC,.slice KD KE KF,.slice KG KH KI])) AF (fun _ AH => Br (HP ≠ 0) (R (.returned (.tuple #[.agg #[.int .i64 0,.int .u64 0,.slice none 0 0,.slice none 0 0],.int .i64 HP])) AH) (((0 : Int) ≤ ((n7 : Int) - Ek) ∧ ((n7 : Int) - Ek) ≤ (c7 : Int)) ∧ ∃ Nq Nr Ns Nt Nu Nv Nw Nx,Aw AH BG 0 [.int .i64 Nq,.int .u64 Nr,.slice Ns Nt Nu,.slice Nv Nw Nx] ∧ Al AH fun Pv => AK prog (Builtin.append_ #[136,136] 136 #[(.slice p7 (Int.toNat ((n7 : Int) - Ek)) c7),(.slice (aD Pv 0) 1 1)]) (Hp.set AH Pv (.cells #[.int .i64 Nq,.int .u64 Nr,.slice Ns Nt Nu,.slice Nv Nw Nx] 93 (0,0))) (CS fun bq n50 br Ab => AI (x16 + 1) ∧ FG R q0 GF Fm p4c n4c c4c Gk Gm Gn (aD YS fA) n6 c6 bq n50 br (aD Q5 WA) n14 Hd x15 (x16 + 1) Ab)))))))) ∧ (Al σ fun BG => Al (Hp.set σ BG (.cells #[.int .i64 0,.int .u64 0,.slice none 0 0,.slice none 0 0] 93 (0,0))) fun fB => AK prog (Builtin.append_ #[136,136] 136 #[(.slice (aD fB 0) 0 0),(.slice (Ip p7 (Int.toNat ((n7 : Int) - Ek)) c7 4) (n7 - Int.toNat ((n7 : Int) - Ek)) (c7 - Int.toNat ((n7 : Int) - Ek)))]) (Hp.set (Hp.set σ BG (.cells #[.int .i64 0,.int .u64 0,.slice none 0 0,.slice none 0 0] 93 (0,0))) fB (.cells #[] 93 (0,0))) (CS fun U5 n37 U6 y => Kp [YS] (Hp.set (Hp.set σ BG (.cells #[.int .i64 0,.int .u64 0,.slice none 0 0,.slice none 0 0] 93 (0,0))) fB (.cells #[] 93 (0,0))) y ∧ ∃ (f38 : Nat) (Hh Hi : Array Value),v30 = .func (.func f38) Hh Hi ∧ Enters prog f38 ∧ Spec prog f38 (Hh ++ #[.pointer q0,.agg #[.int .i64 J9,.int .i64 O7,.string V7,.slice lf lg lh,.int .i64 lj,.int .i64 lk,.int .i64 ll,.slice lq lr lu,.bool lv,.int .i64 Ek],.slice U5 n37 U6] ++ Hi) y (AA R (fun z AF => ∃ KB KC KD KE KF KG KH KI HP,z = (.tuple #[.agg #[.int .i64 KB,.int .u64 KC,.slice KD KE KF,.slice KG KH KI],.int .i64 HP]) ∧ AK prog (Instr.storeAt 93 (.pointer (aD BG 0)) (.agg #[.int .i64 KB,.int .u64 KC,.slice KD KE KF,.slice KG KH KI])) AF (fun _ AH => Br (HP ≠ 0) (R (.returned (.tuple #[.agg #[.int .i64 0,.int .u64 0,.slice none 0 0,.slice none 0 0],.int .i64 HP])) AH) (((0 : Int) ≤ ((n7 : Int) - Ek) ∧ ((n7 : Int) - Ek) ≤ (c7 : Int)) ∧ ∃ Nq Nr Ns Nt Nu Nv Nw Nx,Aw AH BG 0 [.int .i64 Nq,.int .u64 Nr,.slice Ns Nt Nu,.slice Nv Nw Nx] ∧ Al AH fun Pv => AK prog (Builtin.append_ #[136,136] 136 #[(.slice p7 (Int.toNat ((n7 : Int) - Ek)) c7),(.slice (aD Pv 0) 1 1)]) (Hp.set AH Pv (.cells #[.int .i64 Nq,.int .u64 Nr,.slice Ns Nt Nu,.slice Nv Nw Nx] 93 (0,0))) (CS fun bq n50 br Ab => AI (x16 + 1) ∧ FG R q0 GF Fm p4c n4c c4c Gk Gm Gn (aD YS fA) n6 c6 bq n50 br (aD Q5 WA) n14 Hd x15 (x16 + 1) Ab)))))))) (Pq p7 fun O8 o53 => In 0 (n7 : Int) ∧ ∃ YT YU AE1 AE2 AE3 YV YW YX,Aw σ O8 o53 [.int .i64 YT,.int .u64 YU,.slice AE1 AE2 AE3,.slice YV YW YX] ∧ R (.returned (.tuple #[.agg #[.int .i64 YT,.int .u64 YU,.slice AE1 AE2 AE3,.slice YV YW YX],.int .i64 0])) σ)) : FG R q0 GF Fm p4c n4c c4c Gk Gm Gn p6 n6 c6 p7 n7 c7 Jf n14 Hd x15 x16 σ := M.jj h ok rfl fun _ => by kernel_rfl
end CM
namespace Jh
variable {wD aM s1a s1b : ByteArray}
def M : Fw := ⟨prog,76,f76,[77,78],[2,3],false,[],[],[]⟩
theorem ok : M.Ok := ⟨.cons call77 (.cons call78 (AG.nil)),mixed,func76,by kernel_rfl⟩
theorem start (h : ∀ b2 : Nat,∀ b3 : Nat,Spec prog 78 #[.string wD,.string s1a] σ (AA R (CI .i64 fun x9 y => Spec prog 78 #[.string aM,.string s1b] y (AA R (CI .i64 fun QY AF => Al AF fun b15 => Spec prog 77 #[(.slice (aD b15 0) 2 2)] (Hp.set AF b15 (.cells #[.int .i64 x9,.int .i64 QY] 3 (0,0))) (AA R (CI .i64 fun x16 AH => R (.returned (.int .i64 x16)) AH))))))) : Spec prog 76 #[.agg #[.string wD,.string aM],.agg #[.string s1a,.string s1b]] σ R := M.start h ok
end Jh
namespace Ji
variable {s0 s1 : ByteArray}
def M : Fw := ⟨prog,78,f78,[119],[],false,[],[],[]⟩
theorem ok : M.Ok := ⟨.cons call119 (AG.nil),mixed,func78,by kernel_rfl⟩
theorem start (h : Spec prog 119 #[.string s0,.string s1] σ (AA R (CI .i64 fun x7 y => R (.returned (.int .i64 x7)) y))) : Spec prog 78 #[.string s0,.string s1] σ R := M.start h ok
end Ji
namespace Fq
variable {p0 p8 : Option Addr} {n0 c0 n8 c8 : Nat} {x9 x10 : Int}
def M : Fw := ⟨prog,80,f80,[125,126],[4],false,[],[],[(232,[(8,wL),(9,wI),(10,wI)])]⟩
theorem ok : M.Ok := ⟨.cons call125 (.cons call126 (AG.nil)),mixed,func80,by kernel_rfl⟩
def MM := M.pt 0
theorem start (h : Br (8 < (n0 : Int)) (R (.returned (.int .i64 41)) σ) (MM R p0 n0 c0 (n0 : Int) 0 σ)) : Spec prog 80 #[.slice p0 n0 c0] σ R := M.start h ok
theorem I2 (h : Br (x10 < x9) (Pq p8 fun Pu QV => In x10 (n8 : Int) ∧ ∃ lx iA AE5,Aw σ Pu (QV + Int.toNat x10 * 3) [.int .i64 lx,.string iA,.string AE5] ∧ ∀ b4 : Nat,Spec prog 125 #[.int .i64 lx] σ (AA R (CB fun t16 y => Bn t16 (R (.returned (.int .i64 40)) y) (Spec prog 126 #[.string iA] y (AA R (CB fun t21 AF => Bn t21 (R (.returned (.int .i64 40)) AF) (Br ((256 : Int) < ((ByteArray.size AE5 : Nat) : Int)) (R (.returned (.int .i64 40)) AF) (AI (x10 + 1) ∧ MM R (aD Pu QV) n8 c8 x9 (x10 + 1) AF)))))))) (R (.returned (.int .i64 0)) σ)) : MM R p8 n8 c8 x9 x10 σ := M.of h ok rfl
end Fq
namespace Bs
variable {q0 Dx D5 p2 : Option Addr} {Dq Cb Dr Dy DF Cd x8 : Int} {Dt : ByteArray} {Dz D0 D1 D6 n2 c2 : Nat} {DG : Bool}
def M : Fw := ⟨prog,82,f82,[],[4],false,[],[],[(60,[(2,wL),(8,wI)])]⟩
theorem ok : M.Ok := ⟨AG.nil,mixed,func82,by kernel_rfl⟩
def FG := M.pt 0
theorem start (h : ∀ b4 : Nat,Br (Cb = 11) (FG R p2 n2 c2 2 σ) (Br (Cb = 12) (FG R p2 n2 c2 2 σ) (FG R p2 n2 c2 3 σ))) : Spec prog 82 #[.pointer q0,.agg #[.int .i64 Dq,.int .i64 Cb,.string Dt,.slice Dx Dz D0,.int .i64 Dr,.int .i64 Dy,.int .i64 DF,.slice D5 D1 D6,.bool DG,.int .i64 Cd],.slice p2 n2 c2] σ R := M.start h ok
theorem Ff (h : Pq p2 fun Q5 WA => In 0 (n2 : Int) ∧ LI .i64 σ Q5 WA fun Hv => Br (Hv ≠ x8) (R (.returned (.tuple #[.int .i64 0,.int .i64 191])) σ) (R (.returned (.tuple #[.int .i64 2,.int .i64 0])) σ)) : FG R p2 n2 c2 x8 σ := M.of h ok rfl
end Bs
namespace G5
variable {s0 : ByteArray} {x3 x4 x5 : Int}
def M : Fw := ⟨prog,93,f93,[131],[],false,[],[],[(2000,[(0,wT),(3,wI),(4,wI),(5,wI)]),(508,[(4,wI)])]⟩
theorem ok : M.Ok := ⟨.cons call131 (AG.nil),mixed,func93,by kernel_rfl⟩
def sn := M.pt 0
def QR := M.pt 1
theorem start (h : Spec prog 131 #[.string s0] σ (AA R (CI .i64 fun x7 y => Br (x7 = 0) (R (.returned (.int .i64 0)) y) (Br (10 < x7) (R (.returned (.int .i64 0)) y) (∃ u16 : UInt8,(0 : Int) ≤ 0 ∧ (ByteArray.data s0)[Int.toNat 0]? = some u16 ∧ Br ((((UInt8.toNat u16 : Nat) : Int) : Int) = 48) (R (.returned (.int .i64 0)) y) (AI (x7 + 1) ∧ Br (((x7 + 1) : Int) ≠ ((ByteArray.size s0 : Nat) : Int)) (R (.returned (.int .i64 0)) y) (sn R s0 x7 0 0 y))))))) : Spec prog 93 #[.string s0] σ R := M.start h ok
theorem fC (h : Br (x5 < x3) (AI (10 * x4) ∧ ∃ u35 : UInt8,0 ≤ x5 ∧ (ByteArray.data s0)[Int.toNat x5]? = some u35 ∧ Df (IntKind.u8.wrap (((UInt8.toNat u35 : Nat) : Int) - 48)) fun aN => Df (IntKind.i64.wrap aN) fun Qb => AI ((10 * x4) + Qb) ∧ AI (x5 + 1) ∧ sn R s0 x3 (((10 * x4) + Qb)) (x5 + 1) σ) (∃ u41 : UInt8,0 ≤ x3 ∧ (ByteArray.data s0)[Int.toNat x3]? = some u41 ∧ Br ((((UInt8.toNat u41 : Nat) : Int) : Int) = 115) (QR R x4 σ) (Br ((((UInt8.toNat u41 : Nat) : Int) : Int) = 109) (AI (x4 * 60) ∧ QR R (x4 * 60) σ) (Br ((((UInt8.toNat u41 : Nat) : Int) : Int) = 104) (AI (x4 * 3600) ∧ QR R (x4 * 3600) σ) (Br ((((UInt8.toNat u41 : Nat) : Int) : Int) = 100) (AI (x4 * 86400) ∧ QR R (x4 * 86400) σ) (R (.returned (.int .i64 0)) σ)))))) : sn R s0 x3 x4 x5 σ := M.of h ok rfl
theorem Q2 (h : Br (2147483648 ≤ x4) (R (.returned (.int .i64 0)) σ) (R (.returned (.int .i64 x4)) σ)) : QR R x4 σ := M.of h ok rfl
end G5
namespace FU
variable {s0 : ByteArray} {x3 : Int}
def M : Fw := ⟨prog,98,f98,[],[],false,[],[],[(464,[(0,wT),(3,wI)])]⟩
theorem ok : M.Ok := ⟨AG.nil,mixed,func98,by kernel_rfl⟩
def BE := M.pt 0
theorem start (h : Bo ((ByteArray.toList s0 == ByteArray.toList (ByteArray.mk #[]))) (R (.returned (.bool false)) σ) (Br ((64 : Int) < ((ByteArray.size s0 : Nat) : Int)) (R (.returned (.bool false)) σ) (∃ Lt : UInt8,(0 : Int) ≤ 0 ∧ (ByteArray.data s0)[Int.toNat 0]? = some Lt ∧ Br ((48 : Int) ≤ ((UInt8.toNat Lt : Nat) : Int)) (∃ u18 : UInt8,(0 : Int) ≤ 0 ∧ (ByteArray.data s0)[Int.toNat 0]? = some u18 ∧ Br ((((UInt8.toNat u18 : Nat) : Int) : Int) ≤ 57) (R (.returned (.bool false)) σ) (BE R s0 0 σ)) (BE R s0 0 σ)))) : Spec prog 98 #[.string s0] σ R := M.start h ok
theorem Bz (h : Br (x3 < ((ByteArray.size s0 : Nat) : Int)) (∃ aO : UInt8,0 ≤ x3 ∧ (ByteArray.data s0)[Int.toNat x3]? = some aO ∧ Br ((((UInt8.toNat aO : Nat) : Int) : Int) ≠ 95) (Br ((((UInt8.toNat aO : Nat) : Int) : Int) < 48) (Br ((((UInt8.toNat aO : Nat) : Int) : Int) < 65) (Br ((((UInt8.toNat aO : Nat) : Int) : Int) < 97) (R (.returned (.bool false)) σ) (Br ((122 : Int) < ((UInt8.toNat aO : Nat) : Int)) (R (.returned (.bool false)) σ) (AI (x3 + 1) ∧ BE R s0 (x3 + 1) σ))) (Br ((90 : Int) < ((UInt8.toNat aO : Nat) : Int)) (Br ((((UInt8.toNat aO : Nat) : Int) : Int) < 97) (R (.returned (.bool false)) σ) (Br ((122 : Int) < ((UInt8.toNat aO : Nat) : Int)) (R (.returned (.bool false)) σ) (AI (x3 + 1) ∧ BE R s0 (x3 + 1) σ))) (AI (x3 + 1) ∧ BE R s0 (x3 + 1) σ))) (Br ((57 : Int) < ((UInt8.toNat aO : Nat) : Int)) (Br ((((UInt8.toNat aO : Nat) : Int) : Int) < 65) (Br ((((UInt8.toNat aO : Nat) : Int) : Int) < 97) (R (.returned (.bool false)) σ) (Br ((122 : Int) < ((UInt8.toNat aO : Nat) : Int)) (R (.returned (.bool false)) σ) (AI (x3 + 1) ∧ BE R s0 (x3 + 1) σ))) (Br ((90 : Int) < ((UInt8.toNat aO : Nat) : Int)) (Br ((((UInt8.toNat aO : Nat) : Int) : Int) < 97) (R (.returned (.bool false)) σ) (Br ((122 : Int) < ((UInt8.toNat aO : Nat) : Int)) (R (.returned (.bool false)) σ) (AI (x3 + 1) ∧ BE R s0 (x3 + 1) σ))) (AI (x3 + 1) ∧ BE R s0 (x3 + 1) σ))) (AI (x3 + 1) ∧ BE R s0 (x3 + 1) σ))) (AI (x3 + 1) ∧ BE R s0 (x3 + 1) σ)) (R (.returned (.bool true)) σ)) : BE R s0 x3 σ := M.of h ok rfl
end FU
namespace Ak
variable {s0 : ByteArray} {x3 x4 x5 x6 : Int}
def M : Fw := ⟨prog,99,f99,[],[],false,[],[],[(220,[(0,wT),(3,wI)]),(894,[(0,wT),(3,wI),(4,wI),(5,w8),(6,w8)]),(7164,[(0,wT),(3,wI),(4,wI),(5,w8),(6,w8)])]⟩
theorem ok : M.Ok := ⟨AG.nil,mixed,func99,by kernel_rfl⟩
def Bh := M.pt 0
def HQ := M.pt 1
def ly := M.pt 2
theorem start (h : Bh R s0 0 σ) : Spec prog 99 #[.string s0] σ R := M.start h ok
theorem A0 (h : Br (x3 = ((ByteArray.size s0 : Nat) : Int)) (R (.returned (.bool true)) σ) (∃ Lt : UInt8,0 ≤ x3 ∧ (ByteArray.data s0)[Int.toNat x3]? = some Lt ∧ Br ((((UInt8.toNat Lt : Nat) : Int) : Int) < 128) (AI (x3 + 1) ∧ Bh R s0 (x3 + 1) σ) (Br ((194 : Int) ≤ ((UInt8.toNat Lt : Nat) : Int)) (Br ((((UInt8.toNat Lt : Nat) : Int) : Int) ≤ 223) (HQ R s0 x3 1 128 191 σ) (Br ((224 : Int) ≤ ((UInt8.toNat Lt : Nat) : Int)) (Br ((((UInt8.toNat Lt : Nat) : Int) : Int) ≤ 239) (Br ((((UInt8.toNat Lt : Nat) : Int) : Int) = 224) (HQ R s0 x3 2 160 191 σ) (Br ((((UInt8.toNat Lt : Nat) : Int) : Int) = 237) (HQ R s0 x3 2 128 159 σ) (HQ R s0 x3 2 128 191 σ))) (Br ((240 : Int) ≤ ((UInt8.toNat Lt : Nat) : Int)) (Br ((((UInt8.toNat Lt : Nat) : Int) : Int) ≤ 244) (Br ((((UInt8.toNat Lt : Nat) : Int) : Int) = 240) (HQ R s0 x3 3 144 191 σ) (Br ((((UInt8.toNat Lt : Nat) : Int) : Int) = 244) (HQ R s0 x3 3 128 143 σ) (HQ R s0 x3 3 128 191 σ))) (R (.returned (.bool false)) σ)) (R (.returned (.bool false)) σ))) (Br ((240 : Int) ≤ ((UInt8.toNat Lt : Nat) : Int)) (Br ((((UInt8.toNat Lt : Nat) : Int) : Int) ≤ 244) (Br ((((UInt8.toNat Lt : Nat) : Int) : Int) = 240) (HQ R s0 x3 3 144 191 σ) (Br ((((UInt8.toNat Lt : Nat) : Int) : Int) = 244) (HQ R s0 x3 3 128 143 σ) (HQ R s0 x3 3 128 191 σ))) (R (.returned (.bool false)) σ)) (R (.returned (.bool false)) σ)))) (Br ((224 : Int) ≤ ((UInt8.toNat Lt : Nat) : Int)) (Br ((((UInt8.toNat Lt : Nat) : Int) : Int) ≤ 239) (Br ((((UInt8.toNat Lt : Nat) : Int) : Int) = 224) (HQ R s0 x3 2 160 191 σ) (Br ((((UInt8.toNat Lt : Nat) : Int) : Int) = 237) (HQ R s0 x3 2 128 159 σ) (HQ R s0 x3 2 128 191 σ))) (Br ((240 : Int) ≤ ((UInt8.toNat Lt : Nat) : Int)) (Br ((((UInt8.toNat Lt : Nat) : Int) : Int) ≤ 244) (Br ((((UInt8.toNat Lt : Nat) : Int) : Int) = 240) (HQ R s0 x3 3 144 191 σ) (Br ((((UInt8.toNat Lt : Nat) : Int) : Int) = 244) (HQ R s0 x3 3 128 143 σ) (HQ R s0 x3 3 128 191 σ))) (R (.returned (.bool false)) σ)) (R (.returned (.bool false)) σ))) (Br ((240 : Int) ≤ ((UInt8.toNat Lt : Nat) : Int)) (Br ((((UInt8.toNat Lt : Nat) : Int) : Int) ≤ 244) (Br ((((UInt8.toNat Lt : Nat) : Int) : Int) = 240) (HQ R s0 x3 3 144 191 σ) (Br ((((UInt8.toNat Lt : Nat) : Int) : Int) = 244) (HQ R s0 x3 3 128 143 σ) (HQ R s0 x3 3 128 191 σ))) (R (.returned (.bool false)) σ)) (R (.returned (.bool false)) σ)))))) : Bh R s0 x3 σ := M.of h ok rfl
theorem so (h : AI (x3 + 1) ∧ ly R s0 (x3 + 1) x4 x5 x6 σ) : HQ R s0 x3 x4 x5 x6 σ := M.of h ok rfl
theorem fD (h : Br (x4 = 0) (Bh R s0 x3 σ) (Br (x3 = ((ByteArray.size s0 : Nat) : Int)) (R (.returned (.bool false)) σ) (∃ u60 : UInt8,0 ≤ x3 ∧ (ByteArray.data s0)[Int.toNat x3]? = some u60 ∧ Br ((((UInt8.toNat u60 : Nat) : Int) : Int) < x5) (R (.returned (.bool false)) σ) (∃ u67 : UInt8,0 ≤ x3 ∧ (ByteArray.data s0)[Int.toNat x3]? = some u67 ∧ Br (x6 < ((UInt8.toNat u67 : Nat) : Int)) (R (.returned (.bool false)) σ) (AI (x4 - 1) ∧ AI (x3 + 1) ∧ ly R s0 (x3 + 1) (x4 - 1) 128 191 σ))))) : ly R s0 x3 x4 x5 x6 σ := M.of h ok rfl
end Ak
namespace DI
variable {q0 Dx D5 p2 : Option Addr} {Dq Cb Dr Dy DF Cd : Int} {Dt : ByteArray} {Dz D0 D1 D6 n2 c2 : Nat} {DG : Bool}
def M : Fw := ⟨prog,105,f105,[128,156,157,160,161],[6],false,[(1,9,false)],[],[]⟩
theorem ok : M.Ok := ⟨.cons call128 (.cons call156 (.cons call157 (.cons call160 (.cons call161 (AG.nil))))),mixed,func105,by kernel_rfl⟩
theorem start (h : Al σ fun b4 => ∀ b6 : Nat,Pq p2 fun Ck V5 => In 0 (n2 : Int) ∧ ∃ GZ UL zX zY zZ za zb zc,Aw (Hp.set σ b4 (.cells #[.int .i64 Dq,.int .i64 Cb,.string Dt,.slice Dx Dz D0,.int .i64 Dr,.int .i64 Dy,.int .i64 DF,.slice D5 D1 D6,.bool DG,.int .i64 Cd] 36 (0,0))) Ck V5 [.int .i64 GZ,.int .u64 UL,.slice zX zY zZ,.slice za zb zc] ∧ In 1 (n2 : Int) ∧ ∃ Rt X8 zd ze zf gx gy hJ,Aw (Hp.set σ b4 (.cells #[.int .i64 Dq,.int .i64 Cb,.string Dt,.slice Dx Dz D0,.int .i64 Dr,.int .i64 Dy,.int .i64 DF,.slice D5 D1 D6,.bool DG,.int .i64 Cd] 36 (0,0))) Ck (V5 + 4) [.int .i64 Rt,.int .u64 X8,.slice zd ze zf,.slice gx gy hJ] ∧ (Al (Hp.set σ b4 (.cells #[.int .i64 Dq,.int .i64 Cb,.string Dt,.slice Dx Dz D0,.int .i64 Dr,.int .i64 Dy,.int .i64 DF,.slice D5 D1 D6,.bool DG,.int .i64 Cd] 36 (0,0))) fun b8 => Al (Hp.set (Hp.set σ b4 (.cells #[.int .i64 Dq,.int .i64 Cb,.string Dt,.slice Dx Dz D0,.int .i64 Dr,.int .i64 Dy,.int .i64 DF,.slice D5 D1 D6,.bool DG,.int .i64 Cd] 36 (0,0))) b8 (.cells #[.int .i64 0,.int .u64 0,.slice none 0 0,.slice none 0 0] 93 (0,0))) fun b9 => AK prog (Instr.storeAt 93 (.pointer (aD b8 0)) (.agg #[.int .i64 GZ,.int .u64 UL,.slice zX zY zZ,.slice za zb zc])) (Hp.set (Hp.set (Hp.set σ b4 (.cells #[.int .i64 Dq,.int .i64 Cb,.string Dt,.slice Dx Dz D0,.int .i64 Dr,.int .i64 Dy,.int .i64 DF,.slice D5 D1 D6,.bool DG,.int .i64 Cd] 36 (0,0))) b8 (.cells #[.int .i64 0,.int .u64 0,.slice none 0 0,.slice none 0 0] 93 (0,0))) b9 (.cells #[.int .i64 0,.int .u64 0,.slice none 0 0,.slice none 0 0] 93 (0,0))) (fun _ y => Kp [Ck] (Hp.set (Hp.set (Hp.set σ b4 (.cells #[.int .i64 Dq,.int .i64 Cb,.string Dt,.slice Dx Dz D0,.int .i64 Dr,.int .i64 Dy,.int .i64 DF,.slice D5 D1 D6,.bool DG,.int .i64 Cd] 36 (0,0))) b8 (.cells #[.int .i64 0,.int .u64 0,.slice none 0 0,.slice none 0 0] 93 (0,0))) b9 (.cells #[.int .i64 0,.int .u64 0,.slice none 0 0,.slice none 0 0] 93 (0,0))) y ∧ AK prog (Instr.storeAt 93 (.pointer (aD b9 0)) (.agg #[.int .i64 Rt,.int .u64 X8,.slice zd ze zf,.slice gx gy hJ])) y (fun _ AF => LI .i64 AF b8 0 fun Hv => Br (Hv = 1) (LI .i64 AF b9 0 fun IM => Br (IM = 1) (∃ YY KA lz l3 l4 l5 l6 l7 l8 mA mB mC mD mE,Aw AF b4 0 [.int .i64 YY,.int .i64 KA,.string lz,.slice l3 l4 l5,.int .i64 l6,.int .i64 l7,.int .i64 l8,.slice mA mB mC,.bool mD,.int .i64 mE] ∧ LI .u64 AF b8 1 fun SB => LI .u64 AF b9 1 fun mF => Spec prog 156 #[.agg #[.int .i64 YY,.int .i64 KA,.string lz,.slice l3 l4 l5,.int .i64 l6,.int .i64 l7,.int .i64 l8,.slice mA mB mC,.bool mD,.int .i64 mE],.int .u64 SB,.int .u64 mF] AF (AA R (fun z AH => ∃ YZ mG,z = (.tuple #[.int .u64 YZ,.bool mG]) ∧ R (.returned (.tuple #[.agg #[.int .i64 1,.int .u64 YZ,.slice none 0 0,.slice none 0 0],.int .i64 0])) AH))) (LI .i64 AF b8 0 fun qt => Br (qt = 1) (∃ O9 MR PA SC SD SE SF SG SH SI SJ SK SL SM,Aw AF b4 0 [.int .i64 O9,.int .i64 MR,.string PA,.slice SC SD SE,.int .i64 SF,.int .i64 SG,.int .i64 SH,.slice SI SJ SK,.bool SL,.int .i64 SM] ∧ LS AF b9 2 fun zg n45 zh => Spec prog 157 #[.pointer q0,.agg #[.int .i64 O9,.int .i64 MR,.string PA,.slice SC SD SE,.int .i64 SF,.int .i64 SG,.int .i64 SH,.slice SI SJ SK,.bool SL,.int .i64 SM],.slice zg n45 zh,(.func (.func 158) #[] #[(.pointer (aD b4 0)),(.pointer (aD b8 0))])] AF (AA R (fun z AH => ∃ KJ KK KL KM KN KO KQ KR SN,z = (.tuple #[.agg #[.int .i64 KJ,.int .u64 KK,.slice KL KM KN,.slice KO KQ KR],.int .i64 SN]) ∧ R (.returned (.tuple #[.agg #[.int .i64 KJ,.int .u64 KK,.slice KL KM KN,.slice KO KQ KR],.int .i64 SN])) AH))) (LI .i64 AF b9 0 fun sq => Br (sq = 1) (∃ SO SP SQ SR SS SU SX SY SZ Sa Sb Sc Sd Se,Aw AF b4 0 [.int .i64 SO,.int .i64 SP,.string SQ,.slice SR SS SU,.int .i64 SX,.int .i64 SY,.int .i64 SZ,.slice Sa Sb Sc,.bool Sd,.int .i64 Se] ∧ LS AF b8 2 fun sr n57 su => Spec prog 157 #[.pointer q0,.agg #[.int .i64 SO,.int .i64 SP,.string SQ,.slice SR SS SU,.int .i64 SX,.int .i64 SY,.int .i64 SZ,.slice Sa Sb Sc,.bool Sd,.int .i64 Se],.slice sr n57 su,(.func (.func 159) #[] #[(.pointer (aD b4 0)),(.pointer (aD b9 0))])] AF (AA R (fun z AH => ∃ KS KT KU KV KW KX KY KZ Hw,z = (.tuple #[.agg #[.int .i64 KS,.int .u64 KT,.slice KU KV KW,.slice KX KY KZ],.int .i64 Hw]) ∧ R (.returned (.tuple #[.agg #[.int .i64 KS,.int .u64 KT,.slice KU KV KW,.slice KX KY KZ],.int .i64 Hw])) AH))) (LI .i64 AF b4 1 fun lJ => Spec prog 128 #[.int .i64 lJ] AF (AA R (CB fun t65 AH => Bo t65 (∃ Ka Kb Kc Kd Ke Kf Kg Kh Ki Kj Kk Kl Km Kn,Aw AH b4 0 [.int .i64 Ka,.int .i64 Kb,.string Kc,.slice Kd Ke Kf,.int .i64 Kg,.int .i64 Kh,.int .i64 Ki,.slice Kj Kk Kl,.bool Km,.int .i64 Kn] ∧ LS AH b8 2 fun lK n69 ql => LS AH b9 2 fun zi zj zk => Spec prog 160 #[.pointer q0,.agg #[.int .i64 Ka,.int .i64 Kb,.string Kc,.slice Kd Ke Kf,.int .i64 Kg,.int .i64 Kh,.int .i64 Ki,.slice Kj Kk Kl,.bool Km,.int .i64 Kn],.slice lK n69 ql,.slice zi zj zk] AH (AA R (fun z Ab => ∃ Ko Kq Kr Ks Kt Ku Kv Kw J6,z = (.tuple #[.agg #[.int .i64 Ko,.int .u64 Kq,.slice Kr Ks Kt,.slice Ku Kv Kw],.int .i64 J6]) ∧ R (.returned (.tuple #[.agg #[.int .i64 Ko,.int .u64 Kq,.slice Kr Ks Kt,.slice Ku Kv Kw],.int .i64 J6])) Ab))) (∃ Sf Sg Si Sj Sk Sl Sm Sn Sp Ss Su Sv Sx Sz,Aw AH b4 0 [.int .i64 Sf,.int .i64 Sg,.string Si,.slice Sj Sk Sl,.int .i64 Sm,.int .i64 Sn,.int .i64 Sp,.slice Ss Su Sv,.bool Sx,.int .i64 Sz] ∧ LS AH b8 2 fun qu mH qw => LS AH b9 2 fun zl zm zn => Spec prog 161 #[.pointer q0,.agg #[.int .i64 Sf,.int .i64 Sg,.string Si,.slice Sj Sk Sl,.int .i64 Sm,.int .i64 Sn,.int .i64 Sp,.slice Ss Su Sv,.bool Sx,.int .i64 Sz],.slice qu mH qw,.slice zl zm zn] AH (AA R (fun z Ab => ∃ Kx Ky Kz LA LC LD LF LG S0,z = (.tuple #[.agg #[.int .i64 Kx,.int .u64 Ky,.slice Kz LA LC,.slice LD LF LG],.int .i64 S0]) ∧ R (.returned (.tuple #[.agg #[.int .i64 Kx,.int .u64 Ky,.slice Kz LA LC,.slice LD LF LG],.int .i64 S0])) Ab))))))))) (LI .i64 AF b8 0 fun qt => Br (qt = 1) (∃ O9 MR PA SC SD SE SF SG SH SI SJ SK SL SM,Aw AF b4 0 [.int .i64 O9,.int .i64 MR,.string PA,.slice SC SD SE,.int .i64 SF,.int .i64 SG,.int .i64 SH,.slice SI SJ SK,.bool SL,.int .i64 SM] ∧ LS AF b9 2 fun zg n45 zh => Spec prog 157 #[.pointer q0,.agg #[.int .i64 O9,.int .i64 MR,.string PA,.slice SC SD SE,.int .i64 SF,.int .i64 SG,.int .i64 SH,.slice SI SJ SK,.bool SL,.int .i64 SM],.slice zg n45 zh,(.func (.func 158) #[] #[(.pointer (aD b4 0)),(.pointer (aD b8 0))])] AF (AA R (fun z AH => ∃ KJ KK KL KM KN KO KQ KR SN,z = (.tuple #[.agg #[.int .i64 KJ,.int .u64 KK,.slice KL KM KN,.slice KO KQ KR],.int .i64 SN]) ∧ R (.returned (.tuple #[.agg #[.int .i64 KJ,.int .u64 KK,.slice KL KM KN,.slice KO KQ KR],.int .i64 SN])) AH))) (LI .i64 AF b9 0 fun sq => Br (sq = 1) (∃ SO SP SQ SR SS SU SX SY SZ Sa Sb Sc Sd Se,Aw AF b4 0 [.int .i64 SO,.int .i64 SP,.string SQ,.slice SR SS SU,.int .i64 SX,.int .i64 SY,.int .i64 SZ,.slice Sa Sb Sc,.bool Sd,.int .i64 Se] ∧ LS AF b8 2 fun sr n57 su => Spec prog 157 #[.pointer q0,.agg #[.int .i64 SO,.int .i64 SP,.string SQ,.slice SR SS SU,.int .i64 SX,.int .i64 SY,.int .i64 SZ,.slice Sa Sb Sc,.bool Sd,.int .i64 Se],.slice sr n57 su,(.func (.func 159) #[] #[(.pointer (aD b4 0)),(.pointer (aD b9 0))])] AF (AA R (fun z AH => ∃ KS KT KU KV KW KX KY KZ Hw,z = (.tuple #[.agg #[.int .i64 KS,.int .u64 KT,.slice KU KV KW,.slice KX KY KZ],.int .i64 Hw]) ∧ R (.returned (.tuple #[.agg #[.int .i64 KS,.int .u64 KT,.slice KU KV KW,.slice KX KY KZ],.int .i64 Hw])) AH))) (LI .i64 AF b4 1 fun lJ => Spec prog 128 #[.int .i64 lJ] AF (AA R (CB fun t65 AH => Bo t65 (∃ Ka Kb Kc Kd Ke Kf Kg Kh Ki Kj Kk Kl Km Kn,Aw AH b4 0 [.int .i64 Ka,.int .i64 Kb,.string Kc,.slice Kd Ke Kf,.int .i64 Kg,.int .i64 Kh,.int .i64 Ki,.slice Kj Kk Kl,.bool Km,.int .i64 Kn] ∧ LS AH b8 2 fun lK n69 ql => LS AH b9 2 fun zi zj zk => Spec prog 160 #[.pointer q0,.agg #[.int .i64 Ka,.int .i64 Kb,.string Kc,.slice Kd Ke Kf,.int .i64 Kg,.int .i64 Kh,.int .i64 Ki,.slice Kj Kk Kl,.bool Km,.int .i64 Kn],.slice lK n69 ql,.slice zi zj zk] AH (AA R (fun z Ab => ∃ Ko Kq Kr Ks Kt Ku Kv Kw J6,z = (.tuple #[.agg #[.int .i64 Ko,.int .u64 Kq,.slice Kr Ks Kt,.slice Ku Kv Kw],.int .i64 J6]) ∧ R (.returned (.tuple #[.agg #[.int .i64 Ko,.int .u64 Kq,.slice Kr Ks Kt,.slice Ku Kv Kw],.int .i64 J6])) Ab))) (∃ Sf Sg Si Sj Sk Sl Sm Sn Sp Ss Su Sv Sx Sz,Aw AH b4 0 [.int .i64 Sf,.int .i64 Sg,.string Si,.slice Sj Sk Sl,.int .i64 Sm,.int .i64 Sn,.int .i64 Sp,.slice Ss Su Sv,.bool Sx,.int .i64 Sz] ∧ LS AH b8 2 fun qu mH qw => LS AH b9 2 fun zl zm zn => Spec prog 161 #[.pointer q0,.agg #[.int .i64 Sf,.int .i64 Sg,.string Si,.slice Sj Sk Sl,.int .i64 Sm,.int .i64 Sn,.int .i64 Sp,.slice Ss Su Sv,.bool Sx,.int .i64 Sz],.slice qu mH qw,.slice zl zm zn] AH (AA R (fun z Ab => ∃ Kx Ky Kz LA LC LD LF LG S0,z = (.tuple #[.agg #[.int .i64 Kx,.int .u64 Ky,.slice Kz LA LC,.slice LD LF LG],.int .i64 S0]) ∧ R (.returned (.tuple #[.agg #[.int .i64 Kx,.int .u64 Ky,.slice Kz LA LC,.slice LD LF LG],.int .i64 S0])) Ab))))))))))) ∧ (Al (Hp.set σ b4 (.cells #[.int .i64 Dq,.int .i64 Cb,.string Dt,.slice Dx Dz D0,.int .i64 Dr,.int .i64 Dy,.int .i64 DF,.slice D5 D1 D6,.bool DG,.int .i64 Cd] 36 (0,0))) fun b9 => Al (Hp.set (Hp.set σ b4 (.cells #[.int .i64 Dq,.int .i64 Cb,.string Dt,.slice Dx Dz D0,.int .i64 Dr,.int .i64 Dy,.int .i64 DF,.slice D5 D1 D6,.bool DG,.int .i64 Cd] 36 (0,0))) b9 (.cells #[.int .i64 0,.int .u64 0,.slice none 0 0,.slice none 0 0] 93 (0,0))) fun b8 => AK prog (Instr.storeAt 93 (.pointer (aD b8 0)) (.agg #[.int .i64 GZ,.int .u64 UL,.slice zX zY zZ,.slice za zb zc])) (Hp.set (Hp.set (Hp.set σ b4 (.cells #[.int .i64 Dq,.int .i64 Cb,.string Dt,.slice Dx Dz D0,.int .i64 Dr,.int .i64 Dy,.int .i64 DF,.slice D5 D1 D6,.bool DG,.int .i64 Cd] 36 (0,0))) b9 (.cells #[.int .i64 0,.int .u64 0,.slice none 0 0,.slice none 0 0] 93 (0,0))) b8 (.cells #[.int .i64 0,.int .u64 0,.slice none 0 0,.slice none 0 0] 93 (0,0))) (fun _ y => Kp [Ck] (Hp.set (Hp.set (Hp.set σ b4 (.cells #[.int .i64 Dq,.int .i64 Cb,.string Dt,.slice Dx Dz D0,.int .i64 Dr,.int .i64 Dy,.int .i64 DF,.slice D5 D1 D6,.bool DG,.int .i64 Cd] 36 (0,0))) b9 (.cells #[.int .i64 0,.int .u64 0,.slice none 0 0,.slice none 0 0] 93 (0,0))) b8 (.cells #[.int .i64 0,.int .u64 0,.slice none 0 0,.slice none 0 0] 93 (0,0))) y ∧ AK prog (Instr.storeAt 93 (.pointer (aD b9 0)) (.agg #[.int .i64 Rt,.int .u64 X8,.slice zd ze zf,.slice gx gy hJ])) y (fun _ AF => LI .i64 AF b8 0 fun Hv => Br (Hv = 1) (LI .i64 AF b9 0 fun IM => Br (IM = 1) (∃ YY KA lz l3 l4 l5 l6 l7 l8 mA mB mC mD mE,Aw AF b4 0 [.int .i64 YY,.int .i64 KA,.string lz,.slice l3 l4 l5,.int .i64 l6,.int .i64 l7,.int .i64 l8,.slice mA mB mC,.bool mD,.int .i64 mE] ∧ LI .u64 AF b8 1 fun SB => LI .u64 AF b9 1 fun mF => Spec prog 156 #[.agg #[.int .i64 YY,.int .i64 KA,.string lz,.slice l3 l4 l5,.int .i64 l6,.int .i64 l7,.int .i64 l8,.slice mA mB mC,.bool mD,.int .i64 mE],.int .u64 SB,.int .u64 mF] AF (AA R (fun z AH => ∃ YZ mG,z = (.tuple #[.int .u64 YZ,.bool mG]) ∧ R (.returned (.tuple #[.agg #[.int .i64 1,.int .u64 YZ,.slice none 0 0,.slice none 0 0],.int .i64 0])) AH))) (LI .i64 AF b8 0 fun qt => Br (qt = 1) (∃ O9 MR PA SC SD SE SF SG SH SI SJ SK SL SM,Aw AF b4 0 [.int .i64 O9,.int .i64 MR,.string PA,.slice SC SD SE,.int .i64 SF,.int .i64 SG,.int .i64 SH,.slice SI SJ SK,.bool SL,.int .i64 SM] ∧ LS AF b9 2 fun zg n45 zh => Spec prog 157 #[.pointer q0,.agg #[.int .i64 O9,.int .i64 MR,.string PA,.slice SC SD SE,.int .i64 SF,.int .i64 SG,.int .i64 SH,.slice SI SJ SK,.bool SL,.int .i64 SM],.slice zg n45 zh,(.func (.func 158) #[] #[(.pointer (aD b4 0)),(.pointer (aD b8 0))])] AF (AA R (fun z AH => ∃ KJ KK KL KM KN KO KQ KR SN,z = (.tuple #[.agg #[.int .i64 KJ,.int .u64 KK,.slice KL KM KN,.slice KO KQ KR],.int .i64 SN]) ∧ R (.returned (.tuple #[.agg #[.int .i64 KJ,.int .u64 KK,.slice KL KM KN,.slice KO KQ KR],.int .i64 SN])) AH))) (LI .i64 AF b9 0 fun sq => Br (sq = 1) (∃ SO SP SQ SR SS SU SX SY SZ Sa Sb Sc Sd Se,Aw AF b4 0 [.int .i64 SO,.int .i64 SP,.string SQ,.slice SR SS SU,.int .i64 SX,.int .i64 SY,.int .i64 SZ,.slice Sa Sb Sc,.bool Sd,.int .i64 Se] ∧ LS AF b8 2 fun sr n57 su => Spec prog 157 #[.pointer q0,.agg #[.int .i64 SO,.int .i64 SP,.string SQ,.slice SR SS SU,.int .i64 SX,.int .i64 SY,.int .i64 SZ,.slice Sa Sb Sc,.bool Sd,.int .i64 Se],.slice sr n57 su,(.func (.func 159) #[] #[(.pointer (aD b4 0)),(.pointer (aD b9 0))])] AF (AA R (fun z AH => ∃ KS KT KU KV KW KX KY KZ Hw,z = (.tuple #[.agg #[.int .i64 KS,.int .u64 KT,.slice KU KV KW,.slice KX KY KZ],.int .i64 Hw]) ∧ R (.returned (.tuple #[.agg #[.int .i64 KS,.int .u64 KT,.slice KU KV KW,.slice KX KY KZ],.int .i64 Hw])) AH))) (LI .i64 AF b4 1 fun lJ => Spec prog 128 #[.int .i64 lJ] AF (AA R (CB fun t65 AH => Bo t65 (∃ Ka Kb Kc Kd Ke Kf Kg Kh Ki Kj Kk Kl Km Kn,Aw AH b4 0 [.int .i64 Ka,.int .i64 Kb,.string Kc,.slice Kd Ke Kf,.int .i64 Kg,.int .i64 Kh,.int .i64 Ki,.slice Kj Kk Kl,.bool Km,.int .i64 Kn] ∧ LS AH b8 2 fun lK n69 ql => LS AH b9 2 fun zi zj zk => Spec prog 160 #[.pointer q0,.agg #[.int .i64 Ka,.int .i64 Kb,.string Kc,.slice Kd Ke Kf,.int .i64 Kg,.int .i64 Kh,.int .i64 Ki,.slice Kj Kk Kl,.bool Km,.int .i64 Kn],.slice lK n69 ql,.slice zi zj zk] AH (AA R (fun z Ab => ∃ Ko Kq Kr Ks Kt Ku Kv Kw J6,z = (.tuple #[.agg #[.int .i64 Ko,.int .u64 Kq,.slice Kr Ks Kt,.slice Ku Kv Kw],.int .i64 J6]) ∧ R (.returned (.tuple #[.agg #[.int .i64 Ko,.int .u64 Kq,.slice Kr Ks Kt,.slice Ku Kv Kw],.int .i64 J6])) Ab))) (∃ Sf Sg Si Sj Sk Sl Sm Sn Sp Ss Su Sv Sx Sz,Aw AH b4 0 [.int .i64 Sf,.int .i64 Sg,.string Si,.slice Sj Sk Sl,.int .i64 Sm,.int .i64 Sn,.int .i64 Sp,.slice Ss Su Sv,.bool Sx,.int .i64 Sz] ∧ LS AH b8 2 fun qu mH qw => LS AH b9 2 fun zl zm zn => Spec prog 161 #[.pointer q0,.agg #[.int .i64 Sf,.int .i64 Sg,.string Si,.slice Sj Sk Sl,.int .i64 Sm,.int .i64 Sn,.int .i64 Sp,.slice Ss Su Sv,.bool Sx,.int .i64 Sz],.slice qu mH qw,.slice zl zm zn] AH (AA R (fun z Ab => ∃ Kx Ky Kz LA LC LD LF LG S0,z = (.tuple #[.agg #[.int .i64 Kx,.int .u64 Ky,.slice Kz LA LC,.slice LD LF LG],.int .i64 S0]) ∧ R (.returned (.tuple #[.agg #[.int .i64 Kx,.int .u64 Ky,.slice Kz LA LC,.slice LD LF LG],.int .i64 S0])) Ab))))))))) (LI .i64 AF b8 0 fun qt => Br (qt = 1) (∃ O9 MR PA SC SD SE SF SG SH SI SJ SK SL SM,Aw AF b4 0 [.int .i64 O9,.int .i64 MR,.string PA,.slice SC SD SE,.int .i64 SF,.int .i64 SG,.int .i64 SH,.slice SI SJ SK,.bool SL,.int .i64 SM] ∧ LS AF b9 2 fun zg n45 zh => Spec prog 157 #[.pointer q0,.agg #[.int .i64 O9,.int .i64 MR,.string PA,.slice SC SD SE,.int .i64 SF,.int .i64 SG,.int .i64 SH,.slice SI SJ SK,.bool SL,.int .i64 SM],.slice zg n45 zh,(.func (.func 158) #[] #[(.pointer (aD b4 0)),(.pointer (aD b8 0))])] AF (AA R (fun z AH => ∃ KJ KK KL KM KN KO KQ KR SN,z = (.tuple #[.agg #[.int .i64 KJ,.int .u64 KK,.slice KL KM KN,.slice KO KQ KR],.int .i64 SN]) ∧ R (.returned (.tuple #[.agg #[.int .i64 KJ,.int .u64 KK,.slice KL KM KN,.slice KO KQ KR],.int .i64 SN])) AH))) (LI .i64 AF b9 0 fun sq => Br (sq = 1) (∃ SO SP SQ SR SS SU SX SY SZ Sa Sb Sc Sd Se,Aw AF b4 0 [.int .i64 SO,.int .i64 SP,.string SQ,.slice SR SS SU,.int .i64 SX,.int .i64 SY,.int .i64 SZ,.slice Sa Sb Sc,.bool Sd,.int .i64 Se] ∧ LS AF b8 2 fun sr n57 su => Spec prog 157 #[.pointer q0,.agg #[.int .i64 SO,.int .i64 SP,.string SQ,.slice SR SS SU,.int .i64 SX,.int .i64 SY,.int .i64 SZ,.slice Sa Sb Sc,.bool Sd,.int .i64 Se],.slice sr n57 su,(.func (.func 159) #[] #[(.pointer (aD b4 0)),(.pointer (aD b9 0))])] AF (AA R (fun z AH => ∃ KS KT KU KV KW KX KY KZ Hw,z = (.tuple #[.agg #[.int .i64 KS,.int .u64 KT,.slice KU KV KW,.slice KX KY KZ],.int .i64 Hw]) ∧ R (.returned (.tuple #[.agg #[.int .i64 KS,.int .u64 KT,.slice KU KV KW,.slice KX KY KZ],.int .i64 Hw])) AH))) (LI .i64 AF b4 1 fun lJ => Spec prog 128 #[.int .i64 lJ] AF (AA R (CB fun t65 AH => Bo t65 (∃ Ka Kb Kc Kd Ke Kf Kg Kh Ki Kj Kk Kl Km Kn,Aw AH b4 0 [.int .i64 Ka,.int .i64 Kb,.string Kc,.slice Kd Ke Kf,.int .i64 Kg,.int .i64 Kh,.int .i64 Ki,.slice Kj Kk Kl,.bool Km,.int .i64 Kn] ∧ LS AH b8 2 fun lK n69 ql => LS AH b9 2 fun zi zj zk => Spec prog 160 #[.pointer q0,.agg #[.int .i64 Ka,.int .i64 Kb,.string Kc,.slice Kd Ke Kf,.int .i64 Kg,.int .i64 Kh,.int .i64 Ki,.slice Kj Kk Kl,.bool Km,.int .i64 Kn],.slice lK n69 ql,.slice zi zj zk] AH (AA R (fun z Ab => ∃ Ko Kq Kr Ks Kt Ku Kv Kw J6,z = (.tuple #[.agg #[.int .i64 Ko,.int .u64 Kq,.slice Kr Ks Kt,.slice Ku Kv Kw],.int .i64 J6]) ∧ R (.returned (.tuple #[.agg #[.int .i64 Ko,.int .u64 Kq,.slice Kr Ks Kt,.slice Ku Kv Kw],.int .i64 J6])) Ab))) (∃ Sf Sg Si Sj Sk Sl Sm Sn Sp Ss Su Sv Sx Sz,Aw AH b4 0 [.int .i64 Sf,.int .i64 Sg,.string Si,.slice Sj Sk Sl,.int .i64 Sm,.int .i64 Sn,.int .i64 Sp,.slice Ss Su Sv,.bool Sx,.int .i64 Sz] ∧ LS AH b8 2 fun qu mH qw => LS AH b9 2 fun zl zm zn => Spec prog 161 #[.pointer q0,.agg #[.int .i64 Sf,.int .i64 Sg,.string Si,.slice Sj Sk Sl,.int .i64 Sm,.int .i64 Sn,.int .i64 Sp,.slice Ss Su Sv,.bool Sx,.int .i64 Sz],.slice qu mH qw,.slice zl zm zn] AH (AA R (fun z Ab => ∃ Kx Ky Kz LA LC LD LF LG S0,z = (.tuple #[.agg #[.int .i64 Kx,.int .u64 Ky,.slice Kz LA LC,.slice LD LF LG],.int .i64 S0]) ∧ R (.returned (.tuple #[.agg #[.int .i64 Kx,.int .u64 Ky,.slice Kz LA LC,.slice LD LF LG],.int .i64 S0])) Ab)))))))))))) : Spec prog 105 #[.pointer q0,.agg #[.int .i64 Dq,.int .i64 Cb,.string Dt,.slice Dx Dz D0,.int .i64 Dr,.int .i64 Dy,.int .i64 DF,.slice D5 D1 D6,.bool DG,.int .i64 Cd],.slice p2 n2 c2] σ R := M.start h ok
end DI
namespace G6
variable {s0 : ByteArray} {x3 : Int}
def M : Fw := ⟨prog,131,f131,[90],[],false,[],[],[(224,[(0,wT),(3,wI)])]⟩
theorem ok : M.Ok := ⟨.cons call90 (AG.nil),mixed,func131,by kernel_rfl⟩
def Dm := M.pt 0
theorem start (h : Dm R s0 0 σ) : Spec prog 131 #[.string s0] σ R := M.start h ok
theorem Ac (h : Br (x3 < ((ByteArray.size s0 : Nat) : Int)) (∃ u11 : UInt8,0 ≤ x3 ∧ (ByteArray.data s0)[Int.toNat x3]? = some u11 ∧ Spec prog 90 #[(.int .u8 ((UInt8.toNat u11 : Nat) : Int))] σ (AA R (CB fun t12 y => Bo t12 (AI (x3 + 1) ∧ Dm R s0 (x3 + 1) y) (R (.returned (.int .i64 x3)) y)))) (R (.returned (.int .i64 x3)) σ)) : Dm R s0 x3 σ := M.of h ok rfl
end G6
namespace DW
variable {q0 : Option Addr}
def M : Fw := ⟨prog,139,f139,[95],[],false,[],[],[]⟩
theorem ok : M.Ok := ⟨.cons call95 (AG.nil),mixed,func139,by kernel_rfl⟩
theorem start (h : Spec prog 95 #[.pointer q0,(.func (.func 171) #[.pointer q0] #[]),.int .i64 5,.int .i64 10] σ (AA R (fun z y => z = (.tuple #[]) ∧ R (.returned (.tuple #[])) y))) : Spec prog 139 #[.pointer q0] σ R := M.start h ok
end DW
namespace CN
variable {s0 : ByteArray} {x1 : Int}
def M : Fw := ⟨prog,169,f169,[],[],false,[],[],[]⟩
theorem ok : M.Ok := ⟨AG.nil,mixed,func169,by kernel_rfl⟩
theorem start (h : EN prog 209 #[.string s0,.int .u8 x1] σ (CI .i64 fun x7 y => R (.returned (.int .i64 x7)) y)) : Spec prog 169 #[.string s0,.int .u8 x1] σ R := M.start h ok
end CN
namespace BH
variable {q0 p3 : Option Addr} {n3 c3 : Nat}
def M : Fw := ⟨prog,170,f170,[135,136,210,211],[],false,[],[],[(480,[(0,wQ),(3,wL)]),(965,[(0,wQ),(3,wL)])]⟩
theorem ok : M.Ok := ⟨.cons call135 (.cons call136 (.cons call210 (.cons call211 (AG.nil)))),mixed,func170,by kernel_rfl⟩
def Bh := M.pt 0
def V8 := M.pt 1
theorem start (h : Spec prog 210 #[.pointer q0,(.string (ByteArray.mk #[40]))] σ (AA R (fun z y => z = (.tuple #[]) ∧ Bh R q0 none 0 0 y))) : Spec prog 170 #[.pointer q0] σ R := M.start h ok
theorem A0 (h : Spec prog 136 #[.pointer q0,.int .i64 5,(.string (ByteArray.mk #[41]))] σ (AA R (CB fun t7 y => Bn t7 (Br (0 < (n3 : Int)) (Spec prog 210 #[.pointer q0,(.string (ByteArray.mk #[44]))] y (AA R (fun z AF => z = (.tuple #[]) ∧ V8 R q0 p3 n3 c3 AF))) (V8 R q0 p3 n3 c3 y)) (Spec prog 135 #[.pointer q0] y (AA R (fun z AF => ∃ IS WE ALk ALl,z = (.agg #[.int .i64 IS,.int .i64 WE,.string ALk,.int .i64 ALl]) ∧ R (.returned (.slice p3 n3 c3)) AF)))))) : Bh R q0 p3 n3 c3 σ := M.of h ok rfl
theorem Q4 (h : Spec prog 211 #[.pointer q0] σ (AA R (CT fun s16 y => Al y fun b17 => AK prog (Builtin.append_ #[34,34] 34 #[.slice p3 n3 c3,(.slice (aD b17 0) 1 1)]) (Hp.set y b17 (.cells #[.string s16] 9 (0,0))) (CS fun p18 n18 c18 AF => Bh R q0 p18 n18 c18 AF)))) : V8 R q0 p3 n3 c3 σ := M.of h ok rfl
end BH
namespace DX
variable {p0 : Option Addr} {n0 c0 : Nat}
def M : Fw := ⟨prog,185,f185,[186],[],false,[],[],[]⟩
theorem ok : M.Ok := ⟨.cons call186 (AG.nil),mixed,func185,by kernel_rfl⟩
theorem start (h : AI ((n0 : Int) - 1) ∧ Pq p0 fun b7 o7 => In (((n0 : Int) - 1)) (n0 : Int) ∧ LI .u64 σ b7 (o7 + Int.toNat ((n0 : Int) - 1) * 1) fun x8 => Spec prog 186 #[.int .u64 x8] σ (AA R (CI .u64 fun x9 y => R (.returned (.int .u64 x9)) y))) : Spec prog 185 #[.slice p0 n0 c0] σ R := M.start h ok
end DX
namespace DY
variable {p0 p1 : Option Addr} {n0 c0 n1 c1 : Nat}
def M : Fw := ⟨prog,189,f189,[190],[],false,[],[],[]⟩
theorem ok : M.Ok := ⟨.cons call190 (AG.nil),mixed,func189,by kernel_rfl⟩
theorem start (h : AI ((n0 : Int) - 1) ∧ Pq p0 fun b9 o9 => In (((n0 : Int) - 1)) (n0 : Int) ∧ LI .u64 σ b9 (o9 + Int.toNat ((n0 : Int) - 1) * 1) fun x10 => In 0 (n0 : Int) ∧ LI .u64 σ b9 o9 fun FI => Spec prog 190 #[.int .u64 x10,.int .u64 FI] σ (AA R (CI .u64 fun QY y => R (.returned (.int .u64 QY)) y))) : Spec prog 189 #[.slice p0 n0 c0,.slice p1 n1 c1] σ R := M.start h ok
end DY
end TwW
end
end
section
set_option maxRecDepth 100000
noncomputable section
namespace TwW
open Go Tw Go.Proofs.Tryz
variable [E5] {R : Rr} {σ : Hp}

namespace fE
variable {FA Eg QW Nk H4 Je : Int} {QX : ByteArray} {U1 R0 p1 : Option Addr} {UN U2 Q3 R3 n1 c1 : Nat} {Mz : Bool}
def M : Fw := ⟨prog,207,f207,[146,149,150],[2],false,[],[],[]⟩
theorem ok : M.Ok := ⟨.cons call146 (.cons call149 (.cons call150 (AG.nil))),mixed,func207,by kernel_rfl⟩
theorem start (h : ∀ b2 : Nat,Br (H4 = 3) (Spec prog 149 #[.slice p1 n1 c1,.slice R0 Q3 R3] σ (AA R (CS fun IN n11 IP y => R (.returned (.slice IN n11 IP)) y))) (Spec prog 150 #[.slice p1 n1 c1,.slice R0 Q3 R3] σ (AA R (CS fun aL n15 V6 y => Spec prog 146 #[.slice aL n15 V6] y (AA R (CS fun bd n16 XE AF => R (.returned (.slice bd n16 XE)) AF)))))) : Spec prog 207 #[.agg #[.int .i64 FA,.int .i64 Eg,.string QX,.slice U1 UN U2,.int .i64 QW,.int .i64 Nk,.int .i64 H4,.slice R0 Q3 R3,.bool Mz,.int .i64 Je],.slice p1 n1 c1] σ R := M.start h ok
end fE
namespace Em
variable {q0 : Option Addr}
def M : Fw := ⟨prog,211,f211,[66,67,126,135],[],false,[],[],[(14,[(0,wQ)])]⟩
theorem ok : M.Ok := ⟨.cons call66 (.cons call67 (.cons call126 (.cons call135 (AG.nil)))),mixed,func211,by kernel_rfl⟩
def Dm := M.pt 0
theorem start (h : Spec prog 66 #[.pointer q0] σ (AA R (fun z y => ∃ GF Fm He x4d,z = (.agg #[.int .i64 GF,.int .i64 Fm,.string He,.int .i64 x4d]) ∧ Br (GF ≠ 3) (Spec prog 67 #[.pointer q0] y (AA R (fun z AF => z = (.tuple #[]) ∧ Dm R q0 AF))) (Spec prog 66 #[.pointer q0] y (AA R (fun z AF => ∃ x9a x9b s9c x9d,z = (.agg #[.int .i64 x9a,.int .i64 x9b,.string s9c,.int .i64 x9d]) ∧ Spec prog 126 #[.string s9c] AF (AA R (CB fun t11 AH => Bn t11 (Spec prog 67 #[.pointer q0] AH (AA R (fun z Ab => z = (.tuple #[]) ∧ Dm R q0 Ab))) (Dm R q0 AH))))))))) : Spec prog 211 #[.pointer q0] σ R := M.start h ok
theorem Ac (h : Spec prog 135 #[.pointer q0] σ (AA R (fun z y => ∃ Rt X8 lI ALm,z = (.agg #[.int .i64 Rt,.int .i64 X8,.string lI,.int .i64 ALm]) ∧ R (.returned (.string lI)) y))) : Dm R q0 σ := M.of h ok rfl
end Em
namespace strings_Split
variable {s0 s1 : ByteArray}
end strings_Split
namespace Fg
variable {p0 Dx D5 p2 : Option Addr} {n0 c0 Dz D0 D1 D6 n2 c2 b3 : Nat} {Dq Cb Dr Dy DF Cd : Int} {Dt : ByteArray} {DG : Bool}
def M : Fw := ⟨prog,224,f224,[],[5],false,[],[],[]⟩
theorem ok : M.Ok := ⟨AG.nil,mixed,func224,by kernel_rfl⟩
theorem start (h : ∀ b5 : Nat,∃ v9,Hp.ld σ ⟨b3,0,none⟩ = some v9 ∧ ∃ (f11 : Nat) (Ya Yb : Array Value),v9 = .func (.func f11) Ya Yb ∧ Enters prog f11 ∧ Spec prog f11 (Ya ++ #[.slice p0 n0 c0] ++ Yb) σ (AA R (CI .u64 fun x11 y => R (.returned (.tuple #[.int .u64 x11,.bool true])) y))) : Spec prog 224 #[.slice p0 n0 c0,.agg #[.int .i64 Dq,.int .i64 Cb,.string Dt,.slice Dx Dz D0,.int .i64 Dr,.int .i64 Dy,.int .i64 DF,.slice D5 D1 D6,.bool DG,.int .i64 Cd],.slice p2 n2 c2,(.pointer (aD b3 0))] σ R := M.start h ok
end Fg
namespace En
variable {q0 : Option Addr} {v1 : Value}
def M : Fw := ⟨prog,251,f251,[66,97,135],[],false,[],[],[(6,[(0,wQ),(1,wV)])]⟩
theorem ok : M.Ok := ⟨.cons call66 (.cons call97 (.cons call135 (AG.nil))),mixed,func251,by kernel_rfl⟩
def qm := M.pt 0
theorem start (h : Pq q0 fun b5 o5 => LI .i64 σ b5 (o5 + 1) fun x7 => Br (x7 = 64) (Spec prog 66 #[(.pointer (aD b5 o5))] σ (AA R (fun z y => ∃ iE Qc iF sv,z = (.agg #[.int .i64 iE,.int .i64 Qc,.string iF,.int .i64 sv]) ∧ Spec prog 97 #[(.pointer (aD b5 o5)),.int .i64 182,.agg #[.int .i64 iE,.int .i64 Qc,.string iF,.int .i64 sv]] y (AA R (fun z AF => z = (.tuple #[]) ∧ qm R (aD b5 o5) v1 AF))))) (qm R (aD b5 o5) v1 σ)) : Spec prog 251 #[.pointer q0,v1] σ R := M.EF h ok [(0,.o (.Q q0)),(1,.o (.V v1))] rfl rfl (by kernel_rfl)
theorem R5 (h : Pq q0 fun BO Nc => LI .i64 σ BO (Nc + 1) fun x16 => AI (x16 + 1) ∧ AK prog (Instr.storeAt 3 (.pointer (aD BO (Nc + 1))) (.int .i64 (x16 + 1))) σ (fun _ y => Spec prog 135 #[(.pointer (aD BO Nc))] y (AA R (fun z AF => ∃ ALn ALo ALp ALq,z = (.agg #[.int .i64 ALn,.int .i64 ALo,.string ALp,.int .i64 ALq]) ∧ ∃ (f23 : Nat) (wE wF : Array Value),v1 = .func (.func f23) wE wF ∧ Enters prog f23 ∧ Spec prog f23 (wE ++ #[] ++ wF) AF (AA R (fun z AH => z = (.tuple #[]) ∧ LI .i64 AH BO (Nc + 1) fun Jj => AI (Jj - 1) ∧ AK prog (Instr.storeAt 3 (.pointer (aD BO (Nc + 1))) (.int .i64 (Jj - 1))) AH (fun _ Ab => R (.returned (.tuple #[])) Ab))))))) : qm R q0 v1 σ := M.of h ok rfl
end En
namespace Eo
variable {x0 : Int}
def M : Fw := ⟨prog,302,f302,[],[],false,[],[],[]⟩
theorem ok : M.Ok := ⟨AG.nil,mixed,func302,by kernel_rfl⟩
theorem start (h : Df (Go.bits .or .u8 x0 32) fun x4 => R (.returned (.int .u8 x4)) σ) : Spec prog 302 #[.int .u8 x0] σ R := M.start h ok
end Eo
namespace CO
variable {s0 s1 : ByteArray}
def M : Fw := ⟨prog,315,f315,[],[],false,[],[],[]⟩
theorem ok : M.Ok := ⟨AG.nil,mixed,func315,by kernel_rfl⟩
theorem start (h : Br ((((ByteArray.size s1 : Nat) : Int) : Int) ≤ ((ByteArray.size s0 : Nat) : Int)) (∃ s14,YF prog (Instr.sliceAt 9 (.string s0) none (some (.int .i64 ((ByteArray.size s1 : Nat) : Int))) none) σ (.string s14) ∧ R (.returned (.bool (ByteArray.toList s14 == ByteArray.toList s1))) σ) (R (.returned (.bool false)) σ)) : Spec prog 315 #[.string s0,.string s1] σ R := M.start h ok
end CO
end TwW
end
end
