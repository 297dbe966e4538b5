/-
  Part 2 of the proof that the law EvalMomentsUptoCardSaid of the given program answers true for every input of the given statement; the input reads behind the call as it did. (The texts: packed from 7 texts. Names are shortened by the packing program, for the bound on size.)
-/
import Derived.Test.YthdjajblkfphiaaGreatDoorA1
set_option linter.all false
section
namespace Tw
open Go
variable [Ei]
def mT (P:Program):Op→Bool
 | .call c=>match c.callee with
  | .builtin .len=>false
  | .builtin .cap=>false
  | .builtin .min=>match c.argTypes.toList with
   | T::_=>AAL P T
   | []=>false
  | .builtin .max=>match c.argTypes.toList with
   | T::_=>AAL P T
   | []=>false
  | .builtin .real=>false
  | .builtin .imag=>false
  | .builtin .complex=>false
  | _=>true
 | .convert T T' _=>match P.underlying T,P.underlying T' with
  | some (.int _),some (.int _)=>false
  | _,_=>true
 | .box ..=>true
 | .alloc ..=>true
 | .store ..=>true
 | .buildSlice ..=>true
 | .makeSlice ..=>true
 | .mapUpdate ..=>true
 | .makeMap ..=>true
 | .insert ..=>true
 | .range ..=>true
 | .next ..=>true
 | .lookup ..=>true
 | .entryStore ..=>true
 | .mapEntry ..=>true
 | .makeChan ..=>true
 | .typeAssert ..=>true
 | .binOp b T _ _ _=>flB b&&AAL P T
 | _=>false
def jK (s:S):Option Operand→Option (Option Value)
 | none=>some none
 | some x=>match s.op x with
  | some v=>some (some (v.den s.vl))
  | none=>none
def tq (P:Program)(b:BinOp)(T:TypeId)(x y:Option SV):Bool:=match Xb x,Xb y with
 | some _,some _=>true
 | _,_=>match P.underlying T with
  | some .string=>match b with
   | .eql=>true
   | .neq=>true
   | .add=>true
   | _=>false
  | some (.pointer _)=>true
  | some .bool=>true
  | _=>false
def AMb:Option SV→Bool
 | some (.v (.a (.sl _ _ _)))=>true
 | _=>false
def anyM (P:Program)(op:Op)(ty:TypeId)(s:S):Option (Sem Value):=match op with
 | .slice T x lo hi mx=>match AMb (s.op x)&&mx.isNone with
  | true=>none
  | false=>match s.op x,jK s lo,jK s hi,jK s mx with
   | some w,some l,some h,some m=>some (Instr.sliceAt T (w.den s.vl) l h m)
   | _,_,_,_=>none
 | .unOp u _ x=>match u,s.op x with
  | .not,_=>none
  | .neg,v=>match Xb v,v with
   | some _,_=>none
   | none,some v=>some (Op.unary .neg (v.den s.vl))
   | none,none=>none
  | u,some v=>some (Op.unary u (v.den s.vl))
  | _,none=>none
 | .binOp b T x y _=>match tq P b T (s.op x) (s.op y) with
  | true=>none
  | false=>match s.op x,s.op y with
   | some u,some v=>some (do eqGuard b T x y (u.den s.vl) (v.den s.vl);binOp b T (u.den s.vl) (v.den s.vl))
   | _,_=>none
 | .call c=>match c.callee,c.args.toList,c.argTypes.toList with
  | .builtin .len,[x],[T]=>match s.op x with
   | some (.v (.a (.mp m)))=>some (Builtin.len_ #[T] ty #[.map m])
   | _=>none
  | .builtin .real,[x],_=>match s.op x with
   | some v=>some (Builtin.real_ c.argTypes ty #[v.den s.vl])
   | none=>none
  | .builtin .imag,[x],_=>match s.op x with
   | some v=>some (Builtin.imag_ c.argTypes ty #[v.den s.vl])
   | none=>none
  | .builtin .complex,[x,y],_=>match s.op x,s.op y with
   | some u,some v=>some (Builtin.complex_ c.argTypes ty #[u.den s.vl,v.den s.vl])
   | _,_=>none
  | _,_,_=>none
 | _=>none
theorem PO {s:S}{J:Env}{x:Option Operand}{v:Option Value}(h:jK s x=some v):x.map (AB (s.e J))=v:=by
 cases x with
 | none=>simp only[jK,AWp]at h;subst h;rfl
 | some x=>
  simp only[jK]at h;split at h
  ·rename_i u hu;cases h;simp only[AXT];rw[ev hu]
  ·cases h
theorem jL {P:Program}{op:Op}{ty:TypeId}{s:S}{m:Sem Value}(h:anyM P op ty s=some m)(J:Env):∀o:Oper,o.op=op→o.type=ty→execOp (AB (s.e J)) o=(do pure (Next.value (←m))):=fun o ho ht=>by
 unfold anyM at h;split at h
 ·rename_i T x lo hi mx;split at h
  ·cases h
  ·split at h
   ·rename_i w l hh mm h1 h2 h3 h4;cases h;simp only[execOp,ho,PO h2,PO h3,PO h4,ev h1]
   ·cases h
 ·rename_i u T x;split at h
  ·cases h
  ·split at h
   ·cases h
   ·rename_i hv;cases h;simp only[execOp,ho,ev hv]
   ·cases h
  ·rename_i hv;cases h;simp only[execOp,ho,ev hv]
  ·cases h
 ·rename_i b T x y T';split at h
  ·cases h
  ·split at h
   ·rename_i u v hu hv;cases h;simp only[execOp,ho,ev hu,ev hv]
   ·cases h
 ·rename_i c;obtain⟨ce,AWi,ts⟩:=c;split at h
  ·rename_i x T h1 h2 h3;simp only at h1 h2 h3;have e1:AWi=#[x]:=by rw[←AW5];simpa using h2
   have e2:ts=#[T]:=by rw[←AW5];simpa using h3
   subst h1 e1 e2;split at h
   ·rename_i mm hx;cases h;exact bz (by rw[ev hx];rfl) o ho ht
   ·cases h
  ·rename_i x h1 h2;simp only at h1 h2 h;have e1:AWi=#[x]:=by rw[←AW5];simpa using h2
   subst h1 e1;split at h
   ·rename_i v hv;cases h;exact QG (ev hv) o ho ht
   ·cases h
  ·rename_i x h1 h2;simp only at h1 h2 h;have e1:AWi=#[x]:=by rw[←AW5];simpa using h2
   subst h1 e1;split at h
   ·rename_i v hv;cases h;exact QH (ev hv) o ho ht
   ·cases h
  ·rename_i x y h1 h2;simp only at h1 h2 h;have e1:AWi=#[x,y]:=by rw[←AW5];simpa using h2
   subst h1 e1;split at h
   ·rename_i u v hu hv;cases h;exact JU (ev hu) (ev hv) o ho ht
   ·cases h
  ·cases h
 ·cases h
def AAM (P:Program)(ty:TypeId)(m:Sem Value)(s:S)(K:SV→S→Prop):Prop:=s.ex P ty fun v s=>YF P m s.σ (v.den s.vl)∧K v s
theorem Rq {P:Program}{op:Op}{ty:TypeId}{s:S}{m:Sem Value}{K:SV→S→Prop}(hm:anyM P op ty s=some m)(h:AAM P ty m s K):∃v s',s.Hj s'∧(∀J,Yd P (s.e J) s.b s.σ op ty (v.den s'.vl))∧K v s':=by
 obtain⟨v,s',h1,hy,hk⟩:=S.Ro h;rw[h1.σ]at hy;exact⟨v,s',h1,fun J=>Yd.any (jL hm J) hy,hk⟩
def Rt (ops:Array Oper)(gd:Option (Nat×Bool))(s:S)(K:Bool→S→Prop):Prop:=match gd with
 | none=>K true s
 | some (j,want)=>match (ops[j]?).bind (·.dst) with
  | none=>False
  | some d=>match WU s.env d with
   | some (.v (.a .un))=>K false s
   | v=>s.th v fun t s=>K (t==want) s
theorem IS {ops:Array Oper}{gd:Option (Nat×Bool)}{s:S}{K:Bool→S→Prop}(h:Rt ops gd s K):∃b s',s.Hj s'∧(∀J,AP ops (s.e J) gd=b)∧K b s':=by
 unfold Rt at h;split at h
 ·exact⟨true,s,.refl s,fun _=>rfl,h⟩
 ·rename_i j want;split at h
  ·cases h
  ·rename_i d hd;split at h
   ·rename_i hv;refine⟨false,s,.refl s,fun J=>?_,h⟩;have:s.e J d=undef:=D4 hv;simp only[AP,hd,this];rfl
   ·obtain⟨t,s',x,h1,h2,h3,h4,h⟩:=S.E3 h;refine⟨_,s',h1,fun J=>?_,h⟩;have:s.e J d=.bool t:=(D4 h3).trans h4;simp only[AP,hd,this];cases t<;>cases want<;>rfl
def fi (J:Env)(K:S→Prop):Env→Bx→Hp→Prop:=fun e bx σ=>∃s,e=s.e J∧bx=s.b∧σ=s.σ∧K s
structure Cx extends cd where
 n:Nat
 MX:List (Nat×TypeId):=[]
structure Cx.Ok (c:Cx)(g:Gl):Prop where
 P:c.P=g.P
 R:c.R=g.R
 E:AG g.P c.M9
 n:c.n=g.n
 GK:g.GK=none
 ds:g.ds=[]
def kp0:KP:=fun _ _ F=>F
def jM (l:List E1)(i:Nat)(o:Nat)(xs:List Bg):List E1:=match l with
 | []=>[]
 | (j,t,cs)::l=>bif Nat.beq j i then(j,t,cV cs o xs)::l else(j,t,cs)::jM l i o xs
def Ru {α:Type}:List α→Nat
 | []=>0
 | _::l=>Ru l+1
theorem RD {α:Type}:∀l:List α,Ru l=l.length
 | []=>rfl
 | _::l=>by simp only[Ru,AWw];rw[RD l]
def PQ:List Bg→List Value
 | []=>[]
 | .raw v::l=>v::PQ l
 | .un::l=>undef::PQ l
 | _::l=>PQ l
def AAN (F:Prop):List Value→Prop
 | []=>F
 | [v]=>(Value.oneCell' v=true)∧F
 | l=>AAO l∧F
where
 AAO:List Value→Prop
  | []=>True
  | [v]=>Value.oneCell' v=true
  | v::l=>Value.oneCell' v=true∧AAO l
def SV.cp:SV→Option (List Bg)
 | .v (.a x)=>some [x]
 | .v (.agg l)=>some l
 | .VH _=>none
def mapOf (P:Program)(l:List (Nat×TypeId))(x:Operand):Option (TypeId×TypeId):=match x with
 | .tmp t=>match l.find? fun p=>Nat.beq p.1 t with
  | some p=>match P.underlying p.2 with
   | some (.map k v)=>some (k,v)
   | _=>none
  | none=>none
 | _=>none
def mU (c:Cx)(dst:Option Nat)(x:Operand)(ty:TypeId)(s:S)(K:S→Prop):Prop:=match dst,s.op x,mapOf c.P c.MX x with
 | some d,some u,some (tk,tv)=>AH c.P (Instr.next (u.den s.vl) false ty) s.σ (fun v σ1=>(v=(.tuple #[(.bool false)])∧K ((s.hp σ1).put (some d) (.VH [.a (.bl false)]))) ∨
  (match s.ok with
   | true=>sg c.P tk s.vl fun a vl=>sg c.P tv vl fun b vl=>v=(SV.VH [.a (.bl true),a,b]).den vl∧K (((s.hp σ1).w vl).put (some d) (.VH [.a (.bl true),a,b]))
   | false=>False))
 | _,_,_=>False
def AAP (c:Cx)(T:TypeId)(i o:Nat)(v:SV)(s:S)(K:S→Prop):Prop:=match v.cp,Xv c.P T with
 | some l,some n=>match X7 s.bx i with
  | some (t,cs)=>match Nat.beq (Ru l) n&&Nat.ble (o+Ru l) (Ru cs) with
   | true=>AAN (K ⟨s.env,jM s.bx i o l,s.vl,s.σ⟩) (PQ l)
   | false=>False
  | none=>False
 | _,_=>False
def mV (c:Cx)(ops:Array Oper)(i:Nat)(s:S)(K:S→Prop):Prop:=match ops[i]? with
 | none=>False
 | some o=>match Fc o.dst c.n with
  | false=>False
  | true=>Rt ops o.guard s fun b s=>match b with
   | false=>K (s.put o.dst (.at .un))
   | true=>match o.op with
    | .load T x=>ldV c.P T x s fun _ v s=>K (s.put o.dst v)
    | .mapUpdate T m k v=>match o.dst,s.op m,s.op k,s.op v with
     | none,some m,some k,some v=>AH c.P (Instr.mapUpdate T (m.den s.vl) (k.den s.vl) (v.den s.vl)) s.σ (fun _ σ1=>K (s.hp σ1))
     | _,_,_,_=>False
    | .insert T m k v=>match o.dst,s.op m,s.op k,s.op v with
     | none,some m,some k,some v=>AH c.P (Instr.mapUpdate T (m.den s.vl) (k.den s.vl) (v.den s.vl)) s.σ (fun _ σ1=>K (s.hp σ1))
     | _,_,_,_=>False
    | .next x false=>mU c o.dst x o.type s K
    | .entry x=>match s.op x,mapOf c.P c.MX x with
     | some u,some (tk,tv)=>AH c.P (Instr.entry (u.den s.vl)) s.σ (fun v σ1=>Ff (mP c.P tk tv) o.dst (s.hp σ1) s.σ v kp0 K)
     | _,_=>False
    | .panic x=>match s.op x with
     | some (.v (.a (.raw (.iface T u))))=>c.R (.panicked [{ v:=.iface T u,recovered:=false }]) s.σ
     | _=>False
    | .store T x y=>match o.dst,mH (s.op x),s.op y with
     | none,some (.bx i b),some v=>AAP c T i b v s K
     | _,_,_=>jI c.tocd o.dst (.store T x y) o.type s kp0 K
    | op=>match mT c.P op,anyM c.P op o.type s with
     | true,_=>jI c.tocd o.dst op o.type s kp0 K
     | false,some m=>AAM c.P o.type m s fun v s=>K (s.put o.dst v)
     | false,none=>yv c.P c.wr op s fun v s=>K (s.put o.dst v)
def tr (c:Cx)(ops:Array Oper):List Nat→S→(S→Prop)→Prop
 | [],s,K=>K s
 | i::is,s,K=>mV c ops i s fun s=>tr c ops is s K
section
variable {g:Gl}{ops:Array Oper}{i:Nat}{J:Env}{s:S}{K:S→Prop}{c:Cx}
theorem fj {s s':S}{K:Env→Bx→Hp→Prop}(h:s.Hj s')(hk:AI g ops i (s'.e J) s'.b s'.σ K):AI g ops i (s.e J) s.b s.σ K:=by
 rw[←h.e J,←h.b,←h.σ];exact hk
theorem AEj {s:S}{o:Oper}{K:SV→S→Prop}{K':Env→Bx→Hp→Prop}(ho:ops[i]?=some o)(hw:AP ops (s.e J) o.guard=true)(hd:Fc o.dst g.n=true)(h:YP g.P o.op o.type s K)(hk:∀v s',s.Hj s'→K v s'→K' ((s'.put o.dst v).e J) s'.b s'.σ):
  AI g ops i (s.e J) s.b s.σ K':=by
 obtain⟨v,s',h1,h2,h3⟩:=h;have:=hk v s' h1 h3;rw[S.Hg,h1.e J,h1.b,h1.σ]at this;exact AI.y (Cr ho) hw hd (h2 J _) this
theorem Yd.up {P:Program}{e:Env}{bx:Bx}{σ:Hp}{b:Nat}{op:Op}{ty:TypeId}{v:Value}(h:Yd P e bx (fun x=>if x=b then σ x else none) op ty v):Yd P e bx σ op ty v:=fun o ho ht w hs hb=>h o ho ht w (fun k u hk=>by
 simp only at hk;split at hk
 ·exact hs k u hk
 ·cases hk) hb
theorem AI.mono {e:Env}{bx:Bx}{σ:Hp}{K K':Env→Bx→Hp→Prop}(h:AI g ops i e bx σ K)(hk:∀e bx σ,K e bx σ→K' e bx σ):AI g ops i e bx σ K':=fun w0 F a w st=>wpOpIn_mono (fun a' w' ⟨e',b',σ',Ko,h'⟩=>⟨e',b',σ',Ko,hk _ _ _ h'⟩) (h w0 F a w st)
theorem AEk {dst:Option Nat}{op:Op}{ty:TypeId}{gd:Option (Nat×Bool)}(hc:c.Ok g)(hs:sig ops i=some (dst,op,ty,gd))(hw:AP ops (s.e J) gd=true)(hd:Fc dst g.n=true)(h:jI c.tocd dst op ty s kp0 K):AI g ops i (s.e J) s.b s.σ (fi J K):=by
 have:=Rp (c:=c.tocd) (kq:=fun _ _=>True) (J:=J) hc.P hc.R hc.E (fun _ _ F h=>⟨h,trivial⟩) (fun _ _ _=>trivial) hs hw hd h;intro w0 F a w st;refine wpOpIn_mono ?_ (this w0 F a w st)
 rintro a' w' ⟨e',Fq,σ',Ko,s',rfl,rfl,rfl,_,_,hk⟩
 exact⟨_,_,_,Ko,s',rfl,rfl,rfl,hk⟩
theorem YC {dst:Option Nat}{x:Operand}{ty:TypeId}{gd:Option (Nat×Bool)}(hc:c.Ok g)(hs:sig ops i=some (dst,.next x false,ty,gd))(hw:AP ops (s.e J) gd=true)(hd:Fc dst g.n=true)(h:mU c dst x ty s K):AI g ops i (s.e J) s.b s.σ (fi J K):=by
 unfold mU at h;split at h
 ·rename_i d u tk tv hu hm;rw[hc.P]at h;refine AI.QA hs hw hd (Instr.next (u.den s.vl) false ty) (fun o ho ht=>by simp only[execOp,ho,ht];rw[ev hu]) (h.mono fun v σ1 hr=>?_);rcases hr with ⟨rfl,hk⟩|hr
  ·exact⟨_,(S.Hg (s:=s.hp σ1) (x:=.VH [.a (.bl false)])).symm,(S.Hh (s:=s.hp σ1) (x:=.VH [.a (.bl false)])).symm,(S.E2 (s:=s.hp σ1) (x:=.VH [.a (.bl false)])).symm,hk⟩
  ·split at hr
   ·rename_i CH;obtain⟨a,w1,h1,hr⟩:=D5 hr;obtain⟨b,w2,h2,hr⟩:=D5 hr;obtain⟨hv,hk⟩:=hr;have QE:=S.Rh (s:=s.hp σ1) CH (h1.trans h2).le;refine⟨_,?_,?_,?_,hk⟩
    ·rw[S.Hg,QE.e J,hv];rfl
    ·rw[S.Hh,QE.b];rfl
    ·rw[S.E2];rfl
   ·cases hr
 ·cases h
theorem YD {vl:Vl}{i o:Nat}{l:List Bg}:∀{bx:List E1} {t:TypeId} {cs:List Bg},X7 bx i=some (t,cs)→∃j,(EL vl bx)[j]?=some (nth 0 vl.δ i,.cells (A6 vl cs).toArray t (0,0))∧EL vl (jM bx i o l)=(EL vl bx).set j (nth 0 vl.δ i,.cells (A6 vl (cV cs o l)).toArray t (0,0))
 | (k,u,ds)::r,t,cs,h=>by
  simp only[X7]at h;cases hk:Nat.beq k i with
  | true=>
   rw[hk]at h;simp only[AYu,AWp,AYG]at h;obtain⟨rfl,rfl⟩:=h;have:=AXY hk;subst this;exact⟨0,rfl,by simp only[jM,hk,AYu,EL,List.set_cons_zero]⟩
  | false=>
   rw[hk]at h;simp only[AYw]at h;obtain⟨j,h1,h2⟩:=YD (vl:=vl) (o:=o) (l:=l) h;exact⟨j+1,by simpa only[EL,AXU] using h1,by simp only[jM,hk,AYw,EL,AYv,h2]⟩
theorem cq {F:Prop}{l:List Value}(h:AAN F l):F∧∀v∈l,Value.oneCell' v=true:=by
 have cj:∀{l:List Value},AAN.AAO l→∀v∈l,Value.oneCell' v=true:=fun {l}=>by
  induction l with
  | nil=>intro _ v hv;cases hv
  | cons a l ih=>
   intro h v hv;cases l with
   | nil=>simp at hv;subst hv;exact h
   | cons b l=>
    rcases AWo.1 hv with rfl|hv
    ·exact h.1
    ·exact ih h.2 v hv
 match l,h with
 | [],h=>exact⟨h,fun v hv=>by cases hv⟩
 | [v],h=>exact⟨h.2,fun u hu=>by simp at hu;subst hu;exact h.1⟩
 | a::b::l,h=>exact⟨h.2,cj h.1⟩
theorem Rv {vl:Vl}:∀{l:List Bg},(∀v∈PQ l,Value.oneCell' v=true)→∀u∈A6 vl l,Value.oneCell' u=true
 | [],_,u,hu=>by cases hu
 | x::l,h,u,hu=>by
  have tl:∀v∈PQ l,Value.oneCell' v=true:=fun v hv=>h v (by cases x<;>first|exact hv|exact AWq _ hv);rcases AWo.1 hu with rfl|hu
  ·cases x<;>try rfl
   case bs i n=>cases n<;>rfl
   case raw v=>exact h v (AW1 ..)
   case un=>exact h undef (AW1 ..)
  ·exact Rv tl u hu
theorem ct {vl:Vl}{v:SV}{l:List Bg}(h:v.cp=some l)(ho:∀u∈A6 vl l,Value.oneCell' u=true):(v.den vl).cells=(A6 vl l).toArray:=by
 unfold SV.cp at h;split at h
 ·rename_i x;cases h;have:=ho (x.den vl) (AW1 ..);simp only[SV.den,F5.den,A6];cases hx:x.den vl<;>first|rfl|(rw[hx]at this;cases this)
 ·cases h;rfl
 ·cases h
theorem cu {T ty:TypeId}{x y:Operand}{gd:Option (Nat×Bool)}{k b:Nat}{v:SV}(hc:c.Ok g)(hs:sig ops i=some (none,.store T x y,ty,gd))(hw:AP ops (s.e J) gd=true)(hx:mH (s.op x)=some (.bx k b))(hy:s.op y=some v)(h:AAP c T k b v s K):AI g ops i (s.e J) s.b s.σ (fi J K):=by
 unfold AAP at h;split at h
 ·rename_i l n hl hz;split at h
  ·rename_i t cs hg;split at h
   ·rename_i hd;simp only[AWv,RD]at hd;obtain⟨hk,ho⟩:=cq h;have cw:=Rv (vl:=s.vl) ho;have cz:=ct (vl:=s.vl) hl cw;obtain⟨u,e1,e2⟩:=EO hx;obtain⟨j,h1,h2⟩:=YD (vl:=s.vl) (o:=b) (l:=l) hg;rw[hc.P]at hz;refine AI.zc (b:=nth 0 s.vl.δ k) (o:=b) (c:=(A6 s.vl cs).toArray) (c':=(A6 s.vl (cV cs b l)).toArray) (t:=t) (j:=j) hs hw (CX hz) (by rw[ev e1,e2];rfl) (ev hy) h1 ?_ ?_ ?_ ?_ ?_
    ·rw[cz];simp[C4];exact AXY hd.1
    ·have:=AXY hd.1;have h3:=AXZ hd.2;exact Nat.ble_eq_true_of_le (by simp[C4];omega)
    ·rw[cz];exact AXj.2 fun u hu=>cw u (by simpa using hu)
    ·rw[cz,Rl]
    ·exact⟨⟨s.env,jM s.bx k b l,s.vl,s.σ⟩,rfl,h2.symm,rfl,hk⟩
   ·cases h
  ·cases h
 ·cases h
theorem YE (hc:c.Ok g)(h:mV c ops i s K):AI g ops i (s.e J) s.b s.σ (fi J K):=by
 unfold mV at h;split at h
 ·cases h
 ·rename_i o ho;split at h
  ·cases h
  ·rename_i hd;rw[hc.n]at hd;obtain⟨b,s1,h1,hw,h⟩:=IS h;have hw:=hw J;rw[←h1.e J]at hw;refine fj h1 ?_;cases b with
   | false=>exact AI.no (Cr ho) hw hd ⟨_,(S.Hg (x:=.at .un)).symm,S.Hh.symm,S.E2.symm,h⟩
   | true=>
    simp only at h;split at h
    ·rename_i T x Kq;obtain⟨m,v,s2,h2,hk,hy⟩:=VU (ty:=o.type) h;have hs:=Cr ho;rw[Kq]at hs;refine AI.y (v:=v.den s2.vl) hs hw hd ?_ ⟨s2.put o.dst v,by rw[S.Hg,h2.e J],by rw[S.Hh,h2.b],by rw[S.E2,h2.σ],hk⟩;have hy:=hy J;rw[hc.P]at hy;cases m with
     | none=>exact hy _
     | some b=>exact Yd.up hy
    ·rename_i T m k v Kq;split at h
     ·rename_i um uk uv JP hm hk hv;have hs:=Cr ho;rw[Kq,JP]at hs;rw[hc.P]at h;exact AI.tS hs hw rfl _ (fun o ho ht=>by simp only[execOp,ho];rw[ev hm,ev hk,ev hv]) (h.mono fun _ σ1 hr=>⟨s1.hp σ1,rfl,rfl,rfl,hr⟩)
     ·cases h
    ·rename_i T m k v Kq;split at h
     ·rename_i um uk uv JP hm hk hv;have hs:=Cr ho;rw[Kq,JP]at hs;rw[hc.P]at h;exact AI.tS hs hw rfl _ (fun o ho ht=>by simp only[execOp,ho];rw[ev hm,ev hk,ev hv]) (h.mono fun _ σ1 hr=>⟨s1.hp σ1,rfl,rfl,rfl,hr⟩)
     ·cases h
    ·have Kq:=‹o.op=Op.next _ false›
     have hs:=Cr ho;rw[Kq]at hs;exact YC hc hs hw hd h
    ·have Kq:=‹o.op=Op.entry _›;have hs:=Cr ho;rw[Kq]at hs;split at h
     ·rename_i u tk tv hu hm;rw[hc.P]at h;have:=AI.QA (K:=St' J s1 (fun _ _=>True) K) hs hw hd (Instr.entry (u.den s1.vl)) (fun o ho ht=>by simp only[execOp,ho];rw[ev hu]) (h.mono fun v σ1 hr=>Ab (kq:=fun _ _=>True) jH (fun _ _ F h=>⟨h,trivial⟩) hr J);exact this.mono fun e bx σ ⟨s',e1,e2,e3,_,_,hk⟩=>⟨s',e1,e2,e3,hk⟩
     ·cases h
    ·have Kq:=‹o.op=Op.panic _›;split at h
     ·rename_i T u hx;have hs:=Cr ho;rw[Kq]at hs;rw[hc.R]at h;exact AI.panic hs hw (by rw[ev hx];rfl) hc.GK hc.ds h
     ·cases h
    ·have Kq:=‹o.op=Op.store _ _ _›;have hs:=Cr ho;rw[Kq]at hs;split at h
     ·rename_i i' b v JP hx hy;rw[JP]at hs;exact cu hc hs hw hx hy h
     ·exact AEk hc hs hw hd h
    ·split at h
     ·exact AEk hc (Cr ho) hw hd h
     ·rename_i m _ hm;rw[hc.P]at h hm;obtain⟨v,s2,h2,hy,hk⟩:=Rq hm h;exact AI.y (v:=v.den s2.vl) (Cr ho) hw hd (hy J) ⟨s2.put o.dst v,by rw[S.Hg,h2.e J],by rw[S.Hh,h2.b],by rw[S.E2,h2.σ],hk⟩
     ·rw[hc.P]at h;exact AEj ho hw hd (X8 h) fun v s' YG hk=>⟨s'.put o.dst v,rfl,S.Hh.symm,S.E2.symm,hk⟩
theorem MY (hc:c.Ok g):∀{is:List Nat} {s:S},tr c ops is s K→Seq g ops is (s.e J) s.b s.σ (fi J K)
 | [],s,h=>⟨s,rfl,rfl,rfl,h⟩
 | i::is,s,h=>(YE hc h).mono fun e bx σ ⟨s',h1,h2,h3,h4⟩=>by subst h1 h2 h3;exact MY hc h4
theorem Rx {K K':Env→Bx→Hp→Prop}(hk:∀e bx σ,K e bx σ→K' e bx σ):∀{is:List Nat} {e:Env} {bx:Bx} {σ:Hp},Seq g ops is e bx σ K→Seq g ops is e bx σ K'
 | [],_,_,_,h=>hk _ _ _ h
 | i::is,e,bx,σ,h=>AI.mono h fun _ _ _ h=>Rx hk h
theorem IT {K K':Env→Bx→Hp→Prop}(hk:∀e bx σ,K e bx σ→K' e bx σ):∀{p:Ord} {q:IG} {e:Env} {bx:Bx} {σ:Hp},JS g ops p q e bx σ K→JS g ops p q e bx σ K'
 | .done,_,_,_,_,h=>hk _ _ _ h
 | .yes i r,q,e,bx,σ,⟨own,o,v,h1,h2,h3,h4,h5⟩=>⟨own,o,v,h1,h2,h3,h4,IT hk h5⟩
 | .alt i r t,q,e,bx,σ,⟨h1,h2⟩=>⟨AI.mono h1 fun _ _ _ ⟨h3,h4⟩=>⟨h3,IT hk h4⟩,IT hk h2⟩
 | .no,_,_,_,_,_=>trivial
def Ry:Ord→List Nat
 | .done=>[]
 | .yes _ r=>Ry r
 | .alt i r _=>i::Ry r
 | .no=>[]
def AEl (ops:Array Oper)(i:Nat):Nat→Nat→Option (List Nat)
 | 0,_=>none
 | f+1,t=>match He ops t i with
  | true=>some [t]
  | false=>(List.range t).findSome? fun u=>match Nat.blt i u&&He ops t u with
   | true=>match AEl ops i f u with
    | some p=>some (t::p)
    | none=>none
   | false=>none
def waits (ops:Array Oper)(i:Nat):List Nat→List (List Nat)
 | []=>[]
 | t::l=>match AEl ops i 40 t with
  | some p=>p::waits ops i l
  | none=>waits ops i l
def tu (L:IG):KP:=fun σ0 σ1 F=>match L with
 | none=>Ext σ0 σ1∧F
 | some []=>F
 | some (x::l)=>Kp ((x::l).map Prod.fst) σ0 σ1∧F
def FJ (c:Cx)(ops:Array Oper):Ord→IG→S→(S→Prop)→Prop
 | .done,_,s,K=>K s
 | .yes i r,L,s,K=>match ops[i]? with
  | none=>False
  | some o=>match Fc o.dst c.n&&L.ok i with
   | false=>False
   | true=>Rt ops o.guard s fun b s=>match b with
    | false=>FJ c ops r L (s.put o.dst (.at .un)) K
    | true=>match o.op with
     | .load T x=>ldV c.P T x s fun m v s=>match m,L with
      | none,_=>FJ c ops r L (s.put o.dst v) K
      | some _,none=>FJ c ops r L (s.put o.dst v) K
      | some b,some l=>match (LY (some l) (some (b,waits ops i (Ry r)))).ok i&&P7 ops i (some (b,waits ops i (Ry r))) with
       | true=>FJ c ops r (LY (some l) (some (b,waits ops i (Ry r)))) (s.put o.dst v) K
       | false=>False
     | op=>match mT c.P op,anyM c.P op o.type s,L with
      | true,_,_=>False
      | false,some m,none=>AAM c.P o.type m s fun v s=>FJ c ops r none (s.put o.dst v) K
      | false,some _,some _=>False
      | false,none,L=>yv c.P c.wr op s fun v s=>FJ c ops r L (s.put o.dst v) K
 | .alt i r t,L,s,K=>
  match t with
  | .no=>YH c ops i L s fun s=>FJ c ops r (FH L i) s K
  | t=>(YH c ops i L s fun s=>FJ c ops r (FH L i) s K)∧FJ c ops t L s K
 | .no,_,_,_=>True
where
 YH (c:Cx) (ops:Array Oper) (i:Nat) (L:IG) (s:S) (K:S→Prop):Prop:=match ops[i]? with
  | none=>False
  | some o=>match Fc o.dst c.n with
   | false=>False
   | true=>Rt ops o.guard s fun b s=>match b with
    | false=>K (s.put o.dst (.at .un))
    | true=>jI c.tocd o.dst o.op o.type s (tu (FH L i)) K
def kqL (q:IG)(σ σ':Hp):Prop:=match q with
 | none=>∀b o,σ b=some o→σ' b=some o
 | some L=>∀x∈L,∀o,σ x.1=some o→σ' x.1=some o
theorem AAQ {q:IG}{bx Fq:Bx}{σ σ':Hp}(h:kqL q σ σ')(hb:∀p∈bx,p∈Fq):I1 q bx σ Fq σ':=⟨hb,h⟩
theorem jN {L:IG}{σ0 σ1:Hp}{F:Prop}(h:tu L σ0 σ1 F):F∧kqL L σ0 σ1:=by
 unfold tu at h;split at h
 ·exact⟨h.2,h.1⟩
 ·exact⟨h,fun x hx=>by cases hx⟩
 ·exact⟨h.2,fun y hy o ho=>h.1 y.1 (AXB.2 ⟨y,hy,rfl⟩) o ho⟩
theorem tw {L:IG}{σ0 σ1:Hp}(h:Ext σ0 σ1):kqL L σ0 σ1:=by
 cases L with
 | none=>exact h
 | some l=>exact fun x _ o ho=>h _ _ ho
theorem YI {L:IG}(hc:c.Ok g)(h:FJ.YH c ops i L s K):AI g ops i (s.e J) s.b s.σ fun e' Fq σ'=>I1 (FH L i) s.b s.σ Fq σ'∧fi J K e' Fq σ':=by
 unfold FJ.YH at h;split at h
 ·cases h
 ·rename_i o ho;split at h
  ·cases h
  ·rename_i hd;rw[hc.n]at hd;obtain⟨b,s1,h1,hw,h⟩:=IS h;have hw:=hw J;rw[←h1.e J]at hw;have key:AI g ops i (s1.e J) s1.b s1.σ fun e' Fq σ'=>I1 (FH L i) s1.b s1.σ Fq σ'∧fi J K e' Fq σ':=by
    cases b with
    | false=>exact AI.no (Cr ho) hw hd ⟨I1.refl _ _ _,_,(S.Hg (x:=.at .un)).symm,S.Hh.symm,S.E2.symm,h⟩
    | true=>
     have:=Rp (c:=c.tocd) (kq:=kqL (FH L i)) (J:=J) hc.P hc.R hc.E (fun _ _ F h=>jN h) (fun _ _ h=>tw h) (Cr ho) hw hd h;exact this.mono fun e' Fq σ' ⟨s',e1,e2,e3,hq,hb,hk⟩=>⟨AAQ hq hb,s',e1,e2,e3,hk⟩
   have:=fj (K:=fun e' Fq σ'=>I1 (FH L i) s1.b s1.σ Fq σ'∧fi J K e' Fq σ') h1 key;rw[h1.b,h1.σ]at this;exact this
theorem C5 (hc:c.Ok g):∀{p:Ord} {q:IG} {s:S},FJ c ops p q s K→JS g ops p q (s.e J) s.b s.σ (fi J K)
 | .done,q,s,h=>⟨s,rfl,rfl,rfl,h⟩
 | .yes i r,q,s,h=>by
  simp only[FJ]at h;split at h
  ·cases h
  ·rename_i o ho;split at h
   ·cases h
   ·rename_i hd;simp only[AWv]at hd;obtain⟨hd,hq⟩:=hd;rw[hc.n]at hd;obtain⟨b,s1,h1,hw,h⟩:=IS h;have hw:=hw J;rw[←h1.e J]at hw;rw[←h1.e J,←h1.b,←h1.σ];have go:∀{v:SV} {s2:S} {own:Option (Nat×List (List Nat))},s1.Hj s2→((LY q own).ok i&&P7 ops i own)=true→Yd g.P (s1.e J) s1.b (MR q own s1.σ) o.op o.type (v.den s2.vl)→AP ops (s1.e J) o.guard=true→FJ c ops r (LY q own) (s2.put o.dst v) K→JS g ops (.yes i r) q (s1.e J) s1.b s1.σ (fi J K):=fun {v s2 own} h2 CH hy hw hk=>by
     have:=C5 hc hk;rw[S.Hg,S.Hh,S.E2,h2.e J,h2.b,h2.σ]at this;exact⟨own,o,v.den s2.vl,CH,ho,.inl ⟨hw,hy⟩,Fc.lt hd,this⟩
    cases b with
    | false=>
     have:=C5 hc h;rw[S.Hg,S.Hh,S.E2]at this;exact⟨none,o,undef,ok_none hq,ho,.inr ⟨hw,rfl⟩,Fc.lt hd,by rw[D3];exact this⟩
    | true=>
     simp only at h;split at h
     ·rename_i T x Kq;obtain⟨m,v,s2,h2,hk,hy⟩:=VU (ty:=o.type) h;have hy:=hy J;rw[hc.P,←Kq]at hy;split at hk
      ·exact go (own:=none) h2 (ok_none hq) (hy _) hw (by rw[D3];exact hk)
      ·exact go (own:=none) h2 (ok_none hq) (Yd.up hy) hw (by rw[D3];exact hk)
      ·rename_i b l;split at hk
       ·rename_i CH;exact go h2 CH hy hw hk
       ·cases hk
     ·split at h
      ·cases h
      ·have hm:=‹anyM c.P o.op o.type s1=some _›;rw[hc.P]at h hm;obtain⟨v,s2,h2,hy,hk⟩:=Rq hm h;exact go (own:=none) h2 (ok_none hq) (hy J) hw hk
      ·cases h
      ·rw[hc.P]at h;obtain⟨v,s2,h2,hy,hk⟩:=X8 (ty:=o.type) h;exact go (own:=none) h2 (ok_none hq) (hy J _) hw (by rw[D3];exact hk)
 | .alt i r t,q,s,h=>by
  have key:∀{t:Ord},(FJ.YH c ops i q s fun s=>FJ c ops r (FH q i) s K)→JS g ops t q (s.e J) s.b s.σ (fi J K)→JS g ops (.alt i r t) q (s.e J) s.b s.σ (fi J K):=fun {t} h1 h2=>
   ⟨(YI hc h1).mono fun e bx σ ⟨hk,s',e1,e2,e3,h3⟩=>⟨hk,by subst e1 e2 e3;exact C5 hc h3⟩,h2⟩
  cases t with
  | no=>exact key h trivial
  | done=>exact key h.1 (C5 hc h.2)
  | yes j u=>exact key h.1 (C5 hc h.2)
  | alt j u w=>exact key h.1 (C5 hc h.2)
 | .no,q,s,h=>trivial
def fk (P:Program)(ops:Array Oper)(m:Nat):Nat→Array Bool→Ord
 | 0,_=>.no
 | f+1,listed=>match (List.range m).all fun i=>listed.getD i false with
  | true=>.done
  | false=>match (Region.ready .any ops listed).find? fun j=>Nat.blt j m&&match ops[j]? with | some o=>!mT P o.op | none=>false with
   | some j=>.yes j (fk P ops m f (listed.setIfInBounds j true))
   | none=>(Region.ready .any ops listed).foldr (fun j acc=>.alt j (fk P ops m f (listed.setIfInBounds j true)) acc) .no
def AAR (c:Cx)(ops:Array Oper)(draw:Bool)(m:Nat)(q:IG)(s:S)(K:S→Prop):Prop:=match draw with
 | false=>tr c ops (List.range ops.size) s K
 | true=>match WS ops m (fk c.P ops m (ops.size+1) (Array.replicate ops.size false)) (List.range' m (ops.size-m)) with
  | true=>FJ c ops (fk c.P ops m (ops.size+1) (Array.replicate ops.size false)) q s fun s=>tr c ops (List.range' m (ops.size-m)) s K
  | false=>False
theorem dA {k:List Item}{id m:Nat}{draw:Bool}{q:IG}(hc:c.Ok g)(hm:g.P.follows .mixedOrders=true)(h:AAR c ops draw m q s K)(hk:∀s,K s→At g k (s.e J) s.b s.σ):At g (.code (.region id ops draw)::k) (s.e J) s.b s.σ:=by
 have fin:∀e bx σ,fi J K e bx σ→At g k e bx σ:=fun e bx σ ⟨s',e1,e2,e3,h⟩=>by subst e1 e2 e3;exact hk s' h
 cases draw with
 | false=>
  refine At.region rfl rfl ?_;have:Seq g ops (List.range ops.size) (s.e J) s.b s.σ (fi J K):=MY hc h;exact Rx fin this
 | true=>
  simp only[AAR]at h;split at h
  ·rename_i hp;refine At.AEe hm rfl hp (q:=q) ?_;have:=C5 (J:=J) hc h;refine IT (fun e bx σ ⟨s',e1,e2,e3,h⟩=>?_) this;subst e1 e2 e3;exact Rx fin (MY hc h)
  ·cases h
end
end Tw
end
section
namespace Tw
open Go
variable [Ei]
def node (body:Code):List Bool→Code
 | []=>body
 | false::p=>cl (node body p)
 | true::p=>cr (node body p)
inductive It where
 | c (p:List Bool)
 | Ri (i:Nat)
 | lp (p:List Bool)
 | sc (p:List Bool)
def It.den (body:Code):It→Item
 | .c p=>.code (node body p)
 | .Ri i=>.inBlock i
 | .lp p=>.inLoop (node body p)
 | .sc p=>.inScope (node body p)
def C6 (body:Code):List It→List Item
 | []=>[]
 | x::l=>x.den body::C6 body l
def PR:List Bool→List Bool→Bool
 | [],[]=>true
 | a::p,b::q=>(bif a then b else !b)&&PR p q
 | _,_=>false
theorem VX:∀{p q:List Bool},PR p q=true→p=q
 | [],[],_=>rfl
 | a::p,b::q,h=>by
  simp only[PR,AWv]at h;rw[VX h.2];cases a<;>cases b<;>simp at h<;>rfl
 | [],_::_,h=>by cases h
 | _::_,[],h=>by cases h
def It.eq:It→It→Bool
 | .c p,.c q=>PR p q
 | .Ri i,.Ri j=>Nat.beq i j
 | .lp p,.lp q=>PR p q
 | .sc p,.sc q=>PR p q
 | _,_=>false
def fl:List It→List It→Bool
 | [],[]=>true
 | x::l,y::m=>x.eq y&&fl l m
 | _,_=>false
theorem YJ:∀{l m:List It},fl l m=true→l=m
 | [],[],_=>rfl
 | x::l,y::m,h=>by
  simp only[fl,AWv]at h;rw[YJ h.2];have:x=y:=by
   cases x<;>cases y<;>simp only[It.eq]at h<;>first
    | (rw[VX h.1])
    | (rw[AXY h.1])
    | (exact absurd h.1 (by simp))
  rw[this]
 | [],_::_,h=>by cases h
 | _::_,[],h=>by cases h
structure Cut where
 todo:List It
 f:S→Prop
def Cut.Ok (g:Gl)(body:Code)(k:Cut):Prop:=∀s J,k.f s→At g (C6 body k.todo) (s.e J) s.b s.σ
def tz:List Cut→List It→Option (S→Prop)
 | [],_=>none
 | k::l,t=>match fl k.todo t with
  | true=>some k.f
  | false=>tz l t
theorem fm {g:Gl}{body:Code}:∀{l:List Cut} {t:List It} {f:S→Prop},(∀k∈l,k.Ok g body)→tz l t=some f→∀s J,f s→At g (C6 body t) (s.e J) s.b s.σ
 | k::l,t,f,hl,h=>by
  simp only[tz]at h;split at h
  ·rename_i he;cases h;rw[←YJ he];exact hl k (AW1 ..)
  ·exact fm (fun k hk=>hl k (AWq _ hk)) h
def QI (i:Nat):List It→Option (List It)
 | []=>none
 | .Ri j::r=>match Nat.beq i j with
  | true=>some r
  | false=>QI i r
 | _::r=>QI i r
def Wb (l:Nat):Code→List Bool→Option (List It)
 | .seq a b,p=>match Wb l a (false::p) with
  | some r=>some (r++[.c (true::p)])
  | none=>Wb l b (true::p)
 | .label j,_=>match Nat.beq j l with
  | true=>some []
  | false=>none
 | _,_=>none
def QJ (body:Code)(l:Nat):List It→Option (List It)
 | []=>none
 | .sc p::r=>match Wb l (node body p) p with
  | some m=>some (m++(.sc p::r))
  | none=>QJ body l r
 | _::r=>QJ body l r
structure Fx extends Cx where
 body:Code
 res:List ResultVar
 reg:List (Nat×Nat×Bool)
def mW:List (Nat×Nat×Bool)→Nat→Nat→Nat×IG
 | [],_,m=>(m,some [])
 | (i,m,b)::l,id,z=>match Nat.beq i id with
  | true=>(m,bif b then none else some [])
  | false=>mW l id z
def dB (c:Fx)(s:S):List ResultVar→Option (List SV)
 | []=>some []
 | .tmp t::r=>match WU s.env t,dB c s r with
  | some v,some l=>some (v::l)
  | _,_=>none
 | .cell p T::r=>match mH (WU s.env p),dB c s r with
  | some (.bx i 0),some l=>match X7 s.bx i,Xw c.P T with
   | some (_,cs),some true=>match Xv c.P T with
    | some n=>match decide (cs.length=n) with
     | true=>some (.v (.agg cs)::l)
     | false=>none
    | none=>none
   | some (_,x::_),some false=>some (.at x::l)
   | _,_=>none
  | _,_=>none
def Uj (c:Fx)(s:S):Prop:=match dB c s c.res with
 | some l=>c.R (.returned (Ra (CJ s.vl l))) s.σ
 | none=>False
def C7 (c:Fx)(cuts:List Cut):Nat→Bool→List It→S→Prop
 | 0,_,_,_=>False
 | f+1,first,todo,s=>match (bif first then none else tz cuts todo) with
  | some k=>k s
  | none=>match todo with
   | []=>Uj c s
   | .Ri _::r=>C7 c cuts f false r s
   | .lp p::r=>C7 c cuts f false (.c p::.lp p::r) s
   | .sc _::r=>C7 c cuts f false r s
   | .c p::r=>match node c.body p with
    | .skip=>C7 c cuts f false r s
    | .seq _ _=>C7 c cuts f false (.c (false::p)::.c (true::p)::r) s
    | .block i _=>C7 c cuts f false (.c (false::p)::.Ri i::r) s
    | .loop _=>C7 c cuts f false (.c (false::p)::.lp (false::p)::r) s
    | .exit i=>match QI i r with
     | some r=>C7 c cuts f false r s
     | none=>False
    | .scope _=>C7 c cuts f false (.c (false::p)::.sc (false::p)::r) s
    | .label _=>C7 c cuts f false r s
    | .goto l=>match QJ c.body l r with
     | some r=>C7 c cuts f false r s
     | none=>False
    | .cond x _ _=>s.th (s.op x) fun t s=>C7 c cuts f false (.c ((!t)::p)::r) s
    | .ret=>Uj c s
    | .region id ops draw=>AAR c.toCx ops draw (mW c.reg id ops.size).1 (mW c.reg id ops.size).2 s fun s=>C7 c cuts f false r s
    | _=>False
structure Fx.Ok (c:Fx)(g:Gl)(fn:Func):Prop where
 cx:c.toCx.Ok g
 mixed:g.P.follows .mixedOrders=true
 fnc:g.P.funcs[g.f]?=some fn
 res:fn.results=c.res.toArray
 GK:g.GK=none
 ds:g.ds=[]
section
variable {g:Gl}{c:Fx}{fn:Func}{cuts:List Cut}{J:Env}
theorem GZ (hP:c.P=g.P){s:S}:∀{rs:List ResultVar} {l:List SV},dB c s rs=some l→G1 g.P (s.e J) s.b s.σ rs (CJ s.vl l)
 | [],l,h=>by simp only[dB,AWp]at h;subst h;rfl
 | .tmp t::r,l,h=>by
  simp only[dB]at h;split at h
  ·rename_i v l' h1 h2;cases h;refine⟨_,?_,GZ hP h2⟩;rw[show s.e J t=v.den s.vl from D4 h1];rfl
  ·cases h
 | .cell p T::r,l,h=>by
  simp only[dB]at h;split at h
  ·rename_i i l' h1 h2;obtain⟨u,e1,e2⟩:=EO h1;have hp:s.e J p=.pointer (some ⟨nth 0 s.vl.δ i,0,none⟩):=(D4 e1).trans (e2 _);split at h
   ·rename_i t cs hb ha;split at h
    ·rename_i n hn;split at h
     ·rename_i hd;have hd:=AWr hd;cases h;rw[hP]at ha hn;exact⟨_,_,rfl,⟨_,hp,lj (EM ha) (CX hn) (by simp[C4];exact hd) (JT hb)⟩,GZ hP h2⟩
     ·cases h
    ·cases h
   ·rename_i t x cs hb ha;cases h;rw[hP]at ha;exact⟨_,_,rfl,⟨_,hp,tU (EM ha) (JT hb) rfl⟩,GZ hP h2⟩
   ·cases h
  ·cases h
theorem Hl {body:Code}{i:Nat}:∀{r r':List It},QI i r=some r'→exitTo i (C6 body r)=some (C6 body r')
 | .Ri j::r,r',h=>by
  simp only[QI]at h;split at h
  ·rename_i he;cases h;have:=AXY he;subst this;simp[C6,It.den,exitTo]
  ·rename_i he;have Ay:i≠j:=fun e=>by subst e;rw[AZt]at he;cases he
   simp only[C6,It.den,exitTo];rw[AWj (by simpa using AXn Ay)];exact Hl h
 | .c p::r,r',h=>by simp only[QI]at h;simp only[C6,It.den,exitTo];exact Hl h
 | .lp p::r,r',h=>by simp only[QI]at h;simp only[C6,It.den,exitTo];exact Hl h
 | .sc p::r,r',h=>by simp only[QI]at h;simp only[C6,It.den,exitTo];exact Hl h
theorem Rz {body:Code}:∀{l m:List It},C6 body (l++m)=C6 body l++C6 body m
 | [],_=>rfl
 | x::l,m=>by simp only[AXb,C6,Rz]
theorem Ku {l:Nat}:∀{x:Code} {p:List Bool},Wb l x p=none→findLabel x l=none
 | .seq a b,p,h=>by
  simp only[Wb]at h;split at h
  ·cases h
  ·rename_i h1;simp only[findLabel,Ku h1,Ku h]
 | .label j,p,h=>by
  simp only[Wb]at h;split at h
  ·cases h
  ·rename_i h1;have:j≠l:=fun e=>by subst e;rw[AZt]at h1;cases h1
   simp[findLabel,this]
 | .skip,p,h=>rfl
 | .region ..,p,h=>rfl
 | .cond ..,p,h=>rfl
 | .block ..,p,h=>rfl
 | .loop ..,p,h=>rfl
 | .rangeFunc ..,p,h=>rfl
 | .exit ..,p,h=>rfl
 | .scope ..,p,h=>rfl
 | .goto ..,p,h=>rfl
 | .ret,p,h=>rfl
 | .refuse ..,p,h=>rfl
theorem R0 {l:Nat}{body:Code}:∀{x:Code} {p:List Bool} {m:List It},node body p=x→Wb l x p=some m→∃rest,findLabel x l=some rest∧∀{k:List Item} {e:Env} {bx:Bx} {σ:Hp},At g (C6 body m++k) e bx σ→At g (.code rest::k) e bx σ
 | .seq a b,p,m,hx,h=>by
  simp only[Wb]at h;split at h
  ·rename_i r h1;cases h;obtain⟨rest,e1,e2⟩:=R0 (body:=body) (x:=a) (p:=false::p) (by simp only[node,hx,cl]) h1;refine⟨.seq rest b,by simp only[findLabel,e1],fun h=>At.seq rfl (e2 ?_)⟩;rw[Rz,AXf]at h;simp only[C6,It.den,node,hx,cr,AXb,AXi]at h;exact h
  ·rename_i h1;obtain⟨rest,e1,e2⟩:=R0 (body:=body) (x:=b) (p:=true::p) (by simp only[node,hx,cr]) h;exact⟨rest,by simp only[findLabel,Ku h1,e1],e2⟩
 | .label j,p,m,hx,h=>by
  simp only[Wb]at h;split at h
  ·rename_i h1;cases h;have:=AXY h1;subst this;exact⟨.skip,by simp[findLabel],fun h=>At.skip h⟩
  ·cases h
theorem Hm {l:Nat}{body:Code}:∀{r r':List It},QJ body l r=some r'→∃k',gotoIn l (C6 body r)=some k'∧∀{e:Env} {bx:Bx} {σ:Hp},At g (C6 body r') e bx σ→At g k' e bx σ
 | .sc p::r,r',h=>by
  simp only[QJ]at h;split at h
  ·rename_i m h1;cases h;obtain⟨rest,e1,e2⟩:=R0 (g:=g) rfl h1;refine⟨.code rest::.inScope (node body p)::C6 body r,by simp only[C6,It.den,gotoIn,e1],fun h=>e2 ?_⟩;rw[Rz]at h;exact h
  ·rename_i h1;obtain⟨k',e1,e2⟩:=Hm h;exact⟨k',by simp only[C6,It.den,gotoIn,Ku h1,e1],e2⟩
 | .c p::r,r',h=>by simp only[QJ]at h;simp only[C6,It.den,gotoIn];exact Hm h
 | .lp p::r,r',h=>by simp only[QJ]at h;simp only[C6,It.den,gotoIn];exact Hm h
 | .Ri p::r,r',h=>by simp only[QJ]at h;simp only[C6,It.den,gotoIn];exact Hm h
theorem Aq (hc:c.Ok g fn)(hk:∀k∈cuts,k.Ok g c.body):∀{f:Nat} {first:Bool} {todo:List It} {s:S},C7 c cuts f first todo s→At g (C6 c.body todo) (s.e J) s.b s.σ
 | 0,_,_,_,h=>h.elim
 | f+1,first,todo,s,h=>by
  have hl:∀σ,left g.ds σ=σ:=fun σ=>by rw[hc.ds];rfl
  have mX:Marks g.ds s.σ:=by rw[hc.ds];trivial
  simp only[C7]at h;split at h
  ·rename_i k AEo;cases first with
   | true=>cases AEo
   | false=>exact fm hk AEo s J h
  ·split at h
   ·unfold Uj at h;split at h
    ·rename_i l fp;rw[hc.cx.R]at h;exact At.Xo hc.fnc hc.res (by rw[hl];exact GZ hc.cx.P fp) (by rw[hl];exact h) hc.GK mX
    ·cases h
   ·exact At.inBlock (Aq hc hk h)
   ·exact At.inLoop (Aq hc hk h)
   ·exact At.inScope (Aq hc hk h)
   ·rename_i p r _;have e:C6 c.body (.c p::r)=.code (node c.body p)::C6 c.body r:=rfl;rw[e];split at h
    ·rename_i hn;rw[hn];exact At.skip (Aq hc hk h)
    ·rename_i a b hn;refine At.seq hn ?_;have:=Aq hc hk h;simp only[C6,It.den,node,hn,cl,cr]at this;exact this
    ·rename_i i a hn;refine At.block hn ?_;have:=Aq hc hk h;simp only[C6,It.den,node,hn,cl]at this;exact this
    ·rename_i a hn;refine At.loop hn ?_;have:=Aq hc hk h;simp only[C6,It.den,node,hn,cl]at this;exact this
    ·rename_i i hn;split at h
     ·rename_i r' hr;exact At.exit hn (Hl hr) (Aq hc hk h)
     ·cases h
    ·rename_i a hn;refine At.scope hn ?_;have:=Aq hc hk h;simp only[C6,It.den,node,hn,cl]at this;exact this
    ·rename_i l hn;rw[hn];exact At.label (Aq hc hk h)
    ·rename_i l hn;split at h
     ·rename_i r' hr;obtain⟨k',e1,e2⟩:=Hm (g:=g) hr;exact At.goto hn e1 (e2 (Aq hc hk h))
     ·cases h
    ·rename_i x a b hn;obtain⟨t,s',v,h1,h2,h3,h4,h⟩:=S.E3 h;have hx:AB (s.e J) x=.bool t:=by rw[ev h3,h4]
     have:=Aq hc hk h;rw[h1.e J,h1.b,h1.σ]at this;cases t with
     | true=>
      refine At.w7 hn hx ?_;simp only[C6,It.den,node,hn,cl,Bool.not_true]at this;exact this
     | false=>
      refine At.w9 hn hx ?_;simp only[C6,It.den,node,hn,cr,Bool.not_false]at this;exact this
    ·rename_i hn;unfold Uj at h;split at h
     ·rename_i l fp;rw[hc.cx.R]at h;exact At.Uj hn hc.fnc hc.res (by rw[hl];exact GZ hc.cx.P fp) (by rw[hl];exact h) hc.GK mX
     ·cases h
    ·rename_i id ops draw hn;rw[hn];exact dA hc.cx hc.mixed h fun s' h'=>Aq hc hk h'
    ·cases h
end
def S.jO (s:S):List Nat→Option (List Value)
 | []=>some []
 | t::l=>match WU s.env t,s.jO l with
  | some v,some r=>some (v.den s.vl::r)
  | _,_=>none
theorem VY {s:S}{J:Env}:∀{l:List Nat} {vs:List Value},s.jO l=some vs→Live (s.e J) (l.zip vs)
 | [],vs,h=>by simp only[S.jO,AWp]at h;subst h;trivial
 | t::l,vs,h=>by
  simp only[S.jO]at h;split at h
  ·rename_i v r h1 h2;cases h;exact⟨D4 h1,VY h2⟩
  ·cases h
def fq (i:Nat):List E1→Option (E1×List E1)
 | []=>none
 | x::l=>match Nat.beq x.1 i with
  | true=>some (x,l)
  | false=>fq i l
def xL:Option SV→Option Nat
 | some (.v (.a (.pt (.bx i 0))))=>some i
 | _=>none
def S.Wc (s:S):List Nat→List E1→Option (List E1)
 | [],_=>some []
 | t::l,bx=>match xL (WU s.env t) with
  | some i=>match fq i bx with
   | some (x,r)=>match s.Wc l r with
    | some m=>some (x::m)
    | none=>none
   | none=>none
  | none=>none
def R1 (vl:Vl):List Nat→List E1→List (Nat×Value)
 | t::l,x::r=>(t,.pointer (some ⟨nth 0 vl.δ x.1,0,none⟩))::R1 vl l r
 | _,_=>[]
theorem VZ {vl:Vl}{i:Nat}:∀{l r:List E1} {x:E1},fq i l=some (x,r)→x.1=i∧∀m:List E1,(EL vl m).Sublist (EL vl r)→(EL vl (x::m)).Sublist (EL vl l)
 | y::l,r,x,h=>by
  simp only[fq]at h;split at h
  ·rename_i he;cases h;exact⟨AXY he,fun m hm=>List.Sublist.cons_cons _ hm⟩
  ·obtain⟨h1,h2⟩:=VZ (vl:=vl) h;exact⟨h1,fun m hm=>List.Sublist.cons _ (h2 m hm)⟩
theorem YK {s:S}{J:Env}:∀{l:List Nat} {bx B:List E1},s.Wc l bx=some B→(EL s.vl B).Sublist (EL s.vl bx)∧Live (s.e J) (R1 s.vl l B)
 | [],bx,B,h=>by simp only[S.Wc,AWp]at h;subst h;exact⟨List.nil_sublist _,trivial⟩
 | t::l,bx,B,h=>by
  simp only[S.Wc]at h;split at h
  ·rename_i i hi;split at h
   ·rename_i x r hx;split at h
    ·rename_i m hm;cases h;obtain⟨h1,h2⟩:=VZ (vl:=s.vl) hx;obtain⟨h3,h4⟩:=YK (s:=s) (J:=J) hm;refine⟨h2 m h3,?_,h4⟩;unfold xL at hi;split at hi
     ·rename_i hg;cases hi;rw[h1];exact D4 hg
     ·cases hi
    ·cases h
   ·cases h
  ·cases h
theorem Live.app {e:Env}:∀{l m:List (Nat×Value)},Live e l→Live e m→Live e (l++m)
 | [],_,_,h=>h
 | (_,_)::_,_,h,g=>⟨h.1,Live.app h.2 g⟩
theorem At.AEp {g:Gl}{k:List Item}{s:S}{J:Env}{l bl:List Nat}{vs:List Value}{B:List E1}(h:s.jO l=some vs)(hb:s.Wc bl s.bx=some B)(hk:∀J,At g k (Hd J (R1 s.vl bl B++l.zip vs)) (EL s.vl B) s.σ):At g k (s.e J) s.b s.σ:=by
 obtain⟨h1,h2⟩:=YK (J:=J) hb;exact At.sub h1 (At.live (h2.app (VY h)) (hk _))
def R3:Nat→List Value→List (Nat×Value)
 | _,[]=>[]
 | k,v::l=>(k,v)::R3 (k+1) l
theorem R4 {e:Env}:∀{l:List Value} {k:Nat},(∀j v,l[j]?=some v→e (k+j)=v)→Live e (R3 k l)
 | [],_,_=>trivial
 | v::l,k,h=>⟨h 0 v rfl,R4 fun j u hj=>by rw[show k+1+j=k+(j+1) by omega];exact h (j+1) u (by simpa using hj)⟩
theorem Spec.walk {P:Program}{f:FuncId}{fn:Func}{R:Rr}{args:Array Value}{n fuel:Nat}(c:Fx)(cuts:List Cut)(s:S)(hc:c.Ok (Gl.fn P f n R) fn)(hb:fn.body=some c.body)(hnt:fn.ntmps=n)(hn:Nat.ble args.size n=true)
  (hk:∀k∈cuts,k.Ok (Gl.fn P f n R) c.body) (he:Gt s.vl s.env=R3 0 args.toList) (hbx:s.bx=[]) (h:C7 c cuts fuel true [.c []] s):Spec P f args s.σ R:=by
 subst hnt;refine Spec.RW hc.fnc hb (AXZ hn) fun e hee=>?_;have hl:Live e (Gt s.vl s.env):=by
  rw[he];refine R4 fun j v hj=>?_;rw[AXl,hee];simp only[AYi];rw[←AXh,hj];rfl
 have:=Aq (J:=e) hc hk h;have ft:s.b=[]:=by rw[S.b,hbx];rfl
 rw[ft]at this;exact At.live hl this
end Tw
end
section
namespace Tw
open Go
variable [Ei]
inductive Dv where
 | I (k:IntKind) (x:Int)
 | B (t:Bool)
 | T (x:ByteArray)
 | L (p:Option Addr) (n c:Nat)
 | Q (p:Option Addr)
 | A (b:Nat)
 | M (x:Option Nat)
 | V (x:Value)
def Dv.den:Dv→Value
 | .I k x=>.int k x
 | .B t=>.bool t
 | .T x=>.string x
 | .L p n c=>.slice p n c
 | .Q p=>.pointer p
 | .A b=>.pointer (some ⟨b,0,none⟩)
 | .M x=>.map x
 | .V x=>x
def YL:List Dv→List Value
 | []=>[]
 | x::l=>x.den::YL l
inductive Dw where
 | o (x:Dv)
 | G (l:List Dv)
 | U (l:List Dv)
 | X (T:TypeId) (l:List Dv)
def Dw.den:Dw→Value
 | .o x=>x.den
 | .G l=>.agg (YL l).toArray
 | .U l=>.tuple (YL l).toArray
 | .X _ _=>undef
structure Nm where
 ρ:List (Option Addr)
 β:List BK
structure Nm.le (n:Nm)(v:Vl):Prop where
 ρ:∀i,i<n.ρ.length→nth none v.ρ i=nth none n.ρ i
 β:∀i,i<n.β.length→nth (.var false) v.β i=nth (.var false) n.β i
def Dv.sym:Dv→Nm→Bg×Nm
 | .I k x,n=>(.int k x,n)
 | .B t,n=>(.bs (Ru n.β) false,⟨n.ρ,n.β++[.var t]⟩)
 | .T x,n=>(.str x,n)
 | .L p k c,n=>(.sl (.var (Ru n.ρ)) k c,⟨n.ρ++[p],n.β⟩)
 | .Q p,n=>(.pt (.var (Ru n.ρ)),⟨n.ρ++[p],n.β⟩)
 | .A b,n=>(.pt (.at b 0),n)
 | .M x,n=>(.mp x,n)
 | .V x,n=>(.raw x,n)
theorem Nm.AEq {n:Nm}{v:Vl}{p:Option Addr}(h:Nm.le ⟨n.ρ++[p],n.β⟩ v):n.le v∧nth none v.ρ (Ru n.ρ)=p:=by
 refine⟨⟨fun i hi=>(h.ρ i (by simp only[AWz];omega)).trans (Ks hi),h.β⟩,?_⟩;rw[RD,h.ρ _ (by simp)];exact Kt
theorem Nm.AMc {n:Nm}{v:Vl}{p:BK}(h:Nm.le ⟨n.ρ,n.β++[p]⟩ v):n.le v∧nth (.var false) v.β (Ru n.β)=p:=by
 refine⟨⟨h.ρ,fun i hi=>(h.β i (by simp only[AWz];omega)).trans (Ks hi)⟩,?_⟩;rw[RD,h.β _ (by simp)];exact Kt
theorem Dv.PS {x:Dv}{n:Nm}{v:Vl}(h:(x.sym n).2.le v):(x.sym n).1.den v=x.den∧n.le v:=by
 cases x with
 | B t=>obtain⟨h1,h2⟩:=Nm.AMc h;exact⟨by simp only[Dv.sym,Bg.den,h2];rfl,h1⟩
 | L p k c=>obtain⟨h1,h2⟩:=Nm.AEq h;exact⟨by simp only[Dv.sym,Bg.den,PV.den,h2];rfl,h1⟩
 | Q p=>obtain⟨h1,h2⟩:=Nm.AEq h;exact⟨by simp only[Dv.sym,Bg.den,PV.den,h2];rfl,h1⟩
 | _=>exact⟨rfl,h⟩
def YM:List Dv→Nm→List Bg×Nm
 | [],n=>([],n)
 | x::l,n=>match x.sym n with
  | (a,n)=>match YM l n with
   | (r,n)=>(a::r,n)
theorem RE {v:Vl}:∀{l:List Dv} {n:Nm},(YM l n).2.le v→A6 v (YM l n).1=YL l∧n.le v
 | [],n,h=>⟨rfl,h⟩
 | x::l,n,h=>by
  obtain⟨h1,h2⟩:=RE (l:=l) (n:=(x.sym n).2) h;obtain⟨h3,h4⟩:=Dv.PS h2;exact⟨by simp only[YM,A6,YL,h3];rw[←h1],h4⟩
def atoms:List Bg→List F5
 | []=>[]
 | x::l=>.a x::atoms l
theorem Va {v:Vl}:∀l,G5 v (atoms l)=A6 v l
 | []=>rfl
 | x::l=>by simp only[atoms,G5,A6];rw[Va l];rfl
def Dw.sym:Dw→Nm→SV×Nm
 | .o x,n=>match x.sym n with | (a,n)=>(.v (.a a),n)
 | .G l,n=>match YM l n with | (a,n)=>(.v (.agg a),n)
 | .U l,n=>match YM l n with | (a,n)=>(.VH (atoms a),n)
 | .X _ _,n=>(.v (.a .un),n)
theorem Dw.PS {x:Dw}{n:Nm}{v:Vl}(h:(x.sym n).2.le v):(x.sym n).1.den v=x.den∧n.le v:=by
 cases x with
 | o x=>exact Dv.PS (x:=x) h
 | G l=>obtain⟨h1,h2⟩:=RE (l:=l) h;exact⟨by simp only[Dw.sym,SV.den,F5.den,Dw.den];rw[←h1],h2⟩
 | U l=>obtain⟨h1,h2⟩:=RE (l:=l) h;exact⟨by simp only[Dw.sym,SV.den,Dw.den];rw[Va,←h1],h2⟩
 | X T l=>exact⟨rfl,h⟩
abbrev Bv:=Nat×TypeId×List Dv
def Qq:List (Nat×Dw)→List (Nat×Value)
 | []=>[]
 | (_,.X _ _)::l=>Qq l
 | (t,x)::l=>(t,x.den)::Qq l
def PT:List (Nat×Dw)→Nm→List (Nat×SV)×Nm
 | [],n=>([],n)
 | (_,.X _ _)::l,n=>PT l n
 | (t,x)::l,n=>match x.sym n with
  | (a,n)=>match PT l n with
   | (r,n)=>((t,a)::r,n)
theorem Kv {v:Vl}:∀{l:List (Nat×Dw)} {n:Nm},(PT l n).2.le v→Gt v (PT l n).1=Qq l∧n.le v
 | [],n,h=>⟨rfl,h⟩
 | (t,.o x)::l,n,h=>by
  obtain⟨h1,h2⟩:=Kv (l:=l) (n:=((Dw.o x).sym n).2) h;obtain⟨h3,h4⟩:=Dw.PS h2;exact⟨by simp only[PT,Gt,Qq,h3];rw[←h1],h4⟩
 | (t,.G x)::l,n,h=>by
  obtain⟨h1,h2⟩:=Kv (l:=l) (n:=((Dw.G x).sym n).2) h;obtain⟨h3,h4⟩:=Dw.PS h2;exact⟨by simp only[PT,Gt,Qq,h3];rw[←h1],h4⟩
 | (t,.U x)::l,n,h=>by
  obtain⟨h1,h2⟩:=Kv (l:=l) (n:=((Dw.U x).sym n).2) h;obtain⟨h3,h4⟩:=Dw.PS h2;exact⟨by simp only[PT,Gt,Qq,h3];rw[←h1],h4⟩
 | (_,.X T x)::l,n,h=>Kv (l:=l) (n:=n) h
def JH:List (Nat×Dw)→List Bv→List Bv
 | [],r=>r
 | (t,.X T l)::m,r=>JH m ((t,T,l)::r)
 | _::m,r=>JH m r
def YO:List Bv→Nat→Nm→List E1×Nm
 | [],_,n=>([],n)
 | (_,T,l)::m,j,n=>match YM l n with
  | (a,n)=>match YO m (j+1) n with
   | (r,n)=>((j,T,a)::r,n)
def uA:List Bv→Nat→List (Nat×SV)
 | [],_=>[]
 | (t,_,_)::m,j=>(t,.v (.a (.pt (.bx j 0))))::uA m (j+1)
abbrev Bw:=Nat×TypeId×List Value
def Up:List Bv→List Bw
 | []=>[]
 | (t,T,l)::m=>(t,T,YL l)::Up m
def dC:List Bw→List Nat→List (Nat×Value)
 | (t,_,_)::m,b::δ=>(t,.pointer (some ⟨b,0,none⟩))::dC m δ
 | _,_=>[]
def bxV:List Bw→List Nat→Bx
 | (_,T,l)::m,b::δ=>(b,.cells l.toArray T (0,0))::bxV m δ
 | _,_=>[]
def PB:List Bw→(List Nat→Prop)→Prop
 | [],K=>K []
 | _::m,K=>∀b:Nat,PB m fun δ=>K (b::δ)
theorem mY:∀{l:List Bw} {K:List Nat→Prop},PB l K→∀δ,δ.length=l.length→K δ
 | [],K,h,[],_=>h
 | _::m,K,h,b::δ,hl=>mY (h b) δ (by simpa using hl)
theorem mZ:∀{l:List Bw} {K:List Nat→Prop},(∀δ,δ.length=l.length→K δ)→PB l K
 | [],K,h=>h [] rfl
 | _::m,K,h=>fun b=>mZ fun δ hl=>h (b::δ) (by simp[hl])
def PTv (g:Gl)(td:List Item)(bs:List Bw)(ts:List (Nat×Value))(σ:Hp):Prop:=
 ∀J:Env,PB bs fun δ=>At g td (Hd J (dC bs δ++ts)) (bxV bs δ) σ
theorem fu {δ0:List Nat}{v:Vl}:∀{m:List Bv} {j:Nat} {n:Nm} {δ:List Nat},δ.length=m.length→(∀i,i<δ.length→nth 0 v.δ (j+i)=nth 0 δ i)→(YO m j n).2.le v→
  EL v (YO m j n).1=bxV (Up m) δ∧Gt v (uA m j)=dC (Up m) δ∧n.le v
 | [],j,n,[],_,_,h=>⟨rfl,rfl,h⟩
 | (t,T,l)::m,j,n,b::δ,hl,hd,h=>by
  obtain⟨h1,h2,h3⟩:=fu (δ0:=δ0) (m:=m) (j:=j+1) (n:=(YM l n).2) (δ:=δ) (by simpa using hl) (fun i hi=>by
   have:=hd (i+1) (by simpa using hi);rw[show j+1+i=j+(i+1) by omega];exact this) h
  obtain⟨h4,h5⟩:=RE h3;have hb:nth 0 v.δ j=b:=hd 0 (by simp);refine⟨?_,?_,h5⟩
  ·simp only[YO,EL,Up,bxV,hb,h4];rw[←h1]
  ·simp only[uA,Gt,Up,dC,SV.den,F5.den,Bg.den,PV.den,hb];rw[h2]
def jP (D:List (Nat×Dw))(δ:List Nat)(σ:Hp):S:=match PT D ⟨[],[]⟩ with
 | (e,n)=>match JH D [] with
  | bs=>match YO bs 0 n with
   | (x,n)=>⟨uA bs 0++e,x,⟨n.ρ,n.β,δ⟩,σ⟩
theorem YQ {v:Vl}:∀{l m:List (Nat×SV)},Gt v (l++m)=Gt v l++Gt v m
 | [],_=>rfl
 | (t,x)::l,m=>by simp only[AXb,Gt];rw[YQ]
theorem AAT {D:List (Nat×Dw)}{δ:List Nat}{σ:Hp}{J:Env}(hl:δ.length=(JH D []).length):
  (jP D δ σ).e J=Hd J (dC (Up (JH D [])) δ++Qq D)∧(jP D δ σ).b=bxV (Up (JH D [])) δ:=by
 have hle:(YO (JH D []) 0 (PT D ⟨[],[]⟩).2).2.le ⟨(YO (JH D []) 0 (PT D ⟨[],[]⟩).2).2.ρ,(YO (JH D []) 0 (PT D ⟨[],[]⟩).2).2.β,δ⟩:=⟨fun _ _=>rfl,fun _ _=>rfl⟩;obtain⟨h1,h2,h3⟩:=fu (δ0:=[]) (δ:=δ) hl (fun i _=>by rw[AXl]) hle;obtain⟨h4,_⟩:=Kv h3;exact⟨by simp only[jP,S.e,YQ];rw[h2,h4],h1⟩
def AEr:Nat→Nat→List Bool
 | 0,_=>[]
 | f+1,n=>match Nat.ble n 1 with
  | true=>[]
  | false=>Nat.beq (n%2) 1::AEr f (n/2)
def pth (n:Nat):List Bool:=AEr 400 n
def MZ (body:Code):List Bool→List It
 | []=>[]
 | t::p=>match node body p with
  | .seq _ _=>bif t then MZ body p else .c (true::p)::MZ body p
  | .block i _=>.Ri i::MZ body p
  | .loop _=>.lp (false::p)::MZ body p
  | .scope _=>.sc (false::p)::MZ body p
  | _=>MZ body p
def uB (body:Code)(n:Nat):List It:=.c (pth n)::MZ body (pth n)
inductive Sh where
 | I (k:IntKind) | B | T | L | Q | A | M | V
inductive Sw where
 | o (x:Sh)
 | G (l:List Sh)
 | U (l:List Sh)
 | X (T:TypeId) (l:List Sh)
abbrev ArS:Sh→Type→Type
 | .I _,C=>Int→C
 | .B,C=>Bool→C
 | .T,C=>ByteArray→C
 | .L,C=>Option Addr→Nat→Nat→C
 | .Q,C=>Option Addr→C
 | .A,C=>Nat→C
 | .M,C=>Option Nat→C
 | .V,C=>Value→C
def AEs {C:Type}:(x:Sh)→(Dv→C)→ArS x C
 | .I k,K=>fun x=>K (.I k x)
 | .B,K=>fun x=>K (.B x)
 | .T,K=>fun x=>K (.T x)
 | .L,K=>fun p n c=>K (.L p n c)
 | .Q,K=>fun x=>K (.Q x)
 | .A,K=>fun x=>K (.A x)
 | .M,K=>fun x=>K (.M x)
 | .V,K=>fun x=>K (.V x)
abbrev ArL:List Sh→Type→Type
 | [],A=>A
 | x::l,A=>ArS x (ArL l A)
def uC {A:Type}:(l:List Sh)→(List Dv→A)→ArL l A
 | [],K=>K []
 | x::l,K=>AEs x fun d=>uC l fun r=>K (d::r)
abbrev ArW:Sw→Type→Type
 | .o x,C=>ArS x C
 | .G l,C=>ArL l C
 | .U l,C=>ArL l C
 | .X _ l,C=>ArL l C
def AMe {A:Type}:(x:Sw)→(Dw→A)→ArW x A
 | .o x,K=>AEs x fun d=>K (.o d)
 | .G l,K=>uC l fun d=>K (.G d)
 | .U l,K=>uC l fun d=>K (.U d)
 | .X T l,K=>uC l fun d=>K (.X T d)
abbrev Ar:List (Nat×Sw)→Type→Type
 | [],A=>A
 | (_,x)::l,A=>ArW x (Ar l A)
def cur {A:Type}:(l:List (Nat×Sw))→(List (Nat×Dw)→A)→Ar l A
 | [],K=>K []
 | (t,x)::l,K=>AMe x fun d=>cur l fun r=>K ((t,d)::r)
structure Fw where
 P:Program
 f:Nat
 fn:Func
 M9:List Nat
 hid:List Nat
 wr:Bool
 reg:List (Nat×Nat×Bool)
 MX:List (Nat×TypeId)
 cuts:List (Nat×List (Nat×Sw))
def Fw.K (M:Fw):Code:=M.fn.body.getD .skip
def Fw.gl (M:Fw)(R:Rr):Gl:=Gl.fn M.P M.f M.fn.ntmps R
def Fw.cx (M:Fw)(R:Rr):Fx:={ P:=M.P,R:=R,M9:=M.M9,hid:=M.hid,wr:=M.wr,n:=M.fn.ntmps,body:=M.K,res:=M.fn.results.toList,reg:=M.reg,MX:=M.MX }
def YR (vl:Vl):List Nat→List E1→List Bw
 | t::l,x::r=>(t,x.2.1,A6 vl x.2.2)::YR vl l r
 | _,_=>[]
def tmps:List (Nat×Sw)→List Nat
 | []=>[]
 | (_,.X _ _)::l=>tmps l
 | (t,_)::l=>t::tmps l
def ma:List (Nat×Sw)→List Nat→List Nat
 | [],r=>r
 | (t,.X _ _)::l,r=>ma l (t::r)
 | _::l,r=>ma l r
def Fw.cut (M:Fw)(R:Rr)(c:Nat×List (Nat×Sw)):Cut:=⟨uB M.K c.1,fun s=>match s.jO (tmps c.2),s.Wc (ma c.2 []) s.bx with
 | some vs,some B=>PTv (M.gl R) (C6 M.K (uB M.K c.1)) (YR s.vl (ma c.2 []) B) ((tmps c.2).zip vs) s.σ
 | _,_=>False⟩
def Uq (M:Fw)(R:Rr):List (Nat×List (Nat×Sw))→List Cut
 | []=>[]
 | c::l=>M.cut R c::Uq M R l
def Fw.ptD (M:Fw)(at_:Nat)(R:Rr)(D:List (Nat×Dw))(σ:Hp):Prop:=PTv (M.gl R) (C6 M.K (uB M.K at_)) (Up (JH D [])) (Qq D) σ
noncomputable def Fw.pt (M:Fw)(i:Nat)(R:Rr):Ar (nth (0,[]) M.cuts i).2 (Hp→Prop):=cur (nth (0,[]) M.cuts i).2 (M.ptD (nth (0,[]) M.cuts i).1 R)
structure Fw.Ok (M:Fw):Prop where
 E:AG M.P M.M9
 mixed:M.P.follows .mixedOrders=true
 fnc:M.P.funcs[M.f]?=some M.fn
 body:M.fn.body.isSome=true
theorem Fw.xM {M:Fw}{R:Rr}(h:M.Ok):(M.cx R).Ok (M.gl R) M.fn:=⟨⟨rfl,rfl,h.E,rfl,rfl,rfl⟩,h.mixed,h.fnc,rfl,rfl,rfl⟩
theorem YS {vl:Vl}:∀{l:List Nat} {B:List E1},∃δ:List Nat,δ.length=(YR vl l B).length∧dC (YR vl l B) δ=R1 vl l B∧(l.length=B.length→bxV (YR vl l B) δ=EL vl B)
 | [],[]=>⟨[],rfl,rfl,fun _=>rfl⟩
 | [],_::_=>⟨[],rfl,rfl,fun h=>by simp at h⟩
 | _::_,[]=>⟨[],rfl,rfl,fun h=>by simp at h⟩
 | t::l,(i,T,cs)::B=>by
  obtain⟨δ,h1,h2,h3⟩:=YS (vl:=vl) (l:=l) (B:=B);exact⟨nth 0 vl.δ i::δ,by simp[YR,h1],by simp only[YR,dC,R1];rw[h2],fun h=>by simp only[YR,bxV,EL];rw[h3 (by simpa using h)]⟩
theorem YT {s:S}:∀{l:List Nat} {bx B:List E1},s.Wc l bx=some B→l.length=B.length
 | [],bx,B,h=>by simp only[S.Wc,AWp]at h;subst h;rfl
 | t::l,bx,B,h=>by
  simp only[S.Wc]at h;split at h
  ·split at h
   ·split at h
    ·rename_i m hm;cases h;simp[YT hm]
    ·cases h
   ·cases h
  ·cases h
theorem Fw.AAV (M:Fw)(R:Rr)(c:Nat×List (Nat×Sw)):(M.cut R c).Ok (M.gl R) M.K:=fun s J h=>by
 simp only[Fw.cut]at h;split at h
 ·rename_i vs B h1 h2;obtain⟨δ,e1,e2,e3⟩:=YS (vl:=s.vl) (l:=ma c.2 []) (B:=B);refine At.AEp h1 h2 fun J=>?_;have:=mY (h J) δ e1;rw[e2,e3 (YT h2)]at this;exact this
 ·cases h
theorem Wd {M:Fw}{R:Rr}:∀{l:List (Nat×List (Nat×Sw))},∀k∈Uq M R l,k.Ok (M.gl R) M.K
 | c::l,k,hk=>by
  rcases AWo.1 hk with rfl|hk
  ·exact M.AAV R c
  ·exact Wd k hk
theorem YU:∀{l:List Bv},(Up l).length=l.length
 | []=>rfl
 | _::m=>by simp only[Up,AWw];rw[YU]
def PX (F:Prop):List Bv→(List Nat→Prop)→Prop
 | [],K=>F=K []
 | _::m,K=>∀b:Nat,PX F m fun δ=>K (b::δ)
theorem mc {F:Prop}(h:F):∀{l:List Bv} {K:List Nat→Prop},PX F l K→∀δ,δ.length=l.length→K δ
 | [],K,e,[],_=>e▸h
 | _::m,K,e,b::δ,hl=>mc h (e b) δ (by simpa using hl)
theorem Fw.ofB {M:Fw}{R:Rr}{at_:Nat}{D:List (Nat×Dw)}{σ:Hp}{F:Prop}(h:F)(ok:M.Ok)(e:PX F (JH D []) fun δ=>C7 (M.cx R) (Uq M R M.cuts) 4000 true (uB M.K at_) (jP D δ σ)):M.ptD at_ R D σ:=fun J=>by
 refine mZ fun δ hl=>?_;rw[YU]at hl;have:=Aq (J:=J) (Fw.xM ok) Wd (mc h e δ hl);obtain⟨e1,e2⟩:=AAT (D:=D) (σ:=σ) (J:=J) hl;rw[e1,e2]at this;exact this
theorem Fw.of {M:Fw}{R:Rr}{at_:Nat}{D:List (Nat×Dw)}{σ:Hp}{F:Prop}(h:F)(ok:M.Ok)(hb:JH D []=[])(e:F=C7 (M.cx R) (Uq M R M.cuts) 4000 true (uB M.K at_) (jP D [] σ):=by kernel_rfl):M.ptD at_ R D σ:=
 M.ofB h ok (by rw[hb];exact e)
theorem Fw.xN {M:Fw}{R:Rr}{at_:Nat}{D:List (Nat×Dw)}{σ:Hp}{F:Prop}{x1:Bv}(h:F)(ok:M.Ok)(hb:JH D []=[x1])(e:∀b1:Nat,F=C7 (M.cx R) (Uq M R M.cuts) 4000 true (uB M.K at_) (jP D [b1] σ)):M.ptD at_ R D σ:=
 M.ofB h ok (by rw[hb];exact e)
theorem Fw.jQ {M:Fw}{R:Rr}{at_:Nat}{D:List (Nat×Dw)}{σ:Hp}{F:Prop}{x1 x2:Bv}(h:F)(ok:M.Ok)(hb:JH D []=[x1,x2])(e:∀b1 b2:Nat,F=C7 (M.cx R) (Uq M R M.cuts) 4000 true (uB M.K at_) (jP D [b1,b2] σ)):M.ptD at_ R D σ:=
 M.ofB h ok (by rw[hb];exact e)
theorem Fw.of3 {M:Fw}{R:Rr}{at_:Nat}{D:List (Nat×Dw)}{σ:Hp}{F:Prop}{x1 x2 x3:Bv}(h:F)(ok:M.Ok)(hb:JH D []=[x1,x2,x3])(e:∀b1 b2 b3:Nat,F=C7 (M.cx R) (Uq M R M.cuts) 4000 true (uB M.K at_) (jP D [b1,b2,b3] σ)):M.ptD at_ R D σ:=
 M.ofB h ok (by rw[hb];exact e)
theorem Fw.of4 {M:Fw}{R:Rr}{at_:Nat}{D:List (Nat×Dw)}{σ:Hp}{F:Prop}{x1 x2 x3 x4:Bv}(h:F)(ok:M.Ok)(hb:JH D []=[x1,x2,x3,x4])(e:∀b1 b2 b3 b4:Nat,F=C7 (M.cx R) (Uq M R M.cuts) 4000 true (uB M.K at_) (jP D [b1,b2,b3,b4] σ)):M.ptD at_ R D σ:=
 M.ofB h ok (by rw[hb];exact e)
def AAW:Value→Dv
 | .int k x=>.I k x
 | .bool t=>.B t
 | .string x=>.T x
 | .slice p n c=>.L p n c
 | .pointer p=>.Q p
 | .map x=>.M x
 | x=>.V x
theorem YV (x:Value):(AAW x).den=x:=by cases x<;>rfl
def fw:List Value→List Dv
 | []=>[]
 | x::l=>AAW x::fw l
theorem Vb:∀l:List Value,YL (fw l)=l
 | []=>rfl
 | x::l=>by simp only[fw,YL];rw[YV,Vb]
def jR:Value→Dw
 | .agg cs=>.G (fw cs.toList)
 | x=>.o (AAW x)
theorem me (x:Value):(jR x).den=x:=by
 cases x
 case agg cs=>simp only[jR,Dw.den,Vb]
 all_goals (simp only[jR,Dw.den];exact YV _)
def mg:Value→Dw
 | .pointer (some ⟨b,0,none⟩)=>.o (.A b)
 | x=>.o (.V x)
theorem mh (x:Value):(mg x).den=x:=by
 unfold mg;split<;>rfl
def jS (np:Nat):Nat→List Value→List (Nat×Dw)
 | _,[]=>[]
 | k,x::l=>match Nat.blt k np with
  | true=>(k,jR x)::jS np (k+1) l
  | false=>(k,mg x)::jS np (k+1) l
theorem mi (x:Value):(∃y,jR x=.o y)∨∃y,jR x=.G y:=by cases x<;>first|exact .inr ⟨_,rfl⟩|exact .inl ⟨_,rfl⟩
theorem mj (x:Value):∃y,mg x=.o y:=by unfold mg;split<;>exact⟨_,rfl⟩
theorem We {np:Nat}:∀{l:List Value} {k:Nat},Qq (jS np k l)=R3 k l∧JH (jS np k l) []=[]
 | [],_=>⟨rfl,rfl⟩
 | x::l,k=>by
  obtain⟨h1,h2⟩:=We (np:=np) (l:=l) (k:=k+1);simp only[jS];split
  ·have hd:=me x;rcases mi x with ⟨y,hy⟩|⟨y,hy⟩<;>rw[hy]at hd ⊢<;>exact⟨by simp only[Qq,R3];rw[hd,h1],h2⟩
  ·have hd:=mh x;obtain⟨y,hy⟩:=mj x;rw[hy]at hd ⊢;exact⟨by simp only[Qq,R3];rw[hd,h1],h2⟩
def Fw.run (M:Fw)(R:Rr)(k:Nat)(D:List (Nat×Dw))(σ:Hp):Prop:=match Nat.ble k M.fn.ntmps with
 | true=>C7 (M.cx R) (Uq M R M.cuts) 4000 true [.c []] (jP D [] σ)
 | false=>False
theorem Fw.CY {M:Fw}{R:Rr}{args:Array Value}{σ:Hp}{F:Prop}(h:F)(ok:M.Ok)(D:List (Nat×Dw))(hx:JH D []=[])(hD:Qq D=R3 0 args.toList)(e:F=M.run R args.size D σ):Spec M.P M.f args σ R:=by
 subst e;unfold Fw.run at h;split at h
 case h_2=>exact h.elim
 rename_i hn;obtain⟨fb,hb⟩:=Option.isSome_iff_exists.1 ok.body;refine Spec.walk (c:=M.cx R) (cuts:=Uq M R M.cuts) (s:=jP D [] σ) (fuel:=4000) (Fw.xM ok) ?_ rfl hn Wd ?_ ?_ h
 ·show M.fn.body=some (M.fn.body.getD .skip)
  rw[hb];rfl
 ·obtain⟨h4,_⟩:=Kv (l:=D) (n:=⟨[],[]⟩) (v:=⟨(PT D ⟨[],[]⟩).2.ρ,(PT D ⟨[],[]⟩).2.β,[]⟩) ⟨fun _ _=>rfl,fun _ _=>rfl⟩;rw[hD]at h4;simp only[jP,hx];exact h4
 ·simp only[jP,hx];rfl
theorem Fw.start {M:Fw}{R:Rr}{args:Array Value}{σ:Hp}{F:Prop}(h:F)(ok:M.Ok)(e:F=M.run R args.size (jS M.fn.params.size 0 args.toList) σ:=by kernel_rfl):Spec M.P M.f args σ R:=
 M.CY h ok _ We.2 We.1 e
abbrev wI:Sw:=.o (.I .i64)
abbrev wU:Sw:=.o (.I .u64)
abbrev w8:Sw:=.o (.I .u8)
abbrev wB:Sw:=.o .B
abbrev wT:Sw:=.o .T
abbrev wL:Sw:=.o .L
abbrev wQ:Sw:=.o .Q
abbrev wA:Sw:=.o .A
abbrev wM:Sw:=.o .M
abbrev wV:Sw:=.o .V
abbrev aD (b o:Nat):Option Addr:=some ⟨b,o,none⟩
abbrev Br (p A B:Prop):Prop:=(p→A)∧(¬p→B)
abbrev Bm (p A B:Prop):Prop:=(¬p→A)∧(p→B)
abbrev Bo (t:Bool)(A B:Prop):Prop:=(t=true→A)∧(t=false→B)
abbrev Bn (t:Bool)(A B:Prop):Prop:=(t=false→A)∧(t=true→B)
abbrev Pq (p:Option Addr)(K:Nat→Nat→Prop):Prop:=∃b o:Nat,p=some ⟨b,o,none⟩∧K b o
abbrev In (x n:Int):Prop:=(0:Int)≤x∧x<n
abbrev Df (r:Int)(K:Int→Prop):Prop:=∀x:Int,x=r→K x
abbrev Al (σ:Hp)(K:Nat→Prop):Prop:=∀b:Nat,σ b=none→K b
abbrev LI (k:IntKind)(σ:Hp)(b o:Nat)(K:Int→Prop):Prop:=∃x:Int,Hp.ld σ ⟨b,o,none⟩=some (.int k x)∧K x
abbrev LB (σ:Hp)(b o:Nat)(K:Bool→Prop):Prop:=∃x:Bool,Hp.ld σ ⟨b,o,none⟩=some (.bool x)∧K x
abbrev LT (σ:Hp)(b o:Nat)(K:ByteArray→Prop):Prop:=∃x:ByteArray,Hp.ld σ ⟨b,o,none⟩=some (.string x)∧K x
abbrev LQ (σ:Hp)(b o:Nat)(K:Option Addr→Prop):Prop:=∃x:Option Addr,Hp.ld σ ⟨b,o,none⟩=some (.pointer x)∧K x
abbrev LS (σ:Hp)(b o:Nat)(K:Option Addr→Nat→Nat→Prop):Prop:=∃p:Option Addr,∃n:Nat,∃c:Nat,Hp.ld σ ⟨b,o,none⟩=some (.slice p n c)∧K p n c
abbrev CI (k:IntKind)(K:Int→Hp→Prop):Value→Hp→Prop:=fun v σ=>∃x:Int,v=.int k x∧K x σ
abbrev CB (K:Bool→Hp→Prop):Value→Hp→Prop:=fun v σ=>∃x:Bool,v=.bool x∧K x σ
abbrev CT (K:ByteArray→Hp→Prop):Value→Hp→Prop:=fun v σ=>∃x:ByteArray,v=.string x∧K x σ
abbrev CQ (K:Option Addr→Hp→Prop):Value→Hp→Prop:=fun v σ=>∃x:Option Addr,v=.pointer x∧K x σ
abbrev CS (K:Option Addr→Nat→Nat→Hp→Prop):Value→Hp→Prop:=fun v σ=>∃p:Option Addr,∃n:Nat,∃c:Nat,v=.slice p n c∧K p n c σ
end Tw
end
section
set_option maxRecDepth 100000
noncomputable section
namespace TwW
open Go Tw Go.Proofs.Tryz
variable [Ei]{R:Rr}{σ:Hp}
abbrev AL (f:FuncId)(a:Array Value)(s:Hp)(R:Rr)(K:Value→Hp→Prop):Prop:=Spec prog f a s (Ap R K)
abbrev I4 (T:TypeId)(p:Option Addr)(n c b:Nat):Sem Value:=Builtin.append_ #[T,T] T #[.slice p n c,.slice (aD b 0) 1 1]

namespace A9
noncomputable def K0:=f6.body.getD .skip
def K1:=cl K0
def K2:=cr K0
def K3:=cl K2
def K4:=cl K3
def K5:=cr K3
def K6:=cl K5
def K7:=cr K5
def K8:=cl K7
def K9:=cl K8
def lK:=cr K8
def si:=cr K7
def uD:=cr K2
def sj:=cl uD
def K14:=cl sj
def K15:=cr sj
def uE:=cl K15
def xO:=cl uE
def K18:=cr uE
def uF:=cr K15
def K20:=cr uD
def K21:=cl K20
def K22:=cl K21
def K23:=cr K21
def K24:=cl K23
def K25:=cl K24
def K26:=cr K24
def xP:=cr K23
def K28:=cr K20
def K29:=cl K28
def K30:=cr K28
def K31:=cl K30
def K32:=cr K30
def K33:=cl K32
def K34:=cl K33
def K35:=cr K33
def K36:=cl K35
def K37:=cl K36
def K38:=cr K36
def K39:=cl K38
def K40:=cl K39
def xQ:=cr K39
def K42:=cl xQ
def K43:=cl K42
def K44:=cr K42
def K45:=cl K44
def K46:=cl K45
def K47:=cr K45
def K48:=cr K44
def K49:=cr xQ
def K50:=cl K49
def K51:=cr K49
def K52:=cl K51
def K53:=cl K52
def K54:=cl K53
def K55:=cr K53
def K56:=cl K55
def K57:=cl K56
def K58:=cr K56
def K59:=cr K55
def K60:=cl K59
def K61:=cl K60
def K62:=cl K61
def K63:=cr K61
def K64:=cl K63
def K65:=cr K63
def K66:=cl K65
def K67:=cl K66
def K68:=cr K66
def K69:=cl K68
def K70:=cl K69
def K71:=cr K69
def K72:=cl K71
def K73:=cr K71
def K74:=cr K68
def K75:=cr K65
def K76:=cr K59
def K77:=cr K32
def K78:=cl K77
def K79:=cr K77
def K80:=cl K79
def K81:=cr K79
def K82:Code:=.ret
abbrev gl (R:Rr):Gl:=Gl.fn prog 6 117 R
def JV (R:Rr)(l:Nat)(r0:Loop)(b5 b6 CC A7 Bc BT:Nat)(xR:Int)(σ:Hp):Prop:=∀(J:Env),At (Gl.round prog 6 117 l R) [.code K37,.beginRound,.code K38] (Hd J [(5,(.pointer (some ⟨b5,0,none⟩))),(6,(.pointer (some ⟨b6,0,none⟩))),(10,(.pointer (some ⟨CC,0,none⟩))),(11,(.pointer (some ⟨A7,0,none⟩))),(13,(.pointer (some ⟨Bc,0,none⟩))),(14,(.pointer (some ⟨BT,0,none⟩))),(56,(.I xR))]) [] σ
def Wf (R:Rr)(l:Nat)(r0:Loop)(Bc BT:Nat)(x15:Int)(Ur:Option Addr)(Kw RF:Nat)(Lc Ma:Int)(σ:Hp):Prop:=∀(J:Env),At (Gl.round prog 6 117 l R) [.code K54,.code K55,.inLoop K53,.inBlock 2,.inBlock 1] (Hd J [(13,(.pointer (some ⟨Bc,0,none⟩))),(14,(.pointer (some ⟨BT,0,none⟩))),(15,(.I x15)),(67,(.slice Ur Kw RF)),(68,(.I Lc)),(69,(.I Ma))]) [] σ
def uG (R:Rr)(l:Nat)(r0:Loop)(Bc BT:Nat)(x15:Int)(BR:Nat)(HO:Int)(Ur:Option Addr)(Kw RF:Nat)(Lc Ma:Int)(σ:Hp):Prop:=∀(J:Env),At (Gl.round prog 6 117 l R) [.code K75,.inBlock 3,.code K76,.inLoop K53,.inBlock 2,.inBlock 1] (Hd J [(13,(.pointer (some ⟨Bc,0,none⟩))),(14,(.pointer (some ⟨BT,0,none⟩))),(15,(.I x15)),(19,(.pointer (some ⟨BR,0,none⟩))),(20,(.I HO)),(67,(.slice Ur Kw RF)),(68,(.I Lc)),(69,(.I Ma))]) [] σ
def start {R:Rr}{p0 p1:Option Addr}{n0 c0 n1 c1:Nat}{x2 x3 x4:Int}{σ:Hp}(h:∀b5:Nat,σ b5=none→∀b6:Nat,(Hp.set σ b5 (.cells #[(.slice p0 n0 c0)] 22 (0,0))) b6=none→∀CC:Nat,(Hp.set (Hp.set σ b5 (.cells #[(.slice p0 n0 c0)] 22 (0,0))) b6 (.cells #[(.slice p1 n1 c1)] 23 (0,0))) CC=none→∀A7:Nat,(Hp.set (Hp.set (Hp.set σ b5 (.cells #[(.slice p0 n0 c0)] 22 (0,0))) b6 (.cells #[(.slice p1 n1 c1)] 23 (0,0))) CC (.cells #[(.N)] 23 (0,0))) A7=none→∃Vc:Option Addr,∃n22:Nat,∃Ue:Nat,Hp.ld (Hp.set (Hp.set (Hp.set (Hp.set σ b5 (.cells #[(.slice p0 n0 c0)] 22 (0,0))) b6 (.cells #[(.slice p1 n1 c1)] 23 (0,0))) CC (.cells #[(.N)] 23 (0,0))) A7 (.cells #[(.I 0)] 26 (0,0))) ⟨b5,0,none⟩=some (.slice Vc n22 Ue)∧∃Us:Option Addr,∃n23:Nat,∃RG:Nat,Hp.ld (Hp.set (Hp.set (Hp.set (Hp.set σ b5 (.cells #[(.slice p0 n0 c0)] 22 (0,0))) b6 (.cells #[(.slice p1 n1 c1)] 23 (0,0))) CC (.cells #[(.N)] 23 (0,0))) A7 (.cells #[(.I 0)] 26 (0,0))) ⟨b6,0,none⟩=some (.slice Us n23 RG)∧AL 15 #[(.slice Vc n22 Ue),(.slice Us n23 RG)] (Hp.set (Hp.set (Hp.set (Hp.set σ b5 (.cells #[(.slice p0 n0 c0)] 22 (0,0))) b6 (.cells #[(.slice p1 n1 c1)] 23 (0,0))) CC (.cells #[(.N)] 23 (0,0))) A7 (.cells #[(.I 0)] 26 (0,0))) R (fun v σ1=>∃HS:Int,v=(.I HS)∧((HS:Int)≠0→AH prog (Instr.storeAt 23 (.pointer (some ⟨CC,0,none⟩)) (.N)) σ1 (fun _ A3=>AH prog (Instr.storeAt 26 (.pointer (some ⟨A7,0,none⟩)) (.I HS)) A3 (fun _ Az=>∃Bz:Option Addr,∃B4:Nat,∃B8:Nat,∃B9:Int,Hp.ld Az ⟨CC,0,none⟩=some (.slice Bz B4 B8)∧Hp.ld Az ⟨A7,0,none⟩=some (.I B9)∧R (.T #[(.slice Bz B4 B8),(.I B9)]) Az)))∧(¬((HS:Int)≠0)→AL 16 #[(.I x2)] σ1 R (fun Uf A3=>∃t29:Bool,Uf=(.bool t29)∧(t29=false→AH prog (Instr.storeAt 23 (.pointer (some ⟨CC,0,none⟩)) (.N)) A3 (fun _ Az=>AH prog (Instr.storeAt 26 (.pointer (some ⟨A7,0,none⟩)) (.I 221)) Az (fun _ BF=>∃Bz:Option Addr,∃B4:Nat,∃B8:Nat,∃B9:Int,Hp.ld BF ⟨CC,0,none⟩=some (.slice Bz B4 B8)∧Hp.ld BF ⟨A7,0,none⟩=some (.I B9)∧R (.T #[(.slice Bz B4 B8),(.I B9)]) BF)))∧(t29=true→AL 16 #[(.I x3)] A3 R (fun v_3 Az=>∃t33:Bool,v_3=(.bool t33)∧(t33=false→AH prog (Instr.storeAt 23 (.pointer (some ⟨CC,0,none⟩)) (.N)) Az (fun _ BF=>AH prog (Instr.storeAt 26 (.pointer (some ⟨A7,0,none⟩)) (.I 221)) BF (fun _ Be=>∃Bz:Option Addr,∃B4:Nat,∃B8:Nat,∃B9:Int,Hp.ld Be ⟨CC,0,none⟩=some (.slice Bz B4 B8)∧Hp.ld Be ⟨A7,0,none⟩=some (.I B9)∧R (.T #[(.slice Bz B4 B8),(.I B9)]) Be)))∧(t33=true→((x3:Int)<x2→AH prog (Instr.storeAt 23 (.pointer (some ⟨CC,0,none⟩)) (.N)) Az (fun _ BF=>AH prog (Instr.storeAt 26 (.pointer (some ⟨A7,0,none⟩)) (.I 221)) BF (fun _ Be=>∃Bz:Option Addr,∃B4:Nat,∃B8:Nat,∃B9:Int,Hp.ld Be ⟨CC,0,none⟩=some (.slice Bz B4 B8)∧Hp.ld Be ⟨A7,0,none⟩=some (.I B9)∧R (.T #[(.slice Bz B4 B8),(.I B9)]) Be)))∧(¬((x3:Int)<x2)→((x4:Int)<1→AH prog (Instr.storeAt 23 (.pointer (some ⟨CC,0,none⟩)) (.N)) Az (fun _ BF=>AH prog (Instr.storeAt 26 (.pointer (some ⟨A7,0,none⟩)) (.I 221)) BF (fun _ Be=>∃Bz:Option Addr,∃B4:Nat,∃B8:Nat,∃B9:Int,Hp.ld Be ⟨CC,0,none⟩=some (.slice Bz B4 B8)∧Hp.ld Be ⟨A7,0,none⟩=some (.I B9)∧R (.T #[(.slice Bz B4 B8),(.I B9)]) Be)))∧(¬((x4:Int)<1)→AM (x3-x2)∧x4≠(0:Int)∧∀Ug:Int,Ug=IntKind.i64.wrap (Int.tdiv (x3-x2) x4)→((512:Int)≤Ug→AH prog (Instr.storeAt 23 (.pointer (some ⟨CC,0,none⟩)) (.N)) Az (fun _ BF=>AH prog (Instr.storeAt 26 (.pointer (some ⟨A7,0,none⟩)) (.I 222)) BF (fun _ Be=>∃Bz:Option Addr,∃B4:Nat,∃B8:Nat,∃B9:Int,Hp.ld Be ⟨CC,0,none⟩=some (.slice Bz B4 B8)∧Hp.ld Be ⟨A7,0,none⟩=some (.I B9)∧R (.T #[(.slice Bz B4 B8),(.I B9)]) Be)))∧(¬((512:Int)≤Ug)→AH prog (Instr.makeMap 57 none) Az (fun v_4 BF=>∃m51:Nat,v_4=(.map (some m51))∧∀Bc:Nat,BF Bc=none→AH prog (Instr.storeAt 57 (.pointer (some ⟨Bc,0,none⟩)) (.map (some m51))) (Hp.set BF Bc (.cells #[(.map none)] 57 (0,0))) (fun _ Be=>∀BT:Nat,Be BT=none→AL 17 #[(.I x2),(.I x3),(.I x4)] (Hp.set Be BT (.cells #[(.N)] 23 (0,0))) R (fun v_5 NB=>∃f55:Fn,∃a55:Array Value,∃Xd:Array Value,(Value.func f55 a55 Xd)=v_5∧∃(gf:Nat) (lb:Array Value),(Value.func f55 a55 Xd)=.func (.func gf) #[] lb∧Enters prog gf∧∀(RH NC:Nat) (HP:Loop),RH≠NC→NB RH=none→NB NC=none→(∀(R2:Rr) (σ2:Hp) (uH:Int),σ2 NC=some (.loop (lp HP .ready none))→JV R2 NC HP b5 b6 CC A7 Bc BT uH σ2→GV prog NC #[(.I uH)] σ2 R2)→Spec prog gf (#[.func (.yield NC) #[] #[]]++lb) (Hp.set (Hp.set NB RH (.deferred (some []))) NC (.loop (lp HP .ready none))) (fun en JW=>∃(v:Value) (s:LoopState) (p:Option Code),en=.returned v∧JW NC=some (.loop (lp HP s p))∧s≠.busy∧((p=none∧∃uI:Option Addr,∃n114:Nat,∃uJ:Nat,Hp.ld (Hp.set JW NC (.loop (lp HP .exhausted none))) ⟨BT,0,none⟩=some (.slice uI n114 uJ)∧Spec prog 20 #[(.slice uI n114 uJ),(.func (.func 21) #[] #[])] (Hp.set JW NC (.loop (lp HP .exhausted none))) (Ap (NP R) (fun v_6 Vd=>v_6=(.tuple #[])∧∃ml:Option Addr,∃n116:Nat,∃mn:Nat,Hp.ld Vd ⟨BT,0,none⟩=some (.slice ml n116 mn)∧AH prog (Instr.storeAt 23 (.pointer (some ⟨CC,0,none⟩)) (.slice ml n116 mn)) Vd (fun _ xS=>AH prog (Instr.storeAt 26 (.pointer (some ⟨A7,0,none⟩)) (.I 0)) xS (fun _ R5=>∃Bz:Option Addr,∃B4:Nat,∃B8:Nat,∃B9:Int,R5 RH=some (.deferred (some []))∧Hp.ld (Hp.set R5 RH (.deferred none)) ⟨CC,0,none⟩=some (.slice Bz B4 B8)∧Hp.ld (Hp.set R5 RH (.deferred none)) ⟨A7,0,none⟩=some (.I B9)∧R (.T #[(.slice Bz B4 B8),(.I B9)]) (Hp.set R5 RH (.deferred none)))))))∨(p=(some .ret)∧∃Wg:Option Addr,∃Wh:Nat,∃Wi:Nat,∃Wj:Int,(Hp.set JW NC (.loop (lp HP .exhausted (some .ret)))) RH=some (.deferred (some []))∧Hp.ld (Hp.set (Hp.set JW NC (.loop (lp HP .exhausted (some .ret)))) RH (.deferred none)) ⟨CC,0,none⟩=some (.slice Wg Wh Wi)∧Hp.ld (Hp.set (Hp.set JW NC (.loop (lp HP .exhausted (some .ret)))) RH (.deferred none)) ⟨A7,0,none⟩=some (.I Wj)∧R (.T #[(.slice Wg Wh Wi),(.I Wj)]) (Hp.set (Hp.set JW NC (.loop (lp HP .exhausted (some .ret)))) RH (.deferred none)))))))))))))))))):Spec prog 6 #[(.slice p0 n0 c0),(.slice p1 n1 c1),(.I x2),(.I x3),(.I x4)] σ R:=by
 refine Spec.RW (fn:=f6) (c:=K0) func6 (by kernel_rfl) (AXZ (by kernel_rfl)) (fun e he=>?_);refine At.ofL (l:=[(0,(.slice p0 n0 c0)),(1,(.slice p1 n1 c1)),(2,(.I x2)),(3,(.I x3)),(4,(.I x4))]) ⟨he 0,he 1,he 2,he 3,he 4,trivial⟩ (fun J=>?_);show At (gl R) _ _ _ _
 refine At.s K1 K2 ?_;refine At.rg 0 [0,1,2,3] ?_;refine Seq.o ?_;refine AI.zb (T:=22) (d:=(some 5)) (ty:=0) (x:=(.tmp 0)) (gd:=none) (cs:=#[(.slice p0 n0 c0)]) (by kernel_rfl) rfl rfl rfl (fun b5 hn=>?_)
 replace h:=h b5 hn
 refine Seq.o ?_;refine AI.zb (T:=23) (d:=(some 6)) (ty:=0) (x:=(.tmp 1)) (gd:=none) (cs:=#[(.slice p1 n1 c1)]) (by kernel_rfl) rfl rfl rfl (fun b6 hn=>?_)
 replace h:=h b6 hn
 refine Seq.o ?_;refine AI.JQ (T:=23) (d:=(some 10)) (ty:=0)  (gd:=none) (cs:=#[(.N)]) (by kernel_rfl) rfl rfl zeroValue23 rfl (fun CC hn=>?_)
 replace h:=h CC hn
 refine Seq.o ?_;refine AI.JQ (T:=26) (d:=(some 11)) (ty:=0)  (gd:=none) (cs:=#[(.I 0)]) (by kernel_rfl) rfl rfl zeroValue26 rfl (fun A7 hn=>?_)
 replace h:=h A7 hn
 refine Seq.done ?_;refine At.s K3 uD (At.s K4 K5 ?_);refine At.rg 1 [0,1,2,3] ?_;obtain⟨Vc,n22,Ue,hl,h⟩:=h;refine Seq.z 22 (.load 22 (.tmp 5)) 22 (.slice Vc n22 Ue) (Y.ld isAgg22 rfl hl) ?_;obtain⟨Us,n23,RG,hl,h⟩:=h;refine Seq.z 23 (.load 23 (.tmp 6)) 23 (.slice Us n23 RG) (Y.ld isAgg23 rfl hl) ?_;refine Seq.o ?_;refine AI.cl (some 24) call15 (h.cont fun v σ1 h2=>?_);replace h:=h2;clear h2;obtain⟨HS,rfl,h⟩:=h;refine Seq.u 12 (.I HS) (Seq.done ?_);refine At.s K6 K7 ?_;refine At.rg 2 [0,1] ?_;refine Seq.us [(25,.I HS),(26,.bool (decide ((HS:Int)≠0)))] (Seq.done ?_);cases hb:(decide ((HS:Int)≠0)) with
 | true=>
  replace h:=h.1 (AWr hb)
  refine At.cT 26 K8 si ?_;refine At.s K9 lK ?_;refine At.rg 3 [0,1,2] ?_;refine Seq.u 27 (.I HS) ?_;refine Seq.o ?_;refine AI.store (T:=23) (ty:=0) (x:=(.tmp 10)) (y:=(.const (.N))) (p:=(.pointer (some ⟨CC,0,none⟩))) (v:=(.N)) (gd:=none) (by kernel_rfl) rfl rfl rfl (h.mono (fun _ A3 h2=>?_));replace h:=h2;clear h2;refine Seq.o ?_;refine AI.store (T:=26) (ty:=0) (x:=(.tmp 11)) (y:=(.tmp 27)) (p:=(.pointer (some ⟨A7,0,none⟩))) (v:=(.I HS)) (gd:=none) (by kernel_rfl) rfl rfl rfl (h.mono (fun _ Az h2=>?_));replace h:=h2;clear h2;refine Seq.done ?_;obtain⟨Bz,B4,B8,B9,PU,PW,h⟩:=h;exact At.rt [.cell 10 23,.cell 11 26] [(.slice Bz B4 B8),(.I B9)] func6 ⟨_,_,rfl,⟨_,rfl,CD isAgg23 PU⟩,⟨_,_,rfl,⟨_,rfl,CD isAgg26 PW⟩,rfl⟩⟩ h
 | false=>
  replace h:=h.2 (AW2 hb)
  refine At.cF 26 K8 si ?_;refine At.skip ?_;refine At.s sj K20 (At.s K14 K15 ?_);refine At.rg 4 [0,1,2,3,4,5,6,7,8,9,10,11,12,13,14,15,16] ?_;refine Seq.u 28 (.I x2) ?_;refine Seq.o ?_;refine AI.cl (some 29) call16 (h.cont fun Uf A3 h2=>?_);replace h:=h2;clear h2;obtain⟨t29,rfl,h⟩:=h;refine Seq.us [(30,.bool (!t29)),(31,.bool (!t29))] ?_;cases hb:(!t29) with
  | true=>
   replace h:=h.1 (Tw.nt hb)
   refine Seq.n 32 ?_;refine Seq.n 33 ?_;refine Seq.n 34 ?_;refine Seq.us [(35,.bool true),(36,.bool true)] ?_;refine Seq.n 37 ?_;refine Seq.n 38 ?_;refine Seq.n 39 ?_;refine Seq.us [(40,.bool true),(41,.bool true)] ?_;refine Seq.n 42 ?_;refine Seq.n 43 ?_;refine Seq.u 44 (.bool true) (Seq.done ?_);refine At.cT 44 uE uF ?_;refine At.s xO K18 ?_;refine At.rg 5 [0,1] ?_;refine Seq.o ?_;refine AI.store (T:=23) (ty:=0) (x:=(.tmp 10)) (y:=(.const (.N))) (p:=(.pointer (some ⟨CC,0,none⟩))) (v:=(.N)) (gd:=none) (by kernel_rfl) rfl rfl rfl (h.mono (fun _ Az h2=>?_));replace h:=h2;clear h2;refine Seq.o ?_;refine AI.store (T:=26) (ty:=0) (x:=(.tmp 11)) (y:=(.const (.I 221))) (p:=(.pointer (some ⟨A7,0,none⟩))) (v:=(.I 221)) (gd:=none) (by kernel_rfl) rfl rfl rfl (h.mono (fun _ BF h2=>?_));replace h:=h2;clear h2;refine Seq.done ?_;obtain⟨Bz,B4,B8,B9,PU,PW,h⟩:=h;exact At.rt [.cell 10 23,.cell 11 26] [(.slice Bz B4 B8),(.I B9)] func6 ⟨_,_,rfl,⟨_,rfl,CD isAgg23 PU⟩,⟨_,_,rfl,⟨_,rfl,CD isAgg26 PW⟩,rfl⟩⟩ h
  | false=>
   replace h:=h.2 (Tw.nf hb)
   refine Seq.u 32 (.I x3) ?_;refine Seq.o ?_;refine AI.cl (some 33) call16 (h.cont fun v_3 Az h2=>?_);replace h:=h2;clear h2;obtain⟨t33,rfl,h⟩:=h;refine Seq.us [(34,.bool (!t33)),(35,.bool (!t33)),(36,.bool (!t33))] ?_;cases hb:(!t33) with
   | true=>
    replace h:=h.1 (Tw.nt hb)
    refine Seq.n 37 ?_;refine Seq.n 38 ?_;refine Seq.n 39 ?_;refine Seq.us [(40,.bool true),(41,.bool true)] ?_;refine Seq.n 42 ?_;refine Seq.n 43 ?_;refine Seq.u 44 (.bool true) (Seq.done ?_);refine At.L [(2,(.I x2)),(3,(.I x3)),(4,(.I x4)),(5,(.pointer (some ⟨b5,0,none⟩))),(6,(.pointer (some ⟨b6,0,none⟩))),(10,(.pointer (some ⟨CC,0,none⟩))),(11,(.pointer (some ⟨A7,0,none⟩))),(44,(.bool true))] fun J=>?_;refine At.cT 44 uE uF ?_;refine At.s xO K18 ?_;refine At.rg 5 [0,1] ?_;refine Seq.o ?_;refine AI.store (T:=23) (ty:=0) (x:=(.tmp 10)) (y:=(.const (.N))) (p:=(.pointer (some ⟨CC,0,none⟩))) (v:=(.N)) (gd:=none) (by kernel_rfl) rfl rfl rfl (h.mono (fun _ BF h2=>?_));replace h:=h2;clear h2;refine Seq.o ?_;refine AI.store (T:=26) (ty:=0) (x:=(.tmp 11)) (y:=(.const (.I 221))) (p:=(.pointer (some ⟨A7,0,none⟩))) (v:=(.I 221)) (gd:=none) (by kernel_rfl) rfl rfl rfl (h.mono (fun _ Be h2=>?_));replace h:=h2;clear h2;refine Seq.done ?_;obtain⟨Bz,B4,B8,B9,PU,PW,h⟩:=h;exact At.rt [.cell 10 23,.cell 11 26] [(.slice Bz B4 B8),(.I B9)] func6 ⟨_,_,rfl,⟨_,rfl,CD isAgg23 PU⟩,⟨_,_,rfl,⟨_,rfl,CD isAgg26 PW⟩,rfl⟩⟩ h
   | false=>
    replace h:=h.2 (Tw.nf hb)
    refine Seq.us [(37,.I x2),(38,.I x3),(39,.bool (decide ((x3:Int)<x2))),(40,.bool (decide ((x3:Int)<x2))),(41,.bool (decide ((x3:Int)<x2)))] ?_;cases hb:(decide ((x3:Int)<x2)) with
    | true=>
     replace h:=h.1 (AWr hb)
     refine Seq.n 42 ?_;refine Seq.n 43 ?_;refine Seq.u 44 (.bool true) (Seq.done ?_);refine At.cT 44 uE uF ?_;refine At.s xO K18 ?_;refine At.rg 5 [0,1] ?_;refine Seq.o ?_;refine AI.store (T:=23) (ty:=0) (x:=(.tmp 10)) (y:=(.const (.N))) (p:=(.pointer (some ⟨CC,0,none⟩))) (v:=(.N)) (gd:=none) (by kernel_rfl) rfl rfl rfl (h.mono (fun _ BF h2=>?_));replace h:=h2;clear h2;refine Seq.o ?_;refine AI.store (T:=26) (ty:=0) (x:=(.tmp 11)) (y:=(.const (.I 221))) (p:=(.pointer (some ⟨A7,0,none⟩))) (v:=(.I 221)) (gd:=none) (by kernel_rfl) rfl rfl rfl (h.mono (fun _ Be h2=>?_));replace h:=h2;clear h2;refine Seq.done ?_;obtain⟨Bz,B4,B8,B9,PU,PW,h⟩:=h;exact At.rt [.cell 10 23,.cell 11 26] [(.slice Bz B4 B8),(.I B9)] func6 ⟨_,_,rfl,⟨_,rfl,CD isAgg23 PU⟩,⟨_,_,rfl,⟨_,rfl,CD isAgg26 PW⟩,rfl⟩⟩ h
    | false=>
     replace h:=h.2 (AW2 hb)
     refine Seq.us [(42,.I x4),(43,.bool (decide ((x4:Int)<1))),(44,.bool (decide ((x4:Int)<1)))] (Seq.done ?_);cases hb:(decide ((x4:Int)<1)) with
     | true=>
      replace h:=h.1 (AWr hb)
      refine At.cT 44 uE uF ?_;refine At.s xO K18 ?_;refine At.rg 5 [0,1] ?_;refine Seq.o ?_;refine AI.store (T:=23) (ty:=0) (x:=(.tmp 10)) (y:=(.const (.N))) (p:=(.pointer (some ⟨CC,0,none⟩))) (v:=(.N)) (gd:=none) (by kernel_rfl) rfl rfl rfl (h.mono (fun _ BF h2=>?_));replace h:=h2;clear h2;refine Seq.o ?_;refine AI.store (T:=26) (ty:=0) (x:=(.tmp 11)) (y:=(.const (.I 221))) (p:=(.pointer (some ⟨A7,0,none⟩))) (v:=(.I 221)) (gd:=none) (by kernel_rfl) rfl rfl rfl (h.mono (fun _ Be h2=>?_));replace h:=h2;clear h2;refine Seq.done ?_;obtain⟨Bz,B4,B8,B9,PU,PW,h⟩:=h;exact At.rt [.cell 10 23,.cell 11 26] [(.slice Bz B4 B8),(.I B9)] func6 ⟨_,_,rfl,⟨_,rfl,CD isAgg23 PU⟩,⟨_,_,rfl,⟨_,rfl,CD isAgg26 PW⟩,rfl⟩⟩ h
     | false=>
      replace h:=h.2 (AW2 hb)
      refine At.cF 44 uE uF ?_;refine At.skip ?_;refine At.s K21 K28 (At.s K22 K23 ?_);refine At.rg 6 [0,1,2,3,4,5] ?_;refine Seq.us [(45,.I x3),(46,.I x2)] ?_;obtain⟨hi,h⟩:=h;refine Seq.z 47 (.binOp .sub 2 (.tmp 45) (.tmp 46) 2) 2 (.I (x3-x2)) (Y.iu hi rfl rfl) ?_;refine Seq.u 48 (.I x4) ?_;obtain⟨hc,h⟩:=h;obtain⟨Ug,xT⟩:∃y,y=IntKind.i64.wrap (Int.tdiv (x3-x2) x4):=⟨_,rfl⟩
      replace h:=h Ug xT
      refine Seq.y (d:=(some 49)) (op:=(.binOp .quo 2 (.tmp 47) (.tmp 48) 2)) (ty:=2) (v:=(.I Ug)) (by kernel_rfl) rfl (xT▸Y.quo hc rfl rfl) ?_;refine Seq.u 50 (.bool (decide ((512:Int)≤Ug))) (Seq.done ?_);cases hb:(decide ((512:Int)≤Ug)) with
      | true=>
       replace h:=h.1 (AWr hb)
       refine At.cT 50 K24 xP ?_;refine At.s K25 K26 ?_;refine At.rg 7 [0,1] ?_;refine Seq.o ?_;refine AI.store (T:=23) (ty:=0) (x:=(.tmp 10)) (y:=(.const (.N))) (p:=(.pointer (some ⟨CC,0,none⟩))) (v:=(.N)) (gd:=none) (by kernel_rfl) rfl rfl rfl (h.mono (fun _ BF h2=>?_));replace h:=h2;clear h2;refine Seq.o ?_;refine AI.store (T:=26) (ty:=0) (x:=(.tmp 11)) (y:=(.const (.I 222))) (p:=(.pointer (some ⟨A7,0,none⟩))) (v:=(.I 222)) (gd:=none) (by kernel_rfl) rfl rfl rfl (h.mono (fun _ Be h2=>?_));replace h:=h2;clear h2;refine Seq.done ?_;obtain⟨Bz,B4,B8,B9,PU,PW,h⟩:=h;exact At.rt [.cell 10 23,.cell 11 26] [(.slice Bz B4 B8),(.I B9)] func6 ⟨_,_,rfl,⟨_,rfl,CD isAgg23 PU⟩,⟨_,_,rfl,⟨_,rfl,CD isAgg26 PW⟩,rfl⟩⟩ h
      | false=>
       replace h:=h.2 (AW2 hb)
       refine At.cF 50 K24 xP ?_;refine At.skip ?_;refine At.s K29 K30 ?_;refine At.rg 8 [0,1,2] ?_;refine Seq.o ?_;refine AI.QA (d:=(some 51)) (op:=(.makeMap 57 none)) (ty:=57) (gd:=none) (by kernel_rfl) rfl rfl (Instr.makeMap 57 none) (fun o ho ht=>by simp only[execOp,ho];rfl) (h.mono (fun v_4 BF h2=>?_));replace h:=h2;clear h2;obtain⟨m51,rfl,h⟩:=h;refine Seq.o ?_;refine AI.JQ (T:=57) (d:=(some 13)) (ty:=0)  (gd:=none) (cs:=#[(.map none)]) (by kernel_rfl) rfl rfl zeroValue57 rfl (fun Bc hn=>?_)
       replace h:=h Bc hn
       refine Seq.o ?_;refine AI.store (T:=57) (ty:=0) (x:=(.tmp 13)) (y:=(.tmp 51)) (p:=(.pointer (some ⟨Bc,0,none⟩))) (v:=(.map (some m51))) (gd:=none) (by kernel_rfl) rfl rfl rfl (h.mono (fun _ Be h2=>?_));replace h:=h2;clear h2;refine Seq.done ?_;refine At.s K31 K32 ?_;refine At.rg 9 [0] ?_;refine Seq.o ?_;refine AI.JQ (T:=23) (d:=(some 14)) (ty:=0)  (gd:=none) (cs:=#[(.N)]) (by kernel_rfl) rfl rfl zeroValue23 rfl (fun BT hn=>?_)
       replace h:=h BT hn
       refine Seq.done ?_;refine At.s K33 K77 (At.s K34 K35 ?_);refine At.rg 10 [0,1,2,3] ?_;refine Seq.us [(52,.I x2),(53,.I x3),(54,.I x4)] ?_;refine Seq.o ?_;refine AI.cl (some 55) call17 (h.cont fun v_5 NB h2=>?_);replace h:=h2;clear h2;obtain⟨f55,a55,Xd,rfl,h⟩:=h;refine Seq.done ?_;refine At.b 0 K36 ?_;obtain⟨gf,lb,hgv,JG,h⟩:=h;refine At.range (gop:=(.tmp 55)) (ps:=#[56]) (assign:=K37) (body:=K38) (gf:=gf) (lb:=lb) (by kernel_rfl) rfl rfl hgv JG (fun RH NC HP hDl hD hl mo mq hra hrb hrs hre=>?_);refine(h RH NC HP hDl hD hl (fun R2 σ2 uH AAf hp=>GV.RW (n:=117) AAf mq hrs (by decide) hre (fn:=f6) (by rw[mo];exact func6) ?_)).mono (fun en JW h=>?_)
       ·rw[mo,hra,hrb];exact At.v [(5,(.pointer (some ⟨b5,0,none⟩))),(6,(.pointer (some ⟨b6,0,none⟩))),(10,(.pointer (some ⟨CC,0,none⟩))),(11,(.pointer (some ⟨A7,0,none⟩))),(13,(.pointer (some ⟨Bc,0,none⟩))),(14,(.pointer (some ⟨BT,0,none⟩))),(56,(.I uH))] (hp _)
       obtain⟨v,s,p,he,l6,hs,h⟩:=h;refine⟨v,s,p,he,l6,hs,?_⟩;rcases h with h|h
       ·obtain⟨rfl,h⟩:=h;show At (Gl.behind prog 6 117 RH R) [.inBlock 0,.code K77] _ _ _
        refine At.inBlock ?_;refine At.s K78 K79 ?_;refine At.rg 25 [0,1] ?_;obtain⟨uI,n114,uJ,hl,h⟩:=h;refine Seq.z 114 (.load 23 (.tmp 14)) 23 (.slice uI n114 uJ) (Y.ld isAgg23 rfl hl) ?_;refine Seq.o ?_;refine AI.cl (some 115) call20 (h.cont fun v_6 Vd h2=>?_);replace h:=h2;clear h2;obtain⟨rfl,h⟩:=h;refine Seq.done ?_;refine At.L [(10,(.pointer (some ⟨CC,0,none⟩))),(11,(.pointer (some ⟨A7,0,none⟩))),(14,(.pointer (some ⟨BT,0,none⟩)))] fun J=>?_;refine At.s K80 K81 ?_;refine At.rg 26 [0,1,2] ?_;obtain⟨ml,n116,mn,hl,h⟩:=h;refine Seq.z 116 (.load 23 (.tmp 14)) 23 (.slice ml n116 mn) (Y.ld isAgg23 rfl hl) ?_;refine Seq.o ?_;refine AI.store (T:=23) (ty:=0) (x:=(.tmp 10)) (y:=(.tmp 116)) (p:=(.pointer (some ⟨CC,0,none⟩))) (v:=(.slice ml n116 mn)) (gd:=none) (by kernel_rfl) rfl rfl rfl (h.mono (fun _ xS h2=>?_));replace h:=h2;clear h2;refine Seq.o ?_;refine AI.store (T:=26) (ty:=0) (x:=(.tmp 11)) (y:=(.const (.I 0))) (p:=(.pointer (some ⟨A7,0,none⟩))) (v:=(.I 0)) (gd:=none) (by kernel_rfl) rfl rfl rfl (h.mono (fun _ R5 h2=>?_));replace h:=h2;clear h2;refine Seq.done ?_;obtain⟨Bz,B4,B8,B9,mX,PU,PW,h⟩:=h;exact At.Uj (rs:=[.cell 10 23,.cell 11 26]) (vs:=[(.slice Bz B4 B8),(.I B9)]) (by kernel_rfl) func6 (by kernel_rfl) ⟨_,_,rfl,⟨_,rfl,CD isAgg23 PU⟩,⟨_,_,rfl,⟨_,rfl,CD isAgg26 PW⟩,rfl⟩⟩ h rfl (bu mX)
       ·obtain⟨rfl,h⟩:=h;show At (Gl.behind prog 6 117 RH R) [.code K82,.inBlock 0,.code K77] _ _ _
        obtain⟨Wg,Wh,Wi,Wj,mX,AAg,AAh,h⟩:=h;exact At.Uj (rs:=[.cell 10 23,.cell 11 26]) (vs:=[(.slice Wg Wh Wi),(.I Wj)]) (by kernel_rfl) func6 (by kernel_rfl) ⟨_,_,rfl,⟨_,rfl,CD isAgg23 AAg⟩,⟨_,_,rfl,⟨_,rfl,CD isAgg26 AAh⟩,rfl⟩⟩ h rfl (bu mX)
def Kx {R:Rr}{l b5 b6 CC A7 Bc BT:Nat}{r0:Loop}{xR:Int}{σ:Hp}(h:σ l=some (.loop (lp r0 .ready none))∧∃Mu:Option Addr,∃ND:Nat,∃N9:Nat,Hp.ld (Hp.set σ l (.loop (lp r0 .busy none))) ⟨b5,0,none⟩=some (.slice Mu ND N9)∧∃jT:Option Addr,∃n59:Nat,∃jU:Nat,Hp.ld (Hp.set σ l (.loop (lp r0 .busy none))) ⟨b6,0,none⟩=some (.slice jT n59 jU)∧Spec prog 18 #[(.slice Mu ND N9),(.slice jT n59 jU),(.I xR)] (Hp.set σ l (.loop (lp r0 .busy none))) (Ap (NP R) (fun v σ1=>∃YW:Option Addr,∃R6:Nat,∃YX:Nat,∃PY:Int,v=(.tuple #[(.slice YW R6 YX),(.I PY)])∧((PY:Int)≠0→AH prog (Instr.storeAt 23 (.pointer (some ⟨CC,0,none⟩)) (.N)) σ1 (fun _ A3=>AH prog (Instr.storeAt 26 (.pointer (some ⟨A7,0,none⟩)) (.I PY)) A3 (fun _ Az=>Az l=some (.loop (lp r0 .busy none))∧R (.B false) (Hp.set Az l (.loop (lp r0 .done (some .ret)))))))∧(¬((PY:Int)≠0)→Wf R l r0 Bc BT xR YW R6 YX ((R6:Int)) 0 σ1)))):JV R l r0 b5 b6 CC A7 Bc BT xR σ:=by
 intro J;show At (Gl.round prog 6 117 l R) _ _ _ _
 refine At.rg 11 [0] ?_;refine Seq.u 15 (.I xR) (Seq.done ?_);obtain⟨bL,h⟩:=h;refine At.beginRound rfl bL ?_;refine At.b 1 K39 ?_;refine At.s K40 xQ ?_;refine At.rg 12 [0,1,2,3,4,5,6,7,8] ?_;obtain⟨Mu,ND,N9,hl,h⟩:=h;refine Seq.z 58 (.load 22 (.tmp 5)) 22 (.slice Mu ND N9) (Y.ld isAgg22 rfl hl) ?_;obtain⟨jT,n59,jU,hl,h⟩:=h;refine Seq.z 59 (.load 23 (.tmp 6)) 23 (.slice jT n59 jU) (Y.ld isAgg23 rfl hl) ?_;refine Seq.u 60 (.I xR) ?_;refine Seq.o ?_;refine AI.cl (some 61) call18 (h.cont fun v σ1 h2=>?_);replace h:=h2;clear h2;obtain⟨YW,R6,YX,PY,rfl,h⟩:=h;refine Seq.us [(57,.tuple #[(.slice YW R6 YX),(.I PY)]),(62,.slice YW R6 YX),(63,.I PY),(16,.slice YW R6 YX),(17,.I PY)] (Seq.done ?_);refine At.s K42 K49 (At.s K43 K44 ?_);refine At.rg 13 [0,1] ?_;refine Seq.us [(64,.I PY),(65,.bool (decide ((PY:Int)≠0)))] (Seq.done ?_);cases hb:(decide ((PY:Int)≠0)) with
 | true=>
  replace h:=h.1 (AWr hb)
  refine At.cT 65 K45 K48 ?_;refine At.s K46 K47 ?_;refine At.rg 14 [0,1,2] ?_;refine Seq.u 66 (.I PY) ?_;refine Seq.o ?_;refine AI.store (T:=23) (ty:=0) (x:=(.tmp 10)) (y:=(.const (.N))) (p:=(.pointer (some ⟨CC,0,none⟩))) (v:=(.N)) (gd:=none) (by kernel_rfl) rfl rfl rfl (h.mono (fun _ A3 h2=>?_));replace h:=h2;clear h2;refine Seq.o ?_;refine AI.store (T:=26) (ty:=0) (x:=(.tmp 11)) (y:=(.tmp 66)) (p:=(.pointer (some ⟨A7,0,none⟩))) (v:=(.I PY)) (gd:=none) (by kernel_rfl) rfl rfl rfl (h.mono (fun _ Az h2=>?_));replace h:=h2;clear h2;refine Seq.done ?_;exact At.lY (by kernel_rfl) rfl h.1 h.2
 | false=>
  replace h:=h.2 (AW2 hb)
  refine At.cF 65 K45 K48 ?_;refine At.skip ?_;refine At.s K50 K51 ?_;refine At.rg 15 [0,1,2] ?_;refine Seq.u 67 (.slice YW R6 YX) ?_;refine Seq.z 68 (.call { callee:=.builtin .len,args:=#[(.tmp 67)],argTypes:=#[60] }) 3 (.I (R6:Int)) (Y.lf underlying60 rfl rfl) ?_;refine Seq.u 69 (.I 0) (Seq.done ?_);refine At.b 2 K52 ?_;refine At.loop (x:=K53) (by kernel_rfl) ?_;refine At.s K54 K55 ?_;exact At.v [(13,(.pointer (some ⟨Bc,0,none⟩))),(14,(.pointer (some ⟨BT,0,none⟩))),(15,(.I xR)),(67,(.slice YW R6 YX)),(68,(.I (R6:Int))),(69,(.I 0))] (h _)
def fx {R:Rr}{l Bc BT Kw RF:Nat}{r0:Loop}{x15 Lc Ma:Int}{Ur:Option Addr}{σ:Hp}(h:((Ma:Int)<Lc→∃(Ve lL:Nat),Ur=some ⟨Ve,lL,none⟩∧((0:Int)≤Ma∧Ma<(Kw:Int))∧∃mr:Option Addr,∃mu:Nat,∃mw:Nat,∃JX:Int,Av σ Ve (lL+Ma.toNat*2) [(.slice mr mu mw),(.U JX)]∧∀BR:Nat,σ BR=none→AH prog (Instr.storeAt 64 (.pointer (some ⟨BR,0,none⟩)) (.agg #[(.slice mr mu mw),(.U JX)])) (Hp.set σ BR (.cells #[(.N),(.U 0)] 64 (0,0))) (fun _ σ1=>∃dD:Option Nat,Hp.ld σ1 ⟨Bc,0,none⟩=some (.map dD)∧∃p76:Option Addr,∃n76:Nat,∃c76:Nat,Hp.ld σ1 ⟨BR,0,none⟩=some (.slice p76 n76 c76)∧Spec prog 19 #[(.slice p76 n76 c76)] σ1 (Ap (NP R) (fun v A3=>∃s77:ByteArray,v=(.string s77)∧Kp [Bc] σ1 A3∧AH prog (Instr.lookup 57 (.map dD) (.string s77) true) A3 (fun Uf Az=>∃dE:Int,∃Ut:Bool,Uf=(.tuple #[(.I dE),(.bool Ut)])∧(Ut=false→∃uK:Option Addr,∃YY:Nat,∃uL:Nat,Hp.ld Az ⟨BT,0,none⟩=some (.slice uK YY uL)∧∃m85:Option Nat,Hp.ld Az ⟨Bc,0,none⟩=some (.map m85)∧∃p87:Option Addr,∃n87:Nat,∃c87:Nat,Hp.ld Az ⟨BR,0,none⟩=some (.slice p87 n87 c87)∧Spec prog 19 #[(.slice p87 n87 c87)] Az (Ap (NP R) (fun v_3 BF=>∃s88:ByteArray,v_3=(.string s88)∧Kp [Bc] Az BF∧AH prog (Instr.mapUpdate 57 (.map m85) (.string s88) (.I (YY:Int))) BF (fun _ Be=>∃p90:Option Addr,∃n90:Nat,∃c90:Nat,Hp.ld Be ⟨BT,0,none⟩=some (.slice p90 n90 c90)∧∃p93:Option Addr,∃n93:Nat,∃c93:Nat,Hp.ld Be ⟨BR,0,none⟩=some (.slice p93 n93 c93)∧∀fy:Nat,Be fy=none→AH prog (Builtin.append_ #[37,37] 37 #[(.slice (some ⟨fy,0,none⟩) 0 0),(.slice p93 n93 c93)]) (Hp.set Be fy (.cells #[] 36 (0,0))) (fun v_4 NB=>∃uM:Option Addr,∃uN:Nat,∃uO:Nat,v_4=(.slice uM uN uO)∧Kp [BT] (Hp.set Be fy (.cells #[] 36 (0,0))) NB∧∀uP:Nat,NB uP=none→AH prog (Builtin.append_ #[23,23] 23 #[(.slice p90 n90 c90),(.slice (some ⟨uP,0,none⟩) 1 1)]) (Hp.set NB uP (.cells #[(.slice uM uN uO),(.N)] 45 (0,0))) (fun v_5 JW=>∃p97:Option Addr,∃n97:Nat,∃c97:Nat,v_5=(.slice p97 n97 c97)∧AH prog (Instr.storeAt 23 (.pointer (some ⟨BT,0,none⟩)) (.slice p97 n97 c97)) JW (fun _ Vd=>uG R l r0 Bc BT x15 BR ((YY:Int)) ((some ⟨Ve,lL,none⟩)) Kw RF Lc Ma Vd)))))))∧(Ut=true→uG R l r0 Bc BT x15 BR dE ((some ⟨Ve,lL,none⟩)) Kw RF Lc Ma Az))))))∧(¬((Ma:Int)<Lc)→σ l=some (.loop (lp r0 .busy none))∧R (.B true) (Hp.set σ l (.loop (lp r0 .ready none))))):Wf R l r0 Bc BT x15 Ur Kw RF Lc Ma σ:=by
 intro J;show At (Gl.round prog 6 117 l R) _ _ _ _
 refine At.rg 16 [0] ?_;refine Seq.u 70 (.bool (decide ((Ma:Int)<Lc))) (Seq.done ?_);refine At.s K56 K59 ?_;cases hb:(decide ((Ma:Int)<Lc)) with
 | true=>
  replace h:=h.1 (AWr hb)
  refine At.cT 70 K57 K58 ?_;refine At.skip ?_;refine At.s K60 K76 ?_;refine At.b 3 K61 ?_;refine At.s K62 K63 ?_;refine At.rg 17 [0,1,2,3] ?_;obtain⟨Ve,lL,hq,h⟩:=h;subst hq;obtain⟨hi,h⟩:=h;refine Seq.z 71 (.indexAddr 60 (.tmp 67) (.tmp 69)) 0 (.pointer (some ⟨Ve,(lL+Ma.toNat*2),none⟩)) (Y.idx underlying60 sizeOf64 rfl rfl hi rfl) ?_;obtain⟨mr,mu,mw,JX,hl,h⟩:=h;refine Seq.z 72 (.load 64 (.tmp 71)) 64 (.agg #[(.slice mr mu mw),(.U JX)]) (Y.lda isAgg64 sizeOf64 rfl rfl hl) ?_;refine Seq.o ?_;refine AI.JQ (T:=64) (d:=(some 19)) (ty:=0)  (gd:=none) (cs:=#[(.N),(.U 0)]) (by kernel_rfl) rfl rfl zeroValue64 rfl (fun BR hn=>?_)
  replace h:=h BR hn
  refine Seq.o ?_;refine AI.store (T:=64) (ty:=0) (x:=(.tmp 19)) (y:=(.tmp 72)) (p:=(.pointer (some ⟨BR,0,none⟩))) (v:=(.agg #[(.slice mr mu mw),(.U JX)])) (gd:=none) (by kernel_rfl) rfl rfl rfl (h.mono (fun _ σ1 h2=>?_));replace h:=h2;clear h2;refine Seq.done ?_;refine At.s K64 K65 ?_;refine At.draw (id:=18) (ops:=cO K64) (n:=10) (q:=(some [])) (plan:=[(0,true),(1,true),(2,true),(3,false),(4,false),(5,true),(6,true),(7,true),(8,true),(9,true)]) (tl:=[]) mixed (by kernel_rfl) (by kernel_rfl) ?_;obtain⟨dD,hl,h⟩:=h;refine Head.yl Bc [[4]] rfl (by kernel_rfl) (d:=(some 74)) (op:=(.load 57 (.tmp 13))) (ty:=57) (v:=(.map dD)) (by kernel_rfl) rfl (Y.ld isAgg57 rfl (C3 hl)) ?_;refine Head.z 75 (.fieldAddr 64 (.tmp 19) 0) 0 (.pointer (some ⟨BR,0,none⟩)) (Y.fieldAddr (fd:=(EK prog 64 0)) underlying64 (by kernel_rfl) sizeOf37 rfl rfl) ?_;obtain⟨p76,n76,c76,hl,h⟩:=h;refine Head.yl BR [[3],[4,3]] rfl (by kernel_rfl) (d:=(some 76)) (op:=(.load 37 (.tmp 75))) (ty:=37) (v:=(.slice p76 n76 c76)) (by kernel_rfl) rfl (Y.ld isAgg37 rfl (C3 hl)) ?_;refine Head.o (q':=(some [(Bc,[4])])) rfl ?_;refine AI.cl (some 77) call19 (h.cont fun v A3 h2=>?_);replace h:=h2;clear h2;obtain⟨s77,rfl,hk,h⟩:=h;refine⟨⟨fun _ h=>h,Uk (L:=[(Bc,[4])]) hk⟩,?_⟩;refine Head.o (q':=(some [])) rfl ?_;refine AI.QA (d:=(some 78)) (op:=(.lookup 57 (.tmp 74) (.tmp 77) true)) (ty:=65) (gd:=none) (by kernel_rfl) rfl rfl (Instr.lookup 57 (.map dD) (.string s77) true) (fun o ho ht=>by simp only[execOp,ho];rfl) (h.mono (fun Uf Az h2=>?_));replace h:=h2;clear h2;obtain⟨dE,Ut,rfl,h⟩:=h;refine⟨⟨fun _ h=>h,Uk (L:=[]) Kp.nil⟩,?_⟩;refine Head.u 73 (.tuple #[(.I dE),(.bool Ut)]) ?_;refine Head.u 79 (.I dE) ?_;refine Head.u 80 (.bool Ut) ?_;refine Head.u 20 (.I dE) ?_;refine Head.u 21 (.bool Ut) ?_;refine Head.done ?_;refine Seq.done ?_;refine At.s K66 K75 (At.s K67 K68 ?_);refine At.rg 19 [0,1] ?_;refine Seq.us [(81,.bool Ut),(82,.bool (!Ut))] (Seq.done ?_);cases hb:(!Ut) with
  | true=>
   replace h:=h.1 (Tw.nt hb)
   refine At.cT 82 K69 K74 ?_;refine At.s K70 K71 ?_;refine At.rg 20 [0,1,2] ?_;obtain⟨uK,YY,uL,hl,h⟩:=h;refine Seq.z 83 (.load 23 (.tmp 14)) 23 (.slice uK YY uL) (Y.ld isAgg23 rfl hl) ?_;refine Seq.z 84 (.call { callee:=.builtin .len,args:=#[(.tmp 83)],argTypes:=#[23] }) 3 (.I (YY:Int)) (Y.lf underlying23 rfl rfl) ?_;refine Seq.u 20 (.I (YY:Int)) (Seq.done ?_);refine At.s K72 K73 ?_;refine At.draw (id:=21) (ops:=cO K72) (n:=5) (q:=(some [])) (plan:=[(0,true),(1,true),(2,true),(4,true),(3,false)]) (tl:=[5]) mixed (by kernel_rfl) (by kernel_rfl) ?_;obtain⟨m85,hl,h⟩:=h;refine Head.yl Bc [] rfl (by kernel_rfl) (d:=(some 85)) (op:=(.load 57 (.tmp 13))) (ty:=57) (v:=(.map m85)) (by kernel_rfl) rfl (Y.ld isAgg57 rfl (C3 hl)) ?_;refine Head.z 86 (.fieldAddr 64 (.tmp 19) 0) 0 (.pointer (some ⟨BR,0,none⟩)) (Y.fieldAddr (fd:=(EK prog 64 0)) underlying64 (by kernel_rfl) sizeOf37 rfl rfl) ?_;obtain⟨p87,n87,c87,hl,h⟩:=h;refine Head.yl BR [[3]] rfl (by kernel_rfl) (d:=(some 87)) (op:=(.load 37 (.tmp 86))) (ty:=37) (v:=(.slice p87 n87 c87)) (by kernel_rfl) rfl (Y.ld isAgg37 rfl (C3 hl)) ?_;refine Head.u 89 (.I (YY:Int)) ?_;refine Head.o (q':=(some [(Bc,[])])) rfl ?_;refine AI.cl (some 88) call19 (h.cont fun v_3 BF h2=>?_);replace h:=h2;clear h2;obtain⟨s88,rfl,hk,h⟩:=h;refine⟨⟨fun _ h=>h,Uk (L:=[(Bc,[])]) hk⟩,?_⟩;refine Head.done ?_;refine Seq.o ?_;refine AI.tS (d:=none) (op:=(.mapUpdate 57 (.tmp 85) (.tmp 88) (.tmp 89))) (ty:=0) (gd:=none) (by kernel_rfl) rfl rfl (Instr.mapUpdate 57 (.map m85) (.string s88) (.I (YY:Int))) (fun o ho ht=>by simp only[execOp,ho];rfl) (h.mono (fun _ Be h2=>?_));replace h:=h2;clear h2;refine Seq.done ?_;refine At.draw (id:=22) (ops:=cO K73) (n:=7) (q:=(some [])) (plan:=[(0,true),(2,true),(3,true),(1,false),(4,false),(5,true),(6,false)]) (tl:=[7,8]) mixed (by kernel_rfl) (by kernel_rfl) ?_;obtain⟨p90,n90,c90,hl,h⟩:=h;refine Head.yl BT [] rfl (by kernel_rfl) (d:=(some 90)) (op:=(.load 23 (.tmp 14))) (ty:=23) (v:=(.slice p90 n90 c90)) (by kernel_rfl) rfl (Y.ld isAgg23 rfl (C3 hl)) ?_;refine Head.z 92 (.fieldAddr 64 (.tmp 19) 0) 0 (.pointer (some ⟨BR,0,none⟩)) (Y.fieldAddr (fd:=(EK prog 64 0)) underlying64 (by kernel_rfl) sizeOf37 rfl rfl) ?_;obtain⟨p93,n93,c93,hl,h⟩:=h;refine Head.yl BR [[4],[6,5,4]] rfl (by kernel_rfl) (d:=(some 93)) (op:=(.load 37 (.tmp 92))) (ty:=37) (v:=(.slice p93 n93 c93)) (by kernel_rfl) rfl (Y.ld isAgg37 rfl (C3 hl)) ?_;refine Head.o (q':=(some [(BR,[4,6]),(BT,[])])) rfl ?_;refine AI.GO (T:=37) (E:=36) (m:=0) (ps:=#[]) (d:=(some 91)) (ty:=37) (gd:=none) (vs:=[]) (cs:=#[]) underlying37 (by kernel_rfl) rfl rfl rfl (by kernel_rfl) (fun fy hn=>?_);refine⟨⟨fun _ h=>h,Uk (Kp.HI (Ext.set hn))⟩,?_⟩
   replace h:=h fy hn
   refine Head.o (q':=(some [(BT,[])])) rfl ?_;refine AI.QA (d:=(some 94)) (op:=(.call { callee:=.builtin .append,args:=#[(.tmp 91),(.tmp 93)],argTypes:=#[37,37] })) (ty:=37) (gd:=none) (by kernel_rfl) rfl rfl (Builtin.append_ #[37,37] 37 #[(.slice (some ⟨fy,0,none⟩) 0 0),(.slice p93 n93 c93)]) (fun o ho ht=>Cn rfl rfl o ho ht) (h.mono (fun v_4 NB h2=>?_));replace h:=h2;clear h2;obtain⟨uM,uN,uO,rfl,hk,h⟩:=h;refine⟨⟨fun _ h=>h,Uk (L:=[(BT,[])]) hk⟩,?_⟩;refine Head.z 95 (.build 45 #[(0,(.tmp 94))]) 45 (.agg #[(.slice uM uN uO),(.N)]) (Y.build (vs:=[(0,(.slice uM uN uO))]) rfl (by kernel_rfl)) ?_;refine Head.o (q':=(some [(BT,[])])) rfl ?_;refine AI.GO (T:=23) (E:=45) (m:=1) (ps:=#[(0,(.tmp 95))]) (d:=(some 96)) (ty:=23) (gd:=none) (vs:=[(0,(.agg #[(.slice uM uN uO),(.N)]))]) (cs:=#[(.slice uM uN uO),(.N)]) underlying23 (by kernel_rfl) rfl rfl rfl (by kernel_rfl) (fun uP hn=>?_);refine⟨⟨fun _ h=>h,Uk (Kp.HI (Ext.set hn))⟩,?_⟩
   replace h:=h uP hn
   refine Head.done ?_;refine Seq.o ?_;refine AI.QA (d:=(some 97)) (op:=(.call { callee:=.builtin .append,args:=#[(.tmp 90),(.tmp 96)],argTypes:=#[23,23] })) (ty:=23) (gd:=none) (by kernel_rfl) rfl rfl (Builtin.append_ #[23,23] 23 #[(.slice p90 n90 c90),(.slice (some ⟨uP,0,none⟩) 1 1)]) (fun o ho ht=>Cn rfl rfl o ho ht) (h.mono (fun v_5 JW h2=>?_));replace h:=h2;clear h2;obtain⟨p97,n97,c97,rfl,h⟩:=h;refine Seq.o ?_;refine AI.store (T:=23) (ty:=0) (x:=(.tmp 14)) (y:=(.tmp 97)) (p:=(.pointer (some ⟨BT,0,none⟩))) (v:=(.slice p97 n97 c97)) (gd:=none) (by kernel_rfl) rfl rfl rfl (h.mono (fun _ Vd h2=>?_));replace h:=h2;clear h2;refine Seq.done ?_;refine At.L [(13,(.pointer (some ⟨Bc,0,none⟩))),(14,(.pointer (some ⟨BT,0,none⟩))),(15,(.I x15)),(19,(.pointer (some ⟨BR,0,none⟩))),(20,(.I (YY:Int))),(67,(.slice (some ⟨Ve,lL,none⟩) Kw RF)),(68,(.I Lc)),(69,(.I Ma))] fun J=>?_;exact At.v [(13,(.pointer (some ⟨Bc,0,none⟩))),(14,(.pointer (some ⟨BT,0,none⟩))),(15,(.I x15)),(19,(.pointer (some ⟨BR,0,none⟩))),(20,(.I (YY:Int))),(67,(.slice (some ⟨Ve,lL,none⟩) Kw RF)),(68,(.I Lc)),(69,(.I Ma))] (h _)
  | false=>
   replace h:=h.2 (Tw.nf hb)
   refine At.cF 82 K69 K74 ?_;refine At.skip ?_;exact At.v [(13,(.pointer (some ⟨Bc,0,none⟩))),(14,(.pointer (some ⟨BT,0,none⟩))),(15,(.I x15)),(19,(.pointer (some ⟨BR,0,none⟩))),(20,(.I dE)),(67,(.slice (some ⟨Ve,lL,none⟩) Kw RF)),(68,(.I Lc)),(69,(.I Ma))] (h _)
 | false=>
  replace h:=h.2 (AW2 hb)
  refine At.cF 70 K57 K58 ?_;refine At.x 2 [.inBlock 1] ?_;refine At.inBlock ?_;exact At.M1 rfl h.1 h.2
def uQ {R:Rr}{l Bc BT BR Kw RF:Nat}{r0:Loop}{x15 HO Lc Ma:Int}{Ur:Option Addr}{σ:Hp}(h:∃p98:Option Addr,∃n98:Nat,∃c98:Nat,Hp.ld σ ⟨BT,0,none⟩=some (.slice p98 n98 c98)∧∃uR:Option Addr,∃n100:Nat,∃AAl:Nat,Hp.ld σ ⟨BT,0,none⟩=some (.slice uR n100 AAl)∧∃(dF mz:Nat),uR=some ⟨dF,mz,none⟩∧((0:Int)≤HO∧HO<(n100:Int))∧∃nC:Option Addr,∃n104:Nat,∃nE:Nat,Hp.ld σ ⟨dF,((mz+HO.toNat*2)+1),none⟩=some (.slice nC n104 nE)∧∃Wk:Int,Hp.ld σ ⟨BR,1,none⟩=some (.U Wk)∧∀Uu:Nat,σ Uu=none→AH prog (Builtin.append_ #[43,43] 43 #[(.slice nC n104 nE),(.slice (some ⟨Uu,0,none⟩) 1 1)]) (Hp.set σ Uu (.cells #[(.I x15),(.U Wk)] 42 (0,0))) (fun v σ1=>∃uS:Option Addr,∃n110:Nat,∃uT:Nat,v=(.slice uS n110 uT)∧Kp [BT] (Hp.set σ Uu (.cells #[(.I x15),(.U Wk)] 42 (0,0))) σ1∧∃(jV jW:Nat),p98=some ⟨jV,jW,none⟩∧((0:Int)≤HO∧HO<(n98:Int))∧AH prog (Instr.storeAt 43 (.pointer (some ⟨jV,((jW+HO.toNat*2)+1),none⟩)) (.slice uS n110 uT)) σ1 (fun _ A3=>AM (Ma+1)∧Wf R l r0 Bc BT x15 Ur Kw RF Lc ((Ma+1)) A3))):uG R l r0 Bc BT x15 BR HO Ur Kw RF Lc Ma σ:=by
 intro J;show At (Gl.round prog 6 117 l R) _ _ _ _
 refine At.draw (id:=23) (ops:=cO K75) (n:=15) (q:=(some [])) (plan:=[(0,true),(1,true),(2,true),(3,true),(4,true),(5,true),(6,true),(7,true),(8,true),(9,true),(10,true),(11,false),(12,false),(13,true),(14,true)]) (tl:=[15]) mixed (by kernel_rfl) (by kernel_rfl) ?_;obtain⟨p98,n98,c98,hl,h⟩:=h;refine Head.yl BT [] rfl (by kernel_rfl) (d:=(some 98)) (op:=(.load 23 (.tmp 14))) (ty:=23) (v:=(.slice p98 n98 c98)) (by kernel_rfl) rfl (Y.ld isAgg23 rfl (C3 hl)) ?_;refine Head.u 99 (.I HO) ?_;obtain⟨uR,n100,AAl,hl,h⟩:=h;refine Head.yl BT [[12,6,5,4]] rfl (by kernel_rfl) (d:=(some 100)) (op:=(.load 23 (.tmp 14))) (ty:=23) (v:=(.slice uR n100 AAl)) (by kernel_rfl) rfl (Y.ld isAgg23 rfl (C3 hl)) ?_;refine Head.u 101 (.I HO) ?_;obtain⟨dF,mz,hq,h⟩:=h;subst hq;obtain⟨hi,h⟩:=h;refine Head.z 102 (.indexAddr 23 (.tmp 100) (.tmp 101)) 0 (.pointer (some ⟨dF,(mz+HO.toNat*2),none⟩)) (Y.idx underlying23 sizeOf45 rfl rfl hi rfl) ?_;refine Head.z 103 (.fieldAddr 45 (.tmp 102) 1) 0 (.pointer (some ⟨dF,((mz+HO.toNat*2)+1),none⟩)) (Y.fieldAddr (fd:=(EK prog 45 1)) underlying45 (by kernel_rfl) sizeOf43 rfl rfl) ?_;obtain⟨nC,n104,nE,hl,h⟩:=h;refine Head.yl dF [[12]] rfl (by kernel_rfl) (d:=(some 104)) (op:=(.load 43 (.tmp 103))) (ty:=43) (v:=(.slice nC n104 nE)) (by kernel_rfl) rfl (Y.ld isAgg43 rfl (C3 hl)) ?_;refine Head.u 105 (.I x15) ?_;refine Head.z 106 (.fieldAddr 64 (.tmp 19) 1) 0 (.pointer (some ⟨BR,1,none⟩)) (Y.fieldAddr (fd:=(EK prog 64 1)) underlying64 (by kernel_rfl) sizeOf38 rfl rfl) ?_;obtain⟨Wk,hl,h⟩:=h;refine Head.yl BR [[11,10],[12,11,10]] rfl (by kernel_rfl) (d:=(some 107)) (op:=(.load 38 (.tmp 106))) (ty:=38) (v:=(.U Wk)) (by kernel_rfl) rfl (Y.ld isAgg38 rfl (C3 hl)) ?_;refine Head.z 108 (.build 42 #[(0,(.tmp 105)),(1,(.tmp 107))]) 42 (.agg #[(.I x15),(.U Wk)]) (Y.build (vs:=[(0,(.I x15)),(1,(.U Wk))]) rfl (by kernel_rfl)) ?_;refine Head.o (q':=(some [(dF,[12]),(BT,[12]),(BT,[])])) rfl ?_;refine AI.GO (T:=43) (E:=42) (m:=1) (ps:=#[(0,(.tmp 108))]) (d:=(some 109)) (ty:=43) (gd:=none) (vs:=[(0,(.agg #[(.I x15),(.U Wk)]))]) (cs:=#[(.I x15),(.U Wk)]) underlying43 (by kernel_rfl) rfl rfl rfl (by kernel_rfl) (fun Uu hn=>?_);refine⟨⟨fun _ h=>h,Uk (Kp.HI (Ext.set hn))⟩,?_⟩
 replace h:=h Uu hn
 refine Head.o (q':=(some [(BT,[])])) rfl ?_;refine AI.QA (d:=(some 110)) (op:=(.call { callee:=.builtin .append,args:=#[(.tmp 104),(.tmp 109)],argTypes:=#[43,43] })) (ty:=43) (gd:=none) (by kernel_rfl) rfl rfl (Builtin.append_ #[43,43] 43 #[(.slice nC n104 nE),(.slice (some ⟨Uu,0,none⟩) 1 1)]) (fun o ho ht=>Cn rfl rfl o ho ht) (h.mono (fun v σ1 h2=>?_));replace h:=h2;clear h2;obtain⟨uS,n110,uT,rfl,hk,h⟩:=h;refine⟨⟨fun _ h=>h,Uk (L:=[(BT,[])]) hk⟩,?_⟩;obtain⟨jV,jW,hq,h⟩:=h;subst hq;obtain⟨hi,h⟩:=h;refine Head.z 111 (.indexAddr 23 (.tmp 98) (.tmp 99)) 0 (.pointer (some ⟨jV,(jW+HO.toNat*2),none⟩)) (Y.idx underlying23 sizeOf45 rfl rfl hi rfl) ?_;refine Head.z 112 (.fieldAddr 45 (.tmp 111) 1) 0 (.pointer (some ⟨jV,((jW+HO.toNat*2)+1),none⟩)) (Y.fieldAddr (fd:=(EK prog 45 1)) underlying45 (by kernel_rfl) sizeOf43 rfl rfl) ?_;refine Head.done ?_;refine Seq.o ?_;refine AI.store (T:=43) (ty:=0) (x:=(.tmp 112)) (y:=(.tmp 110)) (p:=(.pointer (some ⟨jV,((jW+HO.toNat*2)+1),none⟩))) (v:=(.slice uS n110 uT)) (gd:=none) (by kernel_rfl) rfl rfl rfl (h.mono (fun _ A3 h2=>?_));replace h:=h2;clear h2;refine Seq.done ?_;refine At.inBlock ?_;refine At.rg 24 [0,1] ?_;obtain⟨hi,h⟩:=h;refine Seq.z 113 (.binOp .add 3 (.tmp 69) (.const (.I 1)) 3) 3 (.I (Ma+1)) (Y.AEP hi rfl rfl) ?_;refine Seq.u 69 (.I (Ma+1)) (Seq.done ?_);refine At.inLoop ?_;refine At.s K54 K55 ?_;exact At.v [(13,(.pointer (some ⟨Bc,0,none⟩))),(14,(.pointer (some ⟨BT,0,none⟩))),(15,(.I x15)),(67,(.slice Ur Kw RF)),(68,(.I Lc)),(69,(.I (Ma+1)))] (h _)
end A9
namespace Vf
variable {v0:Value}
def M:Fw:=⟨prog,12,f12,[],[],false,[],[],[]⟩
def ok:M.Ok:=⟨AG.nil,mixed,func12,by kernel_rfl⟩
def start (h:EN prog 32 #[v0] σ (CI .u64 fun x4 y=>R (.returned (.U x4)) y)):Spec prog 12 #[v0] σ R:=M.CY h ok [(0,.o (.V v0))] rfl rfl (by kernel_rfl)
end Vf
namespace Vg
variable {x0:Int}
def M:Fw:=⟨prog,16,f16,[],[],false,[],[],[]⟩
def ok:M.Ok:=⟨AG.nil,mixed,func16,by kernel_rfl⟩
def start (h:Br (((-1099511627776):Int)≤x0) (R (.returned (.bool (decide (x0≤1099511627776)))) σ) (R (.B false) σ)):Spec prog 16 #[.I x0] σ R:=M.start h ok
end Vg
namespace Lw
variable {p0 p1:Option Addr}{n0 c0 n1 c1:Nat}
def M:Fw:=⟨prog,22,f22,[39],[],false,[],[],[]⟩
def ok:M.Ok:=⟨.cons call39 (AG.nil),mixed,func22,by kernel_rfl⟩
def start (h:AL 39 #[.slice p0 n0 c0,.slice p1 n1 c1,(.func (.func 40) #[] #[])] σ R (CI .i64 fun x7 y=>R (.returned (.I x7)) y)):Spec prog 22 #[.slice p0 n0 c0,.slice p1 n1 c1] σ R:=M.start h ok
end Lw
namespace Cf
variable {p0 p1:Option Addr}{n0 c0 n1 c1:Nat}{x5:Int}
def M:Fw:=⟨prog,31,f31,[],[],false,[(6,9,true)],[],[(464,[(0,wL),(1,wL),(5,wI)])]⟩
def ok:M.Ok:=⟨AG.nil,mixed,func31,by kernel_rfl⟩
def Ek:=M.pt 0
def start (h:Br ((n0:Int)≠(n1:Int)) (R (.B false) σ) (Ek R p0 n0 c0 p1 n1 c1 0 σ)):Spec prog 31 #[.slice p0 n0 c0,.slice p1 n1 c1] σ R:=M.start h ok
def EP (h:Br (x5<(n0:Int)) (Pq p0 fun BR Xe=>In x5 (n0:Int)∧∃AAm AAn,Av σ BR (Xe+x5.toNat*2) [.string AAm,.string AAn]∧Pq p1 fun PC fz=>In x5 (n1:Int)∧∃AAo AAp,Av σ PC (fz+x5.toNat*2) [.string AAo,.string AAp]∧∃t25,YF prog ((do eqGuard .neq 36 (.tmp 20) (.tmp 24) (.agg #[.string AAm,.string AAn]) (.agg #[.string AAo,.string AAp]);binOp .neq 36 (.agg #[.string AAm,.string AAn]) (.agg #[.string AAo,.string AAp]))) σ (.bool t25)∧Bo t25 (R (.B false) σ) (AM (x5+1)∧Ek R (aD BR Xe) n0 c0 (aD PC fz) n1 c1 (x5+1) σ)) (R (.B true) σ)):Ek R p0 n0 c0 p1 n1 c1 x5 σ:=M.of h ok rfl
end Cf
namespace BX
variable {v0:Value}{b1 b2 b3:Nat}{x5:Int}
def M:Fw:=⟨prog,34,f34,[],[100000],false,[],[],[(48,[(0,wV),(2,wA),(3,wA),(5,wI)])]⟩
def ok:M.Ok:=⟨AG.nil,mixed,func34,by kernel_rfl⟩
def pt6:=M.pt 0
def start (h:LI .i64 σ b1 0 fun x6=>pt6 R v0 b2 b3 x6 σ):Spec prog 34 #[v0,(.pointer (aD b1 0)),(.pointer (aD b2 0)),(.pointer (aD b3 0))] σ R:=M.CY h ok [(0,.o (.V v0)),(1,.o (.A b1)),(2,.o (.A b2)),(3,.o (.A b3))] rfl rfl (by kernel_rfl)
def nF (h:∃l9:Nat,v0=.func (.yield l9) #[] #[]∧GV prog l9 #[.I x5] σ (Ap R (CB fun t9 y=>Bo t9 (LI .i64 y b2 0 fun x11=>LI .i64 y b3 0 fun x12=>AM (x12-x5)∧Br (x11≤(x12-x5)) (LI .i64 y b2 0 fun Vh=>AM (x5+Vh)∧pt6 R v0 b2 b3 (x5+Vh) y) (R (.T #[]) y)) (R (.T #[]) y)))):pt6 R v0 b2 b3 x5 σ:=M.of h ok rfl
end BX
namespace Ga
variable {p0 p6:Option Addr}{n0 c0 n6 c6:Nat}{x3 x7 x8:Int}
def M:Fw:=⟨prog,41,f41,[],[],false,[],[],[(232,[(3,wI),(6,wL),(7,wI),(8,wI)])]⟩
def ok:M.Ok:=⟨AG.nil,mixed,func41,by kernel_rfl⟩
def Aw:=M.pt 0
def start (h:Aw R 0 p0 n0 c0 (n0:Int) 0 σ):Spec prog 41 #[.slice p0 n0 c0] σ R:=M.start h ok
def AY (h:Br (x8<x7) (Pq p6 fun CC gA=>In x8 (n6:Int)∧LI .i64 σ CC (gA+x8.toNat*1) fun x11=>Br (x11≠x3) (R (.returned (.I x11)) σ) (AM (x8+1)∧Aw R x3 (aD CC gA) n6 c6 x7 (x8+1) σ)) (R (.returned (.I x3)) σ)):Aw R x3 p6 n6 c6 x7 x8 σ:=M.of h ok rfl
end Ga
namespace R7
def M:Fw:=⟨prog,50,f50,[],[],false,[],[],[]⟩
def ok:M.Ok:=⟨AG.nil,mixed,func50,by kernel_rfl⟩
def start (h:Al σ fun b1=>R (.returned (.slice (aD b1 0) 8 8)) (Hp.set σ b1 (.cells #[.nilFunc,(.func (.func 75) #[] #[]),(.func (.func 76) #[] #[]),(.func (.func 77) #[] #[]),(.func (.func 78) #[] #[]),(.func (.func 79) #[] #[]),(.func (.func 80) #[] #[]),(.func (.func 81) #[] #[])] 121 (0,0)))):Spec prog 50 #[] σ R:=M.start h ok
end R7
namespace ER
variable {q0 Dl D6 p2:Option Addr}{Dc Cp Dd Dm DO Cs:Int}{De:ByteArray}{Dn Dp Dq D7 n2 c2:Nat}{DP:Bool}
def M:Fw:=⟨prog,74,f74,[],[4],false,[],[],[]⟩
def ok:M.Ok:=⟨AG.nil,mixed,func74,by kernel_rfl⟩
def start (h:∀b4:Nat,Pq p2 fun b9 o9=>In 0 (n2:Int)∧LI .i64 σ b9 o9 fun x11=>Br (x11=3) (R (.T #[.I 0,.I 191]) σ) (In 0 (n2:Int)∧LI .i64 σ b9 o9 fun x16=>R (.T #[.I x16,.I 0]) σ)):Spec prog 74 #[.pointer q0,.agg #[.I Dc,.I Cp,.string De,.slice Dl Dn Dp,.I Dd,.I Dm,.I DO,.slice D6 Dq D7,.bool DP,.I Cs],.slice p2 n2 c2] σ R:=M.start h ok
end ER
namespace R8
variable {s0:ByteArray}
def M:Fw:=⟨prog,91,f91,[122,123],[],false,[],[],[]⟩
def ok:M.Ok:=⟨.cons call122 (.cons call123 (AG.nil)),mixed,func91,by kernel_rfl⟩
def start (h:AL 122 #[.string s0] σ R (CI .i64 fun x6 y=>Br (x6=0) (R (.B false) y) (∃s12,YF prog (Instr.sliceAt 9 (.string s0) none (some (.I x6)) none) y (.string s12)∧AL 123 #[.string s12] y R (CB fun t13 AE=>Bo t13 (R (.B false) AE) (Br (x6=(s0.size:Int)) (R (.returned (.bool (decide (x6≤15)))) AE) (AM (x6+1)∧∃s24,YF prog (Instr.sliceAt 9 (.string s0) (some (.I (x6+1))) none none) AE (.string s24)∧AL 122 #[.string s24] AE R (CI .i64 fun Ky AJ=>∃u28:UInt8,0≤x6∧(ByteArray.data s0)[x6.toNat]?=some u28∧Br (((u28.toNat:Int):Int)=46) (Br (0<Ky) (AM (x6+1)∧AM ((x6+1)+Ky)∧Br ((((x6+1)+Ky):Int)=(s0.size:Int)) (AM (x6+Ky)∧R (.returned (.bool (decide (((x6+Ky):Int)≤15)))) AJ) (R (.B false) AJ)) (R (.B false) AJ)) (R (.B false) AJ)))))))):Spec prog 91 #[.string s0] σ R:=M.start h ok
end R8
namespace QK
variable {Em ES Qr NF HT I5 x1 x2:Int}{Qt:ByteArray}{Vi R9:Option Addr}{Uv Vj RI SA:Nat}{Mb:Bool}
def M:Fw:=⟨prog,114,f114,[155,156,157],[3],false,[],[],[]⟩
def ok:M.Ok:=⟨.cons call155 (.cons call156 (.cons call157 (AG.nil))),mixed,func114,by kernel_rfl⟩
def start (h:∀b3:Nat,AL 155 #[.I ES,.U x1,.U x2] σ R (fun z y=>∃Wl AFJ,z=(.tuple #[.U Wl,.bool AFJ])∧Bo AFJ (R (.T #[.U Wl,.bool true]) y) (AL 156 #[.I ES,.U x1,.U x2] y R (fun z AE=>∃AAq AMw,z=(.tuple #[.bool AAq,.bool AMw])∧AL 157 #[.bool AAq] AE R (CI .u64 fun x31 AJ=>R (.T #[.U x31,.bool AAq]) AJ))))):Spec prog 114 #[.agg #[.I Em,.I ES,.string Qt,.slice Vi Uv Vj,.I Qr,.I NF,.I HT,.slice R9 RI SA,.bool Mb,.I I5],.U x1,.U x2] σ R:=M.start h ok
end QK
end TwW
end
end
section
set_option maxRecDepth 100000
noncomputable section
namespace TwW
open Go Tw Go.Proofs.Tryz
variable [Ei]{R:Rr}{σ:Hp}

namespace QL
variable {x0:Int}
def M:Fw:=⟨prog,120,f120,[138],[],false,[],[],[]⟩
def ok:M.Ok:=⟨.cons call138 (AG.nil),mixed,func120,by kernel_rfl⟩
def start (h:Df (Go.bits .xor .u64 x0 9223372036854775808) fun x4=>AL 138 #[.U x4] σ R (CI .u64 fun x5 y=>R (.returned (.U x5)) y)):Spec prog 120 #[.U x0] σ R:=M.start h ok
end QL
namespace NG
variable {s0:ByteArray}
def M:Fw:=⟨prog,123,f123,[],[],false,[],[],[]⟩
def ok:M.Ok:=⟨AG.nil,mixed,func123,by kernel_rfl⟩
def start (h:Br ((1:Int)<(s0.size:Int)) (∃u8:UInt8,(0:Int)≤0∧(ByteArray.data s0)[Int.toNat 0]?=some u8∧R (.returned (.bool (decide (((u8.toNat:Int):Int)=48)))) σ) (R (.B false) σ)):Spec prog 123 #[.string s0] σ R:=M.start h ok
end NG
namespace Gb
variable {s0:ByteArray}{x1:Int}
def M:Fw:=⟨prog,125,f125,[162,163],[],false,[],[],[]⟩
def ok:M.Ok:=⟨.cons call162 (.cons call163 (AG.nil)),mixed,func125,by kernel_rfl⟩
def start (h:AL 162 #[.string s0,.I x1] σ R (fun z y=>∃jX jY,z=(.tuple #[jX,jY])∧∃t15,YF prog ((do eqGuard .neq 191 (.tmp 14) (.const .nilIface) jY .nilIface;binOp .neq 191 jY .nilIface)) y (.bool t15)∧Bo t15 (AL 163 #[(.string (ByteArray.mk #[80,97,114,115,101,70,108,111,97,116])),.string s0,.I 0,.I x1,jY] y R (fun z AE=>∃v20,v20=z∧R (.T #[jX,v20]) AE)) (R (.T #[jX,.nilIface]) y))):Spec prog 125 #[.string s0,.I x1] σ R:=M.start h ok
end Gb
namespace NH
variable {f0:Fn}{a0 c0:Array Value}
def M:Fw:=⟨prog,140,f140,[],[],false,[],[],[]⟩
def ok:M.Ok:=⟨AG.nil,mixed,func140,by kernel_rfl⟩
def start (h:Al σ fun b1=>R (.returned (.func (.func 175) #[] #[(.pointer (aD b1 0))])) (Hp.set σ b1 (.cells #[(Value.func f0 a0 c0)] 211 (0,0)))):Spec prog 140 #[(Value.func f0 a0 c0)] σ R:=M.CY h ok [(0,.o (.V (Value.func f0 a0 c0)))] rfl rfl (by kernel_rfl)
end NH
namespace Ct
variable {s0:ByteArray}{x1:Int}
def M:Fw:=⟨prog,162,f162,[179],[],false,[],[],[]⟩
def ok:M.Ok:=⟨.cons call179 (AG.nil),mixed,func162,by kernel_rfl⟩
def start (h:AL 179 #[.string s0,.I x1] σ R (fun z y=>∃AFK nG AFL,z=(.tuple #[AFK,.I nG,AFL])∧Br (nG≠(s0.size:Int)) (R (.T #[.float .f64 0,(.iface 240 (.I 2))]) y) (R (.T #[AFK,AFL]) y))):Spec prog 162 #[.string s0,.I x1] σ R:=M.start h ok
end Ct
namespace SB
variable {p0:Option Addr}{n0 c0:Nat}
def M:Fw:=⟨prog,174,f174,[126,188,189],[],false,[],[],[]⟩
def ok:M.Ok:=⟨.cons call126 (.cons call188 (.cons call189 (AG.nil))),mixed,func174,by kernel_rfl⟩
def start (h:AL 188 #[(.I (n0:Int))] σ R (CB fun t7 y=>Bn t7 (R (.T #[.U 0,.I 210]) y) ((n0:Int)≠(0:Int)∧Df (Int.tmod 1 (n0:Int)) fun x12=>AL 189 #[.slice p0 n0 c0,.I x12] y R (fun z AE=>∃E4 y13,(Value.complex .f64 E4 y13)=z∧∃x15,YF prog (Builtin.real_ #[248] 40 #[(Value.complex .f64 E4 y13)]) AE (Value.float .f64 x15)∧∃x17,YF prog (Builtin.real_ #[248] 40 #[(Value.complex .f64 E4 y13)]) AE (Value.float .f64 x17)∧AH prog (binOp .mul 40 (Value.float .f64 x15) (Value.float .f64 x17)) AE (fun z AJ=>∃Vh,(Value.float .f64 Vh)=z∧∃HO,YF prog (Builtin.imag_ #[248] 40 #[(Value.complex .f64 E4 y13)]) AJ (Value.float .f64 HO)∧∃I6,YF prog (Builtin.imag_ #[248] 40 #[(Value.complex .f64 E4 y13)]) AJ (Value.float .f64 I6)∧AH prog (binOp .mul 40 (Value.float .f64 HO) (Value.float .f64 I6)) AJ (fun z As=>∃Cz,(Value.float .f64 Cz)=z∧AH prog (binOp .add 40 (Value.float .f64 Vh) (Value.float .f64 Cz)) As (fun z JY=>∃HS,(Value.float .f64 HS)=z∧AL 126 #[(Value.float .f64 HS)] JY R (CI .u64 fun Ky Uw=>R (.T #[.U Ky,.I 0]) Uw)))))))):Spec prog 174 #[.slice p0 n0 c0] σ R:=M.start h ok
end SB
namespace CK
variable {s0 s1:ByteArray}
def M:Fw:=⟨prog,252,f252,[],[],false,[],[],[]⟩
def ok:M.Ok:=⟨AG.nil,mixed,func252,by kernel_rfl⟩
def start (h:Br (((s1.size:Int):Int)≤(s0.size:Int)) (∃s14,YF prog (Instr.sliceAt 9 (.string s0) none (some (.I (s1.size:Int))) none) σ (.string s14)∧R (.returned (.bool (ByteArray.toList s14==ByteArray.toList s1))) σ) (R (.B false) σ)):Spec prog 252 #[.string s0,.string s1] σ R:=M.start h ok
end CK
end TwW
end
end
section
set_option maxRecDepth 100000
noncomputable section
namespace TwW
open Go Tw Go.Proofs.Tryz
variable [Ei]{R:Rr}{σ:Hp}

namespace C8
variable {p0 p3:Option Addr}{n0 c0 n3 c3:Nat}{x4:Int}
def M:Fw:=⟨prog,7,f7,[23,24],[5],false,[],[],[(464,[(0,wL),(3,wL),(4,wI)])]⟩
def ok:M.Ok:=⟨.cons call23 (.cons call24 (AG.nil)),mixed,func7,by kernel_rfl⟩
def CZ:=M.pt 0
def start (h:CZ R p0 n0 c0 none 0 0 0 σ):Spec prog 7 #[.slice p0 n0 c0] σ R:=M.start h ok
def BE (h:Br (x4<(n0:Int)) (Pq p0 fun BT PZ=>In x4 (n0:Int)∧∃uU dG AFN AFO AFP AFQ AFR AFS AFT AFU AFV AFW AFX AFY,Av σ BT (PZ+x4.toNat*10) [.I uU,.I dG,.string AFN,.slice AFO AFP AFQ,.I AFR,.I AFS,.I AFT,.slice AFU AFV AFW,.bool AFX,.I AFY]∧∀b5:Nat,AL 23 #[.slice AFO AFP AFQ] σ R (CS fun p18 n18 c18 y=>AL 24 #[.slice AFU AFV AFW] y R (CS fun Vc n22 Ue AE=>Al AE fun dH=>AH prog (I4 22 p3 n3 c3 dH) (Hp.set AE dH (.cells #[.I uU,.I dG,.string AFN,.slice p18 n18 c18,.I AFR,.I AFS,.I AFT,.slice Vc n22 Ue,.bool AFX,.I AFY] 51 (0,0))) (CS fun p27 n27 c27 AJ=>AM (x4+1)∧CZ R (aD BT PZ) n0 c0 p27 n27 c27 (x4+1) AJ)))) (R (.returned (.slice p3 n3 c3)) σ)):CZ R p0 n0 c0 p3 n3 c3 x4 σ:=M.of h ok rfl
end C8
namespace DE
variable {p0 p1 Kz p33:Option Addr}{n0 c0 n1 c1 n11 LA n33 c33:Nat}{x2 x34 Xf:Int}
def M:Fw:=⟨prog,9,f9,[15,16,18],[13],false,[],[],[(4072,[(2,wI),(11,wL),(33,wL),(34,wI),(35,wI)])]⟩
def ok:M.Ok:=⟨.cons call15 (.cons call16 (.cons call18 (AG.nil))),mixed,func9,by kernel_rfl⟩
def dI:=M.pt 0
def start (h:AL 15 #[.slice p0 n0 c0,.slice p1 n1 c1] σ R (CI .i64 fun x16 y=>Br (x16≠0) (R (.T #[.N,.I x16]) y) (AL 16 #[.I x2] y R (CB fun t21 AE=>Bn t21 (R (.T #[.N,.I 221]) AE) (AL 18 #[.slice p0 n0 c0,.slice p1 n1 c1,.I x2] AE R (fun z AJ=>∃Mc Ld Md YZ,z=(.tuple #[.slice Mc Ld Md,.I YZ])∧Br (YZ≠0) (R (.T #[.N,.I YZ]) AJ) (dI R x2 none 0 0 Mc Ld Md (Ld:Int) 0 AJ))))))):Spec prog 9 #[.slice p0 n0 c0,.slice p1 n1 c1,.I x2] σ R:=M.start h ok
def gB (h:Br (Xf<x34) (Pq p33 fun b37 o37=>In Xf (n33:Int)∧∃uV uW uX Gu,Av σ b37 (o37+Xf.toNat*2) [.slice uV uW uX,.U Gu]∧∀Bc:Nat,(Al σ fun Xg=>(AH prog (Builtin.append_ #[37,37] 37 #[(.slice (aD Xg 0) 0 0),.slice uV uW uX]) (Hp.set σ Xg (.cells #[] 36 (0,0))) (CS fun lM n43 lN y=>Al y fun Qu=>Al (Hp.set y Qu (.cells #[.I x2,.U Gu] 42 (0,0))) fun Wm=>AH prog (I4 23 Kz n11 LA Wm) (Hp.set (Hp.set y Qu (.cells #[.I x2,.U Gu] 42 (0,0))) Wm (.cells #[.slice lM n43 lN,(.slice (aD Qu 0) 1 1)] 45 (0,0))) (CS fun sk n51 sn AE=>AM (Xf+1)∧dI R x2 sk n51 sn (aD b37 o37) n33 c33 x34 (Xf+1) AE)))∧(Al (Hp.set σ Xg (.cells #[] 36 (0,0))) fun Qu=>AH prog (Builtin.append_ #[37,37] 37 #[(.slice (aD Xg 0) 0 0),.slice uV uW uX]) (Hp.set (Hp.set σ Xg (.cells #[] 36 (0,0))) Qu (.cells #[.I x2,.U Gu] 42 (0,0))) (CS fun lM n43 lN y=>Al y fun Wm=>AH prog (I4 23 Kz n11 LA Wm) (Hp.set y Wm (.cells #[.slice lM n43 lN,(.slice (aD Qu 0) 1 1)] 45 (0,0))) (CS fun sk n51 sn AE=>AM (Xf+1)∧dI R x2 sk n51 sn (aD b37 o37) n33 c33 x34 (Xf+1) AE))))∧(Al σ fun Qu=>Al (Hp.set σ Qu (.cells #[.I x2,.U Gu] 42 (0,0))) fun Xg=>AH prog (Builtin.append_ #[37,37] 37 #[(.slice (aD Xg 0) 0 0),.slice uV uW uX]) (Hp.set (Hp.set σ Qu (.cells #[.I x2,.U Gu] 42 (0,0))) Xg (.cells #[] 36 (0,0))) (CS fun lM n43 lN y=>Al y fun Wm=>AH prog (I4 23 Kz n11 LA Wm) (Hp.set y Wm (.cells #[.slice lM n43 lN,(.slice (aD Qu 0) 1 1)] 45 (0,0))) (CS fun sk n51 sn AE=>AM (Xf+1)∧dI R x2 sk n51 sn (aD b37 o37) n33 c33 x34 (Xf+1) AE)))) (R (.T #[.slice Kz n11 LA,.I 0]) σ)):dI R x2 Kz n11 LA p33 n33 c33 x34 Xf σ:=M.of h ok rfl
end DE
namespace Ca
noncomputable def K0:=f10.body.getD .skip
def K1:=cl K0
def K2:=cr K0
def K3:=cl K2
def K4:=cl K3
def K5:=cr K3
def K6:=cl K5
def K7:=cl K6
def K8:=cl K7
def K9:=cr K7
def lK:=cl K9
def si:=cl lK
def uD:=cr lK
def sj:=cr K9
def K14:=cl sj
def K15:=cl K14
def uE:=cl K15
def xO:=cr K15
def K18:=cl xO
def uF:=cr xO
def K20:=cl uF
def K21:=cr uF
def K22:=cl K21
def K23:=cl K22
def K24:=cr K22
def K25:=cr K21
def K26:=cr sj
def xP:=cr K2
def K28:=cl xP
def K29:=cr xP
def K30:=cl K29
def K31:=cl K30
def K32:=cr K30
def K33:=cl K32
def K34:=cl K33
def K35:=cr K33
def K36:=cl K35
def K37:=cl K36
def K38:=cr K36
def K39:=cl K38
def K40:=cr K38
def xQ:=cl K40
def K42:=cr K40
def K43:=cr K29
def K44:=cl K43
def K45:=cr K43
abbrev gl (R:Rr):Gl:=Gl.fn prog 10 61 R
def II (R:Rr)(p0:Option Addr)(n0 c0:Nat)(SC:Option Addr)(n10 NI:Nat)(x11 x12:Int)(σ:Hp):Prop:=∀(J:Env),At (gl R) [.code K8,.code K9,.inLoop K7,.inBlock 0,.code xP] (Hd J [(0,(.slice p0 n0 c0)),(10,(.slice SC n10 NI)),(11,(.I x11)),(12,(.I x12))]) [] σ
def AAs (R:Rr)(l:Nat)(r0:Loop)(b7:Nat)(v24:Value)(σ:Hp):Prop:=∀(J:Env),At (Gl.round prog 10 61 l R) [.code K34,.beginRound,.code K35] (Hd J [(7,(.pointer (some ⟨b7,0,none⟩))),(24,v24)]) [] σ
def start {R:Rr}{p0:Option Addr}{n0 c0:Nat}{σ:Hp}(h:II R p0 n0 c0 p0 n0 c0 ((n0:Int)) 0 σ):Spec prog 10 #[(.slice p0 n0 c0)] σ R:=by
 refine Spec.RW (fn:=f10) (c:=K0) func10 (by kernel_rfl) (AXZ (by kernel_rfl)) (fun e he=>?_);refine At.ofL (l:=[(0,(.slice p0 n0 c0))]) ⟨he 0,trivial⟩ (fun J=>?_);show At (gl R) _ _ _ _
 refine At.s K1 K2 ?_;refine At.rg 0 [0,1] ?_;refine Seq.us [(2,.N),(3,.I 0)] (Seq.done ?_);refine At.s K3 xP (At.s K4 K5 ?_);refine At.rg 1 [0,1,2] ?_;refine Seq.u 10 (.slice p0 n0 c0) ?_;refine Seq.z 11 (.call { callee:=.builtin .len,args:=#[(.tmp 10)],argTypes:=#[74] }) 3 (.I (n0:Int)) (Y.lf underlying74 rfl rfl) ?_;refine Seq.u 12 (.I 0) (Seq.done ?_);refine At.b 0 K6 ?_;refine At.loop (x:=K7) (by kernel_rfl) ?_;refine At.s K8 K9 ?_;exact At.v [(0,(.slice p0 n0 c0)),(10,(.slice p0 n0 c0)),(11,(.I (n0:Int))),(12,(.I 0))] (h _)
def A8 {R:Rr}{p0 SC:Option Addr}{n0 c0 n10 NI:Nat}{x11 x12:Int}{σ:Hp}(h:((x12:Int)<x11→∃(BT PZ:Nat),SC=some ⟨BT,PZ,none⟩∧((0:Int)≤x12∧x12<(n10:Int))∧∃SD:Option Addr,∃n15:Nat,∃QM:Nat,Hp.ld σ ⟨BT,(PZ+x12.toNat*1),none⟩=some (.slice SD n15 QM)∧AL 27 #[(.slice SD n15 QM)] σ R (fun v σ1=>∃x17:Int,v=(.I x17)∧((x17:Int)≠0→R (.T #[(.N),(.I x17)]) σ1)∧(¬((x17:Int)≠0)→AM (x12+1)∧II R p0 n0 c0 ((some ⟨BT,PZ,none⟩)) n10 NI x11 ((x12+1)) σ1)))∧(¬((x12:Int)<x11)→∀b7:Nat,σ b7=none→AL 28 #[(.slice p0 n0 c0)] (Hp.set σ b7 (.cells #[(.N)] 23 (0,0))) R (fun v σ1=>∃f23:Fn,∃a23:Array Value,∃RG:Array Value,(Value.func f23 a23 RG)=v∧∃(gf:Nat) (lb:Array Value),(Value.func f23 a23 RG)=.func (.func gf) #[] lb∧Enters prog gf∧∀(RH NC:Nat) (HP:Loop),RH≠NC→σ1 RH=none→σ1 NC=none→(∀(R2:Rr) (σ2:Hp) (gC:Option Addr) (gD:Nat) (gE:Nat) (gF:Option Addr) (gG:Nat) (gH:Nat),σ2 NC=some (.loop (lp HP .ready none))→AAs R2 NC HP b7 ((.agg #[(.slice gC gD gE),(.slice gF gG gH)])) σ2→GV prog NC #[(.agg #[(.slice gC gD gE),(.slice gF gG gH)])] σ2 R2)→Spec prog gf (#[.func (.yield NC) #[] #[]]++lb) (Hp.set (Hp.set σ1 RH (.deferred (some []))) NC (.loop (lp HP .ready none))) (fun en A3=>∃(v:Value) (s:LoopState) (p:Option Code),en=.returned v∧A3 NC=some (.loop (lp HP s p))∧s≠.busy∧((p=none∧∃jT:Option Addr,∃n59:Nat,∃jU:Nat,Hp.ld (Hp.set A3 NC (.loop (lp HP .exhausted none))) ⟨b7,0,none⟩=some (.slice jT n59 jU)∧Spec prog 30 #[(.slice jT n59 jU)] (Hp.set A3 NC (.loop (lp HP .exhausted none))) (Ap (NP R) (fun Uf Az=>∃p60:Option Addr,∃n60:Nat,∃c60:Nat,Uf=(.slice p60 n60 c60)∧Az RH=some (.deferred (some []))∧R (.T #[(.slice p60 n60 c60),(.I 0)]) (Hp.set Az RH (.deferred none)))))))))):II R p0 n0 c0 SC n10 NI x11 x12 σ:=by
 intro J;show At (gl R) _ _ _ _
 refine At.rg 2 [0] ?_;refine Seq.u 13 (.bool (decide ((x12:Int)<x11))) (Seq.done ?_);refine At.s lK sj ?_;cases hb:(decide ((x12:Int)<x11)) with
 | true=>
  replace h:=h.1 (AWr hb)
  refine At.cT 13 si uD ?_;refine At.skip ?_;refine At.s K14 K26 ?_;refine At.b 1 K15 ?_;refine At.s uE xO ?_;refine At.rg 3 [0,1,2] ?_;obtain⟨BT,PZ,hq,h⟩:=h;subst hq;obtain⟨hi,h⟩:=h;refine Seq.z 14 (.indexAddr 74 (.tmp 10) (.tmp 12)) 0 (.pointer (some ⟨BT,(PZ+x12.toNat*1),none⟩)) (Y.idx underlying74 sizeOf23 rfl rfl hi rfl) ?_;obtain⟨SD,n15,QM,hl,h⟩:=h;refine Seq.z 15 (.load 23 (.tmp 14)) 23 (.slice SD n15 QM) (Y.ld isAgg23 rfl hl) ?_;refine Seq.u 5 (.slice SD n15 QM) (Seq.done ?_);refine At.s K18 uF ?_;refine At.rg 4 [0,1,2] ?_;refine Seq.u 16 (.slice SD n15 QM) ?_;refine Seq.o ?_;refine AI.cl (some 17) call27 (h.cont fun v σ1 h2=>?_);replace h:=h2;clear h2;obtain⟨x17,rfl,h⟩:=h;refine Seq.u 6 (.I x17) (Seq.done ?_);refine At.s K20 K21 ?_;refine At.rg 5 [0,1] ?_;refine Seq.us [(18,.I x17),(19,.bool (decide ((x17:Int)≠0)))] (Seq.done ?_);cases hb:(decide ((x17:Int)≠0)) with
  | true=>
   replace h:=h.1 (AWr hb)
   refine At.cT 19 K22 K25 ?_;refine At.s K23 K24 ?_;refine At.rg 6 [0,1,2] ?_;refine Seq.us [(20,.I x17),(2,.N),(3,.I x17)] (Seq.done ?_);exact At.rt [.tmp 2,.tmp 3] [(.N),(.I x17)] func10 ⟨_,rfl,⟨_,rfl,rfl⟩⟩ h
  | false=>
   replace h:=h.2 (AW2 hb)
   refine At.cF 19 K22 K25 ?_;refine At.skip ?_;refine At.inBlock ?_;refine At.rg 7 [0,1] ?_;obtain⟨hi,h⟩:=h;refine Seq.z 21 (.binOp .add 3 (.tmp 12) (.const (.I 1)) 3) 3 (.I (x12+1)) (Y.AEP hi rfl rfl) ?_;refine Seq.u 12 (.I (x12+1)) (Seq.done ?_);refine At.inLoop ?_;refine At.s K8 K9 ?_;exact At.v [(0,(.slice p0 n0 c0)),(10,(.slice (some ⟨BT,PZ,none⟩) n10 NI)),(11,(.I x11)),(12,(.I (x12+1)))] (h _)
 | false=>
  replace h:=h.2 (AW2 hb)
  refine At.cF 13 si uD ?_;refine At.x 0 [.code xP] ?_;refine At.s K28 K29 ?_;refine At.rg 8 [0] ?_;refine Seq.o ?_;refine AI.JQ (T:=23) (d:=(some 7)) (ty:=0)  (gd:=none) (cs:=#[(.N)]) (by kernel_rfl) rfl rfl zeroValue23 rfl (fun b7 hn=>?_)
  replace h:=h b7 hn
  refine Seq.done ?_;refine At.s K30 K43 (At.s K31 K32 ?_);refine At.rg 9 [0,1] ?_;refine Seq.u 22 (.slice p0 n0 c0) ?_;refine Seq.o ?_;refine AI.cl (some 23) call28 (h.cont fun v σ1 h2=>?_);replace h:=h2;clear h2;obtain⟨f23,a23,RG,rfl,h⟩:=h;refine Seq.done ?_;refine At.b 2 K33 ?_;obtain⟨gf,lb,hgv,JG,h⟩:=h;refine At.range (gop:=(.tmp 23)) (ps:=#[24]) (assign:=K34) (body:=K35) (gf:=gf) (lb:=lb) (by kernel_rfl) rfl rfl hgv JG (fun RH NC HP hDl hD hl mo mq hra hrb hrs hre=>?_);refine(h RH NC HP hDl hD hl (fun R2 σ2 gC gD gE gF gG gH AAf hp=>GV.RW (n:=61) AAf mq hrs (by decide) hre (fn:=f10) (by rw[mo];exact func10) ?_)).mono (fun en A3 h=>?_)
  ·rw[mo,hra,hrb];exact At.v [(7,(.pointer (some ⟨b7,0,none⟩))),(24,(.agg #[(.slice gC gD gE),(.slice gF gG gH)]))] (hp _)
  obtain⟨v,s,p,he,l6,hs,h⟩:=h;refine⟨v,s,p,he,l6,hs,?_⟩;obtain⟨rfl,h⟩:=h;show At (Gl.behind prog 10 61 RH R) [.inBlock 2,.code K43] _ _ _
  refine At.inBlock ?_;refine At.s K44 K45 ?_;refine At.rg 15 [0,1,2,3] ?_;obtain⟨jT,n59,jU,hl,h⟩:=h;refine Seq.z 59 (.load 23 (.tmp 7)) 23 (.slice jT n59 jU) (Y.ld isAgg23 rfl hl) ?_;refine Seq.o ?_;refine AI.cl (some 60) call30 (h.cont fun Uf Az h2=>?_);replace h:=h2;clear h2;obtain⟨p60,n60,c60,rfl,h⟩:=h;refine Seq.us [(2,.slice p60 n60 c60),(3,.I 0)] (Seq.done ?_);obtain⟨mX,h⟩:=h;exact At.Uj (rs:=[.tmp 2,.tmp 3]) (vs:=[(.slice p60 n60 c60),(.I 0)]) (by kernel_rfl) func10 (by kernel_rfl) ⟨_,rfl,⟨_,rfl,rfl⟩⟩ h rfl (bu mX)
def uY {R:Rr}{l b7:Nat}{r0:Loop}{v24:Value}{σ:Hp}(h:∀b8:Nat,σ b8=none→AH prog (Instr.storeAt 45 (.pointer (some ⟨b8,0,none⟩)) v24) (Hp.set σ b8 (.cells #[(.N),(.N)] 45 (0,0))) (fun _ σ1=>σ1 l=some (.loop (lp r0 .ready none))∧∃dJ:Option Addr,∃n25:Nat,∃dK:Nat,Hp.ld (Hp.set σ1 l (.loop (lp r0 .busy none))) ⟨b7,0,none⟩=some (.slice dJ n25 dK)∧((0:Int)<(n25:Int)→∃p30:Option Addr,∃n30:Nat,∃c30:Nat,Hp.ld (Hp.set σ1 l (.loop (lp r0 .busy none))) ⟨b7,0,none⟩=some (.slice p30 n30 c30)∧AM ((n25:Int)-1)∧∃(Ux o33:Nat),p30=some ⟨Ux,o33,none⟩∧((0:Int)≤((n25:Int)-1)∧((n25:Int)-1)<(n30:Int))∧∃uZ:Option Addr,∃n35:Nat,∃jZ:Nat,Hp.ld (Hp.set σ1 l (.loop (lp r0 .busy none))) ⟨Ux,(o33+Int.toNat ((n25:Int)-1)*2),none⟩=some (.slice uZ n35 jZ)∧∃Qv:Option Addr,∃n37:Nat,∃Qw:Nat,Hp.ld (Hp.set σ1 l (.loop (lp r0 .busy none))) ⟨b8,0,none⟩=some (.slice Qv n37 Qw)∧Spec prog 22 #[(.slice uZ n35 jZ),(.slice Qv n37 Qw)] (Hp.set σ1 l (.loop (lp r0 .busy none))) (Ap (NP R) (fun v A3=>∃bM:Int,v=(.I bM)∧((bM:Int)=0→∃ja:Option Addr,∃n41:Nat,∃bN:Nat,Hp.ld A3 ⟨b7,0,none⟩=some (.slice ja n41 bN)∧AM ((n25:Int)-1)∧∃lO:Option Addr,∃n44:Nat,∃nH:Nat,Hp.ld A3 ⟨b7,0,none⟩=some (.slice lO n44 nH)∧AM ((n25:Int)-1)∧∃(b47 o47:Nat),lO=some ⟨b47,o47,none⟩∧((0:Int)≤((n25:Int)-1)∧((n25:Int)-1)<(n44:Int))∧∃p49:Option Addr,∃n49:Nat,∃c49:Nat,Hp.ld A3 ⟨b47,((o47+Int.toNat ((n25:Int)-1)*2)+1),none⟩=some (.slice p49 n49 c49)∧∃sk:Option Addr,∃n51:Nat,∃sn:Nat,Hp.ld A3 ⟨b8,1,none⟩=some (.slice sk n51 sn)∧Spec prog 29 #[(.slice p49 n49 c49),(.slice sk n51 sn)] A3 (Ap (NP R) (fun Uf Az=>∃p52:Option Addr,∃n52:Nat,∃c52:Nat,Uf=(.slice p52 n52 c52)∧Kp [b7] A3 Az∧∃(LC xU:Nat),ja=some ⟨LC,xU,none⟩∧((0:Int)≤((n25:Int)-1)∧((n25:Int)-1)<(n41:Int))∧AH prog (Instr.storeAt 43 (.pointer (some ⟨LC,((xU+Int.toNat ((n25:Int)-1)*2)+1),none⟩)) (.slice p52 n52 c52)) Az (fun _ BF=>BF l=some (.loop (lp r0 .busy none))∧R (.B true) (Hp.set BF l (.loop (lp r0 .ready none)))))))∧(¬((bM:Int)=0)→∃gI:Option Addr,∃gJ:Nat,∃Xd:Nat,Hp.ld A3 ⟨b7,0,none⟩=some (.slice gI gJ Xd)∧∃Lf:Option Addr,∃Lg:Nat,∃Lh:Nat,∃Li:Option Addr,∃Lj:Nat,∃Lk:Nat,Av A3 b8 0 [(.slice Lf Lg Lh),(.slice Li Lj Lk)]∧∀IU:Nat,A3 IU=none→AH prog (Builtin.append_ #[23,23] 23 #[(.slice gI gJ Xd),(.slice (some ⟨IU,0,none⟩) 1 1)]) (Hp.set A3 IU (.cells #[(.slice Lf Lg Lh),(.slice Li Lj Lk)] 45 (0,0))) (fun Uf Az=>∃Mu:Option Addr,∃ND:Nat,∃N9:Nat,Uf=(.slice Mu ND N9)∧AH prog (Instr.storeAt 23 (.pointer (some ⟨b7,0,none⟩)) (.slice Mu ND N9)) Az (fun _ BF=>BF l=some (.loop (lp r0 .busy none))∧R (.B true) (Hp.set BF l (.loop (lp r0 .ready none)))))))))∧(¬((0:Int)<(n25:Int))→∃gI:Option Addr,∃gJ:Nat,∃Xd:Nat,Hp.ld (Hp.set σ1 l (.loop (lp r0 .busy none))) ⟨b7,0,none⟩=some (.slice gI gJ Xd)∧∃Lf:Option Addr,∃Lg:Nat,∃Lh:Nat,∃Li:Option Addr,∃Lj:Nat,∃Lk:Nat,Av (Hp.set σ1 l (.loop (lp r0 .busy none))) b8 0 [(.slice Lf Lg Lh),(.slice Li Lj Lk)]∧∀IU:Nat,(Hp.set σ1 l (.loop (lp r0 .busy none))) IU=none→AH prog (Builtin.append_ #[23,23] 23 #[(.slice gI gJ Xd),(.slice (some ⟨IU,0,none⟩) 1 1)]) (Hp.set (Hp.set σ1 l (.loop (lp r0 .busy none))) IU (.cells #[(.slice Lf Lg Lh),(.slice Li Lj Lk)] 45 (0,0))) (fun v A3=>∃Mu:Option Addr,∃ND:Nat,∃N9:Nat,v=(.slice Mu ND N9)∧AH prog (Instr.storeAt 23 (.pointer (some ⟨b7,0,none⟩)) (.slice Mu ND N9)) A3 (fun _ Az=>Az l=some (.loop (lp r0 .busy none))∧R (.B true) (Hp.set Az l (.loop (lp r0 .ready none)))))))):AAs R l r0 b7 v24 σ:=by
 intro J;show At (Gl.round prog 10 61 l R) _ _ _ _
 refine At.rg 10 [0,1] ?_;refine Seq.o ?_;refine AI.JQ (T:=45) (d:=(some 8)) (ty:=0)  (gd:=none) (cs:=#[(.N),(.N)]) (by kernel_rfl) rfl rfl zeroValue45 rfl (fun b8 hn=>?_)
 replace h:=h b8 hn
 refine Seq.o ?_;refine AI.store (T:=45) (ty:=0) (x:=(.tmp 8)) (y:=(.tmp 24)) (p:=(.pointer (some ⟨b8,0,none⟩))) (v:=v24) (gd:=none) (by kernel_rfl) rfl rfl rfl (h.mono (fun _ σ1 h2=>?_));replace h:=h2;clear h2;refine Seq.done ?_;obtain⟨bL,h⟩:=h;refine At.beginRound rfl bL ?_;refine At.b 3 K36 ?_;refine At.s K37 K38 ?_;refine At.rg 11 [0,1,2] ?_;obtain⟨dJ,n25,dK,hl,h⟩:=h;refine Seq.z 25 (.load 23 (.tmp 7)) 23 (.slice dJ n25 dK) (Y.ld isAgg23 rfl hl) ?_;refine Seq.z 26 (.call { callee:=.builtin .len,args:=#[(.tmp 25)],argTypes:=#[23] }) 3 (.I (n25:Int)) (Y.lf underlying23 rfl rfl) ?_;refine Seq.u 9 (.I (n25:Int)) (Seq.done ?_);refine At.s K39 K40 ?_;refine At.draw (id:=12) (ops:=cO K39) (n:=14) (q:=(some [])) (plan:=[(0,true),(1,true),(2,true),(3,true),(4,true),(5,true),(6,true),(7,true),(8,true),(9,true),(10,true),(11,false),(12,true),(13,true)]) (tl:=[]) mixed (by kernel_rfl) (by kernel_rfl) ?_;refine Head.u 27 (.I (n25:Int)) ?_;refine Head.u 28 (.bool (decide ((0:Int)<(n25:Int)))) ?_;refine Head.u 29 (.bool (decide ((0:Int)<(n25:Int)))) ?_;cases hb:(decide ((0:Int)<(n25:Int))) with
 | true=>
  replace h:=h.1 (AWr hb)
  obtain⟨p30,n30,c30,hl,h⟩:=h;refine Head.ygl b7 [[11,8,7,6]] rfl (by kernel_rfl) (d:=(some 30)) (op:=(.load 23 (.tmp 7))) (ty:=23) (gd:=(some (2,true))) (v:=(.slice p30 n30 c30)) (by kernel_rfl) rfl rfl (Y.ld isAgg23 rfl (C3 hl)) ?_;refine Head.u 31 (.I (n25:Int)) ?_;obtain⟨hi,h⟩:=h;refine Head.zg 32 (.binOp .sub 3 (.tmp 31) (.const (.I 1)) 3) 3 (2,true) (.I ((n25:Int)-1)) (Y.iu hi rfl rfl) ?_;obtain⟨Ux,o33,hq,h⟩:=h;subst hq;obtain⟨hi,h⟩:=h;refine Head.zg 33 (.indexAddr 23 (.tmp 30) (.tmp 32)) 0 (2,true) (.pointer (some ⟨Ux,(o33+Int.toNat ((n25:Int)-1)*2),none⟩)) (Y.idx underlying23 sizeOf45 rfl rfl hi rfl) ?_;refine Head.zg 34 (.fieldAddr 45 (.tmp 33) 0) 0 (2,true) (.pointer (some ⟨Ux,(o33+Int.toNat ((n25:Int)-1)*2),none⟩)) (Y.fieldAddr (fd:=(EK prog 45 0)) underlying45 (by kernel_rfl) sizeOf37 rfl rfl) ?_;obtain⟨uZ,n35,jZ,hl,h⟩:=h;refine Head.ygl Ux [[11]] rfl (by kernel_rfl) (d:=(some 35)) (op:=(.load 37 (.tmp 34))) (ty:=37) (gd:=(some (2,true))) (v:=(.slice uZ n35 jZ)) (by kernel_rfl) rfl rfl (Y.ld isAgg37 rfl (C3 hl)) ?_;refine Head.zg 36 (.fieldAddr 45 (.tmp 8) 0) 0 (2,true) (.pointer (some ⟨b8,0,none⟩)) (Y.fieldAddr (fd:=(EK prog 45 0)) underlying45 (by kernel_rfl) sizeOf37 rfl rfl) ?_;obtain⟨Qv,n37,Qw,hl,h⟩:=h;refine Head.ygl b8 [[11]] rfl (by kernel_rfl) (d:=(some 37)) (op:=(.load 37 (.tmp 36))) (ty:=37) (gd:=(some (2,true))) (v:=(.slice Qv n37 Qw)) (by kernel_rfl) rfl rfl (Y.ld isAgg37 rfl (C3 hl)) ?_;refine Head.o (q':=(some [])) rfl ?_;refine AI.cl (some 38) call22 (h.cont fun v A3 h2=>?_);replace h:=h2;clear h2;obtain⟨bM,rfl,h⟩:=h;refine⟨⟨fun _ h=>h,Uk (L:=[]) Kp.nil⟩,?_⟩;refine Head.u 39 (.bool (decide ((bM:Int)=0))) ?_;refine Head.u 40 (.bool (decide ((bM:Int)=0))) ?_;refine Head.done ?_;refine Seq.done ?_;cases hb:(decide ((bM:Int)=0)) with
  | true=>
   replace h:=h.1 (AWr hb)
   refine At.cT 40 xQ K42 ?_;refine At.draw (id:=13) (ops:=cO xQ) (n:=14) (q:=(some [])) (plan:=[(0,true),(1,true),(2,true),(3,true),(4,true),(5,true),(6,true),(7,true),(8,true),(9,true),(10,true),(11,false),(12,true),(13,true)]) (tl:=[14]) mixed (by kernel_rfl) (by kernel_rfl) ?_;obtain⟨ja,n41,bN,hl,h⟩:=h;refine Head.yl b7 [] rfl (by kernel_rfl) (d:=(some 41)) (op:=(.load 23 (.tmp 7))) (ty:=23) (v:=(.slice ja n41 bN)) (by kernel_rfl) rfl (Y.ld isAgg23 rfl (C3 hl)) ?_;refine Head.u 42 (.I (n25:Int)) ?_;obtain⟨hi,h⟩:=h;refine Head.z 43 (.binOp .sub 3 (.tmp 42) (.const (.I 1)) 3) 3 (.I ((n25:Int)-1)) (Y.iu hi rfl rfl) ?_;obtain⟨lO,n44,nH,hl,h⟩:=h;refine Head.yl b7 [[11,8,7,6]] rfl (by kernel_rfl) (d:=(some 44)) (op:=(.load 23 (.tmp 7))) (ty:=23) (v:=(.slice lO n44 nH)) (by kernel_rfl) rfl (Y.ld isAgg23 rfl (C3 hl)) ?_;refine Head.u 45 (.I (n25:Int)) ?_;obtain⟨hi,h⟩:=h;refine Head.z 46 (.binOp .sub 3 (.tmp 45) (.const (.I 1)) 3) 3 (.I ((n25:Int)-1)) (Y.iu hi rfl rfl) ?_;obtain⟨b47,o47,hq,h⟩:=h;subst hq;obtain⟨hi,h⟩:=h;refine Head.z 47 (.indexAddr 23 (.tmp 44) (.tmp 46)) 0 (.pointer (some ⟨b47,(o47+Int.toNat ((n25:Int)-1)*2),none⟩)) (Y.idx underlying23 sizeOf45 rfl rfl hi rfl) ?_;refine Head.z 48 (.fieldAddr 45 (.tmp 47) 1) 0 (.pointer (some ⟨b47,((o47+Int.toNat ((n25:Int)-1)*2)+1),none⟩)) (Y.fieldAddr (fd:=(EK prog 45 1)) underlying45 (by kernel_rfl) sizeOf43 rfl rfl) ?_;obtain⟨p49,n49,c49,hl,h⟩:=h;refine Head.yl b47 [[11]] rfl (by kernel_rfl) (d:=(some 49)) (op:=(.load 43 (.tmp 48))) (ty:=43) (v:=(.slice p49 n49 c49)) (by kernel_rfl) rfl (Y.ld isAgg43 rfl (C3 hl)) ?_;refine Head.z 50 (.fieldAddr 45 (.tmp 8) 1) 0 (.pointer (some ⟨b8,1,none⟩)) (Y.fieldAddr (fd:=(EK prog 45 1)) underlying45 (by kernel_rfl) sizeOf43 rfl rfl) ?_;obtain⟨sk,n51,sn,hl,h⟩:=h;refine Head.yl b8 [[11]] rfl (by kernel_rfl) (d:=(some 51)) (op:=(.load 43 (.tmp 50))) (ty:=43) (v:=(.slice sk n51 sn)) (by kernel_rfl) rfl (Y.ld isAgg43 rfl (C3 hl)) ?_;refine Head.o (q':=(some [(b7,[])])) rfl ?_;refine AI.cl (some 52) call29 (h.cont fun Uf Az h2=>?_);replace h:=h2;clear h2;obtain⟨p52,n52,c52,rfl,hk,h⟩:=h;refine⟨⟨fun _ h=>h,Uk (L:=[(b7,[])]) hk⟩,?_⟩;obtain⟨LC,xU,hq,h⟩:=h;subst hq;obtain⟨hi,h⟩:=h;refine Head.z 53 (.indexAddr 23 (.tmp 41) (.tmp 43)) 0 (.pointer (some ⟨LC,(xU+Int.toNat ((n25:Int)-1)*2),none⟩)) (Y.idx underlying23 sizeOf45 rfl rfl hi rfl) ?_;refine Head.z 54 (.fieldAddr 45 (.tmp 53) 1) 0 (.pointer (some ⟨LC,((xU+Int.toNat ((n25:Int)-1)*2)+1),none⟩)) (Y.fieldAddr (fd:=(EK prog 45 1)) underlying45 (by kernel_rfl) sizeOf43 rfl rfl) ?_;refine Head.done ?_;refine Seq.o ?_;refine AI.store (T:=43) (ty:=0) (x:=(.tmp 54)) (y:=(.tmp 52)) (p:=(.pointer (some ⟨LC,((xU+Int.toNat ((n25:Int)-1)*2)+1),none⟩))) (v:=(.slice p52 n52 c52)) (gd:=none) (by kernel_rfl) rfl rfl rfl (h.mono (fun _ BF h2=>?_));replace h:=h2;clear h2;refine Seq.done ?_;refine At.inBlock ?_;exact At.M1 rfl h.1 h.2
  | false=>
   replace h:=h.2 (AW2 hb)
   refine At.cF 40 xQ K42 ?_;refine At.rg 14 [0,1,2,3,4] ?_;obtain⟨gI,gJ,Xd,hl,h⟩:=h;refine Seq.z 55 (.load 23 (.tmp 7)) 23 (.slice gI gJ Xd) (Y.ld isAgg23 rfl hl) ?_;obtain⟨Lf,Lg,Lh,Li,Lj,Lk,hl,h⟩:=h;refine Seq.z 56 (.load 45 (.tmp 8)) 45 (.agg #[(.slice Lf Lg Lh),(.slice Li Lj Lk)]) (Y.lda isAgg45 sizeOf45 rfl rfl hl) ?_;refine Seq.o ?_;refine AI.GO (T:=23) (E:=45) (m:=1) (ps:=#[(0,(.tmp 56))]) (d:=(some 57)) (ty:=23) (gd:=none) (vs:=[(0,(.agg #[(.slice Lf Lg Lh),(.slice Li Lj Lk)]))]) (cs:=#[(.slice Lf Lg Lh),(.slice Li Lj Lk)]) underlying23 (by kernel_rfl) rfl rfl rfl (by kernel_rfl) (fun IU hn=>?_)
   replace h:=h IU hn
   refine Seq.o ?_;refine AI.QA (d:=(some 58)) (op:=(.call { callee:=.builtin .append,args:=#[(.tmp 55),(.tmp 57)],argTypes:=#[23,23] })) (ty:=23) (gd:=none) (by kernel_rfl) rfl rfl (Builtin.append_ #[23,23] 23 #[(.slice gI gJ Xd),(.slice (some ⟨IU,0,none⟩) 1 1)]) (fun o ho ht=>Cn rfl rfl o ho ht) (h.mono (fun Uf Az h2=>?_));replace h:=h2;clear h2;obtain⟨Mu,ND,N9,rfl,h⟩:=h;refine Seq.o ?_;refine AI.store (T:=23) (ty:=0) (x:=(.tmp 7)) (y:=(.tmp 58)) (p:=(.pointer (some ⟨b7,0,none⟩))) (v:=(.slice Mu ND N9)) (gd:=none) (by kernel_rfl) rfl rfl rfl (h.mono (fun _ BF h2=>?_));replace h:=h2;clear h2;refine Seq.done ?_;refine At.L [] fun J=>?_;refine At.inBlock ?_;exact At.M1 rfl h.1 h.2
 | false=>
  replace h:=h.2 (AW2 hb)
  refine Head.n 30 ?_;refine Head.n 31 ?_;refine Head.n 32 ?_;refine Head.n 33 ?_;refine Head.n 34 ?_;refine Head.n 35 ?_;refine Head.n 36 ?_;refine Head.n 37 ?_;refine Head.o (q':=(some [])) rfl ?_;refine AI.no (d:=(some 38)) (op:=(.call { callee:=.value (.func 22),args:=#[(.tmp 35),(.tmp 37)],argTypes:=#[37,37] })) (ty:=3) (gd:=some (2,true)) (by kernel_rfl) rfl rfl ?_;refine⟨I1.refl _ _ _,?_⟩;refine Head.n 39 ?_;refine Head.u 40 (.bool false) ?_;refine Head.done ?_;refine Seq.done ?_;refine At.cF 40 xQ K42 ?_;refine At.rg 14 [0,1,2,3,4] ?_;obtain⟨gI,gJ,Xd,hl,h⟩:=h;refine Seq.z 55 (.load 23 (.tmp 7)) 23 (.slice gI gJ Xd) (Y.ld isAgg23 rfl hl) ?_;obtain⟨Lf,Lg,Lh,Li,Lj,Lk,hl,h⟩:=h;refine Seq.z 56 (.load 45 (.tmp 8)) 45 (.agg #[(.slice Lf Lg Lh),(.slice Li Lj Lk)]) (Y.lda isAgg45 sizeOf45 rfl rfl hl) ?_;refine Seq.o ?_;refine AI.GO (T:=23) (E:=45) (m:=1) (ps:=#[(0,(.tmp 56))]) (d:=(some 57)) (ty:=23) (gd:=none) (vs:=[(0,(.agg #[(.slice Lf Lg Lh),(.slice Li Lj Lk)]))]) (cs:=#[(.slice Lf Lg Lh),(.slice Li Lj Lk)]) underlying23 (by kernel_rfl) rfl rfl rfl (by kernel_rfl) (fun IU hn=>?_)
  replace h:=h IU hn
  refine Seq.o ?_;refine AI.QA (d:=(some 58)) (op:=(.call { callee:=.builtin .append,args:=#[(.tmp 55),(.tmp 57)],argTypes:=#[23,23] })) (ty:=23) (gd:=none) (by kernel_rfl) rfl rfl (Builtin.append_ #[23,23] 23 #[(.slice gI gJ Xd),(.slice (some ⟨IU,0,none⟩) 1 1)]) (fun o ho ht=>Cn rfl rfl o ho ht) (h.mono (fun v A3 h2=>?_));replace h:=h2;clear h2;obtain⟨Mu,ND,N9,rfl,h⟩:=h;refine Seq.o ?_;refine AI.store (T:=23) (ty:=0) (x:=(.tmp 7)) (y:=(.tmp 58)) (p:=(.pointer (some ⟨b7,0,none⟩))) (v:=(.slice Mu ND N9)) (gd:=none) (by kernel_rfl) rfl rfl rfl (h.mono (fun _ Az h2=>?_));replace h:=h2;clear h2;refine Seq.done ?_;refine At.inBlock ?_;exact At.M1 rfl h.1 h.2
end Ca
namespace G6
variable {p0:Option Addr}{n0 c0:Nat}
def M:Fw:=⟨prog,23,f23,[],[],false,[],[],[]⟩
def ok:M.Ok:=⟨AG.nil,mixed,func23,by kernel_rfl⟩
def start (h:Al σ fun b3=>AH prog (Builtin.append_ #[48,48] 48 #[(.slice (aD b3 0) 0 0),.slice p0 n0 c0]) (Hp.set σ b3 (.cells #[] 47 (0,0))) (CS fun p5 n5 c5 y=>R (.returned (.slice p5 n5 c5)) y)):Spec prog 23 #[.slice p0 n0 c0] σ R:=M.start h ok
end G6
namespace I7
variable {p0:Option Addr}{n0 c0:Nat}
def M:Fw:=⟨prog,26,f26,[],[],false,[],[],[]⟩
def ok:M.Ok:=⟨AG.nil,mixed,func26,by kernel_rfl⟩
def start (h:Al σ fun b3=>AH prog (Builtin.append_ #[43,43] 43 #[(.slice (aD b3 0) 0 0),.slice p0 n0 c0]) (Hp.set σ b3 (.cells #[] 42 (0,0))) (CS fun p5 n5 c5 y=>R (.returned (.slice p5 n5 c5)) y)):Spec prog 26 #[.slice p0 n0 c0] σ R:=M.start h ok
end I7
namespace ET
variable {p0 p3 SC:Option Addr}{n0 c0 n3 c3 n10 NI:Nat}{x11 x12:Int}
def M:Fw:=⟨prog,36,f36,[51,52],[5],false,[],[],[(232,[(3,wL),(10,wL),(11,wI),(12,wI)])]⟩
def ok:M.Ok:=⟨.cons call51 (.cons call52 (AG.nil)),mixed,func36,by kernel_rfl⟩
def Aw:=M.pt 0
def start (h:Df (IntKind.u64.wrap (n0:Int)) fun x8=>AL 51 #[.N,.U x8] σ R (CS fun p9 n9 c9 y=>Aw R p9 n9 c9 p0 n0 c0 (n0:Int) 0 y)):Spec prog 36 #[.slice p0 n0 c0] σ R:=M.start h ok
def AY (h:Br (x12<x11) (Pq SC fun BT PZ=>In x12 (n10:Int)∧∃AFg AFh,Av σ BT (PZ+x12.toNat*2) [.string AFg,.string AFh]∧∀b5:Nat,AL 52 #[.slice p3 n3 c3,.string AFg] σ R (CS fun p19 n19 c19 y=>AL 52 #[.slice p19 n19 c19,.string AFh] y R (CS fun Vc n22 Ue AE=>AM (x12+1)∧Aw R Vc n22 Ue (aD BT PZ) n10 NI x11 (x12+1) AE))) (R (.returned (.slice p3 n3 c3)) σ)):Aw R p3 n3 c3 SC n10 NI x11 x12 σ:=M.of h ok rfl
end ET
namespace Dr
variable {v0:Value}
def M:Fw:=⟨prog,47,f47,[67],[],false,[],[],[]⟩
def ok:M.Ok:=⟨.cons call67 (AG.nil),mixed,func47,by kernel_rfl⟩
def start (h:MC prog v0 mR #[] σ (Ap R (CI .i64 fun x5 y=>AM (x5-1)∧MC prog v0 NA #[.I 0,(.I (x5-1))] y (Ap R (fun z AE=>z=(.tuple #[])∧AL 67 #[v0,.I 0,(.I (x5-1))] AE R (CB fun t12 AJ=>MC prog v0 AEi #[] AJ (Ap R (fun z As=>∃jb,jb=z∧R (.returned jb) As)))))))):Spec prog 47 #[v0] σ R:=M.CY h ok [(0,.o (.V v0))] rfl rfl (by kernel_rfl)
end Dr
namespace E5
variable {s0:ByteArray}{x3:Int}
def M:Fw:=⟨prog,64,f64,[],[],false,[],[],[(464,[(0,wT),(3,wI)])]⟩
def ok:M.Ok:=⟨AG.nil,mixed,func64,by kernel_rfl⟩
def Ek:=M.pt 0
def start (h:Bo ((ByteArray.toList s0==ByteArray.toList (ByteArray.mk #[]))) (R (.B false) σ) (Br ((64:Int)<(s0.size:Int)) (R (.B false) σ) (∃LD:UInt8,(0:Int)≤0∧(ByteArray.data s0)[Int.toNat 0]?=some LD∧Br ((48:Int)≤(LD.toNat:Int)) (∃u18:UInt8,(0:Int)≤0∧(ByteArray.data s0)[Int.toNat 0]?=some u18∧Br (((u18.toNat:Int):Int)≤57) (R (.B false) σ) (Ek R s0 0 σ)) (Ek R s0 0 σ)))):Spec prog 64 #[.string s0] σ R:=M.start h ok
def EP (h:Br (x3<(s0.size:Int)) (∃bO:UInt8,0≤x3∧(ByteArray.data s0)[x3.toNat]?=some bO∧Br (((bO.toNat:Int):Int)≠95) (Br (((bO.toNat:Int):Int)<48) (Br (((bO.toNat:Int):Int)<65) (Br (((bO.toNat:Int):Int)<97) (R (.B false) σ) (Br ((122:Int)<(bO.toNat:Int)) (R (.B false) σ) (AM (x3+1)∧Ek R s0 (x3+1) σ))) (Br ((90:Int)<(bO.toNat:Int)) (Br (((bO.toNat:Int):Int)<97) (R (.B false) σ) (Br ((122:Int)<(bO.toNat:Int)) (R (.B false) σ) (AM (x3+1)∧Ek R s0 (x3+1) σ))) (AM (x3+1)∧Ek R s0 (x3+1) σ))) (Br ((57:Int)<(bO.toNat:Int)) (Br (((bO.toNat:Int):Int)<65) (Br (((bO.toNat:Int):Int)<97) (R (.B false) σ) (Br ((122:Int)<(bO.toNat:Int)) (R (.B false) σ) (AM (x3+1)∧Ek R s0 (x3+1) σ))) (Br ((90:Int)<(bO.toNat:Int)) (Br (((bO.toNat:Int):Int)<97) (R (.B false) σ) (Br ((122:Int)<(bO.toNat:Int)) (R (.B false) σ) (AM (x3+1)∧Ek R s0 (x3+1) σ))) (AM (x3+1)∧Ek R s0 (x3+1) σ))) (AM (x3+1)∧Ek R s0 (x3+1) σ))) (AM (x3+1)∧Ek R s0 (x3+1) σ)) (R (.B true) σ)):Ek R s0 x3 σ:=M.of h ok rfl
end E5
namespace AT
variable {q0 Dl D6 p2 F6 HU Gv Fg Ef En Pa dL nI Kz gK:Option Addr}{Dc Cp Dd Dm DO Cs Gp Fy HV Ft HW IJ Fh Fi Eo Ep I6 Cz nJ Wn:Int}{De IK:ByteArray}{Dn Dp Dq D7 n2 c2 F7 GA HX HY Gw Gx Fj Fk Eg Eh Er Es n21 Me dM dO nK nL n11 LA n46 dP:Nat}{DP IL:Bool}
def M:Fw:=⟨prog,77,f77,[99,100,101],[4,6,8,10,13],false,[],[],[(232,[(0,wQ),(4,.X 51 [.I .i64,.I .i64,.T,.L,.I .i64,.I .i64,.I .i64,.L,.B,.I .i64]),(6,.X 84 [.I .i64,.I .u64,.L,.L]),(8,.X 84 [.I .i64,.I .u64,.L,.L]),(21,wL),(22,wI),(23,wI)]),(239208,[(0,wQ),(4,.X 51 [.I .i64,.I .i64,.T,.L,.I .i64,.I .i64,.I .i64,.L,.B,.I .i64]),(6,.X 84 [.I .i64,.I .u64,.L,.L]),(8,.X 84 [.I .i64,.I .u64,.L,.L]),(10,.X 45 [.L,.L]),(11,wL),(21,wL),(22,wI),(23,wI),(46,wL),(47,wI),(48,wI)]),(935,[(0,wQ),(4,.X 51 [.I .i64,.I .i64,.T,.L,.I .i64,.I .i64,.I .i64,.L,.B,.I .i64]),(6,.X 84 [.I .i64,.I .u64,.L,.L]),(8,.X 84 [.I .i64,.I .u64,.L,.L]),(21,wL),(22,wI),(23,wI)]),(956839,[(0,wQ),(4,.X 51 [.I .i64,.I .i64,.T,.L,.I .i64,.I .i64,.I .i64,.L,.B,.I .i64]),(6,.X 84 [.I .i64,.I .u64,.L,.L]),(8,.X 84 [.I .i64,.I .u64,.L,.L]),(10,.X 45 [.L,.L]),(11,wL),(21,wL),(22,wI),(23,wI),(46,wL),(47,wI),(48,wI)])]⟩
def ok:M.Ok:=⟨.cons call99 (.cons call100 (.cons call101 (AG.nil))),mixed,func77,by kernel_rfl⟩
def Aw:=M.pt 0
def Hn:=M.pt 1
def Ll:=M.pt 2
def ua:=M.pt 3
def start (h:∀b4:Nat,∀b6:Nat,AL 101 #[.I Dd] σ R (CI .u64 fun x16 y=>∀b8:Nat,Pq q0 fun BR Xe=>LS y BR Xe fun Pa n21 Me=>Aw R (aD BR Xe) Dc Cp De Dl Dn Dp Dd Dm DO D6 Dq D7 DP Cs 0 0 none 0 0 none 0 0 3 x16 none 0 0 none 0 0 Pa n21 Me (n21:Int) 0 y)):Spec prog 77 #[.pointer q0,.agg #[.I Dc,.I Cp,.string De,.slice Dl Dn Dp,.I Dd,.I Dm,.I DO,.slice D6 Dq D7,.bool DP,.I Cs],.slice p2 n2 c2] σ R:=M.start h ok
def AY (h:Br (Cz<I6) (Pq Pa fun LF bP=>In Cz (n21:Int)∧∃AFi AFj AFk AAt AAu AAv,Av σ LF (bP+Cz.toNat*2) [.slice AFi AFj AFk,.slice AAt AAu AAv]∧∀CC:Nat,Pq q0 fun jc o30=>LI .i64 σ jc (o30+1) fun nM=>AM (nM-Ft)∧AM ((nM-Ft)-HV)∧LI .i64 σ jc (o30+1) fun Ya=>AM (Ya-Ft)∧AL 99 #[.slice AAt AAu AAv,(.I ((nM-Ft)-HV)),(.I (Ya-Ft))] σ R (CS fun gK n46 dP y=>Hn R (aD jc o30) Gp Fy IK F6 F7 GA HV Ft HW HU HX HY IL IJ Fh Fi Gv Gw Gx Fg Fj Fk Eo Ep Ef Eg Eh En Er Es AFi AFj AFk AAt AAu AAv none 0 0 (aD LF bP) n21 Me I6 Cz gK n46 dP (n46:Int) 0 y)) (R (.T #[.agg #[.I Eo,.U Ep,.slice Ef Eg Eh,.slice En Er Es],.I 0]) σ)):Aw R q0 Gp Fy IK F6 F7 GA HV Ft HW HU HX HY IL IJ Fh Fi Gv Gw Gx Fg Fj Fk Eo Ep Ef Eg Eh En Er Es Pa n21 Me I6 Cz σ:=M.of3 h ok rfl fun _ _ _=>by kernel_rfl
def G7 (h:Br (Wn<nJ) (Pq gK fun Wm o50=>In Wn (n46:Int)∧∃AM2 AAw,Av σ Wm (o50+Wn.toNat*2) [.I AM2,.U AAw]∧∀Bc:Nat,Br (AAw≠9218868437227405314) (Al σ fun b58=>AH prog (I4 166 Kz n11 LA b58) (Hp.set σ b58 (.cells #[.U AAw] 38 (0,0))) (CS fun jT n59 jU y=>ua R q0 Gp Fy IK F6 F7 GA HV Ft HW HU HX HY IL IJ Fh Fi Gv Gw Gx Fg Fj Fk Eo Ep Ef Eg Eh En Er Es dL dM dO nI nK nL jT n59 jU Pa n21 Me I6 Cz (aD Wm o50) n46 dP nJ Wn y)) (ua R q0 Gp Fy IK F6 F7 GA HV Ft HW HU HX HY IL IJ Fh Fi Gv Gw Gx Fg Fj Fk Eo Ep Ef Eg Eh En Er Es dL dM dO nI nK nL Kz n11 LA Pa n21 Me I6 Cz (aD Wm o50) n46 dP nJ Wn σ)) (Br (0<(n11:Int)) (AL 100 #[.slice F6 F7 GA,.slice dL dM dO] σ R (CB fun t69 y=>Bo t69 (Al y fun b77=>AH prog (I4 82 En Er Es b77) (Hp.set y b77 (.cells #[.slice dL dM dO,.slice Kz n11 LA] 168 (0,0))) (CS fun so nN sq AE=>Ll R q0 Gp Fy IK F6 F7 GA HV Ft HW HU HX HY IL IJ Fh Fi Gv Gw Gx Fg Fj Fk Eo Ep Ef Eg Eh so nN sq Pa n21 Me I6 Cz AE)) (Ll R q0 Gp Fy IK F6 F7 GA HV Ft HW HU HX HY IL IJ Fh Fi Gv Gw Gx Fg Fj Fk Eo Ep Ef Eg Eh En Er Es Pa n21 Me I6 Cz y))) (Ll R q0 Gp Fy IK F6 F7 GA HV Ft HW HU HX HY IL IJ Fh Fi Gv Gw Gx Fg Fj Fk Eo Ep Ef Eg Eh En Er Es Pa n21 Me I6 Cz σ))):Hn R q0 Gp Fy IK F6 F7 GA HV Ft HW HU HX HY IL IJ Fh Fi Gv Gw Gx Fg Fj Fk Eo Ep Ef Eg Eh En Er Es dL dM dO nI nK nL Kz n11 LA Pa n21 Me I6 Cz gK n46 dP nJ Wn σ:=M.of4 h ok rfl fun _ _ _ _=>by kernel_rfl
def IV (h:AM (Cz+1)∧Aw R q0 Gp Fy IK F6 F7 GA HV Ft HW HU HX HY IL IJ Fh Fi Gv Gw Gx Fg Fj Fk Eo Ep Ef Eg Eh En Er Es Pa n21 Me I6 (Cz+1) σ):Ll R q0 Gp Fy IK F6 F7 GA HV Ft HW HU HX HY IL IJ Fh Fi Gv Gw Gx Fg Fj Fk Eo Ep Ef Eg Eh En Er Es Pa n21 Me I6 Cz σ:=M.of3 h ok rfl fun _ _ _=>by kernel_rfl
def ub (h:AM (Wn+1)∧Hn R q0 Gp Fy IK F6 F7 GA HV Ft HW HU HX HY IL IJ Fh Fi Gv Gw Gx Fg Fj Fk Eo Ep Ef Eg Eh En Er Es dL dM dO nI nK nL Kz n11 LA Pa n21 Me I6 Cz gK n46 dP nJ (Wn+1) σ):ua R q0 Gp Fy IK F6 F7 GA HV Ft HW HU HX HY IL IJ Fh Fi Gv Gw Gx Fg Fj Fk Eo Ep Ef Eg Eh En Er Es dL dM dO nI nK nL Kz n11 LA Pa n21 Me I6 Cz gK n46 dP nJ Wn σ:=M.of4 h ok rfl fun _ _ _ _=>by kernel_rfl
end AT
namespace SE
variable {Em ES Qr NF HT I5:Int}{Qt:ByteArray}{Vi R9:Option Addr}{Uv Vj RI SA:Nat}{Mb:Bool}
def M:Fw:=⟨prog,89,f89,[],[1,2],false,[(12,7,false),(15,7,false),(18,11,false),(21,15,false)],[],[]⟩
def ok:M.Ok:=⟨AG.nil,mixed,func89,by kernel_rfl⟩
def start (h:∀b1:Nat,∀b2:Nat,Al σ fun b3=>AH prog (Instr.storeAt 51 (.pointer (aD b3 0)) (.agg #[.I Em,.I 0,(.string (ByteArray.mk #[])),.N,.I 0,.I 0,.I 0,.N,.bool false,.I 0])) (Hp.set σ b3 (.cells #[.I 0,.I 0,(.string (ByteArray.mk #[])),.N,.I 0,.I 0,.I 0,.N,.bool false,.I 0] 51 (0,0))) (fun _ y=>Br (Em=1) (AH prog (Instr.storeAt 9 (.pointer (aD b3 2)) (.string Qt)) y (fun _ AE=>∃Wo Wp nO nP nQ nR nS nT nU nW nX nY nZ nc,Av AE b3 0 [.I Wo,.I Wp,.string nO,.slice nP nQ nR,.I nS,.I nT,.I nU,.slice nW nX nY,.bool nZ,.I nc]∧R (.returned (.agg #[.I Wo,.I Wp,.string nO,.slice nP nQ nR,.I nS,.I nT,.I nU,.slice nW nX nY,.bool nZ,.I nc])) AE)) (Br (Em=2) (AH prog (Instr.storeAt 2 (.pointer (aD b3 5)) (.I NF)) y (fun _ AE=>∃jd je AFl AFm AFn AFo AFp AFq AFr AFs AFt AFu AFv AFw,Av AE b3 0 [.I jd,.I je,.string AFl,.slice AFm AFn AFo,.I AFp,.I AFq,.I AFr,.slice AFs AFt AFu,.bool AFv,.I AFw]∧R (.returned (.agg #[.I jd,.I je,.string AFl,.slice AFm AFn AFo,.I AFp,.I AFq,.I AFr,.slice AFs AFt AFu,.bool AFv,.I AFw])) AE)) (Br (Em=3) (AH prog (Instr.storeAt 2 (.pointer (aD b3 4)) (.I Qr)) y (fun _ AE=>AH prog (Instr.storeAt 2 (.pointer (aD b3 5)) (.I NF)) AE (fun _ AJ=>∃Yb AFx AFy AFz AF0 AF1 AF2 AF3 AF4 AF5 AF6 AF7 AF8 AF9,Av AJ b3 0 [.I Yb,.I AFx,.string AFy,.slice AFz AF0 AF1,.I AF2,.I AF3,.I AF4,.slice AF5 AF6 AF7,.bool AF8,.I AF9]∧R (.returned (.agg #[.I Yb,.I AFx,.string AFy,.slice AFz AF0 AF1,.I AF2,.I AF3,.I AF4,.slice AF5 AF6 AF7,.bool AF8,.I AF9])) AJ))) (Br (Em=4) (AH prog (Instr.storeAt 3 (.pointer (aD b3 1)) (.I ES)) y (fun _ AE=>AH prog (Instr.storeAt 3 (.pointer (aD b3 9)) (.I I5)) AE (fun _ AJ=>∃AGA AGB AGC AGD AGE AGF AGG AGH AGI AGJ AGK AGL AGM AGN,Av AJ b3 0 [.I AGA,.I AGB,.string AGC,.slice AGD AGE AGF,.I AGG,.I AGH,.I AGI,.slice AGJ AGK AGL,.bool AGM,.I AGN]∧R (.returned (.agg #[.I AGA,.I AGB,.string AGC,.slice AGD AGE AGF,.I AGG,.I AGH,.I AGI,.slice AGJ AGK AGL,.bool AGM,.I AGN])) AJ))) (Br (Em=5) (AH prog (Instr.storeAt 3 (.pointer (aD b3 1)) (.I ES)) y (fun _ AE=>AH prog (Instr.storeAt 3 (.pointer (aD b3 9)) (.I I5)) AE (fun _ AJ=>AH prog (Instr.storeAt 3 (.pointer (aD b3 6)) (.I HT)) AJ (fun _ As=>∃ng nh AGO ni nj nq AGP AGQ AGR AGS AGT AGU AGV AGW,Av As b3 0 [.I ng,.I nh,.string AGO,.slice ni nj nq,.I AGP,.I AGQ,.I AGR,.slice AGS AGT AGU,.bool AGV,.I AGW]∧R (.returned (.agg #[.I ng,.I nh,.string AGO,.slice ni nj nq,.I AGP,.I AGQ,.I AGR,.slice AGS AGT AGU,.bool AGV,.I AGW])) As)))) (Br (Em=6) (AH prog (Instr.storeAt 3 (.pointer (aD b3 1)) (.I ES)) y (fun _ AE=>AH prog (Instr.storeAt 3 (.pointer (aD b3 9)) (.I I5)) AE (fun _ AJ=>AH prog (Instr.storeAt 4 (.pointer (aD b3 8)) (.bool Mb)) AJ (fun _ As=>AH prog (Instr.storeAt 3 (.pointer (aD b3 6)) (.I HT)) As (fun _ JY=>∃AGX AGY AGZ AGa AGb AGc AGd AGe AGf AGg AGh AGi AGj AGk,Av JY b3 0 [.I AGX,.I AGY,.string AGZ,.slice AGa AGb AGc,.I AGd,.I AGe,.I AGf,.slice AGg AGh AGi,.bool AGj,.I AGk]∧R (.returned (.agg #[.I AGX,.I AGY,.string AGZ,.slice AGa AGb AGc,.I AGd,.I AGe,.I AGf,.slice AGg AGh AGi,.bool AGj,.I AGk])) JY))))) (AH prog (Instr.storeAt 3 (.pointer (aD b3 9)) (.I I5)) y (fun _ AE=>∃AGl nG AGm AGn AGo AGp AGq AGr AGs AGt AGu AGv AGw AGx,Av AE b3 0 [.I AGl,.I nG,.string AGm,.slice AGn AGo AGp,.I AGq,.I AGr,.I AGs,.slice AGt AGu AGv,.bool AGw,.I AGx]∧R (.returned (.agg #[.I AGl,.I nG,.string AGm,.slice AGn AGo AGp,.I AGq,.I AGr,.I AGs,.slice AGt AGu AGv,.bool AGw,.I AGx])) AE))))))))):Spec prog 89 #[.agg #[.I Em,.I ES,.string Qt,.slice Vi Uv Vj,.I Qr,.I NF,.I HT,.slice R9 RI SA,.bool Mb,.I I5]] σ R:=M.start h ok
end SE
namespace NJ
variable {x0:Int}
def M:Fw:=⟨prog,102,f102,[126,133,134],[],false,[],[],[]⟩
def ok:M.Ok:=⟨.cons call126 (.cons call133 (.cons call134 (AG.nil))),mixed,func102,by kernel_rfl⟩
def start (h:AL 134 #[.U x0] σ R (fun z y=>∃x4,(Value.float .f64 x4)=z∧AL 133 #[(Value.float .f64 x4)] y R (fun z AE=>∃x5,(Value.float .f64 x5)=z∧AL 126 #[(Value.float .f64 x5)] AE R (CI .u64 fun x6 AJ=>R (.returned (.U x6)) AJ)))):Spec prog 102 #[.U x0] σ R:=M.start h ok
end NJ
namespace DV
variable {p0:Option Addr}{n0 c0:Nat}
def M:Fw:=⟨prog,111,f111,[154],[],false,[],[],[]⟩
def ok:M.Ok:=⟨.cons call154 (AG.nil),mixed,func111,by kernel_rfl⟩
def start (h:AL 154 #[.I 9,.slice p0 n0 c0] σ R (CI .u64 fun x4 y=>R (.returned (.U x4)) y)):Spec prog 111 #[.slice p0 n0 c0] σ R:=M.start h ok
end DV
namespace QN
def M:Fw:=⟨prog,130,f130,[],[],false,[],[],[]⟩
def ok:M.Ok:=⟨AG.nil,mixed,func130,by kernel_rfl⟩
def start (h:Al σ fun b1=>R (.returned (.slice (aD b1 0) 5 5)) (Hp.set σ b1 (.cells #[.nilFunc,(.func (.func 165) #[] #[]),(.func (.func 166) #[] #[]),(.func (.func 167) #[] #[]),(.func (.func 168) #[] #[])] 198 (0,0)))):Spec prog 130 #[] σ R:=M.start h ok
end QN
namespace DW
variable {s0:ByteArray}{p2 p3 p7:Option Addr}{n2 c2 n3 c3 n7 c7:Nat}{x8 x9:Int}
def M:Fw:=⟨prog,131,f131,[169],[2,3],false,[(5,8,false)],[],[(232,[(2,.X 201 [.L]),(3,.X 201 [.L]),(7,wL),(8,wI),(9,wI)])]⟩
def ok:M.Ok:=⟨.cons call169 (AG.nil),mixed,func131,by kernel_rfl⟩
def Aw:=M.pt 0
def start (h:∀b2:Nat,∀b3:Nat,AL 169 #[.string s0,(.string (ByteArray.mk #[124]))] σ R (CS fun p7 n7 c7 y=>Aw R none 0 0 none 0 0 p7 n7 c7 (n7:Int) 0 y)):Spec prog 131 #[.string s0] σ R:=M.start h ok
def AY (h:Br (x9<x8) (Pq p7 fun A7 Xh=>In x9 (n7:Int)∧LT σ A7 (Xh+x9.toNat*1) fun s12=>AL 169 #[.string s12,(.string (ByteArray.mk #[42]))] σ R (CS fun Mv n16 Ln y=>Al y fun Vk=>AH prog (I4 199 p3 n3 c3 Vk) (Hp.set y Vk (.cells #[.slice Mv n16 Ln] 232 (0,0))) (CS fun p19 n19 c19 AE=>AM (x9+1)∧Aw R p2 n2 c2 p19 n19 c19 (aD A7 Xh) n7 c7 x8 (x9+1) AE))) (R (.returned (.agg #[.slice p3 n3 c3])) σ)):Aw R p2 n2 c2 p3 n3 c3 p7 n7 c7 x8 x9 σ:=M.jQ h ok rfl fun _ _=>by kernel_rfl
end DW
namespace gL
variable {x0:Int}
def M:Fw:=⟨prog,134,f134,[],[],false,[],[],[]⟩
def ok:M.Ok:=⟨AG.nil,mixed,func134,by kernel_rfl⟩
def start (h:EN prog 170 #[.U x0] σ (fun z y=>∃x4,(Value.float .f64 x4)=z∧R (.returned (Value.float .f64 x4)) y)):Spec prog 134 #[.U x0] σ R:=M.start h ok
end gL
namespace DF
variable {p0:Option Addr}{n0 c0:Nat}
def M:Fw:=⟨prog,137,f137,[138],[],false,[],[],[]⟩
def ok:M.Ok:=⟨.cons call138 (AG.nil),mixed,func137,by kernel_rfl⟩
def start (h:AM ((n0:Int)-1)∧Pq p0 fun b7 o7=>In (((n0:Int)-1)) (n0:Int)∧LI .u64 σ b7 (o7+Int.toNat ((n0:Int)-1)*1) fun x8=>AL 138 #[.U x8] σ R (CI .u64 fun x9 y=>R (.returned (.U x9)) y)):Spec prog 137 #[.slice p0 n0 c0] σ R:=M.start h ok
end DF
namespace NK
variable {x0 x1 x2:Int}
def M:Fw:=⟨prog,156,f156,[134],[],false,[],[],[]⟩
def ok:M.Ok:=⟨.cons call134 (AG.nil),mixed,func156,by kernel_rfl⟩
def start (h:AL 134 #[.U x1] σ R (fun z y=>∃x11,(Value.float .f64 x11)=z∧AL 134 #[.U x2] y R (fun z AE=>∃E4,(Value.float .f64 E4)=z∧Br (x0=5) (∃t19,YF prog ((do eqGuard .eql 40 (.tmp 17) (.tmp 18) (Value.float .f64 x11) (Value.float .f64 E4);binOp .eql 40 (Value.float .f64 x11) (Value.float .f64 E4))) AE (.bool t19)∧R (.T #[.bool t19,.bool true]) AE) (Br (x0=6) (∃t24,YF prog ((do eqGuard .neq 40 (.tmp 22) (.tmp 23) (Value.float .f64 x11) (Value.float .f64 E4);binOp .neq 40 (Value.float .f64 x11) (Value.float .f64 E4))) AE (.bool t24)∧R (.T #[.bool t24,.bool true]) AE) (Br (x0=7) (∃t29,YF prog ((do eqGuard .lss 40 (.tmp 27) (.tmp 28) (Value.float .f64 x11) (Value.float .f64 E4);binOp .lss 40 (Value.float .f64 x11) (Value.float .f64 E4))) AE (.bool t29)∧R (.T #[.bool t29,.bool true]) AE) (Br (x0=8) (∃t34,YF prog ((do eqGuard .leq 40 (.tmp 32) (.tmp 33) (Value.float .f64 x11) (Value.float .f64 E4);binOp .leq 40 (Value.float .f64 x11) (Value.float .f64 E4))) AE (.bool t34)∧R (.T #[.bool t34,.bool true]) AE) (Br (x0=9) (∃t39,YF prog ((do eqGuard .gtr 40 (.tmp 37) (.tmp 38) (Value.float .f64 x11) (Value.float .f64 E4);binOp .gtr 40 (Value.float .f64 x11) (Value.float .f64 E4))) AE (.bool t39)∧R (.T #[.bool t39,.bool true]) AE) (Br (x0=10) (∃t44,YF prog ((do eqGuard .geq 40 (.tmp 42) (.tmp 43) (Value.float .f64 x11) (Value.float .f64 E4);binOp .geq 40 (Value.float .f64 x11) (Value.float .f64 E4))) AE (.bool t44)∧R (.T #[.bool t44,.bool true]) AE) (R (.T #[.bool false,.bool false]) AE))))))))):Spec prog 156 #[.I x0,.U x1,.U x2] σ R:=M.start h ok
end NK
namespace Vm
variable {x0:Int}
def M:Fw:=⟨prog,160,f160,[],[],false,[],[],[]⟩
def ok:M.Ok:=⟨AG.nil,mixed,func160,by kernel_rfl⟩
def start (h:Br (48≤x0) (R (.returned (.bool (decide (x0≤57)))) σ) (R (.B false) σ)):Spec prog 160 #[.int .u8 x0] σ R:=M.start h ok
end Vm
namespace FD
variable {p0 Dl D6 p2:Option Addr}{n0 c0 Dn Dp Dq D7 n2 c2 b3:Nat}{Dc Cp Dd Dm DO Cs:Int}{De:ByteArray}{DP:Bool}
def M:Fw:=⟨prog,173,f173,[],[5],false,[],[],[]⟩
def ok:M.Ok:=⟨AG.nil,mixed,func173,by kernel_rfl⟩
def start (h:∀b5:Nat,∃v9,Hp.ld σ ⟨b3,0,none⟩=some v9∧∃(f11:Nat) (xV xW:Array Value),v9=.func (.func f11) xV xW∧Enters prog f11∧Spec prog f11 (xV++#[.slice p0 n0 c0]++xW) σ (Ap R (CI .u64 fun x11 y=>R (.T #[.U x11,.bool true]) y))):Spec prog 173 #[.slice p0 n0 c0,.agg #[.I Dc,.I Cp,.string De,.slice Dl Dn Dp,.I Dd,.I Dm,.I DO,.slice D6 Dq D7,.bool DP,.I Cs],.slice p2 n2 c2,(.pointer (aD b3 0))] σ R:=M.start h ok
end FD
namespace BP
variable {p0:Option Addr}{n0 c0:Nat}{s1:ByteArray}{x7 x8:Int}
def M:Fw:=⟨prog,177,f177,[],[],false,[],[],[(104,[(0,wL),(1,wT),(7,wI),(8,wI)])]⟩
def ok:M.Ok:=⟨AG.nil,mixed,func177,by kernel_rfl⟩
def II:=M.pt 0
def start (h:II R p0 n0 c0 s1 (n0:Int) 0 σ):Spec prog 177 #[.slice p0 n0 c0,.string s1] σ R:=M.start h ok
def A8 (h:Br (x8<x7) (Pq p0 fun BT PZ=>In x8 (n0:Int)∧LT σ BT (PZ+x8.toNat*1) fun s15=>Bo (ByteArray.toList s1==ByteArray.toList s15) (R (.returned (.I x8)) σ) (AM (x8+1)∧II R (aD BT PZ) n0 c0 s1 x7 (x8+1) σ)) (R (.returned (.I (-1))) σ)):II R p0 n0 c0 s1 x7 x8 σ:=M.of h ok rfl
end BP
namespace Bf
variable {s0:ByteArray}{x1:Int}
def M:Fw:=⟨prog,179,f179,[198,199],[],false,[],[],[]⟩
def ok:M.Ok:=⟨.cons call198 (.cons call199 (AG.nil)),mixed,func179,by kernel_rfl⟩
def start (h:Br (x1=32) (AL 198 #[.string s0] σ R (fun z y=>∃AGy jf AGz,z=(.tuple #[AGy,.I jf,AGz])∧AH prog (convert 255 40 AGy) y (fun z AE=>∃Dg,(Value.float .f64 Dg)=z∧R (.T #[(Value.float .f64 Dg),.I jf,AGz]) AE))) (AL 199 #[.string s0] σ R (fun z y=>∃AG0 AG1 AG2,z=(.tuple #[AG0,.I AG1,AG2])∧R (.T #[AG0,.I AG1,AG2]) y))):Spec prog 179 #[.string s0,.I x1] σ R:=M.start h ok
end Bf
end TwW
end
end
section
set_option maxRecDepth 100000
noncomputable section
namespace TwW
open Go Tw Go.Proofs.Tryz
variable [Ei]{R:Rr}{σ:Hp}

namespace Bs
variable {p0 Pa AM5 AM6:Option Addr}{n0 c0 n21 Me AM7 AM8 AM9 ANA:Nat}{x7 x8 I6 Cz ANB dQ ANC uc AND ANE x12:Int}{t9 ANF:Bool}{ANG:ByteArray}
def M:Fw:=⟨prog,13,f13,[33],[11],false,[],[],[(488,[(7,wI),(8,wI),(9,wB),(21,wL),(22,wI),(23,wI)]),(1959,[(7,wI),(8,wI),(9,wB),(21,wL),(22,wI),(23,wI)]),(125342,[(7,wI),(8,wI),(9,wB),(11,.X 51 [.I .i64,.I .i64,.T,.L,.I .i64,.I .i64,.I .i64,.L,.B,.I .i64]),(12,wI),(21,wL),(22,wI),(23,wI)]),(250687,[(7,wI),(8,wI),(21,wL),(22,wI),(23,wI)])]⟩
def ok:M.Ok:=⟨.cons call33 (AG.nil),mixed,func13,by kernel_rfl⟩
def AAx:=M.pt 0
def AAy:=M.pt 1
def nr:=M.pt 2
def Yc:=M.pt 3
def start (h:AL 33 #[.slice p0 n0 c0] σ R (fun z y=>∃uU dG AG3,z=(.tuple #[.I uU,.I dG,.I AG3])∧Br (AG3≠0) (R (.T #[.I 0,.I 0]) y) (AAx R 0 0 false p0 n0 c0 (n0:Int) 0 y))):Spec prog 13 #[.slice p0 n0 c0] σ R:=M.start h ok
def Wq (h:Br (Cz<I6) (Pq Pa fun LF bP=>In Cz (n21:Int)∧∃Wr nu nz oC oD oE Pb Pc oF oG oH oI oJ oK,Av σ LF (bP+Cz.toNat*10) [.I Wr,.I nu,.string nz,.slice oC oD oE,.I Pb,.I Pc,.I oF,.slice oG oH oI,.bool oJ,.I oK]∧∀A7:Nat,Br (Wr≠2) (Br (Wr≠3) (AAy R x7 x8 t9 (aD LF bP) n21 Me I6 Cz σ) (AM (Pc+Pb)∧Br (Wr=2) (AM ((Pc+Pb)+300)∧nr R x7 x8 t9 Wr nu nz oC oD oE Pb Pc oF oG oH oI oJ oK (((Pc+Pb)+300)) (aD LF bP) n21 Me I6 Cz σ) (nr R x7 x8 t9 Wr nu nz oC oD oE Pb Pc oF oG oH oI oJ oK (Pc+Pb) (aD LF bP) n21 Me I6 Cz σ))) (AM (Pc+Pb)∧Br (Wr=2) (AM ((Pc+Pb)+300)∧nr R x7 x8 t9 Wr nu nz oC oD oE Pb Pc oF oG oH oI oJ oK (((Pc+Pb)+300)) (aD LF bP) n21 Me I6 Cz σ) (nr R x7 x8 t9 Wr nu nz oC oD oE Pb Pc oF oG oH oI oJ oK (Pc+Pb) (aD LF bP) n21 Me I6 Cz σ))) (R (.T #[.I x7,.I x8]) σ)):AAx R x7 x8 t9 Pa n21 Me I6 Cz σ:=M.of h ok rfl
def gM (h:AM (Cz+1)∧AAx R x7 x8 t9 Pa n21 Me I6 (Cz+1) σ):AAy R x7 x8 t9 Pa n21 Me I6 Cz σ:=M.of h ok rfl
def ud (h:Bn t9 (Yc R (if x7<x12 then x12 else x7) uc Pa n21 Me I6 Cz σ) (Br (uc<x8) (Yc R (if x7<x12 then x12 else x7) uc Pa n21 Me I6 Cz σ) (Yc R (if x7<x12 then x12 else x7) x8 Pa n21 Me I6 Cz σ))):nr R x7 x8 t9 ANB dQ ANG AM5 AM7 AM8 ANC uc AND AM6 AM9 ANA ANF ANE x12 Pa n21 Me I6 Cz σ:=M.xN h ok rfl fun _=>by kernel_rfl
def Ws (h:AAy R x7 x8 true Pa n21 Me I6 Cz σ):Yc R x7 x8 Pa n21 Me I6 Cz σ:=M.of h ok rfl
end Bs
namespace Cg
variable {p0 p1:Option Addr}{n0 c0 n1 c1:Nat}{x5:Int}
def M:Fw:=⟨prog,14,f14,[],[],false,[(6,9,true)],[],[(464,[(0,wL),(1,wL),(5,wI)])]⟩
def ok:M.Ok:=⟨AG.nil,mixed,func14,by kernel_rfl⟩
def Ek:=M.pt 0
def start (h:Br ((n0:Int)≠(n1:Int)) (R (.B false) σ) (Ek R p0 n0 c0 p1 n1 c1 0 σ)):Spec prog 14 #[.slice p0 n0 c0,.slice p1 n1 c1] σ R:=M.start h ok
def EP (h:Br (x5<(n0:Int)) (Pq p0 fun BR Xe=>In x5 (n0:Int)∧∃JI dR,Av σ BR (Xe+x5.toNat*2) [.I JI,.U dR]∧Pq p1 fun PC fz=>In x5 (n1:Int)∧∃jd je,Av σ PC (fz+x5.toNat*2) [.I jd,.U je]∧∃t25,YF prog ((do eqGuard .neq 42 (.tmp 20) (.tmp 24) (.agg #[.I JI,.U dR]) (.agg #[.I jd,.U je]);binOp .neq 42 (.agg #[.I JI,.U dR]) (.agg #[.I jd,.U je]))) σ (.bool t25)∧Bo t25 (R (.B false) σ) (AM (x5+1)∧Ek R (aD BR Xe) n0 c0 (aD PC fz) n1 c1 (x5+1) σ)) (R (.B true) σ)):Ek R p0 n0 c0 p1 n1 c1 x5 σ:=M.of h ok rfl
end Cg
namespace NL
variable {x0 x1 x2:Int}
def M:Fw:=⟨prog,17,f17,[],[],false,[],[],[]⟩
def ok:M.Ok:=⟨AG.nil,mixed,func17,by kernel_rfl⟩
def start (h:Al σ fun b3=>Al (Hp.set σ b3 (.cells #[.I x0] 2 (0,0))) fun b4=>Al (Hp.set (Hp.set σ b3 (.cells #[.I x0] 2 (0,0))) b4 (.cells #[.I x1] 2 (0,0))) fun b5=>R (.returned (.func (.func 34) #[] #[(.pointer (aD b3 0)),(.pointer (aD b5 0)),(.pointer (aD b4 0))])) (Hp.set (Hp.set (Hp.set σ b3 (.cells #[.I x0] 2 (0,0))) b4 (.cells #[.I x1] 2 (0,0))) b5 (.cells #[.I x2] 2 (0,0)))):Spec prog 17 #[.I x0,.I x1,.I x2] σ R:=M.start h ok
end NL
namespace Ye
variable {p0:Option Addr}{n0 c0:Nat}
def M:Fw:=⟨prog,19,f19,[36],[],false,[],[],[]⟩
def ok:M.Ok:=⟨.cons call36 (AG.nil),mixed,func19,by kernel_rfl⟩
def start (h:AL 36 #[.slice p0 n0 c0] σ R (CS fun p4 n4 c4 y=>AH prog (convert 90 9 (.slice p4 n4 c4)) y (CT fun s5 AE=>R (.returned (.string s5)) AE))):Spec prog 19 #[.slice p0 n0 c0] σ R:=M.start h ok
end Ye
namespace JZ
variable {p0:Option Addr}{n0 c0:Nat}
def M:Fw:=⟨prog,24,f24,[],[],false,[],[],[]⟩
def ok:M.Ok:=⟨AG.nil,mixed,func24,by kernel_rfl⟩
def start (h:Al σ fun b3=>AH prog (Builtin.append_ #[49,49] 49 #[(.slice (aD b3 0) 0 0),.slice p0 n0 c0]) (Hp.set σ b3 (.cells #[] 9 (0,0))) (CS fun p5 n5 c5 y=>R (.returned (.slice p5 n5 c5)) y)):Spec prog 24 #[.slice p0 n0 c0] σ R:=M.start h ok
end JZ
namespace A0
variable {p0 p1 p5:Option Addr}{n0 c0 n1 c1 n5 c5:Nat}
def M:Fw:=⟨prog,29,f29,[],[7],false,[(3,9,false)],[],[(224,[(0,wL),(1,wL),(5,wL)])]⟩
def ok:M.Ok:=⟨AG.nil,mixed,func29,by kernel_rfl⟩
def Ho:=M.pt 0
def start (h:Ho R p0 n0 c0 p1 n1 c1 none 0 0 σ):Spec prog 29 #[.slice p0 n0 c0,.slice p1 n1 c1] σ R:=M.start h ok
def BJ (h:Br (0<(n0:Int)) (Br (0<(n1:Int)) (Pq p0 fun Mf o17=>In 0 (n0:Int)∧∃Wo Wp,Av σ Mf o17 [.I Wo,.U Wp]∧Pq p1 fun Pd dS=>In 0 (n1:Int)∧∃dT dU,Av σ Pd dS [.I dT,.U dU]∧(Al σ fun b6=>∀b7:Nat,AH prog (Instr.storeAt 42 (.pointer (aD b6 0)) (.agg #[.I Wo,.U Wp])) (Hp.set σ b6 (.cells #[.I 0,.U 0] 42 (0,0))) (fun _ y=>Kp [Pd] (Hp.set σ b6 (.cells #[.I 0,.U 0] 42 (0,0))) y∧LI .i64 y b6 0 fun xX=>Br (xX<dT) (∃SF SG,Av y b6 0 [.I SF,.U SG]∧((0:Int)≤1∧1≤(n0:Int))∧Al y fun Uy=>AH prog (I4 43 p5 n5 c5 Uy) (Hp.set y Uy (.cells #[.I SF,.U SG] 42 (0,0))) (CS fun gK n46 dP AE=>Ho R ((Fe (aD Mf o17) (1) c0 2)) (n0-1) (c0-1) (aD Pd dS) n1 c1 gK n46 dP AE)) (LI .i64 y b6 0 fun x53=>Br (dT<x53) (((0:Int)≤1∧1≤(n1:Int))∧Al y fun IU=>AH prog (I4 43 p5 n5 c5 IU) (Hp.set y IU (.cells #[.I dT,.U dU] 42 (0,0))) (CS fun Mu ND N9 AE=>Ho R (aD Mf o17) n0 c0 ((Fe (aD Pd dS) (1) c1 2)) (n1-1) (c1-1) Mu ND N9 AE)) (LI .i64 y b6 0 fun HS=>LI .u64 y b6 1 fun Uz=>((0:Int)≤1∧1≤(n0:Int))∧((0:Int)≤1∧1≤(n1:Int))∧Al y fun jg=>AH prog (I4 43 p5 n5 c5 jg) (Hp.set y jg (.cells #[.I HS,(.U (if Uz<dU then dU else Uz))] 42 (0,0))) (CS fun p32 n32 c32 AE=>Ho R ((Fe (aD Mf o17) (1) c0 2)) (n0-1) (c0-1) ((Fe (aD Pd dS) (1) c1 2)) (n1-1) (c1-1) p32 n32 c32 AE)))))∧(∀b7:Nat,Al σ fun b6=>AH prog (Instr.storeAt 42 (.pointer (aD b6 0)) (.agg #[.I Wo,.U Wp])) (Hp.set σ b6 (.cells #[.I 0,.U 0] 42 (0,0))) (fun _ y=>Kp [Pd] (Hp.set σ b6 (.cells #[.I 0,.U 0] 42 (0,0))) y∧LI .i64 y b6 0 fun xX=>Br (xX<dT) (∃SF SG,Av y b6 0 [.I SF,.U SG]∧((0:Int)≤1∧1≤(n0:Int))∧Al y fun Uy=>AH prog (I4 43 p5 n5 c5 Uy) (Hp.set y Uy (.cells #[.I SF,.U SG] 42 (0,0))) (CS fun gK n46 dP AE=>Ho R ((Fe (aD Mf o17) (1) c0 2)) (n0-1) (c0-1) (aD Pd dS) n1 c1 gK n46 dP AE)) (LI .i64 y b6 0 fun x53=>Br (dT<x53) (((0:Int)≤1∧1≤(n1:Int))∧Al y fun IU=>AH prog (I4 43 p5 n5 c5 IU) (Hp.set y IU (.cells #[.I dT,.U dU] 42 (0,0))) (CS fun Mu ND N9 AE=>Ho R (aD Mf o17) n0 c0 ((Fe (aD Pd dS) (1) c1 2)) (n1-1) (c1-1) Mu ND N9 AE)) (LI .i64 y b6 0 fun HS=>LI .u64 y b6 1 fun Uz=>((0:Int)≤1∧1≤(n0:Int))∧((0:Int)≤1∧1≤(n1:Int))∧Al y fun jg=>AH prog (I4 43 p5 n5 c5 jg) (Hp.set y jg (.cells #[.I HS,(.U (if Uz<dU then dU else Uz))] 42 (0,0))) (CS fun p32 n32 c32 AE=>Ho R ((Fe (aD Mf o17) (1) c0 2)) (n0-1) (c0-1) ((Fe (aD Pd dS) (1) c1 2)) (n1-1) (c1-1) p32 n32 c32 AE)))))) (AH prog (Builtin.append_ #[43,43] 43 #[.slice p5 n5 c5,.slice p0 n0 c0]) σ (CS fun p63 n63 c63 y=>AH prog (Builtin.append_ #[43,43] 43 #[.slice p63 n63 c63,.slice p1 n1 c1]) y (CS fun p65 n65 c65 AE=>R (.returned (.slice p65 n65 c65)) AE)))) (AH prog (Builtin.append_ #[43,43] 43 #[.slice p5 n5 c5,.slice p0 n0 c0]) σ (CS fun p63 n63 c63 y=>AH prog (Builtin.append_ #[43,43] 43 #[.slice p63 n63 c63,.slice p1 n1 c1]) y (CS fun p65 n65 c65 AE=>R (.returned (.slice p65 n65 c65)) AE)))):Ho R p0 n0 c0 p1 n1 c1 p5 n5 c5 σ:=M.of h ok rfl
end A0
namespace FK
variable {p0 q5 Kz:Option Addr}{n0 c0 n11 LA:Nat}{x12 E4:Int}
def M:Fw:=⟨prog,33,f33,[49],[7],false,[],[],[(232,[(0,wL),(5,wQ),(11,wL),(12,wI),(13,wI)])]⟩
def ok:M.Ok:=⟨.cons call49 (AG.nil),mixed,func33,by kernel_rfl⟩
def Aw:=M.pt 0
def start (h:Al σ fun CC=>Aw R p0 n0 c0 (aD CC 0) p0 n0 c0 (n0:Int) 0 (Hp.set σ CC (.cells #[.N] 114 (0,0)))):Spec prog 33 #[.slice p0 n0 c0] σ R:=M.start h ok
def AY (h:Br (E4<x12) (Pq Kz fun Lx Wt=>In E4 (n11:Int)∧∃Wl jh AHB ji jl jm AHC AHD AHE AHF AHG AHH AHI AHJ,Av σ Lx (Wt+E4.toNat*10) [.I Wl,.I jh,.string AHB,.slice ji jl jm,.I AHC,.I AHD,.I AHE,.slice AHF AHG AHH,.bool AHI,.I AHJ]∧∀b7:Nat,AL 49 #[.pointer q5,.agg #[.I Wl,.I jh,.string AHB,.slice ji jl jm,.I AHC,.I AHD,.I AHE,.slice AHF AHG AHH,.bool AHI,.I AHJ]] σ R (CI .i64 fun HO y=>Br (HO≠0) (R (.T #[.I 0,.I E4,.I HO]) y) (AM (E4+1)∧Aw R p0 n0 c0 q5 (aD Lx Wt) n11 LA x12 (E4+1) y))) (Pq q5 fun bQ xY=>LS σ bQ xY fun p29 n29 c29=>Br ((n29:Int)≠1) (R (.T #[.I 0,(.I (n0:Int)),.I 190]) σ) (Br (4096<(n0:Int)) (R (.T #[.I 0,(.I (n0:Int)),.I 190]) σ) (LS σ bQ xY fun p42 n42 c42=>Pq p42 fun gN o43=>In 0 (n42:Int)∧LI .i64 σ gN o43 fun x45=>R (.T #[.I x45,.I 0,.I 0]) σ)))):Aw R p0 n0 c0 q5 Kz n11 LA x12 E4 σ:=M.of h ok rfl
end FK
namespace Ly
variable {p0:Option Addr}{n0 c0:Nat}{s1:ByteArray}
def M:Fw:=⟨prog,52,f52,[51],[],false,[],[],[]⟩
def ok:M.Ok:=⟨.cons call51 (AG.nil),mixed,func52,by kernel_rfl⟩
def start (h:Df (IntKind.u64.wrap (s1.size:Int)) fun x8=>AL 51 #[.slice p0 n0 c0,.U x8] σ R (CS fun p9 n9 c9 y=>AH prog (Builtin.append_ #[90,9] 90 #[.slice p9 n9 c9,.string s1]) y (CS fun Kz n11 LA AE=>R (.returned (.slice Kz n11 LA)) AE))):Spec prog 52 #[.slice p0 n0 c0,.string s1] σ R:=M.start h ok
end Ly
namespace SH
variable {x0:Int}
def M:Fw:=⟨prog,70,f70,[],[],false,[],[],[]⟩
def ok:M.Ok:=⟨AG.nil,mixed,func70,by kernel_rfl⟩
def start (h:Al σ fun b1=>R (.returned (.func (.func 96) #[] #[(.pointer (aD b1 0))])) (Hp.set σ b1 (.cells #[.I x0] 3 (0,0)))):Spec prog 70 #[.I x0] σ R:=M.start h ok
end SH
namespace Ah
variable {q0 Dl D6 p2 F6 HU Gv Fg Ef En Mv:Option Addr}{Dc Cp Dd Dm DO Cs Gp Fy HV Ft HW IJ Fh Fi Eo Ep x17 Vh:Int}{De IK:ByteArray}{Dn Dp Dq D7 n2 c2 F7 GA HX HY Gw Gx Fj Fk Eg Eh Er Es n16 Ln:Nat}{DP IL:Bool}
def M:Fw:=⟨prog,76,f76,[99,100],[4,6,8,10],false,[(7,15,false)],[],[(232,[(0,wQ),(4,.X 51 [.I .i64,.I .i64,.T,.L,.I .i64,.I .i64,.I .i64,.L,.B,.I .i64]),(6,.X 84 [.I .i64,.I .u64,.L,.L]),(8,.X 84 [.I .i64,.I .u64,.L,.L]),(16,wL),(17,wI),(18,wI)]),(935,[(0,wQ),(4,.X 51 [.I .i64,.I .i64,.T,.L,.I .i64,.I .i64,.I .i64,.L,.B,.I .i64]),(6,.X 84 [.I .i64,.I .u64,.L,.L]),(8,.X 84 [.I .i64,.I .u64,.L,.L]),(16,wL),(17,wI),(18,wI)])]⟩
def ok:M.Ok:=⟨.cons call99 (.cons call100 (AG.nil)),mixed,func76,by kernel_rfl⟩
def Aw:=M.pt 0
def Lp:=M.pt 1
def start (h:∀b4:Nat,∀b6:Nat,∀b8:Nat,Pq q0 fun BT PZ=>LS σ BT PZ fun Mv n16 Ln=>Aw R (aD BT PZ) Dc Cp De Dl Dn Dp Dd Dm DO D6 Dq D7 DP Cs 0 0 none 0 0 none 0 0 2 0 none 0 0 none 0 0 Mv n16 Ln (n16:Int) 0 σ):Spec prog 76 #[.pointer q0,.agg #[.I Dc,.I Cp,.string De,.slice Dl Dn Dp,.I Dd,.I Dm,.I DO,.slice D6 Dq D7,.bool DP,.I Cs],.slice p2 n2 c2] σ R:=M.start h ok
def AY (h:Br (Vh<x17) (Pq Mv fun Pd dS=>In Vh (n16:Int)∧∃AA2 AA3 AA4 AHK AHL AHM,Av σ Pd (dS+Vh.toNat*2) [.slice AA2 AA3 AA4,.slice AHK AHL AHM]∧∀CC:Nat,Pq q0 fun LF bP=>LI .i64 σ LF (bP+1) fun Ja=>AM (Ja-Ft)∧AM ((Ja-Ft)-300)∧LI .i64 σ LF (bP+1) fun Xf=>AM (Xf-Ft)∧AL 99 #[.slice AHK AHL AHM,(.I ((Ja-Ft)-300)),(.I (Xf-Ft))] σ R (CS fun p39 n39 c39 y=>Br ((n39:Int)=0) (Lp R (aD LF bP) Gp Fy IK F6 F7 GA HV Ft HW HU HX HY IL IJ Fh Fi Gv Gw Gx Fg Fj Fk Eo Ep Ef Eg Eh En Er Es (aD Pd dS) n16 Ln x17 Vh y) (AM ((n39:Int)-1)∧Pq p39 fun Qu o48=>In (((n39:Int)-1)) (n39:Int)∧LI .u64 y Qu ((o48+Int.toNat ((n39:Int)-1)*2)+1) fun x50=>Br (x50=9218868437227405314) (Lp R (aD LF bP) Gp Fy IK F6 F7 GA HV Ft HW HU HX HY IL IJ Fh Fi Gv Gw Gx Fg Fj Fk Eo Ep Ef Eg Eh En Er Es (aD Pd dS) n16 Ln x17 Vh y) (AL 100 #[.slice F6 F7 GA,.slice AA2 AA3 AA4] y R (CB fun t58 AE=>Bn t58 (Lp R (aD LF bP) Gp Fy IK F6 F7 GA HV Ft HW HU HX HY IL IJ Fh Fi Gv Gw Gx Fg Fj Fk Eo Ep Ef Eg Eh En Er Es (aD Pd dS) n16 Ln x17 Vh AE) (AM ((n39:Int)-1)∧In (((n39:Int)-1)) (n39:Int)∧LI .u64 AE Qu ((o48+Int.toNat ((n39:Int)-1)*2)+1) fun x71=>Al AE fun b73=>AH prog (I4 60 Ef Eg Eh b73) (Hp.set AE b73 (.cells #[.slice AA2 AA3 AA4,.U x71] 64 (0,0))) (CS fun p74 n74 c74 AJ=>Lp R (aD LF bP) Gp Fy IK F6 F7 GA HV Ft HW HU HX HY IL IJ Fh Fi Gv Gw Gx Fg Fj Fk Eo Ep p74 n74 c74 En Er Es (aD Pd dS) n16 Ln x17 Vh AJ))))))) (R (.T #[.agg #[.I Eo,.U Ep,.slice Ef Eg Eh,.slice En Er Es],.I 0]) σ)):Aw R q0 Gp Fy IK F6 F7 GA HV Ft HW HU HX HY IL IJ Fh Fi Gv Gw Gx Fg Fj Fk Eo Ep Ef Eg Eh En Er Es Mv n16 Ln x17 Vh σ:=M.of3 h ok rfl fun _ _ _=>by kernel_rfl
def LG (h:AM (Vh+1)∧Aw R q0 Gp Fy IK F6 F7 GA HV Ft HW HU HX HY IL IJ Fh Fi Gv Gw Gx Fg Fj Fk Eo Ep Ef Eg Eh En Er Es Mv n16 Ln x17 (Vh+1) σ):Lp R q0 Gp Fy IK F6 F7 GA HV Ft HW HU HX HY IL IJ Fh Fi Gv Gw Gx Fg Fj Fk Eo Ep Ef Eg Eh En Er Es Mv n16 Ln x17 Vh σ:=M.of3 h ok rfl fun _ _ _=>by kernel_rfl
end Ah
namespace AS
variable {q0 Dl D6 p2 F6 HU Gv Fg p9 Vc SD p79 Pe oL q13:Option Addr}{Dc Cp Dd Dm DO Cs Gp Fy HV Ft HW IJ Fh Fi Cz HS x80 x81 dQ:Int}{De IK:ByteArray}{Dn Dp Dq D7 n2 c2 F7 GA HX HY Gw Gx Fj Fk n9 c9 n22 Ue n15 QM n79 c79 Pf Pg n12 lP:Nat}{DP IL:Bool}{m8:Option Nat}{jb:Value}
def M:Fw:=⟨prog,79,f79,[19,104,106,107,108],[4,6,11],false,[(17,11,false)],[],[(488,[(4,.X 51 [.I .i64,.I .i64,.T,.L,.I .i64,.I .i64,.I .i64,.L,.B,.I .i64]),(6,.X 84 [.I .i64,.I .u64,.L,.L]),(8,wM),(9,wL),(22,wL),(23,wI),(24,wI)]),(4072,[(6,.X 84 [.I .i64,.I .u64,.L,.L]),(14,wV),(15,wL),(79,wL),(80,wI),(81,wI)]),(62670,[(4,.X 51 [.I .i64,.I .i64,.T,.L,.I .i64,.I .i64,.I .i64,.L,.B,.I .i64]),(6,.X 84 [.I .i64,.I .u64,.L,.L]),(8,wM),(9,wL),(11,.X 64 [.L,.I .u64]),(12,wL),(22,wL),(23,wI),(24,wI)]),(125343,[(4,.X 51 [.I .i64,.I .i64,.T,.L,.I .i64,.I .i64,.I .i64,.L,.B,.I .i64]),(6,.X 84 [.I .i64,.I .u64,.L,.L]),(8,wM),(9,wL),(11,.X 64 [.L,.I .u64]),(13,wQ),(22,wL),(23,wI),(24,wI)])]⟩
def ok:M.Ok:=⟨.cons call19 (.cons call104 (.cons call106 (.cons call107 (.cons call108 (AG.nil))))),mixed,func79,by kernel_rfl⟩
def Eu:=M.pt 0
def uf:=M.pt 1
def JV:=M.pt 2
def oM:=M.pt 3
def start (h:∀b4:Nat,∀b6:Nat,AH prog (Instr.makeMap 176 none) σ (fun z y=>∃m18,z=(.map (some m18))∧Pq p2 fun Pd dS=>In 0 (n2:Int)∧LS y Pd (dS+2) fun Vc n22 Ue=>Eu R Dc Cp De Dl Dn Dp Dd Dm DO D6 Dq D7 DP Cs 0 0 none 0 0 none 0 0 (some m18) none 0 0 Vc n22 Ue (n22:Int) 0 y)):Spec prog 79 #[.pointer q0,.agg #[.I Dc,.I Cp,.string De,.slice Dl Dn Dp,.I Dd,.I Dm,.I DO,.slice D6 Dq D7,.bool DP,.I Cs],.slice p2 n2 c2] σ R:=M.start h ok
def FE (h:Br (HS<Cz) (Pq Vc fun dH su=>In HS (n22:Int)∧∃Mc Ld Md YZ,Av σ dH (su+HS.toNat*2) [.slice Mc Ld Md,.U YZ]∧∀A7:Nat,Br (HW=1) (AL 107 #[.slice Mc Ld Md,.slice HU HX HY] σ R (CS fun p36 n36 c36 y=>JV R Gp Fy IK F6 F7 GA HV Ft HW HU HX HY IL IJ Fh Fi Gv Gw Gx Fg Fj Fk m8 p9 n9 c9 Mc Ld Md YZ p36 n36 c36 (aD dH su) n22 Ue Cz HS y)) (Br (HW=2) (AL 108 #[.slice Mc Ld Md,.slice HU HX HY] σ R (CS fun lM n43 lN y=>AL 104 #[.slice lM n43 lN] y R (CS fun lO n44 nH AE=>JV R Gp Fy IK F6 F7 GA HV Ft HW HU HX HY IL IJ Fh Fi Gv Gw Gx Fg Fj Fk m8 p9 n9 c9 Mc Ld Md YZ lO n44 nH (aD dH su) n22 Ue Cz HS AE))) (JV R Gp Fy IK F6 F7 GA HV Ft HW HU HX HY IL IJ Fh Fi Gv Gw Gx Fg Fj Fk m8 p9 n9 c9 Mc Ld Md YZ none 0 0 (aD dH su) n22 Ue Cz HS σ))) (AH prog (Instr.makeMap 181 none) σ (fun z y=>∃dD,z=(.map (some dD))∧AH prog (Instr.mapUpdate 181 (.map (some dD)) (.I 1) (.func (.func 109) #[] #[])) y (fun _ AE=>AH prog (Instr.mapUpdate 181 (.map (some dD)) (.I 2) (.func (.func 110) #[] #[])) AE (fun _ AJ=>AH prog (Instr.mapUpdate 181 (.map (some dD)) (.I 3) (.func (.func 111) #[] #[])) AJ (fun _ As=>AH prog (Instr.mapUpdate 181 (.map (some dD)) (.I 4) (.func (.func 112) #[] #[])) As (fun _ JY=>AH prog (Instr.mapUpdate 181 (.map (some dD)) (.I 5) (.func (.func 113) #[] #[])) JY (fun _ Uw=>AH prog (Instr.lookup 181 (.map (some dD)) (.I Fy) false) Uw (fun z ug=>∃v78,v78=z∧uf R Fh Fi Gv Gw Gx Fg Fj Fk v78 none 0 0 p9 n9 c9 (n9:Int) 0 ug))))))))):Eu R Gp Fy IK F6 F7 GA HV Ft HW HU HX HY IL IJ Fh Fi Gv Gw Gx Fg Fj Fk m8 p9 n9 c9 Vc n22 Ue Cz HS σ:=M.jQ h ok rfl fun _ _=>by kernel_rfl
def gO (h:Br (x81<x80) (Pq p79 fun b83 o83=>In x81 (n79:Int)∧LQ σ b83 (o83+x81.toNat*1) fun q84=>Pq q84 fun b87 o87=>LS σ b87 o87 fun p89 n89 c89=>LS σ b87 (o87+1) fun uM uN uO=>∃(f95:Nat) (Yf Yg:Array Value),jb=.func (.func f95) Yf Yg∧Enters prog f95∧Spec prog f95 (Yf++#[.slice uM uN uO]++Yg) σ (Ap R (CI .u64 fun x95 y=>Kp [b87] σ y∧Al y fun b97=>AH prog (I4 60 SD n15 QM b97) (Hp.set y b97 (.cells #[.slice p89 n89 c89,.U x95] 64 (0,0))) (CS fun p98 n98 c98 AE=>AM (x81+1)∧uf R Fh Fi Gv Gw Gx Fg Fj Fk jb p98 n98 c98 (aD b83 o83) n79 c79 x80 (x81+1) AE)))) (AL 106 #[.slice SD n15 QM] σ R (fun z y=>∃oN oO oP oQ oR oS oT oU xZ,z=(.tuple #[.agg #[.I oN,.U oO,.slice oP oQ oR,.slice oS oT oU],.I xZ])∧R (.T #[.agg #[.I oN,.U oO,.slice oP oQ oR,.slice oS oT oU],.I xZ]) y))):uf R Fh Fi Gv Gw Gx Fg Fj Fk jb SD n15 QM p79 n79 c79 x80 x81 σ:=M.xN h ok rfl fun _=>by kernel_rfl
def Kx (h:AL 19 #[.slice oL n12 lP] σ R (CT fun s47 y=>AH prog (Instr.lookup 176 (.map m8) (.string s47) false) y (CQ fun q48 AE=>Bo (Option.isNone q48) (Al AE fun LC=>AL 19 #[.slice oL n12 lP] (Hp.set AE LC (.cells #[.slice oL n12 lP,.N] 168 (0,0))) R (CT fun s56 AJ=>AH prog (Instr.mapUpdate 176 (.map m8) (.string s56) (.pointer (aD LC 0))) AJ (fun _ As=>Al As fun b60=>AH prog (I4 177 p9 n9 c9 b60) (Hp.set As b60 (.cells #[(.pointer (aD LC 0))] 179 (0,0))) (CS fun p61 n61 c61 JY=>oM R Gp Fy IK F6 F7 GA HV Ft HW HU HX HY IL IJ Fh Fi Gv Gw Gx Fg Fj Fk m8 p61 n61 c61 Pe Pf Pg dQ (aD LC 0) Vc n22 Ue Cz HS JY)))) (oM R Gp Fy IK F6 F7 GA HV Ft HW HU HX HY IL IJ Fh Fi Gv Gw Gx Fg Fj Fk m8 p9 n9 c9 Pe Pf Pg dQ q48 Vc n22 Ue Cz HS AE)))):JV R Gp Fy IK F6 F7 GA HV Ft HW HU HX HY IL IJ Fh Fi Gv Gw Gx Fg Fj Fk m8 p9 n9 c9 Pe Pf Pg dQ oL n12 lP Vc n22 Ue Cz HS σ:=M.of3 h ok rfl fun _ _ _=>by kernel_rfl
def uh (h:Pq q13 fun b64 o64=>LS σ b64 (o64+1) fun sv oV gP=>Al σ fun b69=>AH prog (I4 166 sv oV gP b69) (Hp.set σ b69 (.cells #[.U dQ] 38 (0,0))) (CS fun p70 n70 c70 y=>AH prog (Instr.storeAt 166 (.pointer (aD b64 (o64+1))) (.slice p70 n70 c70)) y (fun _ AE=>AM (HS+1)∧Eu R Gp Fy IK F6 F7 GA HV Ft HW HU HX HY IL IJ Fh Fi Gv Gw Gx Fg Fj Fk m8 p9 n9 c9 Vc n22 Ue Cz (HS+1) AE))):oM R Gp Fy IK F6 F7 GA HV Ft HW HU HX HY IL IJ Fh Fi Gv Gw Gx Fg Fj Fk m8 p9 n9 c9 Pe Pf Pg dQ q13 Vc n22 Ue Cz HS σ:=M.of3 h ok rfl fun _ _ _=>by kernel_rfl
end AS
namespace BG
variable {q0 Dl D6 p2 Gv Fg p8 dJ:Option Addr}{Dc Cp Dd Dm DO Cs Fh Fi Uz Ja:Int}{De:ByteArray}{Dn Dp Dq D7 n2 c2 Gw Gx Fj Fk n8 c8 n25 dK:Nat}{DP:Bool}
def M:Fw:=⟨prog,81,f81,[104,106,120],[4,6,10],false,[],[],[(488,[(6,.X 84 [.I .i64,.I .u64,.L,.L]),(8,wL),(25,wL),(26,wI),(27,wI)])]⟩
def ok:M.Ok:=⟨.cons call104 (.cons call106 (.cons call120 (AG.nil))),mixed,func81,by kernel_rfl⟩
def ui:=M.pt 0
def start (h:∀b4:Nat,∀b6:Nat,Pq p2 fun NM PD=>In 0 (n2:Int)∧LI .i64 σ NM PD fun U0=>Br (U0=1) (In 0 (n2:Int)∧LI .u64 σ NM (PD+1) fun Dg=>AL 120 #[.U Dg] σ R (CI .u64 fun HO y=>R (.T #[.agg #[.I 1,.U HO,.N,.N],.I 0]) y)) (In 0 (n2:Int)∧LS σ NM (PD+2) fun dJ n25 dK=>ui R 0 0 none 0 0 none 0 0 none 0 0 dJ n25 dK (n25:Int) 0 σ)):Spec prog 81 #[.pointer q0,.agg #[.I Dc,.I Cp,.string De,.slice Dl Dn Dp,.I Dd,.I Dm,.I DO,.slice D6 Dq D7,.bool DP,.I Cs],.slice p2 n2 c2] σ R:=M.start h ok
def gQ (h:Br (Ja<Uz) (Pq dJ fun Uh gR=>In Ja (n25:Int)∧∃oW oX oY oZ,Av σ Uh (gR+Ja.toNat*2) [.slice oW oX oY,.U oZ]∧∀CC:Nat,AL 104 #[.slice oW oX oY] σ R (CS fun p34 n34 c34 y=>AL 120 #[.U oZ] y R (CI .u64 fun Vn AE=>Al AE fun tA=>AH prog (I4 60 p8 n8 c8 tA) (Hp.set AE tA (.cells #[.slice p34 n34 c34,.U Vn] 64 (0,0))) (CS fun p40 n40 c40 AJ=>AM (Ja+1)∧ui R Fh Fi Gv Gw Gx Fg Fj Fk p40 n40 c40 (aD Uh gR) n25 dK Uz (Ja+1) AJ)))) (AL 106 #[.slice p8 n8 c8] σ R (fun z y=>∃xd xe xf xg xh xi xj xk NN,z=(.tuple #[.agg #[.I xd,.U xe,.slice xf xg xh,.slice xi xj xk],.I NN])∧R (.T #[.agg #[.I xd,.U xe,.slice xf xg xh,.slice xi xj xk],.I NN]) y))):ui R Fh Fi Gv Gw Gx Fg Fj Fk p8 n8 c8 dJ n25 dK Uz Ja σ:=M.xN h ok rfl fun _=>by kernel_rfl
end BG
namespace SI
variable {x0:Int}
def M:Fw:=⟨prog,94,f94,[],[],false,[],[],[]⟩
def ok:M.Ok:=⟨AG.nil,mixed,func94,by kernel_rfl⟩
def start (h:Br (1≤x0) (R (.returned (.bool (decide (x0≤4)))) σ) (R (.B false) σ)):Spec prog 94 #[.I x0] σ R:=M.start h ok
end SI
namespace SJ
variable {x0:Int}
def M:Fw:=⟨prog,101,f101,[],[],false,[],[],[]⟩
def ok:M.Ok:=⟨AG.nil,mixed,func101,by kernel_rfl⟩
def start (h:AH prog (convert 2 40 (.I x0)) σ (fun z y=>∃x4,(Value.float .f64 x4)=z∧EN prog 32 #[(Value.float .f64 x4)] y (CI .u64 fun x5 AE=>R (.returned (.U x5)) AE))):Spec prog 101 #[.I x0] σ R:=M.start h ok
end SJ
namespace SK
variable {p0 p1:Option Addr}{n0 c0 n1 c1:Nat}
def M:Fw:=⟨prog,107,f107,[149],[],false,[],[],[]⟩
def ok:M.Ok:=⟨.cons call149 (AG.nil),mixed,func107,by kernel_rfl⟩
def start (h:Al σ fun b3=>AL 149 #[.slice p0 n0 c0,(.func (.func 150) #[] #[(.pointer (aD b3 0))])] (Hp.set σ b3 (.cells #[.slice p1 n1 c1] 49 (0,0))) R (CS fun p7 n7 c7 y=>R (.returned (.slice p7 n7 c7)) y)):Spec prog 107 #[.slice p0 n0 c0,.slice p1 n1 c1] σ R:=M.start h ok
end SK
namespace Gc
variable {p0:Option Addr}{n0 c0:Nat}
def M:Fw:=⟨prog,110,f110,[154],[],false,[],[],[]⟩
def ok:M.Ok:=⟨.cons call154 (AG.nil),mixed,func110,by kernel_rfl⟩
def start (h:AL 154 #[.I 7,.slice p0 n0 c0] σ R (CI .u64 fun x4 y=>R (.returned (.U x4)) y)):Spec prog 110 #[.slice p0 n0 c0] σ R:=M.start h ok
end Gc
namespace Fz
variable {xl bR:ByteArray}{b1:Nat}
def M:Fw:=⟨prog,150,f150,[151],[2],false,[],[],[]⟩
def ok:M.Ok:=⟨.cons call151 (AG.nil),mixed,func150,by kernel_rfl⟩
def start (h:∀b2:Nat,LS σ b1 0 fun p4 n4 c4=>AL 151 #[.slice p4 n4 c4,.string xl] σ R (CB fun t7 y=>R (.B t7) y)):Spec prog 150 #[.agg #[.string xl,.string bR],(.pointer (aD b1 0))] σ R:=M.start h ok
end Fz
namespace SL
variable {v0:Value}
def M:Fw:=⟨prog,164,f164,[],[],false,[],[],[]⟩
def ok:M.Ok:=⟨AG.nil,mixed,func164,by kernel_rfl⟩
def start (h:∃t5,YF prog ((do eqGuard .neq 40 (.tmp 3) (.tmp 4) v0 v0;binOp .neq 40 v0 v0)) σ (.bool t5)∧R (.B t5) σ):Spec prog 164 #[v0] σ R:=M.CY h ok [(0,.o (.V v0))] rfl rfl (by kernel_rfl)
end SL
namespace IW
variable {p0 Dl D6 p2:Option Addr}{n0 c0 Dn Dp Dq D7 n2 c2 b3:Nat}{Dc Cp Dd Dm DO Cs:Int}{De:ByteArray}{DP:Bool}
def M:Fw:=⟨prog,175,f175,[],[5],false,[],[],[]⟩
def ok:M.Ok:=⟨AG.nil,mixed,func175,by kernel_rfl⟩
def start (h:∀b5:Nat,Br ((n0:Int)<2) (R (.T #[.U 0,.bool false]) σ) (∃v12,Hp.ld σ ⟨b3,0,none⟩=some v12∧∃(f15:Nat) (xm xn:Array Value),v12=.func (.func f15) xm xn∧Enters prog f15∧Spec prog f15 (xm++#[.slice p0 n0 c0,.slice p2 n2 c2]++xn) σ (Ap R (CI .u64 fun x15 y=>R (.T #[.U x15,.bool true]) y)))):Spec prog 175 #[.slice p0 n0 c0,.agg #[.I Dc,.I Cp,.string De,.slice Dl Dn Dp,.I Dd,.I Dm,.I DO,.slice D6 Dq D7,.bool DP,.I Cs],.slice p2 n2 c2,(.pointer (aD b3 0))] σ R:=M.start h ok
end IW
namespace CL
variable {s0 s1:ByteArray}
def M:Fw:=⟨prog,253,f253,[],[],false,[],[],[]⟩
def ok:M.Ok:=⟨AG.nil,mixed,func253,by kernel_rfl⟩
def start (h:Br (((s1.size:Int):Int)≤(s0.size:Int)) (AM ((s0.size:Int)-(s1.size:Int))∧∃s17,YF prog (Instr.sliceAt 9 (.string s0) (some (.I ((s0.size:Int)-(s1.size:Int)))) none none) σ (.string s17)∧R (.returned (.bool (ByteArray.toList s17==ByteArray.toList s1))) σ) (R (.B false) σ)):Spec prog 253 #[.string s0,.string s1] σ R:=M.start h ok
end CL
namespace BY
variable {q0:Option Addr}
def M:Fw:=⟨prog,295,f295,[],[],false,[(1,11,true),(2,11,true)],[],[]⟩
def ok:M.Ok:=⟨AG.nil,mixed,func295,by kernel_rfl⟩
def start (h:Pq q0 fun b5 o5=>LS σ b5 o5 fun p6 n6 c6=>LS σ b5 o5 fun p9 n9 c9=>AM ((n9:Int)-1)∧Pq p6 fun NM PD=>In (((n9:Int)-1)) (n6:Int)∧LQ σ NM (PD+Int.toNat ((n9:Int)-1)*1) fun q13=>LS σ b5 o5 fun p17 n17 c17=>LS σ b5 o5 fun Xi n20 Xj=>AM ((n20:Int)-1)∧((0:Int)≤((n20:Int)-1)∧((n20:Int)-1)≤(c17:Int))∧AH prog (Instr.storeAt 103 (.pointer (aD b5 o5)) (.slice p17 (Int.toNat ((n20:Int)-1)) c17)) σ (fun _ y=>R (.returned (.iface 106 (.pointer q13))) y)):Spec prog 295 #[.pointer q0] σ R:=M.start h ok
end BY
end TwW
end
end
section
set_option maxRecDepth 100000
noncomputable section
namespace TwW
open Go Tw Go.Proofs.Tryz
variable [Ei]{R:Rr}{σ:Hp}

namespace FL
variable {p0 p1 Ef En:Option Addr}{n0 c0 n1 c1 Eg Eh Er Es:Nat}{x2 Eo Ep x9:Int}
def M:Fw:=⟨prog,18,f18,[35],[8],false,[],[],[(30,[(8,.X 84 [.I .i64,.I .u64,.L,.L]),(9,wI)])]⟩
def ok:M.Ok:=⟨.cons call35 (AG.nil),mixed,func18,by kernel_rfl⟩
def CZ:=M.pt 0
def start (h:Al σ fun BT=>AL 35 #[(.pointer (aD BT 0)),.slice p0 n0 c0] (Hp.set σ BT (.cells #[.slice p1 n1 c1,.I x2] 88 (0,0))) R (fun z y=>∃gS gT xo xp xq oa od oe AA8,z=(.tuple #[.agg #[.I gS,.U gT,.slice xo xp xq,.slice oa od oe],.I AA8])∧∀b8:Nat,Br (gS=1) (Al y fun LF=>CZ R gS gT (aD LF 0) 1 1 oa od oe AA8 (Hp.set y LF (.cells #[.N,.U gT] 64 (0,0)))) (CZ R gS gT xo xp xq oa od oe AA8 y))):Spec prog 18 #[.slice p0 n0 c0,.slice p1 n1 c1,.I x2] σ R:=M.start h ok
def BE (h:R (.T #[.slice Ef Eg Eh,.I x9]) σ):CZ R Eo Ep Ef Eg Eh En Er Es x9 σ:=M.xN h ok rfl fun _=>by kernel_rfl
end FL
namespace NO
variable {U1 p0b p1a p1b:Option Addr}{Lz SM n0b c0b n1a c1a n1b c1b:Nat}
def M:Fw:=⟨prog,21,f21,[22],[2,3],false,[],[],[]⟩
def ok:M.Ok:=⟨.cons call22 (AG.nil),mixed,func21,by kernel_rfl⟩
def start (h:∀b2:Nat,∀b3:Nat,AL 22 #[.slice U1 Lz SM,.slice p1a n1a c1a] σ R (CI .i64 fun x9 y=>R (.returned (.I x9)) y)):Spec prog 21 #[.agg #[.slice U1 Lz SM,.slice p0b n0b c0b],.agg #[.slice p1a n1a c1a,.slice p1b n1b c1b]] σ R:=M.start h ok
end NO
namespace I8
variable {p0:Option Addr}{n0 c0:Nat}
def M:Fw:=⟨prog,25,f25,[],[],false,[],[],[]⟩
def ok:M.Ok:=⟨AG.nil,mixed,func25,by kernel_rfl⟩
def start (h:Al σ fun b3=>AH prog (Builtin.append_ #[37,37] 37 #[(.slice (aD b3 0) 0 0),.slice p0 n0 c0]) (Hp.set σ b3 (.cells #[] 36 (0,0))) (CS fun p5 n5 c5 y=>R (.returned (.slice p5 n5 c5)) y)):Spec prog 25 #[.slice p0 n0 c0] σ R:=M.start h ok
end I8
namespace QO
variable {p0:Option Addr}{n0 c0:Nat}
def M:Fw:=⟨prog,28,f28,[],[],false,[],[],[]⟩
def ok:M.Ok:=⟨AG.nil,mixed,func28,by kernel_rfl⟩
def start (h:Al σ fun b1=>R (.returned (.func (.func 45) #[] #[(.pointer (aD b1 0))])) (Hp.set σ b1 (.cells #[.slice p0 n0 c0] 74 (0,0)))):Spec prog 28 #[.slice p0 n0 c0] σ R:=M.start h ok
end QO
namespace I9
variable {xl bR s1a s1b:ByteArray}
def M:Fw:=⟨prog,40,f40,[41,42],[2,3],false,[],[],[]⟩
def ok:M.Ok:=⟨.cons call41 (.cons call42 (AG.nil)),mixed,func40,by kernel_rfl⟩
def start (h:∀b2:Nat,∀b3:Nat,AL 42 #[.string xl,.string s1a] σ R (CI .i64 fun x9 y=>AL 42 #[.string bR,.string s1b] y R (CI .i64 fun U0 AE=>Al AE fun b15=>AL 41 #[(.slice (aD b15 0) 2 2)] (Hp.set AE b15 (.cells #[.I x9,.I U0] 3 (0,0))) R (CI .i64 fun x16 AJ=>R (.returned (.I x16)) AJ)))):Spec prog 40 #[.agg #[.string xl,.string bR],.agg #[.string s1a,.string s1b]] σ R:=M.start h ok
end I9
namespace JA
variable {q0 Dl D6:Option Addr}{Dc Cp Dd Dm DO Cs:Int}{De:ByteArray}{Dn Dp Dq D7:Nat}{DP:Bool}
def M:Fw:=⟨prog,49,f49,[68,69,70],[3],false,[(6,9,true)],[],[]⟩
def ok:M.Ok:=⟨.cons call68 (.cons call69 (.cons call70 (AG.nil))),mixed,func49,by kernel_rfl⟩
def start (h:∀b3:Nat,AL 68 #[.agg #[.I Dc,.I Cp,.string De,.slice Dl Dn Dp,.I Dd,.I Dm,.I DO,.slice D6 Dq D7,.bool DP,.I Cs]] σ R (CB fun t10 y=>Bn t10 (R (.returned (.I 190)) y) (Pq q0 fun Lx Wt=>LS y Lx Wt fun p18 n18 c18=>Br ((n18:Int)<Cs) (R (.returned (.I 190)) y) (AL 69 #[.slice Dl Dn Dp] y R (CI .i64 fun HS AE=>Br (HS≠0) (R (.returned (.I 193)) AE) (AH prog (Instr.makeMap 147 none) AE (fun z AJ=>∃uj,z=(.map (some uj))∧AL 70 #[.I 1] AJ R (fun z As=>∃f27 a27 c27,(Value.func f27 a27 c27)=z∧AH prog (Instr.mapUpdate 147 (.map (some uj)) (.I 1) (Value.func f27 a27 c27)) As (fun _ JY=>AL 70 #[.I 2] JY R (fun z Uw=>∃f28 a28 c28,(Value.func f28 a28 c28)=z∧AH prog (Instr.mapUpdate 147 (.map (some uj)) (.I 2) (Value.func f28 a28 c28)) Uw (fun _ ug=>AL 70 #[.I 3] ug R (fun z oh=>∃f29 a29 c29,(Value.func f29 a29 c29)=z∧AH prog (Instr.mapUpdate 147 (.map (some uj)) (.I 3) (Value.func f29 a29 c29)) oh (fun _ y_9=>AH prog (Instr.mapUpdate 147 (.map (some uj)) (.I 4) (.func (.func 71) #[(.pointer (aD Lx Wt))] #[])) y_9 (fun _ uo=>AH prog (Instr.mapUpdate 147 (.map (some uj)) (.I 5) (.func (.func 72) #[(.pointer (aD Lx Wt))] #[])) uo (fun _ ANX=>AH prog (Instr.mapUpdate 147 (.map (some uj)) (.I 6) (.func (.func 73) #[(.pointer (aD Lx Wt))] #[])) ANX (fun _ ANY=>AH prog (Instr.mapUpdate 147 (.map (some uj)) (.I 7) (.func (.func 74) #[(.pointer (aD Lx Wt))] #[])) ANY (fun _ uq=>LS uq Lx Wt fun p42 n42 c42=>AM ((n42:Int)-Cs)∧LS uq Lx Wt fun p56 n56 c56=>((0:Int)≤((n42:Int)-Cs)∧((n42:Int)-Cs)≤(n56:Int))∧AH prog (Instr.lookup 147 (.map (some uj)) (.I Dc) false) uq (fun z AHa=>∃v51,v51=z∧Kp [Lx] uq AHa∧∃(f59:Nat) (xr xt:Array Value),v51=.func (.func f59) xr xt∧Enters prog f59∧Spec prog f59 (xr++#[.agg #[.I Dc,.I Cp,.string De,.slice Dl Dn Dp,.I Dd,.I Dm,.I DO,.slice D6 Dq D7,.bool DP,.I Cs],(.slice (Fe p56 (Int.toNat ((n42:Int)-Cs)) c56 1) (n56-Int.toNat ((n42:Int)-Cs)) (c56-Int.toNat ((n42:Int)-Cs)))]++xt) AHa (Ap R (fun z dV=>∃ot Jb,z=(.tuple #[.I ot,.I Jb])∧LS dV Lx Wt fun sv oV gP=>((0:Int)≤((n42:Int)-Cs)∧((n42:Int)-Cs)≤(gP:Int))∧Al dV fun Ve=>AH prog (Builtin.append_ #[112,112] 112 #[(.slice sv (Int.toNat ((n42:Int)-Cs)) gP),(.slice (aD Ve 0) 1 1)]) (Hp.set dV Ve (.cells #[.I ot] 117 (0,0))) (CS fun p72 n72 c72 AA9=>AH prog (Instr.storeAt 112 (.pointer (aD Lx Wt)) (.slice p72 n72 c72)) AA9 (fun _ ABA=>R (.returned (.I Jb)) ABA)))))))))))))))))))))):Spec prog 49 #[.pointer q0,.agg #[.I Dc,.I Cp,.string De,.slice Dl Dn Dp,.I Dd,.I Dm,.I DO,.slice D6 Dq D7,.bool DP,.I Cs]] σ R:=M.start h ok
end JA
namespace CM
variable {s0 s1:ByteArray}
def M:Fw:=⟨prog,63,f63,[],[],false,[],[],[]⟩
def ok:M.Ok:=⟨AG.nil,mixed,func63,by kernel_rfl⟩
def start (h:EN prog 87 #[.string s0,.string s1] σ (CI .i64 fun x7 y=>R (.returned (.I x7)) y)):Spec prog 63 #[.string s0,.string s1] σ R:=M.start h ok
end CM
namespace Ad
variable {v0:Value}{x1 x2 x7 x9:Int}
def M:Fw:=⟨prog,67,f67,[],[],false,[],[],[(224,[(0,wV),(1,wI),(2,wI),(7,wI)]),(30,[(1,wI),(7,wI)]),(7228,[(0,wV),(1,wI),(2,wI),(7,wI),(9,wI)])]⟩
def ok:M.Ok:=⟨AG.nil,mixed,func67,by kernel_rfl⟩
def Ho:=M.pt 0
def ur:=M.pt 1
def Lp:=M.pt 2
def start (h:Ho R v0 x1 x2 x1 σ):Spec prog 67 #[v0,.I x1,.I x2] σ R:=M.CY h ok [(0,.o (.V v0)),(1,.o (.I .i64 x1)),(2,.o (.I .i64 x2))] rfl rfl (by kernel_rfl)
def BJ (h:AM (2*x7)∧AM ((2*x7)+1)∧Br (x2≤((2*x7)+1)) (ur R x1 x7 σ) (Br ((((2*x7)+1):Int)<0) (ur R x1 x7 σ) (AM (((2*x7)+1)+1)∧Br (((((2*x7)+1)+1):Int)<x2) (MC prog v0 QF #[(.I (((2*x7)+1)+1)),(.I ((2*x7)+1))] σ (Ap R (CB fun t32 y=>Bo t32 (Lp R v0 x1 x2 x7 ((((2*x7)+1)+1)) y) (Lp R v0 x1 x2 x7 (((2*x7)+1)) y)))) (Lp R v0 x1 x2 x7 (((2*x7)+1)) σ)))):Ho R v0 x1 x2 x7 σ:=M.of h ok rfl
def Wu (h:R (.returned (.bool (decide (x1<x7)))) σ):ur R x1 x7 σ:=M.of h ok rfl
def LG (h:MC prog v0 QF #[.I x9,.I x7] σ (Ap R (CB fun t38 y=>Bn t38 (ur R x1 x7 y) (MC prog v0 NA #[.I x7,.I x9] y (Ap R (fun z AE=>z=(.tuple #[])∧Ho R v0 x1 x2 x9 AE)))))):Lp R v0 x1 x2 x7 x9 σ:=M.of h ok rfl
end Ad
namespace FM
variable {Em ES Qr NF HT I5 Dc Cp Dd Dm DO Cs x7 x8:Int}{Qt De:ByteArray}{Vi R9 Dl D6 p6:Option Addr}{Uv Vj RI SA Dn Dp Dq D7 n6 c6:Nat}{Mb DP:Bool}
def M:Fw:=⟨prog,90,f90,[95],[1],false,[],[],[(104,[(1,.X 51 [.I .i64,.I .i64,.T,.L,.I .i64,.I .i64,.I .i64,.L,.B,.I .i64]),(6,wL),(7,wI),(8,wI)])]⟩
def ok:M.Ok:=⟨.cons call95 (AG.nil),mixed,func90,by kernel_rfl⟩
def II:=M.pt 0
def start (h:∀b1:Nat,II R Em ES Qt Vi Uv Vj Qr NF HT R9 RI SA Mb I5 R9 RI SA (RI:Int) 0 σ):Spec prog 90 #[.agg #[.I Em,.I ES,.string Qt,.slice Vi Uv Vj,.I Qr,.I NF,.I HT,.slice R9 RI SA,.bool Mb,.I I5]] σ R:=M.start h ok
def A8 (h:Br (x8<x7) (Pq p6 fun CC gA=>In x8 (n6:Int)∧LT σ CC (gA+x8.toNat*1) fun s11=>AL 95 #[.string s11] σ R (CB fun t13 y=>Bn t13 (R (.B false) y) (AM (x8+1)∧II R Dc Cp De Dl Dn Dp Dd Dm DO D6 Dq D7 DP Cs (aD CC gA) n6 c6 x7 (x8+1) y))) (Br ((Dq:Int)=0) (R (.B true) σ) (R (.returned (.bool (decide (DO≠0)))) σ))):II R Dc Cp De Dl Dn Dp Dd Dm DO D6 Dq D7 DP Cs p6 n6 c6 x7 x8 σ:=M.xN h ok rfl fun _=>by kernel_rfl
end FM
namespace SN
variable {s0:ByteArray}
def M:Fw:=⟨prog,95,f95,[64],[],false,[],[],[]⟩
def ok:M.Ok:=⟨.cons call64 (AG.nil),mixed,func95,by kernel_rfl⟩
def start (h:AL 64 #[.string s0] σ R (CB fun t4 y=>R (.B t4) y)):Spec prog 95 #[.string s0] σ R:=M.start h ok
end SN
namespace QP
variable {s0:ByteArray}
def M:Fw:=⟨prog,98,f98,[124,125,126],[],false,[],[],[]⟩
def ok:M.Ok:=⟨.cons call124 (.cons call125 (.cons call126 (AG.nil))),mixed,func98,by kernel_rfl⟩
def start (h:AL 124 #[.string s0] σ R (CB fun t7 y=>Bn t7 (R (.T #[.U 0,.bool false]) y) (AL 125 #[.string s0,.I 64] y R (fun z AE=>∃jX jY,z=(.tuple #[jX,jY])∧AL 126 #[jX] AE R (CI .u64 fun x15 AJ=>R (.T #[.U x15,.bool true]) AJ))))):Spec prog 98 #[.string s0] σ R:=M.start h ok
end QP
namespace Dt
variable {p0 p1 p5 p9:Option Addr}{n0 c0 n1 c1 n5 c5 n9 c9:Nat}{x10 x11:Int}
def M:Fw:=⟨prog,100,f100,[94,130,131,132],[7],false,[],[],[(232,[(1,wL),(5,wL),(9,wL),(10,wI),(11,wI)])]⟩
def ok:M.Ok:=⟨.cons call94 (.cons call130 (.cons call131 (.cons call132 (AG.nil)))),mixed,func100,by kernel_rfl⟩
def Aw:=M.pt 0
def start (h:AL 130 #[] σ R (CS fun p8 n8 c8 y=>Aw R p1 n1 c1 p8 n8 c8 p0 n0 c0 (n0:Int) 0 y)):Spec prog 100 #[.slice p0 n0 c0,.slice p1 n1 c1] σ R:=M.start h ok
def AY (h:Br (x11<x10) (Pq p9 fun Bc lQ=>In x11 (n9:Int)∧∃Hq dW ABB,Av σ Bc (lQ+x11.toNat*3) [.I Hq,.string dW,.string ABB]∧∀b7:Nat,AL 94 #[.I Hq] σ R (CB fun t17 y=>Bn t17 (R (.B false) y) (Pq p5 fun PC fz=>In Hq (n5:Int)∧∃v24,Hp.ld y ⟨PC,(fz+Hq.toNat*1),none⟩=some v24∧AL 131 #[.string ABB] y R (fun z AE=>∃Mc Ld Md,z=(.agg #[.slice Mc Ld Md])∧Kp [PC] y AE∧AL 132 #[.slice p1 n1 c1,.string dW] AE R (CT fun s34 AJ=>Kp [PC] AE AJ∧∃(f35:Nat) (Yh Yi:Array Value),v24=.func (.func f35) Yh Yi∧Enters prog f35∧Spec prog f35 (Yh++#[.agg #[.slice Mc Ld Md,.string ABB],.string s34]++Yi) AJ (Ap R (CB fun t35 As=>Bn t35 (R (.B false) As) (AM (x11+1)∧Aw R p1 n1 c1 (aD PC fz) n5 c5 (aD Bc lQ) n9 c9 x10 (x11+1) As)))))))) (R (.B true) σ)):Aw R p1 n1 c1 p5 n5 c5 p9 n9 c9 x10 x11 σ:=M.of h ok rfl
end Dt
namespace A5
variable {q0 Dl D6 p2 IX IY Ef En SC SD:Option Addr}{Dc Cp Dd Dm DO Cs IZ Gy Ia Ib Ic Ie Eo Ep x16 x17:Int}{De Ig:ByteArray}{Dn Dp Dq D7 n2 c2 Ih Ii Ij Ik Eg Eh Er Es n10 NI n15 QM:Nat}{DP Jc:Bool}{v3:Value}
def M:Fw:=⟨prog,115,f115,[93,104,106],[5,8,12],false,[],[],[(232,[(3,wV),(5,.X 51 [.I .i64,.I .i64,.T,.L,.I .i64,.I .i64,.I .i64,.L,.B,.I .i64]),(8,.X 84 [.I .i64,.I .u64,.L,.L]),(10,wL),(15,wL),(16,wI),(17,wI)]),(935,[(3,wV),(5,.X 51 [.I .i64,.I .i64,.T,.L,.I .i64,.I .i64,.I .i64,.L,.B,.I .i64]),(8,.X 84 [.I .i64,.I .u64,.L,.L]),(10,wL),(15,wL),(16,wI),(17,wI)])]⟩
def ok:M.Ok:=⟨.cons call93 (.cons call104 (.cons call106 (AG.nil))),mixed,func115,by kernel_rfl⟩
def Aw:=M.pt 0
def Qy:=M.pt 1
def start (h:∀b5:Nat,∀b8:Nat,Aw R v3 Dc Cp De Dl Dn Dp Dd Dm DO D6 Dq D7 DP Cs 0 0 none 0 0 none 0 0 none 0 0 p2 n2 c2 (n2:Int) 0 σ):Spec prog 115 #[.pointer q0,.agg #[.I Dc,.I Cp,.string De,.slice Dl Dn Dp,.I Dd,.I Dm,.I DO,.slice D6 Dq D7,.bool DP,.I Cs],.slice p2 n2 c2,v3] σ R:=M.CY h ok [(0,.o (.Q q0)),(1,.G [.I .i64 Dc,.I .i64 Cp,.T De,.L Dl Dn Dp,.I .i64 Dd,.I .i64 Dm,.I .i64 DO,.L D6 Dq D7,.B DP,.I .i64 Cs]),(2,.o (.L p2 n2 c2)),(3,.o (.V v3))] rfl rfl (by kernel_rfl)
def AY (h:Br (x17<x16) (Pq SD fun BR Xe=>In x17 (n15:Int)∧∃uu uw ux dR,Av σ BR (Xe+x17.toNat*2) [.slice uu uw ux,.U dR]∧∀NM:Nat,∃(f25:Nat) (xu xv:Array Value),v3=.func (.func f25) xu xv∧Enters prog f25∧Spec prog f25 (xu++#[.U dR]++xv) σ (Ap R (fun z y=>∃ABC ou,z=(.tuple #[.U ABC,.bool ou])∧AL 93 #[.I Gy] y R (CB fun t31 AE=>Bn t31 (AL 104 #[.slice uu uw ux] AE R (CS fun p40 n40 c40 AJ=>Al AJ fun gN=>AH prog (I4 60 SC n10 NI gN) (Hp.set AJ gN (.cells #[.slice p40 n40 c40,.U ABC] 64 (0,0))) (CS fun lO n44 nH As=>Qy R v3 IZ Gy Ig IX Ih Ii Ia Ib Ic IY Ij Ik Jc Ie Eo Ep Ef Eg Eh En Er Es lO n44 nH (aD BR Xe) n15 QM x16 x17 As))) (Bo Jc (AL 104 #[.slice uu uw ux] AE R (CS fun p40 n40 c40 AJ=>Al AJ fun gN=>AH prog (I4 60 SC n10 NI gN) (Hp.set AJ gN (.cells #[.slice p40 n40 c40,.U ABC] 64 (0,0))) (CS fun lO n44 nH As=>Qy R v3 IZ Gy Ig IX Ih Ii Ia Ib Ic IY Ij Ik true Ie Eo Ep Ef Eg Eh En Er Es lO n44 nH (aD BR Xe) n15 QM x16 x17 As))) (Bo ou (Al AE fun Vo=>AH prog (I4 60 SC n10 NI Vo) (Hp.set AE Vo (.cells #[.slice uu uw ux,.U dR] 64 (0,0))) (CS fun dX n50 dY AJ=>Qy R v3 IZ Gy Ig IX Ih Ii Ia Ib Ic IY Ij Ik false Ie Eo Ep Ef Eg Eh En Er Es dX n50 dY (aD BR Xe) n15 QM x16 x17 AJ)) (Qy R v3 IZ Gy Ig IX Ih Ii Ia Ib Ic IY Ij Ik false Ie Eo Ep Ef Eg Eh En Er Es SC n10 NI (aD BR Xe) n15 QM x16 x17 AE))))))) (AL 106 #[.slice SC n10 NI] σ R (fun z y=>∃Yj Yk Yl Ym Yn Yo Yp Yq ov,z=(.tuple #[.agg #[.I Yj,.U Yk,.slice Yl Ym Yn,.slice Yo Yp Yq],.I ov])∧R (.T #[.agg #[.I Yj,.U Yk,.slice Yl Ym Yn,.slice Yo Yp Yq],.I ov]) y))):Aw R v3 IZ Gy Ig IX Ih Ii Ia Ib Ic IY Ij Ik Jc Ie Eo Ep Ef Eg Eh En Er Es SC n10 NI SD n15 QM x16 x17 σ:=M.jQ h ok rfl fun _ _=>by kernel_rfl
def RJ (h:AM (x17+1)∧Aw R v3 IZ Gy Ig IX Ih Ii Ia Ib Ic IY Ij Ik Jc Ie Eo Ep Ef Eg Eh En Er Es SC n10 NI SD n15 QM x16 (x17+1) σ):Qy R v3 IZ Gy Ig IX Ih Ii Ia Ib Ic IY Ij Ik Jc Ie Eo Ep Ef Eg Eh En Er Es SC n10 NI SD n15 QM x16 x17 σ:=M.jQ h ok rfl fun _ _=>by kernel_rfl
end A5
namespace DG
variable {x0:Int}{b1 b2:Nat}
def M:Fw:=⟨prog,116,f116,[114],[],false,[],[],[]⟩
def ok:M.Ok:=⟨.cons call114 (AG.nil),mixed,func116,by kernel_rfl⟩
def start (h:∃Fh Fi s6c Fg Fj Fk x6e x6f x6g p6h n6h c6h t6i x6j,Av σ b1 0 [.I Fh,.I Fi,.string s6c,.slice Fg Fj Fk,.I x6e,.I x6f,.I x6g,.slice p6h n6h c6h,.bool t6i,.I x6j]∧LI .u64 σ b2 1 fun x8=>AL 114 #[.agg #[.I Fh,.I Fi,.string s6c,.slice Fg Fj Fk,.I x6e,.I x6f,.I x6g,.slice p6h n6h c6h,.bool t6i,.I x6j],.U x8,.U x0] σ R (fun z y=>∃Jd SO,z=(.tuple #[.U Jd,.bool SO])∧R (.T #[.U Jd,.bool SO]) y)):Spec prog 116 #[.U x0,(.pointer (aD b1 0)),(.pointer (aD b2 0))] σ R:=M.start h ok
end DG
namespace AZ
variable {q0 Dl D6 p2 p3 IX IY Ef En LH uZ sv:Option Addr}{Dc Cp Dd Dm DO Cs IZ Gy Ia Ib Ic Ie Eo Ep lR Vn dZ Lc:Int}{De Ig:ByteArray}{Dn Dp Dq D7 n2 c2 n3 c3 Ih Ii Ij Ik Eg Eh Er Es n14 Il n35 jZ oV gP:Nat}{DP Jc:Bool}{m10 m12:Option Nat}
def M:Fw:=⟨prog,118,f118,[19,106,158,159],[5,8,16,17,20,21],false,[],[],[(1000,[(3,wL),(5,.X 51 [.I .i64,.I .i64,.T,.L,.I .i64,.I .i64,.I .i64,.L,.B,.I .i64]),(8,.X 84 [.I .i64,.I .u64,.L,.L]),(10,wM),(12,wM),(14,wL),(35,wL),(36,wI),(37,wI)]),(2024,[(5,.X 51 [.I .i64,.I .i64,.T,.L,.I .i64,.I .i64,.I .i64,.L,.B,.I .i64]),(8,.X 84 [.I .i64,.I .u64,.L,.L]),(10,wM),(14,wL),(66,wL),(67,wI),(68,wI)]),(8103,[(5,.X 51 [.I .i64,.I .i64,.T,.L,.I .i64,.I .i64,.I .i64,.L,.B,.I .i64]),(8,.X 84 [.I .i64,.I .u64,.L,.L]),(10,wM),(14,wL),(66,wL),(67,wI),(68,wI)]),(4007,[(3,wL),(5,.X 51 [.I .i64,.I .i64,.T,.L,.I .i64,.I .i64,.I .i64,.L,.B,.I .i64]),(8,.X 84 [.I .i64,.I .u64,.L,.L]),(10,wM),(12,wM),(14,wL),(35,wL),(36,wI),(37,wI)])]⟩
def ok:M.Ok:=⟨.cons call19 (.cons call106 (.cons call158 (.cons call159 (AG.nil)))),mixed,func118,by kernel_rfl⟩
def uy:=M.pt 0
def JV:=M.pt 1
def NQ:=M.pt 2
def Wv:=M.pt 3
def start (h:∀b5:Nat,∀b8:Nat,AL 158 #[.agg #[.I Dc,.I Cp,.string De,.slice Dl Dn Dp,.I Dd,.I Dm,.I DO,.slice D6 Dq D7,.bool DP,.I Cs],.slice p2 n2 c2] σ R (fun z y=>∃AHk ANe,z=(.tuple #[.map AHk,.bool ANe])∧AL 158 #[.agg #[.I Dc,.I Cp,.string De,.slice Dl Dn Dp,.I Dd,.I Dm,.I DO,.slice D6 Dq D7,.bool DP,.I Cs],.slice p3 n3 c3] y R (fun z AE=>∃AHl ANf,z=(.tuple #[.map AHl,.bool ANf])∧uy R p3 n3 c3 Dc Cp De Dl Dn Dp Dd Dm DO D6 Dq D7 DP Cs 0 0 none 0 0 none 0 0 AHk AHl none 0 0 p2 n2 c2 (n2:Int) 0 AE))):Spec prog 118 #[.pointer q0,.agg #[.I Dc,.I Cp,.string De,.slice Dl Dn Dp,.I Dd,.I Dm,.I DO,.slice D6 Dq D7,.bool DP,.I Cs],.slice p2 n2 c2,.slice p3 n3 c3] σ R:=M.start h ok
def gU (h:Br (Vn<lR) (Pq uZ fun tA o39=>In Vn (n35:Int)∧∃Yr Ww da db,Av σ tA (o39+Vn.toNat*2) [.slice Yr Ww da,.U db]∧∀Lx:Nat,AL 159 #[.agg #[.I IZ,.I Gy,.string Ig,.slice IX Ih Ii,.I Ia,.I Ib,.I Ic,.slice IY Ij Ik,.bool Jc,.I Ie],.slice Yr Ww da] σ R (CS fun gK n46 dP y=>AL 19 #[.slice gK n46 dP] y R (CT fun s47 AE=>AH prog (Instr.lookup 222 (.map m12) (.string s47) true) AE (fun z AJ=>∃AHm AHn AHo AHp AHq,z=(.tuple #[.agg #[.slice AHm AHn AHo,.U AHp],.bool AHq])∧∀Mf:Nat,Br (Gy=12) (Al AJ fun jn=>AH prog (I4 60 LH n14 Il jn) (Hp.set AJ jn (.cells #[.slice Yr Ww da,.U db] 64 (0,0))) (CS fun tB oz tC As=>Wv R p3 n3 c3 IZ Gy Ig IX Ih Ii Ia Ib Ic IY Ij Ik Jc Ie Eo Ep Ef Eg Eh En Er Es m10 m12 tB oz tC (aD tA o39) n35 jZ lR Vn As)) (Bo AHq (Br (Gy=11) (Al AJ fun jn=>AH prog (I4 60 LH n14 Il jn) (Hp.set AJ jn (.cells #[.slice Yr Ww da,.U db] 64 (0,0))) (CS fun tB oz tC As=>Wv R p3 n3 c3 IZ Gy Ig IX Ih Ii Ia Ib Ic IY Ij Ik Jc Ie Eo Ep Ef Eg Eh En Er Es m10 m12 tB oz tC (aD tA o39) n35 jZ lR Vn As)) (Wv R p3 n3 c3 IZ Gy Ig IX Ih Ii Ia Ib Ic IY Ij Ik Jc Ie Eo Ep Ef Eg Eh En Er Es m10 m12 LH n14 Il (aD tA o39) n35 jZ lR Vn AJ)) (Br (Gy=11) (Wv R p3 n3 c3 IZ Gy Ig IX Ih Ii Ia Ib Ic IY Ij Ik Jc Ie Eo Ep Ef Eg Eh En Er Es m10 m12 LH n14 Il (aD tA o39) n35 jZ lR Vn AJ) (Al AJ fun jn=>AH prog (I4 60 LH n14 Il jn) (Hp.set AJ jn (.cells #[.slice Yr Ww da,.U db] 64 (0,0))) (CS fun tB oz tC As=>Wv R p3 n3 c3 IZ Gy Ig IX Ih Ii Ia Ib Ic IY Ij Ik Jc Ie Eo Ep Ef Eg Eh En Er Es m10 m12 tB oz tC (aD tA o39) n35 jZ lR Vn As)))))))) (JV R IZ Gy Ig IX Ih Ii Ia Ib Ic IY Ij Ik Jc Ie Eo Ep Ef Eg Eh En Er Es m10 LH n14 Il p3 n3 c3 (n3:Int) 0 σ)):uy R p3 n3 c3 IZ Gy Ig IX Ih Ii Ia Ib Ic IY Ij Ik Jc Ie Eo Ep Ef Eg Eh En Er Es m10 m12 LH n14 Il uZ n35 jZ lR Vn σ:=M.jQ h ok rfl fun _ _=>by kernel_rfl
def Kx (h:Br (Lc<dZ) (Pq sv fun b70 o70=>In Lc (oV:Int)∧∃ABD ABE ABF AHr,Av σ b70 (o70+Lc.toNat*2) [.slice ABD ABE ABF,.U AHr]∧∀Pd:Nat,AL 159 #[.agg #[.I IZ,.I Gy,.string Ig,.slice IX Ih Ii,.I Ia,.I Ib,.I Ic,.slice IY Ij Ik,.bool Jc,.I Ie],.slice ABD ABE ABF] σ R (CS fun p77 n77 c77 y=>AL 19 #[.slice p77 n77 c77] y R (CT fun s78 AE=>AH prog (Instr.lookup 222 (.map m10) (.string s78) true) AE (fun z AJ=>∃AHs AHt AHu AHv AHw,z=(.tuple #[.agg #[.slice AHs AHt AHu,.U AHv],.bool AHw])∧∀b21:Nat,Bn AHw (Br (Gy=12) (Al AJ fun fy=>AH prog (I4 60 LH n14 Il fy) (Hp.set AJ fy (.cells #[.slice ABD ABE ABF,.U AHr] 64 (0,0))) (CS fun p92 n92 c92 As=>NQ R IZ Gy Ig IX Ih Ii Ia Ib Ic IY Ij Ik Jc Ie Eo Ep Ef Eg Eh En Er Es m10 p92 n92 c92 (aD b70 o70) oV gP dZ Lc As)) (NQ R IZ Gy Ig IX Ih Ii Ia Ib Ic IY Ij Ik Jc Ie Eo Ep Ef Eg Eh En Er Es m10 LH n14 Il (aD b70 o70) oV gP dZ Lc AJ)) (NQ R IZ Gy Ig IX Ih Ii Ia Ib Ic IY Ij Ik Jc Ie Eo Ep Ef Eg Eh En Er Es m10 LH n14 Il (aD b70 o70) oV gP dZ Lc AJ))))) (AL 106 #[.slice LH n14 Il] σ R (fun z y=>∃xw xx xy yA yB yC yD yE AHx,z=(.tuple #[.agg #[.I xw,.U xx,.slice xy yA yB,.slice yC yD yE],.I AHx])∧R (.T #[.agg #[.I xw,.U xx,.slice xy yA yB,.slice yC yD yE],.I AHx]) y))):JV R IZ Gy Ig IX Ih Ii Ia Ib Ic IY Ij Ik Jc Ie Eo Ep Ef Eg Eh En Er Es m10 LH n14 Il sv oV gP dZ Lc σ:=M.jQ h ok rfl fun _ _=>by kernel_rfl
def Wx (h:AM (Lc+1)∧JV R IZ Gy Ig IX Ih Ii Ia Ib Ic IY Ij Ik Jc Ie Eo Ep Ef Eg Eh En Er Es m10 LH n14 Il sv oV gP dZ (Lc+1) σ):NQ R IZ Gy Ig IX Ih Ii Ia Ib Ic IY Ij Ik Jc Ie Eo Ep Ef Eg Eh En Er Es m10 LH n14 Il sv oV gP dZ Lc σ:=M.jQ h ok rfl fun _ _=>by kernel_rfl
def uz (h:AM (Vn+1)∧uy R p3 n3 c3 IZ Gy Ig IX Ih Ii Ia Ib Ic IY Ij Ik Jc Ie Eo Ep Ef Eg Eh En Er Es m10 m12 LH n14 Il uZ n35 jZ lR (Vn+1) σ):Wv R p3 n3 c3 IZ Gy Ig IX Ih Ii Ia Ib Ic IY Ij Ik Jc Ie Eo Ep Ef Eg Eh En Er Es m10 m12 LH n14 Il uZ n35 jZ lR Vn σ:=M.jQ h ok rfl fun _ _=>by kernel_rfl
end AZ
namespace Dh
variable {U1:Option Addr}{Lz SM:Nat}{bR s1:ByteArray}
def M:Fw:=⟨prog,167,f167,[184],[2],false,[],[],[]⟩
def ok:M.Ok:=⟨.cons call184 (AG.nil),mixed,func167,by kernel_rfl⟩
def start (h:∀b2:Nat,AL 184 #[.agg #[.slice U1 Lz SM],.string s1] σ R (CB fun t8 y=>R (.B t8) y)):Spec prog 167 #[.agg #[.slice U1 Lz SM,.string bR],.string s1] σ R:=M.start h ok
end Dh
namespace strings_Split
variable {s0 s1:ByteArray}
end strings_Split
namespace Ys
variable {x0:Int}
def M:Fw:=⟨prog,178,f178,[138],[],false,[],[],[]⟩
def ok:M.Ok:=⟨.cons call138 (AG.nil),mixed,func178,by kernel_rfl⟩
def start (h:AL 138 #[.U x0] σ R (CI .u64 fun x4 y=>R (.returned (.bool (decide (x4=9221120237041090560)))) y)):Spec prog 178 #[.U x0] σ R:=M.start h ok
end Ys
namespace BZ
variable {U1 p8:Option Addr}{Lz SM n8 c8:Nat}{s1:ByteArray}{x9 x10:Int}
def M:Fw:=⟨prog,184,f184,[203],[2,6],false,[],[],[(104,[(1,wT),(8,wL),(9,wI),(10,wI)])]⟩
def ok:M.Ok:=⟨.cons call203 (AG.nil),mixed,func184,by kernel_rfl⟩
def II:=M.pt 0
def start (h:∀b2:Nat,II R s1 U1 Lz SM (Lz:Int) 0 σ):Spec prog 184 #[.agg #[.slice U1 Lz SM],.string s1] σ R:=M.start h ok
def A8 (h:Br (x10<x9) (Pq p8 fun NM PD=>In x10 (n8:Int)∧∃AHy AHz AH0,Av σ NM (PD+x10.toNat*1) [.slice AHy AHz AH0]∧∀b6:Nat,AL 203 #[.agg #[.slice AHy AHz AH0],.string s1] σ R (CB fun t16 y=>Bo t16 (R (.B true) y) (AM (x10+1)∧II R s1 (aD NM PD) n8 c8 x9 (x10+1) y))) (R (.B false) σ)):II R s1 p8 n8 c8 x9 x10 σ:=M.of h ok rfl
end BZ
namespace D8
variable {s0:ByteArray}{x3 x8 x9 x16:Int}{v4 v2:Value}{t11:Bool}
def M:Fw:=⟨prog,199,f199,[213,214,215,220,221,222,224,225],[],false,[],[],[(254,[(0,wT),(3,wI),(4,wV)]),(8190,[(2,wV),(3,wI),(4,wV)]),(32446,[(0,wT),(3,wI),(4,wV),(8,wU),(9,wI),(11,wB),(16,wU)])]⟩
def ok:M.Ok:=⟨.cons call213 (.cons call214 (.cons call215 (.cons call220 (.cons call221 (.cons call222 (.cons call224 (.cons call225 (AG.nil)))))))),mixed,func199,by kernel_rfl⟩
def ANg:=M.pt 0
def AH1:=M.pt 2
def start (h:AL 213 #[.string s0] σ R (fun z y=>∃AH2 SP AH3,z=(.tuple #[AH2,.I SP,.bool AH3])∧Bo AH3 (R (.T #[AH2,.I SP,.nilIface]) y) (AL 214 #[.string s0] y R (fun z AE=>∃jo dc u4 ABG AH4 SQ AH5,z=(.tuple #[.U jo,.I dc,.bool u4,.bool ABG,.bool AH4,.I SQ,.bool AH5])∧Bn AH5 (R (.T #[.float .f64 0,.I SQ,(.iface 240 (.I 2))]) AE) (Bo AH4 (∃s53,YF prog (Instr.sliceAt 9 (.string s0) none (some (.I SQ)) none) AE (.string s53)∧AL 215 #[.string s53,(.pointer (aD 6 0)),.U jo,.I dc,.bool u4,.bool ABG] AE R (fun z AJ=>∃AH6 AH7,z=(.tuple #[AH6,AH7])∧R (.T #[AH6,.I SQ,AH7]) AJ)) (LB AE 5 0 fun t64=>Bo t64 (AL 222 #[.bool u4] AE R (CI .u64 fun yF AJ=>((0:Int)≤63∧63≤((IntKind.bits .u64:Nat):Int))∧Df (IntKind.u64.wrap (yF*2^Int.toNat 63)) fun dZ=>Br (jo=0) (Df (Go.bits .or .u64 dZ 0) fun x71=>EN prog 223 #[.U x71] AJ (fun z As=>∃x72,(Value.float .f64 x72)=z∧R (.T #[(Value.float .f64 x72),.I SQ,.nilIface]) As)) (Br (310<dc) (Df (Go.bits .or .u64 dZ 9218868437227405312) fun x77=>EN prog 223 #[.U x77] AJ (fun z As=>∃x78,(Value.float .f64 x78)=z∧R (.T #[(Value.float .f64 x78),.I SQ,(.iface 240 (.I 1))]) As)) (Br (dc<(-345)) (Df (Go.bits .or .u64 dZ 0) fun x84=>EN prog 223 #[.U x84] AJ (fun z As=>∃x85,(Value.float .f64 x85)=z∧R (.T #[(Value.float .f64 x85),.I SQ,.nilIface]) As)) (Bn ABG (AL 224 #[.U jo,.I dc,.bool u4] AJ R (fun z As=>∃AH8 AH9,z=(.tuple #[AH8,.bool AH9])∧Bo AH9 (R (.T #[AH8,.I SQ,.nilIface]) As) (AH1 R s0 SQ .nilIface jo dc false dZ As))) (AH1 R s0 SQ .nilIface jo dc true dZ AJ)))))) (ANg R s0 SQ .nilIface AE))))))):Spec prog 199 #[.string s0] σ R:=M.start h ok
end D8
namespace Cb
variable {p0:Option Addr}{n0 c0:Nat}
def M:Fw:=⟨prog,292,f292,[],[],false,[],[],[]⟩
def ok:M.Ok:=⟨AG.nil,mixed,func292,by kernel_rfl⟩
def start (h:R (.returned (.I (n0:Int))) σ):Spec prog 292 #[.slice p0 n0 c0] σ R:=M.start h ok
end Cb
end TwW
end
end
