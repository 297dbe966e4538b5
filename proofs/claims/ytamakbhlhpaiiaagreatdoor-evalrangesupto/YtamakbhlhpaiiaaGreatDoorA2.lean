/-
  Part 2 of the proof that the law EvalRangesUptoCardSaid of the given program answers true for every input of the given statement; the input reads behind the call as it did. (The texts: packed from 6 texts. Names are shortened by the packing program, for the bound on size.)
-/
import Derived.Test.YtamakbhlhpaiiaaGreatDoorA1
set_option linter.all false
section
namespace Tw
open Go
variable [HL]
def zU (P:Program):Op->Bool
 | .call c=>match c.callee with
  | .builtin .len=>false
  | .builtin .cap=>false
  | .builtin .min=>match c.argTypes.toList with
   | T::_=>ALL P T
   | []=>false
  | .builtin .max=>match c.argTypes.toList with
   | T::_=>ALL P T
   | []=>false
  | .builtin .real=>false
  | .builtin .imag=>false
  | .builtin .complex=>false
  | _=>true
 | .convert T T' _=>match P.underlying T,P.underlying T' with
  | some (.int _),some (.int _)=>false
  | _,_=>true
 | .box ..=>true
 | .alloc ..=>true
 | .store ..=>true
 | .buildSlice ..=>true
 | .makeSlice ..=>true
 | .mapUpdate ..=>true
 | .makeMap ..=>true
 | .insert ..=>true
 | .range ..=>true
 | .next ..=>true
 | .lookup ..=>true
 | .entryStore ..=>true
 | .mapEntry ..=>true
 | .makeChan ..=>true
 | .binOp b T _ _ _=>flB b&&ALL P T
 | _=>false
def vY (s:S):Option Operand->Option (Option Value)
 | none=>some none
 | some x=>match s.op x with
  | some v=>some (some (v.den s.vl))
  | none=>none
def AFD (P:Program)(b:BinOp)(T:TypeId)(x y:Option SV):Bool:=match jm x,jm y with
 | some _,some _=>true
 | _,_=>match P.underlying T with
  | some .string=>match b with
   | .eql=>true
   | .neq=>true
   | .add=>true
   | _=>false
  | some (.pointer _)=>true
  | some .bool=>true
  | _=>false
def AZ5:Option SV->Bool
 | some (.v (.a (.sl _ _ _)))=>true
 | _=>false
def anyM (P:Program)(op:Op)(ty:TypeId)(s:S):Option (Sem Value):=match op with
 | .slice T x lo hi A=>match AZ5 (s.op x)&&A.isNone with
  | true=>none
  | false=>match s.op x,vY s lo,vY s hi,vY s A with
   | some w,some l,some h,some m=>some (Instr.sliceAt T (w.den s.vl) l h m)
   | _,_,_,_=>none
 | .unOp u _ x=>match u,s.op x with
  | .not,_=>none
  | .neg,v=>match jm v,v with
   | some _,_=>none
   | none,some v=>some (Op.unary .neg (v.den s.vl))
   | none,none=>none
  | u,some v=>some (Op.unary u (v.den s.vl))
  | _,none=>none
 | .binOp b T x y _=>match AFD P b T (s.op x) (s.op y) with
  | true=>none
  | false=>match s.op x,s.op y with
   | some u,some v=>some (do eqGuard b T x y (u.den s.vl) (v.den s.vl);binOp b T (u.den s.vl) (v.den s.vl))
   | _,_=>none
 | .call c=>match c.callee,c.args.toList,c.argTypes.toList with
  | .builtin .len,[x],[T]=>match s.op x with
   | some (.v (.a (.mp m)))=>some (Builtin.len_ #[T] ty #[.map m])
   | _=>none
  | .builtin .real,[x],_=>match s.op x with
   | some v=>some (Builtin.real_ c.argTypes ty #[v.den s.vl])
   | none=>none
  | .builtin .imag,[x],_=>match s.op x with
   | some v=>some (Builtin.imag_ c.argTypes ty #[v.den s.vl])
   | none=>none
  | .builtin .complex,[x,y],_=>match s.op x,s.op y with
   | some u,some v=>some (Builtin.complex_ c.argTypes ty #[u.den s.vl,v.den s.vl])
   | _,_=>none
  | _,_,_=>none
 | _=>none
theorem Uy {s:S}{J:Env}{x:Option Operand}{v:Option Value}(h:vY s x=some v):x.map (AD (s.e J))=v:=by
 cases x with
 | none=>simp only[vY,Ami]at h;subst h;rfl
 | some x=>
  simp only[vY]at h;split at h
  .rename_i u A;cases h;simp only[AnK];rw[ev A]
  .cases h
theorem vZ {P:Program}{op:Op}{ty:TypeId}{s:S}{m:Sem Value}(h:anyM P op ty s=some m)(J:Env):∀o:Oper,o.op=op->o.type=ty->execOp (AD (s.e J)) o=(do pure (Next.value (<-m))):=λo ho ht=>by
 unfold anyM at h;split at h
 .rename_i T x lo hi mx;split at h
  .cases h
  .split at h
   .rename_i w l hh mm A C h3 h4;cases h;simp only[execOp,ho,Uy C,Uy h3,Uy h4,ev A]
   .cases h
 .rename_i u T x;split at h
  .cases h
  .split at h
   .cases h
   .rename_i G;cases h;simp only[execOp,ho,ev G]
   .cases h
  .rename_i G;cases h;simp only[execOp,ho,ev G]
  .cases h
 .rename_i b T x y T';split at h
  .cases h
  .split at h
   .rename_i u v hu G;cases h;simp only[execOp,ho,ev hu,ev G]
   .cases h
 .rename_i c;obtain⟨ce,Ama,ts⟩:=c;split at h
  .rename_i x T A C h3;simp only at A C h3;have e1:Ama=#[x]:=by rw[<-AnB];simpa using C
   have e2:ts=#[T]:=by rw[<-AnB];simpa using h3
   subst A e1 e2;split at h
   .rename_i mm hx;cases h;exact o6 (by rw[ev hx];rfl) o ho ht
   .cases h
  .rename_i x A C;simp only at A C h;have e1:Ama=#[x]:=by rw[<-AnB];simpa using C
   subst A e1;split at h
   .rename_i v G;cases h;exact Vu (ev G) o ho ht
   .cases h
  .rename_i x A C;simp only at A C h;have e1:Ama=#[x]:=by rw[<-AnB];simpa using C
   subst A e1;split at h
   .rename_i v G;cases h;exact Vw (ev G) o ho ht
   .cases h
  .rename_i x y A C;simp only at A C h;have e1:Ama=#[x,y]:=by rw[<-AnB];simpa using C
   subst A e1;split at h
   .rename_i u v hu G;cases h;exact PA (ev hu) (ev G) o ho ht
   .cases h
  .cases h
 .cases h
def ALM (P:Program)(ty:TypeId)(m:Sem Value)(s:S)(K:SV->S->Prop):Prop:=s.ex P ty λv s=>YF P m s.Z (v.den s.vl)/\K v s
theorem X0 {P:Program}{op:Op}{ty:TypeId}{s:S}{m:Sem Value}{K:SV->S->Prop}(hm:anyM P op ty s=some m)(h:ALM P ty m s K):∃v A,s.Ls A/\(∀J,Yd P (s.e J) s.b s.Z op ty (v.den A.vl))/\K v A:=by
 obtain⟨v,A,C,G,hk⟩:=S.Xy h;rw[C.Z]at G;exact⟨v,A,C,λJ=>Yd.any (vZ hm J) G,hk⟩
def X4 (ops:Array Oper)(gd:Option (Nat×Bool))(s:S)(K:Bool->S->Prop):Prop:=match gd with
 | none=>K true s
 | some (j,A)=>match (ops[j]?).bind (·.dst) with
  | none=>False
  | some d=>match gV s.env d with
   | some (.v (.a .un))=>K false s
   | v=>s.onV v λt s=>K (t==A) s
theorem Mx {ops:Array Oper}{gd:Option (Nat×Bool)}{s:S}{K:Bool->S->Prop}(h:X4 ops gd s K):∃b C,s.Ls C/\(∀J,Aa ops (s.e J) gd=b)/\K b C:=by
 unfold X4 at h;split at h
 .exact⟨true,s,.refl s,λ_=>rfl,h⟩
 .rename_i j A;split at h
  .cases h
  .rename_i d G;split at h
   .rename_i hv;refine⟨false,s,.refl s,λJ=>?_,h⟩;have:s.e J d=undef:=Gx hv;simp only[Aa,G,this];rfl
   .obtain⟨t,C,x,h1,h2,h3,h4,h⟩:=S.ID h;refine⟨_,C,h1,λJ=>?_,h⟩;have:s.e J d=.bool t:=(Gx h3).trans h4;simp only[Aa,G,this];cases t<;>cases A<;>rfl
def tA (J:Env)(K:S->Prop):Env->Bx->Hp->Prop:=λe bx Z=>∃s,e=s.e J/\bx=s.b/\Z=s.Z/\K s
structure Cx extends pV where
 n:Nat
 TE:List (Nat×TypeId):=[]
structure Cx.Ok (c:Cx)(g:Gl):Prop where
 P:c.P=g.P
 R:c.R=g.R
 E:AH g.P c.TD
 n:c.n=g.n
 Jz:g.Jz=none
 ds:g.ds=[]
def kp0:KP:=λ_ _ F=>F
def Wh (l:List IB)(i:Nat)(o:Nat)(xs:List Da):List IB:=match l with
 | []=>[]
 | (j,t,cs)::l=>bif Nat.beq j i then(j,t,pQ cs o xs)::l else(j,t,cs)::Wh l i o xs
def X5 {α:Type}:List α->Nat
 | []=>0
 | _::l=>X5 l+1
theorem XK {α:Type}:∀l:List α,X5 l=l.length
 | []=>rfl
 | _::l=>by simp only[X5,AnN];rw[XK l]
def Uz:List Da->List Value
 | []=>[]
 | .raw v::l=>v::Uz l
 | .un::l=>undef::Uz l
 | _::l=>Uz l
def ALN (F:Prop):List Value->Prop
 | []=>F
 | [v]=>(Value.oneCell' v=true)/\F
 | l=>ALO l/\F
where
 ALO:List Value->Prop
  | []=>True
  | [v]=>Value.oneCell' v=true
  | v::l=>Value.oneCell' v=true/\ALO l
def SV.pY:SV->Option (List Da)
 | .v (.a x)=>some [x]
 | .v (.agg l)=>some l
 | .eO _=>none
def mapOf (P:Program)(l:List (Nat×TypeId))(x:Operand):Option (TypeId×TypeId):=match x with
 | .tmp t=>match l.find? λp=>Nat.beq p.1 t with
  | some p=>match P.underlying p.2 with
   | some (.map k v)=>some (k,v)
   | _=>none
  | none=>none
 | _=>none
def zV (c:Cx)(dst:Option Nat)(x:Operand)(ty:TypeId)(s:S)(K:S->Prop):Prop:=match dst,s.op x,mapOf c.P c.TE x with
 | some d,some u,some (A,C)=>AJ c.P (Instr.next (u.den s.vl) false ty) s.Z (λv Z1=>(v=(.tuple #[(.bool false)])/\K ((s.hp Z1).put (some d) (.eO [.a (.bl false)]))) \/
  (match s.ok with
   | true=>ex1 c.P A s.vl λa vl=>ex1 c.P C vl λb vl=>v=(SV.eO [.a (.bl true),a,b]).den vl/\K (((s.hp Z1).w vl).put (some d) (.eO [.a (.bl true),a,b]))
   | false=>False))
 | _,_,_=>False
def ALP (c:Cx)(T:TypeId)(i o:Nat)(v:SV)(s:S)(K:S->Prop):Prop:=match v.pY,kE c.P T with
 | some l,some n=>match kM s.bx i with
  | some (t,cs)=>match Nat.beq (X5 l) n&&Nat.ble (o+X5 l) (X5 cs) with
   | true=>ALN (K ⟨s.env,Wh s.bx i o l,s.vl,s.Z⟩) (Uz l)
   | false=>False
  | none=>False
 | _,_=>False
def zW (c:Cx)(ops:Array Oper)(i:Nat)(s:S)(K:S->Prop):Prop:=match ops[i]? with
 | none=>False
 | some o=>match KO o.dst c.n with
  | false=>False
  | true=>X4 ops o.guard s λb s=>match b with
   | false=>K (s.put o.dst (.at .un))
   | true=>match o.op with
    | .load T x=>ldV c.P T x s λ_ v s=>K (s.put o.dst v)
    | .mapUpdate T m k v=>match o.dst,s.op m,s.op k,s.op v with
     | none,some m,some k,some v=>AJ c.P (Instr.mapUpdate T (m.den s.vl) (k.den s.vl) (v.den s.vl)) s.Z (λ_ Z1=>K (s.hp Z1))
     | _,_,_,_=>False
    | .insert T m k v=>match o.dst,s.op m,s.op k,s.op v with
     | none,some m,some k,some v=>AJ c.P (Instr.mapUpdate T (m.den s.vl) (k.den s.vl) (v.den s.vl)) s.Z (λ_ Z1=>K (s.hp Z1))
     | _,_,_,_=>False
    | .next x false=>zV c o.dst x o.type s K
    | .entry x=>match s.op x,mapOf c.P c.TE x with
     | some u,some (A,C)=>AJ c.P (Instr.entry (u.den s.vl)) s.Z (λv Z1=>J4 (zR c.P A C) o.dst (s.hp Z1) s.Z v kp0 K)
     | _,_=>False
    | .panic x=>match s.op x with
     | some (.v (.a (.raw (.iface T u))))=>c.R (.panicked [{ v:=.iface T u,recovered:=false }]) s.Z
     | _=>False
    | .store T x y=>match o.dst,zK (s.op x),s.op y with
     | none,some (.bx i b),some v=>ALP c T i b v s K
     | _,_,_=>vW c.topV o.dst (.store T x y) o.type s kp0 K
    | op=>match zU c.P op,anyM c.P op o.type s with
     | true,_=>vW c.topV o.dst op o.type s kp0 K
     | false,some m=>ALM c.P o.type m s λv s=>K (s.put o.dst v)
     | false,none=>yv c.P c.wr op s λv s=>K (s.put o.dst v)
def AFE (c:Cx)(ops:Array Oper):List Nat->S->(S->Prop)->Prop
 | [],s,K=>K s
 | i::is,s,K=>zW c ops i s λs=>AFE c ops is s K
section
variable {g:Gl}{ops:Array Oper}{i:Nat}{J:Env}{s:S}{K:S->Prop}{c:Cx}
theorem tB {s A:S}{K:Env->Bx->Hp->Prop}(h:s.Ls A)(C:AP g ops i (A.e J) A.b A.Z K):AP g ops i (s.e J) s.b s.Z K:=by
 rw[<-h.e J,<-h.b,<-h.Z];exact C
theorem AP4 {s:S}{o:Oper}{K:SV->S->Prop}{G:Env->Bx->Hp->Prop}(ho:ops[i]?=some o)(hw:Aa ops (s.e J) o.guard=true)(hd:KO o.dst g.n=true)(h:YP g.P o.op o.type s K)(hk:∀v A,s.Ls A->K v A->G ((A.put o.dst v).e J) A.b A.Z):
  AP g ops i (s.e J) s.b s.Z G:=by
 obtain⟨v,A,C,h2,h3⟩:=h;have:=hk v A C h3;rw[S.Lp,C.e J,C.b,C.Z]at this;exact AP.y (FI ho) hw hd (h2 J _) this
theorem Yd.up {P:Program}{e:Env}{bx:Bx}{Z:Hp}{b:Nat}{op:Op}{ty:TypeId}{v:Value}(h:Yd P e bx (λx=>if x=b then Z x else none) op ty v):Yd P e bx Z op ty v:=λo C ht w G hb=>h o C ht w (λk u A=>by
 simp only at A;split at A
 .exact G k u A
 .cases A) hb
theorem AP.mono {e:Env}{bx:Bx}{Z:Hp}{K A:Env->Bx->Hp->Prop}(h:AP g ops i e bx Z K)(hk:∀e bx Z,K e bx Z->A e bx Z):AP g ops i e bx Z A:=λw0 F a w st=>wpOpIn_mono (λa' w' ⟨e',G,Z',C,h'⟩=>⟨e',G,Z',C,hk _ _ _ h'⟩) (h w0 F a w st)
theorem AP5 {dst:Option Nat}{op:Op}{ty:TypeId}{gd:Option (Nat×Bool)}(A:c.Ok g)(hs:sig ops i=some (dst,op,ty,gd))(hw:Aa ops (s.e J) gd=true)(G:KO dst g.n=true)(h:vW c.topV dst op ty s kp0 K):AP g ops i (s.e J) s.b s.Z (tA J K):=by
 have:=Xz (c:=c.topV) (kq:=λ_ _=>True) (J:=J) A.P A.R A.E (λ_ _ F h=>⟨h,trivial⟩) (λ_ _ _=>trivial) hs hw G h;intro w0 F a w st;refine wpOpIn_mono ?_ (this w0 F a w st)
 rintro a' w' ⟨e',JS,Z',C,s',rfl,rfl,rfl,_,_,hk⟩
 exact⟨_,_,_,C,s',rfl,rfl,rfl,hk⟩
theorem kR {dst:Option Nat}{x:Operand}{ty:TypeId}{gd:Option (Nat×Bool)}(hc:c.Ok g)(hs:sig ops i=some (dst,.next x false,ty,gd))(hw:Aa ops (s.e J) gd=true)(hd:KO dst g.n=true)(h:zV c dst x ty s K):AP g ops i (s.e J) s.b s.Z (tA J K):=by
 unfold zV at h;split at h
 .rename_i d u tk tv hu hm;rw[hc.P]at h;refine AP.Xl hs hw hd (Instr.next (u.den s.vl) false ty) (λo ho ht=>by simp only[execOp,ho,ht];rw[ev hu]) (h.mono λv Z1 A=>?_);rcases A with ⟨rfl,C⟩|A
  .exact⟨_,(S.Lp (s:=s.hp Z1) (x:=.eO [.a (.bl false)])).symm,(S.Lq (s:=s.hp Z1) (x:=.eO [.a (.bl false)])).symm,(S.IC (s:=s.hp Z1) (x:=.eO [.a (.bl false)])).symm,C⟩
  .split at A
   .rename_i DZ;obtain⟨a,w1,h1,A⟩:=Gy A;obtain⟨b,w2,h2,A⟩:=Gy A;obtain⟨hv,C⟩:=A;have G:=S.Xq (s:=s.hp Z1) DZ (h1.trans h2).le;refine⟨_,?_,?_,?_,C⟩
    .rw[S.Lp,G.e J,hv];rfl
    .rw[S.Lq,G.b];rfl
    .rw[S.IC];rfl
   .cases A
 .cases h
theorem kS {vl:Vl}{i o:Nat}{l:List Da}:∀{bx:List IB} {t:TypeId} {cs:List Da},kM bx i=some (t,cs)->∃j,(HR vl bx)[j]?=some (nth 0 vl.δ i,.cells (Bt vl cs).toArray t (0,0))/\HR vl (Wh bx i o l)=(HR vl bx).set j (nth 0 vl.δ i,.cells (Bt vl (pQ cs o l)).toArray t (0,0))
 | (k,u,ds)::r,t,cs,h=>by
  simp only[kM]at h;cases A:Nat.beq k i with
  | true=>
   rw[A]at h;simp only[ApB,Ami,AoZ]at h;obtain⟨rfl,rfl⟩:=h;have:=Anb A;subst this;exact⟨0,rfl,by simp only[Wh,A,ApB,HR,List.set_cons_zero]⟩
  | false=>
   rw[A]at h;simp only[ApS]at h;obtain⟨j,C,G⟩:=kS (vl:=vl) (o:=o) (l:=l) h;exact⟨j+1,by simpa only[HR,AnV] using C,by simp only[Wh,A,ApS,HR,ApO,G]⟩
theorem pZ {F:Prop}{l:List Value}(h:ALN F l):F/\∀v∈l,Value.oneCell' v=true:=by
 have G:∀{l:List Value},ALN.ALO l->∀v∈l,Value.oneCell' v=true:=fun {l}=>by
  induction l with
  | nil=>intro _ v A;cases A
  | cons a l ih=>
   intro h v A;cases l with
   | nil=>simp at A;subst A;exact h
   | cons b l=>
    rcases Aml.1 A with rfl|A
    .exact h.1
    .exact ih h.2 v A
 match l,h with
 | [],h=>exact⟨h,λv A=>by cases A⟩
 | [v],h=>exact⟨h.2,λu C=>by simp at C;subst C;exact h.1⟩
 | a::b::l,h=>exact⟨h.2,G h.1⟩
theorem X6 {vl:Vl}:∀{l:List Da},(∀v∈Uz l,Value.oneCell' v=true)->∀u∈Bt vl l,Value.oneCell' u=true
 | [],_,u,A=>by cases A
 | x::l,h,u,A=>by
  have tl:∀v∈Uz l,Value.oneCell' v=true:=λv C=>h v (by cases x<;>first|exact C|exact Amk _ C);rcases Aml.1 A with rfl|A
  .cases x<;>try rfl
   case bs i n=>cases n<;>rfl
   case raw v=>exact h v (Amu ..)
   case un=>exact h undef (Amu ..)
  .exact X6 tl u A
theorem pd {vl:Vl}{v:SV}{l:List Da}(h:v.pY=some l)(A:∀u∈Bt vl l,Value.oneCell' u=true):(v.den vl).cells=(Bt vl l).toArray:=by
 unfold SV.pY at h;split at h
 .rename_i x;cases h;have:=A (x.den vl) (Amu ..);simp only[SV.den,Jo.den,Bt];cases C:x.den vl<;>first|rfl|(rw[C]at this;cases this)
 .cases h;rfl
 .cases h
theorem pf {T ty:TypeId}{x y:Operand}{gd:Option (Nat×Bool)}{k b:Nat}{v:SV}(hc:c.Ok g)(hs:sig ops i=some (none,.store T x y,ty,gd))(hw:Aa ops (s.e J) gd=true)(hx:zK (s.op x)=some (.bx k b))(hy:s.op y=some v)(h:ALP c T k b v s K):AP g ops i (s.e J) s.b s.Z (tA J K):=by
 unfold ALP at h;split at h
 .rename_i l n hl hz;split at h
  .rename_i t cs hg;split at h
   .rename_i A;simp only[Amn,XK]at A;obtain⟨hk,ho⟩:=pZ h;have G:=X6 (vl:=s.vl) ho;have C:=pd (vl:=s.vl) hl G;obtain⟨u,e1,e2⟩:=HT hx;obtain⟨j,h1,h2⟩:=kS (vl:=s.vl) (o:=b) (l:=l) hg;rw[hc.P]at hz;refine AP.AKl (b:=nth 0 s.vl.δ k) (o:=b) (c:=(Bt s.vl cs).toArray) (c':=(Bt s.vl (pQ cs b l)).toArray) (t:=t) (j:=j) hs hw (Ec hz) (by rw[ev e1,e2];rfl) (ev hy) h1 ?_ ?_ ?_ ?_ ?_
    .rw[C];simp[FJ];exact Anb A.1
    .have:=Anb A.1;have h3:=Anj A.2;exact Nat.ble_eq_true_of_le (by simp[FJ];omega)
    .rw[C];exact AnJ.2 λu hu=>G u (by simpa using hu)
    .rw[C,Xv]
    .exact⟨⟨s.env,Wh s.bx k b l,s.vl,s.Z⟩,rfl,h2.symm,rfl,hk⟩
   .cases h
  .cases h
 .cases h
theorem kT (hc:c.Ok g)(h:zW c ops i s K):AP g ops i (s.e J) s.b s.Z (tA J K):=by
 unfold zW at h;split at h
 .cases h
 .rename_i o C;split at h
  .cases h
  .rename_i hd;rw[hc.n]at hd;obtain⟨b,s1,h1,G,h⟩:=Mx h;have G:=G J;rw[<-h1.e J]at G;refine tB h1 ?_;cases b with
   | false=>exact AP.no (FI C) G hd ⟨_,(S.Lp (x:=.at .un)).symm,S.Lq.symm,S.IC.symm,h⟩
   | true=>
    simp only at h;split at h
    .rename_i T x KS;obtain⟨m,v,s2,h2,hk,hy⟩:=et (ty:=o.type) h;have A:=FI C;rw[KS]at A;refine AP.y (v:=v.den s2.vl) A G hd ?_ ⟨s2.put o.dst v,by rw[S.Lp,h2.e J],by rw[S.Lq,h2.b],by rw[S.IC,h2.Z],hk⟩;have hy:=hy J;rw[hc.P]at hy;cases m with
     | none=>exact hy _
     | some b=>exact Yd.up hy
    .rename_i T m k v KS;split at h
     .rename_i um uk uv SO hm hk hv;have A:=FI C;rw[KS,SO]at A;rw[hc.P]at h;exact AP.AEv A G rfl _ (λo C ht=>by simp only[execOp,C];rw[ev hm,ev hk,ev hv]) (h.mono λ_ Z1 hr=>⟨s1.hp Z1,rfl,rfl,rfl,hr⟩)
     .cases h
    .rename_i T m k v KS;split at h
     .rename_i um uk uv SO hm hk hv;have A:=FI C;rw[KS,SO]at A;rw[hc.P]at h;exact AP.AEv A G rfl _ (λo C ht=>by simp only[execOp,C];rw[ev hm,ev hk,ev hv]) (h.mono λ_ Z1 hr=>⟨s1.hp Z1,rfl,rfl,rfl,hr⟩)
     .cases h
    .have KS:=‹o.op=Op.next _ false›
     have A:=FI C;rw[KS]at A;exact kR hc A G hd h
    .have KS:=‹o.op=Op.entry _›;have A:=FI C;rw[KS]at A;split at h
     .rename_i u tk tv hu hm;rw[hc.P]at h;have:=AP.Xl (K:=St' J s1 (λ_ _=>True) K) A G hd (Instr.entry (u.den s1.vl)) (λo C ht=>by simp only[execOp,C];rw[ev hu]) (h.mono λv Z1 hr=>Ax (kq:=λ_ _=>True) vV (λ_ _ F h=>⟨h,trivial⟩) hr J);exact this.mono λe bx Z ⟨s',e1,e2,e3,_,_,hk⟩=>⟨s',e1,e2,e3,hk⟩
     .cases h
    .have KS:=‹o.op=Op.panic _›;split at h
     .rename_i T u hx;have A:=FI C;rw[KS]at A;rw[hc.R]at h;exact AP.panic A G (by rw[ev hx];rfl) hc.Jz hc.ds h
     .cases h
    .have KS:=‹o.op=Op.store _ _ _›;have A:=FI C;rw[KS]at A;split at h
     .rename_i i' b v SO hx hy;rw[SO]at A;exact pf hc A G hx hy h
     .exact AP5 hc A G hd h
    .split at h
     .exact AP5 hc (FI C) G hd h
     .rename_i m _ hm;rw[hc.P]at h hm;obtain⟨v,s2,h2,hy,hk⟩:=X0 hm h;exact AP.y (v:=v.den s2.vl) (FI C) G hd (hy J) ⟨s2.put o.dst v,by rw[S.Lp,h2.e J],by rw[S.Lq,h2.b],by rw[S.IC,h2.Z],hk⟩
     .rw[hc.P]at h;exact AP4 C G hd (kN h) λv s' Rp hk=>⟨s'.put o.dst v,rfl,S.Lq.symm,S.IC.symm,hk⟩
theorem SS (A:c.Ok g):∀{is:List Nat} {s:S},AFE c ops is s K->Seq g ops is (s.e J) s.b s.Z (tA J K)
 | [],s,h=>⟨s,rfl,rfl,rfl,h⟩
 | i::is,s,h=>(kT A h).mono λe bx Z ⟨s',C,G,h3,h4⟩=>by subst C G h3;exact SS A h4
theorem X7 {K A:Env->Bx->Hp->Prop}(C:∀e bx Z,K e bx Z->A e bx Z):∀{is:List Nat} {e:Env} {bx:Bx} {Z:Hp},Seq g ops is e bx Z K->Seq g ops is e bx Z A
 | [],_,_,_,h=>C _ _ _ h
 | i::is,e,bx,Z,h=>AP.mono h λ_ _ _ h=>X7 C h
theorem My {K K':Env->Bx->Hp->Prop}(A:∀e bx Z,K e bx Z->K' e bx Z):∀{p:Ord} {q:Mj} {e:Env} {bx:Bx} {Z:Hp},N7 g ops p q e bx Z K->N7 g ops p q e bx Z K'
 | .done,_,_,_,_,h=>A _ _ _ h
 | .yes i r,q,e,bx,Z,⟨own,o,v,C,G,h3,h4,h5⟩=>⟨own,o,v,C,G,h3,h4,My A h5⟩
 | .alt i r t,q,e,bx,Z,⟨C,G⟩=>⟨AP.mono C λ_ _ _ ⟨h3,h4⟩=>⟨h3,My A h4⟩,My A G⟩
 | .no,_,_,_,_,_=>trivial
def X8:Ord->List Nat
 | .done=>[]
 | .yes _ r=>X8 r
 | .alt i r _=>i::X8 r
 | .no=>[]
def AP6 (ops:Array Oper)(i:Nat):Nat->Nat->Option (List Nat)
 | 0,_=>none
 | f+1,t=>match Ln ops t i with
  | true=>some [t]
  | false=>(List.range t).findSome? λu=>match Nat.blt i u&&Ln ops t u with
   | true=>match AP6 ops i f u with
    | some p=>some (t::p)
    | none=>none
   | false=>none
def waits (ops:Array Oper)(i:Nat):List Nat->List (List Nat)
 | []=>[]
 | t::l=>match AP6 ops i 40 t with
  | some p=>p::waits ops i l
  | none=>waits ops i l
def kpL (L:Mj):KP:=λZ0 Z1 F=>match L with
 | none=>Ext Z0 Z1/\F
 | some []=>F
 | some (x::l)=>Kp ((x::l).map Prod.fst) Z0 Z1/\F
def Ix (c:Cx)(ops:Array Oper):Ord->Mj->S->(S->Prop)->Prop
 | .done,_,s,K=>K s
 | .yes i r,L,s,K=>match ops[i]? with
  | none=>False
  | some o=>match KO o.dst c.n&&L.ok i with
   | false=>False
   | true=>X4 ops o.guard s λb s=>match b with
    | false=>Ix c ops r L (s.put o.dst (.at .un)) K
    | true=>match o.op with
     | .load T x=>ldV c.P T x s λm v s=>match m,L with
      | none,_=>Ix c ops r L (s.put o.dst v) K
      | some _,none=>Ix c ops r L (s.put o.dst v) K
      | some b,some l=>match (SL (some l) (some (b,waits ops i (X8 r)))).ok i&&Xk ops i (some (b,waits ops i (X8 r))) with
       | true=>Ix c ops r (SL (some l) (some (b,waits ops i (X8 r)))) (s.put o.dst v) K
       | false=>False
     | op=>match zU c.P op,anyM c.P op o.type s,L with
      | true,_,_=>False
      | false,some m,none=>ALM c.P o.type m s λv s=>Ix c ops r none (s.put o.dst v) K
      | false,some _,some _=>False
      | false,none,L=>yv c.P c.wr op s λv s=>Ix c ops r L (s.put o.dst v) K
 | .alt i r t,L,s,K=>
  match t with
  | .no=>kU c ops i L s λs=>Ix c ops r (Ir L i) s K
  | t=>(kU c ops i L s λs=>Ix c ops r (Ir L i) s K)/\Ix c ops t L s K
 | .no,_,_,_=>True
where
 kU (c:Cx) (ops:Array Oper) (i:Nat) (L:Mj) (s:S) (K:S->Prop):Prop:=match ops[i]? with
  | none=>False
  | some o=>match KO o.dst c.n with
   | false=>False
   | true=>X4 ops o.guard s λb s=>match b with
    | false=>K (s.put o.dst (.at .un))
    | true=>vW c.topV o.dst o.op o.type s (kpL (Ir L i)) K
def kqL (q:Mj)(Z Z':Hp):Prop:=match q with
 | none=>∀b o,Z b=some o->Z' b=some o
 | some L=>∀x∈L,∀o,Z x.1=some o->Z' x.1=some o
theorem ALQ {q:Mj}{bx A:Bx}{Z Z':Hp}(h:kqL q Z Z')(hb:∀p∈bx,p∈A):N5 q bx Z A Z':=⟨hb,h⟩
theorem va {L:Mj}{Z0 Z1:Hp}{F:Prop}(h:kpL L Z0 Z1 F):F/\kqL L Z0 Z1:=by
 unfold kpL at h;split at h
 .exact⟨h.2,h.1⟩
 .exact⟨h,λx C=>by cases C⟩
 .exact⟨h.2,λy G o A=>h.1 y.1 (AnA.2 ⟨y,G,rfl⟩) o A⟩
theorem AFF {L:Mj}{Z0 Z1:Hp}(h:Ext Z0 Z1):kqL L Z0 Z1:=by
 cases L with
 | none=>exact h
 | some l=>exact λx _ o A=>h _ _ A
theorem kV {L:Mj}(hc:c.Ok g)(h:Ix.kU c ops i L s K):AP g ops i (s.e J) s.b s.Z λC A Z'=>N5 (Ir L i) s.b s.Z A Z'/\tA J K C A Z':=by
 unfold Ix.kU at h;split at h
 .cases h
 .rename_i o ho;split at h
  .cases h
  .rename_i hd;rw[hc.n]at hd;obtain⟨b,s1,h1,G,h⟩:=Mx h;have G:=G J;rw[<-h1.e J]at G;have key:AP g ops i (s1.e J) s1.b s1.Z λC A Z'=>N5 (Ir L i) s1.b s1.Z A Z'/\tA J K C A Z':=by
    cases b with
    | false=>exact AP.no (FI ho) G hd ⟨N5.refl _ _ _,_,(S.Lp (x:=.at .un)).symm,S.Lq.symm,S.IC.symm,h⟩
    | true=>
     have:=Xz (c:=c.topV) (kq:=kqL (Ir L i)) (J:=J) hc.P hc.R hc.E (λ_ _ F h=>va h) (λ_ _ h=>AFF h) (FI ho) G hd h;exact this.mono λC A Z' ⟨s',e1,e2,e3,hq,hb,hk⟩=>⟨ALQ hq hb,s',e1,e2,e3,hk⟩
   have:=tB (K:=λC A Z'=>N5 (Ir L i) s1.b s1.Z A Z'/\tA J K C A Z') h1 key;rw[h1.b,h1.Z]at this;exact this
theorem FK (hc:c.Ok g):∀{p:Ord} {q:Mj} {s:S},Ix c ops p q s K->N7 g ops p q (s.e J) s.b s.Z (tA J K)
 | .done,q,s,h=>⟨s,rfl,rfl,rfl,h⟩
 | .yes i r,q,s,h=>by
  simp only[Ix]at h;split at h
  .cases h
  .rename_i o ho;split at h
   .cases h
   .rename_i hd;simp only[Amn]at hd;obtain⟨hd,hq⟩:=hd;rw[hc.n]at hd;obtain⟨b,s1,h1,hw,h⟩:=Mx h;have hw:=hw J;rw[<-h1.e J]at hw;rw[<-h1.e J,<-h1.b,<-h1.Z];have go:∀{v:SV} {s2:S} {own:Option (Nat×List (List Nat))},s1.Ls s2->((SL q own).ok i&&Xk ops i own)=true->Yd g.P (s1.e J) s1.b (Uk q own s1.Z) o.op o.type (v.den s2.vl)->Aa ops (s1.e J) o.guard=true->Ix c ops r (SL q own) (s2.put o.dst v) K->N7 g ops (.yes i r) q (s1.e J) s1.b s1.Z (tA J K):=fun {v s2 own} C DZ G hw A=>by
     have:=FK hc A;rw[S.Lp,S.Lq,S.IC,C.e J,C.b,C.Z]at this;exact⟨own,o,v.den s2.vl,DZ,ho,.inl ⟨hw,G⟩,KO.lt hd,this⟩
    cases b with
    | false=>
     have:=FK hc h;rw[S.Lp,S.Lq,S.IC]at this;exact⟨none,o,undef,ok_none hq,ho,.inr ⟨hw,rfl⟩,KO.lt hd,by rw[H8];exact this⟩
    | true=>
     simp only at h;split at h
     .rename_i T x KS;obtain⟨m,v,s2,C,A,G⟩:=et (ty:=o.type) h;have G:=G J;rw[hc.P,<-KS]at G;split at A
      .exact go (own:=none) C (ok_none hq) (G _) hw (by rw[H8];exact A)
      .exact go (own:=none) C (ok_none hq) (Yd.up G) hw (by rw[H8];exact A)
      .rename_i b l;split at A
       .rename_i DZ;exact go C DZ G hw A
       .cases A
     .split at h
      .cases h
      .have hm:=‹anyM c.P o.op o.type s1=some _›;rw[hc.P]at h hm;obtain⟨v,s2,C,G,A⟩:=X0 hm h;exact go (own:=none) C (ok_none hq) (G J) hw A
      .cases h
      .rw[hc.P]at h;obtain⟨v,s2,C,G,A⟩:=kN (ty:=o.type) h;exact go (own:=none) C (ok_none hq) (G J _) hw (by rw[H8];exact A)
 | .alt i r t,q,s,h=>by
  have key:∀{t:Ord},(Ix.kU c ops i q s λs=>Ix c ops r (Ir q i) s K)->N7 g ops t q (s.e J) s.b s.Z (tA J K)->N7 g ops (.alt i r t) q (s.e J) s.b s.Z (tA J K):=fun {t} h1 C=>
   ⟨(kV hc h1).mono λe bx Z ⟨A,s',e1,e2,e3,h3⟩=>⟨A,by subst e1 e2 e3;exact FK hc h3⟩,C⟩
  cases t with
  | no=>exact key h trivial
  | done=>exact key h.1 (FK hc h.2)
  | yes j u=>exact key h.1 (FK hc h.2)
  | alt j u w=>exact key h.1 (FK hc h.2)
 | .no,q,s,h=>trivial
def tC (P:Program)(ops:Array Oper)(m:Nat):Nat->Array Bool->Ord
 | 0,_=>.no
 | f+1,A=>match (List.range m).all λi=>A.getD i false with
  | true=>.done
  | false=>match (Region.ready .any ops A).find? λj=>Nat.blt j m&&match ops[j]? with | some o=>!zU P o.op | none=>false with
   | some j=>.yes j (tC P ops m f (A.setIfInBounds j true))
   | none=>(Region.ready .any ops A).foldr (λj C=>.alt j (tC P ops m f (A.setIfInBounds j true)) C) .no
def ALR (c:Cx)(ops:Array Oper)(draw:Bool)(m:Nat)(q:Mj)(s:S)(K:S->Prop):Prop:=match draw with
 | false=>AFE c ops (List.range ops.size) s K
 | true=>match gT ops m (tC c.P ops m (ops.size+1) (Array.replicate ops.size false)) (List.range' m (ops.size-m)) with
  | true=>Ix c ops (tC c.P ops m (ops.size+1) (Array.replicate ops.size false)) q s λs=>AFE c ops (List.range' m (ops.size-m)) s K
  | false=>False
theorem pg {k:List Item}{id m:Nat}{draw:Bool}{q:Mj}(hc:c.Ok g)(hm:g.P.follows .mixedOrders=true)(h:ALR c ops draw m q s K)(hk:∀s,K s->At g k (s.e J) s.b s.Z):At g (.code (.region id ops draw)::k) (s.e J) s.b s.Z:=by
 have fin:∀e bx Z,tA J K e bx Z->At g k e bx Z:=λe bx Z ⟨s',A,C,G,h⟩=>by subst A C G;exact hk s' h
 cases draw with
 | false=>
  refine At.region rfl rfl ?_;have:Seq g ops (List.range ops.size) (s.e J) s.b s.Z (tA J K):=SS hc h;exact X7 fin this
 | true=>
  simp only[ALR]at h;split at h
  .rename_i hp;refine At.AP0 hm rfl hp (q:=q) ?_;have:=FK (J:=J) hc h;refine My (λe bx Z ⟨s',A,C,G,h⟩=>?_) this;subst A C G;exact X7 fin (SS hc h)
  .cases h
end
end Tw
end
section
namespace Tw
open Go
variable [HL]
def node (body:Code):List Bool->Code
 | []=>body
 | false::p=>cl (node body p)
 | true::p=>cr (node body p)
inductive It where
 | c (p:List Bool)
 | Xr (i:Nat)
 | lp (p:List Bool)
 | sc (p:List Bool)
def It.den (body:Code):It->Item
 | .c p=>.code (node body p)
 | .Xr i=>.inBlock i
 | .lp p=>.inLoop (node body p)
 | .sc p=>.inScope (node body p)
def FL (body:Code):List It->List Item
 | []=>[]
 | x::l=>x.den body::FL body l
def U0:List Bool->List Bool->Bool
 | [],[]=>true
 | a::p,b::q=>(bif a then b else !b)&&U0 p q
 | _,_=>false
theorem fA:∀{p q:List Bool},U0 p q=true->p=q
 | [],[],_=>rfl
 | a::p,b::q,h=>by
  simp only[U0,Amn]at h;rw[fA h.2];cases a<;>cases b<;>simp at h<;>rfl
 | [],_::_,h=>by cases h
 | _::_,[],h=>by cases h
def It.eq:It->It->Bool
 | .c p,.c q=>U0 p q
 | .Xr i,.Xr j=>Nat.beq i j
 | .lp p,.lp q=>U0 p q
 | .sc p,.sc q=>U0 p q
 | _,_=>false
def tD:List It->List It->Bool
 | [],[]=>true
 | x::l,y::m=>x.eq y&&tD l m
 | _,_=>false
theorem kW:∀{l m:List It},tD l m=true->l=m
 | [],[],_=>rfl
 | x::l,y::m,h=>by
  simp only[tD,Amn]at h;rw[kW h.2];have:x=y:=by
   cases x<;>cases y<;>simp only[It.eq]at h<;>first
    | (rw[fA h.1])
    | (rw[Anb h.1])
    | (exact absurd h.1 (by simp))
  rw[this]
 | [],_::_,h=>by cases h
 | _::_,[],h=>by cases h
structure Cut where
 todo:List It
 f:S->Prop
def Cut.Ok (g:Gl)(body:Code)(k:Cut):Prop:=∀s J,k.f s->At g (FL body k.todo) (s.e J) s.b s.Z
def AFG:List Cut->List It->Option (S->Prop)
 | [],_=>none
 | k::l,t=>match tD k.todo t with
  | true=>some k.f
  | false=>AFG l t
theorem tE {g:Gl}{body:Code}:∀{l:List Cut} {t:List It} {f:S->Prop},(∀k∈l,k.Ok g body)->AFG l t=some f->∀s J,f s->At g (FL body t) (s.e J) s.b s.Z
 | k::l,t,f,A,h=>by
  simp only[AFG]at h;split at h
  .rename_i C;cases h;rw[<-kW C];exact A k (Amu ..)
  .exact tE (λk G=>A k (Amk _ G)) h
def Vx (i:Nat):List It->Option (List It)
 | []=>none
 | .Xr j::r=>match Nat.beq i j with
  | true=>some r
  | false=>Vx i r
 | _::r=>Vx i r
def gb (l:Nat):Code->List Bool->Option (List It)
 | .seq a b,p=>match gb l a (false::p) with
  | some r=>some (r++[.c (true::p)])
  | none=>gb l b (true::p)
 | .label j,_=>match Nat.beq j l with
  | true=>some []
  | false=>none
 | _,_=>none
def Vy (body:Code)(l:Nat):List It->Option (List It)
 | []=>none
 | .sc p::r=>match gb l (node body p) p with
  | some m=>some (m++(.sc p::r))
  | none=>Vy body l r
 | _::r=>Vy body l r
structure Fx extends Cx where
 body:Code
 res:List ResultVar
 reg:List (Nat×Nat×Bool)
def zX:List (Nat×Nat×Bool)->Nat->Nat->Nat×Mj
 | [],_,m=>(m,some [])
 | (i,m,b)::l,id,z=>match Nat.beq i id with
  | true=>(m,bif b then none else some [])
  | false=>zX l id z
def ph (c:Fx)(s:S):List ResultVar->Option (List SV)
 | []=>some []
 | .tmp t::r=>match gV s.env t,ph c s r with
  | some v,some l=>some (v::l)
  | _,_=>none
 | .cell p T::r=>match zK (gV s.env p),ph c s r with
  | some (.bx i 0),some l=>match kM s.bx i,kF c.P T with
   | some (_,cs),some true=>match kE c.P T with
    | some n=>match decide (cs.length=n) with
     | true=>some (.v (.agg cs)::l)
     | false=>none
    | none=>none
   | some (_,x::_),some false=>some (.at x::l)
   | _,_=>none
  | _,_=>none
def gQ (c:Fx)(s:S):Prop:=match ph c s c.res with
 | some l=>c.R (.returned (Xm (ER s.vl l))) s.Z
 | none=>False
def E8 (c:Fx)(cuts:List Cut):Nat->Bool->List It->S->Prop
 | 0,_,_,_=>False
 | f+1,first,todo,s=>match (bif first then none else AFG cuts todo) with
  | some k=>k s
  | none=>match todo with
   | []=>gQ c s
   | .Xr _::r=>E8 c cuts f false r s
   | .lp p::r=>E8 c cuts f false (.c p::.lp p::r) s
   | .sc _::r=>E8 c cuts f false r s
   | .c p::r=>match node c.body p with
    | .skip=>E8 c cuts f false r s
    | .seq _ _=>E8 c cuts f false (.c (false::p)::.c (true::p)::r) s
    | .block i _=>E8 c cuts f false (.c (false::p)::.Xr i::r) s
    | .loop _=>E8 c cuts f false (.c (false::p)::.lp (false::p)::r) s
    | .exit i=>match Vx i r with
     | some r=>E8 c cuts f false r s
     | none=>False
    | .scope _=>E8 c cuts f false (.c (false::p)::.sc (false::p)::r) s
    | .label _=>E8 c cuts f false r s
    | .goto l=>match Vy c.body l r with
     | some r=>E8 c cuts f false r s
     | none=>False
    | .cond x _ _=>s.onV (s.op x) λt s=>E8 c cuts f false (.c ((!t)::p)::r) s
    | .ret=>gQ c s
    | .region id ops draw=>ALR c.toCx ops draw (zX c.reg id ops.size).1 (zX c.reg id ops.size).2 s λs=>E8 c cuts f false r s
    | _=>False
structure Fx.Ok (c:Fx)(g:Gl)(fn:Func):Prop where
 cx:c.toCx.Ok g
 mixed:g.P.follows .mixedOrders=true
 fnc:g.P.funcs[g.f]?=some fn
 res:fn.results=c.res.toArray
 Jz:g.Jz=none
 ds:g.ds=[]
section
variable {g:Gl}{c:Fx}{fn:Func}{cuts:List Cut}{J:Env}
theorem J5 (A:c.P=g.P){s:S}:∀{rs:List ResultVar} {l:List SV},ph c s rs=some l->Kb g.P (s.e J) s.b s.Z rs (ER s.vl l)
 | [],l,h=>by simp only[ph,Ami]at h;subst h;rfl
 | .tmp t::r,l,h=>by
  simp only[ph]at h;split at h
  .rename_i v l' h1 G;cases h;refine⟨_,?_,J5 A G⟩;rw[show s.e J t=v.den s.vl from Gx h1];rfl
  .cases h
 | .cell p T::r,l,h=>by
  simp only[ph]at h;split at h
  .rename_i i l' h1 G;obtain⟨u,e1,e2⟩:=HT h1;have hp:s.e J p=.pointer (some ⟨nth 0 s.vl.δ i,0,none⟩):=(Gx e1).trans (e2 _);split at h
   .rename_i t cs hb C;split at h
    .rename_i n hn;split at h
     .rename_i hd;have hd:=Amg hd;cases h;rw[A]at C hn;exact⟨_,_,rfl,⟨_,hp,yp (HS C) (Ec hn) (by simp[FJ];exact hd) (N8 hb)⟩,J5 A G⟩
     .cases h
    .cases h
   .rename_i t x cs hb C;cases h;rw[A]at C;exact⟨_,_,rfl,⟨_,hp,AEx (HS C) (N8 hb) rfl⟩,J5 A G⟩
   .cases h
  .cases h
theorem Lu {body:Code}{i:Nat}:∀{r r':List It},Vx i r=some r'->exitTo i (FL body r)=some (FL body r')
 | .Xr j::r,r',h=>by
  simp only[Vx]at h;split at h
  .rename_i A;cases h;have:=Anb A;subst this;simp[FL,It.den,exitTo]
  .rename_i A;have C:i≠j:=λe=>by subst e;rw[Aqb]at A;cases A
   simp only[FL,It.den,exitTo];rw[Amb (by simpa using Ann C)];exact Lu h
 | .c p::r,r',h=>by simp only[Vx]at h;simp only[FL,It.den,exitTo];exact Lu h
 | .lp p::r,r',h=>by simp only[Vx]at h;simp only[FL,It.den,exitTo];exact Lu h
 | .sc p::r,r',h=>by simp only[Vx]at h;simp only[FL,It.den,exitTo];exact Lu h
theorem X9 {body:Code}:∀{l m:List It},FL body (l++m)=FL body l++FL body m
 | [],_=>rfl
 | x::l,m=>by simp only[AnQ,FL,X9]
theorem Qz {l:Nat}:∀{x:Code} {p:List Bool},gb l x p=none->findLabel x l=none
 | .seq a b,p,h=>by
  simp only[gb]at h;split at h
  .cases h
  .rename_i A;simp only[findLabel,Qz A,Qz h]
 | .label j,p,h=>by
  simp only[gb]at h;split at h
  .cases h
  .rename_i A;have:j≠l:=λe=>by subst e;rw[Aqb]at A;cases A
   simp[findLabel,this]
 | .skip,p,h=>rfl
 | .region ..,p,h=>rfl
 | .cond ..,p,h=>rfl
 | .block ..,p,h=>rfl
 | .loop ..,p,h=>rfl
 | .rangeFunc ..,p,h=>rfl
 | .exit ..,p,h=>rfl
 | .scope ..,p,h=>rfl
 | .goto ..,p,h=>rfl
 | .ret,p,h=>rfl
 | .refuse ..,p,h=>rfl
theorem YA {l:Nat}{body:Code}:∀{x:Code} {p:List Bool} {m:List It},node body p=x->gb l x p=some m->∃A,findLabel x l=some A/\∀{k:List Item} {e:Env} {bx:Bx} {Z:Hp},At g (FL body m++k) e bx Z->At g (.code A::k) e bx Z
 | .seq a b,p,m,G,h=>by
  simp only[gb]at h;split at h
  .rename_i r C;cases h;obtain⟨A,e1,e2⟩:=YA (body:=body) (x:=a) (p:=false::p) (by simp only[node,G,cl]) C;refine⟨.seq A b,by simp only[findLabel,e1],λh=>At.seq rfl (e2 ?_)⟩;rw[X9,AnO]at h;simp only[FL,It.den,node,G,cr,AnQ,Anm]at h;exact h
  .rename_i C;obtain⟨A,e1,e2⟩:=YA (body:=body) (x:=b) (p:=true::p) (by simp only[node,G,cr]) h;exact⟨A,by simp only[findLabel,Qz C,e1],e2⟩
 | .label j,p,m,G,h=>by
  simp only[gb]at h;split at h
  .rename_i C;cases h;have:=Anb C;subst this;exact⟨.skip,by simp[findLabel],λh=>At.skip h⟩
  .cases h
theorem Lv {l:Nat}{body:Code}:∀{r r':List It},Vy body l r=some r'->∃k',gotoIn l (FL body r)=some k'/\∀{e:Env} {bx:Bx} {Z:Hp},At g (FL body r') e bx Z->At g k' e bx Z
 | .sc p::r,r',h=>by
  simp only[Vy]at h;split at h
  .rename_i m h1;cases h;obtain⟨A,C,G⟩:=YA (g:=g) rfl h1;refine⟨.code A::.inScope (node body p)::FL body r,by simp only[FL,It.den,gotoIn,C],λh=>G ?_⟩;rw[X9]at h;exact h
  .rename_i h1;obtain⟨k',C,G⟩:=Lv h;exact⟨k',by simp only[FL,It.den,gotoIn,Qz h1,C],G⟩
 | .c p::r,r',h=>by simp only[Vy]at h;simp only[FL,It.den,gotoIn];exact Lv h
 | .lp p::r,r',h=>by simp only[Vy]at h;simp only[FL,It.den,gotoIn];exact Lv h
 | .Xr p::r,r',h=>by simp only[Vy]at h;simp only[FL,It.den,gotoIn];exact Lv h
theorem BJ (C:c.Ok g fn)(G:∀k∈cuts,k.Ok g c.body):∀{f:Nat} {first:Bool} {todo:List It} {s:S},E8 c cuts f first todo s->At g (FL c.body todo) (s.e J) s.b s.Z
 | 0,_,_,_,h=>h.elim
 | f+1,first,todo,s,h=>by
  have hl:∀Z,left g.ds Z=Z:=λZ=>by rw[C.ds];rfl
  have hmk:Marks g.ds s.Z:=by rw[C.ds];trivial
  simp only[E8]at h;split at h
  .rename_i k AP9;cases first with
   | true=>cases AP9
   | false=>exact tE G AP9 s J h
  .split at h
   .unfold gQ at h;split at h
    .rename_i l Vz;rw[C.cx.R]at h;exact At.APp C.fnc C.res (by rw[hl];exact J5 C.cx.P Vz) (by rw[hl];exact h) C.Jz hmk
    .cases h
   .exact At.inBlock (BJ C G h)
   .exact At.inLoop (BJ C G h)
   .exact At.inScope (BJ C G h)
   .rename_i p r _;have e:FL c.body (.c p::r)=.code (node c.body p)::FL c.body r:=rfl;rw[e];split at h
    .rename_i A;rw[A];exact At.skip (BJ C G h)
    .rename_i a b A;refine At.seq A ?_;have:=BJ C G h;simp only[FL,It.den,node,A,cl,cr]at this;exact this
    .rename_i i a A;refine At.block A ?_;have:=BJ C G h;simp only[FL,It.den,node,A,cl]at this;exact this
    .rename_i a A;refine At.loop A ?_;have:=BJ C G h;simp only[FL,It.den,node,A,cl]at this;exact this
    .rename_i i A;split at h
     .rename_i r' hr;exact At.exit A (Lu hr) (BJ C G h)
     .cases h
    .rename_i a A;refine At.scope A ?_;have:=BJ C G h;simp only[FL,It.den,node,A,cl]at this;exact this
    .rename_i l A;rw[A];exact At.label (BJ C G h)
    .rename_i l A;split at h
     .rename_i r' hr;obtain⟨k',e1,e2⟩:=Lv (g:=g) hr;exact At.goto A e1 (e2 (BJ C G h))
     .cases h
    .rename_i x a b A;obtain⟨t,s',v,h1,h2,h3,h4,h⟩:=S.ID h;have hx:AD (s.e J) x=.bool t:=by rw[ev h3,h4]
     have:=BJ C G h;rw[h1.e J,h1.b,h1.Z]at this;cases t with
     | true=>
      refine At.AHl A hx ?_;simp only[FL,It.den,node,A,cl,Bool.not_true]at this;exact this
     | false=>
      refine At.AHm A hx ?_;simp only[FL,It.den,node,A,cr,Bool.not_false]at this;exact this
    .rename_i A;unfold gQ at h;split at h
     .rename_i l Vz;rw[C.cx.R]at h;exact At.gQ A C.fnc C.res (by rw[hl];exact J5 C.cx.P Vz) (by rw[hl];exact h) C.Jz hmk
     .cases h
    .rename_i id ops draw A;rw[A];exact pg C.cx C.mixed h λs' h'=>BJ C G h'
    .cases h
end
def S.vd (s:S):List Nat->Option (List Value)
 | []=>some []
 | t::l=>match gV s.env t,s.vd l with
  | some v,some r=>some (v.den s.vl::r)
  | _,_=>none
theorem fB {s:S}{J:Env}:∀{l:List Nat} {vs:List Value},s.vd l=some vs->Live (s.e J) (l.zip vs)
 | [],vs,h=>by simp only[S.vd,Ami]at h;subst h;trivial
 | t::l,vs,h=>by
  simp only[S.vd]at h;split at h
  .rename_i v r A C;cases h;exact⟨Gx A,fB C⟩
  .cases h
def tF (i:Nat):List IB->Option (IB×List IB)
 | []=>none
 | x::l=>match Nat.beq x.1 i with
  | true=>some (x,l)
  | false=>tF i l
def AHz:Option SV->Option Nat
 | some (.v (.a (.pt (.bx i 0))))=>some i
 | _=>none
def S.gh (s:S):List Nat->List IB->Option (List IB)
 | [],_=>some []
 | t::l,bx=>match AHz (gV s.env t) with
  | some i=>match tF i bx with
   | some (x,r)=>match s.gh l r with
    | some m=>some (x::m)
    | none=>none
   | none=>none
  | none=>none
def YB (vl:Vl):List Nat->List IB->List (Nat×Value)
 | t::l,x::r=>(t,.pointer (some ⟨nth 0 vl.δ x.1,0,none⟩))::YB vl l r
 | _,_=>[]
theorem fC {vl:Vl}{i:Nat}:∀{l r:List IB} {x:IB},tF i l=some (x,r)->x.1=i/\∀m:List IB,(HR vl m).Sublist (HR vl r)->(HR vl (x::m)).Sublist (HR vl l)
 | y::l,r,x,h=>by
  simp only[tF]at h;split at h
  .rename_i G;cases h;exact⟨Anb G,λm hm=>List.Sublist.cons_cons _ hm⟩
  .obtain⟨A,C⟩:=fC (vl:=vl) h;exact⟨A,λm hm=>List.Sublist.cons _ (C m hm)⟩
theorem kX {s:S}{J:Env}:∀{l:List Nat} {bx B:List IB},s.gh l bx=some B->(HR s.vl B).Sublist (HR s.vl bx)/\Live (s.e J) (YB s.vl l B)
 | [],bx,B,h=>by simp only[S.gh,Ami]at h;subst h;exact⟨List.nil_sublist _,trivial⟩
 | t::l,bx,B,h=>by
  simp only[S.gh]at h;split at h
  .rename_i i hi;split at h
   .rename_i x r hx;split at h
    .rename_i m hm;cases h;obtain⟨A,C⟩:=fC (vl:=s.vl) hx;obtain⟨G,h4⟩:=kX (s:=s) (J:=J) hm;refine⟨C m G,?_,h4⟩;unfold AHz at hi;split at hi
     .rename_i hg;cases hi;rw[A];exact Gx hg
     .cases hi
    .cases h
   .cases h
  .cases h
theorem Live.app {e:Env}:∀{l m:List (Nat×Value)},Live e l->Live e m->Live e (l++m)
 | [],_,_,h=>h
 | (_,_)::_,_,h,g=>⟨h.1,Live.app h.2 g⟩
theorem At.AQA {g:Gl}{k:List Item}{s:S}{J:Env}{l bl:List Nat}{vs:List Value}{B:List IB}(h:s.vd l=some vs)(hb:s.gh bl s.bx=some B)(G:∀J,At g k (N4 J (YB s.vl bl B++l.zip vs)) (HR s.vl B) s.Z):At g k (s.e J) s.b s.Z:=by
 obtain⟨A,C⟩:=kX (J:=J) hb;exact At.sub A (At.live (C.app (fB h)) (G _))
def YC:Nat->List Value->List (Nat×Value)
 | _,[]=>[]
 | k,v::l=>(k,v)::YC (k+1) l
theorem YD {e:Env}:∀{l:List Value} {k:Nat},(∀j v,l[j]?=some v->e (k+j)=v)->Live e (YC k l)
 | [],_,_=>trivial
 | v::l,k,h=>⟨h 0 v rfl,YD λj u A=>by rw[show k+1+j=k+(j+1) by omega];exact h (j+1) u (by simpa using A)⟩
theorem Spec.walk {P:Program}{f:FuncId}{fn:Func}{R:Rr}{args:Array Value}{n fuel:Nat}(c:Fx)(cuts:List Cut)(s:S)(hc:c.Ok (Gl.fn P f n R) fn)(hb:fn.body=some c.body)(G:fn.ntmps=n)(hn:Nat.ble args.size n=true)
  (hk:∀k∈cuts,k.Ok (Gl.fn P f n R) c.body) (he:KU s.vl s.env=YC 0 args.toList) (A:s.bx=[]) (h:E8 c cuts fuel true [.c []] s):Spec P f args s.Z R:=by
 subst G;refine Spec.sW hc.fnc hb (Anj hn) λe C=>?_;have hl:Live e (KU s.vl s.env):=by
  rw[he];refine YD λj v hj=>?_;rw[Anq,C];simp only[ApA];rw[<-Ano,hj];rfl
 have:=BJ (J:=e) hc hk h;have fD:s.b=[]:=by rw[S.b,A];rfl
 rw[fD]at this;exact At.live hl this
end Tw
end
section
namespace Tw
open Go
variable [HL]
inductive Dv where
 | I (k:IntKind) (x:Int)
 | B (t:Bool)
 | T (x:ByteArray)
 | L (p:Option Addr) (n c:Nat)
 | Q (p:Option Addr)
 | A (b:Nat)
 | M (x:Option Nat)
 | V (x:Value)
def Dv.den:Dv->Value
 | .I k x=>.int k x
 | .B t=>.bool t
 | .T x=>.string x
 | .L p n c=>.slice p n c
 | .Q p=>.pointer p
 | .A b=>.pointer (some ⟨b,0,none⟩)
 | .M x=>.map x
 | .V x=>x
def kY:List Dv->List Value
 | []=>[]
 | x::l=>x.den::kY l
inductive Dw where
 | o (x:Dv)
 | G (l:List Dv)
 | U (l:List Dv)
 | X (T:TypeId) (l:List Dv)
def Dw.den:Dw->Value
 | .o x=>x.den
 | .G l=>.agg (kY l).toArray
 | .U l=>.tuple (kY l).toArray
 | .X _ _=>undef
structure Nm where
 ρ:List (Option Addr)
 β:List BK
structure Nm.le (n:Nm)(v:Vl):Prop where
 ρ:∀i,i<n.ρ.length->nth none v.ρ i=nth none n.ρ i
 β:∀i,i<n.β.length->nth (.var false) v.β i=nth (.var false) n.β i
def Dv.sym:Dv->Nm->Da×Nm
 | .I k x,n=>(.int k x,n)
 | .B t,n=>(.bs (X5 n.β) false,⟨n.ρ,n.β++[.var t]⟩)
 | .T x,n=>(.str x,n)
 | .L p k c,n=>(.sl (.var (X5 n.ρ)) k c,⟨n.ρ++[p],n.β⟩)
 | .Q p,n=>(.pt (.var (X5 n.ρ)),⟨n.ρ++[p],n.β⟩)
 | .A b,n=>(.pt (.at b 0),n)
 | .M x,n=>(.mp x,n)
 | .V x,n=>(.raw x,n)
theorem Nm.AQB {n:Nm}{v:Vl}{p:Option Addr}(h:Nm.le ⟨n.ρ++[p],n.β⟩ v):n.le v/\nth none v.ρ (X5 n.ρ)=p:=by
 refine⟨⟨λi hi=>(h.ρ i (by simp only[Amv];omega)).trans (Qv hi),h.β⟩,?_⟩;rw[XK,h.ρ _ (by simp)];exact Qw
theorem Nm.AZ6 {n:Nm}{v:Vl}{p:BK}(h:Nm.le ⟨n.ρ,n.β++[p]⟩ v):n.le v/\nth (.var false) v.β (X5 n.β)=p:=by
 refine⟨⟨h.ρ,λi hi=>(h.β i (by simp only[Amv];omega)).trans (Qv hi)⟩,?_⟩;rw[XK,h.β _ (by simp)];exact Qw
theorem Dv.U1 {x:Dv}{n:Nm}{v:Vl}(h:(x.sym n).2.le v):(x.sym n).1.den v=x.den/\n.le v:=by
 cases x with
 | B t=>obtain⟨A,C⟩:=Nm.AZ6 h;exact⟨by simp only[Dv.sym,Da.den,C];rfl,A⟩
 | L p k c=>obtain⟨A,C⟩:=Nm.AQB h;exact⟨by simp only[Dv.sym,Da.den,PV.den,C];rfl,A⟩
 | Q p=>obtain⟨A,C⟩:=Nm.AQB h;exact⟨by simp only[Dv.sym,Da.den,PV.den,C];rfl,A⟩
 | _=>exact⟨rfl,h⟩
def kZ:List Dv->Nm->List Da×Nm
 | [],n=>([],n)
 | x::l,n=>match x.sym n with
  | (a,n)=>match kZ l n with
   | (r,n)=>(a::r,n)
theorem XL {v:Vl}:∀{l:List Dv} {n:Nm},(kZ l n).2.le v->Bt v (kZ l n).1=kY l/\n.le v
 | [],n,h=>⟨rfl,h⟩
 | x::l,n,h=>by
  obtain⟨A,C⟩:=XL (l:=l) (n:=(x.sym n).2) h;obtain⟨G,h4⟩:=Dv.U1 C;exact⟨by simp only[kZ,Bt,kY,G];rw[<-A],h4⟩
def atoms:List Da->List Jo
 | []=>[]
 | x::l=>.a x::atoms l
theorem fE {v:Vl}:∀l,Kf v (atoms l)=Bt v l
 | []=>rfl
 | x::l=>by simp only[atoms,Kf,Bt];rw[fE l];rfl
def Dw.sym:Dw->Nm->SV×Nm
 | .o x,n=>match x.sym n with | (a,n)=>(.v (.a a),n)
 | .G l,n=>match kZ l n with | (a,n)=>(.v (.agg a),n)
 | .U l,n=>match kZ l n with | (a,n)=>(.eO (atoms a),n)
 | .X _ _,n=>(.v (.a .un),n)
theorem Dw.U1 {x:Dw}{n:Nm}{v:Vl}(h:(x.sym n).2.le v):(x.sym n).1.den v=x.den/\n.le v:=by
 cases x with
 | o x=>exact Dv.U1 (x:=x) h
 | G l=>obtain⟨A,C⟩:=XL (l:=l) h;exact⟨by simp only[Dw.sym,SV.den,Jo.den,Dw.den];rw[<-A],C⟩
 | U l=>obtain⟨A,C⟩:=XL (l:=l) h;exact⟨by simp only[Dw.sym,SV.den,Dw.den];rw[fE,<-A],C⟩
 | X T l=>exact⟨rfl,h⟩
abbrev Bv:=Nat×TypeId×List Dv
def Wi:List (Nat×Dw)->List (Nat×Value)
 | []=>[]
 | (_,.X _ _)::l=>Wi l
 | (t,x)::l=>(t,x.den)::Wi l
def U2:List (Nat×Dw)->Nm->List (Nat×SV)×Nm
 | [],n=>([],n)
 | (_,.X _ _)::l,n=>U2 l n
 | (t,x)::l,n=>match x.sym n with
  | (a,n)=>match U2 l n with
   | (r,n)=>((t,a)::r,n)
theorem Q0 {v:Vl}:∀{l:List (Nat×Dw)} {n:Nm},(U2 l n).2.le v->KU v (U2 l n).1=Wi l/\n.le v
 | [],n,h=>⟨rfl,h⟩
 | (t,.o x)::l,n,h=>by
  obtain⟨A,C⟩:=Q0 (l:=l) (n:=((Dw.o x).sym n).2) h;obtain⟨G,h4⟩:=Dw.U1 C;exact⟨by simp only[U2,KU,Wi,G];rw[<-A],h4⟩
 | (t,.G x)::l,n,h=>by
  obtain⟨A,C⟩:=Q0 (l:=l) (n:=((Dw.G x).sym n).2) h;obtain⟨G,h4⟩:=Dw.U1 C;exact⟨by simp only[U2,KU,Wi,G];rw[<-A],h4⟩
 | (t,.U x)::l,n,h=>by
  obtain⟨A,C⟩:=Q0 (l:=l) (n:=((Dw.U x).sym n).2) h;obtain⟨G,h4⟩:=Dw.U1 C;exact⟨by simp only[U2,KU,Wi,G];rw[<-A],h4⟩
 | (_,.X T x)::l,n,h=>Q0 (l:=l) (n:=n) h
def Mz:List (Nat×Dw)->List Bv->List Bv
 | [],r=>r
 | (t,.X T l)::m,r=>Mz m ((t,T,l)::r)
 | _::m,r=>Mz m r
def ka:List Bv->Nat->Nm->List IB×Nm
 | [],_,n=>([],n)
 | (_,T,l)::m,j,n=>match kZ l n with
  | (a,n)=>match ka m (j+1) n with
   | (r,n)=>((j,T,a)::r,n)
def AFH:List Bv->Nat->List (Nat×SV)
 | [],_=>[]
 | (t,_,_)::m,j=>(t,.v (.a (.pt (.bx j 0))))::AFH m (j+1)
abbrev Bw:=Nat×TypeId×List Value
def dK:List Bv->List Bw
 | []=>[]
 | (t,T,l)::m=>(t,T,kY l)::dK m
def pj:List Bw->List Nat->List (Nat×Value)
 | (t,_,_)::m,b::δ=>(t,.pointer (some ⟨b,0,none⟩))::pj m δ
 | _,_=>[]
def bxV:List Bw->List Nat->Bx
 | (_,T,l)::m,b::δ=>(b,.cells l.toArray T (0,0))::bxV m δ
 | _,_=>[]
def PB:List Bw->(List Nat->Prop)->Prop
 | [],K=>K []
 | _::m,K=>∀b:Nat,PB m λδ=>K (b::δ)
theorem zY:∀{l:List Bw} {K:List Nat->Prop},PB l K->∀δ,δ.length=l.length->K δ
 | [],K,h,[],_=>h
 | _::m,K,h,b::δ,A=>zY (h b) δ (by simpa using A)
theorem zZ:∀{l:List Bw} {K:List Nat->Prop},(∀δ,δ.length=l.length->K δ)->PB l K
 | [],K,h=>h [] rfl
 | _::m,K,h=>λb=>zZ λδ A=>h (b::δ) (by simp[A])
def PTv (g:Gl)(A:List Item)(bs:List Bw)(ts:List (Nat×Value))(Z:Hp):Prop:=
 ∀J:Env,PB bs λδ=>At g A (N4 J (pj bs δ++ts)) (bxV bs δ) Z
theorem tG {δ0:List Nat}{v:Vl}:∀{m:List Bv} {j:Nat} {n:Nm} {δ:List Nat},δ.length=m.length->(∀i,i<δ.length->nth 0 v.δ (j+i)=nth 0 δ i)->(ka m j n).2.le v->
  HR v (ka m j n).1=bxV (dK m) δ/\KU v (AFH m j)=pj (dK m) δ/\n.le v
 | [],j,n,[],_,_,h=>⟨rfl,rfl,h⟩
 | (t,T,l)::m,j,n,b::δ,hl,A,h=>by
  obtain⟨C,G,h3⟩:=tG (δ0:=δ0) (m:=m) (j:=j+1) (n:=(kZ l n).2) (δ:=δ) (by simpa using hl) (λi hi=>by
   have:=A (i+1) (by simpa using hi);rw[show j+1+i=j+(i+1) by omega];exact this) h
  obtain⟨h4,h5⟩:=XL h3;have hb:nth 0 v.δ j=b:=A 0 (by simp);refine⟨?_,?_,h5⟩
  .simp only[ka,HR,dK,bxV,hb,h4];rw[<-C]
  .simp only[AFH,KU,dK,pj,SV.den,Jo.den,Da.den,PV.den,hb];rw[G]
def tH (D:List (Nat×Dw))(δ:List Nat)(Z:Hp):S:=match U2 D ⟨[],[]⟩ with
 | (e,n)=>match Mz D [] with
  | bs=>match ka bs 0 n with
   | (x,n)=>⟨AFH bs 0++e,x,⟨n.ρ,n.β,δ⟩,Z⟩
theorem kc {v:Vl}:∀{l m:List (Nat×SV)},KU v (l++m)=KU v l++KU v m
 | [],_=>rfl
 | (t,x)::l,m=>by simp only[AnQ,KU];rw[kc]
theorem ALT {D:List (Nat×Dw)}{δ:List Nat}{Z:Hp}{J:Env}(hl:δ.length=(Mz D []).length):
  (tH D δ Z).e J=N4 J (pj (dK (Mz D [])) δ++Wi D)/\(tH D δ Z).b=bxV (dK (Mz D [])) δ:=by
 have A:(ka (Mz D []) 0 (U2 D ⟨[],[]⟩).2).2.le ⟨(ka (Mz D []) 0 (U2 D ⟨[],[]⟩).2).2.ρ,(ka (Mz D []) 0 (U2 D ⟨[],[]⟩).2).2.β,δ⟩:=⟨λ_ _=>rfl,λ_ _=>rfl⟩;obtain⟨C,G,h3⟩:=tG (δ0:=[]) (δ:=δ) hl (λi _=>by rw[Anq]) A;obtain⟨h4,_⟩:=Q0 h3;exact⟨by simp only[tH,S.e,kc];rw[G,h4],C⟩
def AQC:Nat->Nat->List Bool
 | 0,_=>[]
 | f+1,n=>match Nat.ble n 1 with
  | true=>[]
  | false=>Nat.beq (n%2) 1::AQC f (n/2)
def pth (n:Nat):List Bool:=AQC 400 n
def SU (body:Code):List Bool->List It
 | []=>[]
 | t::p=>match node body p with
  | .seq _ _=>bif t then SU body p else .c (true::p)::SU body p
  | .block i _=>.Xr i::SU body p
  | .loop _=>.lp (false::p)::SU body p
  | .scope _=>.sc (false::p)::SU body p
  | _=>SU body p
def tdo (body:Code)(n:Nat):List It:=.c (pth n)::SU body (pth n)
inductive Sh where
 | I (k:IntKind) | B | T | L | Q | A | M | V
inductive Sw where
 | o (x:Sh)
 | G (l:List Sh)
 | U (l:List Sh)
 | X (T:TypeId) (l:List Sh)
abbrev ArS:Sh->Type->Type
 | .I _,C=>Int->C
 | .B,C=>Bool->C
 | .T,C=>ByteArray->C
 | .L,C=>Option Addr->Nat->Nat->C
 | .Q,C=>Option Addr->C
 | .A,C=>Nat->C
 | .M,C=>Option Nat->C
 | .V,C=>Value->C
def AQD {C:Type}:(x:Sh)->(Dv->C)->ArS x C
 | .I k,K=>λx=>K (.I k x)
 | .B,K=>λx=>K (.B x)
 | .T,K=>λx=>K (.T x)
 | .L,K=>λp n c=>K (.L p n c)
 | .Q,K=>λx=>K (.Q x)
 | .A,K=>λx=>K (.A x)
 | .M,K=>λx=>K (.M x)
 | .V,K=>λx=>K (.V x)
abbrev ArL:List Sh->Type->Type
 | [],A=>A
 | x::l,A=>ArS x (ArL l A)
def AFI {A:Type}:(l:List Sh)->(List Dv->A)->ArL l A
 | [],K=>K []
 | x::l,K=>AQD x λd=>AFI l λr=>K (d::r)
abbrev ArW:Sw->Type->Type
 | .o x,C=>ArS x C
 | .G l,C=>ArL l C
 | .U l,C=>ArL l C
 | .X _ l,C=>ArL l C
def AZ8 {A:Type}:(x:Sw)->(Dw->A)->ArW x A
 | .o x,K=>AQD x λd=>K (.o d)
 | .G l,K=>AFI l λd=>K (.G d)
 | .U l,K=>AFI l λd=>K (.U d)
 | .X T l,K=>AFI l λd=>K (.X T d)
abbrev Ar:List (Nat×Sw)->Type->Type
 | [],A=>A
 | (_,x)::l,A=>ArW x (Ar l A)
def cur {A:Type}:(l:List (Nat×Sw))->(List (Nat×Dw)->A)->Ar l A
 | [],K=>K []
 | (t,x)::l,K=>AZ8 x λd=>cur l λr=>K ((t,d)::r)
structure Fw where
 P:Program
 f:Nat
 fn:Func
 TD:List Nat
 hid:List Nat
 wr:Bool
 reg:List (Nat×Nat×Bool)
 TE:List (Nat×TypeId)
 cuts:List (Nat×List (Nat×Sw))
def Fw.K (M:Fw):Code:=M.fn.body.getD .skip
def Fw.gl (M:Fw)(R:Rr):Gl:=Gl.fn M.P M.f M.fn.ntmps R
def Fw.cx (M:Fw)(R:Rr):Fx:={ P:=M.P,R:=R,TD:=M.TD,hid:=M.hid,wr:=M.wr,n:=M.fn.ntmps,body:=M.K,res:=M.fn.results.toList,reg:=M.reg,TE:=M.TE }
def ke (vl:Vl):List Nat->List IB->List Bw
 | t::l,x::r=>(t,x.2.1,Bt vl x.2.2)::ke vl l r
 | _,_=>[]
def tmps:List (Nat×Sw)->List Nat
 | []=>[]
 | (_,.X _ _)::l=>tmps l
 | (t,_)::l=>t::tmps l
def za:List (Nat×Sw)->List Nat->List Nat
 | [],r=>r
 | (t,.X _ _)::l,r=>za l (t::r)
 | _::l,r=>za l r
def Fw.cut (M:Fw)(R:Rr)(c:Nat×List (Nat×Sw)):Cut:=⟨tdo M.K c.1,λs=>match s.vd (tmps c.2),s.gh (za c.2 []) s.bx with
 | some vs,some B=>PTv (M.gl R) (FL M.K (tdo M.K c.1)) (ke s.vl (za c.2 []) B) ((tmps c.2).zip vs) s.Z
 | _,_=>False⟩
def YE (M:Fw)(R:Rr):List (Nat×List (Nat×Sw))->List Cut
 | []=>[]
 | c::l=>M.cut R c::YE M R l
def Fw.ptD (M:Fw)(at_:Nat)(R:Rr)(D:List (Nat×Dw))(Z:Hp):Prop:=PTv (M.gl R) (FL M.K (tdo M.K at_)) (dK (Mz D [])) (Wi D) Z
noncomputable def Fw.pt (M:Fw)(i:Nat)(R:Rr):Ar (nth (0,[]) M.cuts i).2 (Hp->Prop):=cur (nth (0,[]) M.cuts i).2 (M.ptD (nth (0,[]) M.cuts i).1 R)
structure Fw.Ok (M:Fw):Prop where
 E:AH M.P M.TD
 mixed:M.P.follows .mixedOrders=true
 fnc:M.P.funcs[M.f]?=some M.fn
 body:M.fn.body.isSome=true
theorem Fw.AH1 {M:Fw}{R:Rr}(h:M.Ok):(M.cx R).Ok (M.gl R) M.fn:=⟨⟨rfl,rfl,h.E,rfl,rfl,rfl⟩,h.mixed,h.fnc,rfl,rfl,rfl⟩
theorem kg {vl:Vl}:∀{l:List Nat} {B:List IB},∃δ:List Nat,δ.length=(ke vl l B).length/\pj (ke vl l B) δ=YB vl l B/\(l.length=B.length->bxV (ke vl l B) δ=HR vl B)
 | [],[]=>⟨[],rfl,rfl,λ_=>rfl⟩
 | [],_::_=>⟨[],rfl,rfl,λh=>by simp at h⟩
 | _::_,[]=>⟨[],rfl,rfl,λh=>by simp at h⟩
 | t::l,(i,T,cs)::B=>by
  obtain⟨δ,A,C,G⟩:=kg (vl:=vl) (l:=l) (B:=B);exact⟨nth 0 vl.δ i::δ,by simp[ke,A],by simp only[ke,pj,YB];rw[C],λh=>by simp only[ke,bxV,HR];rw[G (by simpa using h)]⟩
theorem kh {s:S}:∀{l:List Nat} {bx B:List IB},s.gh l bx=some B->l.length=B.length
 | [],bx,B,h=>by simp only[S.gh,Ami]at h;subst h;rfl
 | t::l,bx,B,h=>by
  simp only[S.gh]at h;split at h
  .split at h
   .split at h
    .rename_i m hm;cases h;simp[kh hm]
    .cases h
   .cases h
  .cases h
theorem Fw.ALU (M:Fw)(R:Rr)(c:Nat×List (Nat×Sw)):(M.cut R c).Ok (M.gl R) M.K:=λs J h=>by
 simp only[Fw.cut]at h;split at h
 .rename_i vs B h1 A;obtain⟨δ,C,G,e3⟩:=kg (vl:=s.vl) (l:=za c.2 []) (B:=B);refine At.AQA h1 A λJ=>?_;have:=zY (h J) δ C;rw[G,e3 (kh A)]at this;exact this
 .cases h
theorem gi {M:Fw}{R:Rr}:∀{l:List (Nat×List (Nat×Sw))},∀k∈YE M R l,k.Ok (M.gl R) M.K
 | c::l,k,A=>by
  rcases Aml.1 A with rfl|A
  .exact M.ALU R c
  .exact gi k A
theorem ki:∀{l:List Bv},(dK l).length=l.length
 | []=>rfl
 | _::m=>by simp only[dK,AnN];rw[ki]
def PX (F:Prop):List Bv->(List Nat->Prop)->Prop
 | [],K=>F=K []
 | _::m,K=>∀b:Nat,PX F m λδ=>K (b::δ)
theorem zb {F:Prop}(h:F):∀{l:List Bv} {K:List Nat->Prop},PX F l K->∀δ,δ.length=l.length->K δ
 | [],K,e,[],_=>e▸h
 | _::m,K,e,b::δ,A=>zb h (e b) δ (by simpa using A)
theorem Fw.ofB {M:Fw}{R:Rr}{at_:Nat}{D:List (Nat×Dw)}{Z:Hp}{F:Prop}(h:F)(ok:M.Ok)(e:PX F (Mz D []) λδ=>E8 (M.cx R) (YE M R M.cuts) 4000 true (tdo M.K at_) (tH D δ Z)):M.ptD at_ R D Z:=λJ=>by
 refine zZ λδ A=>?_;rw[ki]at A;have:=BJ (J:=J) (Fw.AH1 ok) gi (zb h e δ A);obtain⟨C,G⟩:=ALT (D:=D) (Z:=Z) (J:=J) A;rw[C,G]at this;exact this
theorem Fw.of {M:Fw}{R:Rr}{at_:Nat}{D:List (Nat×Dw)}{Z:Hp}{F:Prop}(h:F)(ok:M.Ok)(hb:Mz D []=[])(e:F=E8 (M.cx R) (YE M R M.cuts) 4000 true (tdo M.K at_) (tH D [] Z):=by kernel_rfl):M.ptD at_ R D Z:=
 M.ofB h ok (by rw[hb];exact e)
theorem Fw.oJ {M:Fw}{R:Rr}{at_:Nat}{D:List (Nat×Dw)}{Z:Hp}{F:Prop}{x1:Bv}(h:F)(ok:M.Ok)(hb:Mz D []=[x1])(e:∀b1:Nat,F=E8 (M.cx R) (YE M R M.cuts) 4000 true (tdo M.K at_) (tH D [b1] Z)):M.ptD at_ R D Z:=
 M.ofB h ok (by rw[hb];exact e)
theorem Fw.pn {M:Fw}{R:Rr}{at_:Nat}{D:List (Nat×Dw)}{Z:Hp}{F:Prop}{x1 x2:Bv}(h:F)(ok:M.Ok)(hb:Mz D []=[x1,x2])(e:∀b1 b2:Nat,F=E8 (M.cx R) (YE M R M.cuts) 4000 true (tdo M.K at_) (tH D [b1,b2] Z)):M.ptD at_ R D Z:=
 M.ofB h ok (by rw[hb];exact e)
theorem Fw.dL {M:Fw}{R:Rr}{at_:Nat}{D:List (Nat×Dw)}{Z:Hp}{F:Prop}{x1 x2 x3:Bv}(h:F)(ok:M.Ok)(hb:Mz D []=[x1,x2,x3])(e:∀b1 b2 b3:Nat,F=E8 (M.cx R) (YE M R M.cuts) 4000 true (tdo M.K at_) (tH D [b1,b2,b3] Z)):M.ptD at_ R D Z:=
 M.ofB h ok (by rw[hb];exact e)
theorem Fw.of4 {M:Fw}{R:Rr}{at_:Nat}{D:List (Nat×Dw)}{Z:Hp}{F:Prop}{x1 x2 x3 x4:Bv}(h:F)(ok:M.Ok)(hb:Mz D []=[x1,x2,x3,x4])(e:∀b1 b2 b3 A:Nat,F=E8 (M.cx R) (YE M R M.cuts) 4000 true (tdo M.K at_) (tH D [b1,b2,b3,A] Z)):M.ptD at_ R D Z:=
 M.ofB h ok (by rw[hb];exact e)
theorem Fw.of5 {M:Fw}{R:Rr}{at_:Nat}{D:List (Nat×Dw)}{Z:Hp}{F:Prop}{x1 x2 x3 x4 x5:Bv}(h:F)(ok:M.Ok)(hb:Mz D []=[x1,x2,x3,x4,x5])(e:∀b1 b2 b3 A b5:Nat,F=E8 (M.cx R) (YE M R M.cuts) 4000 true (tdo M.K at_) (tH D [b1,b2,b3,A,b5] Z)):M.ptD at_ R D Z:=
 M.ofB h ok (by rw[hb];exact e)
def ALV:Value->Dv
 | .int k x=>.I k x
 | .bool t=>.B t
 | .string x=>.T x
 | .slice p n c=>.L p n c
 | .pointer p=>.Q p
 | .map x=>.M x
 | x=>.V x
theorem kj (x:Value):(ALV x).den=x:=by cases x<;>rfl
def tI:List Value->List Dv
 | []=>[]
 | x::l=>ALV x::tI l
theorem fF:∀l:List Value,kY (tI l)=l
 | []=>rfl
 | x::l=>by simp only[tI,kY];rw[kj,fF]
def ve:Value->Dw
 | .agg cs=>.G (tI cs.toList)
 | x=>.o (ALV x)
theorem zc (x:Value):(ve x).den=x:=by
 cases x
 case agg cs=>simp only[ve,Dw.den,fF]
 all_goals (simp only[ve,Dw.den];exact kj _)
def zd:Value->Dw
 | .pointer (some ⟨b,0,none⟩)=>.o (.A b)
 | x=>.o (.V x)
theorem ze (x:Value):(zd x).den=x:=by
 unfold zd;split<;>rfl
def vf (np:Nat):Nat->List Value->List (Nat×Dw)
 | _,[]=>[]
 | k,x::l=>match Nat.blt k np with
  | true=>(k,ve x)::vf np (k+1) l
  | false=>(k,zd x)::vf np (k+1) l
theorem zf (x:Value):(∃y,ve x=.o y)\/∃y,ve x=.G y:=by cases x<;>first|exact .inr ⟨_,rfl⟩|exact .inl ⟨_,rfl⟩
theorem zg (x:Value):∃y,zd x=.o y:=by unfold zd;split<;>exact⟨_,rfl⟩
theorem gj {np:Nat}:∀{l:List Value} {k:Nat},Wi (vf np k l)=YC k l/\Mz (vf np k l) []=[]
 | [],_=>⟨rfl,rfl⟩
 | x::l,k=>by
  obtain⟨G,h2⟩:=gj (np:=np) (l:=l) (k:=k+1);simp only[vf];split
  .have A:=zc x;rcases zf x with ⟨y,C⟩|⟨y,C⟩<;>rw[C]at A ⊢<;>exact⟨by simp only[Wi,YC];rw[A,G],h2⟩
  .have A:=ze x;obtain⟨y,C⟩:=zg x;rw[C]at A ⊢;exact⟨by simp only[Wi,YC];rw[A,G],h2⟩
def Fw.run (M:Fw)(R:Rr)(k:Nat)(D:List (Nat×Dw))(Z:Hp):Prop:=match Nat.ble k M.fn.ntmps with
 | true=>E8 (M.cx R) (YE M R M.cuts) 4000 true [.c []] (tH D [] Z)
 | false=>False
theorem Fw.HU {M:Fw}{R:Rr}{args:Array Value}{Z:Hp}{F:Prop}(h:F)(ok:M.Ok)(D:List (Nat×Dw))(C:Mz D []=[])(G:Wi D=YC 0 args.toList)(e:F=M.run R args.size D Z):Spec M.P M.f args Z R:=by
 subst e;unfold Fw.run at h;split at h
 case h_2=>exact h.elim
 rename_i hn;obtain⟨fb,hb⟩:=Option.isSome_iff_exists.1 ok.body;refine Spec.walk (c:=M.cx R) (cuts:=YE M R M.cuts) (s:=tH D [] Z) (fuel:=4000) (Fw.AH1 ok) ?_ rfl hn gi ?_ ?_ h
 .show M.fn.body=some (M.fn.body.getD .skip)
  rw[hb];rfl
 .obtain⟨A,_⟩:=Q0 (l:=D) (n:=⟨[],[]⟩) (v:=⟨(U2 D ⟨[],[]⟩).2.ρ,(U2 D ⟨[],[]⟩).2.β,[]⟩) ⟨λ_ _=>rfl,λ_ _=>rfl⟩;rw[G]at A;simp only[tH,C];exact A
 .simp only[tH,C];rfl
theorem Fw.start {M:Fw}{R:Rr}{args:Array Value}{Z:Hp}{F:Prop}(h:F)(ok:M.Ok)(e:F=M.run R args.size (vf M.fn.params.size 0 args.toList) Z:=by kernel_rfl):Spec M.P M.f args Z R:=
 M.HU h ok _ gj.2 gj.1 e
abbrev wI:Sw:=.o (.I .i64)
abbrev wU:Sw:=.o (.I .u64)
abbrev w8:Sw:=.o (.I .u8)
abbrev wB:Sw:=.o .B
abbrev wT:Sw:=.o .T
abbrev wL:Sw:=.o .L
abbrev wQ:Sw:=.o .Q
abbrev wA:Sw:=.o .A
abbrev wM:Sw:=.o .M
abbrev wV:Sw:=.o .V
abbrev aD (b o:Nat):Option Addr:=some ⟨b,o,none⟩
theorem kl {p:Option Addr}{b o:Nat}(h:p=some ⟨b,o,none⟩):aD b o=p:=h.symm
abbrev Br (p A B:Prop):Prop:=(p->A)/\(¬p->B)
abbrev Bm (p A B:Prop):Prop:=(¬p->A)/\(p->B)
abbrev Bo (t:Bool)(A B:Prop):Prop:=(t=true->A)/\(t=false->B)
abbrev Bn (t:Bool)(A B:Prop):Prop:=(t=false->A)/\(t=true->B)
abbrev Pq (p:Option Addr)(K:Nat->Nat->Prop):Prop:=∃b o:Nat,p=some ⟨b,o,none⟩/\K b o
abbrev In (x n:Int):Prop:=(0:Int)<=x/\x<n
abbrev Df (r:Int)(K:Int->Prop):Prop:=∀x:Int,x=r->K x
abbrev Al (Z:Hp)(K:Nat->Prop):Prop:=∀b:Nat,Z b=none->K b
abbrev LI (k:IntKind)(Z:Hp)(b o:Nat)(K:Int->Prop):Prop:=∃x:Int,Hp.ld Z ⟨b,o,none⟩=some (.int k x)/\K x
abbrev LB (Z:Hp)(b o:Nat)(K:Bool->Prop):Prop:=∃x:Bool,Hp.ld Z ⟨b,o,none⟩=some (.bool x)/\K x
abbrev LT (Z:Hp)(b o:Nat)(K:ByteArray->Prop):Prop:=∃x:ByteArray,Hp.ld Z ⟨b,o,none⟩=some (.string x)/\K x
abbrev LQ (Z:Hp)(b o:Nat)(K:Option Addr->Prop):Prop:=∃x:Option Addr,Hp.ld Z ⟨b,o,none⟩=some (.pointer x)/\K x
abbrev LS (Z:Hp)(b o:Nat)(K:Option Addr->Nat->Nat->Prop):Prop:=∃p:Option Addr,∃n:Nat,∃c:Nat,Hp.ld Z ⟨b,o,none⟩=some (.slice p n c)/\K p n c
abbrev CI (k:IntKind)(K:Int->Hp->Prop):Value->Hp->Prop:=λv Z=>∃x:Int,v=.int k x/\K x Z
abbrev CB (K:Bool->Hp->Prop):Value->Hp->Prop:=λv Z=>∃x:Bool,v=.bool x/\K x Z
abbrev CT (K:ByteArray->Hp->Prop):Value->Hp->Prop:=λv Z=>∃x:ByteArray,v=.string x/\K x Z
abbrev CQ (K:Option Addr->Hp->Prop):Value->Hp->Prop:=λv Z=>∃x:Option Addr,v=.pointer x/\K x Z
abbrev CS (K:Option Addr->Nat->Nat->Hp->Prop):Value->Hp->Prop:=λv Z=>∃p:Option Addr,∃n:Nat,∃c:Nat,v=.slice p n c/\K p n c Z
end Tw
end
section
set_option maxRecDepth 100000
noncomputable section
namespace TwW
open Go Tw Go.Proofs.Tryz
variable [HL]{R:Rr}{Z:Hp}
abbrev AG (f:FuncId)(a:Array Value)(s:Hp)(R:Rr)(K:Value->Hp->Prop):Prop:=Spec prog f a s (BV R K)
abbrev DV (T:TypeId)(p:Option Addr)(n c b:Nat):Sem Value:=Builtin.append_ #[T,T] T #[.slice p n c,.slice (aD b 0) 1 1]

namespace Lw
variable {p0 p1:Option Addr}{n0 c0 n1 c1:Nat}{x2 x3 x4:Int}
def M:Fw:=⟨prog,4,f4,[6,7,11,12,13,14,15,16],[],false,[],[],[]⟩
def ok:M.Ok:=⟨.cons call6 (.cons call7 (.cons call11 (.cons call12 (.cons call13 (.cons call14 (.cons call15 (.cons call16 (AH.nil)))))))),mixed,func4,by kernel_rfl⟩
def start (h:AG 15 #[.slice p0 n0 c0,.slice p1 n1 c1,.I x2,.I x3,.I x4] Z R (λz y=>∃AQF AQG AQH zh,z=(.tuple #[.slice AQF AQG AQH,.I zh])/\AG 6 #[.slice p0 n0 c0] y R (CS λyJ n27 po AB=>AG 7 #[.slice p1 n1 c1] AB R (CS λp29 n29 vg AK=>AG 16 #[.slice yJ n27 po,.slice p29 n29 vg,.I x2,.I x3,.I x4] AK R (λz AX=>∃A C G AQI,z=(.tuple #[.slice A C G,.I AQI])/\AG 11 #[.slice yJ n27 po,.slice p0 n0 c0] AX R (CB λt41 DK=>Bn t41 (R (.B false) DK) (AG 12 #[.slice p29 n29 vg,.slice p1 n1 c1] DK R (CB λt46 GK=>Bn t46 (R (.B false) GK) (Br (AQI≠zh) (R (.B false) GK) (AG 12 #[.slice A C G,.slice AQF AQG AQH] GK R (CB λt57 RR=>Bn t57 (R (.B false) RR) (AG 13 #[.slice A C G] RR R (λz YG=>z=(.tuple #[])/\AG 12 #[.slice p29 n29 vg,.slice p1 n1 c1] YG R (CB λt64 fG=>Bo t64 (AG 14 #[] fG R (CB λt66 dM=>R (.B t66) dM)) (R (.B false) fG))))))))))))))):Spec prog 4 #[.slice p0 n0 c0,.slice p1 n1 c1,.I x2,.I x3,.I x4] Z R:=M.start h ok
end Lw
namespace Ei
variable {p0 p1:Option Addr}{n0 c0 n1 c1:Nat}{x5:Int}
def M:Fw:=⟨prog,12,f12,[32,33],[],false,[],[],[(464,[(0,wL),(1,wL),(5,wI)])]⟩
def ok:M.Ok:=⟨.cons call32 (.cons call33 (AH.nil)),mixed,func12,by kernel_rfl⟩
def Au:=M.pt 0
def start (h:Br ((n0:Int)≠(n1:Int)) (R (.B false) Z) (Au R p0 n0 c0 p1 n1 c1 0 Z)):Spec prog 12 #[.slice p0 n0 c0,.slice p1 n1 c1] Z R:=M.start h ok
def Aq (h:Br (x5<(n0:Int)) (Pq p0 λG XM=>In x5 (n0:Int)/\LS Z G (XM+x5.toNat*2) λTF n21 RS=>Pq p1 λA C=>In x5 (n1:Int)/\LS Z A (C+x5.toNat*2) λp26 n26 c26=>AG 32 #[.slice TF n21 RS,.slice p26 n26 c26] Z R (CB λt27 y=>Bn t27 (R (.B false) y) (In x5 (n0:Int)/\LS y G ((XM+x5.toNat*2)+1) λp34 n34 c34=>In x5 (n1:Int)/\LS y A ((C+x5.toNat*2)+1) λp39 n39 c39=>AG 33 #[.slice p34 n34 c34,.slice p39 n39 c39] y R (CB λt40 AB=>Bn t40 (R (.B false) AB) (AF (x5+1)/\Au R (aD G XM) n0 c0 (aD A C) n1 c1 (x5+1) AB))))) (R (.B true) Z)):Au R p0 n0 c0 p1 n1 c1 x5 Z:=M.of h ok rfl
end Ei
namespace CV
variable {p0:Option Addr}{n0 c0:Nat}{x2:Int}
def M:Fw:=⟨prog,13,f13,[34,35],[],false,[],[],[(48,[(0,wL),(2,wI)])]⟩
def ok:M.Ok:=⟨.cons call34 (.cons call35 (AH.nil)),mixed,func13,by kernel_rfl⟩
def pt6:=M.pt 0
def start (h:pt6 R p0 n0 c0 0 Z):Spec prog 13 #[.slice p0 n0 c0] Z R:=M.start h ok
def U3 (h:Br (x2<(n0:Int)) (Pq p0 λBu A=>In x2 (n0:Int)/\LS Z Bu (A+x2.toNat*2) λp13 G C=>AG 34 #[.slice p13 G C] Z R (λz y=>z=(.tuple #[])/\In x2 (n0:Int)/\LS y Bu ((A+x2.toNat*2)+1) λvh n19 pq=>AG 35 #[.slice vh n19 pq] y R (λz AB=>z=(.tuple #[])/\In x2 (n0:Int)/\AJ prog (Instr.storeAt 51 (.pointer (aD Bu (A+x2.toNat*2))) (.agg #[.N,.N])) AB (λ_ AK=>AF (x2+1)/\pt6 R (aD Bu A) n0 c0 (x2+1) AK)))) (R (.T #[]) Z)):pt6 R p0 n0 c0 x2 Z:=M.of h ok rfl
end CV
namespace CC
noncomputable def K0:=f16.body.getD .skip
def K1:=cl K0
def K2:=cr K0
def K3:=cl K2
def K4:=cl K3
def K5:=cr K3
def K6:=cl K5
def K7:=cr K5
def K8:=cl K7
def K9:=cl K8
def K10:=cr K8
def K11:=cr K7
def K12:=cr K2
def K13:=cl K12
def K14:=cl K13
def K15:=cr K13
def K16:=cl K15
def K17:=cl K16
def K18:=cr K16
def K19:=cr K15
def K20:=cr K12
def K21:=cl K20
def K22:=cl K21
def K23:=cr K21
def K24:=cl K23
def K25:=cl K24
def K26:=cr K24
def K27:=cr K23
def K28:=cr K20
def K29:=cl K28
def K30:=cr K28
def K31:=cl K30
def K32:=cr K30
def K33:=cl K32
def K34:=cl K33
def K35:=cr K33
def K36:=cl K35
def K37:=cl K36
def K38:=cr K36
def K39:=cl K38
def K40:=cl K39
def K41:=cr K39
def K42:=cl K41
def K43:=cl K42
def K44:=cr K42
def K45:=cl K44
def K46:=cl K45
def K47:=cr K45
def K48:=cr K44
def K49:=cr K41
def K50:=cl K49
def K51:=cr K49
def K52:=cl K51
def K53:=cl K52
def K54:=cl K53
def K55:=cr K53
def K56:=cl K55
def K57:=cl K56
def K58:=cr K56
def K59:=cr K55
def K60:=cl K59
def K61:=cl K60
def K62:=cl K61
def K63:=cr K61
def K64:=cl K63
def K65:=cr K63
def K66:=cl K65
def K67:=cl K66
def K68:=cr K66
def K69:=cl K68
def K70:=cl K69
def K71:=cr K69
def K72:=cl K71
def K73:=cr K71
def K74:=cr K68
def K75:=cr K65
def K76:=cr K59
def K77:=cr K32
def K78:=cl K77
def K79:=cr K77
def K80:=cl K79
def K81:=cr K79
def K82:Code:=.ret
abbrev gl (R:Rr):Gl:=Gl.fn prog 16 117 R
def GL (R:Rr)(l:Nat)(r0:Loop)(b5 b6 E2 Bu D0 DL:Nat)(A:Int)(Z:Hp):Prop:=∀(J:Env),At (Gl.round prog 16 117 l R) [.code K37,.beginRound,.code K38] (N4 J [(5,(.pointer (some ⟨b5,0,none⟩))),(6,(.pointer (some ⟨b6,0,none⟩))),(10,(.pointer (some ⟨E2,0,none⟩))),(11,(.pointer (some ⟨Bu,0,none⟩))),(13,(.pointer (some ⟨D0,0,none⟩))),(14,(.pointer (some ⟨DL,0,none⟩))),(56,(.I A))]) [] Z
def U4 (R:Rr)(l:Nat)(r0:Loop)(D0 DL:Nat)(x15:Int)(S3:Option Addr)(A C:Nat)(RU G:Int)(Z:Hp):Prop:=∀(J:Env),At (Gl.round prog 16 117 l R) [.code K54,.code K55,.inLoop K53,.inBlock 2,.inBlock 1] (N4 J [(13,(.pointer (some ⟨D0,0,none⟩))),(14,(.pointer (some ⟨DL,0,none⟩))),(15,(.I x15)),(67,(.slice S3 A C)),(68,(.I RU)),(69,(.I G))]) [] Z
def AFK (R:Rr)(l:Nat)(r0:Loop)(D0 DL:Nat)(x15:Int)(A:Nat)(Ig:Int)(S3:Option Addr)(C G:Nat)(RU RV:Int)(Z:Hp):Prop:=∀(J:Env),At (Gl.round prog 16 117 l R) [.code K75,.inBlock 3,.code K76,.inLoop K53,.inBlock 2,.inBlock 1] (N4 J [(13,(.pointer (some ⟨D0,0,none⟩))),(14,(.pointer (some ⟨DL,0,none⟩))),(15,(.I x15)),(19,(.pointer (some ⟨A,0,none⟩))),(20,(.I Ig)),(67,(.slice S3 C G)),(68,(.I RU)),(69,(.I RV))]) [] Z
def start {R:Rr}{p0 p1:Option Addr}{n0 c0 n1 c1:Nat}{x2 x3 x4:Int}{Z:Hp}(h:∀b5:Nat,Z b5=none->∀b6:Nat,(Hp.set Z b5 (.cells #[(.slice p0 n0 c0)] 22 (0,0))) b6=none->∀E2:Nat,(Hp.set (Hp.set Z b5 (.cells #[(.slice p0 n0 c0)] 22 (0,0))) b6 (.cells #[(.slice p1 n1 c1)] 23 (0,0))) E2=none->∀Bu:Nat,(Hp.set (Hp.set (Hp.set Z b5 (.cells #[(.slice p0 n0 c0)] 22 (0,0))) b6 (.cells #[(.slice p1 n1 c1)] 23 (0,0))) E2 (.cells #[(.N)] 23 (0,0))) Bu=none->∃fH:Option Addr,∃n22:Nat,∃cz:Nat,Hp.ld (Hp.set (Hp.set (Hp.set (Hp.set Z b5 (.cells #[(.slice p0 n0 c0)] 22 (0,0))) b6 (.cells #[(.slice p1 n1 c1)] 23 (0,0))) E2 (.cells #[(.N)] 23 (0,0))) Bu (.cells #[(.I 0)] 24 (0,0))) ⟨b5,0,none⟩=some (.slice fH n22 cz)/\∃pr:Option Addr,∃n23:Nat,∃pz:Nat,Hp.ld (Hp.set (Hp.set (Hp.set (Hp.set Z b5 (.cells #[(.slice p0 n0 c0)] 22 (0,0))) b6 (.cells #[(.slice p1 n1 c1)] 23 (0,0))) E2 (.cells #[(.N)] 23 (0,0))) Bu (.cells #[(.I 0)] 24 (0,0))) ⟨b6,0,none⟩=some (.slice pr n23 pz)/\AG 25 #[(.slice fH n22 cz),(.slice pr n23 pz)] (Hp.set (Hp.set (Hp.set (Hp.set Z b5 (.cells #[(.slice p0 n0 c0)] 22 (0,0))) b6 (.cells #[(.slice p1 n1 c1)] 23 (0,0))) E2 (.cells #[(.N)] 23 (0,0))) Bu (.cells #[(.I 0)] 24 (0,0))) R (λv Z1=>∃JT:Int,v=(.I JT)/\((JT:Int)≠0->AJ prog (Instr.storeAt 23 (.pointer (some ⟨E2,0,none⟩)) (.N)) Z1 (λ_ JU=>AJ prog (Instr.storeAt 24 (.pointer (some ⟨Bu,0,none⟩)) (.I JT)) JU (λ_ ES=>∃C:Option Addr,∃G:Nat,∃Du:Nat,∃Dx:Int,Hp.ld ES ⟨E2,0,none⟩=some (.slice C G Du)/\Hp.ld ES ⟨Bu,0,none⟩=some (.I Dx)/\R (.T #[(.slice C G Du),(.I Dx)]) ES)))/\(¬((JT:Int)≠0)->AG 26 #[(.I x2)] Z1 R (λv_2 JU=>∃t29:Bool,v_2=(.bool t29)/\(t29=false->AJ prog (Instr.storeAt 23 (.pointer (some ⟨E2,0,none⟩)) (.N)) JU (λ_ ES=>AJ prog (Instr.storeAt 24 (.pointer (some ⟨Bu,0,none⟩)) (.I 221)) ES (λ_ E9=>∃C:Option Addr,∃G:Nat,∃Du:Nat,∃Dx:Int,Hp.ld E9 ⟨E2,0,none⟩=some (.slice C G Du)/\Hp.ld E9 ⟨Bu,0,none⟩=some (.I Dx)/\R (.T #[(.slice C G Du),(.I Dx)]) E9)))/\(t29=true->AG 26 #[(.I x3)] JU R (λv_3 ES=>∃t33:Bool,v_3=(.bool t33)/\(t33=false->AJ prog (Instr.storeAt 23 (.pointer (some ⟨E2,0,none⟩)) (.N)) ES (λ_ E9=>AJ prog (Instr.storeAt 24 (.pointer (some ⟨Bu,0,none⟩)) (.I 221)) E9 (λ_ DW=>∃C:Option Addr,∃G:Nat,∃Du:Nat,∃Dx:Int,Hp.ld DW ⟨E2,0,none⟩=some (.slice C G Du)/\Hp.ld DW ⟨Bu,0,none⟩=some (.I Dx)/\R (.T #[(.slice C G Du),(.I Dx)]) DW)))/\(t33=true->((x3:Int)<x2->AJ prog (Instr.storeAt 23 (.pointer (some ⟨E2,0,none⟩)) (.N)) ES (λ_ E9=>AJ prog (Instr.storeAt 24 (.pointer (some ⟨Bu,0,none⟩)) (.I 221)) E9 (λ_ DW=>∃C:Option Addr,∃G:Nat,∃Du:Nat,∃Dx:Int,Hp.ld DW ⟨E2,0,none⟩=some (.slice C G Du)/\Hp.ld DW ⟨Bu,0,none⟩=some (.I Dx)/\R (.T #[(.slice C G Du),(.I Dx)]) DW)))/\(¬((x3:Int)<x2)->((x4:Int)<1->AJ prog (Instr.storeAt 23 (.pointer (some ⟨E2,0,none⟩)) (.N)) ES (λ_ E9=>AJ prog (Instr.storeAt 24 (.pointer (some ⟨Bu,0,none⟩)) (.I 221)) E9 (λ_ DW=>∃C:Option Addr,∃G:Nat,∃Du:Nat,∃Dx:Int,Hp.ld DW ⟨E2,0,none⟩=some (.slice C G Du)/\Hp.ld DW ⟨Bu,0,none⟩=some (.I Dx)/\R (.T #[(.slice C G Du),(.I Dx)]) DW)))/\(¬((x4:Int)<1)->AF (x3-x2)/\x4≠(0:Int)/\∀UU:Int,UU=IntKind.i64.wrap (Int.tdiv (x3-x2) x4)->((512:Int)<=UU->AJ prog (Instr.storeAt 23 (.pointer (some ⟨E2,0,none⟩)) (.N)) ES (λ_ E9=>AJ prog (Instr.storeAt 24 (.pointer (some ⟨Bu,0,none⟩)) (.I 222)) E9 (λ_ DW=>∃C:Option Addr,∃G:Nat,∃Du:Nat,∃Dx:Int,Hp.ld DW ⟨E2,0,none⟩=some (.slice C G Du)/\Hp.ld DW ⟨Bu,0,none⟩=some (.I Dx)/\R (.T #[(.slice C G Du),(.I Dx)]) DW)))/\(¬((512:Int)<=UU)->AJ prog (Instr.makeMap 78 none) ES (λv_4 E9=>∃m51:Nat,v_4=(.map (some m51))/\∀D0:Nat,E9 D0=none->AJ prog (Instr.storeAt 78 (.pointer (some ⟨D0,0,none⟩)) (.map (some m51))) (Hp.set E9 D0 (.cells #[(.map none)] 78 (0,0))) (λ_ DW=>∀DL:Nat,DW DL=none->AG 38 #[(.I x2),(.I x3),(.I x4)] (Hp.set DW DL (.cells #[(.N)] 23 (0,0))) R (λv_5 TG=>∃f55:Fn,∃a55:Array Value,∃c55:Array Value,(Value.func f55 a55 c55)=v_5/\∃(gf:Nat) (lb:Array Value),(Value.func f55 a55 c55)=.func (.func gf) #[] lb/\Enters prog gf/\∀(qA oK:Nat) (Wj:Loop),qA≠oK->TG qA=none->TG oK=none->(∀(R2:Rr) (Z2:Hp) (AFL:Int),Z2 oK=some (.loop (lp Wj .ready none))->GL R2 oK Wj b5 b6 E2 Bu D0 DL AFL Z2->N6 prog oK #[(.I AFL)] Z2 R2)->Spec prog gf (#[.func (.yield oK) #[] #[]]++lb) (Hp.set (Hp.set TG qA (.deferred (some []))) oK (.loop (lp Wj .ready none))) (λen PC=>∃(v:Value) (s:LoopState) (p:Option Code),en=.returned v/\PC oK=some (.loop (lp Wj s p))/\s≠.busy/\((p=none/\∃AFM:Option Addr,∃n114:Nat,∃AFN:Nat,Hp.ld (Hp.set PC oK (.loop (lp Wj .exhausted none))) ⟨DL,0,none⟩=some (.slice AFM n114 AFN)/\Spec prog 40 #[(.slice AFM n114 AFN),(.func (.func 41) #[] #[])] (Hp.set PC oK (.loop (lp Wj .exhausted none))) (BV (NP R) (λv_6 fI=>v_6=(.tuple #[])/\∃zi:Option Addr,∃n116:Nat,∃zj:Nat,Hp.ld fI ⟨DL,0,none⟩=some (.slice zi n116 zj)/\AJ prog (Instr.storeAt 23 (.pointer (some ⟨E2,0,none⟩)) (.slice zi n116 zj)) fI (λ_ AH3=>AJ prog (Instr.storeAt 24 (.pointer (some ⟨Bu,0,none⟩)) (.I 0)) AH3 (λ_ YH=>∃C:Option Addr,∃G:Nat,∃Du:Nat,∃Dx:Int,YH qA=some (.deferred (some []))/\Hp.ld (Hp.set YH qA (.deferred none)) ⟨E2,0,none⟩=some (.slice C G Du)/\Hp.ld (Hp.set YH qA (.deferred none)) ⟨Bu,0,none⟩=some (.I Dx)/\R (.T #[(.slice C G Du),(.I Dx)]) (Hp.set YH qA (.deferred none)))))))\/(p=(some .ret)/\∃gm:Option Addr,∃gn:Nat,∃gp:Nat,∃gq:Int,(Hp.set PC oK (.loop (lp Wj .exhausted (some .ret)))) qA=some (.deferred (some []))/\Hp.ld (Hp.set (Hp.set PC oK (.loop (lp Wj .exhausted (some .ret)))) qA (.deferred none)) ⟨E2,0,none⟩=some (.slice gm gn gp)/\Hp.ld (Hp.set (Hp.set PC oK (.loop (lp Wj .exhausted (some .ret)))) qA (.deferred none)) ⟨Bu,0,none⟩=some (.I gq)/\R (.T #[(.slice gm gn gp),(.I gq)]) (Hp.set (Hp.set PC oK (.loop (lp Wj .exhausted (some .ret)))) qA (.deferred none)))))))))))))))))):Spec prog 16 #[(.slice p0 n0 c0),(.slice p1 n1 c1),(.I x2),(.I x3),(.I x4)] Z R:=by
 refine Spec.sW (fn:=f16) (c:=K0) func16 (by kernel_rfl) (Anj (by kernel_rfl)) (λe he=>?_);refine At.ofL (l:=[(0,(.slice p0 n0 c0)),(1,(.slice p1 n1 c1)),(2,(.I x2)),(3,(.I x3)),(4,(.I x4))]) ⟨he 0,he 1,he 2,he 3,he 4,trivial⟩ (λJ=>?_);show At (gl R) _ _ _ _
 refine At.s K1 K2 ?_;refine At.rg 0 [0,1,2,3] ?_;refine Seq.o ?_;refine AP.AKk (T:=22) (d:=(some 5)) (ty:=0) (x:=(.tmp 0)) (gd:=none) (cs:=#[(.slice p0 n0 c0)]) (by kernel_rfl) rfl rfl rfl (λb5 hn=>?_)
 replace h:=h b5 hn
 refine Seq.o ?_;refine AP.AKk (T:=23) (d:=(some 6)) (ty:=0) (x:=(.tmp 1)) (gd:=none) (cs:=#[(.slice p1 n1 c1)]) (by kernel_rfl) rfl rfl rfl (λb6 hn=>?_)
 replace h:=h b6 hn
 refine Seq.o ?_;refine AP.Un (T:=23) (d:=(some 10)) (ty:=0)  (gd:=none) (cs:=#[(.N)]) (by kernel_rfl) rfl rfl zeroValue23 rfl (λE2 hn=>?_)
 replace h:=h E2 hn
 refine Seq.o ?_;refine AP.Un (T:=24) (d:=(some 11)) (ty:=0)  (gd:=none) (cs:=#[(.I 0)]) (by kernel_rfl) rfl rfl zeroValue24 rfl (λBu hn=>?_)
 replace h:=h Bu hn
 refine Seq.done ?_;refine At.s K3 K12 (At.s K4 K5 ?_);refine At.rg 1 [0,1,2,3] ?_;obtain⟨fH,n22,cz,hl,h⟩:=h;refine Seq.z 22 (.load 22 (.tmp 5)) 22 (.slice fH n22 cz) (Y.ld isAgg22 rfl hl) ?_;obtain⟨pr,n23,pz,hl,h⟩:=h;refine Seq.z 23 (.load 23 (.tmp 6)) 23 (.slice pr n23 pz) (Y.ld isAgg23 rfl hl) ?_;refine Seq.o ?_;refine AP.cl (some 24) call25 (h.cont λv Z1 A=>?_);replace h:=A;clear A;obtain⟨JT,rfl,h⟩:=h;refine Seq.u 12 (.I JT) (Seq.done ?_);refine At.s K6 K7 ?_;refine At.rg 2 [0,1] ?_;refine Seq.us [(25,.I JT),(26,.bool (decide ((JT:Int)≠0)))] (Seq.done ?_);cases hb:(decide ((JT:Int)≠0)) with
 | true=>
  replace h:=h.1 (Amg hb)
  refine At.cT 26 K8 K11 ?_;refine At.s K9 K10 ?_;refine At.rg 3 [0,1,2] ?_;refine Seq.u 27 (.I JT) ?_;refine Seq.o ?_;refine AP.store (T:=23) (ty:=0) (x:=(.tmp 10)) (y:=(.const (.N))) (p:=(.pointer (some ⟨E2,0,none⟩))) (v:=(.N)) (gd:=none) (by kernel_rfl) rfl rfl rfl (h.mono (λ_ JU A=>?_));replace h:=A;clear A;refine Seq.o ?_;refine AP.store (T:=24) (ty:=0) (x:=(.tmp 11)) (y:=(.tmp 27)) (p:=(.pointer (some ⟨Bu,0,none⟩))) (v:=(.I JT)) (gd:=none) (by kernel_rfl) rfl rfl rfl (h.mono (λ_ ES A=>?_));replace h:=A;clear A;refine Seq.done ?_;obtain⟨C,G,Du,Dx,U5,U6,h⟩:=h;exact At.rt [.cell 10 23,.cell 11 24] [(.slice C G Du),(.I Dx)] func16 ⟨_,_,rfl,⟨_,rfl,D5 isAgg23 U5⟩,⟨_,_,rfl,⟨_,rfl,D5 isAgg24 U6⟩,rfl⟩⟩ h
 | false=>
  replace h:=h.2 (Am4 hb)
  refine At.cF 26 K8 K11 ?_;refine At.skip ?_;refine At.s K13 K20 (At.s K14 K15 ?_);refine At.rg 4 [0,1,2,3,4,5,6,7,8,9,10,11,12,13,14,15,16] ?_;refine Seq.u 28 (.I x2) ?_;refine Seq.o ?_;refine AP.cl (some 29) call26 (h.cont λv_2 JU A=>?_);replace h:=A;clear A;obtain⟨t29,rfl,h⟩:=h;refine Seq.us [(30,.bool (!t29)),(31,.bool (!t29))] ?_;cases hb:(!t29) with
  | true=>
   replace h:=h.1 (Tw.nt hb)
   refine Seq.n 32 ?_;refine Seq.n 33 ?_;refine Seq.n 34 ?_;refine Seq.us [(35,.bool true),(36,.bool true)] ?_;refine Seq.n 37 ?_;refine Seq.n 38 ?_;refine Seq.n 39 ?_;refine Seq.us [(40,.bool true),(41,.bool true)] ?_;refine Seq.n 42 ?_;refine Seq.n 43 ?_;refine Seq.u 44 (.bool true) (Seq.done ?_);refine At.cT 44 K16 K19 ?_;refine At.s K17 K18 ?_;refine At.rg 5 [0,1] ?_;refine Seq.o ?_;refine AP.store (T:=23) (ty:=0) (x:=(.tmp 10)) (y:=(.const (.N))) (p:=(.pointer (some ⟨E2,0,none⟩))) (v:=(.N)) (gd:=none) (by kernel_rfl) rfl rfl rfl (h.mono (λ_ ES A=>?_));replace h:=A;clear A;refine Seq.o ?_;refine AP.store (T:=24) (ty:=0) (x:=(.tmp 11)) (y:=(.const (.I 221))) (p:=(.pointer (some ⟨Bu,0,none⟩))) (v:=(.I 221)) (gd:=none) (by kernel_rfl) rfl rfl rfl (h.mono (λ_ E9 A=>?_));replace h:=A;clear A;refine Seq.done ?_;obtain⟨C,G,Du,Dx,U5,U6,h⟩:=h;exact At.rt [.cell 10 23,.cell 11 24] [(.slice C G Du),(.I Dx)] func16 ⟨_,_,rfl,⟨_,rfl,D5 isAgg23 U5⟩,⟨_,_,rfl,⟨_,rfl,D5 isAgg24 U6⟩,rfl⟩⟩ h
  | false=>
   replace h:=h.2 (Tw.nf hb)
   refine Seq.u 32 (.I x3) ?_;refine Seq.o ?_;refine AP.cl (some 33) call26 (h.cont λv_3 ES A=>?_);replace h:=A;clear A;obtain⟨t33,rfl,h⟩:=h;refine Seq.us [(34,.bool (!t33)),(35,.bool (!t33)),(36,.bool (!t33))] ?_;cases hb:(!t33) with
   | true=>
    replace h:=h.1 (Tw.nt hb)
    refine Seq.n 37 ?_;refine Seq.n 38 ?_;refine Seq.n 39 ?_;refine Seq.us [(40,.bool true),(41,.bool true)] ?_;refine Seq.n 42 ?_;refine Seq.n 43 ?_;refine Seq.u 44 (.bool true) (Seq.done ?_);refine At.L [(2,(.I x2)),(3,(.I x3)),(4,(.I x4)),(5,(.pointer (some ⟨b5,0,none⟩))),(6,(.pointer (some ⟨b6,0,none⟩))),(10,(.pointer (some ⟨E2,0,none⟩))),(11,(.pointer (some ⟨Bu,0,none⟩))),(44,(.bool true))] λJ=>?_;refine At.cT 44 K16 K19 ?_;refine At.s K17 K18 ?_;refine At.rg 5 [0,1] ?_;refine Seq.o ?_;refine AP.store (T:=23) (ty:=0) (x:=(.tmp 10)) (y:=(.const (.N))) (p:=(.pointer (some ⟨E2,0,none⟩))) (v:=(.N)) (gd:=none) (by kernel_rfl) rfl rfl rfl (h.mono (λ_ E9 A=>?_));replace h:=A;clear A;refine Seq.o ?_;refine AP.store (T:=24) (ty:=0) (x:=(.tmp 11)) (y:=(.const (.I 221))) (p:=(.pointer (some ⟨Bu,0,none⟩))) (v:=(.I 221)) (gd:=none) (by kernel_rfl) rfl rfl rfl (h.mono (λ_ DW A=>?_));replace h:=A;clear A;refine Seq.done ?_;obtain⟨C,G,Du,Dx,U5,U6,h⟩:=h;exact At.rt [.cell 10 23,.cell 11 24] [(.slice C G Du),(.I Dx)] func16 ⟨_,_,rfl,⟨_,rfl,D5 isAgg23 U5⟩,⟨_,_,rfl,⟨_,rfl,D5 isAgg24 U6⟩,rfl⟩⟩ h
   | false=>
    replace h:=h.2 (Tw.nf hb)
    refine Seq.us [(37,.I x2),(38,.I x3),(39,.bool (decide ((x3:Int)<x2))),(40,.bool (decide ((x3:Int)<x2))),(41,.bool (decide ((x3:Int)<x2)))] ?_;cases hb:(decide ((x3:Int)<x2)) with
    | true=>
     replace h:=h.1 (Amg hb)
     refine Seq.n 42 ?_;refine Seq.n 43 ?_;refine Seq.u 44 (.bool true) (Seq.done ?_);refine At.cT 44 K16 K19 ?_;refine At.s K17 K18 ?_;refine At.rg 5 [0,1] ?_;refine Seq.o ?_;refine AP.store (T:=23) (ty:=0) (x:=(.tmp 10)) (y:=(.const (.N))) (p:=(.pointer (some ⟨E2,0,none⟩))) (v:=(.N)) (gd:=none) (by kernel_rfl) rfl rfl rfl (h.mono (λ_ E9 A=>?_));replace h:=A;clear A;refine Seq.o ?_;refine AP.store (T:=24) (ty:=0) (x:=(.tmp 11)) (y:=(.const (.I 221))) (p:=(.pointer (some ⟨Bu,0,none⟩))) (v:=(.I 221)) (gd:=none) (by kernel_rfl) rfl rfl rfl (h.mono (λ_ DW A=>?_));replace h:=A;clear A;refine Seq.done ?_;obtain⟨C,G,Du,Dx,U5,U6,h⟩:=h;exact At.rt [.cell 10 23,.cell 11 24] [(.slice C G Du),(.I Dx)] func16 ⟨_,_,rfl,⟨_,rfl,D5 isAgg23 U5⟩,⟨_,_,rfl,⟨_,rfl,D5 isAgg24 U6⟩,rfl⟩⟩ h
    | false=>
     replace h:=h.2 (Am4 hb)
     refine Seq.us [(42,.I x4),(43,.bool (decide ((x4:Int)<1))),(44,.bool (decide ((x4:Int)<1)))] (Seq.done ?_);cases hb:(decide ((x4:Int)<1)) with
     | true=>
      replace h:=h.1 (Amg hb)
      refine At.cT 44 K16 K19 ?_;refine At.s K17 K18 ?_;refine At.rg 5 [0,1] ?_;refine Seq.o ?_;refine AP.store (T:=23) (ty:=0) (x:=(.tmp 10)) (y:=(.const (.N))) (p:=(.pointer (some ⟨E2,0,none⟩))) (v:=(.N)) (gd:=none) (by kernel_rfl) rfl rfl rfl (h.mono (λ_ E9 A=>?_));replace h:=A;clear A;refine Seq.o ?_;refine AP.store (T:=24) (ty:=0) (x:=(.tmp 11)) (y:=(.const (.I 221))) (p:=(.pointer (some ⟨Bu,0,none⟩))) (v:=(.I 221)) (gd:=none) (by kernel_rfl) rfl rfl rfl (h.mono (λ_ DW A=>?_));replace h:=A;clear A;refine Seq.done ?_;obtain⟨C,G,Du,Dx,U5,U6,h⟩:=h;exact At.rt [.cell 10 23,.cell 11 24] [(.slice C G Du),(.I Dx)] func16 ⟨_,_,rfl,⟨_,rfl,D5 isAgg23 U5⟩,⟨_,_,rfl,⟨_,rfl,D5 isAgg24 U6⟩,rfl⟩⟩ h
     | false=>
      replace h:=h.2 (Am4 hb)
      refine At.cF 44 K16 K19 ?_;refine At.skip ?_;refine At.s K21 K28 (At.s K22 K23 ?_);refine At.rg 6 [0,1,2,3,4,5] ?_;refine Seq.us [(45,.I x3),(46,.I x2)] ?_;obtain⟨hi,h⟩:=h;refine Seq.z 47 (.binOp .sub 2 (.tmp 45) (.tmp 46) 2) 2 (.I (x3-x2)) (Y.AZf hi rfl rfl) ?_;refine Seq.u 48 (.I x4) ?_;obtain⟨hc,h⟩:=h;obtain⟨UU,AH4⟩:∃y,y=IntKind.i64.wrap (Int.tdiv (x3-x2) x4):=⟨_,rfl⟩
      replace h:=h UU AH4
      refine Seq.y (d:=(some 49)) (op:=(.binOp .quo 2 (.tmp 47) (.tmp 48) 2)) (ty:=2) (v:=(.I UU)) (by kernel_rfl) rfl (AH4▸Y.quo hc rfl rfl) ?_;refine Seq.u 50 (.bool (decide ((512:Int)<=UU))) (Seq.done ?_);cases hb:(decide ((512:Int)<=UU)) with
      | true=>
       replace h:=h.1 (Amg hb)
       refine At.cT 50 K24 K27 ?_;refine At.s K25 K26 ?_;refine At.rg 7 [0,1] ?_;refine Seq.o ?_;refine AP.store (T:=23) (ty:=0) (x:=(.tmp 10)) (y:=(.const (.N))) (p:=(.pointer (some ⟨E2,0,none⟩))) (v:=(.N)) (gd:=none) (by kernel_rfl) rfl rfl rfl (h.mono (λ_ E9 A=>?_));replace h:=A;clear A;refine Seq.o ?_;refine AP.store (T:=24) (ty:=0) (x:=(.tmp 11)) (y:=(.const (.I 222))) (p:=(.pointer (some ⟨Bu,0,none⟩))) (v:=(.I 222)) (gd:=none) (by kernel_rfl) rfl rfl rfl (h.mono (λ_ DW A=>?_));replace h:=A;clear A;refine Seq.done ?_;obtain⟨C,G,Du,Dx,U5,U6,h⟩:=h;exact At.rt [.cell 10 23,.cell 11 24] [(.slice C G Du),(.I Dx)] func16 ⟨_,_,rfl,⟨_,rfl,D5 isAgg23 U5⟩,⟨_,_,rfl,⟨_,rfl,D5 isAgg24 U6⟩,rfl⟩⟩ h
      | false=>
       replace h:=h.2 (Am4 hb)
       refine At.cF 50 K24 K27 ?_;refine At.skip ?_;refine At.s K29 K30 ?_;refine At.rg 8 [0,1,2] ?_;refine Seq.o ?_;refine AP.Xl (d:=(some 51)) (op:=(.makeMap 78 none)) (ty:=78) (gd:=none) (by kernel_rfl) rfl rfl (Instr.makeMap 78 none) (λo ho ht=>by simp only[execOp,ho];rfl) (h.mono (λv_4 E9 A=>?_));replace h:=A;clear A;obtain⟨m51,rfl,h⟩:=h;refine Seq.o ?_;refine AP.Un (T:=78) (d:=(some 13)) (ty:=0)  (gd:=none) (cs:=#[(.map none)]) (by kernel_rfl) rfl rfl zeroValue78 rfl (λD0 hn=>?_)
       replace h:=h D0 hn
       refine Seq.o ?_;refine AP.store (T:=78) (ty:=0) (x:=(.tmp 13)) (y:=(.tmp 51)) (p:=(.pointer (some ⟨D0,0,none⟩))) (v:=(.map (some m51))) (gd:=none) (by kernel_rfl) rfl rfl rfl (h.mono (λ_ DW A=>?_));replace h:=A;clear A;refine Seq.done ?_;refine At.s K31 K32 ?_;refine At.rg 9 [0] ?_;refine Seq.o ?_;refine AP.Un (T:=23) (d:=(some 14)) (ty:=0)  (gd:=none) (cs:=#[(.N)]) (by kernel_rfl) rfl rfl zeroValue23 rfl (λDL hn=>?_)
       replace h:=h DL hn
       refine Seq.done ?_;refine At.s K33 K77 (At.s K34 K35 ?_);refine At.rg 10 [0,1,2,3] ?_;refine Seq.us [(52,.I x2),(53,.I x3),(54,.I x4)] ?_;refine Seq.o ?_;refine AP.cl (some 55) call38 (h.cont λv_5 TG A=>?_);replace h:=A;clear A;obtain⟨f55,a55,c55,rfl,h⟩:=h;refine Seq.done ?_;refine At.b 0 K36 ?_;obtain⟨gf,lb,hgv,Wg,h⟩:=h;refine At.range (gop:=(.tmp 55)) (ps:=#[56]) (assign:=K37) (body:=K38) (gf:=gf) (lb:=lb) (by kernel_rfl) rfl rfl hgv Wg (λqA oK Wj vi hD hl hrf hrp hra hrb hrs hre=>?_);refine(h qA oK Wj vi hD hl (λR2 Z2 AFL Aae hp=>N6.sW (n:=117) Aae hrp hrs (by decide) hre (fn:=f16) (by rw[hrf];exact func16) ?_)).mono (λen PC h=>?_)
       .rw[hrf,hra,hrb];exact At.v [(5,(.pointer (some ⟨b5,0,none⟩))),(6,(.pointer (some ⟨b6,0,none⟩))),(10,(.pointer (some ⟨E2,0,none⟩))),(11,(.pointer (some ⟨Bu,0,none⟩))),(13,(.pointer (some ⟨D0,0,none⟩))),(14,(.pointer (some ⟨DL,0,none⟩))),(56,(.I AFL))] (hp _)
       obtain⟨v,s,p,he,AKt,hs,h⟩:=h;refine⟨v,s,p,he,AKt,hs,?_⟩;rcases h with h|h
       .obtain⟨rfl,h⟩:=h;show At (Gl.behind prog 16 117 qA R) [.inBlock 0,.code K77] _ _ _
        refine At.inBlock ?_;refine At.s K78 K79 ?_;refine At.rg 25 [0,1] ?_;obtain⟨AFM,n114,AFN,hl,h⟩:=h;refine Seq.z 114 (.load 23 (.tmp 14)) 23 (.slice AFM n114 AFN) (Y.ld isAgg23 rfl hl) ?_;refine Seq.o ?_;refine AP.cl (some 115) call40 (h.cont λv_6 fI A=>?_);replace h:=A;clear A;obtain⟨rfl,h⟩:=h;refine Seq.done ?_;refine At.L [(10,(.pointer (some ⟨E2,0,none⟩))),(11,(.pointer (some ⟨Bu,0,none⟩))),(14,(.pointer (some ⟨DL,0,none⟩)))] λJ=>?_;refine At.s K80 K81 ?_;refine At.rg 26 [0,1,2] ?_;obtain⟨zi,n116,zj,hl,h⟩:=h;refine Seq.z 116 (.load 23 (.tmp 14)) 23 (.slice zi n116 zj) (Y.ld isAgg23 rfl hl) ?_;refine Seq.o ?_;refine AP.store (T:=23) (ty:=0) (x:=(.tmp 10)) (y:=(.tmp 116)) (p:=(.pointer (some ⟨E2,0,none⟩))) (v:=(.slice zi n116 zj)) (gd:=none) (by kernel_rfl) rfl rfl rfl (h.mono (λ_ AH3 A=>?_));replace h:=A;clear A;refine Seq.o ?_;refine AP.store (T:=24) (ty:=0) (x:=(.tmp 11)) (y:=(.const (.I 0))) (p:=(.pointer (some ⟨Bu,0,none⟩))) (v:=(.I 0)) (gd:=none) (by kernel_rfl) rfl rfl rfl (h.mono (λ_ YH A=>?_));replace h:=A;clear A;refine Seq.done ?_;obtain⟨C,G,Du,Dx,hmk,U5,U6,h⟩:=h;exact At.gQ (rs:=[.cell 10 23,.cell 11 24]) (vs:=[(.slice C G Du),(.I Dx)]) (by kernel_rfl) func16 (by kernel_rfl) ⟨_,_,rfl,⟨_,rfl,D5 isAgg23 U5⟩,⟨_,_,rfl,⟨_,rfl,D5 isAgg24 U6⟩,rfl⟩⟩ h rfl (yx hmk)
       .obtain⟨rfl,h⟩:=h;show At (Gl.behind prog 16 117 qA R) [.code K82,.inBlock 0,.code K77] _ _ _
        obtain⟨gm,gn,gp,gq,hmk,ALf,ALg,h⟩:=h;exact At.gQ (rs:=[.cell 10 23,.cell 11 24]) (vs:=[(.slice gm gn gp),(.I gq)]) (by kernel_rfl) func16 (by kernel_rfl) ⟨_,_,rfl,⟨_,rfl,D5 isAgg23 ALf⟩,⟨_,_,rfl,⟨_,rfl,D5 isAgg24 ALg⟩,rfl⟩⟩ h rfl (yx hmk)
def Ih {R:Rr}{l b5 b6 E2 Bu D0 DL:Nat}{r0:Loop}{tJ:Int}{Z:Hp}(h:Z l=some (.loop (lp r0 .ready none))/\∃U7:Option Addr,∃U8:Nat,∃Wk:Nat,Hp.ld (Hp.set Z l (.loop (lp r0 .busy none))) ⟨b5,0,none⟩=some (.slice U7 U8 Wk)/\∃p59:Option Addr,∃n59:Nat,∃G:Nat,Hp.ld (Hp.set Z l (.loop (lp r0 .busy none))) ⟨b6,0,none⟩=some (.slice p59 n59 G)/\Spec prog 27 #[(.slice U7 U8 Wk),(.slice p59 n59 G),(.I tJ)] (Hp.set Z l (.loop (lp r0 .busy none))) (BV (NP R) (λv Z1=>∃kr:Option Addr,∃C:Nat,∃ks:Nat,∃A:Int,v=(.tuple #[(.slice kr C ks),(.I A)])/\((A:Int)≠0->AJ prog (Instr.storeAt 23 (.pointer (some ⟨E2,0,none⟩)) (.N)) Z1 (λ_ JU=>AJ prog (Instr.storeAt 24 (.pointer (some ⟨Bu,0,none⟩)) (.I A)) JU (λ_ ES=>ES l=some (.loop (lp r0 .busy none))/\R (.B false) (Hp.set ES l (.loop (lp r0 .done (some .ret)))))))/\(¬((A:Int)≠0)->U4 R l r0 D0 DL tJ kr C ks ((C:Int)) 0 Z1)))):GL R l r0 b5 b6 E2 Bu D0 DL tJ Z:=by
 intro J;show At (Gl.round prog 16 117 l R) _ _ _ _
 refine At.rg 11 [0] ?_;refine Seq.u 15 (.I tJ) (Seq.done ?_);obtain⟨sU,h⟩:=h;refine At.beginRound rfl sU ?_;refine At.b 1 K39 ?_;refine At.s K40 K41 ?_;refine At.rg 12 [0,1,2,3,4,5,6,7,8] ?_;obtain⟨U7,U8,Wk,hl,h⟩:=h;refine Seq.z 58 (.load 22 (.tmp 5)) 22 (.slice U7 U8 Wk) (Y.ld isAgg22 rfl hl) ?_;obtain⟨p59,n59,G,hl,h⟩:=h;refine Seq.z 59 (.load 23 (.tmp 6)) 23 (.slice p59 n59 G) (Y.ld isAgg23 rfl hl) ?_;refine Seq.u 60 (.I tJ) ?_;refine Seq.o ?_;refine AP.cl (some 61) call27 (h.cont λv Z1 h2=>?_);replace h:=h2;clear h2;obtain⟨kr,C,ks,A,rfl,h⟩:=h;refine Seq.us [(57,.tuple #[(.slice kr C ks),(.I A)]),(62,.slice kr C ks),(63,.I A),(16,.slice kr C ks),(17,.I A)] (Seq.done ?_);refine At.s K42 K49 (At.s K43 K44 ?_);refine At.rg 13 [0,1] ?_;refine Seq.us [(64,.I A),(65,.bool (decide ((A:Int)≠0)))] (Seq.done ?_);cases hb:(decide ((A:Int)≠0)) with
 | true=>
  replace h:=h.1 (Amg hb)
  refine At.cT 65 K45 K48 ?_;refine At.s K46 K47 ?_;refine At.rg 14 [0,1,2] ?_;refine Seq.u 66 (.I A) ?_;refine Seq.o ?_;refine AP.store (T:=23) (ty:=0) (x:=(.tmp 10)) (y:=(.const (.N))) (p:=(.pointer (some ⟨E2,0,none⟩))) (v:=(.N)) (gd:=none) (by kernel_rfl) rfl rfl rfl (h.mono (λ_ JU h2=>?_));replace h:=h2;clear h2;refine Seq.o ?_;refine AP.store (T:=24) (ty:=0) (x:=(.tmp 11)) (y:=(.tmp 66)) (p:=(.pointer (some ⟨Bu,0,none⟩))) (v:=(.I A)) (gd:=none) (by kernel_rfl) rfl rfl rfl (h.mono (λ_ ES h2=>?_));replace h:=h2;clear h2;refine Seq.done ?_;exact At.yi (by kernel_rfl) rfl h.1 h.2
 | false=>
  replace h:=h.2 (Am4 hb)
  refine At.cF 65 K45 K48 ?_;refine At.skip ?_;refine At.s K50 K51 ?_;refine At.rg 15 [0,1,2] ?_;refine Seq.u 67 (.slice kr C ks) ?_;refine Seq.z 68 (.call { callee:=.builtin .len,args:=#[(.tmp 67)],argTypes:=#[54] }) 3 (.I (C:Int)) (Y.AKe underlying54 rfl rfl) ?_;refine Seq.u 69 (.I 0) (Seq.done ?_);refine At.b 2 K52 ?_;refine At.loop (x:=K53) (by kernel_rfl) ?_;refine At.s K54 K55 ?_;exact At.v [(13,(.pointer (some ⟨D0,0,none⟩))),(14,(.pointer (some ⟨DL,0,none⟩))),(15,(.I tJ)),(67,(.slice kr C ks)),(68,(.I (C:Int))),(69,(.I 0))] (h _)
def M0 {R:Rr}{l D0 DL Ml RT:Nat}{r0:Loop}{x15 RU RV:Int}{S3:Option Addr}{Z:Hp}(h:((RV:Int)<RU->∃(Nj tK:Nat),S3=some ⟨Nj,tK,none⟩/\((0:Int)<=RV/\RV<(Ml:Int))/\∃zk:Option Addr,∃zl:Nat,∃zm:Nat,∃Lx:Int,Af Z Nj (tK+RV.toNat*2) [(.slice zk zl zm),(.U Lx)]/\∀C:Nat,Z C=none->AJ prog (Instr.storeAt 59 (.pointer (some ⟨C,0,none⟩)) (.agg #[(.slice zk zl zm),(.U Lx)])) (Hp.set Z C (.cells #[(.N),(.U 0)] 59 (0,0))) (λ_ Z1=>∃qB:Option Nat,Hp.ld Z1 ⟨D0,0,none⟩=some (.map qB)/\∃zn:Option Addr,∃zo:Nat,∃zp:Nat,Hp.ld Z1 ⟨C,0,none⟩=some (.slice zn zo zp)/\Spec prog 39 #[(.slice zn zo zp)] Z1 (BV (NP R) (λv JU=>∃s77:ByteArray,v=(.string s77)/\Kp [D0] Z1 JU/\AJ prog (Instr.lookup 78 (.map qB) (.string s77) true) JU (λv_2 ES=>∃dO:Int,∃dP:Bool,v_2=(.tuple #[(.I dO),(.bool dP)])/\(dP=false->∃vj:Option Addr,∃dQ:Nat,∃vk:Nat,Hp.ld ES ⟨DL,0,none⟩=some (.slice vj dQ vk)/\∃m85:Option Nat,Hp.ld ES ⟨D0,0,none⟩=some (.map m85)/\∃p87:Option Addr,∃n87:Nat,∃c87:Nat,Hp.ld ES ⟨C,0,none⟩=some (.slice p87 n87 c87)/\Spec prog 39 #[(.slice p87 n87 c87)] ES (BV (NP R) (λv_3 E9=>∃s88:ByteArray,v_3=(.string s88)/\Kp [D0] ES E9/\AJ prog (Instr.mapUpdate 78 (.map m85) (.string s88) (.I (dQ:Int))) E9 (λ_ DW=>∃p90:Option Addr,∃n90:Nat,∃c90:Nat,Hp.ld DW ⟨DL,0,none⟩=some (.slice p90 n90 c90)/\∃p93:Option Addr,∃n93:Nat,∃c93:Nat,Hp.ld DW ⟨C,0,none⟩=some (.slice p93 n93 c93)/\∀tL:Nat,DW tL=none->AJ prog (Builtin.append_ #[47,47] 47 #[(.slice (some ⟨tL,0,none⟩) 0 0),(.slice p93 n93 c93)]) (Hp.set DW tL (.cells #[] 71 (0,0))) (λv_4 TG=>∃p94:Option Addr,∃n94:Nat,∃G:Nat,v_4=(.slice p94 n94 G)/\Kp [DL] (Hp.set DW tL (.cells #[] 71 (0,0))) TG/\∀jn:Nat,TG jn=none->AJ prog (Builtin.append_ #[23,23] 23 #[(.slice p90 n90 c90),(.slice (some ⟨jn,0,none⟩) 1 1)]) (Hp.set TG jn (.cells #[(.slice p94 n94 G),(.N)] 51 (0,0))) (λv_5 PC=>∃p97:Option Addr,∃n97:Nat,∃c97:Nat,v_5=(.slice p97 n97 c97)/\AJ prog (Instr.storeAt 23 (.pointer (some ⟨DL,0,none⟩)) (.slice p97 n97 c97)) PC (λ_ fI=>AFK R l r0 D0 DL x15 C ((dQ:Int)) ((some ⟨Nj,tK,none⟩)) Ml RT RU RV fI)))))))/\(dP=true->AFK R l r0 D0 DL x15 C dO ((some ⟨Nj,tK,none⟩)) Ml RT RU RV ES))))))/\(¬((RV:Int)<RU)->Z l=some (.loop (lp r0 .busy none))/\R (.B true) (Hp.set Z l (.loop (lp r0 .ready none))))):U4 R l r0 D0 DL x15 S3 Ml RT RU RV Z:=by
 intro J;show At (Gl.round prog 16 117 l R) _ _ _ _
 refine At.rg 16 [0] ?_;refine Seq.u 70 (.bool (decide ((RV:Int)<RU))) (Seq.done ?_);refine At.s K56 K59 ?_;cases hb:(decide ((RV:Int)<RU)) with
 | true=>
  replace h:=h.1 (Amg hb)
  refine At.cT 70 K57 K58 ?_;refine At.skip ?_;refine At.s K60 K76 ?_;refine At.b 3 K61 ?_;refine At.s K62 K63 ?_;refine At.rg 17 [0,1,2,3] ?_;obtain⟨Nj,tK,hq,h⟩:=h;subst hq;obtain⟨hi,h⟩:=h;refine Seq.z 71 (.indexAddr 54 (.tmp 67) (.tmp 69)) 0 (.pointer (some ⟨Nj,(tK+RV.toNat*2),none⟩)) (Y.idx underlying54 sizeOf59 rfl rfl hi rfl) ?_;obtain⟨zk,zl,zm,Lx,hl,h⟩:=h;refine Seq.z 72 (.load 59 (.tmp 71)) 59 (.agg #[(.slice zk zl zm),(.U Lx)]) (Y.lda isAgg59 sizeOf59 rfl rfl hl) ?_;refine Seq.o ?_;refine AP.Un (T:=59) (d:=(some 19)) (ty:=0)  (gd:=none) (cs:=#[(.N),(.U 0)]) (by kernel_rfl) rfl rfl zeroValue59 rfl (λC hn=>?_)
  replace h:=h C hn
  refine Seq.o ?_;refine AP.store (T:=59) (ty:=0) (x:=(.tmp 19)) (y:=(.tmp 72)) (p:=(.pointer (some ⟨C,0,none⟩))) (v:=(.agg #[(.slice zk zl zm),(.U Lx)])) (gd:=none) (by kernel_rfl) rfl rfl rfl (h.mono (λ_ Z1 A=>?_));replace h:=A;clear A;refine Seq.done ?_;refine At.s K64 K65 ?_;refine At.draw (id:=18) (ops:=cO K64) (n:=10) (q:=(some [])) (plan:=[(0,true),(1,true),(2,true),(3,false),(4,false),(5,true),(6,true),(7,true),(8,true),(9,true)]) (tl:=[]) mixed (by kernel_rfl) (by kernel_rfl) ?_;obtain⟨qB,hl,h⟩:=h;refine Head.yl D0 [[4]] rfl (by kernel_rfl) (d:=(some 74)) (op:=(.load 78 (.tmp 13))) (ty:=78) (v:=(.map qB)) (by kernel_rfl) rfl (Y.ld isAgg78 rfl (LA hl)) ?_;refine Head.z 75 (.fieldAddr 59 (.tmp 19) 0) 0 (.pointer (some ⟨C,0,none⟩)) (Y.fieldAddr (fd:=(Qt prog 59 0)) underlying59 (by kernel_rfl) sizeOf47 rfl rfl) ?_;obtain⟨zn,zo,zp,hl,h⟩:=h;refine Head.yl C [[3],[4,3]] rfl (by kernel_rfl) (d:=(some 76)) (op:=(.load 47 (.tmp 75))) (ty:=47) (v:=(.slice zn zo zp)) (by kernel_rfl) rfl (Y.ld isAgg47 rfl (LA hl)) ?_;refine Head.o (q':=(some [(D0,[4])])) rfl ?_;refine AP.cl (some 77) call39 (h.cont λv JU A=>?_);replace h:=A;clear A;obtain⟨s77,rfl,hk,h⟩:=h;refine⟨⟨λ_ h=>h,j7 (L:=[(D0,[4])]) hk⟩,?_⟩;refine Head.o (q':=(some [])) rfl ?_;refine AP.Xl (d:=(some 78)) (op:=(.lookup 78 (.tmp 74) (.tmp 77) true)) (ty:=81) (gd:=none) (by kernel_rfl) rfl rfl (Instr.lookup 78 (.map qB) (.string s77) true) (λo ho ht=>by simp only[execOp,ho];rfl) (h.mono (λv_2 ES A=>?_));replace h:=A;clear A;obtain⟨dO,dP,rfl,h⟩:=h;refine⟨⟨λ_ h=>h,j7 (L:=[]) Kp.nil⟩,?_⟩;refine Head.u 73 (.tuple #[(.I dO),(.bool dP)]) ?_;refine Head.u 79 (.I dO) ?_;refine Head.u 80 (.bool dP) ?_;refine Head.u 20 (.I dO) ?_;refine Head.u 21 (.bool dP) ?_;refine Head.done ?_;refine Seq.done ?_;refine At.s K66 K75 (At.s K67 K68 ?_);refine At.rg 19 [0,1] ?_;refine Seq.us [(81,.bool dP),(82,.bool (!dP))] (Seq.done ?_);cases hb:(!dP) with
  | true=>
   replace h:=h.1 (Tw.nt hb)
   refine At.cT 82 K69 K74 ?_;refine At.s K70 K71 ?_;refine At.rg 20 [0,1,2] ?_;obtain⟨vj,dQ,vk,hl,h⟩:=h;refine Seq.z 83 (.load 23 (.tmp 14)) 23 (.slice vj dQ vk) (Y.ld isAgg23 rfl hl) ?_;refine Seq.z 84 (.call { callee:=.builtin .len,args:=#[(.tmp 83)],argTypes:=#[23] }) 3 (.I (dQ:Int)) (Y.AKe underlying23 rfl rfl) ?_;refine Seq.u 20 (.I (dQ:Int)) (Seq.done ?_);refine At.s K72 K73 ?_;refine At.draw (id:=21) (ops:=cO K72) (n:=5) (q:=(some [])) (plan:=[(0,true),(1,true),(2,true),(4,true),(3,false)]) (tl:=[5]) mixed (by kernel_rfl) (by kernel_rfl) ?_;obtain⟨m85,hl,h⟩:=h;refine Head.yl D0 [] rfl (by kernel_rfl) (d:=(some 85)) (op:=(.load 78 (.tmp 13))) (ty:=78) (v:=(.map m85)) (by kernel_rfl) rfl (Y.ld isAgg78 rfl (LA hl)) ?_;refine Head.z 86 (.fieldAddr 59 (.tmp 19) 0) 0 (.pointer (some ⟨C,0,none⟩)) (Y.fieldAddr (fd:=(Qt prog 59 0)) underlying59 (by kernel_rfl) sizeOf47 rfl rfl) ?_;obtain⟨p87,n87,c87,hl,h⟩:=h;refine Head.yl C [[3]] rfl (by kernel_rfl) (d:=(some 87)) (op:=(.load 47 (.tmp 86))) (ty:=47) (v:=(.slice p87 n87 c87)) (by kernel_rfl) rfl (Y.ld isAgg47 rfl (LA hl)) ?_;refine Head.u 89 (.I (dQ:Int)) ?_;refine Head.o (q':=(some [(D0,[])])) rfl ?_;refine AP.cl (some 88) call39 (h.cont λv_3 E9 A=>?_);replace h:=A;clear A;obtain⟨s88,rfl,hk,h⟩:=h;refine⟨⟨λ_ h=>h,j7 (L:=[(D0,[])]) hk⟩,?_⟩;refine Head.done ?_;refine Seq.o ?_;refine AP.AEv (d:=none) (op:=(.mapUpdate 78 (.tmp 85) (.tmp 88) (.tmp 89))) (ty:=0) (gd:=none) (by kernel_rfl) rfl rfl (Instr.mapUpdate 78 (.map m85) (.string s88) (.I (dQ:Int))) (λo ho ht=>by simp only[execOp,ho];rfl) (h.mono (λ_ DW A=>?_));replace h:=A;clear A;refine Seq.done ?_;refine At.draw (id:=22) (ops:=cO K73) (n:=7) (q:=(some [])) (plan:=[(0,true),(2,true),(3,true),(1,false),(4,false),(5,true),(6,false)]) (tl:=[7,8]) mixed (by kernel_rfl) (by kernel_rfl) ?_;obtain⟨p90,n90,c90,hl,h⟩:=h;refine Head.yl DL [] rfl (by kernel_rfl) (d:=(some 90)) (op:=(.load 23 (.tmp 14))) (ty:=23) (v:=(.slice p90 n90 c90)) (by kernel_rfl) rfl (Y.ld isAgg23 rfl (LA hl)) ?_;refine Head.z 92 (.fieldAddr 59 (.tmp 19) 0) 0 (.pointer (some ⟨C,0,none⟩)) (Y.fieldAddr (fd:=(Qt prog 59 0)) underlying59 (by kernel_rfl) sizeOf47 rfl rfl) ?_;obtain⟨p93,n93,c93,hl,h⟩:=h;refine Head.yl C [[4],[6,5,4]] rfl (by kernel_rfl) (d:=(some 93)) (op:=(.load 47 (.tmp 92))) (ty:=47) (v:=(.slice p93 n93 c93)) (by kernel_rfl) rfl (Y.ld isAgg47 rfl (LA hl)) ?_;refine Head.o (q':=(some [(C,[4,6]),(DL,[])])) rfl ?_;refine AP.Mq (T:=47) (E:=71) (m:=0) (ps:=#[]) (d:=(some 91)) (ty:=47) (gd:=none) (vs:=[]) (cs:=#[]) underlying47 (by kernel_rfl) rfl rfl rfl (by kernel_rfl) (λtL hn=>?_);refine⟨⟨λ_ h=>h,j7 (Kp.H9 (Ext.set hn))⟩,?_⟩
   replace h:=h tL hn
   refine Head.o (q':=(some [(DL,[])])) rfl ?_;refine AP.Xl (d:=(some 94)) (op:=(.call { callee:=.builtin .append,args:=#[(.tmp 91),(.tmp 93)],argTypes:=#[47,47] })) (ty:=47) (gd:=none) (by kernel_rfl) rfl rfl (Builtin.append_ #[47,47] 47 #[(.slice (some ⟨tL,0,none⟩) 0 0),(.slice p93 n93 c93)]) (λo ho ht=>Ie rfl rfl o ho ht) (h.mono (λv_4 TG A=>?_));replace h:=A;clear A;obtain⟨p94,n94,G,rfl,hk,h⟩:=h;refine⟨⟨λ_ h=>h,j7 (L:=[(DL,[])]) hk⟩,?_⟩;refine Head.z 95 (.build 51 #[(0,(.tmp 94))]) 51 (.agg #[(.slice p94 n94 G),(.N)]) (Y.build (vs:=[(0,(.slice p94 n94 G))]) rfl (by kernel_rfl)) ?_;refine Head.o (q':=(some [(DL,[])])) rfl ?_;refine AP.Mq (T:=23) (E:=51) (m:=1) (ps:=#[(0,(.tmp 95))]) (d:=(some 96)) (ty:=23) (gd:=none) (vs:=[(0,(.agg #[(.slice p94 n94 G),(.N)]))]) (cs:=#[(.slice p94 n94 G),(.N)]) underlying23 (by kernel_rfl) rfl rfl rfl (by kernel_rfl) (λjn hn=>?_);refine⟨⟨λ_ h=>h,j7 (Kp.H9 (Ext.set hn))⟩,?_⟩
   replace h:=h jn hn
   refine Head.done ?_;refine Seq.o ?_;refine AP.Xl (d:=(some 97)) (op:=(.call { callee:=.builtin .append,args:=#[(.tmp 90),(.tmp 96)],argTypes:=#[23,23] })) (ty:=23) (gd:=none) (by kernel_rfl) rfl rfl (Builtin.append_ #[23,23] 23 #[(.slice p90 n90 c90),(.slice (some ⟨jn,0,none⟩) 1 1)]) (λo ho ht=>Ie rfl rfl o ho ht) (h.mono (λv_5 PC A=>?_));replace h:=A;clear A;obtain⟨p97,n97,c97,rfl,h⟩:=h;refine Seq.o ?_;refine AP.store (T:=23) (ty:=0) (x:=(.tmp 14)) (y:=(.tmp 97)) (p:=(.pointer (some ⟨DL,0,none⟩))) (v:=(.slice p97 n97 c97)) (gd:=none) (by kernel_rfl) rfl rfl rfl (h.mono (λ_ fI A=>?_));replace h:=A;clear A;refine Seq.done ?_;refine At.L [(13,(.pointer (some ⟨D0,0,none⟩))),(14,(.pointer (some ⟨DL,0,none⟩))),(15,(.I x15)),(19,(.pointer (some ⟨C,0,none⟩))),(20,(.I (dQ:Int))),(67,(.slice (some ⟨Nj,tK,none⟩) Ml RT)),(68,(.I RU)),(69,(.I RV))] λJ=>?_;exact At.v [(13,(.pointer (some ⟨D0,0,none⟩))),(14,(.pointer (some ⟨DL,0,none⟩))),(15,(.I x15)),(19,(.pointer (some ⟨C,0,none⟩))),(20,(.I (dQ:Int))),(67,(.slice (some ⟨Nj,tK,none⟩) Ml RT)),(68,(.I RU)),(69,(.I RV))] (h _)
  | false=>
   replace h:=h.2 (Tw.nf hb)
   refine At.cF 82 K69 K74 ?_;refine At.skip ?_;exact At.v [(13,(.pointer (some ⟨D0,0,none⟩))),(14,(.pointer (some ⟨DL,0,none⟩))),(15,(.I x15)),(19,(.pointer (some ⟨C,0,none⟩))),(20,(.I dO)),(67,(.slice (some ⟨Nj,tK,none⟩) Ml RT)),(68,(.I RU)),(69,(.I RV))] (h _)
 | false=>
  replace h:=h.2 (Am4 hb)
  refine At.cF 70 K57 K58 ?_;refine At.x 2 [.inBlock 1] ?_;refine At.inBlock ?_;exact At.yh rfl h.1 h.2
def AFS {R:Rr}{l D0 DL D8 Ml RT:Nat}{r0:Loop}{x15 Ig RU RV:Int}{S3:Option Addr}{Z:Hp}(h:∃p98:Option Addr,∃n98:Nat,∃c98:Nat,Hp.ld Z ⟨DL,0,none⟩=some (.slice p98 n98 c98)/\∃AFT:Option Addr,∃C:Nat,∃ALk:Nat,Hp.ld Z ⟨DL,0,none⟩=some (.slice AFT C ALk)/\∃(qC zq:Nat),AFT=some ⟨qC,zq,none⟩/\((0:Int)<=Ig/\Ig<(C:Int))/\∃zr:Option Addr,∃A:Nat,∃zt:Nat,Hp.ld Z ⟨qC,((zq+Ig.toNat*2)+1),none⟩=some (.slice zr A zt)/\∃gu:Int,Hp.ld Z ⟨D8,1,none⟩=some (.U gu)/\∀dR:Nat,Z dR=none->AJ prog (Builtin.append_ #[49,49] 49 #[(.slice zr A zt),(.slice (some ⟨dR,0,none⟩) 1 1)]) (Hp.set Z dR (.cells #[(.I x15),(.U gu)] 61 (0,0))) (λv Z1=>∃AFU:Option Addr,∃G:Nat,∃AFV:Nat,v=(.slice AFU G AFV)/\Kp [DL] (Hp.set Z dR (.cells #[(.I x15),(.U gu)] 61 (0,0))) Z1/\∃(vm vo:Nat),p98=some ⟨vm,vo,none⟩/\((0:Int)<=Ig/\Ig<(n98:Int))/\AJ prog (Instr.storeAt 49 (.pointer (some ⟨vm,((vo+Ig.toNat*2)+1),none⟩)) (.slice AFU G AFV)) Z1 (λ_ JU=>AF (RV+1)/\U4 R l r0 D0 DL x15 S3 Ml RT RU ((RV+1)) JU))):AFK R l r0 D0 DL x15 D8 Ig S3 Ml RT RU RV Z:=by
 intro J;show At (Gl.round prog 16 117 l R) _ _ _ _
 refine At.draw (id:=23) (ops:=cO K75) (n:=15) (q:=(some [])) (plan:=[(0,true),(1,true),(2,true),(3,true),(4,true),(5,true),(6,true),(7,true),(8,true),(9,true),(10,true),(11,false),(12,false),(13,true),(14,true)]) (tl:=[15]) mixed (by kernel_rfl) (by kernel_rfl) ?_;obtain⟨p98,n98,c98,hl,h⟩:=h;refine Head.yl DL [] rfl (by kernel_rfl) (d:=(some 98)) (op:=(.load 23 (.tmp 14))) (ty:=23) (v:=(.slice p98 n98 c98)) (by kernel_rfl) rfl (Y.ld isAgg23 rfl (LA hl)) ?_;refine Head.u 99 (.I Ig) ?_;obtain⟨AFT,C,ALk,hl,h⟩:=h;refine Head.yl DL [[12,6,5,4]] rfl (by kernel_rfl) (d:=(some 100)) (op:=(.load 23 (.tmp 14))) (ty:=23) (v:=(.slice AFT C ALk)) (by kernel_rfl) rfl (Y.ld isAgg23 rfl (LA hl)) ?_;refine Head.u 101 (.I Ig) ?_;obtain⟨qC,zq,hq,h⟩:=h;subst hq;obtain⟨hi,h⟩:=h;refine Head.z 102 (.indexAddr 23 (.tmp 100) (.tmp 101)) 0 (.pointer (some ⟨qC,(zq+Ig.toNat*2),none⟩)) (Y.idx underlying23 sizeOf51 rfl rfl hi rfl) ?_;refine Head.z 103 (.fieldAddr 51 (.tmp 102) 1) 0 (.pointer (some ⟨qC,((zq+Ig.toNat*2)+1),none⟩)) (Y.fieldAddr (fd:=(Qt prog 51 1)) underlying51 (by kernel_rfl) sizeOf49 rfl rfl) ?_;obtain⟨zr,A,zt,hl,h⟩:=h;refine Head.yl qC [[12]] rfl (by kernel_rfl) (d:=(some 104)) (op:=(.load 49 (.tmp 103))) (ty:=49) (v:=(.slice zr A zt)) (by kernel_rfl) rfl (Y.ld isAgg49 rfl (LA hl)) ?_;refine Head.u 105 (.I x15) ?_;refine Head.z 106 (.fieldAddr 59 (.tmp 19) 1) 0 (.pointer (some ⟨D8,1,none⟩)) (Y.fieldAddr (fd:=(Qt prog 59 1)) underlying59 (by kernel_rfl) sizeOf57 rfl rfl) ?_;obtain⟨gu,hl,h⟩:=h;refine Head.yl D8 [[11,10],[12,11,10]] rfl (by kernel_rfl) (d:=(some 107)) (op:=(.load 57 (.tmp 106))) (ty:=57) (v:=(.U gu)) (by kernel_rfl) rfl (Y.ld isAgg57 rfl (LA hl)) ?_;refine Head.z 108 (.build 61 #[(0,(.tmp 105)),(1,(.tmp 107))]) 61 (.agg #[(.I x15),(.U gu)]) (Y.build (vs:=[(0,(.I x15)),(1,(.U gu))]) rfl (by kernel_rfl)) ?_;refine Head.o (q':=(some [(qC,[12]),(DL,[12]),(DL,[])])) rfl ?_;refine AP.Mq (T:=49) (E:=61) (m:=1) (ps:=#[(0,(.tmp 108))]) (d:=(some 109)) (ty:=49) (gd:=none) (vs:=[(0,(.agg #[(.I x15),(.U gu)]))]) (cs:=#[(.I x15),(.U gu)]) underlying49 (by kernel_rfl) rfl rfl rfl (by kernel_rfl) (λdR hn=>?_);refine⟨⟨λ_ h=>h,j7 (Kp.H9 (Ext.set hn))⟩,?_⟩
 replace h:=h dR hn
 refine Head.o (q':=(some [(DL,[])])) rfl ?_;refine AP.Xl (d:=(some 110)) (op:=(.call { callee:=.builtin .append,args:=#[(.tmp 104),(.tmp 109)],argTypes:=#[49,49] })) (ty:=49) (gd:=none) (by kernel_rfl) rfl rfl (Builtin.append_ #[49,49] 49 #[(.slice zr A zt),(.slice (some ⟨dR,0,none⟩) 1 1)]) (λo ho ht=>Ie rfl rfl o ho ht) (h.mono (λv Z1 h2=>?_));replace h:=h2;clear h2;obtain⟨AFU,G,AFV,rfl,hk,h⟩:=h;refine⟨⟨λ_ h=>h,j7 (L:=[(DL,[])]) hk⟩,?_⟩;obtain⟨vm,vo,hq,h⟩:=h;subst hq;obtain⟨hi,h⟩:=h;refine Head.z 111 (.indexAddr 23 (.tmp 98) (.tmp 99)) 0 (.pointer (some ⟨vm,(vo+Ig.toNat*2),none⟩)) (Y.idx underlying23 sizeOf51 rfl rfl hi rfl) ?_;refine Head.z 112 (.fieldAddr 51 (.tmp 111) 1) 0 (.pointer (some ⟨vm,((vo+Ig.toNat*2)+1),none⟩)) (Y.fieldAddr (fd:=(Qt prog 51 1)) underlying51 (by kernel_rfl) sizeOf49 rfl rfl) ?_;refine Head.done ?_;refine Seq.o ?_;refine AP.store (T:=49) (ty:=0) (x:=(.tmp 112)) (y:=(.tmp 110)) (p:=(.pointer (some ⟨vm,((vo+Ig.toNat*2)+1),none⟩))) (v:=(.slice AFU G AFV)) (gd:=none) (by kernel_rfl) rfl rfl rfl (h.mono (λ_ JU h2=>?_));replace h:=h2;clear h2;refine Seq.done ?_;refine At.inBlock ?_;refine At.rg 24 [0,1] ?_;obtain⟨hi,h⟩:=h;refine Seq.z 113 (.binOp .add 3 (.tmp 69) (.const (.I 1)) 3) 3 (.I (RV+1)) (Y.AZe hi rfl rfl) ?_;refine Seq.u 69 (.I (RV+1)) (Seq.done ?_);refine At.inLoop ?_;refine At.s K54 K55 ?_;exact At.v [(13,(.pointer (some ⟨D0,0,none⟩))),(14,(.pointer (some ⟨DL,0,none⟩))),(15,(.I x15)),(67,(.slice S3 Ml RT)),(68,(.I RU)),(69,(.I (RV+1)))] (h _)
end CC
namespace YJ
variable {p0:Option Addr}{n0 c0:Nat}
def M:Fw:=⟨prog,17,f17,[29],[],false,[],[],[]⟩
def ok:M.Ok:=⟨.cons call29 (AH.nil),mixed,func17,by kernel_rfl⟩
def start (h:AG 29 #[.slice p0 n0 c0] Z R (λz y=>∃CO CP A,z=(.tuple #[.I CO,.I CP,.I A])/\Br (A=0) (R (.returned (.bool (decide (CO≠3)))) y) (R (.B false) y))):Spec prog 17 #[.slice p0 n0 c0] Z R:=M.start h ok
end YJ
namespace PD
variable {p0:Option Addr}{n0 c0:Nat}
def M:Fw:=⟨prog,22,f22,[],[],false,[],[],[]⟩
def ok:M.Ok:=⟨AH.nil,mixed,func22,by kernel_rfl⟩
def start (h:Al Z λb3=>AJ prog (Builtin.append_ #[42,42] 42 #[(.slice (aD b3 0) 0 0),.slice p0 n0 c0]) (Hp.set Z b3 (.cells #[] 9 (0,0))) (CS λp5 n5 c5 y=>R (.returned (.slice p5 n5 c5)) y)):Spec prog 22 #[.slice p0 n0 c0] Z R:=M.start h ok
end PD
namespace fJ
variable {p0 p1:Option Addr}{n0 c0 n1 c1:Nat}
def M:Fw:=⟨prog,25,f25,[28,46],[],false,[],[],[]⟩
def ok:M.Ok:=⟨.cons call28 (.cons call46 (AH.nil)),mixed,func25,by kernel_rfl⟩
def start (h:AG 28 #[.slice p0 n0 c0] Z R (λz y=>∃GV PE C,z=(.tuple #[.I GV,.I PE,.I C])/\Br (C≠0) (R (.returned (.I 220)) y) (Br (GV=3) (R (.returned (.I 220)) y) (AG 46 #[.slice p1 n1 c1] y R (CI .i64 λE3 A=>Br (E3≠0) (R (.returned (.I 224)) A) (R (.returned (.I 0)) A)))))):Spec prog 25 #[.slice p0 n0 c0,.slice p1 n1 c1] Z R:=M.start h ok
end fJ
namespace Di
variable {p0 p1:Option Addr}{n0 c0 n1 c1:Nat}{x5:Int}
def M:Fw:=⟨prog,30,f30,[],[],false,[(6,9,true)],[],[(464,[(0,wL),(1,wL),(5,wI)])]⟩
def ok:M.Ok:=⟨AH.nil,mixed,func30,by kernel_rfl⟩
def Au:=M.pt 0
def start (h:Br ((n0:Int)≠(n1:Int)) (R (.B false) Z) (Au R p0 n0 c0 p1 n1 c1 0 Z)):Spec prog 30 #[.slice p0 n0 c0,.slice p1 n1 c1] Z R:=M.start h ok
def Aq (h:Br (x5<(n0:Int)) (Pq p0 λD8 XM=>In x5 (n0:Int)/\∃C qD A,Af Z D8 (XM+x5.toNat*3) [.I C,.string qD,.string A]/\Pq p1 λJc VA=>In x5 (n1:Int)/\∃G qE vr,Af Z Jc (VA+x5.toNat*3) [.I G,.string qE,.string vr]/\∃t25,YF prog ((do eqGuard .neq 75 (.tmp 20) (.tmp 24) (.agg #[.I C,.string qD,.string A]) (.agg #[.I G,.string qE,.string vr]);binOp .neq 75 (.agg #[.I C,.string qD,.string A]) (.agg #[.I G,.string qE,.string vr]))) Z (.bool t25)/\Bo t25 (R (.B false) Z) (AF (x5+1)/\Au R (aD D8 XM) n0 c0 (aD Jc VA) n1 c1 (x5+1) Z)) (R (.B true) Z)):Au R p0 n0 c0 p1 n1 c1 x5 Z:=M.of h ok rfl
end Di
namespace FM
variable {p0 p1:Option Addr}{n0 c0 n1 c1:Nat}{x5:Int}
def M:Fw:=⟨prog,31,f31,[],[],false,[(6,9,true)],[],[(464,[(0,wL),(1,wL),(5,wI)])]⟩
def ok:M.Ok:=⟨AH.nil,mixed,func31,by kernel_rfl⟩
def Au:=M.pt 0
def start (h:Br ((n0:Int)≠(n1:Int)) (R (.B false) Z) (Au R p0 n0 c0 p1 n1 c1 0 Z)):Spec prog 31 #[.slice p0 n0 c0,.slice p1 n1 c1] Z R:=M.start h ok
def Aq (h:Br (x5<(n0:Int)) (Pq p0 λG XM=>In x5 (n0:Int)/\LT Z G (XM+x5.toNat*1) λA=>Pq p1 λJc VA=>In x5 (n1:Int)/\LT Z Jc (VA+x5.toNat*1) λC=>Bn (ByteArray.toList A==ByteArray.toList C) (R (.B false) Z) (AF (x5+1)/\Au R (aD G XM) n0 c0 (aD Jc VA) n1 c1 (x5+1) Z)) (R (.B true) Z)):Au R p0 n0 c0 p1 n1 c1 x5 Z:=M.of h ok rfl
end FM
end TwW
end
end
section
set_option maxRecDepth 100000
noncomputable section
namespace TwW
open Go Tw Go.Proofs.Tryz
variable [HL]{R:Rr}{Z:Hp}

namespace Ej
variable {p0 p1:Option Addr}{n0 c0 n1 c1:Nat}{x5:Int}
def M:Fw:=⟨prog,33,f33,[],[],false,[(6,9,true)],[],[(464,[(0,wL),(1,wL),(5,wI)])]⟩
def ok:M.Ok:=⟨AH.nil,mixed,func33,by kernel_rfl⟩
def Au:=M.pt 0
def start (h:Br ((n0:Int)≠(n1:Int)) (R (.B false) Z) (Au R p0 n0 c0 p1 n1 c1 0 Z)):Spec prog 33 #[.slice p0 n0 c0,.slice p1 n1 c1] Z R:=M.start h ok
def Aq (h:Br (x5<(n0:Int)) (Pq p0 λD8 XM=>In x5 (n0:Int)/\∃A G,Af Z D8 (XM+x5.toNat*2) [.I A,.U G]/\Pq p1 λJc VA=>In x5 (n1:Int)/\∃C vt,Af Z Jc (VA+x5.toNat*2) [.I C,.U vt]/\∃t25,YF prog ((do eqGuard .neq 61 (.tmp 20) (.tmp 24) (.agg #[.I A,.U G]) (.agg #[.I C,.U vt]);binOp .neq 61 (.agg #[.I A,.U G]) (.agg #[.I C,.U vt]))) Z (.bool t25)/\Bo t25 (R (.B false) Z) (AF (x5+1)/\Au R (aD D8 XM) n0 c0 (aD Jc VA) n1 c1 (x5+1) Z)) (R (.B true) Z)):Au R p0 n0 c0 p1 n1 c1 x5 Z:=M.of h ok rfl
end Ej
namespace fK
variable {v0:Value}
def M:Fw:=⟨prog,36,f36,[],[],false,[],[],[]⟩
def ok:M.Ok:=⟨AH.nil,mixed,func36,by kernel_rfl⟩
def start (h:EN prog 53 #[v0] Z (CI .u64 λx4 y=>R (.returned (.U x4)) y)):Spec prog 36 #[v0] Z R:=M.HU h ok [(0,.o (.V v0))] rfl rfl (by kernel_rfl)
end fK
namespace Gz
variable {p0 p8:Option Addr}{n0 c0 n8 c8:Nat}{x9 x10:Int}
def M:Fw:=⟨prog,74,f74,[118,119],[4],false,[(10,14,true)],[],[(232,[(0,wL),(8,wL),(9,wI),(10,wI)])]⟩
def ok:M.Ok:=⟨.cons call118 (.cons call119 (AH.nil)),mixed,func74,by kernel_rfl⟩
def PF:=M.pt 0
def start (h:Br (16<(n0:Int)) (R (.returned (.I 30)) Z) (PF R p0 n0 c0 p0 n0 c0 (n0:Int) 0 Z)):Spec prog 74 #[.slice p0 n0 c0] Z R:=M.start h ok
def Kg (h:Br (x10<x9) (Pq p8 λD0 gw=>In x10 (n8:Int)/\∃A qG,Af Z D0 (gw+x10.toNat*2) [.string A,.string qG]/\∀b4:Nat,AG 118 #[.string A] Z R (CB λt18 y=>Bn t18 (R (.returned (.I 31)) y) (Bo ((ByteArray.toList qG==ByteArray.toList (ByteArray.mk #[]))) (R (.returned (.I 32)) y) (Br ((256:Int)<(qG.size:Int)) (R (.returned (.I 32)) y) (AG 119 #[.string qG] y R (CB λt33 C=>Bn t33 (R (.returned (.I 32)) C) (Br (0<x10) (AF (x10-1)/\Pq p0 λyK yL=>In (x10-1) (n0:Int)/\LT C yK (yL+Int.toNat (x10-1)*2) λG=>∃t48,YF prog ((do eqGuard .leq 9 (.tmp 41) (.tmp 47) (.string A) (.string G);binOp .leq 9 (.string A) (.string G))) C (.bool t48)/\Bo t48 (R (.returned (.I 33)) C) (AF (x10+1)/\PF R (aD yK yL) n0 c0 (aD D0 gw) n8 c8 x9 (x10+1) C)) (AF (x10+1)/\PF R p0 n0 c0 (aD D0 gw) n8 c8 x9 (x10+1) C)))))))) (R (.returned (.I 0)) Z)):PF R p0 n0 c0 p8 n8 c8 x9 x10 Z:=M.of h ok rfl
end Gz
namespace HV
variable {q0 Fm GG p2:Option Addr}{By BQ FN FO D9 ET:Int}{FP:ByteArray}{Fo Fp Fq GH n2 c2:Nat}{EU:Bool}
def M:Fw:=⟨prog,81,f81,[],[4],false,[],[],[]⟩
def ok:M.Ok:=⟨AH.nil,mixed,func81,by kernel_rfl⟩
def start (h:∀G:Nat,Pq p2 λA C=>In 0 (n2:Int)/\LI .i64 Z A C λx11=>Br (x11≠2) (R (.T #[.I 0,.I 191]) Z) (R (.T #[.I 2,.I 0]) Z)):Spec prog 81 #[.pointer q0,.agg #[.I By,.I BQ,.string FP,.slice Fm Fo Fp,.I FN,.I FO,.I D9,.slice GG Fq GH,.bool EU,.I ET],.slice p2 n2 c2] Z R:=M.start h ok
end HV
namespace EA
variable {s0 s1:ByteArray}
def M:Fw:=⟨prog,101,f101,[],[],false,[],[],[]⟩
def ok:M.Ok:=⟨AH.nil,mixed,func101,by kernel_rfl⟩
def start (h:EN prog 144 #[.string s0,.string s1] Z (CI .i64 λx7 y=>R (.returned (.I x7)) y)):Spec prog 101 #[.string s0,.string s1] Z R:=M.start h ok
end EA
namespace FQ
variable {x0 x5 x6:Int}{p1:Option Addr}{n1 c1:Nat}
def M:Fw:=⟨prog,110,f110,[103,114,115,147,151],[],false,[],[],[(464,[(0,wI),(1,wL),(5,wU),(6,wI)]),(467,[(0,wI),(1,wL),(5,wU),(6,wI)])]⟩
def ok:M.Ok:=⟨.cons call103 (.cons call114 (.cons call115 (.cons call147 (.cons call151 (AH.nil))))),mixed,func110,by kernel_rfl⟩
def AR:=M.pt 0
def GL:=M.pt 1
def start (h:Pq p1 λA C=>In 0 (n1:Int)/\LI .u64 Z A C λx9=>AG 147 #[.U x9] Z R (λz y=>∃x10,(Value.float .f64 x10)=z/\AG 103 #[(Value.float .f64 x10)] y R (CI .u64 λx11 G=>AR R x0 (aD A C) n1 c1 x11 1 G))):Spec prog 110 #[.I x0,.slice p1 n1 c1] Z R:=M.start h ok
def AM (h:Br (x6<(n1:Int)) (Br (x0=2) (Pq p1 λLy S4=>In x6 (n1:Int)/\LI .u64 Z Ly (S4+x6.toNat*1) λLz=>AG 114 #[.I 7,.U Lz,.U x5] Z R (CB λt32 y=>Bo t32 (In x6 (n1:Int)/\LI .u64 y Ly (S4+x6.toNat*1) λvu=>AG 147 #[.U vu] y R (λz A=>∃MA,(Value.float .f64 MA)=z/\AG 103 #[(Value.float .f64 MA)] A R (CI .u64 λRq G=>GL R x0 (aD Ly S4) n1 c1 Rq x6 G))) (AG 114 #[.I 6,.U x5,.U x5] y R (CB λt36 A=>Bo t36 (In x6 (n1:Int)/\LI .u64 A Ly (S4+x6.toNat*1) λvu=>AG 147 #[.U vu] A R (λz G=>∃MA,(Value.float .f64 MA)=z/\AG 103 #[(Value.float .f64 MA)] G R (CI .u64 λRq AX=>GL R x0 (aD Ly S4) n1 c1 Rq x6 AX))) (GL R x0 (aD Ly S4) n1 c1 x5 x6 A))))) (Br (x0=3) (Pq p1 λKQ fL=>In x6 (n1:Int)/\LI .u64 Z KQ (fL+x6.toNat*1) λUU=>AG 114 #[.I 9,.U UU,.U x5] Z R (CB λt51 y=>Bo t51 (In x6 (n1:Int)/\LI .u64 y KQ (fL+x6.toNat*1) λqH=>AG 147 #[.U qH] y R (λz A=>∃C,(Value.float .f64 C)=z/\AG 103 #[(Value.float .f64 C)] A R (CI .u64 λdT G=>GL R x0 (aD KQ fL) n1 c1 dT x6 G))) (AG 114 #[.I 6,.U x5,.U x5] y R (CB λt55 A=>Bo t55 (In x6 (n1:Int)/\LI .u64 A KQ (fL+x6.toNat*1) λqH=>AG 147 #[.U qH] A R (λz G=>∃C,(Value.float .f64 C)=z/\AG 103 #[(Value.float .f64 C)] G R (CI .u64 λdT AX=>GL R x0 (aD KQ fL) n1 c1 dT x6 AX))) (GL R x0 (aD KQ fL) n1 c1 x5 x6 A))))) (Pq p1 λjo qI=>In x6 (n1:Int)/\LI .u64 Z jo (qI+x6.toNat*1) λE3=>AG 115 #[.I 1,.U x5,.U E3] Z R (CI .u64 λJT y=>GL R x0 (aD jo qI) n1 c1 JT x6 y)))) (Br (x0=4) (AG 151 #[(.I (n1:Int))] Z R (CI .u64 λRV y=>AG 115 #[.I 4,.U x5,.U RV] y R (CI .u64 λzu A=>R (.returned (.U zu)) A))) (Br (x0=5) (AG 151 #[(.I (n1:Int))] Z R (CI .u64 λx75 y=>R (.returned (.U x75)) y)) (R (.returned (.U x5)) Z)))):AR R x0 p1 n1 c1 x5 x6 Z:=M.of h ok rfl
def Ih (h:AF (x6+1)/\AR R x0 p1 n1 c1 x5 (x6+1) Z):GL R x0 p1 n1 c1 x5 x6 Z:=M.of h ok rfl
end FQ
namespace fM
variable {t0:Bool}
def M:Fw:=⟨prog,113,f113,[151],[],false,[],[],[]⟩
def ok:M.Ok:=⟨.cons call151 (AH.nil),mixed,func113,by kernel_rfl⟩
def start (h:Bo t0 (AG 151 #[.I 1] Z R (CI .u64 λx4 y=>R (.returned (.U x4)) y)) (R (.returned (.U 0)) Z)):Spec prog 113 #[.bool t0] Z R:=M.start h ok
end fM
namespace tM
variable {x0:Int}
def M:Fw:=⟨prog,147,f147,[],[],false,[],[],[]⟩
def ok:M.Ok:=⟨AH.nil,mixed,func147,by kernel_rfl⟩
def start (h:EN prog 183 #[.U x0] Z (λz y=>∃x4,(Value.float .f64 x4)=z/\R (.returned (Value.float .f64 x4)) y)):Spec prog 147 #[.U x0] Z R:=M.start h ok
end tM
namespace V0
variable {p0:Option Addr}{n0 c0:Nat}{x1 x2:Int}
def M:Fw:=⟨prog,157,f157,[191],[],false,[],[],[]⟩
def ok:M.Ok:=⟨.cons call191 (AH.nil),mixed,func157,by kernel_rfl⟩
def start (h:AG 191 #[.slice p0 n0 c0,.I x1,(.func (.func 192) #[] #[])] Z R (λz y=>∃C G,z=(.tuple #[.I C,.bool G])/\AG 191 #[.slice p0 n0 c0,.I x2,(.func (.func 193) #[] #[])] y R (λz AB=>∃A Aag,z=(.tuple #[.I A,.bool Aag])/\((0:Int)<=(if A<C then A else C)/\(if A<C then A else C)<=A/\A<=(c0:Int))/\R (.returned (.slice (Mp p0 (Int.toNat (if A<C then A else C)) c0 2) (A.toNat-Int.toNat (if A<C then A else C)) (c0-Int.toNat (if A<C then A else C)))) AB))):Spec prog 157 #[.slice p0 n0 c0,.I x1,.I x2] Z R:=M.start h ok
end V0
namespace YK
variable {x0:Int}
def M:Fw:=⟨prog,159,f159,[],[],false,[],[],[]⟩
def ok:M.Ok:=⟨AH.nil,mixed,func159,by kernel_rfl⟩
def start (h:AJ prog (convert 2 73 (.I x0)) Z (λz y=>∃x4,(Value.float .f64 x4)=z/\EN prog 53 #[(Value.float .f64 x4)] y (CI .u64 λx5 A=>R (.returned (.U x5)) A))):Spec prog 159 #[.I x0] Z R:=M.start h ok
end YK
namespace Fs
variable {p0 p1:Option Addr}{n0 c0 n1 c1:Nat}
def M:Fw:=⟨prog,208,f208,[207,209],[],false,[],[],[]⟩
def ok:M.Ok:=⟨.cons call207 (.cons call209 (AH.nil)),mixed,func208,by kernel_rfl⟩
def start (h:Pq p1 λA G=>In 0 (n1:Int)/\LI .u64 Z A (G+1) λx10=>AG 207 #[.slice p0 n0 c0] Z R (CI .u64 λx6 y=>Kp [A] Z y/\AG 209 #[.U x6,.U x10] y R (CI .u64 λx11 C=>R (.returned (.U x11)) C))):Spec prog 208 #[.slice p0 n0 c0,.slice p1 n1 c1] Z R:=M.start h ok
end Fs
namespace eval_add
variable {x0 x1:Int}
def M:Fw:=⟨prog,216,f216,[218],[],false,[],[],[]⟩
def ok:M.Ok:=⟨.cons call218 (AH.nil),mixed,func216,by kernel_rfl⟩
def start (h:AG 218 #[.I 1,.U x0,.U x1] Z R (λz y=>∃GV A,z=(.tuple #[.U GV,.bool A])/\R (.returned (.U GV)) y)):Spec prog 216 #[.U x0,.U x1] Z R:=M.start h ok
end eval_add
namespace IE
variable {x0 x5 x15 x16:Int}{p1 N1:Option Addr}{n1 c1 n14 MC:Nat}
def M:Fw:=⟨prog,217,f217,[201,219,241],[],false,[],[],[(232,[(0,wI),(5,wU),(14,wL),(15,wI),(16,wI)]),(935,[(0,wI),(5,wU),(14,wL),(15,wI),(16,wI)])]⟩
def ok:M.Ok:=⟨.cons call201 (.cons call219 (.cons call241 (AH.nil))),mixed,func217,by kernel_rfl⟩
def B9:=M.pt 0
def dU:=M.pt 1
def start (h:Pq p1 λBu A=>In 0 (n1:Int)/\LI .u64 Z Bu A λx12=>((0:Int)<=1/\1<=(n1:Int))/\B9 R x0 x12 ((Mp (aD Bu A) (1) c1 1)) (n1-1) (c1-1) ((((n1-1):Nat):Int)) 0 Z):Spec prog 217 #[.I x0,.slice p1 n1 c1] Z R:=M.start h ok
def As (h:Br (x16<x15) (Pq N1 λC G=>In x16 (n14:Int)/\LI .u64 Z C (G+x16.toNat*1) λGI=>AG 219 #[.I x0,.U GI,.U x5] Z R (λz y=>∃A Aah,z=(.tuple #[.bool A,.bool Aah])/\Bo A (dU R x0 GI (aD C G) n14 MC x15 x16 y) (AG 241 #[.U x5] y R (CB λt30 AB=>Bo t30 (dU R x0 GI (aD C G) n14 MC x15 x16 AB) (dU R x0 x5 (aD C G) n14 MC x15 x16 AB))))) (AG 201 #[.U x5] Z R (CI .u64 λQ1 y=>R (.returned (.U Q1)) y))):B9 R x0 x5 N1 n14 MC x15 x16 Z:=M.of h ok rfl
def XN (h:AF (x16+1)/\B9 R x0 x5 N1 n14 MC x15 (x16+1) Z):dU R x0 x5 N1 n14 MC x15 x16 Z:=M.of h ok rfl
end IE
namespace TH
variable {x0 x1 x2:Int}
def M:Fw:=⟨prog,219,f219,[198],[],false,[],[],[]⟩
def ok:M.Ok:=⟨.cons call198 (AH.nil),mixed,func219,by kernel_rfl⟩
def start (h:AG 198 #[.U x1] Z R (λz y=>∃x11,(Value.float .f64 x11)=z/\AG 198 #[.U x2] y R (λz A=>∃DB,(Value.float .f64 DB)=z/\Br (x0=5) (∃t19,YF prog ((do eqGuard .eql 73 (.tmp 17) (.tmp 18) (Value.float .f64 x11) (Value.float .f64 DB);binOp .eql 73 (Value.float .f64 x11) (Value.float .f64 DB))) A (.bool t19)/\R (.T #[.bool t19,.bool true]) A) (Br (x0=6) (∃t24,YF prog ((do eqGuard .neq 73 (.tmp 22) (.tmp 23) (Value.float .f64 x11) (Value.float .f64 DB);binOp .neq 73 (Value.float .f64 x11) (Value.float .f64 DB))) A (.bool t24)/\R (.T #[.bool t24,.bool true]) A) (Br (x0=7) (∃t29,YF prog ((do eqGuard .lss 73 (.tmp 27) (.tmp 28) (Value.float .f64 x11) (Value.float .f64 DB);binOp .lss 73 (Value.float .f64 x11) (Value.float .f64 DB))) A (.bool t29)/\R (.T #[.bool t29,.bool true]) A) (Br (x0=8) (∃t34,YF prog ((do eqGuard .leq 73 (.tmp 32) (.tmp 33) (Value.float .f64 x11) (Value.float .f64 DB);binOp .leq 73 (Value.float .f64 x11) (Value.float .f64 DB))) A (.bool t34)/\R (.T #[.bool t34,.bool true]) A) (Br (x0=9) (∃t39,YF prog ((do eqGuard .gtr 73 (.tmp 37) (.tmp 38) (Value.float .f64 x11) (Value.float .f64 DB);binOp .gtr 73 (Value.float .f64 x11) (Value.float .f64 DB))) A (.bool t39)/\R (.T #[.bool t39,.bool true]) A) (Br (x0=10) (∃t44,YF prog ((do eqGuard .geq 73 (.tmp 42) (.tmp 43) (Value.float .f64 x11) (Value.float .f64 DB);binOp .geq 73 (Value.float .f64 x11) (Value.float .f64 DB))) A (.bool t44)/\R (.T #[.bool t44,.bool true]) A) (R (.T #[.bool false,.bool false]) A))))))))):Spec prog 219 #[.I x0,.U x1,.U x2] Z R:=M.start h ok
end TH
namespace Gj
variable {V1:Option Addr}{Nu UW:Nat}{oL s1:ByteArray}
def M:Fw:=⟨prog,233,f233,[249],[2],false,[],[],[]⟩
def ok:M.Ok:=⟨.cons call249 (AH.nil),mixed,func233,by kernel_rfl⟩
def start (h:∀b2:Nat,AG 249 #[.agg #[.slice V1 Nu UW],.string s1] Z R (CB λt8 y=>R (.B t8) y)):Spec prog 233 #[.agg #[.slice V1 Nu UW,.string oL],.string s1] Z R:=M.start h ok
end Gj
namespace DX
variable {s0:ByteArray}{x1:Int}
def M:Fw:=⟨prog,244,f244,[263,264],[],false,[],[],[]⟩
def ok:M.Ok:=⟨.cons call263 (.cons call264 (AH.nil)),mixed,func244,by kernel_rfl⟩
def start (h:Br (x1=32) (AG 263 #[.string s0] Z R (λz y=>∃A vw C,z=(.tuple #[A,.I vw,C])/\AJ prog (convert 280 73 A) y (λz AB=>∃GI,(Value.float .f64 GI)=z/\R (.T #[(Value.float .f64 GI),.I vw,C]) AB))) (AG 264 #[.string s0] Z R (λz y=>∃G zh AQe,z=(.tuple #[G,.I zh,AQe])/\R (.T #[G,.I zh,AQe]) y))):Spec prog 244 #[.string s0,.I x1] Z R:=M.start h ok
end DX
namespace BB
variable {s0:ByteArray}{x5 x6 x12 x7:Int}{t13 t16 t19:Bool}
def M:Fw:=⟨prog,276,f276,[297,298,299],[],false,[],[],[(128001,[(0,wT),(5,wI),(6,wI),(12,w8),(13,wB)]),(256005,[(0,wT),(5,wI),(6,wI),(12,w8),(16,wB)]),(8004,[(0,wT),(5,wI),(6,wI)]),(256007,[(0,wT),(19,wB)]),(126,[]),(32022,[(5,wI),(6,wI),(7,wI)]),(32006,[(0,wT),(5,wI)])]⟩
def ok:M.Ok:=⟨.cons call297 (.cons call298 (.cons call299 (AH.nil))),mixed,func276,by kernel_rfl⟩
def Nv:=M.pt 0
def gx:=M.pt 1
def Aai:=M.pt 2
def LJ:=M.pt 3
def VB:=M.pt 4
def AQf:=M.pt 6
def start (h:Br (((s0.size:Int):Int)=0) (R (.T #[.float .f64 0,.I 0,.bool false]) Z) (∃A:UInt8,(0:Int)<=0/\(ByteArray.data s0)[Int.toNat 0]?=some A/\Br (((A.toNat:Int):Int)=43) (Nv R s0 1 0 ((A.toNat:Int)) true Z) (Nv R s0 1 0 ((A.toNat:Int)) ((decide (((A.toNat:Int):Int)=45))) Z))):Spec prog 276 #[.string s0] Z R:=M.start h ok
def Ii (h:Bo t13 (∃A:UInt8,(0:Int)<=0/\(ByteArray.data s0)[Int.toNat 0]?=some A/\Br (((A.toNat:Int):Int)=45) (AQf R s0 (-1) Z) (AQf R s0 x5 Z)) (Br (x12=105) (gx R s0 x5 x6 x12 true Z) (gx R s0 x5 x6 x12 ((decide (x12=73))) Z))):Nv R s0 x5 x6 x12 t13 Z:=M.of h ok rfl
def gy (h:Bo t16 (Aai R s0 x5 x6 Z) (Br (x12=110) (LJ R s0 true Z) (LJ R s0 ((decide (x12=78))) Z))):gx R s0 x5 x6 x12 t16 Z:=M.of h ok rfl
def M3 (h:Bo t19 (AG 297 #[.string s0,(.string (ByteArray.mk #[110,97,110]))] Z R (CI .i64 λtN y=>Br (tN=3) (AG 299 #[] y R (λz A=>∃UU,(Value.float .f64 UU)=z/\R (.T #[(Value.float .f64 UU),.I 3,.bool true]) A)) (VB R y))) (VB R Z)):LJ R s0 t19 Z:=M.of h ok rfl
def Q2 (h:R (.T #[.float .f64 0,.I 0,.bool false]) Z):VB R  Z:=M.of h ok rfl
end BB
end TwW
end
end
section
set_option maxRecDepth 100000
noncomputable section
namespace TwW
open Go Tw Go.Proofs.Tryz
variable [HL]{R:Rr}{Z:Hp}

namespace Ft
variable {p0 p1 Nk p33:Option Addr}{n0 c0 n1 c1 n11 Q3 n33 c33:Nat}{x2 UX Q1:Int}
def M:Fw:=⟨prog,8,f8,[25,26,27],[13],false,[],[],[(4072,[(2,wI),(11,wL),(33,wL),(34,wI),(35,wI)])]⟩
def ok:M.Ok:=⟨.cons call25 (.cons call26 (.cons call27 (AH.nil))),mixed,func8,by kernel_rfl⟩
def MD:=M.pt 0
def start (h:AG 25 #[.slice p0 n0 c0,.slice p1 n1 c1] Z R (CI .i64 λx16 y=>Br (x16≠0) (R (.T #[.N,.I x16]) y) (AG 26 #[.I x2] y R (CB λt21 G=>Bn t21 (R (.T #[.N,.I 221]) G) (AG 27 #[.slice p0 n0 c0,.slice p1 n1 c1,.I x2] G R (λz AK=>∃SX A SY C,z=(.tuple #[.slice SX A SY,.I C])/\Br (C≠0) (R (.T #[.N,.I C]) AK) (MD R x2 none 0 0 SX A SY (A:Int) 0 AK))))))):Spec prog 8 #[.slice p0 n0 c0,.slice p1 n1 c1,.I x2] Z R:=M.start h ok
def M4 (h:Br (Q1<UX) (Pq p33 λb37 o37=>In Q1 (n33:Int)/\∃AFZ AFa AFb KW,Af Z b37 (o37+Q1.toNat*2) [.slice AFZ AFa AFb,.U KW]/\∀D0:Nat,(Al Z λdV=>(AJ prog (Builtin.append_ #[47,47] 47 #[(.slice (aD dV 0) 0 0),.slice AFZ AFa AFb]) (Hp.set Z dV (.cells #[] 71 (0,0))) (CS λjq C jr y=>Al y λKQ=>Al (Hp.set y KQ (.cells #[.I x2,.U KW] 61 (0,0))) λYO=>AJ prog (DV 23 Nk n11 Q3 YO) (Hp.set (Hp.set y KQ (.cells #[.I x2,.U KW] 61 (0,0))) YO (.cells #[.slice jq C jr,(.slice (aD KQ 0) 1 1)] 51 (0,0))) (CS λp51 G A AB=>AF (Q1+1)/\MD R x2 p51 G A (aD b37 o37) n33 c33 UX (Q1+1) AB)))/\(Al (Hp.set Z dV (.cells #[] 71 (0,0))) λKQ=>AJ prog (Builtin.append_ #[47,47] 47 #[(.slice (aD dV 0) 0 0),.slice AFZ AFa AFb]) (Hp.set (Hp.set Z dV (.cells #[] 71 (0,0))) KQ (.cells #[.I x2,.U KW] 61 (0,0))) (CS λjq C jr y=>Al y λYO=>AJ prog (DV 23 Nk n11 Q3 YO) (Hp.set y YO (.cells #[.slice jq C jr,(.slice (aD KQ 0) 1 1)] 51 (0,0))) (CS λp51 G A AB=>AF (Q1+1)/\MD R x2 p51 G A (aD b37 o37) n33 c33 UX (Q1+1) AB))))/\(Al Z λKQ=>Al (Hp.set Z KQ (.cells #[.I x2,.U KW] 61 (0,0))) λdV=>AJ prog (Builtin.append_ #[47,47] 47 #[(.slice (aD dV 0) 0 0),.slice AFZ AFa AFb]) (Hp.set (Hp.set Z KQ (.cells #[.I x2,.U KW] 61 (0,0))) dV (.cells #[] 71 (0,0))) (CS λjq C jr y=>Al y λYO=>AJ prog (DV 23 Nk n11 Q3 YO) (Hp.set y YO (.cells #[.slice jq C jr,(.slice (aD KQ 0) 1 1)] 51 (0,0))) (CS λp51 G A AB=>AF (Q1+1)/\MD R x2 p51 G A (aD b37 o37) n33 c33 UX (Q1+1) AB)))) (R (.T #[.slice Nk n11 Q3,.I 0]) Z)):MD R x2 Nk n11 Q3 p33 n33 c33 UX Q1 Z:=M.of h ok rfl
end Ft
namespace ku
variable {p0:Option Addr}{n0 c0:Nat}
def M:Fw:=⟨prog,39,f39,[56],[],false,[],[],[]⟩
def ok:M.Ok:=⟨.cons call56 (AH.nil),mixed,func39,by kernel_rfl⟩
def start (h:AG 56 #[.slice p0 n0 c0] Z R (CS λp4 n4 c4 y=>AJ prog (convert 117 9 (.slice p4 n4 c4)) y (CT λC A=>R (.returned (.string C)) A))):Spec prog 39 #[.slice p0 n0 c0] Z R:=M.start h ok
end ku
namespace Nl
variable {q0 Fm GG:Option Addr}{By BQ FN FO D9 ET:Int}{FP:ByteArray}{Fo Fp Fq GH:Nat}{EU:Bool}
def M:Fw:=⟨prog,48,f48,[77,78,79],[3],false,[(6,9,true)],[],[]⟩
def ok:M.Ok:=⟨.cons call77 (.cons call78 (.cons call79 (AH.nil))),mixed,func48,by kernel_rfl⟩
def start (h:∀b3:Nat,AG 77 #[.agg #[.I By,.I BQ,.string FP,.slice Fm Fo Fp,.I FN,.I FO,.I D9,.slice GG Fq GH,.bool EU,.I ET]] Z R (CB λt10 y=>Bn t10 (R (.returned (.I 190)) y) (Pq q0 λG Ru=>LS y G Ru λp18 n18 c18=>Br ((n18:Int)<ET) (R (.returned (.I 190)) y) (AG 78 #[.slice Fm Fo Fp] y R (CI .i64 λJT AB=>Br (JT≠0) (R (.returned (.I 193)) AB) (AJ prog (Instr.makeMap 144 none) AB (λz AK=>∃A,z=(.map (some A))/\AG 79 #[.I 1] AK R (λz AX=>∃f27 a27 po,(Value.func f27 a27 po)=z/\AJ prog (Instr.mapUpdate 144 (.map (some A)) (.I 1) (Value.func f27 a27 po)) AX (λ_ DK=>AG 79 #[.I 2] DK R (λz GK=>∃f28 a28 c28,(Value.func f28 a28 c28)=z/\AJ prog (Instr.mapUpdate 144 (.map (some A)) (.I 2) (Value.func f28 a28 c28)) GK (λ_ RR=>AG 79 #[.I 3] RR R (λz YG=>∃f29 a29 vg,(Value.func f29 a29 vg)=z/\AJ prog (Instr.mapUpdate 144 (.map (some A)) (.I 3) (Value.func f29 a29 vg)) YG (λ_ fG=>AJ prog (Instr.mapUpdate 144 (.map (some A)) (.I 4) (.func (.func 80) #[(.pointer (aD G Ru))] #[])) fG (λ_ dM=>AJ prog (Instr.mapUpdate 144 (.map (some A)) (.I 5) (.func (.func 81) #[(.pointer (aD G Ru))] #[])) dM (λ_ Aaj=>AJ prog (Instr.mapUpdate 144 (.map (some A)) (.I 6) (.func (.func 82) #[(.pointer (aD G Ru))] #[])) Aaj (λ_ Aak=>AJ prog (Instr.mapUpdate 144 (.map (some A)) (.I 7) (.func (.func 83) #[(.pointer (aD G Ru))] #[])) Aak (λ_ AFd=>LS AFd G Ru λp42 C c42=>AF ((C:Int)-ET)/\LS AFd G Ru λp56 n56 c56=>((0:Int)<=((C:Int)-ET)/\((C:Int)-ET)<=(n56:Int))/\AJ prog (Instr.lookup 144 (.map (some A)) (.I By) false) AFd (λz AQi=>∃v51,v51=z/\Kp [G] AFd AQi/\∃(f59:Nat) (AIA AIB:Array Value),v51=.func (.func f59) AIA AIB/\Enters prog f59/\Spec prog f59 (AIA++#[.agg #[.I By,.I BQ,.string FP,.slice Fm Fo Fp,.I FN,.I FO,.I D9,.slice GG Fq GH,.bool EU,.I ET],(.slice (Mp p56 (Int.toNat ((C:Int)-ET)) c56 1) (n56-Int.toNat ((C:Int)-ET)) (c56-Int.toNat ((C:Int)-ET)))]++AIB) AQi (BV R (λz qJ=>∃zv PH,z=(.tuple #[.I zv,.I PH])/\LS qJ G Ru λp66 zw tO=>((0:Int)<=((C:Int)-ET)/\((C:Int)-ET)<=(tO:Int))/\Al qJ λNj=>AJ prog (Builtin.append_ #[104,104] 104 #[(.slice p66 (Int.toNat ((C:Int)-ET)) tO),(.slice (aD Nj 0) 1 1)]) (Hp.set qJ Nj (.cells #[.I zv] 109 (0,0))) (CS λvz v7 wC ALo=>AJ prog (Instr.storeAt 104 (.pointer (aD G Ru)) (.slice vz v7 wC)) ALo (λ_ ALp=>R (.returned (.I PH)) ALp)))))))))))))))))))))):Spec prog 48 #[.pointer q0,.agg #[.I By,.I BQ,.string FP,.slice Fm Fo Fp,.I FN,.I FO,.I D9,.slice GG Fq GH,.bool EU,.I ET]] Z R:=M.start h ok
end Nl
namespace EV
variable {x0 x3:Int}{t4 t8:Bool}
def M:Fw:=⟨prog,49,f49,[],[],false,[],[],[(53,[(3,wI),(4,wB)]),(215,[(3,wI),(8,wB)])]⟩
def ok:M.Ok:=⟨AH.nil,mixed,func49,by kernel_rfl⟩
def PF:=M.pt 0
def IF:=M.pt 1
def start (h:Br (x0=1) (PF R x0 true Z) (Br (x0=2) (PF R x0 true Z) (PF R x0 ((decide (x0=3))) Z))):Spec prog 49 #[.I x0] Z R:=M.start h ok
def Kg (h:Bo t4 (R (.returned (.I 0)) Z) (Br (x3=4) (IF R x3 true Z) (Br (x3=5) (IF R x3 true Z) (IF R x3 ((decide (x3=7))) Z)))):PF R x3 t4 Z:=M.of h ok rfl
def Fu (h:Bo t8 (R (.returned (.I 1)) Z) (Br (x3=6) (R (.returned (.I 2)) Z) (R (.returned (.I (-1))) Z))):IF R x3 t8 Z:=M.of h ok rfl
end EV
namespace YQ
variable {s0 s1:ByteArray}
def M:Fw:=⟨prog,65,f65,[],[],false,[],[],[]⟩
def ok:M.Ok:=⟨AH.nil,mixed,func65,by kernel_rfl⟩
def start (h:∃t8,YF prog ((do eqGuard .lss 9 (.tmp 6) (.tmp 7) (.string s0) (.string s1);binOp .lss 9 (.string s0) (.string s1))) Z (.bool t8)/\Bo t8 (R (.returned (.I (-1))) Z) (∃t12,YF prog ((do eqGuard .gtr 9 (.tmp 10) (.tmp 11) (.string s0) (.string s1);binOp .gtr 9 (.string s0) (.string s1))) Z (.bool t12)/\Bo t12 (R (.returned (.I 1)) Z) (R (.returned (.I 0)) Z))):Spec prog 65 #[.string s0,.string s1] Z R:=M.start h ok
end YQ
namespace Bb
variable {Ae A1 Bf Bh BM BS x2 Bi A6 Ct CZ C1 C2 BC BD C3 LK LL LM x8 x9 x10:Int}{BW C4:ByteArray}{CJ B4 p1 Cu C5 BG C6 LN LO:Option Addr}{CD CK Bl B8 n1 c1 Cv Cw C7 C8 BH BI C9 DA LP LR LU LV:Nat}{Bj Dd:Bool}
def M:Fw:=⟨prog,67,f67,[104],[3,6,7],false,[(14,20,false)],[],[(464,[(1,wL),(2,wI),(3,.X 44 [.I .i64,.I .i64,.T,.L,.I .i64,.I .i64,.I .i64,.L,.B,.I .i64]),(6,.X 90 [.I .i64,.I .u64,.L,.I .i64,.L]),(7,.X 90 [.I .i64,.I .u64,.L,.I .i64,.L]),(8,wI)]),(467,[(1,wL),(2,wI),(3,.X 44 [.I .i64,.I .i64,.T,.L,.I .i64,.I .i64,.I .i64,.L,.B,.I .i64]),(6,.X 90 [.I .i64,.I .u64,.L,.I .i64,.L]),(7,.X 90 [.I .i64,.I .u64,.L,.I .i64,.L]),(8,wI)]),(238800,[(1,wL),(2,wI),(3,.X 44 [.I .i64,.I .i64,.T,.L,.I .i64,.I .i64,.I .i64,.L,.B,.I .i64]),(6,.X 90 [.I .i64,.I .u64,.L,.I .i64,.L]),(7,.X 90 [.I .i64,.I .u64,.L,.I .i64,.L]),(8,wI),(9,wI),(10,wI)]),(238803,[(1,wL),(2,wI),(3,.X 44 [.I .i64,.I .i64,.T,.L,.I .i64,.I .i64,.I .i64,.L,.B,.I .i64]),(6,.X 90 [.I .i64,.I .u64,.L,.I .i64,.L]),(7,.X 90 [.I .i64,.I .u64,.L,.I .i64,.L]),(8,wI),(9,wI),(10,wI)])]⟩
def ok:M.Ok:=⟨.cons call104 (AH.nil),mixed,func67,by kernel_rfl⟩
def AR:=M.pt 0
def LJ:=M.pt 1
def Nv:=M.pt 2
def Gt:=M.pt 3
def start (h:∀b3:Nat,∀b6:Nat,∀A:Nat,AR R p1 n1 c1 x2 Ae A1 BW CJ CD CK Bf Bh BM B4 Bl B8 Bj BS 0 0 none 0 0 0 none 0 0 2 0 none 0 0 0 none 0 0 0 Z):Spec prog 67 #[.agg #[.I Ae,.I A1,.string BW,.slice CJ CD CK,.I Bf,.I Bh,.I BM,.slice B4 Bl B8,.bool Bj,.I BS],.slice p1 n1 c1,.I x2] Z R:=M.start h ok
def AM (h:Br (x8<(n1:Int)) (Pq p1 λA C=>In x8 (n1:Int)/\LS Z A (C+x8.toNat*2) λwD n25 wE=>AG 104 #[.slice Cu Cv Cw,.slice wD n25 wE] Z R (CB λt26 y=>Bn t26 (LJ R (aD A C) n1 c1 x2 Bi A6 C4 Cu Cv Cw Ct CZ C1 C5 C7 C8 Dd C2 BC BD BG BH BI C3 C6 C9 DA LK LL LN LP LR LM LO LU LV x8 y) (Nv R (aD A C) n1 c1 x2 Bi A6 C4 Cu Cv Cw Ct CZ C1 C5 C7 C8 Dd C2 BC BD BG BH BI C3 C6 C9 DA LK LL LN LP LR LM LO LU LV x8 (-1) 0 y))) (R (.returned (.agg #[.I LK,.U LL,.slice LN LP LR,.I LM,.slice LO LU LV])) Z)):AR R p1 n1 c1 x2 Bi A6 C4 Cu Cv Cw Ct CZ C1 C5 C7 C8 Dd C2 BC BD BG BH BI C3 C6 C9 DA LK LL LN LP LR LM LO LU LV x8 Z:=M.dL h ok rfl λ_ _ _=>by kernel_rfl
def M3 (h:AF (x8+1)/\AR R p1 n1 c1 x2 Bi A6 C4 Cu Cv Cw Ct CZ C1 C5 C7 C8 Dd C2 BC BD BG BH BI C3 C6 C9 DA LK LL LN LP LR LM LO LU LV (x8+1) Z):LJ R p1 n1 c1 x2 Bi A6 C4 Cu Cv Cw Ct CZ C1 C5 C7 C8 Dd C2 BC BD BG BH BI C3 C6 C9 DA LK LL LN LP LR LM LO LU LV x8 Z:=M.dL h ok rfl λ_ _ _=>by kernel_rfl
def Ii (h:Pq p1 λA C=>In x8 (n1:Int)/\LS Z A ((C+x8.toNat*2)+1) λp33 n33 c33=>Br (x10<(n33:Int)) (In x8 (n1:Int)/\LS Z A ((C+x8.toNat*2)+1) λp42 n42 c42=>Pq p42 λb44 o44=>In x10 (n42:Int)/\LI .i64 Z b44 (o44+x10.toNat*2) λhY=>AF (x2-CZ)/\AF ((x2-CZ)-300)/\Br ((((x2-CZ)-300):Int)<hY) (AF (x2-CZ)/\Br (hY<=(x2-CZ)) (Gt R (aD A C) n1 c1 x2 Bi A6 C4 Cu Cv Cw Ct CZ C1 C5 C7 C8 Dd C2 BC BD BG BH BI C3 C6 C9 DA LK LL LN LP LR LM LO LU LV x8 x10 x10 Z) (Gt R (aD A C) n1 c1 x2 Bi A6 C4 Cu Cv Cw Ct CZ C1 C5 C7 C8 Dd C2 BC BD BG BH BI C3 C6 C9 DA LK LL LN LP LR LM LO LU LV x8 x9 x10 Z)) (Gt R (aD A C) n1 c1 x2 Bi A6 C4 Cu Cv Cw Ct CZ C1 C5 C7 C8 Dd C2 BC BD BG BH BI C3 C6 C9 DA LK LL LN LP LR LM LO LU LV x8 x9 x10 Z)) (Br (0<=x9) (In x8 (n1:Int)/\LS Z A ((C+x8.toNat*2)+1) λp70 n70 c70=>Pq p70 λoM yM=>In x9 (n70:Int)/\LI .u64 Z oM ((yM+x9.toNat*2)+1) λx74=>Br (x74≠9218868437227405314) (In x8 (n1:Int)/\LS Z A (C+x8.toNat*2) λvj dQ vk=>In x8 (n1:Int)/\LS Z A ((C+x8.toNat*2)+1) λp88 n88 c88=>Pq p88 λb90 o90=>In x9 (n88:Int)/\LI .u64 Z b90 ((o90+x9.toNat*2)+1) λqK=>Al Z λG=>AJ prog (DV 87 LN LP LR G) (Hp.set Z G (.cells #[.slice vj dQ vk,.U qK] 94 (0,0))) (CS λp95 n95 c95 y=>LJ R (aD A C) n1 c1 x2 Bi A6 C4 Cu Cv Cw Ct CZ C1 C5 C7 C8 Dd C2 BC BD BG BH BI C3 C6 C9 DA LK LL p95 n95 c95 LM LO LU LV x8 y)) (LJ R (aD A C) n1 c1 x2 Bi A6 C4 Cu Cv Cw Ct CZ C1 C5 C7 C8 Dd C2 BC BD BG BH BI C3 C6 C9 DA LK LL LN LP LR LM LO LU LV x8 Z)) (LJ R (aD A C) n1 c1 x2 Bi A6 C4 Cu Cv Cw Ct CZ C1 C5 C7 C8 Dd C2 BC BD BG BH BI C3 C6 C9 DA LK LL LN LP LR LM LO LU LV x8 Z))):Nv R p1 n1 c1 x2 Bi A6 C4 Cu Cv Cw Ct CZ C1 C5 C7 C8 Dd C2 BC BD BG BH BI C3 C6 C9 DA LK LL LN LP LR LM LO LU LV x8 x9 x10 Z:=M.dL h ok rfl λ_ _ _=>by kernel_rfl
def FA (h:AF (x10+1)/\Nv R p1 n1 c1 x2 Bi A6 C4 Cu Cv Cw Ct CZ C1 C5 C7 C8 Dd C2 BC BD BG BH BI C3 C6 C9 DA LK LL LN LP LR LM LO LU LV x8 x9 (x10+1) Z):Gt R p1 n1 c1 x2 Bi A6 C4 Cu Cv Cw Ct CZ C1 C5 C7 C8 Dd C2 BC BD BG BH BI C3 C6 C9 DA LK LL LN LP LR LM LO LU LV x8 x9 x10 Z:=M.dL h ok rfl λ_ _ _=>by kernel_rfl
end Bb
namespace ME
variable {Ae A1 x0d By BQ Q4 GO Gm UY Bi A6 VC x4:Int}{p0c p0e PI Q5 Rv UZ Wl Wm:Option Addr}{n0c c0c n0e c0e Nn PJ Q6 Q7 Rx Ry Ua Ub RX V2 TI V3:Nat}
def M:Fw:=⟨prog,71,f71,[107,111],[1,2,3],false,[(7,20,false)],[],[(976,[(1,.X 90 [.I .i64,.I .u64,.L,.I .i64,.L]),(2,.X 90 [.I .i64,.I .u64,.L,.I .i64,.L]),(3,.X 90 [.I .i64,.I .u64,.L,.I .i64,.L]),(4,wI)])]⟩
def ok:M.Ok:=⟨.cons call107 (.cons call111 (AH.nil)),mixed,func71,by kernel_rfl⟩
def kv:=M.pt 0
def start (h:∀b1:Nat,∀b2:Nat,Br (Ae=1) (AG 111 #[.U A1] Z R (CI .u64 λx10 y=>R (.returned (.agg #[.I 1,.U x10,.N,.I 0,.N])) y)) (∀b3:Nat,kv R Ae A1 p0c n0c c0c x0d p0e n0e c0e 0 0 none 0 0 0 none 0 0 2 0 none 0 0 0 none 0 0 0 Z)):Spec prog 71 #[.agg #[.I Ae,.U A1,.slice p0c n0c c0c,.I x0d,.slice p0e n0e c0e]] Z R:=M.start h ok
def XO (h:Br (x4<(Nn:Int)) (Pq PI λC G=>In x4 (Nn:Int)/\LS Z C (G+x4.toNat*2) λyJ n27 po=>In x4 (Nn:Int)/\LI .u64 Z C ((G+x4.toNat*2)+1) λUX=>AG 107 #[.slice yJ n27 po] Z R (CS λp28 n28 c28 y=>Kp [C] Z y/\AG 111 #[.U UX] y R (CI .u64 λQ1 AB=>Al AB λA=>AJ prog (DV 87 Wl RX V2 A) (Hp.set AB A (.cells #[.slice p28 n28 c28,.U Q1] 94 (0,0))) (CS λp38 n38 c38 AK=>AF (x4+1)/\kv R By BQ (aD C G) Nn PJ Q4 Q5 Q6 Q7 GO Gm Rv Rx Ry UY UZ Ua Ub Bi A6 p38 n38 c38 VC Wm TI V3 (x4+1) AK)))) (R (.returned (.agg #[.I Bi,.U A6,.slice Wl RX V2,.I VC,.slice Wm TI V3])) Z)):kv R By BQ PI Nn PJ Q4 Q5 Q6 Q7 GO Gm Rv Rx Ry UY UZ Ua Ub Bi A6 Wl RX V2 VC Wm TI V3 x4 Z:=M.dL h ok rfl λ_ _ _=>by kernel_rfl
end ME
namespace HW
variable {q0 Fm GG p2:Option Addr}{By BQ FN FO D9 ET:Int}{FP:ByteArray}{Fo Fp Fq GH n2 c2:Nat}{EU:Bool}
def M:Fw:=⟨prog,82,f82,[132,136],[4],false,[(1,10,true)],[],[]⟩
def ok:M.Ok:=⟨.cons call132 (.cons call136 (AH.nil)),mixed,func82,by kernel_rfl⟩
def start (h:∀G:Nat,Pq p2 λD0 C=>In 0 (n2:Int)/\LI .i64 Z D0 C λx15=>In 1 (n2:Int)/\LI .i64 Z D0 (C+1) λGI=>Br (x15=2) (Br (x15=1) (Br (x15=3) (R (.T #[.I 0,.I 192]) Z) (Br (GI=3) (R (.T #[.I 0,.I 192]) Z) (AG 136 #[.I BQ] Z R (CB λt41 y=>Bo t41 (Bm (GI=2) (R (.T #[.I 0,.I 192]) y) (Br (GI=1) (AG 132 #[.I BQ] y R (CB λt57 A=>Bo t57 (Bn EU (R (.T #[.I 0,.I 192]) A) (R (.T #[(.I (if x15<GI then GI else x15)),.I 0]) A)) (R (.T #[(.I (if x15<GI then GI else x15)),.I 0]) A))) (R (.T #[(.I (if x15<GI then GI else x15)),.I 0]) y))) (Br (D9≠0) (Bm (GI=2) (R (.T #[.I 0,.I 192]) y) (Br (GI=1) (AG 132 #[.I BQ] y R (CB λt57 A=>Bo t57 (Bn EU (R (.T #[.I 0,.I 192]) A) (R (.T #[(.I (if x15<GI then GI else x15)),.I 0]) A)) (R (.T #[(.I (if x15<GI then GI else x15)),.I 0]) A))) (R (.T #[(.I (if x15<GI then GI else x15)),.I 0]) y))) (Br (GI=1) (AG 132 #[.I BQ] y R (CB λt57 A=>Bo t57 (Bn EU (R (.T #[.I 0,.I 192]) A) (R (.T #[(.I (if x15<GI then GI else x15)),.I 0]) A)) (R (.T #[(.I (if x15<GI then GI else x15)),.I 0]) A))) (R (.T #[(.I (if x15<GI then GI else x15)),.I 0]) y))))))) (Br (x15=3) (R (.T #[.I 0,.I 192]) Z) (Br (GI=3) (R (.T #[.I 0,.I 192]) Z) (AG 136 #[.I BQ] Z R (CB λt41 y=>Bo t41 (Bm (GI=2) (R (.T #[.I 0,.I 192]) y) (R (.T #[(.I (if x15<GI then GI else x15)),.I 0]) y)) (Br (D9≠0) (Bm (GI=2) (R (.T #[.I 0,.I 192]) y) (R (.T #[(.I (if x15<GI then GI else x15)),.I 0]) y)) (R (.T #[(.I (if x15<GI then GI else x15)),.I 0]) y))))))) (Br (x15=1) (Br (x15=3) (R (.T #[.I 0,.I 192]) Z) (Br (GI=3) (R (.T #[.I 0,.I 192]) Z) (AG 136 #[.I BQ] Z R (CB λt41 y=>Bo t41 (R (.T #[.I 0,.I 192]) y) (Br (D9≠0) (R (.T #[.I 0,.I 192]) y) (Br (GI=1) (AG 132 #[.I BQ] y R (CB λt57 A=>Bo t57 (Bn EU (R (.T #[.I 0,.I 192]) A) (R (.T #[(.I (if x15<GI then GI else x15)),.I 0]) A)) (R (.T #[(.I (if x15<GI then GI else x15)),.I 0]) A))) (R (.T #[(.I (if x15<GI then GI else x15)),.I 0]) y))))))) (Br (x15=3) (R (.T #[.I 0,.I 192]) Z) (Br (GI=3) (R (.T #[.I 0,.I 192]) Z) (AG 136 #[.I BQ] Z R (CB λt41 y=>Bo t41 (R (.T #[.I 0,.I 192]) y) (Br (D9≠0) (R (.T #[.I 0,.I 192]) y) (R (.T #[(.I (if x15<GI then GI else x15)),.I 0]) y)))))))):Spec prog 82 #[.pointer q0,.agg #[.I By,.I BQ,.string FP,.slice Fm Fo Fp,.I FN,.I FO,.I D9,.slice GG Fq GH,.bool EU,.I ET],.slice p2 n2 c2] Z R:=M.start h ok
end HW
namespace YR
variable {p0:Option Addr}{n0 c0:Nat}
def M:Fw:=⟨prog,107,f107,[149],[],false,[],[],[]⟩
def ok:M.Ok:=⟨.cons call149 (AH.nil),mixed,func107,by kernel_rfl⟩
def start (h:Al Z λA=>AG 149 #[.slice p0 n0 c0,(.slice (aD A 0) 1 1),.bool false] (Hp.set Z A (.cells #[(.string (ByteArray.mk #[95,95,110,97,109,101,95,95]))] 9 (0,0))) R (CS λp5 n5 c5 y=>R (.returned (.slice p5 n5 c5)) y)):Spec prog 107 #[.slice p0 n0 c0] Z R:=M.start h ok
end YR
namespace Ez
variable {x0 x7:Int}{p1 p2:Option Addr}{n1 c1 n2 c2:Nat}{t8 t14:Bool}
def M:Fw:=⟨prog,109,f109,[107,149],[],false,[],[],[(53,[(1,wL),(2,wL),(7,wI),(8,wB)]),(215,[(1,wL),(2,wL),(14,wB)])]⟩
def ok:M.Ok:=⟨.cons call107 (.cons call149 (AH.nil)),mixed,func109,by kernel_rfl⟩
def GX:=M.pt 0
def JK:=M.pt 1
def start (h:Br (x0=1) (GX R p1 n1 c1 p2 n2 c2 x0 true Z) (GX R p1 n1 c1 p2 n2 c2 x0 ((decide (x0=3))) Z)):Spec prog 109 #[.I x0,.slice p1 n1 c1,.slice p2 n2 c2] Z R:=M.start h ok
def Fv (h:Bo t8 (AG 149 #[.slice p2 n2 c2,.slice p1 n1 c1,.bool true] Z R (CS λG C A y=>R (.returned (.slice G C A)) y)) (Br (x7=2) (JK R p1 n1 c1 p2 n2 c2 true Z) (JK R p1 n1 c1 p2 n2 c2 ((decide (x7=4))) Z))):GX R p1 n1 c1 p2 n2 c2 x7 t8 Z:=M.of h ok rfl
def Gn (h:Bo t14 (AG 149 #[.slice p2 n2 c2,.slice p1 n1 c1,.bool false] Z R (CS λvh C pq y=>AG 107 #[.slice vh C pq] y R (CS λp20 G A AB=>R (.returned (.slice p20 G A)) AB))) (R (.returned (.N)) Z)):JK R p1 n1 c1 p2 n2 c2 t14 Z:=M.of h ok rfl
end Ez
namespace kx
variable {x0 x1 x2:Int}
def M:Fw:=⟨prog,115,f115,[153],[],false,[],[],[]⟩
def ok:M.Ok:=⟨.cons call153 (AH.nil),mixed,func115,by kernel_rfl⟩
def start (h:AG 153 #[.I x0,.U x1,.U x2] Z R (λz y=>∃A C,z=(.tuple #[.U A,.bool C])/\R (.returned (.U A)) y)):Spec prog 115 #[.I x0,.U x1,.U x2] Z R:=M.start h ok
end kx
namespace Am
variable {Ae A1 Bf Bh BM BS By BQ Q4 GO Gm UY Bi A6 Ct CZ C1 C2 BZ BX EI Ca CL Fy BC BD C3 CO CP Ij x10 x11 N2:Int}{BW C4:ByteArray}{CJ B4 PI Q5 Rv UZ Cu C5 Hq EJ GY Fz BG C6 CW Ik:Option Addr}{CD CK Bl B8 Nn PJ Q6 Q7 Rx Ry Ua Ub Cv Cw C7 C8 CM De EK EL Dp FR F0 F1 BH BI C9 DA CN CR Il Im:Nat}{Bj Dd t9:Bool}
def M:Fw:=⟨prog,117,f117,[112,113,114,115,154,155],[3,4,5,6,8],false,[(16,10,false),(19,22,false),(21,23,false),(23,10,false),(28,10,false)],[],[(976,[(3,.X 44 [.I .i64,.I .i64,.T,.L,.I .i64,.I .i64,.I .i64,.L,.B,.I .i64]),(4,.X 90 [.I .i64,.I .u64,.L,.I .i64,.L]),(5,.X 90 [.I .i64,.I .u64,.L,.I .i64,.L]),(6,.X 90 [.I .i64,.I .u64,.L,.I .i64,.L]),(8,.X 90 [.I .i64,.I .u64,.L,.I .i64,.L]),(9,wB),(10,wI)]),(2000,[(3,.X 44 [.I .i64,.I .i64,.T,.L,.I .i64,.I .i64,.I .i64,.L,.B,.I .i64]),(4,.X 90 [.I .i64,.I .u64,.L,.I .i64,.L]),(5,.X 90 [.I .i64,.I .u64,.L,.I .i64,.L]),(6,.X 90 [.I .i64,.I .u64,.L,.I .i64,.L]),(8,.X 90 [.I .i64,.I .u64,.L,.I .i64,.L]),(9,wB),(11,wI)]),(4048,[(3,.X 44 [.I .i64,.I .i64,.T,.L,.I .i64,.I .i64,.I .i64,.L,.B,.I .i64]),(4,.X 90 [.I .i64,.I .u64,.L,.I .i64,.L]),(5,.X 90 [.I .i64,.I .u64,.L,.I .i64,.L]),(6,.X 90 [.I .i64,.I .u64,.L,.I .i64,.L]),(8,.X 90 [.I .i64,.I .u64,.L,.I .i64,.L]),(14,wI)]),(4051,[(3,.X 44 [.I .i64,.I .i64,.T,.L,.I .i64,.I .i64,.I .i64,.L,.B,.I .i64]),(4,.X 90 [.I .i64,.I .u64,.L,.I .i64,.L]),(5,.X 90 [.I .i64,.I .u64,.L,.I .i64,.L]),(6,.X 90 [.I .i64,.I .u64,.L,.I .i64,.L]),(8,.X 90 [.I .i64,.I .u64,.L,.I .i64,.L]),(14,wI)]),(2003,[(3,.X 44 [.I .i64,.I .i64,.T,.L,.I .i64,.I .i64,.I .i64,.L,.B,.I .i64]),(4,.X 90 [.I .i64,.I .u64,.L,.I .i64,.L]),(5,.X 90 [.I .i64,.I .u64,.L,.I .i64,.L]),(6,.X 90 [.I .i64,.I .u64,.L,.I .i64,.L]),(8,.X 90 [.I .i64,.I .u64,.L,.I .i64,.L]),(9,wB),(11,wI)])]⟩
def ok:M.Ok:=⟨.cons call112 (.cons call113 (.cons call114 (.cons call115 (.cons call154 (.cons call155 (AH.nil)))))),mixed,func117,by kernel_rfl⟩
def J6:=M.pt 0
def VD:=M.pt 1
def AFg:=M.pt 2
def VB:=M.pt 3
def E4:=M.pt 4
def start (h:∀b3:Nat,∀A:Nat,∀b5:Nat,∀b6:Nat,∀C:Nat,J6 R Ae A1 BW CJ CD CK Bf Bh BM B4 Bl B8 Bj BS By BQ PI Nn PJ Q4 Q5 Q6 Q7 GO Gm Rv Rx Ry UY UZ Ua Ub 0 0 none 0 0 0 none 0 0 2 0 none 0 0 0 none 0 0 ((decide (11<=A1))) 0 Z):Spec prog 117 #[.agg #[.I Ae,.I A1,.string BW,.slice CJ CD CK,.I Bf,.I Bh,.I BM,.slice B4 Bl B8,.bool Bj,.I BS],.agg #[.I By,.U BQ,.slice PI Nn PJ,.I Q4,.slice Q5 Q6 Q7],.agg #[.I GO,.U Gm,.slice Rv Rx Ry,.I UY,.slice UZ Ua Ub]] Z R:=M.start h ok
def HX (h:Br (x10<(Dp:Int)) (Bn t9 (Pq GY λfN A=>In x10 (Dp:Int)/\LS Z fN (A+x10.toNat*2) λp38 n38 C=>AG 155 #[.agg #[.I Bi,.I A6,.string C4,.slice Cu Cv Cw,.I Ct,.I CZ,.I C1,.slice C5 C7 C8,.bool Dd,.I C2],.slice p38 n38 C] Z R (CS λp39 n39 G y=>AG 154 #[.agg #[.I Bi,.I A6,.string C4,.slice Cu Cv Cw,.I Ct,.I CZ,.I C1,.slice C5 C7 C8,.bool Dd,.I C2],(.slice (aD fN A) Dp FR),.slice p39 n39 G] y R (CI .i64 λjs AB=>Br (js=(-2)) (R (.T #[.agg #[.I CO,.U CP,.slice CW CN CR,.I Ij,.slice Ik Il Im],.bool false]) AB) (AF (x10+1)/\J6 R Bi A6 C4 Cu Cv Cw Ct CZ C1 C5 C7 C8 Dd C2 BZ BX Hq CM De EI EJ EK EL Ca CL (aD fN A) Dp FR Fy Fz F0 F1 BC BD BG BH BI C3 C6 C9 DA CO CP CW CN CR Ij Ik Il Im false (x10+1) AB)))) (AF (x10+1)/\J6 R Bi A6 C4 Cu Cv Cw Ct CZ C1 C5 C7 C8 Dd C2 BZ BX Hq CM De EI EJ EK EL Ca CL GY Dp FR Fy Fz F0 F1 BC BD BG BH BI C3 C6 C9 DA CO CP CW CN CR Ij Ik Il Im true (x10+1) Z)) (VD R Bi A6 C4 Cu Cv Cw Ct CZ C1 C5 C7 C8 Dd C2 BZ BX Hq CM De EI EJ EK EL Ca CL GY Dp FR Fy Fz F0 F1 BC BD BG BH BI C3 C6 C9 DA CO CP CW CN CR Ij Ik Il Im t9 0 Z)):J6 R Bi A6 C4 Cu Cv Cw Ct CZ C1 C5 C7 C8 Dd C2 BZ BX Hq CM De EI EJ EK EL Ca CL GY Dp FR Fy Fz F0 F1 BC BD BG BH BI C3 C6 C9 DA CO CP CW CN CR Ij Ik Il Im t9 x10 Z:=M.of5 h ok rfl λ_ _ _ _ _=>by kernel_rfl
def Jd (h:Br (x11<(CM:Int)) (Pq Hq λA C=>In x11 (CM:Int)/\LS Z A (C+x11.toNat*2) λzy n57 zz=>AG 155 #[.agg #[.I Bi,.I A6,.string C4,.slice Cu Cv Cw,.I Ct,.I CZ,.I C1,.slice C5 C7 C8,.bool Dd,.I C2],.slice zy n57 zz] Z R (CS λU7 U8 Wk y=>AG 154 #[.agg #[.I Bi,.I A6,.string C4,.slice Cu Cv Cw,.I Ct,.I CZ,.I C1,.slice C5 C7 C8,.bool Dd,.I C2],.slice GY Dp FR,.slice U7 U8 Wk] y R (CI .i64 λJp AB=>Bn t9 (AG 154 #[.agg #[.I Bi,.I A6,.string C4,.slice Cu Cv Cw,.I Ct,.I CZ,.I C1,.slice C5 C7 C8,.bool Dd,.I C2],(.slice (aD A C) CM De),.slice U7 U8 Wk] AB R (CI .i64 λyN AK=>Br (yN=(-2)) (R (.T #[.agg #[.I CO,.U CP,.slice CW CN CR,.I Ij,.slice Ik Il Im],.bool false]) AK) (Br (A6=12) (In x11 (CM:Int)/\∃FT FU FV FW,Af AK A (C+x11.toNat*2) [.slice FT FU FV,.U FW]/\Al AK λJ7=>AJ prog (DV 87 CW CN CR J7) (Hp.set AK J7 (.cells #[.slice FT FU FV,.U FW] 94 (0,0))) (CS λPK n106 PL G=>E4 R Bi A6 C4 Cu Cv Cw Ct CZ C1 C5 C7 C8 Dd C2 BZ BX (aD A C) CM De EI EJ EK EL Ca CL GY Dp FR Fy Fz F0 F1 BC BD BG BH BI C3 C6 C9 DA CO CP PK n106 PL Ij Ik Il Im false x11 G)) (Br (A6=11) (Br (Jp≠(-1)) (In x11 (CM:Int)/\∃FT FU FV FW,Af AK A (C+x11.toNat*2) [.slice FT FU FV,.U FW]/\Al AK λJ7=>AJ prog (DV 87 CW CN CR J7) (Hp.set AK J7 (.cells #[.slice FT FU FV,.U FW] 94 (0,0))) (CS λPK n106 PL G=>E4 R Bi A6 C4 Cu Cv Cw Ct CZ C1 C5 C7 C8 Dd C2 BZ BX (aD A C) CM De EI EJ EK EL Ca CL GY Dp FR Fy Fz F0 F1 BC BD BG BH BI C3 C6 C9 DA CO CP PK n106 PL Ij Ik Il Im false x11 G)) (Br (A6=13) (Br (Jp=(-1)) (In x11 (CM:Int)/\∃FT FU FV FW,Af AK A (C+x11.toNat*2) [.slice FT FU FV,.U FW]/\Al AK λJ7=>AJ prog (DV 87 CW CN CR J7) (Hp.set AK J7 (.cells #[.slice FT FU FV,.U FW] 94 (0,0))) (CS λPK n106 PL G=>E4 R Bi A6 C4 Cu Cv Cw Ct CZ C1 C5 C7 C8 Dd C2 BZ BX (aD A C) CM De EI EJ EK EL Ca CL GY Dp FR Fy Fz F0 F1 BC BD BG BH BI C3 C6 C9 DA CO CP PK n106 PL Ij Ik Il Im false x11 G)) (Br (Jp<0) (E4 R Bi A6 C4 Cu Cv Cw Ct CZ C1 C5 C7 C8 Dd C2 BZ BX (aD A C) CM De EI EJ EK EL Ca CL GY Dp FR Fy Fz F0 F1 BC BD BG BH BI C3 C6 C9 DA CO CP CW CN CR Ij Ik Il Im false x11 AK) (AG 112 #[.I A6] AK R (CB λt117 G=>Bn t117 (In x11 (CM:Int)/\LI .u64 G A ((C+x11.toNat*2)+1) λYS=>Pq GY λYT YU=>In Jp (Dp:Int)/\LI .u64 G YT ((YU+Jp.toNat*2)+1) λYV=>AG 115 #[.I A6,.U YS,.U YV] G R (CI .u64 λYW DK=>Al DK λWn=>AJ prog (DV 87 CW CN CR Wn) (Hp.set DK Wn (.cells #[.slice U7 U8 Wk,.U YW] 94 (0,0))) (CS λqL n139 qM GK=>E4 R Bi A6 C4 Cu Cv Cw Ct CZ C1 C5 C7 C8 Dd C2 BZ BX (aD A C) CM De EI EJ EK EL Ca CL (aD YT YU) Dp FR Fy Fz F0 F1 BC BD BG BH BI C3 C6 C9 DA CO CP qL n139 qM Ij Ik Il Im false x11 GK))) (Bo Dd (In x11 (CM:Int)/\LI .u64 G A ((C+x11.toNat*2)+1) λqN=>Pq GY λYX YY=>In Jp (Dp:Int)/\LI .u64 G YX ((YY+Jp.toNat*2)+1) λqO=>AG 114 #[.I A6,.U qN,.U qO] G R (CB λt161 DK=>AG 113 #[.bool t161] DK R (CI .u64 λqP GK=>Al GK λWo=>AJ prog (DV 87 CW CN CR Wo) (Hp.set GK Wo (.cells #[.slice U7 U8 Wk,.U qP] 94 (0,0))) (CS λqQ n165 qR RR=>E4 R Bi A6 C4 Cu Cv Cw Ct CZ C1 C5 C7 C8 true C2 BZ BX (aD A C) CM De EI EJ EK EL Ca CL (aD YX YY) Dp FR Fy Fz F0 F1 BC BD BG BH BI C3 C6 C9 DA CO CP qQ n165 qR Ij Ik Il Im false x11 RR)))) (In x11 (CM:Int)/\LI .u64 G A ((C+x11.toNat*2)+1) λqS=>Pq GY λSZ Sa=>In Jp (Dp:Int)/\LI .u64 G SZ ((Sa+Jp.toNat*2)+1) λqT=>AG 114 #[.I A6,.U qS,.U qT] G R (CB λt182 DK=>Bo t182 (In x11 (CM:Int)/\∃PM PN PO PQ,Af DK A (C+x11.toNat*2) [.slice PM PN PO,.U PQ]/\Al DK λWp=>AJ prog (DV 87 CW CN CR Wp) (Hp.set DK Wp (.cells #[.slice PM PN PO,.U PQ] 94 (0,0))) (CS λqU n191 qV GK=>E4 R Bi A6 C4 Cu Cv Cw Ct CZ C1 C5 C7 C8 false C2 BZ BX (aD A C) CM De EI EJ EK EL Ca CL (aD SZ Sa) Dp FR Fy Fz F0 F1 BC BD BG BH BI C3 C6 C9 DA CO CP qU n191 qV Ij Ik Il Im false x11 GK)) (E4 R Bi A6 C4 Cu Cv Cw Ct CZ C1 C5 C7 C8 false C2 BZ BX (aD A C) CM De EI EJ EK EL Ca CL (aD SZ Sa) Dp FR Fy Fz F0 F1 BC BD BG BH BI C3 C6 C9 DA CO CP CW CN CR Ij Ik Il Im false x11 DK)))))))) (Br (Jp<0) (E4 R Bi A6 C4 Cu Cv Cw Ct CZ C1 C5 C7 C8 Dd C2 BZ BX (aD A C) CM De EI EJ EK EL Ca CL GY Dp FR Fy Fz F0 F1 BC BD BG BH BI C3 C6 C9 DA CO CP CW CN CR Ij Ik Il Im false x11 AK) (AG 112 #[.I A6] AK R (CB λt117 G=>Bn t117 (In x11 (CM:Int)/\LI .u64 G A ((C+x11.toNat*2)+1) λYS=>Pq GY λYT YU=>In Jp (Dp:Int)/\LI .u64 G YT ((YU+Jp.toNat*2)+1) λYV=>AG 115 #[.I A6,.U YS,.U YV] G R (CI .u64 λYW DK=>Al DK λWn=>AJ prog (DV 87 CW CN CR Wn) (Hp.set DK Wn (.cells #[.slice U7 U8 Wk,.U YW] 94 (0,0))) (CS λqL n139 qM GK=>E4 R Bi A6 C4 Cu Cv Cw Ct CZ C1 C5 C7 C8 Dd C2 BZ BX (aD A C) CM De EI EJ EK EL Ca CL (aD YT YU) Dp FR Fy Fz F0 F1 BC BD BG BH BI C3 C6 C9 DA CO CP qL n139 qM Ij Ik Il Im false x11 GK))) (Bo Dd (In x11 (CM:Int)/\LI .u64 G A ((C+x11.toNat*2)+1) λqN=>Pq GY λYX YY=>In Jp (Dp:Int)/\LI .u64 G YX ((YY+Jp.toNat*2)+1) λqO=>AG 114 #[.I A6,.U qN,.U qO] G R (CB λt161 DK=>AG 113 #[.bool t161] DK R (CI .u64 λqP GK=>Al GK λWo=>AJ prog (DV 87 CW CN CR Wo) (Hp.set GK Wo (.cells #[.slice U7 U8 Wk,.U qP] 94 (0,0))) (CS λqQ n165 qR RR=>E4 R Bi A6 C4 Cu Cv Cw Ct CZ C1 C5 C7 C8 true C2 BZ BX (aD A C) CM De EI EJ EK EL Ca CL (aD YX YY) Dp FR Fy Fz F0 F1 BC BD BG BH BI C3 C6 C9 DA CO CP qQ n165 qR Ij Ik Il Im false x11 RR)))) (In x11 (CM:Int)/\LI .u64 G A ((C+x11.toNat*2)+1) λqS=>Pq GY λSZ Sa=>In Jp (Dp:Int)/\LI .u64 G SZ ((Sa+Jp.toNat*2)+1) λqT=>AG 114 #[.I A6,.U qS,.U qT] G R (CB λt182 DK=>Bo t182 (In x11 (CM:Int)/\∃PM PN PO PQ,Af DK A (C+x11.toNat*2) [.slice PM PN PO,.U PQ]/\Al DK λWp=>AJ prog (DV 87 CW CN CR Wp) (Hp.set DK Wp (.cells #[.slice PM PN PO,.U PQ] 94 (0,0))) (CS λqU n191 qV GK=>E4 R Bi A6 C4 Cu Cv Cw Ct CZ C1 C5 C7 C8 false C2 BZ BX (aD A C) CM De EI EJ EK EL Ca CL (aD SZ Sa) Dp FR Fy Fz F0 F1 BC BD BG BH BI C3 C6 C9 DA CO CP qU n191 qV Ij Ik Il Im false x11 GK)) (E4 R Bi A6 C4 Cu Cv Cw Ct CZ C1 C5 C7 C8 false C2 BZ BX (aD A C) CM De EI EJ EK EL Ca CL (aD SZ Sa) Dp FR Fy Fz F0 F1 BC BD BG BH BI C3 C6 C9 DA CO CP CW CN CR Ij Ik Il Im false x11 DK))))))))) (Br (A6=13) (Br (Jp=(-1)) (In x11 (CM:Int)/\∃FT FU FV FW,Af AK A (C+x11.toNat*2) [.slice FT FU FV,.U FW]/\Al AK λJ7=>AJ prog (DV 87 CW CN CR J7) (Hp.set AK J7 (.cells #[.slice FT FU FV,.U FW] 94 (0,0))) (CS λPK n106 PL G=>E4 R Bi A6 C4 Cu Cv Cw Ct CZ C1 C5 C7 C8 Dd C2 BZ BX (aD A C) CM De EI EJ EK EL Ca CL GY Dp FR Fy Fz F0 F1 BC BD BG BH BI C3 C6 C9 DA CO CP PK n106 PL Ij Ik Il Im false x11 G)) (Br (Jp<0) (E4 R Bi A6 C4 Cu Cv Cw Ct CZ C1 C5 C7 C8 Dd C2 BZ BX (aD A C) CM De EI EJ EK EL Ca CL GY Dp FR Fy Fz F0 F1 BC BD BG BH BI C3 C6 C9 DA CO CP CW CN CR Ij Ik Il Im false x11 AK) (AG 112 #[.I A6] AK R (CB λt117 G=>Bn t117 (In x11 (CM:Int)/\LI .u64 G A ((C+x11.toNat*2)+1) λYS=>Pq GY λYT YU=>In Jp (Dp:Int)/\LI .u64 G YT ((YU+Jp.toNat*2)+1) λYV=>AG 115 #[.I A6,.U YS,.U YV] G R (CI .u64 λYW DK=>Al DK λWn=>AJ prog (DV 87 CW CN CR Wn) (Hp.set DK Wn (.cells #[.slice U7 U8 Wk,.U YW] 94 (0,0))) (CS λqL n139 qM GK=>E4 R Bi A6 C4 Cu Cv Cw Ct CZ C1 C5 C7 C8 Dd C2 BZ BX (aD A C) CM De EI EJ EK EL Ca CL (aD YT YU) Dp FR Fy Fz F0 F1 BC BD BG BH BI C3 C6 C9 DA CO CP qL n139 qM Ij Ik Il Im false x11 GK))) (Bo Dd (In x11 (CM:Int)/\LI .u64 G A ((C+x11.toNat*2)+1) λqN=>Pq GY λYX YY=>In Jp (Dp:Int)/\LI .u64 G YX ((YY+Jp.toNat*2)+1) λqO=>AG 114 #[.I A6,.U qN,.U qO] G R (CB λt161 DK=>AG 113 #[.bool t161] DK R (CI .u64 λqP GK=>Al GK λWo=>AJ prog (DV 87 CW CN CR Wo) (Hp.set GK Wo (.cells #[.slice U7 U8 Wk,.U qP] 94 (0,0))) (CS λqQ n165 qR RR=>E4 R Bi A6 C4 Cu Cv Cw Ct CZ C1 C5 C7 C8 true C2 BZ BX (aD A C) CM De EI EJ EK EL Ca CL (aD YX YY) Dp FR Fy Fz F0 F1 BC BD BG BH BI C3 C6 C9 DA CO CP qQ n165 qR Ij Ik Il Im false x11 RR)))) (In x11 (CM:Int)/\LI .u64 G A ((C+x11.toNat*2)+1) λqS=>Pq GY λSZ Sa=>In Jp (Dp:Int)/\LI .u64 G SZ ((Sa+Jp.toNat*2)+1) λqT=>AG 114 #[.I A6,.U qS,.U qT] G R (CB λt182 DK=>Bo t182 (In x11 (CM:Int)/\∃PM PN PO PQ,Af DK A (C+x11.toNat*2) [.slice PM PN PO,.U PQ]/\Al DK λWp=>AJ prog (DV 87 CW CN CR Wp) (Hp.set DK Wp (.cells #[.slice PM PN PO,.U PQ] 94 (0,0))) (CS λqU n191 qV GK=>E4 R Bi A6 C4 Cu Cv Cw Ct CZ C1 C5 C7 C8 false C2 BZ BX (aD A C) CM De EI EJ EK EL Ca CL (aD SZ Sa) Dp FR Fy Fz F0 F1 BC BD BG BH BI C3 C6 C9 DA CO CP qU n191 qV Ij Ik Il Im false x11 GK)) (E4 R Bi A6 C4 Cu Cv Cw Ct CZ C1 C5 C7 C8 false C2 BZ BX (aD A C) CM De EI EJ EK EL Ca CL (aD SZ Sa) Dp FR Fy Fz F0 F1 BC BD BG BH BI C3 C6 C9 DA CO CP CW CN CR Ij Ik Il Im false x11 DK)))))))) (Br (Jp<0) (E4 R Bi A6 C4 Cu Cv Cw Ct CZ C1 C5 C7 C8 Dd C2 BZ BX (aD A C) CM De EI EJ EK EL Ca CL GY Dp FR Fy Fz F0 F1 BC BD BG BH BI C3 C6 C9 DA CO CP CW CN CR Ij Ik Il Im false x11 AK) (AG 112 #[.I A6] AK R (CB λt117 G=>Bn t117 (In x11 (CM:Int)/\LI .u64 G A ((C+x11.toNat*2)+1) λYS=>Pq GY λYT YU=>In Jp (Dp:Int)/\LI .u64 G YT ((YU+Jp.toNat*2)+1) λYV=>AG 115 #[.I A6,.U YS,.U YV] G R (CI .u64 λYW DK=>Al DK λWn=>AJ prog (DV 87 CW CN CR Wn) (Hp.set DK Wn (.cells #[.slice U7 U8 Wk,.U YW] 94 (0,0))) (CS λqL n139 qM GK=>E4 R Bi A6 C4 Cu Cv Cw Ct CZ C1 C5 C7 C8 Dd C2 BZ BX (aD A C) CM De EI EJ EK EL Ca CL (aD YT YU) Dp FR Fy Fz F0 F1 BC BD BG BH BI C3 C6 C9 DA CO CP qL n139 qM Ij Ik Il Im false x11 GK))) (Bo Dd (In x11 (CM:Int)/\LI .u64 G A ((C+x11.toNat*2)+1) λqN=>Pq GY λYX YY=>In Jp (Dp:Int)/\LI .u64 G YX ((YY+Jp.toNat*2)+1) λqO=>AG 114 #[.I A6,.U qN,.U qO] G R (CB λt161 DK=>AG 113 #[.bool t161] DK R (CI .u64 λqP GK=>Al GK λWo=>AJ prog (DV 87 CW CN CR Wo) (Hp.set GK Wo (.cells #[.slice U7 U8 Wk,.U qP] 94 (0,0))) (CS λqQ n165 qR RR=>E4 R Bi A6 C4 Cu Cv Cw Ct CZ C1 C5 C7 C8 true C2 BZ BX (aD A C) CM De EI EJ EK EL Ca CL (aD YX YY) Dp FR Fy Fz F0 F1 BC BD BG BH BI C3 C6 C9 DA CO CP qQ n165 qR Ij Ik Il Im false x11 RR)))) (In x11 (CM:Int)/\LI .u64 G A ((C+x11.toNat*2)+1) λqS=>Pq GY λSZ Sa=>In Jp (Dp:Int)/\LI .u64 G SZ ((Sa+Jp.toNat*2)+1) λqT=>AG 114 #[.I A6,.U qS,.U qT] G R (CB λt182 DK=>Bo t182 (In x11 (CM:Int)/\∃PM PN PO PQ,Af DK A (C+x11.toNat*2) [.slice PM PN PO,.U PQ]/\Al DK λWp=>AJ prog (DV 87 CW CN CR Wp) (Hp.set DK Wp (.cells #[.slice PM PN PO,.U PQ] 94 (0,0))) (CS λqU n191 qV GK=>E4 R Bi A6 C4 Cu Cv Cw Ct CZ C1 C5 C7 C8 false C2 BZ BX (aD A C) CM De EI EJ EK EL Ca CL (aD SZ Sa) Dp FR Fy Fz F0 F1 BC BD BG BH BI C3 C6 C9 DA CO CP qU n191 qV Ij Ik Il Im false x11 GK)) (E4 R Bi A6 C4 Cu Cv Cw Ct CZ C1 C5 C7 C8 false C2 BZ BX (aD A C) CM De EI EJ EK EL Ca CL (aD SZ Sa) Dp FR Fy Fz F0 F1 BC BD BG BH BI C3 C6 C9 DA CO CP CW CN CR Ij Ik Il Im false x11 DK)))))))))))) (Br (A6=12) (In x11 (CM:Int)/\∃FT FU FV FW,Af AB A (C+x11.toNat*2) [.slice FT FU FV,.U FW]/\Al AB λJ7=>AJ prog (DV 87 CW CN CR J7) (Hp.set AB J7 (.cells #[.slice FT FU FV,.U FW] 94 (0,0))) (CS λPK n106 PL AK=>E4 R Bi A6 C4 Cu Cv Cw Ct CZ C1 C5 C7 C8 Dd C2 BZ BX (aD A C) CM De EI EJ EK EL Ca CL GY Dp FR Fy Fz F0 F1 BC BD BG BH BI C3 C6 C9 DA CO CP PK n106 PL Ij Ik Il Im true x11 AK)) (Br (A6=11) (Br (Jp≠(-1)) (In x11 (CM:Int)/\∃FT FU FV FW,Af AB A (C+x11.toNat*2) [.slice FT FU FV,.U FW]/\Al AB λJ7=>AJ prog (DV 87 CW CN CR J7) (Hp.set AB J7 (.cells #[.slice FT FU FV,.U FW] 94 (0,0))) (CS λPK n106 PL AK=>E4 R Bi A6 C4 Cu Cv Cw Ct CZ C1 C5 C7 C8 Dd C2 BZ BX (aD A C) CM De EI EJ EK EL Ca CL GY Dp FR Fy Fz F0 F1 BC BD BG BH BI C3 C6 C9 DA CO CP PK n106 PL Ij Ik Il Im true x11 AK)) (Br (A6=13) (Br (Jp=(-1)) (In x11 (CM:Int)/\∃FT FU FV FW,Af AB A (C+x11.toNat*2) [.slice FT FU FV,.U FW]/\Al AB λJ7=>AJ prog (DV 87 CW CN CR J7) (Hp.set AB J7 (.cells #[.slice FT FU FV,.U FW] 94 (0,0))) (CS λPK n106 PL AK=>E4 R Bi A6 C4 Cu Cv Cw Ct CZ C1 C5 C7 C8 Dd C2 BZ BX (aD A C) CM De EI EJ EK EL Ca CL GY Dp FR Fy Fz F0 F1 BC BD BG BH BI C3 C6 C9 DA CO CP PK n106 PL Ij Ik Il Im true x11 AK)) (E4 R Bi A6 C4 Cu Cv Cw Ct CZ C1 C5 C7 C8 Dd C2 BZ BX (aD A C) CM De EI EJ EK EL Ca CL GY Dp FR Fy Fz F0 F1 BC BD BG BH BI C3 C6 C9 DA CO CP CW CN CR Ij Ik Il Im true x11 AB)) (E4 R Bi A6 C4 Cu Cv Cw Ct CZ C1 C5 C7 C8 Dd C2 BZ BX (aD A C) CM De EI EJ EK EL Ca CL GY Dp FR Fy Fz F0 F1 BC BD BG BH BI C3 C6 C9 DA CO CP CW CN CR Ij Ik Il Im true x11 AB))) (Br (A6=13) (Br (Jp=(-1)) (In x11 (CM:Int)/\∃FT FU FV FW,Af AB A (C+x11.toNat*2) [.slice FT FU FV,.U FW]/\Al AB λJ7=>AJ prog (DV 87 CW CN CR J7) (Hp.set AB J7 (.cells #[.slice FT FU FV,.U FW] 94 (0,0))) (CS λPK n106 PL AK=>E4 R Bi A6 C4 Cu Cv Cw Ct CZ C1 C5 C7 C8 Dd C2 BZ BX (aD A C) CM De EI EJ EK EL Ca CL GY Dp FR Fy Fz F0 F1 BC BD BG BH BI C3 C6 C9 DA CO CP PK n106 PL Ij Ik Il Im true x11 AK)) (E4 R Bi A6 C4 Cu Cv Cw Ct CZ C1 C5 C7 C8 Dd C2 BZ BX (aD A C) CM De EI EJ EK EL Ca CL GY Dp FR Fy Fz F0 F1 BC BD BG BH BI C3 C6 C9 DA CO CP CW CN CR Ij Ik Il Im true x11 AB)) (E4 R Bi A6 C4 Cu Cv Cw Ct CZ C1 C5 C7 C8 Dd C2 BZ BX (aD A C) CM De EI EJ EK EL Ca CL GY Dp FR Fy Fz F0 F1 BC BD BG BH BI C3 C6 C9 DA CO CP CW CN CR Ij Ik Il Im true x11 AB))))))) (AFg R Bi A6 C4 Cu Cv Cw Ct CZ C1 C5 C7 C8 Dd C2 BZ BX Hq CM De EI EJ EK EL Ca CL GY Dp FR Fy Fz F0 F1 BC BD BG BH BI C3 C6 C9 DA CO CP CW CN CR Ij Ik Il Im 0 Z)):VD R Bi A6 C4 Cu Cv Cw Ct CZ C1 C5 C7 C8 Dd C2 BZ BX Hq CM De EI EJ EK EL Ca CL GY Dp FR Fy Fz F0 F1 BC BD BG BH BI C3 C6 C9 DA CO CP CW CN CR Ij Ik Il Im t9 x11 Z:=M.of5 h ok rfl λ_ _ _ _ _=>by kernel_rfl
def tR (h:Br (N2<(Dp:Int)) (Br (A6=12) (Pq GY λA C=>In N2 (Dp:Int)/\LS Z A (C+N2.toNat*2) λAal n214 Aam=>AG 155 #[.agg #[.I Bi,.I A6,.string C4,.slice Cu Cv Cw,.I Ct,.I CZ,.I C1,.slice C5 C7 C8,.bool Dd,.I C2],.slice Aal n214 Aam] Z R (CS λAan n215 Aao y=>AG 154 #[.agg #[.I Bi,.I A6,.string C4,.slice Cu Cv Cw,.I Ct,.I CZ,.I C1,.slice C5 C7 C8,.bool Dd,.I C2],.slice Hq CM De,.slice Aan n215 Aao] y R (CI .i64 λAap AB=>Br (Aap=(-1)) (In N2 (Dp:Int)/\∃G AIE AIF AIH,Af AB A (C+N2.toNat*2) [.slice G AIE AIF,.U AIH]/\Al AB λALu=>AJ prog (DV 87 CW CN CR ALu) (Hp.set AB ALu (.cells #[.slice G AIE AIF,.U AIH] 94 (0,0))) (CS λAaq n226 Aar AK=>VB R Bi A6 C4 Cu Cv Cw Ct CZ C1 C5 C7 C8 Dd C2 BZ BX Hq CM De EI EJ EK EL Ca CL (aD A C) Dp FR Fy Fz F0 F1 BC BD BG BH BI C3 C6 C9 DA CO CP Aaq n226 Aar Ij Ik Il Im N2 AK)) (VB R Bi A6 C4 Cu Cv Cw Ct CZ C1 C5 C7 C8 Dd C2 BZ BX Hq CM De EI EJ EK EL Ca CL (aD A C) Dp FR Fy Fz F0 F1 BC BD BG BH BI C3 C6 C9 DA CO CP CW CN CR Ij Ik Il Im N2 AB)))) (R (.T #[.agg #[.I CO,.U CP,.slice CW CN CR,.I Ij,.slice Ik Il Im],.bool true]) Z)) (R (.T #[.agg #[.I CO,.U CP,.slice CW CN CR,.I Ij,.slice Ik Il Im],.bool true]) Z)):AFg R Bi A6 C4 Cu Cv Cw Ct CZ C1 C5 C7 C8 Dd C2 BZ BX Hq CM De EI EJ EK EL Ca CL GY Dp FR Fy Fz F0 F1 BC BD BG BH BI C3 C6 C9 DA CO CP CW CN CR Ij Ik Il Im N2 Z:=M.of5 h ok rfl λ_ _ _ _ _=>by kernel_rfl
def Q2 (h:AF (N2+1)/\AFg R Bi A6 C4 Cu Cv Cw Ct CZ C1 C5 C7 C8 Dd C2 BZ BX Hq CM De EI EJ EK EL Ca CL GY Dp FR Fy Fz F0 F1 BC BD BG BH BI C3 C6 C9 DA CO CP CW CN CR Ij Ik Il Im (N2+1) Z):VB R Bi A6 C4 Cu Cv Cw Ct CZ C1 C5 C7 C8 Dd C2 BZ BX Hq CM De EI EJ EK EL Ca CL GY Dp FR Fy Fz F0 F1 BC BD BG BH BI C3 C6 C9 DA CO CP CW CN CR Ij Ik Il Im N2 Z:=M.of5 h ok rfl λ_ _ _ _ _=>by kernel_rfl
def tS (h:AF (x11+1)/\VD R Bi A6 C4 Cu Cv Cw Ct CZ C1 C5 C7 C8 Dd C2 BZ BX Hq CM De EI EJ EK EL Ca CL GY Dp FR Fy Fz F0 F1 BC BD BG BH BI C3 C6 C9 DA CO CP CW CN CR Ij Ik Il Im t9 (x11+1) Z):E4 R Bi A6 C4 Cu Cv Cw Ct CZ C1 C5 C7 C8 Dd C2 BZ BX Hq CM De EI EJ EK EL Ca CL GY Dp FR Fy Fz F0 F1 BC BD BG BH BI C3 C6 C9 DA CO CP CW CN CR Ij Ik Il Im t9 x11 Z:=M.of5 h ok rfl λ_ _ _ _ _=>by kernel_rfl
end Am
namespace PR
variable {x0:Int}
def M:Fw:=⟨prog,132,f132,[],[],false,[],[],[]⟩
def ok:M.Ok:=⟨AH.nil,mixed,func132,by kernel_rfl⟩
def start (h:Br (5<=x0) (R (.returned (.bool (decide (x0<=10)))) Z) (R (.B false) Z)):Spec prog 132 #[.I x0] Z R:=M.start h ok
end PR
namespace Iy
variable {s0:ByteArray}{x3:Int}
def M:Fw:=⟨prog,137,f137,[138],[],false,[],[],[(208,[(0,wT),(3,wI)])]⟩
def ok:M.Ok:=⟨.cons call138 (AH.nil),mixed,func137,by kernel_rfl⟩
def E5:=M.pt 0
def start (h:E5 R s0 0 Z):Spec prog 137 #[.string s0] Z R:=M.start h ok
def Ag (h:Br (x3<(s0.size:Int)) (∃C:UInt8,0<=x3/\(ByteArray.data s0)[x3.toNat]?=some C/\AG 138 #[(.int .u8 (C.toNat:Int))] Z R (CB λt13 y=>Bn t13 (R (.B false) y) (AF (x3+1)/\E5 R s0 (x3+1) y))) (Bn ((ByteArray.toList s0==ByteArray.toList (ByteArray.mk #[]))) (Br (((s0.size:Int):Int)=1) (R (.B true) Z) (∃A:UInt8,(0:Int)<=0/\(ByteArray.data s0)[Int.toNat 0]?=some A/\R (.returned (.bool (decide (((A.toNat:Int):Int)≠48)))) Z)) (R (.B false) Z))):E5 R s0 x3 Z:=M.of h ok rfl
end Iy
namespace G1
variable {p0 Rv VE:Option Addr}{n0 c0 Rx Ry VF VH:Nat}{GO Gm x4:Int}
def M:Fw:=⟨prog,164,f164,[42,210],[2],false,[],[],[(464,[(0,wL),(2,.X 97 [.I .i64,.I .u64,.L,.L]),(4,wI)])]⟩
def ok:M.Ok:=⟨.cons call42 (.cons call210 (AH.nil)),mixed,func164,by kernel_rfl⟩
def AR:=M.pt 0
def start (h:∀b2:Nat,AG 210 #[.slice p0 n0 c0,(.func (.func 211) #[] #[])] Z R (λz y=>z=(.tuple #[])/\AR R p0 n0 c0 0 0 none 0 0 none 0 0 1 y)):Spec prog 164 #[.slice p0 n0 c0] Z R:=M.start h ok
def AM (h:Br (x4<(n0:Int)) (AF (x4-1)/\Pq p0 λA C=>In (x4-1) (n0:Int)/\LS Z A (C+Int.toNat (x4-1)*2) λp18 n18 G=>In x4 (n0:Int)/\LS Z A (C+x4.toNat*2) λpr n23 pz=>AG 42 #[.slice p18 n18 G,.slice pr n23 pz] Z R (CI .i64 λJT y=>Br (JT=0) (R (.T #[.agg #[.I 0,.U 0,.N,.N],.I 223]) y) (AF (x4+1)/\AR R (aD A C) n0 c0 GO Gm Rv Rx Ry VE VF VH (x4+1) y))) (R (.T #[.agg #[.I 2,.U 0,.slice p0 n0 c0,.N],.I 0]) Z)):AR R p0 n0 c0 GO Gm Rv Rx Ry VE VF VH x4 Z:=M.oJ h ok rfl λ_=>by kernel_rfl
end G1
namespace YZ
variable {p0 p1:Option Addr}{n0 c0 n1 c1:Nat}
def M:Fw:=⟨prog,165,f165,[212],[],false,[],[],[]⟩
def ok:M.Ok:=⟨.cons call212 (AH.nil),mixed,func165,by kernel_rfl⟩
def start (h:Al Z λb3=>AG 212 #[.slice p0 n0 c0,(.func (.func 213) #[] #[(.pointer (aD b3 0))])] (Hp.set Z b3 (.cells #[.slice p1 n1 c1] 42 (0,0))) R (CS λp7 n7 c7 y=>R (.returned (.slice p7 n7 c7)) y)):Spec prog 165 #[.slice p0 n0 c0,.slice p1 n1 c1] Z R:=M.start h ok
end YZ
namespace J8
variable {s0:ByteArray}{x1:Int}
def M:Fw:=⟨prog,189,f189,[229,230],[],false,[],[],[]⟩
def ok:M.Ok:=⟨.cons call229 (.cons call230 (AH.nil)),mixed,func189,by kernel_rfl⟩
def start (h:AG 229 #[.string s0,.I x1] Z R (λz y=>∃G C,z=(.tuple #[G,C])/\∃t15,YF prog ((do eqGuard .neq 225 (.tmp 14) (.const .nilIface) C .nilIface;binOp .neq 225 C .nilIface)) y (.bool t15)/\Bo t15 (AG 230 #[(.string (ByteArray.mk #[80,97,114,115,101,70,108,111,97,116])),.string s0,.I 0,.I x1,C] y R (λz AB=>∃A,A=z/\R (.T #[G,A]) AB)) (R (.T #[G,.nilIface]) y))):Spec prog 189 #[.string s0,.I x1] Z R:=M.start h ok
end J8
namespace F2
variable {p0 p1:Option Addr}{n0 c0 n1 c1:Nat}
def M:Fw:=⟨prog,204,f204,[205],[],false,[],[],[]⟩
def ok:M.Ok:=⟨.cons call205 (AH.nil),mixed,func204,by kernel_rfl⟩
def start (h:AF ((n0:Int)-1)/\Pq p0 λA C=>In (((n0:Int)-1)) (n0:Int)/\LI .u64 Z A (C+Int.toNat ((n0:Int)-1)*1) λx10=>In 0 (n0:Int)/\LI .u64 Z A C λDB=>AG 205 #[.U x10,.U DB] Z R (CI .u64 λN2 y=>R (.returned (.U N2)) y)):Spec prog 204 #[.slice p0 n0 c0,.slice p1 n1 c1] Z R:=M.start h ok
end F2
namespace Je
variable {s0a oL:ByteArray}{b1:Nat}
def M:Fw:=⟨prog,213,f213,[214],[2],false,[],[],[]⟩
def ok:M.Ok:=⟨.cons call214 (AH.nil),mixed,func213,by kernel_rfl⟩
def start (h:∀b2:Nat,LS Z b1 0 λp4 n4 c4=>AG 214 #[.slice p4 n4 c4,.string s0a] Z R (CB λt7 y=>R (.B t7) y)):Spec prog 213 #[.agg #[.string s0a,.string oL],(.pointer (aD b1 0))] Z R:=M.start h ok
end Je
namespace fO
variable {x0:Int}
def M:Fw:=⟨prog,223,f223,[],[],false,[],[],[]⟩
def ok:M.Ok:=⟨AH.nil,mixed,func223,by kernel_rfl⟩
def start (h:Br (48<=x0) (R (.returned (.bool (decide (x0<=57)))) Z) (R (.B false) Z)):Spec prog 223 #[.int .u8 x0] Z R:=M.start h ok
end fO
namespace Ya
variable {v0:Value}
def M:Fw:=⟨prog,224,f224,[],[],false,[],[],[]⟩
def ok:M.Ok:=⟨AH.nil,mixed,func224,by kernel_rfl⟩
def start (h:∃t5,YF prog ((do eqGuard .neq 73 (.tmp 3) (.tmp 4) v0 v0;binOp .neq 73 v0 v0)) Z (.bool t5)/\R (.B t5) Z):Spec prog 224 #[v0] Z R:=M.HU h ok [(0,.o (.V v0))] rfl rfl (by kernel_rfl)
end Ya
namespace fP
variable {x0:Int}
def M:Fw:=⟨prog,251,f251,[],[],false,[],[],[]⟩
def ok:M.Ok:=⟨AH.nil,mixed,func251,by kernel_rfl⟩
def start (h:Br (x0=1) (R (.B true) Z) (Br (x0=2) (R (.B true) Z) (Br (x0=4) (R (.B true) Z) (R (.returned (.bool (decide (x0=8)))) Z)))):Spec prog 251 #[.I x0] Z R:=M.start h ok
end fP
end TwW
end
end
section
set_option maxRecDepth 100000
noncomputable section
namespace TwW
open Go Tw Go.Proofs.Tryz
variable [HL]{R:Rr}{Z:Hp}

namespace Rz
def M:Fw:=⟨prog,272,f272,[198],[],false,[],[],[]⟩
def ok:M.Ok:=⟨.cons call198 (AH.nil),mixed,func272,by kernel_rfl⟩
def start (h:AG 198 #[.U 4604544271217802189] Z R (λz y=>∃x2,(Value.float .f64 x2)=z/\∃x5,YF prog (Op.unary .neg (Value.float .f64 x2)) y (Value.float .f64 x5)/\∃x6 y6,YF prog (Builtin.complex_ #[73,73] 273 #[(Value.float .f64 x2),(Value.float .f64 x5)]) y (Value.complex .f64 x6 y6)/\∃x8,YF prog (Op.unary .neg (Value.float .f64 x2)) y (Value.float .f64 x8)/\∃x10,YF prog (Op.unary .neg (Value.float .f64 x2)) y (Value.float .f64 x10)/\∃x11 A,YF prog (Builtin.complex_ #[73,73] 273 #[(Value.float .f64 x8),(Value.float .f64 x10)]) y (Value.complex .f64 x11 A)/\∃DB,YF prog (Op.unary .neg (Value.float .f64 x2)) y (Value.float .f64 DB)/\∃x15 C,YF prog (Builtin.complex_ #[73,73] 273 #[(Value.float .f64 DB),(Value.float .f64 x2)]) y (Value.complex .f64 x15 C)/\∃Uc G,YF prog (Builtin.complex_ #[73,73] 273 #[(Value.float .f64 x2),(Value.float .f64 x2)]) y (Value.complex .f64 Uc G)/\Al y λD8=>R (.returned (.slice (aD D8 0) 8 8)) (Hp.set y D8 (.cells #[.complex .f64 4607182418800017408 0,(Value.complex .f64 x6 y6),.complex .f64 0 13830554455654793216,(Value.complex .f64 x11 A),.complex .f64 13830554455654793216 0,(Value.complex .f64 x15 C),.complex .f64 0 4607182418800017408,(Value.complex .f64 Uc G)] 273 (0,0))))):Spec prog 272 #[] Z R:=M.start h ok
end Rz
end TwW
end
end
section
set_option maxRecDepth 100000
noncomputable section
namespace TwW
open Go Tw Go.Proofs.Tryz
variable [HL]{R:Rr}{Z:Hp}

namespace Ek
variable {p0 p3:Option Addr}{n0 c0 n3 c3:Nat}{x4:Int}
def M:Fw:=⟨prog,7,f7,[23,24],[],false,[],[],[(464,[(0,wL),(3,wL),(4,wI)])]⟩
def ok:M.Ok:=⟨.cons call23 (.cons call24 (AH.nil)),mixed,func7,by kernel_rfl⟩
def AR:=M.pt 0
def start (h:AR R p0 n0 c0 none 0 0 0 Z):Spec prog 7 #[.slice p0 n0 c0] Z R:=M.start h ok
def AM (h:Br (x4<(n0:Int)) (Pq p0 λDL A=>In x4 (n0:Int)/\LS Z DL (A+x4.toNat*2) λkz n16 fQ=>In x4 (n0:Int)/\LS Z DL ((A+x4.toNat*2)+1) λfH n22 cz=>AG 23 #[.slice kz n16 fQ] Z R (CS λp17 n17 C y=>Kp [DL] Z y/\AG 24 #[.slice fH n22 cz] y R (CS λpr n23 pz AB=>Al AB λIG=>AJ prog (DV 23 p3 n3 c3 IG) (Hp.set AB IG (.cells #[.slice p17 n17 C,.slice pr n23 pz] 51 (0,0))) (CS λp26 n26 G AK=>AF (x4+1)/\AR R (aD DL A) n0 c0 p26 n26 G (x4+1) AK)))) (R (.returned (.slice p3 n3 c3)) Z)):AR R p0 n0 c0 p3 n3 c3 x4 Z:=M.of h ok rfl
end Ek
namespace Iz
variable {p0 q5 Nk:Option Addr}{n0 c0 n11 Q3:Nat}{x12 DB:Int}
def M:Fw:=⟨prog,28,f28,[48],[7],false,[],[],[(232,[(0,wL),(5,wQ),(11,wL),(12,wI),(13,wI)])]⟩
def ok:M.Ok:=⟨.cons call48 (AH.nil),mixed,func28,by kernel_rfl⟩
def B9:=M.pt 0
def start (h:Al Z λE2=>B9 R p0 n0 c0 (aD E2 0) p0 n0 c0 (n0:Int) 0 (Hp.set Z E2 (.cells #[.N] 106 (0,0)))):Spec prog 28 #[.slice p0 n0 c0] Z R:=M.start h ok
def As (h:Br (DB<x12) (Pq Nk λHy Ru=>In DB (n11:Int)/\∃hZ wH A wJ wK wN C G AQt AQu AQv AQw AQx AQy,Af Z Hy (Ru+DB.toNat*10) [.I hZ,.I wH,.string A,.slice wJ wK wN,.I C,.I G,.I AQt,.slice AQu AQv AQw,.bool AQx,.I AQy]/\∀b7:Nat,AG 48 #[.pointer q5,.agg #[.I hZ,.I wH,.string A,.slice wJ wK wN,.I C,.I G,.I AQt,.slice AQu AQv AQw,.bool AQx,.I AQy]] Z R (CI .i64 λIg y=>Br (Ig≠0) (R (.T #[.I 0,.I DB,.I Ig]) y) (AF (DB+1)/\B9 R p0 n0 c0 q5 (aD Hy Ru) n11 Q3 x12 (DB+1) y))) (Pq q5 λdA tT=>LS Z dA tT λp29 n29 vg=>Br ((n29:Int)≠1) (R (.T #[.I 0,(.I (n0:Int)),.I 190]) Z) (Br (4096<(n0:Int)) (R (.T #[.I 0,(.I (n0:Int)),.I 190]) Z) (LS Z dA tT λp42 n42 c42=>Pq p42 λdW o43=>In 0 (n42:Int)/\LI .i64 Z dW o43 λjt=>R (.T #[.I jt,.I 0,.I 0]) Z)))):B9 R p0 n0 c0 q5 Nk n11 Q3 x12 DB Z:=M.of h ok rfl
end Iz
namespace Bp
variable {p0 p2:Option Addr}{n0 c0 n2 c2:Nat}{x3 x4:Int}
def M:Fw:=⟨prog,35,f35,[],[],false,[],[],[(208,[(0,wL),(2,wL),(3,wI)]),(240,[(0,wL),(4,wI)])]⟩
def ok:M.Ok:=⟨AH.nil,mixed,func35,by kernel_rfl⟩
def E5:=M.pt 0
def iA:=M.pt 1
def start (h:Al Z λA=>AJ prog (DV 49 p0 n0 c0 A) (Hp.set Z A (.cells #[(.I (-7)),.U 77] 61 (0,0))) (CS λp8 n8 c8 y=>E5 R p0 n0 c0 p8 n8 c8 0 y)):Spec prog 35 #[.slice p0 n0 c0] Z R:=M.start h ok
def Ag (h:Br (x3<(n2:Int)) (Pq p2 λA C=>In x3 (n2:Int)/\AJ prog (Instr.storeAt 61 (.pointer (aD A (C+x3.toNat*2))) (.agg #[(.I (-7)),.U 77])) Z (λ_ y=>AF (x3+1)/\E5 R p0 n0 c0 (aD A C) n2 c2 (x3+1) y)) (iA R p0 n0 c0 0 Z)):E5 R p0 n0 c0 p2 n2 c2 x3 Z:=M.of h ok rfl
def TJ (h:Br (x4<(n0:Int)) (Pq p0 λA C=>In x4 (n0:Int)/\AJ prog (Instr.storeAt 61 (.pointer (aD A (C+x4.toNat*2))) (.agg #[(.I (-7)),.U 77])) Z (λ_ y=>AF (x4+1)/\iA R (aD A C) n0 c0 (x4+1) y)) (R (.T #[]) Z)):iA R p0 n0 c0 x4 Z:=M.of h ok rfl
end Bp
namespace TL
variable {V1 p0b p1a p1b:Option Addr}{Nu UW n0b c0b n1a c1a n1b c1b:Nat}
def M:Fw:=⟨prog,41,f41,[42],[2,3],false,[],[],[]⟩
def ok:M.Ok:=⟨.cons call42 (AH.nil),mixed,func41,by kernel_rfl⟩
def start (h:∀b2:Nat,∀b3:Nat,AG 42 #[.slice V1 Nu UW,.slice p1a n1a c1a] Z R (CI .i64 λx9 y=>R (.returned (.I x9)) y)):Spec prog 41 #[.agg #[.slice V1 Nu UW,.slice p0b n0b c0b],.agg #[.slice p1a n1a c1a,.slice p1b n1b c1b]] Z R:=M.start h ok
end TL
namespace DO
variable {v0:Value}{b1 b2 b3:Nat}{x5:Int}
def M:Fw:=⟨prog,55,f55,[],[100000],false,[],[],[(48,[(0,wV),(2,wA),(3,wA),(5,wI)])]⟩
def ok:M.Ok:=⟨AH.nil,mixed,func55,by kernel_rfl⟩
def pt6:=M.pt 0
def start (h:LI .i64 Z b1 0 λx6=>pt6 R v0 b2 b3 x6 Z):Spec prog 55 #[v0,(.pointer (aD b1 0)),(.pointer (aD b2 0)),(.pointer (aD b3 0))] Z R:=M.HU h ok [(0,.o (.V v0)),(1,.o (.A b1)),(2,.o (.A b2)),(3,.o (.A b3))] rfl rfl (by kernel_rfl)
def U3 (h:∃A:Nat,v0=.func (.yield A) #[] #[]/\N6 prog A #[.I x5] Z (BV R (CB λt9 y=>Bo t9 (LI .i64 y b2 0 λx11=>LI .i64 y b3 0 λx12=>AF (x12-x5)/\Br (x11<=(x12-x5)) (LI .i64 y b2 0 λUc=>AF (x5+Uc)/\pt6 R v0 b2 b3 (x5+Uc) y) (R (.T #[]) y)) (R (.T #[]) y)))):pt6 R v0 b2 b3 x5 Z:=M.of h ok rfl
end DO
namespace Cq
variable {x0 By BQ Q4 Bi A6 VC BZ BX EI Ca CL Fy x6 x8 x7:Int}{PI Q5 Wl Wm Hq EJ GY Fz:Option Addr}{Nn PJ Q6 Q7 RX V2 TI V3 CM De EK EL Dp FR F0 F1:Nat}
def M:Fw:=⟨prog,69,f69,[105,106,107,108],[3,4,5],false,[(8,14,false),(14,14,false)],[],[(464,[(0,wI),(3,.X 90 [.I .i64,.I .u64,.L,.I .i64,.L]),(4,.X 90 [.I .i64,.I .u64,.L,.I .i64,.L]),(5,.X 90 [.I .i64,.I .u64,.L,.I .i64,.L]),(6,wI)]),(976,[(0,wI),(3,.X 90 [.I .i64,.I .u64,.L,.I .i64,.L]),(4,.X 90 [.I .i64,.I .u64,.L,.I .i64,.L]),(5,.X 90 [.I .i64,.I .u64,.L,.I .i64,.L]),(8,wI)]),(979,[(0,wI),(3,.X 90 [.I .i64,.I .u64,.L,.I .i64,.L]),(4,.X 90 [.I .i64,.I .u64,.L,.I .i64,.L]),(5,.X 90 [.I .i64,.I .u64,.L,.I .i64,.L]),(8,wI)]),(3731,[(0,wI),(3,.X 90 [.I .i64,.I .u64,.L,.I .i64,.L]),(4,.X 90 [.I .i64,.I .u64,.L,.I .i64,.L]),(5,.X 90 [.I .i64,.I .u64,.L,.I .i64,.L]),(6,wI),(7,wU)])]⟩
def ok:M.Ok:=⟨.cons call105 (.cons call106 (.cons call107 (.cons call108 (AH.nil)))),mixed,func69,by kernel_rfl⟩
def AR:=M.pt 0
def VD:=M.pt 1
def LX:=M.pt 2
def AFk:=M.pt 3
def start (h:∀b3:Nat,∀A:Nat,∀b5:Nat,AR R x0 By BQ PI Nn PJ Q4 Q5 Q6 Q7 0 0 none 0 0 0 none 0 0 2 0 none 0 0 0 none 0 0 0 Z):Spec prog 69 #[.I x0,.agg #[.I By,.U BQ,.slice PI Nn PJ,.I Q4,.slice Q5 Q6 Q7]] Z R:=M.start h ok
def AM (h:Br (x6<(RX:Int)) (Pq Wl λA C=>In x6 (RX:Int)/\LI .u64 Z A ((C+x6.toNat*2)+1) λJT=>AG 105 #[.U JT] Z R (CI .u64 λKi y=>Br (x0=12) (In x6 (RX:Int)/\LI .u64 y A ((C+x6.toNat*2)+1) λfR=>AG 106 #[.U fR] y R (CI .u64 λUX G=>AFk R x0 Bi A6 (aD A C) RX V2 VC Wm TI V3 BZ BX Hq CM De EI EJ EK EL Ca CL GY Dp FR Fy Fz F0 F1 x6 UX G)) (AFk R x0 Bi A6 (aD A C) RX V2 VC Wm TI V3 BZ BX Hq CM De EI EJ EK EL Ca CL GY Dp FR Fy Fz F0 F1 x6 Ki y))) (VD R x0 Bi A6 Wl RX V2 VC Wm TI V3 BZ BX Hq CM De EI EJ EK EL Ca CL GY Dp FR Fy Fz F0 F1 0 Z)):AR R x0 Bi A6 Wl RX V2 VC Wm TI V3 BZ BX Hq CM De EI EJ EK EL Ca CL GY Dp FR Fy Fz F0 F1 x6 Z:=M.dL h ok rfl λ_ _ _=>by kernel_rfl
def Jd (h:Br (x8<(TI:Int)) (Pq Wm λA C=>In x8 (TI:Int)/\LS Z A ((C+x8.toNat*2)+1) λp63 n63 c63=>AG 108 #[.I x0,.slice p63 n63 c63,.I VC] Z R (λz y=>∃iB G,z=(.tuple #[.U iB,.bool G])/\Bo G (In x8 (TI:Int)/\LS y A (C+x8.toNat*2) λp77 n77 c77=>AG 107 #[.slice p77 n77 c77] y R (CS λyP wO yQ AB=>Al AB λb81=>AJ prog (DV 87 GY Dp FR b81) (Hp.set AB b81 (.cells #[.slice yP wO yQ,.U iB] 94 (0,0))) (CS λp82 n82 c82 AK=>LX R x0 Bi A6 Wl RX V2 VC (aD A C) TI V3 BZ BX Hq CM De EI EJ EK EL Ca CL p82 n82 c82 Fy Fz F0 F1 x8 AK))) (LX R x0 Bi A6 Wl RX V2 VC (aD A C) TI V3 BZ BX Hq CM De EI EJ EK EL Ca CL GY Dp FR Fy Fz F0 F1 x8 y))) (R (.returned (.agg #[.I Ca,.U CL,.slice GY Dp FR,.I Fy,.slice Fz F0 F1])) Z)):VD R x0 Bi A6 Wl RX V2 VC Wm TI V3 BZ BX Hq CM De EI EJ EK EL Ca CL GY Dp FR Fy Fz F0 F1 x8 Z:=M.dL h ok rfl λ_ _ _=>by kernel_rfl
def Jf (h:AF (x8+1)/\VD R x0 Bi A6 Wl RX V2 VC Wm TI V3 BZ BX Hq CM De EI EJ EK EL Ca CL GY Dp FR Fy Fz F0 F1 (x8+1) Z):LX R x0 Bi A6 Wl RX V2 VC Wm TI V3 BZ BX Hq CM De EI EJ EK EL Ca CL GY Dp FR Fy Fz F0 F1 x8 Z:=M.dL h ok rfl λ_ _ _=>by kernel_rfl
def AFl (h:Pq Wl λdV A=>In x6 (RX:Int)/\LS Z dV (A+x6.toNat*2) λp42 G C=>AG 107 #[.slice p42 G C] Z R (CS λjq n43 jr y=>Al y λk8=>AJ prog (DV 87 GY Dp FR k8) (Hp.set y k8 (.cells #[.slice jq n43 jr,.U x7] 94 (0,0))) (CS λp47 n47 c47 AB=>AF (x6+1)/\AR R x0 Bi A6 (aD dV A) RX V2 VC Wm TI V3 BZ BX Hq CM De EI EJ EK EL Ca CL p47 n47 c47 Fy Fz F0 F1 (x6+1) AB))):AFk R x0 Bi A6 Wl RX V2 VC Wm TI V3 BZ BX Hq CM De EI EJ EK EL Ca CL GY Dp FR Fy Fz F0 F1 x6 x7 Z:=M.dL h ok rfl λ_ _ _=>by kernel_rfl
end Cq
namespace Yb
variable {Ae A1 Bf Bh BM BS:Int}{BW:ByteArray}{CJ B4:Option Addr}{CD CK Bl B8:Nat}{Bj:Bool}
def M:Fw:=⟨prog,77,f77,[127,128,129,130,131,132],[1],false,[],[],[]⟩
def ok:M.Ok:=⟨.cons call127 (.cons call128 (.cons call129 (.cons call130 (.cons call131 (.cons call132 (AH.nil)))))),mixed,func77,by kernel_rfl⟩
def start (h:∀b1:Nat,AG 128 #[.agg #[.I Ae,.I A1,.string BW,.slice CJ CD CK,.I Bf,.I Bh,.I BM,.slice B4 Bl B8,.bool Bj,.I BS]] Z R (λz y=>∃Ca CL M5 M6 M7 M8 M9 NA NB NC ND NF PS NG,z=(.agg #[.I Ca,.I CL,.string M5,.slice M6 M7 M8,.I M9,.I NA,.I NB,.slice NC ND NF,.bool PS,.I NG])/\AG 127 #[.agg #[.I Ae,.I A1,.string BW,.slice CJ CD CK,.I Bf,.I Bh,.I BM,.slice B4 Bl B8,.bool Bj,.I BS],.agg #[.I Ca,.I CL,.string M5,.slice M6 M7 M8,.I M9,.I NA,.I NB,.slice NC ND NF,.bool PS,.I NG]] y R (CB λt6 AB=>Bn t6 (R (.B false) AB) (AG 129 #[.agg #[.I Ae,.I A1,.string BW,.slice CJ CD CK,.I Bf,.I Bh,.I BM,.slice B4 Bl B8,.bool Bj,.I BS]] AB R (CB λt10 A=>Bn t10 (R (.B false) A) (Br (0<(CD:Int)) (Br (Ae≠2) (Br (Ae≠3) (R (.B false) A) (Br (Ae=1) (AG 130 #[.string BW] A R (CB λt35 C=>R (.B t35) C)) (Br (Ae=2) (AG 131 #[.I Bh,.I 0] A R (CB λt40 C=>R (.B t40) C)) (Br (Ae=3) (AG 131 #[.I Bf,.I 1] A R (CB λt45 C=>Bo t45 (AG 131 #[.I Bh,.I 0] C R (CB λt49 G=>R (.B t49) G)) (R (.B false) C))) (Br (Ae=4) (Br (BS=1) (Br (1<=A1) (R (.returned (.bool (decide (A1<=12)))) A) (R (.B false) A)) (R (.B false) A)) (Br (Ae=5) (Br (BS=1) (Br (1<=A1) (Br (A1<=5) (Br (BM=0) (R (.B true) A) (Br (BM=1) (R (.B true) A) (R (.returned (.bool (decide (BM=2)))) A))) (R (.B false) A)) (R (.B false) A)) (R (.B false) A)) (Br (Ae=6) (Br (BS=2) (Br (1<=A1) (Br (A1<=13) (Br (BM=0) (Bn Bj (R (.B true) A) (AG 132 #[.I A1] A R (CB λt133 C=>R (.B t133) C))) (Br (BM=3) (Bn Bj (R (.B true) A) (AG 132 #[.I A1] A R (CB λt133 C=>R (.B t133) C))) (Br (BM=4) (Bn Bj (R (.B true) A) (AG 132 #[.I A1] A R (CB λt133 C=>R (.B t133) C))) (R (.B false) A)))) (R (.B false) A)) (R (.B false) A)) (R (.B false) A)) (Br (Ae=7) (R (.returned (.bool (decide (BS=1)))) A) (R (.B false) A))))))))) (Br (Ae=1) (AG 130 #[.string BW] A R (CB λt35 C=>R (.B t35) C)) (Br (Ae=2) (AG 131 #[.I Bh,.I 0] A R (CB λt40 C=>R (.B t40) C)) (Br (Ae=3) (AG 131 #[.I Bf,.I 1] A R (CB λt45 C=>Bo t45 (AG 131 #[.I Bh,.I 0] C R (CB λt49 G=>R (.B t49) G)) (R (.B false) C))) (Br (Ae=4) (Br (BS=1) (Br (1<=A1) (R (.returned (.bool (decide (A1<=12)))) A) (R (.B false) A)) (R (.B false) A)) (Br (Ae=5) (Br (BS=1) (Br (1<=A1) (Br (A1<=5) (Br (BM=0) (R (.B true) A) (Br (BM=1) (R (.B true) A) (R (.returned (.bool (decide (BM=2)))) A))) (R (.B false) A)) (R (.B false) A)) (R (.B false) A)) (Br (Ae=6) (Br (BS=2) (Br (1<=A1) (Br (A1<=13) (Br (BM=0) (Bn Bj (R (.B true) A) (AG 132 #[.I A1] A R (CB λt133 C=>R (.B t133) C))) (Br (BM=3) (Bn Bj (R (.B true) A) (AG 132 #[.I A1] A R (CB λt133 C=>R (.B t133) C))) (Br (BM=4) (Bn Bj (R (.B true) A) (AG 132 #[.I A1] A R (CB λt133 C=>R (.B t133) C))) (R (.B false) A)))) (R (.B false) A)) (R (.B false) A)) (R (.B false) A)) (Br (Ae=7) (R (.returned (.bool (decide (BS=1)))) A) (R (.B false) A))))))))) (Br (Ae=1) (AG 130 #[.string BW] A R (CB λt35 C=>R (.B t35) C)) (Br (Ae=2) (AG 131 #[.I Bh,.I 0] A R (CB λt40 C=>R (.B t40) C)) (Br (Ae=3) (AG 131 #[.I Bf,.I 1] A R (CB λt45 C=>Bo t45 (AG 131 #[.I Bh,.I 0] C R (CB λt49 G=>R (.B t49) G)) (R (.B false) C))) (Br (Ae=4) (Br (BS=1) (Br (1<=A1) (R (.returned (.bool (decide (A1<=12)))) A) (R (.B false) A)) (R (.B false) A)) (Br (Ae=5) (Br (BS=1) (Br (1<=A1) (Br (A1<=5) (Br (BM=0) (R (.B true) A) (Br (BM=1) (R (.B true) A) (R (.returned (.bool (decide (BM=2)))) A))) (R (.B false) A)) (R (.B false) A)) (R (.B false) A)) (Br (Ae=6) (Br (BS=2) (Br (1<=A1) (Br (A1<=13) (Br (BM=0) (Bn Bj (R (.B true) A) (AG 132 #[.I A1] A R (CB λt133 C=>R (.B t133) C))) (Br (BM=3) (Bn Bj (R (.B true) A) (AG 132 #[.I A1] A R (CB λt133 C=>R (.B t133) C))) (Br (BM=4) (Bn Bj (R (.B true) A) (AG 132 #[.I A1] A R (CB λt133 C=>R (.B t133) C))) (R (.B false) A)))) (R (.B false) A)) (R (.B false) A)) (R (.B false) A)) (Br (Ae=7) (R (.returned (.bool (decide (BS=1)))) A) (R (.B false) A)))))))))))))):Spec prog 77 #[.agg #[.I Ae,.I A1,.string BW,.slice CJ CD CK,.I Bf,.I Bh,.I BM,.slice B4 Bl B8,.bool Bj,.I BS]] Z R:=M.start h ok
end Yb
namespace Yc
variable {x0:Int}
def M:Fw:=⟨prog,79,f79,[],[],false,[],[],[]⟩
def ok:M.Ok:=⟨AH.nil,mixed,func79,by kernel_rfl⟩
def start (h:Al Z λb1=>R (.returned (.func (.func 135) #[] #[(.pointer (aD b1 0))])) (Hp.set Z b1 (.cells #[.I x0] 3 (0,0)))):Spec prog 79 #[.I x0] Z R:=M.start h ok
end Yc
namespace CX
variable {x0 x2 x8 x12 DB x9:Int}{p1:Option Addr}{n1 c1:Nat}
def M:Fw:=⟨prog,108,f108,[103,110,114,115,147,150,151],[],false,[(29,9,true)],[],[(8144,[(0,wI),(1,wL),(2,wI),(8,wI),(12,wU),(13,wI)]),(1022,[(12,wU)]),(8147,[(0,wI),(1,wL),(2,wI),(8,wI),(12,wU),(13,wI)]),(61865888,[(1,wL),(8,wI),(9,wI)])]⟩
def ok:M.Ok:=⟨.cons call103 (.cons call110 (.cons call114 (.cons call115 (.cons call147 (.cons call150 (.cons call151 (AH.nil))))))),mixed,func108,by kernel_rfl⟩
def VB:=M.pt 0
def AAF:=M.pt 1
def tU:=M.pt 2
def U4:=M.pt 3
def start (h:Br (x0=4) (AG 110 #[.I 1,.slice p1 n1 c1] Z R (CI .u64 λIg y=>R (.T #[.U Ig,.bool true]) y)) (Br (x0=5) (AG 110 #[.I 4,.slice p1 n1 c1] Z R (CI .u64 λJT y=>R (.T #[.U JT,.bool true]) y)) (Br (x0=6) (AG 110 #[.I 2,.slice p1 n1 c1] Z R (CI .u64 λKj y=>R (.T #[.U Kj,.bool true]) y)) (Br (x0=7) (AG 110 #[.I 3,.slice p1 n1 c1] Z R (CI .u64 λqW y=>R (.T #[.U qW,.bool true]) y)) (Br (x0=8) (AG 110 #[.I 5,.slice p1 n1 c1] Z R (CI .u64 λNo y=>R (.T #[.U No,.bool true]) y)) (Br (x0=9) (AF ((n1:Int)-1)/\Pq p1 λb42 o42=>In (((n1:Int)-1)) (n1:Int)/\LI .u64 Z b42 (o42+Int.toNat ((n1:Int)-1)*1) λRq=>AG 147 #[.U Rq] Z R (λz y=>∃Wr,(Value.float .f64 Wr)=z/\AG 103 #[(Value.float .f64 Wr)] y R (CI .u64 λjt AB=>R (.T #[.U jt,.bool true]) AB))) (Br (x0=10) (U4 R p1 n1 c1 (n1:Int) 1 Z) (Br ((n1:Int)<2) (R (.T #[.U 0,.bool false]) Z) (AF ((n1:Int)-1)/\Pq p1 λA C=>In (((n1:Int)-1)) (n1:Int)/\LI .u64 Z A (C+Int.toNat ((n1:Int)-1)*1) λx74=>In 0 (n1:Int)/\LI .u64 Z A C λx77=>AG 115 #[.I 2,.U x74,.U x77] Z R (CI .u64 λG y=>Br (x0=3) (R (.T #[.U G,.bool true]) y) (VB R x0 (aD A C) n1 c1 x2 (n1:Int) G 1 y))))))))))):Spec prog 108 #[.I x0,.slice p1 n1 c1,.I x2] Z R:=M.start h ok
def Q2 (h:Br (DB<x8) (Pq p1 λA C=>In DB (n1:Int)/\LI .u64 Z A (C+DB.toNat*1) λx90=>AF (DB-1)/\In (DB-1) (n1:Int)/\LI .u64 Z A (C+Int.toNat (DB-1)*1) λx95=>AG 114 #[.I 7,.U x90,.U x95] Z R (CB λt96 y=>Bo t96 (AF (DB-1)/\In (DB-1) (n1:Int)/\LI .u64 y A (C+Int.toNat (DB-1)*1) λk9=>AG 115 #[.I 1,.U x12,.U k9] y R (CI .u64 λlA G=>tU R x0 (aD A C) n1 c1 x2 x8 lA DB G)) (tU R x0 (aD A C) n1 c1 x2 x8 x12 DB y))) (Br (x0=1) (AG 151 #[.I x2] Z R (CI .u64 λAa1 y=>AG 115 #[.I 4,.U x12,.U Aa1] y R (CI .u64 λAa2 G=>AAF R Aa2 G))) (AAF R x12 Z))):VB R x0 p1 n1 c1 x2 x8 x12 DB Z:=M.of h ok rfl
def lB (h:R (.T #[.U x12,.bool true]) Z):AAF R x12 Z:=M.of h ok rfl
def AAH (h:AF (DB+1)/\VB R x0 p1 n1 c1 x2 x8 x12 (DB+1) Z):tU R x0 p1 n1 c1 x2 x8 x12 DB Z:=M.of h ok rfl
def M0 (h:AF (2*x9)/\Br (((2*x9):Int)<=x8) (Br (x9<8) (AF (2*x9)/\U4 R p1 n1 c1 x8 (2*x9) Z) (AF (x8-x9)/\((0:Int)<=(x8-x9)/\(x8-x9)<=(n1:Int))/\AG 150 #[(.slice (Mp p1 (Int.toNat (x8-x9)) c1 1) (n1-Int.toNat (x8-x9)) (c1-Int.toNat (x8-x9)))] Z R (λz y=>∃C A,z=(.tuple #[.U C,.I A])/\R (.T #[.U C,.bool true]) y))) (AF (x8-x9)/\((0:Int)<=(x8-x9)/\(x8-x9)<=(n1:Int))/\AG 150 #[(.slice (Mp p1 (Int.toNat (x8-x9)) c1 1) (n1-Int.toNat (x8-x9)) (c1-Int.toNat (x8-x9)))] Z R (λz y=>∃C A,z=(.tuple #[.U C,.I A])/\R (.T #[.U C,.bool true]) y))):U4 R p1 n1 c1 x8 x9 Z:=M.of h ok rfl
end CX
namespace PT
variable {x0:Int}
def M:Fw:=⟨prog,112,f112,[],[],false,[],[],[]⟩
def ok:M.Ok:=⟨AH.nil,mixed,func112,by kernel_rfl⟩
def start (h:Br (5<=x0) (R (.returned (.bool (decide (x0<=10)))) Z) (R (.B false) Z)):Spec prog 112 #[.I x0] Z R:=M.start h ok
end PT
namespace Dj
variable {q0 Fm GG p2:Option Addr}{By BQ FN FO D9 ET:Int}{FP:ByteArray}{Fo Fp Fq GH n2 c2:Nat}{EU:Bool}
def M:Fw:=⟨prog,120,f120,[156],[4,6],false,[],[],[]⟩
def ok:M.Ok:=⟨.cons call156 (AH.nil),mixed,func120,by kernel_rfl⟩
def start (h:∀G:Nat,∀b6:Nat,AG 156 #[.string FP] Z R (λz y=>∃A C,z=(.tuple #[.U A,.bool C])/\R (.T #[.agg #[.I 1,.U A,.N,.N],.I 0]) y)):Spec prog 120 #[.pointer q0,.agg #[.I By,.I BQ,.string FP,.slice Fm Fo Fp,.I FN,.I FO,.I D9,.slice GG Fq GH,.bool EU,.I ET],.slice p2 n2 c2] Z R:=M.start h ok
end Dj
namespace A2
variable {q0 Fm GG p2 Jq Lc BG JL CW Hs kz:Option Addr}{By BQ FN FO D9 ET BZ BX Ld JV Lf Mm BC BD CO CP x17 Uc:Int}{FP Mn:ByteArray}{Fo Fp Fq GH n2 c2 Jr Js Lg Lh BH BI JM JN CN CR Ht Hu n16 fQ:Nat}{EU Mo:Bool}
def M:Fw:=⟨prog,121,f121,[157,158],[4,6,8,10],false,[(7,15,false)],[],[(232,[(0,wQ),(4,.X 44 [.I .i64,.I .i64,.T,.L,.I .i64,.I .i64,.I .i64,.L,.B,.I .i64]),(6,.X 97 [.I .i64,.I .u64,.L,.L]),(8,.X 97 [.I .i64,.I .u64,.L,.L]),(16,wL),(17,wI),(18,wI)]),(935,[(0,wQ),(4,.X 44 [.I .i64,.I .i64,.T,.L,.I .i64,.I .i64,.I .i64,.L,.B,.I .i64]),(6,.X 97 [.I .i64,.I .u64,.L,.L]),(8,.X 97 [.I .i64,.I .u64,.L,.L]),(16,wL),(17,wI),(18,wI)])]⟩
def ok:M.Ok:=⟨.cons call157 (.cons call158 (AH.nil)),mixed,func121,by kernel_rfl⟩
def B9:=M.pt 0
def Nw:=M.pt 1
def start (h:∀C:Nat,∀b6:Nat,∀G:Nat,Pq q0 λDL A=>LS Z DL A λkz n16 fQ=>B9 R (aD DL A) By BQ FP Fm Fo Fp FN FO D9 GG Fq GH EU ET 0 0 none 0 0 none 0 0 2 0 none 0 0 none 0 0 kz n16 fQ (n16:Int) 0 Z):Spec prog 121 #[.pointer q0,.agg #[.I By,.I BQ,.string FP,.slice Fm Fo Fp,.I FN,.I FO,.I D9,.slice GG Fq GH,.bool EU,.I ET],.slice p2 n2 c2] Z R:=M.start h ok
def As (h:Br (Uc<x17) (Pq kz λlD C=>In Uc (n16:Int)/\∃G ALx ALy AQ5 AQ6 AQ7,Af Z lD (C+Uc.toNat*2) [.slice G ALx ALy,.slice AQ5 AQ6 AQ7]/\∀E2:Nat,Pq q0 λIG Q8=>LI .i64 Z IG (Q8+1) λLY=>AF (LY-JV)/\AF ((LY-JV)-300)/\LI .i64 Z IG (Q8+1) λQ1=>AF (Q1-JV)/\AG 157 #[.slice AQ5 AQ6 AQ7,(.I ((LY-JV)-300)),(.I (Q1-JV))] Z R (CS λp39 A c39 y=>Br ((A:Int)=0) (Nw R (aD IG Q8) BZ BX Mn Jq Jr Js Ld JV Lf Lc Lg Lh Mo Mm BC BD BG BH BI JL JM JN CO CP CW CN CR Hs Ht Hu (aD lD C) n16 fQ x17 Uc y) (AF ((A:Int)-1)/\Pq p39 λKQ fL=>In (((A:Int)-1)) (A:Int)/\LI .u64 y KQ ((fL+Int.toNat ((A:Int)-1)*2)+1) λx50=>Br (x50=9218868437227405314) (Nw R (aD IG Q8) BZ BX Mn Jq Jr Js Ld JV Lf Lc Lg Lh Mo Mm BC BD BG BH BI JL JM JN CO CP CW CN CR Hs Ht Hu (aD lD C) n16 fQ x17 Uc y) (AG 158 #[.slice Jq Jr Js,.slice G ALx ALy] y R (CB λt58 AB=>Bn t58 (Nw R (aD IG Q8) BZ BX Mn Jq Jr Js Ld JV Lf Lc Lg Lh Mo Mm BC BD BG BH BI JL JM JN CO CP CW CN CR Hs Ht Hu (aD lD C) n16 fQ x17 Uc AB) (AF ((A:Int)-1)/\In (((A:Int)-1)) (A:Int)/\LI .u64 AB KQ ((fL+Int.toNat ((A:Int)-1)*2)+1) λx71=>Al AB λb73=>AJ prog (DV 54 CW CN CR b73) (Hp.set AB b73 (.cells #[.slice G ALx ALy,.U x71] 59 (0,0))) (CS λp74 n74 c74 AK=>Nw R (aD IG Q8) BZ BX Mn Jq Jr Js Ld JV Lf Lc Lg Lh Mo Mm BC BD BG BH BI JL JM JN CO CP p74 n74 c74 Hs Ht Hu (aD lD C) n16 fQ x17 Uc AK))))))) (R (.T #[.agg #[.I CO,.U CP,.slice CW CN CR,.slice Hs Ht Hu],.I 0]) Z)):B9 R q0 BZ BX Mn Jq Jr Js Ld JV Lf Lc Lg Lh Mo Mm BC BD BG BH BI JL JM JN CO CP CW CN CR Hs Ht Hu kz n16 fQ x17 Uc Z:=M.dL h ok rfl λ_ _ _=>by kernel_rfl
def NH (h:AF (Uc+1)/\B9 R q0 BZ BX Mn Jq Jr Js Ld JV Lf Lc Lg Lh Mo Mm BC BD BG BH BI JL JM JN CO CP CW CN CR Hs Ht Hu kz n16 fQ x17 (Uc+1) Z):Nw R q0 BZ BX Mn Jq Jr Js Ld JV Lf Lc Lg Lh Mo Mm BC BD BG BH BI JL JM JN CO CP CW CN CR Hs Ht Hu kz n16 fQ x17 Uc Z:=M.dL h ok rfl λ_ _ _=>by kernel_rfl
end A2
namespace Ye
variable {s0:ByteArray}
def M:Fw:=⟨prog,130,f130,[179,180],[],false,[],[],[]⟩
def ok:M.Ok:=⟨.cons call179 (.cons call180 (AH.nil)),mixed,func130,by kernel_rfl⟩
def start (h:AG 179 #[.string s0] Z R (CI .i64 λx6 y=>Br (x6=0) (R (.B false) y) (∃C,YF prog (Instr.sliceAt 9 (.string s0) none (some (.I x6)) none) y (.string C)/\AG 180 #[.string C] y R (CB λt13 AB=>Bo t13 (R (.B false) AB) (Br (x6=(s0.size:Int)) (R (.returned (.bool (decide (x6<=15)))) AB) (AF (x6+1)/\∃G,YF prog (Instr.sliceAt 9 (.string s0) (some (.I (x6+1))) none none) AB (.string G)/\AG 179 #[.string G] AB R (CI .i64 λA AK=>∃u28:UInt8,0<=x6/\(ByteArray.data s0)[x6.toNat]?=some u28/\Br (((u28.toNat:Int):Int)=46) (Br (0<A) (AF (x6+1)/\AF ((x6+1)+A)/\Br ((((x6+1)+A):Int)=(s0.size:Int)) (AF (x6+A)/\R (.returned (.bool (decide (((x6+A):Int)<=15)))) AK) (R (.B false) AK)) (R (.B false) AK)) (R (.B false) AK)))))))):Spec prog 130 #[.string s0] Z R:=M.start h ok
end Ye
namespace Yf
variable {x0 x1:Int}
def M:Fw:=⟨prog,131,f131,[],[],false,[],[],[]⟩
def ok:M.Ok:=⟨AH.nil,mixed,func131,by kernel_rfl⟩
def start (h:Br (x1<=x0) (R (.returned (.bool (decide (x0<2147483648)))) Z) (R (.B false) Z)):Spec prog 131 #[.I x0,.I x1] Z R:=M.start h ok
end Yf
namespace R0
variable {x0 x1 x2:Int}
def M:Fw:=⟨prog,152,f152,[147],[],false,[],[],[]⟩
def ok:M.Ok:=⟨.cons call147 (AH.nil),mixed,func152,by kernel_rfl⟩
def start (h:AG 147 #[.U x1] Z R (λz y=>∃x11,(Value.float .f64 x11)=z/\AG 147 #[.U x2] y R (λz A=>∃DB,(Value.float .f64 DB)=z/\Br (x0=5) (∃t19,YF prog ((do eqGuard .eql 73 (.tmp 17) (.tmp 18) (Value.float .f64 x11) (Value.float .f64 DB);binOp .eql 73 (Value.float .f64 x11) (Value.float .f64 DB))) A (.bool t19)/\R (.T #[.bool t19,.bool true]) A) (Br (x0=6) (∃t24,YF prog ((do eqGuard .neq 73 (.tmp 22) (.tmp 23) (Value.float .f64 x11) (Value.float .f64 DB);binOp .neq 73 (Value.float .f64 x11) (Value.float .f64 DB))) A (.bool t24)/\R (.T #[.bool t24,.bool true]) A) (Br (x0=7) (∃t29,YF prog ((do eqGuard .lss 73 (.tmp 27) (.tmp 28) (Value.float .f64 x11) (Value.float .f64 DB);binOp .lss 73 (Value.float .f64 x11) (Value.float .f64 DB))) A (.bool t29)/\R (.T #[.bool t29,.bool true]) A) (Br (x0=8) (∃t34,YF prog ((do eqGuard .leq 73 (.tmp 32) (.tmp 33) (Value.float .f64 x11) (Value.float .f64 DB);binOp .leq 73 (Value.float .f64 x11) (Value.float .f64 DB))) A (.bool t34)/\R (.T #[.bool t34,.bool true]) A) (Br (x0=9) (∃t39,YF prog ((do eqGuard .gtr 73 (.tmp 37) (.tmp 38) (Value.float .f64 x11) (Value.float .f64 DB);binOp .gtr 73 (Value.float .f64 x11) (Value.float .f64 DB))) A (.bool t39)/\R (.T #[.bool t39,.bool true]) A) (Br (x0=10) (∃t44,YF prog ((do eqGuard .geq 73 (.tmp 42) (.tmp 43) (Value.float .f64 x11) (Value.float .f64 DB);binOp .geq 73 (Value.float .f64 x11) (Value.float .f64 DB))) A (.bool t44)/\R (.T #[.bool t44,.bool true]) A) (R (.T #[.bool false,.bool false]) A))))))))):Spec prog 152 #[.I x0,.U x1,.U x2] Z R:=M.start h ok
end R0
namespace FX
variable {Ae A1 Bf Bh BM BS Bi A6 Ct CZ C1 C2 x7 x8:Int}{BW C4:ByteArray}{CJ B4 p1 p2 Cu C5:Option Addr}{CD CK Bl B8 n1 c1 n2 c2 Cv Cw C7 C8:Nat}{Bj Dd:Bool}
def M:Fw:=⟨prog,154,f154,[44,155],[3],false,[],[],[(464,[(1,wL),(2,wL),(3,.X 44 [.I .i64,.I .i64,.T,.L,.I .i64,.I .i64,.I .i64,.L,.B,.I .i64]),(7,wI),(8,wI)]),(467,[(1,wL),(2,wL),(3,.X 44 [.I .i64,.I .i64,.T,.L,.I .i64,.I .i64,.I .i64,.L,.B,.I .i64]),(7,wI),(8,wI)])]⟩
def ok:M.Ok:=⟨.cons call44 (.cons call155 (AH.nil)),mixed,func154,by kernel_rfl⟩
def AR:=M.pt 0
def IF:=M.pt 1
def start (h:∀b3:Nat,AR R p1 n1 c1 p2 n2 c2 Ae A1 BW CJ CD CK Bf Bh BM B4 Bl B8 Bj BS (-1) 0 Z):Spec prog 154 #[.agg #[.I Ae,.I A1,.string BW,.slice CJ CD CK,.I Bf,.I Bh,.I BM,.slice B4 Bl B8,.bool Bj,.I BS],.slice p1 n1 c1,.slice p2 n2 c2] Z R:=M.start h ok
def AM (h:Br (x8<(n1:Int)) (Pq p1 λC G=>In x8 (n1:Int)/\LS Z C (G+x8.toNat*2) λp20 n20 c20=>AG 155 #[.agg #[.I Bi,.I A6,.string C4,.slice Cu Cv Cw,.I Ct,.I CZ,.I C1,.slice C5 C7 C8,.bool Dd,.I C2],.slice p20 n20 c20] Z R (CS λTF n21 RS y=>AG 44 #[.slice TF n21 RS,.slice p2 n2 c2] y R (CI .i64 λE3 A=>Br (E3=0) (Br (0<=x7) (R (.returned (.I (-2))) A) (IF R (aD C G) n1 c1 p2 n2 c2 Bi A6 C4 Cu Cv Cw Ct CZ C1 C5 C7 C8 Dd C2 x8 x8 A)) (IF R (aD C G) n1 c1 p2 n2 c2 Bi A6 C4 Cu Cv Cw Ct CZ C1 C5 C7 C8 Dd C2 x7 x8 A)))) (R (.returned (.I x7)) Z)):AR R p1 n1 c1 p2 n2 c2 Bi A6 C4 Cu Cv Cw Ct CZ C1 C5 C7 C8 Dd C2 x7 x8 Z:=M.oJ h ok rfl λ_=>by kernel_rfl
def Fu (h:AF (x8+1)/\AR R p1 n1 c1 p2 n2 c2 Bi A6 C4 Cu Cv Cw Ct CZ C1 C5 C7 C8 Dd C2 x7 (x8+1) Z):IF R p1 n1 c1 p2 n2 c2 Bi A6 C4 Cu Cv Cw Ct CZ C1 C5 C7 C8 Dd C2 x7 x8 Z:=M.oJ h ok rfl λ_=>by kernel_rfl
end FX
namespace V4
variable {x0:Int}
def M:Fw:=⟨prog,178,f178,[201],[],false,[],[],[]⟩
def ok:M.Ok:=⟨.cons call201 (AH.nil),mixed,func178,by kernel_rfl⟩
def start (h:Df (Go.bits .xor .u64 x0 9223372036854775808) λx4=>AG 201 #[.U x4] Z R (CI .u64 λx5 y=>R (.returned (.U x5)) y)):Spec prog 178 #[.U x0] Z R:=M.start h ok
end V4
namespace J9
variable {s0:ByteArray}{x3:Int}
def M:Fw:=⟨prog,179,f179,[223],[],false,[],[],[(224,[(0,wT),(3,wI)])]⟩
def ok:M.Ok:=⟨.cons call223 (AH.nil),mixed,func179,by kernel_rfl⟩
def E5:=M.pt 0
def start (h:E5 R s0 0 Z):Spec prog 179 #[.string s0] Z R:=M.start h ok
def Ag (h:Br (x3<(s0.size:Int)) (∃A:UInt8,0<=x3/\(ByteArray.data s0)[x3.toNat]?=some A/\AG 223 #[(.int .u8 (A.toNat:Int))] Z R (CB λt12 y=>Bo t12 (AF (x3+1)/\E5 R s0 (x3+1) y) (R (.returned (.I x3)) y))) (R (.returned (.I x3)) Z)):E5 R s0 x3 Z:=M.of h ok rfl
end J9
namespace Cg
variable {p0 p6 p7:Option Addr}{n0 c0 n6 c6 n7 c7:Nat}{x5 x8 x11:Int}{v9 v10:Value}
def M:Fw:=⟨prog,187,f187,[103,147,227],[],false,[],[],[(2000,[(0,wL),(5,wI),(6,wL),(7,wL),(8,wI)]),(512592,[(0,wL),(5,wI),(6,wL),(7,wL),(8,wI),(9,wV),(10,wV),(11,wI)])]⟩
def ok:M.Ok:=⟨.cons call103 (.cons call147 (.cons call227 (AH.nil))),mixed,func187,by kernel_rfl⟩
def Ws:=M.pt 0
def AFn:=M.pt 1
def start (h:Br ((n0:Int)≠1) (Br ((n0:Int)≠2) (Br ((n0:Int)≠4) (Br ((n0:Int)≠8) (R (.T #[.N,.N,.I 210]) Z) (Ws R p0 n0 c0 (n0:Int) none 0 0 none 0 0 0 Z)) (Ws R p0 n0 c0 (n0:Int) none 0 0 none 0 0 0 Z)) (Ws R p0 n0 c0 (n0:Int) none 0 0 none 0 0 0 Z)) (Ws R p0 n0 c0 (n0:Int) none 0 0 none 0 0 0 Z)):Spec prog 187 #[.slice p0 n0 c0] Z R:=M.start h ok
def TM (h:Br (x8<x5) (AFn R p0 n0 c0 x5 p6 n6 c6 p7 n7 c7 x8 (.float .f64 0) (.float .f64 0) 0 Z) (R (.T #[.slice p6 n6 c6,.slice p7 n7 c7,.I 0]) Z)):Ws R p0 n0 c0 x5 p6 n6 c6 p7 n7 c7 x8 Z:=M.of h ok rfl
def tV (h:Br (x11<x5) (AF (x8*x11)/\x5≠(0:Int)/\Df (Int.tmod (x8*x11) x5) λhY=>AG 227 #[.I x5,.I hY] Z R (λz y=>∃C G,z=(.tuple #[C,G])/\Pq p0 λSb A=>In x11 (n0:Int)/\LI .u64 y Sb (A+x11.toNat*1) λx54=>AG 147 #[.U x54] y R (λz AB=>∃x55,(Value.float .f64 x55)=z/\AJ prog (binOp .mul 73 (Value.float .f64 x55) C) AB (λz AK=>∃x57,(Value.float .f64 x57)=z/\AJ prog (binOp .add 73 v9 (Value.float .f64 x57)) AK (λz AX=>∃x58,(Value.float .f64 x58)=z/\In x11 (n0:Int)/\LI .u64 AX Sb (A+x11.toNat*1) λJp=>AG 147 #[.U Jp] AX R (λz DK=>∃oN,(Value.float .f64 oN)=z/\AJ prog (binOp .mul 73 (Value.float .f64 oN) G) DK (λz GK=>∃wP,(Value.float .f64 wP)=z/\AJ prog (binOp .add 73 v10 (Value.float .f64 wP)) GK (λz RR=>∃ju,(Value.float .f64 ju)=z/\AF (x11+1)/\AFn R (aD Sb A) n0 c0 x5 p6 n6 c6 p7 n7 c7 x8 (Value.float .f64 x58) (Value.float .f64 ju) (x11+1) RR)))))))) (AG 103 #[v9] Z R (CI .u64 λzu y=>Al y λNj=>AJ prog (DV 163 p6 n6 c6 Nj) (Hp.set y Nj (.cells #[.U zu] 57 (0,0))) (CS λvz v7 wC AB=>AG 103 #[v10] AB R (CI .u64 λx75 AK=>Al AK λb76=>AJ prog (DV 163 p7 n7 c7 b76) (Hp.set AK b76 (.cells #[.U x75] 57 (0,0))) (CS λp77 n77 c77 AX=>AF (x8+1)/\Ws R p0 n0 c0 x5 vz v7 wC p77 n77 c77 (x8+1) AX)))))):AFn R p0 n0 c0 x5 p6 n6 c6 p7 n7 c7 x8 v9 v10 x11 Z:=M.of h ok rfl
end Cg
namespace tW
variable {v0:Value}
def M:Fw:=⟨prog,190,f190,[224],[],false,[],[],[]⟩
def ok:M.Ok:=⟨.cons call224 (AH.nil),mixed,func190,by kernel_rfl⟩
def start (h:AG 224 #[v0] Z R (CB λt4 y=>Bo t4 (R (.returned (.U 9221120237041090560)) y) (EN prog 53 #[v0] y (CI .u64 λx6 A=>R (.returned (.U x6)) A)))):Spec prog 190 #[v0] Z R:=M.HU h ok [(0,.o (.V v0))] rfl rfl (by kernel_rfl)
end tW
namespace Ed
variable {p0 p5 p8:Option Addr}{n0 c0 n5 c5 n8 c8:Nat}{v1:Value}{x9 x10:Int}
def M:Fw:=⟨prog,212,f212,[],[7],false,[],[],[(232,[(1,wV),(5,wL),(8,wL),(9,wI),(10,wI)]),(935,[(1,wV),(5,wL),(8,wL),(9,wI),(10,wI)])]⟩
def ok:M.Ok:=⟨AH.nil,mixed,func212,by kernel_rfl⟩
def B9:=M.pt 0
def VI:=M.pt 1
def start (h:B9 R v1 none 0 0 p0 n0 c0 (n0:Int) 0 Z):Spec prog 212 #[.slice p0 n0 c0,v1] Z R:=M.HU h ok [(0,.o (.L p0 n0 c0)),(1,.o (.V v1))] rfl rfl (by kernel_rfl)
def As (h:Br (x10<x9) (Pq p8 λD1 VJ=>In x10 (n8:Int)/\∃A wR,Af Z D1 (VJ+x10.toNat*2) [.string A,.string wR]/\∀b7:Nat,∃(f16:Nat) (C G:Array Value),v1=.func (.func f16) C G/\Enters prog f16/\Spec prog f16 (C++#[.agg #[.string A,.string wR]]++G) Z (BV R (CB λt16 y=>Bo t16 (Al y λD8=>AJ prog (DV 47 p5 n5 c5 D8) (Hp.set y D8 (.cells #[.string A,.string wR] 71 (0,0))) (CS λp20 n20 c20 AB=>VI R v1 p20 n20 c20 (aD D1 VJ) n8 c8 x9 x10 AB)) (VI R v1 p5 n5 c5 (aD D1 VJ) n8 c8 x9 x10 y)))) (R (.returned (.slice p5 n5 c5)) Z)):B9 R v1 p5 n5 c5 p8 n8 c8 x9 x10 Z:=M.of h ok rfl
def NI (h:AF (x10+1)/\B9 R v1 p5 n5 c5 p8 n8 c8 x9 (x10+1) Z):VI R v1 p5 n5 c5 p8 n8 c8 x9 x10 Z:=M.of h ok rfl
end Ed
namespace Np
variable {s0a oL:ByteArray}{b1:Nat}
def M:Fw:=⟨prog,215,f215,[214],[2],false,[],[],[]⟩
def ok:M.Ok:=⟨.cons call214 (AH.nil),mixed,func215,by kernel_rfl⟩
def start (h:∀b2:Nat,LS Z b1 0 λp4 n4 c4=>AG 214 #[.slice p4 n4 c4,.string s0a] Z R (CB λt7 y=>R (.returned (.bool (!t7))) y)):Spec prog 215 #[.agg #[.string s0a,.string oL],(.pointer (aD b1 0))] Z R:=M.start h ok
end Np
namespace Yg
variable {x0 x1 x2:Int}
def M:Fw:=⟨prog,218,f218,[190,198],[],false,[],[],[]⟩
def ok:M.Ok:=⟨.cons call190 (.cons call198 (AH.nil)),mixed,func218,by kernel_rfl⟩
def start (h:AG 198 #[.U x1] Z R (λz y=>∃x11,(Value.float .f64 x11)=z/\AG 198 #[.U x2] y R (λz G=>∃DB,(Value.float .f64 DB)=z/\Br (x0=1) (AJ prog (binOp .add 73 (Value.float .f64 x11) (Value.float .f64 DB)) G (λz A=>∃GI,(Value.float .f64 GI)=z/\AG 190 #[(Value.float .f64 GI)] A R (CI .u64 λIg C=>R (.T #[.U Ig,.bool true]) C))) (Br (x0=2) (AJ prog (binOp .sub 73 (Value.float .f64 x11) (Value.float .f64 DB)) G (λz A=>∃Ki,(Value.float .f64 Ki)=z/\AG 190 #[(Value.float .f64 Ki)] A R (CI .u64 λjv C=>R (.T #[.U jv,.bool true]) C))) (Br (x0=3) (AJ prog (binOp .mul 73 (Value.float .f64 x11) (Value.float .f64 DB)) G (λz A=>∃Yh,(Value.float .f64 Yh)=z/\AG 190 #[(Value.float .f64 Yh)] A R (CI .u64 λqW C=>R (.T #[.U qW,.bool true]) C))) (Br (x0=4) (AJ prog (binOp .quo 73 (Value.float .f64 x11) (Value.float .f64 DB)) G (λz A=>∃Ud,(Value.float .f64 Ud)=z/\AG 190 #[(Value.float .f64 Ud)] A R (CI .u64 λx38 C=>R (.T #[.U x38,.bool true]) C))) (R (.T #[.U 0,.bool false]) G))))))):Spec prog 218 #[.I x0,.U x1,.U x2] Z R:=M.start h ok
end Yg
namespace Yi
variable {t0:Bool}
def M:Fw:=⟨prog,220,f220,[159],[],false,[],[],[]⟩
def ok:M.Ok:=⟨.cons call159 (AH.nil),mixed,func220,by kernel_rfl⟩
def start (h:Bo t0 (AG 159 #[.I 1] Z R (CI .u64 λx4 y=>R (.returned (.U x4)) y)) (AG 159 #[.I 0] Z R (CI .u64 λx5 y=>R (.returned (.U x5)) y))):Spec prog 220 #[.bool t0] Z R:=M.start h ok
end Yi
namespace FB
variable {s0:ByteArray}{x1:Int}
def M:Fw:=⟨prog,229,f229,[244],[],false,[],[],[]⟩
def ok:M.Ok:=⟨.cons call244 (AH.nil),mixed,func229,by kernel_rfl⟩
def start (h:AG 244 #[.string s0,.I x1] Z R (λz y=>∃C A G,z=(.tuple #[C,.I A,G])/\Br (A≠(s0.size:Int)) (R (.T #[.float .f64 0,(.iface 268 (.I 2))]) y) (R (.T #[C,G]) y))):Spec prog 229 #[.string s0,.I x1] Z R:=M.start h ok
end FB
namespace HY
variable {V1:Option Addr}{Nu UW:Nat}{oL s1:ByteArray}
def M:Fw:=⟨prog,231,f231,[],[2],false,[],[],[]⟩
def ok:M.Ok:=⟨AH.nil,mixed,func231,by kernel_rfl⟩
def start (h:∀b2:Nat,R (.returned (.bool (ByteArray.toList s1==ByteArray.toList oL))) Z):Spec prog 231 #[.agg #[.slice V1 Nu UW,.string oL],.string s1] Z R:=M.start h ok
end HY
namespace Yj
variable {p0:Option Addr}{n0 c0:Nat}
def M:Fw:=⟨prog,237,f237,[190,251,252],[],false,[],[],[]⟩
def ok:M.Ok:=⟨.cons call190 (.cons call251 (.cons call252 (AH.nil))),mixed,func237,by kernel_rfl⟩
def start (h:AG 251 #[(.I (n0:Int))] Z R (CB λt7 y=>Bn t7 (R (.T #[.U 0,.I 210]) y) ((n0:Int)≠(0:Int)/\Df (Int.tmod 1 (n0:Int)) λx12=>AG 252 #[.slice p0 n0 c0,.I x12] y R (λz C=>∃DB A,(Value.complex .f64 DB A)=z/\∃x15,YF prog (Builtin.real_ #[273] 73 #[(Value.complex .f64 DB A)]) C (Value.float .f64 x15)/\∃x17,YF prog (Builtin.real_ #[273] 73 #[(Value.complex .f64 DB A)]) C (Value.float .f64 x17)/\AJ prog (binOp .mul 73 (Value.float .f64 x15) (Value.float .f64 x17)) C (λz G=>∃Uc,(Value.float .f64 Uc)=z/\∃Ig,YF prog (Builtin.imag_ #[273] 73 #[(Value.complex .f64 DB A)]) G (Value.float .f64 Ig)/\∃Li,YF prog (Builtin.imag_ #[273] 73 #[(Value.complex .f64 DB A)]) G (Value.float .f64 Li)/\AJ prog (binOp .mul 73 (Value.float .f64 Ig) (Value.float .f64 Li)) G (λz AX=>∃E3,(Value.float .f64 E3)=z/\AJ prog (binOp .add 73 (Value.float .f64 Uc) (Value.float .f64 E3)) AX (λz DK=>∃JT,(Value.float .f64 JT)=z/\AG 190 #[(Value.float .f64 JT)] DK R (CI .u64 λKi GK=>R (.T #[.U Ki,.I 0]) GK)))))))):Spec prog 237 #[.slice p0 n0 c0] Z R:=M.start h ok
end Yj
namespace Cr
variable {x0 x1:Int}{t2 t7:Bool}{v6:Value}
def M:Fw:=⟨prog,287,f287,[],[],false,[],[],[(248,[(1,wI),(6,wV),(7,wB)]),(15988,[(1,wI),(6,wV),(7,wB)])]⟩
def ok:M.Ok:=⟨AH.nil,mixed,func287,by kernel_rfl⟩
def kv:=M.pt 0
def GL:=M.pt 1
def start (h:LI .u64 Z 6 0 λx10=>(0<=x10/\x10<=((IntKind.bits .u64:Nat):Int))/\Df (x0/2^x10.toNat) λx11=>Br (x11≠0) (R (.T #[.float .f64 0,.bool false]) Z) (AJ prog (convert 57 73 (.U x0)) Z (λz y=>∃N2,(Value.float .f64 N2)=z/\Bo t2 (∃x17,YF prog (Op.unary .neg (Value.float .f64 N2)) y (Value.float .f64 x17)/\kv R x1 (Value.float .f64 x17) false y) (kv R x1 (Value.float .f64 N2) false y)))):Spec prog 287 #[.U x0,.I x1,.bool t2] Z R:=M.start h ok
def XO (h:Br (x1=0) (R (.T #[v6,.bool true]) Z) (Br (0<x1) (Br (x1<=37) (Br (22<x1) (LS Z 9 0 λp32 n32 c32=>AF (x1-22)/\Pq p32 λb35 o35=>In (x1-22) (n32:Int)/\∃No,Hp.ld Z ⟨b35,(o35+Int.toNat (x1-22)*1),none⟩=some (Value.float .f64 No)/\AJ prog (binOp .mul 73 v6 (Value.float .f64 No)) Z (λz y=>∃Ud,(Value.float .f64 Ud)=z/\GL R 22 (Value.float .f64 Ud) t7 y)) (GL R x1 v6 t7 Z)) (Br (x1<0) (Br (((-22):Int)<=x1) (LS Z 9 0 λU7 U8 Wk=>Df (IntKind.i64.wrap (0-x1)) λqH=>Pq U7 λA C=>In qH (U8:Int)/\∃dT,Hp.ld Z ⟨A,(C+qH.toNat*1),none⟩=some (Value.float .f64 dT)/\AJ prog (binOp .quo 73 v6 (Value.float .f64 dT)) Z (λz y=>∃G,(Value.float .f64 G)=z/\R (.T #[(Value.float .f64 G),.bool true]) y)) (R (.T #[v6,.bool t7]) Z)) (R (.T #[v6,.bool t7]) Z))) (Br (x1<0) (Br (((-22):Int)<=x1) (LS Z 9 0 λU7 U8 Wk=>Df (IntKind.i64.wrap (0-x1)) λqH=>Pq U7 λA C=>In qH (U8:Int)/\∃dT,Hp.ld Z ⟨A,(C+qH.toNat*1),none⟩=some (Value.float .f64 dT)/\AJ prog (binOp .quo 73 v6 (Value.float .f64 dT)) Z (λz y=>∃G,(Value.float .f64 G)=z/\R (.T #[(Value.float .f64 G),.bool true]) y)) (R (.T #[v6,.bool t7]) Z)) (R (.T #[v6,.bool t7]) Z)))):kv R x1 v6 t7 Z:=M.of h ok rfl
end Cr
namespace HZ
variable {x0:Int}
def M:Fw:=⟨prog,300,f300,[],[],false,[],[],[]⟩
def ok:M.Ok:=⟨AH.nil,mixed,func300,by kernel_rfl⟩
def start (h:Df (Go.bits .or .u8 x0 32) λx4=>R (.returned (.int .u8 x4)) Z):Spec prog 300 #[.int .u8 x0] Z R:=M.start h ok
end HZ
namespace EB
variable {s0 s1:ByteArray}
def M:Fw:=⟨prog,314,f314,[],[],false,[],[],[]⟩
def ok:M.Ok:=⟨AH.nil,mixed,func314,by kernel_rfl⟩
def start (h:Br (((s1.size:Int):Int)<=(s0.size:Int)) (AF ((s0.size:Int)-(s1.size:Int))/\∃A,YF prog (Instr.sliceAt 9 (.string s0) (some (.I ((s0.size:Int)-(s1.size:Int)))) none none) Z (.string A)/\R (.returned (.bool (ByteArray.toList A==ByteArray.toList s1))) Z) (R (.B false) Z)):Spec prog 314 #[.string s0,.string s1] Z R:=M.start h ok
end EB
end TwW
end
end
