/-
  Part 2 of the proof that the law IngesterFencedUptoCardSaid of the given program answers true for every input of the given statement; the input reads behind the call as it did. (The texts: packed from 11 texts. Names are shortened by the packing program, for the bound on size.)
-/
import Derived.Test.YtjmeolpiagdinaaGreatDoorA1
import Derived.ProofKit
import Derived.SizedLaws
import Derived.Deep.Slices
import Derived.Test.YtjmeolpiagdinaaGreatDoorProg
set_option linter.all false
section
namespace Tw
open Go
variable [I9]
def rk (P:Program):Op->Bool
 | .call c=>match c.callee with
  | .builtin .len=>false
  | .builtin .cap=>false
  | .builtin .min=>match c.argTypes.toList with
   | T::_=>AEJ P T
   | []=>false
  | .builtin .max=>match c.argTypes.toList with
   | T::_=>AEJ P T
   | []=>false
  | .builtin .real=>false
  | .builtin .imag=>false
  | .builtin .complex=>false
  | _=>true
 | .convert T T' _=>match P.underlying T,P.underlying T' with
  | some (.int _),some (.int _)=>false
  | _,_=>true
 | .box ..=>true
 | .alloc ..=>true
 | .store ..=>true
 | .buildSlice ..=>true
 | .makeSlice ..=>true
 | .mapUpdate ..=>true
 | .makeMap ..=>true
 | .insert ..=>true
 | .range ..=>true
 | .next ..=>true
 | .lookup ..=>true
 | .entryStore ..=>true
 | .mapEntry ..=>true
 | .makeChan ..=>true
 | .typeAssert ..=>true
 | .binOp b T _ _ _=>flB b&&AEJ P T
 | _=>false
def nu (s:S):Option Operand->Option (Option Value)
 | none=>some none
 | some x=>match s.op x with
  | some v=>some (some (v.den s.vl))
  | none=>none
def yn (P:Program)(b:BinOp)(T:TypeId)(x y:Option SV):Bool:=match ay x,ay y with
 | some _,some _=>true
 | _,_=>match P.underlying T with
  | some .string=>match b with
   | .eql=>true
   | .neq=>true
   | .add=>true
   | _=>false
  | some (.pointer _)=>true
  | some .bool=>true
  | _=>false
def APn:Option SV->Bool
 | some (.v (.a (.sl _ _ _)))=>true
 | _=>false
def anyM (P:Program)(op:Op)(ty:TypeId)(s:S):Option (Sem Value):=match op with
 | .slice T x lo hi A=>match APn (s.op x)&&A.isNone with
  | true=>none
  | false=>match s.op x,nu s lo,nu s hi,nu s A with
   | some w,some l,some h,some m=>some (Instr.sliceAt T (w.den s.vl) l h m)
   | _,_,_,_=>none
 | .unOp u _ x=>match u,s.op x with
  | .not,_=>none
  | .neg,v=>match ay v,v with
   | some _,_=>none
   | none,some v=>some (Op.unary .neg (v.den s.vl))
   | none,none=>none
  | u,some v=>some (Op.unary u (v.den s.vl))
  | _,none=>none
 | .binOp b T x y _=>match yn P b T (s.op x) (s.op y) with
  | true=>none
  | false=>match s.op x,s.op y with
   | some u,some v=>some (do eqGuard b T x y (u.den s.vl) (v.den s.vl);binOp b T (u.den s.vl) (v.den s.vl))
   | _,_=>none
 | .call c=>match c.callee,c.args.toList,c.argTypes.toList with
  | .builtin .len,[x],[T]=>match s.op x with
   | some (.v (.a (.mp m)))=>some (Builtin.len_ #[T] ty #[.map m])
   | _=>none
  | .builtin .real,[x],_=>match s.op x with
   | some v=>some (Builtin.real_ c.argTypes ty #[v.den s.vl])
   | none=>none
  | .builtin .imag,[x],_=>match s.op x with
   | some v=>some (Builtin.imag_ c.argTypes ty #[v.den s.vl])
   | none=>none
  | .builtin .complex,[x,y],_=>match s.op x,s.op y with
   | some u,some v=>some (Builtin.complex_ c.argTypes ty #[u.den s.vl,v.den s.vl])
   | _,_=>none
  | _,_,_=>none
 | _=>none
theorem RV {s:S}{J:Env}{x:Option Operand}{v:Option Value}(h:nu s x=some v):x.map (AE (s.e J))=v:=by
 cases x with
 | none=>simp only[nu,AfL]at h;subst h;rfl
 | some x=>
  simp only[nu]at h;split at h
  .rename_i u A;cases h;simp only[Afv];rw[ev A]
  .cases h
theorem ny {P:Program}{op:Op}{ty:TypeId}{s:S}{m:Sem Value}(h:anyM P op ty s=some m)(J:Env):∀o:Oper,o.op=op->o.type=ty->execOp (AE (s.e J)) o=(do pure (Next.value (<-m))):=λo ho ht=>by
 unfold anyM at h;split at h
 .rename_i T x lo hi mx;split at h
  .cases h
  .split at h
   .rename_i w l hh mm A G h3 h4;cases h;simp only[execOp,ho,RV G,RV h3,RV h4,ev A]
   .cases h
 .rename_i u T x;split at h
  .cases h
  .split at h
   .cases h
   .rename_i hv;cases h;simp only[execOp,ho,ev hv]
   .cases h
  .rename_i hv;cases h;simp only[execOp,ho,ev hv]
  .cases h
 .rename_i b T x y T';split at h
  .cases h
  .split at h
   .rename_i u v hu hv;cases h;simp only[execOp,ho,ev hu,ev hv]
   .cases h
 .rename_i c;obtain⟨ce,Aes,ts⟩:=c;split at h
  .rename_i x T A G h3;simp only at A G h3;have e1:Aes=#[x]:=by rw[<-AfM];simpa using G
   have e2:ts=#[T]:=by rw[<-AfM];simpa using h3
   subst A e1 e2;split at h
   .rename_i mm hx;cases h;exact gy (by rw[ev hx];rfl) o ho ht
   .cases h
  .rename_i x A G;simp only at A G h;have e1:Aes=#[x]:=by rw[<-AfM];simpa using G
   subst A e1;split at h
   .rename_i v hv;cases h;exact SK (ev hv) o ho ht
   .cases h
  .rename_i x A G;simp only at A G h;have e1:Aes=#[x]:=by rw[<-AfM];simpa using G
   subst A e1;split at h
   .rename_i v hv;cases h;exact SL (ev hv) o ho ht
   .cases h
  .rename_i x y A G;simp only at A G h;have e1:Aes=#[x,y]:=by rw[<-AfM];simpa using G
   subst A e1;split at h
   .rename_i u v hu hv;cases h;exact Lv (ev hu) (ev hv) o ho ht
   .cases h
  .cases h
 .cases h
def AEK (P:Program)(ty:TypeId)(m:Sem Value)(s:S)(K:SV->S->Prop):Prop:=s.ex P ty λv s=>YF P m s.Z22 (v.den s.vl)/\K v s
theorem UQ {P:Program}{op:Op}{ty:TypeId}{s:S}{m:Sem Value}{K:SV->S->Prop}(hm:anyM P op ty s=some m)(h:AEK P ty m s K):∃v A,s.Same A/\(∀J,Yd P (s.e J) s.b s.Z22 op ty (v.den A.vl))/\K v A:=by
 obtain⟨v,A,G,hy,hk⟩:=S.UO h;rw[G.Z22]at hy;exact⟨v,A,G,λJ=>Yd.any (ny hm J) hy,hk⟩
def UR (ops:Array Oper)(gd:Option (Nat×Bool))(s:S)(K:Bool->S->Prop):Prop:=match gd with
 | none=>K true s
 | some (j,A)=>match (ops[j]?).bind (·.dst) with
  | none=>False
  | some d=>match YS s.env d with
   | some (.v (.a .un))=>K false s
   | v=>s.yi v λt s=>K (t==A) s
theorem KS {ops:Array Oper}{gd:Option (Nat×Bool)}{s:S}{K:Bool->S->Prop}(h:UR ops gd s K):∃b G,s.Same G/\(∀J,AX ops (s.e J) gd=b)/\K b G:=by
 unfold UR at h;split at h
 .exact⟨true,s,.refl s,λ_=>rfl,h⟩
 .rename_i j A;split at h
  .cases h
  .rename_i d hd;split at h
   .rename_i hv;refine⟨false,s,.refl s,λJ=>?_,h⟩;have:s.e J d=undef:=Fb hv;simp only[AX,hd,this];rfl
   .obtain⟨t,G,x,h1,h2,h3,h4,h⟩:=S.Gn h;refine⟨_,G,h1,λJ=>?_,h⟩;have:s.e J d=.bool t:=(Fb h3).trans h4;simp only[AX,hd,this];cases t<;>cases A<;>rfl
def k6 (J:Env)(K:S->Prop):Env->Bx->Hp->Prop:=λe bx Z22=>∃s,e=s.e J/\bx=s.b/\Z22=s.Z22/\K s
structure Cx extends iV where
 n:Nat
 yo:List (Nat×TypeId):=[]
structure Cx.Ok (c:Cx)(g:Gl):Prop where
 P:c.P=g.P
 R:c.R=g.R
 E:AN g.P c.CP
 n:c.n=g.n
 Hy:g.Hy=none
 ds:g.ds=[]
def kp0:KP:=λ_ _ F=>F
def YY (l:List Gj)(i:Nat)(o:Nat)(xs:List Cr):List Gj:=match l with
 | []=>[]
 | (j,t,cs)::l=>bif Nat.beq j i then(j,t,iQ cs o xs)::l else(j,t,cs)::YY l i o xs
def US {α:Type}:List α->Nat
 | []=>0
 | _::l=>US l+1
theorem Te {α:Type}:∀l:List α,US l=l.length
 | []=>rfl
 | _::l=>by simp only[US,Aez];rw[Te l]
def RW:List Cr->List Value
 | []=>[]
 | .raw v::l=>v::RW l
 | .un::l=>undef::RW l
 | _::l=>RW l
def AEL (F:Prop):List Value->Prop
 | []=>F
 | [v]=>(Value.oneCell' v=true)/\F
 | l=>AEM l/\F
where
 AEM:List Value->Prop
  | []=>True
  | [v]=>Value.oneCell' v=true
  | v::l=>Value.oneCell' v=true/\AEM l
def SV.iY:SV->Option (List Cr)
 | .v (.a x)=>some [x]
 | .v (.agg l)=>some l
 | .Wv _=>none
def mapOf (P:Program)(l:List (Nat×TypeId))(x:Operand):Option (TypeId×TypeId):=match x with
 | .tmp t=>match l.find? λp=>Nat.beq p.1 t with
  | some p=>match P.underlying p.2 with
   | some (.map k v)=>some (k,v)
   | _=>none
  | none=>none
 | _=>none
def rm (c:Cx)(dst:Option Nat)(x:Operand)(ty:TypeId)(s:S)(K:S->Prop):Prop:=match dst,s.op x,mapOf c.P c.yo x with
 | some d,some u,some (G,tv)=>AH c.P (Instr.next (u.den s.vl) false ty) s.Z22 (λv A=>(v=(.tuple #[(.bool false)])/\K ((s.hp A).put (some d) (.Wv [.a (.bl false)]))) \/
  (match s.ok with
   | true=>xW c.P G s.vl λa vl=>xW c.P tv vl λb vl=>v=(SV.Wv [.a (.bl true),a,b]).den vl/\K (((s.hp A).w vl).put (some d) (.Wv [.a (.bl true),a,b]))
   | false=>False))
 | _,_,_=>False
def AEN (c:Cx)(T:TypeId)(i o:Nat)(v:SV)(s:S)(K:S->Prop):Prop:=match v.iY,cA c.P T with
 | some l,some n=>match cJ s.bx i with
  | some (t,cs)=>match Nat.beq (US l) n&&Nat.ble (o+US l) (US cs) with
   | true=>AEL (K ⟨s.env,YY s.bx i o l,s.vl,s.Z22⟩) (RW l)
   | false=>False
  | none=>False
 | _,_=>False
def rn (c:Cx)(ops:Array Oper)(i:Nat)(s:S)(K:S->Prop):Prop:=match ops[i]? with
 | none=>False
 | some o=>match HJ o.dst c.n with
  | false=>False
  | true=>UR ops o.guard s λb s=>match b with
   | false=>K (s.put o.dst (.at .un))
   | true=>match o.op with
    | .load T x=>ldV c.P T x s λ_ v s=>K (s.put o.dst v)
    | .mapUpdate T m k v=>match o.dst,s.op m,s.op k,s.op v with
     | none,some m,some k,some v=>AH c.P (Instr.mapUpdate T (m.den s.vl) (k.den s.vl) (v.den s.vl)) s.Z22 (λ_ A=>K (s.hp A))
     | _,_,_,_=>False
    | .insert T m k v=>match o.dst,s.op m,s.op k,s.op v with
     | none,some m,some k,some v=>AH c.P (Instr.mapUpdate T (m.den s.vl) (k.den s.vl) (v.den s.vl)) s.Z22 (λ_ A=>K (s.hp A))
     | _,_,_,_=>False
    | .next x false=>rm c o.dst x o.type s K
    | .entry x=>match s.op x,mapOf c.P c.yo x with
     | some u,some (G,tv)=>AH c.P (Instr.entry (u.den s.vl)) s.Z22 (λv A=>HN (rf c.P G tv) o.dst (s.hp A) s.Z22 v kp0 K)
     | _,_=>False
    | .panic x=>match s.op x with
     | some (.v (.a (.raw (.iface T u))))=>c.R (.panicked [{ v:=.iface T u,recovered:=false }]) s.Z22
     | _=>False
    | .store T x y=>match o.dst,rU (s.op x),s.op y with
     | none,some (.bx i b),some v=>AEN c T i b v s K
     | _,_,_=>nk c.toiV o.dst (.store T x y) o.type s kp0 K
    | op=>match rk c.P op,anyM c.P op o.type s with
     | true,_=>nk c.toiV o.dst op o.type s kp0 K
     | false,some m=>AEK c.P o.type m s λv s=>K (s.put o.dst v)
     | false,none=>yv c.P c.wr op s λv s=>K (s.put o.dst v)
def yp (c:Cx)(ops:Array Oper):List Nat->S->(S->Prop)->Prop
 | [],s,K=>K s
 | i::is,s,K=>rn c ops i s λs=>yp c ops is s K
section
variable {g:Gl}{ops:Array Oper}{i:Nat}{J:Env}{s:S}{K:S->Prop}{c:Cx}
theorem k7 {s A:S}{K:Env->Bx->Hp->Prop}(h:s.Same A)(G:AV g ops i (A.e J) A.b A.Z22 K):AV g ops i (s.e J) s.b s.Z22 K:=by
 rw[<-h.e J,<-h.b,<-h.Z22];exact G
theorem AIO {s:S}{o:Oper}{K:SV->S->Prop}{K':Env->Bx->Hp->Prop}(ho:ops[i]?=some o)(hw:AX ops (s.e J) o.guard=true)(hd:HJ o.dst g.n=true)(h:YP g.P o.op o.type s K)(hk:∀v A,s.Same A->K v A->K' ((A.put o.dst v).e J) A.b A.Z22):
  AV g ops i (s.e J) s.b s.Z22 K':=by
 obtain⟨v,A,G,h2,h3⟩:=h;have:=hk v A G h3;rw[S.JZ,G.e J,G.b,G.Z22]at this;exact AV.y (EI ho) hw hd (h2 J _) this
theorem Yd.up {P:Program}{e:Env}{bx:Bx}{Z22:Hp}{b:Nat}{op:Op}{ty:TypeId}{v:Value}(h:Yd P e bx (λx=>if x=b then Z22 x else none) op ty v):Yd P e bx Z22 op ty v:=λo G ht w hs hb=>h o G ht w (λk u A=>by
 simp only at A;split at A
 .exact hs k u A
 .cases A) hb
theorem AV.mono {e:Env}{bx:Bx}{Z22:Hp}{K A:Env->Bx->Hp->Prop}(h:AV g ops i e bx Z22 K)(hk:∀e bx Z22,K e bx Z22->A e bx Z22):AV g ops i e bx Z22 A:=λw0 F a w st=>wpOpIn_mono (λa' w' ⟨e',b',Z'2,G,h'⟩=>⟨e',b',Z'2,G,hk _ _ _ h'⟩) (h w0 F a w st)
theorem AIP {dst:Option Nat}{op:Op}{ty:TypeId}{gd:Option (Nat×Bool)}(A:c.Ok g)(hs:sig ops i=some (dst,op,ty,gd))(hw:AX ops (s.e J) gd=true)(hd:HJ dst g.n=true)(h:nk c.toiV dst op ty s kp0 K):AV g ops i (s.e J) s.b s.Z22 (k6 J K):=by
 have:=UP (c:=c.toiV) (kq:=λ_ _=>True) (J:=J) A.P A.R A.E (λ_ _ F h=>⟨h,trivial⟩) (λ_ _ _=>trivial) hs hw hd h;intro w0 F a w st;refine wpOpIn_mono ?_ (this w0 F a w st)
 rintro a' w' ⟨e',HX,Z'2,G,s',rfl,rfl,rfl,_,_,hk⟩
 exact⟨_,_,_,G,s',rfl,rfl,rfl,hk⟩
theorem cP {dst:Option Nat}{x:Operand}{ty:TypeId}{gd:Option (Nat×Bool)}(hc:c.Ok g)(hs:sig ops i=some (dst,.next x false,ty,gd))(hw:AX ops (s.e J) gd=true)(hd:HJ dst g.n=true)(h:rm c dst x ty s K):AV g ops i (s.e J) s.b s.Z22 (k6 J K):=by
 unfold rm at h;split at h
 .rename_i d u tk tv hu hm;rw[hc.P]at h;refine AV.PJ hs hw hd (Instr.next (u.den s.vl) false ty) (λo ho ht=>by simp only[execOp,ho,ht];rw[ev hu]) (h.mono λv A G=>?_);rcases G with ⟨rfl,hk⟩|G
  .exact⟨_,(S.JZ (s:=s.hp A) (x:=.Wv [.a (.bl false)])).symm,(S.Ja (s:=s.hp A) (x:=.Wv [.a (.bl false)])).symm,(S.Gk (s:=s.hp A) (x:=.Wv [.a (.bl false)])).symm,hk⟩
  .split at G
   .rename_i A4;obtain⟨a,w1,h1,G⟩:=Fc G;obtain⟨b,w2,h2,G⟩:=Fc G;obtain⟨hv,hk⟩:=G;have Ku:=S.UI (s:=s.hp A) A4 (h1.trans h2).le;refine⟨_,?_,?_,?_,hk⟩
    .rw[S.JZ,Ku.e J,hv];rfl
    .rw[S.Ja,Ku.b];rfl
    .rw[S.Gk];rfl
   .cases G
 .cases h
theorem cQ {vl:Vl}{i o:Nat}{l:List Cr}:∀{bx:List Gj} {t:TypeId} {cs:List Cr},cJ bx i=some (t,cs)->∃j,(F1 vl bx)[j]?=some (nth 0 vl.δ i,.cells (Bc vl cs).toArray t (0,0))/\F1 vl (YY bx i o l)=(F1 vl bx).set j (nth 0 vl.δ i,.cells (Bc vl (iQ cs o l)).toArray t (0,0))
 | (k,u,ds)::r,t,cs,h=>by
  simp only[cJ]at h;cases A:Nat.beq k i with
  | true=>
   rw[A]at h;simp only[Ah2,AfL,Ahh]at h;obtain⟨rfl,rfl⟩:=h;have:=Afm A;subst this;exact⟨0,rfl,by simp only[YY,A,Ah2,F1,List.set_cons_zero]⟩
  | false=>
   rw[A]at h;simp only[AhX]at h;obtain⟨j,G,h2⟩:=cQ (vl:=vl) (o:=o) (l:=l) h;exact⟨j+1,by simpa only[F1,Afd] using G,by simp only[YY,A,AhX,F1,Ah3,h2]⟩
theorem iZ {F:Prop}{l:List Value}(h:AEL F l):F/\∀v∈l,Value.oneCell' v=true:=by
 have G:∀{l:List Value},AEL.AEM l->∀v∈l,Value.oneCell' v=true:=fun {l}=>by
  induction l with
  | nil=>intro _ v hv;cases hv
  | cons a l ih=>
   intro h v hv;cases l with
   | nil=>simp at hv;subst hv;exact h
   | cons b l=>
    rcases Ae5.1 hv with rfl|hv
    .exact h.1
    .exact ih h.2 v hv
 match l,h with
 | [],h=>exact⟨h,λv hv=>by cases hv⟩
 | [v],h=>exact⟨h.2,λu A=>by simp at A;subst A;exact h.1⟩
 | a::b::l,h=>exact⟨h.2,G h.1⟩
theorem UT {vl:Vl}:∀{l:List Cr},(∀v∈RW l,Value.oneCell' v=true)->∀u∈Bc vl l,Value.oneCell' u=true
 | [],_,u,A=>by cases A
 | x::l,h,u,A=>by
  have tl:∀v∈RW l,Value.oneCell' v=true:=λv hv=>h v (by cases x<;>first|exact hv|exact Aey _ hv);rcases Ae5.1 A with rfl|A
  .cases x<;>try rfl
   case bs i n=>cases n<;>rfl
   case raw v=>exact h v (AfB ..)
   case un=>exact h undef (AfB ..)
  .exact UT tl u A
theorem ia {vl:Vl}{v:SV}{l:List Cr}(h:v.iY=some l)(A:∀u∈Bc vl l,Value.oneCell' u=true):(v.den vl).cells=(Bc vl l).toArray:=by
 unfold SV.iY at h;split at h
 .rename_i x;cases h;have:=A (x.den vl) (AfB ..);simp only[SV.den,Ht.den,Bc];cases G:x.den vl<;>first|rfl|(rw[G]at this;cases this)
 .cases h;rfl
 .cases h
theorem ib {T ty:TypeId}{x y:Operand}{gd:Option (Nat×Bool)}{k b:Nat}{v:SV}(hc:c.Ok g)(hs:sig ops i=some (none,.store T x y,ty,gd))(hw:AX ops (s.e J) gd=true)(hx:rU (s.op x)=some (.bx k b))(hy:s.op y=some v)(h:AEN c T k b v s K):AV g ops i (s.e J) s.b s.Z22 (k6 J K):=by
 unfold AEN at h;split at h
 .rename_i l n hl hz;split at h
  .rename_i t cs hg;split at h
   .rename_i hd;simp only[AfH,Te]at hd;obtain⟨hk,ho⟩:=iZ h;have G:=UT (vl:=s.vl) ho;have A:=ia (vl:=s.vl) hl G;obtain⟨u,e1,e2⟩:=F4 hx;obtain⟨j,h1,h2⟩:=cQ (vl:=s.vl) (o:=b) (l:=l) hg;rw[hc.P]at hz;refine AV.ADl (b:=nth 0 s.vl.δ k) (o:=b) (c:=(Bc s.vl cs).toArray) (c':=(Bc s.vl (iQ cs b l)).toArray) (t:=t) (j:=j) hs hw (De hz) (by rw[ev e1,e2];rfl) (ev hy) h1 ?_ ?_ ?_ ?_ ?_
    .rw[A];simp[EY];exact Afm hd.1
    .have:=Afm hd.1;have h3:=Afh hd.2;exact Nat.ble_eq_true_of_le (by simp[EY];omega)
    .rw[A];exact Afu.2 λu hu=>G u (by simpa using hu)
    .rw[A,UL]
    .exact⟨⟨s.env,YY s.bx k b l,s.vl,s.Z22⟩,rfl,h2.symm,rfl,hk⟩
   .cases h
  .cases h
 .cases h
theorem cR (hc:c.Ok g)(h:rn c ops i s K):AV g ops i (s.e J) s.b s.Z22 (k6 J K):=by
 unfold rn at h;split at h
 .cases h
 .rename_i o G;split at h
  .cases h
  .rename_i hd;rw[hc.n]at hd;obtain⟨b,s1,h1,hw,h⟩:=KS h;have hw:=hw J;rw[<-h1.e J]at hw;refine k7 h1 ?_;cases b with
   | false=>exact AV.no (EI G) hw hd ⟨_,(S.JZ (x:=.at .un)).symm,S.Ja.symm,S.Gk.symm,h⟩
   | true=>
    simp only at h;split at h
    .rename_i T x Ii;obtain⟨m,v,s2,h2,hk,hy⟩:=XG (ty:=o.type) h;have A:=EI G;rw[Ii]at A;refine AV.y (v:=v.den s2.vl) A hw hd ?_ ⟨s2.put o.dst v,by rw[S.JZ,h2.e J],by rw[S.Ja,h2.b],by rw[S.Gk,h2.Z22],hk⟩;have hy:=hy J;rw[hc.P]at hy;cases m with
     | none=>exact hy _
     | some b=>exact Yd.up hy
    .rename_i T m k v Ii;split at h
     .rename_i um uk uv Ln hm hk hv;have A:=EI G;rw[Ii,Ln]at A;rw[hc.P]at h;exact AV.ADk A hw rfl _ (λo G ht=>by simp only[execOp,G];rw[ev hm,ev hk,ev hv]) (h.mono λ_ Z12 hr=>⟨s1.hp Z12,rfl,rfl,rfl,hr⟩)
     .cases h
    .rename_i T m k v Ii;split at h
     .rename_i um uk uv Ln hm hk hv;have A:=EI G;rw[Ii,Ln]at A;rw[hc.P]at h;exact AV.ADk A hw rfl _ (λo G ht=>by simp only[execOp,G];rw[ev hm,ev hk,ev hv]) (h.mono λ_ Z12 hr=>⟨s1.hp Z12,rfl,rfl,rfl,hr⟩)
     .cases h
    .have Ii:=‹o.op=Op.next _ false›
     have A:=EI G;rw[Ii]at A;exact cP hc A hw hd h
    .have Ii:=‹o.op=Op.entry _›;have A:=EI G;rw[Ii]at A;split at h
     .rename_i u tk tv hu hm;rw[hc.P]at h;have:=AV.PJ (K:=St' J s1 (λ_ _=>True) K) A hw hd (Instr.entry (u.den s1.vl)) (λo G ht=>by simp only[execOp,G];rw[ev hu]) (h.mono λv Z12 hr=>Ah (kq:=λ_ _=>True) nj (λ_ _ F h=>⟨h,trivial⟩) hr J);exact this.mono λe bx Z22 ⟨s',e1,e2,e3,_,_,hk⟩=>⟨s',e1,e2,e3,hk⟩
     .cases h
    .have Ii:=‹o.op=Op.panic _›;split at h
     .rename_i T u hx;have A:=EI G;rw[Ii]at A;rw[hc.R]at h;exact AV.panic A hw (by rw[ev hx];rfl) hc.Hy hc.ds h
     .cases h
    .have Ii:=‹o.op=Op.store _ _ _›;have A:=EI G;rw[Ii]at A;split at h
     .rename_i i' b v Ln hx hy;rw[Ln]at A;exact ib hc A hw hx hy h
     .exact AIP hc A hw hd h
    .split at h
     .exact AIP hc (EI G) hw hd h
     .rename_i m _ hm;rw[hc.P]at h hm;obtain⟨v,s2,h2,hy,hk⟩:=UQ hm h;exact AV.y (v:=v.den s2.vl) (EI G) hw hd (hy J) ⟨s2.put o.dst v,by rw[S.JZ,h2.e J],by rw[S.Ja,h2.b],by rw[S.Gk,h2.Z22],hk⟩
     .rw[hc.P]at h;exact AIO G hw hd (cK h) λv s' KJ hk=>⟨s'.put o.dst v,rfl,S.Ja.symm,S.Gk.symm,hk⟩
theorem PQ (A:c.Ok g):∀{is:List Nat} {s:S},yp c ops is s K->Seq g ops is (s.e J) s.b s.Z22 (k6 J K)
 | [],s,h=>⟨s,rfl,rfl,rfl,h⟩
 | i::is,s,h=>(cR A h).mono λe bx Z22 ⟨s',G,h2,h3,h4⟩=>by subst G h2 h3;exact PQ A h4
theorem UU {K A:Env->Bx->Hp->Prop}(G:∀e bx Z22,K e bx Z22->A e bx Z22):∀{is:List Nat} {e:Env} {bx:Bx} {Z22:Hp},Seq g ops is e bx Z22 K->Seq g ops is e bx Z22 A
 | [],_,_,_,h=>G _ _ _ h
 | i::is,e,bx,Z22,h=>AV.mono h λ_ _ _ h=>UU G h
theorem KT {K K':Env->Bx->Hp->Prop}(A:∀e bx Z22,K e bx Z22->K' e bx Z22):∀{p:Ord} {q:KH} {e:Env} {bx:Bx} {Z22:Hp},Lt g ops p q e bx Z22 K->Lt g ops p q e bx Z22 K'
 | .done,_,_,_,_,h=>A _ _ _ h
 | .yes i r,q,e,bx,Z22,⟨own,o,v,G,h2,h3,h4,h5⟩=>⟨own,o,v,G,h2,h3,h4,KT A h5⟩
 | .alt i r t,q,e,bx,Z22,⟨G,h2⟩=>⟨AV.mono G λ_ _ _ ⟨h3,h4⟩=>⟨h3,KT A h4⟩,KT A h2⟩
 | .no,_,_,_,_,_=>trivial
def UW:Ord->List Nat
 | .done=>[]
 | .yes _ r=>UW r
 | .alt i r _=>i::UW r
 | .no=>[]
def AIQ (ops:Array Oper)(i:Nat):Nat->Nat->Option (List Nat)
 | 0,_=>none
 | f+1,t=>match JY ops t i with
  | true=>some [t]
  | false=>(List.range t).findSome? λu=>match Nat.blt i u&&JY ops t u with
   | true=>match AIQ ops i f u with
    | some p=>some (t::p)
    | none=>none
   | false=>none
def waits (ops:Array Oper)(i:Nat):List Nat->List (List Nat)
 | []=>[]
 | t::l=>match AIQ ops i 40 t with
  | some p=>p::waits ops i l
  | none=>waits ops i l
def kpL (L:KH):KP:=λZ0 A F=>match L with
 | none=>Ext Z0 A/\F
 | some []=>F
 | some (x::l)=>Kp ((x::l).map Prod.fst) Z0 A/\F
def G9 (c:Cx)(ops:Array Oper):Ord->KH->S->(S->Prop)->Prop
 | .done,_,s,K=>K s
 | .yes i r,L,s,K=>match ops[i]? with
  | none=>False
  | some o=>match HJ o.dst c.n&&L.ok i with
   | false=>False
   | true=>UR ops o.guard s λb s=>match b with
    | false=>G9 c ops r L (s.put o.dst (.at .un)) K
    | true=>match o.op with
     | .load T x=>ldV c.P T x s λm v s=>match m,L with
      | none,_=>G9 c ops r L (s.put o.dst v) K
      | some _,none=>G9 c ops r L (s.put o.dst v) K
      | some b,some l=>match (M8 (some l) (some (b,waits ops i (UW r)))).ok i&&SD ops i (some (b,waits ops i (UW r))) with
       | true=>G9 c ops r (M8 (some l) (some (b,waits ops i (UW r)))) (s.put o.dst v) K
       | false=>False
     | op=>match rk c.P op,anyM c.P op o.type s,L with
      | true,_,_=>False
      | false,some m,none=>AEK c.P o.type m s λv s=>G9 c ops r none (s.put o.dst v) K
      | false,some _,some _=>False
      | false,none,L=>yv c.P c.wr op s λv s=>G9 c ops r L (s.put o.dst v) K
 | .alt i r t,L,s,K=>
  match t with
  | .no=>cS c ops i L s λs=>G9 c ops r (G5 L i) s K
  | t=>(cS c ops i L s λs=>G9 c ops r (G5 L i) s K)/\G9 c ops t L s K
 | .no,_,_,_=>True
where
 cS (c:Cx) (ops:Array Oper) (i:Nat) (L:KH) (s:S) (K:S->Prop):Prop:=match ops[i]? with
  | none=>False
  | some o=>match HJ o.dst c.n with
   | false=>False
   | true=>UR ops o.guard s λb s=>match b with
    | false=>K (s.put o.dst (.at .un))
    | true=>nk c.toiV o.dst o.op o.type s (kpL (G5 L i)) K
def kqL (q:KH)(Z22 Z'2:Hp):Prop:=match q with
 | none=>∀b o,Z22 b=some o->Z'2 b=some o
 | some L=>∀x∈L,∀o,Z22 x.1=some o->Z'2 x.1=some o
theorem AEO {q:KH}{bx A:Bx}{Z22 Z'2:Hp}(h:kqL q Z22 Z'2)(hb:∀p∈bx,p∈A):Ks q bx Z22 A Z'2:=⟨hb,h⟩
theorem oA {L:KH}{Z0 A:Hp}{F:Prop}(h:kpL L Z0 A F):F/\kqL L Z0 A:=by
 unfold kpL at h;split at h
 .exact⟨h.2,h.1⟩
 .exact⟨h,λx hx=>by cases hx⟩
 .exact⟨h.2,λy hy o G=>h.1 y.1 (AfC.2 ⟨y,hy,rfl⟩) o G⟩
theorem yq {L:KH}{Z0 A:Hp}(h:Ext Z0 A):kqL L Z0 A:=by
 cases L with
 | none=>exact h
 | some l=>exact λx _ o G=>h _ _ G
theorem cU {L:KH}(hc:c.Ok g)(h:G9.cS c ops i L s K):AV g ops i (s.e J) s.b s.Z22 λG A Z'2=>Ks (G5 L i) s.b s.Z22 A Z'2/\k6 J K G A Z'2:=by
 unfold G9.cS at h;split at h
 .cases h
 .rename_i o ho;split at h
  .cases h
  .rename_i hd;rw[hc.n]at hd;obtain⟨b,s1,h1,hw,h⟩:=KS h;have hw:=hw J;rw[<-h1.e J]at hw;have key:AV g ops i (s1.e J) s1.b s1.Z22 λG A Z'2=>Ks (G5 L i) s1.b s1.Z22 A Z'2/\k6 J K G A Z'2:=by
    cases b with
    | false=>exact AV.no (EI ho) hw hd ⟨Ks.refl _ _ _,_,(S.JZ (x:=.at .un)).symm,S.Ja.symm,S.Gk.symm,h⟩
    | true=>
     have:=UP (c:=c.toiV) (kq:=kqL (G5 L i)) (J:=J) hc.P hc.R hc.E (λ_ _ F h=>oA h) (λ_ _ h=>yq h) (EI ho) hw hd h;exact this.mono λG A Z'2 ⟨s',e1,e2,e3,hq,hb,hk⟩=>⟨AEO hq hb,s',e1,e2,e3,hk⟩
   have:=k7 (K:=λG A Z'2=>Ks (G5 L i) s1.b s1.Z22 A Z'2/\k6 J K G A Z'2) h1 key;rw[h1.b,h1.Z22]at this;exact this
theorem EZ (hc:c.Ok g):∀{p:Ord} {q:KH} {s:S},G9 c ops p q s K->Lt g ops p q (s.e J) s.b s.Z22 (k6 J K)
 | .done,q,s,h=>⟨s,rfl,rfl,rfl,h⟩
 | .yes i r,q,s,h=>by
  simp only[G9]at h;split at h
  .cases h
  .rename_i o ho;split at h
   .cases h
   .rename_i hd;simp only[AfH]at hd;obtain⟨hd,hq⟩:=hd;rw[hc.n]at hd;obtain⟨b,s1,h1,hw,h⟩:=KS h;have hw:=hw J;rw[<-h1.e J]at hw;rw[<-h1.e J,<-h1.b,<-h1.Z22];have go:∀{v:SV} {s2:S} {own:Option (Nat×List (List Nat))},s1.Same s2->((M8 q own).ok i&&SD ops i own)=true->Yd g.P (s1.e J) s1.b (PG q own s1.Z22) o.op o.type (v.den s2.vl)->AX ops (s1.e J) o.guard=true->G9 c ops r (M8 q own) (s2.put o.dst v) K->Lt g ops (.yes i r) q (s1.e J) s1.b s1.Z22 (k6 J K):=fun {v s2 own} G A4 hy hw A=>by
     have:=EZ hc A;rw[S.JZ,S.Ja,S.Gk,G.e J,G.b,G.Z22]at this;exact⟨own,o,v.den s2.vl,A4,ho,.inl ⟨hw,hy⟩,HJ.lt hd,this⟩
    cases b with
    | false=>
     have:=EZ hc h;rw[S.JZ,S.Ja,S.Gk]at this;exact⟨none,o,undef,ok_none hq,ho,.inr ⟨hw,rfl⟩,HJ.lt hd,by rw[Fa];exact this⟩
    | true=>
     simp only at h;split at h
     .rename_i T x Ii;obtain⟨m,v,s2,G,A,hy⟩:=XG (ty:=o.type) h;have hy:=hy J;rw[hc.P,<-Ii]at hy;split at A
      .exact go (own:=none) G (ok_none hq) (hy _) hw (by rw[Fa];exact A)
      .exact go (own:=none) G (ok_none hq) (Yd.up hy) hw (by rw[Fa];exact A)
      .rename_i b l;split at A
       .rename_i A4;exact go G A4 hy hw A
       .cases A
     .split at h
      .cases h
      .have hm:=‹anyM c.P o.op o.type s1=some _›;rw[hc.P]at h hm;obtain⟨v,s2,G,hy,A⟩:=UQ hm h;exact go (own:=none) G (ok_none hq) (hy J) hw A
      .cases h
      .rw[hc.P]at h;obtain⟨v,s2,G,hy,A⟩:=cK (ty:=o.type) h;exact go (own:=none) G (ok_none hq) (hy J _) hw (by rw[Fa];exact A)
 | .alt i r t,q,s,h=>by
  have key:∀{t:Ord},(G9.cS c ops i q s λs=>G9 c ops r (G5 q i) s K)->Lt g ops t q (s.e J) s.b s.Z22 (k6 J K)->Lt g ops (.alt i r t) q (s.e J) s.b s.Z22 (k6 J K):=fun {t} h1 G=>
   ⟨(cU hc h1).mono λe bx Z22 ⟨A,s',e1,e2,e3,h3⟩=>⟨A,by subst e1 e2 e3;exact EZ hc h3⟩,G⟩
  cases t with
  | no=>exact key h trivial
  | done=>exact key h.1 (EZ hc h.2)
  | yes j u=>exact key h.1 (EZ hc h.2)
  | alt j u w=>exact key h.1 (EZ hc h.2)
 | .no,q,s,h=>trivial
def k8 (P:Program)(ops:Array Oper)(m:Nat):Nat->Array Bool->Ord
 | 0,_=>.no
 | f+1,A=>match (List.range m).all λi=>A.getD i false with
  | true=>.done
  | false=>match (Region.ready .any ops A).find? λj=>Nat.blt j m&&match ops[j]? with | some o=>!rk P o.op | none=>false with
   | some j=>.yes j (k8 P ops m f (A.setIfInBounds j true))
   | none=>(Region.ready .any ops A).foldr (λj G=>.alt j (k8 P ops m f (A.setIfInBounds j true)) G) .no
def AEP (c:Cx)(ops:Array Oper)(draw:Bool)(m:Nat)(q:KH)(s:S)(K:S->Prop):Prop:=match draw with
 | false=>yp c ops (List.range ops.size) s K
 | true=>match YQ ops m (k8 c.P ops m (ops.size+1) (Array.replicate ops.size false)) (List.range' m (ops.size-m)) with
  | true=>G9 c ops (k8 c.P ops m (ops.size+1) (Array.replicate ops.size false)) q s λs=>yp c ops (List.range' m (ops.size-m)) s K
  | false=>False
theorem ic {k:List Item}{id m:Nat}{draw:Bool}{q:KH}(G:c.Ok g)(hm:g.P.follows .mixedOrders=true)(h:AEP c ops draw m q s K)(hk:∀s,K s->At g k (s.e J) s.b s.Z22):At g (.code (.region id ops draw)::k) (s.e J) s.b s.Z22:=by
 have fin:∀e bx Z22,k6 J K e bx Z22->At g k e bx Z22:=λe bx Z22 ⟨s',A,e2,e3,h⟩=>by subst A e2 e3;exact hk s' h
 cases draw with
 | false=>
  refine At.region rfl rfl ?_;have:Seq g ops (List.range ops.size) (s.e J) s.b s.Z22 (k6 J K):=PQ G h;exact UU fin this
 | true=>
  simp only[AEP]at h;split at h
  .rename_i hp;refine At.AIJ hm rfl hp (q:=q) ?_;have:=EZ (J:=J) G h;refine KT (λe bx Z22 ⟨s',A,e2,e3,h⟩=>?_) this;subst A e2 e3;exact UU fin (PQ G h)
  .cases h
end
end Tw
end
section
namespace Tw
open Go
variable [I9]
def node (body:Code):List Bool->Code
 | []=>body
 | false::p=>cl (node body p)
 | true::p=>cr (node body p)
inductive It where
 | c (p:List Bool)
 | FB (i:Nat)
 | lp (p:List Bool)
 | sc (p:List Bool)
def It.den (body:Code):It->Item
 | .c p=>.code (node body p)
 | .FB i=>.inBlock i
 | .lp p=>.inLoop (node body p)
 | .sc p=>.inScope (node body p)
def Ea (body:Code):List It->List Item
 | []=>[]
 | x::l=>x.den body::Ea body l
def RX:List Bool->List Bool->Bool
 | [],[]=>true
 | a::p,b::q=>(bif a then b else !b)&&RX p q
 | _,_=>false
theorem XJ:∀{p q:List Bool},RX p q=true->p=q
 | [],[],_=>rfl
 | a::p,b::q,h=>by
  simp only[RX,AfH]at h;rw[XJ h.2];cases a<;>cases b<;>simp at h<;>rfl
 | [],_::_,h=>by cases h
 | _::_,[],h=>by cases h
def It.eq:It->It->Bool
 | .c p,.c q=>RX p q
 | .FB i,.FB j=>Nat.beq i j
 | .lp p,.lp q=>RX p q
 | .sc p,.sc q=>RX p q
 | _,_=>false
def lA:List It->List It->Bool
 | [],[]=>true
 | x::l,y::m=>x.eq y&&lA l m
 | _,_=>false
theorem cV:∀{l m:List It},lA l m=true->l=m
 | [],[],_=>rfl
 | x::l,y::m,h=>by
  simp only[lA,AfH]at h;rw[cV h.2];have:x=y:=by
   cases x<;>cases y<;>simp only[It.eq]at h<;>first
    | (rw[XJ h.1])
    | (rw[Afm h.1])
    | (exact absurd h.1 (by simp))
  rw[this]
 | [],_::_,h=>by cases h
 | _::_,[],h=>by cases h
structure Cut where
 todo:List It
 f:S->Prop
def Cut.Ok (g:Gl)(body:Code)(k:Cut):Prop:=∀s J,k.f s->At g (Ea body k.todo) (s.e J) s.b s.Z22
def yr:List Cut->List It->Option (S->Prop)
 | [],_=>none
 | k::l,t=>match lA k.todo t with
  | true=>some k.f
  | false=>yr l t
theorem lB {g:Gl}{body:Code}:∀{l:List Cut} {t:List It} {f:S->Prop},(∀k∈l,k.Ok g body)->yr l t=some f->∀s J,f s->At g (Ea body t) (s.e J) s.b s.Z22
 | k::l,t,f,A,h=>by
  simp only[yr]at h;split at h
  .rename_i G;cases h;rw[<-cV G];exact A k (AfB ..)
  .exact lB (λk hk=>A k (Aey _ hk)) h
def SM (i:Nat):List It->Option (List It)
 | []=>none
 | .FB j::r=>match Nat.beq i j with
  | true=>some r
  | false=>SM i r
 | _::r=>SM i r
def YZ (l:Nat):Code->List Bool->Option (List It)
 | .seq a b,p=>match YZ l a (false::p) with
  | some r=>some (r++[.c (true::p)])
  | none=>YZ l b (true::p)
 | .label j,_=>match Nat.beq j l with
  | true=>some []
  | false=>none
 | _,_=>none
def SN (body:Code)(l:Nat):List It->Option (List It)
 | []=>none
 | .sc p::r=>match YZ l (node body p) p with
  | some m=>some (m++(.sc p::r))
  | none=>SN body l r
 | _::r=>SN body l r
structure Fx extends Cx where
 body:Code
 res:List ResultVar
 reg:List (Nat×Nat×Bool)
def rq:List (Nat×Nat×Bool)->Nat->Nat->Nat×KH
 | [],_,m=>(m,some [])
 | (i,m,b)::l,id,z=>match Nat.beq i id with
  | true=>(m,bif b then none else some [])
  | false=>rq l id z
def ig (c:Fx)(s:S):List ResultVar->Option (List SV)
 | []=>some []
 | .tmp t::r=>match YS s.env t,ig c s r with
  | some v,some l=>some (v::l)
  | _,_=>none
 | .cell p T::r=>match rU (YS s.env p),ig c s r with
  | some (.bx i 0),some l=>match cJ s.bx i,cB c.P T with
   | some (_,cs),some true=>match cA c.P T with
    | some n=>match decide (cs.length=n) with
     | true=>some (.v (.agg cs)::l)
     | false=>none
    | none=>none
   | some (_,x::_),some false=>some (.at x::l)
   | _,_=>none
  | _,_=>none
def bY (c:Fx)(s:S):Prop:=match ig c s c.res with
 | some l=>c.R (.returned (UC (DJ s.vl l))) s.Z22
 | none=>False
def FC (c:Fx)(cuts:List Cut):Nat->Bool->List It->S->Prop
 | 0,_,_,_=>False
 | f+1,first,todo,s=>match (bif first then none else yr cuts todo) with
  | some k=>k s
  | none=>match todo with
   | []=>bY c s
   | .FB _::r=>FC c cuts f false r s
   | .lp p::r=>FC c cuts f false (.c p::.lp p::r) s
   | .sc _::r=>FC c cuts f false r s
   | .c p::r=>match node c.body p with
    | .skip=>FC c cuts f false r s
    | .seq _ _=>FC c cuts f false (.c (false::p)::.c (true::p)::r) s
    | .block i _=>FC c cuts f false (.c (false::p)::.FB i::r) s
    | .loop _=>FC c cuts f false (.c (false::p)::.lp (false::p)::r) s
    | .exit i=>match SM i r with
     | some r=>FC c cuts f false r s
     | none=>False
    | .scope _=>FC c cuts f false (.c (false::p)::.sc (false::p)::r) s
    | .label _=>FC c cuts f false r s
    | .goto l=>match SN c.body l r with
     | some r=>FC c cuts f false r s
     | none=>False
    | .cond x _ _=>s.yi (s.op x) λt s=>FC c cuts f false (.c ((!t)::p)::r) s
    | .ret=>bY c s
    | .region id ops draw=>AEP c.toCx ops draw (rq c.reg id ops.size).1 (rq c.reg id ops.size).2 s λs=>FC c cuts f false r s
    | _=>False
structure Fx.Ok (c:Fx)(g:Gl)(fn:Func):Prop where
 cx:c.toCx.Ok g
 mixed:g.P.follows .mixedOrders=true
 fnc:g.P.funcs[g.f]?=some fn
 res:fn.results=c.res.toArray
 Hy:g.Hy=none
 ds:g.ds=[]
section
variable {g:Gl}{c:Fx}{fn:Func}{cuts:List Cut}{J:Env}
theorem H6 (A:c.P=g.P){s:S}:∀{rs:List ResultVar} {l:List SV},ig c s rs=some l->Ij g.P (s.e J) s.b s.Z22 rs (DJ s.vl l)
 | [],l,h=>by simp only[ig,AfL]at h;subst h;rfl
 | .tmp t::r,l,h=>by
  simp only[ig]at h;split at h
  .rename_i v l' h1 h2;cases h;refine⟨_,?_,H6 A h2⟩;rw[show s.e J t=v.den s.vl from Fb h1];rfl
  .cases h
 | .cell p T::r,l,h=>by
  simp only[ig]at h;split at h
  .rename_i i l' h1 h2;obtain⟨u,e1,e2⟩:=F4 h1;have hp:s.e J p=.pointer (some ⟨nth 0 s.vl.δ i,0,none⟩):=(Fb e1).trans (e2 _);split at h
   .rename_i t cs hb G;split at h
    .rename_i n hn;split at h
     .rename_i hd;have hd:=AfS hd;cases h;rw[A]at G hn;exact⟨_,_,rfl,⟨_,hp,rJ (F3 G) (De hn) (by simp[EY];exact hd) (Lu hb)⟩,H6 A h2⟩
     .cases h
    .cases h
   .rename_i t x cs hb G;cases h;rw[A]at G;exact⟨_,_,rfl,⟨_,hp,yY (F3 G) (Lu hb) rfl⟩,H6 A h2⟩
   .cases h
  .cases h
theorem Jd {body:Code}{i:Nat}:∀{r r':List It},SM i r=some r'->exitTo i (Ea body r)=some (Ea body r')
 | .FB j::r,r',h=>by
  simp only[SM]at h;split at h
  .rename_i A;cases h;have:=Afm A;subst this;simp[Ea,It.den,exitTo]
  .rename_i A;have G:i≠j:=λe=>by subst e;rw[Aim]at A;cases A
   simp only[Ea,It.den,exitTo];rw[Aeu (by simpa using AfT G)];exact Jd h
 | .c p::r,r',h=>by simp only[SM]at h;simp only[Ea,It.den,exitTo];exact Jd h
 | .lp p::r,r',h=>by simp only[SM]at h;simp only[Ea,It.den,exitTo];exact Jd h
 | .sc p::r,r',h=>by simp only[SM]at h;simp only[Ea,It.den,exitTo];exact Jd h
theorem UX {body:Code}:∀{l m:List It},Ea body (l++m)=Ea body l++Ea body m
 | [],_=>rfl
 | x::l,m=>by simp only[Af3,Ea,UX]
theorem Md {l:Nat}:∀{x:Code} {p:List Bool},YZ l x p=none->findLabel x l=none
 | .seq a b,p,h=>by
  simp only[YZ]at h;split at h
  .cases h
  .rename_i A;simp only[findLabel,Md A,Md h]
 | .label j,p,h=>by
  simp only[YZ]at h;split at h
  .cases h
  .rename_i A;have:j≠l:=λe=>by subst e;rw[Aim]at A;cases A
   simp[findLabel,this]
 | .skip,p,h=>rfl
 | .region ..,p,h=>rfl
 | .cond ..,p,h=>rfl
 | .block ..,p,h=>rfl
 | .loop ..,p,h=>rfl
 | .rangeFunc ..,p,h=>rfl
 | .exit ..,p,h=>rfl
 | .scope ..,p,h=>rfl
 | .goto ..,p,h=>rfl
 | .ret,p,h=>rfl
 | .refuse ..,p,h=>rfl
theorem UY {l:Nat}{body:Code}:∀{x:Code} {p:List Bool} {m:List It},node body p=x->YZ l x p=some m->∃rest,findLabel x l=some rest/\∀{k:List Item} {e:Env} {bx:Bx} {Z22:Hp},At g (Ea body m++k) e bx Z22->At g (.code rest::k) e bx Z22
 | .seq a b,p,m,G,h=>by
  simp only[YZ]at h;split at h
  .rename_i r A;cases h;obtain⟨rest,e1,e2⟩:=UY (body:=body) (x:=a) (p:=false::p) (by simp only[node,G,cl]) A;refine⟨.seq rest b,by simp only[findLabel,e1],λh=>At.seq rfl (e2 ?_)⟩;rw[UX,Aew]at h;simp only[Ea,It.den,node,G,cr,Af3,AgG]at h;exact h
  .rename_i A;obtain⟨rest,e1,e2⟩:=UY (body:=body) (x:=b) (p:=true::p) (by simp only[node,G,cr]) h;exact⟨rest,by simp only[findLabel,Md A,e1],e2⟩
 | .label j,p,m,G,h=>by
  simp only[YZ]at h;split at h
  .rename_i A;cases h;have:=Afm A;subst this;exact⟨.skip,by simp[findLabel],λh=>At.skip h⟩
  .cases h
theorem Je {l:Nat}{body:Code}:∀{r r':List It},SN body l r=some r'->∃k',gotoIn l (Ea body r)=some k'/\∀{e:Env} {bx:Bx} {Z22:Hp},At g (Ea body r') e bx Z22->At g k' e bx Z22
 | .sc p::r,r',h=>by
  simp only[SN]at h;split at h
  .rename_i m G;cases h;obtain⟨rest,A,e2⟩:=UY (g:=g) rfl G;refine⟨.code rest::.inScope (node body p)::Ea body r,by simp only[Ea,It.den,gotoIn,A],λh=>e2 ?_⟩;rw[UX]at h;exact h
  .rename_i G;obtain⟨k',A,e2⟩:=Je h;exact⟨k',by simp only[Ea,It.den,gotoIn,Md G,A],e2⟩
 | .c p::r,r',h=>by simp only[SN]at h;simp only[Ea,It.den,gotoIn];exact Je h
 | .lp p::r,r',h=>by simp only[SN]at h;simp only[Ea,It.den,gotoIn];exact Je h
 | .FB p::r,r',h=>by simp only[SN]at h;simp only[Ea,It.den,gotoIn];exact Je h
theorem BG (G:c.Ok g fn)(hk:∀k∈cuts,k.Ok g c.body):∀{f:Nat} {first:Bool} {todo:List It} {s:S},FC c cuts f first todo s->At g (Ea c.body todo) (s.e J) s.b s.Z22
 | 0,_,_,_,h=>h.elim
 | f+1,first,todo,s,h=>by
  have hl:∀Z22,left g.ds Z22=Z22:=λZ22=>by rw[G.ds];rfl
  have hmk:Marks g.ds s.Z22:=by rw[G.ds];trivial
  simp only[FC]at h;split at h
  .rename_i k AIT;cases first with
   | true=>cases AIT
   | false=>exact lB hk AIT s J h
  .split at h
   .unfold bY at h;split at h
    .rename_i l lC;rw[G.cx.R]at h;exact At.bZ G.fnc G.res (by rw[hl];exact H6 G.cx.P lC) (by rw[hl];exact h) G.Hy hmk
    .cases h
   .exact At.inBlock (BG G hk h)
   .exact At.inLoop (BG G hk h)
   .exact At.inScope (BG G hk h)
   .rename_i p r _;have e:Ea c.body (.c p::r)=.code (node c.body p)::Ea c.body r:=rfl;rw[e];split at h
    .rename_i A;rw[A];exact At.skip (BG G hk h)
    .rename_i a b A;refine At.seq A ?_;have:=BG G hk h;simp only[Ea,It.den,node,A,cl,cr]at this;exact this
    .rename_i i a A;refine At.block A ?_;have:=BG G hk h;simp only[Ea,It.den,node,A,cl]at this;exact this
    .rename_i a A;refine At.loop A ?_;have:=BG G hk h;simp only[Ea,It.den,node,A,cl]at this;exact this
    .rename_i i A;split at h
     .rename_i r' hr;exact At.exit A (Jd hr) (BG G hk h)
     .cases h
    .rename_i a A;refine At.scope A ?_;have:=BG G hk h;simp only[Ea,It.den,node,A,cl]at this;exact this
    .rename_i l A;rw[A];exact At.label (BG G hk h)
    .rename_i l A;split at h
     .rename_i r' hr;obtain⟨k',e1,e2⟩:=Je (g:=g) hr;exact At.goto A e1 (e2 (BG G hk h))
     .cases h
    .rename_i x a b A;obtain⟨t,s',v,h1,h2,h3,h4,h⟩:=S.Gn h;have hx:AE (s.e J) x=.bool t:=by rw[ev h3,h4]
     have:=BG G hk h;rw[h1.e J,h1.b,h1.Z22]at this;cases t with
     | true=>
      refine At.ABZ A hx ?_;simp only[Ea,It.den,node,A,cl,Bool.not_true]at this;exact this
     | false=>
      refine At.ABa A hx ?_;simp only[Ea,It.den,node,A,cr,Bool.not_false]at this;exact this
    .rename_i A;unfold bY at h;split at h
     .rename_i l lC;rw[G.cx.R]at h;exact At.bY A G.fnc G.res (by rw[hl];exact H6 G.cx.P lC) (by rw[hl];exact h) G.Hy hmk
     .cases h
    .rename_i id ops draw A;rw[A];exact ic G.cx G.mixed h λs' h'=>BG G hk h'
    .cases h
end
def S.oB (s:S):List Nat->Option (List Value)
 | []=>some []
 | t::l=>match YS s.env t,s.oB l with
  | some v,some r=>some (v.den s.vl::r)
  | _,_=>none
theorem XK {s:S}{J:Env}:∀{l:List Nat} {vs:List Value},s.oB l=some vs->Live (s.e J) (l.zip vs)
 | [],vs,h=>by simp only[S.oB,AfL]at h;subst h;trivial
 | t::l,vs,h=>by
  simp only[S.oB]at h;split at h
  .rename_i v r A G;cases h;exact⟨Fb A,XK G⟩
  .cases h
def lD (i:Nat):List Gj->Option (Gj×List Gj)
 | []=>none
 | x::l=>match Nat.beq x.1 i with
  | true=>some (x,l)
  | false=>lD i l
def ABm:Option SV->Option Nat
 | some (.v (.a (.pt (.bx i 0))))=>some i
 | _=>none
def S.Ya (s:S):List Nat->List Gj->Option (List Gj)
 | [],_=>some []
 | t::l,bx=>match ABm (YS s.env t) with
  | some i=>match lD i bx with
   | some (x,r)=>match s.Ya l r with
    | some m=>some (x::m)
    | none=>none
   | none=>none
  | none=>none
def UZ (vl:Vl):List Nat->List Gj->List (Nat×Value)
 | t::l,x::r=>(t,.pointer (some ⟨nth 0 vl.δ x.1,0,none⟩))::UZ vl l r
 | _,_=>[]
theorem XL {vl:Vl}{i:Nat}:∀{l r:List Gj} {x:Gj},lD i l=some (x,r)->x.1=i/\∀m:List Gj,(F1 vl m).Sublist (F1 vl r)->(F1 vl (x::m)).Sublist (F1 vl l)
 | y::l,r,x,h=>by
  simp only[lD]at h;split at h
  .rename_i he;cases h;exact⟨Afm he,λm A=>List.Sublist.cons_cons _ A⟩
  .obtain⟨G,h2⟩:=XL (vl:=vl) h;exact⟨G,λm A=>List.Sublist.cons _ (h2 m A)⟩
theorem cW {s:S}{J:Env}:∀{l:List Nat} {bx B:List Gj},s.Ya l bx=some B->(F1 s.vl B).Sublist (F1 s.vl bx)/\Live (s.e J) (UZ s.vl l B)
 | [],bx,B,h=>by simp only[S.Ya,AfL]at h;subst h;exact⟨List.nil_sublist _,trivial⟩
 | t::l,bx,B,h=>by
  simp only[S.Ya]at h;split at h
  .rename_i i hi;split at h
   .rename_i x r hx;split at h
    .rename_i m hm;cases h;obtain⟨A,G⟩:=XL (vl:=s.vl) hx;obtain⟨h3,h4⟩:=cW (s:=s) (J:=J) hm;refine⟨G m h3,?_,h4⟩;unfold ABm at hi;split at hi
     .rename_i hg;cases hi;rw[A];exact Fb hg
     .cases hi
    .cases h
   .cases h
  .cases h
theorem Live.app {e:Env}:∀{l m:List (Nat×Value)},Live e l->Live e m->Live e (l++m)
 | [],_,_,h=>h
 | (_,_)::_,_,h,g=>⟨h.1,Live.app h.2 g⟩
theorem At.AIU {g:Gl}{k:List Item}{s:S}{J:Env}{l bl:List Nat}{vs:List Value}{B:List Gj}(h:s.oB l=some vs)(hb:s.Ya bl s.bx=some B)(hk:∀J,At g k (Lm J (UZ s.vl bl B++l.zip vs)) (F1 s.vl B) s.Z22):At g k (s.e J) s.b s.Z22:=by
 obtain⟨A,G⟩:=cW (J:=J) hb;exact At.sub A (At.live (G.app (XK h)) (hk _))
def Ua:Nat->List Value->List (Nat×Value)
 | _,[]=>[]
 | k,v::l=>(k,v)::Ua (k+1) l
theorem Ub {e:Env}:∀{l:List Value} {k:Nat},(∀j v,l[j]?=some v->e (k+j)=v)->Live e (Ua k l)
 | [],_,_=>trivial
 | v::l,k,h=>⟨h 0 v rfl,Ub λj u A=>by rw[show k+1+j=k+(j+1) by omega];exact h (j+1) u (by simpa using A)⟩
theorem Spec.walk {P:Program}{f:FuncId}{fn:Func}{R:Rr}{args:Array Value}{n fuel:Nat}(c:Fx)(cuts:List Cut)(s:S)(hc:c.Ok (Gl.fn P f n R) fn)(hb:fn.body=some c.body)(hnt:fn.ntmps=n)(hn:Nat.ble args.size n=true)
  (hk:∀k∈cuts,k.Ok (Gl.fn P f n R) c.body) (he:IX s.vl s.env=Ua 0 args.toList) (A:s.bx=[]) (h:FC c cuts fuel true [.c []] s):Spec P f args s.Z22 R:=by
 subst hnt;refine Spec.bX hc.fnc hb (Afh hn) λe G=>?_;have hl:Live e (IX s.vl s.env):=by
  rw[he];refine Ub λj v hj=>?_;rw[AfW,G];simp only[AhO];rw[<-Afc,hj];rfl
 have:=BG (J:=e) hc hk h;have KL:s.b=[]:=by rw[S.b,A];rfl
 rw[KL]at this;exact At.live hl this
end Tw
end
section
namespace Tw
open Go
variable [I9]
inductive Dv where
 | I (k:IntKind) (x:Int)
 | B (t:Bool)
 | T (x:ByteArray)
 | L (p:Option Addr) (n c:Nat)
 | Q (p:Option Addr)
 | A (b:Nat)
 | M (x:Option Nat)
 | V (x:Value)
def Dv.den:Dv->Value
 | .I k x=>.int k x
 | .B t=>.bool t
 | .T x=>.string x
 | .L p n c=>.slice p n c
 | .Q p=>.pointer p
 | .A b=>.pointer (some ⟨b,0,none⟩)
 | .M x=>.map x
 | .V x=>x
def cX:List Dv->List Value
 | []=>[]
 | x::l=>x.den::cX l
inductive Dw where
 | o (x:Dv)
 | G (l:List Dv)
 | U (l:List Dv)
 | X (T:TypeId) (l:List Dv)
def Dw.den:Dw->Value
 | .o x=>x.den
 | .G l=>.agg (cX l).toArray
 | .U l=>.tuple (cX l).toArray
 | .X _ _=>undef
structure Nm where
 ρ:List (Option Addr)
 β:List BK
structure Nm.le (n:Nm)(v:Vl):Prop where
 ρ:∀i,i<n.ρ.length->nth none v.ρ i=nth none n.ρ i
 β:∀i,i<n.β.length->nth (.var false) v.β i=nth (.var false) n.β i
def Dv.sym:Dv->Nm->Cr×Nm
 | .I k x,n=>(.int k x,n)
 | .B t,n=>(.bs (US n.β) false,⟨n.ρ,n.β++[.var t]⟩)
 | .T x,n=>(.str x,n)
 | .L p k c,n=>(.sl (.var (US n.ρ)) k c,⟨n.ρ++[p],n.β⟩)
 | .Q p,n=>(.pt (.var (US n.ρ)),⟨n.ρ++[p],n.β⟩)
 | .A b,n=>(.pt (.at b 0),n)
 | .M x,n=>(.mp x,n)
 | .V x,n=>(.raw x,n)
theorem Nm.AIV {n:Nm}{v:Vl}{p:Option Addr}(h:Nm.le ⟨n.ρ++[p],n.β⟩ v):n.le v/\nth none v.ρ (US n.ρ)=p:=by
 refine⟨⟨λi hi=>(h.ρ i (by simp only[Aet];omega)).trans (Mb hi),h.β⟩,?_⟩;rw[Te,h.ρ _ (by simp)];exact Mc
theorem Nm.APp {n:Nm}{v:Vl}{p:BK}(h:Nm.le ⟨n.ρ,n.β++[p]⟩ v):n.le v/\nth (.var false) v.β (US n.β)=p:=by
 refine⟨⟨h.ρ,λi hi=>(h.β i (by simp only[Aet];omega)).trans (Mb hi)⟩,?_⟩;rw[Te,h.β _ (by simp)];exact Mc
theorem Dv.RY {x:Dv}{n:Nm}{v:Vl}(h:(x.sym n).2.le v):(x.sym n).1.den v=x.den/\n.le v:=by
 cases x with
 | B t=>obtain⟨A,G⟩:=Nm.APp h;exact⟨by simp only[Dv.sym,Cr.den,G];rfl,A⟩
 | L p k c=>obtain⟨A,G⟩:=Nm.AIV h;exact⟨by simp only[Dv.sym,Cr.den,PV.den,G];rfl,A⟩
 | Q p=>obtain⟨A,G⟩:=Nm.AIV h;exact⟨by simp only[Dv.sym,Cr.den,PV.den,G];rfl,A⟩
 | _=>exact⟨rfl,h⟩
def cY:List Dv->Nm->List Cr×Nm
 | [],n=>([],n)
 | x::l,n=>match x.sym n with
  | (a,n)=>match cY l n with
   | (r,n)=>(a::r,n)
theorem Tf {v:Vl}:∀{l:List Dv} {n:Nm},(cY l n).2.le v->Bc v (cY l n).1=cX l/\n.le v
 | [],n,h=>⟨rfl,h⟩
 | x::l,n,h=>by
  obtain⟨A,G⟩:=Tf (l:=l) (n:=(x.sym n).2) h;obtain⟨h3,h4⟩:=Dv.RY G;exact⟨by simp only[cY,Bc,cX,h3];rw[<-A],h4⟩
def atoms:List Cr->List Ht
 | []=>[]
 | x::l=>.a x::atoms l
theorem XM {v:Vl}:∀l,Im v (atoms l)=Bc v l
 | []=>rfl
 | x::l=>by simp only[atoms,Im,Bc];rw[XM l];rfl
def Dw.sym:Dw->Nm->SV×Nm
 | .o x,n=>match x.sym n with | (a,n)=>(.v (.a a),n)
 | .G l,n=>match cY l n with | (a,n)=>(.v (.agg a),n)
 | .U l,n=>match cY l n with | (a,n)=>(.Wv (atoms a),n)
 | .X _ _,n=>(.v (.a .un),n)
theorem Dw.RY {x:Dw}{n:Nm}{v:Vl}(h:(x.sym n).2.le v):(x.sym n).1.den v=x.den/\n.le v:=by
 cases x with
 | o x=>exact Dv.RY (x:=x) h
 | G l=>obtain⟨A,h2⟩:=Tf (l:=l) h;exact⟨by simp only[Dw.sym,SV.den,Ht.den,Dw.den];rw[<-A],h2⟩
 | U l=>obtain⟨A,h2⟩:=Tf (l:=l) h;exact⟨by simp only[Dw.sym,SV.den,Dw.den];rw[XM,<-A],h2⟩
 | X T l=>exact⟨rfl,h⟩
abbrev Bv:=Nat×TypeId×List Dv
def TG:List (Nat×Dw)->List (Nat×Value)
 | []=>[]
 | (_,.X _ _)::l=>TG l
 | (t,x)::l=>(t,x.den)::TG l
def RZ:List (Nat×Dw)->Nm->List (Nat×SV)×Nm
 | [],n=>([],n)
 | (_,.X _ _)::l,n=>RZ l n
 | (t,x)::l,n=>match x.sym n with
  | (a,n)=>match RZ l n with
   | (r,n)=>((t,a)::r,n)
theorem Me {v:Vl}:∀{l:List (Nat×Dw)} {n:Nm},(RZ l n).2.le v->IX v (RZ l n).1=TG l/\n.le v
 | [],n,h=>⟨rfl,h⟩
 | (t,.o x)::l,n,h=>by
  obtain⟨A,G⟩:=Me (l:=l) (n:=((Dw.o x).sym n).2) h;obtain⟨h3,h4⟩:=Dw.RY G;exact⟨by simp only[RZ,IX,TG,h3];rw[<-A],h4⟩
 | (t,.G x)::l,n,h=>by
  obtain⟨A,G⟩:=Me (l:=l) (n:=((Dw.G x).sym n).2) h;obtain⟨h3,h4⟩:=Dw.RY G;exact⟨by simp only[RZ,IX,TG,h3];rw[<-A],h4⟩
 | (t,.U x)::l,n,h=>by
  obtain⟨A,G⟩:=Me (l:=l) (n:=((Dw.U x).sym n).2) h;obtain⟨h3,h4⟩:=Dw.RY G;exact⟨by simp only[RZ,IX,TG,h3];rw[<-A],h4⟩
 | (_,.X T x)::l,n,h=>Me (l:=l) (n:=n) h
def NA:List (Nat×Dw)->List Bv->List Bv
 | [],r=>r
 | (t,.X T l)::m,r=>NA m ((t,T,l)::r)
 | _::m,r=>NA m r
def cZ:List Bv->Nat->Nm->List Gj×Nm
 | [],_,n=>([],n)
 | (_,T,l)::m,j,n=>match cY l n with
  | (a,n)=>match cZ m (j+1) n with
   | (r,n)=>((j,T,a)::r,n)
def yt:List Bv->Nat->List (Nat×SV)
 | [],_=>[]
 | (t,_,_)::m,j=>(t,.v (.a (.pt (.bx j 0))))::yt m (j+1)
abbrev Bw:=Nat×TypeId×List Value
def WI:List Bv->List Bw
 | []=>[]
 | (t,T,l)::m=>(t,T,cX l)::WI m
def ij:List Bw->List Nat->List (Nat×Value)
 | (t,_,_)::m,b::δ=>(t,.pointer (some ⟨b,0,none⟩))::ij m δ
 | _,_=>[]
def bxV:List Bw->List Nat->Bx
 | (_,T,l)::m,b::δ=>(b,.cells l.toArray T (0,0))::bxV m δ
 | _,_=>[]
def PB:List Bw->(List Nat->Prop)->Prop
 | [],K=>K []
 | _::m,K=>∀b:Nat,PB m λδ=>K (b::δ)
theorem rr:∀{l:List Bw} {K:List Nat->Prop},PB l K->∀δ,δ.length=l.length->K δ
 | [],K,h,[],_=>h
 | _::m,K,h,b::δ,A=>rr (h b) δ (by simpa using A)
theorem ru:∀{l:List Bw} {K:List Nat->Prop},(∀δ,δ.length=l.length->K δ)->PB l K
 | [],K,h=>h [] rfl
 | _::m,K,h=>λb=>ru λδ A=>h (b::δ) (by simp[A])
def PTv (g:Gl)(A:List Item)(bs:List Bw)(ts:List (Nat×Value))(Z22:Hp):Prop:=
 ∀J:Env,PB bs λδ=>At g A (Lm J (ij bs δ++ts)) (bxV bs δ) Z22
theorem lE {δ0:List Nat}{v:Vl}:∀{m:List Bv} {j:Nat} {n:Nm} {δ:List Nat},δ.length=m.length->(∀i,i<δ.length->nth 0 v.δ (j+i)=nth 0 δ i)->(cZ m j n).2.le v->
  F1 v (cZ m j n).1=bxV (WI m) δ/\IX v (yt m j)=ij (WI m) δ/\n.le v
 | [],j,n,[],_,_,h=>⟨rfl,rfl,h⟩
 | (t,T,l)::m,j,n,b::δ,hl,hd,h=>by
  obtain⟨A,G,h3⟩:=lE (δ0:=δ0) (m:=m) (j:=j+1) (n:=(cY l n).2) (δ:=δ) (by simpa using hl) (λi hi=>by
   have:=hd (i+1) (by simpa using hi);rw[show j+1+i=j+(i+1) by omega];exact this) h
  obtain⟨h4,h5⟩:=Tf h3;have hb:nth 0 v.δ j=b:=hd 0 (by simp);refine⟨?_,?_,h5⟩
  .simp only[cZ,F1,WI,bxV,hb,h4];rw[<-A]
  .simp only[yt,IX,WI,ij,SV.den,Ht.den,Cr.den,PV.den,hb];rw[G]
def rv (D:List (Nat×Dw))(δ:List Nat)(Z22:Hp):S:=match RZ D ⟨[],[]⟩ with
 | (e,n)=>match NA D [] with
  | bs=>match cZ bs 0 n with
   | (x,n)=>⟨yt bs 0++e,x,⟨n.ρ,n.β,δ⟩,Z22⟩
theorem cd {v:Vl}:∀{l m:List (Nat×SV)},IX v (l++m)=IX v l++IX v m
 | [],_=>rfl
 | (t,x)::l,m=>by simp only[Af3,IX];rw[cd]
theorem AES {D:List (Nat×Dw)}{δ:List Nat}{Z22:Hp}{J:Env}(hl:δ.length=(NA D []).length):
  (rv D δ Z22).e J=Lm J (ij (WI (NA D [])) δ++TG D)/\(rv D δ Z22).b=bxV (WI (NA D [])) δ:=by
 have A:(cZ (NA D []) 0 (RZ D ⟨[],[]⟩).2).2.le ⟨(cZ (NA D []) 0 (RZ D ⟨[],[]⟩).2).2.ρ,(cZ (NA D []) 0 (RZ D ⟨[],[]⟩).2).2.β,δ⟩:=⟨λ_ _=>rfl,λ_ _=>rfl⟩;obtain⟨G,h2,h3⟩:=lE (δ0:=[]) (δ:=δ) hl (λi _=>by rw[AfW]) A;obtain⟨h4,_⟩:=Me h3;exact⟨by simp only[rv,S.e,cd];rw[h2,h4],G⟩
def AIW:Nat->Nat->List Bool
 | 0,_=>[]
 | f+1,n=>match Nat.ble n 1 with
  | true=>[]
  | false=>Nat.beq (n%2) 1::AIW f (n/2)
def pth (n:Nat):List Bool:=AIW 400 n
def PR (body:Code):List Bool->List It
 | []=>[]
 | t::p=>match node body p with
  | .seq _ _=>bif t then PR body p else .c (true::p)::PR body p
  | .block i _=>.FB i::PR body p
  | .loop _=>.lp (false::p)::PR body p
  | .scope _=>.sc (false::p)::PR body p
  | _=>PR body p
def tdo (body:Code)(n:Nat):List It:=.c (pth n)::PR body (pth n)
inductive Sh where
 | I (k:IntKind) | B | T | L | Q | A | M | V
inductive Sw where
 | o (x:Sh)
 | G (l:List Sh)
 | U (l:List Sh)
 | X (T:TypeId) (l:List Sh)
abbrev ArS:Sh->Type->Type
 | .I _,C=>Int->C
 | .B,C=>Bool->C
 | .T,C=>ByteArray->C
 | .L,C=>Option Addr->Nat->Nat->C
 | .Q,C=>Option Addr->C
 | .A,C=>Nat->C
 | .M,C=>Option Nat->C
 | .V,C=>Value->C
def AIX {C:Type}:(x:Sh)->(Dv->C)->ArS x C
 | .I k,K=>λx=>K (.I k x)
 | .B,K=>λx=>K (.B x)
 | .T,K=>λx=>K (.T x)
 | .L,K=>λp n c=>K (.L p n c)
 | .Q,K=>λx=>K (.Q x)
 | .A,K=>λx=>K (.A x)
 | .M,K=>λx=>K (.M x)
 | .V,K=>λx=>K (.V x)
abbrev ArL:List Sh->Type->Type
 | [],A=>A
 | x::l,A=>ArS x (ArL l A)
def yu {A:Type}:(l:List Sh)->(List Dv->A)->ArL l A
 | [],K=>K []
 | x::l,K=>AIX x λd=>yu l λr=>K (d::r)
abbrev ArW:Sw->Type->Type
 | .o x,C=>ArS x C
 | .G l,C=>ArL l C
 | .U l,C=>ArL l C
 | .X _ l,C=>ArL l C
def APr {A:Type}:(x:Sw)->(Dw->A)->ArW x A
 | .o x,K=>AIX x λd=>K (.o d)
 | .G l,K=>yu l λd=>K (.G d)
 | .U l,K=>yu l λd=>K (.U d)
 | .X T l,K=>yu l λd=>K (.X T d)
abbrev Ar:List (Nat×Sw)->Type->Type
 | [],A=>A
 | (_,x)::l,A=>ArW x (Ar l A)
def cur {A:Type}:(l:List (Nat×Sw))->(List (Nat×Dw)->A)->Ar l A
 | [],K=>K []
 | (t,x)::l,K=>APr x λd=>cur l λr=>K ((t,d)::r)
structure Fw where
 P:Program
 f:Nat
 fn:Func
 CP:List Nat
 hid:List Nat
 wr:Bool
 reg:List (Nat×Nat×Bool)
 yo:List (Nat×TypeId)
 cuts:List (Nat×List (Nat×Sw))
def Fw.K (M:Fw):Code:=M.fn.body.getD .skip
def Fw.gl (M:Fw)(R:Rr):Gl:=Gl.fn M.P M.f M.fn.ntmps R
def Fw.cx (M:Fw)(R:Rr):Fx:={ P:=M.P,R:=R,CP:=M.CP,hid:=M.hid,wr:=M.wr,n:=M.fn.ntmps,body:=M.K,res:=M.fn.results.toList,reg:=M.reg,yo:=M.yo }
def cm (vl:Vl):List Nat->List Gj->List Bw
 | t::l,x::r=>(t,x.2.1,Bc vl x.2.2)::cm vl l r
 | _,_=>[]
def tmps:List (Nat×Sw)->List Nat
 | []=>[]
 | (_,.X _ _)::l=>tmps l
 | (t,_)::l=>t::tmps l
def ry:List (Nat×Sw)->List Nat->List Nat
 | [],r=>r
 | (t,.X _ _)::l,r=>ry l (t::r)
 | _::l,r=>ry l r
def Fw.cut (M:Fw)(R:Rr)(c:Nat×List (Nat×Sw)):Cut:=⟨tdo M.K c.1,λs=>match s.oB (tmps c.2),s.Ya (ry c.2 []) s.bx with
 | some vs,some B=>PTv (M.gl R) (Ea M.K (tdo M.K c.1)) (cm s.vl (ry c.2 []) B) ((tmps c.2).zip vs) s.Z22
 | _,_=>False⟩
def cp (M:Fw)(R:Rr):List (Nat×List (Nat×Sw))->List Cut
 | []=>[]
 | c::l=>M.cut R c::cp M R l
def Fw.ptD (M:Fw)(at_:Nat)(R:Rr)(D:List (Nat×Dw))(Z22:Hp):Prop:=PTv (M.gl R) (Ea M.K (tdo M.K at_)) (WI (NA D [])) (TG D) Z22
noncomputable def Fw.pt (M:Fw)(i:Nat)(R:Rr):Ar (nth (0,[]) M.cuts i).2 (Hp->Prop):=cur (nth (0,[]) M.cuts i).2 (M.ptD (nth (0,[]) M.cuts i).1 R)
structure Fw.Ok (M:Fw):Prop where
 E:AN M.P M.CP
 mixed:M.P.follows .mixedOrders=true
 fnc:M.P.funcs[M.f]?=some M.fn
 body:M.fn.body.isSome=true
theorem Fw.ABn {M:Fw}{R:Rr}(h:M.Ok):(M.cx R).Ok (M.gl R) M.fn:=⟨⟨rfl,rfl,h.E,rfl,rfl,rfl⟩,h.mixed,h.fnc,rfl,rfl,rfl⟩
theorem cu {vl:Vl}:∀{l:List Nat} {B:List Gj},∃δ:List Nat,δ.length=(cm vl l B).length/\ij (cm vl l B) δ=UZ vl l B/\(l.length=B.length->bxV (cm vl l B) δ=F1 vl B)
 | [],[]=>⟨[],rfl,rfl,λ_=>rfl⟩
 | [],_::_=>⟨[],rfl,rfl,λh=>by simp at h⟩
 | _::_,[]=>⟨[],rfl,rfl,λh=>by simp at h⟩
 | t::l,(i,T,cs)::B=>by
  obtain⟨δ,A,G,h3⟩:=cu (vl:=vl) (l:=l) (B:=B);exact⟨nth 0 vl.δ i::δ,by simp[cm,A],by simp only[cm,ij,UZ];rw[G],λh=>by simp only[cm,bxV,F1];rw[h3 (by simpa using h)]⟩
theorem cw {s:S}:∀{l:List Nat} {bx B:List Gj},s.Ya l bx=some B->l.length=B.length
 | [],bx,B,h=>by simp only[S.Ya,AfL]at h;subst h;rfl
 | t::l,bx,B,h=>by
  simp only[S.Ya]at h;split at h
  .split at h
   .split at h
    .rename_i m A;cases h;simp[cw A]
    .cases h
   .cases h
  .cases h
theorem Fw.AEU (M:Fw)(R:Rr)(c:Nat×List (Nat×Sw)):(M.cut R c).Ok (M.gl R) M.K:=λs J h=>by
 simp only[Fw.cut]at h;split at h
 .rename_i vs B h1 A;obtain⟨δ,G,e2,e3⟩:=cu (vl:=s.vl) (l:=ry c.2 []) (B:=B);refine At.AIU h1 A λJ=>?_;have:=rr (h J) δ G;rw[e2,e3 (cw A)]at this;exact this
 .cases h
theorem Yb {M:Fw}{R:Rr}:∀{l:List (Nat×List (Nat×Sw))},∀k∈cp M R l,k.Ok (M.gl R) M.K
 | c::l,k,A=>by
  rcases Ae5.1 A with rfl|A
  .exact M.AEU R c
  .exact Yb k A
theorem cy:∀{l:List Bv},(WI l).length=l.length
 | []=>rfl
 | _::m=>by simp only[WI,Aez];rw[cy]
def PX (F:Prop):List Bv->(List Nat->Prop)->Prop
 | [],K=>F=K []
 | _::m,K=>∀b:Nat,PX F m λδ=>K (b::δ)
theorem rz {F:Prop}(h:F):∀{l:List Bv} {K:List Nat->Prop},PX F l K->∀δ,δ.length=l.length->K δ
 | [],K,e,[],_=>e▸h
 | _::m,K,e,b::δ,A=>rz h (e b) δ (by simpa using A)
theorem Fw.ofB {M:Fw}{R:Rr}{at_:Nat}{D:List (Nat×Dw)}{Z22:Hp}{F:Prop}(h:F)(ok:M.Ok)(e:PX F (NA D []) λδ=>FC (M.cx R) (cp M R M.cuts) 4000 true (tdo M.K at_) (rv D δ Z22)):M.ptD at_ R D Z22:=λJ=>by
 refine ru λδ A=>?_;rw[cy]at A;have:=BG (J:=J) (Fw.ABn ok) Yb (rz h e δ A);obtain⟨G,e2⟩:=AES (D:=D) (Z22:=Z22) (J:=J) A;rw[G,e2]at this;exact this
theorem Fw.of {M:Fw}{R:Rr}{at_:Nat}{D:List (Nat×Dw)}{Z22:Hp}{F:Prop}(h:F)(ok:M.Ok)(hb:NA D []=[])(e:F=FC (M.cx R) (cp M R M.cuts) 4000 true (tdo M.K at_) (rv D [] Z22):=by kernel_rfl):M.ptD at_ R D Z22:=
 M.ofB h ok (by rw[hb];exact e)
theorem Fw.gB {M:Fw}{R:Rr}{at_:Nat}{D:List (Nat×Dw)}{Z22:Hp}{F:Prop}{x1:Bv}(h:F)(ok:M.Ok)(hb:NA D []=[x1])(e:∀b1:Nat,F=FC (M.cx R) (cp M R M.cuts) 4000 true (tdo M.K at_) (rv D [b1] Z22)):M.ptD at_ R D Z22:=
 M.ofB h ok (by rw[hb];exact e)
theorem Fw.of2 {M:Fw}{R:Rr}{at_:Nat}{D:List (Nat×Dw)}{Z22:Hp}{F:Prop}{x1 x2:Bv}(h:F)(ok:M.Ok)(hb:NA D []=[x1,x2])(e:∀b1 b2:Nat,F=FC (M.cx R) (cp M R M.cuts) 4000 true (tdo M.K at_) (rv D [b1,b2] Z22)):M.ptD at_ R D Z22:=
 M.ofB h ok (by rw[hb];exact e)
def AEV:Value->Dv
 | .int k x=>.I k x
 | .bool t=>.B t
 | .string x=>.T x
 | .slice p n c=>.L p n c
 | .pointer p=>.Q p
 | .map x=>.M x
 | x=>.V x
theorem cz (x:Value):(AEV x).den=x:=by cases x<;>rfl
def lF:List Value->List Dv
 | []=>[]
 | x::l=>AEV x::lF l
theorem XN:∀l:List Value,cX (lF l)=l
 | []=>rfl
 | x::l=>by simp only[lF,cX];rw[cz,XN]
def oC:Value->Dw
 | .agg cs=>.G (lF cs.toList)
 | x=>.o (AEV x)
theorem r4 (x:Value):(oC x).den=x:=by
 cases x
 case agg cs=>simp only[oC,Dw.den,XN]
 all_goals (simp only[oC,Dw.den];exact cz _)
def r5:Value->Dw
 | .pointer (some ⟨b,0,none⟩)=>.o (.A b)
 | x=>.o (.V x)
theorem r6 (x:Value):(r5 x).den=x:=by
 unfold r5;split<;>rfl
def oD (np:Nat):Nat->List Value->List (Nat×Dw)
 | _,[]=>[]
 | k,x::l=>match Nat.blt k np with
  | true=>(k,oC x)::oD np (k+1) l
  | false=>(k,r5 x)::oD np (k+1) l
theorem r7 (x:Value):(∃y,oC x=.o y)\/∃y,oC x=.G y:=by cases x<;>first|exact .inr ⟨_,rfl⟩|exact .inl ⟨_,rfl⟩
theorem r9 (x:Value):∃y,r5 x=.o y:=by unfold r5;split<;>exact⟨_,rfl⟩
theorem Yc {np:Nat}:∀{l:List Value} {k:Nat},TG (oD np k l)=Ua k l/\NA (oD np k l) []=[]
 | [],_=>⟨rfl,rfl⟩
 | x::l,k=>by
  obtain⟨G,h2⟩:=Yc (np:=np) (l:=l) (k:=k+1);simp only[oD];split
  .have hd:=r4 x;rcases r7 x with ⟨y,A⟩|⟨y,A⟩<;>rw[A]at hd ⊢<;>exact⟨by simp only[TG,Ua];rw[hd,G],h2⟩
  .have hd:=r6 x;obtain⟨y,A⟩:=r9 x;rw[A]at hd ⊢;exact⟨by simp only[TG,Ua];rw[hd,G],h2⟩
def Fw.run (M:Fw)(R:Rr)(k:Nat)(D:List (Nat×Dw))(Z22:Hp):Prop:=match Nat.ble k M.fn.ntmps with
 | true=>FC (M.cx R) (cp M R M.cuts) 4000 true [.c []] (rv D [] Z22)
 | false=>False
theorem Fw.F5 {M:Fw}{R:Rr}{args:Array Value}{Z22:Hp}{F:Prop}(h:F)(ok:M.Ok)(D:List (Nat×Dw))(G:NA D []=[])(hD:TG D=Ua 0 args.toList)(e:F=M.run R args.size D Z22):Spec M.P M.f args Z22 R:=by
 subst e;unfold Fw.run at h;split at h
 case h_2=>exact h.elim
 rename_i hn;obtain⟨fb,hb⟩:=AgH.1 ok.body;refine Spec.walk (c:=M.cx R) (cuts:=cp M R M.cuts) (s:=rv D [] Z22) (fuel:=4000) (Fw.ABn ok) ?_ rfl hn Yb ?_ ?_ h
 .show M.fn.body=some (M.fn.body.getD .skip)
  rw[hb];rfl
 .obtain⟨A,_⟩:=Me (l:=D) (n:=⟨[],[]⟩) (v:=⟨(RZ D ⟨[],[]⟩).2.ρ,(RZ D ⟨[],[]⟩).2.β,[]⟩) ⟨λ_ _=>rfl,λ_ _=>rfl⟩;rw[hD]at A;simp only[rv,G];exact A
 .simp only[rv,G];rfl
theorem Fw.start {M:Fw}{R:Rr}{args:Array Value}{Z22:Hp}{F:Prop}(h:F)(ok:M.Ok)(e:F=M.run R args.size (oD M.fn.params.size 0 args.toList) Z22:=by kernel_rfl):Spec M.P M.f args Z22 R:=
 M.F5 h ok _ Yc.2 Yc.1 e
abbrev wI:Sw:=.o (.I .i64)
abbrev wU:Sw:=.o (.I .u64)
abbrev w8:Sw:=.o (.I .u8)
abbrev w32:Sw:=.o (.I .u32)
abbrev wB:Sw:=.o .B
abbrev wT:Sw:=.o .T
abbrev wL:Sw:=.o .L
abbrev wQ:Sw:=.o .Q
abbrev wA:Sw:=.o .A
abbrev wM:Sw:=.o .M
abbrev wV:Sw:=.o .V
abbrev aD (b o:Nat):Option Addr:=some ⟨b,o,none⟩
theorem NW {p:Option Addr}{b o:Nat}(h:p=some ⟨b,o,none⟩):aD b o=p:=h.symm
abbrev Br (p A B:Prop):Prop:=(p->A)/\(¬p->B)
abbrev Bo (t:Bool)(A B:Prop):Prop:=(t=true->A)/\(t=false->B)
abbrev Bn (t:Bool)(A B:Prop):Prop:=(t=false->A)/\(t=true->B)
abbrev Pq (p:Option Addr)(K:Nat->Nat->Prop):Prop:=∃b o:Nat,p=some ⟨b,o,none⟩/\K b o
abbrev In (x n:Int):Prop:=(0:Int)<=x/\x<n
abbrev Df (r:Int)(K:Int->Prop):Prop:=∀x:Int,x=r->K x
abbrev Al (Z22:Hp)(K:Nat->Prop):Prop:=∀b:Nat,Z22 b=none->K b
abbrev LI (k:IntKind)(Z22:Hp)(b o:Nat)(K:Int->Prop):Prop:=∃x:Int,Hp.ld Z22 ⟨b,o,none⟩=some (.int k x)/\K x
abbrev LB (Z22:Hp)(b o:Nat)(K:Bool->Prop):Prop:=∃x:Bool,Hp.ld Z22 ⟨b,o,none⟩=some (.bool x)/\K x
abbrev LT (Z22:Hp)(b o:Nat)(K:ByteArray->Prop):Prop:=∃x:ByteArray,Hp.ld Z22 ⟨b,o,none⟩=some (.string x)/\K x
abbrev LQ (Z22:Hp)(b o:Nat)(K:Option Addr->Prop):Prop:=∃x:Option Addr,Hp.ld Z22 ⟨b,o,none⟩=some (.pointer x)/\K x
abbrev LM (Z22:Hp)(b o:Nat)(K:Option Nat->Prop):Prop:=∃x:Option Nat,Hp.ld Z22 ⟨b,o,none⟩=some (.map x)/\K x
abbrev LS (Z22:Hp)(b o:Nat)(K:Option Addr->Nat->Nat->Prop):Prop:=∃p:Option Addr,∃n:Nat,∃c:Nat,Hp.ld Z22 ⟨b,o,none⟩=some (.slice p n c)/\K p n c
abbrev CI (k:IntKind)(K:Int->Hp->Prop):Value->Hp->Prop:=λv Z22=>∃x:Int,v=.int k x/\K x Z22
abbrev CB (K:Bool->Hp->Prop):Value->Hp->Prop:=λv Z22=>∃x:Bool,v=.bool x/\K x Z22
abbrev CT (K:ByteArray->Hp->Prop):Value->Hp->Prop:=λv Z22=>∃x:ByteArray,v=.string x/\K x Z22
abbrev CQ (K:Option Addr->Hp->Prop):Value->Hp->Prop:=λv Z22=>∃x:Option Addr,v=.pointer x/\K x Z22
abbrev CM (K:Option Nat->Hp->Prop):Value->Hp->Prop:=λv Z22=>∃x:Option Nat,v=.map x/\K x Z22
abbrev CS (K:Option Addr->Nat->Nat->Hp->Prop):Value->Hp->Prop:=λv Z22=>∃p:Option Addr,∃n:Nat,∃c:Nat,v=.slice p n c/\K p n c Z22
end Tw
end
section
namespace TwW
open Go Tw
def sA (x:Bool):Int:=if x then 1 else 0
def bt (l:List Bool)(j:Nat):Int:=match l[j]? with
 | some x=>sA x
 | none=>0
def RE (l:List Bool)(i:Nat):Int:=bt l (8*i)*128+bt l (8*i+1)*64+bt l (8*i+2)*32+bt l (8*i+3)*16+bt l (8*i+4)*8+bt l (8*i+5)*4+bt l (8*i+6)*2+bt l (8*i+7)
def JP (l:List Bool):List Int:=(List.range ((l.length+7)/8)).map (RE l)
theorem AEW (x:Bool):0<=sA x/\sA x<=1:=by cases x<;>decide
theorem EO (l:List Bool)(j:Nat):0<=bt l j/\bt l j<=1:=by
 unfold bt;split
 .exact AEW _
 .decide
theorem JG {l:List Bool}{j:Nat}(h:l.length<=j):bt l j=0:=by unfold bt;rw[Afq h]
theorem Ye (l:List Bool)(x:Bool)(j:Nat):bt (l++[x]) j=if j=l.length then sA x else bt l j:=by
 unfold bt;by_cases h:j=l.length
 .subst h;rw[Aex rfl,AfJ (Ae1 _),AgB];rfl
 .rw[Aeu h];by_cases A:j<l.length
  .rw[Ae8 A]
  .rw[Afq (by rw[Aet,AfD];omega),Afq (by omega)]
theorem SO {l:List Bool}{x:Bool}{j:Nat}(h:j≠l.length):bt (l++[x]) j=bt l j:=by rw[Ye,Aeu h]
theorem sB (l:List Bool)(j:Nat):bt (l++[false]) j=bt l j:=by
 rw[Ye];by_cases h:j=l.length
 .rw[Aex h,JG (by omega)];rfl
 .rw[Aeu h]
theorem Yf (l:List Bool)(i:Nat):0<=RE l i/\RE l i<=255:=by
 unfold RE;have A:=EO l (8*i);have G:=EO l (8*i+1);have h2:=EO l (8*i+2);have h3:=EO l (8*i+3);have h4:=EO l (8*i+4);have h5:=EO l (8*i+5);have h6:=EO l (8*i+6);have h7:=EO l (8*i+7);omega
theorem Jf (l:List Bool)(i:Nat):RE (l++[false]) i=RE l i:=by
 unfold RE;simp only[sB]
theorem AEX {l:List Bool}{x:Bool}{i:Nat}(h:i≠l.length/8):RE (l++[x]) i=RE l i:=by
 unfold RE;rw[SO (by omega),SO (by omega),SO (by omega),SO (by omega),SO (by omega),SO (by omega),SO (by omega),SO (by omega)]
theorem FM (l:List Bool):(JP l).length=(l.length+7)/8:=by unfold JP;rw[AfO,List.length_range]
theorem Yg {l:List Bool}{i:Nat}(h:i<(l.length+7)/8):(JP l)[i]?=some (RE l i):=by
 unfold JP;rw[AfZ,List.getElem?_range h];rfl
theorem sC {l:List Bool}(h:l.length%8=0):JP l++[0]=JP (l++[false]):=by
 unfold JP;have A:(l.length+7)/8=l.length/8:=by omega
 have e2:((l++[false]).length+7)/8=l.length/8+1:=by rw[Aet,AfD];omega
 rw[A,e2,List.range_succ,AfF]
 congr 1
 .exact Af8 λi _=>(Jf l i).symm
 .rw[Ah5,Jf];unfold RE;rw[JG (by omega),JG (by omega),JG (by omega),JG (by omega),JG (by omega),JG (by omega),JG (by omega),JG (by omega)];rfl
theorem sD {l:List Bool}(h:l.length%8≠0):JP l=JP (l++[false]):=by
 unfold JP;have e2:((l++[false]).length+7)/8=(l.length+7)/8:=by rw[Aet,AfD];omega
 rw[e2];exact Af8 λi _=>(Jf l i).symm
theorem yw (l:List Bool)(x:Bool):(JP (l++[false])).set (l.length/8) (RE (l++[x]) (l.length/8))=JP (l++[x]):=by
 refine Afo λi=>?_;have A:∀y:Bool,((l++[y]).length+7)/8=l.length/8+1:=λy=>by rw[Aet,AfD];omega
 rw[AgN,FM,A];by_cases h1:i<l.length/8+1
 .rw[Yg (by rw[A];exact h1),Yg (by rw[A];exact h1)];by_cases G:l.length/8=i
  .rw[Aex G,Aex (by omega),G]
  .rw[Aeu G,Jf,AEX (AfT G)]
 .rw[Aeu (by omega),Afq (by rw[FM,A];omega),Afq (by rw[FM,A];omega)]
set_option maxRecDepth 100000 in
theorem AEY:∀(r:Fin 8) (m:Fin 256) (x:Fin 2),m.1%2^(8-r.1)=0->Go.bits .or .u8 (m.1:Int) (IntKind.u8.wrap ((x.1:Int)*2^(7-r.1)))=(m.1:Int)+(x.1:Int)*2^(7-r.1):=by decide +kernel
theorem AEZ (l:List Bool)(x:Bool):Go.bits .or .u8 (RE (l++[false]) (l.length/8)) (IntKind.u8.wrap (sA x*2^(7-l.length%8)))=RE (l++[x]) (l.length/8):=by
 rw[Jf];obtain⟨m,G⟩:∃m:Nat,RE l (l.length/8)=(m:Int):=⟨(RE l (l.length/8)).toNat,by have:=Yf l (l.length/8);omega⟩;have WJ:m<256:=by have:=Yf l (l.length/8);omega
 obtain⟨y,hy,oE⟩:∃y:Nat,sA x=(y:Int)/\y<2:=by
  cases x
  .exact⟨0,rfl,by decide⟩
  .exact⟨1,rfl,by decide⟩
 have hr:l.length%8<8:=AhA _ (by decide);have A:∀k,l.length<=k->bt l k=0:=λk hk=>JG hk;have hs:∀k,bt (l++[x]) k=if k=l.length then(y:Int) else bt l k:=λk=>by rw[Ye,hy]
 have i0:=EO l (8*(l.length/8));have i1:=EO l (8*(l.length/8)+1);have i2:=EO l (8*(l.length/8)+2);have i3:=EO l (8*(l.length/8)+3);have i4:=EO l (8*(l.length/8)+4);have i5:=EO l (8*(l.length/8)+5);have i6:=EO l (8*(l.length/8)+6);have key:m%2^(8-l.length%8)=0/\RE (l++[x]) (l.length/8)=(m:Int)+(y:Int)*2^(7-l.length%8):=by
  rw[<-G];unfold RE at G ⊢;simp only[hs];generalize hN:l.length/8=N at *;generalize hR:l.length%8=r at *;have hl:l.length=8*N+r:=by omega
  rw[hl]at A ⊢
  match r,hr with
  | 0,_=>
   rw[A (8*N) (by omega),A (8*N+1) (by omega),A (8*N+2) (by omega),A (8*N+3) (by omega),A (8*N+4) (by omega),A (8*N+5) (by omega),A (8*N+6) (by omega),A (8*N+7) (by omega)]at G ⊢;rw[Aex (by omega),Aeu (by omega),Aeu (by omega),Aeu (by omega),Aeu (by omega),Aeu (by omega),Aeu (by omega),Aeu (by omega)];exact⟨by omega,by omega⟩
  | 1,_=>
   rw[A (8*N+1) (by omega),A (8*N+2) (by omega),A (8*N+3) (by omega),A (8*N+4) (by omega),A (8*N+5) (by omega),A (8*N+6) (by omega),A (8*N+7) (by omega)]at G ⊢;rw[Aeu (by omega),Aex (by omega),Aeu (by omega),Aeu (by omega),Aeu (by omega),Aeu (by omega),Aeu (by omega),Aeu (by omega)];exact⟨by omega,by omega⟩
  | 2,_=>
   rw[A (8*N+2) (by omega),A (8*N+3) (by omega),A (8*N+4) (by omega),A (8*N+5) (by omega),A (8*N+6) (by omega),A (8*N+7) (by omega)]at G ⊢;rw[Aeu (by omega),Aeu (by omega),Aex (by omega),Aeu (by omega),Aeu (by omega),Aeu (by omega),Aeu (by omega),Aeu (by omega)];exact⟨by omega,by omega⟩
  | 3,_=>
   rw[A (8*N+3) (by omega),A (8*N+4) (by omega),A (8*N+5) (by omega),A (8*N+6) (by omega),A (8*N+7) (by omega)]at G ⊢;rw[Aeu (by omega),Aeu (by omega),Aeu (by omega),Aex (by omega),Aeu (by omega),Aeu (by omega),Aeu (by omega),Aeu (by omega)];exact⟨by omega,by omega⟩
  | 4,_=>
   rw[A (8*N+4) (by omega),A (8*N+5) (by omega),A (8*N+6) (by omega),A (8*N+7) (by omega)]at G ⊢;rw[Aeu (by omega),Aeu (by omega),Aeu (by omega),Aeu (by omega),Aex (by omega),Aeu (by omega),Aeu (by omega),Aeu (by omega)];exact⟨by omega,by omega⟩
  | 5,_=>
   rw[A (8*N+5) (by omega),A (8*N+6) (by omega),A (8*N+7) (by omega)]at G ⊢;rw[Aeu (by omega),Aeu (by omega),Aeu (by omega),Aeu (by omega),Aeu (by omega),Aex (by omega),Aeu (by omega),Aeu (by omega)];exact⟨by omega,by omega⟩
  | 6,_=>
   rw[A (8*N+6) (by omega),A (8*N+7) (by omega)]at G ⊢;rw[Aeu (by omega),Aeu (by omega),Aeu (by omega),Aeu (by omega),Aeu (by omega),Aeu (by omega),Aex (by omega),Aeu (by omega)];exact⟨by omega,by omega⟩
  | 7,_=>
   rw[A (8*N+7) (by omega)]at G ⊢;rw[Aeu (by omega),Aeu (by omega),Aeu (by omega),Aeu (by omega),Aeu (by omega),Aeu (by omega),Aeu (by omega),Aex (by omega)];exact⟨by omega,by omega⟩
 rw[G,hy,key.2];exact AEY ⟨l.length%8,hr⟩ ⟨m,WJ⟩ ⟨y,oE⟩ key.1
def Du (v:Nat):Nat->List Bool
 | 0=>[]
 | w+1=>decide (v/2^w%2=1)::Du v w
theorem Bz (v:Nat):∀w,(Du v w).length=w
 | 0=>rfl
 | w+1=>by rw[Du,Aez,Bz v w]
def dA (l:List Bool):Nat:=l.foldl (λa x=>2*a+if x then 1 else 0) 0
theorem sE (l:List Bool)(x:Bool):dA (l++[x])=2*dA l+if x then 1 else 0:=by unfold dA;rw[Agi];rfl
theorem Yh (v:Nat):∀(w:Nat) (a:Nat),(Du v w).foldl (λa x=>2*a+if x then 1 else 0) a=a*2^w+v%2^w
 | 0,a=>by simp[Du,Ahz]
 | w+1,a=>by
  rw[Du,AgT,Yh v w];have G:v%2^(w+1)=(v/2^w%2)*2^w+v%2^w:=by
   rw[AgP,Aic];rw[AgK (2^w)];omega
  rw[G,AgP];have A:v/2^w%2=0\/v/2^w%2=1:=by omega
  rcases A with A|A
  .rw[A,Aeu (by decide)];simp only[AgZ,AgY,AfW];rw[AgK (2^w) 2,<-AhS,AgK 2 a]
  .rw[A,Aex (by decide),Afn,Aia,AgK (2^w) 2,<-AhS,AgK 2 a];omega
theorem yx {v w:Nat}(h:v<2^w):dA (Du v w)=v:=by
 unfold dA;rw[Yh,AgZ,AfW,AfY h]
end TwW
end
section
namespace Tw
open Go Go.RowKit Go.ChangeShapes Go.WideShapes Go.Deep
def full (w:World):Hp:=λb=>w.heap[b]?
theorem sF (w:World):Sat (full w) w:=λ_ _ h=>h
theorem lG {w:World}{a:Addr}{v:Value}(h:w.cell? a=some v):(full w).ld a=some v:=h
theorem sG {w A:World}{Z'2:Hp}(hx:Ext (full w) Z'2)(hs:Sat Z'2 A)(ho:Gi w A)(Hh:A.output=w.output)(hg:w.heap.size<=A.heap.size):Below w.heap.size w A:=
 ⟨ho.1,ho.2.1,Hh,hg,λk hk=>by
  have G:w.heap[k]?=some w.heap[k]:=AiK hk;rw[G];exact hs _ _ (hx _ _ G)⟩
def Lawful (P:Program)(f:FuncId)(args:Array Value)(w:World):Prop:=Spec P f args (full w) (λe Z'2=>e=.returned (.bool true)/\Ext (full w) Z'2)
theorem Lawful.calls {P:Program}{f:FuncId}{args:Array Value}{w:World}(h:Lawful P f args w):Calls P f args w λe G=>e=.returned (.bool true)/\Below w.heap.size w G:=
 (h w (λ_=>False) (sF w) (λ_ h=>h.elim)).mono λe G ⟨Z'2,⟨he,hx⟩,A⟩=>⟨he,sG hx A.sat A.os A.out A.grow⟩
section
variable {H:Type}{enc:TypeId×Value->H}{P:Program}
theorem NY (hl:laidOutB P=true){W W':World}(hb:Below W.heap.size W W'):∀{ts:List TypeId} {vs:List Value} {ds:List (DataW H)} {ps:List MemPlace},(ts.all λt=>P.readableRec t&&Nat.blt t P.types.size)=true->(∀x∈ps,x.block<W.heap.size)->
  DataW.TrodAll enc P W 0 (λ_=>true) true ts vs ds ps->DataW.TrodAll enc P W' 0 (λb=>decide (b<W.heap.size)) true ts vs ds ps
 | [],[],[],ps,_,_,h=>h
 | t::ts,v::vs,d::ds,ps,A,Aq,⟨p,q,h1,h2,e⟩=>by
  simp only[Agw,AfH]at A;subst e;exact⟨p,q,Below.trod hl A.1.1 (Afh A.1.2) h1 hb (λx G=>Aq x (Afk _ G)),NY hl hb A.2 (λx G=>Aq x (Afs _ G)) h2,rfl⟩
 | [],_::_,_,_,_,_,h=>h.elim
 | [],[],_::_,_,_,_,h=>h.elim
 | _::_,[],_,_,_,_,h=>h.elim
 | _::_,_::_,[],_,_,_,h=>h.elim
theorem sH {f:Func}{s:ChangeSpec}{W W':World}{args:Array Value}{ds gs:List (DataW H)}{A:List MemPlace}{tb:TypeId}(hl:laidOutB P=true)(hr:(f.params.toList.all λt=>P.readableRec t&&Nat.blt t P.types.size)=true)
  (hrt:f.resultTypes=#[tb]) (htb:P.underlying tb=some .bool) (hv:s.vars=[]) (Tz:(s.fn H (ds++gs)).results=[.lit (.bool true)]/\(s.fn H (ds++gs)).args=ds/\(s.fn H (ds++gs)).vars=[])
  (hW:DataW.Whole enc P f.params.toList s.vars false W args.toList ds gs A) (hb:Below W.heap.size W W'):s.post enc P f false true false false W args (.bool true) W':=by
 have Aq:∀p∈A,p.block<W.heap.size:=λp hp=>hW.lt p hp;have hW':=hW;obtain⟨p,q,hA,hV,rfl,hfz,_⟩:=hW';refine⟨ds,gs,p++q,[],p,[],hW,?_,?_,?_,World.keptBut_mono (λx G=>⟨G,?_⟩) (hb.frame (·∈p++q)),λh=>by cases h⟩
 .rw[Tz.1,hrt];exact trodAll_mk1 (shut_bool htb true)
 .rw[Tz.2.1];exact NY hl hb hr (λx G=>Aq x (Afk _ G)) hA
 .rw[Tz.2.2,hv];rfl
 .rw[hv]at hV;have:q=[]:=by
   cases gs with
   | nil=>exact hV
   | cons _ _=>exact hV.elim
  subst this;exact .inr (.inl (by simpa using G))
theorem Bm.snoc {Z22:Hp}{b:Nat}:∀{l m:List Value} {o:Nat},Bm Z22 b o l->Bm Z22 b (o+l.length) m->Bm Z22 b o (l++m)
 | [],m,o,_,h=>by simpa using h
 | v::l,m,o,h,A=>⟨h.1,Bm.snoc h.2 (by simpa[AgJ,Nat.add_comm 1] using A)⟩
theorem oF {w:World}{a:Addr}{v:Value}(h:w.cell? a=some v):a.spot=none:=by
 unfold World.cell? at h;split at h
 .split at h
  .cases h
  .rename_i A;simpa using A
 .cases h
end
end Tw
end
section
set_option maxRecDepth 100000
noncomputable section
namespace TwW
open Go Tw Go.Proofs.Tryz
variable [I9]{R:Rr}{Z22:Hp}
noncomputable abbrev prog:Program:=Go.Proofs.Tryz.prog
theorem mixed:Go.Proofs.Tryz.prog.follows .mixedOrders=true:=by kernel_rfl
instance:MZ Go.Proofs.Tryz.prog 22 53 3 40:=⟨Go.Proofs.Tryz.underlying22,⟨Go.Proofs.Tryz.t53,_,by kernel_rfl,rfl,rfl,rfl,rfl⟩,by decide,by decide⟩
instance:MZ Go.Proofs.Tryz.prog 24 31 3 40:=⟨Go.Proofs.Tryz.underlying24,⟨Go.Proofs.Tryz.t31,_,by kernel_rfl,rfl,rfl,rfl,rfl⟩,by decide,by decide⟩
instance:MZ Go.Proofs.Tryz.prog 29 70 1 4:=⟨Go.Proofs.Tryz.underlying29,⟨Go.Proofs.Tryz.t70,_,by kernel_rfl,rfl,rfl,rfl,rfl⟩,by decide,by decide⟩
instance:MZ Go.Proofs.Tryz.prog 40 3 1 8:=⟨Go.Proofs.Tryz.underlying40,⟨Go.Proofs.Tryz.t3,_,by kernel_rfl,rfl,rfl,rfl,rfl⟩,by decide,by decide⟩
instance:MZ Go.Proofs.Tryz.prog 44 63 2 48:=⟨Go.Proofs.Tryz.underlying44,⟨Go.Proofs.Tryz.t63,_,by kernel_rfl,rfl,rfl,rfl,rfl⟩,by decide,by decide⟩
instance:MZ Go.Proofs.Tryz.prog 48 22 1 24:=⟨Go.Proofs.Tryz.underlying48,⟨Go.Proofs.Tryz.t22,_,by kernel_rfl,rfl,rfl,rfl,rfl⟩,by decide,by decide⟩
instance:MZ Go.Proofs.Tryz.prog 49 2 1 8:=⟨Go.Proofs.Tryz.underlying49,⟨Go.Proofs.Tryz.t2,_,by kernel_rfl,rfl,rfl,rfl,rfl⟩,by decide,by decide⟩
instance:MZ Go.Proofs.Tryz.prog 51 95 2 32:=⟨Go.Proofs.Tryz.underlying51,⟨Go.Proofs.Tryz.t95,_,by kernel_rfl,rfl,rfl,rfl,rfl⟩,by decide,by decide⟩
instance:MZ Go.Proofs.Tryz.prog 61 66 2 16:=⟨Go.Proofs.Tryz.underlying61,⟨Go.Proofs.Tryz.t66,_,by kernel_rfl,rfl,rfl,rfl,rfl⟩,by decide,by decide⟩
instance:MZ Go.Proofs.Tryz.prog 72 79 1 24:=⟨Go.Proofs.Tryz.underlying72,⟨Go.Proofs.Tryz.t79,_,by kernel_rfl,rfl,rfl,rfl,rfl⟩,by decide,by decide⟩
instance:MZ Go.Proofs.Tryz.prog 79 5 1 1:=⟨Go.Proofs.Tryz.underlying79,⟨Go.Proofs.Tryz.t5,_,by kernel_rfl,rfl,rfl,rfl,rfl⟩,by decide,by decide⟩
instance:MZ Go.Proofs.Tryz.prog 81 9 1 16:=⟨Go.Proofs.Tryz.underlying81,⟨Go.Proofs.Tryz.t9,_,by kernel_rfl,rfl,rfl,rfl,rfl⟩,by decide,by decide⟩
instance:MZ Go.Proofs.Tryz.prog 88 23 1 8:=⟨Go.Proofs.Tryz.underlying88,⟨Go.Proofs.Tryz.t23,_,by kernel_rfl,rfl,rfl,rfl,rfl⟩,by decide,by decide⟩
instance:MZ Go.Proofs.Tryz.prog 114 254 3 40:=⟨Go.Proofs.Tryz.underlying114,⟨Go.Proofs.Tryz.t254,_,by kernel_rfl,rfl,rfl,rfl,rfl⟩,by decide,by decide⟩
instance:MZ Go.Proofs.Tryz.prog 115 44 1 24:=⟨Go.Proofs.Tryz.underlying115,⟨Go.Proofs.Tryz.t44,_,by kernel_rfl,rfl,rfl,rfl,rfl⟩,by decide,by decide⟩
instance:MZ Go.Proofs.Tryz.prog 217 216 1 8:=⟨Go.Proofs.Tryz.underlying217,⟨Go.Proofs.Tryz.t216,_,by kernel_rfl,rfl,rfl,rfl,rfl⟩,by decide,by decide⟩
instance:MZ Go.Proofs.Tryz.prog 257 259 1 8:=⟨Go.Proofs.Tryz.underlying257,⟨Go.Proofs.Tryz.t259,_,by kernel_rfl,rfl,rfl,rfl,rfl⟩,by decide,by decide⟩
instance:MZ Go.Proofs.Tryz.prog 260 326 1 24:=⟨Go.Proofs.Tryz.underlying260,⟨Go.Proofs.Tryz.t326,_,by kernel_rfl,rfl,rfl,rfl,rfl⟩,by decide,by decide⟩
instance:MZ Go.Proofs.Tryz.prog 268 272 1 8:=⟨Go.Proofs.Tryz.underlying268,⟨Go.Proofs.Tryz.t272,_,by kernel_rfl,rfl,rfl,rfl,rfl⟩,by decide,by decide⟩
end TwW
end
end
section
set_option maxRecDepth 100000
noncomputable section
namespace TwW
open Go Tw Go.Proofs.Tryz
variable [I9]{R:Rr}{Z22:Hp}
abbrev AO (f:FuncId)(a:Array Value)(s:Hp)(R:Rr)(K:Value->Hp->Prop):Prop:=Spec prog f a s (BI R K)
abbrev HO (T:TypeId)(p:Option Addr)(n c b:Nat):Sem Value:=Builtin.append_ #[T,T] T #[.slice p n c,.slice (aD b 0) 1 1]

namespace dB
variable {x0:Int}
def M:Fw:=⟨prog,7,f7,[],[],false,[],[],[]⟩
def ok:M.Ok:=⟨AN.nil,mixed,func7,by kernel_rfl⟩
def start (h:Df (Go.bits .and .i64 x0 9223372036854775807) λx4=>R (.returned (.I x4)) Z22):Spec prog 7 #[.I x0] Z22 R:=M.start h ok
end dB
namespace F6
variable {p0 p1:Option Addr}{n0 c0 n1 c1:Nat}{x5:Int}
def M:Fw:=⟨prog,35,f35,[],[],false,[(6,9,true)],[],[(464,[(0,wL),(1,wL),(5,wI)])]⟩
def ok:M.Ok:=⟨AN.nil,mixed,func35,by kernel_rfl⟩
def BM:=M.pt 0
def start (h:Br ((n0:Int)≠(n1:Int)) (R (.B false) Z22) (BM R p0 n0 c0 p1 n1 c1 0 Z22)):Spec prog 35 #[.slice p0 n0 c0,.slice p1 n1 c1] Z22 R:=M.start h ok
def Bg (h:Br (x5<(n0:Int)) (Pq p0 λA G=>In x5 (n0:Int)/\LI .u64 Z22 A (G+x5.toNat*1) λQH=>Pq p1 λRa Yi=>In x5 (n1:Int)/\LI .u64 Z22 Ra (Yi+x5.toNat*1) λEJ=>Br (QH≠EJ) (R (.B false) Z22) (AK (x5+1)/\BM R (aD A G) n0 c0 (aD Ra Yi) n1 c1 (x5+1) Z22)) (R (.B true) Z22)):BM R p0 n0 c0 p1 n1 c1 x5 Z22:=M.of h ok rfl
end F6
namespace FD
variable {q0:Option Addr}{s1:ByteArray}
def M:Fw:=⟨prog,36,f36,[],[],false,[],[],[]⟩
def ok:M.Ok:=⟨AN.nil,mixed,func36,by kernel_rfl⟩
def start (h:Al Z22 λb5=>Pq q0 λb7 o7=>LM (Hp.set Z22 b5 (.cells #[] 23 (0,0))) b7 (o7+7) λG=>AH prog (Instr.lookup 76 (.map G) (.string s1) false) (Hp.set Z22 b5 (.cells #[] 23 (0,0))) (CS λPz n11 P0 y=>AH prog (Builtin.append_ #[88,88] 88 #[(.slice (aD b5 0) 0 0),.slice Pz n11 P0]) y (CS λGe n12 c12 A=>R (.returned (.slice Ge n12 c12)) A))):Spec prog 36 #[.pointer q0,.string s1] Z22 R:=M.start h ok
end FD
namespace Av
variable {s0:ByteArray}{p1 p5 JQ p8:Option Addr}{n1 c1 n5 c5 n10 IU n8 c8:Nat}{Gp CR:Int}
def M:Fw:=⟨prog,45,f45,[104,105],[7],false,[],[],[(232,[(0,wT),(5,wL),(10,wL),(11,wI),(12,wI)]),(14951,[(0,wT),(5,wL),(8,wL),(10,wL),(11,wI),(12,wI)])]⟩
def ok:M.Ok:=⟨.cons call104 (.cons call105 (AN.nil)),mixed,func45,by kernel_rfl⟩
def A3:=M.pt 0
def TH:=M.pt 1
def start (h:A3 R s0 none 0 0 p1 n1 c1 (n1:Int) 0 Z22):Spec prog 45 #[.string s0,.slice p1 n1 c1] Z22 R:=M.start h ok
def AY (h:Br (CR<Gp) (Pq JQ λIp Kv=>In CR (n10:Int)/\∃G AIb AIc Uc dC,Bm Z22 Ip (Kv+CR.toNat*3) [.slice G AIb AIc,.I Uc,.U dC]/\∀b7:Nat,AO 104 #[.agg #[.slice G AIb AIc,.I Uc,.U dC]] Z22 R (CS λYj n17 WK y=>Br ((n5:Int)=0) (AO 105 #[.N,.string s0] y R (CS λMg n36 NZ A=>Al A λRF=>AH prog (HO 72 p5 n5 c5 RF) (Hp.set A RF (.cells #[.slice Mg n36 NZ] 79 (0,0))) (CS λgC n38 bA AQ=>TH R s0 gC n38 bA Yj n17 WK (aD Ip Kv) n10 IU Gp CR AQ))) (AK ((n5:Int)-1)/\Pq p5 λHP P1=>In (((n5:Int)-1)) (n5:Int)/\LS y HP (P1+Int.toNat ((n5:Int)-1)*1) λlH n27 lI=>AK ((n27:Int)+(n17:Int))/\Br ((65536:Int)<((n27:Int)+(n17:Int))) (AO 105 #[.N,.string s0] y R (CS λMg n36 NZ A=>Al A λRF=>AH prog (Builtin.append_ #[72,72] 72 #[(.slice (aD HP P1) n5 c5),(.slice (aD RF 0) 1 1)]) (Hp.set A RF (.cells #[.slice Mg n36 NZ] 79 (0,0))) (CS λgC n38 bA AQ=>TH R s0 gC n38 bA Yj n17 WK (aD Ip Kv) n10 IU Gp CR AQ))) (TH R s0 (aD HP P1) n5 c5 Yj n17 WK (aD Ip Kv) n10 IU Gp CR y)))) (R (.returned (.slice p5 n5 c5)) Z22)):A3 R s0 p5 n5 c5 JQ n10 IU Gp CR Z22:=M.of h ok rfl
def Tg (h:AK ((n5:Int)-1)/\AK ((n5:Int)-1)/\Pq p5 λdD gD=>In (((n5:Int)-1)) (n5:Int)/\LS Z22 dD (gD+Int.toNat ((n5:Int)-1)*1) λp48 n48 A=>AH prog (Builtin.append_ #[79,79] 79 #[.slice p48 n48 A,.slice p8 n8 c8]) Z22 (CS λp50 n50 G y=>In (((n5:Int)-1)) (n5:Int)/\AH prog (Instr.storeAt 79 (.pointer (aD dD (gD+Int.toNat ((n5:Int)-1)*1))) (.slice p50 n50 G)) y (λ_ AG=>AK (CR+1)/\A3 R s0 (aD dD gD) n5 c5 JQ n10 IU Gp (CR+1) AG))):TH R s0 p5 n5 c5 p8 n8 c8 JQ n10 IU Gp CR Z22:=M.of h ok rfl
end Av
namespace Bh
variable {q0 q5:Option Addr}{s1:ByteArray}
def M:Fw:=⟨prog,48,f48,[43],[],false,[],[],[(30,[(5,wQ)])]⟩
def ok:M.Ok:=⟨.cons call43 (AN.nil),mixed,func48,by kernel_rfl⟩
def AEb:=M.pt 0
def start (h:Pq q0 λb7 o7=>LM Z22 b7 (o7+6) λm9=>AH prog (Instr.lookup 75 (.map m9) (.string s1) false) Z22 (CQ λA y=>Bo (Option.isNone A) (LI .i64 y b7 (o7+3) λC3=>AO 43 #[.I C3] y R (CQ λG AG=>LM AG b7 (o7+6) λm22=>AH prog (Instr.mapUpdate 75 (.map m22) (.string s1) (.pointer G)) AG (λ_ AQ=>AEb R G AQ))) (AEb R A y))):Spec prog 48 #[.pointer q0,.string s1] Z22 R:=M.start h ok
def lJ (h:R (.returned (.pointer q5)) Z22):AEb R q5 Z22:=M.of h ok rfl
end Bh
namespace Nk
variable {s0:ByteArray}{x1:Int}
def M:Fw:=⟨prog,52,f52,[114],[],false,[],[],[]⟩
def ok:M.Ok:=⟨.cons call114 (AN.nil),mixed,func52,by kernel_rfl⟩
def start (h:(ByteArray.size (ByteArray.mk #[98,47])+ByteArray.size s0<=9223372036854775807)/\(ByteArray.size ((ByteArray.mk #[98,47])++s0)+ByteArray.size (ByteArray.mk #[47])<=9223372036854775807)/\AO 114 #[.U x1,.I 10] Z22 R (CT λA y=>(ByteArray.size (((ByteArray.mk #[98,47])++s0)++(ByteArray.mk #[47]))+ByteArray.size A<=9223372036854775807)/\R (.returned (.string ((((ByteArray.mk #[98,47])++s0)++(ByteArray.mk #[47]))++A))) y)):Spec prog 52 #[.string s0,.U x1] Z22 R:=M.start h ok
end Nk
namespace Dg
noncomputable def K0:=f54.body.getD .skip
def K1:=cl K0
def K2:=cr K0
def K3:=cl K2
def K4:=cl K3
def K5:=cr K3
def K6:=cl K5
def K7:=cl K6
def K8:=cl K7
def K9:=cr K7
def xX:=cl K9
def K11:=cl xX
def K12:=cr xX
def K13:=cr K9
def K14:=cl K13
def K15:=cl K14
def K16:=cl K15
def K17:=cr K15
def K18:=cl K17
def K19:=cr K17
def K20:=cl K19
def K21:=cr K19
def K22:=cl K21
def K23:=cl K22
def K24:=cr K22
def K25:=cr K21
def K26:=cr K13
def K27:=cr K2
def K28:=cl K27
def K29:=cr K27
def K30:=cl K29
def K31:=cl K30
def K32:=cr K30
def K33:=cl K32
def K34:=cl K33
def K35:=cr K33
def K36:=cl K35
def K37:=cl K36
def K38:=cr K36
def K39:=cl K38
def K40:=cr K38
def K41:=cl K40
def K42:=cr K40
def K43:=cr K29
def K44:=cl K43
def K45:=cr K43
abbrev gl (R:Rr):Gl:=Gl.fn prog 54 61 R
def HA (R:Rr)(p0:Option Addr)(n0 c0:Nat)(JQ:Option Addr)(n10 IU:Nat)(Gp CR:Int)(Z22:Hp):Prop:=∀(J:Env),At (gl R) [.code K8,.code K9,.inLoop K7,.inBlock 0,.code K27] (Lm J [(0,(.slice p0 n0 c0)),(10,(.slice JQ n10 IU)),(11,(.I Gp)),(12,(.I CR))]) [] Z22
def LK (R:Rr)(l:Nat)(r0:Loop)(b7:Nat)(A:Value)(Z22:Hp):Prop:=∀(J:Env),At (Gl.round prog 54 61 l R) [.code K34,.beginRound,.code K35] (Lm J [(7,(.pointer (some ⟨b7,0,none⟩))),(24,A)]) [] Z22
def start {R:Rr}{p0:Option Addr}{n0 c0:Nat}{Z22:Hp}(h:HA R p0 n0 c0 p0 n0 c0 ((n0:Int)) 0 Z22):Spec prog 54 #[(.slice p0 n0 c0)] Z22 R:=by
 refine Spec.bX (fn:=f54) (c:=K0) func54 (by kernel_rfl) (Afh (by kernel_rfl)) (λe A=>?_);refine At.ofL (l:=[(0,(.slice p0 n0 c0))]) ⟨A 0,trivial⟩ (λJ=>?_);show At (gl R) _ _ _ _
 refine At.s K1 K2 ?_;refine At.rg 0 [0,1] ?_;refine Seq.us [(2,.N),(3,.I 0)] (Seq.done ?_);refine At.s K3 K27 (At.s K4 K5 ?_);refine At.rg 1 [0,1,2] ?_;refine Seq.u 10 (.slice p0 n0 c0) ?_;refine Seq.z 11 (.call { callee:=.builtin .len,args:=#[(.tmp 10)],argTypes:=#[115] }) 3 (.I (n0:Int)) (Y.ADe underlying115 rfl rfl) ?_;refine Seq.u 12 (.I 0) (Seq.done ?_);refine At.b 0 K6 ?_;refine At.loop (x:=K7) (by kernel_rfl) ?_;refine At.s K8 K9 ?_;exact At.v [(0,(.slice p0 n0 c0)),(10,(.slice p0 n0 c0)),(11,(.I (n0:Int))),(12,(.I 0))] (h _)
def Bi {R:Rr}{p0 JQ:Option Addr}{n0 c0 n10 IU:Nat}{Gp CR:Int}{Z22:Hp}(h:((CR:Int)<Gp->∃(Ip Kv:Nat),JQ=some ⟨Ip,Kv,none⟩/\((0:Int)<=CR/\CR<(n10:Int))/\∃LL:Option Addr,∃n15:Nat,∃Hu:Nat,Hp.ld Z22 ⟨Ip,(Kv+CR.toNat*1),none⟩=some (.slice LL n15 Hu)/\AO 20 #[(.slice LL n15 Hu)] Z22 R (λv G=>∃C3:Int,v=(.I C3)/\((C3:Int)≠0->R (.T #[(.N),(.I C3)]) G)/\(¬((C3:Int)≠0)->AK (CR+1)/\HA R p0 n0 c0 ((some ⟨Ip,Kv,none⟩)) n10 IU Gp ((CR+1)) G)))/\(¬((CR:Int)<Gp)->∀b7:Nat,Z22 b7=none->AO 116 #[(.slice p0 n0 c0)] (Hp.set Z22 b7 (.cells #[(.N)] 44 (0,0))) R (λv G=>∃f23:Fn,∃a23:Array Value,∃SP:Array Value,(Value.func f23 a23 SP)=v/\∃(gf:Nat) (lb:Array Value),(Value.func f23 a23 SP)=.func (.func gf) #[] lb/\Enters prog gf/\∀(A qf:Nat) (dE:Loop),A≠qf->G A=none->G qf=none->(∀(R2:Rr) (Z222:Hp) (lK:Option Addr) (lL:Nat) (lM:Nat) (lN:Option Addr) (lO:Nat) (lP:Nat),Z222 qf=some (.loop (lp dE .ready none))->LK R2 qf dE b7 ((.agg #[(.slice lK lL lM),(.slice lN lO lP)])) Z222->Ls prog qf #[(.agg #[(.slice lK lL lM),(.slice lN lO lP)])] Z222 R2)->Spec prog gf (#[.func (.yield qf) #[] #[]]++lb) (Hp.set (Hp.set G A (.deferred (some []))) qf (.loop (lp dE .ready none))) (λen D2=>∃(v:Value) (s:LoopState) (p:Option Code),en=.returned v/\D2 qf=some (.loop (lp dE s p))/\s≠.busy/\((p=none/\∃p59:Option Addr,∃n59:Nat,∃c59:Nat,Hp.ld (Hp.set D2 qf (.loop (lp dE .exhausted none))) ⟨b7,0,none⟩=some (.slice p59 n59 c59)/\Spec prog 118 #[(.slice p59 n59 c59)] (Hp.set D2 qf (.loop (lp dE .exhausted none))) (BI (NP R) (λbB E0=>∃yz:Option Addr,∃n60:Nat,∃xY:Nat,bB=(.slice yz n60 xY)/\E0 A=some (.deferred (some []))/\R (.T #[(.slice yz n60 xY),(.I 0)]) (Hp.set E0 A (.deferred none)))))))))):HA R p0 n0 c0 JQ n10 IU Gp CR Z22:=by
 intro J;show At (gl R) _ _ _ _
 refine At.rg 2 [0] ?_;refine Seq.u 13 (.bool (decide ((CR:Int)<Gp))) (Seq.done ?_);refine At.s xX K13 ?_;cases hb:(decide ((CR:Int)<Gp)) with
 | true=>
  replace h:=h.1 (AfS hb)
  refine At.cT 13 K11 K12 ?_;refine At.skip ?_;refine At.s K14 K26 ?_;refine At.b 1 K15 ?_;refine At.s K16 K17 ?_;refine At.rg 3 [0,1,2] ?_;obtain⟨Ip,Kv,hq,h⟩:=h;subst hq;obtain⟨hi,h⟩:=h;refine Seq.z 14 (.indexAddr 115 (.tmp 10) (.tmp 12)) 0 (.pointer (some ⟨Ip,(Kv+CR.toNat*1),none⟩)) (Y.idx underlying115 sizeOf44 rfl rfl hi rfl) ?_;obtain⟨LL,n15,Hu,hl,h⟩:=h;refine Seq.z 15 (.load 44 (.tmp 14)) 44 (.slice LL n15 Hu) (Y.ld isAgg44 rfl hl) ?_;refine Seq.u 5 (.slice LL n15 Hu) (Seq.done ?_);refine At.s K18 K19 ?_;refine At.rg 4 [0,1,2] ?_;refine Seq.u 16 (.slice LL n15 Hu) ?_;refine Seq.o ?_;refine AV.cl (some 17) call20 (h.cont λv G h2=>?_);replace h:=h2;clear h2;obtain⟨C3,rfl,h⟩:=h;refine Seq.u 6 (.I C3) (Seq.done ?_);refine At.s K20 K21 ?_;refine At.rg 5 [0,1] ?_;refine Seq.us [(18,.I C3),(19,.bool (decide ((C3:Int)≠0)))] (Seq.done ?_);cases hb:(decide ((C3:Int)≠0)) with
  | true=>
   replace h:=h.1 (AfS hb)
   refine At.cT 19 K22 K25 ?_;refine At.s K23 K24 ?_;refine At.rg 6 [0,1,2] ?_;refine Seq.us [(20,.I C3),(2,.N),(3,.I C3)] (Seq.done ?_);exact At.rt [.tmp 2,.tmp 3] [(.N),(.I C3)] func54 ⟨_,rfl,⟨_,rfl,rfl⟩⟩ h
  | false=>
   replace h:=h.2 (Aff hb)
   refine At.cF 19 K22 K25 ?_;refine At.skip ?_;refine At.inBlock ?_;refine At.rg 7 [0,1] ?_;obtain⟨hi,h⟩:=h;refine Seq.z 21 (.binOp .add 3 (.tmp 12) (.const (.I 1)) 3) 3 (.I (CR+1)) (Y.APN hi rfl rfl) ?_;refine Seq.u 12 (.I (CR+1)) (Seq.done ?_);refine At.inLoop ?_;refine At.s K8 K9 ?_;exact At.v [(0,(.slice p0 n0 c0)),(10,(.slice (some ⟨Ip,Kv,none⟩) n10 IU)),(11,(.I Gp)),(12,(.I (CR+1)))] (h _)
 | false=>
  replace h:=h.2 (Aff hb)
  refine At.cF 13 K11 K12 ?_;refine At.x 0 [.code K27] ?_;refine At.s K28 K29 ?_;refine At.rg 8 [0] ?_;refine Seq.o ?_;refine AV.gq (T:=44) (d:=(some 7)) (ty:=0)  (gd:=none) (cs:=#[(.N)]) (by kernel_rfl) rfl rfl zeroValue44 rfl (λb7 hn=>?_)
  replace h:=h b7 hn
  refine Seq.done ?_;refine At.s K30 K43 (At.s K31 K32 ?_);refine At.rg 9 [0,1] ?_;refine Seq.u 22 (.slice p0 n0 c0) ?_;refine Seq.o ?_;refine AV.cl (some 23) call116 (h.cont λv G h2=>?_);replace h:=h2;clear h2;obtain⟨f23,a23,SP,rfl,h⟩:=h;refine Seq.done ?_;refine At.b 2 K33 ?_;obtain⟨gf,lb,hgv,Ga,h⟩:=h;refine At.range (gop:=(.tmp 23)) (ps:=#[24]) (assign:=K34) (body:=K35) (gf:=gf) (lb:=lb) (by kernel_rfl) rfl rfl hgv Ga (λA qf dE hDl hD hl hrf hrp hra hrb xZ hre=>?_);refine(h A qf dE hDl hD hl (λR2 Z222 lK lL lM lN lO lP Yk hp=>Ls.bX (n:=61) Yk hrp xZ (by decide) hre (fn:=f54) (by rw[hrf];exact func54) ?_)).mono (λen D2 h=>?_)
  .rw[hrf,hra,hrb];exact At.v [(7,(.pointer (some ⟨b7,0,none⟩))),(24,(.agg #[(.slice lK lL lM),(.slice lN lO lP)]))] (hp _)
  obtain⟨v,s,p,he,ADv,hs,h⟩:=h;refine⟨v,s,p,he,ADv,hs,?_⟩;obtain⟨rfl,h⟩:=h;show At (Gl.behind prog 54 61 A R) [.inBlock 2,.code K43] _ _ _
  refine At.inBlock ?_;refine At.s K44 K45 ?_;refine At.rg 15 [0,1,2,3] ?_;obtain⟨p59,n59,c59,hl,h⟩:=h;refine Seq.z 59 (.load 44 (.tmp 7)) 44 (.slice p59 n59 c59) (Y.ld isAgg44 rfl hl) ?_;refine Seq.o ?_;refine AV.cl (some 60) call118 (h.cont λbB E0 h2=>?_);replace h:=h2;clear h2;obtain⟨yz,n60,xY,rfl,h⟩:=h;refine Seq.us [(2,.slice yz n60 xY),(3,.I 0)] (Seq.done ?_);obtain⟨hmk,h⟩:=h;exact At.bY (rs:=[.tmp 2,.tmp 3]) (vs:=[(.slice yz n60 xY),(.I 0)]) (by kernel_rfl) func54 (by kernel_rfl) ⟨_,rfl,⟨_,rfl,rfl⟩⟩ h rfl (ADs hmk)
def Mh {R:Rr}{l b7:Nat}{r0:Loop}{v24:Value}{Z22:Hp}(h:∀b8:Nat,Z22 b8=none->AH prog (Instr.storeAt 63 (.pointer (some ⟨b8,0,none⟩)) v24) (Hp.set Z22 b8 (.cells #[(.N),(.N)] 63 (0,0))) (λ_ G=>G l=some (.loop (lp r0 .ready none))/\∃p25:Option Addr,∃A:Nat,∃c25:Nat,Hp.ld (Hp.set G l (.loop (lp r0 .busy none))) ⟨b7,0,none⟩=some (.slice p25 A c25)/\((0:Int)<(A:Int)->∃sI:Option Addr,∃n30:Nat,∃xd:Nat,Hp.ld (Hp.set G l (.loop (lp r0 .busy none))) ⟨b7,0,none⟩=some (.slice sI n30 xd)/\AK ((A:Int)-1)/\∃(Hi gE:Nat),sI=some ⟨Hi,gE,none⟩/\((0:Int)<=((A:Int)-1)/\((A:Int)-1)<(n30:Int))/\∃y3:Option Addr,∃n35:Nat,∃xk:Nat,Hp.ld (Hp.set G l (.loop (lp r0 .busy none))) ⟨Hi,(gE+Int.toNat ((A:Int)-1)*2),none⟩=some (.slice y3 n35 xk)/\∃sJ:Option Addr,∃n37:Nat,∃c37:Nat,Hp.ld (Hp.set G l (.loop (lp r0 .busy none))) ⟨b8,0,none⟩=some (.slice sJ n37 c37)/\Spec prog 66 #[(.slice y3 n35 xk),(.slice sJ n37 c37)] (Hp.set G l (.loop (lp r0 .busy none))) (BI (NP R) (λv D2=>∃JR:Int,v=(.I JR)/\((JR:Int)=0->∃p41:Option Addr,∃n41:Nat,∃c41:Nat,Hp.ld D2 ⟨b7,0,none⟩=some (.slice p41 n41 c41)/\AK ((A:Int)-1)/\∃p44:Option Addr,∃n44:Nat,∃c44:Nat,Hp.ld D2 ⟨b7,0,none⟩=some (.slice p44 n44 c44)/\AK ((A:Int)-1)/\∃(dD gD:Nat),p44=some ⟨dD,gD,none⟩/\((0:Int)<=((A:Int)-1)/\((A:Int)-1)<(n44:Int))/\∃il:Option Addr,∃n49:Nat,∃c49:Nat,Hp.ld D2 ⟨dD,((gD+Int.toNat ((A:Int)-1)*2)+1),none⟩=some (.slice il n49 c49)/\∃p51:Option Addr,∃n51:Nat,∃c51:Nat,Hp.ld D2 ⟨b8,1,none⟩=some (.slice p51 n51 c51)/\Spec prog 117 #[(.slice il n49 c49),(.slice p51 n51 c51)] D2 (BI (NP R) (λbB E0=>∃qg:Option Addr,∃n52:Nat,∃qh:Nat,bB=(.slice qg n52 qh)/\Kp [b7] D2 E0/\∃(sK sL:Nat),p41=some ⟨sK,sL,none⟩/\((0:Int)<=((A:Int)-1)/\((A:Int)-1)<(n41:Int))/\AH prog (Instr.storeAt 61 (.pointer (some ⟨sK,((sL+Int.toNat ((A:Int)-1)*2)+1),none⟩)) (.slice qg n52 qh)) E0 (λ_ Ha=>Ha l=some (.loop (lp r0 .busy none))/\R (.B true) (Hp.set Ha l (.loop (lp r0 .ready none)))))))/\(¬((JR:Int)=0)->∃Jg:Option Addr,∃Iq:Nat,∃JS:Nat,Hp.ld D2 ⟨b7,0,none⟩=some (.slice Jg Iq JS)/\∃NB:Option Addr,∃NC:Nat,∃ND:Nat,∃KU:Option Addr,∃KV:Nat,∃KW:Nat,Bm D2 b8 0 [(.slice NB NC ND),(.slice KU KV KW)]/\∀HK:Nat,D2 HK=none->AH prog (Builtin.append_ #[44,44] 44 #[(.slice Jg Iq JS),(.slice (some ⟨HK,0,none⟩) 1 1)]) (Hp.set D2 HK (.cells #[(.slice NB NC ND),(.slice KU KV KW)] 63 (0,0))) (λbB E0=>∃bC:Option Addr,∃bD:Nat,∃bE:Nat,bB=(.slice bC bD bE)/\AH prog (Instr.storeAt 44 (.pointer (some ⟨b7,0,none⟩)) (.slice bC bD bE)) E0 (λ_ Ha=>Ha l=some (.loop (lp r0 .busy none))/\R (.B true) (Hp.set Ha l (.loop (lp r0 .ready none)))))))))/\(¬((0:Int)<(A:Int))->∃Jg:Option Addr,∃Iq:Nat,∃JS:Nat,Hp.ld (Hp.set G l (.loop (lp r0 .busy none))) ⟨b7,0,none⟩=some (.slice Jg Iq JS)/\∃NB:Option Addr,∃NC:Nat,∃ND:Nat,∃KU:Option Addr,∃KV:Nat,∃KW:Nat,Bm (Hp.set G l (.loop (lp r0 .busy none))) b8 0 [(.slice NB NC ND),(.slice KU KV KW)]/\∀HK:Nat,(Hp.set G l (.loop (lp r0 .busy none))) HK=none->AH prog (Builtin.append_ #[44,44] 44 #[(.slice Jg Iq JS),(.slice (some ⟨HK,0,none⟩) 1 1)]) (Hp.set (Hp.set G l (.loop (lp r0 .busy none))) HK (.cells #[(.slice NB NC ND),(.slice KU KV KW)] 63 (0,0))) (λv D2=>∃bC:Option Addr,∃bD:Nat,∃bE:Nat,v=(.slice bC bD bE)/\AH prog (Instr.storeAt 44 (.pointer (some ⟨b7,0,none⟩)) (.slice bC bD bE)) D2 (λ_ E0=>E0 l=some (.loop (lp r0 .busy none))/\R (.B true) (Hp.set E0 l (.loop (lp r0 .ready none)))))))):LK R l r0 b7 v24 Z22:=by
 intro J;show At (Gl.round prog 54 61 l R) _ _ _ _
 refine At.rg 10 [0,1] ?_;refine Seq.o ?_;refine AV.gq (T:=63) (d:=(some 8)) (ty:=0)  (gd:=none) (cs:=#[(.N),(.N)]) (by kernel_rfl) rfl rfl zeroValue63 rfl (λb8 hn=>?_)
 replace h:=h b8 hn
 refine Seq.o ?_;refine AV.store (T:=63) (ty:=0) (x:=(.tmp 8)) (y:=(.tmp 24)) (p:=(.pointer (some ⟨b8,0,none⟩))) (v:=v24) (gd:=none) (by kernel_rfl) rfl rfl rfl (h.mono (λ_ G h2=>?_));replace h:=h2;clear h2;refine Seq.done ?_;obtain⟨YE,h⟩:=h;refine At.beginRound rfl YE ?_;refine At.b 3 K36 ?_;refine At.s K37 K38 ?_;refine At.rg 11 [0,1,2] ?_;obtain⟨p25,A,c25,hl,h⟩:=h;refine Seq.z 25 (.load 44 (.tmp 7)) 44 (.slice p25 A c25) (Y.ld isAgg44 rfl hl) ?_;refine Seq.z 26 (.call { callee:=.builtin .len,args:=#[(.tmp 25)],argTypes:=#[44] }) 3 (.I (A:Int)) (Y.ADe underlying44 rfl rfl) ?_;refine Seq.u 9 (.I (A:Int)) (Seq.done ?_);refine At.s K39 K40 ?_;refine At.draw (id:=12) (ops:=cO K39) (n:=14) (q:=(some [])) (plan:=[(0,true),(1,true),(2,true),(3,true),(4,true),(5,true),(6,true),(7,true),(8,true),(9,true),(10,true),(11,false),(12,true),(13,true)]) (tl:=[]) mixed (by kernel_rfl) (by kernel_rfl) ?_;refine Head.u 27 (.I (A:Int)) ?_;refine Head.u 28 (.bool (decide ((0:Int)<(A:Int)))) ?_;refine Head.u 29 (.bool (decide ((0:Int)<(A:Int)))) ?_;cases hb:(decide ((0:Int)<(A:Int))) with
 | true=>
  replace h:=h.1 (AfS hb)
  obtain⟨sI,n30,xd,hl,h⟩:=h;refine Head.ygl b7 [[11,8,7,6]] rfl (by kernel_rfl) (d:=(some 30)) (op:=(.load 44 (.tmp 7))) (ty:=44) (gd:=(some (2,true))) (v:=(.slice sI n30 xd)) (by kernel_rfl) rfl rfl (Y.ld isAgg44 rfl (PK hl)) ?_;refine Head.u 31 (.I (A:Int)) ?_;obtain⟨hi,h⟩:=h;refine Head.zg 32 (.binOp .sub 3 (.tmp 31) (.const (.I 1)) 3) 3 (2,true) (.I ((A:Int)-1)) (Y.rH hi rfl rfl) ?_;obtain⟨Hi,gE,hq,h⟩:=h;subst hq;obtain⟨hi,h⟩:=h;refine Head.zg 33 (.indexAddr 44 (.tmp 30) (.tmp 32)) 0 (2,true) (.pointer (some ⟨Hi,(gE+Int.toNat ((A:Int)-1)*2),none⟩)) (Y.idx underlying44 sizeOf63 rfl rfl hi rfl) ?_;refine Head.zg 34 (.fieldAddr 63 (.tmp 33) 0) 0 (2,true) (.pointer (some ⟨Hi,(gE+Int.toNat ((A:Int)-1)*2),none⟩)) (Y.fieldAddr (fd:=(P8 prog 63 0)) underlying63 (by kernel_rfl) sizeOf51 rfl rfl) ?_;obtain⟨y3,n35,xk,hl,h⟩:=h;refine Head.ygl Hi [[11]] rfl (by kernel_rfl) (d:=(some 35)) (op:=(.load 51 (.tmp 34))) (ty:=51) (gd:=(some (2,true))) (v:=(.slice y3 n35 xk)) (by kernel_rfl) rfl rfl (Y.ld isAgg51 rfl (PK hl)) ?_;refine Head.zg 36 (.fieldAddr 63 (.tmp 8) 0) 0 (2,true) (.pointer (some ⟨b8,0,none⟩)) (Y.fieldAddr (fd:=(P8 prog 63 0)) underlying63 (by kernel_rfl) sizeOf51 rfl rfl) ?_;obtain⟨sJ,n37,c37,hl,h⟩:=h;refine Head.ygl b8 [[11]] rfl (by kernel_rfl) (d:=(some 37)) (op:=(.load 51 (.tmp 36))) (ty:=51) (gd:=(some (2,true))) (v:=(.slice sJ n37 c37)) (by kernel_rfl) rfl rfl (Y.ld isAgg51 rfl (PK hl)) ?_;refine Head.o (q':=(some [])) rfl ?_;refine AV.cl (some 38) call66 (h.cont λv D2 h2=>?_);replace h:=h2;clear h2;obtain⟨JR,rfl,h⟩:=h;refine⟨⟨λ_ h=>h,AH6 (L:=[]) Kp.nil⟩,?_⟩;refine Head.u 39 (.bool (decide ((JR:Int)=0))) ?_;refine Head.u 40 (.bool (decide ((JR:Int)=0))) ?_;refine Head.done ?_;refine Seq.done ?_;cases hb:(decide ((JR:Int)=0)) with
  | true=>
   replace h:=h.1 (AfS hb)
   refine At.cT 40 K41 K42 ?_;refine At.draw (id:=13) (ops:=cO K41) (n:=14) (q:=(some [])) (plan:=[(0,true),(1,true),(2,true),(3,true),(4,true),(5,true),(6,true),(7,true),(8,true),(9,true),(10,true),(11,false),(12,true),(13,true)]) (tl:=[14]) mixed (by kernel_rfl) (by kernel_rfl) ?_;obtain⟨p41,n41,c41,hl,h⟩:=h;refine Head.yl b7 [] rfl (by kernel_rfl) (d:=(some 41)) (op:=(.load 44 (.tmp 7))) (ty:=44) (v:=(.slice p41 n41 c41)) (by kernel_rfl) rfl (Y.ld isAgg44 rfl (PK hl)) ?_;refine Head.u 42 (.I (A:Int)) ?_;obtain⟨hi,h⟩:=h;refine Head.z 43 (.binOp .sub 3 (.tmp 42) (.const (.I 1)) 3) 3 (.I ((A:Int)-1)) (Y.rH hi rfl rfl) ?_;obtain⟨p44,n44,c44,hl,h⟩:=h;refine Head.yl b7 [[11,8,7,6]] rfl (by kernel_rfl) (d:=(some 44)) (op:=(.load 44 (.tmp 7))) (ty:=44) (v:=(.slice p44 n44 c44)) (by kernel_rfl) rfl (Y.ld isAgg44 rfl (PK hl)) ?_;refine Head.u 45 (.I (A:Int)) ?_;obtain⟨hi,h⟩:=h;refine Head.z 46 (.binOp .sub 3 (.tmp 45) (.const (.I 1)) 3) 3 (.I ((A:Int)-1)) (Y.rH hi rfl rfl) ?_;obtain⟨dD,gD,hq,h⟩:=h;subst hq;obtain⟨hi,h⟩:=h;refine Head.z 47 (.indexAddr 44 (.tmp 44) (.tmp 46)) 0 (.pointer (some ⟨dD,(gD+Int.toNat ((A:Int)-1)*2),none⟩)) (Y.idx underlying44 sizeOf63 rfl rfl hi rfl) ?_;refine Head.z 48 (.fieldAddr 63 (.tmp 47) 1) 0 (.pointer (some ⟨dD,((gD+Int.toNat ((A:Int)-1)*2)+1),none⟩)) (Y.fieldAddr (fd:=(P8 prog 63 1)) underlying63 (by kernel_rfl) sizeOf61 rfl rfl) ?_;obtain⟨il,n49,c49,hl,h⟩:=h;refine Head.yl dD [[11]] rfl (by kernel_rfl) (d:=(some 49)) (op:=(.load 61 (.tmp 48))) (ty:=61) (v:=(.slice il n49 c49)) (by kernel_rfl) rfl (Y.ld isAgg61 rfl (PK hl)) ?_;refine Head.z 50 (.fieldAddr 63 (.tmp 8) 1) 0 (.pointer (some ⟨b8,1,none⟩)) (Y.fieldAddr (fd:=(P8 prog 63 1)) underlying63 (by kernel_rfl) sizeOf61 rfl rfl) ?_;obtain⟨p51,n51,c51,hl,h⟩:=h;refine Head.yl b8 [[11]] rfl (by kernel_rfl) (d:=(some 51)) (op:=(.load 61 (.tmp 50))) (ty:=61) (v:=(.slice p51 n51 c51)) (by kernel_rfl) rfl (Y.ld isAgg61 rfl (PK hl)) ?_;refine Head.o (q':=(some [(b7,[])])) rfl ?_;refine AV.cl (some 52) call117 (h.cont λbB E0 h2=>?_);replace h:=h2;clear h2;obtain⟨qg,n52,qh,rfl,hk,h⟩:=h;refine⟨⟨λ_ h=>h,AH6 (L:=[(b7,[])]) hk⟩,?_⟩;obtain⟨sK,sL,hq,h⟩:=h;subst hq;obtain⟨hi,h⟩:=h;refine Head.z 53 (.indexAddr 44 (.tmp 41) (.tmp 43)) 0 (.pointer (some ⟨sK,(sL+Int.toNat ((A:Int)-1)*2),none⟩)) (Y.idx underlying44 sizeOf63 rfl rfl hi rfl) ?_;refine Head.z 54 (.fieldAddr 63 (.tmp 53) 1) 0 (.pointer (some ⟨sK,((sL+Int.toNat ((A:Int)-1)*2)+1),none⟩)) (Y.fieldAddr (fd:=(P8 prog 63 1)) underlying63 (by kernel_rfl) sizeOf61 rfl rfl) ?_;refine Head.done ?_;refine Seq.o ?_;refine AV.store (T:=61) (ty:=0) (x:=(.tmp 54)) (y:=(.tmp 52)) (p:=(.pointer (some ⟨sK,((sL+Int.toNat ((A:Int)-1)*2)+1),none⟩))) (v:=(.slice qg n52 qh)) (gd:=none) (by kernel_rfl) rfl rfl rfl (h.mono (λ_ Ha h2=>?_));replace h:=h2;clear h2;refine Seq.done ?_;refine At.inBlock ?_;exact At.T7 rfl h.1 h.2
  | false=>
   replace h:=h.2 (Aff hb)
   refine At.cF 40 K41 K42 ?_;refine At.rg 14 [0,1,2,3,4] ?_;obtain⟨Jg,Iq,JS,hl,h⟩:=h;refine Seq.z 55 (.load 44 (.tmp 7)) 44 (.slice Jg Iq JS) (Y.ld isAgg44 rfl hl) ?_;obtain⟨NB,NC,ND,KU,KV,KW,hl,h⟩:=h;refine Seq.z 56 (.load 63 (.tmp 8)) 63 (.agg #[(.slice NB NC ND),(.slice KU KV KW)]) (Y.lda isAgg63 sizeOf63 rfl rfl hl) ?_;refine Seq.o ?_;refine AV.Lp (T:=44) (E:=63) (m:=1) (ps:=#[(0,(.tmp 56))]) (d:=(some 57)) (ty:=44) (gd:=none) (vs:=[(0,(.agg #[(.slice NB NC ND),(.slice KU KV KW)]))]) (cs:=#[(.slice NB NC ND),(.slice KU KV KW)]) underlying44 (by kernel_rfl) rfl rfl rfl (by kernel_rfl) (λHK hn=>?_)
   replace h:=h HK hn
   refine Seq.o ?_;refine AV.PJ (d:=(some 58)) (op:=(.call { callee:=.builtin .append,args:=#[(.tmp 55),(.tmp 57)],argTypes:=#[44,44] })) (ty:=44) (gd:=none) (by kernel_rfl) rfl rfl (Builtin.append_ #[44,44] 44 #[(.slice Jg Iq JS),(.slice (some ⟨HK,0,none⟩) 1 1)]) (λo ho ht=>JC rfl rfl o ho ht) (h.mono (λbB E0 h2=>?_));replace h:=h2;clear h2;obtain⟨bC,bD,bE,rfl,h⟩:=h;refine Seq.o ?_;refine AV.store (T:=44) (ty:=0) (x:=(.tmp 7)) (y:=(.tmp 58)) (p:=(.pointer (some ⟨b7,0,none⟩))) (v:=(.slice bC bD bE)) (gd:=none) (by kernel_rfl) rfl rfl rfl (h.mono (λ_ Ha h2=>?_));replace h:=h2;clear h2;refine Seq.done ?_;refine At.L [] λJ=>?_;refine At.inBlock ?_;exact At.T7 rfl h.1 h.2
 | false=>
  replace h:=h.2 (Aff hb)
  refine Head.n 30 ?_;refine Head.n 31 ?_;refine Head.n 32 ?_;refine Head.n 33 ?_;refine Head.n 34 ?_;refine Head.n 35 ?_;refine Head.n 36 ?_;refine Head.n 37 ?_;refine Head.o (q':=(some [])) rfl ?_;refine AV.no (d:=(some 38)) (op:=(.call { callee:=.value (.func 66),args:=#[(.tmp 35),(.tmp 37)],argTypes:=#[51,51] })) (ty:=3) (gd:=some (2,true)) (by kernel_rfl) rfl rfl ?_;refine⟨Ks.refl _ _ _,?_⟩;refine Head.n 39 ?_;refine Head.u 40 (.bool false) ?_;refine Head.done ?_;refine Seq.done ?_;refine At.cF 40 K41 K42 ?_;refine At.rg 14 [0,1,2,3,4] ?_;obtain⟨Jg,Iq,JS,hl,h⟩:=h;refine Seq.z 55 (.load 44 (.tmp 7)) 44 (.slice Jg Iq JS) (Y.ld isAgg44 rfl hl) ?_;obtain⟨NB,NC,ND,KU,KV,KW,hl,h⟩:=h;refine Seq.z 56 (.load 63 (.tmp 8)) 63 (.agg #[(.slice NB NC ND),(.slice KU KV KW)]) (Y.lda isAgg63 sizeOf63 rfl rfl hl) ?_;refine Seq.o ?_;refine AV.Lp (T:=44) (E:=63) (m:=1) (ps:=#[(0,(.tmp 56))]) (d:=(some 57)) (ty:=44) (gd:=none) (vs:=[(0,(.agg #[(.slice NB NC ND),(.slice KU KV KW)]))]) (cs:=#[(.slice NB NC ND),(.slice KU KV KW)]) underlying44 (by kernel_rfl) rfl rfl rfl (by kernel_rfl) (λHK hn=>?_)
  replace h:=h HK hn
  refine Seq.o ?_;refine AV.PJ (d:=(some 58)) (op:=(.call { callee:=.builtin .append,args:=#[(.tmp 55),(.tmp 57)],argTypes:=#[44,44] })) (ty:=44) (gd:=none) (by kernel_rfl) rfl rfl (Builtin.append_ #[44,44] 44 #[(.slice Jg Iq JS),(.slice (some ⟨HK,0,none⟩) 1 1)]) (λo ho ht=>JC rfl rfl o ho ht) (h.mono (λv D2 h2=>?_));replace h:=h2;clear h2;obtain⟨bC,bD,bE,rfl,h⟩:=h;refine Seq.o ?_;refine AV.store (T:=44) (ty:=0) (x:=(.tmp 7)) (y:=(.tmp 58)) (p:=(.pointer (some ⟨b7,0,none⟩))) (v:=(.slice bC bD bE)) (gd:=none) (by kernel_rfl) rfl rfl rfl (h.mono (λ_ E0 h2=>?_));replace h:=h2;clear h2;refine Seq.done ?_;refine At.inBlock ?_;exact At.T7 rfl h.1 h.2
end Dg
namespace HB
variable {q0 p1 p7:Option Addr}{n1 c1 b2 b3 n7 c7:Nat}{x8 x9:Int}
def M:Fw:=⟨prog,61,f61,[72],[],false,[],[],[(104,[(2,wA),(3,wA),(7,wL),(8,wI),(9,wI)])]⟩
def ok:M.Ok:=⟨.cons call72 (AN.nil),mixed,func61,by kernel_rfl⟩
def HA:=M.pt 0
def start (h:Al Z22 λb2=>Al (Hp.set Z22 b2 (.cells #[.pointer q0] 71 (0,0))) λb3=>LS (Hp.set (Hp.set Z22 b2 (.cells #[.pointer q0] 71 (0,0))) b3 (.cells #[.slice p1 n1 c1] 72 (0,0))) b3 0 λp7 n7 c7=>HA R b2 b3 p7 n7 c7 (n7:Int) 0 (Hp.set (Hp.set Z22 b2 (.cells #[.pointer q0] 71 (0,0))) b3 (.cells #[.slice p1 n1 c1] 72 (0,0)))):Spec prog 61 #[.pointer q0,.slice p1 n1 c1] Z22 R:=M.start h ok
def Bi (h:Br (x9<x8) (Pq p7 λG A=>In x9 (n7:Int)/\LS Z22 G (A+x9.toNat*1) λGe n12 c12=>Br (65536<(n12:Int)) (R (.returned (.I 70)) Z22) (AK (x9+1)/\HA R b2 b3 (aD G A) n7 c7 x8 (x9+1) Z22)) (AO 72 #[(.func (.func 129) #[] #[(.pointer (aD b2 0)),(.pointer (aD b3 0))])] Z22 R (CI .i64 λTI y=>R (.returned (.I TI)) y))):HA R b2 b3 p7 n7 c7 x8 x9 Z22:=M.of h ok rfl
end HB
namespace Nl
variable {p0 p1:Option Addr}{n0 c0 n1 c1:Nat}
def M:Fw:=⟨prog,66,f66,[133],[],false,[],[],[]⟩
def ok:M.Ok:=⟨.cons call133 (AN.nil),mixed,func66,by kernel_rfl⟩
def start (h:AO 133 #[.slice p0 n0 c0,.slice p1 n1 c1,(.func (.func 134) #[] #[])] Z22 R (CI .i64 λx7 y=>R (.returned (.I x7)) y)):Spec prog 66 #[.slice p0 n0 c0,.slice p1 n1 c1] Z22 R:=M.start h ok
end Nl
namespace HQ
variable {q0:Option Addr}{v1 v2 v3:Value}
def M:Fw:=⟨prog,90,f90,[63],[],true,[],[],[]⟩
def ok:M.Ok:=⟨.cons call63 (AN.nil),mixed,func90,by kernel_rfl⟩
def start (h:Pq q0 λG A=>LB Z22 G (A+1) λt13=>Bn t13 (R (.returned (.I 60)) Z22) (∃(f16:Nat) (SQ SR:Array Value),v1=.func (.func f16) SQ SR/\Enters prog f16/\Spec prog f16 (SQ++#[]++SR) Z22 (BI R (CI .i64 λEl y=>Br (El≠0) (R (.returned (.I El)) y) (LI .u64 y G (A+5) λbF=>Df (IntKind.u64.wrap (bF+1)) λEJ=>AH prog (Instr.storeAt 23 (.pointer (aD G (A+5))) (.U EJ)) y (λ_ AG=>LB AG G (A+2) λt30=>Bo t30 (LI .i64 AG G (A+3) λxl=>Br (xl=0) (∃(f39:Nat) (ABr ABs:Array Value),v3=.func (.func f39) ABr ABs/\Enters prog f39/\Spec prog f39 (ABr++#[]++ABs) AG (BI R (λz AQ=>z=(.tuple #[])/\LI .i64 AQ G (A+4) λsM=>AO 63 #[(.pointer (aD G A)),.I sM] AQ R (λz A5=>z=(.tuple #[])/\R (.returned (.I 60)) A5)))) (LI .i64 AG G (A+3) λYl=>Df (IntKind.i64.wrap (Yl-1)) λV8=>AH prog (Instr.storeAt 3 (.pointer (aD G (A+3))) (.I V8)) AG (λ_ AQ=>∃(f54:Nat) (SS SU:Array Value),v2=.func (.func f54) SS SU/\Enters prog f54/\Spec prog f54 (SS++#[]++SU) AQ (BI R (λz A5=>z=(.tuple #[])/\R (.returned (.I 0)) A5))))) (LI .i64 AG G (A+3) λYl=>Df (IntKind.i64.wrap (Yl-1)) λV8=>AH prog (Instr.storeAt 3 (.pointer (aD G (A+3))) (.I V8)) AG (λ_ AQ=>∃(f54:Nat) (SS SU:Array Value),v2=.func (.func f54) SS SU/\Enters prog f54/\Spec prog f54 (SS++#[]++SU) AQ (BI R (λz A5=>z=(.tuple #[])/\R (.returned (.I 0)) A5)))))))))):Spec prog 90 #[.pointer q0,v1,v2,v3] Z22 R:=M.F5 h ok [(0,.o (.Q q0)),(1,.o (.V v1)),(2,.o (.V v2)),(3,.o (.V v3))] rfl rfl (by kernel_rfl)
end HQ
namespace SX
variable {P2 x1:Int}{qi:Option Addr}{oG sN:Nat}
def M:Fw:=⟨prog,100,f100,[170],[2],false,[],[],[]⟩
def ok:M.Ok:=⟨.cons call170 (AN.nil),mixed,func100,by kernel_rfl⟩
def start (h:∀b2:Nat,Al Z22 λb3=>AO 170 #[.slice qi oG sN,(.func (.func 171) #[] #[(.pointer (aD b3 0))])] (Hp.set Z22 b3 (.cells #[.I x1] 3 (0,0))) R (CI .i64 λx8 y=>R (.returned (.I x8)) y)):Spec prog 100 #[.agg #[.U P2,.slice qi oG sN],.I x1] Z22 R:=M.start h ok
end SX
namespace SY
variable {p0:Option Addr}{n0 c0:Nat}
def M:Fw:=⟨prog,116,f116,[],[],false,[],[],[]⟩
def ok:M.Ok:=⟨AN.nil,mixed,func116,by kernel_rfl⟩
def start (h:Al Z22 λb1=>R (.returned (.func (.func 190) #[] #[(.pointer (aD b1 0))])) (Hp.set Z22 b1 (.cells #[.slice p0 n0 c0] 115 (0,0)))):Spec prog 116 #[.slice p0 n0 c0] Z22 R:=M.start h ok
end SY
namespace Kw
variable {q0:Option Addr}
def M:Fw:=⟨prog,119,f119,[],[2],false,[(1,12,true)],[],[]⟩
def ok:M.Ok:=⟨AN.nil,mixed,func119,by kernel_rfl⟩
def start (h:∀b2:Nat,Pq q0 λb4 o4=>LS Z22 b4 (o4+1) λp6 n6 c6=>LS Z22 b4 (o4+1) λJQ n10 IU=>AK ((n10:Int)-1)/\Pq p6 λHR xm=>In (((n10:Int)-1)) (n6:Int)/\∃G A,Bm Z22 HR (xm+Int.toNat ((n10:Int)-1)*2) [.I G,.U A]/\R (.returned (.agg #[.I G,.U A])) Z22):Spec prog 119 #[.pointer q0] Z22 R:=M.start h ok
end Kw
namespace CU
variable {p0:Option Addr}{n0 c0:Nat}{x1 x7 x8:Int}
def M:Fw:=⟨prog,126,f126,[],[],false,[],[],[(104,[(0,wL),(1,wU),(7,wI),(8,wI)])]⟩
def ok:M.Ok:=⟨AN.nil,mixed,func126,by kernel_rfl⟩
def HA:=M.pt 0
def start (h:HA R p0 n0 c0 x1 (n0:Int) 0 Z22):Spec prog 126 #[.slice p0 n0 c0,.U x1] Z22 R:=M.start h ok
def Bi (h:Br (x8<x7) (Pq p0 λA G=>In x8 (n0:Int)/\LI .u64 Z22 A (G+x8.toNat*1) λDA=>Br (x1=DA) (R (.returned (.I x8)) Z22) (AK (x8+1)/\HA R (aD A G) n0 c0 x1 x7 (x8+1) Z22)) (R (.returned (.I (-1))) Z22)):HA R p0 n0 c0 x1 x7 x8 Z22:=M.of h ok rfl
end CU
namespace Kx
variable {q0 p2:Option Addr}{s1:ByteArray}{n2 c2:Nat}
def M:Fw:=⟨prog,130,f130,[77,109,110,139,199,200],[],false,[(0,8,false),(1,6,false),(2,7,false)],[],[]⟩
def ok:M.Ok:=⟨.cons call77 (.cons call109 (.cons call110 (.cons call139 (.cons call199 (.cons call200 (AN.nil)))))),mixed,func130,by kernel_rfl⟩
def start (h:Pq q0 λb7 A=>LQ Z22 b7 A λq9=>AO 139 #[(.pointer (aD b7 A))] Z22 R (CT λs11 y=>Kp [b7] Z22 y/\AO 199 #[.slice p2 n2 c2] y R (CS λFe n13 FO AG=>Kp [b7] y AG/\AO 110 #[.pointer q9,.string s11,.slice Fe n13 FO] AG R (CI .i64 λDY AQ=>AO 77 #[.I DY] AQ R (λz G=>z=(.tuple #[])/\LQ G b7 A λxo=>AO 139 #[(.pointer (aD b7 A))] G R (CT λs21 Cn=>Kp [b7] G Cn/\AO 109 #[.pointer xo,.string s21] Cn R (CI .i64 λIr EU=>AO 77 #[.I Ir] EU R (λz QI=>z=(.tuple #[])/\LQ QI b7 A λq27=>AO 139 #[(.pointer (aD b7 A))] QI R (CT λs29 qj=>Kp [b7] QI qj/\AO 200 #[.pointer q27,.string s29,.string s1] qj R (CI .i64 λLN xp=>AO 77 #[.I LN] xp R (λz LO=>z=(.tuple #[])/\R (.T #[]) LO))))))))))):Spec prog 130 #[.pointer q0,.string s1,.slice p2 n2 c2] Z22 R:=M.start h ok
end Kx
namespace Em
variable {q0 p2 JQ:Option Addr}{s1:ByteArray}{n2 c2 n10 IU:Nat}{CR:Int}
def M:Fw:=⟨prog,141,f141,[29,31,76,77,130,204],[],false,[(9,10,false)],[],[(4048,[(0,wQ),(1,wT),(2,wL),(10,wL),(12,wI)]),(510,[(10,wL)])]⟩
def ok:M.Ok:=⟨.cons call29 (.cons call31 (.cons call76 (.cons call77 (.cons call130 (.cons call204 (AN.nil)))))),mixed,func141,by kernel_rfl⟩
def TJ:=M.pt 0
def AEf:=M.pt 1
def start (h:Pq q0 λXO im=>LQ Z22 XO im λq17=>AO 29 #[.pointer q17,.string s1] Z22 R (λz y=>∃sP sQ sR oH,z=(.tuple #[.slice sP sQ sR,.I oH])/\AO 77 #[.I oH] y R (λz AG=>z=(.tuple #[])/\AO 204 #[.slice sP sQ sR] AG R (λz AQ=>∃A G AEi AIk,z=(.tuple #[.slice A G AEi,.bool AIk])/\Bn AIk (R (.T #[.slice A G AEi,.bool true]) AQ) (AK ((n2:Int)-1)/\TJ R (aD XO im) s1 p2 n2 c2 A G AEi (((n2:Int)-1)) AQ))))):Spec prog 141 #[.pointer q0,.string s1,.slice p2 n2 c2] Z22 R:=M.start h ok
def Mi (h:Br (0<=CR) (Pq q0 λYm bG=>LQ Z22 Ym bG λq42=>Pq p2 λA G=>In CR (n2:Int)/\LI .i64 Z22 A (G+CR.toNat*1) λXP=>AO 76 #[(.pointer (aD Ym bG)),(.string (ByteArray.mk #[115])),.I XP] Z22 R (CT λs48 y=>Kp [Ym] Z22 y/\AO 31 #[.pointer q42,.string s48] y R (CI .i64 λYl AG=>AO 77 #[.I Yl] AG R (λz AQ=>z=(.tuple #[])/\AK (CR-1)/\TJ R (aD Ym bG) s1 (aD A G) n2 c2 JQ n10 IU (CR-1) AQ)))) (Br (0<(n10:Int)) (AO 130 #[.pointer q0,.string s1,.slice JQ n10 IU] Z22 R (λz y=>z=(.tuple #[])/\AEf R JQ n10 IU y)) (Pq q0 λMj RG=>LQ Z22 Mj RG λq61=>AO 31 #[.pointer q61,.string s1] Z22 R (CI .i64 λsS y=>AO 77 #[.I sS] y R (λz AG=>z=(.tuple #[])/\AEf R JQ n10 IU AG))))):TJ R q0 s1 p2 n2 c2 JQ n10 IU CR Z22:=M.of h ok rfl
def lQ (h:R (.T #[.slice JQ n10 IU,.bool false]) Z22):AEf R JQ n10 IU Z22:=M.of h ok rfl
end Em
namespace H7
variable {b0 b1 b2:Nat}
def M:Fw:=⟨prog,181,f181,[71],[],false,[(4,30,true)],[],[]⟩
def ok:M.Ok:=⟨.cons call71 (AN.nil),mixed,func181,by kernel_rfl⟩
def start (h:LT Z22 b0 0 λs5=>AO 71 #[.string s5] Z22 R (CB λt6 y=>Bn t6 (R (.returned (.I 61)) y) (LQ y b1 0 λq8=>Pq q8 λb9 o9=>LM y b9 o9 λm11=>LT y b0 0 λs12=>AH prog (Instr.lookup 91 (.map m11) (.string s12) false) y (CQ λIY A=>Bo (Option.isNone IY) (LQ A b1 0 λq17=>Pq q17 λPS bH=>LM A PS bH λm20=>∃En,YF prog (Builtin.len_ #[91] 3 #[.map m20]) A (.I En)/\Br (1048576<=En) (R (.returned (.I 63)) A) (LS A b2 0 λXQ n24 c24=>Br (4194304<(n24:Int)) (R (.returned (.I 63)) A) (Bo (Option.isSome IY) (LS A b2 0 λp33 n33 c33=>Pq IY λG o36=>LS A G o36 λgC n38 bA=>AK (4194304-(n38:Int))/\Br (((4194304-(n38:Int)):Int)<(n33:Int)) (R (.returned (.I 63)) A) (R (.returned (.I 0)) A)) (R (.returned (.I 0)) A)))) (Bo (Option.isSome IY) (LS A b2 0 λp33 n33 c33=>Pq IY λG o36=>LS A G o36 λgC n38 bA=>AK (4194304-(n38:Int))/\Br (((4194304-(n38:Int)):Int)<(n33:Int)) (R (.returned (.I 63)) A) (R (.returned (.I 0)) A)) (R (.returned (.I 0)) A)))))):Spec prog 181 #[(.pointer (aD b0 0)),(.pointer (aD b1 0)),(.pointer (aD b2 0))] Z22 R:=M.start h ok
end H7
namespace SZ
def M:Fw:=⟨prog,186,f186,[],[],false,[],[],[]⟩
def ok:M.Ok:=⟨AN.nil,mixed,func186,by kernel_rfl⟩
def start (h:Al Z22 λb1=>R (.returned (.slice (aD b1 0) 5 5)) (Hp.set Z22 b1 (.cells #[.nilFunc,(.func (.func 237) #[] #[]),(.func (.func 238) #[] #[]),(.func (.func 239) #[] #[]),(.func (.func 240) #[] #[])] 259 (0,0)))):Spec prog 186 #[] Z22 R:=M.start h ok
end SZ
namespace Lw
variable {p0 p3 p8:Option Addr}{n0 c0 n3 c3 n8 c8:Nat}{x9 FE:Int}
def M:Fw:=⟨prog,199,f199,[106],[],false,[],[],[(232,[(3,wL),(8,wL),(9,wI),(10,wI)])]⟩
def ok:M.Ok:=⟨.cons call106 (AN.nil),mixed,func199,by kernel_rfl⟩
def A3:=M.pt 0
def start (h:A3 R none 0 0 p0 n0 c0 (n0:Int) 0 Z22):Spec prog 199 #[.slice p0 n0 c0] Z22 R:=M.start h ok
def AY (h:Br (FE<x9) (Pq p8 λIs JT=>In FE (n8:Int)/\LS Z22 Is (JT+FE.toNat*1) λFe n13 FO=>AO 106 #[.slice Fe n13 FO] Z22 R (λz y=>∃A G AIo y4,z=(.tuple #[.slice A G AIo,.I y4])/\AH prog (Builtin.append_ #[79,79] 79 #[.slice p3 n3 c3,.slice A G AIo]) y (CS λp21 n21 c21 AG=>AK (FE+1)/\A3 R p21 n21 c21 (aD Is JT) n8 c8 x9 (FE+1) AG))) (R (.returned (.slice p3 n3 c3)) Z22)):A3 R p3 n3 c3 p8 n8 c8 x9 FE Z22:=M.of h ok rfl
end Lw
namespace Jh
variable {q0:Option Addr}{s1 s2:ByteArray}
def M:Fw:=⟨prog,200,f200,[90],[],false,[],[],[]⟩
def ok:M.Ok:=⟨.cons call90 (AN.nil),mixed,func200,by kernel_rfl⟩
def start (h:Al Z22 λb3=>Al (Hp.set Z22 b3 (.cells #[.pointer q0] 36 (0,0))) λb4=>Al (Hp.set (Hp.set Z22 b3 (.cells #[.pointer q0] 36 (0,0))) b4 (.cells #[.string s1] 9 (0,0))) λb5=>LQ (Hp.set (Hp.set (Hp.set Z22 b3 (.cells #[.pointer q0] 36 (0,0))) b4 (.cells #[.string s1] 9 (0,0))) b5 (.cells #[.string s2] 9 (0,0))) b3 0 λq7=>AO 90 #[.pointer q7,(.func (.func 244) #[] #[(.pointer (aD b5 0)),(.pointer (aD b3 0)),(.pointer (aD b4 0))]),(.func (.func 245) #[] #[(.pointer (aD b3 0)),(.pointer (aD b4 0)),(.pointer (aD b5 0))]),(.func (.func 93) #[] #[])] (Hp.set (Hp.set (Hp.set Z22 b3 (.cells #[.pointer q0] 36 (0,0))) b4 (.cells #[.string s1] 9 (0,0))) b5 (.cells #[.string s2] 9 (0,0))) R (CI .i64 λFE y=>R (.returned (.I FE)) y)):Spec prog 200 #[.pointer q0,.string s1,.string s2] Z22 R:=M.start h ok
end Jh
namespace DK
variable {s0 s1:ByteArray}
def M:Fw:=⟨prog,247,f247,[142],[],false,[],[],[]⟩
def ok:M.Ok:=⟨.cons call142 (AN.nil),mixed,func247,by kernel_rfl⟩
def start (h:AO 142 #[.string s0,.string s1] Z22 R (CB λt8 y=>Bn t8 (R (.T #[.string s0,.bool false]) y) (∃A,YF prog (Instr.sliceAt 9 (.string s0) (some (.I (s1.size:Int))) none none) y (.string A)/\R (.T #[.string A,.bool true]) y))):Spec prog 247 #[.string s0,.string s1] Z22 R:=M.start h ok
end DK
end TwW
end
end
section
set_option maxRecDepth 100000
noncomputable section
namespace TwW
open Go Tw Go.Proofs.Tryz
variable [I9]{R:Rr}{Z22:Hp}

namespace EE
variable {q0 oI p3a q7:Option Addr}{oJ oK n3a c3a:Nat}{dF x1c x5 sT x3c:Int}
def M:Fw:=⟨prog,49,f49,[102,103,111],[3],false,[(8,14,false)],[],[(30,[(5,wI)]),(471,[(3,.X 53 [.L,.I .i64,.I .u64]),(5,wI),(7,wQ)])]⟩
def ok:M.Ok:=⟨.cons call102 (.cons call103 (.cons call111 (AN.nil))),mixed,func49,by kernel_rfl⟩
def TJ:=M.pt 0
def H8:=M.pt 1
def start (h:∀b3:Nat,AO 103 #[.pointer q0,.agg #[.slice oI oJ oK,.I dF,.U x1c]] Z22 R (CI .i64 λFE y=>Br (FE=1) (AO 102 #[.slice oI oJ oK] y R (CS λLL n15 Hu AG=>AH prog (convert 79 9 (.slice LL n15 Hu)) AG (CT λG AQ=>Pq q0 λPS bH=>LM AQ PS bH λm21=>AH prog (Instr.lookup 170 (.map m21) (.string G) false) AQ (CQ λA A5=>Bo (Option.isNone A) (Al A5 λHP=>AH prog (Builtin.append_ #[51,51] 51 #[(.slice (aD HP 0) 0 0),.slice oI oJ oK]) (Hp.set A5 HP (.cells #[] 95 (0,0))) (CS λp29 n29 c29 Cn=>Al Cn λF8=>AO 111 #[(.pointer (aD PS bH)),.string G,(.pointer (aD F8 0))] (Hp.set Cn F8 (.cells #[.slice p29 n29 c29,.N] 185 (0,0))) R (λz EU=>z=(.tuple #[])/\H8 R oI oJ oK dF x1c FE (aD F8 0) EU))) (H8 R oI oJ oK dF x1c FE A A5))))) (TJ R FE y))):Spec prog 49 #[.pointer q0,.agg #[.slice oI oJ oK,.I dF,.U x1c]] Z22 R:=M.start h ok
def Mi (h:R (.returned (.I x5)) Z22):TJ R x5 Z22:=M.of h ok rfl
def G0 (h:Pq q7 λYm bG=>LS Z22 Ym (bG+1) λp42 n42 G=>Al Z22 λA=>AH prog (HO 61 p42 n42 G A) (Hp.set Z22 A (.cells #[.I sT,.U x3c] 66 (0,0))) (CS λil n49 c49 y=>AH prog (Instr.storeAt 61 (.pointer (aD Ym (bG+1))) (.slice il n49 c49)) y (λ_ AG=>TJ R x5 AG))):H8 R p3a n3a c3a sT x3c x5 q7 Z22:=M.gB h ok rfl λ_=>by kernel_rfl
end EE
namespace BJ
variable {q0 p3 Fe p7 P3 y6 p9b y3:Option Addr}{n3 c3 n13 FO n7 c7 n28 c28 y7 y8 n9b c9b n35 xk:Nat}{DY DA Sa bI gF Yn:Int}{s5:ByteArray}
def M:Fw:=⟨prog,62,f62,[38,45,51],[9,11],false,[],[],[(232,[(0,wQ),(3,wL),(13,wL),(14,wI),(15,wI)]),(935,[(0,wQ),(3,wL),(13,wL),(14,wI),(15,wI)]),(956904,[(0,wQ),(3,wL),(5,wT),(7,wL),(13,wL),(14,wI),(15,wI),(28,wL),(29,wI),(30,wI)]),(244967832,[(0,wQ),(3,wL),(5,wT),(7,wL),(9,.X 63 [.L,.L]),(13,wL),(14,wI),(15,wI),(28,wL),(29,wI),(30,wI),(35,wL),(36,wI),(37,wI)])]⟩
def ok:M.Ok:=⟨.cons call38 (.cons call45 (.cons call51 (AN.nil))),mixed,func62,by kernel_rfl⟩
def A3:=M.pt 0
def Yo:=M.pt 1
def iq:=M.pt 2
def E2:=M.pt 3
def start (h:AO 38 #[.pointer q0] Z22 R (CS λFe n13 FO y=>A3 R q0 none 0 0 Fe n13 FO (n13:Int) 0 y)):Spec prog 62 #[.pointer q0] Z22 R:=M.start h ok
def AY (h:Br (DA<DY) (Pq Fe λG Th=>In DA (n13:Int)/\LT Z22 G (Th+DA.toNat*1) λdG=>Pq q0 λNn RH=>LM Z22 Nn (RH+6) λm22=>AH prog (Instr.lookup 75 (.map m22) (.string dG) false) Z22 (CQ λA y=>Bo (Option.isNone A) (Yo R (aD Nn RH) p3 n3 c3 (aD G Th) n13 FO DY DA y) (AO 51 #[.pointer A,.N,(.I (-1099511627776)),.I 1099511627776] y R (CS λP3 n28 c28 AG=>iq R (aD Nn RH) p3 n3 c3 dG none 0 0 (aD G Th) n13 FO DY DA P3 n28 c28 (n28:Int) 0 AG)))) (R (.returned (.slice p3 n3 c3)) Z22)):A3 R q0 p3 n3 c3 Fe n13 FO DY DA Z22:=M.of h ok rfl
def Yp (h:AK (DA+1)/\A3 R q0 p3 n3 c3 Fe n13 FO DY (DA+1) Z22):Yo R q0 p3 n3 c3 Fe n13 FO DY DA Z22:=M.of h ok rfl
def Ti (h:Br (bI<Sa) (Pq P3 λb32 o32=>In bI (n28:Int)/\∃AIp AIq AIr A y9 G,Bm Z22 b32 (o32+bI.toNat*2) [.slice AIp AIq AIr,.slice A y9 G]/\∀b9:Nat,E2 R q0 p3 n3 c3 s5 p7 n7 c7 AIp AIq AIr A y9 G Fe n13 FO DY DA (aD b32 o32) n28 c28 Sa bI A y9 G (y9:Int) 0 Z22) (AO 45 #[.string s5,.slice p7 n7 c7] Z22 R (CS λp56 n56 c56 y=>AH prog (Builtin.append_ #[72,72] 72 #[.slice p3 n3 c3,.slice p56 n56 c56]) y (CS λp57 n57 c57 AG=>Yo R q0 p57 n57 c57 Fe n13 FO DY DA AG)))):iq R q0 p3 n3 c3 s5 p7 n7 c7 Fe n13 FO DY DA P3 n28 c28 Sa bI Z22:=M.of h ok rfl
end BJ
namespace FU
variable {p0:Option Addr}{n0 c0:Nat}{x1 x7 x8:Int}
def M:Fw:=⟨prog,81,f81,[],[],false,[],[],[(976,[(0,wL),(1,wI),(7,wU),(8,wI)])]⟩
def ok:M.Ok:=⟨AN.nil,mixed,func81,by kernel_rfl⟩
def KX:=M.pt 0
def start (h:Br (x1<0) (R (.T #[.U 0,.I 0,.I 20]) Z22) (Br ((n0:Int)<x1) (R (.T #[.U 0,.I 0,.I 20]) Z22) (KX R p0 n0 c0 x1 0 0 Z22))):Spec prog 81 #[.slice p0 n0 c0,.I x1] Z22 R:=M.start h ok
def Mk (h:AK (x1+x8)/\Br (((x1+x8):Int)<(n0:Int)) (AK (x1+x8)/\Pq p0 λYq Yr=>In (x1+x8) (n0:Int)/\LI .u8 Z22 Yq (Yr+Int.toNat (x1+x8)*1) λA=>Br (x8=9) (Br (1<A) (R (.T #[.U 0,.I 0,.I 21]) Z22) (Br (0<x8) (Br (A=0) (R (.T #[.U 0,.I 0,.I 21]) Z22) (Df (Go.bits .and .u8 A 127) λLj=>Df (IntKind.u64.wrap Lj) λYl=>AK (7*x8)/\((0:Int)<=(7*x8)/\(7*x8)<=((IntKind.bits .u64:Nat):Int))/\Df (IntKind.u64.wrap (Yl*2^Int.toNat (7*x8))) λG=>Df (Go.bits .or .u64 x7 G) λJH=>Br (A<128) (AK (x1+x8)/\AK ((x1+x8)+1)/\R (.T #[.U JH,(.I ((x1+x8)+1)),.I 0]) Z22) (AK (x8+1)/\KX R (aD Yq Yr) n0 c0 x1 JH (x8+1) Z22))) (Df (Go.bits .and .u8 A 127) λLj=>Df (IntKind.u64.wrap Lj) λYl=>AK (7*x8)/\((0:Int)<=(7*x8)/\(7*x8)<=((IntKind.bits .u64:Nat):Int))/\Df (IntKind.u64.wrap (Yl*2^Int.toNat (7*x8))) λG=>Df (Go.bits .or .u64 x7 G) λJH=>Br (A<128) (AK (x1+x8)/\AK ((x1+x8)+1)/\R (.T #[.U JH,(.I ((x1+x8)+1)),.I 0]) Z22) (AK (x8+1)/\KX R (aD Yq Yr) n0 c0 x1 JH (x8+1) Z22)))) (Br (0<x8) (Br (A=0) (R (.T #[.U 0,.I 0,.I 21]) Z22) (Df (Go.bits .and .u8 A 127) λLj=>Df (IntKind.u64.wrap Lj) λYl=>AK (7*x8)/\((0:Int)<=(7*x8)/\(7*x8)<=((IntKind.bits .u64:Nat):Int))/\Df (IntKind.u64.wrap (Yl*2^Int.toNat (7*x8))) λG=>Df (Go.bits .or .u64 x7 G) λJH=>Br (A<128) (AK (x1+x8)/\AK ((x1+x8)+1)/\R (.T #[.U JH,(.I ((x1+x8)+1)),.I 0]) Z22) (AK (x8+1)/\KX R (aD Yq Yr) n0 c0 x1 JH (x8+1) Z22))) (Df (Go.bits .and .u8 A 127) λLj=>Df (IntKind.u64.wrap Lj) λYl=>AK (7*x8)/\((0:Int)<=(7*x8)/\(7*x8)<=((IntKind.bits .u64:Nat):Int))/\Df (IntKind.u64.wrap (Yl*2^Int.toNat (7*x8))) λG=>Df (Go.bits .or .u64 x7 G) λJH=>Br (A<128) (AK (x1+x8)/\AK ((x1+x8)+1)/\R (.T #[.U JH,(.I ((x1+x8)+1)),.I 0]) Z22) (AK (x8+1)/\KX R (aD Yq Yr) n0 c0 x1 JH (x8+1) Z22)))) (R (.T #[.U 0,.I 0,.I 20]) Z22)):KX R p0 n0 c0 x1 x7 x8 Z22:=M.of h ok rfl
end FU
namespace Ky
variable {q0:Option Addr}{s1:ByteArray}
def M:Fw:=⟨prog,86,f86,[71],[],false,[],[],[]⟩
def ok:M.Ok:=⟨.cons call71 (AN.nil),mixed,func86,by kernel_rfl⟩
def start (h:AO 71 #[.string s1] Z22 R (CB λt6 y=>Bn t6 (R (.returned (.I 61)) y) (Pq q0 λb9 o9=>LM y b9 o9 λA=>AH prog (Instr.lookup 91 (.map A) (.string s1) false) y (CQ λIY G=>Bo (Option.isNone IY) (R (.returned (.I 62)) G) (R (.returned (.I 0)) G))))):Spec prog 86 #[.pointer q0,.string s1] Z22 R:=M.start h ok
end Ky
namespace H9
variable {b0 b1:Nat}
def M:Fw:=⟨prog,92,f92,[],[],false,[(0,5,true)],[],[]⟩
def ok:M.Ok:=⟨AN.nil,mixed,func92,by kernel_rfl⟩
def start (h:LQ Z22 b0 0 λq2=>Pq q2 λb3 A=>LM Z22 b3 A λm5=>LT Z22 b1 0 λG=>AH prog (Builtin.delete_ #[91,9] 0 #[.map m5,.string G]) Z22 (λ_ y=>R (.T #[]) y)):Spec prog 92 #[(.pointer (aD b0 0)),(.pointer (aD b1 0))] Z22 R:=M.start h ok
end H9
namespace QJ
def M:Fw:=⟨prog,93,f93,[],[],false,[],[],[]⟩
def ok:M.Ok:=⟨AN.nil,mixed,func93,by kernel_rfl⟩
def start (h:R (.T #[]) Z22):Spec prog 93 #[] Z22 R:=M.start h ok
end QJ
namespace B0
variable {x0:Int}{b1:Nat}
def M:Fw:=⟨prog,99,f99,[],[],false,[],[],[]⟩
def ok:M.Ok:=⟨AN.nil,mixed,func99,by kernel_rfl⟩
def start (h:LI .u64 Z22 b1 0 λx5=>R (.returned (.bool (decide (x0=x5)))) Z22):Spec prog 99 #[.U x0,(.pointer (aD b1 0))] Z22 R:=M.start h ok
end B0
namespace Sb
variable {p0:Option Addr}{n0 c0:Nat}
def M:Fw:=⟨prog,106,f106,[175,177],[],false,[],[],[]⟩
def ok:M.Ok:=⟨.cons call175 (.cons call177 (AN.nil)),mixed,func106,by kernel_rfl⟩
def start (h:Br (65536<(n0:Int)) (R (.T #[.N,.I 23]) Z22) (AO 177 #[.slice p0 n0 c0] Z22 R (CI .u32 λFE y=>Df (IntKind.u64.wrap (n0:Int)) λJU=>AO 175 #[.N,.U JU] y R (CS λp14 n14 zA AG=>((0:Int)<=24/\24<=((IntKind.bits .u32:Nat):Int))/\Df (FE/2^Int.toNat 24) λEl=>Df (IntKind.u8.wrap El) λC3=>((0:Int)<=16/\16<=((IntKind.bits .u32:Nat):Int))/\Df (FE/2^Int.toNat 16) λNF=>Df (IntKind.u8.wrap NF) λQH=>((0:Int)<=8/\8<=((IntKind.bits .u32:Nat):Int))/\Df (FE/2^Int.toNat 8) λIr=>Df (IntKind.u8.wrap Ir) λbF=>Df (IntKind.u8.wrap FE) λUe=>Al AG λHP=>AH prog (Builtin.append_ #[79,79] 79 #[.slice p14 n14 zA,(.slice (aD HP 0) 4 4)]) (Hp.set AG HP (.cells #[.int .u8 C3,.int .u8 QH,.int .u8 bF,.int .u8 Ue] 5 (0,0))) (CS λlH A lI AQ=>AH prog (Builtin.append_ #[79,79] 79 #[.slice lH A lI,.slice p0 n0 c0]) AQ (CS λsI G xd A5=>R (.T #[.slice sI G xd,.I 0]) A5)))))):Spec prog 106 #[.slice p0 n0 c0] Z22 R:=M.start h ok
end Sb
namespace Lx
variable {q0:Option Addr}{s1:ByteArray}
def M:Fw:=⟨prog,109,f109,[90],[],false,[],[],[]⟩
def ok:M.Ok:=⟨.cons call90 (AN.nil),mixed,func109,by kernel_rfl⟩
def start (h:Al Z22 λb2=>Al (Hp.set Z22 b2 (.cells #[.pointer q0] 36 (0,0))) λb3=>LQ (Hp.set (Hp.set Z22 b2 (.cells #[.pointer q0] 36 (0,0))) b3 (.cells #[.string s1] 9 (0,0))) b2 0 λq5=>AO 90 #[.pointer q5,(.func (.func 178) #[] #[(.pointer (aD b2 0)),(.pointer (aD b3 0))]),(.func (.func 179) #[] #[(.pointer (aD b2 0)),(.pointer (aD b3 0))]),(.func (.func 93) #[] #[])] (Hp.set (Hp.set Z22 b2 (.cells #[.pointer q0] 36 (0,0))) b3 (.cells #[.string s1] 9 (0,0))) R (CI .i64 λx8 y=>R (.returned (.I x8)) y)):Spec prog 109 #[.pointer q0,.string s1] Z22 R:=M.start h ok
end Lx
namespace Ff
variable {p0 p3 p6:Option Addr}{n0 c0 n3 c3 n6 c6:Nat}{x7 x8:Int}
def M:Fw:=⟨prog,118,f118,[],[5],false,[],[],[(232,[(3,wL),(6,wL),(7,wI),(8,wI)])]⟩
def ok:M.Ok:=⟨AN.nil,mixed,func118,by kernel_rfl⟩
def A3:=M.pt 0
def start (h:A3 R none 0 0 p0 n0 c0 (n0:Int) 0 Z22):Spec prog 118 #[.slice p0 n0 c0] Z22 R:=M.start h ok
def AY (h:Br (x8<x7) (Pq p6 λIV Ml=>In x8 (n6:Int)/\∃dH dI dJ iu iw iy,Bm Z22 IV (Ml+x8.toNat*2) [.slice dH dI dJ,.slice iu iw iy]/\∀b5:Nat,(Al Z22 λHR=>(AH prog (Builtin.append_ #[51,51] 51 #[(.slice (aD HR 0) 0 0),.slice dH dI dJ]) (Hp.set Z22 HR (.cells #[] 95 (0,0))) (CS λbJ A bK y=>Al y λHj=>AH prog (Builtin.append_ #[61,61] 61 #[(.slice (aD Hj 0) 0 0),.slice iu iw iy]) (Hp.set y Hj (.cells #[] 66 (0,0))) (CS λIA n20 c20 AG=>Al AG λUf=>AH prog (HO 44 p3 n3 c3 Uf) (Hp.set AG Uf (.cells #[.slice bJ A bK,.slice IA n20 c20] 63 (0,0))) (CS λUg G SP AQ=>AK (x8+1)/\A3 R Ug G SP (aD IV Ml) n6 c6 x7 (x8+1) AQ))))/\(Al (Hp.set Z22 HR (.cells #[] 95 (0,0))) λHj=>AH prog (Builtin.append_ #[51,51] 51 #[(.slice (aD HR 0) 0 0),.slice dH dI dJ]) (Hp.set (Hp.set Z22 HR (.cells #[] 95 (0,0))) Hj (.cells #[] 66 (0,0))) (CS λbJ A bK y=>AH prog (Builtin.append_ #[61,61] 61 #[(.slice (aD Hj 0) 0 0),.slice iu iw iy]) y (CS λIA n20 c20 AG=>Al AG λUf=>AH prog (HO 44 p3 n3 c3 Uf) (Hp.set AG Uf (.cells #[.slice bJ A bK,.slice IA n20 c20] 63 (0,0))) (CS λUg G SP AQ=>AK (x8+1)/\A3 R Ug G SP (aD IV Ml) n6 c6 x7 (x8+1) AQ)))))/\(Al Z22 λHj=>Al (Hp.set Z22 Hj (.cells #[] 66 (0,0))) λHR=>AH prog (Builtin.append_ #[51,51] 51 #[(.slice (aD HR 0) 0 0),.slice dH dI dJ]) (Hp.set (Hp.set Z22 Hj (.cells #[] 66 (0,0))) HR (.cells #[] 95 (0,0))) (CS λbJ A bK y=>AH prog (Builtin.append_ #[61,61] 61 #[(.slice (aD Hj 0) 0 0),.slice iu iw iy]) y (CS λIA n20 c20 AG=>Al AG λUf=>AH prog (HO 44 p3 n3 c3 Uf) (Hp.set AG Uf (.cells #[.slice bJ A bK,.slice IA n20 c20] 63 (0,0))) (CS λUg G SP AQ=>AK (x8+1)/\A3 R Ug G SP (aD IV Ml) n6 c6 x7 (x8+1) AQ))))) (R (.returned (.slice p3 n3 c3)) Z22)):A3 R p3 n3 c3 p6 n6 c6 x7 x8 Z22:=M.of h ok rfl
end Ff
namespace B7
variable {p0 p5 Fe p39 IA:Option Addr}{n0 c0 n5 c5 n13 FO n39 dK n20 c20:Nat}{m4:Option Nat}{DY DA Kz Ly En Ir:Int}
def M:Fw:=⟨prog,121,f121,[83,97],[7,9],false,[],[],[(488,[(4,wM),(5,wL),(13,wL),(14,wI),(15,wI)]),(4072,[(4,wM),(5,wL),(39,wL),(40,wI),(41,wI)]),(125336,[(4,wM),(5,wL),(13,wL),(14,wI),(15,wI),(20,wL),(21,wI),(22,wI)])]⟩
def ok:M.Ok:=⟨.cons call83 (.cons call97 (AN.nil)),mixed,func121,by kernel_rfl⟩
def Rb:=M.pt 0
def dL:=M.pt 1
def Rc:=M.pt 2
def start (h:AH prog (Instr.makeMap 194 none) Z22 (λz y=>∃A,z=(.map (some A))/\Rb R (some A) none 0 0 p0 n0 c0 (n0:Int) 0 y)):Spec prog 121 #[.slice p0 n0 c0] Z22 R:=M.start h ok
def KY (h:Br (DA<DY) (Pq Fe λHj Th=>In DA (n13:Int)/\∃sU oL sV A G AQM,Bm Z22 Hj (Th+DA.toNat*2) [.slice sU oL sV,.slice A G AQM]/\∀b7:Nat,Rc R m4 p5 n5 c5 (aD Hj Th) n13 FO DY DA sU oL sV (oL:Int) 0 Z22) (AO 83 #[.slice p5 n5 c5] Z22 R (λz y=>z=(.tuple #[])/\AO 97 #[.slice p5 n5 c5] y R (CS λgC n38 bA AG=>dL R m4 gC n38 bA gC n38 bA (n38:Int) 0 AG)))):Rb R m4 p5 n5 c5 Fe n13 FO DY DA Z22:=M.of h ok rfl
def QK (h:Br (Ly<Kz) (Pq p39 λA G=>In Ly (n39:Int)/\LT Z22 A (G+Ly.toNat*1) λs45=>AH prog (Instr.mapUpdate 194 (.map m4) (.string s45) (.I Ly)) Z22 (λ_ y=>AK (Ly+1)/\dL R m4 p5 n5 c5 (aD A G) n39 dK Kz (Ly+1) y)) (R (.T #[.slice p5 n5 c5,.map m4]) Z22)):dL R m4 p5 n5 c5 p39 n39 dK Kz Ly Z22:=M.of h ok rfl
def Iu (h:Br (Ir<En) (Pq IA λPT XS=>In Ir (n20:Int)/\∃sW sX,Bm Z22 PT (XS+Ir.toNat*2) [.string sW,.string sX]/\∀b9:Nat,Al Z22 λF8=>AH prog (Builtin.append_ #[81,81] 81 #[.slice p5 n5 c5,(.slice (aD F8 0) 2 2)]) (Hp.set Z22 F8 (.cells #[.string sW,.string sX] 9 (0,0))) (CS λp32 G A y=>AK (Ir+1)/\Rc R m4 p32 G A Fe n13 FO DY DA (aD PT XS) n20 c20 En (Ir+1) y)) (AK (DA+1)/\Rb R m4 p5 n5 c5 Fe n13 FO DY (DA+1) Z22)):Rc R m4 p5 n5 c5 Fe n13 FO DY DA IA n20 c20 En Ir Z22:=M.of h ok rfl
end B7
namespace LA
variable {s0 s1:ByteArray}
def M:Fw:=⟨prog,136,f136,[201],[],false,[],[],[]⟩
def ok:M.Ok:=⟨.cons call201 (AN.nil),mixed,func136,by kernel_rfl⟩
def start (h:AO 201 #[.string s0,.string s1] Z22 R (CI .i64 λx7 y=>R (.returned (.I x7)) y)):Spec prog 136 #[.string s0,.string s1] Z22 R:=M.start h ok
end LA
namespace Cy
variable {q0:Option Addr}{x1 x6:Int}{v2:Value}
def M:Fw:=⟨prog,149,f149,[154,155],[],false,[],[],[(112,[(2,wV),(6,wU)])]⟩
def ok:M.Ok:=⟨.cons call154 (.cons call155 (AN.nil)),mixed,func149,by kernel_rfl⟩
def HA:=M.pt 0
def start (h:AO 154 #[.pointer q0] Z22 R (CI .u64 λx8 y=>AO 155 #[(.bool (decide (x8<=x1)))] y R (λz A=>z=(.tuple #[])/\HA R v2 x8 A))):Spec prog 149 #[.pointer q0,.U x1,v2] Z22 R:=M.F5 h ok [(0,.o (.Q q0)),(1,.o (.I .u64 x1)),(2,.o (.V v2))] rfl rfl (by kernel_rfl)
def Bi (h:Br (0<x6) (∃(f18:Nat) (A G:Array Value),v2=.func (.func f18) A G/\Enters prog f18/\Spec prog f18 (A++#[]++G) Z22 (BI R (λz y=>z=(.tuple #[])/\Df (IntKind.u64.wrap (x6-1)) λEl=>HA R v2 El y))) (R (.T #[]) Z22)):HA R v2 x6 Z22:=M.of h ok rfl
end Cy
namespace DL
variable {p0:Option Addr}{n0 c0:Nat}{v1:Value}{x7 x8:Int}
def M:Fw:=⟨prog,170,f170,[],[],false,[],[],[(104,[(0,wL),(1,wV),(7,wI),(8,wI)])]⟩
def ok:M.Ok:=⟨AN.nil,mixed,func170,by kernel_rfl⟩
def HA:=M.pt 0
def start (h:HA R p0 n0 c0 v1 (n0:Int) 0 Z22):Spec prog 170 #[.slice p0 n0 c0,v1] Z22 R:=M.F5 h ok [(0,.o (.L p0 n0 c0)),(1,.o (.V v1))] rfl rfl (by kernel_rfl)
def Bi (h:Br (x8<x7) (Pq p0 λIp Kv=>In x8 (n0:Int)/\∃sY Uc A G AIz,Bm Z22 Ip (Kv+x8.toNat*3) [.I sY,.I Uc,.slice A G AIz]/\∃(f16:Nat) (SQ SR:Array Value),v1=.func (.func f16) SQ SR/\Enters prog f16/\Spec prog f16 (SQ++#[.agg #[.I sY,.I Uc,.slice A G AIz]]++SR) Z22 (BI R (CB λt16 y=>Bo t16 (R (.returned (.I x8)) y) (AK (x8+1)/\HA R (aD Ip Kv) n0 c0 v1 x7 (x8+1) y)))) (R (.returned (.I (-1))) Z22)):HA R p0 n0 c0 v1 x7 x8 Z22:=M.of h ok rfl
end DL
namespace HS
variable {p0:Option Addr}{n0 c0:Nat}{x3:Int}
def M:Fw:=⟨prog,174,f174,[],[],false,[(4,10,true)],[],[(208,[(0,wL),(3,wI)])]⟩
def ok:M.Ok:=⟨AN.nil,mixed,func174,by kernel_rfl⟩
def HT:=M.pt 0
def start (h:HT R p0 n0 c0 1 Z22):Spec prog 174 #[.slice p0 n0 c0] Z22 R:=M.start h ok
def CJ (h:Br (x3<(n0:Int)) (Pq p0 λA G=>In x3 (n0:Int)/\LI .i64 Z22 A (G+x3.toNat*1) λJU=>AK (x3-1)/\In (x3-1) (n0:Int)/\LI .i64 Z22 A (G+Int.toNat (x3-1)*1) λTI=>Br (JU<=TI) (R (.B false) Z22) (AK (x3+1)/\HT R (aD A G) n0 c0 (x3+1) Z22)) (R (.B true) Z22)):HT R p0 n0 c0 x3 Z22:=M.of h ok rfl
end HS
namespace Ji
variable {p0 p8:Option Addr}{n0 c0 b3 n8 c8:Nat}{x4 x9 FE:Int}
def M:Fw:=⟨prog,177,f177,[233],[],false,[],[],[(488,[(3,wA),(4,w32),(8,wL),(9,wI),(10,wI)])]⟩
def ok:M.Ok:=⟨.cons call233 (AN.nil),mixed,func177,by kernel_rfl⟩
def Rb:=M.pt 0
def start (h:AO 233 #[] Z22 R (λz y=>∃V9 x7b A G x7e x7f x7g x7h x7i x7j x7k x7l x7m x7n x7o x7p,z=(.agg #[.int .u32 V9,.int .u32 x7b,.int .u32 A,.int .u32 G,.int .u32 x7e,.int .u32 x7f,.int .u32 x7g,.int .u32 x7h,.int .u32 x7i,.int .u32 x7j,.int .u32 x7k,.int .u32 x7l,.int .u32 x7m,.int .u32 x7n,.int .u32 x7o,.int .u32 x7p])/\Al y λb3=>AH prog (Instr.storeAt 322 (.pointer (aD b3 0)) (.agg #[.int .u32 V9,.int .u32 x7b,.int .u32 A,.int .u32 G,.int .u32 x7e,.int .u32 x7f,.int .u32 x7g,.int .u32 x7h,.int .u32 x7i,.int .u32 x7j,.int .u32 x7k,.int .u32 x7l,.int .u32 x7m,.int .u32 x7n,.int .u32 x7o,.int .u32 x7p])) (Hp.set y b3 (.cells #[.int .u32 0,.int .u32 0,.int .u32 0,.int .u32 0,.int .u32 0,.int .u32 0,.int .u32 0,.int .u32 0,.int .u32 0,.int .u32 0,.int .u32 0,.int .u32 0,.int .u32 0,.int .u32 0,.int .u32 0,.int .u32 0] 322 (0,0))) (λ_ AG=>Rb R b3 4294967295 p0 n0 c0 (n0:Int) 0 AG))):Spec prog 177 #[.slice p0 n0 c0] Z22 R:=M.start h ok
def KY (h:Br (FE<x9) (Pq p8 λA G=>In FE (n8:Int)/\LI .u8 Z22 A (G+FE.toNat*1) λJU=>Df (IntKind.u32.wrap JU) λEl=>Df (Go.bits .xor .u32 x4 El) λC3=>((0:Int)<=4/\4<=((IntKind.bits .u32:Nat):Int))/\Df (C3/2^Int.toNat 4) λNF=>Df (Go.bits .and .u32 C3 15) λEn=>In En 16/\LI .u32 Z22 b3 (0+En.toNat*1) λbF=>Df (Go.bits .xor .u32 NF bF) λEJ=>((0:Int)<=4/\4<=((IntKind.bits .u32:Nat):Int))/\Df (EJ/2^Int.toNat 4) λJj=>Df (Go.bits .and .u32 EJ 15) λHv=>In Hv 16/\LI .u32 Z22 b3 (0+Hv.toNat*1) λbI=>Df (Go.bits .xor .u32 Jj bI) λLN=>AK (FE+1)/\Rb R b3 LN (aD A G) n8 c8 x9 (FE+1) Z22) (∃gG,YF prog (Op.unary .xor (.int .u32 x4)) Z22 (.int .u32 gG)/\R (.returned (.int .u32 gG)) Z22)):Rb R b3 x4 p8 n8 c8 x9 FE Z22:=M.of h ok rfl
end Ji
namespace G1
variable {p0a qi oI p1b:Option Addr}{n0a c0a oG sN oJ oK n1b c1b:Nat}
def M:Fw:=⟨prog,183,f183,[66],[2,3],false,[],[],[]⟩
def ok:M.Ok:=⟨.cons call66 (AN.nil),mixed,func183,by kernel_rfl⟩
def start (h:∀b2:Nat,∀b3:Nat,AO 66 #[.slice p0a n0a c0a,.slice oI oJ oK] Z22 R (CI .i64 λx9 y=>R (.returned (.I x9)) y)):Spec prog 183 #[.agg #[.slice p0a n0a c0a,.slice qi oG sN],.agg #[.slice oI oJ oK,.slice p1b n1b c1b]] Z22 R:=M.start h ok
end G1
namespace IB
variable {x0 x1:Int}
def M:Fw:=⟨prog,185,f185,[236],[],false,[],[],[]⟩
def ok:M.Ok:=⟨.cons call236 (AN.nil),mixed,func185,by kernel_rfl⟩
def start (h:AO 236 #[.U x0,.I x1] Z22 R (CT λs7 y=>R (.returned (.string s7)) y)):Spec prog 185 #[.U x0,.I x1] Z22 R:=M.start h ok
end IB
namespace IC
variable {v0:Value}
def M:Fw:=⟨prog,192,f192,[242],[],false,[],[],[]⟩
def ok:M.Ok:=⟨.cons call242 (AN.nil),mixed,func192,by kernel_rfl⟩
def start (h:MC prog v0 ri #[] Z22 (BI R (CI .i64 λx5 y=>AK (x5-1)/\MC prog v0 SJ #[.I 0,(.I (x5-1))] y (BI R (λz AG=>z=(.tuple #[])/\AO 242 #[v0,.I 0,(.I (x5-1))] AG R (CB λt12 AQ=>MC prog v0 AIN #[] AQ (BI R (λz G=>∃A,A=z/\R (.returned A) G)))))))):Spec prog 192 #[v0] Z22 R:=M.F5 h ok [(0,.o (.V v0))] rfl rfl (by kernel_rfl)
end IC
namespace Af
variable {v0:Value}{x1 x2 x7 x9:Int}
def M:Fw:=⟨prog,242,f242,[],[],false,[],[],[(224,[(0,wV),(1,wI),(2,wI),(7,wI)]),(30,[(1,wI),(7,wI)]),(7228,[(0,wV),(1,wI),(2,wI),(7,wI),(9,wI)])]⟩
def ok:M.Ok:=⟨AN.nil,mixed,func242,by kernel_rfl⟩
def HT:=M.pt 0
def zB:=M.pt 1
def JI:=M.pt 2
def start (h:HT R v0 x1 x2 x1 Z22):Spec prog 242 #[v0,.I x1,.I x2] Z22 R:=M.F5 h ok [(0,.o (.V v0)),(1,.o (.I .i64 x1)),(2,.o (.I .i64 x2))] rfl rfl (by kernel_rfl)
def CJ (h:AK (2*x7)/\AK ((2*x7)+1)/\Br (x2<=((2*x7)+1)) (zB R x1 x7 Z22) (Br ((((2*x7)+1):Int)<0) (zB R x1 x7 Z22) (AK (((2*x7)+1)+1)/\Br (((((2*x7)+1)+1):Int)<x2) (MC prog v0 SI #[(.I (((2*x7)+1)+1)),(.I ((2*x7)+1))] Z22 (BI R (CB λt32 y=>Bo t32 (JI R v0 x1 x2 x7 ((((2*x7)+1)+1)) y) (JI R v0 x1 x2 x7 (((2*x7)+1)) y)))) (JI R v0 x1 x2 x7 (((2*x7)+1)) Z22)))):HT R v0 x1 x2 x7 Z22:=M.of h ok rfl
def Yt (h:R (.returned (.bool (decide (x1<x7)))) Z22):zB R x1 x7 Z22:=M.of h ok rfl
def G2 (h:MC prog v0 SI #[.I x9,.I x7] Z22 (BI R (CB λt38 y=>Bn t38 (zB R x1 x7 y) (MC prog v0 SJ #[.I x7,.I x9] y (BI R (λz A=>z=(.tuple #[])/\HT R v0 x1 x2 x9 A)))))):JI R v0 x1 x2 x7 x9 Z22:=M.of h ok rfl
end Af
namespace Dh
variable {p0:Option Addr}{n0 c0:Nat}
def M:Fw:=⟨prog,332,f332,[],[],false,[],[],[]⟩
def ok:M.Ok:=⟨AN.nil,mixed,func332,by kernel_rfl⟩
def start (h:R (.returned (.I (n0:Int))) Z22):Spec prog 332 #[.slice p0 n0 c0] Z22 R:=M.start h ok
end Dh
namespace Dj
variable {q0:Option Addr}
def M:Fw:=⟨prog,335,f335,[],[],false,[(1,11,true),(2,11,true)],[],[]⟩
def ok:M.Ok:=⟨AN.nil,mixed,func335,by kernel_rfl⟩
def start (h:Pq q0 λb5 A=>LS Z22 b5 A λp6 n6 c6=>LS Z22 b5 A λp9 n9 c9=>AK ((n9:Int)-1)/\Pq p6 λG JT=>In (((n9:Int)-1)) (n6:Int)/\LQ Z22 G (JT+Int.toNat ((n9:Int)-1)*1) λIY=>LS Z22 b5 A λYj n17 WK=>LS Z22 b5 A λIA n20 c20=>AK ((n20:Int)-1)/\((0:Int)<=((n20:Int)-1)/\((n20:Int)-1)<=(WK:Int))/\AH prog (Instr.storeAt 269 (.pointer (aD b5 A)) (.slice Yj (Int.toNat ((n20:Int)-1)) WK)) Z22 (λ_ y=>R (.returned (.iface 272 (.pointer IY))) y)):Spec prog 335 #[.pointer q0] Z22 R:=M.start h ok
end Dj
end TwW
end
end
section
set_option maxRecDepth 100000
noncomputable section
namespace TwW
open Go Tw Go.Proofs.Tryz
variable [I9]{R:Rr}{Z22:Hp}

namespace DM
variable {p0 p3:Option Addr}{n0 c0 n3 c3:Nat}{x4:Int}
def M:Fw:=⟨prog,13,f13,[50],[],false,[],[],[(464,[(0,wL),(3,wL),(4,wI)])]⟩
def ok:M.Ok:=⟨.cons call50 (AN.nil),mixed,func13,by kernel_rfl⟩
def EK:=M.pt 0
def start (h:EK R p0 n0 c0 none 0 0 0 Z22):Spec prog 13 #[.slice p0 n0 c0] Z22 R:=M.start h ok
def DB (h:Br (x4<(n0:Int)) (Pq p0 λA G=>In x4 (n0:Int)/\LS Z22 A (G+x4.toNat*3) λbJ n16 bK=>In x4 (n0:Int)/\LI .i64 Z22 A ((G+x4.toNat*3)+1) λIr=>In x4 (n0:Int)/\LI .u64 Z22 A ((G+x4.toNat*3)+2) λLz=>AO 50 #[.slice bJ n16 bK] Z22 R (CS λYj n17 WK y=>Kp [A,A] Z22 y/\Al y λiz=>AH prog (HO 22 p3 n3 c3 iz) (Hp.set y iz (.cells #[.slice Yj n17 WK,.I Ir,.U Lz] 53 (0,0))) (CS λsI n30 xd AG=>AK (x4+1)/\EK R (aD A G) n0 c0 sI n30 xd (x4+1) AG))) (R (.returned (.slice p3 n3 c3)) Z22)):EK R p0 n0 c0 p3 n3 c3 x4 Z22:=M.of h ok rfl
end DM
namespace Ay
variable {q0 p2 Ge il:Option Addr}{s1:ByteArray}{n2 c2 n12 c12 n49 c49:Nat}{x3 x4 V8 x51:Int}
def M:Fw:=⟨prog,14,f14,[16,29,51,52,53,54],[],false,[],[],[(124,[(0,wQ),(1,wT),(2,wL),(3,wI),(4,wI),(12,wL)]),(1000,[(0,wQ),(1,wT),(2,wL),(3,wI),(4,wI),(12,wL),(49,wL),(50,wI),(51,wI)])]⟩
def ok:M.Ok:=⟨.cons call16 (.cons call29 (.cons call51 (.cons call52 (.cons call53 (.cons call54 (AN.nil)))))),mixed,func14,by kernel_rfl⟩
def IZ:=M.pt 0
def Rc:=M.pt 1
def start (h:Pq q0 λG Yi=>LQ Z22 G (Yi+2) λq25=>AO 16 #[.pointer q25] Z22 R (CB λt26 y=>Bn t26 (R (.T #[.N,.I 230]) y) (LM y G (Yi+6) λm31=>AH prog (Instr.lookup 75 (.map m31) (.string s1) false) y (CQ λA AG=>Bo (Option.isSome A) (AO 51 #[.pointer A,.slice p2 n2 c2,.I x3,.I x4] AG R (CS λp41 n41 c41 AQ=>Al AQ λgH=>AH prog (HO 115 none 0 0 gH) (Hp.set AQ gH (.cells #[.slice p41 n41 c41] 44 (0,0))) (CS λp43 n43 c43 A5=>IZ R (aD G Yi) s1 p2 n2 c2 x3 x4 p43 n43 c43 A5))) (IZ R (aD G Yi) s1 p2 n2 c2 x3 x4 none 0 0 AG))))):Spec prog 14 #[.pointer q0,.string s1,.slice p2 n2 c2,.I x3,.I x4] Z22 R:=M.start h ok
def KZ (h:Pq q0 λgI A=>LM Z22 gI (A+7) λG=>AH prog (Instr.lookup 76 (.map G) (.string s1) false) Z22 (CS λil n49 c49 y=>Rc R (aD gI A) s1 p2 n2 c2 x3 x4 Ge n12 c12 il n49 c49 (n49:Int) 0 y)):IZ R q0 s1 p2 n2 c2 x3 x4 Ge n12 c12 Z22:=M.of h ok rfl
def Iu (h:Br (x51<V8) (Pq il λsK sL=>In x51 (n49:Int)/\LI .u64 Z22 sK (sL+x51.toNat*1) λTK=>Pq q0 λHK WL=>LQ Z22 HK (WL+2) λq59=>AO 52 #[.string s1,.U TK] Z22 R (CT λs62 y=>Kp [HK] Z22 y/\AO 29 #[.pointer q59,.string s62] y R (λz AG=>∃A G AI6 oM,z=(.tuple #[.slice A G AI6,.I oM])/\Br (oM≠0) (R (.T #[.N,.I 230]) AG) (AO 53 #[.slice A G AI6,.slice p2 n2 c2,.I x3,.I x4] AG R (λz AQ=>∃AI7 AI8 AI9 AQO,z=(.tuple #[.slice AI7 AI8 AI9,.I AQO])/\Al AQ λsZ=>AH prog (HO 115 Ge n12 c12 sZ) (Hp.set AQ sZ (.cells #[.slice AI7 AI8 AI9] 44 (0,0))) (CS λp79 n79 c79 A5=>AK (x51+1)/\Rc R (aD HK WL) s1 p2 n2 c2 x3 x4 p79 n79 c79 (aD sK sL) n49 c49 V8 (x51+1) A5)))))) (AO 54 #[.slice Ge n12 c12] Z22 R (λz y=>∃sb sd se AEr,z=(.tuple #[.slice sb sd se,.I AEr])/\R (.T #[.slice sb sd se,.I 0]) y))):Rc R q0 s1 p2 n2 c2 x3 x4 Ge n12 c12 il n49 c49 V8 x51 Z22:=M.of h ok rfl
end Ay
namespace Eo
variable {p0 p5:Option Addr}{n0 c0 n5 c5:Nat}{x6 x7:Int}
def M:Fw:=⟨prog,20,f20,[64,65,66],[4],false,[],[],[(104,[(0,wL),(5,wL),(6,wI),(7,wI)])]⟩
def ok:M.Ok:=⟨.cons call64 (.cons call65 (.cons call66 (AN.nil))),mixed,func20,by kernel_rfl⟩
def HA:=M.pt 0
def start (h:HA R p0 n0 c0 p0 n0 c0 (n0:Int) 0 Z22):Spec prog 20 #[.slice p0 n0 c0] Z22 R:=M.start h ok
def Bi (h:Br (x7<x6) (Pq p5 λG Ml=>In x7 (n5:Int)/\∃dH dI dJ iu iw iy,Bm Z22 G (Ml+x7.toNat*2) [.slice dH dI dJ,.slice iu iw iy]/\∀b4:Nat,AO 64 #[.slice dH dI dJ] Z22 R (CI .i64 λDY y=>Br (DY≠0) (R (.returned (.I 100)) y) (AO 65 #[.slice iu iw iy] y R (CB λt19 A=>Bn t19 (R (.returned (.I 100)) A) (Br (0<x7) (AK (x7-1)/\Pq p0 λiz xq=>In (x7-1) (n0:Int)/\LS A iz (xq+Int.toNat (x7-1)*2) λp31 n31 c31=>AO 66 #[.slice p31 n31 c31,.slice dH dI dJ] A R (CI .i64 λgG AQ=>Br (0<=gG) (R (.returned (.I 100)) AQ) (AK (x7+1)/\HA R (aD iz xq) n0 c0 (aD G Ml) n5 c5 x6 (x7+1) AQ))) (AK (x7+1)/\HA R p0 n0 c0 (aD G Ml) n5 c5 x6 (x7+1) A)))))) (R (.returned (.I 0)) Z22)):HA R p0 n0 c0 p5 n5 c5 x6 x7 Z22:=M.of h ok rfl
end Eo
namespace QL
variable {p0:Option Addr}{n0 c0:Nat}
def M:Fw:=⟨prog,30,f30,[87],[],false,[],[],[]⟩
def ok:M.Ok:=⟨.cons call87 (AN.nil),mixed,func30,by kernel_rfl⟩
def start (h:Al Z22 λb1=>Al (Hp.set Z22 b1 (.cells #[.slice p0 n0 c0] 79 (0,0))) λb4=>AO 87 #[(.func (.func 88) #[] #[(.pointer (aD b1 0)),(.pointer (aD b4 0))])] (Hp.set (Hp.set Z22 b1 (.cells #[.slice p0 n0 c0] 79 (0,0))) b4 (.cells #[.N] 44 (0,0))) R (CB λt6 y=>Bn t6 (R (.T #[.N,.I 91]) y) (LS y b4 0 λp8 n8 c8=>R (.T #[.slice p8 n8 c8,.I 0]) y))):Spec prog 30 #[.slice p0 n0 c0] Z22 R:=M.start h ok
end QL
namespace Gq
variable {q0:Option Addr}{s1:ByteArray}
def M:Fw:=⟨prog,31,f31,[90],[],false,[],[],[]⟩
def ok:M.Ok:=⟨.cons call90 (AN.nil),mixed,func31,by kernel_rfl⟩
def start (h:Al Z22 λb2=>Al (Hp.set Z22 b2 (.cells #[.pointer q0] 36 (0,0))) λb3=>LQ (Hp.set (Hp.set Z22 b2 (.cells #[.pointer q0] 36 (0,0))) b3 (.cells #[.string s1] 9 (0,0))) b2 0 λq5=>AO 90 #[.pointer q5,(.func (.func 91) #[] #[(.pointer (aD b2 0)),(.pointer (aD b3 0))]),(.func (.func 92) #[] #[(.pointer (aD b2 0)),(.pointer (aD b3 0))]),(.func (.func 93) #[] #[])] (Hp.set (Hp.set Z22 b2 (.cells #[.pointer q0] 36 (0,0))) b3 (.cells #[.string s1] 9 (0,0))) R (CI .i64 λx8 y=>R (.returned (.I x8)) y)):Spec prog 31 #[.pointer q0,.string s1] Z22 R:=M.start h ok
end Gq
namespace AP
variable {q0 p3:Option Addr}{n3 c3:Nat}{v13 gJ:Value}
def M:Fw:=⟨prog,38,f38,[83,96,97],[],false,[],[(13,75),(34,76)],[(232,[(0,wQ),(3,wL),(13,wV)]),(488,[(3,wL),(34,wV)])]⟩
def ok:M.Ok:=⟨.cons call83 (.cons call96 (.cons call97 (AN.nil))),mixed,func38,by kernel_rfl⟩
def A3:=M.pt 0
def oN:=M.pt 1
def start (h:Pq q0 λG Ml=>LM Z22 G (Ml+6) λA=>AH prog (Instr.range 75 (.map A)) Z22 (λz y=>∃v13,v13=z/\A3 R (aD G Ml) none 0 0 v13 y)):Spec prog 38 #[.pointer q0] Z22 R:=M.start h ok
def AY (h:AH prog (Instr.next v13 false 0) Z22 (λv y=>(v=(.tuple #[.bool false])/\Pq q0 λF8 lR=>LM y F8 (lR+7) λm33=>AH prog (Instr.range 76 (.map m33)) y (λz AG=>∃gJ,gJ=z/\oN R p3 n3 c3 gJ AG))\/(∃dO sf,v=(.tuple #[.bool true,.string dO,.pointer sf])/\AH prog (Instr.entry v13) y (λz AG=>∃A G,z=(.tuple #[.string A,.pointer G])/\AO 96 #[.pointer G] AG R (λz AQ=>∃WM Yu,z=(.tuple #[.I WM,.I Yu])/\Br (0<WM) (Al AQ λMm=>AH prog (HO 81 p3 n3 c3 Mm) (Hp.set AQ Mm (.cells #[.string A] 9 (0,0))) (CS λp29 n29 c29 A5=>A3 R q0 p29 n29 c29 v13 A5)) (A3 R q0 p3 n3 c3 v13 AQ)))))):A3 R q0 p3 n3 c3 v13 Z22:=M.of h ok rfl
def Yv (h:AH prog (Instr.next gJ false 0) Z22 (λv y=>(v=(.tuple #[.bool false])/\AO 83 #[.slice p3 n3 c3] y R (λz AG=>z=(.tuple #[])/\AO 97 #[.slice p3 n3 c3] AG R (CS λYw n46 c46 AQ=>R (.returned (.slice Yw n46 c46)) AQ)))\/(∃AQR zC zD zF,v=(.tuple #[.bool true,.string AQR,.slice zC zD zF])/\AH prog (Instr.entry gJ) y (λz AG=>∃A AQS AQT AQU,z=(.tuple #[.string A,.slice AQS AQT AQU])/\Al AG λG=>AH prog (HO 81 p3 n3 c3 G) (Hp.set AG G (.cells #[.string A] 9 (0,0))) (CS λp42 n42 c42 AQ=>oN R p42 n42 c42 gJ AQ))))):oN R p3 n3 c3 gJ Z22:=M.of h ok rfl
end AP
namespace Fg
variable {q0:Option Addr}
def M:Fw:=⟨prog,39,f39,[38],[],false,[],[],[]⟩
def ok:M.Ok:=⟨.cons call38 (AN.nil),mixed,func39,by kernel_rfl⟩
def start (h:AO 38 #[.pointer q0] Z22 R (CS λp4 n4 c4 y=>R (.returned (.bool (decide ((n4:Int)=0)))) y)):Spec prog 39 #[.pointer q0] Z22 R:=M.start h ok
end Fg
namespace Uh
variable {P2 x1:Int}{qi:Option Addr}{oG sN:Nat}
def M:Fw:=⟨prog,41,f41,[100,101],[2],false,[],[],[]⟩
def ok:M.Ok:=⟨.cons call100 (.cons call101 (AN.nil)),mixed,func41,by kernel_rfl⟩
def start (h:∀b2:Nat,AO 100 #[.agg #[.U P2,.slice qi oG sN],.I x1] Z22 R (CI .i64 λx8 y=>AO 101 #[.agg #[.U P2,.slice qi oG sN]] y R (CI .i64 λFE A=>Br (FE≠0) (R (.returned (.I 0)) A) (Br (x8<0) (R (.returned (.I 0)) A) (Pq qi λG Mf=>In x8 (oG:Int)/\LI .i64 A G ((Mf+x8.toNat*3)+1) λEn=>R (.returned (.I En)) A))))):Spec prog 41 #[.agg #[.U P2,.slice qi oG sN],.I x1] Z22 R:=M.start h ok
end Uh
namespace Fh
variable {p0 p8:Option Addr}{n0 c0 n8 c8:Nat}{x9 FE:Int}
def M:Fw:=⟨prog,64,f64,[131,132],[4],false,[(10,14,true)],[],[(232,[(0,wL),(8,wL),(9,wI),(10,wI)])]⟩
def ok:M.Ok:=⟨.cons call131 (.cons call132 (AN.nil)),mixed,func64,by kernel_rfl⟩
def Ui:=M.pt 0
def start (h:Br (16<(n0:Int)) (R (.returned (.I 30)) Z22) (Ui R p0 n0 c0 p0 n0 c0 (n0:Int) 0 Z22)):Spec prog 64 #[.slice p0 n0 c0] Z22 R:=M.start h ok
def QM (h:Br (FE<x9) (Pq p8 λHR xm=>In FE (n8:Int)/\∃dO jA,Bm Z22 HR (xm+FE.toNat*2) [.string dO,.string jA]/\∀b4:Nat,AO 131 #[.string dO] Z22 R (CB λt18 y=>Bn t18 (R (.returned (.I 31)) y) (Bo ((ByteArray.toList jA==ByteArray.toList (ByteArray.mk #[]))) (R (.returned (.I 32)) y) (Br ((256:Int)<(jA.size:Int)) (R (.returned (.I 32)) y) (AO 132 #[.string jA] y R (CB λt33 A=>Bn t33 (R (.returned (.I 32)) A) (Br (0<FE) (AK (FE-1)/\Pq p0 λgI G=>In (FE-1) (n0:Int)/\LT A gI (G+Int.toNat (FE-1)*2) λs47=>∃t48,YF prog ((do eqGuard .leq 9 (.tmp 41) (.tmp 47) (.string dO) (.string s47);binOp .leq 9 (.string dO) (.string s47))) A (.bool t48)/\Bo t48 (R (.returned (.I 33)) A) (AK (FE+1)/\Ui R (aD gI G) n0 c0 (aD HR xm) n8 c8 x9 (FE+1) A)) (AK (FE+1)/\Ui R p0 n0 c0 (aD HR xm) n8 c8 x9 (FE+1) A)))))))) (R (.returned (.I 0)) Z22)):Ui R p0 n0 c0 p8 n8 c8 x9 FE Z22:=M.of h ok rfl
end Fh
namespace Uj
variable {x0:Int}
def M:Fw:=⟨prog,77,f77,[],[],false,[],[],[]⟩
def ok:M.Ok:=⟨AN.nil,mixed,func77,by kernel_rfl⟩
def start (h:Br (x0≠0) (R (.panicked [{ v:=(.iface 211 (.agg #[.I x0])),recovered:=false }]) Z22) (R (.T #[]) Z22)):Spec prog 77 #[.I x0] Z22 R:=M.start h ok
end Uj
namespace Iv
variable {s0:ByteArray}{x1 x2:Int}
def M:Fw:=⟨prog,85,f85,[145,146],[],false,[],[],[]⟩
def ok:M.Ok:=⟨.cons call145 (.cons call146 (AN.nil)),mixed,func85,by kernel_rfl⟩
def start (h:AO 145 #[.string s0,.I x1,.I x2] Z22 R (λz y=>∃Ud G,z=(.tuple #[.U Ud,G])/\∃t18,YF prog ((do eqGuard .neq 152 (.tmp 17) (.const .nilIface) G .nilIface;binOp .neq 152 G .nilIface)) y (.bool t18)/\Bo t18 (AO 146 #[(.string (ByteArray.mk #[80,97,114,115,101,85,105,110,116])),.string s0,.I x1,.I x2,G] y R (λz AG=>∃A,A=z/\R (.T #[.U Ud,A]) AG)) (R (.T #[.U Ud,.nilIface]) y))):Spec prog 85 #[.string s0,.I x1,.I x2] Z22 R:=M.start h ok
end Iv
namespace L3
variable {q0 oI:Option Addr}{oJ oK:Nat}{dF x1c:Int}
def M:Fw:=⟨prog,103,f103,[64,102,119],[3],false,[(4,16,true)],[],[]⟩
def ok:M.Ok:=⟨.cons call64 (.cons call102 (.cons call119 (AN.nil))),mixed,func103,by kernel_rfl⟩
def start (h:∀b3:Nat,AO 64 #[.slice oI oJ oK] Z22 R (CI .i64 λx8 y=>Br (x8≠0) (R (.returned (.I 3)) y) (Br (dF<(-1099511627776)) (R (.returned (.I 3)) y) (Br (1099511627776<dF) (R (.returned (.I 3)) y) (Pq q0 λF9 bL=>LM y F9 bL λm24=>AO 102 #[.slice oI oJ oK] y R (CS λlH n27 lI AG=>Kp [F9] y AG/\AH prog (convert 79 9 (.slice lH n27 lI)) AG (CT λs28 AQ=>Kp [F9] AG AQ/\AH prog (Instr.lookup 170 (.map m24) (.string s28) false) AQ (CQ λA G=>Bo (Option.isNone A) (LM G F9 bL λzH=>∃NG,YF prog (Builtin.len_ #[170] 3 #[.map zH]) G (.I NG)/\LI .i64 G F9 (bL+2) λx43=>Br (x43<=NG) (R (.returned (.I 5)) G) (Bo (Option.isNone A) (R (.returned (.I 1)) G) (AO 119 #[.pointer A] G R (λz Cn=>∃si AEt,z=(.agg #[.I si,.U AEt])/\Br (si<dF) (R (.returned (.I 1)) Cn) (AO 119 #[.pointer A] Cn R (λz EU=>∃sj AEu,z=(.agg #[.I sj,.U AEu])/\Br (dF<sj) (R (.returned (.I 3)) EU) (AO 119 #[.pointer A] EU R (λz QI=>∃AEv sk,z=(.agg #[.I AEv,.U sk])/\Br (x1c=sk) (R (.returned (.I 2)) QI) (R (.returned (.I 4)) QI))))))))) (Bo (Option.isNone A) (R (.returned (.I 1)) G) (AO 119 #[.pointer A] G R (λz Cn=>∃si AEt,z=(.agg #[.I si,.U AEt])/\Br (si<dF) (R (.returned (.I 1)) Cn) (AO 119 #[.pointer A] Cn R (λz EU=>∃sj AEu,z=(.agg #[.I sj,.U AEu])/\Br (dF<sj) (R (.returned (.I 3)) EU) (AO 119 #[.pointer A] EU R (λz QI=>∃AEv sk,z=(.agg #[.I AEv,.U sk])/\Br (x1c=sk) (R (.returned (.I 2)) QI) (R (.returned (.I 4)) QI)))))))))))))))):Spec prog 103 #[.pointer q0,.agg #[.slice oI oJ oK,.I dF,.U x1c]] Z22 R:=M.start h ok
end L3
namespace No
variable {p0:Option Addr}{n0 c0:Nat}{s1:ByteArray}
def M:Fw:=⟨prog,105,f105,[175],[],false,[],[],[]⟩
def ok:M.Ok:=⟨.cons call175 (AN.nil),mixed,func105,by kernel_rfl⟩
def start (h:Df (IntKind.u64.wrap (s1.size:Int)) λx8=>AO 175 #[.slice p0 n0 c0,.U x8] Z22 R (CS λp9 n9 c9 y=>AH prog (Builtin.append_ #[79,9] 79 #[.slice p9 n9 c9,.string s1]) y (CS λPz n11 P0 A=>R (.returned (.slice Pz n11 P0)) A))):Spec prog 105 #[.slice p0 n0 c0,.string s1] Z22 R:=M.start h ok
end No
namespace Sc
variable {p0:Option Addr}{n0 c0:Nat}
def M:Fw:=⟨prog,113,f113,[182],[],false,[],[],[]⟩
def ok:M.Ok:=⟨.cons call182 (AN.nil),mixed,func113,by kernel_rfl⟩
def start (h:AO 182 #[.slice p0 n0 c0,(.func (.func 183) #[] #[])] Z22 R (λz y=>z=(.tuple #[])/\R (.returned (.slice p0 n0 c0)) y)):Spec prog 113 #[.slice p0 n0 c0] Z22 R:=M.start h ok
end Sc
namespace L4
variable {b0 b1 b2:Nat}
def M:Fw:=⟨prog,153,f153,[154,155],[],false,[(2,14,false)],[],[]⟩
def ok:M.Ok:=⟨.cons call154 (.cons call155 (AN.nil)),mixed,func153,by kernel_rfl⟩
def start (h:LQ Z22 b0 0 λq5=>LQ Z22 b0 0 λq7=>AO 154 #[.pointer q5] Z22 R (CI .u64 λx6 y=>Kp [b0] Z22 y/\AO 154 #[.pointer q7] y R (CI .u64 λx8 AG=>LS AG b1 0 λJQ n10 IU=>Df (IntKind.u64.wrap (n10:Int)) λCR=>Br (x6<CR) (LS AG b1 0 λbJ n16 bK=>Df (IntKind.u64.wrap (n16:Int)) λTI=>AO 155 #[(.bool (decide (x8<TI)))] AG R (λz A=>z=(.tuple #[])/\LS A b2 0 λUg n23 SP=>LS A b1 0 λXQ n24 c24=>Pq XQ λHP P1=>In x6 (n24:Int)/\LT A HP (P1+x6.toNat*1) λs27=>LS A b1 0 λP3 n28 c28=>Pq P3 λYq Yr=>In x8 (n28:Int)/\LT A Yq (Yr+x8.toNat*1) λs31=>Al A λHi=>AH prog (HO 51 Ug n23 SP Hi) (Hp.set A Hi (.cells #[.string s27,.string s31] 95 (0,0))) (CS λp34 n34 G A5=>AH prog (Instr.storeAt 51 (.pointer (aD b2 0)) (.slice p34 n34 G)) A5 (λ_ Cn=>R (.T #[]) Cn)))) (AO 155 #[.bool false] AG R (λz A=>z=(.tuple #[])/\LS A b2 0 λUg n23 SP=>LS A b1 0 λXQ n24 c24=>Pq XQ λHP P1=>In x6 (n24:Int)/\LT A HP (P1+x6.toNat*1) λs27=>LS A b1 0 λP3 n28 c28=>Pq P3 λYq Yr=>In x8 (n28:Int)/\LT A Yq (Yr+x8.toNat*1) λs31=>Al A λHi=>AH prog (HO 51 Ug n23 SP Hi) (Hp.set A Hi (.cells #[.string s27,.string s31] 95 (0,0))) (CS λp34 n34 G A5=>AH prog (Instr.storeAt 51 (.pointer (aD b2 0)) (.slice p34 n34 G)) A5 (λ_ Cn=>R (.T #[]) Cn))))))):Spec prog 153 #[(.pointer (aD b0 0)),(.pointer (aD b1 0)),(.pointer (aD b2 0))] Z22 R:=M.start h ok
end L4
namespace bytes_Equal
variable {p0 p1:Option Addr}{n0 c0 n1 c1:Nat}
def M:Fw:=⟨prog,157,f157,[],[],false,[],[],[]⟩
def ok:M.Ok:=⟨AN.nil,mixed,func157,by kernel_rfl⟩
def start (h:AH prog (convert 79 9 (.slice p0 n0 c0)) Z22 (CT λG y=>AH prog (convert 79 9 (.slice p1 n1 c1)) y (CT λs8 A=>R (.returned (.bool (ByteArray.toList G==ByteArray.toList s8))) A))):Spec prog 157 #[.slice p0 n0 c0,.slice p1 n1 c1] Z22 R:=M.start h ok
end bytes_Equal
namespace DN
variable {p0:Option Addr}{n0 c0:Nat}{v1:Value}{x7 x8:Int}
def M:Fw:=⟨prog,169,f169,[],[],false,[],[],[(104,[(0,wL),(1,wV),(7,wI),(8,wI)])]⟩
def ok:M.Ok:=⟨AN.nil,mixed,func169,by kernel_rfl⟩
def HA:=M.pt 0
def start (h:HA R p0 n0 c0 v1 (n0:Int) 0 Z22):Spec prog 169 #[.slice p0 n0 c0,v1] Z22 R:=M.F5 h ok [(0,.o (.L p0 n0 c0)),(1,.o (.V v1))] rfl rfl (by kernel_rfl)
def Bi (h:Br (x8<x7) (Pq p0 λA G=>In x8 (n0:Int)/\LI .u64 Z22 A (G+x8.toNat*1) λDA=>∃(f16:Nat) (SQ SR:Array Value),v1=.func (.func f16) SQ SR/\Enters prog f16/\Spec prog f16 (SQ++#[.U DA]++SR) Z22 (BI R (CB λt16 y=>Bo t16 (R (.returned (.I x8)) y) (AK (x8+1)/\HA R (aD A G) n0 c0 v1 x7 (x8+1) y)))) (R (.returned (.I (-1))) Z22)):HA R p0 n0 c0 v1 x7 x8 Z22:=M.of h ok rfl
end DN
namespace Jk
variable {b0 b1:Nat}
def M:Fw:=⟨prog,179,f179,[],[],false,[],[],[]⟩
def ok:M.Ok:=⟨AN.nil,mixed,func179,by kernel_rfl⟩
def start (h:LQ Z22 b0 0 λq3=>Pq q3 λb4 o4=>LM Z22 b4 o4 λm6=>LT Z22 b1 0 λs7=>AH prog (Instr.lookup 91 (.map m6) (.string s7) false) Z22 (CQ λq8 y=>Pq q8 λG A=>LS y G A λFe n13 FO=>AH prog (Instr.storeAt 3 (.pointer (aD G (A+1))) (.I (n13:Int))) y (λ_ AG=>R (.T #[]) AG))):Spec prog 179 #[(.pointer (aD b0 0)),(.pointer (aD b1 0))] Z22 R:=M.start h ok
end Jk
namespace BP
variable {q0:Option Addr}{x1:Int}
def M:Fw:=⟨prog,194,f194,[],[],false,[],[],[(68,[(0,wQ),(1,wU)])]⟩
def ok:M.Ok:=⟨AN.nil,mixed,func194,by kernel_rfl⟩
def EK:=M.pt 0
def start (h:Br (127<x1) (EK R q0 x1 Z22) (Pq q0 λUf A=>LS Z22 Uf A λXQ n24 G=>Df (IntKind.u8.wrap x1) λJj=>Al Z22 λPU=>AH prog (HO 79 XQ n24 G PU) (Hp.set Z22 PU (.cells #[.int .u8 Jj] 5 (0,0))) (CS λP3 n28 c28 y=>AH prog (Instr.storeAt 79 (.pointer (aD Uf A)) (.slice P3 n28 c28)) y (λ_ AG=>R (.T #[]) AG)))):Spec prog 194 #[.pointer q0,.U x1] Z22 R:=M.start h ok
def DB (h:Pq q0 λA G=>LS Z22 A G λGe n12 c12=>Df (IntKind.u8.wrap x1) λDY=>Df (Go.bits .or .u8 DY 128) λDA=>Al Z22 λsn=>AH prog (HO 79 Ge n12 c12 sn) (Hp.set Z22 sn (.cells #[.int .u8 DA] 5 (0,0))) (CS λYj n17 WK y=>AH prog (Instr.storeAt 79 (.pointer (aD A G)) (.slice Yj n17 WK)) y (λ_ AG=>((0:Int)<=7/\7<=((IntKind.bits .u64:Nat):Int))/\Df (x1/2^Int.toNat 7) λx7=>Br (127<x7) (EK R (aD A G) x7 AG) (LS AG A G λXQ n24 c24=>Df (IntKind.u8.wrap x7) λJj=>Al AG λPU=>AH prog (HO 79 XQ n24 c24 PU) (Hp.set AG PU (.cells #[.int .u8 Jj] 5 (0,0))) (CS λP3 n28 c28 AQ=>AH prog (Instr.storeAt 79 (.pointer (aD A G)) (.slice P3 n28 c28)) AQ (λ_ A5=>R (.T #[]) A5)))))):EK R q0 x1 Z22:=M.of h ok rfl
end BP
namespace ID
variable {P2 Uk x2:Int}{t0c:Bool}{q1:Option Addr}
def M:Fw:=⟨prog,198,f198,[196,243],[3,6],false,[(8,11,true)],[],[]⟩
def ok:M.Ok:=⟨.cons call196 (.cons call243 (AN.nil)),mixed,func198,by kernel_rfl⟩
def start (h:∀b3:Nat,∀b6:Nat,Br (x2=0) (AO 196 #[.pointer q1,.U 0,.I 1] Z22 R (λz y=>z=(.tuple #[])/\R (.returned (.agg #[.I P2,.I Uk,.bool t0c])) y)) (AO 196 #[.pointer q1,.U 1,.I 1] Z22 R (λz y=>z=(.tuple #[])/\AO 243 #[.U x2] y R (λz AG=>∃A G,z=(.tuple #[.I A,.I G])/\Bo t0c (Br (P2<=A) (Br (Uk<=G) (AO 196 #[.pointer q1,.U 0,.I 1] AG R (λz AQ=>z=(.tuple #[])/\(0<=Uk/\Uk<=((IntKind.bits .u64:Nat):Int))/\Df (x2/2^Uk.toNat) λLy=>AK (64-P2)/\AK ((64-P2)-Uk)/\AO 196 #[.pointer q1,.U Ly,(.I ((64-P2)-Uk))] AQ R (λz A5=>z=(.tuple #[])/\R (.returned (.agg #[.I P2,.I Uk,.bool true])) A5))) (AO 196 #[.pointer q1,.U 1,.I 1] AG R (λz AQ=>z=(.tuple #[])/\Df (IntKind.u64.wrap A) λTK=>AO 196 #[.pointer q1,.U TK,.I 5] AQ R (λz A5=>z=(.tuple #[])/\AK (64-A)/\AK ((64-A)-G)/\AK (((64-A)-G)-1)/\Df (IntKind.u64.wrap (((64-A)-G)-1)) λx62=>AO 196 #[.pointer q1,.U x62,.I 6] A5 R (λz Cn=>z=(.tuple #[])/\(0<=G/\G<=((IntKind.bits .u64:Nat):Int))/\Df (x2/2^G.toNat) λjB=>AK (64-A)/\AK ((64-A)-G)/\AO 196 #[.pointer q1,.U jB,(.I ((64-A)-G))] Cn R (λz EU=>z=(.tuple #[])/\R (.returned (.agg #[.I A,.I G,.bool true])) EU)))))) (AO 196 #[.pointer q1,.U 1,.I 1] AG R (λz AQ=>z=(.tuple #[])/\Df (IntKind.u64.wrap A) λTK=>AO 196 #[.pointer q1,.U TK,.I 5] AQ R (λz A5=>z=(.tuple #[])/\AK (64-A)/\AK ((64-A)-G)/\AK (((64-A)-G)-1)/\Df (IntKind.u64.wrap (((64-A)-G)-1)) λx62=>AO 196 #[.pointer q1,.U x62,.I 6] A5 R (λz Cn=>z=(.tuple #[])/\(0<=G/\G<=((IntKind.bits .u64:Nat):Int))/\Df (x2/2^G.toNat) λjB=>AK (64-A)/\AK ((64-A)-G)/\AO 196 #[.pointer q1,.U jB,(.I ((64-A)-G))] Cn R (λz EU=>z=(.tuple #[])/\R (.returned (.agg #[.I A,.I G,.bool true])) EU)))))) (AO 196 #[.pointer q1,.U 1,.I 1] AG R (λz AQ=>z=(.tuple #[])/\Df (IntKind.u64.wrap A) λTK=>AO 196 #[.pointer q1,.U TK,.I 5] AQ R (λz A5=>z=(.tuple #[])/\AK (64-A)/\AK ((64-A)-G)/\AK (((64-A)-G)-1)/\Df (IntKind.u64.wrap (((64-A)-G)-1)) λx62=>AO 196 #[.pointer q1,.U x62,.I 6] A5 R (λz Cn=>z=(.tuple #[])/\(0<=G/\G<=((IntKind.bits .u64:Nat):Int))/\Df (x2/2^G.toNat) λjB=>AK (64-A)/\AK ((64-A)-G)/\AO 196 #[.pointer q1,.U jB,(.I ((64-A)-G))] Cn R (λz EU=>z=(.tuple #[])/\R (.returned (.agg #[.I A,.I G,.bool true])) EU))))))))):Spec prog 198 #[.agg #[.I P2,.I Uk,.bool t0c],.pointer q1,.U x2] Z22 R:=M.start h ok
end ID
namespace DO
variable {s0 s1:ByteArray}
def M:Fw:=⟨prog,201,f201,[],[],false,[],[],[]⟩
def ok:M.Ok:=⟨AN.nil,mixed,func201,by kernel_rfl⟩
def start (h:EN prog 246 #[.string s0,.string s1] Z22 (CI .i64 λx7 y=>R (.returned (.I x7)) y)):Spec prog 201 #[.string s0,.string s1] Z22 R:=M.start h ok
end DO
namespace strings_CutPrefix
variable {s0 s1:ByteArray}
def M:Fw:=⟨prog,202,f202,[247],[],false,[],[],[]⟩
def ok:M.Ok:=⟨.cons call247 (AN.nil),mixed,func202,by kernel_rfl⟩
def start (h:AO 247 #[.string s0,.string s1] Z22 R (λz y=>∃A G,z=(.tuple #[.string A,.bool G])/\R (.T #[.string A,.bool G]) y)):Spec prog 202 #[.string s0,.string s1] Z22 R:=M.start h ok
end strings_CutPrefix
namespace B8
variable {P2 Uk so x0d x0e x0f x0g x0h x0i x0j x0k x0l x0m x0n x0o x0p x5 x2 x3 x4:Int}{b1:Nat}
def M:Fw:=⟨prog,233,f233,[],[0],false,[],[],[(232,[(0,.X 322 [.I .u32,.I .u32,.I .u32,.I .u32,.I .u32,.I .u32,.I .u32,.I .u32,.I .u32,.I .u32,.I .u32,.I .u32,.I .u32,.I .u32,.I .u32,.I .u32]),(1,wA),(5,wI)]),(478416,[(0,.X 322 [.I .u32,.I .u32,.I .u32,.I .u32,.I .u32,.I .u32,.I .u32,.I .u32,.I .u32,.I .u32,.I .u32,.I .u32,.I .u32,.I .u32,.I .u32,.I .u32]),(1,wA),(2,wI),(3,w32),(4,wI),(5,wI)]),(478419,[(0,.X 322 [.I .u32,.I .u32,.I .u32,.I .u32,.I .u32,.I .u32,.I .u32,.I .u32,.I .u32,.I .u32,.I .u32,.I .u32,.I .u32,.I .u32,.I .u32,.I .u32]),(1,wA),(2,wI),(3,w32),(4,wI),(5,wI)])]⟩
def ok:M.Ok:=⟨AN.nil,mixed,func233,by kernel_rfl⟩
def A3:=M.pt 0
def JI:=M.pt 1
def zI:=M.pt 2
def start (h:∀b0:Nat,Al Z22 λb1=>A3 R 0 0 0 0 0 0 0 0 0 0 0 0 0 0 0 0 b1 0 (Hp.set Z22 b1 (.cells #[.int .u32 0,.int .u32 0,.int .u32 0,.int .u32 0,.int .u32 0,.int .u32 0,.int .u32 0,.int .u32 0,.int .u32 0,.int .u32 0,.int .u32 0,.int .u32 0,.int .u32 0,.int .u32 0,.int .u32 0,.int .u32 0] 322 (0,0)))):Spec prog 233 #[] Z22 R:=M.start h ok
def AY (h:Br (x5<16) (Df (IntKind.u32.wrap x5) λx9=>JI R P2 Uk so x0d x0e x0f x0g x0h x0i x0j x0k x0l x0m x0n x0o x0p b1 x5 x9 0 x5 Z22) (∃A G AJH AJI AJJ AJK AJL AJM AJN AJO AJP AJQ AJR AJS AJT AJU,Bm Z22 b1 0 [.int .u32 A,.int .u32 G,.int .u32 AJH,.int .u32 AJI,.int .u32 AJJ,.int .u32 AJK,.int .u32 AJL,.int .u32 AJM,.int .u32 AJN,.int .u32 AJO,.int .u32 AJP,.int .u32 AJQ,.int .u32 AJR,.int .u32 AJS,.int .u32 AJT,.int .u32 AJU]/\R (.returned (.agg #[.int .u32 A,.int .u32 G,.int .u32 AJH,.int .u32 AJI,.int .u32 AJJ,.int .u32 AJK,.int .u32 AJL,.int .u32 AJM,.int .u32 AJN,.int .u32 AJO,.int .u32 AJP,.int .u32 AJQ,.int .u32 AJR,.int .u32 AJS,.int .u32 AJT,.int .u32 AJU])) Z22)):A3 R P2 Uk so x0d x0e x0f x0g x0h x0i x0j x0k x0l x0m x0n x0o x0p b1 x5 Z22:=M.gB h ok rfl λ_=>by kernel_rfl
def G2 (h:Br (x4<4) (Df (Go.bits .and .u32 x3 1) λDA=>Br (DA=0) (((0:Int)<=1/\1<=((IntKind.bits .u32:Nat):Int))/\Df (x3/2^Int.toNat 1) λTI=>zI R P2 Uk so x0d x0e x0f x0g x0h x0i x0j x0k x0l x0m x0n x0o x0p b1 x2 TI x4 x5 Z22) (((0:Int)<=1/\1<=((IntKind.bits .u32:Nat):Int))/\Df (x3/2^Int.toNat 1) λA=>Df (Go.bits .xor .u32 A 3988292384) λEn=>zI R P2 Uk so x0d x0e x0f x0g x0h x0i x0j x0k x0l x0m x0n x0o x0p b1 x2 En x4 x5 Z22)) (In x2 16/\AH prog (Instr.storeAt 70 (.pointer (aD b1 (0+x2.toNat*1))) (.int .u32 x3)) Z22 (λ_ y=>AK (x5+1)/\A3 R P2 Uk so x0d x0e x0f x0g x0h x0i x0j x0k x0l x0m x0n x0o x0p b1 (x5+1) y))):JI R P2 Uk so x0d x0e x0f x0g x0h x0i x0j x0k x0l x0m x0n x0o x0p b1 x2 x3 x4 x5 Z22:=M.gB h ok rfl λ_=>by kernel_rfl
def zJ (h:AK (x4+1)/\JI R P2 Uk so x0d x0e x0f x0g x0h x0i x0j x0k x0l x0m x0n x0o x0p b1 x2 x3 (x4+1) x5 Z22):zI R P2 Uk so x0d x0e x0f x0g x0h x0i x0j x0k x0l x0m x0n x0o x0p b1 x2 x3 x4 x5 Z22:=M.gB h ok rfl λ_=>by kernel_rfl
end B8
namespace Bj
noncomputable def K0:=f241.body.getD .skip
def K1:=cl K0
def K2:=cl K1
def K3:=cl K2
def K4:=cl K3
def K5:=cr K3
def K6:=cl K5
def K7:=cl K6
def K8:=cr K6
def K9:=cl K8
def xX:=cr K8
def K11:=cr K5
def K12:=cl K11
def K13:=cr K11
abbrev gl (R:Rr):Gl:=Gl.fn prog 241 23 R
def pt4 (R:Rr)(v0:Value)(x1:Int)(Z22:Hp):Prop:=∀(J:Env),At (gl R) [.code K4,.code K5,.inBlock 1,.inLoop K2,.inBlock 0] (Lm J [(0,v0),(1,(.I x1))]) [] Z22
def start {R:Rr}{v0:Value}{x1:Int}{Z22:Hp}(h:AK (x1-1)/\2≠(0:Int)/\∀x7:Int,x7=IntKind.i64.wrap (Int.tdiv (x1-1) 2)->((x7:Int)=x1->R (.T #[]) Z22)/\(¬((x7:Int)=x1)->MC prog v0 SI #[(.I x1),(.I x7)] Z22 (BI R (λv A=>∃t15:Bool,v=(.bool t15)/\(t15=false->R (.T #[]) A)/\(t15=true->MC prog v0 SJ #[(.I x7),(.I x1)] A (BI R (λbB D2=>bB=(.tuple #[])/\pt4 R v0 x7 D2))))))):Spec prog 241 #[v0,(.I x1)] Z22 R:=by
 refine Spec.bX (fn:=f241) (c:=K0) func241 (by kernel_rfl) (Afh (by kernel_rfl)) (λe he=>?_);refine At.ofL (l:=[(0,v0),(1,(.I x1))]) ⟨he 0,he 1,trivial⟩ (λJ=>?_);show At (gl R) _ _ _ _
 refine At.b 0 K1 ?_;refine At.loop (x:=K2) (by kernel_rfl) ?_;refine At.b 1 K3 ?_;refine At.s K4 K5 ?_;refine At.rg 0 [0,1,2,3] ?_;refine Seq.u 5 (.I x1) ?_;obtain⟨hi,h⟩:=h;refine Seq.z 6 (.binOp .sub 3 (.tmp 5) (.const (.I 1)) 3) 3 (.I (x1-1)) (Y.rH hi rfl rfl) ?_;obtain⟨hc,h⟩:=h;obtain⟨x7,sq⟩:∃y,y=IntKind.i64.wrap (Int.tdiv (x1-1) 2):=⟨_,rfl⟩
 replace h:=h x7 sq
 refine Seq.y (d:=(some 7)) (op:=(.binOp .quo 3 (.tmp 6) (.const (.I 2)) 3)) (ty:=3) (v:=(.I x7)) (by kernel_rfl) rfl (sq▸Y.quo hc rfl rfl) ?_;refine Seq.u 4 (.I x7) (Seq.done ?_);refine At.s K6 K11 (At.s K7 K8 ?_);refine At.rg 1 [0,1,2,3,4,5,6,7,8,9] ?_;refine Seq.us [(8,.I x7),(9,.I x1),(10,.bool (decide ((x7:Int)=x1))),(11,.bool (decide ((x7:Int)=x1)))] ?_;cases hb:(decide ((x7:Int)=x1)) with
 | true=>
  replace h:=h.1 (AfS hb)
  refine Seq.n 12 ?_;refine Seq.n 13 ?_;refine Seq.n 14 ?_;refine Seq.n 15 ?_;refine Seq.n 16 ?_;refine Seq.u 17 (.bool true) (Seq.done ?_);refine At.cT 17 K9 xX ?_;refine At.x 0 [] ?_;exact At.bZ (rs:=[]) (vs:=[]) func241 (by kernel_rfl) rfl h
 | false=>
  replace h:=h.2 (Aff hb)
  refine Seq.us [(12,v0),(13,.I x1),(14,.I x7)] ?_;refine Seq.o ?_;refine AV.inv (g:=(gl R)) (u:=v0) (vs:=#[(.I x1),(.I x7)]) (name:=SI) (d:=(some 15)) (x:=(.tmp 12)) (xs:=#[(.tmp 13),(.tmp 14)]) (ts:=#[3,3]) (ty:=4) (gd:=(some (3,false))) (by kernel_rfl) rfl rfl rfl rfl (h.cont (λv A G=>?_));replace h:=G;clear G;obtain⟨t15,rfl,h⟩:=h;refine Seq.us [(16,.bool (!t15)),(17,.bool (!t15))] (Seq.done ?_);cases hb:(!t15) with
  | true=>
   replace h:=h.1 (Tw.nt hb)
   refine At.cT 17 K9 xX ?_;refine At.x 0 [] ?_;exact At.bZ (rs:=[]) (vs:=[]) func241 (by kernel_rfl) rfl h
  | false=>
   replace h:=h.2 (Tw.nf hb)
   refine At.cF 17 K9 xX ?_;refine At.skip ?_;refine At.s K12 K13 ?_;refine At.rg 2 [0,1,2,3] ?_;refine Seq.us [(18,v0),(19,.I x7),(20,.I x1)] ?_;refine Seq.o ?_;refine AV.inv (g:=(gl R)) (u:=v0) (vs:=#[(.I x7),(.I x1)]) (name:=SJ) (d:=(some 21)) (x:=(.tmp 18)) (xs:=#[(.tmp 19),(.tmp 20)]) (ts:=#[3,3]) (ty:=0) (gd:=none) (by kernel_rfl) rfl rfl rfl rfl (h.cont (λbB D2 G=>?_));replace h:=G;clear G;obtain⟨rfl,h⟩:=h;refine Seq.done ?_;refine At.rg 3 [0,1] ?_;refine Seq.us [(22,.I x7),(1,.I x7)] (Seq.done ?_);refine At.inBlock ?_;refine At.inLoop ?_;refine At.b 1 K3 ?_;refine At.s K4 K5 ?_;exact At.v [(0,v0),(1,(.I x7))] (h _)
def sr {R:Rr}{v0:Value}{x1:Int}{Z22:Hp}(h:AK (x1-1)/\2≠(0:Int)/\∀x7:Int,x7=IntKind.i64.wrap (Int.tdiv (x1-1) 2)->((x7:Int)=x1->R (.T #[]) Z22)/\(¬((x7:Int)=x1)->MC prog v0 SI #[(.I x1),(.I x7)] Z22 (BI R (λv A=>∃t15:Bool,v=(.bool t15)/\(t15=false->R (.T #[]) A)/\(t15=true->MC prog v0 SJ #[(.I x7),(.I x1)] A (BI R (λbB D2=>bB=(.tuple #[])/\pt4 R v0 x7 D2))))))):pt4 R v0 x1 Z22:=by
 intro J;show At (gl R) _ _ _ _
 refine At.rg 0 [0,1,2,3] ?_;refine Seq.u 5 (.I x1) ?_;obtain⟨hi,h⟩:=h;refine Seq.z 6 (.binOp .sub 3 (.tmp 5) (.const (.I 1)) 3) 3 (.I (x1-1)) (Y.rH hi rfl rfl) ?_;obtain⟨hc,h⟩:=h;obtain⟨x7,sq⟩:∃y,y=IntKind.i64.wrap (Int.tdiv (x1-1) 2):=⟨_,rfl⟩
 replace h:=h x7 sq
 refine Seq.y (d:=(some 7)) (op:=(.binOp .quo 3 (.tmp 6) (.const (.I 2)) 3)) (ty:=3) (v:=(.I x7)) (by kernel_rfl) rfl (sq▸Y.quo hc rfl rfl) ?_;refine Seq.u 4 (.I x7) (Seq.done ?_);refine At.s K6 K11 (At.s K7 K8 ?_);refine At.rg 1 [0,1,2,3,4,5,6,7,8,9] ?_;refine Seq.us [(8,.I x7),(9,.I x1),(10,.bool (decide ((x7:Int)=x1))),(11,.bool (decide ((x7:Int)=x1)))] ?_;cases hb:(decide ((x7:Int)=x1)) with
 | true=>
  replace h:=h.1 (AfS hb)
  refine Seq.n 12 ?_;refine Seq.n 13 ?_;refine Seq.n 14 ?_;refine Seq.n 15 ?_;refine Seq.n 16 ?_;refine Seq.u 17 (.bool true) (Seq.done ?_);refine At.cT 17 K9 xX ?_;refine At.x 0 [] ?_;exact At.bZ (rs:=[]) (vs:=[]) func241 (by kernel_rfl) rfl h
 | false=>
  replace h:=h.2 (Aff hb)
  refine Seq.us [(12,v0),(13,.I x1),(14,.I x7)] ?_;refine Seq.o ?_;refine AV.inv (g:=(gl R)) (u:=v0) (vs:=#[(.I x1),(.I x7)]) (name:=SI) (d:=(some 15)) (x:=(.tmp 12)) (xs:=#[(.tmp 13),(.tmp 14)]) (ts:=#[3,3]) (ty:=4) (gd:=(some (3,false))) (by kernel_rfl) rfl rfl rfl rfl (h.cont (λv A G=>?_));replace h:=G;clear G;obtain⟨t15,rfl,h⟩:=h;refine Seq.us [(16,.bool (!t15)),(17,.bool (!t15))] (Seq.done ?_);cases hb:(!t15) with
  | true=>
   replace h:=h.1 (Tw.nt hb)
   refine At.cT 17 K9 xX ?_;refine At.x 0 [] ?_;exact At.bZ (rs:=[]) (vs:=[]) func241 (by kernel_rfl) rfl h
  | false=>
   replace h:=h.2 (Tw.nf hb)
   refine At.cF 17 K9 xX ?_;refine At.skip ?_;refine At.s K12 K13 ?_;refine At.rg 2 [0,1,2,3] ?_;refine Seq.us [(18,v0),(19,.I x7),(20,.I x1)] ?_;refine Seq.o ?_;refine AV.inv (g:=(gl R)) (u:=v0) (vs:=#[(.I x7),(.I x1)]) (name:=SJ) (d:=(some 21)) (x:=(.tmp 18)) (xs:=#[(.tmp 19),(.tmp 20)]) (ts:=#[3,3]) (ty:=0) (gd:=none) (by kernel_rfl) rfl rfl rfl rfl (h.cont (λbB D2 G=>?_));replace h:=G;clear G;obtain⟨rfl,h⟩:=h;refine Seq.done ?_;refine At.rg 3 [0,1] ?_;refine Seq.us [(22,.I x7),(1,.I x7)] (Seq.done ?_);refine At.inBlock ?_;refine At.inLoop ?_;refine At.b 1 K3 ?_;refine At.s K4 K5 ?_;exact At.v [(0,v0),(1,(.I x7))] (h _)
end Bj
namespace C4
variable {x0 x4 x5:Int}
def M:Fw:=⟨prog,243,f243,[],[],false,[],[],[(224,[(0,wU),(4,wI),(5,wI)]),(480,[(0,wU),(4,wI),(5,wI)])]⟩
def ok:M.Ok:=⟨AN.nil,mixed,func243,by kernel_rfl⟩
def HT:=M.pt 0
def H8:=M.pt 1
def start (h:HT R x0 0 0 Z22):Spec prog 243 #[.U x0] Z22 R:=M.start h ok
def CJ (h:Br (x4<31) ((0<=x4/\x4<=((IntKind.bits .u64:Nat):Int))/\Df (IntKind.u64.wrap (x0*2^x4.toNat)) λGp=>((0:Int)<=63/\63<=((IntKind.bits .u64:Nat):Int))/\Df (Gp/2^Int.toNat 63) λCR=>Br (CR=0) (AK (x4+1)/\HT R x0 (x4+1) x5 Z22) (H8 R x0 x4 x5 Z22)) (H8 R x0 x4 x5 Z22)):HT R x0 x4 x5 Z22:=M.of h ok rfl
def G0 (h:(0<=x5/\x5<=((IntKind.bits .u64:Nat):Int))/\Df (x0/2^x5.toNat) λNF=>Df (Go.bits .and .u64 NF 1) λA=>Br (A=0) (AK (x5+1)/\H8 R x0 x4 (x5+1) Z22) (R (.T #[.I x4,.I x5]) Z22)):H8 R x0 x4 x5 Z22:=M.of h ok rfl
end C4
namespace DC
variable {p0:Option Addr}{n0 c0:Nat}{x1 x2:Int}
def M:Fw:=⟨prog,334,f334,[],[],false,[(0,15,false)],[],[]⟩
def ok:M.Ok:=⟨AN.nil,mixed,func334,by kernel_rfl⟩
def start (h:Pq p0 λA G=>In x2 (n0:Int)/\LQ Z22 A (G+x2.toNat*1) λIY=>In x1 (n0:Int)/\LQ Z22 A (G+x1.toNat*1) λq17=>In x1 (n0:Int)/\AH prog (Instr.storeAt 272 (.pointer (aD A (G+x1.toNat*1))) (.pointer IY)) Z22 (λ_ y=>In x2 (n0:Int)/\AH prog (Instr.storeAt 272 (.pointer (aD A (G+x2.toNat*1))) (.pointer q17)) y (λ_ AG=>R (.T #[]) AG))):Spec prog 334 #[.slice p0 n0 c0,.I x1,.I x2] Z22 R:=M.start h ok
end DC
end TwW
end
end
section
set_option maxRecDepth 100000
noncomputable section
namespace TwW
open Go Tw Go.Proofs.Tryz
variable [I9]{R:Rr}{Z22:Hp}

namespace QN
variable {x0:Int}
def M:Fw:=⟨prog,6,f6,[],[2],false,[],[],[]⟩
def ok:M.Ok:=⟨AN.nil,mixed,func6,by kernel_rfl⟩
def start (h:∀b2:Nat,Al Z22 λb4=>Al (Hp.set Z22 b4 (.cells #[.int .u32 7] 70 (0,0))) λA=>R (.returned (.agg #[.U x0,(.slice (aD A 0) 1 1)])) (Hp.set (Hp.set Z22 b4 (.cells #[.int .u32 7] 70 (0,0))) A (.cells #[.I 0,.I 2,(.slice (aD b4 0) 1 1)] 31 (0,0)))):Spec prog 6 #[.U x0] Z22 R:=M.start h ok
end QN
namespace dP
def M:Fw:=⟨prog,9,f9,[],[],false,[],[],[]⟩
def ok:M.Ok:=⟨AN.nil,mixed,func9,by kernel_rfl⟩
def start (h:AH prog (Instr.makeMap 91 none) Z22 (λz y=>∃A,z=(.map (some A))/\Al y λb3=>R (.returned (.pointer (aD b3 0))) (Hp.set y b3 (.cells #[(.map (some A)),.bool true,.bool false,.I 0,.I 0,.U 0] 93 (0,0))))):Spec prog 9 #[] Z22 R:=M.start h ok
end dP
namespace AM
variable {q0 p2 q10 Pz Ge p54 p77 p99:Option Addr}{s1:ByteArray}{n2 c2 n11 P0 n12 c12 xr zK qk c77 n99 c99:Nat}{x3 Mn WA x78 dQ AEx Yx:Int}
def M:Fw:=⟨prog,12,f12,[42,43,44,45,46,47,48,49],[14,20],false,[(33,4,false)],[],[(62,[(0,wQ),(1,wT),(2,wL),(10,wQ)]),(4072,[(0,wQ),(1,wT),(11,wL),(12,wL),(54,wL),(55,wI),(56,wI)]),(16360,[(0,wQ),(1,wT),(11,wL),(12,wL),(77,wL),(78,wI),(79,wI)]),(65512,[(0,wQ),(1,wT),(11,wL),(99,wL),(100,wI),(101,wI)]),(16295,[(0,wQ),(1,wT),(11,wL),(12,wL),(54,wL),(55,wI),(56,wI)])]⟩
def ok:M.Ok:=⟨.cons call42 (.cons call43 (.cons call44 (.cons call45 (.cons call46 (.cons call47 (.cons call48 (.cons call49 (AN.nil)))))))),mixed,func12,by kernel_rfl⟩
def dR:=M.pt 0
def Ul:=M.pt 1
def TL:=M.pt 2
def XT:=M.pt 3
def QO:=M.pt 4
def start (h:AO 42 #[.string s1] Z22 R (CB λt23 y=>Bn t23 (R (.T #[.N,.I 150]) y) (Pq q0 λA G=>LI .u64 y A (G+4) λbI=>Br (x3<bI) (R (.T #[.N,.I 231]) y) (LB y A (G+5) λt36=>Bn t36 (R (.T #[.N,.I 232]) y) (LM y A (G+6) λm41=>AH prog (Instr.lookup 75 (.map m41) (.string s1) false) y (CQ λq43 AG=>Bo (Option.isNone q43) (LI .i64 AG A (G+3) λYl=>AO 43 #[.I Yl] AG R (CQ λq50 AQ=>dR R (aD A G) s1 p2 n2 c2 q50 AQ)) (dR R (aD A G) s1 p2 n2 c2 q43 AG))))))):Spec prog 12 #[.pointer q0,.string s1,.slice p2 n2 c2,.U x3] Z22 R:=M.start h ok
def Tj (h:AO 44 #[.pointer q10,.slice p2 n2 c2] Z22 R (CS λp53 n53 c53 y=>Ul R q0 s1 p53 n53 c53 none 0 0 p2 n2 c2 (n2:Int) 0 y)):dR R q0 s1 p2 n2 c2 q10 Z22:=M.of h ok rfl
def Tk (h:Br (WA<Mn) (Pq p54 λMj RG=>In WA (xr:Int)/\∃AJV AJW AJX su AJY,Bm Z22 Mj (RG+WA.toNat*3) [.slice AJV AJW AJX,.I su,.U AJY]/\∀Ip:Nat,Pq Pz λA G=>In WA (n11:Int)/\LI .i64 Z22 A (G+WA.toNat*1) λx64=>Br (x64=1) (Al Z22 λsv=>AH prog (HO 22 Ge n12 c12 sv) (Hp.set Z22 sv (.cells #[.slice AJV AJW AJX,.I su,.U AJY] 53 (0,0))) (CS λp69 n69 c69 y=>QO R q0 s1 (aD A G) n11 P0 p69 n69 c69 (aD Mj RG) xr zK Mn WA y)) (QO R q0 s1 (aD A G) n11 P0 Ge n12 c12 (aD Mj RG) xr zK Mn WA Z22)) (Br ((n12:Int)=0) (R (.T #[.slice Pz n11 P0,.I 0]) Z22) (AO 45 #[.string s1,.slice Ge n12 c12] Z22 R (CS λp77 qk c77 y=>TL R q0 s1 Pz n11 P0 Ge n12 c12 p77 qk c77 (qk:Int) 0 y)))):Ul R q0 s1 Pz n11 P0 Ge n12 c12 p54 xr zK Mn WA Z22:=M.of h ok rfl
def QP (h:Br (dQ<x78) (Pq p77 λA o81=>In dQ (qk:Int)/\LS Z22 A (o81+dQ.toNat*1) λp82 n82 c82=>Pq q0 λG o84=>LQ Z22 G o84 λq86=>AO 46 #[.pointer q86,.slice p82 n82 c82] Z22 R (CI .i64 λx88 y=>Br (x88≠0) (R (.T #[.N,.I 230]) y) (AK (dQ+1)/\TL R (aD G o84) s1 Pz n11 P0 Ge n12 c12 (aD A o81) qk c77 x78 (dQ+1) y))) (Pq q0 λb93 o93=>LQ Z22 b93 o93 λq95=>AO 47 #[.pointer q95] Z22 R (CI .i64 λx96 y=>Br (x96≠0) (R (.T #[.N,.I 230]) y) (XT R (aD b93 o93) s1 Pz n11 P0 Ge n12 c12 (n12:Int) 0 y)))):TL R q0 s1 Pz n11 P0 Ge n12 c12 p77 qk c77 x78 dQ Z22:=M.of h ok rfl
def dS (h:Br (Yx<AEx) (Pq p99 λoP sx=>In Yx (n99:Int)/\∃A G ACO ACP ACQ,Bm Z22 oP (sx+Yx.toNat*3) [.slice A G ACO,.I ACP,.U ACQ]/\∀Nn:Nat,AO 48 #[.pointer q0,.string s1] Z22 R (CQ λAQc y=>AO 49 #[.pointer AQc,.agg #[.slice A G ACO,.I ACP,.U ACQ]] y R (CI .i64 λAEy AG=>AK (Yx+1)/\XT R q0 s1 Pz n11 P0 (aD oP sx) n99 c99 AEx (Yx+1) AG))) (R (.T #[.slice Pz n11 P0,.I 0]) Z22)):XT R q0 s1 Pz n11 P0 p99 n99 c99 AEx Yx Z22:=M.of h ok rfl
def QQ (h:AK (WA+1)/\Ul R q0 s1 Pz n11 P0 Ge n12 c12 p54 xr zK Mn (WA+1) Z22):QO R q0 s1 Pz n11 P0 Ge n12 c12 p54 xr zK Mn WA Z22:=M.of h ok rfl
end AM
namespace Dl
variable {q0:Option Addr}{s1:ByteArray}{x2:Int}
def M:Fw:=⟨prog,40,f40,[16,31,52,59,98],[],false,[],[],[(62,[])]⟩
def ok:M.Ok:=⟨.cons call16 (.cons call31 (.cons call52 (.cons call59 (.cons call98 (AN.nil))))),mixed,func40,by kernel_rfl⟩
def LK:=M.pt 0
def start (h:Al Z22 λb5=>Pq q0 λA G=>LQ (Hp.set Z22 b5 (.cells #[.U x2] 23 (0,0))) A (G+2) λsy=>AO 16 #[.pointer sy] (Hp.set Z22 b5 (.cells #[.U x2] 23 (0,0))) R (CB λt13 y=>Bn t13 (R (.returned (.I 230)) y) (LM y A (G+7) λm19=>LI .u64 y b5 0 λIr=>AH prog (Instr.lookup 76 (.map m19) (.string s1) false) y (CS λp21 n21 c21 AG=>Kp [b5] y AG/\AO 59 #[.slice p21 n21 c21,.U Ir] AG R (CB λt23 AQ=>Bn t23 (R (.returned (.I 233)) AQ) (LQ AQ A (G+2) λoO=>LI .u64 AQ b5 0 λLN=>AO 52 #[.string s1,.U LN] AQ R (CT λs32 A5=>Kp [A] AQ A5/\AO 31 #[.pointer oO,.string s32] A5 R (CI .i64 λIE Cn=>Br (IE≠0) (R (.returned (.I 230)) Cn) (LM Cn A (G+7) λzH=>AH prog (Instr.lookup 76 (.map zH) (.string s1) false) Cn (CS λp40 n40 c40 EU=>AO 98 #[.slice p40 n40 c40,(.func (.func 99) #[] #[(.pointer (aD b5 0))])] EU R (CS λp42 n42 c42 QI=>LM QI A (G+7) λm46=>AH prog (Instr.mapUpdate 76 (.map m46) (.string s1) (.slice p42 n42 c42)) QI (λ_ qj=>Br ((n42:Int)=0) (LM qj A (G+7) λm55=>AH prog (Builtin.delete_ #[76,9] 0 #[.map m55,.string s1]) qj (λ_ xp=>LK R xp)) (LK R qj))))))))))))):Spec prog 40 #[.pointer q0,.string s1,.U x2] Z22 R:=M.start h ok
def Mh (h:R (.returned (.I 0)) Z22):LK R  Z22:=M.of h ok rfl
end Dl
namespace G3
variable {s0:ByteArray}{x3:Int}
def M:Fw:=⟨prog,42,f42,[],[],false,[],[],[(464,[(0,wT),(3,wI)])]⟩
def ok:M.Ok:=⟨AN.nil,mixed,func42,by kernel_rfl⟩
def BM:=M.pt 0
def start (h:Bo ((ByteArray.toList s0==ByteArray.toList (ByteArray.mk #[]))) (R (.B false) Z22) (Br ((32:Int)<(s0.size:Int)) (R (.B false) Z22) (BM R s0 0 Z22))):Spec prog 42 #[.string s0] Z22 R:=M.start h ok
def Bg (h:Br (x3<(s0.size:Int)) (∃A:UInt8,0<=x3/\(ByteArray.data s0)[x3.toNat]?=some A/\Br (((A.toNat:Int):Int)<97) (Br (((A.toNat:Int):Int)<48) (Br (((A.toNat:Int):Int)≠45) (R (.B false) Z22) (AK (x3+1)/\BM R s0 (x3+1) Z22)) (Br ((57:Int)<(A.toNat:Int)) (Br (((A.toNat:Int):Int)≠45) (R (.B false) Z22) (AK (x3+1)/\BM R s0 (x3+1) Z22)) (AK (x3+1)/\BM R s0 (x3+1) Z22))) (Br ((122:Int)<(A.toNat:Int)) (Br (((A.toNat:Int):Int)<48) (Br (((A.toNat:Int):Int)≠45) (R (.B false) Z22) (AK (x3+1)/\BM R s0 (x3+1) Z22)) (Br ((57:Int)<(A.toNat:Int)) (Br (((A.toNat:Int):Int)≠45) (R (.B false) Z22) (AK (x3+1)/\BM R s0 (x3+1) Z22)) (AK (x3+1)/\BM R s0 (x3+1) Z22))) (AK (x3+1)/\BM R s0 (x3+1) Z22))) (R (.B true) Z22)):BM R s0 x3 Z22:=M.of h ok rfl
end G3
namespace dT
variable {x0:Int}
def M:Fw:=⟨prog,43,f43,[],[],false,[],[],[]⟩
def ok:M.Ok:=⟨AN.nil,mixed,func43,by kernel_rfl⟩
def start (h:AH prog (Instr.makeMap 170 none) Z22 (λz y=>∃m3,z=(.map (some m3))/\AH prog (Instr.makeMap 171 none) y (λz A=>∃m4,z=(.map (some m4))/\Al A λG=>R (.returned (.pointer (aD G 0))) (Hp.set A G (.cells #[(.map (some m3)),(.map (some m4)),(.I (if(1024:Int)<(if x0<0 then 0 else x0) then 1024 else(if x0<0 then 0 else x0)))] 175 (0,0)))))):Spec prog 43 #[.I x0] Z22 R:=M.start h ok
end dT
namespace QR
variable {q0:Option Addr}
def M:Fw:=⟨prog,47,f47,[76,108,109],[],false,[],[],[]⟩
def ok:M.Ok:=⟨.cons call76 (.cons call108 (.cons call109 (AN.nil))),mixed,func47,by kernel_rfl⟩
def start (h:AO 108 #[.pointer q0] Z22 R (CB λt4 y=>Bn t4 (R (.returned (.I 0)) y) (Pq q0 λb7 A=>LQ y b7 A λq9=>LI .i64 y b7 (A+4) λDY=>AO 76 #[(.pointer (aD b7 A)),(.string (ByteArray.mk #[115])),.I DY] y R (CT λG AG=>Kp [b7] y AG/\AO 109 #[.pointer q9,.string G] AG R (CI .i64 λEl AQ=>R (.returned (.I El)) AQ))))):Spec prog 47 #[.pointer q0] Z22 R:=M.start h ok
end QR
namespace BL
variable {p0 p1 Ge QS jD oQ LL gC:Option Addr}{n0 c0 n1 c1 n12 c12 n26 PY jE jF oR oS n15 Hu n38 bA:Nat}{x2 x3 Lz Hv NG Kz:Int}
def M:Fw:=⟨prog,53,f53,[30,115],[14,17],false,[],[],[(1000,[(1,wL),(2,wI),(3,wI),(12,wL),(26,wL),(27,wI),(28,wI)]),(4007,[(1,wL),(2,wI),(3,wI),(12,wL),(26,wL),(27,wI),(28,wI)]),(2051304,[(1,wL),(2,wI),(3,wI),(12,wL),(14,.X 63 [.L,.L]),(15,wL),(26,wL),(27,wI),(28,wI),(38,wL),(39,wI),(40,wI)]),(8205223,[(1,wL),(2,wI),(3,wI),(12,wL),(14,.X 63 [.L,.L]),(15,wL),(26,wL),(27,wI),(28,wI),(38,wL),(39,wI),(40,wI)])]⟩
def ok:M.Ok:=⟨.cons call30 (.cons call115 (AN.nil)),mixed,func53,by kernel_rfl⟩
def H8:=M.pt 0
def tA:=M.pt 1
def GA:=M.pt 2
def oT:=M.pt 3
def start (h:AO 30 #[.slice p0 n0 c0] Z22 R (λz y=>∃LP G LR A,z=(.tuple #[.slice LP G LR,.I A])/\Br (A≠0) (R (.T #[.N,.I A]) y) (H8 R p1 n1 c1 x2 x3 none 0 0 LP G LR (G:Int) 0 y))):Spec prog 53 #[.slice p0 n0 c0,.slice p1 n1 c1,.I x2,.I x3] Z22 R:=M.start h ok
def G0 (h:Br (Hv<Lz) (Pq QS λYq Yr=>In Hv (n26:Int)/\∃oU oV oW G zL A,Bm Z22 Yq (Yr+Hv.toNat*2) [.slice oU oV oW,.slice G zL A]/\∀Ip:Nat,AO 115 #[.slice p1 n1 c1,.slice oU oV oW] Z22 R (CB λt35 y=>Bn t35 (tA R p1 n1 c1 x2 x3 Ge n12 c12 (aD Yq Yr) n26 PY Lz Hv y) (GA R p1 n1 c1 x2 x3 Ge n12 c12 oU oV oW G zL A none 0 0 (aD Yq Yr) n26 PY Lz Hv G zL A (zL:Int) 0 y))) (R (.T #[.slice Ge n12 c12,.I 0]) Z22)):H8 R p1 n1 c1 x2 x3 Ge n12 c12 QS n26 PY Lz Hv Z22:=M.of h ok rfl
def zM (h:AK (Hv+1)/\H8 R p1 n1 c1 x2 x3 Ge n12 c12 QS n26 PY Lz (Hv+1) Z22):tA R p1 n1 c1 x2 x3 Ge n12 c12 QS n26 PY Lz Hv Z22:=M.of h ok rfl
def FP (h:Br (Kz<NG) (Pq gC λgH A=>In Kz (n38:Int)/\∃zN G,Bm Z22 gH (A+Kz.toNat*2) [.I zN,.U G]/\∀Hj:Nat,Br (x2<=zN) (Br (zN<=x3) (Al Z22 λP4=>AH prog (HO 61 LL n15 Hu P4) (Hp.set Z22 P4 (.cells #[.I zN,.U G] 66 (0,0))) (CS λp57 n57 c57 y=>oT R p1 n1 c1 x2 x3 Ge n12 c12 jD jE jF oQ oR oS p57 n57 c57 QS n26 PY Lz Hv (aD gH A) n38 bA NG Kz y)) (oT R p1 n1 c1 x2 x3 Ge n12 c12 jD jE jF oQ oR oS LL n15 Hu QS n26 PY Lz Hv (aD gH A) n38 bA NG Kz Z22)) (oT R p1 n1 c1 x2 x3 Ge n12 c12 jD jE jF oQ oR oS LL n15 Hu QS n26 PY Lz Hv (aD gH A) n38 bA NG Kz Z22)) (Br (0<(n15:Int)) (Al Z22 λb67=>AH prog (HO 44 Ge n12 c12 b67) (Hp.set Z22 b67 (.cells #[.slice jD jE jF,.slice LL n15 Hu] 63 (0,0))) (CS λp68 n68 c68 y=>tA R p1 n1 c1 x2 x3 p68 n68 c68 QS n26 PY Lz Hv y)) (tA R p1 n1 c1 x2 x3 Ge n12 c12 QS n26 PY Lz Hv Z22))):GA R p1 n1 c1 x2 x3 Ge n12 c12 jD jE jF oQ oR oS LL n15 Hu QS n26 PY Lz Hv gC n38 bA NG Kz Z22:=M.gB h ok rfl λ_=>by kernel_rfl
def zO (h:AK (Kz+1)/\GA R p1 n1 c1 x2 x3 Ge n12 c12 jD jE jF oQ oR oS LL n15 Hu QS n26 PY Lz Hv gC n38 bA NG (Kz+1) Z22):oT R p1 n1 c1 x2 x3 Ge n12 c12 jD jE jF oQ oR oS LL n15 Hu QS n26 PY Lz Hv gC n38 bA NG Kz Z22:=M.gB h ok rfl λ_=>by kernel_rfl
end BL
namespace Um
variable {p0:Option Addr}{n0 c0:Nat}{x1:Int}
def M:Fw:=⟨prog,78,f78,[81],[],false,[],[],[]⟩
def ok:M.Ok:=⟨.cons call81 (AN.nil),mixed,func78,by kernel_rfl⟩
def start (h:AO 81 #[.slice p0 n0 c0,.I x1] Z22 R (λz y=>∃zP A G,z=(.tuple #[.U zP,.I A,.I G])/\Br (G≠0) (R (.T #[(.string (ByteArray.mk #[])),.I 0,.I G]) y) (AK ((n0:Int)-A)/\Df (IntKind.u64.wrap ((n0:Int)-A)) λUe=>Br (Ue<zP) (R (.T #[(.string (ByteArray.mk #[])),.I 0,.I 20]) y) (Df (IntKind.i64.wrap zP) λLN=>AK (A+LN)/\(0<=A/\A<=(A+LN)/\(A+LN)<=(c0:Int))/\AH prog (convert 79 9 (.slice (ET p0 (A.toNat) c0 1) (Int.toNat (A+LN)-A.toNat) (c0-A.toNat))) y (CT λs34 AG=>Df (IntKind.i64.wrap zP) λYn=>AK (A+Yn)/\R (.T #[.string s34,(.I (A+Yn)),.I 0]) AG))))):Spec prog 78 #[.slice p0 n0 c0,.I x1] Z22 R:=M.start h ok
end Um
namespace Ba
variable {b0 b1:Nat}
def M:Fw:=⟨prog,107,f107,[76,77,108,109,110],[],false,[(1,10,false),(4,11,false),(6,13,false),(7,9,true)],[],[(6,[(0,wA),(1,wA)]),(15,[(0,wA),(1,wA)])]⟩
def ok:M.Ok:=⟨.cons call76 (.cons call77 (.cons call108 (.cons call109 (.cons call110 (AN.nil))))),mixed,func107,by kernel_rfl⟩
def EK:=M.pt 0
def Ep:=M.pt 1
def start (h:LQ Z22 b0 0 λq2=>AO 108 #[.pointer q2] Z22 R (CB λt3 y=>Bo t3 (LQ y b0 0 λq5=>Pq q5 λb6 o6=>LI .i64 y b6 (o6+5) λx8=>Br (4096<=x8) (LQ y b0 0 λG=>Pq G λIs JT=>LQ y Is JT λq14=>LQ y b0 0 λq15=>LQ y b0 0 λq16=>Pq q16 λHj Th=>LI .i64 y Hj (Th+4) λNF=>AO 76 #[.pointer q15,(.string (ByteArray.mk #[115])),.I NF] y R (CT λs20 AG=>Kp [Is,b0] y AG/\AO 109 #[.pointer q14,.string s20] AG R (CI .i64 λEn AQ=>AO 77 #[.I En] AQ R (λz A=>z=(.tuple #[])/\LQ A b0 0 λq23=>Pq q23 λPT XS=>LI .i64 A PT (XS+4) λJj=>AK (Jj+1)/\AH prog (Instr.storeAt 3 (.pointer (aD PT (XS+4))) (.I (Jj+1))) A (λ_ Cn=>LQ Cn b0 0 λq30=>Pq q30 λF8 lR=>AH prog (Instr.storeAt 3 (.pointer (aD F8 (lR+5))) (.I 0)) Cn (λ_ EU=>EK R b0 b1 EU)))))) (EK R b0 b1 y)) (EK R b0 b1 y))):Spec prog 107 #[(.pointer (aD b0 0)),(.pointer (aD b1 0))] Z22 R:=M.start h ok
def DB (h:LQ Z22 b0 0 λq33=>Pq q33 λXU Yy=>LQ Z22 XU Yy λq36=>LQ Z22 b0 0 λq37=>LQ Z22 b0 0 λq38=>Pq q38 λUn o39=>LI .i64 Z22 Un (o39+4) λLy=>LS Z22 b1 0 λp43 n43 c43=>AO 76 #[.pointer q37,(.string (ByteArray.mk #[115])),.I Ly] Z22 R (CT λs42 y=>Kp [b1,XU,b0] Z22 y/\AO 110 #[.pointer q36,.string s42,.slice p43 n43 c43] y R (CI .i64 λsM AG=>AO 77 #[.I sM] AG R (λz AQ=>z=(.tuple #[])/\LQ AQ b0 0 λq46=>AO 108 #[.pointer q46] AQ R (CB λt47 A=>Bn t47 (LQ A b0 0 λq49=>LQ A b0 0 λq50=>Pq q50 λzQ zR=>LS A zQ (zR+3) λp53 n53 c53=>LQ A b0 0 λq54=>Pq q54 λG o55=>LI .i64 A G (o55+4) λUo=>Al A λbM=>AH prog (HO 40 p53 n53 c53 bM) (Hp.set A bM (.cells #[.I Uo] 3 (0,0))) (CS λp59 n59 c59 Cn=>Kp [b0] (Hp.set A bM (.cells #[.I Uo] 3 (0,0))) Cn/\Pq q49 λb60 o60=>AH prog (Instr.storeAt 40 (.pointer (aD b60 (o60+3))) (.slice p59 n59 c59)) Cn (λ_ EU=>Ep R b0 b1 EU))) (Ep R b0 b1 A)))))):EK R b0 b1 Z22:=M.of h ok rfl
def FQ (h:LQ Z22 b0 0 λq62=>Pq q62 λA G=>LI .i64 Z22 A (G+5) λx65=>LS Z22 b1 0 λp66 xt c66=>AK (x65+(xt:Int))/\AH prog (Instr.storeAt 3 (.pointer (aD A (G+5))) (.I (x65+(xt:Int)))) Z22 (λ_ y=>R (.T #[]) y)):Ep R b0 b1 Z22:=M.of h ok rfl
end Ba
namespace Gr
variable {s0:ByteArray}{x3:Int}
def M:Fw:=⟨prog,131,f131,[],[],false,[],[],[(464,[(0,wT),(3,wI)])]⟩
def ok:M.Ok:=⟨AN.nil,mixed,func131,by kernel_rfl⟩
def BM:=M.pt 0
def start (h:Bo ((ByteArray.toList s0==ByteArray.toList (ByteArray.mk #[]))) (R (.B false) Z22) (Br ((64:Int)<(s0.size:Int)) (R (.B false) Z22) (∃G:UInt8,(0:Int)<=0/\(ByteArray.data s0)[Int.toNat 0]?=some G/\Br ((48:Int)<=(G.toNat:Int)) (∃A:UInt8,(0:Int)<=0/\(ByteArray.data s0)[Int.toNat 0]?=some A/\Br (((A.toNat:Int):Int)<=57) (R (.B false) Z22) (BM R s0 0 Z22)) (BM R s0 0 Z22)))):Spec prog 131 #[.string s0] Z22 R:=M.start h ok
def Bg (h:Br (x3<(s0.size:Int)) (∃A:UInt8,0<=x3/\(ByteArray.data s0)[x3.toNat]?=some A/\Br (((A.toNat:Int):Int)≠95) (Br (((A.toNat:Int):Int)<48) (Br (((A.toNat:Int):Int)<65) (Br (((A.toNat:Int):Int)<97) (R (.B false) Z22) (Br ((122:Int)<(A.toNat:Int)) (R (.B false) Z22) (AK (x3+1)/\BM R s0 (x3+1) Z22))) (Br ((90:Int)<(A.toNat:Int)) (Br (((A.toNat:Int):Int)<97) (R (.B false) Z22) (Br ((122:Int)<(A.toNat:Int)) (R (.B false) Z22) (AK (x3+1)/\BM R s0 (x3+1) Z22))) (AK (x3+1)/\BM R s0 (x3+1) Z22))) (Br ((57:Int)<(A.toNat:Int)) (Br (((A.toNat:Int):Int)<65) (Br (((A.toNat:Int):Int)<97) (R (.B false) Z22) (Br ((122:Int)<(A.toNat:Int)) (R (.B false) Z22) (AK (x3+1)/\BM R s0 (x3+1) Z22))) (Br ((90:Int)<(A.toNat:Int)) (Br (((A.toNat:Int):Int)<97) (R (.B false) Z22) (Br ((122:Int)<(A.toNat:Int)) (R (.B false) Z22) (AK (x3+1)/\BM R s0 (x3+1) Z22))) (AK (x3+1)/\BM R s0 (x3+1) Z22))) (AK (x3+1)/\BM R s0 (x3+1) Z22))) (AK (x3+1)/\BM R s0 (x3+1) Z22)) (R (.B true) Z22)):BM R s0 x3 Z22:=M.of h ok rfl
end Gr
namespace DP
variable {q0:Option Addr}{s1 s2 s7:ByteArray}{x9:Int}
def M:Fw:=⟨prog,140,f140,[202,203],[],false,[],[],[(976,[(7,wT),(9,wI)])]⟩
def ok:M.Ok:=⟨.cons call202 (.cons call203 (AN.nil)),mixed,func140,by kernel_rfl⟩
def KX:=M.pt 0
def start (h:Pq q0 λXO im=>LT Z22 XO (im+1) λs17=>(ByteArray.size s17+ByteArray.size (ByteArray.mk #[47])<=9223372036854775807)/\(ByteArray.size (s17++(ByteArray.mk #[47]))+ByteArray.size s1<=9223372036854775807)/\AO 202 #[.string s2,(.string ((s17++(ByteArray.mk #[47]))++s1))] Z22 R (λz y=>∃A G,z=(.tuple #[.string A,.bool G])/\Bn G (R (.returned (.I 0)) y) (Br (((A.size:Int):Int)≠8) (R (.returned (.I 0)) y) (KX R A 0 y)))):Spec prog 140 #[.pointer q0,.string s1,.string s2] Z22 R:=M.start h ok
def Mk (h:Br (x9<8) (∃G:UInt8,0<=x9/\(ByteArray.data s7)[x9.toNat]?=some G/\Br (((G.toNat:Int):Int)<48) (R (.returned (.I 0)) Z22) (∃u42:UInt8,0<=x9/\(ByteArray.data s7)[x9.toNat]?=some u42/\Br ((57:Int)<(u42.toNat:Int)) (R (.returned (.I 0)) Z22) (AK (x9+1)/\KX R s7 (x9+1) Z22))) (AO 203 #[.string s7] Z22 R (λz y=>∃A AQm,z=(.tuple #[.I A,AQm])/\R (.returned (.I A)) y))):KX R s7 x9 Z22:=M.of h ok rfl
end DP
namespace BY
variable {p0:Option Addr}{n0 c0:Nat}{x1 x2 x6 x7:Int}
def M:Fw:=⟨prog,158,f158,[164],[],false,[(6,17,false)],[],[(48,[(0,wL),(1,wI),(2,wI),(6,wI)]),(3216,[(0,wL),(1,wI),(2,wI),(6,wI),(7,wI)])]⟩
def ok:M.Ok:=⟨.cons call164 (AN.nil),mixed,func158,by kernel_rfl⟩
def dU:=M.pt 0
def Ep:=M.pt 1
def start (h:AK (x1+1)/\dU R p0 n0 c0 x1 x2 (x1+1) Z22):Spec prog 158 #[.slice p0 n0 c0,.I x1,.I x2] Z22 R:=M.start h ok
def Kb (h:Br (x6<x2) (Ep R p0 n0 c0 x1 x2 x6 x6 Z22) (R (.T #[]) Z22)):dU R p0 n0 c0 x1 x2 x6 Z22:=M.of h ok rfl
end BY
namespace FF
variable {p0 p5:Option Addr}{n0 c0 n5 c5:Nat}{x1:Int}
def M:Fw:=⟨prog,175,f175,[],[],false,[],[],[(224,[(1,wU),(5,wL)])]⟩
def ok:M.Ok:=⟨AN.nil,mixed,func175,by kernel_rfl⟩
def HT:=M.pt 0
def start (h:Al Z22 λA=>AH prog (Builtin.append_ #[79,79] 79 #[(.slice (aD A 0) 0 0),.slice p0 n0 c0]) (Hp.set Z22 A (.cells #[] 5 (0,0))) (CS λp8 n8 c8 y=>HT R x1 p8 n8 c8 y)):Spec prog 175 #[.slice p0 n0 c0,.U x1] Z22 R:=M.start h ok
def CJ (h:Br (127<x1) (Df (IntKind.u8.wrap x1) λDA=>Df (Go.bits .or .u8 DA 128) λEl=>Al Z22 λHj=>AH prog (HO 79 p5 n5 c5 Hj) (Hp.set Z22 Hj (.cells #[.int .u8 El] 5 (0,0))) (CS λp18 G A y=>((0:Int)<=7/\7<=((IntKind.bits .u64:Nat):Int))/\Df (x1/2^Int.toNat 7) λCR=>HT R CR p18 G A y)) (Df (IntKind.u8.wrap x1) λEn=>Al Z22 λUf=>AH prog (HO 79 p5 n5 c5 Uf) (Hp.set Z22 Uf (.cells #[.int .u8 En] 5 (0,0))) (CS λUg n23 SP y=>R (.returned (.slice Ug n23 SP)) y))):HT R x1 p5 n5 c5 Z22:=M.of h ok rfl
end FF
namespace BA
variable {v0:Value}{b1 b3 n7 c7:Nat}{p7:Option Addr}{x8 x9:Int}
def M:Fw:=⟨prog,190,f190,[191,192,193],[100000],false,[],[],[(104,[(0,wV),(3,wA),(7,wL),(8,wI),(9,wI)]),(112,[(0,wV),(3,wA)]),(423,[(0,wV),(3,wA),(7,wL),(8,wI),(9,wI)])]⟩
def ok:M.Ok:=⟨.cons call191 (.cons call192 (.cons call193 (AN.nil))),mixed,func190,by kernel_rfl⟩
def HA:=M.pt 0
def Pa:=M.pt 1
def IZ:=M.pt 2
def start (h:Al Z22 λb3=>LS (Hp.set Z22 b3 (.cells #[.N] 269 (0,0))) b1 0 λp7 n7 c7=>HA R v0 b3 p7 n7 c7 (n7:Int) 0 (Hp.set Z22 b3 (.cells #[.N] 269 (0,0)))):Spec prog 190 #[v0,(.pointer (aD b1 0))] Z22 R:=M.F5 h ok [(0,.o (.V v0)),(1,.o (.A b1))] rfl rfl (by kernel_rfl)
def Bi (h:Br (x9<x8) (Pq p7 λG A=>In x9 (n7:Int)/\LS Z22 G (A+x9.toNat*1) λGe n12 c12=>Br (0<(n12:Int)) (Al Z22 λE1=>AO 191 #[(.iface 271 (.pointer (aD b3 0))),(.iface 272 (.pointer (aD E1 0)))] (Hp.set Z22 E1 (.cells #[.slice Ge n12 c12] 274 (0,0))) R (λz y=>z=(.tuple #[])/\IZ R v0 b3 (aD G A) n7 c7 x8 x9 y)) (IZ R v0 b3 (aD G A) n7 c7 x8 x9 Z22)) (Pa R v0 b3 Z22)):HA R v0 b3 p7 n7 c7 x8 x9 Z22:=M.of h ok rfl
def Kc (h:LS Z22 b3 0 λUg n23 SP=>Br (0<(n23:Int)) (LS Z22 b3 0 λQS n26 PY=>Pq QS λPU o27=>In 0 (n26:Int)/\LQ Z22 PU o27 λzS=>Pq zS λF8 lR=>LS Z22 F8 lR λp33 n33 c33=>Pq p33 λXU Yy=>In 0 (n33:Int)/\∃tB tC tD zC zD zF,Bm Z22 XU Yy [.slice tB tC tD,.slice zC zD zF]/\∃G:Nat,v0=.func (.yield G) #[] #[]/\Ls prog G #[.agg #[.slice tB tC tD,.slice zC zD zF]] Z22 (BI R (CB λt36 y=>Bn t36 (R (.T #[]) y) (LS y F8 lR λp42 n42 A=>((0:Int)<=1/\1<=(n42:Int))/\AH prog (Instr.storeAt 44 (.pointer (aD F8 lR)) (.slice (ET p42 (1) A 2) (n42-1) (A-1))) y (λ_ AG=>LS AG F8 lR λil n49 c49=>Br ((n49:Int)=0) (AO 192 #[(.iface 271 (.pointer (aD b3 0)))] AG R (λz AQ=>∃v53,v53=z/\Pa R v0 b3 AQ)) (AO 193 #[(.iface 271 (.pointer (aD b3 0))),.I 0] AG R (λz AQ=>z=(.tuple #[])/\Pa R v0 b3 AQ))))))) (R (.T #[]) Z22)):Pa R v0 b3 Z22:=M.of h ok rfl
def KZ (h:AK (x9+1)/\HA R v0 b3 p7 n7 c7 x8 (x9+1) Z22):IZ R v0 b3 p7 n7 c7 x8 x9 Z22:=M.of h ok rfl
end BA
namespace Hb
variable {v0 v1:Value}
def M:Fw:=⟨prog,191,f191,[241],[],false,[],[],[]⟩
def ok:M.Ok:=⟨.cons call241 (AN.nil),mixed,func191,by kernel_rfl⟩
def start (h:MC prog v0 ABl #[v1] Z22 (BI R (λz y=>z=(.tuple #[])/\MC prog v0 ri #[] y (BI R (CI .i64 λx9 A=>AK (x9-1)/\AO 241 #[v0,(.I (x9-1))] A R (λz G=>z=(.tuple #[])/\R (.T #[]) G)))))):Spec prog 191 #[v0,v1] Z22 R:=M.F5 h ok [(0,.o (.V v0)),(1,.o (.V v1))] rfl rfl (by kernel_rfl)
end Hb
namespace IF
variable {p0 p4:Option Addr}{n0 c0 n4 c4:Nat}{x5:Int}
def M:Fw:=⟨prog,204,f204,[249],[],false,[],[],[(220,[(0,wL),(4,wL),(5,wI)])]⟩
def ok:M.Ok:=⟨.cons call249 (AN.nil),mixed,func204,by kernel_rfl⟩
def EK:=M.pt 0
def start (h:EK R p0 n0 c0 none 0 0 0 Z22):Spec prog 204 #[.slice p0 n0 c0] Z22 R:=M.start h ok
def DB (h:Br (x5=(n0:Int)) (R (.T #[.slice p4 n4 c4,.bool false]) Z22) (AO 249 #[.slice p0 n0 c0,.I x5] Z22 R (λz y=>∃A G AJh AJi AJj,z=(.tuple #[.slice A G AJh,.I AJi,.I AJj])/\Br (AJj≠0) (R (.T #[.slice p4 n4 c4,.bool true]) y) (Al y λHP=>AH prog (HO 72 p4 n4 c4 HP) (Hp.set y HP (.cells #[.slice A G AJh] 79 (0,0))) (CS λlH n27 lI AG=>EK R p0 n0 c0 lH n27 lI AJi AG))))):EK R p0 n0 c0 p4 n4 c4 x5 Z22:=M.of h ok rfl
end IF
namespace Iw
variable {q0:Option Addr}{x1:Int}
def M:Fw:=⟨prog,223,f223,[261],[],false,[],[],[]⟩
def ok:M.Ok:=⟨.cons call261 (AN.nil),mixed,func223,by kernel_rfl⟩
def start (h:Pq q0 λA G=>AO 261 #[(.pointer (aD A G)),.I x1] Z22 R (λz y=>∃jG AJk,z=(.tuple #[.U jG,.bool AJk])/\LB y A (G+3) λt19=>Bo t19 (AH prog (Instr.storeAt 4 (.pointer (aD A (G+3))) (.bool true)) y (λ_ AG=>R (.returned (.U jG)) AG)) (AH prog (Instr.storeAt 4 (.pointer (aD A (G+3))) (.bool (!AJk))) y (λ_ AG=>R (.returned (.U jG)) AG)))):Spec prog 223 #[.pointer q0,.I x1] Z22 R:=M.start h ok
end Iw
namespace Dm
variable {q0:Option Addr}{zT dF zU sT x5a x5b:Int}{t1c t3c t5c:Bool}
def M:Fw:=⟨prog,225,f225,[223],[3,5],false,[(2,2,true),(8,2,true),(12,2,true),(13,13,false)],[],[(60,[(0,wQ),(3,.X 283 [.I .i64,.I .i64,.B]),(5,.X 283 [.I .i64,.I .i64,.B])])]⟩
def ok:M.Ok:=⟨.cons call223 (AN.nil),mixed,func225,by kernel_rfl⟩
def dR:=M.pt 0
def start (h:∀b3:Nat,∀b5:Nat,AO 223 #[.pointer q0,.I 1] Z22 R (CI .u64 λx9 y=>Br (x9=0) (R (.T #[.U 0,.agg #[.I zT,.I dF,.bool t1c]]) y) (AO 223 #[.pointer q0,.I 1] y R (CI .u64 λJU AG=>Br (JU=1) (AO 223 #[.pointer q0,.I 5] AG R (CI .u64 λEl AQ=>Df (IntKind.i64.wrap El) λC3=>AO 223 #[.pointer q0,.I 6] AQ R (CI .u64 λNF A5=>Df (IntKind.i64.wrap NF) λA=>AK (A+1)/\AK (C3+(A+1))/\Br ((64:Int)<(C3+(A+1))) (Pq q0 λPU G=>AH prog (Instr.storeAt 4 (.pointer (aD PU (G+3))) (.bool true)) A5 (λ_ Cn=>R (.T #[.U 0,.agg #[.I zT,.I dF,.bool t1c]]) Cn)) (AK (64-C3)/\AK ((64-C3)-(A+1))/\dR R q0 C3 (((64-C3)-(A+1))) true 0 0 false A5)))) (dR R q0 zT dF t1c 0 0 false AG))))):Spec prog 225 #[.pointer q0,.agg #[.I zT,.I dF,.bool t1c]] Z22 R:=M.start h ok
def Tj (h:Bn t3c (Pq q0 λA G=>AH prog (Instr.storeAt 4 (.pointer (aD A (G+3))) (.bool true)) Z22 (λ_ y=>R (.T #[.U 0,.agg #[.I zU,.I sT,.bool false]]) y)) (AK (64-zU)/\AK ((64-zU)-sT)/\AO 223 #[.pointer q0,(.I ((64-zU)-sT))] Z22 R (CI .u64 λV8 y=>(0<=sT/\sT<=((IntKind.bits .u64:Nat):Int))/\Df (IntKind.u64.wrap (V8*2^sT.toNat)) λJH=>R (.T #[.U JH,.agg #[.I zU,.I sT,.bool true]]) y))):dR R q0 zU sT t3c x5a x5b t5c Z22:=M.of2 h ok rfl λ_ _=>by kernel_rfl
end Dm
namespace DD
variable {p0:Option Addr}{n0 c0:Nat}{x1 x2:Int}
def M:Fw:=⟨prog,333,f333,[66],[],false,[],[],[]⟩
def ok:M.Ok:=⟨.cons call66 (AN.nil),mixed,func333,by kernel_rfl⟩
def start (h:Pq p0 λb9 o9=>In x1 (n0:Int)/\LQ Z22 b9 (o9+x1.toNat*1) λq10=>Pq q10 λFN F7=>LS Z22 FN F7 λFe n13 FO=>Pq Fe λIp Kv=>In 0 (n13:Int)/\LS Z22 Ip Kv λbJ A bK=>In x2 (n0:Int)/\LQ Z22 b9 (o9+x2.toNat*1) λq20=>Pq q20 λF9 bL=>LS Z22 F9 bL λUg G SP=>Pq Ug λPT XS=>In 0 (G:Int)/\LS Z22 PT XS λQS n26 PY=>AO 66 #[.slice bJ A bK,.slice QS n26 PY] Z22 R (CI .i64 λLz y=>R (.returned (.bool (decide (Lz<0)))) y)):Spec prog 333 #[.slice p0 n0 c0,.I x1,.I x2] Z22 R:=M.start h ok
end DD
end TwW
end
end
section
set_option maxRecDepth 100000
noncomputable section
namespace TwW
open Go Tw Go.Proofs.Tryz
variable [I9]{R:Rr}{Z22:Hp}

namespace HC
variable {p0:Option Addr}{n0 c0:Nat}{x1 x2 x3:Int}
def M:Fw:=⟨prog,3,f3,[6,7,8,9,10,11,12,13,14],[10,13],false,[(3,8,false)],[],[]⟩
def ok:M.Ok:=⟨.cons call6 (.cons call7 (.cons call8 (.cons call9 (.cons call10 (.cons call11 (.cons call12 (.cons call13 (.cons call14 (AN.nil))))))))),mixed,func3,by kernel_rfl⟩
def start (h:1000≠(0:Int)/\Df (Int.tmod x1 1000) λQH=>Df (IntKind.u64.wrap (1+QH)) λEn=>AO 6 #[.U En] Z22 R (λz y=>∃AJm AJn zV AJo,z=(.agg #[.U AJm,.slice AJn zV AJo])/\∀IV:Nat,AO 7 #[.I x3] y R (CI .i64 λLz AG=>3≠(0:Int)/\Df (Int.tmod Lz 3) λHv=>AK (1+Hv)/\Pq AJn λYq Yr=>In 0 (zV:Int)/\AH prog (Instr.storeAt 3 (.pointer (aD Yq (Yr+1))) (.I (1+Hv))) AG (λ_ AQ=>AO 9 #[] AQ R (CQ λq33 A5=>AO 8 #[.I 0,.pointer q33,.I 100,(.agg #[.U AJm,(.slice (aD Yq Yr) zV AJo)])] A5 R (λz Cn=>∃G tE,z=(.tuple #[.pointer G,.I tE])/\Br (tE≠0) (Bo (Option.isSome G) (AO 10 #[] Cn R (CB λt52 EU=>R (.B t52) EU)) (R (.B false) Cn)) (Bo (Option.isNone G) (Bo (Option.isSome G) (AO 10 #[] Cn R (CB λt52 EU=>R (.B t52) EU)) (R (.B false) Cn)) (Br ((n0:Int)=0) (Bo (Option.isSome G) (AO 10 #[] Cn R (CB λt52 EU=>R (.B t52) EU)) (R (.B false) Cn)) (Df (IntKind.u64.wrap (En-1)) λMn=>AO 6 #[.U Mn] Cn R (λz EU=>∃AJp KU KV KW,z=(.agg #[.U AJp,.slice KU KV KW])/\∀HR:Nat,AO 11 #[.pointer G,.agg #[.U AJp,.slice KU KV KW]] EU R (λz QI=>z=(.tuple #[])/\Df (IntKind.u64.wrap (En-1)) λx61=>3≠(0:Int)/\Df (Int.tmod x2 3) λsS=>Df (IntKind.u64.wrap (x61+sS)) λx64=>AO 13 #[.slice p0 n0 c0] QI R (CS λp68 n68 c68 qj=>AO 12 #[.pointer G,(.string (ByteArray.mk #[116])),.slice p68 n68 c68,.U x64] qj R (λz xp=>∃AQp AQq AQr zW,z=(.tuple #[.slice AQp AQq AQr,.I zW])/\AO 14 #[.pointer G,(.string (ByteArray.mk #[116])),.N,(.I (-1099511627776)),.I 1099511627776] xp R (λz A=>∃AQs AE5 AQt AJq,z=(.tuple #[.slice AQs AE5 AQt,.I AJq])/\Br (AJq≠0) (R (.B false) A) (Br (x64<En) (Br (zW=231) (Br ((AE5:Int)=0) (AO 10 #[] A R (CB λt92 jH=>R (.B t92) jH)) (R (.B false) A)) (R (.B false) A)) (In 0 (zV:Int)/\LI .i64 A Yq (Yr+1) λx99=>Br (x99≠2) (Br (zW=232) (Br ((AE5:Int)=0) (AO 10 #[] A R (CB λt109 jH=>R (.B t109) jH)) (R (.B false) A)) (R (.B false) A)) (Br (zW=0) (AO 10 #[] A R (CB λt114 jH=>R (.B t114) jH)) (R (.B false) A)))))))))))))))))):Spec prog 3 #[.slice p0 n0 c0,.U x1,.U x2,.I x3] Z22 R:=M.start h ok
end HC
namespace QU
variable {q0:Option Addr}
def M:Fw:=⟨prog,16,f16,[],[],false,[],[],[]⟩
def ok:M.Ok:=⟨AN.nil,mixed,func16,by kernel_rfl⟩
def start (h:Pq q0 λb4 A=>LB Z22 b4 (A+1) λt6=>R (.B t6) Z22):Spec prog 16 #[.pointer q0] Z22 R:=M.start h ok
end QU
namespace QV
variable {q0:Option Addr}
def M:Fw:=⟨prog,19,f19,[],[],false,[],[],[]⟩
def ok:M.Ok:=⟨AN.nil,mixed,func19,by kernel_rfl⟩
def start (h:Pq q0 λb3 A=>AH prog (Instr.storeAt 4 (.pointer (aD b3 (A+1))) (.bool true)) Z22 (λ_ y=>R (.T #[]) y)):Spec prog 19 #[.pointer q0] Z22 R:=M.start h ok
end QV
namespace L5
variable {q0:Option Addr}{s1:ByteArray}
def M:Fw:=⟨prog,29,f29,[86],[],false,[],[],[]⟩
def ok:M.Ok:=⟨.cons call86 (AN.nil),mixed,func29,by kernel_rfl⟩
def start (h:Pq q0 λb8 o8=>LB Z22 b8 (o8+1) λt10=>Bn t10 (R (.T #[.N,.I 60]) Z22) (AO 86 #[(.pointer (aD b8 o8)),.string s1] Z22 R (CI .i64 λDY y=>Br (DY≠0) (R (.T #[.N,.I DY]) y) (Al y λA=>LM (Hp.set y A (.cells #[] 5 (0,0))) b8 o8 λm22=>AH prog (Instr.lookup 91 (.map m22) (.string s1) false) (Hp.set y A (.cells #[] 5 (0,0))) (CQ λq24 AG=>Pq q24 λG o25=>LS AG G o25 λlH n27 lI=>AH prog (Builtin.append_ #[79,79] 79 #[(.slice (aD A 0) 0 0),.slice lH n27 lI]) AG (CS λP3 n28 c28 AQ=>R (.T #[.slice P3 n28 c28,.I 0]) AQ)))))):Spec prog 29 #[.pointer q0,.string s1] Z22 R:=M.start h ok
end L5
namespace Fi
variable {q0:Option Addr}{s1:ByteArray}{x2:Int}
def M:Fw:=⟨prog,33,f33,[16,29,52,59],[],false,[],[],[]⟩
def ok:M.Ok:=⟨.cons call16 (.cons call29 (.cons call52 (.cons call59 (AN.nil)))),mixed,func33,by kernel_rfl⟩
def start (h:Pq q0 λG JT=>LQ Z22 G (JT+2) λq14=>AO 16 #[.pointer q14] Z22 R (CB λt15 y=>Bn t15 (R (.T #[.N,.I 230]) y) (LM y G (JT+7) λm21=>AH prog (Instr.lookup 76 (.map m21) (.string s1) false) y (CS λUg n23 SP AG=>AO 59 #[.slice Ug n23 SP,.U x2] AG R (CB λt25 A=>Bn t25 (R (.T #[.N,.I 233]) A) (LQ A G (JT+2) λq31=>AO 52 #[.string s1,.U x2] A R (CT λs34 A5=>Kp [G] A A5/\AO 29 #[.pointer q31,.string s34] A5 R (λz Cn=>∃tB tC tD tE,z=(.tuple #[.slice tB tC tD,.I tE])/\Br (tE≠0) (R (.T #[.N,.I 230]) Cn) (R (.T #[.slice tB tC tD,.I 0]) Cn))))))))):Spec prog 33 #[.pointer q0,.string s1,.U x2] Z22 R:=M.start h ok
end Fi
namespace FG
variable {p0 p1:Option Addr}{n0 c0 n1 c1:Nat}{x5:Int}
def M:Fw:=⟨prog,34,f34,[],[],false,[(6,9,true)],[],[(464,[(0,wL),(1,wL),(5,wI)])]⟩
def ok:M.Ok:=⟨AN.nil,mixed,func34,by kernel_rfl⟩
def BM:=M.pt 0
def start (h:Br ((n0:Int)≠(n1:Int)) (R (.B false) Z22) (BM R p0 n0 c0 p1 n1 c1 0 Z22)):Spec prog 34 #[.slice p0 n0 c0,.slice p1 n1 c1] Z22 R:=M.start h ok
def Bg (h:Br (x5<(n0:Int)) (Pq p0 λA G=>In x5 (n0:Int)/\LI .i64 Z22 A (G+x5.toNat*1) λQH=>Pq p1 λRa Yi=>In x5 (n1:Int)/\LI .i64 Z22 Ra (Yi+x5.toNat*1) λEJ=>Br (QH≠EJ) (R (.B false) Z22) (AK (x5+1)/\BM R (aD A G) n0 c0 (aD Ra Yi) n1 c1 (x5+1) Z22)) (R (.B true) Z22)):BM R p0 n0 c0 p1 n1 c1 x5 Z22:=M.of h ok rfl
end FG
namespace Aw
variable {q0 p1 p7 LL y6:Option Addr}{n1 c1 n7 c7 n15 Hu y7 y8:Nat}{m5:Option Nat}{x6 El C3 oX x9c JU:Int}{dW:ByteArray}{t12:Bool}
def M:Fw:=⟨prog,44,f44,[64,102,103],[9,11],false,[(11,32,true)],[],[(1000,[(0,wQ),(5,wM),(6,wI),(7,wL),(15,wL),(16,wI),(17,wI)]),(1025660,[(0,wQ),(5,wM),(6,wI),(7,wL),(9,.X 53 [.L,.I .i64,.I .u64]),(10,wT),(12,wB),(13,wI),(15,wL),(16,wI),(17,wI)]),(512831,[(0,wQ),(5,wM),(6,wI),(7,wL),(13,wI),(15,wL),(16,wI),(17,wI)]),(4102645,[(0,wQ),(5,wM),(6,wI),(7,wL),(9,.X 53 [.L,.I .i64,.I .u64]),(10,wT),(13,wI),(15,wL),(16,wI),(17,wI)])]⟩
def ok:M.Ok:=⟨.cons call64 (.cons call102 (.cons call103 (AN.nil))),mixed,func44,by kernel_rfl⟩
def tF:=M.pt 0
def QW:=M.pt 1
def QX:=M.pt 2
def Yo:=M.pt 3
def start (h:AH prog (Instr.makeMap 176 none) Z22 (λz y=>∃A,z=(.map (some A))/\tF R q0 (some A) 0 none 0 0 p1 n1 c1 (n1:Int) 0 y)):Spec prog 44 #[.pointer q0,.slice p1 n1 c1] Z22 R:=M.start h ok
def lS (h:Br (C3<El) (Pq LL λE1 Mf=>In C3 (n15:Int)/\∃LP Ka LR A QY,Bm Z22 E1 (Mf+C3.toNat*3) [.slice LP Ka LR,.I A,.U QY]/\∀b9:Nat,AO 102 #[.slice LP Ka LR] Z22 R (CS λUg n23 SP y=>AH prog (convert 79 9 (.slice Ug n23 SP)) y (CT λYz AG=>AH prog (Instr.lookup 176 (.map m5) (.string Yz) true) AG (λz AQ=>∃tG ACW AJr,z=(.tuple #[.agg #[.I tG,.U ACW],.bool AJr])/\∀FN:Nat,AO 103 #[.pointer q0,.agg #[.slice LP Ka LR,.I A,.U QY]] AQ R (CI .i64 λIE A5=>Bn AJr (Br (IE=1) (Pq q0 λXV XW=>LM A5 XV XW λAJs=>AH prog (Instr.lookup 170 (.map AJs) (.string Yz) false) A5 (CQ λAJt G=>Ext A5 G/\Bo (Option.isNone AJt) (LM G XV XW λAJu=>∃Uo,YF prog (Builtin.len_ #[170] 3 #[.map AJu]) G (.I Uo)/\AK (Uo+x6)/\LI .i64 G XV (XW+2) λsS=>Br (sS<=(Uo+x6)) (QW R (aD XV XW) m5 x6 p7 n7 c7 LP Ka LR A QY Yz false 5 (aD E1 Mf) n15 Hu El C3 G) (QW R (aD XV XW) m5 x6 p7 n7 c7 LP Ka LR A QY Yz false IE (aD E1 Mf) n15 Hu El C3 G)) (QW R (aD XV XW) m5 x6 p7 n7 c7 LP Ka LR A QY Yz false IE (aD E1 Mf) n15 Hu El C3 G))) (QW R q0 m5 x6 p7 n7 c7 LP Ka LR A QY Yz false IE (aD E1 Mf) n15 Hu El C3 A5)) (AO 64 #[.slice LP Ka LR] A5 R (CI .i64 λx72 G=>Br (x72≠0) (QW R q0 m5 x6 p7 n7 c7 LP Ka LR A QY Yz true IE (aD E1 Mf) n15 Hu El C3 G) (Br (A<(-1099511627776)) (QW R q0 m5 x6 p7 n7 c7 LP Ka LR A QY Yz true IE (aD E1 Mf) n15 Hu El C3 G) (Br (1099511627776<A) (QW R q0 m5 x6 p7 n7 c7 LP Ka LR A QY Yz true IE (aD E1 Mf) n15 Hu El C3 G) (Br (tG<A) (QW R q0 m5 x6 p7 n7 c7 LP Ka LR A QY Yz true 1 (aD E1 Mf) n15 Hu El C3 G) (Br (A<tG) (QW R q0 m5 x6 p7 n7 c7 LP Ka LR A QY Yz true 3 (aD E1 Mf) n15 Hu El C3 G) (Br (QY=ACW) (QW R q0 m5 x6 p7 n7 c7 LP Ka LR A QY Yz true 2 (aD E1 Mf) n15 Hu El C3 G) (QW R q0 m5 x6 p7 n7 c7 LP Ka LR A QY Yz true 4 (aD E1 Mf) n15 Hu El C3 G))))))))))))) (R (.returned (.slice p7 n7 c7)) Z22)):tF R q0 m5 x6 p7 n7 c7 LL n15 Hu El C3 Z22:=M.of h ok rfl
def zX (h:Br (JU=1) (Bn t12 (Pq q0 λWN A=>LM Z22 WN A λG=>AH prog (Instr.lookup 170 (.map G) (.string dW) false) Z22 (CQ λAQy y=>Bo (Option.isNone AQy) (AK (x6+1)/\Yo R (aD WN A) m5 (x6+1) p7 n7 c7 y6 y7 y8 oX x9c dW JU LL n15 Hu El C3 y) (Yo R (aD WN A) m5 x6 p7 n7 c7 y6 y7 y8 oX x9c dW JU LL n15 Hu El C3 y))) (Yo R q0 m5 x6 p7 n7 c7 y6 y7 y8 oX x9c dW JU LL n15 Hu El C3 Z22)) (QX R q0 m5 x6 p7 n7 c7 JU LL n15 Hu El C3 Z22)):QW R q0 m5 x6 p7 n7 c7 y6 y7 y8 oX x9c dW t12 JU LL n15 Hu El C3 Z22:=M.gB h ok rfl λ_=>by kernel_rfl
def Ix (h:Al Z22 λA=>AH prog (HO 40 p7 n7 c7 A) (Hp.set Z22 A (.cells #[.I JU] 3 (0,0))) (CS λAQz G AQ0 y=>AK (C3+1)/\tF R q0 m5 x6 AQz G AQ0 LL n15 Hu El (C3+1) y)):QX R q0 m5 x6 p7 n7 c7 JU LL n15 Hu El C3 Z22:=M.of h ok rfl
def Yp (h:AH prog (Instr.mapUpdate 176 (.map m5) (.string dW) (.agg #[.I oX,.U x9c])) Z22 (λ_ y=>QX R q0 m5 x6 p7 n7 c7 JU LL n15 Hu El C3 y)):Yo R q0 m5 x6 p7 n7 c7 y6 y7 y8 oX x9c dW JU LL n15 Hu El C3 Z22:=M.gB h ok rfl λ_=>by kernel_rfl
end Aw
namespace LC
variable {p0:Option Addr}{n0 c0:Nat}
def M:Fw:=⟨prog,50,f50,[],[],false,[],[],[]⟩
def ok:M.Ok:=⟨AN.nil,mixed,func50,by kernel_rfl⟩
def start (h:Al Z22 λb3=>AH prog (Builtin.append_ #[51,51] 51 #[(.slice (aD b3 0) 0 0),.slice p0 n0 c0]) (Hp.set Z22 b3 (.cells #[] 95 (0,0))) (CS λp5 n5 c5 y=>R (.returned (.slice p5 n5 c5)) y)):Spec prog 50 #[.slice p0 n0 c0] Z22 R:=M.start h ok
end LC
namespace Cf
variable {q0:Option Addr}{x5 x6 FE Gp:Int}{t7:Bool}{v17:Value}
def M:Fw:=⟨prog,55,f55,[119],[],false,[],[(17,170)],[(232,[(5,wI),(6,wI),(7,wB),(17,wV)]),(7479,[(5,wI),(6,wI),(7,wB),(10,wI),(11,wI),(17,wV)])]⟩
def ok:M.Ok:=⟨.cons call119 (AN.nil),mixed,func55,by kernel_rfl⟩
def A3:=M.pt 0
def Rc:=M.pt 1
def start (h:Pq q0 λG xm=>LM Z22 G xm λA=>AH prog (Instr.range 170 (.map A)) Z22 (λz y=>∃v17,v17=z/\A3 R 0 0 false v17 y)):Spec prog 55 #[.pointer q0] Z22 R:=M.start h ok
def AY (h:AH prog (Instr.next v17 false 0) Z22 (λv y=>(v=(.tuple #[.bool false])/\R (.T #[.I x5,.I x6,.bool t7]) y)\/(∃AQ1 AQ2,v=(.tuple #[.bool true,.string AQ1,.pointer AQ2])/\AH prog (Instr.entry v17) y (λz G=>∃AQ3 A,z=(.tuple #[.string AQ3,.pointer A])/\Pq A λRa Yi=>LS G Ra (Yi+1) λp25 n25 c25=>Pq p25 λHP P1=>In 0 (n25:Int)/\LI .i64 G HP P1 λHv=>AO 119 #[(.pointer (aD Ra Yi))] G R (λz AQ=>∃zY AQ4,z=(.agg #[.I zY,.U AQ4])/\Kp [HP,Ra] G AQ/\Bn t7 (Rc R Hv zY true Hv zY v17 AQ) (Rc R x5 x6 true Hv zY v17 AQ)))))):A3 R x5 x6 t7 v17 Z22:=M.of h ok rfl
def Iu (h:A3 R (if FE<x5 then FE else x5) (if x6<Gp then Gp else x6) t7 v17 Z22):Rc R x5 x6 t7 FE Gp v17 Z22:=M.of h ok rfl
end Cf
namespace GB
variable {p0:Option Addr}{n0 c0:Nat}{x1:Int}
def M:Fw:=⟨prog,59,f59,[126],[],false,[],[],[]⟩
def ok:M.Ok:=⟨.cons call126 (AN.nil),mixed,func59,by kernel_rfl⟩
def start (h:AO 126 #[.slice p0 n0 c0,.U x1] Z22 R (CI .i64 λx7 y=>R (.returned (.bool (decide (0<=x7)))) y)):Spec prog 59 #[.slice p0 n0 c0,.U x1] Z22 R:=M.start h ok
end GB
namespace Up
variable {b0 b1 b2 b3:Nat}
def M:Fw:=⟨prog,73,f73,[27,29,74,75,76,77],[],false,[(0,5,false),(1,8,true),(5,11,true)],[],[]⟩
def ok:M.Ok:=⟨.cons call27 (.cons call29 (.cons call74 (.cons call75 (.cons call76 (.cons call77 (AN.nil)))))),mixed,func73,by kernel_rfl⟩
def start (h:LQ Z22 b0 0 λq7=>LQ Z22 b1 0 λq8=>LT Z22 b2 0 λs9=>(ByteArray.size s9+ByteArray.size (ByteArray.mk #[47])<=9223372036854775807)/\AO 27 #[.pointer q8,(.string (s9++(ByteArray.mk #[47])))] Z22 R (CS λPz n11 P0 y=>Kp [b0] Z22 y/\AO 74 #[.pointer q7,.slice Pz n11 P0] y R (λz AG=>z=(.tuple #[])/\LQ AG b0 0 λIY=>LQ AG b0 0 λq14=>Pq q14 λXO im=>LI .i64 AG XO (im+2) λC3=>AK (C3+1)/\Pq IY λE1 Mf=>AH prog (Instr.storeAt 3 (.pointer (aD E1 (Mf+4))) (.I (C3+1))) AG (λ_ AQ=>LQ AQ b0 0 λq21=>AO 75 #[.pointer q21] AQ R (CS λoY n22 oZ A5=>AH prog (Instr.storeAt 72 (.pointer (aD b3 0)) (.slice oY n22 oZ)) A5 (λ_ A=>LQ A b0 0 λq23=>Pq q23 λPT XS=>LS A PT (XS+3) λQS n26 PY=>Br (0<(n26:Int)) (LQ A b0 0 λq30=>LQ A b0 0 λq31=>Pq q31 λb32 o32=>LS A b32 (o32+3) λp34 n34 c34=>AK ((n26:Int)-1)/\Pq p34 λRF ql=>In (((n26:Int)-1)) (n34:Int)/\LI .i64 A RF (ql+Int.toNat ((n26:Int)-1)*1) λJR=>Pq q30 λUn o39=>AH prog (Instr.storeAt 3 (.pointer (aD Un (o39+4))) (.I JR)) A (λ_ G=>LQ G b1 0 λq42=>LQ G b0 0 λq43=>LQ G b0 0 λq44=>Pq q44 λgI o45=>LI .i64 G gI (o45+4) λXP=>AO 76 #[.pointer q43,(.string (ByteArray.mk #[115])),.I XP] G R (CT λs48 QI=>Kp [b1] G QI/\AO 29 #[.pointer q42,.string s48] QI R (λz qj=>∃AQ6 AJx AQ7 AJy,z=(.tuple #[.slice AQ6 AJx AQ7,.I AJy])/\AO 77 #[.I AJy] qj R (λz xp=>z=(.tuple #[])/\LQ xp b0 0 λq54=>Pq q54 λHK WL=>AH prog (Instr.storeAt 3 (.pointer (aD HK (WL+5))) (.I (AJx:Int))) xp (λ_ LO=>R (.T #[]) LO)))))) (R (.T #[]) A))))))):Spec prog 73 #[(.pointer (aD b0 0)),(.pointer (aD b1 0)),(.pointer (aD b2 0)),(.pointer (aD b3 0))] Z22 R:=M.start h ok
end Up
namespace C5
variable {p0:Option Addr}{n0 c0:Nat}{v1:Value}{x5 x6:Int}
def M:Fw:=⟨prog,98,f98,[169],[],false,[],[],[(976,[(0,wL),(1,wV),(5,wI),(6,wI)]),(979,[(0,wL),(1,wV),(5,wI),(6,wI)])]⟩
def ok:M.Ok:=⟨.cons call169 (AN.nil),mixed,func98,by kernel_rfl⟩
def KX:=M.pt 0
def LK:=M.pt 1
def start (h:AO 169 #[.slice p0 n0 c0,v1] Z22 R (CI .i64 λFE y=>Br (FE=(-1)) (R (.returned (.slice p0 n0 c0)) y) (AK (FE+1)/\KX R p0 n0 c0 v1 FE (FE+1) y))):Spec prog 98 #[.slice p0 n0 c0,v1] Z22 R:=M.F5 h ok [(0,.o (.L p0 n0 c0)),(1,.o (.V v1))] rfl rfl (by kernel_rfl)
def Mk (h:Br (x6<(n0:Int)) (Pq p0 λPT XS=>In x6 (n0:Int)/\LI .u64 Z22 PT (XS+x6.toNat*1) λUe=>∃(f28:Nat) (A G:Array Value),v1=.func (.func f28) A G/\Enters prog f28/\Spec prog f28 (A++#[.U Ue]++G) Z22 (BI R (CB λt28 y=>Bn t28 (In x5 (n0:Int)/\AH prog (Instr.storeAt 23 (.pointer (aD PT (XS+x5.toNat*1))) (.U Ue)) y (λ_ AG=>AK (x5+1)/\LK R (aD PT XS) n0 c0 v1 (x5+1) x6 AG)) (LK R (aD PT XS) n0 c0 v1 x5 x6 y)))) ((0<=x5/\x5<=(n0:Int))/\AH prog (Builtin.clear_ #[88] 0 #[(.slice (ET p0 (x5.toNat) c0 1) (n0-x5.toNat) (c0-x5.toNat))]) Z22 (λ_ y=>(0<=x5/\x5<=(c0:Int))/\R (.returned (.slice p0 (x5.toNat) c0)) y))):KX R p0 n0 c0 v1 x5 x6 Z22:=M.of h ok rfl
end C5
namespace B9
variable {q0 q2 Yj:Option Addr}{s1 s7a s7b:ByteArray}{n17 WK:Nat}{TI NF:Int}
def M:Fw:=⟨prog,111,f111,[],[7],false,[(4,7,true),(5,6,false),(6,9,false)],[],[(56,[(0,wQ),(1,wT),(17,wL),(18,wI),(19,wI)]),(1843,[(0,wQ),(1,wT),(7,.X 95 [.T,.T]),(17,wL),(18,wI),(19,wI)])]⟩
def ok:M.Ok:=⟨AN.nil,mixed,func111,by kernel_rfl⟩
def pt7:=M.pt 0
def IZ:=M.pt 1
def start (h:Pq q0 λG o9=>LM Z22 G o9 λA=>AH prog (Instr.mapUpdate 170 (.map A) (.string s1) (.pointer q2)) Z22 (λ_ y=>Pq q2 λXO im=>LS y XO im λYj n17 WK=>pt7 R (aD G o9) s1 Yj n17 WK (n17:Int) 0 y)):Spec prog 111 #[.pointer q0,.string s1,.pointer q2] Z22 R:=M.start h ok
def tH (h:Br (NF<TI) (Pq Yj λF9 bL=>In NF (n17:Int)/\∃tI tJ,Bm Z22 F9 (bL+NF.toNat*2) [.string tI,.string tJ]/\∀b7:Nat,Pq q0 λdX lT=>LM Z22 dX (lT+1) λAJ0=>AH prog (Instr.lookup 171 (.map AJ0) (.agg #[.string tI,.string tJ]) false) Z22 (CM λG A=>Ext Z22 A/\∃t29,YF prog ((do eqGuard .eql 194 (.tmp 28) (.const (.map none)) (.map G) (.map none);binOp .eql 194 (.map G) (.map none))) A (.bool t29)/\Bo t29 (LM A dX (lT+1) λm33=>AH prog (Instr.makeMap 194 none) A (λz AQ=>∃m35,z=(.map (some m35))/\Kp [dX] A AQ/\AH prog (Instr.mapUpdate 171 (.map m33) (.agg #[.string tI,.string tJ]) (.map (some m35))) AQ (λ_ A5=>IZ R (aD dX lT) s1 tI tJ (aD F9 bL) n17 WK TI NF A5))) (IZ R (aD dX lT) s1 tI tJ (aD F9 bL) n17 WK TI NF A))) (R (.T #[]) Z22)):pt7 R q0 s1 Yj n17 WK TI NF Z22:=M.of h ok rfl
def KZ (h:Pq q0 λRF ql=>LM Z22 RF (ql+1) λm39=>AH prog (Instr.lookup 171 (.map m39) (.agg #[.string s7a,.string s7b]) false) Z22 (CM λA y=>AH prog (Instr.lookup 194 (.map A) (.string s1) false) y (CI .i64 λG AG=>AK (G+1)/\AH prog (Instr.mapUpdate 194 (.map A) (.string s1) (.I (G+1))) AG (λ_ AQ=>AK (NF+1)/\pt7 R (aD RF ql) s1 Yj n17 WK TI (NF+1) AQ)))):IZ R q0 s1 s7a s7b Yj n17 WK TI NF Z22:=M.gB h ok rfl λ_=>by kernel_rfl
end B9
namespace BU
variable {p0 p1 p5:Option Addr}{n0 c0 n1 c1 n5 c5:Nat}
def M:Fw:=⟨prog,117,f117,[],[7],false,[(3,9,false)],[],[(224,[(0,wL),(1,wL),(5,wL)])]⟩
def ok:M.Ok:=⟨AN.nil,mixed,func117,by kernel_rfl⟩
def HT:=M.pt 0
def start (h:HT R p0 n0 c0 p1 n1 c1 none 0 0 Z22):Spec prog 117 #[.slice p0 n0 c0,.slice p1 n1 c1] Z22 R:=M.start h ok
def CJ (h:Br (0<(n0:Int)) (Br (0<(n1:Int)) (Pq p0 λHj Th=>In 0 (n0:Int)/\∃E3 EV,Bm Z22 Hj Th [.I E3,.U EV]/\Pq p1 λNn RH=>In 0 (n1:Int)/\∃WM Yu,Bm Z22 Nn RH [.I WM,.U Yu]/\(Al Z22 λA=>∀b7:Nat,AH prog (Instr.storeAt 66 (.pointer (aD A 0)) (.agg #[.I E3,.U EV])) (Hp.set Z22 A (.cells #[.I 0,.U 0] 66 (0,0))) (λ_ y=>Kp [Nn] (Hp.set Z22 A (.cells #[.I 0,.U 0] 66 (0,0))) y/\LI .i64 y A 0 λNG=>Br (NG<WM) (∃dY dZ,Bm y A 0 [.I dY,.U dZ]/\((0:Int)<=1/\1<=(n0:Int))/\Al y λgI=>AH prog (HO 61 p5 n5 c5 gI) (Hp.set y gI (.cells #[.I dY,.U dZ] 66 (0,0))) (CS λYw n46 c46 G=>HT R ((ET (aD Hj Th) (1) c0 2)) (n0-1) (c0-1) (aD Nn RH) n1 c1 Yw n46 c46 G)) (LI .i64 y A 0 λJH=>Br (WM<JH) (((0:Int)<=1/\1<=(n1:Int))/\Al y λHK=>AH prog (HO 61 p5 n5 c5 HK) (Hp.set y HK (.cells #[.I WM,.U Yu] 66 (0,0))) (CS λbC bD bE G=>HT R (aD Hj Th) n0 c0 ((ET (aD Nn RH) (1) c1 2)) (n1-1) (c1-1) bC bD bE G)) (LI .i64 y A 0 λEJ=>LI .u64 y A 1 λJj=>((0:Int)<=1/\1<=(n0:Int))/\((0:Int)<=1/\1<=(n1:Int))/\Al y λF8=>AH prog (HO 61 p5 n5 c5 F8) (Hp.set y F8 (.cells #[.I EJ,(.U (if Jj<Yu then Yu else Jj))] 66 (0,0))) (CS λp32 n32 c32 G=>HT R ((ET (aD Hj Th) (1) c0 2)) (n0-1) (c0-1) ((ET (aD Nn RH) (1) c1 2)) (n1-1) (c1-1) p32 n32 c32 G)))))/\(∀b7:Nat,Al Z22 λA=>AH prog (Instr.storeAt 66 (.pointer (aD A 0)) (.agg #[.I E3,.U EV])) (Hp.set Z22 A (.cells #[.I 0,.U 0] 66 (0,0))) (λ_ y=>Kp [Nn] (Hp.set Z22 A (.cells #[.I 0,.U 0] 66 (0,0))) y/\LI .i64 y A 0 λNG=>Br (NG<WM) (∃dY dZ,Bm y A 0 [.I dY,.U dZ]/\((0:Int)<=1/\1<=(n0:Int))/\Al y λgI=>AH prog (HO 61 p5 n5 c5 gI) (Hp.set y gI (.cells #[.I dY,.U dZ] 66 (0,0))) (CS λYw n46 c46 G=>HT R ((ET (aD Hj Th) (1) c0 2)) (n0-1) (c0-1) (aD Nn RH) n1 c1 Yw n46 c46 G)) (LI .i64 y A 0 λJH=>Br (WM<JH) (((0:Int)<=1/\1<=(n1:Int))/\Al y λHK=>AH prog (HO 61 p5 n5 c5 HK) (Hp.set y HK (.cells #[.I WM,.U Yu] 66 (0,0))) (CS λbC bD bE G=>HT R (aD Hj Th) n0 c0 ((ET (aD Nn RH) (1) c1 2)) (n1-1) (c1-1) bC bD bE G)) (LI .i64 y A 0 λEJ=>LI .u64 y A 1 λJj=>((0:Int)<=1/\1<=(n0:Int))/\((0:Int)<=1/\1<=(n1:Int))/\Al y λF8=>AH prog (HO 61 p5 n5 c5 F8) (Hp.set y F8 (.cells #[.I EJ,(.U (if Jj<Yu then Yu else Jj))] 66 (0,0))) (CS λp32 n32 c32 G=>HT R ((ET (aD Hj Th) (1) c0 2)) (n0-1) (c0-1) ((ET (aD Nn RH) (1) c1 2)) (n1-1) (c1-1) p32 n32 c32 G)))))) (AH prog (Builtin.append_ #[61,61] 61 #[.slice p5 n5 c5,.slice p0 n0 c0]) Z22 (CS λY0 Y3 Y4 y=>AH prog (Builtin.append_ #[61,61] 61 #[.slice Y0 Y3 Y4,.slice p1 n1 c1]) y (CS λxu tK xv G=>R (.returned (.slice xu tK xv)) G)))) (AH prog (Builtin.append_ #[61,61] 61 #[.slice p5 n5 c5,.slice p0 n0 c0]) Z22 (CS λY0 Y3 Y4 y=>AH prog (Builtin.append_ #[61,61] 61 #[.slice Y0 Y3 Y4,.slice p1 n1 c1]) y (CS λxu tK xv G=>R (.returned (.slice xu tK xv)) G)))):HT R p0 n0 c0 p1 n1 c1 p5 n5 c5 Z22:=M.of h ok rfl
end BU
namespace C6
variable {b0 b1:Nat}
def M:Fw:=⟨prog,129,f129,[31,76,77,130],[],false,[(0,8,false),(2,10,false),(3,7,true),(5,12,false),(6,8,true)],[],[(14,[(0,wA)]),(480,[(0,wA)])]⟩
def ok:M.Ok:=⟨.cons call31 (.cons call76 (.cons call77 (.cons call130 (AN.nil)))),mixed,func129,by kernel_rfl⟩
def HT:=M.pt 0
def zZ:=M.pt 1
def start (h:LQ Z22 b0 0 λq2=>LQ Z22 b0 0 λq3=>LQ Z22 b0 0 λq4=>Pq q4 λb5 o5=>LI .i64 Z22 b5 (o5+4) λx7=>LS Z22 b1 0 λp9 n9 c9=>AO 76 #[.pointer q3,(.string (ByteArray.mk #[99])),.I x7] Z22 R (CT λs8 y=>Kp [b1,b0] Z22 y/\AO 130 #[.pointer q2,.string s8,.slice p9 n9 c9] y R (λz A=>z=(.tuple #[])/\LQ A b0 0 λq11=>Pq q11 λIs JT=>LI .i64 A Is (JT+2) λDY=>Br (0<DY) (LQ A b0 0 λq16=>Pq q16 λHj Th=>LQ A Hj Th λxo=>LQ A b0 0 λq20=>LQ A b0 0 λq21=>Pq q21 λUf G=>LI .i64 A Uf (G+2) λEJ=>AO 76 #[.pointer q20,(.string (ByteArray.mk #[99])),.I EJ] A R (CT λs25 AQ=>Kp [Hj,b0] A AQ/\AO 31 #[.pointer xo,.string s25] AQ R (CI .i64 λJj A5=>AO 77 #[.I Jj] A5 R (λz Cn=>z=(.tuple #[])/\HT R b0 Cn)))) (HT R b0 A)))):Spec prog 129 #[(.pointer (aD b0 0)),(.pointer (aD b1 0))] Z22 R:=M.start h ok
def CJ (h:LQ Z22 b0 0 λzS=>LQ Z22 b0 0 λoO=>Pq oO λYq Yr=>LI .i64 Z22 Yq (Yr+4) λG=>Pq zS λA gE=>AH prog (Instr.storeAt 3 (.pointer (aD A (gE+2))) (.I G)) Z22 (λ_ y=>zZ R b0 y)):HT R b0 Z22:=M.of h ok rfl
def lU (h:LQ Z22 b0 0 λq35=>Pq q35 λb36 o36=>LS Z22 b36 (o36+3) λgC n38 bA=>Br (0<(n38:Int)) (LQ Z22 b0 0 λq41=>Pq q41 λgH o42=>LQ Z22 gH o42 λq44=>LQ Z22 b0 0 λq45=>LQ Z22 b0 0 λq46=>Pq q46 λdD gD=>LS Z22 dD (gD+3) λil n49 c49=>Pq il λLU za=>In 0 (n49:Int)/\LI .i64 Z22 LU za λx51=>AO 76 #[.pointer q45,(.string (ByteArray.mk #[115])),.I x51] Z22 R (CT λs52 y=>Kp [gH,b0] Z22 y/\AO 31 #[.pointer q44,.string s52] y R (CI .i64 λJH AG=>AO 77 #[.I JH] AG R (λz AQ=>z=(.tuple #[])/\LQ AQ b0 0 λq55=>LQ AQ b0 0 λq56=>Pq q56 λHK WL=>LS AQ HK (WL+3) λp59 n59 G=>((0:Int)<=1/\1<=(n59:Int))/\Pq q55 λb61 o61=>AH prog (Instr.storeAt 40 (.pointer (aD b61 (o61+3))) (.slice (ET p59 (1) G 1) (n59-1) (G-1))) AQ (λ_ A5=>zZ R b0 A5))))) (LQ Z22 b0 0 λq63=>Pq q63 λA o64=>LI .i64 Z22 A (o64+4) λx66=>AK (x66+1)/\AH prog (Instr.storeAt 3 (.pointer (aD A (o64+4))) (.I (x66+1))) Z22 (λ_ y=>LQ y b0 0 λq70=>Pq q70 λb71 o71=>AH prog (Instr.storeAt 3 (.pointer (aD b71 (o71+5))) (.I 0)) y (λ_ AG=>R (.T #[]) AG)))):zZ R b0 Z22:=M.of h ok rfl
end C6
namespace LD
variable {s0a s0b s1a s1b:ByteArray}
def M:Fw:=⟨prog,134,f134,[135,136],[2,3],false,[],[],[]⟩
def ok:M.Ok:=⟨.cons call135 (.cons call136 (AN.nil)),mixed,func134,by kernel_rfl⟩
def start (h:∀b2:Nat,∀b3:Nat,AO 136 #[.string s0a,.string s1a] Z22 R (CI .i64 λx9 y=>AO 136 #[.string s0b,.string s1b] y R (CI .i64 λDY A=>Al A λG=>AO 135 #[(.slice (aD G 0) 2 2)] (Hp.set A G (.cells #[.I x9,.I DY] 3 (0,0))) R (CI .i64 λEl AQ=>R (.returned (.I El)) AQ)))):Spec prog 134 #[.agg #[.string s0a,.string s0b],.agg #[.string s1a,.string s1b]] Z22 R:=M.start h ok
end LD
namespace Uq
variable {p0:Option Addr}{n0 c0:Nat}{s1:ByteArray}
def M:Fw:=⟨prog,148,f148,[125,155,157],[],false,[],[],[]⟩
def ok:M.Ok:=⟨.cons call125 (.cons call155 (.cons call157 (AN.nil))),mixed,func148,by kernel_rfl⟩
def start (h:AK ((n0:Int)-4)/\Br (((s1.size:Int):Int)<=((n0:Int)-4)) (((0:Int)<=(s1.size:Int)/\(s1.size:Int)<=(c0:Int))/\AH prog (convert 79 9 (.slice p0 (Int.toNat (s1.size:Int)) c0)) Z22 (CT λdG y=>Bo (ByteArray.toList dG==ByteArray.toList s1) (Al y λRa=>((0:Int)<=((n0:Int)-4)/\((n0:Int)-4)<=(c0:Int))/\AH prog (Builtin.append_ #[79,79] 79 #[(.slice (aD Ra 0) 0 0),(.slice p0 (Int.toNat ((n0:Int)-4)) c0)]) (Hp.set y Ra (.cells #[] 5 (0,0))) (CS λlH n27 lI G=>AO 125 #[.slice lH n27 lI] G R (CS λP3 n28 c28 AQ=>AO 157 #[.slice P3 n28 c28,.slice p0 n0 c0] AQ R (CB λt30 A5=>AO 155 #[.bool t30] A5 R (λz Cn=>z=(.tuple #[])/\((0:Int)<=((n0:Int)-4)/\((n0:Int)-4)<=(c0:Int))/\Al Cn λA=>R (.returned (.pointer (aD A 0))) (Hp.set Cn A (.cells #[(.slice p0 (Int.toNat ((n0:Int)-4)) c0),(.I (s1.size:Int))] 306 (0,0)))))))) (AO 155 #[.bool false] y R (λz G=>z=(.tuple #[])/\((0:Int)<=((n0:Int)-4)/\((n0:Int)-4)<=(c0:Int))/\Al G λA=>R (.returned (.pointer (aD A 0))) (Hp.set G A (.cells #[(.slice p0 (Int.toNat ((n0:Int)-4)) c0),(.I (s1.size:Int))] 306 (0,0))))))) (AO 155 #[.bool false] Z22 R (λz y=>z=(.tuple #[])/\((0:Int)<=((n0:Int)-4)/\((n0:Int)-4)<=(c0:Int))/\Al y λA=>R (.returned (.pointer (aD A 0))) (Hp.set y A (.cells #[(.slice p0 (Int.toNat ((n0:Int)-4)) c0),(.I (s1.size:Int))] 306 (0,0)))))):Spec prog 148 #[.slice p0 n0 c0,.string s1] Z22 R:=M.start h ok
end Uq
namespace Hk
variable {b0 b1 b2:Nat}
def M:Fw:=⟨prog,152,f152,[149],[],false,[],[],[]⟩
def ok:M.Ok:=⟨.cons call149 (AN.nil),mixed,func152,by kernel_rfl⟩
def start (h:Al Z22 λb3=>LQ (Hp.set Z22 b3 (.cells #[.N,.N] 63 (0,0))) b0 0 λq4=>AO 149 #[.pointer q4,.U 16,(.func (.func 153) #[] #[(.pointer (aD b0 0)),(.pointer (aD b1 0)),(.pointer (aD b3 0))])] (Hp.set Z22 b3 (.cells #[.N,.N] 63 (0,0))) R (λz y=>z=(.tuple #[])/\LS y b2 0 λp7 n7 c7=>∃p8a n8a A p8b n8b G,Bm y b3 0 [.slice p8a n8a A,.slice p8b n8b G]/\Al y λb9=>AH prog (HO 44 p7 n7 c7 b9) (Hp.set y b9 (.cells #[.slice p8a n8a A,.slice p8b n8b G] 63 (0,0))) (CS λJQ n10 IU AG=>AH prog (Instr.storeAt 44 (.pointer (aD b2 0)) (.slice JQ n10 IU)) AG (λ_ AQ=>R (.T #[]) AQ)))):Spec prog 152 #[(.pointer (aD b0 0)),(.pointer (aD b1 0)),(.pointer (aD b2 0))] Z22 R:=M.start h ok
end Hk
namespace Dn
variable {b0 b1 b2:Nat}{q3:Option Addr}
def M:Fw:=⟨prog,180,f180,[],[],false,[(3,6,true),(4,9,false)],[],[(7,[(2,wA),(3,wQ)])]⟩
def ok:M.Ok:=⟨AN.nil,mixed,func180,by kernel_rfl⟩
def A3:=M.pt 0
def start (h:LQ Z22 b0 0 λq4=>Pq q4 λb5 o5=>LM Z22 b5 o5 λm7=>LT Z22 b1 0 λs8=>AH prog (Instr.lookup 91 (.map m7) (.string s8) false) Z22 (CQ λq9 y=>Bo (Option.isNone q9) (Al y λA=>LQ (Hp.set y A (.cells #[.N,.I 0] 156 (0,0))) b0 0 λq14=>Pq q14 λXO im=>LM (Hp.set y A (.cells #[.N,.I 0] 156 (0,0))) XO im λG=>LT (Hp.set y A (.cells #[.N,.I 0] 156 (0,0))) b1 0 λdG=>AH prog (Instr.mapUpdate 91 (.map G) (.string dG) (.pointer (aD A 0))) (Hp.set y A (.cells #[.N,.I 0] 156 (0,0))) (λ_ AG=>A3 R b2 (aD A 0) AG)) (A3 R b2 q9 y))):Spec prog 180 #[(.pointer (aD b0 0)),(.pointer (aD b1 0)),(.pointer (aD b2 0))] Z22 R:=M.start h ok
def AY (h:Pq q3 λUf A=>LS Z22 Uf A λXQ n24 G=>LS Z22 b2 0 λp25 n25 c25=>AH prog (Builtin.append_ #[79,79] 79 #[.slice XQ n24 G,.slice p25 n25 c25]) Z22 (CS λQS n26 PY y=>AH prog (Instr.storeAt 79 (.pointer (aD Uf A)) (.slice QS n26 PY)) y (λ_ AG=>R (.T #[]) AG))):A3 R b2 q3 Z22:=M.of h ok rfl
end Dn
namespace Np
variable {p0:Option Addr}{n0 c0:Nat}{x1:Int}
def M:Fw:=⟨prog,249,f249,[282],[],false,[(5,8,true)],[],[]⟩
def ok:M.Ok:=⟨.cons call282 (AN.nil),mixed,func249,by kernel_rfl⟩
def start (h:Al Z22 λA=>AO 282 #[(.func (.func 283) #[(.pointer (aD A 0))] #[]),(.func (.func 284) #[(.pointer (aD A 0))] #[])] (Hp.set Z22 A (.cells #[.slice p0 n0 c0,.I x1] 369 (0,0))) R (λz y=>∃sP sQ sR G,z=(.tuple #[.slice sP sQ sR,.I G])/\Br (G≠0) (R (.T #[.N,.I 0,.I G]) y) (LI .i64 y A 1 λSa=>R (.T #[.slice sP sQ sR,.I Sa,.I 0]) y))):Spec prog 249 #[.slice p0 n0 c0,.I x1] Z22 R:=M.start h ok
end Np
namespace Hc
variable {q0:Option Addr}
def M:Fw:=⟨prog,283,f283,[81],[],false,[],[],[]⟩
def ok:M.Ok:=⟨.cons call81 (AN.nil),mixed,func283,by kernel_rfl⟩
def start (h:Pq q0 λb9 o9=>LS Z22 b9 o9 λPz n11 P0=>LI .i64 Z22 b9 (o9+1) λDA=>AO 81 #[.slice Pz n11 P0,.I DA] Z22 R (λz y=>∃A y4 G,z=(.tuple #[.U A,.I y4,.I G])/\AH prog (Instr.storeAt 3 (.pointer (aD b9 (o9+1))) (.I y4)) y (λ_ AG=>Br (G≠0) (R (.T #[.I 0,.I G]) AG) (Br (65536<A) (R (.T #[.I 0,.I 23]) AG) (Df (IntKind.i64.wrap A) λTl=>R (.T #[.I Tl,.I 0]) AG))))):Spec prog 283 #[.pointer q0] Z22 R:=M.start h ok
end Hc
end TwW
end
end
