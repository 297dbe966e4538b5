/-
  Part 2 of the proof that the law QuerierSemUptoCardSaid of the given program answers true for every input of the given statement; the input reads behind the call as it did. (The texts: packed from 8 texts. Names are shortened by the packing program, for the bound on size.)
-/
import Derived.Test.YtdlkodiemlmmiaaGreatDoorA1
set_option linter.all false
section
namespace Tw
open Go
variable [GF]
def uG:List Nat->Nat->Bool
 | [],_=>false
 | x::l,n=>Nat.beq x n||uG l n
theorem iU:∀{l:List Nat} {n:Nat},uG l n=true->n∈l
 | x::l,n,h=>by
  simp only[uG,Akx]at h;rcases h with h|h
  .exact(Ajr h)▸AjG ..
  .exact Aiz _ (iU h)
def AH (P:Program)(l:List Nat):Prop:=∀f∈l,Enters P f
theorem AH.nil {P:Program}:AH P []:=λf h=>by cases h
theorem AH.cons {P:Program}{f:Nat}{l:List Nat}(h:Enters P f)(hl:AH P l):AH P (f::l):=λx G=>by
 rcases Ai1.1 G with rfl|G
 .exact h
 .exact hl x G
abbrev KP:=Hp->Hp->Prop->Prop
def Hv (G:Vl->(SV->Vl->Prop)->Prop)(dst:Option Nat)(s:S)(Z0:Hp)(v:Value)(kp:KP)(K:S->Prop):Prop:=match dst with
 | none=>kp Z0 s.Z2 (K s)
 | some d=>match s.ok with
  | true=>G s.vl λx vl=>eqV x vl v (kp Z0 s.Z2 (K ((s.w vl).put (some d) x)))
  | false=>False
def bj (G:Vl->(SV->Vl->Prop)->Prop):Prop:=∀vl k,G vl k->∃a w,vl.Le w/\k a w
theorem Kx {P:Program}{t:TypeId}:bj (aA P t):=λ_ _ h=>uE h
def yJ:Vl->(SV->Vl->Prop)->Prop:=λvl k=>∃m:Nat,k (.at (.mp (some m))) vl
theorem uH:bj yJ:=λvl k ⟨m,h⟩=>⟨_,_,.refl _,h⟩
def yK:Vl->(SV->Vl->Prop)->Prop:=λvl k=>∃v:Value,k (.at (.raw v)) vl
theorem uI:bj yK:=λvl k ⟨m,h⟩=>⟨_,_,.refl _,h⟩
def VT (P:Program)(t:TypeId)(two:Bool):Vl->(SV->Vl->Prop)->Prop:=λvl k=>match two with
 | false=>ex1 P t vl λa vl=>k (.v a) vl
 | true=>ex1 P t vl λa vl=>∃b:Bool,k (.bP [a,.a (.bs vl.β.length false)]) (vl.mo (.var b))
theorem nS {P:Program}{t:TypeId}{two:Bool}:bj (VT P t two):=λvl k h=>by
 cases two with
 | false=>unfold VT at h;obtain⟨a,w,G,h⟩:=Fm h;exact⟨_,_,G,h⟩
 | true=>unfold VT at h;obtain⟨a,w,G,b,h⟩:=Fm h;exact⟨_,_,G.trans (Vl.qp _ _),h⟩
def yL (P:Program)(t u:TypeId):Vl->(SV->Vl->Prop)->Prop:=λvl k=>ex1 P t vl λa vl=>ex1 P u vl λb vl=>k (.bP [a,b]) vl
theorem uJ {P:Program}{t u:TypeId}:bj (yL P t u):=λvl k h=>by
 obtain⟨a,w,G,h⟩:=Fm h;obtain⟨b,w2,h2,h⟩:=Fm h;exact⟨_,_,G.trans h2,h⟩
def St' (J:Env)(s:S)(kq:Hp->Hp->Prop)(K:S->Prop):Env->Bx->Hp->Prop:=λe' HY Z'=>∃G,e'=G.e J/\HY=G.b/\Z'=G.Z2/\kq s.Z2 Z'/\(∀p∈s.b,p∈HY)/\K G
theorem Au {gen:Vl->(SV->Vl->Prop)->Prop}(hg:bj gen){dst:Option Nat}{s:S}{G:Hp}{v:Value}{kp:KP}{kq:Hp->Hp->Prop}{K:S->Prop}(MR:∀Z0 G F,kp Z0 G F->F/\kq Z0 G)
  (h:Hv gen dst (s.hp G) s.Z2 v kp K) (J:Env):St' J s kq K (put (s.e J) dst v) s.b G:=by
 cases dst with
 | none=>
  obtain⟨h1,h2⟩:=MR _ _ _ h;exact⟨s.hp G,rfl,rfl,rfl,h2,λ_ h=>h,h1⟩
 | some d=>
  simp only[Hv]at h;cases hs:(s.hp G).ok with
  | false=>rw[hs]at h;cases h
  | true=>
   rw[hs]at h;obtain⟨x,w,hle,h⟩:=hg _ _ h;obtain⟨hv,h⟩:=uF h;obtain⟨h1,h2⟩:=MR _ _ _ h;have T5:=S.Vu hs hle.le;refine⟨_,?_,?_,?_,h2,λ_ h=>h,h1⟩
   .rw[S.KI,T5.e J,hv];rfl
   .rw[S.KJ,T5.b];rfl
   .rw[S.HD];rfl
def S.boxed (s:S)(d:Option Nat)(b:Nat)(T:TypeId)(cs:List Cf):S:=
 S.put ⟨s.env,(s.vl.δ.length,T,cs)::s.bx,s.vl.ADp b,s.Z2⟩ d (.at (.pt (.bx s.vl.δ.length 0)))
def ADu (hid:Bool)(d:Option Nat)(T:TypeId)(cs:List Cf)(s:S)(K:S->Prop):Prop:=match hid with
 | true=>match s.ok&&oks s.vl cs with
  | true=>∀b:Nat,K (s.boxed d b T cs)
  | false=>False
 | false=>∀b:Nat,s.Z2 b=none->K ((s.hp (Hp.set s.Z2 b (.cells (Bg s.vl cs).toArray T (0,0)))).put d (.at (.pt (.at b 0))))
def yM (P:Program)(T:TypeId):Option Value:=match P.info? T with
 | some G=>G.zero
 | none=>none
theorem bn {P:Program}{T:TypeId}{z:Value}(h:yM P T=some z):∀w,(zeroValue T).run P w=.ok z w:=λw=>by
 unfold yM at h;split at h
 .rename_i G hi;simp[zeroValue,typeInfo,hi,h]
 .cases h
structure nT where
 P:Program
 R:Rr
 Ky:List Nat
 hid:List Nat
 wr:Bool
def nT.qq (c:nT)(d:Option Nat):Bool:=match d with
 | some d=>uG c.hid d
 | none=>false
def EN (P:Program)(f:FuncId)(args:Array Value)(Z2:Hp)(Φ:Value->Hp->Prop):Prop:=
 ∀w (F:Nat->Prop),Sat Z2 w->(∀b,F b->b<w.heap.size/\Z2 b=none)->∃v G Z',(callFunc f args).run P w=.ok (.value v) G/\Φ v Z'/\Fin Z' F w G
theorem EN.y {P:Program}{f:FuncId}{args:Array Value}{Z2:Hp}{v:Value}{Φ:Value->Hp->Prop}(hy:YN P f args Z2 v)(h:Φ v Z2):EN P f args Z2 Φ:=λw F G hF=>
 ⟨v,w,Z2,hy w G,h,G,λb hb=>⟨(hF b hb).2,rfl⟩,.same rfl rfl rfl,rfl,Ai7 _⟩
theorem EN.mono {P:Program}{f:FuncId}{args:Array Value}{Z2:Hp}{Φ G:Value->Hp->Prop}(h:EN P f args Z2 Φ)(hh:∀v Z',Φ v Z'->G v Z'):EN P f args Z2 G:=λw F hs hF=>
 let ⟨v,w',Z',h1,h2,h3⟩:=h w F hs hF
 ⟨v,w',Z',h1,hh _ _ h2,h3⟩
theorem AV.en {g:Gl}{ops:Array Oper}{i:Nat}{d:Option Nat}{ty:TypeId}{gd:Option (Nat×Bool)}{e:Env}{bx:Bx}{Z2:Hp}{K:Env->Bx->Hp->Prop}{x:Operand}{xs:Array Operand}{ts:Array TypeId}{f:FuncId}{args:Array Value}
  (hs:sig ops i=some (d,.call { callee:=.value x,args:=xs,argTypes:=ts },ty,gd)) (hw:Ac ops e gd=true) (hd:G5 d g.n=true) (hx:AD e x=.func (.func f) #[] #[]) (G:xs.toList.map (AD e)=args.toList)
  (h:EN g.P f args Z2 λv Z'=>K (put e d v) bx Z'):AV g ops i e bx Z2 K:=by
 intro w0 F a w st;obtain⟨o,ho,rfl,Bq,Dh,rfl⟩:=Bc hs;refine Ck ho (by rw[st.wanted];exact hw) ?_;obtain⟨v,w',Z',h1,h2,h3⟩:=h w _ st.sat st.lt;rw[st.eval];have G:xs.map (AD e)=args:=by rw[<-AjS];simpa using G
 have CD:(execOp (AD e) o).run g.P w=.ok (.value v) w':=by
  simp only[execOp,Bq,resolve,hx,G,Deferred.ofValue,invoke,bind,Sem.bind,pure,Aln,Array.append_empty];exact h1
 rw[Dg CD (λd=>by simp)];exact⟨_,_,_,(st.fin h3).put _ _ (G5.lt hd),h2⟩
abbrev yN : String := "Len"
abbrev T6 : String := "Less"
abbrev T7 : String := "Swap"
abbrev AGo : String := "Push"
abbrev AOJ : String := "Pop"
def MC (P:Program)(u:Value)(name:String)(args:Array Value)(Z2:Hp)(R:Rr):Prop:=
 ∃(f:FuncId) (G:Array Value),(∀w,Sat Z2 w->(invoke (.fn (.method name) #[]) (#[u]++args)).run P w=.ok (.enter f G) w)/\Spec P f G Z2 R
theorem MC.cont {P:Program}{u:Value}{name:String}{args:Array Value}{Z2:Hp}{R:Rr}{Φ G:Value->Hp->Prop}(h:MC P u name args Z2 (Ab R Φ))(hh:∀v Z',Φ v Z'->G v Z'):MC P u name args Z2 (Ab R G):=
 let ⟨f,Aiv,hm,h⟩:=h
 ⟨f,Aiv,hm,h.cont hh⟩
theorem AV.inv {g:Gl}{ops:Array Oper}{i:Nat}{d:Option Nat}{ty:TypeId}{gd:Option (Nat×Bool)}{e:Env}{bx:Bx}{Z2:Hp}{K:Env->Bx->Hp->Prop}{x:Operand}{xs:Array Operand}{ts:Array TypeId}{name:String}{u:Value}{vs:Array Value}
  (hs:sig ops i=some (d,.call { callee:=.invoke x name,args:=xs,argTypes:=ts },ty,gd)) (hw:Ac ops e gd=true) (hd:G5 d g.n=true) (hx:AD e x=u) (IB:xs.toList.map (AD e)=vs.toList)
  (h:MC g.P u name vs Z2 (Ab g.R λv Z'=>K (put e d v) bx Z')):AV g ops i e bx Z2 K:=by
 obtain⟨f,Aiv,hm,h⟩:=h;intro w0 F a w st;obtain⟨o,ho,rfl,Bq,Dh,rfl⟩:=Bc hs;refine Ck ho (by rw[st.wanted];exact hw) ?_;have IB:xs.map (AD e)=vs:=by rw[<-AjS];simpa using IB
 have CD:(execOp (AD e) o).run g.P w=.ok (.enter f Aiv) w:=by
  simp only[execOp,Bq,resolve,hx,IB,bind,Sem.bind,pure];exact hm w st.sat
 rw[st.eval,Dg CD (λd=>by simp)];refine⟨λhh=>(by cases hh),Vo (Calls.mono (h w _ st.sat st.lt) λen w'=>?_)⟩
 rintro⟨Z',G,hf⟩
 have G4:=st.fin hf;cases en with
 | returned v=>exact⟨_,_,_,G4.put _ _ (G5.lt hd),G⟩
 | panicked ch=>
  rcases g.pan with ⟨h1,h2⟩|AZ
  .exact⟨⟨h1,G4.defers.trans h2⟩,Z',G,G4.toFin⟩
  .exact absurd G (AZ ch Z')
 | outgrown=>exact G.elim
def yO (c:nT)(dst:Option Nat)(x:Operand)(xs:List Operand)(ty:TypeId)(s:S)(kp:KP)(K:S->Prop):Prop:=match s.op x,s.eC xs with
 | some (.v (.a (.fn f a b))),some vs=>match uG c.Ky f with
  | true=>Spec c.P f (a.toList++(DI s.vl vs++b.toList)).toArray s.Z2 (Ab c.R λv G=>Hv (aA c.P ty) dst (s.hp G) s.Z2 v kp K)
  | false=>match Nat.beq (a.size+b.size) 0 with
   | true=>EN c.P f (DI s.vl vs).toArray s.Z2 (λv G=>Hv (aA c.P ty) dst (s.hp G) s.Z2 v kp K)
   | false=>False
 | some (.v (.a (.raw u))),some vs=>match uG c.hid 100000 with
  | true=>∃l:Nat,u=.func (.yield l) #[] #[]/\JY c.P l (DI s.vl vs).toArray s.Z2 (Ab c.R λv G=>Hv (aA c.P ty) dst (s.hp G) s.Z2 v kp K)
  | false=>∃(f:Nat) (fst cap:Array Value),u=.func (.func f) fst cap/\Enters c.P f/\Spec c.P f (fst++(DI s.vl vs).toArray++cap) s.Z2 (Ab c.R λv G=>Hv (aA c.P ty) dst (s.hp G) s.Z2 v kp K)
 | _,_=>False
def biV (c:nT)(dst:Option Nat)(b:Builtin)(xs:List Operand)(ts:Array TypeId)(ty:TypeId)(s:S)(kp:KP)(K:S->Prop):Prop:=match s.eC xs with
 | none=>False
 | some vs=>match b,xs with
  | .append,[_,_]=>AI c.P (Builtin.append_ ts ty (DI s.vl vs).toArray) s.Z2 (λv G=>Hv (aA c.P ty) dst (s.hp G) s.Z2 v kp K)
  | .copy,[_,_]=>AI c.P (Builtin.copy_ ts ty (DI s.vl vs).toArray) s.Z2 (λv G=>Hv (aA c.P ty) dst (s.hp G) s.Z2 v kp K)
  | .delete,[_,_]=>AI c.P (Builtin.delete_ ts ty (DI s.vl vs).toArray) s.Z2 (λv G=>Hv (aA c.P ty) dst (s.hp G) s.Z2 v kp K)
  | .clear,[_]=>AI c.P (Builtin.clear_ ts ty (DI s.vl vs).toArray) s.Z2 (λv G=>Hv (aA c.P ty) dst (s.hp G) s.Z2 v kp K)
  | .real,[_]=>AI c.P (Builtin.real_ ts ty (DI s.vl vs).toArray) s.Z2 (λv G=>Hv (aA c.P ty) dst (s.hp G) s.Z2 v kp K)
  | .imag,[_]=>AI c.P (Builtin.imag_ ts ty (DI s.vl vs).toArray) s.Z2 (λv G=>Hv (aA c.P ty) dst (s.hp G) s.Z2 v kp K)
  | .complex,[_,_]=>AI c.P (Builtin.complex_ ts ty (DI s.vl vs).toArray) s.Z2 (λv G=>Hv (aA c.P ty) dst (s.hp G) s.Z2 v kp K)
  | .unsafeString,[_,_]=>AI c.P (Builtin.unsafeString_ ts ty (DI s.vl vs).toArray) s.Z2 (λv G=>Hv (aA c.P ty) dst (s.hp G) s.Z2 v kp K)
  | .min,[_,_]=>AI c.P (Builtin.min_ ts ty (DI s.vl vs).toArray) s.Z2 (λv G=>Hv (aA c.P ty) dst (s.hp G) s.Z2 v kp K)
  | .max,[_,_]=>AI c.P (Builtin.max_ ts ty (DI s.vl vs).toArray) s.Z2 (λv G=>Hv (aA c.P ty) dst (s.hp G) s.Z2 v kp K)
  | _,_=>False
def flB:BinOp->Bool
 | .add=>true
 | .sub=>true
 | .mul=>true
 | .quo=>true
 | _=>false
def AJM (P:Program)(T:TypeId):Bool:=match P.underlying T with
 | some (.float _)=>true
 | _=>false
def uK (c:nT)(dst:Option Nat)(op:Op)(ty:TypeId)(s:S)(kp:KP)(K:S->Prop):Prop:=match op with
 | .call cl=>match cl.callee with
  | .value x=>yO c dst x cl.args.toList ty s kp K
  | .builtin b=>biV c dst b cl.args.toList cl.argTypes ty s kp K
  | .invoke x name=>match s.op x,s.eC cl.args.toList with
   | some u,some vs=>MC c.P (u.den s.vl) name (DI s.vl vs).toArray s.Z2 (Ab c.R λv G=>Hv (aA c.P ty) dst (s.hp G) s.Z2 v kp K)
   | _,_=>False
 | .binOp b T x y _=>match flB b,s.op x,s.op y with
  | true,some u,some v=>AI c.P (binOp b T (u.den s.vl) (v.den s.vl)) s.Z2 (λv G=>Hv (aA c.P ty) dst (s.hp G) s.Z2 v kp K)
  | _,_,_=>False
 | .box T x=>match s.op x with
  | some v=>match v.flat with
   | some cs=>ADu (c.qq dst) dst T cs s K
   | none=>False
  | none=>False
 | .alloc T=>match yM c.P T with
  | some z=>ADu (c.qq dst) dst T (T1 z.cells.toList) s K
  | none=>False
 | .buildSlice T m ps=>match c.P.underlying T,s.parts ps.toList with
  | some (.slice E),some vs=>match Program.Mk c.P E m (Q3 s.vl vs) with
   | some cs=>∀b:Nat,s.Z2 b=none->K ((s.hp (Hp.set s.Z2 b (.cells cs E (0,0)))).put dst (.at (.sl (.at b 0) m m)))
   | none=>False
  | _,_=>False
 | .store T x y=>match dst,yE (s.op x),s.op y with
  | none,some (.at b o),some v=>AI c.P (Instr.storeAt T (.pointer (some ⟨b,o,none⟩)) (v.den s.vl)) s.Z2 (λ_ G=>kp s.Z2 G (K (s.hp G)))
  | _,_,_=>False
 | .convert T T' x=>match s.op x with
  | some v=>AI c.P (convert T T' (v.den s.vl)) s.Z2 (λv G=>Hv (aA c.P ty) dst (s.hp G) s.Z2 v kp K)
  | none=>False
 | .makeMap T none=>AI c.P (Instr.makeMap T none) s.Z2 (λv G=>Hv yJ dst (s.hp G) s.Z2 v kp K)
 | .lookup T x y two=>match c.P.underlying T,s.op x,s.op y with
  | some (.map _ t),some u,some v=>AI c.P (Instr.lookup T (u.den s.vl) (v.den s.vl) two) s.Z2 (λv G=>Hv (VT c.P t two) dst (s.hp G) s.Z2 v kp K)
  | _,_,_=>False
 | .range T x=>match s.op x with
  | some v=>AI c.P (Instr.range T (v.den s.vl)) s.Z2 (λv G=>Hv yK dst (s.hp G) s.Z2 v kp K)
  | none=>False
 | .makeSlice T x y=>match s.op x,s.op y with
  | some u,some v=>AI c.P (Instr.makeSlice T (u.den s.vl) (v.den s.vl)) s.Z2 (λv G=>Hv (aA c.P ty) dst (s.hp G) s.Z2 v kp K)
  | _,_=>False
 | .typeAssert x T A two=>match s.op x with
  | some u=>AI c.P (Instr.typeAssert (u.den s.vl) T A two) s.Z2 (λv G=>Hv (aA c.P ty) dst (s.hp G) s.Z2 v kp K)
  | none=>False
 | _=>False
section
variable {g:Gl}{ops:Array Oper}{i:Nat}{J:Env}{dst:Option Nat}{op:Op}{ty:TypeId}{gd:Option (Nat×Bool)}{s:S}{kp:KP}{kq:Hp->Hp->Prop}{K:S->Prop}{c:nT}
theorem iV {x:Operand}{xs:Array Operand}{ts:Array TypeId}(hP:c.P=g.P)(hR:c.R=g.R)(hE:AH g.P c.Ky)(MR:∀Z0 Z1 F,kp Z0 Z1 F->F/\kq Z0 Z1)
  (hs:sig ops i=some (dst,.call { callee:=.value x,args:=xs,argTypes:=ts },ty,gd)) (hw:Ac ops (s.e J) gd=true) (hd:G5 dst g.n=true) (h:yO c dst x xs.toList ty s kp K):AV g ops i (s.e J) s.b s.Z2 (St' J s kq K):=by
 unfold yO at h;rw[hP,hR]at h;split at h
 .rename_i f a b vs hx gb;split at h
  .rename_i hm;refine AV.call hs hw hd (λo ho _ w=>S6 (hE f (iU hm)) (fst:=a) (cap:=b) (vs:=(DI s.vl vs).toArray) (by rw[ev hx];rfl) (by simpa using Dz gb) ?_ o ho w) (h.mono λe Z1 G=>?_)
   .rw[<-AjS];simp
   .cases e with
    | returned v=>exact Au Kx MR G J
    | panicked ch=>exact G
    | outgrown=>exact G
  .split at h
   .rename_i hz;have hz:=Ajr hz;exact AV.en hs hw hd (by rw[ev hx,show a=#[] from Ak0 (by omega),show b=#[] from Ak0 (by omega)];rfl) (by simpa using Dz gb) (h.mono λv Z1 G=>Au Kx MR G J)
   .cases h
 .rename_i u vs hx gb;split at h
  .obtain⟨l,hu,h⟩:=h;refine AV.yield hs hw hd (u:=u) (vs:=(DI s.vl vs).toArray) (by rw[ev hx];rfl) (by simpa using Dz gb) hu (h.mono λe Z1 G=>?_);cases e with
   | returned v=>exact Au Kx MR G J
   | panicked ch=>exact G
   | outgrown=>exact G
  .obtain⟨f,fst,cap,hu,KG,h⟩:=h;refine AV.AN5 hs hw hd (u:=u) (vs:=(DI s.vl vs).toArray) (by rw[ev hx];rfl) (by simpa using Dz gb) hu KG (h.mono λe Z1 G=>?_);cases e with
   | returned v=>exact Au Kx MR G J
   | panicked ch=>exact G
   | outgrown=>exact G
 .cases h
theorem iW {T:TypeId}{cs:List Cf}{hid:Bool}(TD:∀Z0 Z1,Ext Z0 Z1->kq Z0 Z1)(h:ADu hid dst T cs s K):
  (hid=true->∀b,St' J s kq K (put (s.e J) dst (.pointer (some ⟨b,0,none⟩))) ((b,.cells (Bg s.vl cs).toArray T (0,0))::s.b) s.Z2)/\
  (hid=false->∀b,s.Z2 b=none->St' J s kq K (put (s.e J) dst (.pointer (some ⟨b,0,none⟩))) s.b (s.Z2.set b (.cells (Bg s.vl cs).toArray T (0,0)))):=by
 unfold ADu at h
 constructor
 .rintro rfl b
  simp only at h;cases hs:s.ok&&oks s.vl cs with
  | false=>rw[hs]at h;cases h
  | true=>
   rw[hs]at h;simp only[AjD]at hs;have h:=h b;have G:=Vl.ADr s.vl b;have T5:=S.Vu hs.1 G;have hb:(S.boxed s dst b T cs).b=(b,Obj.cells (Bg s.vl cs).toArray T (0,0))::s.b:=by
    unfold S.boxed;rw[S.KJ];simp only[S.b,GL];have hbv:GL (s.vl.ADp b) s.bx=GL s.vl s.bx:=T5.b;rw[VR G hs.2,hbv];show(nth 0 (s.vl.δ++[b]) s.vl.δ.length,_)::_=_
    rw[Pf]
   refine⟨_,?_,hb.symm,?_,TD _ _ (Ext.refl _),λ_ h=>Aiz _ h,h⟩
   .unfold S.boxed;rw[S.KI];have:=T5.e J;show put (s.e J) dst _=put ((s.w (s.vl.ADp b)).e J) dst (.pointer (some ⟨nth 0 (s.vl.δ++[b]) s.vl.δ.length,0,none⟩))
    rw[this,Pf]
   .unfold S.boxed;rw[S.HD]
 .rintro rfl b hb
  have h:=h b hb;refine⟨_,?_,?_,?_,TD _ _ (.set hb),λ_ h=>h,h⟩
  .rw[S.KI];rfl
  .rw[S.KJ];rfl
  .rw[S.HD];rfl
section
variable {e:Env}{x y:Operand}{u v:Value}{ts:Array TypeId}{ty:TypeId}
theorem T8 (hx:AD e x=u)(o:Oper)(G:o.op=.call { callee:=.builtin .real,args:=#[x],argTypes:=ts })(ht:o.type=ty):execOp (AD e) o=(do pure (.value (<-Builtin.real_ ts ty #[u]))):=by
 subst ht;simp[execOp,G,resolve,invoke,builtin,hx]
theorem T9 (hx:AD e x=u)(o:Oper)(G:o.op=.call { callee:=.builtin .imag,args:=#[x],argTypes:=ts })(ht:o.type=ty):execOp (AD e) o=(do pure (.value (<-Builtin.imag_ ts ty #[u]))):=by
 subst ht;simp[execOp,G,resolve,invoke,builtin,hx]
theorem Mm (hx:AD e x=u)(hy:AD e y=v)(o:Oper)(G:o.op=.call { callee:=.builtin .complex,args:=#[x,y],argTypes:=ts })(ht:o.type=ty):execOp (AD e) o=(do pure (.value (<-Builtin.complex_ ts ty #[u,v]))):=by
 subst ht;simp[execOp,G,resolve,invoke,builtin,hx,hy]
theorem nU (hx:AD e x=u)(hy:AD e y=v)(o:Oper)(G:o.op=.call { callee:=.builtin .min,args:=#[x,y],argTypes:=ts })(ht:o.type=ty):execOp (AD e) o=(do pure (.value (<-Builtin.min_ ts ty #[u,v]))):=by
 subst ht;simp[execOp,G,resolve,invoke,builtin,hx,hy]
theorem nW (hx:AD e x=u)(hy:AD e y=v)(o:Oper)(G:o.op=.call { callee:=.builtin .max,args:=#[x,y],argTypes:=ts })(ht:o.type=ty):execOp (AD e) o=(do pure (.value (<-Builtin.max_ ts ty #[u,v]))):=by
 subst ht;simp[execOp,G,resolve,invoke,builtin,hx,hy]
theorem P8 (hx:AD e x=u)(hy:AD e y=v)(o:Oper)(G:o.op=.call { callee:=.builtin .unsafeString,args:=#[x,y],argTypes:=ts })(ht:o.type=ty):execOp (AD e) o=(do pure (.value (<-Builtin.unsafeString_ ts ty #[u,v]))):=by
 subst ht;simp[execOp,G,resolve,invoke,builtin,hx,hy]
end
theorem uL {b:Builtin}{xs:Array Operand}{ts:Array TypeId}(hP:c.P=g.P)(MR:∀Z0 Z1 F,kp Z0 Z1 F->F/\kq Z0 Z1)
  (hs:sig ops i=some (dst,.call { callee:=.builtin b,args:=xs,argTypes:=ts },ty,gd)) (hw:Ac ops (s.e J) gd=true) (hd:G5 dst g.n=true) (h:biV c dst b xs.toList ts ty s kp K):AV g ops i (s.e J) s.b s.Z2 (St' J s kq K):=by
 unfold biV at h;rw[hP]at h;split at h
 .cases h
 .rename_i vs gb;have two:∀{x y:Operand},xs.toList=[x,y]->xs=#[x,y]/\DI s.vl vs=[AD (s.e J) x,AD (s.e J) y]:=λG=>by
   refine⟨by rw[<-AjS];simpa using G,?_⟩;rw[<-Dz (J:=J) gb,G];rfl
  have one:∀{x:Operand},xs.toList=[x]->xs=#[x]/\DI s.vl vs=[AD (s.e J) x]:=λG=>by
   refine⟨by rw[<-AjS];simpa using G,?_⟩;rw[<-Dz (J:=J) gb,G];rfl
  split at h
  .rename_i x y G;obtain⟨rfl,e⟩:=two G;rw[e]at h;exact AV.aL hs hw hd _ (λo ho ht=>Jq rfl rfl o ho ht) (h.mono λv Z1 hr=>Au Kx MR hr J)
  .rename_i x y G;obtain⟨rfl,e⟩:=two G;rw[e]at h;exact AV.aL hs hw hd _ (λo ho ht=>iE rfl rfl o ho ht) (h.mono λv Z1 hr=>Au Kx MR hr J)
  .rename_i x y G;obtain⟨rfl,e⟩:=two G;rw[e]at h;exact AV.aL hs hw hd _ (λo ho ht=>aM rfl rfl o ho ht) (h.mono λv Z1 hr=>Au Kx MR hr J)
  .rename_i x G;obtain⟨rfl,e⟩:=one G;rw[e]at h;exact AV.aL hs hw hd _ (λo ho ht=>dt rfl o ho ht) (h.mono λv Z1 hr=>Au Kx MR hr J)
  .rename_i x G;obtain⟨rfl,e⟩:=one G;rw[e]at h;exact AV.aL hs hw hd _ (λo ho ht=>T8 rfl o ho ht) (h.mono λv Z1 hr=>Au Kx MR hr J)
  .rename_i x G;obtain⟨rfl,e⟩:=one G;rw[e]at h;exact AV.aL hs hw hd _ (λo ho ht=>T9 rfl o ho ht) (h.mono λv Z1 hr=>Au Kx MR hr J)
  .rename_i x y G;obtain⟨rfl,e⟩:=two G;rw[e]at h;exact AV.aL hs hw hd _ (λo ho ht=>Mm rfl rfl o ho ht) (h.mono λv Z1 hr=>Au Kx MR hr J)
  .rename_i x y G;obtain⟨rfl,e⟩:=two G;rw[e]at h;exact AV.aL hs hw hd _ (λo ho ht=>P8 rfl rfl o ho ht) (h.mono λv Z1 hr=>Au Kx MR hr J)
  .rename_i x y G;obtain⟨rfl,e⟩:=two G;rw[e]at h;exact AV.aL hs hw hd _ (λo ho ht=>nU rfl rfl o ho ht) (h.mono λv Z1 hr=>Au Kx MR hr J)
  .rename_i x y G;obtain⟨rfl,e⟩:=two G;rw[e]at h;exact AV.aL hs hw hd _ (λo ho ht=>nW rfl rfl o ho ht) (h.mono λv Z1 hr=>Au Kx MR hr J)
  .cases h
theorem ADv {e:Env}{b:BinOp}{T T':TypeId}{x y:Operand}{u v:Value}(hb:flB b=true)(hx:AD e x=u)(hy:AD e y=v)(o:Oper)(G:o.op=.binOp b T x y T'):execOp (AD e) o=(do pure (.value (<-binOp b T u v))):=by
 cases b<;>first|(cases hb;done)|(simp[execOp,G,hx,hy,eqGuard])
theorem V3 (hP:c.P=g.P)(hR:c.R=g.R)(hE:AH g.P c.Ky)(MR:∀Z0 Z1 F,kp Z0 Z1 F->F/\kq Z0 Z1)(TD:∀Z0 Z1,Ext Z0 Z1->kq Z0 Z1)
  (hs:sig ops i=some (dst,op,ty,gd)) (hw:Ac ops (s.e J) gd=true) (hd:G5 dst g.n=true) (h:uK c dst op ty s kp K):AV g ops i (s.e J) s.b s.Z2 (St' J s kq K):=by
 unfold uK at h;split at h
 .rename_i cl;obtain⟨ce,xs,ts⟩:=cl;split at h
  .rename_i x hx;simp only at hx h;subst hx;exact iV hP hR hE MR hs hw hd h
  .rename_i b hx;simp only at hx h;subst hx;exact uL hP MR hs hw hd h
  .rename_i x name hx;simp only at hx h;subst hx;rw[hP,hR]at h;split at h
   .rename_i u vs hu gb;obtain⟨f,Aiv,hm,h⟩:=h;refine AV.inv hs hw hd (ev hu) (by simpa using Dz gb) ⟨f,Aiv,hm,h.mono λe Z1 G=>?_⟩;cases e with
    | returned v=>exact Au Kx MR G J
    | panicked ch=>exact G
    | outgrown=>exact G
   .cases h
 .rename_i b T x y T';split at h
  .rename_i u v hb hu hv;rw[hP]at h;exact AV.aL hs hw hd _ (λo ho ht=>ADv hb (ev hu) (ev hv) o ho) (h.mono λv Z1 G=>Au Kx MR G J)
  .cases h
 .rename_i T x;split at h
  .rename_i v hv;split at h
   .rename_i cs hc;obtain⟨h1,h2⟩:=iW (J:=J) TD h;have hx:(AD (s.e J) x).cells=(Bg s.vl cs).toArray:=by rw[ev hv,iR hc]
    cases hh:c.qq dst with
    | true=>exact AV.box hs hw hd hx (h1 hh)
    | false=>exact AV.AWh hs hw hd hx (h2 hh)
   .cases h
  .cases h
 .rename_i T;split at h
  .rename_i z hz;obtain⟨h1,h2⟩:=iW (J:=J) TD h;have hx:z.cells=(Bg s.vl (T1 z.cells.toList)).toArray:=by rw[KK]
   rw[hP]at hz;cases hh:c.qq dst with
   | true=>exact AV.alloc hs hw hd (bn hz) hx (h1 hh)
   | false=>exact AV.dn hs hw hd (bn hz) hx (h2 hh)
  .cases h
 .rename_i T m ps;rw[hP]at h;split at h
  .rename_i E vs hT gb;split at h
   .rename_i cs hc;refine AV.Mk hT hs hw hd (Q4 gb) hc λb hb=>?_;refine⟨_,?_,?_,?_,TD _ _ (.set hb),λ_ h=>h,h b hb⟩
    .rw[S.KI];rfl
    .rw[S.KJ];rfl
    .rw[S.HD];rfl
   .cases h
  .cases h
 .rename_i T x y;split at h
  .rename_i b o v hx hy;obtain⟨u,e1,e2⟩:=GN hx;rw[hP]at h;refine AV.store hs hw (p:=.pointer (some ⟨b,o,none⟩)) (by rw[ev e1,e2];rfl) (ev hy) (h.mono λ_ Z1 G=>?_);obtain⟨h1,h2⟩:=MR _ _ _ G;exact⟨s.hp Z1,rfl,rfl,rfl,h2,λ_ h=>h,h1⟩
  .cases h
 .rename_i T T' x;split at h
  .rename_i v hv;rw[hP]at h;exact AV.aL hs hw hd _ (λo ho ht=>by simp only[execOp,ho];rw[ev hv]) (h.mono λv Z1 G=>Au Kx MR G J)
  .cases h
 .rename_i T;rw[hP]at h;exact AV.aL hs hw hd _ (λo ho ht=>by simp only[execOp,ho];rfl) (h.mono λv Z1 G=>Au uH MR G J)
 .rename_i T x y two;rw[hP]at h;split at h
  .rename_i a t u v hT hu hv;exact AV.aL hs hw hd _ (λo ho ht=>by simp only[execOp,ho];rw[ev hu,ev hv]) (h.mono λv Z1 G=>Au nS MR G J)
  .cases h
 .rename_i T x;split at h
  .rename_i v hv;rw[hP]at h;exact AV.aL hs hw hd _ (λo ho ht=>by simp only[execOp,ho];rw[ev hv]) (h.mono λv Z1 G=>Au uI MR G J)
  .cases h
 .rename_i T x y;split at h
  .rename_i u v hu hv;rw[hP]at h;exact AV.aL hs hw hd _ (λo ho ht=>by simp only[execOp,ho];rw[ev hu,ev hv]) (h.mono λv Z1 G=>Au Kx MR G J)
  .cases h
 .rename_i x T A two;split at h
  .rename_i u hu;rw[hP]at h;exact AV.aL hs hw hd _ (λo ho ht=>by simp only[execOp,ho];rw[ev hu]) (h.mono λv Z1 G=>Au Kx MR G J)
  .cases h
 .cases h
end
end Tw
end
section
namespace Tw
open Go
variable [GF]
def yP (P:Program):Op->Bool
 | .call c=>match c.callee with
  | .builtin .len=>false
  | .builtin .cap=>false
  | .builtin .min=>match c.argTypes.toList with
   | T::_=>AJM P T
   | []=>false
  | .builtin .max=>match c.argTypes.toList with
   | T::_=>AJM P T
   | []=>false
  | .builtin .real=>false
  | .builtin .imag=>false
  | .builtin .complex=>false
  | _=>true
 | .convert T T' _=>match P.underlying T,P.underlying T' with
  | some (.int _),some (.int _)=>false
  | _,_=>true
 | .box ..=>true
 | .alloc ..=>true
 | .store ..=>true
 | .buildSlice ..=>true
 | .makeSlice ..=>true
 | .mapUpdate ..=>true
 | .makeMap ..=>true
 | .insert ..=>true
 | .range ..=>true
 | .next ..=>true
 | .lookup ..=>true
 | .entryStore ..=>true
 | .mapEntry ..=>true
 | .makeChan ..=>true
 | .typeAssert ..=>true
 | .binOp b T _ _ _=>flB b&&AJM P T
 | _=>false
def uM (s:S):Option Operand->Option (Option Value)
 | none=>some none
 | some x=>match s.op x with
  | some v=>some (some (v.den s.vl))
  | none=>none
def ADw (P:Program)(b:BinOp)(T:TypeId)(x y:Option SV):Bool:=match ga x,ga y with
 | some _,some _=>true
 | _,_=>match P.underlying T with
  | some .string=>match b with
   | .eql=>true
   | .neq=>true
   | .add=>true
   | _=>false
  | some (.pointer _)=>true
  | some .bool=>true
  | _=>false
def AW3:Option SV->Bool
 | some (.v (.a (.sl _ _ _)))=>true
 | _=>false
def anyM (P:Program)(op:Op)(ty:TypeId)(s:S):Option (Sem Value):=match op with
 | .slice T x lo hi G=>match AW3 (s.op x)&&G.isNone with
  | true=>none
  | false=>match s.op x,uM s lo,uM s hi,uM s G with
   | some w,some l,some h,some m=>some (Instr.sliceAt T (w.den s.vl) l h m)
   | _,_,_,_=>none
 | .unOp u _ x=>match u,s.op x with
  | .not,_=>none
  | .neg,v=>match ga v,v with
   | some _,_=>none
   | none,some v=>some (Op.unary .neg (v.den s.vl))
   | none,none=>none
  | u,some v=>some (Op.unary u (v.den s.vl))
  | _,none=>none
 | .binOp b T x y _=>match ADw P b T (s.op x) (s.op y) with
  | true=>none
  | false=>match s.op x,s.op y with
   | some u,some v=>some (do eqGuard b T x y (u.den s.vl) (v.den s.vl);binOp b T (u.den s.vl) (v.den s.vl))
   | _,_=>none
 | .call c=>match c.callee,c.args.toList,c.argTypes.toList with
  | .builtin .len,[x],[T]=>match s.op x with
   | some (.v (.a (.mp m)))=>some (Builtin.len_ #[T] ty #[.map m])
   | _=>none
  | .builtin .real,[x],_=>match s.op x with
   | some v=>some (Builtin.real_ c.argTypes ty #[v.den s.vl])
   | none=>none
  | .builtin .imag,[x],_=>match s.op x with
   | some v=>some (Builtin.imag_ c.argTypes ty #[v.den s.vl])
   | none=>none
  | .builtin .complex,[x,y],_=>match s.op x,s.op y with
   | some u,some v=>some (Builtin.complex_ c.argTypes ty #[u.den s.vl,v.den s.vl])
   | _,_=>none
  | _,_,_=>none
 | _=>none
theorem TE {s:S}{J:Env}{x:Option Operand}{v:Option Value}(h:uM s x=some v):x.map (AD (s.e J))=v:=by
 cases x with
 | none=>simp only[uM,Ai9]at h;subst h;rfl
 | some x=>
  simp only[uM]at h;split at h
  .rename_i u G;cases h;simp only[Aju];rw[ev G]
  .cases h
theorem uN {P:Program}{op:Op}{ty:TypeId}{s:S}{m:Sem Value}(h:anyM P op ty s=some m)(J:Env):∀o:Oper,o.op=op->o.type=ty->execOp (AD (s.e J)) o=(do pure (Next.value (<-m))):=λo ho ht=>by
 unfold anyM at h;split at h
 .rename_i T x lo hi mx;split at h
  .cases h
  .split at h
   .rename_i w l hh mm G h2 h3 h4;cases h;simp only[execOp,ho,TE h2,TE h3,TE h4,ev G]
   .cases h
 .rename_i u T x;split at h
  .cases h
  .split at h
   .cases h
   .rename_i hv;cases h;simp only[execOp,ho,ev hv]
   .cases h
  .rename_i hv;cases h;simp only[execOp,ho,ev hv]
  .cases h
 .rename_i b T x y T';split at h
  .cases h
  .split at h
   .rename_i u v hu hv;cases h;simp only[execOp,ho,ev hu,ev hv]
   .cases h
 .rename_i c;obtain⟨ce,Aiv,ts⟩:=c;split at h
  .rename_i x T G h2 h3;simp only at G h2 h3;have e1:Aiv=#[x]:=by rw[<-AjS];simpa using h2
   have e2:ts=#[T]:=by rw[<-AjS];simpa using h3
   subst G e1 e2;split at h
   .rename_i mm hx;cases h;exact ml (by rw[ev hx];rfl) o ho ht
   .cases h
  .rename_i x G h2;simp only at G h2 h;have e1:Aiv=#[x]:=by rw[<-AjS];simpa using h2
   subst G e1;split at h
   .rename_i v hv;cases h;exact T8 (ev hv) o ho ht
   .cases h
  .rename_i x G h2;simp only at G h2 h;have e1:Aiv=#[x]:=by rw[<-AjS];simpa using h2
   subst G e1;split at h
   .rename_i v hv;cases h;exact T9 (ev hv) o ho ht
   .cases h
  .rename_i x y G h2;simp only at G h2 h;have e1:Aiv=#[x,y]:=by rw[<-AjS];simpa using h2
   subst G e1;split at h
   .rename_i u v hu hv;cases h;exact Mm (ev hu) (ev hv) o ho ht
   .cases h
  .cases h
 .cases h
def AJN (P:Program)(ty:TypeId)(m:Sem Value)(s:S)(K:SV->S->Prop):Prop:=s.ex P ty λv s=>YF P m s.Z2 (v.den s.vl)/\K v s
theorem V4 {P:Program}{op:Op}{ty:TypeId}{s:S}{m:Sem Value}{K:SV->S->Prop}(hm:anyM P op ty s=some m)(h:AJN P ty m s K):∃v G,s.KL G/\(∀J,Yd P (s.e J) s.b s.Z2 op ty (v.den G.vl))/\K v G:=by
 obtain⟨v,G,h1,hy,hk⟩:=S.V2 h;rw[h1.Z2]at hy;exact⟨v,G,h1,λJ=>Yd.any (uN hm J) hy,hk⟩
def V5 (ops:Array Oper)(gd:Option (Nat×Bool))(s:S)(K:Bool->S->Prop):Prop:=match gd with
 | none=>K true s
 | some (j,G)=>match (ops[j]?).bind (·.dst) with
  | none=>False
  | some d=>match eA s.env d with
   | some (.v (.a .un))=>K false s
   | v=>s.onV v λt s=>K (t==G) s
theorem Kz {ops:Array Oper}{gd:Option (Nat×Bool)}{s:S}{K:Bool->S->Prop}(h:V5 ops gd s K):∃b s',s.KL s'/\(∀J,Ac ops (s.e J) gd=b)/\K b s':=by
 unfold V5 at h;split at h
 .exact⟨true,s,.refl s,λ_=>rfl,h⟩
 .rename_i j G;split at h
  .cases h
  .rename_i d hd;split at h
   .rename_i hv;refine⟨false,s,.refl s,λJ=>?_,h⟩;have:s.e J d=undef:=Fk hv;simp only[Ac,hd,this];rfl
   .obtain⟨t,s',x,h1,h2,h3,h4,h⟩:=S.HE h;refine⟨_,s',h1,λJ=>?_,h⟩;have:s.e J d=.bool t:=(Fk h3).trans h4;simp only[Ac,hd,this];cases t<;>cases G<;>rfl
def qs (J:Env)(K:S->Prop):Env->Bx->Hp->Prop:=λe bx Z2=>∃s,e=s.e J/\bx=s.b/\Z2=s.Z2/\K s
structure Cx extends nT where
 n:Nat
 Q5:List (Nat×TypeId):=[]
structure Cx.Ok (c:Cx)(g:Gl):Prop where
 P:c.P=g.P
 R:c.R=g.R
 E:AH g.P c.Ky
 n:c.n=g.n
 IG:g.IG=none
 ds:g.ds=[]
def kp0:KP:=λ_ _ F=>F
def uO (l:List HC)(i:Nat)(o:Nat)(xs:List Cf):List HC:=match l with
 | []=>[]
 | (j,t,cs)::l=>bif Nat.beq j i then(j,t,nO cs o xs)::l else(j,t,cs)::uO l i o xs
def V6 {α:Type}:List α->Nat
 | []=>0
 | _::l=>V6 l+1
theorem VU {α:Type}:∀l:List α,V6 l=l.length
 | []=>rfl
 | _::l=>by simp only[V6,Aix];rw[VU l]
def TF:List Cf->List Value
 | []=>[]
 | .raw v::l=>v::TF l
 | .un::l=>undef::TF l
 | _::l=>TF l
def AJO (F:Prop):List Value->Prop
 | []=>F
 | [v]=>(Value.oneCell' v=true)/\F
 | l=>AJP l/\F
where
 AJP:List Value->Prop
  | []=>True
  | [v]=>Value.oneCell' v=true
  | v::l=>Value.oneCell' v=true/\AJP l
def SV.nX:SV->Option (List Cf)
 | .v (.a x)=>some [x]
 | .v (.agg l)=>some l
 | .bP _=>none
def mapOf (P:Program)(l:List (Nat×TypeId))(x:Operand):Option (TypeId×TypeId):=match x with
 | .tmp t=>match l.find? λp=>Nat.beq p.1 t with
  | some p=>match P.underlying p.2 with
   | some (.map k v)=>some (k,v)
   | _=>none
  | none=>none
 | _=>none
def yQ (c:Cx)(dst:Option Nat)(x:Operand)(ty:TypeId)(s:S)(K:S->Prop):Prop:=match dst,s.op x,mapOf c.P c.Q5 x with
 | some d,some u,some (tk,tv)=>AI c.P (Instr.next (u.den s.vl) false ty) s.Z2 (λv G=>(v=(.tuple #[(.bool false)])/\K ((s.hp G).put (some d) (.bP [.a (.bl false)]))) \/
  (match s.ok with
   | true=>ex1 c.P tk s.vl λa vl=>ex1 c.P tv vl λb vl=>v=(SV.bP [.a (.bl true),a,b]).den vl/\K (((s.hp G).w vl).put (some d) (.bP [.a (.bl true),a,b]))
   | false=>False))
 | _,_,_=>False
def AJQ (c:Cx)(T:TypeId)(i o:Nat)(v:SV)(s:S)(K:S->Prop):Prop:=match v.nX,iJ c.P T with
 | some l,some n=>match iS s.bx i with
  | some (t,cs)=>match Nat.beq (V6 l) n&&Nat.ble (o+V6 l) (V6 cs) with
   | true=>AJO (K ⟨s.env,uO s.bx i o l,s.vl,s.Z2⟩) (TF l)
   | false=>False
  | none=>False
 | _,_=>False
def yR (c:Cx)(ops:Array Oper)(i:Nat)(s:S)(K:S->Prop):Prop:=match ops[i]? with
 | none=>False
 | some o=>match G5 o.dst c.n with
  | false=>False
  | true=>V5 ops o.guard s λb s=>match b with
   | false=>K (s.put o.dst (.at .un))
   | true=>match o.op with
    | .load T x=>ldV c.P T x s λ_ v s=>K (s.put o.dst v)
    | .mapUpdate T m k v=>match o.dst,s.op m,s.op k,s.op v with
     | none,some m,some k,some v=>AI c.P (Instr.mapUpdate T (m.den s.vl) (k.den s.vl) (v.den s.vl)) s.Z2 (λ_ G=>K (s.hp G))
     | _,_,_,_=>False
    | .insert T m k v=>match o.dst,s.op m,s.op k,s.op v with
     | none,some m,some k,some v=>AI c.P (Instr.mapUpdate T (m.den s.vl) (k.den s.vl) (v.den s.vl)) s.Z2 (λ_ G=>K (s.hp G))
     | _,_,_,_=>False
    | .next x false=>yQ c o.dst x o.type s K
    | .entry x=>match s.op x,mapOf c.P c.Q5 x with
     | some u,some (tk,tv)=>AI c.P (Instr.entry (u.den s.vl)) s.Z2 (λv G=>Hv (yL c.P tk tv) o.dst (s.hp G) s.Z2 v kp0 K)
     | _,_=>False
    | .panic x=>match s.op x with
     | some (.v (.a (.raw (.iface T u))))=>c.R (.panicked [{ v:=.iface T u,recovered:=false }]) s.Z2
     | _=>False
    | .store T x y=>match o.dst,yE (s.op x),s.op y with
     | none,some (.bx i b),some v=>AJQ c T i b v s K
     | _,_,_=>uK c.tonT o.dst (.store T x y) o.type s kp0 K
    | op=>match yP c.P op,anyM c.P op o.type s with
     | true,_=>uK c.tonT o.dst op o.type s kp0 K
     | false,some m=>AJN c.P o.type m s λv s=>K (s.put o.dst v)
     | false,none=>yv c.P c.wr op s λv s=>K (s.put o.dst v)
def ADx (c:Cx)(ops:Array Oper):List Nat->S->(S->Prop)->Prop
 | [],s,K=>K s
 | i::is,s,K=>yR c ops i s λs=>ADx c ops is s K
section
variable {g:Gl}{ops:Array Oper}{i:Nat}{J:Env}{s:S}{K:S->Prop}{c:Cx}
theorem qt {s G:S}{K:Env->Bx->Hp->Prop}(h:s.KL G)(hk:AV g ops i (G.e J) G.b G.Z2 K):AV g ops i (s.e J) s.b s.Z2 K:=by
 rw[<-h.e J,<-h.b,<-h.Z2];exact hk
theorem AOK {s:S}{o:Oper}{K:SV->S->Prop}{K':Env->Bx->Hp->Prop}(ho:ops[i]?=some o)(hw:Ac ops (s.e J) o.guard=true)(hd:G5 o.dst g.n=true)(h:YP g.P o.op o.type s K)(hk:∀v G,s.KL G->K v G->K' ((G.put o.dst v).e J) G.b G.Z2):
  AV g ops i (s.e J) s.b s.Z2 K':=by
 obtain⟨v,G,h1,h2,h3⟩:=h;have:=hk v G h1 h3;rw[S.KI,h1.e J,h1.b,h1.Z2]at this;exact AV.y (D8 ho) hw hd (h2 J _) this
theorem Yd.up {P:Program}{e:Env}{bx:Bx}{Z2:Hp}{b:Nat}{op:Op}{ty:TypeId}{v:Value}(h:Yd P e bx (λx=>if x=b then Z2 x else none) op ty v):Yd P e bx Z2 op ty v:=λo ho ht w hs hb=>h o ho ht w (λk u G=>by
 simp only at G;split at G
 .exact hs k u G
 .cases G) hb
theorem AV.mono {e:Env}{bx:Bx}{Z2:Hp}{K G:Env->Bx->Hp->Prop}(h:AV g ops i e bx Z2 K)(hk:∀e bx Z2,K e bx Z2->G e bx Z2):AV g ops i e bx Z2 G:=λw0 F a w st=>wpOpIn_mono (λa' w' ⟨e',b',Z',G4,h'⟩=>⟨e',b',Z',G4,hk _ _ _ h'⟩) (h w0 F a w st)
theorem AOL {dst:Option Nat}{op:Op}{ty:TypeId}{gd:Option (Nat×Bool)}(G:c.Ok g)(hs:sig ops i=some (dst,op,ty,gd))(hw:Ac ops (s.e J) gd=true)(hd:G5 dst g.n=true)(h:uK c.tonT dst op ty s kp0 K):AV g ops i (s.e J) s.b s.Z2 (qs J K):=by
 have:=V3 (c:=c.tonT) (kq:=λ_ _=>True) (J:=J) G.P G.R G.E (λ_ _ F h=>⟨h,trivial⟩) (λ_ _ _=>trivial) hs hw hd h;intro w0 F a w st;refine wpOpIn_mono ?_ (this w0 F a w st)
 rintro a' w' ⟨e',HY,Z',G4,s',rfl,rfl,rfl,_,_,hk⟩
 exact⟨_,_,_,G4,s',rfl,rfl,rfl,hk⟩
theorem iX {dst:Option Nat}{x:Operand}{ty:TypeId}{gd:Option (Nat×Bool)}(hc:c.Ok g)(hs:sig ops i=some (dst,.next x false,ty,gd))(hw:Ac ops (s.e J) gd=true)(hd:G5 dst g.n=true)(h:yQ c dst x ty s K):AV g ops i (s.e J) s.b s.Z2 (qs J K):=by
 unfold yQ at h;split at h
 .rename_i d u tk tv hu hm;rw[hc.P]at h;refine AV.aL hs hw hd (Instr.next (u.den s.vl) false ty) (λo ho ht=>by simp only[execOp,ho,ht];rw[ev hu]) (h.mono λv Z1 G=>?_);rcases G with ⟨rfl,hk⟩|G
  .exact⟨_,(S.KI (s:=s.hp Z1) (x:=.bP [.a (.bl false)])).symm,(S.KJ (s:=s.hp Z1) (x:=.bP [.a (.bl false)])).symm,(S.HD (s:=s.hp Z1) (x:=.bP [.a (.bl false)])).symm,hk⟩
  .split at G
   .rename_i AW;obtain⟨a,w1,h1,G⟩:=Fm G;obtain⟨b,w2,h2,G⟩:=Fm G;obtain⟨hv,hk⟩:=G;have T5:=S.Vu (s:=s.hp Z1) AW (h1.trans h2).le;refine⟨_,?_,?_,?_,hk⟩
    .rw[S.KI,T5.e J,hv];rfl
    .rw[S.KJ,T5.b];rfl
    .rw[S.HD];rfl
   .cases G
 .cases h
theorem iY {vl:Vl}{i o:Nat}{l:List Cf}:∀{bx:List HC} {t:TypeId} {cs:List Cf},iS bx i=some (t,cs)->∃j,(GL vl bx)[j]?=some (nth 0 vl.δ i,.cells (Bg vl cs).toArray t (0,0))/\GL vl (uO bx i o l)=(GL vl bx).set j (nth 0 vl.δ i,.cells (Bg vl (nO cs o l)).toArray t (0,0))
 | (k,u,ds)::r,t,cs,h=>by
  simp only[iS]at h;cases G:Nat.beq k i with
  | true=>
   rw[G]at h;simp only[Akk,Ai9,Ajs]at h;obtain⟨rfl,rfl⟩:=h;have:=Ajr G;subst this;exact⟨0,rfl,by simp only[uO,G,Akk,GL,List.set_cons_zero]⟩
  | false=>
   rw[G]at h;simp only[AkZ]at h;obtain⟨j,h1,h2⟩:=iY (vl:=vl) (o:=o) (l:=l) h;exact⟨j+1,by simpa only[GL,Ajq] using h1,by simp only[uO,G,AkZ,GL,AlG,h2]⟩
theorem nY {F:Prop}{l:List Value}(h:AJO F l):F/\∀v∈l,Value.oneCell' v=true:=by
 have cj:∀{l:List Value},AJO.AJP l->∀v∈l,Value.oneCell' v=true:=fun {l}=>by
  induction l with
  | nil=>intro _ v hv;cases hv
  | cons a l ih=>
   intro h v hv;cases l with
   | nil=>simp at hv;subst hv;exact h
   | cons b l=>
    rcases Ai1.1 hv with rfl|hv
    .exact h.1
    .exact ih h.2 v hv
 match l,h with
 | [],h=>exact⟨h,λv hv=>by cases hv⟩
 | [v],h=>exact⟨h.2,λu G=>by simp at G;subst G;exact h.1⟩
 | a::b::l,h=>exact⟨h.2,cj h.1⟩
theorem V7 {vl:Vl}:∀{l:List Cf},(∀v∈TF l,Value.oneCell' v=true)->∀u∈Bg vl l,Value.oneCell' u=true
 | [],_,u,G=>by cases G
 | x::l,h,u,G=>by
  have tl:∀v∈TF l,Value.oneCell' v=true:=λv hv=>h v (by cases x<;>first|exact hv|exact Aiz _ hv);rcases Ai1.1 G with rfl|G
  .cases x<;>try rfl
   case bs i n=>cases n<;>rfl
   case raw v=>exact h v (AjG ..)
   case un=>exact h undef (AjG ..)
  .exact V7 tl u G
theorem nZ {vl:Vl}{v:SV}{l:List Cf}(h:v.nX=some l)(G:∀u∈Bg vl l,Value.oneCell' u=true):(v.den vl).cells=(Bg vl l).toArray:=by
 unfold SV.nX at h;split at h
 .rename_i x;cases h;have:=G (x.den vl) (AjG ..);simp only[SV.den,IV.den,Bg];cases hx:x.den vl<;>first|rfl|(rw[hx]at this;cases this)
 .cases h;rfl
 .cases h
theorem ng {T ty:TypeId}{x y:Operand}{gd:Option (Nat×Bool)}{k b:Nat}{v:SV}(hc:c.Ok g)(hs:sig ops i=some (none,.store T x y,ty,gd))(hw:Ac ops (s.e J) gd=true)(hx:yE (s.op x)=some (.bx k b))(hy:s.op y=some v)(h:AJQ c T k b v s K):AV g ops i (s.e J) s.b s.Z2 (qs J K):=by
 unfold AJQ at h;split at h
 .rename_i l n hl hz;split at h
  .rename_i t cs hg;split at h
   .rename_i hd;simp only[AjD,VU]at hd;obtain⟨hk,ho⟩:=nY h;have Rv:=V7 (vl:=s.vl) ho;have G:=nZ (vl:=s.vl) hl Rv;obtain⟨u,e1,e2⟩:=GN hx;obtain⟨j,h1,h2⟩:=iY (vl:=s.vl) (o:=b) (l:=l) hg;rw[hc.P]at hz;refine AV.AIp (b:=nth 0 s.vl.δ k) (o:=b) (c:=(Bg s.vl cs).toArray) (c':=(Bg s.vl (nO cs b l)).toArray) (t:=t) (j:=j) hs hw (DT hz) (by rw[ev e1,e2];rfl) (ev hy) h1 ?_ ?_ ?_ ?_ ?_
    .rw[G];simp[EJ];exact Ajr hd.1
    .have:=Ajr hd.1;have h3:=Ajo hd.2;exact Nat.ble_eq_true_of_le (by simp[EJ];omega)
    .rw[G];exact Ajt.2 λu hu=>Rv u (by simpa using hu)
    .rw[G,Vz]
    .exact⟨⟨s.env,uO s.bx k b l,s.vl,s.Z2⟩,rfl,h2.symm,rfl,hk⟩
   .cases h
  .cases h
 .cases h
theorem iZ (hc:c.Ok g)(h:yR c ops i s K):AV g ops i (s.e J) s.b s.Z2 (qs J K):=by
 unfold yR at h;split at h
 .cases h
 .rename_i o ho;split at h
  .cases h
  .rename_i hd;rw[hc.n]at hd;obtain⟨b,s1,h1,hw,h⟩:=Kz h;have hw:=hw J;rw[<-h1.e J]at hw;refine qt h1 ?_;cases b with
   | false=>exact AV.no (D8 ho) hw hd ⟨_,(S.KI (x:=.at .un)).symm,S.KJ.symm,S.HD.symm,h⟩
   | true=>
    simp only at h;split at h
    .rename_i T x Ht;obtain⟨m,v,s2,h2,hk,hy⟩:=bh (ty:=o.type) h;have G:=D8 ho;rw[Ht]at G;refine AV.y (v:=v.den s2.vl) G hw hd ?_ ⟨s2.put o.dst v,by rw[S.KI,h2.e J],by rw[S.KJ,h2.b],by rw[S.HD,h2.Z2],hk⟩;have hy:=hy J;rw[hc.P]at hy;cases m with
     | none=>exact hy _
     | some b=>exact Yd.up hy
    .rename_i T m k v Ht;split at h
     .rename_i um uk uv Mj hm hk hv;have G:=D8 ho;rw[Ht,Mj]at G;rw[hc.P]at h;exact AV.AIo G hw rfl _ (λo ho ht=>by simp only[execOp,ho];rw[ev hm,ev hk,ev hv]) (h.mono λ_ Z1 hr=>⟨s1.hp Z1,rfl,rfl,rfl,hr⟩)
     .cases h
    .rename_i T m k v Ht;split at h
     .rename_i um uk uv Mj hm hk hv;have G:=D8 ho;rw[Ht,Mj]at G;rw[hc.P]at h;exact AV.AIo G hw rfl _ (λo ho ht=>by simp only[execOp,ho];rw[ev hm,ev hk,ev hv]) (h.mono λ_ Z1 hr=>⟨s1.hp Z1,rfl,rfl,rfl,hr⟩)
     .cases h
    .have Ht:=‹o.op=Op.next _ false›
     have G:=D8 ho;rw[Ht]at G;exact iX hc G hw hd h
    .have Ht:=‹o.op=Op.entry _›;have G:=D8 ho;rw[Ht]at G;split at h
     .rename_i u tk tv hu hm;rw[hc.P]at h;have:=AV.aL (K:=St' J s1 (λ_ _=>True) K) G hw hd (Instr.entry (u.den s1.vl)) (λo ho ht=>by simp only[execOp,ho];rw[ev hu]) (h.mono λv Z1 hr=>Au (kq:=λ_ _=>True) uJ (λ_ _ F h=>⟨h,trivial⟩) hr J);exact this.mono λe bx Z2 ⟨s',e1,e2,e3,_,_,hk⟩=>⟨s',e1,e2,e3,hk⟩
     .cases h
    .have Ht:=‹o.op=Op.panic _›;split at h
     .rename_i T u hx;have G:=D8 ho;rw[Ht]at G;rw[hc.R]at h;exact AV.panic G hw (by rw[ev hx];rfl) hc.IG hc.ds h
     .cases h
    .have Ht:=‹o.op=Op.store _ _ _›;have G:=D8 ho;rw[Ht]at G;split at h
     .rename_i i' b v Mj hx hy;rw[Mj]at G;exact ng hc G hw hx hy h
     .exact AOL hc G hw hd h
    .split at h
     .exact AOL hc (D8 ho) hw hd h
     .rename_i m _ hm;rw[hc.P]at h hm;obtain⟨v,s2,h2,hy,hk⟩:=V4 hm h;exact AV.y (v:=v.den s2.vl) (D8 ho) hw hd (hy J) ⟨s2.put o.dst v,by rw[S.KI,h2.e J],by rw[S.KJ,h2.b],by rw[S.HD,h2.Z2],hk⟩
     .rw[hc.P]at h;exact AOK ho hw hd (iT h) λv s' ia hk=>⟨s'.put o.dst v,rfl,S.KJ.symm,S.HD.symm,hk⟩
theorem Q6 (G:c.Ok g):∀{is:List Nat} {s:S},ADx c ops is s K->Seq g ops is (s.e J) s.b s.Z2 (qs J K)
 | [],s,h=>⟨s,rfl,rfl,rfl,h⟩
 | i::is,s,h=>(iZ G h).mono λe bx Z2 ⟨s',h1,h2,h3,h4⟩=>by subst h1 h2 h3;exact Q6 G h4
theorem V8 {K G:Env->Bx->Hp->Prop}(hk:∀e bx Z2,K e bx Z2->G e bx Z2):∀{is:List Nat} {e:Env} {bx:Bx} {Z2:Hp},Seq g ops is e bx Z2 K->Seq g ops is e bx Z2 G
 | [],_,_,_,h=>hk _ _ _ h
 | i::is,e,bx,Z2,h=>AV.mono h λ_ _ _ h=>V8 hk h
theorem LA {K K':Env->Bx->Hp->Prop}(G:∀e bx Z2,K e bx Z2->K' e bx Z2):∀{p:Ord} {q:J0} {e:Env} {bx:Bx} {Z2:Hp},BV g ops p q e bx Z2 K->BV g ops p q e bx Z2 K'
 | .done,_,_,_,_,h=>G _ _ _ h
 | .yes i r,q,e,bx,Z2,⟨own,o,v,h1,h2,h3,h4,h5⟩=>⟨own,o,v,h1,h2,h3,h4,LA G h5⟩
 | .alt i r t,q,e,bx,Z2,⟨h1,h2⟩=>⟨AV.mono h1 λ_ _ _ ⟨h3,h4⟩=>⟨h3,LA G h4⟩,LA G h2⟩
 | .no,_,_,_,_,_=>trivial
def V9:Ord->List Nat
 | .done=>[]
 | .yes _ r=>V9 r
 | .alt i r _=>i::V9 r
 | .no=>[]
def AOM (ops:Array Oper)(i:Nat):Nat->Nat->Option (List Nat)
 | 0,_=>none
 | f+1,t=>match KF ops t i with
  | true=>some [t]
  | false=>(List.range t).findSome? λu=>match Nat.blt i u&&KF ops t u with
   | true=>match AOM ops i f u with
    | some p=>some (t::p)
    | none=>none
   | false=>none
def waits (ops:Array Oper)(i:Nat):List Nat->List (List Nat)
 | []=>[]
 | t::l=>match AOM ops i 40 t with
  | some p=>p::waits ops i l
  | none=>waits ops i l
def kpL (L:J0):KP:=λZ0 G F=>match L with
 | none=>Ext Z0 G/\F
 | some []=>F
 | some (x::l)=>Kp ((x::l).map Prod.fst) Z0 G/\F
def Hd (c:Cx)(ops:Array Oper):Ord->J0->S->(S->Prop)->Prop
 | .done,_,s,K=>K s
 | .yes i r,L,s,K=>match ops[i]? with
  | none=>False
  | some o=>match G5 o.dst c.n&&L.ok i with
   | false=>False
   | true=>V5 ops o.guard s λb s=>match b with
    | false=>Hd c ops r L (s.put o.dst (.at .un)) K
    | true=>match o.op with
     | .load T x=>ldV c.P T x s λm v s=>match m,L with
      | none,_=>Hd c ops r L (s.put o.dst v) K
      | some _,none=>Hd c ops r L (s.put o.dst v) K
      | some b,some l=>match (Mg (some l) (some (b,waits ops i (V9 r)))).ok i&&Rl ops i (some (b,waits ops i (V9 r))) with
       | true=>Hd c ops r (Mg (some l) (some (b,waits ops i (V9 r)))) (s.put o.dst v) K
       | false=>False
     | op=>match yP c.P op,anyM c.P op o.type s,L with
      | true,_,_=>False
      | false,some m,none=>AJN c.P o.type m s λv s=>Hd c ops r none (s.put o.dst v) K
      | false,some _,some _=>False
      | false,none,L=>yv c.P c.wr op s λv s=>Hd c ops r L (s.put o.dst v) K
 | .alt i r t,L,s,K=>
  match t with
  | .no=>ib c ops i L s λs=>Hd c ops r (G3 L i) s K
  | t=>(ib c ops i L s λs=>Hd c ops r (G3 L i) s K)/\Hd c ops t L s K
 | .no,_,_,_=>True
where
 ib (c:Cx) (ops:Array Oper) (i:Nat) (L:J0) (s:S) (K:S->Prop):Prop:=match ops[i]? with
  | none=>False
  | some o=>match G5 o.dst c.n with
   | false=>False
   | true=>V5 ops o.guard s λb s=>match b with
    | false=>K (s.put o.dst (.at .un))
    | true=>uK c.tonT o.dst o.op o.type s (kpL (G3 L i)) K
def kqL (q:J0)(Z2 Z':Hp):Prop:=match q with
 | none=>∀b o,Z2 b=some o->Z' b=some o
 | some L=>∀x∈L,∀o,Z2 x.1=some o->Z' x.1=some o
theorem AJR {q:J0}{bx G:Bx}{Z2 Z':Hp}(h:kqL q Z2 Z')(hb:∀p∈bx,p∈G):Ic q bx Z2 G Z':=⟨hb,h⟩
theorem uP {L:J0}{Z0 G:Hp}{F:Prop}(h:kpL L Z0 G F):F/\kqL L Z0 G:=by
 unfold kpL at h;split at h
 .exact⟨h.2,h.1⟩
 .exact⟨h,λx hx=>by cases hx⟩
 .exact⟨h.2,λy hy o ho=>h.1 y.1 (Ajf.2 ⟨y,hy,rfl⟩) o ho⟩
theorem ADy {L:J0}{Z0 G:Hp}(h:Ext Z0 G):kqL L Z0 G:=by
 cases L with
 | none=>exact h
 | some l=>exact λx _ o ho=>h _ _ ho
theorem ic {L:J0}(hc:c.Ok g)(h:Hd.ib c ops i L s K):AV g ops i (s.e J) s.b s.Z2 λe' G Z'=>Ic (G3 L i) s.b s.Z2 G Z'/\qs J K e' G Z':=by
 unfold Hd.ib at h;split at h
 .cases h
 .rename_i o ho;split at h
  .cases h
  .rename_i hd;rw[hc.n]at hd;obtain⟨b,s1,h1,hw,h⟩:=Kz h;have hw:=hw J;rw[<-h1.e J]at hw;have key:AV g ops i (s1.e J) s1.b s1.Z2 λe' G Z'=>Ic (G3 L i) s1.b s1.Z2 G Z'/\qs J K e' G Z':=by
    cases b with
    | false=>exact AV.no (D8 ho) hw hd ⟨Ic.refl _ _ _,_,(S.KI (x:=.at .un)).symm,S.KJ.symm,S.HD.symm,h⟩
    | true=>
     have:=V3 (c:=c.tonT) (kq:=kqL (G3 L i)) (J:=J) hc.P hc.R hc.E (λ_ _ F h=>uP h) (λ_ _ h=>ADy h) (D8 ho) hw hd h;exact this.mono λe' G Z' ⟨s',e1,e2,e3,hq,hb,hk⟩=>⟨AJR hq hb,s',e1,e2,e3,hk⟩
   have:=qt (K:=λe' G Z'=>Ic (G3 L i) s1.b s1.Z2 G Z'/\qs J K e' G Z') h1 key;rw[h1.b,h1.Z2]at this;exact this
theorem EK (hc:c.Ok g):∀{p:Ord} {q:J0} {s:S},Hd c ops p q s K->BV g ops p q (s.e J) s.b s.Z2 (qs J K)
 | .done,q,s,h=>⟨s,rfl,rfl,rfl,h⟩
 | .yes i r,q,s,h=>by
  simp only[Hd]at h;split at h
  .cases h
  .rename_i o ho;split at h
   .cases h
   .rename_i hd;simp only[AjD]at hd;obtain⟨hd,hq⟩:=hd;rw[hc.n]at hd;obtain⟨b,s1,h1,hw,h⟩:=Kz h;have hw:=hw J;rw[<-h1.e J]at hw;rw[<-h1.e J,<-h1.b,<-h1.Z2];have go:∀{v:SV} {s2:S} {own:Option (Nat×List (List Nat))},s1.KL s2->((Mg q own).ok i&&Rl ops i own)=true->Yd g.P (s1.e J) s1.b (KE q own s1.Z2) o.op o.type (v.den s2.vl)->Ac ops (s1.e J) o.guard=true->Hd c ops r (Mg q own) (s2.put o.dst v) K->BV g ops (.yes i r) q (s1.e J) s1.b s1.Z2 (qs J K):=fun {v s2 own} h2 AW hy hw G=>by
     have:=EK hc G;rw[S.KI,S.KJ,S.HD,h2.e J,h2.b,h2.Z2]at this;exact⟨own,o,v.den s2.vl,AW,ho,.inl ⟨hw,hy⟩,G5.lt hd,this⟩
    cases b with
    | false=>
     have:=EK hc h;rw[S.KI,S.KJ,S.HD]at this;exact⟨none,o,undef,ok_none hq,ho,.inr ⟨hw,rfl⟩,G5.lt hd,by rw[EY];exact this⟩
    | true=>
     simp only at h;split at h
     .rename_i T x Ht;obtain⟨m,v,s2,h2,G,hy⟩:=bh (ty:=o.type) h;have hy:=hy J;rw[hc.P,<-Ht]at hy;split at G
      .exact go (own:=none) h2 (ok_none hq) (hy _) hw (by rw[EY];exact G)
      .exact go (own:=none) h2 (ok_none hq) (Yd.up hy) hw (by rw[EY];exact G)
      .rename_i b l;split at G
       .rename_i AW;exact go h2 AW hy hw G
       .cases G
     .split at h
      .cases h
      .have hm:=‹anyM c.P o.op o.type s1=some _›;rw[hc.P]at h hm;obtain⟨v,s2,h2,hy,G⟩:=V4 hm h;exact go (own:=none) h2 (ok_none hq) (hy J) hw G
      .cases h
      .rw[hc.P]at h;obtain⟨v,s2,h2,hy,G⟩:=iT (ty:=o.type) h;exact go (own:=none) h2 (ok_none hq) (hy J _) hw (by rw[EY];exact G)
 | .alt i r t,q,s,h=>by
  have key:∀{t:Ord},(Hd.ib c ops i q s λs=>Hd c ops r (G3 q i) s K)->BV g ops t q (s.e J) s.b s.Z2 (qs J K)->BV g ops (.alt i r t) q (s.e J) s.b s.Z2 (qs J K):=fun {t} h1 h2=>
   ⟨(ic hc h1).mono λe bx Z2 ⟨G,s',e1,e2,e3,h3⟩=>⟨G,by subst e1 e2 e3;exact EK hc h3⟩,h2⟩
  cases t with
  | no=>exact key h trivial
  | done=>exact key h.1 (EK hc h.2)
  | yes j u=>exact key h.1 (EK hc h.2)
  | alt j u w=>exact key h.1 (EK hc h.2)
 | .no,q,s,h=>trivial
def qu (P:Program)(ops:Array Oper)(m:Nat):Nat->Array Bool->Ord
 | 0,_=>.no
 | f+1,G=>match (List.range m).all λi=>G.getD i false with
  | true=>.done
  | false=>match (Region.ready .any ops G).find? λj=>Nat.blt j m&&match ops[j]? with | some o=>!yP P o.op | none=>false with
   | some j=>.yes j (qu P ops m f (G.setIfInBounds j true))
   | none=>(Region.ready .any ops G).foldr (λj acc=>.alt j (qu P ops m f (G.setIfInBounds j true)) acc) .no
def AJS (c:Cx)(ops:Array Oper)(draw:Bool)(m:Nat)(q:J0)(s:S)(K:S->Prop):Prop:=match draw with
 | false=>ADx c ops (List.range ops.size) s K
 | true=>match Rq ops m (qu c.P ops m (ops.size+1) (Array.replicate ops.size false)) (List.range' m (ops.size-m)) with
  | true=>Hd c ops (qu c.P ops m (ops.size+1) (Array.replicate ops.size false)) q s λs=>ADx c ops (List.range' m (ops.size-m)) s K
  | false=>False
theorem nh {k:List Item}{id m:Nat}{draw:Bool}{q:J0}(hc:c.Ok g)(hm:g.P.follows .mixedOrders=true)(h:AJS c ops draw m q s K)(hk:∀s,K s->At g k (s.e J) s.b s.Z2):At g (.code (.region id ops draw)::k) (s.e J) s.b s.Z2:=by
 have fin:∀e bx Z2,qs J K e bx Z2->At g k e bx Z2:=λe bx Z2 ⟨s',G,e2,e3,h⟩=>by subst G e2 e3;exact hk s' h
 cases draw with
 | false=>
  refine At.region rfl rfl ?_;have:Seq g ops (List.range ops.size) (s.e J) s.b s.Z2 (qs J K):=Q6 hc h;exact V8 fin this
 | true=>
  simp only[AJS]at h;split at h
  .rename_i hp;refine At.AOF hm rfl hp (q:=q) ?_;have:=EK (J:=J) hc h;refine LA (λe bx Z2 ⟨s',G,e2,e3,h⟩=>?_) this;subst G e2 e3;exact V8 fin (Q6 hc h)
  .cases h
end
end Tw
end
section
namespace Tw
open Go
variable [GF]
def node (body:Code):List Bool->Code
 | []=>body
 | false::p=>cl (node body p)
 | true::p=>cr (node body p)
inductive It where
 | c (p:List Bool)
 | Vw (i:Nat)
 | lp (p:List Bool)
 | sc (p:List Bool)
def It.den (body:Code):It->Item
 | .c p=>.code (node body p)
 | .Vw i=>.inBlock i
 | .lp p=>.inLoop (node body p)
 | .sc p=>.inScope (node body p)
def EL (body:Code):List It->List Item
 | []=>[]
 | x::l=>x.den body::EL body l
def TG:List Bool->List Bool->Bool
 | [],[]=>true
 | a::p,b::q=>(bif a then b else !b)&&TG p q
 | _,_=>false
theorem bo:∀{p q:List Bool},TG p q=true->p=q
 | [],[],_=>rfl
 | a::p,b::q,h=>by
  simp only[TG,AjD]at h;rw[bo h.2];cases a<;>cases b<;>simp at h<;>rfl
 | [],_::_,h=>by cases h
 | _::_,[],h=>by cases h
def It.eq:It->It->Bool
 | .c p,.c q=>TG p q
 | .Vw i,.Vw j=>Nat.beq i j
 | .lp p,.lp q=>TG p q
 | .sc p,.sc q=>TG p q
 | _,_=>false
def qw:List It->List It->Bool
 | [],[]=>true
 | x::l,y::m=>x.eq y&&qw l m
 | _,_=>false
theorem ig:∀{l m:List It},qw l m=true->l=m
 | [],[],_=>rfl
 | x::l,y::m,h=>by
  simp only[qw,AjD]at h;rw[ig h.2];have:x=y:=by
   cases x<;>cases y<;>simp only[It.eq]at h<;>first
    | (rw[bo h.1])
    | (rw[Ajr h.1])
    | (exact absurd h.1 (by simp))
  rw[this]
 | [],_::_,h=>by cases h
 | _::_,[],h=>by cases h
structure Cut where
 todo:List It
 f:S->Prop
def Cut.Ok (g:Gl)(body:Code)(k:Cut):Prop:=∀s J,k.f s->At g (EL body k.todo) (s.e J) s.b s.Z2
def ADz:List Cut->List It->Option (S->Prop)
 | [],_=>none
 | k::l,t=>match qw k.todo t with
  | true=>some k.f
  | false=>ADz l t
theorem qz {g:Gl}{body:Code}:∀{l:List Cut} {t:List It} {f:S->Prop},(∀k∈l,k.Ok g body)->ADz l t=some f->∀s J,f s->At g (EL body t) (s.e J) s.b s.Z2
 | k::l,t,f,G,h=>by
  simp only[ADz]at h;split at h
  .rename_i he;cases h;rw[<-ig he];exact G k (AjG ..)
  .exact qz (λk hk=>G k (Aiz _ hk)) h
def UA (i:Nat):List It->Option (List It)
 | []=>none
 | .Vw j::r=>match Nat.beq i j with
  | true=>some r
  | false=>UA i r
 | _::r=>UA i r
def eH (l:Nat):Code->List Bool->Option (List It)
 | .seq a b,p=>match eH l a (false::p) with
  | some r=>some (r++[.c (true::p)])
  | none=>eH l b (true::p)
 | .label j,_=>match Nat.beq j l with
  | true=>some []
  | false=>none
 | _,_=>none
def UB (body:Code)(l:Nat):List It->Option (List It)
 | []=>none
 | .sc p::r=>match eH l (node body p) p with
  | some m=>some (m++(.sc p::r))
  | none=>UB body l r
 | _::r=>UB body l r
structure Fx extends Cx where
 body:Code
 res:List ResultVar
 reg:List (Nat×Nat×Bool)
def yS:List (Nat×Nat×Bool)->Nat->Nat->Nat×J0
 | [],_,m=>(m,some [])
 | (i,m,b)::l,id,z=>match Nat.beq i id with
  | true=>(m,bif b then none else some [])
  | false=>yS l id z
def nj (c:Fx)(s:S):List ResultVar->Option (List SV)
 | []=>some []
 | .tmp t::r=>match eA s.env t,nj c s r with
  | some v,some l=>some (v::l)
  | _,_=>none
 | .cell p T::r=>match yE (eA s.env p),nj c s r with
  | some (.bx i 0),some l=>match iS s.bx i,iL c.P T with
   | some (_,cs),some true=>match iJ c.P T with
    | some n=>match decide (cs.length=n) with
     | true=>some (.v (.agg cs)::l)
     | false=>none
    | none=>none
   | some (_,x::_),some false=>some (.at x::l)
   | _,_=>none
  | _,_=>none
def dq (c:Fx)(s:S):Prop:=match nj c s c.res with
 | some l=>c.R (.returned (Vr (DI s.vl l))) s.Z2
 | none=>False
def EM (c:Fx)(cuts:List Cut):Nat->Bool->List It->S->Prop
 | 0,_,_,_=>False
 | f+1,first,todo,s=>match (bif first then none else ADz cuts todo) with
  | some k=>k s
  | none=>match todo with
   | []=>dq c s
   | .Vw _::r=>EM c cuts f false r s
   | .lp p::r=>EM c cuts f false (.c p::.lp p::r) s
   | .sc _::r=>EM c cuts f false r s
   | .c p::r=>match node c.body p with
    | .skip=>EM c cuts f false r s
    | .seq _ _=>EM c cuts f false (.c (false::p)::.c (true::p)::r) s
    | .block i _=>EM c cuts f false (.c (false::p)::.Vw i::r) s
    | .loop _=>EM c cuts f false (.c (false::p)::.lp (false::p)::r) s
    | .exit i=>match UA i r with
     | some r=>EM c cuts f false r s
     | none=>False
    | .scope _=>EM c cuts f false (.c (false::p)::.sc (false::p)::r) s
    | .label _=>EM c cuts f false r s
    | .goto l=>match UB c.body l r with
     | some r=>EM c cuts f false r s
     | none=>False
    | .cond x _ _=>s.onV (s.op x) λt s=>EM c cuts f false (.c ((!t)::p)::r) s
    | .ret=>dq c s
    | .region id ops draw=>AJS c.toCx ops draw (yS c.reg id ops.size).1 (yS c.reg id ops.size).2 s λs=>EM c cuts f false r s
    | _=>False
structure Fx.Ok (c:Fx)(g:Gl)(fn:Func):Prop where
 cx:c.toCx.Ok g
 mixed:g.P.follows .mixedOrders=true
 fnc:g.P.funcs[g.f]?=some fn
 res:fn.results=c.res.toArray
 IG:g.IG=none
 ds:g.ds=[]
section
variable {g:Gl}{c:Fx}{fn:Func}{cuts:List Cut}{J:Env}
theorem Ig (G:c.P=g.P){s:S}:∀{rs:List ResultVar} {l:List SV},nj c s rs=some l->JU g.P (s.e J) s.b s.Z2 rs (DI s.vl l)
 | [],l,h=>by simp only[nj,Ai9]at h;subst h;rfl
 | .tmp t::r,l,h=>by
  simp only[nj]at h;split at h
  .rename_i v l' h1 h2;cases h;refine⟨_,?_,Ig G h2⟩;rw[show s.e J t=v.den s.vl from Fk h1];rfl
  .cases h
 | .cell p T::r,l,h=>by
  simp only[nj]at h;split at h
  .rename_i i l' h1 h2;obtain⟨u,e1,e2⟩:=GN h1;have hp:s.e J p=.pointer (some ⟨nth 0 s.vl.δ i,0,none⟩):=(Fk e1).trans (e2 _);split at h
   .rename_i t cs hb ha;split at h
    .rename_i n hn;split at h
     .rename_i hd;have hd:=AjA hd;cases h;rw[G]at ha hn;exact⟨_,_,rfl,⟨_,hp,xi (GM ha) (DT hn) (by simp[EJ];exact hd) (Ml hb)⟩,Ig G h2⟩
     .cases h
    .cases h
   .rename_i t x cs hb ha;cases h;rw[G]at ha;exact⟨_,_,rfl,⟨_,hp,ADg (GM ha) (Ml hb) rfl⟩,Ig G h2⟩
   .cases h
  .cases h
theorem KO {body:Code}{i:Nat}:∀{r r':List It},UA i r=some r'->exitTo i (EL body r)=some (EL body r')
 | .Vw j::r,r',h=>by
  simp only[UA]at h;split at h
  .rename_i G;cases h;have:=Ajr G;subst this;simp[EL,It.den,exitTo]
  .rename_i G;have Ad:i≠j:=λe=>by subst e;rw[AmW]at G;cases G
   simp only[EL,It.den,exitTo];rw[Aiw (by simpa using AjI Ad)];exact KO h
 | .c p::r,r',h=>by simp only[UA]at h;simp only[EL,It.den,exitTo];exact KO h
 | .lp p::r,r',h=>by simp only[UA]at h;simp only[EL,It.den,exitTo];exact KO h
 | .sc p::r,r',h=>by simp only[UA]at h;simp only[EL,It.den,exitTo];exact KO h
theorem WA {body:Code}:∀{l m:List It},EL body (l++m)=EL body l++EL body m
 | [],_=>rfl
 | x::l,m=>by simp only[Ajp,EL,WA]
theorem Pg {l:Nat}:∀{x:Code} {p:List Bool},eH l x p=none->findLabel x l=none
 | .seq a b,p,h=>by
  simp only[eH]at h;split at h
  .cases h
  .rename_i G;simp only[findLabel,Pg G,Pg h]
 | .label j,p,h=>by
  simp only[eH]at h;split at h
  .cases h
  .rename_i G;have:j≠l:=λe=>by subst e;rw[AmW]at G;cases G
   simp[findLabel,this]
 | .skip,p,h=>rfl
 | .region ..,p,h=>rfl
 | .cond ..,p,h=>rfl
 | .block ..,p,h=>rfl
 | .loop ..,p,h=>rfl
 | .rangeFunc ..,p,h=>rfl
 | .exit ..,p,h=>rfl
 | .scope ..,p,h=>rfl
 | .goto ..,p,h=>rfl
 | .ret,p,h=>rfl
 | .refuse ..,p,h=>rfl
theorem WB {l:Nat}{body:Code}:∀{x:Code} {p:List Bool} {m:List It},node body p=x->eH l x p=some m->∃G,findLabel x l=some G/\∀{k:List Item} {e:Env} {bx:Bx} {Z2:Hp},At g (EL body m++k) e bx Z2->At g (.code G::k) e bx Z2
 | .seq a b,p,m,hx,h=>by
  simp only[eH]at h;split at h
  .rename_i r h1;cases h;obtain⟨G,e1,e2⟩:=WB (body:=body) (x:=a) (p:=false::p) (by simp only[node,hx,cl]) h1;refine⟨.seq G b,by simp only[findLabel,e1],λh=>At.seq rfl (e2 ?_)⟩;rw[WA,AjT]at h;simp only[EL,It.den,node,hx,cr,Ajp,Aj9]at h;exact h
  .rename_i h1;obtain⟨G,e1,e2⟩:=WB (body:=body) (x:=b) (p:=true::p) (by simp only[node,hx,cr]) h;exact⟨G,by simp only[findLabel,Pg h1,e1],e2⟩
 | .label j,p,m,hx,h=>by
  simp only[eH]at h;split at h
  .rename_i h1;cases h;have:=Ajr h1;subst this;exact⟨.skip,by simp[findLabel],λh=>At.skip h⟩
  .cases h
theorem KQ {l:Nat}{body:Code}:∀{r r':List It},UB body l r=some r'->∃k',gotoIn l (EL body r)=some k'/\∀{e:Env} {bx:Bx} {Z2:Hp},At g (EL body r') e bx Z2->At g k' e bx Z2
 | .sc p::r,r',h=>by
  simp only[UB]at h;split at h
  .rename_i m h1;cases h;obtain⟨G,e1,e2⟩:=WB (g:=g) rfl h1;refine⟨.code G::.inScope (node body p)::EL body r,by simp only[EL,It.den,gotoIn,e1],λh=>e2 ?_⟩;rw[WA]at h;exact h
  .rename_i h1;obtain⟨k',e1,e2⟩:=KQ h;exact⟨k',by simp only[EL,It.den,gotoIn,Pg h1,e1],e2⟩
 | .c p::r,r',h=>by simp only[UB]at h;simp only[EL,It.den,gotoIn];exact KQ h
 | .lp p::r,r',h=>by simp only[UB]at h;simp only[EL,It.den,gotoIn];exact KQ h
 | .Vw p::r,r',h=>by simp only[UB]at h;simp only[EL,It.den,gotoIn];exact KQ h
theorem BJ (hc:c.Ok g fn)(hk:∀k∈cuts,k.Ok g c.body):∀{f:Nat} {first:Bool} {todo:List It} {s:S},EM c cuts f first todo s->At g (EL c.body todo) (s.e J) s.b s.Z2
 | 0,_,_,_,h=>h.elim
 | f+1,first,todo,s,h=>by
  have hl:∀Z2,left g.ds Z2=Z2:=λZ2=>by rw[hc.ds];rfl
  have hmk:Marks g.ds s.Z2:=by rw[hc.ds];trivial
  simp only[EM]at h;split at h
  .rename_i k AOQ;cases first with
   | true=>cases AOQ
   | false=>exact qz hk AOQ s J h
  .split at h
   .unfold dq at h;split at h
    .rename_i l Q7;rw[hc.cx.R]at h;exact At.iC hc.fnc hc.res (by rw[hl];exact Ig hc.cx.P Q7) (by rw[hl];exact h) hc.IG hmk
    .cases h
   .exact At.inBlock (BJ hc hk h)
   .exact At.inLoop (BJ hc hk h)
   .exact At.inScope (BJ hc hk h)
   .rename_i p r _;have e:EL c.body (.c p::r)=.code (node c.body p)::EL c.body r:=rfl;rw[e];split at h
    .rename_i G;rw[G];exact At.skip (BJ hc hk h)
    .rename_i a b G;refine At.seq G ?_;have:=BJ hc hk h;simp only[EL,It.den,node,G,cl,cr]at this;exact this
    .rename_i i a G;refine At.block G ?_;have:=BJ hc hk h;simp only[EL,It.den,node,G,cl]at this;exact this
    .rename_i a G;refine At.loop G ?_;have:=BJ hc hk h;simp only[EL,It.den,node,G,cl]at this;exact this
    .rename_i i G;split at h
     .rename_i r' hr;exact At.exit G (KO hr) (BJ hc hk h)
     .cases h
    .rename_i a G;refine At.scope G ?_;have:=BJ hc hk h;simp only[EL,It.den,node,G,cl]at this;exact this
    .rename_i l G;rw[G];exact At.label (BJ hc hk h)
    .rename_i l G;split at h
     .rename_i r' hr;obtain⟨k',e1,e2⟩:=KQ (g:=g) hr;exact At.goto G e1 (e2 (BJ hc hk h))
     .cases h
    .rename_i x a b G;obtain⟨t,s',v,h1,h2,h3,h4,h⟩:=S.HE h;have hx:AD (s.e J) x=.bool t:=by rw[ev h3,h4]
     have:=BJ hc hk h;rw[h1.e J,h1.b,h1.Z2]at this;cases t with
     | true=>
      refine At.AGa G hx ?_;simp only[EL,It.den,node,G,cl,Bool.not_true]at this;exact this
     | false=>
      refine At.AGb G hx ?_;simp only[EL,It.den,node,G,cr,Bool.not_false]at this;exact this
    .rename_i G;unfold dq at h;split at h
     .rename_i l Q7;rw[hc.cx.R]at h;exact At.dq G hc.fnc hc.res (by rw[hl];exact Ig hc.cx.P Q7) (by rw[hl];exact h) hc.IG hmk
     .cases h
    .rename_i id ops draw G;rw[G];exact nh hc.cx hc.mixed h λs' h'=>BJ hc hk h'
    .cases h
end
def S.uQ (s:S):List Nat->Option (List Value)
 | []=>some []
 | t::l=>match eA s.env t,s.uQ l with
  | some v,some r=>some (v.den s.vl::r)
  | _,_=>none
theorem bp {s:S}{J:Env}:∀{l:List Nat} {vs:List Value},s.uQ l=some vs->Live (s.e J) (l.zip vs)
 | [],vs,h=>by simp only[S.uQ,Ai9]at h;subst h;trivial
 | t::l,vs,h=>by
  simp only[S.uQ]at h;split at h
  .rename_i v r G h2;cases h;exact⟨Fk G,bp h2⟩
  .cases h
def q6 (i:Nat):List HC->Option (HC×List HC)
 | []=>none
 | x::l=>match Nat.beq x.1 i with
  | true=>some (x,l)
  | false=>q6 i l
def AGq:Option SV->Option Nat
 | some (.v (.a (.pt (.bx i 0))))=>some i
 | _=>none
def S.eI (s:S):List Nat->List HC->Option (List HC)
 | [],_=>some []
 | t::l,bx=>match AGq (eA s.env t) with
  | some i=>match q6 i bx with
   | some (x,r)=>match s.eI l r with
    | some m=>some (x::m)
    | none=>none
   | none=>none
  | none=>none
def WC (vl:Vl):List Nat->List HC->List (Nat×Value)
 | t::l,x::r=>(t,.pointer (some ⟨nth 0 vl.δ x.1,0,none⟩))::WC vl l r
 | _,_=>[]
theorem bq {vl:Vl}{i:Nat}:∀{l r:List HC} {x:HC},q6 i l=some (x,r)->x.1=i/\∀m:List HC,(GL vl m).Sublist (GL vl r)->(GL vl (x::m)).Sublist (GL vl l)
 | y::l,r,x,h=>by
  simp only[q6]at h;split at h
  .rename_i he;cases h;exact⟨Ajr he,λm hm=>List.Sublist.cons_cons _ hm⟩
  .obtain⟨G,h2⟩:=bq (vl:=vl) h;exact⟨G,λm hm=>List.Sublist.cons _ (h2 m hm)⟩
theorem ij {s:S}{J:Env}:∀{l:List Nat} {bx B:List HC},s.eI l bx=some B->(GL s.vl B).Sublist (GL s.vl bx)/\Live (s.e J) (WC s.vl l B)
 | [],bx,B,h=>by simp only[S.eI,Ai9]at h;subst h;exact⟨List.nil_sublist _,trivial⟩
 | t::l,bx,B,h=>by
  simp only[S.eI]at h;split at h
  .rename_i i hi;split at h
   .rename_i x r hx;split at h
    .rename_i m hm;cases h;obtain⟨G,h2⟩:=bq (vl:=s.vl) hx;obtain⟨h3,h4⟩:=ij (s:=s) (J:=J) hm;refine⟨h2 m h3,?_,h4⟩;unfold AGq at hi;split at hi
     .rename_i hg;cases hi;rw[G];exact Fk hg
     .cases hi
    .cases h
   .cases h
  .cases h
theorem Live.app {e:Env}:∀{l m:List (Nat×Value)},Live e l->Live e m->Live e (l++m)
 | [],_,_,h=>h
 | (_,_)::_,_,h,g=>⟨h.1,Live.app h.2 g⟩
theorem At.AOR {g:Gl}{k:List Item}{s:S}{J:Env}{l G:List Nat}{vs:List Value}{B:List HC}(h:s.uQ l=some vs)(hb:s.eI G s.bx=some B)(hk:∀J,At g k (MP J (WC s.vl G B++l.zip vs)) (GL s.vl B) s.Z2):At g k (s.e J) s.b s.Z2:=by
 obtain⟨h1,h2⟩:=ij (J:=J) hb;exact At.sub h1 (At.live (h2.app (bp h)) (hk _))
def WD:Nat->List Value->List (Nat×Value)
 | _,[]=>[]
 | k,v::l=>(k,v)::WD (k+1) l
theorem WE {e:Env}:∀{l:List Value} {k:Nat},(∀j v,l[j]?=some v->e (k+j)=v)->Live e (WD k l)
 | [],_,_=>trivial
 | v::l,k,h=>⟨h 0 v rfl,WE λj u G=>by rw[show k+1+j=k+(j+1) by omega];exact h (j+1) u (by simpa using G)⟩
theorem Spec.walk {P:Program}{f:FuncId}{fn:Func}{R:Rr}{args:Array Value}{n fuel:Nat}(c:Fx)(cuts:List Cut)(s:S)(hc:c.Ok (Gl.fn P f n R) fn)(hb:fn.body=some c.body)(hnt:fn.ntmps=n)(hn:Nat.ble args.size n=true)
  (hk:∀k∈cuts,k.Ok (Gl.fn P f n R) c.body) (he:JF s.vl s.env=WD 0 args.toList) (G:s.bx=[]) (h:EM c cuts fuel true [.c []] s):Spec P f args s.Z2 R:=by
 subst hnt;refine Spec.Vm hc.fnc hb (Ajo hn) λe hee=>?_;have hl:Live e (JF s.vl s.env):=by
  rw[he];refine WE λj v hj=>?_;rw[Ajz,hee];simp only[Akh];rw[<-Aje,hj];rfl
 have:=BJ (J:=e) hc hk h;have F7:s.b=[]:=by rw[S.b,G];rfl
 rw[F7]at this;exact At.live hl this
end Tw
end
section
namespace Tw
open Go
variable [GF]
inductive Dv where
 | I (k:IntKind) (x:Int)
 | B (t:Bool)
 | T (x:ByteArray)
 | L (p:Option Addr) (n c:Nat)
 | Q (p:Option Addr)
 | A (b:Nat)
 | M (x:Option Nat)
 | V (x:Value)
def Dv.den:Dv->Value
 | .I k x=>.int k x
 | .B t=>.bool t
 | .T x=>.string x
 | .L p n c=>.slice p n c
 | .Q p=>.pointer p
 | .A b=>.pointer (some ⟨b,0,none⟩)
 | .M x=>.map x
 | .V x=>x
def il:List Dv->List Value
 | []=>[]
 | x::l=>x.den::il l
inductive Dw where
 | o (x:Dv)
 | G (l:List Dv)
 | U (l:List Dv)
 | X (T:TypeId) (l:List Dv)
def Dw.den:Dw->Value
 | .o x=>x.den
 | .G l=>.agg (il l).toArray
 | .U l=>.tuple (il l).toArray
 | .X _ _=>undef
structure Nm where
 ρ:List (Option Addr)
 β:List BK
structure Nm.le (n:Nm)(v:Vl):Prop where
 ρ:∀i,i<n.ρ.length->nth none v.ρ i=nth none n.ρ i
 β:∀i,i<n.β.length->nth (.var false) v.β i=nth (.var false) n.β i
def Dv.sym:Dv->Nm->Cf×Nm
 | .I k x,n=>(.int k x,n)
 | .B t,n=>(.bs (V6 n.β) false,⟨n.ρ,n.β++[.var t]⟩)
 | .T x,n=>(.str x,n)
 | .L p k c,n=>(.sl (.var (V6 n.ρ)) k c,⟨n.ρ++[p],n.β⟩)
 | .Q p,n=>(.pt (.var (V6 n.ρ)),⟨n.ρ++[p],n.β⟩)
 | .A b,n=>(.pt (.at b 0),n)
 | .M x,n=>(.mp x,n)
 | .V x,n=>(.raw x,n)
theorem Nm.AOS {n:Nm}{v:Vl}{p:Option Addr}(h:Nm.le ⟨n.ρ++[p],n.β⟩ v):n.le v/\nth none v.ρ (V6 n.ρ)=p:=by
 refine⟨⟨λi hi=>(h.ρ i (by simp only[Ai5];omega)).trans (Pe hi),h.β⟩,?_⟩;rw[VU,h.ρ _ (by simp)];exact Pf
theorem Nm.AW5 {n:Nm}{v:Vl}{p:BK}(h:Nm.le ⟨n.ρ,n.β++[p]⟩ v):n.le v/\nth (.var false) v.β (V6 n.β)=p:=by
 refine⟨⟨h.ρ,λi hi=>(h.β i (by simp only[Ai5];omega)).trans (Pe hi)⟩,?_⟩;rw[VU,h.β _ (by simp)];exact Pf
theorem Dv.TH {x:Dv}{n:Nm}{v:Vl}(h:(x.sym n).2.le v):(x.sym n).1.den v=x.den/\n.le v:=by
 cases x with
 | B t=>obtain⟨G,h2⟩:=Nm.AW5 h;exact⟨by simp only[Dv.sym,Cf.den,h2];rfl,G⟩
 | L p k c=>obtain⟨G,h2⟩:=Nm.AOS h;exact⟨by simp only[Dv.sym,Cf.den,PV.den,h2];rfl,G⟩
 | Q p=>obtain⟨G,h2⟩:=Nm.AOS h;exact⟨by simp only[Dv.sym,Cf.den,PV.den,h2];rfl,G⟩
 | _=>exact⟨rfl,h⟩
def iq:List Dv->Nm->List Cf×Nm
 | [],n=>([],n)
 | x::l,n=>match x.sym n with
  | (a,n)=>match iq l n with
   | (r,n)=>(a::r,n)
theorem VV {v:Vl}:∀{l:List Dv} {n:Nm},(iq l n).2.le v->Bg v (iq l n).1=il l/\n.le v
 | [],n,h=>⟨rfl,h⟩
 | x::l,n,h=>by
  obtain⟨G,h2⟩:=VV (l:=l) (n:=(x.sym n).2) h;obtain⟨h3,h4⟩:=Dv.TH h2;exact⟨by simp only[iq,Bg,il,h3];rw[<-G],h4⟩
def atoms:List Cf->List IV
 | []=>[]
 | x::l=>.a x::atoms l
theorem br {v:Vl}:∀l,JZ v (atoms l)=Bg v l
 | []=>rfl
 | x::l=>by simp only[atoms,JZ,Bg];rw[br l];rfl
def Dw.sym:Dw->Nm->SV×Nm
 | .o x,n=>match x.sym n with | (a,n)=>(.v (.a a),n)
 | .G l,n=>match iq l n with | (a,n)=>(.v (.agg a),n)
 | .U l,n=>match iq l n with | (a,n)=>(.bP (atoms a),n)
 | .X _ _,n=>(.v (.a .un),n)
theorem Dw.TH {x:Dw}{n:Nm}{v:Vl}(h:(x.sym n).2.le v):(x.sym n).1.den v=x.den/\n.le v:=by
 cases x with
 | o x=>exact Dv.TH (x:=x) h
 | G l=>obtain⟨h1,h2⟩:=VV (l:=l) h;exact⟨by simp only[Dw.sym,SV.den,IV.den,Dw.den];rw[<-h1],h2⟩
 | U l=>obtain⟨h1,h2⟩:=VV (l:=l) h;exact⟨by simp only[Dw.sym,SV.den,Dw.den];rw[br,<-h1],h2⟩
 | X T l=>exact⟨rfl,h⟩
abbrev Bv:=Nat×TypeId×List Dv
def Ut:List (Nat×Dw)->List (Nat×Value)
 | []=>[]
 | (_,.X _ _)::l=>Ut l
 | (t,x)::l=>(t,x.den)::Ut l
def TI:List (Nat×Dw)->Nm->List (Nat×SV)×Nm
 | [],n=>([],n)
 | (_,.X _ _)::l,n=>TI l n
 | (t,x)::l,n=>match x.sym n with
  | (a,n)=>match TI l n with
   | (r,n)=>((t,a)::r,n)
theorem Ph {v:Vl}:∀{l:List (Nat×Dw)} {n:Nm},(TI l n).2.le v->JF v (TI l n).1=Ut l/\n.le v
 | [],n,h=>⟨rfl,h⟩
 | (t,.o x)::l,n,h=>by
  obtain⟨G,h2⟩:=Ph (l:=l) (n:=((Dw.o x).sym n).2) h;obtain⟨h3,h4⟩:=Dw.TH h2;exact⟨by simp only[TI,JF,Ut,h3];rw[<-G],h4⟩
 | (t,.G x)::l,n,h=>by
  obtain⟨G,h2⟩:=Ph (l:=l) (n:=((Dw.G x).sym n).2) h;obtain⟨h3,h4⟩:=Dw.TH h2;exact⟨by simp only[TI,JF,Ut,h3];rw[<-G],h4⟩
 | (t,.U x)::l,n,h=>by
  obtain⟨G,h2⟩:=Ph (l:=l) (n:=((Dw.U x).sym n).2) h;obtain⟨h3,h4⟩:=Dw.TH h2;exact⟨by simp only[TI,JF,Ut,h3];rw[<-G],h4⟩
 | (_,.X T x)::l,n,h=>Ph (l:=l) (n:=n) h
def MT:List (Nat×Dw)->List Bv->List Bv
 | [],r=>r
 | (t,.X T l)::m,r=>MT m ((t,T,l)::r)
 | _::m,r=>MT m r
def iu:List Bv->Nat->Nm->List HC×Nm
 | [],_,n=>([],n)
 | (_,T,l)::m,j,n=>match iq l n with
  | (a,n)=>match iu m (j+1) n with
   | (r,n)=>((j,T,a)::r,n)
def AD0:List Bv->Nat->List (Nat×SV)
 | [],_=>[]
 | (t,_,_)::m,j=>(t,.v (.a (.pt (.bx j 0))))::AD0 m (j+1)
abbrev Bw:=Nat×TypeId×List Value
def aQ:List Bv->List Bw
 | []=>[]
 | (t,T,l)::m=>(t,T,il l)::aQ m
def nk:List Bw->List Nat->List (Nat×Value)
 | (t,_,_)::m,b::δ=>(t,.pointer (some ⟨b,0,none⟩))::nk m δ
 | _,_=>[]
def bxV:List Bw->List Nat->Bx
 | (_,T,l)::m,b::δ=>(b,.cells l.toArray T (0,0))::bxV m δ
 | _,_=>[]
def PB:List Bw->(List Nat->Prop)->Prop
 | [],K=>K []
 | _::m,K=>∀b:Nat,PB m λδ=>K (b::δ)
theorem yT:∀{l:List Bw} {K:List Nat->Prop},PB l K->∀δ,δ.length=l.length->K δ
 | [],K,h,[],_=>h
 | _::m,K,h,b::δ,G=>yT (h b) δ (by simpa using G)
theorem yU:∀{l:List Bw} {K:List Nat->Prop},(∀δ,δ.length=l.length->K δ)->PB l K
 | [],K,h=>h [] rfl
 | _::m,K,h=>λb=>yU λδ G=>h (b::δ) (by simp[G])
def PTv (g:Gl)(G:List Item)(bs:List Bw)(ts:List (Nat×Value))(Z2:Hp):Prop:=
 ∀J:Env,PB bs λδ=>At g G (MP J (nk bs δ++ts)) (bxV bs δ) Z2
theorem q8 {δ0:List Nat}{v:Vl}:∀{m:List Bv} {j:Nat} {n:Nm} {δ:List Nat},δ.length=m.length->(∀i,i<δ.length->nth 0 v.δ (j+i)=nth 0 δ i)->(iu m j n).2.le v->
  GL v (iu m j n).1=bxV (aQ m) δ/\JF v (AD0 m j)=nk (aQ m) δ/\n.le v
 | [],j,n,[],_,_,h=>⟨rfl,rfl,h⟩
 | (t,T,l)::m,j,n,b::δ,hl,hd,h=>by
  obtain⟨G,h2,h3⟩:=q8 (δ0:=δ0) (m:=m) (j:=j+1) (n:=(iq l n).2) (δ:=δ) (by simpa using hl) (λi hi=>by
   have:=hd (i+1) (by simpa using hi);rw[show j+1+i=j+(i+1) by omega];exact this) h
  obtain⟨h4,h5⟩:=VV h3;have hb:nth 0 v.δ j=b:=hd 0 (by simp);refine⟨?_,?_,h5⟩
  .simp only[iu,GL,aQ,bxV,hb,h4];rw[<-G]
  .simp only[AD0,JF,aQ,nk,SV.den,IV.den,Cf.den,PV.den,hb];rw[h2]
def uR (D:List (Nat×Dw))(δ:List Nat)(Z2:Hp):S:=match TI D ⟨[],[]⟩ with
 | (e,n)=>match MT D [] with
  | bs=>match iu bs 0 n with
   | (x,n)=>⟨AD0 bs 0++e,x,⟨n.ρ,n.β,δ⟩,Z2⟩
theorem iw {v:Vl}:∀{l m:List (Nat×SV)},JF v (l++m)=JF v l++JF v m
 | [],_=>rfl
 | (t,x)::l,m=>by simp only[Ajp,JF];rw[iw]
theorem AJU {D:List (Nat×Dw)}{δ:List Nat}{Z2:Hp}{J:Env}(hl:δ.length=(MT D []).length):
  (uR D δ Z2).e J=MP J (nk (aQ (MT D [])) δ++Ut D)/\(uR D δ Z2).b=bxV (aQ (MT D [])) δ:=by
 have G:(iu (MT D []) 0 (TI D ⟨[],[]⟩).2).2.le ⟨(iu (MT D []) 0 (TI D ⟨[],[]⟩).2).2.ρ,(iu (MT D []) 0 (TI D ⟨[],[]⟩).2).2.β,δ⟩:=⟨λ_ _=>rfl,λ_ _=>rfl⟩;obtain⟨h1,h2,h3⟩:=q8 (δ0:=[]) (δ:=δ) hl (λi _=>by rw[Ajz]) G;obtain⟨h4,_⟩:=Ph h3;exact⟨by simp only[uR,S.e,iw];rw[h2,h4],h1⟩
def AOT:Nat->Nat->List Bool
 | 0,_=>[]
 | f+1,n=>match Nat.ble n 1 with
  | true=>[]
  | false=>Nat.beq (n%2) 1::AOT f (n/2)
def pth (n:Nat):List Bool:=AOT 400 n
def Q8 (body:Code):List Bool->List It
 | []=>[]
 | t::p=>match node body p with
  | .seq _ _=>bif t then Q8 body p else .c (true::p)::Q8 body p
  | .block i _=>.Vw i::Q8 body p
  | .loop _=>.lp (false::p)::Q8 body p
  | .scope _=>.sc (false::p)::Q8 body p
  | _=>Q8 body p
def tdo (body:Code)(n:Nat):List It:=.c (pth n)::Q8 body (pth n)
inductive Sh where
 | I (k:IntKind) | B | T | L | Q | A | M | V
inductive Sw where
 | o (x:Sh)
 | G (l:List Sh)
 | U (l:List Sh)
 | X (T:TypeId) (l:List Sh)
abbrev ArS:Sh->Type->Type
 | .I _,C=>Int->C
 | .B,C=>Bool->C
 | .T,C=>ByteArray->C
 | .L,C=>Option Addr->Nat->Nat->C
 | .Q,C=>Option Addr->C
 | .A,C=>Nat->C
 | .M,C=>Option Nat->C
 | .V,C=>Value->C
def AOU {C:Type}:(x:Sh)->(Dv->C)->ArS x C
 | .I k,K=>λx=>K (.I k x)
 | .B,K=>λx=>K (.B x)
 | .T,K=>λx=>K (.T x)
 | .L,K=>λp n c=>K (.L p n c)
 | .Q,K=>λx=>K (.Q x)
 | .A,K=>λx=>K (.A x)
 | .M,K=>λx=>K (.M x)
 | .V,K=>λx=>K (.V x)
abbrev ArL:List Sh->Type->Type
 | [],A=>A
 | x::l,A=>ArS x (ArL l A)
def AD2 {A:Type}:(l:List Sh)->(List Dv->A)->ArL l A
 | [],K=>K []
 | x::l,K=>AOU x λd=>AD2 l λr=>K (d::r)
abbrev ArW:Sw->Type->Type
 | .o x,C=>ArS x C
 | .G l,C=>ArL l C
 | .U l,C=>ArL l C
 | .X _ l,C=>ArL l C
def AW7 {A:Type}:(x:Sw)->(Dw->A)->ArW x A
 | .o x,K=>AOU x λd=>K (.o d)
 | .G l,K=>AD2 l λd=>K (.G d)
 | .U l,K=>AD2 l λd=>K (.U d)
 | .X T l,K=>AD2 l λd=>K (.X T d)
abbrev Ar:List (Nat×Sw)->Type->Type
 | [],A=>A
 | (_,x)::l,A=>ArW x (Ar l A)
def cur {A:Type}:(l:List (Nat×Sw))->(List (Nat×Dw)->A)->Ar l A
 | [],K=>K []
 | (t,x)::l,K=>AW7 x λd=>cur l λr=>K ((t,d)::r)
structure Fw where
 P:Program
 f:Nat
 fn:Func
 Ky:List Nat
 hid:List Nat
 wr:Bool
 reg:List (Nat×Nat×Bool)
 Q5:List (Nat×TypeId)
 cuts:List (Nat×List (Nat×Sw))
def Fw.K (M:Fw):Code:=M.fn.body.getD .skip
def Fw.gl (M:Fw)(R:Rr):Gl:=Gl.fn M.P M.f M.fn.ntmps R
def Fw.cx (M:Fw)(R:Rr):Fx:={ P:=M.P,R:=R,Ky:=M.Ky,hid:=M.hid,wr:=M.wr,n:=M.fn.ntmps,body:=M.K,res:=M.fn.results.toList,reg:=M.reg,Q5:=M.Q5 }
def ix (vl:Vl):List Nat->List HC->List Bw
 | t::l,x::r=>(t,x.2.1,Bg vl x.2.2)::ix vl l r
 | _,_=>[]
def tmps:List (Nat×Sw)->List Nat
 | []=>[]
 | (_,.X _ _)::l=>tmps l
 | (t,_)::l=>t::tmps l
def yV:List (Nat×Sw)->List Nat->List Nat
 | [],r=>r
 | (t,.X _ _)::l,r=>yV l (t::r)
 | _::l,r=>yV l r
def Fw.cut (M:Fw)(R:Rr)(c:Nat×List (Nat×Sw)):Cut:=⟨tdo M.K c.1,λs=>match s.uQ (tmps c.2),s.eI (yV c.2 []) s.bx with
 | some vs,some B=>PTv (M.gl R) (EL M.K (tdo M.K c.1)) (ix s.vl (yV c.2 []) B) ((tmps c.2).zip vs) s.Z2
 | _,_=>False⟩
def aR (M:Fw)(R:Rr):List (Nat×List (Nat×Sw))->List Cut
 | []=>[]
 | c::l=>M.cut R c::aR M R l
def Fw.ptD (M:Fw)(at_:Nat)(R:Rr)(D:List (Nat×Dw))(Z2:Hp):Prop:=PTv (M.gl R) (EL M.K (tdo M.K at_)) (aQ (MT D [])) (Ut D) Z2
noncomputable def Fw.pt (M:Fw)(i:Nat)(R:Rr):Ar (nth (0,[]) M.cuts i).2 (Hp->Prop):=cur (nth (0,[]) M.cuts i).2 (M.ptD (nth (0,[]) M.cuts i).1 R)
structure Fw.Ok (M:Fw):Prop where
 E:AH M.P M.Ky
 mixed:M.P.follows .mixedOrders=true
 fnc:M.P.funcs[M.f]?=some M.fn
 body:M.fn.body.isSome=true
theorem Fw.AGr {M:Fw}{R:Rr}(h:M.Ok):(M.cx R).Ok (M.gl R) M.fn:=⟨⟨rfl,rfl,h.E,rfl,rfl,rfl⟩,h.mixed,h.fnc,rfl,rfl,rfl⟩
theorem iy {vl:Vl}:∀{l:List Nat} {B:List HC},∃δ:List Nat,δ.length=(ix vl l B).length/\nk (ix vl l B) δ=WC vl l B/\(l.length=B.length->bxV (ix vl l B) δ=GL vl B)
 | [],[]=>⟨[],rfl,rfl,λ_=>rfl⟩
 | [],_::_=>⟨[],rfl,rfl,λh=>by simp at h⟩
 | _::_,[]=>⟨[],rfl,rfl,λh=>by simp at h⟩
 | t::l,(i,T,cs)::B=>by
  obtain⟨δ,G,h2,h3⟩:=iy (vl:=vl) (l:=l) (B:=B);exact⟨nth 0 vl.δ i::δ,by simp[ix,G],by simp only[ix,nk,WC];rw[h2],λh=>by simp only[ix,bxV,GL];rw[h3 (by simpa using h)]⟩
theorem iz {s:S}:∀{l:List Nat} {bx B:List HC},s.eI l bx=some B->l.length=B.length
 | [],bx,B,h=>by simp only[S.eI,Ai9]at h;subst h;rfl
 | t::l,bx,B,h=>by
  simp only[S.eI]at h;split at h
  .split at h
   .split at h
    .rename_i m hm;cases h;simp[iz hm]
    .cases h
   .cases h
  .cases h
theorem Fw.AJW (M:Fw)(R:Rr)(c:Nat×List (Nat×Sw)):(M.cut R c).Ok (M.gl R) M.K:=λs J h=>by
 simp only[Fw.cut]at h;split at h
 .rename_i vs B h1 G;obtain⟨δ,e1,e2,e3⟩:=iy (vl:=s.vl) (l:=yV c.2 []) (B:=B);refine At.AOR h1 G λJ=>?_;have:=yT (h J) δ e1;rw[e2,e3 (iz G)]at this;exact this
 .cases h
theorem eJ {M:Fw}{R:Rr}:∀{l:List (Nat×List (Nat×Sw))},∀k∈aR M R l,k.Ok (M.gl R) M.K
 | c::l,k,G=>by
  rcases Ai1.1 G with rfl|G
  .exact M.AJW R c
  .exact eJ k G
theorem jA:∀{l:List Bv},(aQ l).length=l.length
 | []=>rfl
 | _::m=>by simp only[aQ,Aix];rw[jA]
def PX (F:Prop):List Bv->(List Nat->Prop)->Prop
 | [],K=>F=K []
 | _::m,K=>∀b:Nat,PX F m λδ=>K (b::δ)
theorem yW {F:Prop}(h:F):∀{l:List Bv} {K:List Nat->Prop},PX F l K->∀δ,δ.length=l.length->K δ
 | [],K,e,[],_=>e▸h
 | _::m,K,e,b::δ,G=>yW h (e b) δ (by simpa using G)
theorem Fw.ofB {M:Fw}{R:Rr}{at_:Nat}{D:List (Nat×Dw)}{Z2:Hp}{F:Prop}(h:F)(ok:M.Ok)(e:PX F (MT D []) λδ=>EM (M.cx R) (aR M R M.cuts) 4000 true (tdo M.K at_) (uR D δ Z2)):M.ptD at_ R D Z2:=λJ=>by
 refine yU λδ G=>?_;rw[jA]at G;have:=BJ (J:=J) (Fw.AGr ok) eJ (yW h e δ G);obtain⟨e1,e2⟩:=AJU (D:=D) (Z2:=Z2) (J:=J) G;rw[e1,e2]at this;exact this
theorem Fw.of {M:Fw}{R:Rr}{at_:Nat}{D:List (Nat×Dw)}{Z2:Hp}{F:Prop}(h:F)(ok:M.Ok)(hb:MT D []=[])(e:F=EM (M.cx R) (aR M R M.cuts) 4000 true (tdo M.K at_) (uR D [] Z2):=by kernel_rfl):M.ptD at_ R D Z2:=
 M.ofB h ok (by rw[hb];exact e)
theorem Fw.Uu {M:Fw}{R:Rr}{at_:Nat}{D:List (Nat×Dw)}{Z2:Hp}{F:Prop}{x1:Bv}(h:F)(ok:M.Ok)(hb:MT D []=[x1])(e:∀b1:Nat,F=EM (M.cx R) (aR M R M.cuts) 4000 true (tdo M.K at_) (uR D [b1] Z2)):M.ptD at_ R D Z2:=
 M.ofB h ok (by rw[hb];exact e)
theorem Fw.nq {M:Fw}{R:Rr}{at_:Nat}{D:List (Nat×Dw)}{Z2:Hp}{F:Prop}{x1 x2:Bv}(h:F)(ok:M.Ok)(hb:MT D []=[x1,x2])(e:∀b1 b2:Nat,F=EM (M.cx R) (aR M R M.cuts) 4000 true (tdo M.K at_) (uR D [b1,b2] Z2)):M.ptD at_ R D Z2:=
 M.ofB h ok (by rw[hb];exact e)
theorem Fw.of3 {M:Fw}{R:Rr}{at_:Nat}{D:List (Nat×Dw)}{Z2:Hp}{F:Prop}{x1 x2 x3:Bv}(h:F)(ok:M.Ok)(hb:MT D []=[x1,x2,x3])(e:∀b1 b2 b3:Nat,F=EM (M.cx R) (aR M R M.cuts) 4000 true (tdo M.K at_) (uR D [b1,b2,b3] Z2)):M.ptD at_ R D Z2:=
 M.ofB h ok (by rw[hb];exact e)
theorem Fw.of4 {M:Fw}{R:Rr}{at_:Nat}{D:List (Nat×Dw)}{Z2:Hp}{F:Prop}{x1 x2 x3 x4:Bv}(h:F)(ok:M.Ok)(hb:MT D []=[x1,x2,x3,x4])(e:∀b1 b2 b3 G:Nat,F=EM (M.cx R) (aR M R M.cuts) 4000 true (tdo M.K at_) (uR D [b1,b2,b3,G] Z2)):M.ptD at_ R D Z2:=
 M.ofB h ok (by rw[hb];exact e)
def AJX:Value->Dv
 | .int k x=>.I k x
 | .bool t=>.B t
 | .string x=>.T x
 | .slice p n c=>.L p n c
 | .pointer p=>.Q p
 | .map x=>.M x
 | x=>.V x
theorem jB (x:Value):(AJX x).den=x:=by cases x<;>rfl
def rD:List Value->List Dv
 | []=>[]
 | x::l=>AJX x::rD l
theorem bu:∀l:List Value,il (rD l)=l
 | []=>rfl
 | x::l=>by simp only[rD,il];rw[jB,bu]
def uS:Value->Dw
 | .agg cs=>.G (rD cs.toList)
 | x=>.o (AJX x)
theorem yX (x:Value):(uS x).den=x:=by
 cases x
 case agg cs=>simp only[uS,Dw.den,bu]
 all_goals (simp only[uS,Dw.den];exact jB _)
def yY:Value->Dw
 | .pointer (some ⟨b,0,none⟩)=>.o (.A b)
 | x=>.o (.V x)
theorem yZ (x:Value):(yY x).den=x:=by
 unfold yY;split<;>rfl
def uT (np:Nat):Nat->List Value->List (Nat×Dw)
 | _,[]=>[]
 | k,x::l=>match Nat.blt k np with
  | true=>(k,uS x)::uT np (k+1) l
  | false=>(k,yY x)::uT np (k+1) l
theorem ya (x:Value):(∃y,uS x=.o y)\/∃y,uS x=.G y:=by cases x<;>first|exact .inr ⟨_,rfl⟩|exact .inl ⟨_,rfl⟩
theorem yb (x:Value):∃y,yY x=.o y:=by unfold yY;split<;>exact⟨_,rfl⟩
theorem eL {np:Nat}:∀{l:List Value} {k:Nat},Ut (uT np k l)=WD k l/\MT (uT np k l) []=[]
 | [],_=>⟨rfl,rfl⟩
 | x::l,k=>by
  obtain⟨h1,h2⟩:=eL (np:=np) (l:=l) (k:=k+1);simp only[uT];split
  .have hd:=yX x;rcases ya x with ⟨y,G⟩|⟨y,G⟩<;>rw[G]at hd ⊢<;>exact⟨by simp only[Ut,WD];rw[hd,h1],h2⟩
  .have hd:=yZ x;obtain⟨y,G⟩:=yb x;rw[G]at hd ⊢;exact⟨by simp only[Ut,WD];rw[hd,h1],h2⟩
def Fw.run (M:Fw)(R:Rr)(k:Nat)(D:List (Nat×Dw))(Z2:Hp):Prop:=match Nat.ble k M.fn.ntmps with
 | true=>EM (M.cx R) (aR M R M.cuts) 4000 true [.c []] (uR D [] Z2)
 | false=>False
theorem Fw.DJ {M:Fw}{R:Rr}{args:Array Value}{Z2:Hp}{F:Prop}(h:F)(ok:M.Ok)(D:List (Nat×Dw))(hx:MT D []=[])(hD:Ut D=WD 0 args.toList)(e:F=M.run R args.size D Z2):Spec M.P M.f args Z2 R:=by
 subst e;unfold Fw.run at h;split at h
 case h_2=>exact h.elim
 rename_i hn;obtain⟨fb,hb⟩:=Option.isSome_iff_exists.1 ok.body;refine Spec.walk (c:=M.cx R) (cuts:=aR M R M.cuts) (s:=uR D [] Z2) (fuel:=4000) (Fw.AGr ok) ?_ rfl hn eJ ?_ ?_ h
 .show M.fn.body=some (M.fn.body.getD .skip)
  rw[hb];rfl
 .obtain⟨G,_⟩:=Ph (l:=D) (n:=⟨[],[]⟩) (v:=⟨(TI D ⟨[],[]⟩).2.ρ,(TI D ⟨[],[]⟩).2.β,[]⟩) ⟨λ_ _=>rfl,λ_ _=>rfl⟩;rw[hD]at G;simp only[uR,hx];exact G
 .simp only[uR,hx];rfl
theorem Fw.start {M:Fw}{R:Rr}{args:Array Value}{Z2:Hp}{F:Prop}(h:F)(ok:M.Ok)(e:F=M.run R args.size (uT M.fn.params.size 0 args.toList) Z2:=by kernel_rfl):Spec M.P M.f args Z2 R:=
 M.DJ h ok _ eL.2 eL.1 e
abbrev wI:Sw:=.o (.I .i64)
abbrev wU:Sw:=.o (.I .u64)
abbrev w8:Sw:=.o (.I .u8)
abbrev wB:Sw:=.o .B
abbrev wT:Sw:=.o .T
abbrev wL:Sw:=.o .L
abbrev wQ:Sw:=.o .Q
abbrev wA:Sw:=.o .A
abbrev wM:Sw:=.o .M
abbrev wV:Sw:=.o .V
abbrev aD (b o:Nat):Option Addr:=some ⟨b,o,none⟩
abbrev Br (p A B:Prop):Prop:=(p->A)/\(¬p->B)
abbrev Bm (p A B:Prop):Prop:=(¬p->A)/\(p->B)
abbrev Bo (t:Bool)(A B:Prop):Prop:=(t=true->A)/\(t=false->B)
abbrev Bn (t:Bool)(A B:Prop):Prop:=(t=false->A)/\(t=true->B)
abbrev Pq (p:Option Addr)(K:Nat->Nat->Prop):Prop:=∃b o:Nat,p=some ⟨b,o,none⟩/\K b o
abbrev In (x n:Int):Prop:=(0:Int)<=x/\x<n
abbrev Df (r:Int)(K:Int->Prop):Prop:=∀x:Int,x=r->K x
abbrev Al (Z2:Hp)(K:Nat->Prop):Prop:=∀b:Nat,Z2 b=none->K b
abbrev LI (k:IntKind)(Z2:Hp)(b o:Nat)(K:Int->Prop):Prop:=∃x:Int,Hp.ld Z2 ⟨b,o,none⟩=some (.int k x)/\K x
abbrev LB (Z2:Hp)(b o:Nat)(K:Bool->Prop):Prop:=∃x:Bool,Hp.ld Z2 ⟨b,o,none⟩=some (.bool x)/\K x
abbrev LT (Z2:Hp)(b o:Nat)(K:ByteArray->Prop):Prop:=∃x:ByteArray,Hp.ld Z2 ⟨b,o,none⟩=some (.string x)/\K x
abbrev LQ (Z2:Hp)(b o:Nat)(K:Option Addr->Prop):Prop:=∃x:Option Addr,Hp.ld Z2 ⟨b,o,none⟩=some (.pointer x)/\K x
abbrev LM (Z2:Hp)(b o:Nat)(K:Option Nat->Prop):Prop:=∃x:Option Nat,Hp.ld Z2 ⟨b,o,none⟩=some (.map x)/\K x
abbrev LS (Z2:Hp)(b o:Nat)(K:Option Addr->Nat->Nat->Prop):Prop:=∃p:Option Addr,∃n:Nat,∃c:Nat,Hp.ld Z2 ⟨b,o,none⟩=some (.slice p n c)/\K p n c
abbrev CI (k:IntKind)(K:Int->Hp->Prop):Value->Hp->Prop:=λv Z2=>∃x:Int,v=.int k x/\K x Z2
abbrev CB (K:Bool->Hp->Prop):Value->Hp->Prop:=λv Z2=>∃x:Bool,v=.bool x/\K x Z2
abbrev CT (K:ByteArray->Hp->Prop):Value->Hp->Prop:=λv Z2=>∃x:ByteArray,v=.string x/\K x Z2
abbrev CQ (K:Option Addr->Hp->Prop):Value->Hp->Prop:=λv Z2=>∃x:Option Addr,v=.pointer x/\K x Z2
abbrev CS (K:Option Addr->Nat->Nat->Hp->Prop):Value->Hp->Prop:=λv Z2=>∃p:Option Addr,∃n:Nat,∃c:Nat,v=.slice p n c/\K p n c Z2
end Tw
end
section
set_option maxRecDepth 100000
noncomputable section
namespace TwW
open Go Tw Go.Proofs.Tryz
variable [GF]{R:Rr}{Z2:Hp}
abbrev AG (f:FuncId)(a:Array Value)(s:Hp)(R:Rr)(K:Value->Hp->Prop):Prop:=Spec prog f a s (Ab R K)
abbrev GO (T:TypeId)(p:Option Addr)(n c b:Nat):Sem Value:=Builtin.append_ #[T,T] T #[.slice p n c,.slice (aD b 0) 1 1]

namespace UC
def M:Fw:=⟨prog,9,f9,[6,7,11,13,14,17,21,22,23,33,34],[],false,[],[],[]⟩
def ok:M.Ok:=⟨.cons call6 (.cons call7 (.cons call11 (.cons call13 (.cons call14 (.cons call17 (.cons call21 (.cons call22 (.cons call23 (.cons call33 (.cons call34 (AH.nil))))))))))),mixed,func9,by kernel_rfl⟩
def start (h:AG 7 #[] Z2 R (λz y=>∃Q9 AOX AOY AOZ,z=(.agg #[.U Q9,.slice AOX AOY AOZ])/\AG 6 #[(.string (ByteArray.mk #[120])),.I 60,.I 60,.I 0,.agg #[.U Q9,.slice AOX AOY AOZ],.I 3] y R (λz AE=>∃G KR,z=(.tuple #[.pointer G,.I KR])/\Br (KR≠0) (R (.B false) AE) (Bo (Option.isNone G) (R (.B false) AE) (AG 33 #[.pointer G] AE R (λz AK=>∃AOa WH,z=(.tuple #[.I AOa,.I WH])/\AG 34 #[] AK R (CS λp34 n34 c34 Am=>AG 11 #[.pointer G,.I 0,.slice p34 n34 c34] Am R (CI .i64 λTJ CL=>AG 13 #[.pointer G,(.agg #[.U 0,(.I (-9)),.N])] CL R (CI .i64 λaS Gu=>AG 11 #[.pointer G,.I 1,.N] Gu R (CI .i64 λjC EZ=>Al EZ λb44=>AG 13 #[.pointer G,(.agg #[.U 0,(.I (-9)),(.slice (aD b44 0) 1 1)])] (Hp.set EZ b44 (.cells #[.U 4,.I 0,.I 60,.I 0,.N,.I 0,.I 0,.bool false,.I 0] 91 (0,0))) R (CI .i64 λx46 S0=>AG 21 #[.pointer G] S0 R (CS λp48 n48 c48 UD=>AG 14 #[.pointer G] UD R (λz IJ=>∃AD5 AD6 AD7 jD AOc,z=(.tuple #[.slice AD5 AD6 AD7,.I jD,.I AOc])/\Al IJ λb56=>AG 23 #[.pointer G,(.slice (aD b56 0) 1 1),.N] (Hp.set IJ b56 (.cells #[.U 4] 27 (0,0))) R (CI .i64 λx57 WI=>AG 14 #[.pointer G] WI R (λz Uv=>∃AOd AOe AOf AOg AOh,z=(.tuple #[.slice AOd AOe AOf,.I AOg,.I AOh])/\Br (AOa=(-240)) (Br (WH=60) (Br (TJ=0) (Br (aS=271) (Br (jC=0) (Br (x46=0) (Al Uv λb88=>AG 22 #[.slice p48 n48 c48,(.slice (aD b88 0) 1 1)] (Hp.set Uv b88 (.cells #[.U 4] 27 (0,0))) R (CB λt89 TL=>Bo t89 (Br (AOc=272) (Br (x57=0) (Br (AOh=0) (Br (AOg=(-9)) (AG 34 #[] TL R (CS λAXB n109 AXC uU=>AG 17 #[.slice AOd AOe AOf,.slice AXB n109 AXC] uU R (CB λt110 WJ=>R (.B t110) WJ))) (R (.B false) TL)) (R (.B false) TL)) (R (.B false) TL)) (R (.B false) TL)) (R (.B false) TL))) (R (.B false) Uv)) (R (.B false) Uv)) (R (.B false) Uv)) (R (.B false) Uv)) (R (.B false) Uv)) (R (.B false) Uv)))))))))))))))):Spec prog 9 #[] Z2 R:=M.start h ok
end UC
namespace DU
variable {q0 p1 p2 p33:Option Addr}{n1 c1 n2 c2 n33 c33:Nat}{yc TJ:Int}
def M:Fw:=⟨prog,23,f23,[10],[],false,[],[],[(2024,[(0,wQ),(33,wL),(34,wI),(35,wI)])]⟩
def ok:M.Ok:=⟨.cons call10 (AH.nil),mixed,func23,by kernel_rfl⟩
def HF:=M.pt 0
def start (h:Pq q0 λHr Uw=>LS Z2 Hr (Uw+11) λVW n15 TM=>Al Z2 λFb=>AG 10 #[(.slice (aD Fb 0) 2 2)] (Hp.set Z2 Fb (.cells #[.slice VW n15 TM,.slice p2 n2 c2] 22 (0,0))) R (λz y=>∃G AOj AOk RA,z=(.tuple #[.slice G AOj AOk,.I RA])/\Br (RA≠0) (R (.returned (.I RA)) y) (LB y Hr (Uw+6) λt27=>Bn t27 (R (.returned (.I 273)) y) (AI prog (Instr.storeAt 22 (.pointer (aD Hr (Uw+11))) (.slice G AOj AOk)) y (λ_ AE=>HF R (aD Hr Uw) p1 n1 c1 (n1:Int) 0 AE))))):Spec prog 23 #[.pointer q0,.slice p1 n1 c1,.slice p2 n2 c2] Z2 R:=M.start h ok
def Ea (h:Br (TJ<yc) (Pq p33 λG o37=>In TJ (n33:Int)/\LI .u64 Z2 G (o37+TJ.toNat*1) λaS=>Pq q0 λaT o40=>LM Z2 aT (o40+10) λm42=>AI prog (Instr.lookup 70 (.map m42) (.U aS) false) Z2 (CI .i64 λx44 y=>AL (x44+1)/\AI prog (Instr.mapUpdate 70 (.map m42) (.U aS) (.I (x44+1))) y (λ_ AE=>AL (TJ+1)/\HF R (aD aT o40) (aD G o37) n33 c33 yc (TJ+1) AE))) (R (.returned (.I 0)) Z2)):HF R q0 p33 n33 c33 yc TJ Z2:=M.of h ok rfl
end DU
namespace L5
variable {p0:Option Addr}{n0 c0:Nat}
def M:Fw:=⟨prog,40,f40,[],[],false,[],[],[]⟩
def ok:M.Ok:=⟨AH.nil,mixed,func40,by kernel_rfl⟩
def start (h:Al Z2 λb3=>AI prog (Builtin.append_ #[96,96] 96 #[(.slice (aD b3 0) 0 0),.slice p0 n0 c0]) (Hp.set Z2 b3 (.cells #[] 111 (0,0))) (CS λp5 n5 c5 y=>R (.returned (.slice p5 n5 c5)) y)):Spec prog 40 #[.slice p0 n0 c0] Z2 R:=M.start h ok
end L5
namespace TN
variable {p0 p1:Option Addr}{n0 c0 n1 c1:Nat}{x5:Int}{t7:Bool}
def M:Fw:=⟨prog,47,f47,[80,81],[],false,[],[],[(208,[(0,wL),(1,wL),(5,wI)]),(6734,[(0,wL),(1,wL),(5,wI),(7,wB)])]⟩
def ok:M.Ok:=⟨.cons call80 (.cons call81 (AH.nil)),mixed,func47,by kernel_rfl⟩
def FV:=M.pt 0
def aU:=M.pt 1
def start (h:FV R p0 n0 c0 p1 n1 c1 0 Z2):Spec prog 47 #[.slice p0 n0 c0,.slice p1 n1 c1] Z2 R:=M.start h ok
def A9 (h:Br (x5<(n0:Int)) (Pq p0 λG Ux=>In x5 (n0:Int)/\LT Z2 G ((Ux+x5.toNat*3)+1) λs19=>AG 80 #[.slice p1 n1 c1,.string s19] Z2 R (CT λs20 y=>In x5 (n0:Int)/\LI .i64 y G (Ux+x5.toNat*3) λaV=>Br (aV=1) (In x5 (n0:Int)/\LT y G ((Ux+x5.toNat*3)+2) λs33=>aU R (aD G Ux) n0 c0 p1 n1 c1 x5 (ByteArray.toList s20==ByteArray.toList s33) y) (Br (aV=2) (In x5 (n0:Int)/\LT y G ((Ux+x5.toNat*3)+2) λs42=>aU R (aD G Ux) n0 c0 p1 n1 c1 x5 ((!(ByteArray.toList s20==ByteArray.toList s42))) y) (Br (aV=3) (In x5 (n0:Int)/\LT y G ((Ux+x5.toNat*3)+2) λs50=>AG 81 #[.string s50,.string s20] y R (CB λt52 AE=>aU R (aD G Ux) n0 c0 p1 n1 c1 x5 t52 AE)) (Br (aV=4) (In x5 (n0:Int)/\LT y G ((Ux+x5.toNat*3)+2) λs59=>AG 81 #[.string s59,.string s20] y R (CB λt61 AE=>aU R (aD G Ux) n0 c0 p1 n1 c1 x5 (!t61) AE)) (aU R (aD G Ux) n0 c0 p1 n1 c1 x5 false y)))))) (R (.B true) Z2)):FV R p0 n0 c0 p1 n1 c1 x5 Z2:=M.of h ok rfl
end TN
namespace Fo
variable {p0 p8:Option Addr}{n0 c0 n8 c8:Nat}{x9 x10:Int}
def M:Fw:=⟨prog,50,f50,[82,83],[4],false,[(10,14,true)],[],[(232,[(0,wL),(8,wL),(9,wI),(10,wI)])]⟩
def ok:M.Ok:=⟨.cons call82 (.cons call83 (AH.nil)),mixed,func50,by kernel_rfl⟩
def GQ:=M.pt 0
def start (h:Br (16<(n0:Int)) (R (.returned (.I 30)) Z2) (GQ R p0 n0 c0 p0 n0 c0 (n0:Int) 0 Z2)):Spec prog 50 #[.slice p0 n0 c0] Z2 R:=M.start h ok
def EA (h:Br (x10<x9) (Pq p8 λHr Uw=>In x10 (n8:Int)/\∃G nr,Az Z2 Hr (Uw+x10.toNat*2) [.string G,.string nr]/\∀b4:Nat,AG 82 #[.string G] Z2 R (CB λt18 y=>Bn t18 (R (.returned (.I 31)) y) (Bo ((ByteArray.toList nr==ByteArray.toList (ByteArray.mk #[]))) (R (.returned (.I 32)) y) (Br ((256:Int)<(nr.size:Int)) (R (.returned (.I 32)) y) (AG 83 #[.string nr] y R (CB λt33 AE=>Bn t33 (R (.returned (.I 32)) AE) (Br (0<x10) (AL (x10-1)/\Pq p0 λaW xF=>In (x10-1) (n0:Int)/\LT AE aW (xF+Int.toNat (x10-1)*2) λs47=>∃t48,YF prog ((do eqGuard .leq 9 (.tmp 41) (.tmp 47) (.string G) (.string s47);binOp .leq 9 (.string G) (.string s47))) AE (.bool t48)/\Bo t48 (R (.returned (.I 33)) AE) (AL (x10+1)/\GQ R (aD aW xF) n0 c0 (aD Hr Uw) n8 c8 x9 (x10+1) AE)) (AL (x10+1)/\GQ R p0 n0 c0 (aD Hr Uw) n8 c8 x9 (x10+1) AE)))))))) (R (.returned (.I 0)) Z2)):GQ R p0 n0 c0 p8 n8 c8 x9 x10 Z2:=M.of h ok rfl
end Fo
namespace GU
variable {q0 E5 FD p2:Option Addr}{C4 CU Ez EG Dd Dj:Int}{E1:ByteArray}{E6 E7 E8 FE n2 c2:Nat}{EO:Bool}
def M:Fw:=⟨prog,91,f91,[],[4],false,[],[],[]⟩
def ok:M.Ok:=⟨AH.nil,mixed,func91,by kernel_rfl⟩
def start (h:∀b4:Nat,Pq p2 λb9 G=>In 0 (n2:Int)/\LI .i64 Z2 b9 G λx11=>Br (x11=3) (R (.T #[.I 0,.I 191]) Z2) (In 0 (n2:Int)/\LI .i64 Z2 b9 G λx16=>R (.T #[.I x16,.I 0]) Z2)):Spec prog 91 #[.pointer q0,.agg #[.I C4,.I CU,.string E1,.slice E5 E6 E7,.I Ez,.I EG,.I Dd,.slice FD E8 FE,.bool EO,.I Dj],.slice p2 n2 c2] Z2 R:=M.start h ok
end GU
namespace Ja
variable {q0 E5 FD:Option Addr}{C4 CU Ez EG Dd Dj:Int}{E1:ByteArray}{E6 E7 E8 FE:Nat}{EO:Bool}
def M:Fw:=⟨prog,100,f100,[],[3],false,[(1,10,false)],[],[]⟩
def ok:M.Ok:=⟨AH.nil,mixed,func100,by kernel_rfl⟩
def start (h:∀b3:Nat,Pq q0 λb6 G=>LS Z2 b6 (G+2) λp8 n8 c8=>Al Z2 λDk=>AI prog (GO 32 p8 n8 c8 Dk) (Hp.set Z2 Dk (.cells #[.I C4,.I CU,.string E1,.slice E5 E6 E7,.I Ez,.I EG,.I Dd,.slice FD E8 FE,.bool EO,.I Dj] 127 (0,0))) (CS λMb n11 Mc y=>AI prog (Instr.storeAt 32 (.pointer (aD b6 (G+2))) (.slice Mb n11 Mc)) y (λ_ AE=>R (.T #[]) AE))):Spec prog 100 #[.pointer q0,.agg #[.I C4,.I CU,.string E1,.slice E5 E6 E7,.I Ez,.I EG,.I Dd,.slice FD E8 FE,.bool EO,.I Dj]] Z2 R:=M.start h ok
end Ja
namespace jE
variable {p0:Option Addr}{n0 c0:Nat}
def M:Fw:=⟨prog,107,f107,[126],[],false,[],[],[]⟩
def ok:M.Ok:=⟨.cons call126 (AH.nil),mixed,func107,by kernel_rfl⟩
def start (h:AG 126 #[.slice p0 n0 c0] Z2 R (CS λp4 n4 c4 y=>AI prog (convert 134 9 (.slice p4 n4 c4)) y (CT λs5 G=>R (.returned (.string s5)) G))):Spec prog 107 #[.slice p0 n0 c0] Z2 R:=M.start h ok
end jE
namespace WK
variable {s0:ByteArray}
def M:Fw:=⟨prog,118,f118,[82],[],false,[],[],[]⟩
def ok:M.Ok:=⟨.cons call82 (AH.nil),mixed,func118,by kernel_rfl⟩
def start (h:AG 82 #[.string s0] Z2 R (CB λt4 y=>R (.B t4) y)):Spec prog 118 #[.string s0] Z2 R:=M.start h ok
end WK
namespace Fp
variable {p0 p2c p2d:Option Addr}{n0 c0 n2c c2c n2d c2d:Nat}{rE xG x4:Int}
def M:Fw:=⟨prog,160,f160,[36,205],[2],false,[],[],[(464,[(0,wL),(2,.X 164 [.I .i64,.I .u64,.L,.L]),(4,wI)])]⟩
def ok:M.Ok:=⟨.cons call36 (.cons call205 (AH.nil)),mixed,func160,by kernel_rfl⟩
def CA:=M.pt 0
def start (h:∀b2:Nat,AG 205 #[.slice p0 n0 c0,(.func (.func 206) #[] #[])] Z2 R (λz y=>z=(.tuple #[])/\CA R p0 n0 c0 0 0 none 0 0 none 0 0 1 y)):Spec prog 160 #[.slice p0 n0 c0] Z2 R:=M.start h ok
def A1 (h:Br (x4<(n0:Int)) (AL (x4-1)/\Pq p0 λG eP=>In (x4-1) (n0:Int)/\LS Z2 G (eP+Int.toNat (x4-1)*2) λyd n18 xH=>In x4 (n0:Int)/\LS Z2 G (eP+x4.toNat*2) λl9 n23 eQ=>AG 36 #[.slice yd n18 xH,.slice l9 n23 eQ] Z2 R (CI .i64 λPj y=>Br (Pj=0) (R (.T #[.agg #[.I 0,.U 0,.N,.N],.I 223]) y) (AL (x4+1)/\CA R (aD G eP) n0 c0 rE xG p2c n2c c2c p2d n2d c2d (x4+1) y))) (R (.T #[.agg #[.I 2,.U 0,.slice p0 n0 c0,.N],.I 0]) Z2)):CA R p0 n0 c0 rE xG p2c n2c c2c p2d n2d c2d x4 Z2:=M.Uu h ok rfl λ_=>by kernel_rfl
end Fp
namespace Qc
variable {p0 p1:Option Addr}{n0 c0 n1 c1:Nat}
def M:Fw:=⟨prog,162,f162,[207],[],false,[],[],[]⟩
def ok:M.Ok:=⟨.cons call207 (AH.nil),mixed,func162,by kernel_rfl⟩
def start (h:Al Z2 λb3=>AG 207 #[.slice p0 n0 c0,(.func (.func 210) #[] #[(.pointer (aD b3 0))])] (Hp.set Z2 b3 (.cells #[.slice p1 n1 c1] 125 (0,0))) R (CS λp7 n7 c7 y=>R (.returned (.slice p7 n7 c7)) y)):Spec prog 162 #[.slice p0 n0 c0,.slice p1 n1 c1] Z2 R:=M.start h ok
end Qc
namespace Ih
variable {p0:Option Addr}{n0 c0:Nat}
def M:Fw:=⟨prog,167,f167,[155],[],false,[],[],[]⟩
def ok:M.Ok:=⟨.cons call155 (AH.nil),mixed,func167,by kernel_rfl⟩
def start (h:AG 155 #[(.I (n0:Int))] Z2 R (CI .u64 λx5 y=>R (.returned (.U x5)) y)):Spec prog 167 #[.slice p0 n0 c0] Z2 R:=M.start h ok
end Ih
namespace Eb
variable {x0:Int}{b1 b2:Nat}
def M:Fw:=⟨prog,170,f170,[168],[],false,[],[],[]⟩
def ok:M.Ok:=⟨.cons call168 (AH.nil),mixed,func170,by kernel_rfl⟩
def start (h:∃Hw Hx s6c Hy Hz H0 x6e x6f x6g p6h n6h G t6i x6j,Az Z2 b1 0 [.I Hw,.I Hx,.string s6c,.slice Hy Hz H0,.I x6e,.I x6f,.I x6g,.slice p6h n6h G,.bool t6i,.I x6j]/\LI .u64 Z2 b2 1 λx8=>AG 168 #[.agg #[.I Hw,.I Hx,.string s6c,.slice Hy Hz H0,.I x6e,.I x6f,.I x6g,.slice p6h n6h G,.bool t6i,.I x6j],.U x8,.U x0] Z2 R (λz y=>∃H5 WL,z=(.tuple #[.U H5,.bool WL])/\R (.T #[.U H5,.bool WL]) y)):Spec prog 170 #[.U x0,(.pointer (aD b1 0)),(.pointer (aD b2 0))] Z2 R:=M.start h ok
end Eb
namespace UF
variable {x0:Int}
def M:Fw:=⟨prog,174,f174,[196],[],false,[],[],[]⟩
def ok:M.Ok:=⟨.cons call196 (AH.nil),mixed,func174,by kernel_rfl⟩
def start (h:Df (Go.bits .xor .u64 x0 9223372036854775808) λx4=>AG 196 #[.U x4] Z2 R (CI .u64 λx5 y=>R (.returned (.U x5)) y)):Spec prog 174 #[.U x0] Z2 R:=M.start h ok
end UF
namespace Qd
variable {De Dl x1:Int}
def M:Fw:=⟨prog,185,f185,[],[2],false,[],[],[]⟩
def ok:M.Ok:=⟨AH.nil,mixed,func185,by kernel_rfl⟩
def start (h:∀b2:Nat,Br (De<=x1) (R (.returned (.I (-1))) Z2) (R (.returned (.I 1)) Z2)):Spec prog 185 #[.agg #[.I De,.U Dl],.I x1] Z2 R:=M.start h ok
end Qd
namespace FG
variable {s0:ByteArray}{p2 p3 p7:Option Addr}{n2 c2 n3 c3 n7 c7:Nat}{x8 x9:Int}
def M:Fw:=⟨prog,188,f188,[229],[2,3],false,[(5,8,false)],[],[(232,[(2,.X 271 [.L]),(3,.X 271 [.L]),(7,wL),(8,wI),(9,wI)])]⟩
def ok:M.Ok:=⟨.cons call229 (AH.nil),mixed,func188,by kernel_rfl⟩
def A0:=M.pt 0
def start (h:∀b2:Nat,∀b3:Nat,AG 229 #[.string s0,(.string (ByteArray.mk #[124]))] Z2 R (CS λp7 n7 c7 y=>A0 R none 0 0 none 0 0 p7 n7 c7 (n7:Int) 0 y)):Spec prog 188 #[.string s0] Z2 R:=M.start h ok
def AX (h:Br (x9<x8) (Pq p7 λE2 aX=>In x9 (n7:Int)/\LT Z2 E2 (aX+x9.toNat*1) λs12=>AG 229 #[.string s12,(.string (ByteArray.mk #[42]))] Z2 R (CS λRe n16 P9 y=>Al y λbz=>AI prog (GO 269 p3 n3 c3 bz) (Hp.set y bz (.cells #[.slice Re n16 P9] 304 (0,0))) (CS λrF G rG AE=>AL (x9+1)/\A0 R p2 n2 c2 rF G rG (aD E2 aX) n7 c7 x8 (x9+1) AE))) (R (.returned (.agg #[.slice p3 n3 c3])) Z2)):A0 R p2 n2 c2 p3 n3 c3 p7 n7 c7 x8 x9 Z2:=M.nq h ok rfl λ_ _=>by kernel_rfl
end FG
namespace Ec
variable {p0 p1:Option Addr}{n0 c0 n1 c1:Nat}
def M:Fw:=⟨prog,199,f199,[200],[],false,[],[],[]⟩
def ok:M.Ok:=⟨.cons call200 (AH.nil),mixed,func199,by kernel_rfl⟩
def start (h:AL ((n0:Int)-1)/\Pq p0 λb9 G=>In (((n0:Int)-1)) (n0:Int)/\LI .u64 Z2 b9 (G+Int.toNat ((n0:Int)-1)*1) λx10=>In 0 (n0:Int)/\LI .u64 Z2 b9 G λFq=>AG 200 #[.U x10,.U Fq] Z2 R (CI .u64 λVX y=>R (.returned (.U VX)) y)):Spec prog 199 #[.slice p0 n0 c0,.slice p1 n1 c1] Z2 R:=M.start h ok
end Ec
namespace FW
variable {gh:Option Addr}{Rx cC:Nat}{mA s1:ByteArray}
def M:Fw:=⟨prog,227,f227,[248],[2],false,[],[],[]⟩
def ok:M.Ok:=⟨.cons call248 (AH.nil),mixed,func227,by kernel_rfl⟩
def start (h:∀b2:Nat,AG 248 #[.agg #[.slice gh Rx cC],.string s1] Z2 R (CB λt8 y=>R (.B t8) y)):Spec prog 227 #[.agg #[.slice gh Rx cC,.string mA],.string s1] Z2 R:=M.start h ok
end FW
namespace CJ
variable {p0:Option Addr}{n0 c0:Nat}{s1:ByteArray}{x7 x8:Int}
def M:Fw:=⟨prog,237,f237,[],[],false,[],[],[(104,[(0,wL),(1,wT),(7,wI),(8,wI)])]⟩
def ok:M.Ok:=⟨AH.nil,mixed,func237,by kernel_rfl⟩
def GG:=M.pt 0
def start (h:GG R p0 n0 c0 s1 (n0:Int) 0 Z2):Spec prog 237 #[.slice p0 n0 c0,.string s1] Z2 R:=M.start h ok
def BG (h:Br (x8<x7) (Pq p0 λHe Jb=>In x8 (n0:Int)/\LT Z2 He (Jb+x8.toNat*1) λG=>Bo (ByteArray.toList s1==ByteArray.toList G) (R (.returned (.I x8)) Z2) (AL (x8+1)/\GG R (aD He Jb) n0 c0 s1 x7 (x8+1) Z2)) (R (.returned (.I (-1))) Z2)):GG R p0 n0 c0 s1 x7 x8 Z2:=M.of h ok rfl
end CJ
namespace B6
variable {q0:Option Addr}{b1:Nat}
def M:Fw:=⟨prog,241,f241,[32,98,219],[],false,[],[],[(7,[(1,wA)])]⟩
def ok:M.Ok:=⟨.cons call32 (.cons call98 (.cons call219 (AH.nil))),mixed,func241,by kernel_rfl⟩
def GG:=M.pt 0
def start (h:Al Z2 λb1=>LQ (Hp.set Z2 b1 (.cells #[.pointer q0] 76 (0,0))) b1 0 λq2=>AG 98 #[.pointer q2,.I 5,(.string (ByteArray.mk #[40]))] (Hp.set Z2 b1 (.cells #[.pointer q0] 76 (0,0))) R (CB λt3 y=>Bn t3 (LQ y b1 0 λq5=>AG 32 #[.pointer q5] y R (λz G=>z=(.tuple #[])/\GG R b1 G)) (GG R b1 y))):Spec prog 241 #[.pointer q0] Z2 R:=M.start h ok
def BG (h:LQ Z2 b1 0 λG=>AG 219 #[.pointer G,(.func (.func 262) #[] #[(.pointer (aD b1 0))])] Z2 R (λz y=>z=(.tuple #[])/\R (.T #[]) y)):GG R b1 Z2:=M.of h ok rfl
end B6
namespace BO
variable {b0:Nat}
def M:Fw:=⟨prog,262,f262,[30,137],[],false,[],[],[]⟩
def ok:M.Ok:=⟨.cons call30 (.cons call137 (AH.nil)),mixed,func262,by kernel_rfl⟩
def start (h:LQ Z2 b0 0 λq1=>AG 30 #[.pointer q1] Z2 R (λz y=>z=(.tuple #[])/\LQ y b0 0 λq3=>AG 137 #[.pointer q3,(.string (ByteArray.mk #[41]))] y R (λz G=>z=(.tuple #[])/\R (.T #[]) G))):Spec prog 262 #[(.pointer (aD b0 0))] Z2 R:=M.start h ok
end BO
namespace Co
variable {q0:Option Addr}
def M:Fw:=⟨prog,266,f266,[31,32,97],[],false,[],[],[(14,[(0,wQ)])]⟩
def ok:M.Ok:=⟨.cons call31 (.cons call32 (.cons call97 (AH.nil))),mixed,func266,by kernel_rfl⟩
def FV:=M.pt 0
def start (h:AG 31 #[.pointer q0] Z2 R (λz y=>∃Fs Hf Jc G,z=(.agg #[.I Fs,.I Hf,.string Jc,.I G])/\Br (Fs≠2) (AG 32 #[.pointer q0] y R (λz AE=>z=(.tuple #[])/\FV R q0 AE)) (FV R q0 y))):Spec prog 266 #[.pointer q0] Z2 R:=M.start h ok
def A9 (h:AG 97 #[.pointer q0] Z2 R (λz y=>∃H5 uV AXE G,z=(.agg #[.I H5,.I uV,.string AXE,.I G])/\R (.returned (.I G)) y)):FV R q0 Z2:=M.of h ok rfl
end Co
namespace GV
variable {x0:Int}
def M:Fw:=⟨prog,308,f308,[],[],false,[],[],[]⟩
def ok:M.Ok:=⟨AH.nil,mixed,func308,by kernel_rfl⟩
def start (h:Df (Go.bits .or .u8 x0 32) λx4=>R (.returned (.int .u8 x4)) Z2):Spec prog 308 #[.int .u8 x0] Z2 R:=M.start h ok
end GV
end TwW
end
end
section
set_option maxRecDepth 100000
noncomputable section
namespace TwW
open Go Tw Go.Proofs.Tryz
variable [GF]{R:Rr}{Z2:Hp}

namespace CM
variable {s0:ByteArray}{x1 x2 x3 Fs x5 H5 x99 uW:Int}{uX jF q19 p98:Option Addr}{jG uY WM jH n98 c98:Nat}
def M:Fw:=⟨prog,6,f6,[8,24,25,26],[10,21],false,[(19,6,true)],[],[(4072,[(5,wI),(10,.X 30 [.I .u64,.L]),(19,wQ),(98,wL),(99,wI),(100,wI)])]⟩
def ok:M.Ok:=⟨.cons call8 (.cons call24 (.cons call25 (.cons call26 (AH.nil)))),mixed,func6,by kernel_rfl⟩
def jI:=M.pt 0
def start (h:∀Dk:Nat,AG 8 #[.string s0] Z2 R (λz y=>∃uZ ua ub aY AJZ,z=(.tuple #[.slice uZ ua ub,.I aY,.I AJZ])/\Br (AJZ≠0) (R (.T #[.pointer none,.I AJZ]) y) (AG 24 #[.slice uZ ua ub] y R (λz AE=>∃WN AEC AJa,z=(.tuple #[.I WN,.I AEC,.I AJa])/\Br (AJa≠0) (R (.T #[.pointer none,.I AJa]) AE) (Br (WN=3) (R (.T #[.pointer none,.I 220]) AE) (AG 25 #[.I x1] AE R (CB λt46 AK=>Bn t46 (R (.T #[.pointer none,.I 221]) AK) (AG 25 #[.I x2] AK R (CB λt50 Am=>Bn t50 (R (.T #[.pointer none,.I 221]) Am) (Br (x3<0) (R (.T #[.pointer none,.I 221]) Am) (Br (0<x3) (Br (x2<x1) (R (.T #[.pointer none,.I 221]) Am) (Br (0<x3) (AL (x2-x1)/\x3≠(0:Int)/\Df (IntKind.i64.wrap (Int.tdiv (x2-x1) x3)) λx74=>Br (512<=x74) (R (.T #[.pointer none,.I 222]) Am) (AG 26 #[.agg #[.U Fs,.slice uX jG uY]] Am R (CI .i64 λx79 G=>Br (x79≠0) (R (.T #[.pointer none,.I 130]) G) (Br (x5<1) (R (.T #[.pointer none,.I 130]) G) (Br (5<x5) (R (.T #[.pointer none,.I 130]) G) (AI prog (Instr.makeMap 69 none) G (λz Gu=>∃ye,z=(.map (some ye))/\AI prog (Instr.makeMap 70 none) Gu (λz EZ=>∃yf,z=(.map (some yf))/\Al EZ λyh=>jI R x5 Fs uX jG uY (aD yh 0) uX jG uY (jG:Int) 0 (Hp.set EZ yh (.cells #[.slice uZ ua ub,.I x1,.I x2,.I x3,(.map (some ye)),.I 0,.bool false,.U 0,.I 0,.N,(.map (some yf)),.N,.nilFunc] 72 (0,0))))))))))) (AG 26 #[.agg #[.U Fs,.slice uX jG uY]] Am R (CI .i64 λx79 G=>Br (x79≠0) (R (.T #[.pointer none,.I 130]) G) (Br (x5<1) (R (.T #[.pointer none,.I 130]) G) (Br (5<x5) (R (.T #[.pointer none,.I 130]) G) (AI prog (Instr.makeMap 69 none) G (λz Gu=>∃ye,z=(.map (some ye))/\AI prog (Instr.makeMap 70 none) Gu (λz EZ=>∃yf,z=(.map (some yf))/\Al EZ λyh=>jI R x5 Fs uX jG uY (aD yh 0) uX jG uY (jG:Int) 0 (Hp.set EZ yh (.cells #[.slice uZ ua ub,.I x1,.I x2,.I x3,(.map (some ye)),.I 0,.bool false,.U 0,.I 0,.N,(.map (some yf)),.N,.nilFunc] 72 (0,0)))))))))))) (Br (0<x3) (AL (x2-x1)/\x3≠(0:Int)/\Df (IntKind.i64.wrap (Int.tdiv (x2-x1) x3)) λx74=>Br (512<=x74) (R (.T #[.pointer none,.I 222]) Am) (AG 26 #[.agg #[.U Fs,.slice uX jG uY]] Am R (CI .i64 λx79 G=>Br (x79≠0) (R (.T #[.pointer none,.I 130]) G) (Br (x5<1) (R (.T #[.pointer none,.I 130]) G) (Br (5<x5) (R (.T #[.pointer none,.I 130]) G) (AI prog (Instr.makeMap 69 none) G (λz Gu=>∃ye,z=(.map (some ye))/\AI prog (Instr.makeMap 70 none) Gu (λz EZ=>∃yf,z=(.map (some yf))/\Al EZ λyh=>jI R x5 Fs uX jG uY (aD yh 0) uX jG uY (jG:Int) 0 (Hp.set EZ yh (.cells #[.slice uZ ua ub,.I x1,.I x2,.I x3,(.map (some ye)),.I 0,.bool false,.U 0,.I 0,.N,(.map (some yf)),.N,.nilFunc] 72 (0,0))))))))))) (AG 26 #[.agg #[.U Fs,.slice uX jG uY]] Am R (CI .i64 λx79 G=>Br (x79≠0) (R (.T #[.pointer none,.I 130]) G) (Br (x5<1) (R (.T #[.pointer none,.I 130]) G) (Br (5<x5) (R (.T #[.pointer none,.I 130]) G) (AI prog (Instr.makeMap 69 none) G (λz Gu=>∃ye,z=(.map (some ye))/\AI prog (Instr.makeMap 70 none) Gu (λz EZ=>∃yf,z=(.map (some yf))/\Al EZ λyh=>jI R x5 Fs uX jG uY (aD yh 0) uX jG uY (jG:Int) 0 (Hp.set EZ yh (.cells #[.slice uZ ua ub,.I x1,.I x2,.I x3,(.map (some ye)),.I 0,.bool false,.U 0,.I 0,.N,(.map (some yf)),.N,.nilFunc] 72 (0,0)))))))))))))))))))))):Spec prog 6 #[.string s0,.I x1,.I x2,.I x3,.agg #[.U Fs,.slice uX jG uY],.I x5] Z2 R:=M.start h ok
def VY (h:Br (uW<x99) (Pq p98 λAO1 AO2=>In uW (n98:Int)/\∃AGt AO3 AO4 AO5 AO6,Az Z2 AO1 (AO2+uW.toNat*3) [.I AGt,.I AO3,.slice AO4 AO5 AO6]/\∀yi:Nat,Pq q19 λAO7 AO8=>LM Z2 AO7 (AO8+4) λAXG=>AI prog (Instr.mapUpdate 69 (.map AXG) (.I AGt) (.I 0)) Z2 (λ_ y=>AL (uW+1)/\jI R x5 H5 jF WM jH (aD AO7 AO8) (aD AO1 AO2) n98 c98 x99 (uW+1) y)) (AL (x5-1)/\2≠(0:Int)/\Df (IntKind.i64.wrap (Int.tdiv (x5-1) 2)) λAJc=>AL ((WM:Int)-AJc)/\Pq q19 λG AEE=>AI prog (Instr.storeAt 3 (.pointer (aD G (AEE+5))) (.I (if(((WM:Int)-AJc):Int)<0 then 0 else((WM:Int)-AJc)))) Z2 (λ_ y=>AI prog (Instr.storeAt 45 (.pointer (aD G (AEE+12))) (.func (.func 27) #[(.pointer (aD G AEE))] #[])) y (λ_ AE=>R (.T #[(.pointer (aD G AEE)),.I 0]) AE)))):jI R x5 H5 jF WM jH q19 p98 n98 c98 x99 uW Z2:=M.Uu h ok rfl λ_=>by kernel_rfl
end CM
namespace DV
noncomputable def K0:=f10.body.getD .skip
def K1:=cl K0
def K2:=cr K0
def K3:=cl K2
def K4:=cl K3
def K5:=cr K3
def K6:=cl K5
def K7:=cl K6
def K8:=cl K7
def K9:=cr K7
def rH:=cl K9
def K11:=cl rH
def K12:=cr rH
def K13:=cr K9
def K14:=cl K13
def K15:=cl K14
def K16:=cl K15
def K17:=cr K15
def K18:=cl K17
def K19:=cr K17
def K20:=cl K19
def K21:=cr K19
def K22:=cl K21
def K23:=cl K22
def K24:=cr K22
def K25:=cr K21
def K26:=cr K13
def K27:=cr K2
def K28:=cl K27
def K29:=cr K27
def K30:=cl K29
def K31:=cl K30
def K32:=cr K30
def K33:=cl K32
def K34:=cl K33
def K35:=cr K33
def K36:=cl K35
def K37:=cl K36
def K38:=cr K36
def K39:=cl K38
def K40:=cr K38
def K41:=cl K40
def K42:=cr K40
def K43:=cr K29
def K44:=cl K43
def K45:=cr K43
abbrev gl (R:Rr):Gl:=Gl.fn prog 10 61 R
def GG (R:Rr)(p0:Option Addr)(n0 c0:Nat)(Rf:Option Addr)(n10 L6:Nat)(x11 x12:Int)(Z2:Hp):Prop:=∀(J:Env),At (gl R) [.code K8,.code K9,.inLoop K7,.inBlock 0,.code K27] (MP J [(0,(.slice p0 n0 c0)),(10,(.slice Rf n10 L6)),(11,(.I x11)),(12,(.I x12))]) [] Z2
def AJe (R:Rr)(l:Nat)(r0:Loop)(b7:Nat)(G:Value)(Z2:Hp):Prop:=∀(J:Env),At (Gl.round prog 10 61 l R) [.code K34,.beginRound,.code K35] (MP J [(7,(.pointer (some ⟨b7,0,none⟩))),(24,G)]) [] Z2
def start {R:Rr}{p0:Option Addr}{n0 c0:Nat}{Z2:Hp}(h:GG R p0 n0 c0 p0 n0 c0 ((n0:Int)) 0 Z2):Spec prog 10 #[(.slice p0 n0 c0)] Z2 R:=by
 refine Spec.Vm (fn:=f10) (c:=K0) func10 (by kernel_rfl) (Ajo (by kernel_rfl)) (λe G=>?_);refine At.ofL (l:=[(0,(.slice p0 n0 c0))]) ⟨G 0,trivial⟩ (λJ=>?_);show At (gl R) _ _ _ _
 refine At.s K1 K2 ?_;refine At.rg 0 [0,1] ?_;refine Seq.us [(2,.N),(3,.I 0)] (Seq.done ?_);refine At.s K3 K27 (At.s K4 K5 ?_);refine At.rg 1 [0,1,2] ?_;refine Seq.u 10 (.slice p0 n0 c0) ?_;refine Seq.z 11 (.call { callee:=.builtin .len,args:=#[(.tmp 10)],argTypes:=#[92] }) 3 (.I (n0:Int)) (Y.xf underlying92 rfl rfl) ?_;refine Seq.u 12 (.I 0) (Seq.done ?_);refine At.b 0 K6 ?_;refine At.loop (x:=K7) (by kernel_rfl) ?_;refine At.s K8 K9 ?_;exact At.v [(0,(.slice p0 n0 c0)),(10,(.slice p0 n0 c0)),(11,(.I (n0:Int))),(12,(.I 0))] (h _)
def BG {R:Rr}{p0 Rf:Option Addr}{n0 c0 n10 L6:Nat}{x11 x12:Int}{Z2:Hp}(h:((x12:Int)<x11->∃(He Jb:Nat),Rf=some ⟨He,Jb,none⟩/\((0:Int)<=x12/\x12<(n10:Int))/\∃VW:Option Addr,∃n15:Nat,∃TM:Nat,Hp.ld Z2 ⟨He,(Jb+x12.toNat*1),none⟩=some (.slice VW n15 TM)/\AG 19 #[(.slice VW n15 TM)] Z2 R (λv Z1=>∃x17:Int,v=(.I x17)/\((x17:Int)≠0->R (.T #[(.N),(.I x17)]) Z1)/\(¬((x17:Int)≠0)->AL (x12+1)/\GG R p0 n0 c0 ((some ⟨He,Jb,none⟩)) n10 L6 x11 ((x12+1)) Z1)))/\(¬((x12:Int)<x11)->∀b7:Nat,Z2 b7=none->AG 35 #[(.slice p0 n0 c0)] (Hp.set Z2 b7 (.cells #[(.N)] 22 (0,0))) R (λv Z1=>∃f23:Fn,∃a23:Array Value,∃eQ:Array Value,(Value.func f23 a23 eQ)=v/\∃(gf:Nat) (lb:Array Value),(Value.func f23 a23 eQ)=.func (.func gf) #[] lb/\Enters prog gf/\∀(jJ G:Nat) (LC:Loop),jJ≠G->Z1 jJ=none->Z1 G=none->(∀(R2:Rr) (Z22:Hp) (rJ:Option Addr) (rK:Nat) (rL:Nat) (rM:Option Addr) (rN:Nat) (rO:Nat),Z22 G=some (.loop (lp LC .ready none))->AJe R2 G LC b7 ((.agg #[(.slice rJ rK rL),(.slice rM rN rO)])) Z22->JY prog G #[(.agg #[(.slice rJ rK rL),(.slice rM rN rO)])] Z22 R2)->Spec prog gf (#[.func (.yield G) #[] #[]]++lb) (Hp.set (Hp.set Z1 jJ (.deferred (some []))) G (.loop (lp LC .ready none))) (λen Cc=>∃(v:Value) (s:LoopState) (p:Option Code),en=.returned v/\Cc G=some (.loop (lp LC s p))/\s≠.busy/\((p=none/\∃p59:Option Addr,∃n59:Nat,∃c59:Nat,Hp.ld (Hp.set Cc G (.loop (lp LC .exhausted none))) ⟨b7,0,none⟩=some (.slice p59 n59 c59)/\Spec prog 38 #[(.slice p59 n59 c59)] (Hp.set Cc G (.loop (lp LC .exhausted none))) (Ab (NP R) (λmB EP=>∃p60:Option Addr,∃n60:Nat,∃c60:Nat,mB=(.slice p60 n60 c60)/\EP jJ=some (.deferred (some []))/\R (.T #[(.slice p60 n60 c60),(.I 0)]) (Hp.set EP jJ (.deferred none)))))))))):GG R p0 n0 c0 Rf n10 L6 x11 x12 Z2:=by
 intro J;show At (gl R) _ _ _ _
 refine At.rg 2 [0] ?_;refine Seq.u 13 (.bool (decide ((x12:Int)<x11))) (Seq.done ?_);refine At.s rH K13 ?_;cases hb:(decide ((x12:Int)<x11)) with
 | true=>
  replace h:=h.1 (AjA hb)
  refine At.cT 13 K11 K12 ?_;refine At.skip ?_;refine At.s K14 K26 ?_;refine At.b 1 K15 ?_;refine At.s K16 K17 ?_;refine At.rg 3 [0,1,2] ?_;obtain⟨He,Jb,hq,h⟩:=h;subst hq;obtain⟨hi,h⟩:=h;refine Seq.z 14 (.indexAddr 92 (.tmp 10) (.tmp 12)) 0 (.pointer (some ⟨He,(Jb+x12.toNat*1),none⟩)) (Y.idx underlying92 sizeOf22 rfl rfl hi rfl) ?_;obtain⟨VW,n15,TM,hl,h⟩:=h;refine Seq.z 15 (.load 22 (.tmp 14)) 22 (.slice VW n15 TM) (Y.ld isAgg22 rfl hl) ?_;refine Seq.u 5 (.slice VW n15 TM) (Seq.done ?_);refine At.s K18 K19 ?_;refine At.rg 4 [0,1,2] ?_;refine Seq.u 16 (.slice VW n15 TM) ?_;refine Seq.o ?_;refine AV.cl (some 17) call19 (h.cont λv Z1 h2=>?_);replace h:=h2;clear h2;obtain⟨x17,rfl,h⟩:=h;refine Seq.u 6 (.I x17) (Seq.done ?_);refine At.s K20 K21 ?_;refine At.rg 5 [0,1] ?_;refine Seq.us [(18,.I x17),(19,.bool (decide ((x17:Int)≠0)))] (Seq.done ?_);cases hb:(decide ((x17:Int)≠0)) with
  | true=>
   replace h:=h.1 (AjA hb)
   refine At.cT 19 K22 K25 ?_;refine At.s K23 K24 ?_;refine At.rg 6 [0,1,2] ?_;refine Seq.us [(20,.I x17),(2,.N),(3,.I x17)] (Seq.done ?_);exact At.rt [.tmp 2,.tmp 3] [(.N),(.I x17)] func10 ⟨_,rfl,⟨_,rfl,rfl⟩⟩ h
  | false=>
   replace h:=h.2 (AjX hb)
   refine At.cF 19 K22 K25 ?_;refine At.skip ?_;refine At.inBlock ?_;refine At.rg 7 [0,1] ?_;obtain⟨hi,h⟩:=h;refine Seq.z 21 (.binOp .add 3 (.tmp 12) (.const (.I 1)) 3) 3 (.I (x12+1)) (Y.AWa hi rfl rfl) ?_;refine Seq.u 12 (.I (x12+1)) (Seq.done ?_);refine At.inLoop ?_;refine At.s K8 K9 ?_;exact At.v [(0,(.slice p0 n0 c0)),(10,(.slice (some ⟨He,Jb,none⟩) n10 L6)),(11,(.I x11)),(12,(.I (x12+1)))] (h _)
 | false=>
  replace h:=h.2 (AjX hb)
  refine At.cF 13 K11 K12 ?_;refine At.x 0 [.code K27] ?_;refine At.s K28 K29 ?_;refine At.rg 8 [0] ?_;refine Seq.o ?_;refine AV.dn (T:=22) (d:=(some 7)) (ty:=0)  (gd:=none) (cs:=#[(.N)]) (by kernel_rfl) rfl rfl zeroValue22 rfl (λb7 hn=>?_)
  replace h:=h b7 hn
  refine Seq.done ?_;refine At.s K30 K43 (At.s K31 K32 ?_);refine At.rg 9 [0,1] ?_;refine Seq.u 22 (.slice p0 n0 c0) ?_;refine Seq.o ?_;refine AV.cl (some 23) call35 (h.cont λv Z1 h2=>?_);replace h:=h2;clear h2;obtain⟨f23,a23,eQ,rfl,h⟩:=h;refine Seq.done ?_;refine At.b 2 K33 ?_;obtain⟨gf,lb,hgv,KG,h⟩:=h;refine At.range (gop:=(.tmp 23)) (ps:=#[24]) (assign:=K34) (body:=K35) (gf:=gf) (lb:=lb) (by kernel_rfl) rfl rfl hgv KG (λjJ G LC hDl hD hl uc cD hra hrb hrs hre=>?_);refine(h jJ G LC hDl hD hl (λR2 Z22 rJ rK rL rM rN rO AJf hp=>JY.Vm (n:=61) AJf cD hrs (by decide) hre (fn:=f10) (by rw[uc];exact func10) ?_)).mono (λen Cc h=>?_)
  .rw[uc,hra,hrb];exact At.v [(7,(.pointer (some ⟨b7,0,none⟩))),(24,(.agg #[(.slice rJ rK rL),(.slice rM rN rO)]))] (hp _)
  obtain⟨v,s,p,he,xu,hs,h⟩:=h;refine⟨v,s,p,he,xu,hs,?_⟩;obtain⟨rfl,h⟩:=h;show At (Gl.behind prog 10 61 jJ R) [.inBlock 2,.code K43] _ _ _
  refine At.inBlock ?_;refine At.s K44 K45 ?_;refine At.rg 15 [0,1,2,3] ?_;obtain⟨p59,n59,c59,hl,h⟩:=h;refine Seq.z 59 (.load 22 (.tmp 7)) 22 (.slice p59 n59 c59) (Y.ld isAgg22 rfl hl) ?_;refine Seq.o ?_;refine AV.cl (some 60) call38 (h.cont λmB EP h2=>?_);replace h:=h2;clear h2;obtain⟨p60,n60,c60,rfl,h⟩:=h;refine Seq.us [(2,.slice p60 n60 c60),(3,.I 0)] (Seq.done ?_);obtain⟨hmk,h⟩:=h;exact At.dq (rs:=[.tmp 2,.tmp 3]) (vs:=[(.slice p60 n60 c60),(.I 0)]) (by kernel_rfl) func10 (by kernel_rfl) ⟨_,rfl,⟨_,rfl,rfl⟩⟩ h rfl (xp hmk)
def AEH {R:Rr}{l b7:Nat}{r0:Loop}{v24:Value}{Z2:Hp}(h:∀b8:Nat,Z2 b8=none->AI prog (Instr.storeAt 98 (.pointer (some ⟨b8,0,none⟩)) v24) (Hp.set Z2 b8 (.cells #[(.N),(.N)] 98 (0,0))) (λ_ Z1=>Z1 l=some (.loop (lp r0 .ready none))/\∃eR:Option Addr,∃n25:Nat,∃eU:Nat,Hp.ld (Hp.set Z1 l (.loop (lp r0 .busy none))) ⟨b7,0,none⟩=some (.slice eR n25 eU)/\((0:Int)<(n25:Int)->∃p30:Option Addr,∃n30:Nat,∃c30:Nat,Hp.ld (Hp.set Z1 l (.loop (lp r0 .busy none))) ⟨b7,0,none⟩=some (.slice p30 n30 c30)/\AL ((n25:Int)-1)/\∃(Uy o33:Nat),p30=some ⟨Uy,o33,none⟩/\((0:Int)<=((n25:Int)-1)/\((n25:Int)-1)<(n30:Int))/\∃yj:Option Addr,∃n35:Nat,∃nu:Nat,Hp.ld (Hp.set Z1 l (.loop (lp r0 .busy none))) ⟨Uy,(o33+Int.toNat ((n25:Int)-1)*2),none⟩=some (.slice yj n35 nu)/\∃Uz:Option Addr,∃n37:Nat,∃U0:Nat,Hp.ld (Hp.set Z1 l (.loop (lp r0 .busy none))) ⟨b8,0,none⟩=some (.slice Uz n37 U0)/\Spec prog 36 #[(.slice yj n35 nu),(.slice Uz n37 U0)] (Hp.set Z1 l (.loop (lp r0 .busy none))) (Ab (NP R) (λv Cc=>∃aS:Int,v=(.I aS)/\((aS:Int)=0->∃rP:Option Addr,∃n41:Nat,∃jK:Nat,Hp.ld Cc ⟨b7,0,none⟩=some (.slice rP n41 jK)/\AL ((n25:Int)-1)/\∃nz:Option Addr,∃n44:Nat,∃yk:Nat,Hp.ld Cc ⟨b7,0,none⟩=some (.slice nz n44 yk)/\AL ((n25:Int)-1)/\∃(b47 o47:Nat),nz=some ⟨b47,o47,none⟩/\((0:Int)<=((n25:Int)-1)/\((n25:Int)-1)<(n44:Int))/\∃p49:Option Addr,∃n49:Nat,∃c49:Nat,Hp.ld Cc ⟨b47,((o47+Int.toNat ((n25:Int)-1)*2)+1),none⟩=some (.slice p49 n49 c49)/\∃p51:Option Addr,∃n51:Nat,∃c51:Nat,Hp.ld Cc ⟨b8,1,none⟩=some (.slice p51 n51 c51)/\Spec prog 37 #[(.slice p49 n49 c49),(.slice p51 n51 c51)] Cc (Ab (NP R) (λmB EP=>∃p52:Option Addr,∃n52:Nat,∃c52:Nat,mB=(.slice p52 n52 c52)/\Kp [b7] Cc EP/\∃(Pm o53:Nat),rP=some ⟨Pm,o53,none⟩/\((0:Int)<=((n25:Int)-1)/\((n25:Int)-1)<(n41:Int))/\AI prog (Instr.storeAt 96 (.pointer (some ⟨Pm,((o53+Int.toNat ((n25:Int)-1)*2)+1),none⟩)) (.slice p52 n52 c52)) EP (λ_ Qe=>Qe l=some (.loop (lp r0 .busy none))/\R (.B true) (Hp.set Qe l (.loop (lp r0 .ready none)))))))/\(¬((aS:Int)=0)->∃rQ:Option Addr,∃rR:Nat,∃rS:Nat,Hp.ld Cc ⟨b7,0,none⟩=some (.slice rQ rR rS)/\∃QA:Option Addr,∃QB:Nat,∃QC:Nat,∃QD:Option Addr,∃QE:Nat,∃QF:Nat,Az Cc b8 0 [(.slice QA QB QC),(.slice QD QE QF)]/\∀QG:Nat,Cc QG=none->AI prog (Builtin.append_ #[22,22] 22 #[(.slice rQ rR rS),(.slice (some ⟨QG,0,none⟩) 1 1)]) (Hp.set Cc QG (.cells #[(.slice QA QB QC),(.slice QD QE QF)] 98 (0,0))) (λmB EP=>∃aB:Option Addr,∃UG:Nat,∃cE:Nat,mB=(.slice aB UG cE)/\AI prog (Instr.storeAt 22 (.pointer (some ⟨b7,0,none⟩)) (.slice aB UG cE)) EP (λ_ Qe=>Qe l=some (.loop (lp r0 .busy none))/\R (.B true) (Hp.set Qe l (.loop (lp r0 .ready none)))))))))/\(¬((0:Int)<(n25:Int))->∃rQ:Option Addr,∃rR:Nat,∃rS:Nat,Hp.ld (Hp.set Z1 l (.loop (lp r0 .busy none))) ⟨b7,0,none⟩=some (.slice rQ rR rS)/\∃QA:Option Addr,∃QB:Nat,∃QC:Nat,∃QD:Option Addr,∃QE:Nat,∃QF:Nat,Az (Hp.set Z1 l (.loop (lp r0 .busy none))) b8 0 [(.slice QA QB QC),(.slice QD QE QF)]/\∀QG:Nat,(Hp.set Z1 l (.loop (lp r0 .busy none))) QG=none->AI prog (Builtin.append_ #[22,22] 22 #[(.slice rQ rR rS),(.slice (some ⟨QG,0,none⟩) 1 1)]) (Hp.set (Hp.set Z1 l (.loop (lp r0 .busy none))) QG (.cells #[(.slice QA QB QC),(.slice QD QE QF)] 98 (0,0))) (λv Cc=>∃aB:Option Addr,∃UG:Nat,∃cE:Nat,v=(.slice aB UG cE)/\AI prog (Instr.storeAt 22 (.pointer (some ⟨b7,0,none⟩)) (.slice aB UG cE)) Cc (λ_ EP=>EP l=some (.loop (lp r0 .busy none))/\R (.B true) (Hp.set EP l (.loop (lp r0 .ready none)))))))):AJe R l r0 b7 v24 Z2:=by
 intro J;show At (Gl.round prog 10 61 l R) _ _ _ _
 refine At.rg 10 [0,1] ?_;refine Seq.o ?_;refine AV.dn (T:=98) (d:=(some 8)) (ty:=0)  (gd:=none) (cs:=#[(.N),(.N)]) (by kernel_rfl) rfl rfl zeroValue98 rfl (λb8 hn=>?_)
 replace h:=h b8 hn
 refine Seq.o ?_;refine AV.store (T:=98) (ty:=0) (x:=(.tmp 8)) (y:=(.tmp 24)) (p:=(.pointer (some ⟨b8,0,none⟩))) (v:=v24) (gd:=none) (by kernel_rfl) rfl rfl rfl (h.mono (λ_ Z1 G=>?_));replace h:=G;clear G;refine Seq.done ?_;obtain⟨qc,h⟩:=h;refine At.beginRound rfl qc ?_;refine At.b 3 K36 ?_;refine At.s K37 K38 ?_;refine At.rg 11 [0,1,2] ?_;obtain⟨eR,n25,eU,hl,h⟩:=h;refine Seq.z 25 (.load 22 (.tmp 7)) 22 (.slice eR n25 eU) (Y.ld isAgg22 rfl hl) ?_;refine Seq.z 26 (.call { callee:=.builtin .len,args:=#[(.tmp 25)],argTypes:=#[22] }) 3 (.I (n25:Int)) (Y.xf underlying22 rfl rfl) ?_;refine Seq.u 9 (.I (n25:Int)) (Seq.done ?_);refine At.s K39 K40 ?_;refine At.draw (id:=12) (ops:=cO K39) (n:=14) (q:=(some [])) (plan:=[(0,true),(1,true),(2,true),(3,true),(4,true),(5,true),(6,true),(7,true),(8,true),(9,true),(10,true),(11,false),(12,true),(13,true)]) (tl:=[]) mixed (by kernel_rfl) (by kernel_rfl) ?_;refine Head.u 27 (.I (n25:Int)) ?_;refine Head.u 28 (.bool (decide ((0:Int)<(n25:Int)))) ?_;refine Head.u 29 (.bool (decide ((0:Int)<(n25:Int)))) ?_;cases hb:(decide ((0:Int)<(n25:Int))) with
 | true=>
  replace h:=h.1 (AjA hb)
  obtain⟨p30,n30,c30,hl,h⟩:=h;refine Head.ygl b7 [[11,8,7,6]] rfl (by kernel_rfl) (d:=(some 30)) (op:=(.load 22 (.tmp 7))) (ty:=22) (gd:=(some (2,true))) (v:=(.slice p30 n30 c30)) (by kernel_rfl) rfl rfl (Y.ld isAgg22 rfl (Q2 hl)) ?_;refine Head.u 31 (.I (n25:Int)) ?_;obtain⟨hi,h⟩:=h;refine Head.zg 32 (.binOp .sub 3 (.tmp 31) (.const (.I 1)) 3) 3 (2,true) (.I ((n25:Int)-1)) (Y.tw hi rfl rfl) ?_;obtain⟨Uy,o33,hq,h⟩:=h;subst hq;obtain⟨hi,h⟩:=h;refine Head.zg 33 (.indexAddr 22 (.tmp 30) (.tmp 32)) 0 (2,true) (.pointer (some ⟨Uy,(o33+Int.toNat ((n25:Int)-1)*2),none⟩)) (Y.idx underlying22 sizeOf98 rfl rfl hi rfl) ?_;refine Head.zg 34 (.fieldAddr 98 (.tmp 33) 0) 0 (2,true) (.pointer (some ⟨Uy,(o33+Int.toNat ((n25:Int)-1)*2),none⟩)) (Y.fieldAddr (fd:=(JV prog 98 0)) underlying98 (by kernel_rfl) sizeOf95 rfl rfl) ?_;obtain⟨yj,n35,nu,hl,h⟩:=h;refine Head.ygl Uy [[11]] rfl (by kernel_rfl) (d:=(some 35)) (op:=(.load 95 (.tmp 34))) (ty:=95) (gd:=(some (2,true))) (v:=(.slice yj n35 nu)) (by kernel_rfl) rfl rfl (Y.ld isAgg95 rfl (Q2 hl)) ?_;refine Head.zg 36 (.fieldAddr 98 (.tmp 8) 0) 0 (2,true) (.pointer (some ⟨b8,0,none⟩)) (Y.fieldAddr (fd:=(JV prog 98 0)) underlying98 (by kernel_rfl) sizeOf95 rfl rfl) ?_;obtain⟨Uz,n37,U0,hl,h⟩:=h;refine Head.ygl b8 [[11]] rfl (by kernel_rfl) (d:=(some 37)) (op:=(.load 95 (.tmp 36))) (ty:=95) (gd:=(some (2,true))) (v:=(.slice Uz n37 U0)) (by kernel_rfl) rfl rfl (Y.ld isAgg95 rfl (Q2 hl)) ?_;refine Head.o (q':=(some [])) rfl ?_;refine AV.cl (some 38) call36 (h.cont λv Cc G=>?_);replace h:=G;clear G;obtain⟨aS,rfl,h⟩:=h;refine⟨⟨λ_ h=>h,AN2 (L:=[]) Kp.nil⟩,?_⟩;refine Head.u 39 (.bool (decide ((aS:Int)=0))) ?_;refine Head.u 40 (.bool (decide ((aS:Int)=0))) ?_;refine Head.done ?_;refine Seq.done ?_;cases hb:(decide ((aS:Int)=0)) with
  | true=>
   replace h:=h.1 (AjA hb)
   refine At.cT 40 K41 K42 ?_;refine At.draw (id:=13) (ops:=cO K41) (n:=14) (q:=(some [])) (plan:=[(0,true),(1,true),(2,true),(3,true),(4,true),(5,true),(6,true),(7,true),(8,true),(9,true),(10,true),(11,false),(12,true),(13,true)]) (tl:=[14]) mixed (by kernel_rfl) (by kernel_rfl) ?_;obtain⟨rP,n41,jK,hl,h⟩:=h;refine Head.yl b7 [] rfl (by kernel_rfl) (d:=(some 41)) (op:=(.load 22 (.tmp 7))) (ty:=22) (v:=(.slice rP n41 jK)) (by kernel_rfl) rfl (Y.ld isAgg22 rfl (Q2 hl)) ?_;refine Head.u 42 (.I (n25:Int)) ?_;obtain⟨hi,h⟩:=h;refine Head.z 43 (.binOp .sub 3 (.tmp 42) (.const (.I 1)) 3) 3 (.I ((n25:Int)-1)) (Y.tw hi rfl rfl) ?_;obtain⟨nz,n44,yk,hl,h⟩:=h;refine Head.yl b7 [[11,8,7,6]] rfl (by kernel_rfl) (d:=(some 44)) (op:=(.load 22 (.tmp 7))) (ty:=22) (v:=(.slice nz n44 yk)) (by kernel_rfl) rfl (Y.ld isAgg22 rfl (Q2 hl)) ?_;refine Head.u 45 (.I (n25:Int)) ?_;obtain⟨hi,h⟩:=h;refine Head.z 46 (.binOp .sub 3 (.tmp 45) (.const (.I 1)) 3) 3 (.I ((n25:Int)-1)) (Y.tw hi rfl rfl) ?_;obtain⟨b47,o47,hq,h⟩:=h;subst hq;obtain⟨hi,h⟩:=h;refine Head.z 47 (.indexAddr 22 (.tmp 44) (.tmp 46)) 0 (.pointer (some ⟨b47,(o47+Int.toNat ((n25:Int)-1)*2),none⟩)) (Y.idx underlying22 sizeOf98 rfl rfl hi rfl) ?_;refine Head.z 48 (.fieldAddr 98 (.tmp 47) 1) 0 (.pointer (some ⟨b47,((o47+Int.toNat ((n25:Int)-1)*2)+1),none⟩)) (Y.fieldAddr (fd:=(JV prog 98 1)) underlying98 (by kernel_rfl) sizeOf96 rfl rfl) ?_;obtain⟨p49,n49,c49,hl,h⟩:=h;refine Head.yl b47 [[11]] rfl (by kernel_rfl) (d:=(some 49)) (op:=(.load 96 (.tmp 48))) (ty:=96) (v:=(.slice p49 n49 c49)) (by kernel_rfl) rfl (Y.ld isAgg96 rfl (Q2 hl)) ?_;refine Head.z 50 (.fieldAddr 98 (.tmp 8) 1) 0 (.pointer (some ⟨b8,1,none⟩)) (Y.fieldAddr (fd:=(JV prog 98 1)) underlying98 (by kernel_rfl) sizeOf96 rfl rfl) ?_;obtain⟨p51,n51,c51,hl,h⟩:=h;refine Head.yl b8 [[11]] rfl (by kernel_rfl) (d:=(some 51)) (op:=(.load 96 (.tmp 50))) (ty:=96) (v:=(.slice p51 n51 c51)) (by kernel_rfl) rfl (Y.ld isAgg96 rfl (Q2 hl)) ?_;refine Head.o (q':=(some [(b7,[])])) rfl ?_;refine AV.cl (some 52) call37 (h.cont λmB EP G=>?_);replace h:=G;clear G;obtain⟨p52,n52,c52,rfl,hk,h⟩:=h;refine⟨⟨λ_ h=>h,AN2 (L:=[(b7,[])]) hk⟩,?_⟩;obtain⟨Pm,o53,hq,h⟩:=h;subst hq;obtain⟨hi,h⟩:=h;refine Head.z 53 (.indexAddr 22 (.tmp 41) (.tmp 43)) 0 (.pointer (some ⟨Pm,(o53+Int.toNat ((n25:Int)-1)*2),none⟩)) (Y.idx underlying22 sizeOf98 rfl rfl hi rfl) ?_;refine Head.z 54 (.fieldAddr 98 (.tmp 53) 1) 0 (.pointer (some ⟨Pm,((o53+Int.toNat ((n25:Int)-1)*2)+1),none⟩)) (Y.fieldAddr (fd:=(JV prog 98 1)) underlying98 (by kernel_rfl) sizeOf96 rfl rfl) ?_;refine Head.done ?_;refine Seq.o ?_;refine AV.store (T:=96) (ty:=0) (x:=(.tmp 54)) (y:=(.tmp 52)) (p:=(.pointer (some ⟨Pm,((o53+Int.toNat ((n25:Int)-1)*2)+1),none⟩))) (v:=(.slice p52 n52 c52)) (gd:=none) (by kernel_rfl) rfl rfl rfl (h.mono (λ_ Qe G=>?_));replace h:=G;clear G;refine Seq.done ?_;refine At.inBlock ?_;exact At.Rk rfl h.1 h.2
  | false=>
   replace h:=h.2 (AjX hb)
   refine At.cF 40 K41 K42 ?_;refine At.rg 14 [0,1,2,3,4] ?_;obtain⟨rQ,rR,rS,hl,h⟩:=h;refine Seq.z 55 (.load 22 (.tmp 7)) 22 (.slice rQ rR rS) (Y.ld isAgg22 rfl hl) ?_;obtain⟨QA,QB,QC,QD,QE,QF,hl,h⟩:=h;refine Seq.z 56 (.load 98 (.tmp 8)) 98 (.agg #[(.slice QA QB QC),(.slice QD QE QF)]) (Y.lda isAgg98 sizeOf98 rfl rfl hl) ?_;refine Seq.o ?_;refine AV.Mk (T:=22) (E:=98) (m:=1) (ps:=#[(0,(.tmp 56))]) (d:=(some 57)) (ty:=22) (gd:=none) (vs:=[(0,(.agg #[(.slice QA QB QC),(.slice QD QE QF)]))]) (cs:=#[(.slice QA QB QC),(.slice QD QE QF)]) underlying22 (by kernel_rfl) rfl rfl rfl (by kernel_rfl) (λQG hn=>?_)
   replace h:=h QG hn
   refine Seq.o ?_;refine AV.aL (d:=(some 58)) (op:=(.call { callee:=.builtin .append,args:=#[(.tmp 55),(.tmp 57)],argTypes:=#[22,22] })) (ty:=22) (gd:=none) (by kernel_rfl) rfl rfl (Builtin.append_ #[22,22] 22 #[(.slice rQ rR rS),(.slice (some ⟨QG,0,none⟩) 1 1)]) (λo ho ht=>Jq rfl rfl o ho ht) (h.mono (λmB EP G=>?_));replace h:=G;clear G;obtain⟨aB,UG,cE,rfl,h⟩:=h;refine Seq.o ?_;refine AV.store (T:=22) (ty:=0) (x:=(.tmp 7)) (y:=(.tmp 58)) (p:=(.pointer (some ⟨b7,0,none⟩))) (v:=(.slice aB UG cE)) (gd:=none) (by kernel_rfl) rfl rfl rfl (h.mono (λ_ Qe G=>?_));replace h:=G;clear G;refine Seq.done ?_;refine At.L [] λJ=>?_;refine At.inBlock ?_;exact At.Rk rfl h.1 h.2
 | false=>
  replace h:=h.2 (AjX hb)
  refine Head.n 30 ?_;refine Head.n 31 ?_;refine Head.n 32 ?_;refine Head.n 33 ?_;refine Head.n 34 ?_;refine Head.n 35 ?_;refine Head.n 36 ?_;refine Head.n 37 ?_;refine Head.o (q':=(some [])) rfl ?_;refine AV.no (d:=(some 38)) (op:=(.call { callee:=.value (.func 36),args:=#[(.tmp 35),(.tmp 37)],argTypes:=#[95,95] })) (ty:=3) (gd:=some (2,true)) (by kernel_rfl) rfl rfl ?_;refine⟨Ic.refl _ _ _,?_⟩;refine Head.n 39 ?_;refine Head.u 40 (.bool false) ?_;refine Head.done ?_;refine Seq.done ?_;refine At.cF 40 K41 K42 ?_;refine At.rg 14 [0,1,2,3,4] ?_;obtain⟨rQ,rR,rS,hl,h⟩:=h;refine Seq.z 55 (.load 22 (.tmp 7)) 22 (.slice rQ rR rS) (Y.ld isAgg22 rfl hl) ?_;obtain⟨QA,QB,QC,QD,QE,QF,hl,h⟩:=h;refine Seq.z 56 (.load 98 (.tmp 8)) 98 (.agg #[(.slice QA QB QC),(.slice QD QE QF)]) (Y.lda isAgg98 sizeOf98 rfl rfl hl) ?_;refine Seq.o ?_;refine AV.Mk (T:=22) (E:=98) (m:=1) (ps:=#[(0,(.tmp 56))]) (d:=(some 57)) (ty:=22) (gd:=none) (vs:=[(0,(.agg #[(.slice QA QB QC),(.slice QD QE QF)]))]) (cs:=#[(.slice QA QB QC),(.slice QD QE QF)]) underlying22 (by kernel_rfl) rfl rfl rfl (by kernel_rfl) (λQG hn=>?_)
  replace h:=h QG hn
  refine Seq.o ?_;refine AV.aL (d:=(some 58)) (op:=(.call { callee:=.builtin .append,args:=#[(.tmp 55),(.tmp 57)],argTypes:=#[22,22] })) (ty:=22) (gd:=none) (by kernel_rfl) rfl rfl (Builtin.append_ #[22,22] 22 #[(.slice rQ rR rS),(.slice (some ⟨QG,0,none⟩) 1 1)]) (λo ho ht=>Jq rfl rfl o ho ht) (h.mono (λv Cc G=>?_));replace h:=G;clear G;obtain⟨aB,UG,cE,rfl,h⟩:=h;refine Seq.o ?_;refine AV.store (T:=22) (ty:=0) (x:=(.tmp 7)) (y:=(.tmp 58)) (p:=(.pointer (some ⟨b7,0,none⟩))) (v:=(.slice aB UG cE)) (gd:=none) (by kernel_rfl) rfl rfl rfl (h.mono (λ_ EP G=>?_));replace h:=G;clear G;refine Seq.done ?_;refine At.inBlock ?_;exact At.Rk rfl h.1 h.2
end DV
namespace A8
variable {q0 p1c ym:Option Addr}{C4 CU cG eV x6:Int}{n1c c1c xI yn:Nat}{v18:Value}
def M:Fw:=⟨prog,13,f13,[41,42],[3],false,[],[(18,69)],[(488,[(0,wQ),(3,.X 43 [.I .u64,.I .i64,.L]),(6,wI),(18,wV)])]⟩
def ok:M.Ok:=⟨.cons call41 (.cons call42 (AH.nil)),mixed,func13,by kernel_rfl⟩
def HG:=M.pt 0
def start (h:∀b3:Nat,AG 41 #[.agg #[.U C4,.I CU,.slice p1c n1c c1c]] Z2 R (CI .i64 λx10 y=>Br (x10≠0) (R (.returned (.I x10)) y) (Pq q0 λU1 jL=>LM y U1 (jL+4) λG=>AI prog (Instr.range 69 (.map G)) y (λz AE=>∃v18,v18=z/\HG R (aD U1 jL) C4 CU p1c n1c c1c 0 v18 AE)))):Spec prog 13 #[.pointer q0,.agg #[.U C4,.I CU,.slice p1c n1c c1c]] Z2 R:=M.start h ok
def CC (h:AI prog (Instr.next v18 false 0) Z2 (λv y=>(v=(.tuple #[.bool false])/\Pq q0 λG cH=>LI .i64 y G (cH+5) λud=>Br (x6<ud) (R (.returned (.I 271)) y) (AG 42 #[.agg #[.U cG,.I eV,.slice ym xI yn]] y R (λz AE=>∃jM jN jO jP jQ,z=(.agg #[.U jM,.I jN,.slice jO jP jQ])/\AI prog (Instr.storeAt 43 (.pointer (aD G (cH+7))) (.agg #[.U jM,.I jN,.slice jO jP jQ])) AE (λ_ AK=>AI prog (Instr.storeAt 4 (.pointer (aD G (cH+6))) (.bool true)) AK (λ_ Am=>AI prog (Instr.storeAt 45 (.pointer (aD G (cH+12))) (.func (.func 43) #[(.pointer (aD G cH))] #[])) Am (λ_ CL=>R (.returned (.I 0)) CL))))))\/(∃Ju KR,v=(.tuple #[.bool true,.I Ju,.I KR])/\AI prog (Instr.entry v18) y (λz AE=>∃WQ U2,z=(.tuple #[.I WQ,.I U2])/\Br (0<U2) (AL (x6+1)/\HG R q0 cG eV ym xI yn (x6+1) v18 AE) (HG R q0 cG eV ym xI yn x6 v18 AE))))):HG R q0 cG eV ym xI yn x6 v18 Z2:=M.Uu h ok rfl λ_=>by kernel_rfl
end A8
namespace Ft
variable {p0 p3 p6:Option Addr}{n0 c0 n3 c3 n6 c6:Nat}{x7 x8:Int}
def M:Fw:=⟨prog,38,f38,[],[5],false,[],[],[(232,[(3,wL),(6,wL),(7,wI),(8,wI)])]⟩
def ok:M.Ok:=⟨AH.nil,mixed,func38,by kernel_rfl⟩
def A0:=M.pt 0
def start (h:A0 R none 0 0 p0 n0 c0 (n0:Int) 0 Z2):Spec prog 38 #[.slice p0 n0 c0] Z2 R:=M.start h ok
def AX (h:Br (x8<x7) (Pq p6 λDk Md=>In x8 (n6:Int)/\∃Jv Jw Jx RB QH RC,Az Z2 Dk (Md+x8.toNat*2) [.slice Jv Jw Jx,.slice RB QH RC]/\∀b5:Nat,(Al Z2 λHr=>(AI prog (Builtin.append_ #[95,95] 95 #[(.slice (aD Hr 0) 0 0),.slice Jv Jw Jx]) (Hp.set Z2 Hr (.cells #[] 144 (0,0))) (CS λRe n16 P9 y=>Al y λFb=>AI prog (Builtin.append_ #[96,96] 96 #[(.slice (aD Fb 0) 0 0),.slice RB QH RC]) (Hp.set y Fb (.cells #[] 111 (0,0))) (CS λUH n20 Ry AE=>Al AE λeW=>AI prog (GO 22 p3 n3 c3 eW) (Hp.set AE eW (.cells #[.slice Re n16 P9,.slice UH n20 Ry] 98 (0,0))) (CS λl9 G eQ AK=>AL (x8+1)/\A0 R l9 G eQ (aD Dk Md) n6 c6 x7 (x8+1) AK))))/\(Al (Hp.set Z2 Hr (.cells #[] 144 (0,0))) λFb=>AI prog (Builtin.append_ #[95,95] 95 #[(.slice (aD Hr 0) 0 0),.slice Jv Jw Jx]) (Hp.set (Hp.set Z2 Hr (.cells #[] 144 (0,0))) Fb (.cells #[] 111 (0,0))) (CS λRe n16 P9 y=>AI prog (Builtin.append_ #[96,96] 96 #[(.slice (aD Fb 0) 0 0),.slice RB QH RC]) y (CS λUH n20 Ry AE=>Al AE λeW=>AI prog (GO 22 p3 n3 c3 eW) (Hp.set AE eW (.cells #[.slice Re n16 P9,.slice UH n20 Ry] 98 (0,0))) (CS λl9 G eQ AK=>AL (x8+1)/\A0 R l9 G eQ (aD Dk Md) n6 c6 x7 (x8+1) AK)))))/\(Al Z2 λFb=>Al (Hp.set Z2 Fb (.cells #[] 111 (0,0))) λHr=>AI prog (Builtin.append_ #[95,95] 95 #[(.slice (aD Hr 0) 0 0),.slice Jv Jw Jx]) (Hp.set (Hp.set Z2 Fb (.cells #[] 111 (0,0))) Hr (.cells #[] 144 (0,0))) (CS λRe n16 P9 y=>AI prog (Builtin.append_ #[96,96] 96 #[(.slice (aD Fb 0) 0 0),.slice RB QH RC]) y (CS λUH n20 Ry AE=>Al AE λeW=>AI prog (GO 22 p3 n3 c3 eW) (Hp.set AE eW (.cells #[.slice Re n16 P9,.slice UH n20 Ry] 98 (0,0))) (CS λl9 G eQ AK=>AL (x8+1)/\A0 R l9 G eQ (aD Dk Md) n6 c6 x7 (x8+1) AK))))) (R (.returned (.slice p3 n3 c3)) Z2)):A0 R p3 n3 c3 p6 n6 c6 x7 x8 Z2:=M.of h ok rfl
end Ft
namespace AY
variable {q0:Option Addr}{v1:Value}{x2 x3:Int}{b9:Nat}
def M:Fw:=⟨prog,63,f63,[31,95,96,97,98,99,100],[],false,[],[],[(48,[(0,wQ),(1,wV),(2,wI),(3,wI)]),(3198,[(0,wQ),(1,wV),(2,wI),(3,wI),(9,wA)])]⟩
def ok:M.Ok:=⟨.cons call31 (.cons call95 (.cons call96 (.cons call97 (.cons call98 (.cons call99 (.cons call100 (AH.nil))))))),mixed,func63,by kernel_rfl⟩
def eX:=M.pt 0
def Ed:=M.pt 1
def start (h:∃(f11:Nat) (G jS:Array Value),v1=.func (.func f11) G jS/\Enters prog f11/\Spec prog f11 (G++#[]++jS) Z2 (Ab R (λz y=>z=(.tuple #[])/\eX R q0 v1 x2 x3 y))):Spec prog 63 #[.pointer q0,v1,.I x2,.I x3] Z2 R:=M.DJ h ok [(0,.o (.Q q0)),(1,.o (.V v1)),(2,.o (.I .i64 x2)),(3,.o (.I .i64 x3))] rfl rfl (by kernel_rfl)
def LD (h:AG 96 #[] Z2 R (CS λaC n12 WR y=>AG 31 #[.pointer q0] y R (λz AE=>∃HI TP eY uf,z=(.agg #[.I HI,.I TP,.string eY,.I uf])/\AG 95 #[.slice aC n12 WR,.string eY] AE R (CI .i64 λx16 AK=>AG 31 #[.pointer q0] AK R (λz Am=>∃Q9 RA oC AXX,z=(.agg #[.I Q9,.I RA,.string oC,.I AXX])/\Br (Q9≠5) (AG 31 #[.pointer q0] Am R (λz CL=>∃AEJ jT AJg AJh,z=(.agg #[.I AEJ,.I jT,.string AJg,.I AJh])/\Br (AEJ≠3) (R (.T #[]) CL) (Br (x16<x2) (R (.T #[]) CL) (Br (x3<x16) (R (.T #[]) CL) (Br (x2=11) (Br (x16=12) (R (.T #[]) CL) (AG 97 #[.pointer q0] CL R (λz Gu=>∃Jy Jz eZ ec,z=(.agg #[.I Jy,.I Jz,.string eZ,.I ec])/\Al Gu λb9=>AI prog (Instr.storeAt 127 (.pointer (aD b9 0)) (.agg #[.I 6,.I x16,(.string (ByteArray.mk #[])),.N,.I 0,.I 0,.I 0,.N,.bool false,.I 2])) (Hp.set Gu b9 (.cells #[.I 0,.I 0,(.string (ByteArray.mk #[])),.N,.I 0,.I 0,.I 0,.N,.bool false,.I 0] 127 (0,0))) (λ_ G=>Br (5<=x16) (Br (x16<=10) (AG 98 #[.pointer q0,.I 3,(.string (ByteArray.mk #[98,111,111,108]))] G R (CB λt55 S0=>Bo t55 (AG 97 #[.pointer q0] S0 R (λz UD=>∃ed eh ei ej,z=(.agg #[.I ed,.I eh,.string ei,.I ej])/\AI prog (Instr.storeAt 4 (.pointer (aD b9 8)) (.bool true)) UD (λ_ IJ=>Ed R q0 v1 x2 x3 b9 IJ))) (Ed R q0 v1 x2 x3 b9 S0))) (Ed R q0 v1 x2 x3 b9 G)) (Ed R q0 v1 x2 x3 b9 G))))) (AG 97 #[.pointer q0] CL R (λz Gu=>∃Jy Jz eZ ec,z=(.agg #[.I Jy,.I Jz,.string eZ,.I ec])/\Al Gu λb9=>AI prog (Instr.storeAt 127 (.pointer (aD b9 0)) (.agg #[.I 6,.I x16,(.string (ByteArray.mk #[])),.N,.I 0,.I 0,.I 0,.N,.bool false,.I 2])) (Hp.set Gu b9 (.cells #[.I 0,.I 0,(.string (ByteArray.mk #[])),.N,.I 0,.I 0,.I 0,.N,.bool false,.I 0] 127 (0,0))) (λ_ G=>Br (5<=x16) (Br (x16<=10) (AG 98 #[.pointer q0,.I 3,(.string (ByteArray.mk #[98,111,111,108]))] G R (CB λt55 S0=>Bo t55 (AG 97 #[.pointer q0] S0 R (λz UD=>∃ed eh ei ej,z=(.agg #[.I ed,.I eh,.string ei,.I ej])/\AI prog (Instr.storeAt 4 (.pointer (aD b9 8)) (.bool true)) UD (λ_ IJ=>Ed R q0 v1 x2 x3 b9 IJ))) (Ed R q0 v1 x2 x3 b9 S0))) (Ed R q0 v1 x2 x3 b9 G)) (Ed R q0 v1 x2 x3 b9 G))))))))) (Br (x16<x2) (R (.T #[]) Am) (Br (x3<x16) (R (.T #[]) Am) (Br (x2=11) (Br (x16=12) (R (.T #[]) Am) (AG 97 #[.pointer q0] Am R (λz CL=>∃Jy Jz eZ ec,z=(.agg #[.I Jy,.I Jz,.string eZ,.I ec])/\Al CL λb9=>AI prog (Instr.storeAt 127 (.pointer (aD b9 0)) (.agg #[.I 6,.I x16,(.string (ByteArray.mk #[])),.N,.I 0,.I 0,.I 0,.N,.bool false,.I 2])) (Hp.set CL b9 (.cells #[.I 0,.I 0,(.string (ByteArray.mk #[])),.N,.I 0,.I 0,.I 0,.N,.bool false,.I 0] 127 (0,0))) (λ_ Gu=>Br (5<=x16) (Br (x16<=10) (AG 98 #[.pointer q0,.I 3,(.string (ByteArray.mk #[98,111,111,108]))] Gu R (CB λt55 G=>Bo t55 (AG 97 #[.pointer q0] G R (λz S0=>∃ed eh ei ej,z=(.agg #[.I ed,.I eh,.string ei,.I ej])/\AI prog (Instr.storeAt 4 (.pointer (aD b9 8)) (.bool true)) S0 (λ_ UD=>Ed R q0 v1 x2 x3 b9 UD))) (Ed R q0 v1 x2 x3 b9 G))) (Ed R q0 v1 x2 x3 b9 Gu)) (Ed R q0 v1 x2 x3 b9 Gu))))) (AG 97 #[.pointer q0] Am R (λz CL=>∃Jy Jz eZ ec,z=(.agg #[.I Jy,.I Jz,.string eZ,.I ec])/\Al CL λb9=>AI prog (Instr.storeAt 127 (.pointer (aD b9 0)) (.agg #[.I 6,.I x16,(.string (ByteArray.mk #[])),.N,.I 0,.I 0,.I 0,.N,.bool false,.I 2])) (Hp.set CL b9 (.cells #[.I 0,.I 0,(.string (ByteArray.mk #[])),.N,.I 0,.I 0,.I 0,.N,.bool false,.I 0] 127 (0,0))) (λ_ Gu=>Br (5<=x16) (Br (x16<=10) (AG 98 #[.pointer q0,.I 3,(.string (ByteArray.mk #[98,111,111,108]))] Gu R (CB λt55 G=>Bo t55 (AG 97 #[.pointer q0] G R (λz S0=>∃ed eh ei ej,z=(.agg #[.I ed,.I eh,.string ei,.I ej])/\AI prog (Instr.storeAt 4 (.pointer (aD b9 8)) (.bool true)) S0 (λ_ UD=>Ed R q0 v1 x2 x3 b9 UD))) (Ed R q0 v1 x2 x3 b9 G))) (Ed R q0 v1 x2 x3 b9 Gu)) (Ed R q0 v1 x2 x3 b9 Gu)))))))))))):eX R q0 v1 x2 x3 Z2:=M.of h ok rfl
def LF (h:AG 99 #[.pointer q0,(.pointer (aD b9 0)),(.agg #[(.string (ByteArray.mk #[111,110])),(.string (ByteArray.mk #[105,103,110,111,114,105,110,103]))]),.agg #[.I 3,.I 4]] Z2 R (λz y=>z=(.tuple #[])/\∃(f65:Nat) (AGz G:Array Value),v1=.func (.func f65) AGz G/\Enters prog f65/\Spec prog f65 (AGz++#[]++G) y (Ab R (λz AE=>z=(.tuple #[])/\∃Mn Mo Mp Mq Mr Ms Mu Mv Mw Mx My Mz M0 M1,Az AE b9 0 [.I Mn,.I Mo,.string Mp,.slice Mq Mr Ms,.I Mu,.I Mv,.I Mw,.slice Mx My Mz,.bool M0,.I M1]/\AG 100 #[.pointer q0,.agg #[.I Mn,.I Mo,.string Mp,.slice Mq Mr Ms,.I Mu,.I Mv,.I Mw,.slice Mx My Mz,.bool M0,.I M1]] AE R (λz AK=>z=(.tuple #[])/\eX R q0 v1 x2 x3 AK))))):Ed R q0 v1 x2 x3 b9 Z2:=M.of h ok rfl
end AY
namespace BW
variable {p0 p1 Mb:Option Addr}{n0 c0 n1 c1 n11 Mc:Nat}{v2:Value}{x12 Fq:Int}
def M:Fw:=⟨prog,72,f72,[],[8,9],false,[],[],[(104,[(0,wL),(1,wL),(2,wV),(11,wL),(12,wI),(13,wI)])]⟩
def ok:M.Ok:=⟨AH.nil,mixed,func72,by kernel_rfl⟩
def GG:=M.pt 0
def start (h:GG R p0 n0 c0 p1 n1 c1 v2 p0 n0 c0 (n0:Int) 0 Z2):Spec prog 72 #[.slice p0 n0 c0,.slice p1 n1 c1,v2] Z2 R:=M.DJ h ok [(0,.o (.L p0 n0 c0)),(1,.o (.L p1 n1 c1)),(2,.o (.V v2))] rfl rfl (by kernel_rfl)
def BG (h:Br (Fq<x12) (Pq Mb λUE eP=>In Fq (n11:Int)/\∃APH API,Az Z2 UE (eP+Fq.toNat*2) [.string APH,.string API]/\∀b8:Nat,Br ((n1:Int)<=Fq) (R (.returned (.I 1)) Z2) (Pq p1 λaZ gi=>In Fq (n1:Int)/\∃APJ APK,Az Z2 aZ (gi+Fq.toNat*2) [.string APJ,.string APK]/\∀b9:Nat,∃(f29:Nat) (G AG2:Array Value),v2=.func (.func f29) G AG2/\Enters prog f29/\Spec prog f29 (G++#[.agg #[.string APH,.string API],.agg #[.string APJ,.string APK]]++AG2) Z2 (Ab R (CI .i64 λek y=>Br (ek≠0) (R (.returned (.I ek)) y) (AL (Fq+1)/\GG R p0 n0 c0 (aD aZ gi) n1 c1 v2 (aD UE eP) n11 Mc x12 (Fq+1) y))))) (Br ((n0:Int)<(n1:Int)) (R (.returned (.I (-1))) Z2) (R (.returned (.I 0)) Z2))):GG R p0 n0 c0 p1 n1 c1 v2 Mb n11 Mc x12 Fq Z2:=M.of h ok rfl
end BW
namespace HJ
variable {s0:ByteArray}{x3:Int}
def M:Fw:=⟨prog,82,f82,[],[],false,[],[],[(464,[(0,wT),(3,wI)])]⟩
def ok:M.Ok:=⟨AH.nil,mixed,func82,by kernel_rfl⟩
def FH:=M.pt 0
def start (h:Bo ((ByteArray.toList s0==ByteArray.toList (ByteArray.mk #[]))) (R (.B false) Z2) (Br ((64:Int)<(s0.size:Int)) (R (.B false) Z2) (∃Pn:UInt8,(0:Int)<=0/\(ByteArray.data s0)[Int.toNat 0]?=some Pn/\Br ((48:Int)<=(Pn.toNat:Int)) (∃G:UInt8,(0:Int)<=0/\(ByteArray.data s0)[Int.toNat 0]?=some G/\Br (((G.toNat:Int):Int)<=57) (R (.B false) Z2) (FH R s0 0 Z2)) (FH R s0 0 Z2)))):Spec prog 82 #[.string s0] Z2 R:=M.start h ok
def EB (h:Br (x3<(s0.size:Int)) (∃G:UInt8,0<=x3/\(ByteArray.data s0)[x3.toNat]?=some G/\Br (((G.toNat:Int):Int)≠95) (Br (((G.toNat:Int):Int)<48) (Br (((G.toNat:Int):Int)<65) (Br (((G.toNat:Int):Int)<97) (R (.B false) Z2) (Br ((122:Int)<(G.toNat:Int)) (R (.B false) Z2) (AL (x3+1)/\FH R s0 (x3+1) Z2))) (Br ((90:Int)<(G.toNat:Int)) (Br (((G.toNat:Int):Int)<97) (R (.B false) Z2) (Br ((122:Int)<(G.toNat:Int)) (R (.B false) Z2) (AL (x3+1)/\FH R s0 (x3+1) Z2))) (AL (x3+1)/\FH R s0 (x3+1) Z2))) (Br ((57:Int)<(G.toNat:Int)) (Br (((G.toNat:Int):Int)<65) (Br (((G.toNat:Int):Int)<97) (R (.B false) Z2) (Br ((122:Int)<(G.toNat:Int)) (R (.B false) Z2) (AL (x3+1)/\FH R s0 (x3+1) Z2))) (Br ((90:Int)<(G.toNat:Int)) (Br (((G.toNat:Int):Int)<97) (R (.B false) Z2) (Br ((122:Int)<(G.toNat:Int)) (R (.B false) Z2) (AL (x3+1)/\FH R s0 (x3+1) Z2))) (AL (x3+1)/\FH R s0 (x3+1) Z2))) (AL (x3+1)/\FH R s0 (x3+1) Z2))) (AL (x3+1)/\FH R s0 (x3+1) Z2)) (R (.B true) Z2)):FH R s0 x3 Z2:=M.of h ok rfl
end HJ
namespace cJ
def M:Fw:=⟨prog,96,f96,[],[],false,[],[],[]⟩
def ok:M.Ok:=⟨AH.nil,mixed,func96,by kernel_rfl⟩
def start (h:Al Z2 λb1=>R (.returned (.slice (aD b1 0) 14 14)) (Hp.set Z2 b1 (.cells #[(.string (ByteArray.mk #[])),(.string (ByteArray.mk #[43])),(.string (ByteArray.mk #[45])),(.string (ByteArray.mk #[42])),(.string (ByteArray.mk #[47])),(.string (ByteArray.mk #[61,61])),(.string (ByteArray.mk #[33,61])),(.string (ByteArray.mk #[60])),(.string (ByteArray.mk #[60,61])),(.string (ByteArray.mk #[62])),(.string (ByteArray.mk #[62,61])),(.string (ByteArray.mk #[97,110,100])),(.string (ByteArray.mk #[111,114])),(.string (ByteArray.mk #[117,110,108,101,115,115]))] 9 (0,0)))):Spec prog 96 #[] Z2 R:=M.start h ok
end cJ
namespace L8
variable {q0:Option Addr}
def M:Fw:=⟨prog,97,f97,[],[2,3],false,[],[],[]⟩
def ok:M.Ok:=⟨AH.nil,mixed,func97,by kernel_rfl⟩
def start (h:∀b2:Nat,Pq q0 λb5 o5=>LS Z2 b5 o5 λp7 n7 c7=>Pq p7 λb8 o8=>In 0 (n7:Int)/\∃x9a x9b G x9d,Az Z2 b8 o8 [.I x9a,.I x9b,.string G,.I x9d]/\∀b3:Nat,LS Z2 b5 o5 λKS n14 JG=>((0:Int)<=1/\1<=(n14:Int))/\AI prog (Instr.storeAt 73 (.pointer (aD b5 o5)) (.slice (E4 KS (1) JG 4) (n14-1) (JG-1))) Z2 (λ_ y=>R (.returned (.agg #[.I x9a,.I x9b,.string G,.I x9d])) y)):Spec prog 97 #[.pointer q0] Z2 R:=M.start h ok
end L8
namespace L9
variable {q0:Option Addr}{x1:Int}{s2:ByteArray}
def M:Fw:=⟨prog,98,f98,[31],[],false,[],[],[]⟩
def ok:M.Ok:=⟨.cons call31 (AH.nil),mixed,func98,by kernel_rfl⟩
def start (h:AG 31 #[.pointer q0] Z2 R (λz y=>∃E9 FI G x8d,z=(.agg #[.I E9,.I FI,.string G,.I x8d])/\Br (E9=x1) (AG 31 #[.pointer q0] y R (λz AE=>∃HI TP eY uf,z=(.agg #[.I HI,.I TP,.string eY,.I uf])/\R (.returned (.bool (ByteArray.toList eY==ByteArray.toList s2))) AE)) (R (.B false) y))):Spec prog 98 #[.pointer q0,.I x1,.string s2] Z2 R:=M.start h ok
end L9
namespace An
variable {v0:Value}{x1 x2 x7 x9:Int}
def M:Fw:=⟨prog,103,f103,[],[],false,[],[],[(224,[(0,wV),(1,wI),(2,wI),(7,wI)]),(30,[(1,wI),(7,wI)]),(7228,[(0,wV),(1,wI),(2,wI),(7,wI),(9,wI)])]⟩
def ok:M.Ok:=⟨AH.nil,mixed,func103,by kernel_rfl⟩
def FV:=M.pt 0
def eo:=M.pt 1
def HF:=M.pt 2
def start (h:FV R v0 x1 x2 x1 Z2):Spec prog 103 #[v0,.I x1,.I x2] Z2 R:=M.DJ h ok [(0,.o (.V v0)),(1,.o (.I .i64 x1)),(2,.o (.I .i64 x2))] rfl rfl (by kernel_rfl)
def A9 (h:AL (2*x7)/\AL ((2*x7)+1)/\Br (x2<=((2*x7)+1)) (eo R x1 x7 Z2) (Br ((((2*x7)+1):Int)<0) (eo R x1 x7 Z2) (AL (((2*x7)+1)+1)/\Br (((((2*x7)+1)+1):Int)<x2) (MC prog v0 T6 #[(.I (((2*x7)+1)+1)),(.I ((2*x7)+1))] Z2 (Ab R (CB λt32 y=>Bo t32 (HF R v0 x1 x2 x7 ((((2*x7)+1)+1)) y) (HF R v0 x1 x2 x7 (((2*x7)+1)) y)))) (HF R v0 x1 x2 x7 (((2*x7)+1)) Z2)))):FV R v0 x1 x2 x7 Z2:=M.of h ok rfl
def R0 (h:R (.returned (.bool (decide (x1<x7)))) Z2):eo R x1 x7 Z2:=M.of h ok rfl
def Ea (h:MC prog v0 T6 #[.I x9,.I x7] Z2 (Ab R (CB λt38 y=>Bn t38 (eo R x1 x7 y) (MC prog v0 T7 #[.I x7,.I x9] y (Ab R (λz G=>z=(.tuple #[])/\FV R v0 x1 x2 x9 G)))))):HF R v0 x1 x2 x7 x9 Z2:=M.of h ok rfl
end An
namespace WS
variable {x0:Int}
def M:Fw:=⟨prog,120,f120,[],[],false,[],[],[]⟩
def ok:M.Ok:=⟨AH.nil,mixed,func120,by kernel_rfl⟩
def start (h:Br (11<=x0) (R (.returned (.bool (decide (x0<=13)))) Z2) (R (.B false) Z2)):Spec prog 120 #[.I x0] Z2 R:=M.start h ok
end WS
namespace FJ
variable {p0 p5:Option Addr}{n0 c0 n5 c5:Nat}{x1:Int}
def M:Fw:=⟨prog,140,f140,[],[],false,[],[],[(224,[(1,wU),(5,wL)])]⟩
def ok:M.Ok:=⟨AH.nil,mixed,func140,by kernel_rfl⟩
def FV:=M.pt 0
def start (h:Al Z2 λb6=>AI prog (Builtin.append_ #[134,134] 134 #[(.slice (aD b6 0) 0 0),.slice p0 n0 c0]) (Hp.set Z2 b6 (.cells #[] 5 (0,0))) (CS λp8 n8 c8 y=>FV R x1 p8 n8 c8 y)):Spec prog 140 #[.slice p0 n0 c0,.U x1] Z2 R:=M.start h ok
def A9 (h:Br (127<x1) (Df (IntKind.u8.wrap x1) λx15=>Df (Go.bits .or .u8 x15 128) λx16=>Al Z2 λFb=>AI prog (GO 134 p5 n5 c5 Fb) (Hp.set Z2 Fb (.cells #[.int .u8 x16] 5 (0,0))) (CS λyd n18 xH y=>((0:Int)<=7/\7<=((IntKind.bits .u64:Nat):Int))/\Df (x1/2^Int.toNat 7) λx12=>FV R x12 yd n18 xH y)) (Df (IntKind.u8.wrap x1) λaF=>Al Z2 λeW=>AI prog (GO 134 p5 n5 c5 eW) (Hp.set Z2 eW (.cells #[.int .u8 aF] 5 (0,0))) (CS λl9 G eQ y=>R (.returned (.slice l9 G eQ)) y))):FV R x1 p5 n5 c5 Z2:=M.of h ok rfl
end FJ
namespace cK
variable {p0:Option Addr}{n0 c0:Nat}
def M:Fw:=⟨prog,158,f158,[162],[],false,[],[],[]⟩
def ok:M.Ok:=⟨.cons call162 (AH.nil),mixed,func158,by kernel_rfl⟩
def start (h:Al Z2 λG=>AG 162 #[.slice p0 n0 c0,(.slice (aD G 0) 1 1)] (Hp.set Z2 G (.cells #[(.string (ByteArray.mk #[95,95,110,97,109,101,95,95]))] 9 (0,0))) R (CS λp5 n5 c5 y=>R (.returned (.slice p5 n5 c5)) y)):Spec prog 158 #[.slice p0 n0 c0] Z2 R:=M.start h ok
end cK
namespace GX
variable {p0:Option Addr}{n0 c0:Nat}
def M:Fw:=⟨prog,166,f166,[163,167,204],[],false,[],[],[]⟩
def ok:M.Ok:=⟨.cons call163 (.cons call167 (.cons call204 (AH.nil))),mixed,func166,by kernel_rfl⟩
def start (h:AG 163 #[.slice p0 n0 c0] Z2 R (CI .u64 λx4 y=>AG 167 #[.slice p0 n0 c0] y R (CI .u64 λx6 G=>AG 204 #[.U x4,.U x6] G R (CI .u64 λx7 AK=>R (.returned (.U x7)) AK)))):Spec prog 166 #[.slice p0 n0 c0] Z2 R:=M.start h ok
end GX
namespace CO
variable {p0:Option Addr}{n0 c0:Nat}{x3:Int}
def M:Fw:=⟨prog,197,f197,[234],[],false,[],[],[(224,[(0,wL),(3,wI)])]⟩
def ok:M.Ok:=⟨.cons call234 (AH.nil),mixed,func197,by kernel_rfl⟩
def FV:=M.pt 0
def start (h:FV R p0 n0 c0 8 Z2):Spec prog 197 #[.slice p0 n0 c0] Z2 R:=M.start h ok
def A9 (h:Br ((n0:Int)<x3) (2≠(0:Int)/\Df (IntKind.i64.wrap (Int.tdiv x3 2)) λx11=>FV R p0 n0 c0 x11 Z2) (AL ((n0:Int)-x3)/\((0:Int)<=((n0:Int)-x3)/\((n0:Int)-x3)<=(n0:Int))/\AG 234 #[(.slice (E4 p0 (Int.toNat ((n0:Int)-x3)) c0 1) (n0-Int.toNat ((n0:Int)-x3)) (c0-Int.toNat ((n0:Int)-x3)))] Z2 R (λz y=>∃G KR,z=(.tuple #[.U G,.I KR])/\R (.returned (.U G)) y))):FV R p0 n0 c0 x3 Z2:=M.of h ok rfl
end CO
namespace Ee
variable {p0 p1:Option Addr}{n0 c0 n1 c1:Nat}
def M:Fw:=⟨prog,203,f203,[202,204],[],false,[],[],[]⟩
def ok:M.Ok:=⟨.cons call202 (.cons call204 (AH.nil)),mixed,func203,by kernel_rfl⟩
def start (h:Pq p1 λG o8=>In 0 (n1:Int)/\LI .u64 Z2 G (o8+1) λx10=>AG 202 #[.slice p0 n0 c0] Z2 R (CI .u64 λx6 y=>Kp [G] Z2 y/\AG 204 #[.U x6,.U x10] y R (CI .u64 λx11 AE=>R (.returned (.U x11)) AE))):Spec prog 203 #[.slice p0 n0 c0,.slice p1 n1 c1] Z2 R:=M.start h ok
end Ee
namespace eval_add
variable {x0 x1:Int}
def M:Fw:=⟨prog,211,f211,[213],[],false,[],[],[]⟩
def ok:M.Ok:=⟨.cons call213 (AH.nil),mixed,func211,by kernel_rfl⟩
def start (h:AG 213 #[.I 1,.U x0,.U x1] Z2 R (λz y=>∃H5 G,z=(.tuple #[.U H5,.bool G])/\R (.returned (.U H5)) y)):Spec prog 211 #[.U x0,.U x1] Z2 R:=M.start h ok
end eval_add
namespace EC
variable {q0:Option Addr}{v1:Value}
def M:Fw:=⟨prog,219,f219,[31,65,97],[],false,[],[],[(6,[(0,wQ),(1,wV)])]⟩
def ok:M.Ok:=⟨.cons call31 (.cons call65 (.cons call97 (AH.nil))),mixed,func219,by kernel_rfl⟩
def jU:=M.pt 0
def start (h:Pq q0 λb5 o5=>LI .i64 Z2 b5 (o5+1) λx7=>Br (x7=64) (AG 31 #[(.pointer (aD b5 o5))] Z2 R (λz y=>∃et RD ug G,z=(.agg #[.I et,.I RD,.string ug,.I G])/\AG 65 #[(.pointer (aD b5 o5)),.I 182,.agg #[.I et,.I RD,.string ug,.I G]] y R (λz AE=>z=(.tuple #[])/\jU R (aD b5 o5) v1 AE))) (jU R (aD b5 o5) v1 Z2)):Spec prog 219 #[.pointer q0,v1] Z2 R:=M.DJ h ok [(0,.o (.Q q0)),(1,.o (.V v1))] rfl rfl (by kernel_rfl)
def M4 (h:Pq q0 λHe Jb=>LI .i64 Z2 He (Jb+1) λx16=>AL (x16+1)/\AI prog (Instr.storeAt 3 (.pointer (aD He (Jb+1))) (.I (x16+1))) Z2 (λ_ y=>AG 97 #[(.pointer (aD He Jb))] y R (λz AE=>∃WQ U2 AXY AXZ,z=(.agg #[.I WQ,.I U2,.string AXY,.I AXZ])/\∃(f23:Nat) (G AG4:Array Value),v1=.func (.func f23) G AG4/\Enters prog f23/\Spec prog f23 (G++#[]++AG4) AE (Ab R (λz AK=>z=(.tuple #[])/\LI .i64 AK He (Jb+1) λJH=>AL (JH-1)/\AI prog (Instr.storeAt 3 (.pointer (aD He (Jb+1))) (.I (JH-1))) AK (λ_ Am=>R (.T #[]) Am)))))):jU R q0 v1 Z2:=M.of h ok rfl
end EC
namespace FX
variable {gh:Option Addr}{Rx cC:Nat}{mA s1:ByteArray}
def M:Fw:=⟨prog,228,f228,[248],[2],false,[],[],[]⟩
def ok:M.Ok:=⟨.cons call248 (AH.nil),mixed,func228,by kernel_rfl⟩
def start (h:∀b2:Nat,AG 248 #[.agg #[.slice gh Rx cC],.string s1] Z2 R (CB λt8 y=>R (.returned (.bool (!t8))) y)):Spec prog 228 #[.agg #[.slice gh Rx cC,.string mA],.string s1] Z2 R:=M.start h ok
end FX
end TwW
end
end
section
set_option maxRecDepth 100000
noncomputable section
namespace TwW
open Go Tw Go.Proofs.Tryz
variable [GF]{R:Rr}{Z2:Hp}

namespace UI
def M:Fw:=⟨prog,239,f239,[],[],false,[],[],[]⟩
def ok:M.Ok:=⟨AH.nil,mixed,func239,by kernel_rfl⟩
def start (h:Al Z2 λb1=>R (.returned (.slice (aD b1 0) 13 13)) (Hp.set Z2 b1 (.cells #[(.string (ByteArray.mk #[])),(.string (ByteArray.mk #[114,97,116,101])),(.string (ByteArray.mk #[105,110,99,114,101,97,115,101])),(.string (ByteArray.mk #[100,101,108,116,97])),(.string (ByteArray.mk #[115,117,109,95,111,118,101,114,95,116,105,109,101])),(.string (ByteArray.mk #[97,118,103,95,111,118,101,114,95,116,105,109,101])),(.string (ByteArray.mk #[109,105,110,95,111,118,101,114,95,116,105,109,101])),(.string (ByteArray.mk #[109,97,120,95,111,118,101,114,95,116,105,109,101])),(.string (ByteArray.mk #[99,111,117,110,116,95,111,118,101,114,95,116,105,109,101])),(.string (ByteArray.mk #[108,97,115,116,95,111,118,101,114,95,116,105,109,101])),(.string (ByteArray.mk #[119,97,118,101])),(.string (ByteArray.mk #[97,98,115])),(.string (ByteArray.mk #[102,108,111,111,114]))] 9 (0,0)))):Spec prog 239 #[] Z2 R:=M.start h ok
end UI
namespace cL
variable {x0:Int}
def M:Fw:=⟨prog,252,f252,[],[],false,[],[],[]⟩
def ok:M.Ok:=⟨AH.nil,mixed,func252,by kernel_rfl⟩
def start (h:Br (x0=1) (R (.B true) Z2) (Br (x0=2) (R (.B true) Z2) (Br (x0=4) (R (.B true) Z2) (R (.returned (.bool (decide (x0=8)))) Z2)))):Spec prog 252 #[.I x0] Z2 R:=M.start h ok
end cL
namespace CE
variable {x0 x1:Int}{t2 t7:Bool}{v6:Value}
def M:Fw:=⟨prog,293,f293,[],[],false,[],[],[(248,[(1,wI),(6,wV),(7,wB)]),(15988,[(1,wI),(6,wV),(7,wB)])]⟩
def ok:M.Ok:=⟨AH.nil,mixed,func293,by kernel_rfl⟩
def AJl:=M.pt 0
def TQ:=M.pt 1
def start (h:LI .u64 Z2 6 0 λx10=>(0<=x10/\x10<=((IntKind.bits .u64:Nat):Int))/\Df (x0/2^x10.toNat) λx11=>Br (x11≠0) (R (.T #[.float .f64 0,.bool false]) Z2) (AI prog (convert 27 258 (.U x0)) Z2 (λz y=>∃VX,(Value.float .f64 VX)=z/\Bo t2 (∃x17,YF prog (Op.unary .neg (Value.float .f64 VX)) y (Value.float .f64 x17)/\AJl R x1 (Value.float .f64 x17) false y) (AJl R x1 (Value.float .f64 VX) false y)))):Spec prog 293 #[.U x0,.I x1,.bool t2] Z2 R:=M.start h ok
def AEL (h:Br (x1=0) (R (.T #[v6,.bool true]) Z2) (Br (0<x1) (Br (x1<=37) (Br (22<x1) (LS Z2 9 0 λp32 n32 c32=>AL (x1-22)/\Pq p32 λb35 o35=>In (x1-22) (n32:Int)/\∃eu,Hp.ld Z2 ⟨b35,(o35+Int.toNat (x1-22)*1),none⟩=some (Value.float .f64 eu)/\AI prog (binOp .mul 258 v6 (Value.float .f64 eu)) Z2 (λz y=>∃U3,(Value.float .f64 U3)=z/\TQ R 22 (Value.float .f64 U3) t7 y)) (TQ R x1 v6 t7 Z2)) (Br (x1<0) (Br (((-22):Int)<=x1) (LS Z2 9 0 λaB UG cE=>Df (IntKind.i64.wrap (0-x1)) λG=>Pq aB λb61 o61=>In G (UG:Int)/\∃x62,Hp.ld Z2 ⟨b61,(o61+G.toNat*1),none⟩=some (Value.float .f64 x62)/\AI prog (binOp .quo 258 v6 (Value.float .f64 x62)) Z2 (λz y=>∃x63,(Value.float .f64 x63)=z/\R (.T #[(Value.float .f64 x63),.bool true]) y)) (R (.T #[v6,.bool t7]) Z2)) (R (.T #[v6,.bool t7]) Z2))) (Br (x1<0) (Br (((-22):Int)<=x1) (LS Z2 9 0 λaB UG cE=>Df (IntKind.i64.wrap (0-x1)) λG=>Pq aB λb61 o61=>In G (UG:Int)/\∃x62,Hp.ld Z2 ⟨b61,(o61+G.toNat*1),none⟩=some (Value.float .f64 x62)/\AI prog (binOp .quo 258 v6 (Value.float .f64 x62)) Z2 (λz y=>∃x63,(Value.float .f64 x63)=z/\R (.T #[(Value.float .f64 x63),.bool true]) y)) (R (.T #[v6,.bool t7]) Z2)) (R (.T #[v6,.bool t7]) Z2)))):AJl R x1 v6 t7 Z2:=M.of h ok rfl
end CE
namespace Jd
variable {s0 s1:ByteArray}
def M:Fw:=⟨prog,296,f296,[321],[],false,[],[],[]⟩
def ok:M.Ok:=⟨.cons call321 (AH.nil),mixed,func296,by kernel_rfl⟩
def start (h:AG 321 #[.string s0,.string s1] Z2 R (CB λt7 y=>R (.B t7) y)):Spec prog 296 #[.string s0,.string s1] Z2 R:=M.start h ok
end Jd
namespace DE
variable {p0:Option Addr}{n0 c0:Nat}{x1 x2:Int}
def M:Fw:=⟨prog,360,f360,[36],[],false,[],[],[]⟩
def ok:M.Ok:=⟨.cons call36 (AH.nil),mixed,func360,by kernel_rfl⟩
def start (h:Pq p0 λb9 o9=>In x1 (n0:Int)/\LQ Z2 b9 (o9+x1.toNat*1) λq10=>Pq q10 λE2 aX=>LS Z2 E2 aX λuh n13 xJ=>Pq uh λHe Jb=>In 0 (n13:Int)/\LS Z2 He Jb λRe n16 P9=>In x2 (n0:Int)/\LQ Z2 b9 (o9+x2.toNat*1) λq20=>Pq q20 λyi o21=>LS Z2 yi o21 λl9 G eQ=>Pq l9 λaZ gi=>In 0 (G:Int)/\LS Z2 aZ gi λmD n26 mE=>AG 36 #[.slice Re n16 P9,.slice mD n26 mE] Z2 R (CI .i64 λJH y=>R (.returned (.bool (decide (JH<0)))) y)):Spec prog 360 #[.slice p0 n0 c0,.I x1,.I x2] Z2 R:=M.start h ok
end DE
end TwW
end
end
section
set_option maxRecDepth 100000
noncomputable section
namespace TwW
open Go Tw Go.Proofs.Tryz
variable [GF]{R:Rr}{Z2:Hp}

namespace Dm
variable {p0 p3:Option Addr}{n0 c0 n3 c3:Nat}{x4:Int}
def M:Fw:=⟨prog,12,f12,[39,40],[],false,[],[],[(464,[(0,wL),(3,wL),(4,wI)])]⟩
def ok:M.Ok:=⟨.cons call39 (.cons call40 (AH.nil)),mixed,func12,by kernel_rfl⟩
def CA:=M.pt 0
def start (h:CA R p0 n0 c0 none 0 0 0 Z2):Spec prog 12 #[.slice p0 n0 c0] Z2 R:=M.start h ok
def A1 (h:Br (x4<(n0:Int)) (Pq p0 λHe G=>In x4 (n0:Int)/\LS Z2 He (G+x4.toNat*2) λRe n16 P9=>In x4 (n0:Int)/\LS Z2 He ((G+x4.toNat*2)+1) λui n22 oD=>AG 39 #[.slice Re n16 P9] Z2 R (CS λrU n17 cM y=>Kp [He] Z2 y/\AG 40 #[.slice ui n22 oD] y R (CS λl9 n23 eQ AE=>Al AE λNA=>AI prog (GO 22 p3 n3 c3 NA) (Hp.set AE NA (.cells #[.slice rU n17 cM,.slice l9 n23 eQ] 98 (0,0))) (CS λmD n26 mE AK=>AL (x4+1)/\CA R (aD He G) n0 c0 mD n26 mE (x4+1) AK)))) (R (.returned (.slice p3 n3 c3)) Z2)):CA R p0 n0 c0 p3 n3 c3 x4 Z2:=M.of h ok rfl
end Dm
namespace Fc
variable {q0:Option Addr}
def M:Fw:=⟨prog,32,f32,[31,65],[],false,[],[],[(3,[(0,wQ)])]⟩
def ok:M.Ok:=⟨.cons call31 (.cons call65 (AH.nil)),mixed,func32,by kernel_rfl⟩
def eX:=M.pt 0
def start (h:AG 31 #[.pointer q0] Z2 R (λz y=>∃cG eV s3c x3d,z=(.agg #[.I cG,.I eV,.string s3c,.I x3d])/\Br (cG=0) (AG 31 #[.pointer q0] y R (λz AE=>∃E9 FI G x8d,z=(.agg #[.I E9,.I FI,.string G,.I x8d])/\AG 65 #[.pointer q0,.I 180,.agg #[.I E9,.I FI,.string G,.I x8d]] AE R (λz AK=>z=(.tuple #[])/\eX R q0 AK))) (eX R q0 y))):Spec prog 32 #[.pointer q0] Z2 R:=M.start h ok
def LD (h:AG 31 #[.pointer q0] Z2 R (λz y=>∃ew U4 yo G,z=(.agg #[.I ew,.I U4,.string yo,.I G])/\AG 65 #[.pointer q0,.I 181,.agg #[.I ew,.I U4,.string yo,.I G]] y R (λz AE=>z=(.tuple #[])/\R (.T #[]) AE))):eX R q0 Z2:=M.of h ok rfl
end Fc
namespace Qf
variable {p0 p1:Option Addr}{n0 c0 n1 c1:Nat}
def M:Fw:=⟨prog,36,f36,[72],[],false,[],[],[]⟩
def ok:M.Ok:=⟨.cons call72 (AH.nil),mixed,func36,by kernel_rfl⟩
def start (h:AG 72 #[.slice p0 n0 c0,.slice p1 n1 c1,(.func (.func 73) #[] #[])] Z2 R (CI .i64 λx7 y=>R (.returned (.I x7)) y)):Spec prog 36 #[.slice p0 n0 c0,.slice p1 n1 c1] Z2 R:=M.start h ok
end Qf
namespace cP
variable {p0 p1:Option Addr}{n0 c0 n1 c1:Nat}
def M:Fw:=⟨prog,44,f44,[19,24],[],false,[],[],[]⟩
def ok:M.Ok:=⟨.cons call19 (.cons call24 (AH.nil)),mixed,func44,by kernel_rfl⟩
def start (h:AG 24 #[.slice p0 n0 c0] Z2 R (λz y=>∃H5 uV G,z=(.tuple #[.I H5,.I uV,.I G])/\Br (G≠0) (R (.returned (.I 220)) y) (Br (H5=3) (R (.returned (.I 220)) y) (AG 19 #[.slice p1 n1 c1] y R (CI .i64 λGA AE=>Br (GA≠0) (R (.returned (.I 224)) AE) (R (.returned (.I 0)) AE)))))):Spec prog 44 #[.slice p0 n0 c0,.slice p1 n1 c1] Z2 R:=M.start h ok
end cP
namespace C5
variable {De Dl cG eV VX x15:Int}{rV ym p4 uh:Option Addr}{gj rW xI yn n4 c4 n13 xJ:Nat}
def M:Fw:=⟨prog,53,f53,[41,42,84],[1,3],false,[],[],[(1000,[(3,.X 43 [.I .u64,.I .i64,.L]),(4,wL),(13,wL),(14,wI),(15,wI)])]⟩
def ok:M.Ok:=⟨.cons call41 (.cons call42 (.cons call84 (AH.nil))),mixed,func53,by kernel_rfl⟩
def HG:=M.pt 0
def start (h:∀b1:Nat,AG 41 #[.agg #[.U De,.I Dl,.slice rV gj rW]] Z2 R (CI .i64 λx8 y=>Br (x8≠0) (R (.returned (.N)) y) (AG 42 #[.agg #[.U De,.I Dl,.slice rV gj rW]] y R (λz AE=>∃et RD G APS APT,z=(.agg #[.U et,.I RD,.slice G APS APT])/\∀b3:Nat,AG 84 #[.agg #[.U De,.I Dl,.slice rV gj rW]] AE R (CS λuh n13 xJ AK=>HG R et RD G APS APT none 0 0 uh n13 xJ (n13:Int) 0 AK))))):Spec prog 53 #[.agg #[.U De,.I Dl,.slice rV gj rW]] Z2 R:=M.start h ok
def CC (h:Br (x15<VX) (Pq uh λFb Ux=>In x15 (n13:Int)/\LI .i64 Z2 Fb (Ux+x15.toNat*1) λMA=>Pq ym λTR U5=>In MA (xI:Int)/\∃uj G APV APW APX APY APZ APa APb,Az Z2 TR (U5+MA.toNat*9) [.U uj,.I G,.I APV,.I APW,.slice APX APY APZ,.I APa,.I APb]/\Al Z2 λmF=>AI prog (GO 119 p4 n4 c4 mF) (Hp.set Z2 mF (.cells #[.U uj,.I G,.I APV,.I APW,.slice APX APY APZ,.I APa,.I APb] 89 (0,0))) (CS λp27 n27 xK y=>AL (x15+1)/\HG R cG eV (aD TR U5) xI yn p27 n27 xK (aD Fb Ux) n13 xJ VX (x15+1) y)) (R (.returned (.slice p4 n4 c4)) Z2)):HG R cG eV ym xI yn p4 n4 c4 uh n13 xJ VX x15 Z2:=M.Uu h ok rfl λ_=>by kernel_rfl
end C5
namespace WT
variable {x0:Int}
def M:Fw:=⟨prog,87,f87,[],[],false,[],[],[]⟩
def ok:M.Ok:=⟨AH.nil,mixed,func87,by kernel_rfl⟩
def start (h:Al Z2 λb1=>R (.returned (.func (.func 119) #[] #[(.pointer (aD b1 0))])) (Hp.set Z2 b1 (.cells #[.I x0] 3 (0,0)))):Spec prog 87 #[.I x0] Z2 R:=M.start h ok
end WT
namespace WU
def M:Fw:=⟨prog,110,f110,[],[],false,[],[],[]⟩
def ok:M.Ok:=⟨AH.nil,mixed,func110,by kernel_rfl⟩
def start (h:Al Z2 λb1=>R (.returned (.slice (aD b1 0) 8 8)) (Hp.set Z2 b1 (.cells #[.nilFunc,(.func (.func 129) #[] #[]),(.func (.func 130) #[] #[]),(.func (.func 131) #[] #[]),(.func (.func 132) #[] #[]),(.func (.func 133) #[] #[]),(.func (.func 134) #[] #[]),(.func (.func 135) #[] #[])] 207 (0,0)))):Spec prog 110 #[] Z2 R:=M.start h ok
end WU
namespace Hg
variable {De Dl U6 QI JE MB C4 CU Ez EG Dd Dj x7 x8:Int}{U7 E1:ByteArray}{cQ WV E5 FD p6:Option Addr}{ad cR VZ WW E6 E7 E8 FE n6 c6:Nat}{RE EO:Bool}
def M:Fw:=⟨prog,114,f114,[118],[1],false,[],[],[(104,[(1,.X 127 [.I .i64,.I .i64,.T,.L,.I .i64,.I .i64,.I .i64,.L,.B,.I .i64]),(6,wL),(7,wI),(8,wI)])]⟩
def ok:M.Ok:=⟨.cons call118 (AH.nil),mixed,func114,by kernel_rfl⟩
def GG:=M.pt 0
def start (h:∀b1:Nat,GG R De Dl U7 cQ ad cR U6 QI JE WV VZ WW RE MB WV VZ WW (VZ:Int) 0 Z2):Spec prog 114 #[.agg #[.I De,.I Dl,.string U7,.slice cQ ad cR,.I U6,.I QI,.I JE,.slice WV VZ WW,.bool RE,.I MB]] Z2 R:=M.start h ok
def BG (h:Br (x8<x7) (Pq p6 λDk G=>In x8 (n6:Int)/\LT Z2 Dk (G+x8.toNat*1) λs11=>AG 118 #[.string s11] Z2 R (CB λt13 y=>Bn t13 (R (.B false) y) (AL (x8+1)/\GG R C4 CU E1 E5 E6 E7 Ez EG Dd FD E8 FE EO Dj (aD Dk G) n6 c6 x7 (x8+1) y))) (Br ((E8:Int)=0) (R (.B true) Z2) (R (.returned (.bool (decide (Dd≠0)))) Z2))):GG R C4 CU E1 E5 E6 E7 Ez EG Dd FD E8 FE EO Dj p6 n6 c6 x7 x8 Z2:=M.Uu h ok rfl λ_=>by kernel_rfl
end Hg
namespace A2
variable {q0 E5 FD p2 IW J5 JI Hy Gq Gv Re:Option Addr}{C4 CU Ez EG Dd Dj Fs Hf J6 IC J7 Km Hw Hx E9 FI x17 MA:Int}{E1 Jc:ByteArray}{E6 E7 E8 FE n2 c2 IX IY J8 J9 JJ JK Hz H0 Gr Gt Gw Gx n16 P9:Nat}{EO Kn:Bool}
def M:Fw:=⟨prog,130,f130,[153,154],[4,6,8,10],false,[(7,15,false)],[],[(232,[(0,wQ),(4,.X 127 [.I .i64,.I .i64,.T,.L,.I .i64,.I .i64,.I .i64,.L,.B,.I .i64]),(6,.X 164 [.I .i64,.I .u64,.L,.L]),(8,.X 164 [.I .i64,.I .u64,.L,.L]),(16,wL),(17,wI),(18,wI)]),(935,[(0,wQ),(4,.X 127 [.I .i64,.I .i64,.T,.L,.I .i64,.I .i64,.I .i64,.L,.B,.I .i64]),(6,.X 164 [.I .i64,.I .u64,.L,.L]),(8,.X 164 [.I .i64,.I .u64,.L,.L]),(16,wL),(17,wI),(18,wI)])]⟩
def ok:M.Ok:=⟨.cons call153 (.cons call154 (AH.nil)),mixed,func130,by kernel_rfl⟩
def A0:=M.pt 0
def HF:=M.pt 1
def start (h:∀b4:Nat,∀b6:Nat,∀b8:Nat,Pq q0 λHe G=>LS Z2 He G λRe n16 P9=>A0 R (aD He G) C4 CU E1 E5 E6 E7 Ez EG Dd FD E8 FE EO Dj 0 0 none 0 0 none 0 0 2 0 none 0 0 none 0 0 Re n16 P9 (n16:Int) 0 Z2):Spec prog 130 #[.pointer q0,.agg #[.I C4,.I CU,.string E1,.slice E5 E6 E7,.I Ez,.I EG,.I Dd,.slice FD E8 FE,.bool EO,.I Dj],.slice p2 n2 c2] Z2 R:=M.start h ok
def AX (h:Br (MA<x17) (Pq Re λgk oE=>In MA (n16:Int)/\∃AJp AJq AJr APc APd APe,Az Z2 gk (oE+MA.toNat*2) [.slice AJp AJq AJr,.slice APc APd APe]/\∀Dk:Nat,Pq q0 λNA aG=>LI .i64 Z2 NA (aG+1) λJH=>AL (JH-IC)/\AL ((JH-IC)-300)/\LI .i64 Z2 NA (aG+1) λTJ=>AL (TJ-IC)/\AG 153 #[.slice APc APd APe,(.I ((JH-IC)-300)),(.I (TJ-IC))] Z2 R (CS λp39 G c39 y=>Br ((G:Int)=0) (HF R (aD NA aG) Fs Hf Jc IW IX IY J6 IC J7 J5 J8 J9 Kn Km Hw Hx JI JJ JK Hy Hz H0 E9 FI Gq Gr Gt Gv Gw Gx (aD gk oE) n16 P9 x17 MA y) (AL ((G:Int)-1)/\Pq p39 λU8 o48=>In (((G:Int)-1)) (G:Int)/\LI .u64 y U8 ((o48+Int.toNat ((G:Int)-1)*2)+1) λx50=>Br (x50=9218868437227405314) (HF R (aD NA aG) Fs Hf Jc IW IX IY J6 IC J7 J5 J8 J9 Kn Km Hw Hx JI JJ JK Hy Hz H0 E9 FI Gq Gr Gt Gv Gw Gx (aD gk oE) n16 P9 x17 MA y) (AG 154 #[.slice IW IX IY,.slice AJp AJq AJr] y R (CB λt58 AE=>Bn t58 (HF R (aD NA aG) Fs Hf Jc IW IX IY J6 IC J7 J5 J8 J9 Kn Km Hw Hx JI JJ JK Hy Hz H0 E9 FI Gq Gr Gt Gv Gw Gx (aD gk oE) n16 P9 x17 MA AE) (AL ((G:Int)-1)/\In (((G:Int)-1)) (G:Int)/\LI .u64 AE U8 ((o48+Int.toNat ((G:Int)-1)*2)+1) λx71=>Al AE λb73=>AI prog (GO 105 Gq Gr Gt b73) (Hp.set AE b73 (.cells #[.slice AJp AJq AJr,.U x71] 109 (0,0))) (CS λp74 n74 c74 AK=>HF R (aD NA aG) Fs Hf Jc IW IX IY J6 IC J7 J5 J8 J9 Kn Km Hw Hx JI JJ JK Hy Hz H0 E9 FI p74 n74 c74 Gv Gw Gx (aD gk oE) n16 P9 x17 MA AK))))))) (R (.T #[.agg #[.I E9,.U FI,.slice Gq Gr Gt,.slice Gv Gw Gx],.I 0]) Z2)):A0 R q0 Fs Hf Jc IW IX IY J6 IC J7 J5 J8 J9 Kn Km Hw Hx JI JJ JK Hy Hz H0 E9 FI Gq Gr Gt Gv Gw Gx Re n16 P9 x17 MA Z2:=M.of3 h ok rfl λ_ _ _=>by kernel_rfl
def Ea (h:AL (MA+1)/\A0 R q0 Fs Hf Jc IW IX IY J6 IC J7 J5 J8 J9 Kn Km Hw Hx JI JJ JK Hy Hz H0 E9 FI Gq Gr Gt Gv Gw Gx Re n16 P9 x17 (MA+1) Z2):HF R q0 Fs Hf Jc IW IX IY J6 IC J7 J5 J8 J9 Kn Km Hw Hx JI JJ JK Hy Hz H0 E9 FI Gq Gr Gt Gv Gw Gx Re n16 P9 x17 MA Z2:=M.of3 h ok rfl λ_ _ _=>by kernel_rfl
end A2
namespace Ah
variable {q0 E5 FD p2 IW J5 JI Hy Gq Gv R3 oF jF Mb rY:Option Addr}{C4 CU Ez EG Dd Dj Fs Hf J6 IC J7 Km Hw Hx E9 FI FK GA yp ey:Int}{E1 Jc:ByteArray}{E6 E7 E8 FE n2 c2 IX IY J8 J9 JJ JK Hz H0 Gr Gt Gw Gx n21 QJ oG oH WM jH n11 Mc n46 oI:Nat}{EO Kn:Bool}
def M:Fw:=⟨prog,131,f131,[153,154,155],[4,6,8,10,13],false,[],[],[(232,[(0,wQ),(4,.X 127 [.I .i64,.I .i64,.T,.L,.I .i64,.I .i64,.I .i64,.L,.B,.I .i64]),(6,.X 164 [.I .i64,.I .u64,.L,.L]),(8,.X 164 [.I .i64,.I .u64,.L,.L]),(21,wL),(22,wI),(23,wI)]),(239208,[(0,wQ),(4,.X 127 [.I .i64,.I .i64,.T,.L,.I .i64,.I .i64,.I .i64,.L,.B,.I .i64]),(6,.X 164 [.I .i64,.I .u64,.L,.L]),(8,.X 164 [.I .i64,.I .u64,.L,.L]),(10,.X 98 [.L,.L]),(11,wL),(21,wL),(22,wI),(23,wI),(46,wL),(47,wI),(48,wI)]),(935,[(0,wQ),(4,.X 127 [.I .i64,.I .i64,.T,.L,.I .i64,.I .i64,.I .i64,.L,.B,.I .i64]),(6,.X 164 [.I .i64,.I .u64,.L,.L]),(8,.X 164 [.I .i64,.I .u64,.L,.L]),(21,wL),(22,wI),(23,wI)]),(956839,[(0,wQ),(4,.X 127 [.I .i64,.I .i64,.T,.L,.I .i64,.I .i64,.I .i64,.L,.B,.I .i64]),(6,.X 164 [.I .i64,.I .u64,.L,.L]),(8,.X 164 [.I .i64,.I .u64,.L,.L]),(10,.X 98 [.L,.L]),(11,wL),(21,wL),(22,wI),(23,wI),(46,wL),(47,wI),(48,wI)])]⟩
def ok:M.Ok:=⟨.cons call153 (.cons call154 (.cons call155 (AH.nil))),mixed,func131,by kernel_rfl⟩
def A0:=M.pt 0
def NB:=M.pt 1
def QK:=M.pt 2
def aU:=M.pt 3
def start (h:∀b4:Nat,∀b6:Nat,AG 155 #[.I Ez] Z2 R (CI .u64 λx16 y=>∀b8:Nat,Pq q0 λG ae=>LS y G ae λR3 n21 QJ=>A0 R (aD G ae) C4 CU E1 E5 E6 E7 Ez EG Dd FD E8 FE EO Dj 0 0 none 0 0 none 0 0 3 x16 none 0 0 none 0 0 R3 n21 QJ (n21:Int) 0 y)):Spec prog 131 #[.pointer q0,.agg #[.I C4,.I CU,.string E1,.slice E5 E6 E7,.I Ez,.I EG,.I Dd,.slice FD E8 FE,.bool EO,.I Dj],.slice p2 n2 c2] Z2 R:=M.start h ok
def AX (h:Br (GA<FK) (Pq R3 λNA aG=>In GA (n21:Int)/\∃APg APh APi G AJu AJv,Az Z2 NA (aG+GA.toNat*2) [.slice APg APh APi,.slice G AJu AJv]/\∀Dk:Nat,Pq q0 λb30 o30=>LI .i64 Z2 b30 (o30+1) λyq=>AL (yq-IC)/\AL ((yq-IC)-J6)/\LI .i64 Z2 b30 (o30+1) λjV=>AL (jV-IC)/\AG 153 #[.slice G AJu AJv,(.I ((yq-IC)-J6)),(.I (jV-IC))] Z2 R (CS λrY n46 oI y=>NB R (aD b30 o30) Fs Hf Jc IW IX IY J6 IC J7 J5 J8 J9 Kn Km Hw Hx JI JJ JK Hy Hz H0 E9 FI Gq Gr Gt Gv Gw Gx APg APh APi G AJu AJv none 0 0 (aD NA aG) n21 QJ FK GA rY n46 oI (n46:Int) 0 y)) (R (.T #[.agg #[.I E9,.U FI,.slice Gq Gr Gt,.slice Gv Gw Gx],.I 0]) Z2)):A0 R q0 Fs Hf Jc IW IX IY J6 IC J7 J5 J8 J9 Kn Km Hw Hx JI JJ JK Hy Hz H0 E9 FI Gq Gr Gt Gv Gw Gx R3 n21 QJ FK GA Z2:=M.of3 h ok rfl λ_ _ _=>by kernel_rfl
def LG (h:Br (ey<yp) (Pq rY λWX G=>In ey (n46:Int)/\∃AXj jD,Az Z2 WX (G+ey.toNat*2) [.I AXj,.U jD]/\∀Hr:Nat,Br (jD≠9218868437227405314) (Al Z2 λb58=>AI prog (GO 60 Mb n11 Mc b58) (Hp.set Z2 b58 (.cells #[.U jD] 27 (0,0))) (CS λp59 n59 c59 y=>aU R q0 Fs Hf Jc IW IX IY J6 IC J7 J5 J8 J9 Kn Km Hw Hx JI JJ JK Hy Hz H0 E9 FI Gq Gr Gt Gv Gw Gx oF oG oH jF WM jH p59 n59 c59 R3 n21 QJ FK GA (aD WX G) n46 oI yp ey y)) (aU R q0 Fs Hf Jc IW IX IY J6 IC J7 J5 J8 J9 Kn Km Hw Hx JI JJ JK Hy Hz H0 E9 FI Gq Gr Gt Gv Gw Gx oF oG oH jF WM jH Mb n11 Mc R3 n21 QJ FK GA (aD WX G) n46 oI yp ey Z2)) (Br (0<(n11:Int)) (AG 154 #[.slice IW IX IY,.slice oF oG oH] Z2 R (CB λt69 y=>Bo t69 (Al y λb77=>AI prog (GO 162 Gv Gw Gx b77) (Hp.set y b77 (.cells #[.slice oF oG oH,.slice Mb n11 Mc] 234 (0,0))) (CS λp78 n78 c78 AE=>QK R q0 Fs Hf Jc IW IX IY J6 IC J7 J5 J8 J9 Kn Km Hw Hx JI JJ JK Hy Hz H0 E9 FI Gq Gr Gt p78 n78 c78 R3 n21 QJ FK GA AE)) (QK R q0 Fs Hf Jc IW IX IY J6 IC J7 J5 J8 J9 Kn Km Hw Hx JI JJ JK Hy Hz H0 E9 FI Gq Gr Gt Gv Gw Gx R3 n21 QJ FK GA y))) (QK R q0 Fs Hf Jc IW IX IY J6 IC J7 J5 J8 J9 Kn Km Hw Hx JI JJ JK Hy Hz H0 E9 FI Gq Gr Gt Gv Gw Gx R3 n21 QJ FK GA Z2))):NB R q0 Fs Hf Jc IW IX IY J6 IC J7 J5 J8 J9 Kn Km Hw Hx JI JJ JK Hy Hz H0 E9 FI Gq Gr Gt Gv Gw Gx oF oG oH jF WM jH Mb n11 Mc R3 n21 QJ FK GA rY n46 oI yp ey Z2:=M.of4 h ok rfl λ_ _ _ _=>by kernel_rfl
def LH (h:AL (GA+1)/\A0 R q0 Fs Hf Jc IW IX IY J6 IC J7 J5 J8 J9 Kn Km Hw Hx JI JJ JK Hy Hz H0 E9 FI Gq Gr Gt Gv Gw Gx R3 n21 QJ FK (GA+1) Z2):QK R q0 Fs Hf Jc IW IX IY J6 IC J7 J5 J8 J9 Kn Km Hw Hx JI JJ JK Hy Hz H0 E9 FI Gq Gr Gt Gv Gw Gx R3 n21 QJ FK GA Z2:=M.of3 h ok rfl λ_ _ _=>by kernel_rfl
def AER (h:AL (ey+1)/\NB R q0 Fs Hf Jc IW IX IY J6 IC J7 J5 J8 J9 Kn Km Hw Hx JI JJ JK Hy Hz H0 E9 FI Gq Gr Gt Gv Gw Gx oF oG oH jF WM jH Mb n11 Mc R3 n21 QJ FK GA rY n46 oI yp (ey+1) Z2):aU R q0 Fs Hf Jc IW IX IY J6 IC J7 J5 J8 J9 Kn Km Hw Hx JI JJ JK Hy Hz H0 E9 FI Gq Gr Gt Gv Gw Gx oF oG oH jF WM jH Mb n11 Mc R3 n21 QJ FK GA rY n46 oI yp ey Z2:=M.of4 h ok rfl λ_ _ _ _=>by kernel_rfl
end Ah
namespace Qh
variable {p0:Option Addr}{n0 c0:Nat}{s1:ByteArray}
def M:Fw:=⟨prog,141,f141,[140],[],false,[],[],[]⟩
def ok:M.Ok:=⟨.cons call140 (AH.nil),mixed,func141,by kernel_rfl⟩
def start (h:Df (IntKind.u64.wrap (s1.size:Int)) λx8=>AG 140 #[.slice p0 n0 c0,.U x8] Z2 R (CS λp9 n9 c9 y=>AI prog (Builtin.append_ #[134,9] 134 #[.slice p9 n9 c9,.string s1]) y (CS λMb n11 Mc G=>R (.returned (.slice Mb n11 Mc)) G))):Spec prog 141 #[.slice p0 n0 c0,.string s1] Z2 R:=M.start h ok
end Qh
namespace UJ
variable {p0:Option Addr}{n0 c0:Nat}{x1 x2:Int}
def M:Fw:=⟨prog,153,f153,[184],[],false,[],[],[]⟩
def ok:M.Ok:=⟨.cons call184 (AH.nil),mixed,func153,by kernel_rfl⟩
def start (h:AG 184 #[.slice p0 n0 c0,.I x1,(.func (.func 185) #[] #[])] Z2 R (λz y=>∃HI AXm,z=(.tuple #[.I HI,.bool AXm])/\AG 184 #[.slice p0 n0 c0,.I x2,(.func (.func 186) #[] #[])] y R (λz AE=>∃G AXn,z=(.tuple #[.I G,.bool AXn])/\((0:Int)<=(if G<HI then G else HI)/\(if G<HI then G else HI)<=G/\G<=(c0:Int))/\R (.returned (.slice (E4 p0 (Int.toNat (if G<HI then G else HI)) c0 2) (G.toNat-Int.toNat (if G<HI then G else HI)) (c0-Int.toNat (if G<HI then G else HI)))) AE))):Spec prog 153 #[.slice p0 n0 c0,.I x1,.I x2] Z2 R:=M.start h ok
end UJ
namespace Fe
variable {p0 p1 p5 p9:Option Addr}{n0 c0 n1 c1 n5 c5 n9 c9:Nat}{x10 x11:Int}
def M:Fw:=⟨prog,154,f154,[117,187,188,189],[7],false,[],[],[(232,[(1,wL),(5,wL),(9,wL),(10,wI),(11,wI)])]⟩
def ok:M.Ok:=⟨.cons call117 (.cons call187 (.cons call188 (.cons call189 (AH.nil)))),mixed,func154,by kernel_rfl⟩
def A0:=M.pt 0
def start (h:AG 187 #[] Z2 R (CS λp8 n8 c8 y=>A0 R p1 n1 c1 p8 n8 c8 p0 n0 c0 (n0:Int) 0 y)):Spec prog 154 #[.slice p0 n0 c0,.slice p1 n1 c1] Z2 R:=M.start h ok
def AX (h:Br (x11<x10) (Pq p9 λHr Uw=>In x11 (n9:Int)/\∃HI nr eY,Az Z2 Hr (Uw+x11.toNat*3) [.I HI,.string nr,.string eY]/\∀b7:Nat,AG 117 #[.I HI] Z2 R (CB λt17 y=>Bn t17 (R (.B false) y) (Pq p5 λTR U5=>In HI (n5:Int)/\∃G,Hp.ld y ⟨TR,(U5+HI.toNat*1),none⟩=some G/\AG 188 #[.string eY] y R (λz AE=>∃RF QL RG,z=(.agg #[.slice RF QL RG])/\Kp [TR] y AE/\AG 189 #[.slice p1 n1 c1,.string nr] AE R (CT λs34 AK=>Kp [TR] AE AK/\∃(f35:Nat) (jW jX:Array Value),G=.func (.func f35) jW jX/\Enters prog f35/\Spec prog f35 (jW++#[.agg #[.slice RF QL RG,.string eY],.string s34]++jX) AK (Ab R (CB λt35 Am=>Bn t35 (R (.B false) Am) (AL (x11+1)/\A0 R p1 n1 c1 (aD TR U5) n5 c5 (aD Hr Uw) n9 c9 x10 (x11+1) Am)))))))) (R (.B true) Z2)):A0 R p1 n1 c1 p5 n5 c5 p9 n9 c9 x10 x11 Z2:=M.of h ok rfl
end Fe
namespace WY
variable {x0:Int}
def M:Fw:=⟨prog,155,f155,[],[],false,[],[],[]⟩
def ok:M.Ok:=⟨AH.nil,mixed,func155,by kernel_rfl⟩
def start (h:AI prog (convert 2 258 (.I x0)) Z2 (λz y=>∃x4,(Value.float .f64 x4)=z/\EN prog 190 #[(Value.float .f64 x4)] y (CI .u64 λx5 G=>R (.returned (.U x5)) G))):Spec prog 155 #[.I x0] Z2 R:=M.start h ok
end WY
namespace LJ
variable {x0:Int}
def M:Fw:=⟨prog,157,f157,[183,192,193],[],false,[],[],[]⟩
def ok:M.Ok:=⟨.cons call183 (.cons call192 (.cons call193 (AH.nil))),mixed,func157,by kernel_rfl⟩
def start (h:AG 192 #[.U x0] Z2 R (λz y=>∃x4,(Value.float .f64 x4)=z/\AG 193 #[(Value.float .f64 x4)] y R (λz G=>∃x5,(Value.float .f64 x5)=z/\AG 183 #[(Value.float .f64 x5)] G R (CI .u64 λx6 AK=>R (.returned (.U x6)) AK)))):Spec prog 157 #[.U x0] Z2 R:=M.start h ok
end LJ
namespace Hh
variable {p0 Mb:Option Addr}{n0 c0 n11 Mc:Nat}{x3 x12 Fq:Int}
def M:Fw:=⟨prog,163,f163,[196,211],[],false,[],[],[(232,[(3,wU),(11,wL),(12,wI),(13,wI)])]⟩
def ok:M.Ok:=⟨.cons call196 (.cons call211 (AH.nil)),mixed,func163,by kernel_rfl⟩
def A0:=M.pt 0
def start (h:Pq p0 λb7 G=>In 0 (n0:Int)/\LI .u64 Z2 b7 G λx8=>AG 196 #[.U x8] Z2 R (CI .u64 λx9 y=>((0:Int)<=1/\1<=(n0:Int))/\A0 R x9 ((E4 (aD b7 G) (1) c0 1)) (n0-1) (c0-1) ((((n0-1):Nat):Int)) 0 y)):Spec prog 163 #[.slice p0 n0 c0] Z2 R:=M.start h ok
def AX (h:Br (Fq<x12) (Pq Mb λG jL=>In Fq (n11:Int)/\LI .u64 Z2 G (jL+Fq.toNat*1) λx16=>AG 211 #[.U x3,.U x16] Z2 R (CI .u64 λCd y=>AL (Fq+1)/\A0 R Cd (aD G jL) n11 Mc x12 (Fq+1) y)) (R (.returned (.U x3)) Z2)):A0 R x3 Mb n11 Mc x12 Fq Z2:=M.of h ok rfl
end Hh
namespace Ef
variable {x0:Int}{b1 b2:Nat}
def M:Fw:=⟨prog,171,f171,[168],[],false,[],[],[]⟩
def ok:M.Ok:=⟨.cons call168 (AH.nil),mixed,func171,by kernel_rfl⟩
def start (h:∃Hw Hx s6c Hy Hz H0 x6e x6f x6g p6h n6h G t6i x6j,Az Z2 b1 0 [.I Hw,.I Hx,.string s6c,.slice Hy Hz H0,.I x6e,.I x6f,.I x6g,.slice p6h n6h G,.bool t6i,.I x6j]/\LI .u64 Z2 b2 1 λx9=>AG 168 #[.agg #[.I Hw,.I Hx,.string s6c,.slice Hy Hz H0,.I x6e,.I x6f,.I x6g,.slice p6h n6h G,.bool t6i,.I x6j],.U x0,.U x9] Z2 R (λz y=>∃H5 WL,z=(.tuple #[.U H5,.bool WL])/\R (.T #[.U H5,.bool WL]) y)):Spec prog 171 #[.U x0,(.pointer (aD b1 0)),(.pointer (aD b2 0))] Z2 R:=M.start h ok
end Ef
namespace KU
variable {p0 p7:Option Addr}{n0 c0 n7 c7:Nat}{s1:ByteArray}{x8 x9:Int}
def M:Fw:=⟨prog,189,f189,[],[6],false,[],[],[(104,[(1,wT),(7,wL),(8,wI),(9,wI)])]⟩
def ok:M.Ok:=⟨AH.nil,mixed,func189,by kernel_rfl⟩
def GG:=M.pt 0
def start (h:GG R s1 p0 n0 c0 (n0:Int) 0 Z2):Spec prog 189 #[.slice p0 n0 c0,.string s1] Z2 R:=M.start h ok
def BG (h:Br (x9<x8) (Pq p7 λE2 aX=>In x9 (n7:Int)/\∃G APk,Az Z2 E2 (aX+x9.toNat*2) [.string G,.string APk]/\∀b6:Nat,Bo (ByteArray.toList G==ByteArray.toList s1) (R (.returned (.string APk)) Z2) (AL (x9+1)/\GG R s1 (aD E2 aX) n7 c7 x8 (x9+1) Z2)) (R (.returned (.string (ByteArray.mk #[]))) Z2)):GG R s1 p7 n7 c7 x8 x9 Z2:=M.of h ok rfl
end KU
namespace jY
variable {v0:Value}
def M:Fw:=⟨prog,191,f191,[],[],false,[],[],[]⟩
def ok:M.Ok:=⟨AH.nil,mixed,func191,by kernel_rfl⟩
def start (h:EN prog 190 #[v0] Z2 (CI .u64 λx4 y=>Df (Go.bits .andNot .u64 x4 9223372036854775808) λx5=>EN prog 230 #[.U x5] y (λz G=>∃x6,(Value.float .f64 x6)=z/\R (.returned (Value.float .f64 x6)) G))):Spec prog 191 #[v0] Z2 R:=M.DJ h ok [(0,.o (.V v0))] rfl rfl (by kernel_rfl)
end jY
namespace rZ
variable {x0:Int}
def M:Fw:=⟨prog,192,f192,[],[],false,[],[],[]⟩
def ok:M.Ok:=⟨AH.nil,mixed,func192,by kernel_rfl⟩
def start (h:EN prog 230 #[.U x0] Z2 (λz y=>∃x4,(Value.float .f64 x4)=z/\R (.returned (Value.float .f64 x4)) y)):Spec prog 192 #[.U x0] Z2 R:=M.start h ok
end rZ
namespace Ff
variable {p0:Option Addr}{n0 c0:Nat}{x3 x4:Int}
def M:Fw:=⟨prog,202,f202,[200,211,214],[],false,[],[],[(464,[(0,wL),(3,wU),(4,wI)]),(467,[(0,wL),(3,wU),(4,wI)])]⟩
def ok:M.Ok:=⟨.cons call200 (.cons call211 (.cons call214 (AH.nil))),mixed,func202,by kernel_rfl⟩
def CA:=M.pt 0
def Ii:=M.pt 1
def start (h:AL ((n0:Int)-1)/\Pq p0 λE2 G=>In (((n0:Int)-1)) (n0:Int)/\LI .u64 Z2 E2 (G+Int.toNat ((n0:Int)-1)*1) λx12=>In 0 (n0:Int)/\LI .u64 Z2 E2 G λx15=>AG 200 #[.U x12,.U x15] Z2 R (CI .u64 λx16 y=>CA R (aD E2 G) n0 c0 x16 1 y)):Spec prog 202 #[.slice p0 n0 c0] Z2 R:=M.start h ok
def A1 (h:Br (x4<(n0:Int)) (Pq p0 λmF G=>In x4 (n0:Int)/\LI .u64 Z2 mF (G+x4.toNat*1) λJH=>AL (x4-1)/\In (x4-1) (n0:Int)/\LI .u64 Z2 mF (G+Int.toNat (x4-1)*1) λyq=>AG 214 #[.I 7,.U JH,.U yq] Z2 R (λz y=>∃APl yr,z=(.tuple #[.bool APl,.bool yr])/\Bo APl (AL (x4-1)/\In (x4-1) (n0:Int)/\LI .u64 y mF (G+Int.toNat (x4-1)*1) λjV=>AG 211 #[.U x3,.U jV] y R (CI .u64 λmG AE=>Ii R (aD mF G) n0 c0 mG x4 AE)) (Ii R (aD mF G) n0 c0 x3 x4 y))) (R (.returned (.U x3)) Z2)):CA R p0 n0 c0 x3 x4 Z2:=M.of h ok rfl
def Eg (h:AL (x4+1)/\CA R p0 n0 c0 x3 (x4+1) Z2):Ii R p0 n0 c0 x3 x4 Z2:=M.of h ok rfl
end Ff
namespace HK
variable {x0 x5 x15 x16:Int}{p1 KS:Option Addr}{n1 c1 n14 JG:Nat}
def M:Fw:=⟨prog,212,f212,[196,214,238],[],false,[],[],[(232,[(0,wI),(5,wU),(14,wL),(15,wI),(16,wI)]),(935,[(0,wI),(5,wU),(14,wL),(15,wI),(16,wI)])]⟩
def ok:M.Ok:=⟨.cons call196 (.cons call214 (.cons call238 (AH.nil))),mixed,func212,by kernel_rfl⟩
def A0:=M.pt 0
def RH:=M.pt 1
def start (h:Pq p1 λE2 G=>In 0 (n1:Int)/\LI .u64 Z2 E2 G λx12=>((0:Int)<=1/\1<=(n1:Int))/\A0 R x0 x12 ((E4 (aD E2 G) (1) c1 1)) (n1-1) (c1-1) ((((n1-1):Nat):Int)) 0 Z2):Spec prog 212 #[.I x0,.slice p1 n1 c1] Z2 R:=M.start h ok
def AX (h:Br (x16<x15) (Pq KS λbz oJ=>In x16 (n14:Int)/\LI .u64 Z2 bz (oJ+x16.toNat*1) λCd=>AG 214 #[.I x0,.U Cd,.U x5] Z2 R (λz y=>∃G AXp,z=(.tuple #[.bool G,.bool AXp])/\Bo G (RH R x0 Cd (aD bz oJ) n14 JG x15 x16 y) (AG 238 #[.U x5] y R (CB λt30 AE=>Bo t30 (RH R x0 Cd (aD bz oJ) n14 JG x15 x16 AE) (RH R x0 x5 (aD bz oJ) n14 JG x15 x16 AE))))) (AG 196 #[.U x5] Z2 R (CI .u64 λTJ y=>R (.returned (.U TJ)) y))):A0 R x0 x5 KS n14 JG x15 x16 Z2:=M.of h ok rfl
def R4 (h:AL (x16+1)/\A0 R x0 x5 KS n14 JG x15 (x16+1) Z2):RH R x0 x5 KS n14 JG x15 x16 Z2:=M.of h ok rfl
end HK
namespace GY
variable {gh:Option Addr}{Rx cC:Nat}{mA s1:ByteArray}
def M:Fw:=⟨prog,225,f225,[],[2],false,[],[],[]⟩
def ok:M.Ok:=⟨AH.nil,mixed,func225,by kernel_rfl⟩
def start (h:∀b2:Nat,R (.returned (.bool (ByteArray.toList s1==ByteArray.toList mA))) Z2):Spec prog 225 #[.agg #[.slice gh Rx cC,.string mA],.string s1] Z2 R:=M.start h ok
end GY
namespace KV
variable {p0 p5:Option Addr}{n0 c0 n5 c5:Nat}{x1 x7:Int}{v6:Value}
def M:Fw:=⟨prog,253,f253,[192,278],[],false,[],[],[(444,[(0,wL),(1,wI),(5,wL),(6,wV),(7,wI)])]⟩
def ok:M.Ok:=⟨.cons call192 (.cons call278 (AH.nil)),mixed,func253,by kernel_rfl⟩
def AES:=M.pt 0
def start (h:AG 278 #[] Z2 R (CS λRf n10 L6 y=>AES R p0 n0 c0 x1 Rf n10 L6 (.complex .f64 0 0) 0 y)):Spec prog 253 #[.slice p0 n0 c0,.I x1] Z2 R:=M.start h ok
def ra (h:Br (x7=(n0:Int)) (R (.returned v6) Z2) (Pq p0 λbz oJ=>In x7 (n0:Int)/\LI .u64 Z2 bz (oJ+x7.toNat*1) λCd=>AL (x1*x7)/\(n0:Int)≠(0:Int)/\Df (Int.tmod (x1*x7) (n0:Int)) λJH=>(n0:Int)≠(0:Int)/\Df (IntKind.i64.wrap (Int.tdiv 8 (n0:Int))) λxL=>AL (JH*xL)/\Pq p5 λG o32=>In (JH*xL) (n5:Int)/\∃x33 y33,Hp.ld Z2 ⟨G,(o32+Int.toNat (JH*xL)*1),none⟩=some (Value.complex .f64 x33 y33)/\AG 192 #[.U Cd] Z2 R (λz y=>∃Po,(Value.float .f64 Po)=z/\Kp [G] Z2 y/\∃TJ,YF prog (Builtin.real_ #[319] 258 #[v6]) y (Value.float .f64 TJ)/\∃aS,YF prog (Builtin.real_ #[319] 258 #[(Value.complex .f64 x33 y33)]) y (Value.float .f64 aS)/\AI prog (binOp .mul 258 (Value.float .f64 Po) (Value.float .f64 aS)) y (λz AE=>∃x39,(Value.float .f64 x39)=z/\AI prog (binOp .add 258 (Value.float .f64 TJ) (Value.float .f64 x39)) AE (λz AK=>∃jC,(Value.float .f64 jC)=z/\∃jV,YF prog (Builtin.imag_ #[319] 258 #[v6]) AK (Value.float .f64 jV)/\∃x45,YF prog (Builtin.imag_ #[319] 258 #[(Value.complex .f64 x33 y33)]) AK (Value.float .f64 x45)/\AI prog (binOp .mul 258 (Value.float .f64 Po) (Value.float .f64 x45)) AK (λz Am=>∃x46,(Value.float .f64 x46)=z/\AI prog (binOp .add 258 (Value.float .f64 jV) (Value.float .f64 x46)) Am (λz CL=>∃yp,(Value.float .f64 yp)=z/\∃ey y48,YF prog (Builtin.complex_ #[258,258] 319 #[(Value.float .f64 jC),(Value.float .f64 yp)]) CL (Value.complex .f64 ey y48)/\AL (x7+1)/\AES R (aD bz oJ) n0 c0 x1 (aD G o32) n5 c5 (Value.complex .f64 ey y48) (x7+1) CL))))))):AES R p0 n0 c0 x1 p5 n5 c5 v6 x7 Z2:=M.of h ok rfl
end KV
namespace Ij
variable {s0:ByteArray}{t4:Bool}
def M:Fw:=⟨prog,263,f263,[95,239,240],[],false,[],[],[(53,[(0,wT),(4,wB)])]⟩
def ok:M.Ok:=⟨.cons call95 (.cons call239 (.cons call240 (AH.nil))),mixed,func263,by kernel_rfl⟩
def U9:=M.pt 0
def start (h:Bo ((ByteArray.toList s0==ByteArray.toList (ByteArray.mk #[111,114]))) (U9 R s0 true Z2) (Bo ((ByteArray.toList s0==ByteArray.toList (ByteArray.mk #[97,110,100]))) (U9 R s0 true Z2) (Bo ((ByteArray.toList s0==ByteArray.toList (ByteArray.mk #[117,110,108,101,115,115]))) (U9 R s0 true Z2) (Bo ((ByteArray.toList s0==ByteArray.toList (ByteArray.mk #[98,111,111,108]))) (U9 R s0 true Z2) (Bo ((ByteArray.toList s0==ByteArray.toList (ByteArray.mk #[111,110]))) (U9 R s0 true Z2) (Bo ((ByteArray.toList s0==ByteArray.toList (ByteArray.mk #[105,103,110,111,114,105,110,103]))) (U9 R s0 true Z2) (Bo ((ByteArray.toList s0==ByteArray.toList (ByteArray.mk #[98,121]))) (U9 R s0 true Z2) (Bo ((ByteArray.toList s0==ByteArray.toList (ByteArray.mk #[119,105,116,104,111,117,116]))) (U9 R s0 true Z2) (U9 R s0 ((ByteArray.toList s0==ByteArray.toList (ByteArray.mk #[111,102,102,115,101,116]))) Z2))))))))):Spec prog 263 #[.string s0] Z2 R:=M.start h ok
def AET (h:Bo t4 (R (.B true) Z2) (AG 239 #[] Z2 R (CS λKS n14 JG y=>AG 95 #[.slice KS n14 JG,.string s0] y R (CI .i64 λx16 AE=>Br (0<x16) (R (.B true) AE) (AG 240 #[] AE R (CS λrF G rG AK=>AG 95 #[.slice rF G rG,.string s0] AK R (CI .i64 λaF Am=>R (.returned (.bool (decide (0<aF)))) Am))))))):U9 R s0 t4 Z2:=M.of h ok rfl
end Ij
namespace strings_Index
variable {s0 s1:ByteArray}
end strings_Index
namespace DW
variable {p0:Option Addr}{n0 c0:Nat}
def M:Fw:=⟨prog,359,f359,[],[],false,[],[],[]⟩
def ok:M.Ok:=⟨AH.nil,mixed,func359,by kernel_rfl⟩
def start (h:R (.returned (.I (n0:Int))) Z2):Spec prog 359 #[.slice p0 n0 c0] Z2 R:=M.start h ok
end DW
namespace DF
variable {p0:Option Addr}{n0 c0:Nat}{x1 x2:Int}
def M:Fw:=⟨prog,361,f361,[],[],false,[(0,15,false)],[],[]⟩
def ok:M.Ok:=⟨AH.nil,mixed,func361,by kernel_rfl⟩
def start (h:Pq p0 λG Je=>In x2 (n0:Int)/\LQ Z2 G (Je+x2.toNat*1) λq13=>In x1 (n0:Int)/\LQ Z2 G (Je+x1.toNat*1) λq17=>In x1 (n0:Int)/\AI prog (Instr.storeAt 150 (.pointer (aD G (Je+x1.toNat*1))) (.pointer q13)) Z2 (λ_ y=>In x2 (n0:Int)/\AI prog (Instr.storeAt 150 (.pointer (aD G (Je+x2.toNat*1))) (.pointer q17)) y (λ_ AE=>R (.T #[]) AE))):Spec prog 361 #[.slice p0 n0 c0,.I x1,.I x2] Z2 R:=M.start h ok
end DF
namespace DX
variable {q0:Option Addr}
def M:Fw:=⟨prog,362,f362,[],[],false,[(1,11,true),(2,11,true)],[],[]⟩
def ok:M.Ok:=⟨AH.nil,mixed,func362,by kernel_rfl⟩
def start (h:Pq q0 λb5 G=>LS Z2 b5 G λp6 n6 c6=>LS Z2 b5 G λp9 n9 c9=>AL ((n9:Int)-1)/\Pq p6 λHL Je=>In (((n9:Int)-1)) (n6:Int)/\LQ Z2 HL (Je+Int.toNat ((n9:Int)-1)*1) λq13=>LS Z2 b5 G λrU n17 cM=>LS Z2 b5 G λUH n20 Ry=>AL ((n20:Int)-1)/\((0:Int)<=((n20:Int)-1)/\((n20:Int)-1)<=(cM:Int))/\AI prog (Instr.storeAt 147 (.pointer (aD b5 G)) (.slice rU (Int.toNat ((n20:Int)-1)) cM)) Z2 (λ_ y=>R (.returned (.iface 150 (.pointer q13))) y)):Spec prog 362 #[.pointer q0] Z2 R:=M.start h ok
end DX
end TwW
end
end
section
set_option maxRecDepth 100000
noncomputable section
namespace TwW
open Go Tw Go.Proofs.Tryz
variable [GF]{R:Rr}{Z2:Hp}

namespace Cp
variable {q0:Option Addr}
def M:Fw:=⟨prog,14,f14,[],[],false,[],[],[]⟩
def ok:M.Ok:=⟨AH.nil,mixed,func14,by kernel_rfl⟩
def start (h:Pq q0 λb6 o6=>∃v8,Hp.ld Z2 ⟨b6,(o6+12),none⟩=some v8/\∃(f9:Nat) (G APp:Array Value),v8=.func (.func f9) G APp/\Enters prog f9/\Spec prog f9 (G++#[]++APp) Z2 (Ab R (λz y=>∃p9a n9a c9a x9b x9c,z=(.tuple #[.slice p9a n9a c9a,.I x9b,.I x9c])/\R (.T #[.slice p9a n9a c9a,.I x9b,.I x9c]) y))):Spec prog 14 #[.pointer q0] Z2 R:=M.start h ok
end Cp
namespace Eh
variable {p0 p5:Option Addr}{n0 c0 n5 c5:Nat}{x6 x7:Int}
def M:Fw:=⟨prog,19,f19,[36,50,51],[4],false,[],[],[(104,[(0,wL),(5,wL),(6,wI),(7,wI)])]⟩
def ok:M.Ok:=⟨.cons call36 (.cons call50 (.cons call51 (AH.nil))),mixed,func19,by kernel_rfl⟩
def GG:=M.pt 0
def start (h:GG R p0 n0 c0 p0 n0 c0 (n0:Int) 0 Z2):Spec prog 19 #[.slice p0 n0 c0] Z2 R:=M.start h ok
def BG (h:Br (x7<x6) (Pq p5 λDk Md=>In x7 (n5:Int)/\∃Jv Jw Jx RB QH RC,Az Z2 Dk (Md+x7.toNat*2) [.slice Jv Jw Jx,.slice RB QH RC]/\∀b4:Nat,AG 50 #[.slice Jv Jw Jx] Z2 R (CI .i64 λVX y=>Br (VX≠0) (R (.returned (.I 100)) y) (AG 51 #[.slice RB QH RC] y R (CB λt19 G=>Bn t19 (R (.returned (.I 100)) G) (Br (0<x7) (AL (x7-1)/\Pq p0 λWO cH=>In (x7-1) (n0:Int)/\LS G WO (cH+Int.toNat (x7-1)*2) λp31 n31 c31=>AG 36 #[.slice p31 n31 c31,.slice Jv Jw Jx] G R (CI .i64 λyc AK=>Br (0<=yc) (R (.returned (.I 100)) AK) (AL (x7+1)/\GG R (aD WO cH) n0 c0 (aD Dk Md) n5 c5 x6 (x7+1) AK))) (AL (x7+1)/\GG R p0 n0 c0 (aD Dk Md) n5 c5 x6 (x7+1) G)))))) (R (.returned (.I 0)) Z2)):GG R p0 n0 c0 p5 n5 c5 x6 x7 Z2:=M.of h ok rfl
end Eh
namespace IK
variable {p0 p1:Option Addr}{n0 c0 n1 c1:Nat}{x5:Int}
def M:Fw:=⟨prog,22,f22,[],[],false,[(6,9,true)],[],[(464,[(0,wL),(1,wL),(5,wI)])]⟩
def ok:M.Ok:=⟨AH.nil,mixed,func22,by kernel_rfl⟩
def FH:=M.pt 0
def start (h:Br ((n0:Int)≠(n1:Int)) (R (.B false) Z2) (FH R p0 n0 c0 p1 n1 c1 0 Z2)):Spec prog 22 #[.slice p0 n0 c0,.slice p1 n1 c1] Z2 R:=M.start h ok
def EB (h:Br (x5<(n0:Int)) (Pq p0 λG ae=>In x5 (n0:Int)/\LI .u64 Z2 G (ae+x5.toNat*1) λPo=>Pq p1 λTR U5=>In x5 (n1:Int)/\LI .u64 Z2 TR (U5+x5.toNat*1) λPj=>Br (Po≠Pj) (R (.B false) Z2) (AL (x5+1)/\FH R (aD G ae) n0 c0 (aD TR U5) n1 c1 (x5+1) Z2)) (R (.B true) Z2)):FH R p0 n0 c0 p1 n1 c1 x5 Z2:=M.of h ok rfl
end IK
namespace Dn
variable {p0 p1:Option Addr}{n0 c0 n1 c1:Nat}{x5:Int}
def M:Fw:=⟨prog,48,f48,[],[],false,[(6,9,true)],[],[(464,[(0,wL),(1,wL),(5,wI)])]⟩
def ok:M.Ok:=⟨AH.nil,mixed,func48,by kernel_rfl⟩
def FH:=M.pt 0
def start (h:Br ((n0:Int)≠(n1:Int)) (R (.B false) Z2) (FH R p0 n0 c0 p1 n1 c1 0 Z2)):Spec prog 48 #[.slice p0 n0 c0,.slice p1 n1 c1] Z2 R:=M.start h ok
def EB (h:Br (x5<(n0:Int)) (Pq p0 λKA ae=>In x5 (n0:Int)/\∃AJx AJy,Az Z2 KA (ae+x5.toNat*2) [.string AJx,.string AJy]/\Pq p1 λTR U5=>In x5 (n1:Int)/\∃AJz G,Az Z2 TR (U5+x5.toNat*2) [.string AJz,.string G]/\∃t25,YF prog ((do eqGuard .neq 144 (.tmp 20) (.tmp 24) (.agg #[.string AJx,.string AJy]) (.agg #[.string AJz,.string G]);binOp .neq 144 (.agg #[.string AJx,.string AJy]) (.agg #[.string AJz,.string G]))) Z2 (.bool t25)/\Bo t25 (R (.B false) Z2) (AL (x5+1)/\FH R (aD KA ae) n0 c0 (aD TR U5) n1 c1 (x5+1) Z2)) (R (.B true) Z2)):FH R p0 n0 c0 p1 n1 c1 x5 Z2:=M.of h ok rfl
end Dn
namespace Dp
variable {p0:Option Addr}{n0 c0:Nat}{x3:Int}
def M:Fw:=⟨prog,57,f57,[],[],false,[(4,10,true)],[],[(208,[(0,wL),(3,wI)])]⟩
def ok:M.Ok:=⟨AH.nil,mixed,func57,by kernel_rfl⟩
def FV:=M.pt 0
def start (h:FV R p0 n0 c0 1 Z2):Spec prog 57 #[.slice p0 n0 c0] Z2 R:=M.start h ok
def A9 (h:Br (x3<(n0:Int)) (Pq p0 λG Je=>In x3 (n0:Int)/\LI .i64 Z2 G (Je+x3.toNat*1) λFq=>AL (x3-1)/\In (x3-1) (n0:Int)/\LI .i64 Z2 G (Je+Int.toNat (x3-1)*1) λMA=>Br (Fq<=MA) (R (.B false) Z2) (AL (x3+1)/\FV R (aD G Je) n0 c0 (x3+1) Z2)) (R (.B true) Z2)):FV R p0 n0 c0 x3 Z2:=M.of h ok rfl
end Dp
namespace TS
variable {x0:Int}
def M:Fw:=⟨prog,58,f58,[],[],false,[],[],[]⟩
def ok:M.Ok:=⟨AH.nil,mixed,func58,by kernel_rfl⟩
def start (h:Br (48<=x0) (R (.returned (.bool (decide (x0<=57)))) Z2) (R (.B false) Z2)):Spec prog 58 #[.int .u8 x0] Z2 R:=M.start h ok
end TS
namespace Ik
variable {s0:ByteArray}{x3 x4 x5:Int}
def M:Fw:=⟨prog,61,f61,[93],[],false,[],[],[(2000,[(0,wT),(3,wI),(4,wI),(5,wI)]),(508,[(4,wI)])]⟩
def ok:M.Ok:=⟨.cons call93 (AH.nil),mixed,func61,by kernel_rfl⟩
def AEU:=M.pt 0
def uo:=M.pt 1
def start (h:AG 93 #[.string s0] Z2 R (CI .i64 λx7 y=>Br (x7=0) (R (.returned (.I 0)) y) (Br (10<x7) (R (.returned (.I 0)) y) (∃G:UInt8,(0:Int)<=0/\(ByteArray.data s0)[Int.toNat 0]?=some G/\Br (((G.toNat:Int):Int)=48) (R (.returned (.I 0)) y) (AL (x7+1)/\Br (((x7+1):Int)≠(s0.size:Int)) (R (.returned (.I 0)) y) (AEU R s0 x7 0 0 y)))))):Spec prog 61 #[.string s0] Z2 R:=M.start h ok
def rh (h:Br (x5<x3) (AL (10*x4)/\∃u35:UInt8,0<=x5/\(ByteArray.data s0)[x5.toNat]?=some u35/\Df (IntKind.u8.wrap ((u35.toNat:Int)-48)) λeu=>Df (IntKind.i64.wrap eu) λU3=>AL ((10*x4)+U3)/\AL (x5+1)/\AEU R s0 x3 (((10*x4)+U3)) (x5+1) Z2) (∃G:UInt8,0<=x3/\(ByteArray.data s0)[x3.toNat]?=some G/\Br (((G.toNat:Int):Int)=115) (uo R x4 Z2) (Br (((G.toNat:Int):Int)=109) (AL (x4*60)/\uo R (x4*60) Z2) (Br (((G.toNat:Int):Int)=104) (AL (x4*3600)/\uo R (x4*3600) Z2) (Br (((G.toNat:Int):Int)=100) (AL (x4*86400)/\uo R (x4*86400) Z2) (R (.returned (.I 0)) Z2)))))):AEU R s0 x3 x4 x5 Z2:=M.of h ok rfl
def AEV (h:Br (2147483648<=x4) (R (.returned (.I 0)) Z2) (R (.returned (.I x4)) Z2)):uo R x4 Z2:=M.of h ok rfl
end Ik
namespace A5
variable {p0 R3 AXs AXt:Option Addr}{n0 c0 n21 QJ AXu AXv AXw AXx:Nat}{x7 x8 FK GA et RD AXy AEW AXz AX0 x12:Int}{t9 AX1:Bool}{ug:ByteArray}
def M:Fw:=⟨prog,66,f66,[24],[11],false,[],[],[(488,[(7,wI),(8,wI),(9,wB),(21,wL),(22,wI),(23,wI)]),(1959,[(7,wI),(8,wI),(9,wB),(21,wL),(22,wI),(23,wI)]),(125342,[(7,wI),(8,wI),(9,wB),(11,.X 127 [.I .i64,.I .i64,.T,.L,.I .i64,.I .i64,.I .i64,.L,.B,.I .i64]),(12,wI),(21,wL),(22,wI),(23,wI)]),(250687,[(7,wI),(8,wI),(21,wL),(22,wI),(23,wI)])]⟩
def ok:M.Ok:=⟨.cons call24 (AH.nil),mixed,func66,by kernel_rfl⟩
def HG:=M.pt 0
def AEX:=M.pt 1
def WZ:=M.pt 2
def RJ:=M.pt 3
def start (h:AG 24 #[.slice p0 n0 c0] Z2 R (λz y=>∃uq oK G,z=(.tuple #[.I uq,.I oK,.I G])/\Br (G≠0) (R (.T #[.I 0,.I 0]) y) (HG R 0 0 false p0 n0 c0 (n0:Int) 0 y))):Spec prog 66 #[.slice p0 n0 c0] Z2 R:=M.start h ok
def CC (h:Br (GA<FK) (Pq R3 λNA aG=>In GA (n21:Int)/\∃TT jZ yt yu yw yx TU G ja yz zA zB zC zD,Az Z2 NA (aG+GA.toNat*10) [.I TT,.I jZ,.string yt,.slice yu yw yx,.I TU,.I G,.I ja,.slice yz zA zB,.bool zC,.I zD]/\∀E2:Nat,Br (TT≠2) (Br (TT≠3) (AEX R x7 x8 t9 (aD NA aG) n21 QJ FK GA Z2) (AL (G+TU)/\Br (TT=2) (AL ((G+TU)+300)/\WZ R x7 x8 t9 TT jZ yt yu yw yx TU G ja yz zA zB zC zD (((G+TU)+300)) (aD NA aG) n21 QJ FK GA Z2) (WZ R x7 x8 t9 TT jZ yt yu yw yx TU G ja yz zA zB zC zD (G+TU) (aD NA aG) n21 QJ FK GA Z2))) (AL (G+TU)/\Br (TT=2) (AL ((G+TU)+300)/\WZ R x7 x8 t9 TT jZ yt yu yw yx TU G ja yz zA zB zC zD (((G+TU)+300)) (aD NA aG) n21 QJ FK GA Z2) (WZ R x7 x8 t9 TT jZ yt yu yw yx TU G ja yz zA zB zC zD (G+TU) (aD NA aG) n21 QJ FK GA Z2))) (R (.T #[.I x7,.I x8]) Z2)):HG R x7 x8 t9 R3 n21 QJ FK GA Z2:=M.of h ok rfl
def rj (h:AL (GA+1)/\HG R x7 x8 t9 R3 n21 QJ FK (GA+1) Z2):AEX R x7 x8 t9 R3 n21 QJ FK GA Z2:=M.of h ok rfl
def R5 (h:Bn t9 (RJ R (if x7<x12 then x12 else x7) AEW R3 n21 QJ FK GA Z2) (Br (AEW<x8) (RJ R (if x7<x12 then x12 else x7) AEW R3 n21 QJ FK GA Z2) (RJ R (if x7<x12 then x12 else x7) x8 R3 n21 QJ FK GA Z2))):WZ R x7 x8 t9 et RD ug AXs AXu AXv AXy AEW AXz AXt AXw AXx AX1 AX0 x12 R3 n21 QJ FK GA Z2:=M.Uu h ok rfl λ_=>by kernel_rfl
def Pp (h:AEX R x7 x8 true R3 n21 QJ FK GA Z2):RJ R x7 x8 R3 n21 QJ FK GA Z2:=M.of h ok rfl
end A5
namespace Il
variable {v0:Value}
def M:Fw:=⟨prog,70,f70,[103],[],false,[],[],[]⟩
def ok:M.Ok:=⟨.cons call103 (AH.nil),mixed,func70,by kernel_rfl⟩
def start (h:MC prog v0 yN #[] Z2 (Ab R (CI .i64 λx5 y=>AL (x5-1)/\MC prog v0 T7 #[.I 0,(.I (x5-1))] y (Ab R (λz G=>z=(.tuple #[])/\AG 103 #[v0,.I 0,(.I (x5-1))] G R (CB λt12 AK=>MC prog v0 AOJ #[] AK (Ab R (λz Am=>∃ur,ur=z/\R (.returned ur) Am)))))))):Spec prog 70 #[v0] Z2 R:=M.DJ h ok [(0,.o (.V v0))] rfl rfl (by kernel_rfl)
end Il
namespace BE
variable {s0:ByteArray}{x3 x4 x5 x6:Int}
def M:Fw:=⟨prog,83,f83,[],[],false,[],[],[(220,[(0,wT),(3,wI)]),(894,[(0,wT),(3,wI),(4,wI),(5,w8),(6,w8)]),(7164,[(0,wT),(3,wI),(4,wI),(5,w8),(6,w8)])]⟩
def ok:M.Ok:=⟨AH.nil,mixed,func83,by kernel_rfl⟩
def CA:=M.pt 0
def JL:=M.pt 1
def zF:=M.pt 2
def start (h:CA R s0 0 Z2):Spec prog 83 #[.string s0] Z2 R:=M.start h ok
def A1 (h:Br (x3=(s0.size:Int)) (R (.B true) Z2) (∃G:UInt8,0<=x3/\(ByteArray.data s0)[x3.toNat]?=some G/\Br (((G.toNat:Int):Int)<128) (AL (x3+1)/\CA R s0 (x3+1) Z2) (Br ((194:Int)<=(G.toNat:Int)) (Br (((G.toNat:Int):Int)<=223) (JL R s0 x3 1 128 191 Z2) (Br ((224:Int)<=(G.toNat:Int)) (Br (((G.toNat:Int):Int)<=239) (Br (((G.toNat:Int):Int)=224) (JL R s0 x3 2 160 191 Z2) (Br (((G.toNat:Int):Int)=237) (JL R s0 x3 2 128 159 Z2) (JL R s0 x3 2 128 191 Z2))) (Br ((240:Int)<=(G.toNat:Int)) (Br (((G.toNat:Int):Int)<=244) (Br (((G.toNat:Int):Int)=240) (JL R s0 x3 3 144 191 Z2) (Br (((G.toNat:Int):Int)=244) (JL R s0 x3 3 128 143 Z2) (JL R s0 x3 3 128 191 Z2))) (R (.B false) Z2)) (R (.B false) Z2))) (Br ((240:Int)<=(G.toNat:Int)) (Br (((G.toNat:Int):Int)<=244) (Br (((G.toNat:Int):Int)=240) (JL R s0 x3 3 144 191 Z2) (Br (((G.toNat:Int):Int)=244) (JL R s0 x3 3 128 143 Z2) (JL R s0 x3 3 128 191 Z2))) (R (.B false) Z2)) (R (.B false) Z2)))) (Br ((224:Int)<=(G.toNat:Int)) (Br (((G.toNat:Int):Int)<=239) (Br (((G.toNat:Int):Int)=224) (JL R s0 x3 2 160 191 Z2) (Br (((G.toNat:Int):Int)=237) (JL R s0 x3 2 128 159 Z2) (JL R s0 x3 2 128 191 Z2))) (Br ((240:Int)<=(G.toNat:Int)) (Br (((G.toNat:Int):Int)<=244) (Br (((G.toNat:Int):Int)=240) (JL R s0 x3 3 144 191 Z2) (Br (((G.toNat:Int):Int)=244) (JL R s0 x3 3 128 143 Z2) (JL R s0 x3 3 128 191 Z2))) (R (.B false) Z2)) (R (.B false) Z2))) (Br ((240:Int)<=(G.toNat:Int)) (Br (((G.toNat:Int):Int)<=244) (Br (((G.toNat:Int):Int)=240) (JL R s0 x3 3 144 191 Z2) (Br (((G.toNat:Int):Int)=244) (JL R s0 x3 3 128 143 Z2) (JL R s0 x3 3 128 191 Z2))) (R (.B false) Z2)) (R (.B false) Z2)))))):CA R s0 x3 Z2:=M.of h ok rfl
def AEY (h:AL (x3+1)/\zF R s0 (x3+1) x4 x5 x6 Z2):JL R s0 x3 x4 x5 x6 Z2:=M.of h ok rfl
def rk (h:Br (x4=0) (CA R s0 x3 Z2) (Br (x3=(s0.size:Int)) (R (.B false) Z2) (∃G:UInt8,0<=x3/\(ByteArray.data s0)[x3.toNat]?=some G/\Br (((G.toNat:Int):Int)<x5) (R (.B false) Z2) (∃u67:UInt8,0<=x3/\(ByteArray.data s0)[x3.toNat]?=some u67/\Br (x6<(u67.toNat:Int)) (R (.B false) Z2) (AL (x4-1)/\AL (x3+1)/\zF R s0 (x3+1) (x4-1) 128 191 Z2))))):zF R s0 x3 x4 x5 x6 Z2:=M.of h ok rfl
end BE
namespace Hi
variable {p0 p8:Option Addr}{n0 c0 n8 c8:Nat}{x9 x10:Int}
def M:Fw:=⟨prog,86,f86,[117,118],[4],false,[],[],[(232,[(8,wL),(9,wI),(10,wI)])]⟩
def ok:M.Ok:=⟨.cons call117 (.cons call118 (AH.nil)),mixed,func86,by kernel_rfl⟩
def GQ:=M.pt 0
def start (h:Br (8<(n0:Int)) (R (.returned (.I 41)) Z2) (GQ R p0 n0 c0 (n0:Int) 0 Z2)):Spec prog 86 #[.slice p0 n0 c0] Z2 R:=M.start h ok
def EA (h:Br (x10<x9) (Pq p8 λHL Je=>In x10 (n8:Int)/\∃IL uu G,Az Z2 HL (Je+x10.toNat*3) [.I IL,.string uu,.string G]/\∀b4:Nat,AG 117 #[.I IL] Z2 R (CB λt16 y=>Bn t16 (R (.returned (.I 40)) y) (AG 118 #[.string uu] y R (CB λt21 AE=>Bn t21 (R (.returned (.I 40)) AE) (Br ((256:Int)<(G.size:Int)) (R (.returned (.I 40)) AE) (AL (x10+1)/\GQ R (aD HL Je) n8 c8 x9 (x10+1) AE)))))) (R (.returned (.I 0)) Z2)):GQ R p8 n8 c8 x9 x10 Z2:=M.of h ok rfl
end Hi
namespace Im
variable {s0:ByteArray}{x3:Int}
def M:Fw:=⟨prog,93,f93,[58],[],false,[],[],[(224,[(0,wT),(3,wI)])]⟩
def ok:M.Ok:=⟨.cons call58 (AH.nil),mixed,func93,by kernel_rfl⟩
def FV:=M.pt 0
def start (h:FV R s0 0 Z2):Spec prog 93 #[.string s0] Z2 R:=M.start h ok
def A9 (h:Br (x3<(s0.size:Int)) (∃G:UInt8,0<=x3/\(ByteArray.data s0)[x3.toNat]?=some G/\AG 58 #[(.int .u8 (G.toNat:Int))] Z2 R (CB λt12 y=>Bo t12 (AL (x3+1)/\FV R s0 (x3+1) y) (R (.returned (.I x3)) y))) (R (.returned (.I x3)) Z2)):FV R s0 x3 Z2:=M.of h ok rfl
end Im
namespace Aj
variable {q0 E5 FD p2 IW J5 JI Hy p8 eR aC p47:Option Addr}{C4 CU Ez EG Dd Dj Fs Hf J6 IC J7 Km Hw Hx af JH ey xM:Int}{E1 Jc:ByteArray}{E6 E7 E8 FE n2 c2 IX IY J8 J9 JJ JK Hz H0 n8 c8 n25 eU n12 WR n47 c47:Nat}{EO Kn:Bool}{v9:Value}
def M:Fw:=⟨prog,132,f132,[158,159,160],[4,6,11,14],false,[],[],[(488,[(2,wL),(4,.X 127 [.I .i64,.I .i64,.T,.L,.I .i64,.I .i64,.I .i64,.L,.B,.I .i64]),(6,.X 164 [.I .i64,.I .u64,.L,.L]),(8,wL),(9,wV),(25,wL),(26,wI),(27,wI)]),(2024,[(2,wL),(4,.X 127 [.I .i64,.I .i64,.T,.L,.I .i64,.I .i64,.I .i64,.L,.B,.I .i64]),(6,.X 164 [.I .i64,.I .u64,.L,.L]),(8,wL),(12,wL),(47,wL),(48,wI),(49,wI)]),(8103,[(2,wL),(4,.X 127 [.I .i64,.I .i64,.T,.L,.I .i64,.I .i64,.I .i64,.L,.B,.I .i64]),(6,.X 164 [.I .i64,.I .u64,.L,.L]),(8,wL),(12,wL),(47,wL),(48,wI),(49,wI)])]⟩
def ok:M.Ok:=⟨.cons call158 (.cons call159 (.cons call160 (AH.nil))),mixed,func132,by kernel_rfl⟩
def Dq:=M.pt 0
def Fg:=M.pt 1
def QK:=M.pt 2
def start (h:∀b4:Nat,∀b6:Nat,AI prog (Instr.makeMap 236 none) Z2 (λz y=>∃G,z=(.map (some G))/\AI prog (Instr.mapUpdate 236 (.map (some G)) (.I 11) (.func (.func 156) #[] #[])) y (λ_ AE=>AI prog (Instr.mapUpdate 236 (.map (some G)) (.I 12) (.func (.func 157) #[] #[])) AE (λ_ AK=>AI prog (Instr.lookup 236 (.map (some G)) (.I CU) false) AK (λz Am=>∃v21,v21=z/\Pq p2 λTR U5=>In 0 (n2:Int)/\LS Am TR (U5+2) λeR n25 eU=>Dq R (aD TR U5) n2 c2 C4 CU E1 E5 E6 E7 Ez EG Dd FD E8 FE EO Dj 0 0 none 0 0 none 0 0 none 0 0 v21 eR n25 eU (n25:Int) 0 Am))))):Spec prog 132 #[.pointer q0,.agg #[.I C4,.I CU,.string E1,.slice E5 E6 E7,.I Ez,.I EG,.I Dd,.slice FD E8 FE,.bool EO,.I Dj],.slice p2 n2 c2] Z2 R:=M.start h ok
def Bk (h:Br (JH<af) (Pq eR λWO cH=>In JH (n25:Int)/\∃zG zH zI WH,Az Z2 WO (cH+JH.toNat*2) [.slice zG zH zI,.U WH]/\∀E2:Nat,AG 158 #[.slice zG zH zI] Z2 R (CS λp34 n34 G y=>∃(f38:Nat) (Jf Jg:Array Value),v9=.func (.func f38) Jf Jg/\Enters prog f38/\Spec prog f38 (Jf++#[.U WH]++Jg) y (Ab R (CI .u64 λaS AE=>Al AE λaT=>AI prog (GO 105 p8 n8 c8 aT) (Hp.set AE aT (.cells #[.slice p34 n34 G,.U aS] 109 (0,0))) (CS λrP n41 jK AK=>AL (JH+1)/\Dq R p2 n2 c2 Fs Hf Jc IW IX IY J6 IC J7 J5 J8 J9 Kn Km Hw Hx JI JJ JK Hy Hz H0 rP n41 jK v9 (aD WO cH) n25 eU af (JH+1) AK))))) (AG 159 #[] Z2 R (CS λxN n43 xO y=>Pq p2 λaW xF=>In 0 (n2:Int)/\LS y aW (xF+3) λp47 n47 c47=>Fg R (aD aW xF) n2 c2 Fs Hf Jc IW IX IY J6 IC J7 J5 J8 J9 Kn Km Hw Hx JI JJ JK Hy Hz H0 p8 n8 c8 xN n43 xO p47 n47 c47 (n47:Int) 0 y))):Dq R p2 n2 c2 Fs Hf Jc IW IX IY J6 IC J7 J5 J8 J9 Kn Km Hw Hx JI JJ JK Hy Hz H0 p8 n8 c8 v9 eR n25 eU af JH Z2:=M.nq h ok rfl λ_ _=>by kernel_rfl
def FY (h:Br (xM<ey) (Pq p47 λG o51=>In xM (n47:Int)/\∃APu APv APw APx APy APz,Az Z2 G (o51+xM.toNat*2) [.slice APu APv APw,.slice APx APy APz]/\∀He:Nat,Pq aC λQG o57=>In Hf (n12:Int)/\∃v58,Hp.ld Z2 ⟨QG,(o57+Hf.toNat*1),none⟩=some v58/\∃(f63:Nat) (NC ND:Array Value),v58=.func (.func f63) NC ND/\Enters prog f63/\Spec prog f63 (NC++#[.slice APx APy APz,.agg #[.I Fs,.I Hf,.string Jc,.slice IW IX IY,.I J6,.I IC,.I J7,.slice J5 J8 J9,.bool Kn,.I Km],.slice p2 n2 c2]++ND) Z2 (Ab R (λz y=>∃AP0 AP1,z=(.tuple #[.U AP0,.bool AP1])/\Bo AP1 (AG 158 #[.slice APu APv APw] y R (CS λp70 n70 c70 AE=>Al AE λb73=>AI prog (GO 105 p8 n8 c8 b73) (Hp.set AE b73 (.cells #[.slice p70 n70 c70,.U AP0] 109 (0,0))) (CS λp74 n74 c74 AK=>QK R p2 n2 c2 Fs Hf Jc IW IX IY J6 IC J7 J5 J8 J9 Kn Km Hw Hx JI JJ JK Hy Hz H0 p74 n74 c74 (aD QG o57) n12 WR (aD G o51) n47 c47 ey xM AK))) (QK R p2 n2 c2 Fs Hf Jc IW IX IY J6 IC J7 J5 J8 J9 Kn Km Hw Hx JI JJ JK Hy Hz H0 p8 n8 c8 (aD QG o57) n12 WR (aD G o51) n47 c47 ey xM y)))) (AG 160 #[.slice p8 n8 c8] Z2 R (λz y=>∃AG6 AG7 AG8 AG9 AHA AHB AHC AHD AP5,z=(.tuple #[.agg #[.I AG6,.U AG7,.slice AG8 AG9 AHA,.slice AHB AHC AHD],.I AP5])/\R (.T #[.agg #[.I AG6,.U AG7,.slice AG8 AG9 AHA,.slice AHB AHC AHD],.I AP5]) y))):Fg R p2 n2 c2 Fs Hf Jc IW IX IY J6 IC J7 J5 J8 J9 Kn Km Hw Hx JI JJ JK Hy Hz H0 p8 n8 c8 aC n12 WR p47 n47 c47 ey xM Z2:=M.nq h ok rfl λ_ _=>by kernel_rfl
def LH (h:AL (xM+1)/\Fg R p2 n2 c2 Fs Hf Jc IW IX IY J6 IC J7 J5 J8 J9 Kn Km Hw Hx JI JJ JK Hy Hz H0 p8 n8 c8 aC n12 WR p47 n47 c47 ey (xM+1) Z2):QK R p2 n2 c2 Fs Hf Jc IW IX IY J6 IC J7 J5 J8 J9 Kn Km Hw Hx JI JJ JK Hy Hz H0 p8 n8 c8 aC n12 WR p47 n47 c47 ey xM Z2:=M.nq h ok rfl λ_ _=>by kernel_rfl
end Aj
namespace UK
variable {s0:ByteArray}
def M:Fw:=⟨prog,181,f181,[221],[],false,[],[],[]⟩
def ok:M.Ok:=⟨.cons call221 (AH.nil),mixed,func181,by kernel_rfl⟩
def start (h:AG 221 #[.string s0] Z2 R (CI .i64 λx6 y=>Br (x6=0) (R (.B false) y) (Br (1<x6) (∃Pn:UInt8,(0:Int)<=0/\(ByteArray.data s0)[Int.toNat 0]?=some Pn/\Br (((Pn.toNat:Int):Int)=48) (R (.B false) y) (Br (x6=(s0.size:Int)) (R (.returned (.bool (decide (x6<=15)))) y) (AL (x6+1)/\∃G,YF prog (Instr.sliceAt 9 (.string s0) (some (.I (x6+1))) none none) y (.string G)/\AG 221 #[.string G] y R (CI .i64 λMe AE=>∃u31:UInt8,0<=x6/\(ByteArray.data s0)[x6.toNat]?=some u31/\Br (((u31.toNat:Int):Int)=46) (Br (0<Me) (AL (x6+1)/\AL ((x6+1)+Me)/\Br ((((x6+1)+Me):Int)=(s0.size:Int)) (AL (x6+Me)/\R (.returned (.bool (decide (((x6+Me):Int)<=15)))) AE) (R (.B false) AE)) (R (.B false) AE)) (R (.B false) AE))))) (Br (x6=(s0.size:Int)) (R (.returned (.bool (decide (x6<=15)))) y) (AL (x6+1)/\∃G,YF prog (Instr.sliceAt 9 (.string s0) (some (.I (x6+1))) none none) y (.string G)/\AG 221 #[.string G] y R (CI .i64 λMe AE=>∃u31:UInt8,0<=x6/\(ByteArray.data s0)[x6.toNat]?=some u31/\Br (((u31.toNat:Int):Int)=46) (Br (0<Me) (AL (x6+1)/\AL ((x6+1)+Me)/\Br ((((x6+1)+Me):Int)=(s0.size:Int)) (AL (x6+Me)/\R (.returned (.bool (decide (((x6+Me):Int)<=15)))) AE) (R (.B false) AE)) (R (.B false) AE)) (R (.B false) AE))))))):Spec prog 181 #[.string s0] Z2 R:=M.start h ok
end UK
namespace UL
def M:Fw:=⟨prog,187,f187,[],[],false,[],[],[]⟩
def ok:M.Ok:=⟨AH.nil,mixed,func187,by kernel_rfl⟩
def start (h:Al Z2 λb1=>R (.returned (.slice (aD b1 0) 5 5)) (Hp.set Z2 b1 (.cells #[.nilFunc,(.func (.func 225) #[] #[]),(.func (.func 226) #[] #[]),(.func (.func 227) #[] #[]),(.func (.func 228) #[] #[])] 268 (0,0)))):Spec prog 187 #[] Z2 R:=M.start h ok
end UL
namespace Wa
variable {v0:Value}
def M:Fw:=⟨prog,193,f193,[],[],false,[],[],[]⟩
def ok:M.Ok:=⟨AH.nil,mixed,func193,by kernel_rfl⟩
def start (h:EN prog 231 #[v0] Z2 (λz y=>∃x4,(Value.float .f64 x4)=z/\R (.returned (Value.float .f64 x4)) y)):Spec prog 193 #[v0] Z2 R:=M.DJ h ok [(0,.o (.V v0))] rfl rfl (by kernel_rfl)
end Wa
namespace UM
variable {x0:Int}
def M:Fw:=⟨prog,196,f196,[183,192],[],false,[],[],[]⟩
def ok:M.Ok:=⟨.cons call183 (.cons call192 (AH.nil)),mixed,func196,by kernel_rfl⟩
def start (h:AG 192 #[.U x0] Z2 R (λz y=>∃x4,(Value.float .f64 x4)=z/\AG 183 #[(Value.float .f64 x4)] y R (CI .u64 λx5 G=>R (.returned (.U x5)) G))):Spec prog 196 #[.U x0] Z2 R:=M.start h ok
end UM
namespace R6
variable {f0:Fn}{a0 c0:Array Value}
def M:Fw:=⟨prog,198,f198,[],[],false,[],[],[]⟩
def ok:M.Ok:=⟨AH.nil,mixed,func198,by kernel_rfl⟩
def start (h:Al Z2 λb1=>R (.returned (.func (.func 235) #[] #[(.pointer (aD b1 0))])) (Hp.set Z2 b1 (.cells #[(Value.func f0 a0 c0)] 280 (0,0)))):Spec prog 198 #[(Value.func f0 a0 c0)] Z2 R:=M.DJ h ok [(0,.o (.V (Value.func f0 a0 c0)))] rfl rfl (by kernel_rfl)
end R6
namespace Qi
variable {gh p1a:Option Addr}{Rx cC n1a c1a:Nat}{Dl CU:Int}
def M:Fw:=⟨prog,206,f206,[36],[2,3],false,[],[],[]⟩
def ok:M.Ok:=⟨.cons call36 (AH.nil),mixed,func206,by kernel_rfl⟩
def start (h:∀b2:Nat,∀b3:Nat,AG 36 #[.slice gh Rx cC,.slice p1a n1a c1a] Z2 R (CI .i64 λx9 y=>R (.returned (.I x9)) y)):Spec prog 206 #[.agg #[.slice gh Rx cC,.U Dl],.agg #[.slice p1a n1a c1a,.U CU]] Z2 R:=M.start h ok
end Qi
namespace GZ
variable {p0:Option Addr}{n0 c0:Nat}{s1:ByteArray}
def M:Fw:=⟨prog,209,f209,[237],[],false,[],[],[]⟩
def ok:M.Ok:=⟨.cons call237 (AH.nil),mixed,func209,by kernel_rfl⟩
def start (h:AG 237 #[.slice p0 n0 c0,.string s1] Z2 R (CI .i64 λx7 y=>R (.returned (.bool (decide (0<=x7)))) y)):Spec prog 209 #[.slice p0 n0 c0,.string s1] Z2 R:=M.start h ok
end GZ
namespace HN
variable {q0:Option Addr}
def M:Fw:=⟨prog,218,f218,[31,95,97,98,99,100,239,240,241,242],[2],false,[],[],[]⟩
def ok:M.Ok:=⟨.cons call31 (.cons call95 (.cons call97 (.cons call98 (.cons call99 (.cons call100 (.cons call239 (.cons call240 (.cons call241 (.cons call242 (AH.nil)))))))))),mixed,func218,by kernel_rfl⟩
def start (h:AG 31 #[.pointer q0] Z2 R (λz y=>∃x7a x7b s7c x7d,z=(.agg #[.I x7a,.I x7b,.string s7c,.I x7d])/\∀b2:Nat,AG 239 #[] y R (CS λp8 n8 c8 AE=>AG 95 #[.slice p8 n8 c8,.string s7c] AE R (CI .i64 λx11 AK=>AG 240 #[] AK R (CS λaC n12 WR Am=>AG 95 #[.slice aC n12 WR,.string s7c] Am R (CI .i64 λx15 CL=>Br (x7a=1) (AG 97 #[.pointer q0] CL R (λz Gu=>∃AEJ jT AJg AJh,z=(.agg #[.I AEJ,.I jT,.string AJg,.I AJh])/\AG 100 #[.pointer q0,.agg #[.I 1,.I 0,.string s7c,.N,.I 0,.I 0,.I 0,.N,.bool false,.I 0]] Gu R (λz G=>z=(.tuple #[])/\R (.T #[]) G))) (AG 98 #[.pointer q0,.I 5,(.string (ByteArray.mk #[40]))] CL R (CB λt31 Gu=>Bo t31 (AG 241 #[.pointer q0] Gu R (λz G=>z=(.tuple #[])/\R (.T #[]) G)) (Br (x7a=3) (Br (0<x11) (AG 97 #[.pointer q0] Gu R (λz G=>∃QN LK NF AEZ,z=(.agg #[.I QN,.I LK,.string NF,.I AEZ])/\AG 241 #[.pointer q0] G R (λz S0=>z=(.tuple #[])/\AG 100 #[.pointer q0,(.agg #[.I 4,.I x11,(.string (ByteArray.mk #[])),.N,.I 0,.I 0,.I 0,.N,.bool false,.I 1])] S0 R (λz UD=>z=(.tuple #[])/\R (.T #[]) UD)))) (Br (x7a=3) (Br (0<x15) (AG 97 #[.pointer q0] Gu R (λz G=>∃Wb Io zJ zK,z=(.agg #[.I Wb,.I Io,.string zJ,.I zK])/\Al G λb5=>AI prog (Instr.storeAt 127 (.pointer (aD b5 0)) (.agg #[.I 5,.I x15,(.string (ByteArray.mk #[])),.N,.I 0,.I 0,.I 0,.N,.bool false,.I 1])) (Hp.set G b5 (.cells #[.I 0,.I 0,(.string (ByteArray.mk #[])),.N,.I 0,.I 0,.I 0,.N,.bool false,.I 0] 127 (0,0))) (λ_ S0=>AG 99 #[.pointer q0,(.pointer (aD b5 0)),(.agg #[(.string (ByteArray.mk #[98,121])),(.string (ByteArray.mk #[119,105,116,104,111,117,116]))]),.agg #[.I 1,.I 2]] S0 R (λz UD=>z=(.tuple #[])/\AG 241 #[.pointer q0] UD R (λz IJ=>z=(.tuple #[])/\∃Wc Wd We Wf Wg Wh Wi Wj Wk Wl Wm Wn Wo Wp,Az IJ b5 0 [.I Wc,.I Wd,.string We,.slice Wf Wg Wh,.I Wi,.I Wj,.I Wk,.slice Wl Wm Wn,.bool Wo,.I Wp]/\AG 100 #[.pointer q0,.agg #[.I Wc,.I Wd,.string We,.slice Wf Wg Wh,.I Wi,.I Wj,.I Wk,.slice Wl Wm Wn,.bool Wo,.I Wp]] IJ R (λz WI=>z=(.tuple #[])/\R (.T #[]) WI)))))) (AG 242 #[.pointer q0] Gu R (λz G=>z=(.tuple #[])/\R (.T #[]) G))) (AG 242 #[.pointer q0] Gu R (λz G=>z=(.tuple #[])/\R (.T #[]) G)))) (Br (x7a=3) (Br (0<x15) (AG 97 #[.pointer q0] Gu R (λz G=>∃Wb Io zJ zK,z=(.agg #[.I Wb,.I Io,.string zJ,.I zK])/\Al G λb5=>AI prog (Instr.storeAt 127 (.pointer (aD b5 0)) (.agg #[.I 5,.I x15,(.string (ByteArray.mk #[])),.N,.I 0,.I 0,.I 0,.N,.bool false,.I 1])) (Hp.set G b5 (.cells #[.I 0,.I 0,(.string (ByteArray.mk #[])),.N,.I 0,.I 0,.I 0,.N,.bool false,.I 0] 127 (0,0))) (λ_ S0=>AG 99 #[.pointer q0,(.pointer (aD b5 0)),(.agg #[(.string (ByteArray.mk #[98,121])),(.string (ByteArray.mk #[119,105,116,104,111,117,116]))]),.agg #[.I 1,.I 2]] S0 R (λz UD=>z=(.tuple #[])/\AG 241 #[.pointer q0] UD R (λz IJ=>z=(.tuple #[])/\∃Wc Wd We Wf Wg Wh Wi Wj Wk Wl Wm Wn Wo Wp,Az IJ b5 0 [.I Wc,.I Wd,.string We,.slice Wf Wg Wh,.I Wi,.I Wj,.I Wk,.slice Wl Wm Wn,.bool Wo,.I Wp]/\AG 100 #[.pointer q0,.agg #[.I Wc,.I Wd,.string We,.slice Wf Wg Wh,.I Wi,.I Wj,.I Wk,.slice Wl Wm Wn,.bool Wo,.I Wp]] IJ R (λz WI=>z=(.tuple #[])/\R (.T #[]) WI)))))) (AG 242 #[.pointer q0] Gu R (λz G=>z=(.tuple #[])/\R (.T #[]) G))) (AG 242 #[.pointer q0] Gu R (λz G=>z=(.tuple #[])/\R (.T #[]) G)))))))))))):Spec prog 218 #[.pointer q0] Z2 R:=M.start h ok
end HN
namespace Hj
variable {s0:ByteArray}{x3:Int}
def M:Fw:=⟨prog,221,f221,[],[],false,[],[],[(224,[(0,wT),(3,wI)])]⟩
def ok:M.Ok:=⟨AH.nil,mixed,func221,by kernel_rfl⟩
def FV:=M.pt 0
def start (h:FV R s0 0 Z2):Spec prog 221 #[.string s0] Z2 R:=M.start h ok
def A9 (h:Br (x3<(s0.size:Int)) (∃G:UInt8,0<=x3/\(ByteArray.data s0)[x3.toNat]?=some G/\Br ((48:Int)<=(G.toNat:Int)) (∃u17:UInt8,0<=x3/\(ByteArray.data s0)[x3.toNat]?=some u17/\Br (((u17.toNat:Int):Int)<=57) (AL (x3+1)/\FV R s0 (x3+1) Z2) (R (.returned (.I x3)) Z2)) (R (.returned (.I x3)) Z2)) (R (.returned (.I x3)) Z2)):FV R s0 x3 Z2:=M.of h ok rfl
end Hj
namespace Ga
variable {gh:Option Addr}{Rx cC:Nat}{mA s1:ByteArray}
def M:Fw:=⟨prog,226,f226,[],[2],false,[],[],[]⟩
def ok:M.Ok:=⟨AH.nil,mixed,func226,by kernel_rfl⟩
def start (h:∀b2:Nat,R (.returned (.bool (!(ByteArray.toList s1==ByteArray.toList mA)))) Z2):Spec prog 226 #[.agg #[.slice gh Rx cC,.string mA],.string s1] Z2 R:=M.start h ok
end Ga
namespace jb
variable {x0:Int}
def M:Fw:=⟨prog,238,f238,[196],[],false,[],[],[]⟩
def ok:M.Ok:=⟨.cons call196 (AH.nil),mixed,func238,by kernel_rfl⟩
def start (h:AG 196 #[.U x0] Z2 R (CI .u64 λx4 y=>R (.returned (.bool (decide (x4=9221120237041090560)))) y)):Spec prog 238 #[.U x0] Z2 R:=M.start h ok
end jb
namespace Wq
def M:Fw:=⟨prog,240,f240,[],[],false,[],[],[]⟩
def ok:M.Ok:=⟨AH.nil,mixed,func240,by kernel_rfl⟩
def start (h:Al Z2 λb1=>R (.returned (.slice (aD b1 0) 6 6)) (Hp.set Z2 b1 (.cells #[(.string (ByteArray.mk #[])),(.string (ByteArray.mk #[115,117,109])),(.string (ByteArray.mk #[109,105,110])),(.string (ByteArray.mk #[109,97,120])),(.string (ByteArray.mk #[97,118,103])),(.string (ByteArray.mk #[99,111,117,110,116]))] 9 (0,0)))):Spec prog 240 #[] Z2 R:=M.start h ok
end Wq
namespace Ce
variable {s0:ByteArray}{x1:Int}
def M:Fw:=⟨prog,243,f243,[267,268],[],false,[],[],[]⟩
def ok:M.Ok:=⟨.cons call267 (.cons call268 (AH.nil)),mixed,func243,by kernel_rfl⟩
def start (h:Br (x1=32) (AG 267 #[.string s0] Z2 R (λz y=>∃G TP AP7,z=(.tuple #[G,.I TP,AP7])/\AI prog (convert 329 258 G) y (λz AE=>∃Cd,(Value.float .f64 Cd)=z/\R (.T #[(Value.float .f64 Cd),.I TP,AP7]) AE))) (AG 268 #[.string s0] Z2 R (λz y=>∃AP8 jT AP9,z=(.tuple #[AP8,.I jT,AP9])/\R (.T #[AP8,.I jT,AP9]) y))):Spec prog 243 #[.string s0,.I x1] Z2 R:=M.start h ok
end Ce
namespace HO
variable {q0 q1:Option Addr}{rE cG eV x3d:Int}{s2b s2c s3c:ByteArray}
def M:Fw:=⟨prog,264,f264,[65,86],[6,7],false,[(1,10,false)],[],[]⟩
def ok:M.Ok:=⟨.cons call65 (.cons call86 (AH.nil)),mixed,func264,by kernel_rfl⟩
def start (h:∀b6:Nat,∀b7:Nat,Pq q1 λDk G=>LS Z2 Dk (G+3) λaC n12 WR=>Al Z2 λHe=>AI prog (GO 112 aC n12 WR He) (Hp.set Z2 He (.cells #[.I rE,.string s2b,.string s2c] 172 (0,0))) (CS λVW n15 TM y=>AI prog (Instr.storeAt 112 (.pointer (aD Dk (G+3))) (.slice VW n15 TM)) y (λ_ AE=>LS AE Dk (G+3) λR3 n21 QJ=>AG 86 #[.slice R3 n21 QJ] AE R (CI .i64 λFK AK=>Br (FK≠0) (AG 65 #[.pointer q0,.I 183,.agg #[.I cG,.I eV,.string s3c,.I x3d]] AK R (λz Am=>z=(.tuple #[])/\R (.T #[]) Am)) (R (.T #[]) AK))))):Spec prog 264 #[.pointer q0,.pointer q1,.agg #[.I rE,.string s2b,.string s2c],.agg #[.I cG,.I eV,.string s3c,.I x3d]] Z2 R:=M.start h ok
end HO
namespace Fu
variable {s0:ByteArray}{x3 x8 x9 x16:Int}{v4 v2:Value}{t11:Bool}
def M:Fw:=⟨prog,268,f268,[282,283,284,289,290,291,293,294],[],false,[],[],[(254,[(0,wT),(3,wI),(4,wV)]),(8190,[(2,wV),(3,wI),(4,wV)]),(32446,[(0,wT),(3,wI),(4,wV),(8,wU),(9,wI),(11,wB),(16,wU)])]⟩
def ok:M.Ok:=⟨.cons call282 (.cons call283 (.cons call284 (.cons call289 (.cons call290 (.cons call291 (.cons call293 (.cons call294 (AH.nil)))))))),mixed,func268,by kernel_rfl⟩
def AX5:=M.pt 0
def AQB:=M.pt 2
def start (h:AG 282 #[.string s0] Z2 R (λz y=>∃AQC Wr AQD,z=(.tuple #[AQC,.I Wr,.bool AQD])/\Bo AQD (R (.T #[AQC,.I Wr,.nilIface]) y) (AG 283 #[.string s0] y R (λz AE=>∃fA fB AEa AJ2 AQE G AQF,z=(.tuple #[.U fA,.I fB,.bool AEa,.bool AJ2,.bool AQE,.I G,.bool AQF])/\Bn AQF (R (.T #[.float .f64 0,.I G,(.iface 311 (.I 2))]) AE) (Bo AQE (∃s53,YF prog (Instr.sliceAt 9 (.string s0) none (some (.I G)) none) AE (.string s53)/\AG 284 #[.string s53,(.pointer (aD 6 0)),.U fA,.I fB,.bool AEa,.bool AJ2] AE R (λz AK=>∃AQG AQH,z=(.tuple #[AQG,AQH])/\R (.T #[AQG,.I G,AQH]) AK)) (LB AE 5 0 λt64=>Bo t64 (AG 291 #[.bool AEa] AE R (CI .u64 λx66 AK=>((0:Int)<=63/\63<=((IntKind.bits .u64:Nat):Int))/\Df (IntKind.u64.wrap (x66*2^Int.toNat 63)) λoL=>Br (fA=0) (Df (Go.bits .or .u64 oL 0) λx71=>EN prog 292 #[.U x71] AK (λz Am=>∃x72,(Value.float .f64 x72)=z/\R (.T #[(Value.float .f64 x72),.I G,.nilIface]) Am)) (Br (310<fB) (Df (Go.bits .or .u64 oL 9218868437227405312) λx77=>EN prog 292 #[.U x77] AK (λz Am=>∃x78,(Value.float .f64 x78)=z/\R (.T #[(Value.float .f64 x78),.I G,(.iface 311 (.I 1))]) Am)) (Br (fB<(-345)) (Df (Go.bits .or .u64 oL 0) λx84=>EN prog 292 #[.U x84] AK (λz Am=>∃x85,(Value.float .f64 x85)=z/\R (.T #[(Value.float .f64 x85),.I G,.nilIface]) Am)) (Bn AJ2 (AG 293 #[.U fA,.I fB,.bool AEa] AK R (λz Am=>∃AQI AQJ,z=(.tuple #[AQI,.bool AQJ])/\Bo AQJ (R (.T #[AQI,.I G,.nilIface]) Am) (AQB R s0 G .nilIface fA fB false oL Am))) (AQB R s0 G .nilIface fA fB true oL AK)))))) (AX5 R s0 G .nilIface AE))))))):Spec prog 268 #[.string s0] Z2 R:=M.start h ok
end Fu
namespace DQ
variable {t0:Bool}
def M:Fw:=⟨prog,291,f291,[],[],false,[],[],[]⟩
def ok:M.Ok:=⟨AH.nil,mixed,func291,by kernel_rfl⟩
def start (h:Bo t0 (R (.returned (.U 1)) Z2) (R (.returned (.U 0)) Z2)):Spec prog 291 #[.bool t0] Z2 R:=M.start h ok
end DQ
namespace Jh
variable {s0 s1:ByteArray}
def M:Fw:=⟨prog,297,f297,[322],[],false,[],[],[]⟩
def ok:M.Ok:=⟨.cons call322 (AH.nil),mixed,func297,by kernel_rfl⟩
def start (h:AG 322 #[.string s0,.string s1] Z2 R (CB λt7 y=>R (.B t7) y)):Spec prog 297 #[.string s0,.string s1] Z2 R:=M.start h ok
end Jh
end TwW
end
end
