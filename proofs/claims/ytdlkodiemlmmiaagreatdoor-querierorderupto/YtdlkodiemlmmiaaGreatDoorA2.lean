/-
  Part 2 of the proof that the law QuerierOrderUptoCardSaid of the given program answers true for every input of the given statement; the input reads behind the call as it did. (The texts: packed from 8 texts. Names are shortened by the packing program, for the bound on size.)
-/
import Derived.Test.YtdlkodiemlmmiaaGreatDoorA1
set_option linter.all false
section
namespace Tw
open Go
variable [GO]
def ud:List Nat->Nat->Bool
 | [],_=>false
 | x::l,n=>Nat.beq x n||ud l n
theorem ix:∀{l:List Nat} {n:Nat},ud l n=true->n∈l
 | x::l,n,h=>by
  simp only[ud,Alh]at h;rcases h with h|h
  .exact(Akg h)▸Aj5 ..
  .exact Ajm _ (ix h)
def AH (P:Program)(l:List Nat):Prop:=∀f∈l,Enters P f
theorem AH.nil {P:Program}:AH P []:=λf h=>by cases h
theorem AH.cons {P:Program}{f:Nat}{l:List Nat}(h:Enters P f)(hl:AH P l):AH P (f::l):=λx G=>by
 rcases Ajo.1 G with rfl|G
 .exact h
 .exact hl x G
abbrev KP:=Hp->Hp->Prop->Prop
def H6 (G:Vl->(SV->Vl->Prop)->Prop)(dst:Option Nat)(s:S)(Z0:Hp)(v:Value)(kp:KP)(K:S->Prop):Prop:=match dst with
 | none=>kp Z0 s.Z22 (K s)
 | some d=>match s.ok with
  | true=>G s.vl λx vl=>eqV x vl v (kp Z0 s.Z22 (K ((s.w vl).put (some d) x)))
  | false=>False
def bo (G:Vl->(SV->Vl->Prop)->Prop):Prop:=∀vl k,G vl k->∃a w,vl.Le w/\k a w
theorem LL {P:Program}{t:TypeId}:bo (aL P t):=λ_ _ h=>ub h
def zD:Vl->(SV->Vl->Prop)->Prop:=λvl k=>∃m:Nat,k (.at (.mp (some m))) vl
theorem uf:bo zD:=λvl k ⟨m,h⟩=>⟨_,_,.refl _,h⟩
def zF:Vl->(SV->Vl->Prop)->Prop:=λvl k=>∃v:Value,k (.at (.raw v)) vl
theorem ug:bo zF:=λvl k ⟨m,h⟩=>⟨_,_,.refl _,h⟩
def VZ (P:Program)(t:TypeId)(two:Bool):Vl->(SV->Vl->Prop)->Prop:=λvl k=>match two with
 | false=>ex1 P t vl λa vl=>k (.v a) vl
 | true=>ex1 P t vl λa vl=>∃b:Bool,k (.bR [a,.a (.bs vl.β.length false)]) (vl.nN (.var b))
theorem oD {P:Program}{t:TypeId}{two:Bool}:bo (VZ P t two):=λvl k h=>by
 cases two with
 | false=>unfold VZ at h;obtain⟨a,w,G,h⟩:=F6 h;exact⟨_,_,G,h⟩
 | true=>unfold VZ at h;obtain⟨a,w,G,b,h⟩:=F6 h;exact⟨_,_,G.trans (Vl.rW _ _),h⟩
def zG (P:Program)(t u:TypeId):Vl->(SV->Vl->Prop)->Prop:=λvl k=>ex1 P t vl λa vl=>ex1 P u vl λb vl=>k (.bR [a,b]) vl
theorem uh {P:Program}{t u:TypeId}:bo (zG P t u):=λvl k h=>by
 obtain⟨a,w,G,h⟩:=F6 h;obtain⟨b,w2,h2,h⟩:=F6 h;exact⟨_,_,G.trans h2,h⟩
def St' (J:Env)(s:S)(kq:Hp->Hp->Prop)(K:S->Prop):Env->Bx->Hp->Prop:=λe' Hi Z'=>∃G,e'=G.e J/\Hi=G.b/\Z'=G.Z22/\kq s.Z22 Z'/\(∀p∈s.b,p∈Hi)/\K G
theorem As {gen:Vl->(SV->Vl->Prop)->Prop}(hg:bo gen){dst:Option Nat}{s:S}{G:Hp}{v:Value}{kp:KP}{kq:Hp->Hp->Prop}{K:S->Prop}(Mj:∀Z0 G F,kp Z0 G F->F/\kq Z0 G)
  (h:H6 gen dst (s.hp G) s.Z22 v kp K) (J:Env):St' J s kq K (put (s.e J) dst v) s.b G:=by
 cases dst with
 | none=>
  obtain⟨h1,h2⟩:=Mj _ _ _ h;exact⟨s.hp G,rfl,rfl,rfl,h2,λ_ h=>h,h1⟩
 | some d=>
  simp only[H6]at h;cases hs:(s.hp G).ok with
  | false=>rw[hs]at h;cases h
  | true=>
   rw[hs]at h;obtain⟨x,w,hle,h⟩:=hg _ _ h;obtain⟨hv,h⟩:=uc h;obtain⟨h1,h2⟩:=Mj _ _ _ h;have UH:=S.V4 hs hle.le;refine⟨_,?_,?_,?_,h2,λ_ h=>h,h1⟩
   .rw[S.KS,UH.e J,hv];rfl
   .rw[S.KT,UH.b];rfl
   .rw[S.HO];rfl
def S.boxed (s:S)(d:Option Nat)(b:Nat)(T:TypeId)(cs:List Ck):S:=
 S.put ⟨s.env,(s.vl.δ.length,T,cs)::s.bx,s.vl.AD6 b,s.Z22⟩ d (.at (.pt (.bx s.vl.δ.length 0)))
def AEB (hid:Bool)(d:Option Nat)(T:TypeId)(cs:List Ck)(s:S)(K:S->Prop):Prop:=match hid with
 | true=>match s.ok&&oks s.vl cs with
  | true=>∀b:Nat,K (s.boxed d b T cs)
  | false=>False
 | false=>∀b:Nat,s.Z22 b=none->K ((s.hp (Hp.set s.Z22 b (.cells (Bj s.vl cs).toArray T (0,0)))).put d (.at (.pt (.at b 0))))
def zH (P:Program)(T:TypeId):Option Value:=match P.info? T with
 | some G=>G.zero
 | none=>none
theorem bp {P:Program}{T:TypeId}{z:Value}(h:zH P T=some z):∀w,(zeroValue T).run P w=.ok z w:=λw=>by
 unfold zH at h;split at h
 .rename_i G hi;simp[zeroValue,typeInfo,hi,h]
 .cases h
structure oE where
 P:Program
 R:Rr
 LN:List Nat
 hid:List Nat
 wr:Bool
def oE.rX (c:oE)(d:Option Nat):Bool:=match d with
 | some d=>ud c.hid d
 | none=>false
def EN (P:Program)(f:FuncId)(args:Array Value)(Z22:Hp)(Φ:Value->Hp->Prop):Prop:=
 ∀w (F:Nat->Prop),Sat Z22 w->(∀b,F b->b<w.heap.size/\Z22 b=none)->∃v G Z',(callFunc f args).run P w=.ok (.value v) G/\Φ v Z'/\Fin Z' F w G
theorem EN.y {P:Program}{f:FuncId}{args:Array Value}{Z22:Hp}{v:Value}{Φ:Value->Hp->Prop}(hy:YN P f args Z22 v)(h:Φ v Z22):EN P f args Z22 Φ:=λw F G hF=>
 ⟨v,w,Z22,hy w G,h,G,λb hb=>⟨(hF b hb).2,rfl⟩,.same rfl rfl rfl,rfl,Ajt _⟩
theorem EN.mono {P:Program}{f:FuncId}{args:Array Value}{Z22:Hp}{Φ G:Value->Hp->Prop}(h:EN P f args Z22 Φ)(hh:∀v Z',Φ v Z'->G v Z'):EN P f args Z22 G:=λw F hs hF=>
 let ⟨v,w',Z',h1,h2,h3⟩:=h w F hs hF
 ⟨v,w',Z',h1,hh _ _ h2,h3⟩
theorem AW.en {g:Gl}{ops:Array Oper}{i:Nat}{d:Option Nat}{ty:TypeId}{gd:Option (Nat×Bool)}{e:Env}{bx:Bx}{Z22:Hp}{K:Env->Bx->Hp->Prop}{x:Operand}{xs:Array Operand}{ts:Array TypeId}{f:FuncId}{args:Array Value}
  (hs:sig ops i=some (d,.call { callee:=.value x,args:=xs,argTypes:=ts },ty,gd)) (hw:Ac ops e gd=true) (hd:HD d g.n=true) (hx:AD e x=.func (.func f) #[] #[]) (G:xs.toList.map (AD e)=args.toList)
  (h:EN g.P f args Z22 λv Z'=>K (put e d v) bx Z'):AW g ops i e bx Z22 K:=by
 intro w0 F a w st;obtain⟨o,ho,rfl,B6,Di,rfl⟩:=Bg hs;refine Ct ho (by rw[st.wanted];exact hw) ?_;obtain⟨v,w',Z',h1,h2,h3⟩:=h w _ st.sat st.lt;rw[st.eval];have G:xs.map (AD e)=args:=by rw[<-AkD];simpa using G
 have CG:(execOp (AD e) o).run g.P w=.ok (.value v) w':=by
  simp only[execOp,B6,resolve,hx,G,Deferred.ofValue,invoke,bind,Sem.bind,pure,Amd,Array.append_empty];exact h1
 rw[Dh CG (λd=>by simp)];exact⟨_,_,_,(st.fin h3).put _ _ (HD.lt hd),h2⟩
abbrev zI : String := "Len"
abbrev UI : String := "Less"
abbrev R5 : String := "Swap"
abbrev AG3 : String := "Push"
abbrev AOk : String := "Pop"
def MC (P:Program)(u:Value)(name:String)(args:Array Value)(Z22:Hp)(R:Rr):Prop:=
 ∃(f:FuncId) (G:Array Value),(∀w,Sat Z22 w->(invoke (.fn (.method name) #[]) (#[u]++args)).run P w=.ok (.enter f G) w)/\Spec P f G Z22 R
theorem MC.cont {P:Program}{u:Value}{name:String}{args:Array Value}{Z22:Hp}{R:Rr}{Φ G:Value->Hp->Prop}(h:MC P u name args Z22 (AY R Φ))(hh:∀v Z',Φ v Z'->G v Z'):MC P u name args Z22 (AY R G):=
 let ⟨f,Aji,hm,h⟩:=h
 ⟨f,Aji,hm,h.cont hh⟩
theorem AW.inv {g:Gl}{ops:Array Oper}{i:Nat}{d:Option Nat}{ty:TypeId}{gd:Option (Nat×Bool)}{e:Env}{bx:Bx}{Z22:Hp}{K:Env->Bx->Hp->Prop}{x:Operand}{xs:Array Operand}{ts:Array TypeId}{name:String}{u:Value}{vs:Array Value}
  (hs:sig ops i=some (d,.call { callee:=.invoke x name,args:=xs,argTypes:=ts },ty,gd)) (hw:Ac ops e gd=true) (hd:HD d g.n=true) (hx:AD e x=u) (IL:xs.toList.map (AD e)=vs.toList)
  (h:MC g.P u name vs Z22 (AY g.R λv Z'=>K (put e d v) bx Z')):AW g ops i e bx Z22 K:=by
 obtain⟨f,Aji,hm,h⟩:=h;intro w0 F a w st;obtain⟨o,ho,rfl,B6,Di,rfl⟩:=Bg hs;refine Ct ho (by rw[st.wanted];exact hw) ?_;have IL:xs.map (AD e)=vs:=by rw[<-AkD];simpa using IL
 have CG:(execOp (AD e) o).run g.P w=.ok (.enter f Aji) w:=by
  simp only[execOp,B6,resolve,hx,IL,bind,Sem.bind,pure];exact hm w st.sat
 rw[st.eval,Dh CG (λd=>by simp)];refine⟨λhh=>(by cases hh),Vz (Calls.mono (h w _ st.sat st.lt) λen w'=>?_)⟩
 rintro⟨Z',G,hf⟩
 have HC:=st.fin hf;cases en with
 | returned v=>exact⟨_,_,_,HC.put _ _ (HD.lt hd),G⟩
 | panicked ch=>
  rcases g.pan with ⟨h1,h2⟩|Ab
  .exact⟨⟨h1,HC.defers.trans h2⟩,Z',G,HC.toFin⟩
  .exact absurd G (Ab ch Z')
 | outgrown=>exact G.elim
def zJ (c:oE)(dst:Option Nat)(x:Operand)(xs:List Operand)(ty:TypeId)(s:S)(kp:KP)(K:S->Prop):Prop:=match s.op x,s.eJ xs with
 | some (.v (.a (.fn f a b))),some vs=>match ud c.LN f with
  | true=>Spec c.P f (a.toList++(DK s.vl vs++b.toList)).toArray s.Z22 (AY c.R λv G=>H6 (aL c.P ty) dst (s.hp G) s.Z22 v kp K)
  | false=>match Nat.beq (a.size+b.size) 0 with
   | true=>EN c.P f (DK s.vl vs).toArray s.Z22 (λv G=>H6 (aL c.P ty) dst (s.hp G) s.Z22 v kp K)
   | false=>False
 | some (.v (.a (.raw u))),some vs=>match ud c.hid 100000 with
  | true=>∃l:Nat,u=.func (.yield l) #[] #[]/\Jf c.P l (DK s.vl vs).toArray s.Z22 (AY c.R λv G=>H6 (aL c.P ty) dst (s.hp G) s.Z22 v kp K)
  | false=>∃(f:Nat) (fst cap:Array Value),u=.func (.func f) fst cap/\Enters c.P f/\Spec c.P f (fst++(DK s.vl vs).toArray++cap) s.Z22 (AY c.R λv G=>H6 (aL c.P ty) dst (s.hp G) s.Z22 v kp K)
 | _,_=>False
def biV (c:oE)(dst:Option Nat)(b:Builtin)(xs:List Operand)(ts:Array TypeId)(ty:TypeId)(s:S)(kp:KP)(K:S->Prop):Prop:=match s.eJ xs with
 | none=>False
 | some vs=>match b,xs with
  | .append,[_,_]=>AI c.P (Builtin.append_ ts ty (DK s.vl vs).toArray) s.Z22 (λv G=>H6 (aL c.P ty) dst (s.hp G) s.Z22 v kp K)
  | .copy,[_,_]=>AI c.P (Builtin.copy_ ts ty (DK s.vl vs).toArray) s.Z22 (λv G=>H6 (aL c.P ty) dst (s.hp G) s.Z22 v kp K)
  | .delete,[_,_]=>AI c.P (Builtin.delete_ ts ty (DK s.vl vs).toArray) s.Z22 (λv G=>H6 (aL c.P ty) dst (s.hp G) s.Z22 v kp K)
  | .clear,[_]=>AI c.P (Builtin.clear_ ts ty (DK s.vl vs).toArray) s.Z22 (λv G=>H6 (aL c.P ty) dst (s.hp G) s.Z22 v kp K)
  | .real,[_]=>AI c.P (Builtin.real_ ts ty (DK s.vl vs).toArray) s.Z22 (λv G=>H6 (aL c.P ty) dst (s.hp G) s.Z22 v kp K)
  | .imag,[_]=>AI c.P (Builtin.imag_ ts ty (DK s.vl vs).toArray) s.Z22 (λv G=>H6 (aL c.P ty) dst (s.hp G) s.Z22 v kp K)
  | .complex,[_,_]=>AI c.P (Builtin.complex_ ts ty (DK s.vl vs).toArray) s.Z22 (λv G=>H6 (aL c.P ty) dst (s.hp G) s.Z22 v kp K)
  | .unsafeString,[_,_]=>AI c.P (Builtin.unsafeString_ ts ty (DK s.vl vs).toArray) s.Z22 (λv G=>H6 (aL c.P ty) dst (s.hp G) s.Z22 v kp K)
  | .min,[_,_]=>AI c.P (Builtin.min_ ts ty (DK s.vl vs).toArray) s.Z22 (λv G=>H6 (aL c.P ty) dst (s.hp G) s.Z22 v kp K)
  | .max,[_,_]=>AI c.P (Builtin.max_ ts ty (DK s.vl vs).toArray) s.Z22 (λv G=>H6 (aL c.P ty) dst (s.hp G) s.Z22 v kp K)
  | _,_=>False
def flB:BinOp->Bool
 | .add=>true
 | .sub=>true
 | .mul=>true
 | .quo=>true
 | _=>false
def AJt (P:Program)(T:TypeId):Bool:=match P.underlying T with
 | some (.float _)=>true
 | _=>false
def ui (c:oE)(dst:Option Nat)(op:Op)(ty:TypeId)(s:S)(kp:KP)(K:S->Prop):Prop:=match op with
 | .call cl=>match cl.callee with
  | .value x=>zJ c dst x cl.args.toList ty s kp K
  | .builtin b=>biV c dst b cl.args.toList cl.argTypes ty s kp K
  | .invoke x name=>match s.op x,s.eJ cl.args.toList with
   | some u,some vs=>MC c.P (u.den s.vl) name (DK s.vl vs).toArray s.Z22 (AY c.R λv G=>H6 (aL c.P ty) dst (s.hp G) s.Z22 v kp K)
   | _,_=>False
 | .binOp b T x y _=>match flB b,s.op x,s.op y with
  | true,some u,some v=>AI c.P (binOp b T (u.den s.vl) (v.den s.vl)) s.Z22 (λv G=>H6 (aL c.P ty) dst (s.hp G) s.Z22 v kp K)
  | _,_,_=>False
 | .box T x=>match s.op x with
  | some v=>match v.flat with
   | some cs=>AEB (c.rX dst) dst T cs s K
   | none=>False
  | none=>False
 | .alloc T=>match zH c.P T with
  | some z=>AEB (c.rX dst) dst T (UF z.cells.toList) s K
  | none=>False
 | .buildSlice T m ps=>match c.P.underlying T,s.parts ps.toList with
  | some (.slice E),some vs=>match Program.M8 c.P E m (RE s.vl vs) with
   | some cs=>∀b:Nat,s.Z22 b=none->K ((s.hp (Hp.set s.Z22 b (.cells cs E (0,0)))).put dst (.at (.sl (.at b 0) m m)))
   | none=>False
  | _,_=>False
 | .store T x y=>match dst,yx (s.op x),s.op y with
  | none,some (.at b o),some v=>AI c.P (Instr.storeAt T (.pointer (some ⟨b,o,none⟩)) (v.den s.vl)) s.Z22 (λ_ G=>kp s.Z22 G (K (s.hp G)))
  | _,_,_=>False
 | .convert T T' x=>match s.op x with
  | some v=>AI c.P (convert T T' (v.den s.vl)) s.Z22 (λv G=>H6 (aL c.P ty) dst (s.hp G) s.Z22 v kp K)
  | none=>False
 | .makeMap T none=>AI c.P (Instr.makeMap T none) s.Z22 (λv G=>H6 zD dst (s.hp G) s.Z22 v kp K)
 | .lookup T x y two=>match c.P.underlying T,s.op x,s.op y with
  | some (.map _ t),some u,some v=>AI c.P (Instr.lookup T (u.den s.vl) (v.den s.vl) two) s.Z22 (λv G=>H6 (VZ c.P t two) dst (s.hp G) s.Z22 v kp K)
  | _,_,_=>False
 | .range T x=>match s.op x with
  | some v=>AI c.P (Instr.range T (v.den s.vl)) s.Z22 (λv G=>H6 zF dst (s.hp G) s.Z22 v kp K)
  | none=>False
 | .makeSlice T x y=>match s.op x,s.op y with
  | some u,some v=>AI c.P (Instr.makeSlice T (u.den s.vl) (v.den s.vl)) s.Z22 (λv G=>H6 (aL c.P ty) dst (s.hp G) s.Z22 v kp K)
  | _,_=>False
 | .typeAssert x T A two=>match s.op x with
  | some u=>AI c.P (Instr.typeAssert (u.den s.vl) T A two) s.Z22 (λv G=>H6 (aL c.P ty) dst (s.hp G) s.Z22 v kp K)
  | none=>False
 | _=>False
section
variable {g:Gl}{ops:Array Oper}{i:Nat}{J:Env}{dst:Option Nat}{op:Op}{ty:TypeId}{gd:Option (Nat×Bool)}{s:S}{kp:KP}{kq:Hp->Hp->Prop}{K:S->Prop}{c:oE}
theorem iy {x:Operand}{xs:Array Operand}{ts:Array TypeId}(hP:c.P=g.P)(hR:c.R=g.R)(hE:AH g.P c.LN)(Mj:∀Z0 Z1 F,kp Z0 Z1 F->F/\kq Z0 Z1)
  (hs:sig ops i=some (dst,.call { callee:=.value x,args:=xs,argTypes:=ts },ty,gd)) (hw:Ac ops (s.e J) gd=true) (hd:HD dst g.n=true) (h:zJ c dst x xs.toList ty s kp K):AW g ops i (s.e J) s.b s.Z22 (St' J s kq K):=by
 unfold zJ at h;rw[hP,hR]at h;split at h
 .rename_i f a b vs hx iC;split at h
  .rename_i hm;refine AW.call hs hw hd (λo ho _ w=>TH (hE f (ix hm)) (fst:=a) (cap:=b) (vs:=(DK s.vl vs).toArray) (by rw[ev hx];rfl) (by simpa using Dz iC) ?_ o ho w) (h.mono λe Z1 G=>?_)
   .rw[<-AkD];simp
   .cases e with
    | returned v=>exact As LL Mj G J
    | panicked ch=>exact G
    | outgrown=>exact G
  .split at h
   .rename_i hz;have hz:=Akg hz;exact AW.en hs hw hd (by rw[ev hx,show a=#[] from Alk (by omega),show b=#[] from Alk (by omega)];rfl) (by simpa using Dz iC) (h.mono λv Z1 G=>As LL Mj G J)
   .cases h
 .rename_i u vs hx iC;split at h
  .obtain⟨l,hu,h⟩:=h;refine AW.yield hs hw hd (u:=u) (vs:=(DK s.vl vs).toArray) (by rw[ev hx];rfl) (by simpa using Dz iC) hu (h.mono λe Z1 G=>?_);cases e with
   | returned v=>exact As LL Mj G J
   | panicked ch=>exact G
   | outgrown=>exact G
  .obtain⟨f,fst,cap,hu,KQ,h⟩:=h;refine AW.AOW hs hw hd (u:=u) (vs:=(DK s.vl vs).toArray) (by rw[ev hx];rfl) (by simpa using Dz iC) hu KQ (h.mono λe Z1 G=>?_);cases e with
   | returned v=>exact As LL Mj G J
   | panicked ch=>exact G
   | outgrown=>exact G
 .cases h
theorem iz {T:TypeId}{cs:List Ck}{hid:Bool}(TP:∀Z0 Z1,Ext Z0 Z1->kq Z0 Z1)(h:AEB hid dst T cs s K):
  (hid=true->∀b,St' J s kq K (put (s.e J) dst (.pointer (some ⟨b,0,none⟩))) ((b,.cells (Bj s.vl cs).toArray T (0,0))::s.b) s.Z22)/\
  (hid=false->∀b,s.Z22 b=none->St' J s kq K (put (s.e J) dst (.pointer (some ⟨b,0,none⟩))) s.b (s.Z22.set b (.cells (Bj s.vl cs).toArray T (0,0)))):=by
 unfold AEB at h
 constructor
 .rintro rfl b
  simp only at h;cases hs:s.ok&&oks s.vl cs with
  | false=>rw[hs]at h;cases h
  | true=>
   rw[hs]at h;simp only[Ajz]at hs;have h:=h b;have G:=Vl.AD8 s.vl b;have UH:=S.V4 hs.1 G;have hb:(S.boxed s dst b T cs).b=(b,Obj.cells (Bj s.vl cs).toArray T (0,0))::s.b:=by
    unfold S.boxed;rw[S.KT];simp only[S.b,GZ];have hbv:GZ (s.vl.AD6 b) s.bx=GZ s.vl s.bx:=UH.b;rw[VY G hs.2,hbv];show(nth 0 (s.vl.δ++[b]) s.vl.δ.length,_)::_=_
    rw[Px]
   refine⟨_,?_,hb.symm,?_,TP _ _ (Ext.refl _),λ_ h=>Ajm _ h,h⟩
   .unfold S.boxed;rw[S.KS];have:=UH.e J;show put (s.e J) dst _=put ((s.w (s.vl.AD6 b)).e J) dst (.pointer (some ⟨nth 0 (s.vl.δ++[b]) s.vl.δ.length,0,none⟩))
    rw[this,Px]
   .unfold S.boxed;rw[S.HO]
 .rintro rfl b hb
  have h:=h b hb;refine⟨_,?_,?_,?_,TP _ _ (.set hb),λ_ h=>h,h⟩
  .rw[S.KS];rfl
  .rw[S.KT];rfl
  .rw[S.HO];rfl
section
variable {e:Env}{x y:Operand}{u v:Value}{ts:Array TypeId}{ty:TypeId}
theorem UJ (hx:AD e x=u)(o:Oper)(G:o.op=.call { callee:=.builtin .real,args:=#[x],argTypes:=ts })(ht:o.type=ty):execOp (AD e) o=(do pure (.value (<-Builtin.real_ ts ty #[u]))):=by
 subst ht;simp[execOp,G,resolve,invoke,builtin,hx]
theorem UK (hx:AD e x=u)(o:Oper)(G:o.op=.call { callee:=.builtin .imag,args:=#[x],argTypes:=ts })(ht:o.type=ty):execOp (AD e) o=(do pure (.value (<-Builtin.imag_ ts ty #[u]))):=by
 subst ht;simp[execOp,G,resolve,invoke,builtin,hx]
theorem NB (hx:AD e x=u)(hy:AD e y=v)(o:Oper)(G:o.op=.call { callee:=.builtin .complex,args:=#[x,y],argTypes:=ts })(ht:o.type=ty):execOp (AD e) o=(do pure (.value (<-Builtin.complex_ ts ty #[u,v]))):=by
 subst ht;simp[execOp,G,resolve,invoke,builtin,hx,hy]
theorem oF (hx:AD e x=u)(hy:AD e y=v)(o:Oper)(G:o.op=.call { callee:=.builtin .min,args:=#[x,y],argTypes:=ts })(ht:o.type=ty):execOp (AD e) o=(do pure (.value (<-Builtin.min_ ts ty #[u,v]))):=by
 subst ht;simp[execOp,G,resolve,invoke,builtin,hx,hy]
theorem oG (hx:AD e x=u)(hy:AD e y=v)(o:Oper)(G:o.op=.call { callee:=.builtin .max,args:=#[x,y],argTypes:=ts })(ht:o.type=ty):execOp (AD e) o=(do pure (.value (<-Builtin.max_ ts ty #[u,v]))):=by
 subst ht;simp[execOp,G,resolve,invoke,builtin,hx,hy]
theorem QI (hx:AD e x=u)(hy:AD e y=v)(o:Oper)(G:o.op=.call { callee:=.builtin .unsafeString,args:=#[x,y],argTypes:=ts })(ht:o.type=ty):execOp (AD e) o=(do pure (.value (<-Builtin.unsafeString_ ts ty #[u,v]))):=by
 subst ht;simp[execOp,G,resolve,invoke,builtin,hx,hy]
end
theorem uj {b:Builtin}{xs:Array Operand}{ts:Array TypeId}(hP:c.P=g.P)(Mj:∀Z0 Z1 F,kp Z0 Z1 F->F/\kq Z0 Z1)
  (hs:sig ops i=some (dst,.call { callee:=.builtin b,args:=xs,argTypes:=ts },ty,gd)) (hw:Ac ops (s.e J) gd=true) (hd:HD dst g.n=true) (h:biV c dst b xs.toList ts ty s kp K):AW g ops i (s.e J) s.b s.Z22 (St' J s kq K):=by
 unfold biV at h;rw[hP]at h;split at h
 .cases h
 .rename_i vs iC;have two:∀{x y:Operand},xs.toList=[x,y]->xs=#[x,y]/\DK s.vl vs=[AD (s.e J) x,AD (s.e J) y]:=λG=>by
   refine⟨by rw[<-AkD];simpa using G,?_⟩;rw[<-Dz (J:=J) iC,G];rfl
  have one:∀{x:Operand},xs.toList=[x]->xs=#[x]/\DK s.vl vs=[AD (s.e J) x]:=λG=>by
   refine⟨by rw[<-AkD];simpa using G,?_⟩;rw[<-Dz (J:=J) iC,G];rfl
  split at h
  .rename_i x y G;obtain⟨rfl,e⟩:=two G;rw[e]at h;exact AW.aR hs hw hd _ (λo ho ht=>J1 rfl rfl o ho ht) (h.mono λv Z1 hr=>As LL Mj hr J)
  .rename_i x y G;obtain⟨rfl,e⟩:=two G;rw[e]at h;exact AW.aR hs hw hd _ (λo ho ht=>iT rfl rfl o ho ht) (h.mono λv Z1 hr=>As LL Mj hr J)
  .rename_i x y G;obtain⟨rfl,e⟩:=two G;rw[e]at h;exact AW.aR hs hw hd _ (λo ho ht=>aS rfl rfl o ho ht) (h.mono λv Z1 hr=>As LL Mj hr J)
  .rename_i x G;obtain⟨rfl,e⟩:=one G;rw[e]at h;exact AW.aR hs hw hd _ (λo ho ht=>eC rfl o ho ht) (h.mono λv Z1 hr=>As LL Mj hr J)
  .rename_i x G;obtain⟨rfl,e⟩:=one G;rw[e]at h;exact AW.aR hs hw hd _ (λo ho ht=>UJ rfl o ho ht) (h.mono λv Z1 hr=>As LL Mj hr J)
  .rename_i x G;obtain⟨rfl,e⟩:=one G;rw[e]at h;exact AW.aR hs hw hd _ (λo ho ht=>UK rfl o ho ht) (h.mono λv Z1 hr=>As LL Mj hr J)
  .rename_i x y G;obtain⟨rfl,e⟩:=two G;rw[e]at h;exact AW.aR hs hw hd _ (λo ho ht=>NB rfl rfl o ho ht) (h.mono λv Z1 hr=>As LL Mj hr J)
  .rename_i x y G;obtain⟨rfl,e⟩:=two G;rw[e]at h;exact AW.aR hs hw hd _ (λo ho ht=>QI rfl rfl o ho ht) (h.mono λv Z1 hr=>As LL Mj hr J)
  .rename_i x y G;obtain⟨rfl,e⟩:=two G;rw[e]at h;exact AW.aR hs hw hd _ (λo ho ht=>oF rfl rfl o ho ht) (h.mono λv Z1 hr=>As LL Mj hr J)
  .rename_i x y G;obtain⟨rfl,e⟩:=two G;rw[e]at h;exact AW.aR hs hw hd _ (λo ho ht=>oG rfl rfl o ho ht) (h.mono λv Z1 hr=>As LL Mj hr J)
  .cases h
theorem AEC {e:Env}{b:BinOp}{T T':TypeId}{x y:Operand}{u v:Value}(hb:flB b=true)(hx:AD e x=u)(hy:AD e y=v)(o:Oper)(G:o.op=.binOp b T x y T'):execOp (AD e) o=(do pure (.value (<-binOp b T u v))):=by
 cases b<;>first|(cases hb;done)|(simp[execOp,G,hx,hy,eqGuard])
theorem WC (hP:c.P=g.P)(hR:c.R=g.R)(hE:AH g.P c.LN)(Mj:∀Z0 Z1 F,kp Z0 Z1 F->F/\kq Z0 Z1)(TP:∀Z0 Z1,Ext Z0 Z1->kq Z0 Z1)
  (hs:sig ops i=some (dst,op,ty,gd)) (hw:Ac ops (s.e J) gd=true) (hd:HD dst g.n=true) (h:ui c dst op ty s kp K):AW g ops i (s.e J) s.b s.Z22 (St' J s kq K):=by
 unfold ui at h;split at h
 .rename_i cl;obtain⟨ce,xs,ts⟩:=cl;split at h
  .rename_i x hx;simp only at hx h;subst hx;exact iy hP hR hE Mj hs hw hd h
  .rename_i b hx;simp only at hx h;subst hx;exact uj hP Mj hs hw hd h
  .rename_i x name hx;simp only at hx h;subst hx;rw[hP,hR]at h;split at h
   .rename_i u vs hu iC;obtain⟨f,Aji,hm,h⟩:=h;refine AW.inv hs hw hd (ev hu) (by simpa using Dz iC) ⟨f,Aji,hm,h.mono λe Z1 G=>?_⟩;cases e with
    | returned v=>exact As LL Mj G J
    | panicked ch=>exact G
    | outgrown=>exact G
   .cases h
 .rename_i b T x y T';split at h
  .rename_i u v hb hu hv;rw[hP]at h;exact AW.aR hs hw hd _ (λo ho ht=>AEC hb (ev hu) (ev hv) o ho) (h.mono λv Z1 G=>As LL Mj G J)
  .cases h
 .rename_i T x;split at h
  .rename_i v hv;split at h
   .rename_i cs hc;obtain⟨h1,h2⟩:=iz (J:=J) TP h;have hx:(AD (s.e J) x).cells=(Bj s.vl cs).toArray:=by rw[ev hv,iq hc]
    cases hh:c.rX dst with
    | true=>exact AW.box hs hw hd hx (h1 hh)
    | false=>exact AW.AXK hs hw hd hx (h2 hh)
   .cases h
  .cases h
 .rename_i T;split at h
  .rename_i z hz;obtain⟨h1,h2⟩:=iz (J:=J) TP h;have hx:z.cells=(Bj s.vl (UF z.cells.toList)).toArray:=by rw[KU]
   rw[hP]at hz;cases hh:c.rX dst with
   | true=>exact AW.alloc hs hw hd (bp hz) hx (h1 hh)
   | false=>exact AW.dz hs hw hd (bp hz) hx (h2 hh)
  .cases h
 .rename_i T m ps;rw[hP]at h;split at h
  .rename_i E vs hT iC;split at h
   .rename_i cs hc;refine AW.M8 hT hs hw hd (RF iC) hc λb hb=>?_;refine⟨_,?_,?_,?_,TP _ _ (.set hb),λ_ h=>h,h b hb⟩
    .rw[S.KS];rfl
    .rw[S.KT];rfl
    .rw[S.HO];rfl
   .cases h
  .cases h
 .rename_i T x y;split at h
  .rename_i b o v hx hy;obtain⟨u,e1,e2⟩:=Gb hx;rw[hP]at h;refine AW.store hs hw (p:=.pointer (some ⟨b,o,none⟩)) (by rw[ev e1,e2];rfl) (ev hy) (h.mono λ_ Z1 G=>?_);obtain⟨h1,h2⟩:=Mj _ _ _ G;exact⟨s.hp Z1,rfl,rfl,rfl,h2,λ_ h=>h,h1⟩
  .cases h
 .rename_i T T' x;split at h
  .rename_i v hv;rw[hP]at h;exact AW.aR hs hw hd _ (λo ho ht=>by simp only[execOp,ho];rw[ev hv]) (h.mono λv Z1 G=>As LL Mj G J)
  .cases h
 .rename_i T;rw[hP]at h;exact AW.aR hs hw hd _ (λo ho ht=>by simp only[execOp,ho];rfl) (h.mono λv Z1 G=>As uf Mj G J)
 .rename_i T x y two;rw[hP]at h;split at h
  .rename_i a t u v hT hu hv;exact AW.aR hs hw hd _ (λo ho ht=>by simp only[execOp,ho];rw[ev hu,ev hv]) (h.mono λv Z1 G=>As oD Mj G J)
  .cases h
 .rename_i T x;split at h
  .rename_i v hv;rw[hP]at h;exact AW.aR hs hw hd _ (λo ho ht=>by simp only[execOp,ho];rw[ev hv]) (h.mono λv Z1 G=>As ug Mj G J)
  .cases h
 .rename_i T x y;split at h
  .rename_i u v hu hv;rw[hP]at h;exact AW.aR hs hw hd _ (λo ho ht=>by simp only[execOp,ho];rw[ev hu,ev hv]) (h.mono λv Z1 G=>As LL Mj G J)
  .cases h
 .rename_i x T A two;split at h
  .rename_i u hu;rw[hP]at h;exact AW.aR hs hw hd _ (λo ho ht=>by simp only[execOp,ho];rw[ev hu]) (h.mono λv Z1 G=>As LL Mj G J)
  .cases h
 .cases h
end
end Tw
end
section
namespace Tw
open Go
variable [GO]
def zK (P:Program):Op->Bool
 | .call c=>match c.callee with
  | .builtin .len=>false
  | .builtin .cap=>false
  | .builtin .min=>match c.argTypes.toList with
   | T::_=>AJt P T
   | []=>false
  | .builtin .max=>match c.argTypes.toList with
   | T::_=>AJt P T
   | []=>false
  | .builtin .real=>false
  | .builtin .imag=>false
  | .builtin .complex=>false
  | _=>true
 | .convert T T' _=>match P.underlying T,P.underlying T' with
  | some (.int _),some (.int _)=>false
  | _,_=>true
 | .box ..=>true
 | .alloc ..=>true
 | .store ..=>true
 | .buildSlice ..=>true
 | .makeSlice ..=>true
 | .mapUpdate ..=>true
 | .makeMap ..=>true
 | .insert ..=>true
 | .range ..=>true
 | .next ..=>true
 | .lookup ..=>true
 | .entryStore ..=>true
 | .mapEntry ..=>true
 | .makeChan ..=>true
 | .typeAssert ..=>true
 | .binOp b T _ _ _=>flB b&&AJt P T
 | _=>false
def uo (s:S):Option Operand->Option (Option Value)
 | none=>some none
 | some x=>match s.op x with
  | some v=>some (some (v.den s.vl))
  | none=>none
def AED (P:Program)(b:BinOp)(T:TypeId)(x y:Option SV):Bool:=match iB x,iB y with
 | some _,some _=>true
 | _,_=>match P.underlying T with
  | some .string=>match b with
   | .eql=>true
   | .neq=>true
   | .add=>true
   | _=>false
  | some (.pointer _)=>true
  | some .bool=>true
  | _=>false
def AXg:Option SV->Bool
 | some (.v (.a (.sl _ _ _)))=>true
 | _=>false
def anyM (P:Program)(op:Op)(ty:TypeId)(s:S):Option (Sem Value):=match op with
 | .slice T x lo hi G=>match AXg (s.op x)&&G.isNone with
  | true=>none
  | false=>match s.op x,uo s lo,uo s hi,uo s G with
   | some w,some l,some h,some m=>some (Instr.sliceAt T (w.den s.vl) l h m)
   | _,_,_,_=>none
 | .unOp u _ x=>match u,s.op x with
  | .not,_=>none
  | .neg,v=>match iB v,v with
   | some _,_=>none
   | none,some v=>some (Op.unary .neg (v.den s.vl))
   | none,none=>none
  | u,some v=>some (Op.unary u (v.den s.vl))
  | _,none=>none
 | .binOp b T x y _=>match AED P b T (s.op x) (s.op y) with
  | true=>none
  | false=>match s.op x,s.op y with
   | some u,some v=>some (do eqGuard b T x y (u.den s.vl) (v.den s.vl);binOp b T (u.den s.vl) (v.den s.vl))
   | _,_=>none
 | .call c=>match c.callee,c.args.toList,c.argTypes.toList with
  | .builtin .len,[x],[T]=>match s.op x with
   | some (.v (.a (.mp m)))=>some (Builtin.len_ #[T] ty #[.map m])
   | _=>none
  | .builtin .real,[x],_=>match s.op x with
   | some v=>some (Builtin.real_ c.argTypes ty #[v.den s.vl])
   | none=>none
  | .builtin .imag,[x],_=>match s.op x with
   | some v=>some (Builtin.imag_ c.argTypes ty #[v.den s.vl])
   | none=>none
  | .builtin .complex,[x,y],_=>match s.op x,s.op y with
   | some u,some v=>some (Builtin.complex_ c.argTypes ty #[u.den s.vl,v.den s.vl])
   | _,_=>none
  | _,_,_=>none
 | _=>none
theorem TQ {s:S}{J:Env}{x:Option Operand}{v:Option Value}(h:uo s x=some v):x.map (AD (s.e J))=v:=by
 cases x with
 | none=>simp only[uo,Ajv]at h;subst h;rfl
 | some x=>
  simp only[uo]at h;split at h
  .rename_i u G;cases h;simp only[Aki];rw[ev G]
  .cases h
theorem uq {P:Program}{op:Op}{ty:TypeId}{s:S}{m:Sem Value}(h:anyM P op ty s=some m)(J:Env):∀o:Oper,o.op=op->o.type=ty->execOp (AD (s.e J)) o=(do pure (Next.value (<-m))):=λo ho ht=>by
 unfold anyM at h;split at h
 .rename_i T x lo hi mx;split at h
  .cases h
  .split at h
   .rename_i w l hh mm G h2 h3 h4;cases h;simp only[execOp,ho,TQ h2,TQ h3,TQ h4,ev G]
   .cases h
 .rename_i u T x;split at h
  .cases h
  .split at h
   .cases h
   .rename_i hv;cases h;simp only[execOp,ho,ev hv]
   .cases h
  .rename_i hv;cases h;simp only[execOp,ho,ev hv]
  .cases h
 .rename_i b T x y T';split at h
  .cases h
  .split at h
   .rename_i u v hu hv;cases h;simp only[execOp,ho,ev hu,ev hv]
   .cases h
 .rename_i c;obtain⟨ce,Aji,ts⟩:=c;split at h
  .rename_i x T G h2 h3;simp only at G h2 h3;have e1:Aji=#[x]:=by rw[<-AkD];simpa using h2
   have e2:ts=#[T]:=by rw[<-AkD];simpa using h3
   subst G e1 e2;split at h
   .rename_i mm hx;cases h;exact nM (by rw[ev hx];rfl) o ho ht
   .cases h
  .rename_i x G h2;simp only at G h2 h;have e1:Aji=#[x]:=by rw[<-AkD];simpa using h2
   subst G e1;split at h
   .rename_i v hv;cases h;exact UJ (ev hv) o ho ht
   .cases h
  .rename_i x G h2;simp only at G h2 h;have e1:Aji=#[x]:=by rw[<-AkD];simpa using h2
   subst G e1;split at h
   .rename_i v hv;cases h;exact UK (ev hv) o ho ht
   .cases h
  .rename_i x y G h2;simp only at G h2 h;have e1:Aji=#[x,y]:=by rw[<-AkD];simpa using h2
   subst G e1;split at h
   .rename_i u v hu hv;cases h;exact NB (ev hu) (ev hv) o ho ht
   .cases h
  .cases h
 .cases h
def AJu (P:Program)(ty:TypeId)(m:Sem Value)(s:S)(K:SV->S->Prop):Prop:=s.ex P ty λv s=>YF P m s.Z22 (v.den s.vl)/\K v s
theorem WD {P:Program}{op:Op}{ty:TypeId}{s:S}{m:Sem Value}{K:SV->S->Prop}(hm:anyM P op ty s=some m)(h:AJu P ty m s K):∃v G,s.KV G/\(∀J,Yd P (s.e J) s.b s.Z22 op ty (v.den G.vl))/\K v G:=by
 obtain⟨v,G,h1,hy,hk⟩:=S.WB h;rw[h1.Z22]at hy;exact⟨v,G,h1,λJ=>Yd.any (uq hm J) hy,hk⟩
def WE (ops:Array Oper)(gd:Option (Nat×Bool))(s:S)(K:Bool->S->Prop):Prop:=match gd with
 | none=>K true s
 | some (j,G)=>match (ops[j]?).bind (·.dst) with
  | none=>False
  | some d=>match eH s.env d with
   | some (.v (.a .un))=>K false s
   | v=>s.onV v λt s=>K (t==G) s
theorem LO {ops:Array Oper}{gd:Option (Nat×Bool)}{s:S}{K:Bool->S->Prop}(h:WE ops gd s K):∃b s',s.KV s'/\(∀J,Ac ops (s.e J) gd=b)/\K b s':=by
 unfold WE at h;split at h
 .exact⟨true,s,.refl s,λ_=>rfl,h⟩
 .rename_i j G;split at h
  .cases h
  .rename_i d hd;split at h
   .rename_i hv;refine⟨false,s,.refl s,λJ=>?_,h⟩;have:s.e J d=undef:=F5 hv;simp only[Ac,hd,this];rfl
   .obtain⟨t,s',x,h1,h2,h3,h4,h⟩:=S.HP h;refine⟨_,s',h1,λJ=>?_,h⟩;have:s.e J d=.bool t:=(F5 h3).trans h4;simp only[Ac,hd,this];cases t<;>cases G<;>rfl
def rY (J:Env)(K:S->Prop):Env->Bx->Hp->Prop:=λe bx Z22=>∃s,e=s.e J/\bx=s.b/\Z22=s.Z22/\K s
structure Cx extends oE where
 n:Nat
 RG:List (Nat×TypeId):=[]
structure Cx.Ok (c:Cx)(g:Gl):Prop where
 P:c.P=g.P
 R:c.R=g.R
 E:AH g.P c.LN
 n:c.n=g.n
 IQ:g.IQ=none
 ds:g.ds=[]
def kp0:KP:=λ_ _ F=>F
def ur (l:List HN)(i:Nat)(o:Nat)(xs:List Ck):List HN:=match l with
 | []=>[]
 | (j,t,cs)::l=>bif Nat.beq j i then(j,t,nr cs o xs)::l else(j,t,cs)::ur l i o xs
def WG {α:Type}:List α->Nat
 | []=>0
 | _::l=>WG l+1
theorem Va {α:Type}:∀l:List α,WG l=l.length
 | []=>rfl
 | _::l=>by simp only[WG,Ajk];rw[Va l]
def TR:List Ck->List Value
 | []=>[]
 | .raw v::l=>v::TR l
 | .un::l=>undef::TR l
 | _::l=>TR l
def AJv (F:Prop):List Value->Prop
 | []=>F
 | [v]=>(Value.oneCell' v=true)/\F
 | l=>AJw l/\F
where
 AJw:List Value->Prop
  | []=>True
  | [v]=>Value.oneCell' v=true
  | v::l=>Value.oneCell' v=true/\AJw l
def SV.oH:SV->Option (List Ck)
 | .v (.a x)=>some [x]
 | .v (.agg l)=>some l
 | .bR _=>none
def mapOf (P:Program)(l:List (Nat×TypeId))(x:Operand):Option (TypeId×TypeId):=match x with
 | .tmp t=>match l.find? λp=>Nat.beq p.1 t with
  | some p=>match P.underlying p.2 with
   | some (.map k v)=>some (k,v)
   | _=>none
  | none=>none
 | _=>none
def zL (c:Cx)(dst:Option Nat)(x:Operand)(ty:TypeId)(s:S)(K:S->Prop):Prop:=match dst,s.op x,mapOf c.P c.RG x with
 | some d,some u,some (tk,tv)=>AI c.P (Instr.next (u.den s.vl) false ty) s.Z22 (λv G=>(v=(.tuple #[(.bool false)])/\K ((s.hp G).put (some d) (.bR [.a (.bl false)]))) \/
  (match s.ok with
   | true=>ex1 c.P tk s.vl λa vl=>ex1 c.P tv vl λb vl=>v=(SV.bR [.a (.bl true),a,b]).den vl/\K (((s.hp G).w vl).put (some d) (.bR [.a (.bl true),a,b]))
   | false=>False))
 | _,_,_=>False
def AJx (c:Cx)(T:TypeId)(i o:Nat)(v:SV)(s:S)(K:S->Prop):Prop:=match v.oH,iZ c.P T with
 | some l,some n=>match iu s.bx i with
  | some (t,cs)=>match Nat.beq (WG l) n&&Nat.ble (o+WG l) (WG cs) with
   | true=>AJv (K ⟨s.env,ur s.bx i o l,s.vl,s.Z22⟩) (TR l)
   | false=>False
  | none=>False
 | _,_=>False
def zM (c:Cx)(ops:Array Oper)(i:Nat)(s:S)(K:S->Prop):Prop:=match ops[i]? with
 | none=>False
 | some o=>match HD o.dst c.n with
  | false=>False
  | true=>WE ops o.guard s λb s=>match b with
   | false=>K (s.put o.dst (.at .un))
   | true=>match o.op with
    | .load T x=>ldV c.P T x s λ_ v s=>K (s.put o.dst v)
    | .mapUpdate T m k v=>match o.dst,s.op m,s.op k,s.op v with
     | none,some m,some k,some v=>AI c.P (Instr.mapUpdate T (m.den s.vl) (k.den s.vl) (v.den s.vl)) s.Z22 (λ_ G=>K (s.hp G))
     | _,_,_,_=>False
    | .insert T m k v=>match o.dst,s.op m,s.op k,s.op v with
     | none,some m,some k,some v=>AI c.P (Instr.mapUpdate T (m.den s.vl) (k.den s.vl) (v.den s.vl)) s.Z22 (λ_ G=>K (s.hp G))
     | _,_,_,_=>False
    | .next x false=>zL c o.dst x o.type s K
    | .entry x=>match s.op x,mapOf c.P c.RG x with
     | some u,some (tk,tv)=>AI c.P (Instr.entry (u.den s.vl)) s.Z22 (λv G=>H6 (zG c.P tk tv) o.dst (s.hp G) s.Z22 v kp0 K)
     | _,_=>False
    | .panic x=>match s.op x with
     | some (.v (.a (.raw (.iface T u))))=>c.R (.panicked [{ v:=.iface T u,recovered:=false }]) s.Z22
     | _=>False
    | .store T x y=>match o.dst,yx (s.op x),s.op y with
     | none,some (.bx i b),some v=>AJx c T i b v s K
     | _,_,_=>ui c.tooE o.dst (.store T x y) o.type s kp0 K
    | op=>match zK c.P op,anyM c.P op o.type s with
     | true,_=>ui c.tooE o.dst op o.type s kp0 K
     | false,some m=>AJu c.P o.type m s λv s=>K (s.put o.dst v)
     | false,none=>yv c.P c.wr op s λv s=>K (s.put o.dst v)
def AEE (c:Cx)(ops:Array Oper):List Nat->S->(S->Prop)->Prop
 | [],s,K=>K s
 | i::is,s,K=>zM c ops i s λs=>AEE c ops is s K
section
variable {g:Gl}{ops:Array Oper}{i:Nat}{J:Env}{s:S}{K:S->Prop}{c:Cx}
theorem rZ {s G:S}{K:Env->Bx->Hp->Prop}(h:s.KV G)(hk:AW g ops i (G.e J) G.b G.Z22 K):AW g ops i (s.e J) s.b s.Z22 K:=by
 rw[<-h.e J,<-h.b,<-h.Z22];exact hk
theorem AOl {s:S}{o:Oper}{K:SV->S->Prop}{K':Env->Bx->Hp->Prop}(ho:ops[i]?=some o)(hw:Ac ops (s.e J) o.guard=true)(hd:HD o.dst g.n=true)(h:YP g.P o.op o.type s K)(hk:∀v G,s.KV G->K v G->K' ((G.put o.dst v).e J) G.b G.Z22):
  AW g ops i (s.e J) s.b s.Z22 K':=by
 obtain⟨v,G,h1,h2,h3⟩:=h;have:=hk v G h1 h3;rw[S.KS,h1.e J,h1.b,h1.Z22]at this;exact AW.y (EC ho) hw hd (h2 J _) this
theorem Yd.up {P:Program}{e:Env}{bx:Bx}{Z22:Hp}{b:Nat}{op:Op}{ty:TypeId}{v:Value}(h:Yd P e bx (λx=>if x=b then Z22 x else none) op ty v):Yd P e bx Z22 op ty v:=λo ho ht w hs hb=>h o ho ht w (λk u G=>by
 simp only at G;split at G
 .exact hs k u G
 .cases G) hb
theorem AW.mono {e:Env}{bx:Bx}{Z22:Hp}{K G:Env->Bx->Hp->Prop}(h:AW g ops i e bx Z22 K)(hk:∀e bx Z22,K e bx Z22->G e bx Z22):AW g ops i e bx Z22 G:=λw0 F a w st=>wpOpIn_mono (λa' w' ⟨e',b',Z',HC,h'⟩=>⟨e',b',Z',HC,hk _ _ _ h'⟩) (h w0 F a w st)
theorem AOm {dst:Option Nat}{op:Op}{ty:TypeId}{gd:Option (Nat×Bool)}(G:c.Ok g)(hs:sig ops i=some (dst,op,ty,gd))(hw:Ac ops (s.e J) gd=true)(hd:HD dst g.n=true)(h:ui c.tooE dst op ty s kp0 K):AW g ops i (s.e J) s.b s.Z22 (rY J K):=by
 have:=WC (c:=c.tooE) (kq:=λ_ _=>True) (J:=J) G.P G.R G.E (λ_ _ F h=>⟨h,trivial⟩) (λ_ _ _=>trivial) hs hw hd h;intro w0 F a w st;refine wpOpIn_mono ?_ (this w0 F a w st)
 rintro a' w' ⟨e',Hi,Z',HC,s',rfl,rfl,rfl,_,_,hk⟩
 exact⟨_,_,_,HC,s',rfl,rfl,rfl,hk⟩
theorem jA {dst:Option Nat}{x:Operand}{ty:TypeId}{gd:Option (Nat×Bool)}(hc:c.Ok g)(hs:sig ops i=some (dst,.next x false,ty,gd))(hw:Ac ops (s.e J) gd=true)(hd:HD dst g.n=true)(h:zL c dst x ty s K):AW g ops i (s.e J) s.b s.Z22 (rY J K):=by
 unfold zL at h;split at h
 .rename_i d u tk tv hu hm;rw[hc.P]at h;refine AW.aR hs hw hd (Instr.next (u.den s.vl) false ty) (λo ho ht=>by simp only[execOp,ho,ht];rw[ev hu]) (h.mono λv Z1 G=>?_);rcases G with ⟨rfl,hk⟩|G
  .exact⟨_,(S.KS (s:=s.hp Z1) (x:=.bR [.a (.bl false)])).symm,(S.KT (s:=s.hp Z1) (x:=.bR [.a (.bl false)])).symm,(S.HO (s:=s.hp Z1) (x:=.bR [.a (.bl false)])).symm,hk⟩
  .split at G
   .rename_i Aa;obtain⟨a,w1,h1,G⟩:=F6 G;obtain⟨b,w2,h2,G⟩:=F6 G;obtain⟨hv,hk⟩:=G;have UH:=S.V4 (s:=s.hp Z1) Aa (h1.trans h2).le;refine⟨_,?_,?_,?_,hk⟩
    .rw[S.KS,UH.e J,hv];rfl
    .rw[S.KT,UH.b];rfl
    .rw[S.HO];rfl
   .cases G
 .cases h
theorem jB {vl:Vl}{i o:Nat}{l:List Ck}:∀{bx:List HN} {t:TypeId} {cs:List Ck},iu bx i=some (t,cs)->∃j,(GZ vl bx)[j]?=some (nth 0 vl.δ i,.cells (Bj vl cs).toArray t (0,0))/\GZ vl (ur bx i o l)=(GZ vl bx).set j (nth 0 vl.δ i,.cells (Bj vl (nr cs o l)).toArray t (0,0))
 | (k,u,ds)::r,t,cs,h=>by
  simp only[iu]at h;cases G:Nat.beq k i with
  | true=>
   rw[G]at h;simp only[AlS,Ajv,Akh]at h;obtain⟨rfl,rfl⟩:=h;have:=Akg G;subst this;exact⟨0,rfl,by simp only[ur,G,AlS,GZ,List.set_cons_zero]⟩
  | false=>
   rw[G]at h;simp only[AlN]at h;obtain⟨j,h1,h2⟩:=jB (vl:=vl) (o:=o) (l:=l) h;exact⟨j+1,by simpa only[GZ,AkU] using h1,by simp only[ur,G,AlN,GZ,Al2,h2]⟩
theorem oI {F:Prop}{l:List Value}(h:AJv F l):F/\∀v∈l,Value.oneCell' v=true:=by
 have cj:∀{l:List Value},AJv.AJw l->∀v∈l,Value.oneCell' v=true:=fun {l}=>by
  induction l with
  | nil=>intro _ v hv;cases hv
  | cons a l ih=>
   intro h v hv;cases l with
   | nil=>simp at hv;subst hv;exact h
   | cons b l=>
    rcases Ajo.1 hv with rfl|hv
    .exact h.1
    .exact ih h.2 v hv
 match l,h with
 | [],h=>exact⟨h,λv hv=>by cases hv⟩
 | [v],h=>exact⟨h.2,λu G=>by simp at G;subst G;exact h.1⟩
 | a::b::l,h=>exact⟨h.2,cj h.1⟩
theorem WH {vl:Vl}:∀{l:List Ck},(∀v∈TR l,Value.oneCell' v=true)->∀u∈Bj vl l,Value.oneCell' u=true
 | [],_,u,G=>by cases G
 | x::l,h,u,G=>by
  have tl:∀v∈TR l,Value.oneCell' v=true:=λv hv=>h v (by cases x<;>first|exact hv|exact Ajm _ hv);rcases Ajo.1 G with rfl|G
  .cases x<;>try rfl
   case bs i n=>cases n<;>rfl
   case raw v=>exact h v (Aj5 ..)
   case un=>exact h undef (Aj5 ..)
  .exact WH tl u G
theorem oJ {vl:Vl}{v:SV}{l:List Ck}(h:v.oH=some l)(G:∀u∈Bj vl l,Value.oneCell' u=true):(v.den vl).cells=(Bj vl l).toArray:=by
 unfold SV.oH at h;split at h
 .rename_i x;cases h;have:=G (x.den vl) (Aj5 ..);simp only[SV.den,Ih.den,Bj];cases hx:x.den vl<;>first|rfl|(rw[hx]at this;cases this)
 .cases h;rfl
 .cases h
theorem oK {T ty:TypeId}{x y:Operand}{gd:Option (Nat×Bool)}{k b:Nat}{v:SV}(hc:c.Ok g)(hs:sig ops i=some (none,.store T x y,ty,gd))(hw:Ac ops (s.e J) gd=true)(hx:yx (s.op x)=some (.bx k b))(hy:s.op y=some v)(h:AJx c T k b v s K):AW g ops i (s.e J) s.b s.Z22 (rY J K):=by
 unfold AJx at h;split at h
 .rename_i l n hl hz;split at h
  .rename_i t cs hg;split at h
   .rename_i hd;simp only[Ajz,Va]at hd;obtain⟨hk,ho⟩:=oI h;have R6:=WH (vl:=s.vl) ho;have G:=oJ (vl:=s.vl) hl R6;obtain⟨u,e1,e2⟩:=Gb hx;obtain⟨j,h1,h2⟩:=jB (vl:=s.vl) (o:=b) (l:=l) hg;rw[hc.P]at hz;refine AW.AJL (b:=nth 0 s.vl.δ k) (o:=b) (c:=(Bj s.vl cs).toArray) (c':=(Bj s.vl (nr cs b l)).toArray) (t:=t) (j:=j) hs hw (DY hz) (by rw[ev e1,e2];rfl) (ev hy) h1 ?_ ?_ ?_ ?_ ?_
    .rw[G];simp[EO];exact Akg hd.1
    .have:=Akg hd.1;have h3:=Akd hd.2;exact Nat.ble_eq_true_of_le (by simp[EO];omega)
    .rw[G];exact Akk.2 λu hu=>R6 u (by simpa using hu)
    .rw[G,V8]
    .exact⟨⟨s.env,ur s.bx k b l,s.vl,s.Z22⟩,rfl,h2.symm,rfl,hk⟩
   .cases h
  .cases h
 .cases h
theorem jC (hc:c.Ok g)(h:zM c ops i s K):AW g ops i (s.e J) s.b s.Z22 (rY J K):=by
 unfold zM at h;split at h
 .cases h
 .rename_i o ho;split at h
  .cases h
  .rename_i hd;rw[hc.n]at hd;obtain⟨b,s1,h1,hw,h⟩:=LO h;have hw:=hw J;rw[<-h1.e J]at hw;refine rZ h1 ?_;cases b with
   | false=>exact AW.no (EC ho) hw hd ⟨_,(S.KS (x:=.at .un)).symm,S.KT.symm,S.HO.symm,h⟩
   | true=>
    simp only at h;split at h
    .rename_i T x Mr;obtain⟨m,v,s2,h2,hk,hy⟩:=bn (ty:=o.type) h;have G:=EC ho;rw[Mr]at G;refine AW.y (v:=v.den s2.vl) G hw hd ?_ ⟨s2.put o.dst v,by rw[S.KS,h2.e J],by rw[S.KT,h2.b],by rw[S.HO,h2.Z22],hk⟩;have hy:=hy J;rw[hc.P]at hy;cases m with
     | none=>exact hy _
     | some b=>exact Yd.up hy
    .rename_i T m k v Mr;split at h
     .rename_i um uk uv M6 hm hk hv;have G:=EC ho;rw[Mr,M6]at G;rw[hc.P]at h;exact AW.AJK G hw rfl _ (λo ho ht=>by simp only[execOp,ho];rw[ev hm,ev hk,ev hv]) (h.mono λ_ Z1 hr=>⟨s1.hp Z1,rfl,rfl,rfl,hr⟩)
     .cases h
    .rename_i T m k v Mr;split at h
     .rename_i um uk uv M6 hm hk hv;have G:=EC ho;rw[Mr,M6]at G;rw[hc.P]at h;exact AW.AJK G hw rfl _ (λo ho ht=>by simp only[execOp,ho];rw[ev hm,ev hk,ev hv]) (h.mono λ_ Z1 hr=>⟨s1.hp Z1,rfl,rfl,rfl,hr⟩)
     .cases h
    .have Mr:=‹o.op=Op.next _ false›
     have G:=EC ho;rw[Mr]at G;exact jA hc G hw hd h
    .have Mr:=‹o.op=Op.entry _›;have G:=EC ho;rw[Mr]at G;split at h
     .rename_i u tk tv hu hm;rw[hc.P]at h;have:=AW.aR (K:=St' J s1 (λ_ _=>True) K) G hw hd (Instr.entry (u.den s1.vl)) (λo ho ht=>by simp only[execOp,ho];rw[ev hu]) (h.mono λv Z1 hr=>As (kq:=λ_ _=>True) uh (λ_ _ F h=>⟨h,trivial⟩) hr J);exact this.mono λe bx Z22 ⟨s',e1,e2,e3,_,_,hk⟩=>⟨s',e1,e2,e3,hk⟩
     .cases h
    .have Mr:=‹o.op=Op.panic _›;split at h
     .rename_i T u hx;have G:=EC ho;rw[Mr]at G;rw[hc.R]at h;exact AW.panic G hw (by rw[ev hx];rfl) hc.IQ hc.ds h
     .cases h
    .have Mr:=‹o.op=Op.store _ _ _›;have G:=EC ho;rw[Mr]at G;split at h
     .rename_i i' b v M6 hx hy;rw[M6]at G;exact oK hc G hw hx hy h
     .exact AOm hc G hw hd h
    .split at h
     .exact AOm hc (EC ho) hw hd h
     .rename_i m _ hm;rw[hc.P]at h hm;obtain⟨v,s2,h2,hy,hk⟩:=WD hm h;exact AW.y (v:=v.den s2.vl) (EC ho) hw hd (hy J) ⟨s2.put o.dst v,by rw[S.KS,h2.e J],by rw[S.KT,h2.b],by rw[S.HO,h2.Z22],hk⟩
     .rw[hc.P]at h;exact AOl ho hw hd (iw h) λv s' jD hk=>⟨s'.put o.dst v,rfl,S.KT.symm,S.HO.symm,hk⟩
theorem RH (G:c.Ok g):∀{is:List Nat} {s:S},AEE c ops is s K->Seq g ops is (s.e J) s.b s.Z22 (rY J K)
 | [],s,h=>⟨s,rfl,rfl,rfl,h⟩
 | i::is,s,h=>(jC G h).mono λe bx Z22 ⟨s',h1,h2,h3,h4⟩=>by subst h1 h2 h3;exact RH G h4
theorem WI {K G:Env->Bx->Hp->Prop}(hk:∀e bx Z22,K e bx Z22->G e bx Z22):∀{is:List Nat} {e:Env} {bx:Bx} {Z22:Hp},Seq g ops is e bx Z22 K->Seq g ops is e bx Z22 G
 | [],_,_,_,h=>hk _ _ _ h
 | i::is,e,bx,Z22,h=>AW.mono h λ_ _ _ h=>WI hk h
theorem LP {K K':Env->Bx->Hp->Prop}(G:∀e bx Z22,K e bx Z22->K' e bx Z22):∀{p:Ord} {q:KB} {e:Env} {bx:Bx} {Z22:Hp},Ba g ops p q e bx Z22 K->Ba g ops p q e bx Z22 K'
 | .done,_,_,_,_,h=>G _ _ _ h
 | .yes i r,q,e,bx,Z22,⟨own,o,v,h1,h2,h3,h4,h5⟩=>⟨own,o,v,h1,h2,h3,h4,LP G h5⟩
 | .alt i r t,q,e,bx,Z22,⟨h1,h2⟩=>⟨AW.mono h1 λ_ _ _ ⟨h3,h4⟩=>⟨h3,LP G h4⟩,LP G h2⟩
 | .no,_,_,_,_,_=>trivial
def WJ:Ord->List Nat
 | .done=>[]
 | .yes _ r=>WJ r
 | .alt i r _=>i::WJ r
 | .no=>[]
def AOn (ops:Array Oper)(i:Nat):Nat->Nat->Option (List Nat)
 | 0,_=>none
 | f+1,t=>match KO ops t i with
  | true=>some [t]
  | false=>(List.range t).findSome? λu=>match Nat.blt i u&&KO ops t u with
   | true=>match AOn ops i f u with
    | some p=>some (t::p)
    | none=>none
   | false=>none
def waits (ops:Array Oper)(i:Nat):List Nat->List (List Nat)
 | []=>[]
 | t::l=>match AOn ops i 40 t with
  | some p=>p::waits ops i l
  | none=>waits ops i l
def kpL (L:KB):KP:=λZ0 G F=>match L with
 | none=>Ext Z0 G/\F
 | some []=>F
 | some (x::l)=>Kp ((x::l).map Prod.fst) Z0 G/\F
def Hn (c:Cx)(ops:Array Oper):Ord->KB->S->(S->Prop)->Prop
 | .done,_,s,K=>K s
 | .yes i r,L,s,K=>match ops[i]? with
  | none=>False
  | some o=>match HD o.dst c.n&&L.ok i with
   | false=>False
   | true=>WE ops o.guard s λb s=>match b with
    | false=>Hn c ops r L (s.put o.dst (.at .un)) K
    | true=>match o.op with
     | .load T x=>ldV c.P T x s λm v s=>match m,L with
      | none,_=>Hn c ops r L (s.put o.dst v) K
      | some _,none=>Hn c ops r L (s.put o.dst v) K
      | some b,some l=>match (My (some l) (some (b,waits ops i (WJ r)))).ok i&&Rv ops i (some (b,waits ops i (WJ r))) with
       | true=>Hn c ops r (My (some l) (some (b,waits ops i (WJ r)))) (s.put o.dst v) K
       | false=>False
     | op=>match zK c.P op,anyM c.P op o.type s,L with
      | true,_,_=>False
      | false,some m,none=>AJu c.P o.type m s λv s=>Hn c ops r none (s.put o.dst v) K
      | false,some _,some _=>False
      | false,none,L=>yv c.P c.wr op s λv s=>Hn c ops r L (s.put o.dst v) K
 | .alt i r t,L,s,K=>
  match t with
  | .no=>jE c ops i L s λs=>Hn c ops r (HB L i) s K
  | t=>(jE c ops i L s λs=>Hn c ops r (HB L i) s K)/\Hn c ops t L s K
 | .no,_,_,_=>True
where
 jE (c:Cx) (ops:Array Oper) (i:Nat) (L:KB) (s:S) (K:S->Prop):Prop:=match ops[i]? with
  | none=>False
  | some o=>match HD o.dst c.n with
   | false=>False
   | true=>WE ops o.guard s λb s=>match b with
    | false=>K (s.put o.dst (.at .un))
    | true=>ui c.tooE o.dst o.op o.type s (kpL (HB L i)) K
def kqL (q:KB)(Z22 Z':Hp):Prop:=match q with
 | none=>∀b o,Z22 b=some o->Z' b=some o
 | some L=>∀x∈L,∀o,Z22 x.1=some o->Z' x.1=some o
theorem AJy {q:KB}{bx G:Bx}{Z22 Z':Hp}(h:kqL q Z22 Z')(hb:∀p∈bx,p∈G):Iq q bx Z22 G Z':=⟨hb,h⟩
theorem uu {L:KB}{Z0 G:Hp}{F:Prop}(h:kpL L Z0 G F):F/\kqL L Z0 G:=by
 unfold kpL at h;split at h
 .exact⟨h.2,h.1⟩
 .exact⟨h,λx hx=>by cases hx⟩
 .exact⟨h.2,λy hy o ho=>h.1 y.1 (AkT.2 ⟨y,hy,rfl⟩) o ho⟩
theorem AEF {L:KB}{Z0 G:Hp}(h:Ext Z0 G):kqL L Z0 G:=by
 cases L with
 | none=>exact h
 | some l=>exact λx _ o ho=>h _ _ ho
theorem jF {L:KB}(hc:c.Ok g)(h:Hn.jE c ops i L s K):AW g ops i (s.e J) s.b s.Z22 λe' G Z'=>Iq (HB L i) s.b s.Z22 G Z'/\rY J K e' G Z':=by
 unfold Hn.jE at h;split at h
 .cases h
 .rename_i o ho;split at h
  .cases h
  .rename_i hd;rw[hc.n]at hd;obtain⟨b,s1,h1,hw,h⟩:=LO h;have hw:=hw J;rw[<-h1.e J]at hw;have key:AW g ops i (s1.e J) s1.b s1.Z22 λe' G Z'=>Iq (HB L i) s1.b s1.Z22 G Z'/\rY J K e' G Z':=by
    cases b with
    | false=>exact AW.no (EC ho) hw hd ⟨Iq.refl _ _ _,_,(S.KS (x:=.at .un)).symm,S.KT.symm,S.HO.symm,h⟩
    | true=>
     have:=WC (c:=c.tooE) (kq:=kqL (HB L i)) (J:=J) hc.P hc.R hc.E (λ_ _ F h=>uu h) (λ_ _ h=>AEF h) (EC ho) hw hd h;exact this.mono λe' G Z' ⟨s',e1,e2,e3,hq,hb,hk⟩=>⟨AJy hq hb,s',e1,e2,e3,hk⟩
   have:=rZ (K:=λe' G Z'=>Iq (HB L i) s1.b s1.Z22 G Z'/\rY J K e' G Z') h1 key;rw[h1.b,h1.Z22]at this;exact this
theorem EP (hc:c.Ok g):∀{p:Ord} {q:KB} {s:S},Hn c ops p q s K->Ba g ops p q (s.e J) s.b s.Z22 (rY J K)
 | .done,q,s,h=>⟨s,rfl,rfl,rfl,h⟩
 | .yes i r,q,s,h=>by
  simp only[Hn]at h;split at h
  .cases h
  .rename_i o ho;split at h
   .cases h
   .rename_i hd;simp only[Ajz]at hd;obtain⟨hd,hq⟩:=hd;rw[hc.n]at hd;obtain⟨b,s1,h1,hw,h⟩:=LO h;have hw:=hw J;rw[<-h1.e J]at hw;rw[<-h1.e J,<-h1.b,<-h1.Z22];have go:∀{v:SV} {s2:S} {own:Option (Nat×List (List Nat))},s1.KV s2->((My q own).ok i&&Rv ops i own)=true->Yd g.P (s1.e J) s1.b (KM q own s1.Z22) o.op o.type (v.den s2.vl)->Ac ops (s1.e J) o.guard=true->Hn c ops r (My q own) (s2.put o.dst v) K->Ba g ops (.yes i r) q (s1.e J) s1.b s1.Z22 (rY J K):=fun {v s2 own} h2 Aa hy hw G=>by
     have:=EP hc G;rw[S.KS,S.KT,S.HO,h2.e J,h2.b,h2.Z22]at this;exact⟨own,o,v.den s2.vl,Aa,ho,.inl ⟨hw,hy⟩,HD.lt hd,this⟩
    cases b with
    | false=>
     have:=EP hc h;rw[S.KS,S.KT,S.HO]at this;exact⟨none,o,undef,ok_none hq,ho,.inr ⟨hw,rfl⟩,HD.lt hd,by rw[Eg];exact this⟩
    | true=>
     simp only at h;split at h
     .rename_i T x Mr;obtain⟨m,v,s2,h2,G,hy⟩:=bn (ty:=o.type) h;have hy:=hy J;rw[hc.P,<-Mr]at hy;split at G
      .exact go (own:=none) h2 (ok_none hq) (hy _) hw (by rw[Eg];exact G)
      .exact go (own:=none) h2 (ok_none hq) (Yd.up hy) hw (by rw[Eg];exact G)
      .rename_i b l;split at G
       .rename_i Aa;exact go h2 Aa hy hw G
       .cases G
     .split at h
      .cases h
      .have hm:=‹anyM c.P o.op o.type s1=some _›;rw[hc.P]at h hm;obtain⟨v,s2,h2,hy,G⟩:=WD hm h;exact go (own:=none) h2 (ok_none hq) (hy J) hw G
      .cases h
      .rw[hc.P]at h;obtain⟨v,s2,h2,hy,G⟩:=iw (ty:=o.type) h;exact go (own:=none) h2 (ok_none hq) (hy J _) hw (by rw[Eg];exact G)
 | .alt i r t,q,s,h=>by
  have key:∀{t:Ord},(Hn.jE c ops i q s λs=>Hn c ops r (HB q i) s K)->Ba g ops t q (s.e J) s.b s.Z22 (rY J K)->Ba g ops (.alt i r t) q (s.e J) s.b s.Z22 (rY J K):=fun {t} h1 h2=>
   ⟨(jF hc h1).mono λe bx Z22 ⟨G,s',e1,e2,e3,h3⟩=>⟨G,by subst e1 e2 e3;exact EP hc h3⟩,h2⟩
  cases t with
  | no=>exact key h trivial
  | done=>exact key h.1 (EP hc h.2)
  | yes j u=>exact key h.1 (EP hc h.2)
  | alt j u w=>exact key h.1 (EP hc h.2)
 | .no,q,s,h=>trivial
def ra (P:Program)(ops:Array Oper)(m:Nat):Nat->Array Bool->Ord
 | 0,_=>.no
 | f+1,G=>match (List.range m).all λi=>G.getD i false with
  | true=>.done
  | false=>match (Region.ready .any ops G).find? λj=>Nat.blt j m&&match ops[j]? with | some o=>!zK P o.op | none=>false with
   | some j=>.yes j (ra P ops m f (G.setIfInBounds j true))
   | none=>(Region.ready .any ops G).foldr (λj acc=>.alt j (ra P ops m f (G.setIfInBounds j true)) acc) .no
def AJz (c:Cx)(ops:Array Oper)(draw:Bool)(m:Nat)(q:KB)(s:S)(K:S->Prop):Prop:=match draw with
 | false=>AEE c ops (List.range ops.size) s K
 | true=>match R0 ops m (ra c.P ops m (ops.size+1) (Array.replicate ops.size false)) (List.range' m (ops.size-m)) with
  | true=>Hn c ops (ra c.P ops m (ops.size+1) (Array.replicate ops.size false)) q s λs=>AEE c ops (List.range' m (ops.size-m)) s K
  | false=>False
theorem oL {k:List Item}{id m:Nat}{draw:Bool}{q:KB}(hc:c.Ok g)(hm:g.P.follows .mixedOrders=true)(h:AJz c ops draw m q s K)(hk:∀s,K s->At g k (s.e J) s.b s.Z22):At g (.code (.region id ops draw)::k) (s.e J) s.b s.Z22:=by
 have fin:∀e bx Z22,rY J K e bx Z22->At g k e bx Z22:=λe bx Z22 ⟨s',G,e2,e3,h⟩=>by subst G e2 e3;exact hk s' h
 cases draw with
 | false=>
  refine At.region rfl rfl ?_;have:Seq g ops (List.range ops.size) (s.e J) s.b s.Z22 (rY J K):=RH hc h;exact WI fin this
 | true=>
  simp only[AJz]at h;split at h
  .rename_i hp;refine At.AOg hm rfl hp (q:=q) ?_;have:=EP (J:=J) hc h;refine LP (λe bx Z22 ⟨s',G,e2,e3,h⟩=>?_) this;subst G e2 e3;exact WI fin (RH hc h)
  .cases h
end
end Tw
end
section
namespace Tw
open Go
variable [GO]
def node (body:Code):List Bool->Code
 | []=>body
 | false::p=>cl (node body p)
 | true::p=>cr (node body p)
inductive It where
 | c (p:List Bool)
 | V5 (i:Nat)
 | lp (p:List Bool)
 | sc (p:List Bool)
def It.den (body:Code):It->Item
 | .c p=>.code (node body p)
 | .V5 i=>.inBlock i
 | .lp p=>.inLoop (node body p)
 | .sc p=>.inScope (node body p)
def ER (body:Code):List It->List Item
 | []=>[]
 | x::l=>x.den body::ER body l
def TS:List Bool->List Bool->Bool
 | [],[]=>true
 | a::p,b::q=>(bif a then b else !b)&&TS p q
 | _,_=>false
theorem bq:∀{p q:List Bool},TS p q=true->p=q
 | [],[],_=>rfl
 | a::p,b::q,h=>by
  simp only[TS,Ajz]at h;rw[bq h.2];cases a<;>cases b<;>simp at h<;>rfl
 | [],_::_,h=>by cases h
 | _::_,[],h=>by cases h
def It.eq:It->It->Bool
 | .c p,.c q=>TS p q
 | .V5 i,.V5 j=>Nat.beq i j
 | .lp p,.lp q=>TS p q
 | .sc p,.sc q=>TS p q
 | _,_=>false
def rh:List It->List It->Bool
 | [],[]=>true
 | x::l,y::m=>x.eq y&&rh l m
 | _,_=>false
theorem jG:∀{l m:List It},rh l m=true->l=m
 | [],[],_=>rfl
 | x::l,y::m,h=>by
  simp only[rh,Ajz]at h;rw[jG h.2];have:x=y:=by
   cases x<;>cases y<;>simp only[It.eq]at h<;>first
    | (rw[bq h.1])
    | (rw[Akg h.1])
    | (exact absurd h.1 (by simp))
  rw[this]
 | [],_::_,h=>by cases h
 | _::_,[],h=>by cases h
structure Cut where
 todo:List It
 f:S->Prop
def Cut.Ok (g:Gl)(body:Code)(k:Cut):Prop:=∀s J,k.f s->At g (ER body k.todo) (s.e J) s.b s.Z22
def AEG:List Cut->List It->Option (S->Prop)
 | [],_=>none
 | k::l,t=>match rh k.todo t with
  | true=>some k.f
  | false=>AEG l t
theorem rj {g:Gl}{body:Code}:∀{l:List Cut} {t:List It} {f:S->Prop},(∀k∈l,k.Ok g body)->AEG l t=some f->∀s J,f s->At g (ER body t) (s.e J) s.b s.Z22
 | k::l,t,f,G,h=>by
  simp only[AEG]at h;split at h
  .rename_i he;cases h;rw[<-jG he];exact G k (Aj5 ..)
  .exact rj (λk hk=>G k (Ajm _ hk)) h
def UL (i:Nat):List It->Option (List It)
 | []=>none
 | .V5 j::r=>match Nat.beq i j with
  | true=>some r
  | false=>UL i r
 | _::r=>UL i r
def eU (l:Nat):Code->List Bool->Option (List It)
 | .seq a b,p=>match eU l a (false::p) with
  | some r=>some (r++[.c (true::p)])
  | none=>eU l b (true::p)
 | .label j,_=>match Nat.beq j l with
  | true=>some []
  | false=>none
 | _,_=>none
def UM (body:Code)(l:Nat):List It->Option (List It)
 | []=>none
 | .sc p::r=>match eU l (node body p) p with
  | some m=>some (m++(.sc p::r))
  | none=>UM body l r
 | _::r=>UM body l r
structure Fx extends Cx where
 body:Code
 res:List ResultVar
 reg:List (Nat×Nat×Bool)
def zN:List (Nat×Nat×Bool)->Nat->Nat->Nat×KB
 | [],_,m=>(m,some [])
 | (i,m,b)::l,id,z=>match Nat.beq i id with
  | true=>(m,bif b then none else some [])
  | false=>zN l id z
def oM (c:Fx)(s:S):List ResultVar->Option (List SV)
 | []=>some []
 | .tmp t::r=>match eH s.env t,oM c s r with
  | some v,some l=>some (v::l)
  | _,_=>none
 | .cell p T::r=>match yx (eH s.env p),oM c s r with
  | some (.bx i 0),some l=>match iu s.bx i,ia c.P T with
   | some (_,cs),some true=>match iZ c.P T with
    | some n=>match decide (cs.length=n) with
     | true=>some (.v (.agg cs)::l)
     | false=>none
    | none=>none
   | some (_,x::_),some false=>some (.at x::l)
   | _,_=>none
  | _,_=>none
def eB (c:Fx)(s:S):Prop:=match oM c s c.res with
 | some l=>c.R (.returned (V1 (DK s.vl l))) s.Z22
 | none=>False
def ES (c:Fx)(cuts:List Cut):Nat->Bool->List It->S->Prop
 | 0,_,_,_=>False
 | f+1,first,todo,s=>match (bif first then none else AEG cuts todo) with
  | some k=>k s
  | none=>match todo with
   | []=>eB c s
   | .V5 _::r=>ES c cuts f false r s
   | .lp p::r=>ES c cuts f false (.c p::.lp p::r) s
   | .sc _::r=>ES c cuts f false r s
   | .c p::r=>match node c.body p with
    | .skip=>ES c cuts f false r s
    | .seq _ _=>ES c cuts f false (.c (false::p)::.c (true::p)::r) s
    | .block i _=>ES c cuts f false (.c (false::p)::.V5 i::r) s
    | .loop _=>ES c cuts f false (.c (false::p)::.lp (false::p)::r) s
    | .exit i=>match UL i r with
     | some r=>ES c cuts f false r s
     | none=>False
    | .scope _=>ES c cuts f false (.c (false::p)::.sc (false::p)::r) s
    | .label _=>ES c cuts f false r s
    | .goto l=>match UM c.body l r with
     | some r=>ES c cuts f false r s
     | none=>False
    | .cond x _ _=>s.onV (s.op x) λt s=>ES c cuts f false (.c ((!t)::p)::r) s
    | .ret=>eB c s
    | .region id ops draw=>AJz c.toCx ops draw (zN c.reg id ops.size).1 (zN c.reg id ops.size).2 s λs=>ES c cuts f false r s
    | _=>False
structure Fx.Ok (c:Fx)(g:Gl)(fn:Func):Prop where
 cx:c.toCx.Ok g
 mixed:g.P.follows .mixedOrders=true
 fnc:g.P.funcs[g.f]?=some fn
 res:fn.results=c.res.toArray
 IQ:g.IQ=none
 ds:g.ds=[]
section
variable {g:Gl}{c:Fx}{fn:Func}{cuts:List Cut}{J:Env}
theorem Iw (G:c.P=g.P){s:S}:∀{rs:List ResultVar} {l:List SV},oM c s rs=some l->Jb g.P (s.e J) s.b s.Z22 rs (DK s.vl l)
 | [],l,h=>by simp only[oM,Ajv]at h;subst h;rfl
 | .tmp t::r,l,h=>by
  simp only[oM]at h;split at h
  .rename_i v l' h1 h2;cases h;refine⟨_,?_,Iw G h2⟩;rw[show s.e J t=v.den s.vl from F5 h1];rfl
  .cases h
 | .cell p T::r,l,h=>by
  simp only[oM]at h;split at h
  .rename_i i l' h1 h2;obtain⟨u,e1,e2⟩:=Gb h1;have hp:s.e J p=.pointer (some ⟨nth 0 s.vl.δ i,0,none⟩):=(F5 e1).trans (e2 _);split at h
   .rename_i t cs hb ha;split at h
    .rename_i n hn;split at h
     .rename_i hd;have hd:=Ajx hd;cases h;rw[G]at ha hn;exact⟨_,_,rfl,⟨_,hp,yc (Ga ha) (DY hn) (by simp[EO];exact hd) (NA hb)⟩,Iw G h2⟩
     .cases h
    .cases h
   .rename_i t x cs hb ha;cases h;rw[G]at ha;exact⟨_,_,rfl,⟨_,hp,ADx (Ga ha) (NA hb) rfl⟩,Iw G h2⟩
   .cases h
  .cases h
theorem KX {body:Code}{i:Nat}:∀{r r':List It},UL i r=some r'->exitTo i (ER body r)=some (ER body r')
 | .V5 j::r,r',h=>by
  simp only[UL]at h;split at h
  .rename_i G;cases h;have:=Akg G;subst this;simp[ER,It.den,exitTo]
  .rename_i G;have Av:i≠j:=λe=>by subst e;rw[AnI]at G;cases G
   simp only[ER,It.den,exitTo];rw[Ajj (by simpa using Aj4 Av)];exact KX h
 | .c p::r,r',h=>by simp only[UL]at h;simp only[ER,It.den,exitTo];exact KX h
 | .lp p::r,r',h=>by simp only[UL]at h;simp only[ER,It.den,exitTo];exact KX h
 | .sc p::r,r',h=>by simp only[UL]at h;simp only[ER,It.den,exitTo];exact KX h
theorem WK {body:Code}:∀{l m:List It},ER body (l++m)=ER body l++ER body m
 | [],_=>rfl
 | x::l,m=>by simp only[Akl,ER,WK]
theorem Py {l:Nat}:∀{x:Code} {p:List Bool},eU l x p=none->findLabel x l=none
 | .seq a b,p,h=>by
  simp only[eU]at h;split at h
  .cases h
  .rename_i G;simp only[findLabel,Py G,Py h]
 | .label j,p,h=>by
  simp only[eU]at h;split at h
  .cases h
  .rename_i G;have:j≠l:=λe=>by subst e;rw[AnI]at G;cases G
   simp[findLabel,this]
 | .skip,p,h=>rfl
 | .region ..,p,h=>rfl
 | .cond ..,p,h=>rfl
 | .block ..,p,h=>rfl
 | .loop ..,p,h=>rfl
 | .rangeFunc ..,p,h=>rfl
 | .exit ..,p,h=>rfl
 | .scope ..,p,h=>rfl
 | .goto ..,p,h=>rfl
 | .ret,p,h=>rfl
 | .refuse ..,p,h=>rfl
theorem WL {l:Nat}{body:Code}:∀{x:Code} {p:List Bool} {m:List It},node body p=x->eU l x p=some m->∃G,findLabel x l=some G/\∀{k:List Item} {e:Env} {bx:Bx} {Z22:Hp},At g (ER body m++k) e bx Z22->At g (.code G::k) e bx Z22
 | .seq a b,p,m,hx,h=>by
  simp only[eU]at h;split at h
  .rename_i r h1;cases h;obtain⟨G,e1,e2⟩:=WL (body:=body) (x:=a) (p:=false::p) (by simp only[node,hx,cl]) h1;refine⟨.seq G b,by simp only[findLabel,e1],λh=>At.seq rfl (e2 ?_)⟩;rw[WK,AkC]at h;simp only[ER,It.den,node,hx,cr,Akl,Akp]at h;exact h
  .rename_i h1;obtain⟨G,e1,e2⟩:=WL (body:=body) (x:=b) (p:=true::p) (by simp only[node,hx,cr]) h;exact⟨G,by simp only[findLabel,Py h1,e1],e2⟩
 | .label j,p,m,hx,h=>by
  simp only[eU]at h;split at h
  .rename_i h1;cases h;have:=Akg h1;subst this;exact⟨.skip,by simp[findLabel],λh=>At.skip h⟩
  .cases h
theorem KY {l:Nat}{body:Code}:∀{r r':List It},UM body l r=some r'->∃k',gotoIn l (ER body r)=some k'/\∀{e:Env} {bx:Bx} {Z22:Hp},At g (ER body r') e bx Z22->At g k' e bx Z22
 | .sc p::r,r',h=>by
  simp only[UM]at h;split at h
  .rename_i m h1;cases h;obtain⟨G,e1,e2⟩:=WL (g:=g) rfl h1;refine⟨.code G::.inScope (node body p)::ER body r,by simp only[ER,It.den,gotoIn,e1],λh=>e2 ?_⟩;rw[WK]at h;exact h
  .rename_i h1;obtain⟨k',e1,e2⟩:=KY h;exact⟨k',by simp only[ER,It.den,gotoIn,Py h1,e1],e2⟩
 | .c p::r,r',h=>by simp only[UM]at h;simp only[ER,It.den,gotoIn];exact KY h
 | .lp p::r,r',h=>by simp only[UM]at h;simp only[ER,It.den,gotoIn];exact KY h
 | .V5 p::r,r',h=>by simp only[UM]at h;simp only[ER,It.den,gotoIn];exact KY h
theorem BN (hc:c.Ok g fn)(hk:∀k∈cuts,k.Ok g c.body):∀{f:Nat} {first:Bool} {todo:List It} {s:S},ES c cuts f first todo s->At g (ER c.body todo) (s.e J) s.b s.Z22
 | 0,_,_,_,h=>h.elim
 | f+1,first,todo,s,h=>by
  have hl:∀Z22,left g.ds Z22=Z22:=λZ22=>by rw[hc.ds];rfl
  have hmk:Marks g.ds s.Z22:=by rw[hc.ds];trivial
  simp only[ES]at h;split at h
  .rename_i k AOr;cases first with
   | true=>cases AOr
   | false=>exact rj hk AOr s J h
  .split at h
   .unfold eB at h;split at h
    .rename_i l RI;rw[hc.cx.R]at h;exact At.iR hc.fnc hc.res (by rw[hl];exact Iw hc.cx.P RI) (by rw[hl];exact h) hc.IQ hmk
    .cases h
   .exact At.inBlock (BN hc hk h)
   .exact At.inLoop (BN hc hk h)
   .exact At.inScope (BN hc hk h)
   .rename_i p r _;have e:ER c.body (.c p::r)=.code (node c.body p)::ER c.body r:=rfl;rw[e];split at h
    .rename_i G;rw[G];exact At.skip (BN hc hk h)
    .rename_i a b G;refine At.seq G ?_;have:=BN hc hk h;simp only[ER,It.den,node,G,cl,cr]at this;exact this
    .rename_i i a G;refine At.block G ?_;have:=BN hc hk h;simp only[ER,It.den,node,G,cl]at this;exact this
    .rename_i a G;refine At.loop G ?_;have:=BN hc hk h;simp only[ER,It.den,node,G,cl]at this;exact this
    .rename_i i G;split at h
     .rename_i r' hr;exact At.exit G (KX hr) (BN hc hk h)
     .cases h
    .rename_i a G;refine At.scope G ?_;have:=BN hc hk h;simp only[ER,It.den,node,G,cl]at this;exact this
    .rename_i l G;rw[G];exact At.label (BN hc hk h)
    .rename_i l G;split at h
     .rename_i r' hr;obtain⟨k',e1,e2⟩:=KY (g:=g) hr;exact At.goto G e1 (e2 (BN hc hk h))
     .cases h
    .rename_i x a b G;obtain⟨t,s',v,h1,h2,h3,h4,h⟩:=S.HP h;have hx:AD (s.e J) x=.bool t:=by rw[ev h3,h4]
     have:=BN hc hk h;rw[h1.e J,h1.b,h1.Z22]at this;cases t with
     | true=>
      refine At.AGr G hx ?_;simp only[ER,It.den,node,G,cl,Bool.not_true]at this;exact this
     | false=>
      refine At.AGs G hx ?_;simp only[ER,It.den,node,G,cr,Bool.not_false]at this;exact this
    .rename_i G;unfold eB at h;split at h
     .rename_i l RI;rw[hc.cx.R]at h;exact At.eB G hc.fnc hc.res (by rw[hl];exact Iw hc.cx.P RI) (by rw[hl];exact h) hc.IQ hmk
     .cases h
    .rename_i id ops draw G;rw[G];exact oL hc.cx hc.mixed h λs' h'=>BN hc hk h'
    .cases h
end
def S.uw (s:S):List Nat->Option (List Value)
 | []=>some []
 | t::l=>match eH s.env t,s.uw l with
  | some v,some r=>some (v.den s.vl::r)
  | _,_=>none
theorem br {s:S}{J:Env}:∀{l:List Nat} {vs:List Value},s.uw l=some vs->Live (s.e J) (l.zip vs)
 | [],vs,h=>by simp only[S.uw,Ajv]at h;subst h;trivial
 | t::l,vs,h=>by
  simp only[S.uw]at h;split at h
  .rename_i v r G h2;cases h;exact⟨F5 G,br h2⟩
  .cases h
def rk (i:Nat):List HN->Option (HN×List HN)
 | []=>none
 | x::l=>match Nat.beq x.1 i with
  | true=>some (x,l)
  | false=>rk i l
def AG5:Option SV->Option Nat
 | some (.v (.a (.pt (.bx i 0))))=>some i
 | _=>none
def S.eV (s:S):List Nat->List HN->Option (List HN)
 | [],_=>some []
 | t::l,bx=>match AG5 (eH s.env t) with
  | some i=>match rk i bx with
   | some (x,r)=>match s.eV l r with
    | some m=>some (x::m)
    | none=>none
   | none=>none
  | none=>none
def WM (vl:Vl):List Nat->List HN->List (Nat×Value)
 | t::l,x::r=>(t,.pointer (some ⟨nth 0 vl.δ x.1,0,none⟩))::WM vl l r
 | _,_=>[]
theorem bu {vl:Vl}{i:Nat}:∀{l r:List HN} {x:HN},rk i l=some (x,r)->x.1=i/\∀m:List HN,(GZ vl m).Sublist (GZ vl r)->(GZ vl (x::m)).Sublist (GZ vl l)
 | y::l,r,x,h=>by
  simp only[rk]at h;split at h
  .rename_i he;cases h;exact⟨Akg he,λm hm=>List.Sublist.cons_cons _ hm⟩
  .obtain⟨G,h2⟩:=bu (vl:=vl) h;exact⟨G,λm hm=>List.Sublist.cons _ (h2 m hm)⟩
theorem jH {s:S}{J:Env}:∀{l:List Nat} {bx B:List HN},s.eV l bx=some B->(GZ s.vl B).Sublist (GZ s.vl bx)/\Live (s.e J) (WM s.vl l B)
 | [],bx,B,h=>by simp only[S.eV,Ajv]at h;subst h;exact⟨List.nil_sublist _,trivial⟩
 | t::l,bx,B,h=>by
  simp only[S.eV]at h;split at h
  .rename_i i hi;split at h
   .rename_i x r hx;split at h
    .rename_i m hm;cases h;obtain⟨G,h2⟩:=bu (vl:=s.vl) hx;obtain⟨h3,h4⟩:=jH (s:=s) (J:=J) hm;refine⟨h2 m h3,?_,h4⟩;unfold AG5 at hi;split at hi
     .rename_i hg;cases hi;rw[G];exact F5 hg
     .cases hi
    .cases h
   .cases h
  .cases h
theorem Live.app {e:Env}:∀{l m:List (Nat×Value)},Live e l->Live e m->Live e (l++m)
 | [],_,_,h=>h
 | (_,_)::_,_,h,g=>⟨h.1,Live.app h.2 g⟩
theorem At.AOs {g:Gl}{k:List Item}{s:S}{J:Env}{l G:List Nat}{vs:List Value}{B:List HN}(h:s.uw l=some vs)(hb:s.eV G s.bx=some B)(hk:∀J,At g k (Mf J (WM s.vl G B++l.zip vs)) (GZ s.vl B) s.Z22):At g k (s.e J) s.b s.Z22:=by
 obtain⟨h1,h2⟩:=jH (J:=J) hb;exact At.sub h1 (At.live (h2.app (br h)) (hk _))
def WN:Nat->List Value->List (Nat×Value)
 | _,[]=>[]
 | k,v::l=>(k,v)::WN (k+1) l
theorem WO {e:Env}:∀{l:List Value} {k:Nat},(∀j v,l[j]?=some v->e (k+j)=v)->Live e (WN k l)
 | [],_,_=>trivial
 | v::l,k,h=>⟨h 0 v rfl,WO λj u G=>by rw[show k+1+j=k+(j+1) by omega];exact h (j+1) u (by simpa using G)⟩
theorem Spec.walk {P:Program}{f:FuncId}{fn:Func}{R:Rr}{args:Array Value}{n fuel:Nat}(c:Fx)(cuts:List Cut)(s:S)(hc:c.Ok (Gl.fn P f n R) fn)(hb:fn.body=some c.body)(hnt:fn.ntmps=n)(hn:Nat.ble args.size n=true)
  (hk:∀k∈cuts,k.Ok (Gl.fn P f n R) c.body) (he:JQ s.vl s.env=WN 0 args.toList) (G:s.bx=[]) (h:ES c cuts fuel true [.c []] s):Spec P f args s.Z22 R:=by
 subst hnt;refine Spec.Vx hc.fnc hb (Akd hn) λe hee=>?_;have hl:Live e (JQ s.vl s.env):=by
  rw[he];refine WO λj v hj=>?_;rw[Akn,hee];simp only[AlR];rw[<-AkQ,hj];rfl
 have:=BN (J:=e) hc hk h;have Fi:s.b=[]:=by rw[S.b,G];rfl
 rw[Fi]at this;exact At.live hl this
end Tw
end
section
namespace Tw
open Go
variable [GO]
inductive Dv where
 | I (k:IntKind) (x:Int)
 | B (t:Bool)
 | T (x:ByteArray)
 | L (p:Option Addr) (n c:Nat)
 | Q (p:Option Addr)
 | A (b:Nat)
 | M (x:Option Nat)
 | V (x:Value)
def Dv.den:Dv->Value
 | .I k x=>.int k x
 | .B t=>.bool t
 | .T x=>.string x
 | .L p n c=>.slice p n c
 | .Q p=>.pointer p
 | .A b=>.pointer (some ⟨b,0,none⟩)
 | .M x=>.map x
 | .V x=>x
def jI:List Dv->List Value
 | []=>[]
 | x::l=>x.den::jI l
inductive Dw where
 | o (x:Dv)
 | G (l:List Dv)
 | U (l:List Dv)
 | X (T:TypeId) (l:List Dv)
def Dw.den:Dw->Value
 | .o x=>x.den
 | .G l=>.agg (jI l).toArray
 | .U l=>.tuple (jI l).toArray
 | .X _ _=>undef
structure Nm where
 ρ:List (Option Addr)
 β:List BK
structure Nm.le (n:Nm)(v:Vl):Prop where
 ρ:∀i,i<n.ρ.length->nth none v.ρ i=nth none n.ρ i
 β:∀i,i<n.β.length->nth (.var false) v.β i=nth (.var false) n.β i
def Dv.sym:Dv->Nm->Ck×Nm
 | .I k x,n=>(.int k x,n)
 | .B t,n=>(.bs (WG n.β) false,⟨n.ρ,n.β++[.var t]⟩)
 | .T x,n=>(.str x,n)
 | .L p k c,n=>(.sl (.var (WG n.ρ)) k c,⟨n.ρ++[p],n.β⟩)
 | .Q p,n=>(.pt (.var (WG n.ρ)),⟨n.ρ++[p],n.β⟩)
 | .A b,n=>(.pt (.at b 0),n)
 | .M x,n=>(.mp x,n)
 | .V x,n=>(.raw x,n)
theorem Nm.AOt {n:Nm}{v:Vl}{p:Option Addr}(h:Nm.le ⟨n.ρ++[p],n.β⟩ v):n.le v/\nth none v.ρ (WG n.ρ)=p:=by
 refine⟨⟨λi hi=>(h.ρ i (by simp only[Ajr];omega)).trans (Pw hi),h.β⟩,?_⟩;rw[Va,h.ρ _ (by simp)];exact Px
theorem Nm.AXi {n:Nm}{v:Vl}{p:BK}(h:Nm.le ⟨n.ρ,n.β++[p]⟩ v):n.le v/\nth (.var false) v.β (WG n.β)=p:=by
 refine⟨⟨h.ρ,λi hi=>(h.β i (by simp only[Ajr];omega)).trans (Pw hi)⟩,?_⟩;rw[Va,h.β _ (by simp)];exact Px
theorem Dv.TT {x:Dv}{n:Nm}{v:Vl}(h:(x.sym n).2.le v):(x.sym n).1.den v=x.den/\n.le v:=by
 cases x with
 | B t=>obtain⟨G,h2⟩:=Nm.AXi h;exact⟨by simp only[Dv.sym,Ck.den,h2];rfl,G⟩
 | L p k c=>obtain⟨G,h2⟩:=Nm.AOt h;exact⟨by simp only[Dv.sym,Ck.den,PV.den,h2];rfl,G⟩
 | Q p=>obtain⟨G,h2⟩:=Nm.AOt h;exact⟨by simp only[Dv.sym,Ck.den,PV.den,h2];rfl,G⟩
 | _=>exact⟨rfl,h⟩
def jJ:List Dv->Nm->List Ck×Nm
 | [],n=>([],n)
 | x::l,n=>match x.sym n with
  | (a,n)=>match jJ l n with
   | (r,n)=>(a::r,n)
theorem Vb {v:Vl}:∀{l:List Dv} {n:Nm},(jJ l n).2.le v->Bj v (jJ l n).1=jI l/\n.le v
 | [],n,h=>⟨rfl,h⟩
 | x::l,n,h=>by
  obtain⟨G,h2⟩:=Vb (l:=l) (n:=(x.sym n).2) h;obtain⟨h3,h4⟩:=Dv.TT h2;exact⟨by simp only[jJ,Bj,jI,h3];rw[<-G],h4⟩
def atoms:List Ck->List Ih
 | []=>[]
 | x::l=>.a x::atoms l
theorem bz {v:Vl}:∀l,Jg v (atoms l)=Bj v l
 | []=>rfl
 | x::l=>by simp only[atoms,Jg,Bj];rw[bz l];rfl
def Dw.sym:Dw->Nm->SV×Nm
 | .o x,n=>match x.sym n with | (a,n)=>(.v (.a a),n)
 | .G l,n=>match jJ l n with | (a,n)=>(.v (.agg a),n)
 | .U l,n=>match jJ l n with | (a,n)=>(.bR (atoms a),n)
 | .X _ _,n=>(.v (.a .un),n)
theorem Dw.TT {x:Dw}{n:Nm}{v:Vl}(h:(x.sym n).2.le v):(x.sym n).1.den v=x.den/\n.le v:=by
 cases x with
 | o x=>exact Dv.TT (x:=x) h
 | G l=>obtain⟨h1,h2⟩:=Vb (l:=l) h;exact⟨by simp only[Dw.sym,SV.den,Ih.den,Dw.den];rw[<-h1],h2⟩
 | U l=>obtain⟨h1,h2⟩:=Vb (l:=l) h;exact⟨by simp only[Dw.sym,SV.den,Dw.den];rw[bz,<-h1],h2⟩
 | X T l=>exact⟨rfl,h⟩
abbrev Bv:=Nat×TypeId×List Dv
def U2:List (Nat×Dw)->List (Nat×Value)
 | []=>[]
 | (_,.X _ _)::l=>U2 l
 | (t,x)::l=>(t,x.den)::U2 l
def TU:List (Nat×Dw)->Nm->List (Nat×SV)×Nm
 | [],n=>([],n)
 | (_,.X _ _)::l,n=>TU l n
 | (t,x)::l,n=>match x.sym n with
  | (a,n)=>match TU l n with
   | (r,n)=>((t,a)::r,n)
theorem Pz {v:Vl}:∀{l:List (Nat×Dw)} {n:Nm},(TU l n).2.le v->JQ v (TU l n).1=U2 l/\n.le v
 | [],n,h=>⟨rfl,h⟩
 | (t,.o x)::l,n,h=>by
  obtain⟨G,h2⟩:=Pz (l:=l) (n:=((Dw.o x).sym n).2) h;obtain⟨h3,h4⟩:=Dw.TT h2;exact⟨by simp only[TU,JQ,U2,h3];rw[<-G],h4⟩
 | (t,.G x)::l,n,h=>by
  obtain⟨G,h2⟩:=Pz (l:=l) (n:=((Dw.G x).sym n).2) h;obtain⟨h3,h4⟩:=Dw.TT h2;exact⟨by simp only[TU,JQ,U2,h3];rw[<-G],h4⟩
 | (t,.U x)::l,n,h=>by
  obtain⟨G,h2⟩:=Pz (l:=l) (n:=((Dw.U x).sym n).2) h;obtain⟨h3,h4⟩:=Dw.TT h2;exact⟨by simp only[TU,JQ,U2,h3];rw[<-G],h4⟩
 | (_,.X T x)::l,n,h=>Pz (l:=l) (n:=n) h
def Mk:List (Nat×Dw)->List Bv->List Bv
 | [],r=>r
 | (t,.X T l)::m,r=>Mk m ((t,T,l)::r)
 | _::m,r=>Mk m r
def jK:List Bv->Nat->Nm->List HN×Nm
 | [],_,n=>([],n)
 | (_,T,l)::m,j,n=>match jJ l n with
  | (a,n)=>match jK m (j+1) n with
   | (r,n)=>((j,T,a)::r,n)
def AEH:List Bv->Nat->List (Nat×SV)
 | [],_=>[]
 | (t,_,_)::m,j=>(t,.v (.a (.pt (.bx j 0))))::AEH m (j+1)
abbrev Bw:=Nat×TypeId×List Value
def aW:List Bv->List Bw
 | []=>[]
 | (t,T,l)::m=>(t,T,jI l)::aW m
def oN:List Bw->List Nat->List (Nat×Value)
 | (t,_,_)::m,b::δ=>(t,.pointer (some ⟨b,0,none⟩))::oN m δ
 | _,_=>[]
def bxV:List Bw->List Nat->Bx
 | (_,T,l)::m,b::δ=>(b,.cells l.toArray T (0,0))::bxV m δ
 | _,_=>[]
def PB:List Bw->(List Nat->Prop)->Prop
 | [],K=>K []
 | _::m,K=>∀b:Nat,PB m λδ=>K (b::δ)
theorem zO:∀{l:List Bw} {K:List Nat->Prop},PB l K->∀δ,δ.length=l.length->K δ
 | [],K,h,[],_=>h
 | _::m,K,h,b::δ,G=>zO (h b) δ (by simpa using G)
theorem zP:∀{l:List Bw} {K:List Nat->Prop},(∀δ,δ.length=l.length->K δ)->PB l K
 | [],K,h=>h [] rfl
 | _::m,K,h=>λb=>zP λδ G=>h (b::δ) (by simp[G])
def PTv (g:Gl)(G:List Item)(bs:List Bw)(ts:List (Nat×Value))(Z22:Hp):Prop:=
 ∀J:Env,PB bs λδ=>At g G (Mf J (oN bs δ++ts)) (bxV bs δ) Z22
theorem rl {δ0:List Nat}{v:Vl}:∀{m:List Bv} {j:Nat} {n:Nm} {δ:List Nat},δ.length=m.length->(∀i,i<δ.length->nth 0 v.δ (j+i)=nth 0 δ i)->(jK m j n).2.le v->
  GZ v (jK m j n).1=bxV (aW m) δ/\JQ v (AEH m j)=oN (aW m) δ/\n.le v
 | [],j,n,[],_,_,h=>⟨rfl,rfl,h⟩
 | (t,T,l)::m,j,n,b::δ,hl,hd,h=>by
  obtain⟨G,h2,h3⟩:=rl (δ0:=δ0) (m:=m) (j:=j+1) (n:=(jJ l n).2) (δ:=δ) (by simpa using hl) (λi hi=>by
   have:=hd (i+1) (by simpa using hi);rw[show j+1+i=j+(i+1) by omega];exact this) h
  obtain⟨h4,h5⟩:=Vb h3;have hb:nth 0 v.δ j=b:=hd 0 (by simp);refine⟨?_,?_,h5⟩
  .simp only[jK,GZ,aW,bxV,hb,h4];rw[<-G]
  .simp only[AEH,JQ,aW,oN,SV.den,Ih.den,Ck.den,PV.den,hb];rw[h2]
def ux (D:List (Nat×Dw))(δ:List Nat)(Z22:Hp):S:=match TU D ⟨[],[]⟩ with
 | (e,n)=>match Mk D [] with
  | bs=>match jK bs 0 n with
   | (x,n)=>⟨AEH bs 0++e,x,⟨n.ρ,n.β,δ⟩,Z22⟩
theorem jL {v:Vl}:∀{l m:List (Nat×SV)},JQ v (l++m)=JQ v l++JQ v m
 | [],_=>rfl
 | (t,x)::l,m=>by simp only[Akl,JQ];rw[jL]
theorem AJ1 {D:List (Nat×Dw)}{δ:List Nat}{Z22:Hp}{J:Env}(hl:δ.length=(Mk D []).length):
  (ux D δ Z22).e J=Mf J (oN (aW (Mk D [])) δ++U2 D)/\(ux D δ Z22).b=bxV (aW (Mk D [])) δ:=by
 have G:(jK (Mk D []) 0 (TU D ⟨[],[]⟩).2).2.le ⟨(jK (Mk D []) 0 (TU D ⟨[],[]⟩).2).2.ρ,(jK (Mk D []) 0 (TU D ⟨[],[]⟩).2).2.β,δ⟩:=⟨λ_ _=>rfl,λ_ _=>rfl⟩;obtain⟨h1,h2,h3⟩:=rl (δ0:=[]) (δ:=δ) hl (λi _=>by rw[Akn]) G;obtain⟨h4,_⟩:=Pz h3;exact⟨by simp only[ux,S.e,jL];rw[h2,h4],h1⟩
def AOu:Nat->Nat->List Bool
 | 0,_=>[]
 | f+1,n=>match Nat.ble n 1 with
  | true=>[]
  | false=>Nat.beq (n%2) 1::AOu f (n/2)
def pth (n:Nat):List Bool:=AOu 400 n
def RJ (body:Code):List Bool->List It
 | []=>[]
 | t::p=>match node body p with
  | .seq _ _=>bif t then RJ body p else .c (true::p)::RJ body p
  | .block i _=>.V5 i::RJ body p
  | .loop _=>.lp (false::p)::RJ body p
  | .scope _=>.sc (false::p)::RJ body p
  | _=>RJ body p
def tdo (body:Code)(n:Nat):List It:=.c (pth n)::RJ body (pth n)
inductive Sh where
 | I (k:IntKind) | B | T | L | Q | A | M | V
inductive Sw where
 | o (x:Sh)
 | G (l:List Sh)
 | U (l:List Sh)
 | X (T:TypeId) (l:List Sh)
abbrev ArS:Sh->Type->Type
 | .I _,C=>Int->C
 | .B,C=>Bool->C
 | .T,C=>ByteArray->C
 | .L,C=>Option Addr->Nat->Nat->C
 | .Q,C=>Option Addr->C
 | .A,C=>Nat->C
 | .M,C=>Option Nat->C
 | .V,C=>Value->C
def AOv {C:Type}:(x:Sh)->(Dv->C)->ArS x C
 | .I k,K=>λx=>K (.I k x)
 | .B,K=>λx=>K (.B x)
 | .T,K=>λx=>K (.T x)
 | .L,K=>λp n c=>K (.L p n c)
 | .Q,K=>λx=>K (.Q x)
 | .A,K=>λx=>K (.A x)
 | .M,K=>λx=>K (.M x)
 | .V,K=>λx=>K (.V x)
abbrev ArL:List Sh->Type->Type
 | [],A=>A
 | x::l,A=>ArS x (ArL l A)
def AEJ {A:Type}:(l:List Sh)->(List Dv->A)->ArL l A
 | [],K=>K []
 | x::l,K=>AOv x λd=>AEJ l λr=>K (d::r)
abbrev ArW:Sw->Type->Type
 | .o x,C=>ArS x C
 | .G l,C=>ArL l C
 | .U l,C=>ArL l C
 | .X _ l,C=>ArL l C
def AXk {A:Type}:(x:Sw)->(Dw->A)->ArW x A
 | .o x,K=>AOv x λd=>K (.o d)
 | .G l,K=>AEJ l λd=>K (.G d)
 | .U l,K=>AEJ l λd=>K (.U d)
 | .X T l,K=>AEJ l λd=>K (.X T d)
abbrev Ar:List (Nat×Sw)->Type->Type
 | [],A=>A
 | (_,x)::l,A=>ArW x (Ar l A)
def cur {A:Type}:(l:List (Nat×Sw))->(List (Nat×Dw)->A)->Ar l A
 | [],K=>K []
 | (t,x)::l,K=>AXk x λd=>cur l λr=>K ((t,d)::r)
structure Fw where
 P:Program
 f:Nat
 fn:Func
 LN:List Nat
 hid:List Nat
 wr:Bool
 reg:List (Nat×Nat×Bool)
 RG:List (Nat×TypeId)
 cuts:List (Nat×List (Nat×Sw))
def Fw.K (M:Fw):Code:=M.fn.body.getD .skip
def Fw.gl (M:Fw)(R:Rr):Gl:=Gl.fn M.P M.f M.fn.ntmps R
def Fw.cx (M:Fw)(R:Rr):Fx:={ P:=M.P,R:=R,LN:=M.LN,hid:=M.hid,wr:=M.wr,n:=M.fn.ntmps,body:=M.K,res:=M.fn.results.toList,reg:=M.reg,RG:=M.RG }
def jM (vl:Vl):List Nat->List HN->List Bw
 | t::l,x::r=>(t,x.2.1,Bj vl x.2.2)::jM vl l r
 | _,_=>[]
def tmps:List (Nat×Sw)->List Nat
 | []=>[]
 | (_,.X _ _)::l=>tmps l
 | (t,_)::l=>t::tmps l
def zQ:List (Nat×Sw)->List Nat->List Nat
 | [],r=>r
 | (t,.X _ _)::l,r=>zQ l (t::r)
 | _::l,r=>zQ l r
def Fw.cut (M:Fw)(R:Rr)(c:Nat×List (Nat×Sw)):Cut:=⟨tdo M.K c.1,λs=>match s.uw (tmps c.2),s.eV (zQ c.2 []) s.bx with
 | some vs,some B=>PTv (M.gl R) (ER M.K (tdo M.K c.1)) (jM s.vl (zQ c.2 []) B) ((tmps c.2).zip vs) s.Z22
 | _,_=>False⟩
def aX (M:Fw)(R:Rr):List (Nat×List (Nat×Sw))->List Cut
 | []=>[]
 | c::l=>M.cut R c::aX M R l
def Fw.ptD (M:Fw)(at_:Nat)(R:Rr)(D:List (Nat×Dw))(Z22:Hp):Prop:=PTv (M.gl R) (ER M.K (tdo M.K at_)) (aW (Mk D [])) (U2 D) Z22
noncomputable def Fw.pt (M:Fw)(i:Nat)(R:Rr):Ar (nth (0,[]) M.cuts i).2 (Hp->Prop):=cur (nth (0,[]) M.cuts i).2 (M.ptD (nth (0,[]) M.cuts i).1 R)
structure Fw.Ok (M:Fw):Prop where
 E:AH M.P M.LN
 mixed:M.P.follows .mixedOrders=true
 fnc:M.P.funcs[M.f]?=some M.fn
 body:M.fn.body.isSome=true
theorem Fw.AG6 {M:Fw}{R:Rr}(h:M.Ok):(M.cx R).Ok (M.gl R) M.fn:=⟨⟨rfl,rfl,h.E,rfl,rfl,rfl⟩,h.mixed,h.fnc,rfl,rfl,rfl⟩
theorem jN {vl:Vl}:∀{l:List Nat} {B:List HN},∃δ:List Nat,δ.length=(jM vl l B).length/\oN (jM vl l B) δ=WM vl l B/\(l.length=B.length->bxV (jM vl l B) δ=GZ vl B)
 | [],[]=>⟨[],rfl,rfl,λ_=>rfl⟩
 | [],_::_=>⟨[],rfl,rfl,λh=>by simp at h⟩
 | _::_,[]=>⟨[],rfl,rfl,λh=>by simp at h⟩
 | t::l,(i,T,cs)::B=>by
  obtain⟨δ,G,h2,h3⟩:=jN (vl:=vl) (l:=l) (B:=B);exact⟨nth 0 vl.δ i::δ,by simp[jM,G],by simp only[jM,oN,WM];rw[h2],λh=>by simp only[jM,bxV,GZ];rw[h3 (by simpa using h)]⟩
theorem jO {s:S}:∀{l:List Nat} {bx B:List HN},s.eV l bx=some B->l.length=B.length
 | [],bx,B,h=>by simp only[S.eV,Ajv]at h;subst h;rfl
 | t::l,bx,B,h=>by
  simp only[S.eV]at h;split at h
  .split at h
   .split at h
    .rename_i m hm;cases h;simp[jO hm]
    .cases h
   .cases h
  .cases h
theorem Fw.AJ3 (M:Fw)(R:Rr)(c:Nat×List (Nat×Sw)):(M.cut R c).Ok (M.gl R) M.K:=λs J h=>by
 simp only[Fw.cut]at h;split at h
 .rename_i vs B h1 G;obtain⟨δ,e1,e2,e3⟩:=jN (vl:=s.vl) (l:=zQ c.2 []) (B:=B);refine At.AOs h1 G λJ=>?_;have:=zO (h J) δ e1;rw[e2,e3 (jO G)]at this;exact this
 .cases h
theorem eW {M:Fw}{R:Rr}:∀{l:List (Nat×List (Nat×Sw))},∀k∈aX M R l,k.Ok (M.gl R) M.K
 | c::l,k,G=>by
  rcases Ajo.1 G with rfl|G
  .exact M.AJ3 R c
  .exact eW k G
theorem jP:∀{l:List Bv},(aW l).length=l.length
 | []=>rfl
 | _::m=>by simp only[aW,Ajk];rw[jP]
def PX (F:Prop):List Bv->(List Nat->Prop)->Prop
 | [],K=>F=K []
 | _::m,K=>∀b:Nat,PX F m λδ=>K (b::δ)
theorem zR {F:Prop}(h:F):∀{l:List Bv} {K:List Nat->Prop},PX F l K->∀δ,δ.length=l.length->K δ
 | [],K,e,[],_=>e▸h
 | _::m,K,e,b::δ,G=>zR h (e b) δ (by simpa using G)
theorem Fw.ofB {M:Fw}{R:Rr}{at_:Nat}{D:List (Nat×Dw)}{Z22:Hp}{F:Prop}(h:F)(ok:M.Ok)(e:PX F (Mk D []) λδ=>ES (M.cx R) (aX M R M.cuts) 4000 true (tdo M.K at_) (ux D δ Z22)):M.ptD at_ R D Z22:=λJ=>by
 refine zP λδ G=>?_;rw[jP]at G;have:=BN (J:=J) (Fw.AG6 ok) eW (zR h e δ G);obtain⟨e1,e2⟩:=AJ1 (D:=D) (Z22:=Z22) (J:=J) G;rw[e1,e2]at this;exact this
theorem Fw.of {M:Fw}{R:Rr}{at_:Nat}{D:List (Nat×Dw)}{Z22:Hp}{F:Prop}(h:F)(ok:M.Ok)(hb:Mk D []=[])(e:F=ES (M.cx R) (aX M R M.cuts) 4000 true (tdo M.K at_) (ux D [] Z22):=by kernel_rfl):M.ptD at_ R D Z22:=
 M.ofB h ok (by rw[hb];exact e)
theorem Fw.WQ {M:Fw}{R:Rr}{at_:Nat}{D:List (Nat×Dw)}{Z22:Hp}{F:Prop}{x1:Bv}(h:F)(ok:M.Ok)(hb:Mk D []=[x1])(e:∀b1:Nat,F=ES (M.cx R) (aX M R M.cuts) 4000 true (tdo M.K at_) (ux D [b1] Z22)):M.ptD at_ R D Z22:=
 M.ofB h ok (by rw[hb];exact e)
theorem Fw.oO {M:Fw}{R:Rr}{at_:Nat}{D:List (Nat×Dw)}{Z22:Hp}{F:Prop}{x1 x2:Bv}(h:F)(ok:M.Ok)(hb:Mk D []=[x1,x2])(e:∀b1 b2:Nat,F=ES (M.cx R) (aX M R M.cuts) 4000 true (tdo M.K at_) (ux D [b1,b2] Z22)):M.ptD at_ R D Z22:=
 M.ofB h ok (by rw[hb];exact e)
theorem Fw.of3 {M:Fw}{R:Rr}{at_:Nat}{D:List (Nat×Dw)}{Z22:Hp}{F:Prop}{x1 x2 x3:Bv}(h:F)(ok:M.Ok)(hb:Mk D []=[x1,x2,x3])(e:∀b1 b2 b3:Nat,F=ES (M.cx R) (aX M R M.cuts) 4000 true (tdo M.K at_) (ux D [b1,b2,b3] Z22)):M.ptD at_ R D Z22:=
 M.ofB h ok (by rw[hb];exact e)
theorem Fw.of4 {M:Fw}{R:Rr}{at_:Nat}{D:List (Nat×Dw)}{Z22:Hp}{F:Prop}{x1 x2 x3 x4:Bv}(h:F)(ok:M.Ok)(hb:Mk D []=[x1,x2,x3,x4])(e:∀b1 b2 b3 G:Nat,F=ES (M.cx R) (aX M R M.cuts) 4000 true (tdo M.K at_) (ux D [b1,b2,b3,G] Z22)):M.ptD at_ R D Z22:=
 M.ofB h ok (by rw[hb];exact e)
def AJ5:Value->Dv
 | .int k x=>.I k x
 | .bool t=>.B t
 | .string x=>.T x
 | .slice p n c=>.L p n c
 | .pointer p=>.Q p
 | .map x=>.M x
 | x=>.V x
theorem jQ (x:Value):(AJ5 x).den=x:=by cases x<;>rfl
def rm:List Value->List Dv
 | []=>[]
 | x::l=>AJ5 x::rm l
theorem cC:∀l:List Value,jI (rm l)=l
 | []=>rfl
 | x::l=>by simp only[rm,jI];rw[jQ,cC]
def uy:Value->Dw
 | .agg cs=>.G (rm cs.toList)
 | x=>.o (AJ5 x)
theorem zS (x:Value):(uy x).den=x:=by
 cases x
 case agg cs=>simp only[uy,Dw.den,cC]
 all_goals (simp only[uy,Dw.den];exact jQ _)
def zT:Value->Dw
 | .pointer (some ⟨b,0,none⟩)=>.o (.A b)
 | x=>.o (.V x)
theorem zU (x:Value):(zT x).den=x:=by
 unfold zT;split<;>rfl
def uz (np:Nat):Nat->List Value->List (Nat×Dw)
 | _,[]=>[]
 | k,x::l=>match Nat.blt k np with
  | true=>(k,uy x)::uz np (k+1) l
  | false=>(k,zT x)::uz np (k+1) l
theorem zV (x:Value):(∃y,uy x=.o y)\/∃y,uy x=.G y:=by cases x<;>first|exact .inr ⟨_,rfl⟩|exact .inl ⟨_,rfl⟩
theorem zW (x:Value):∃y,zT x=.o y:=by unfold zT;split<;>exact⟨_,rfl⟩
theorem eY {np:Nat}:∀{l:List Value} {k:Nat},U2 (uz np k l)=WN k l/\Mk (uz np k l) []=[]
 | [],_=>⟨rfl,rfl⟩
 | x::l,k=>by
  obtain⟨h1,h2⟩:=eY (np:=np) (l:=l) (k:=k+1);simp only[uz];split
  .have hd:=zS x;rcases zV x with ⟨y,G⟩|⟨y,G⟩<;>rw[G]at hd ⊢<;>exact⟨by simp only[U2,WN];rw[hd,h1],h2⟩
  .have hd:=zU x;obtain⟨y,G⟩:=zW x;rw[G]at hd ⊢;exact⟨by simp only[U2,WN];rw[hd,h1],h2⟩
def Fw.run (M:Fw)(R:Rr)(k:Nat)(D:List (Nat×Dw))(Z22:Hp):Prop:=match Nat.ble k M.fn.ntmps with
 | true=>ES (M.cx R) (aX M R M.cuts) 4000 true [.c []] (ux D [] Z22)
 | false=>False
theorem Fw.DL {M:Fw}{R:Rr}{args:Array Value}{Z22:Hp}{F:Prop}(h:F)(ok:M.Ok)(D:List (Nat×Dw))(hx:Mk D []=[])(hD:U2 D=WN 0 args.toList)(e:F=M.run R args.size D Z22):Spec M.P M.f args Z22 R:=by
 subst e;unfold Fw.run at h;split at h
 case h_2=>exact h.elim
 rename_i hn;obtain⟨fb,hb⟩:=Option.isSome_iff_exists.1 ok.body;refine Spec.walk (c:=M.cx R) (cuts:=aX M R M.cuts) (s:=ux D [] Z22) (fuel:=4000) (Fw.AG6 ok) ?_ rfl hn eW ?_ ?_ h
 .show M.fn.body=some (M.fn.body.getD .skip)
  rw[hb];rfl
 .obtain⟨G,_⟩:=Pz (l:=D) (n:=⟨[],[]⟩) (v:=⟨(TU D ⟨[],[]⟩).2.ρ,(TU D ⟨[],[]⟩).2.β,[]⟩) ⟨λ_ _=>rfl,λ_ _=>rfl⟩;rw[hD]at G;simp only[ux,hx];exact G
 .simp only[ux,hx];rfl
theorem Fw.start {M:Fw}{R:Rr}{args:Array Value}{Z22:Hp}{F:Prop}(h:F)(ok:M.Ok)(e:F=M.run R args.size (uz M.fn.params.size 0 args.toList) Z22:=by kernel_rfl):Spec M.P M.f args Z22 R:=
 M.DL h ok _ eY.2 eY.1 e
abbrev wI:Sw:=.o (.I .i64)
abbrev wU:Sw:=.o (.I .u64)
abbrev w8:Sw:=.o (.I .u8)
abbrev wB:Sw:=.o .B
abbrev wT:Sw:=.o .T
abbrev wL:Sw:=.o .L
abbrev wQ:Sw:=.o .Q
abbrev wA:Sw:=.o .A
abbrev wM:Sw:=.o .M
abbrev wV:Sw:=.o .V
abbrev aD (b o:Nat):Option Addr:=some ⟨b,o,none⟩
abbrev Br (p A B:Prop):Prop:=(p->A)/\(¬p->B)
abbrev Bm (p A B:Prop):Prop:=(¬p->A)/\(p->B)
abbrev Bo (t:Bool)(A B:Prop):Prop:=(t=true->A)/\(t=false->B)
abbrev Bn (t:Bool)(A B:Prop):Prop:=(t=false->A)/\(t=true->B)
abbrev Pq (p:Option Addr)(K:Nat->Nat->Prop):Prop:=∃b o:Nat,p=some ⟨b,o,none⟩/\K b o
abbrev In (x n:Int):Prop:=(0:Int)<=x/\x<n
abbrev Df (r:Int)(K:Int->Prop):Prop:=∀x:Int,x=r->K x
abbrev Al (Z22:Hp)(K:Nat->Prop):Prop:=∀b:Nat,Z22 b=none->K b
abbrev LI (k:IntKind)(Z22:Hp)(b o:Nat)(K:Int->Prop):Prop:=∃x:Int,Hp.ld Z22 ⟨b,o,none⟩=some (.int k x)/\K x
abbrev LB (Z22:Hp)(b o:Nat)(K:Bool->Prop):Prop:=∃x:Bool,Hp.ld Z22 ⟨b,o,none⟩=some (.bool x)/\K x
abbrev LT (Z22:Hp)(b o:Nat)(K:ByteArray->Prop):Prop:=∃x:ByteArray,Hp.ld Z22 ⟨b,o,none⟩=some (.string x)/\K x
abbrev LQ (Z22:Hp)(b o:Nat)(K:Option Addr->Prop):Prop:=∃x:Option Addr,Hp.ld Z22 ⟨b,o,none⟩=some (.pointer x)/\K x
abbrev LM (Z22:Hp)(b o:Nat)(K:Option Nat->Prop):Prop:=∃x:Option Nat,Hp.ld Z22 ⟨b,o,none⟩=some (.map x)/\K x
abbrev LS (Z22:Hp)(b o:Nat)(K:Option Addr->Nat->Nat->Prop):Prop:=∃p:Option Addr,∃n:Nat,∃c:Nat,Hp.ld Z22 ⟨b,o,none⟩=some (.slice p n c)/\K p n c
abbrev CI (k:IntKind)(K:Int->Hp->Prop):Value->Hp->Prop:=λv Z22=>∃x:Int,v=.int k x/\K x Z22
abbrev CB (K:Bool->Hp->Prop):Value->Hp->Prop:=λv Z22=>∃x:Bool,v=.bool x/\K x Z22
abbrev CT (K:ByteArray->Hp->Prop):Value->Hp->Prop:=λv Z22=>∃x:ByteArray,v=.string x/\K x Z22
abbrev CQ (K:Option Addr->Hp->Prop):Value->Hp->Prop:=λv Z22=>∃x:Option Addr,v=.pointer x/\K x Z22
abbrev CS (K:Option Addr->Nat->Nat->Hp->Prop):Value->Hp->Prop:=λv Z22=>∃p:Option Addr,∃n:Nat,∃c:Nat,v=.slice p n c/\K p n c Z22
end Tw
end
section
set_option maxRecDepth 100000
noncomputable section
namespace TwW
open Go Tw Go.Proofs.Tryz
variable [GO]{R:Rr}{Z22:Hp}
abbrev AG (f:FuncId)(a:Array Value)(s:Hp)(R:Rr)(K:Value->Hp->Prop):Prop:=Spec prog f a s (AY R K)
abbrev G1 (T:TypeId)(p:Option Addr)(n c b:Nat):Sem Value:=Builtin.append_ #[T,T] T #[.slice p n c,.slice (aD b 0) 1 1]

namespace UN
def M:Fw:=⟨prog,9,f9,[6,7,11,13,14,17,21,22,23,33,34],[],false,[],[],[]⟩
def ok:M.Ok:=⟨.cons call6 (.cons call7 (.cons call11 (.cons call13 (.cons call14 (.cons call17 (.cons call21 (.cons call22 (.cons call23 (.cons call33 (.cons call34 (AH.nil))))))))))),mixed,func9,by kernel_rfl⟩
def start (h:AG 7 #[] Z22 R (λz y=>∃RL AOy AOz AO0,z=(.agg #[.U RL,.slice AOy AOz AO0])/\AG 6 #[(.string (ByteArray.mk #[120])),.I 60,.I 60,.I 0,.agg #[.U RL,.slice AOy AOz AO0],.I 3] y R (λz AE=>∃G KZ,z=(.tuple #[.pointer G,.I KZ])/\Br (KZ≠0) (R (.B false) AE) (Bo (Option.isNone G) (R (.B false) AE) (AG 33 #[.pointer G] AE R (λz AK=>∃AO1 jR,z=(.tuple #[.I AO1,.I jR])/\AG 34 #[] AK R (CS λp34 n34 c34 Ai=>AG 11 #[.pointer G,.I 0,.slice p34 n34 c34] Ai R (CI .i64 λTV CC=>AG 13 #[.pointer G,(.agg #[.U 0,(.I (-9)),.N])] CC R (CI .i64 λaY G2=>AG 11 #[.pointer G,.I 1,.N] G2 R (CI .i64 λjS ET=>Al ET λb44=>AG 13 #[.pointer G,(.agg #[.U 0,(.I (-9)),(.slice (aD b44 0) 1 1)])] (Hp.set ET b44 (.cells #[.U 4,.I 0,.I 60,.I 0,.N,.I 0,.I 0,.bool false,.I 0] 91 (0,0))) R (CI .i64 λx46 R7=>AG 21 #[.pointer G] R7 R (CS λp48 n48 c48 TW=>AG 14 #[.pointer G] TW R (λz H7=>∃AXn AXo AXp zX AO3,z=(.tuple #[.slice AXn AXo AXp,.I zX,.I AO3])/\Al H7 λb56=>AG 23 #[.pointer G,(.slice (aD b56 0) 1 1),.N] (Hp.set H7 b56 (.cells #[.U 4] 27 (0,0))) R (CI .i64 λx57 TY=>AG 14 #[.pointer G] TY R (λz U3=>∃AO4 AO5 AO6 AO7 AO8,z=(.tuple #[.slice AO4 AO5 AO6,.I AO7,.I AO8])/\Br (AO1=(-240)) (Br (jR=60) (Br (TV=0) (Br (aY=271) (Br (jS=0) (Br (x46=0) (Al U3 λb88=>AG 22 #[.slice p48 n48 c48,(.slice (aD b88 0) 1 1)] (Hp.set U3 b88 (.cells #[.U 4] 27 (0,0))) R (CB λt89 TZ=>Bo t89 (Br (AO3=272) (Br (x57=0) (Br (AO8=0) (Br (AO7=(-9)) (AG 34 #[] TZ R (CS λAXr n109 AXs u4=>AG 17 #[.slice AO4 AO5 AO6,.slice AXr n109 AXs] u4 R (CB λt110 WS=>R (.B t110) WS))) (R (.B false) TZ)) (R (.B false) TZ)) (R (.B false) TZ)) (R (.B false) TZ)) (R (.B false) TZ))) (R (.B false) U3)) (R (.B false) U3)) (R (.B false) U3)) (R (.B false) U3)) (R (.B false) U3)) (R (.B false) U3)))))))))))))))):Spec prog 9 #[] Z22 R:=M.start h ok
end UN
namespace BO
variable {q0 p1 p2 zY:Option Addr}{n1 c1 n2 c2 n33 xr:Nat}{zZ TV:Int}
def M:Fw:=⟨prog,23,f23,[10],[],false,[],[],[(2024,[(0,wQ),(33,wL),(34,wI),(35,wI)])]⟩
def ok:M.Ok:=⟨.cons call10 (AH.nil),mixed,func23,by kernel_rfl⟩
def HQ:=M.pt 0
def start (h:Pq q0 λH8 U4=>LS Z22 H8 (U4+11) λVc n15 Ta=>Al Z22 λH9=>AG 10 #[(.slice (aD H9 0) 2 2)] (Hp.set Z22 H9 (.cells #[.slice Vc n15 Ta,.slice p2 n2 c2] 22 (0,0))) R (λz y=>∃G APA APB RM,z=(.tuple #[.slice G APA APB,.I RM])/\Br (RM≠0) (R (.returned (.I RM)) y) (LB y H8 (U4+6) λt27=>Bn t27 (R (.returned (.I 273)) y) (AI prog (Instr.storeAt 22 (.pointer (aD H8 (U4+11))) (.slice G APA APB)) y (λ_ AE=>HQ R (aD H8 U4) p1 n1 c1 (n1:Int) 0 AE))))):Spec prog 23 #[.pointer q0,.slice p1 n1 c1,.slice p2 n2 c2] Z22 R:=M.start h ok
def DZ (h:Br (TV<zZ) (Pq zY λza zb=>In TV (n33:Int)/\LI .u64 Z22 za (zb+TV.toNat*1) λaY=>Pq q0 λaZ o40=>LM Z22 aZ (o40+10) λG=>AI prog (Instr.lookup 70 (.map G) (.U aY) false) Z22 (CI .i64 λx44 y=>AL (x44+1)/\AI prog (Instr.mapUpdate 70 (.map G) (.U aY) (.I (x44+1))) y (λ_ AE=>AL (TV+1)/\HQ R (aD aZ o40) (aD za zb) n33 xr zZ (TV+1) AE))) (R (.returned (.I 0)) Z22)):HQ R q0 zY n33 xr zZ TV Z22:=M.of h ok rfl
end BO
namespace MJ
variable {p0:Option Addr}{n0 c0:Nat}
def M:Fw:=⟨prog,40,f40,[],[],false,[],[],[]⟩
def ok:M.Ok:=⟨AH.nil,mixed,func40,by kernel_rfl⟩
def start (h:Al Z22 λb3=>AI prog (Builtin.append_ #[96,96] 96 #[(.slice (aD b3 0) 0 0),.slice p0 n0 c0]) (Hp.set Z22 b3 (.cells #[] 111 (0,0))) (CS λp5 n5 c5 y=>R (.returned (.slice p5 n5 c5)) y)):Spec prog 40 #[.slice p0 n0 c0] Z22 R:=M.start h ok
end MJ
namespace F7
variable {p0 p8:Option Addr}{n0 c0 n8 c8:Nat}{x9 x10:Int}
def M:Fw:=⟨prog,50,f50,[82,83],[4],false,[(10,14,true)],[],[(232,[(0,wL),(8,wL),(9,wI),(10,wI)])]⟩
def ok:M.Ok:=⟨.cons call82 (.cons call83 (AH.nil)),mixed,func50,by kernel_rfl⟩
def Gc:=M.pt 0
def start (h:Br (16<(n0:Int)) (R (.returned (.I 30)) Z22) (Gc R p0 n0 c0 p0 n0 c0 (n0:Int) 0 Z22)):Spec prog 50 #[.slice p0 n0 c0] Z22 R:=M.start h ok
def EE (h:Br (x10<x9) (Pq p8 λH8 U4=>In x10 (n8:Int)/\∃G oP,A2 Z22 H8 (U4+x10.toNat*2) [.string G,.string oP]/\∀b4:Nat,AG 82 #[.string G] Z22 R (CB λt18 y=>Bn t18 (R (.returned (.I 31)) y) (Bo ((ByteArray.toList oP==ByteArray.toList (ByteArray.mk #[]))) (R (.returned (.I 32)) y) (Br ((256:Int)<(oP.size:Int)) (R (.returned (.I 32)) y) (AG 83 #[.string oP] y R (CB λt33 AE=>Bn t33 (R (.returned (.I 32)) AE) (Br (0<x10) (AL (x10-1)/\Pq p0 λad xu=>In (x10-1) (n0:Int)/\LT AE ad (xu+Int.toNat (x10-1)*2) λs47=>∃t48,YF prog ((do eqGuard .leq 9 (.tmp 41) (.tmp 47) (.string G) (.string s47);binOp .leq 9 (.string G) (.string s47))) AE (.bool t48)/\Bo t48 (R (.returned (.I 33)) AE) (AL (x10+1)/\Gc R (aD ad xu) n0 c0 (aD H8 U4) n8 c8 x9 (x10+1) AE)) (AL (x10+1)/\Gc R p0 n0 c0 (aD H8 U4) n8 c8 x9 (x10+1) AE)))))))) (R (.returned (.I 0)) Z22)):Gc R p0 n0 c0 p8 n8 c8 x9 x10 Z22:=M.of h ok rfl
end F7
namespace Ge
variable {q0 FC FP p2:Option Addr}{Cm CN E8 EK Dg Dj:Int}{E9:ByteArray}{FD FE FG FQ n2 c2:Nat}{EU:Bool}
def M:Fw:=⟨prog,91,f91,[],[4],false,[],[],[]⟩
def ok:M.Ok:=⟨AH.nil,mixed,func91,by kernel_rfl⟩
def start (h:∀b4:Nat,Pq p2 λb9 G=>In 0 (n2:Int)/\LI .i64 Z22 b9 G λx11=>Br (x11=3) (R (.T #[.I 0,.I 191]) Z22) (In 0 (n2:Int)/\LI .i64 Z22 b9 G λx16=>R (.T #[.I x16,.I 0]) Z22)):Spec prog 91 #[.pointer q0,.agg #[.I Cm,.I CN,.string E9,.slice FC FD FE,.I E8,.I EK,.I Dg,.slice FP FG FQ,.bool EU,.I Dj],.slice p2 n2 c2] Z22 R:=M.start h ok
end Ge
namespace Jh
variable {q0 FC FP:Option Addr}{Cm CN E8 EK Dg Dj:Int}{E9:ByteArray}{FD FE FG FQ:Nat}{EU:Bool}
def M:Fw:=⟨prog,100,f100,[],[3],false,[(1,10,false)],[],[]⟩
def ok:M.Ok:=⟨AH.nil,mixed,func100,by kernel_rfl⟩
def start (h:∀b3:Nat,Pq q0 λb6 G=>LS Z22 b6 (G+2) λp8 n8 c8=>Al Z22 λDk=>AI prog (G1 32 p8 n8 c8 Dk) (Hp.set Z22 Dk (.cells #[.I Cm,.I CN,.string E9,.slice FC FD FE,.I E8,.I EK,.I Dg,.slice FP FG FQ,.bool EU,.I Dj] 127 (0,0))) (CS λMu n11 Mv y=>AI prog (Instr.storeAt 32 (.pointer (aD b6 (G+2))) (.slice Mu n11 Mv)) y (λ_ AE=>R (.T #[]) AE))):Spec prog 100 #[.pointer q0,.agg #[.I Cm,.I CN,.string E9,.slice FC FD FE,.I E8,.I EK,.I Dg,.slice FP FG FQ,.bool EU,.I Dj]] Z22 R:=M.start h ok
end Jh
namespace jT
variable {p0:Option Addr}{n0 c0:Nat}
def M:Fw:=⟨prog,107,f107,[126],[],false,[],[],[]⟩
def ok:M.Ok:=⟨.cons call126 (AH.nil),mixed,func107,by kernel_rfl⟩
def start (h:AG 126 #[.slice p0 n0 c0] Z22 R (CS λp4 n4 c4 y=>AI prog (convert 134 9 (.slice p4 n4 c4)) y (CT λs5 G=>R (.returned (.string s5)) G))):Spec prog 107 #[.slice p0 n0 c0] Z22 R:=M.start h ok
end jT
namespace WT
variable {s0:ByteArray}
def M:Fw:=⟨prog,118,f118,[82],[],false,[],[],[]⟩
def ok:M.Ok:=⟨.cons call82 (AH.nil),mixed,func118,by kernel_rfl⟩
def start (h:AG 82 #[.string s0] Z22 R (CB λt4 y=>R (.B t4) y)):Spec prog 118 #[.string s0] Z22 R:=M.start h ok
end WT
namespace GA
variable {p0 p2c p2d:Option Addr}{n0 c0 n2c c2c n2d c2d:Nat}{jU oQ x4:Int}
def M:Fw:=⟨prog,160,f160,[36,205],[2],false,[],[],[(464,[(0,wL),(2,.X 164 [.I .i64,.I .u64,.L,.L]),(4,wI)])]⟩
def ok:M.Ok:=⟨.cons call36 (.cons call205 (AH.nil)),mixed,func160,by kernel_rfl⟩
def CD:=M.pt 0
def start (h:∀b2:Nat,AG 205 #[.slice p0 n0 c0,(.func (.func 206) #[] #[])] Z22 R (λz y=>z=(.tuple #[])/\CD R p0 n0 c0 0 0 none 0 0 none 0 0 1 y)):Spec prog 160 #[.slice p0 n0 c0] Z22 R:=M.start h ok
def A5 (h:Br (x4<(n0:Int)) (AL (x4-1)/\Pq p0 λG eZ=>In (x4-1) (n0:Int)/\LS Z22 G (eZ+Int.toNat (x4-1)*2) λzc n18 xv=>In x4 (n0:Int)/\LS Z22 G (eZ+x4.toNat*2) λmY n23 ec=>AG 36 #[.slice zc n18 xv,.slice mY n23 ec] Z22 R (CI .i64 λP0 y=>Br (P0=0) (R (.T #[.agg #[.I 0,.U 0,.N,.N],.I 223]) y) (AL (x4+1)/\CD R (aD G eZ) n0 c0 jU oQ p2c n2c c2c p2d n2d c2d (x4+1) y))) (R (.T #[.agg #[.I 2,.U 0,.slice p0 n0 c0,.N],.I 0]) Z22)):CD R p0 n0 c0 jU oQ p2c n2c c2c p2d n2d c2d x4 Z22:=M.WQ h ok rfl λ_=>by kernel_rfl
end GA
namespace Qo
variable {p0 p1:Option Addr}{n0 c0 n1 c1:Nat}
def M:Fw:=⟨prog,162,f162,[207],[],false,[],[],[]⟩
def ok:M.Ok:=⟨.cons call207 (AH.nil),mixed,func162,by kernel_rfl⟩
def start (h:Al Z22 λb3=>AG 207 #[.slice p0 n0 c0,(.func (.func 210) #[] #[(.pointer (aD b3 0))])] (Hp.set Z22 b3 (.cells #[.slice p1 n1 c1] 125 (0,0))) R (CS λp7 n7 c7 y=>R (.returned (.slice p7 n7 c7)) y)):Spec prog 162 #[.slice p0 n0 c0,.slice p1 n1 c1] Z22 R:=M.start h ok
end Qo
namespace Ix
variable {p0:Option Addr}{n0 c0:Nat}
def M:Fw:=⟨prog,167,f167,[155],[],false,[],[],[]⟩
def ok:M.Ok:=⟨.cons call155 (AH.nil),mixed,func167,by kernel_rfl⟩
def start (h:AG 155 #[(.I (n0:Int))] Z22 R (CI .u64 λx5 y=>R (.returned (.U x5)) y)):Spec prog 167 #[.slice p0 n0 c0] Z22 R:=M.start h ok
end Ix
namespace Eh
variable {x0:Int}{b1 b2:Nat}
def M:Fw:=⟨prog,170,f170,[168],[],false,[],[],[]⟩
def ok:M.Ok:=⟨.cons call168 (AH.nil),mixed,func170,by kernel_rfl⟩
def start (h:∃IA IB s6c IC ID IE x6e x6f x6g p6h n6h G t6i x6j,A2 Z22 b1 0 [.I IA,.I IB,.string s6c,.slice IC ID IE,.I x6e,.I x6f,.I x6g,.slice p6h n6h G,.bool t6i,.I x6j]/\LI .u64 Z22 b2 1 λx8=>AG 168 #[.agg #[.I IA,.I IB,.string s6c,.slice IC ID IE,.I x6e,.I x6f,.I x6g,.slice p6h n6h G,.bool t6i,.I x6j],.U x8,.U x0] Z22 R (λz y=>∃IF WU,z=(.tuple #[.U IF,.bool WU])/\R (.T #[.U IF,.bool WU]) y)):Spec prog 170 #[.U x0,(.pointer (aD b1 0)),(.pointer (aD b2 0))] Z22 R:=M.start h ok
end Eh
namespace UP
variable {x0:Int}
def M:Fw:=⟨prog,174,f174,[196],[],false,[],[],[]⟩
def ok:M.Ok:=⟨.cons call196 (AH.nil),mixed,func174,by kernel_rfl⟩
def start (h:Df (Go.bits .xor .u64 x0 9223372036854775808) λx4=>AG 196 #[.U x4] Z22 R (CI .u64 λx5 y=>R (.returned (.U x5)) y)):Spec prog 174 #[.U x0] Z22 R:=M.start h ok
end UP
namespace Qp
variable {DR DT x1:Int}
def M:Fw:=⟨prog,185,f185,[],[2],false,[],[],[]⟩
def ok:M.Ok:=⟨AH.nil,mixed,func185,by kernel_rfl⟩
def start (h:∀b2:Nat,Br (DR<=x1) (R (.returned (.I (-1))) Z22) (R (.returned (.I 1)) Z22)):Spec prog 185 #[.agg #[.I DR,.U DT],.I x1] Z22 R:=M.start h ok
end Qp
namespace FR
variable {s0:ByteArray}{p2 p3 p7:Option Addr}{n2 c2 n3 c3 n7 c7:Nat}{x8 x9:Int}
def M:Fw:=⟨prog,188,f188,[229],[2,3],false,[(5,8,false)],[],[(232,[(2,.X 271 [.L]),(3,.X 271 [.L]),(7,wL),(8,wI),(9,wI)])]⟩
def ok:M.Ok:=⟨.cons call229 (AH.nil),mixed,func188,by kernel_rfl⟩
def A4:=M.pt 0
def start (h:∀b2:Nat,∀b3:Nat,AG 229 #[.string s0,(.string (ByteArray.mk #[124]))] Z22 R (CS λp7 n7 c7 y=>A4 R none 0 0 none 0 0 p7 n7 c7 (n7:Int) 0 y)):Spec prog 188 #[.string s0] Z22 R:=M.start h ok
def AX (h:Br (x9<x8) (Pq p7 λE4 ae=>In x9 (n7:Int)/\LT Z22 E4 (ae+x9.toNat*1) λG=>AG 229 #[.string G,(.string (ByteArray.mk #[42]))] Z22 R (CS λRm n16 QJ y=>Al y λcD=>AI prog (G1 269 p3 n3 c3 cD) (Hp.set y cD (.cells #[.slice Rm n16 QJ] 304 (0,0))) (CS λiD n19 cE AE=>AL (x9+1)/\A4 R p2 n2 c2 iD n19 cE (aD E4 ae) n7 c7 x8 (x9+1) AE))) (R (.returned (.agg #[.slice p3 n3 c3])) Z22)):A4 R p2 n2 c2 p3 n3 c3 p7 n7 c7 x8 x9 Z22:=M.oO h ok rfl λ_ _=>by kernel_rfl
end FR
namespace Ei
variable {p0 p1:Option Addr}{n0 c0 n1 c1:Nat}
def M:Fw:=⟨prog,199,f199,[200],[],false,[],[],[]⟩
def ok:M.Ok:=⟨.cons call200 (AH.nil),mixed,func199,by kernel_rfl⟩
def start (h:AL ((n0:Int)-1)/\Pq p0 λb9 G=>In (((n0:Int)-1)) (n0:Int)/\LI .u64 Z22 b9 (G+Int.toNat ((n0:Int)-1)*1) λx10=>In 0 (n0:Int)/\LI .u64 Z22 b9 G λGB=>AG 200 #[.U x10,.U GB] Z22 R (CI .u64 λVd y=>R (.returned (.U Vd)) y)):Spec prog 199 #[.slice p0 n0 c0,.slice p1 n1 c1] Z22 R:=M.start h ok
end Ei
namespace Fj
variable {iE:Option Addr}{R8 cG:Nat}{mZ s1:ByteArray}
def M:Fw:=⟨prog,227,f227,[248],[2],false,[],[],[]⟩
def ok:M.Ok:=⟨.cons call248 (AH.nil),mixed,func227,by kernel_rfl⟩
def start (h:∀b2:Nat,AG 248 #[.agg #[.slice iE R8 cG],.string s1] Z22 R (CB λt8 y=>R (.B t8) y)):Spec prog 227 #[.agg #[.slice iE R8 cG,.string mZ],.string s1] Z22 R:=M.start h ok
end Fj
namespace CL
variable {p0:Option Addr}{n0 c0:Nat}{s1:ByteArray}{x7 x8:Int}
def M:Fw:=⟨prog,237,f237,[],[],false,[],[],[(104,[(0,wL),(1,wT),(7,wI),(8,wI)])]⟩
def ok:M.Ok:=⟨AH.nil,mixed,func237,by kernel_rfl⟩
def Gf:=M.pt 0
def start (h:Gf R p0 n0 c0 s1 (n0:Int) 0 Z22):Spec prog 237 #[.slice p0 n0 c0,.string s1] Z22 R:=M.start h ok
def A0 (h:Br (x8<x7) (Pq p0 λHo Ji=>In x8 (n0:Int)/\LT Z22 Ho (Ji+x8.toNat*1) λG=>Bo (ByteArray.toList s1==ByteArray.toList G) (R (.returned (.I x8)) Z22) (AL (x8+1)/\Gf R (aD Ho Ji) n0 c0 s1 x7 (x8+1) Z22)) (R (.returned (.I (-1))) Z22)):Gf R p0 n0 c0 s1 x7 x8 Z22:=M.of h ok rfl
end CL
namespace B7
variable {q0:Option Addr}{b1:Nat}
def M:Fw:=⟨prog,241,f241,[32,98,219],[],false,[],[],[(7,[(1,wA)])]⟩
def ok:M.Ok:=⟨.cons call32 (.cons call98 (.cons call219 (AH.nil))),mixed,func241,by kernel_rfl⟩
def Gf:=M.pt 0
def start (h:Al Z22 λb1=>LQ (Hp.set Z22 b1 (.cells #[.pointer q0] 76 (0,0))) b1 0 λq2=>AG 98 #[.pointer q2,.I 5,(.string (ByteArray.mk #[40]))] (Hp.set Z22 b1 (.cells #[.pointer q0] 76 (0,0))) R (CB λt3 y=>Bn t3 (LQ y b1 0 λq5=>AG 32 #[.pointer q5] y R (λz G=>z=(.tuple #[])/\Gf R b1 G)) (Gf R b1 y))):Spec prog 241 #[.pointer q0] Z22 R:=M.start h ok
def A0 (h:LQ Z22 b1 0 λG=>AG 219 #[.pointer G,(.func (.func 262) #[] #[(.pointer (aD b1 0))])] Z22 R (λz y=>z=(.tuple #[])/\R (.T #[]) y)):Gf R b1 Z22:=M.of h ok rfl
end B7
namespace BU
variable {b0:Nat}
def M:Fw:=⟨prog,262,f262,[30,137],[],false,[],[],[]⟩
def ok:M.Ok:=⟨.cons call30 (.cons call137 (AH.nil)),mixed,func262,by kernel_rfl⟩
def start (h:LQ Z22 b0 0 λq1=>AG 30 #[.pointer q1] Z22 R (λz y=>z=(.tuple #[])/\LQ y b0 0 λq3=>AG 137 #[.pointer q3,(.string (ByteArray.mk #[41]))] y R (λz G=>z=(.tuple #[])/\R (.T #[]) G))):Spec prog 262 #[(.pointer (aD b0 0))] Z22 R:=M.start h ok
end BU
namespace Cy
variable {q0:Option Addr}
def M:Fw:=⟨prog,266,f266,[31,32,97],[],false,[],[],[(14,[(0,wQ)])]⟩
def ok:M.Ok:=⟨.cons call31 (.cons call32 (.cons call97 (AH.nil))),mixed,func266,by kernel_rfl⟩
def GQ:=M.pt 0
def start (h:AG 31 #[.pointer q0] Z22 R (λz y=>∃GC Hq Jj G,z=(.agg #[.I GC,.I Hq,.string Jj,.I G])/\Br (GC≠2) (AG 32 #[.pointer q0] y R (λz AE=>z=(.tuple #[])/\GQ R q0 AE)) (GQ R q0 y))):Spec prog 266 #[.pointer q0] Z22 R:=M.start h ok
def BI (h:AG 97 #[.pointer q0] Z22 R (λz y=>∃IF u5 AXu G,z=(.agg #[.I IF,.I u5,.string AXu,.I G])/\R (.returned (.I G)) y)):GQ R q0 Z22:=M.of h ok rfl
end Cy
namespace Gg
variable {x0:Int}
def M:Fw:=⟨prog,308,f308,[],[],false,[],[],[]⟩
def ok:M.Ok:=⟨AH.nil,mixed,func308,by kernel_rfl⟩
def start (h:Df (Go.bits .or .u8 x0 32) λx4=>R (.returned (.int .u8 x4)) Z22):Spec prog 308 #[.int .u8 x0] Z22 R:=M.start h ok
end Gg
end TwW
end
end
section
set_option maxRecDepth 100000
noncomputable section
namespace TwW
open Go Tw Go.Proofs.Tryz
variable [GO]{R:Rr}{Z22:Hp}

namespace CP
variable {s0:ByteArray}{x1 x2 x3 GC x5 IF x99 u6:Int}{u7 jV q19 p98:Option Addr}{jW vA WV jX n98 c98:Nat}
def M:Fw:=⟨prog,6,f6,[8,24,25,26],[10,21],false,[(19,6,true)],[],[(4072,[(5,wI),(10,.X 30 [.I .u64,.L]),(19,wQ),(98,wL),(99,wI),(100,wI)])]⟩
def ok:M.Ok:=⟨.cons call8 (.cons call24 (.cons call25 (.cons call26 (AH.nil)))),mixed,func6,by kernel_rfl⟩
def jY:=M.pt 0
def start (h:∀Dk:Nat,AG 8 #[.string s0] Z22 R (λz y=>∃vB vC vD af AJ9,z=(.tuple #[.slice vB vC vD,.I af,.I AJ9])/\Br (AJ9≠0) (R (.T #[.pointer none,.I AJ9]) y) (AG 24 #[.slice vB vC vD] y R (λz AE=>∃WW AEL AKA,z=(.tuple #[.I WW,.I AEL,.I AKA])/\Br (AKA≠0) (R (.T #[.pointer none,.I AKA]) AE) (Br (WW=3) (R (.T #[.pointer none,.I 220]) AE) (AG 25 #[.I x1] AE R (CB λt46 AK=>Bn t46 (R (.T #[.pointer none,.I 221]) AK) (AG 25 #[.I x2] AK R (CB λt50 Ai=>Bn t50 (R (.T #[.pointer none,.I 221]) Ai) (Br (x3<0) (R (.T #[.pointer none,.I 221]) Ai) (Br (0<x3) (Br (x2<x1) (R (.T #[.pointer none,.I 221]) Ai) (Br (0<x3) (AL (x2-x1)/\x3≠(0:Int)/\Df (IntKind.i64.wrap (Int.tdiv (x2-x1) x3)) λx74=>Br (512<=x74) (R (.T #[.pointer none,.I 222]) Ai) (AG 26 #[.agg #[.U GC,.slice u7 jW vA]] Ai R (CI .i64 λx79 G=>Br (x79≠0) (R (.T #[.pointer none,.I 130]) G) (Br (x5<1) (R (.T #[.pointer none,.I 130]) G) (Br (5<x5) (R (.T #[.pointer none,.I 130]) G) (AI prog (Instr.makeMap 69 none) G (λz G2=>∃zd,z=(.map (some zd))/\AI prog (Instr.makeMap 70 none) G2 (λz ET=>∃ze,z=(.map (some ze))/\Al ET λzf=>jY R x5 GC u7 jW vA (aD zf 0) u7 jW vA (jW:Int) 0 (Hp.set ET zf (.cells #[.slice vB vC vD,.I x1,.I x2,.I x3,(.map (some zd)),.I 0,.bool false,.U 0,.I 0,.N,(.map (some ze)),.N,.nilFunc] 72 (0,0))))))))))) (AG 26 #[.agg #[.U GC,.slice u7 jW vA]] Ai R (CI .i64 λx79 G=>Br (x79≠0) (R (.T #[.pointer none,.I 130]) G) (Br (x5<1) (R (.T #[.pointer none,.I 130]) G) (Br (5<x5) (R (.T #[.pointer none,.I 130]) G) (AI prog (Instr.makeMap 69 none) G (λz G2=>∃zd,z=(.map (some zd))/\AI prog (Instr.makeMap 70 none) G2 (λz ET=>∃ze,z=(.map (some ze))/\Al ET λzf=>jY R x5 GC u7 jW vA (aD zf 0) u7 jW vA (jW:Int) 0 (Hp.set ET zf (.cells #[.slice vB vC vD,.I x1,.I x2,.I x3,(.map (some zd)),.I 0,.bool false,.U 0,.I 0,.N,(.map (some ze)),.N,.nilFunc] 72 (0,0)))))))))))) (Br (0<x3) (AL (x2-x1)/\x3≠(0:Int)/\Df (IntKind.i64.wrap (Int.tdiv (x2-x1) x3)) λx74=>Br (512<=x74) (R (.T #[.pointer none,.I 222]) Ai) (AG 26 #[.agg #[.U GC,.slice u7 jW vA]] Ai R (CI .i64 λx79 G=>Br (x79≠0) (R (.T #[.pointer none,.I 130]) G) (Br (x5<1) (R (.T #[.pointer none,.I 130]) G) (Br (5<x5) (R (.T #[.pointer none,.I 130]) G) (AI prog (Instr.makeMap 69 none) G (λz G2=>∃zd,z=(.map (some zd))/\AI prog (Instr.makeMap 70 none) G2 (λz ET=>∃ze,z=(.map (some ze))/\Al ET λzf=>jY R x5 GC u7 jW vA (aD zf 0) u7 jW vA (jW:Int) 0 (Hp.set ET zf (.cells #[.slice vB vC vD,.I x1,.I x2,.I x3,(.map (some zd)),.I 0,.bool false,.U 0,.I 0,.N,(.map (some ze)),.N,.nilFunc] 72 (0,0))))))))))) (AG 26 #[.agg #[.U GC,.slice u7 jW vA]] Ai R (CI .i64 λx79 G=>Br (x79≠0) (R (.T #[.pointer none,.I 130]) G) (Br (x5<1) (R (.T #[.pointer none,.I 130]) G) (Br (5<x5) (R (.T #[.pointer none,.I 130]) G) (AI prog (Instr.makeMap 69 none) G (λz G2=>∃zd,z=(.map (some zd))/\AI prog (Instr.makeMap 70 none) G2 (λz ET=>∃ze,z=(.map (some ze))/\Al ET λzf=>jY R x5 GC u7 jW vA (aD zf 0) u7 jW vA (jW:Int) 0 (Hp.set ET zf (.cells #[.slice vB vC vD,.I x1,.I x2,.I x3,(.map (some zd)),.I 0,.bool false,.U 0,.I 0,.N,(.map (some ze)),.N,.nilFunc] 72 (0,0)))))))))))))))))))))):Spec prog 6 #[.string s0,.I x1,.I x2,.I x3,.agg #[.U GC,.slice u7 jW vA],.I x5] Z22 R:=M.start h ok
def Ve (h:Br (u6<x99) (Pq p98 λAPP APQ=>In u6 (n98:Int)/\∃AHB APR APS APT APU,A2 Z22 APP (APQ+u6.toNat*3) [.I AHB,.I APR,.slice APS APT APU]/\∀rn:Nat,Pq q19 λAPV APW=>LM Z22 APV (APW+4) λAXx=>AI prog (Instr.mapUpdate 69 (.map AXx) (.I AHB) (.I 0)) Z22 (λ_ y=>AL (u6+1)/\jY R x5 IF jV WV jX (aD APV APW) (aD APP APQ) n98 c98 x99 (u6+1) y)) (AL (x5-1)/\2≠(0:Int)/\Df (IntKind.i64.wrap (Int.tdiv (x5-1) 2)) λAKC=>AL ((WV:Int)-AKC)/\Pq q19 λG AEN=>AI prog (Instr.storeAt 3 (.pointer (aD G (AEN+5))) (.I (if(((WV:Int)-AKC):Int)<0 then 0 else((WV:Int)-AKC)))) Z22 (λ_ y=>AI prog (Instr.storeAt 45 (.pointer (aD G (AEN+12))) (.func (.func 27) #[(.pointer (aD G AEN))] #[])) y (λ_ AE=>R (.T #[(.pointer (aD G AEN)),.I 0]) AE)))):jY R x5 IF jV WV jX q19 p98 n98 c98 x99 u6 Z22:=M.WQ h ok rfl λ_=>by kernel_rfl
end CP
namespace Da
noncomputable def K0:=f10.body.getD .skip
def K1:=cl K0
def K2:=cr K0
def K3:=cl K2
def K4:=cl K3
def K5:=cr K3
def K6:=cl K5
def K7:=cl K6
def K8:=cl K7
def K9:=cr K7
def rq:=cl K9
def K11:=cl rq
def K12:=cr rq
def K13:=cr K9
def K14:=cl K13
def K15:=cl K14
def K16:=cl K15
def K17:=cr K15
def K18:=cl K17
def K19:=cr K17
def K20:=cl K19
def K21:=cr K19
def K22:=cl K21
def K23:=cl K22
def K24:=cr K22
def K25:=cr K21
def K26:=cr K13
def K27:=cr K2
def K28:=cl K27
def K29:=cr K27
def K30:=cl K29
def K31:=cl K30
def K32:=cr K30
def K33:=cl K32
def K34:=cl K33
def K35:=cr K33
def K36:=cl K35
def K37:=cl K36
def K38:=cr K36
def K39:=cl K38
def K40:=cr K38
def K41:=cl K40
def K42:=cr K40
def K43:=cr K29
def K44:=cl K43
def K45:=cr K43
abbrev gl (R:Rr):Gl:=Gl.fn prog 10 61 R
def Gf (R:Rr)(p0:Option Addr)(n0 c0:Nat)(Ro:Option Addr)(n10 MK:Nat)(x11 x12:Int)(Z22:Hp):Prop:=∀(J:Env),At (gl R) [.code K8,.code K9,.inLoop K7,.inBlock 0,.code K27] (Mf J [(0,(.slice p0 n0 c0)),(10,(.slice Ro n10 MK)),(11,(.I x11)),(12,(.I x12))]) [] Z22
def AKE (R:Rr)(l:Nat)(r0:Loop)(b7:Nat)(G:Value)(Z22:Hp):Prop:=∀(J:Env),At (Gl.round prog 10 61 l R) [.code K34,.beginRound,.code K35] (Mf J [(7,(.pointer (some ⟨b7,0,none⟩))),(24,G)]) [] Z22
def start {R:Rr}{p0:Option Addr}{n0 c0:Nat}{Z22:Hp}(h:Gf R p0 n0 c0 p0 n0 c0 ((n0:Int)) 0 Z22):Spec prog 10 #[(.slice p0 n0 c0)] Z22 R:=by
 refine Spec.Vx (fn:=f10) (c:=K0) func10 (by kernel_rfl) (Akd (by kernel_rfl)) (λe G=>?_);refine At.ofL (l:=[(0,(.slice p0 n0 c0))]) ⟨G 0,trivial⟩ (λJ=>?_);show At (gl R) _ _ _ _
 refine At.s K1 K2 ?_;refine At.rg 0 [0,1] ?_;refine Seq.us [(2,.N),(3,.I 0)] (Seq.done ?_);refine At.s K3 K27 (At.s K4 K5 ?_);refine At.rg 1 [0,1,2] ?_;refine Seq.u 10 (.slice p0 n0 c0) ?_;refine Seq.z 11 (.call { callee:=.builtin .len,args:=#[(.tmp 10)],argTypes:=#[92] }) 3 (.I (n0:Int)) (Y.AJE underlying92 rfl rfl) ?_;refine Seq.u 12 (.I 0) (Seq.done ?_);refine At.b 0 K6 ?_;refine At.loop (x:=K7) (by kernel_rfl) ?_;refine At.s K8 K9 ?_;exact At.v [(0,(.slice p0 n0 c0)),(10,(.slice p0 n0 c0)),(11,(.I (n0:Int))),(12,(.I 0))] (h _)
def A0 {R:Rr}{p0 Ro:Option Addr}{n0 c0 n10 MK:Nat}{x11 x12:Int}{Z22:Hp}(h:((x12:Int)<x11->∃(Ho Ji:Nat),Ro=some ⟨Ho,Ji,none⟩/\((0:Int)<=x12/\x12<(n10:Int))/\∃Vc:Option Addr,∃n15:Nat,∃Ta:Nat,Hp.ld Z22 ⟨Ho,(Ji+x12.toNat*1),none⟩=some (.slice Vc n15 Ta)/\AG 19 #[(.slice Vc n15 Ta)] Z22 R (λv Z1=>∃x17:Int,v=(.I x17)/\((x17:Int)≠0->R (.T #[(.N),(.I x17)]) Z1)/\(¬((x17:Int)≠0)->AL (x12+1)/\Gf R p0 n0 c0 ((some ⟨Ho,Ji,none⟩)) n10 MK x11 ((x12+1)) Z1)))/\(¬((x12:Int)<x11)->∀b7:Nat,Z22 b7=none->AG 35 #[(.slice p0 n0 c0)] (Hp.set Z22 b7 (.cells #[(.N)] 22 (0,0))) R (λv Z1=>∃f23:Fn,∃a23:Array Value,∃ec:Array Value,(Value.func f23 a23 ec)=v/\∃(gf:Nat) (lb:Array Value),(Value.func f23 a23 ec)=.func (.func gf) #[] lb/\Enters prog gf/\∀(jZ G:Nat) (LR:Loop),jZ≠G->Z1 jZ=none->Z1 G=none->(∀(R2:Rr) (Z2:Hp) (ru:Option Addr) (rv:Nat) (ry:Nat) (rz:Option Addr) (r7:Nat) (r8:Nat),Z2 G=some (.loop (lp LR .ready none))->AKE R2 G LR b7 ((.agg #[(.slice ru rv ry),(.slice rz r7 r8)])) Z2->Jf prog G #[(.agg #[(.slice ru rv ry),(.slice rz r7 r8)])] Z2 R2)->Spec prog gf (#[.func (.yield G) #[] #[]]++lb) (Hp.set (Hp.set Z1 jZ (.deferred (some []))) G (.loop (lp LR .ready none))) (λen Ci=>∃(v:Value) (s:LoopState) (p:Option Code),en=.returned v/\Ci G=some (.loop (lp LR s p))/\s≠.busy/\((p=none/\∃p59:Option Addr,∃n59:Nat,∃c59:Nat,Hp.ld (Hp.set Ci G (.loop (lp LR .exhausted none))) ⟨b7,0,none⟩=some (.slice p59 n59 c59)/\Spec prog 38 #[(.slice p59 n59 c59)] (Hp.set Ci G (.loop (lp LR .exhausted none))) (AY (NP R) (λma EV=>∃p60:Option Addr,∃n60:Nat,∃c60:Nat,ma=(.slice p60 n60 c60)/\EV jZ=some (.deferred (some []))/\R (.T #[(.slice p60 n60 c60),(.I 0)]) (Hp.set EV jZ (.deferred none)))))))))):Gf R p0 n0 c0 Ro n10 MK x11 x12 Z22:=by
 intro J;show At (gl R) _ _ _ _
 refine At.rg 2 [0] ?_;refine Seq.u 13 (.bool (decide ((x12:Int)<x11))) (Seq.done ?_);refine At.s rq K13 ?_;cases hb:(decide ((x12:Int)<x11)) with
 | true=>
  replace h:=h.1 (Ajx hb)
  refine At.cT 13 K11 K12 ?_;refine At.skip ?_;refine At.s K14 K26 ?_;refine At.b 1 K15 ?_;refine At.s K16 K17 ?_;refine At.rg 3 [0,1,2] ?_;obtain⟨Ho,Ji,hq,h⟩:=h;subst hq;obtain⟨hi,h⟩:=h;refine Seq.z 14 (.indexAddr 92 (.tmp 10) (.tmp 12)) 0 (.pointer (some ⟨Ho,(Ji+x12.toNat*1),none⟩)) (Y.idx underlying92 sizeOf22 rfl rfl hi rfl) ?_;obtain⟨Vc,n15,Ta,hl,h⟩:=h;refine Seq.z 15 (.load 22 (.tmp 14)) 22 (.slice Vc n15 Ta) (Y.ld isAgg22 rfl hl) ?_;refine Seq.u 5 (.slice Vc n15 Ta) (Seq.done ?_);refine At.s K18 K19 ?_;refine At.rg 4 [0,1,2] ?_;refine Seq.u 16 (.slice Vc n15 Ta) ?_;refine Seq.o ?_;refine AW.cl (some 17) call19 (h.cont λv Z1 h2=>?_);replace h:=h2;clear h2;obtain⟨x17,rfl,h⟩:=h;refine Seq.u 6 (.I x17) (Seq.done ?_);refine At.s K20 K21 ?_;refine At.rg 5 [0,1] ?_;refine Seq.us [(18,.I x17),(19,.bool (decide ((x17:Int)≠0)))] (Seq.done ?_);cases hb:(decide ((x17:Int)≠0)) with
  | true=>
   replace h:=h.1 (Ajx hb)
   refine At.cT 19 K22 K25 ?_;refine At.s K23 K24 ?_;refine At.rg 6 [0,1,2] ?_;refine Seq.us [(20,.I x17),(2,.N),(3,.I x17)] (Seq.done ?_);exact At.rt [.tmp 2,.tmp 3] [(.N),(.I x17)] func10 ⟨_,rfl,⟨_,rfl,rfl⟩⟩ h
  | false=>
   replace h:=h.2 (AkM hb)
   refine At.cF 19 K22 K25 ?_;refine At.skip ?_;refine At.inBlock ?_;refine At.rg 7 [0,1] ?_;obtain⟨hi,h⟩:=h;refine Seq.z 21 (.binOp .add 3 (.tmp 12) (.const (.I 1)) 3) 3 (.I (x12+1)) (Y.AXE hi rfl rfl) ?_;refine Seq.u 12 (.I (x12+1)) (Seq.done ?_);refine At.inLoop ?_;refine At.s K8 K9 ?_;exact At.v [(0,(.slice p0 n0 c0)),(10,(.slice (some ⟨Ho,Ji,none⟩) n10 MK)),(11,(.I x11)),(12,(.I (x12+1)))] (h _)
 | false=>
  replace h:=h.2 (AkM hb)
  refine At.cF 13 K11 K12 ?_;refine At.x 0 [.code K27] ?_;refine At.s K28 K29 ?_;refine At.rg 8 [0] ?_;refine Seq.o ?_;refine AW.dz (T:=22) (d:=(some 7)) (ty:=0)  (gd:=none) (cs:=#[(.N)]) (by kernel_rfl) rfl rfl zeroValue22 rfl (λb7 hn=>?_)
  replace h:=h b7 hn
  refine Seq.done ?_;refine At.s K30 K43 (At.s K31 K32 ?_);refine At.rg 9 [0,1] ?_;refine Seq.u 22 (.slice p0 n0 c0) ?_;refine Seq.o ?_;refine AW.cl (some 23) call35 (h.cont λv Z1 h2=>?_);replace h:=h2;clear h2;obtain⟨f23,a23,ec,rfl,h⟩:=h;refine Seq.done ?_;refine At.b 2 K33 ?_;obtain⟨gf,lb,hgv,KQ,h⟩:=h;refine At.range (gop:=(.tmp 23)) (ps:=#[24]) (assign:=K34) (body:=K35) (gf:=gf) (lb:=lb) (by kernel_rfl) rfl rfl hgv KQ (λjZ G LR hDl hD hl vE cH hra hrb hrs hre=>?_);refine(h jZ G LR hDl hD hl (λR2 Z2 ru rv ry rz r7 r8 AKF hp=>Jf.Vx (n:=61) AKF cH hrs (by decide) hre (fn:=f10) (by rw[vE];exact func10) ?_)).mono (λen Ci h=>?_)
  .rw[vE,hra,hrb];exact At.v [(7,(.pointer (some ⟨b7,0,none⟩))),(24,(.agg #[(.slice ru rv ry),(.slice rz r7 r8)]))] (hp _)
  obtain⟨v,s,p,he,yn,hs,h⟩:=h;refine⟨v,s,p,he,yn,hs,?_⟩;obtain⟨rfl,h⟩:=h;show At (Gl.behind prog 10 61 jZ R) [.inBlock 2,.code K43] _ _ _
  refine At.inBlock ?_;refine At.s K44 K45 ?_;refine At.rg 15 [0,1,2,3] ?_;obtain⟨p59,n59,c59,hl,h⟩:=h;refine Seq.z 59 (.load 22 (.tmp 7)) 22 (.slice p59 n59 c59) (Y.ld isAgg22 rfl hl) ?_;refine Seq.o ?_;refine AW.cl (some 60) call38 (h.cont λma EV h2=>?_);replace h:=h2;clear h2;obtain⟨p60,n60,c60,rfl,h⟩:=h;refine Seq.us [(2,.slice p60 n60 c60),(3,.I 0)] (Seq.done ?_);obtain⟨hmk,h⟩:=h;exact At.eB (rs:=[.tmp 2,.tmp 3]) (vs:=[(.slice p60 n60 c60),(.I 0)]) (by kernel_rfl) func10 (by kernel_rfl) ⟨_,rfl,⟨_,rfl,rfl⟩⟩ h rfl (yj hmk)
def AEQ {R:Rr}{l b7:Nat}{r0:Loop}{v24:Value}{Z22:Hp}(h:∀b8:Nat,Z22 b8=none->AI prog (Instr.storeAt 98 (.pointer (some ⟨b8,0,none⟩)) v24) (Hp.set Z22 b8 (.cells #[(.N),(.N)] 98 (0,0))) (λ_ Z1=>Z1 l=some (.loop (lp r0 .ready none))/\∃ja:Option Addr,∃n25:Nat,∃jb:Nat,Hp.ld (Hp.set Z1 l (.loop (lp r0 .busy none))) ⟨b7,0,none⟩=some (.slice ja n25 jb)/\((0:Int)<(n25:Int)->∃p30:Option Addr,∃n30:Nat,∃c30:Nat,Hp.ld (Hp.set Z1 l (.loop (lp r0 .busy none))) ⟨b7,0,none⟩=some (.slice p30 n30 c30)/\AL ((n25:Int)-1)/\∃(U5 o33:Nat),p30=some ⟨U5,o33,none⟩/\((0:Int)<=((n25:Int)-1)/\((n25:Int)-1)<(n30:Int))/\∃zh:Option Addr,∃n35:Nat,∃oR:Nat,Hp.ld (Hp.set Z1 l (.loop (lp r0 .busy none))) ⟨U5,(o33+Int.toNat ((n25:Int)-1)*2),none⟩=some (.slice zh n35 oR)/\∃U6:Option Addr,∃n37:Nat,∃U7:Nat,Hp.ld (Hp.set Z1 l (.loop (lp r0 .busy none))) ⟨b8,0,none⟩=some (.slice U6 n37 U7)/\Spec prog 36 #[(.slice zh n35 oR),(.slice U6 n37 U7)] (Hp.set Z1 l (.loop (lp r0 .busy none))) (AY (NP R) (λv Ci=>∃aY:Int,v=(.I aY)/\((aY:Int)=0->∃vF:Option Addr,∃n41:Nat,∃mc:Nat,Hp.ld Ci ⟨b7,0,none⟩=some (.slice vF n41 mc)/\AL ((n25:Int)-1)/\∃oS:Option Addr,∃n44:Nat,∃zi:Nat,Hp.ld Ci ⟨b7,0,none⟩=some (.slice oS n44 zi)/\AL ((n25:Int)-1)/\∃(b47 o47:Nat),oS=some ⟨b47,o47,none⟩/\((0:Int)<=((n25:Int)-1)/\((n25:Int)-1)<(n44:Int))/\∃p49:Option Addr,∃n49:Nat,∃c49:Nat,Hp.ld Ci ⟨b47,((o47+Int.toNat ((n25:Int)-1)*2)+1),none⟩=some (.slice p49 n49 c49)/\∃p51:Option Addr,∃n51:Nat,∃c51:Nat,Hp.ld Ci ⟨b8,1,none⟩=some (.slice p51 n51 c51)/\Spec prog 37 #[(.slice p49 n49 c49),(.slice p51 n51 c51)] Ci (AY (NP R) (λma EV=>∃p52:Option Addr,∃n52:Nat,∃c52:Nat,ma=(.slice p52 n52 c52)/\Kp [b7] Ci EV/\∃(P1 o53:Nat),vF=some ⟨P1,o53,none⟩/\((0:Int)<=((n25:Int)-1)/\((n25:Int)-1)<(n41:Int))/\AI prog (Instr.storeAt 96 (.pointer (some ⟨P1,((o53+Int.toNat ((n25:Int)-1)*2)+1),none⟩)) (.slice p52 n52 c52)) EV (λ_ Qq=>Qq l=some (.loop (lp r0 .busy none))/\R (.B true) (Hp.set Qq l (.loop (lp r0 .ready none)))))))/\(¬((aY:Int)=0)->∃r9:Option Addr,∃sC:Nat,∃sD:Nat,Hp.ld Ci ⟨b7,0,none⟩=some (.slice r9 sC sD)/\∃QK:Option Addr,∃QL:Nat,∃QM:Nat,∃QN:Option Addr,∃QO:Nat,∃QP:Nat,A2 Ci b8 0 [(.slice QK QL QM),(.slice QN QO QP)]/\∀QR:Nat,Ci QR=none->AI prog (Builtin.append_ #[22,22] 22 #[(.slice r9 sC sD),(.slice (some ⟨QR,0,none⟩) 1 1)]) (Hp.set Ci QR (.cells #[(.slice QK QL QM),(.slice QN QO QP)] 98 (0,0))) (λma EV=>∃aM:Option Addr,∃UQ:Nat,∃cK:Nat,ma=(.slice aM UQ cK)/\AI prog (Instr.storeAt 22 (.pointer (some ⟨b7,0,none⟩)) (.slice aM UQ cK)) EV (λ_ Qq=>Qq l=some (.loop (lp r0 .busy none))/\R (.B true) (Hp.set Qq l (.loop (lp r0 .ready none)))))))))/\(¬((0:Int)<(n25:Int))->∃r9:Option Addr,∃sC:Nat,∃sD:Nat,Hp.ld (Hp.set Z1 l (.loop (lp r0 .busy none))) ⟨b7,0,none⟩=some (.slice r9 sC sD)/\∃QK:Option Addr,∃QL:Nat,∃QM:Nat,∃QN:Option Addr,∃QO:Nat,∃QP:Nat,A2 (Hp.set Z1 l (.loop (lp r0 .busy none))) b8 0 [(.slice QK QL QM),(.slice QN QO QP)]/\∀QR:Nat,(Hp.set Z1 l (.loop (lp r0 .busy none))) QR=none->AI prog (Builtin.append_ #[22,22] 22 #[(.slice r9 sC sD),(.slice (some ⟨QR,0,none⟩) 1 1)]) (Hp.set (Hp.set Z1 l (.loop (lp r0 .busy none))) QR (.cells #[(.slice QK QL QM),(.slice QN QO QP)] 98 (0,0))) (λv Ci=>∃aM:Option Addr,∃UQ:Nat,∃cK:Nat,v=(.slice aM UQ cK)/\AI prog (Instr.storeAt 22 (.pointer (some ⟨b7,0,none⟩)) (.slice aM UQ cK)) Ci (λ_ EV=>EV l=some (.loop (lp r0 .busy none))/\R (.B true) (Hp.set EV l (.loop (lp r0 .ready none)))))))):AKE R l r0 b7 v24 Z22:=by
 intro J;show At (Gl.round prog 10 61 l R) _ _ _ _
 refine At.rg 10 [0,1] ?_;refine Seq.o ?_;refine AW.dz (T:=98) (d:=(some 8)) (ty:=0)  (gd:=none) (cs:=#[(.N),(.N)]) (by kernel_rfl) rfl rfl zeroValue98 rfl (λb8 hn=>?_)
 replace h:=h b8 hn
 refine Seq.o ?_;refine AW.store (T:=98) (ty:=0) (x:=(.tmp 8)) (y:=(.tmp 24)) (p:=(.pointer (some ⟨b8,0,none⟩))) (v:=v24) (gd:=none) (by kernel_rfl) rfl rfl rfl (h.mono (λ_ Z1 G=>?_));replace h:=G;clear G;refine Seq.done ?_;obtain⟨rJ,h⟩:=h;refine At.beginRound rfl rJ ?_;refine At.b 3 K36 ?_;refine At.s K37 K38 ?_;refine At.rg 11 [0,1,2] ?_;obtain⟨ja,n25,jb,hl,h⟩:=h;refine Seq.z 25 (.load 22 (.tmp 7)) 22 (.slice ja n25 jb) (Y.ld isAgg22 rfl hl) ?_;refine Seq.z 26 (.call { callee:=.builtin .len,args:=#[(.tmp 25)],argTypes:=#[22] }) 3 (.I (n25:Int)) (Y.AJE underlying22 rfl rfl) ?_;refine Seq.u 9 (.I (n25:Int)) (Seq.done ?_);refine At.s K39 K40 ?_;refine At.draw (id:=12) (ops:=cO K39) (n:=14) (q:=(some [])) (plan:=[(0,true),(1,true),(2,true),(3,true),(4,true),(5,true),(6,true),(7,true),(8,true),(9,true),(10,true),(11,false),(12,true),(13,true)]) (tl:=[]) mixed (by kernel_rfl) (by kernel_rfl) ?_;refine Head.u 27 (.I (n25:Int)) ?_;refine Head.u 28 (.bool (decide ((0:Int)<(n25:Int)))) ?_;refine Head.u 29 (.bool (decide ((0:Int)<(n25:Int)))) ?_;cases hb:(decide ((0:Int)<(n25:Int))) with
 | true=>
  replace h:=h.1 (Ajx hb)
  obtain⟨p30,n30,c30,hl,h⟩:=h;refine Head.ygl b7 [[11,8,7,6]] rfl (by kernel_rfl) (d:=(some 30)) (op:=(.load 22 (.tmp 7))) (ty:=22) (gd:=(some (2,true))) (v:=(.slice p30 n30 c30)) (by kernel_rfl) rfl rfl (Y.ld isAgg22 rfl (RC hl)) ?_;refine Head.u 31 (.I (n25:Int)) ?_;obtain⟨hi,h⟩:=h;refine Head.zg 32 (.binOp .sub 3 (.tmp 31) (.const (.I 1)) 3) 3 (2,true) (.I ((n25:Int)-1)) (Y.uV hi rfl rfl) ?_;obtain⟨U5,o33,hq,h⟩:=h;subst hq;obtain⟨hi,h⟩:=h;refine Head.zg 33 (.indexAddr 22 (.tmp 30) (.tmp 32)) 0 (2,true) (.pointer (some ⟨U5,(o33+Int.toNat ((n25:Int)-1)*2),none⟩)) (Y.idx underlying22 sizeOf98 rfl rfl hi rfl) ?_;refine Head.zg 34 (.fieldAddr 98 (.tmp 33) 0) 0 (2,true) (.pointer (some ⟨U5,(o33+Int.toNat ((n25:Int)-1)*2),none⟩)) (Y.fieldAddr (fd:=(Jc prog 98 0)) underlying98 (by kernel_rfl) sizeOf95 rfl rfl) ?_;obtain⟨zh,n35,oR,hl,h⟩:=h;refine Head.ygl U5 [[11]] rfl (by kernel_rfl) (d:=(some 35)) (op:=(.load 95 (.tmp 34))) (ty:=95) (gd:=(some (2,true))) (v:=(.slice zh n35 oR)) (by kernel_rfl) rfl rfl (Y.ld isAgg95 rfl (RC hl)) ?_;refine Head.zg 36 (.fieldAddr 98 (.tmp 8) 0) 0 (2,true) (.pointer (some ⟨b8,0,none⟩)) (Y.fieldAddr (fd:=(Jc prog 98 0)) underlying98 (by kernel_rfl) sizeOf95 rfl rfl) ?_;obtain⟨U6,n37,U7,hl,h⟩:=h;refine Head.ygl b8 [[11]] rfl (by kernel_rfl) (d:=(some 37)) (op:=(.load 95 (.tmp 36))) (ty:=95) (gd:=(some (2,true))) (v:=(.slice U6 n37 U7)) (by kernel_rfl) rfl rfl (Y.ld isAgg95 rfl (RC hl)) ?_;refine Head.o (q':=(some [])) rfl ?_;refine AW.cl (some 38) call36 (h.cont λv Ci G=>?_);replace h:=G;clear G;obtain⟨aY,rfl,h⟩:=h;refine⟨⟨λ_ h=>h,AOT (L:=[]) Kp.nil⟩,?_⟩;refine Head.u 39 (.bool (decide ((aY:Int)=0))) ?_;refine Head.u 40 (.bool (decide ((aY:Int)=0))) ?_;refine Head.done ?_;refine Seq.done ?_;cases hb:(decide ((aY:Int)=0)) with
  | true=>
   replace h:=h.1 (Ajx hb)
   refine At.cT 40 K41 K42 ?_;refine At.draw (id:=13) (ops:=cO K41) (n:=14) (q:=(some [])) (plan:=[(0,true),(1,true),(2,true),(3,true),(4,true),(5,true),(6,true),(7,true),(8,true),(9,true),(10,true),(11,false),(12,true),(13,true)]) (tl:=[14]) mixed (by kernel_rfl) (by kernel_rfl) ?_;obtain⟨vF,n41,mc,hl,h⟩:=h;refine Head.yl b7 [] rfl (by kernel_rfl) (d:=(some 41)) (op:=(.load 22 (.tmp 7))) (ty:=22) (v:=(.slice vF n41 mc)) (by kernel_rfl) rfl (Y.ld isAgg22 rfl (RC hl)) ?_;refine Head.u 42 (.I (n25:Int)) ?_;obtain⟨hi,h⟩:=h;refine Head.z 43 (.binOp .sub 3 (.tmp 42) (.const (.I 1)) 3) 3 (.I ((n25:Int)-1)) (Y.uV hi rfl rfl) ?_;obtain⟨oS,n44,zi,hl,h⟩:=h;refine Head.yl b7 [[11,8,7,6]] rfl (by kernel_rfl) (d:=(some 44)) (op:=(.load 22 (.tmp 7))) (ty:=22) (v:=(.slice oS n44 zi)) (by kernel_rfl) rfl (Y.ld isAgg22 rfl (RC hl)) ?_;refine Head.u 45 (.I (n25:Int)) ?_;obtain⟨hi,h⟩:=h;refine Head.z 46 (.binOp .sub 3 (.tmp 45) (.const (.I 1)) 3) 3 (.I ((n25:Int)-1)) (Y.uV hi rfl rfl) ?_;obtain⟨b47,o47,hq,h⟩:=h;subst hq;obtain⟨hi,h⟩:=h;refine Head.z 47 (.indexAddr 22 (.tmp 44) (.tmp 46)) 0 (.pointer (some ⟨b47,(o47+Int.toNat ((n25:Int)-1)*2),none⟩)) (Y.idx underlying22 sizeOf98 rfl rfl hi rfl) ?_;refine Head.z 48 (.fieldAddr 98 (.tmp 47) 1) 0 (.pointer (some ⟨b47,((o47+Int.toNat ((n25:Int)-1)*2)+1),none⟩)) (Y.fieldAddr (fd:=(Jc prog 98 1)) underlying98 (by kernel_rfl) sizeOf96 rfl rfl) ?_;obtain⟨p49,n49,c49,hl,h⟩:=h;refine Head.yl b47 [[11]] rfl (by kernel_rfl) (d:=(some 49)) (op:=(.load 96 (.tmp 48))) (ty:=96) (v:=(.slice p49 n49 c49)) (by kernel_rfl) rfl (Y.ld isAgg96 rfl (RC hl)) ?_;refine Head.z 50 (.fieldAddr 98 (.tmp 8) 1) 0 (.pointer (some ⟨b8,1,none⟩)) (Y.fieldAddr (fd:=(Jc prog 98 1)) underlying98 (by kernel_rfl) sizeOf96 rfl rfl) ?_;obtain⟨p51,n51,c51,hl,h⟩:=h;refine Head.yl b8 [[11]] rfl (by kernel_rfl) (d:=(some 51)) (op:=(.load 96 (.tmp 50))) (ty:=96) (v:=(.slice p51 n51 c51)) (by kernel_rfl) rfl (Y.ld isAgg96 rfl (RC hl)) ?_;refine Head.o (q':=(some [(b7,[])])) rfl ?_;refine AW.cl (some 52) call37 (h.cont λma EV G=>?_);replace h:=G;clear G;obtain⟨p52,n52,c52,rfl,hk,h⟩:=h;refine⟨⟨λ_ h=>h,AOT (L:=[(b7,[])]) hk⟩,?_⟩;obtain⟨P1,o53,hq,h⟩:=h;subst hq;obtain⟨hi,h⟩:=h;refine Head.z 53 (.indexAddr 22 (.tmp 41) (.tmp 43)) 0 (.pointer (some ⟨P1,(o53+Int.toNat ((n25:Int)-1)*2),none⟩)) (Y.idx underlying22 sizeOf98 rfl rfl hi rfl) ?_;refine Head.z 54 (.fieldAddr 98 (.tmp 53) 1) 0 (.pointer (some ⟨P1,((o53+Int.toNat ((n25:Int)-1)*2)+1),none⟩)) (Y.fieldAddr (fd:=(Jc prog 98 1)) underlying98 (by kernel_rfl) sizeOf96 rfl rfl) ?_;refine Head.done ?_;refine Seq.o ?_;refine AW.store (T:=96) (ty:=0) (x:=(.tmp 54)) (y:=(.tmp 52)) (p:=(.pointer (some ⟨P1,((o53+Int.toNat ((n25:Int)-1)*2)+1),none⟩))) (v:=(.slice p52 n52 c52)) (gd:=none) (by kernel_rfl) rfl rfl rfl (h.mono (λ_ Qq G=>?_));replace h:=G;clear G;refine Seq.done ?_;refine At.inBlock ?_;exact At.Ru rfl h.1 h.2
  | false=>
   replace h:=h.2 (AkM hb)
   refine At.cF 40 K41 K42 ?_;refine At.rg 14 [0,1,2,3,4] ?_;obtain⟨r9,sC,sD,hl,h⟩:=h;refine Seq.z 55 (.load 22 (.tmp 7)) 22 (.slice r9 sC sD) (Y.ld isAgg22 rfl hl) ?_;obtain⟨QK,QL,QM,QN,QO,QP,hl,h⟩:=h;refine Seq.z 56 (.load 98 (.tmp 8)) 98 (.agg #[(.slice QK QL QM),(.slice QN QO QP)]) (Y.lda isAgg98 sizeOf98 rfl rfl hl) ?_;refine Seq.o ?_;refine AW.M8 (T:=22) (E:=98) (m:=1) (ps:=#[(0,(.tmp 56))]) (d:=(some 57)) (ty:=22) (gd:=none) (vs:=[(0,(.agg #[(.slice QK QL QM),(.slice QN QO QP)]))]) (cs:=#[(.slice QK QL QM),(.slice QN QO QP)]) underlying22 (by kernel_rfl) rfl rfl rfl (by kernel_rfl) (λQR hn=>?_)
   replace h:=h QR hn
   refine Seq.o ?_;refine AW.aR (d:=(some 58)) (op:=(.call { callee:=.builtin .append,args:=#[(.tmp 55),(.tmp 57)],argTypes:=#[22,22] })) (ty:=22) (gd:=none) (by kernel_rfl) rfl rfl (Builtin.append_ #[22,22] 22 #[(.slice r9 sC sD),(.slice (some ⟨QR,0,none⟩) 1 1)]) (λo ho ht=>J1 rfl rfl o ho ht) (h.mono (λma EV G=>?_));replace h:=G;clear G;obtain⟨aM,UQ,cK,rfl,h⟩:=h;refine Seq.o ?_;refine AW.store (T:=22) (ty:=0) (x:=(.tmp 7)) (y:=(.tmp 58)) (p:=(.pointer (some ⟨b7,0,none⟩))) (v:=(.slice aM UQ cK)) (gd:=none) (by kernel_rfl) rfl rfl rfl (h.mono (λ_ Qq G=>?_));replace h:=G;clear G;refine Seq.done ?_;refine At.L [] λJ=>?_;refine At.inBlock ?_;exact At.Ru rfl h.1 h.2
 | false=>
  replace h:=h.2 (AkM hb)
  refine Head.n 30 ?_;refine Head.n 31 ?_;refine Head.n 32 ?_;refine Head.n 33 ?_;refine Head.n 34 ?_;refine Head.n 35 ?_;refine Head.n 36 ?_;refine Head.n 37 ?_;refine Head.o (q':=(some [])) rfl ?_;refine AW.no (d:=(some 38)) (op:=(.call { callee:=.value (.func 36),args:=#[(.tmp 35),(.tmp 37)],argTypes:=#[95,95] })) (ty:=3) (gd:=some (2,true)) (by kernel_rfl) rfl rfl ?_;refine⟨Iq.refl _ _ _,?_⟩;refine Head.n 39 ?_;refine Head.u 40 (.bool false) ?_;refine Head.done ?_;refine Seq.done ?_;refine At.cF 40 K41 K42 ?_;refine At.rg 14 [0,1,2,3,4] ?_;obtain⟨r9,sC,sD,hl,h⟩:=h;refine Seq.z 55 (.load 22 (.tmp 7)) 22 (.slice r9 sC sD) (Y.ld isAgg22 rfl hl) ?_;obtain⟨QK,QL,QM,QN,QO,QP,hl,h⟩:=h;refine Seq.z 56 (.load 98 (.tmp 8)) 98 (.agg #[(.slice QK QL QM),(.slice QN QO QP)]) (Y.lda isAgg98 sizeOf98 rfl rfl hl) ?_;refine Seq.o ?_;refine AW.M8 (T:=22) (E:=98) (m:=1) (ps:=#[(0,(.tmp 56))]) (d:=(some 57)) (ty:=22) (gd:=none) (vs:=[(0,(.agg #[(.slice QK QL QM),(.slice QN QO QP)]))]) (cs:=#[(.slice QK QL QM),(.slice QN QO QP)]) underlying22 (by kernel_rfl) rfl rfl rfl (by kernel_rfl) (λQR hn=>?_)
  replace h:=h QR hn
  refine Seq.o ?_;refine AW.aR (d:=(some 58)) (op:=(.call { callee:=.builtin .append,args:=#[(.tmp 55),(.tmp 57)],argTypes:=#[22,22] })) (ty:=22) (gd:=none) (by kernel_rfl) rfl rfl (Builtin.append_ #[22,22] 22 #[(.slice r9 sC sD),(.slice (some ⟨QR,0,none⟩) 1 1)]) (λo ho ht=>J1 rfl rfl o ho ht) (h.mono (λv Ci G=>?_));replace h:=G;clear G;obtain⟨aM,UQ,cK,rfl,h⟩:=h;refine Seq.o ?_;refine AW.store (T:=22) (ty:=0) (x:=(.tmp 7)) (y:=(.tmp 58)) (p:=(.pointer (some ⟨b7,0,none⟩))) (v:=(.slice aM UQ cK)) (gd:=none) (by kernel_rfl) rfl rfl rfl (h.mono (λ_ EV G=>?_));replace h:=G;clear G;refine Seq.done ?_;refine At.inBlock ?_;exact At.Ru rfl h.1 h.2
end Da
namespace BB
variable {q0 zj oT:Option Addr}{Cm CN Vf WX x6:Int}{oU xw me oV:Nat}{v18:Value}
def M:Fw:=⟨prog,13,f13,[41,42],[3],false,[],[(18,69)],[(488,[(0,wQ),(3,.X 43 [.I .u64,.I .i64,.L]),(6,wI),(18,wV)])]⟩
def ok:M.Ok:=⟨.cons call41 (.cons call42 (AH.nil)),mixed,func13,by kernel_rfl⟩
def HR:=M.pt 0
def start (h:∀b3:Nat,AG 41 #[.agg #[.U Cm,.I CN,.slice zj oU xw]] Z22 R (CI .i64 λx10 y=>Br (x10≠0) (R (.returned (.I x10)) y) (Pq q0 λU8 jc=>LM y U8 (jc+4) λG=>AI prog (Instr.range 69 (.map G)) y (λz AE=>∃v18,v18=z/\HR R (aD U8 jc) Cm CN zj oU xw 0 v18 AE)))):Spec prog 13 #[.pointer q0,.agg #[.U Cm,.I CN,.slice zj oU xw]] Z22 R:=M.start h ok
def CF (h:AI prog (Instr.next v18 false 0) Z22 (λv y=>(v=(.tuple #[.bool false])/\Pq q0 λG cL=>LI .i64 y G (cL+5) λvG=>Br (x6<vG) (R (.returned (.I 271)) y) (AG 42 #[.agg #[.U Vf,.I WX,.slice oT me oV]] y R (λz AE=>∃jd je jf jg jh,z=(.agg #[.U jd,.I je,.slice jf jg jh])/\AI prog (Instr.storeAt 43 (.pointer (aD G (cL+7))) (.agg #[.U jd,.I je,.slice jf jg jh])) AE (λ_ AK=>AI prog (Instr.storeAt 4 (.pointer (aD G (cL+6))) (.bool true)) AK (λ_ Ai=>AI prog (Instr.storeAt 45 (.pointer (aD G (cL+12))) (.func (.func 43) #[(.pointer (aD G cL))] #[])) Ai (λ_ CC=>R (.returned (.I 0)) CC))))))\/(∃J8 KZ,v=(.tuple #[.bool true,.I J8,.I KZ])/\AI prog (Instr.entry v18) y (λz AE=>∃WY U9,z=(.tuple #[.I WY,.I U9])/\Br (0<U9) (AL (x6+1)/\HR R q0 Vf WX oT me oV (x6+1) v18 AE) (HR R q0 Vf WX oT me oV x6 v18 AE))))):HR R q0 Vf WX oT me oV x6 v18 Z22:=M.WQ h ok rfl λ_=>by kernel_rfl
end BB
namespace EW
variable {DR DT Cm CN jU oQ Vf WX x4:Int}{ji zj p2c oT:Option Addr}{ah jj oU xw n2c c2c me oV:Nat}
def M:Fw:=⟨prog,20,f20,[52],[1,2,3,5],false,[],[],[(464,[(1,.X 43 [.I .u64,.I .i64,.L]),(2,.X 43 [.I .u64,.I .i64,.L]),(3,.X 43 [.I .u64,.I .i64,.L]),(4,wI)])]⟩
def ok:M.Ok:=⟨.cons call52 (AH.nil),mixed,func20,by kernel_rfl⟩
def CD:=M.pt 0
def start (h:∀b1:Nat,∀b2:Nat,∀b3:Nat,CD R DR DT ji ah jj 0 0 none 0 0 DR DT none 0 0 0 Z22):Spec prog 20 #[.agg #[.U DR,.I DT,.slice ji ah jj]] Z22 R:=M.start h ok
def A5 (h:Br (x4<(oU:Int)) (Pq zj λrn xy=>In x4 (oU:Int)/\∃vH zk vI G AES AET AEU AEV AEW APf APg,A2 Z22 rn (xy+x4.toNat*9) [.U vH,.I zk,.I vI,.I G,.slice AES AET AEU,.I AEV,.I AEW,.bool APf,.I APg]/\∀b5:Nat,AG 52 #[.slice AES AET AEU] Z22 R (CS λai n26 aj y=>Al y λzl=>AI prog (G1 41 oT me oV zl) (Hp.set y zl (.cells #[.U vH,.I zk,.I vI,.I G,.slice ai n26 aj,.I AEV,.I AEW,.bool APf,.I APg] 91 (0,0))) (CS λzY n33 xr AE=>AL (x4+1)/\CD R Cm CN (aD rn xy) oU xw jU oQ p2c n2c c2c Vf WX zY n33 xr (x4+1) AE))) (R (.returned (.agg #[.U Vf,.I WX,.slice oT me oV])) Z22)):CD R Cm CN zj oU xw jU oQ p2c n2c c2c Vf WX oT me oV x4 Z22:=M.of3 h ok rfl λ_ _ _=>by kernel_rfl
end EW
namespace GD
variable {p0 p3 p6:Option Addr}{n0 c0 n3 c3 n6 c6:Nat}{x7 x8:Int}
def M:Fw:=⟨prog,38,f38,[],[5],false,[],[],[(232,[(3,wL),(6,wL),(7,wI),(8,wI)])]⟩
def ok:M.Ok:=⟨AH.nil,mixed,func38,by kernel_rfl⟩
def A4:=M.pt 0
def start (h:A4 R none 0 0 p0 n0 c0 (n0:Int) 0 Z22):Spec prog 38 #[.slice p0 n0 c0] Z22 R:=M.start h ok
def AX (h:Br (x8<x7) (Pq p6 λDk Mw=>In x8 (n6:Int)/\∃Td Te Tf oW oX oY,A2 Z22 Dk (Mw+x8.toNat*2) [.slice Td Te Tf,.slice oW oX oY]/\∀b5:Nat,(Al Z22 λH8=>(AI prog (Builtin.append_ #[95,95] 95 #[(.slice (aD H8 0) 0 0),.slice Td Te Tf]) (Hp.set Z22 H8 (.cells #[] 144 (0,0))) (CS λRm n16 QJ y=>Al y λH9=>AI prog (Builtin.append_ #[96,96] 96 #[(.slice (aD H9 0) 0 0),.slice oW oX oY]) (Hp.set y H9 (.cells #[] 111 (0,0))) (CS λUR n20 R9 AE=>Al AE λed=>AI prog (G1 22 p3 n3 c3 ed) (Hp.set AE ed (.cells #[.slice Rm n16 QJ,.slice UR n20 R9] 98 (0,0))) (CS λmY G ec AK=>AL (x8+1)/\A4 R mY G ec (aD Dk Mw) n6 c6 x7 (x8+1) AK))))/\(Al (Hp.set Z22 H8 (.cells #[] 144 (0,0))) λH9=>AI prog (Builtin.append_ #[95,95] 95 #[(.slice (aD H8 0) 0 0),.slice Td Te Tf]) (Hp.set (Hp.set Z22 H8 (.cells #[] 144 (0,0))) H9 (.cells #[] 111 (0,0))) (CS λRm n16 QJ y=>AI prog (Builtin.append_ #[96,96] 96 #[(.slice (aD H9 0) 0 0),.slice oW oX oY]) y (CS λUR n20 R9 AE=>Al AE λed=>AI prog (G1 22 p3 n3 c3 ed) (Hp.set AE ed (.cells #[.slice Rm n16 QJ,.slice UR n20 R9] 98 (0,0))) (CS λmY G ec AK=>AL (x8+1)/\A4 R mY G ec (aD Dk Mw) n6 c6 x7 (x8+1) AK)))))/\(Al Z22 λH9=>Al (Hp.set Z22 H9 (.cells #[] 111 (0,0))) λH8=>AI prog (Builtin.append_ #[95,95] 95 #[(.slice (aD H8 0) 0 0),.slice Td Te Tf]) (Hp.set (Hp.set Z22 H9 (.cells #[] 111 (0,0))) H8 (.cells #[] 144 (0,0))) (CS λRm n16 QJ y=>AI prog (Builtin.append_ #[96,96] 96 #[(.slice (aD H9 0) 0 0),.slice oW oX oY]) y (CS λUR n20 R9 AE=>Al AE λed=>AI prog (G1 22 p3 n3 c3 ed) (Hp.set AE ed (.cells #[.slice Rm n16 QJ,.slice UR n20 R9] 98 (0,0))) (CS λmY G ec AK=>AL (x8+1)/\A4 R mY G ec (aD Dk Mw) n6 c6 x7 (x8+1) AK))))) (R (.returned (.slice p3 n3 c3)) Z22)):A4 R p3 n3 c3 p6 n6 c6 x7 x8 Z22:=M.of h ok rfl
end GD
namespace SA
variable {p0:Option Addr}{n0 c0:Nat}
def M:Fw:=⟨prog,52,f52,[],[],false,[],[],[]⟩
def ok:M.Ok:=⟨AH.nil,mixed,func52,by kernel_rfl⟩
def start (h:Al Z22 λb3=>AI prog (Builtin.append_ #[60,60] 60 #[(.slice (aD b3 0) 0 0),.slice p0 n0 c0]) (Hp.set Z22 b3 (.cells #[] 27 (0,0))) (CS λp5 n5 c5 y=>R (.returned (.slice p5 n5 c5)) y)):Spec prog 52 #[.slice p0 n0 c0] Z22 R:=M.start h ok
end SA
namespace AZ
variable {q0:Option Addr}{v1:Value}{x2 x3:Int}{b9:Nat}
def M:Fw:=⟨prog,63,f63,[31,95,96,97,98,99,100],[],false,[],[],[(48,[(0,wQ),(1,wV),(2,wI),(3,wI)]),(3198,[(0,wQ),(1,wV),(2,wI),(3,wI),(9,wA)])]⟩
def ok:M.Ok:=⟨.cons call31 (.cons call95 (.cons call96 (.cons call97 (.cons call98 (.cons call99 (.cons call100 (AH.nil))))))),mixed,func63,by kernel_rfl⟩
def eh:=M.pt 0
def Gh:=M.pt 1
def start (h:∃(f11:Nat) (G jm:Array Value),v1=.func (.func f11) G jm/\Enters prog f11/\Spec prog f11 (G++#[]++jm) Z22 (AY R (λz y=>z=(.tuple #[])/\eh R q0 v1 x2 x3 y))):Spec prog 63 #[.pointer q0,v1,.I x2,.I x3] Z22 R:=M.DL h ok [(0,.o (.Q q0)),(1,.o (.V v1)),(2,.o (.I .i64 x2)),(3,.o (.I .i64 x3))] rfl rfl (by kernel_rfl)
def LU (h:AG 96 #[] Z22 R (CS λaN n12 WZ y=>AG 31 #[.pointer q0] y R (λz AE=>∃HS Tg ei vJ,z=(.agg #[.I HS,.I Tg,.string ei,.I vJ])/\AG 95 #[.slice aN n12 WZ,.string ei] AE R (CI .i64 λx16 AK=>AG 31 #[.pointer q0] AK R (λz Ai=>∃RL RM oZ AYE,z=(.agg #[.I RL,.I RM,.string oZ,.I AYE])/\Br (RL≠5) (AG 31 #[.pointer q0] Ai R (λz CC=>∃AEX jn AKG AKH,z=(.agg #[.I AEX,.I jn,.string AKG,.I AKH])/\Br (AEX≠3) (R (.T #[]) CC) (Br (x16<x2) (R (.T #[]) CC) (Br (x3<x16) (R (.T #[]) CC) (Br (x2=11) (Br (x16=12) (R (.T #[]) CC) (AG 97 #[.pointer q0] CC R (λz G2=>∃J9 KA ej ek,z=(.agg #[.I J9,.I KA,.string ej,.I ek])/\Al G2 λb9=>AI prog (Instr.storeAt 127 (.pointer (aD b9 0)) (.agg #[.I 6,.I x16,(.string (ByteArray.mk #[])),.N,.I 0,.I 0,.I 0,.N,.bool false,.I 2])) (Hp.set G2 b9 (.cells #[.I 0,.I 0,(.string (ByteArray.mk #[])),.N,.I 0,.I 0,.I 0,.N,.bool false,.I 0] 127 (0,0))) (λ_ G=>Br (5<=x16) (Br (x16<=10) (AG 98 #[.pointer q0,.I 3,(.string (ByteArray.mk #[98,111,111,108]))] G R (CB λt55 R7=>Bo t55 (AG 97 #[.pointer q0] R7 R (λz TW=>∃eo et eu ew,z=(.agg #[.I eo,.I et,.string eu,.I ew])/\AI prog (Instr.storeAt 4 (.pointer (aD b9 8)) (.bool true)) TW (λ_ H7=>Gh R q0 v1 x2 x3 b9 H7))) (Gh R q0 v1 x2 x3 b9 R7))) (Gh R q0 v1 x2 x3 b9 G)) (Gh R q0 v1 x2 x3 b9 G))))) (AG 97 #[.pointer q0] CC R (λz G2=>∃J9 KA ej ek,z=(.agg #[.I J9,.I KA,.string ej,.I ek])/\Al G2 λb9=>AI prog (Instr.storeAt 127 (.pointer (aD b9 0)) (.agg #[.I 6,.I x16,(.string (ByteArray.mk #[])),.N,.I 0,.I 0,.I 0,.N,.bool false,.I 2])) (Hp.set G2 b9 (.cells #[.I 0,.I 0,(.string (ByteArray.mk #[])),.N,.I 0,.I 0,.I 0,.N,.bool false,.I 0] 127 (0,0))) (λ_ G=>Br (5<=x16) (Br (x16<=10) (AG 98 #[.pointer q0,.I 3,(.string (ByteArray.mk #[98,111,111,108]))] G R (CB λt55 R7=>Bo t55 (AG 97 #[.pointer q0] R7 R (λz TW=>∃eo et eu ew,z=(.agg #[.I eo,.I et,.string eu,.I ew])/\AI prog (Instr.storeAt 4 (.pointer (aD b9 8)) (.bool true)) TW (λ_ H7=>Gh R q0 v1 x2 x3 b9 H7))) (Gh R q0 v1 x2 x3 b9 R7))) (Gh R q0 v1 x2 x3 b9 G)) (Gh R q0 v1 x2 x3 b9 G))))))))) (Br (x16<x2) (R (.T #[]) Ai) (Br (x3<x16) (R (.T #[]) Ai) (Br (x2=11) (Br (x16=12) (R (.T #[]) Ai) (AG 97 #[.pointer q0] Ai R (λz CC=>∃J9 KA ej ek,z=(.agg #[.I J9,.I KA,.string ej,.I ek])/\Al CC λb9=>AI prog (Instr.storeAt 127 (.pointer (aD b9 0)) (.agg #[.I 6,.I x16,(.string (ByteArray.mk #[])),.N,.I 0,.I 0,.I 0,.N,.bool false,.I 2])) (Hp.set CC b9 (.cells #[.I 0,.I 0,(.string (ByteArray.mk #[])),.N,.I 0,.I 0,.I 0,.N,.bool false,.I 0] 127 (0,0))) (λ_ G2=>Br (5<=x16) (Br (x16<=10) (AG 98 #[.pointer q0,.I 3,(.string (ByteArray.mk #[98,111,111,108]))] G2 R (CB λt55 G=>Bo t55 (AG 97 #[.pointer q0] G R (λz R7=>∃eo et eu ew,z=(.agg #[.I eo,.I et,.string eu,.I ew])/\AI prog (Instr.storeAt 4 (.pointer (aD b9 8)) (.bool true)) R7 (λ_ TW=>Gh R q0 v1 x2 x3 b9 TW))) (Gh R q0 v1 x2 x3 b9 G))) (Gh R q0 v1 x2 x3 b9 G2)) (Gh R q0 v1 x2 x3 b9 G2))))) (AG 97 #[.pointer q0] Ai R (λz CC=>∃J9 KA ej ek,z=(.agg #[.I J9,.I KA,.string ej,.I ek])/\Al CC λb9=>AI prog (Instr.storeAt 127 (.pointer (aD b9 0)) (.agg #[.I 6,.I x16,(.string (ByteArray.mk #[])),.N,.I 0,.I 0,.I 0,.N,.bool false,.I 2])) (Hp.set CC b9 (.cells #[.I 0,.I 0,(.string (ByteArray.mk #[])),.N,.I 0,.I 0,.I 0,.N,.bool false,.I 0] 127 (0,0))) (λ_ G2=>Br (5<=x16) (Br (x16<=10) (AG 98 #[.pointer q0,.I 3,(.string (ByteArray.mk #[98,111,111,108]))] G2 R (CB λt55 G=>Bo t55 (AG 97 #[.pointer q0] G R (λz R7=>∃eo et eu ew,z=(.agg #[.I eo,.I et,.string eu,.I ew])/\AI prog (Instr.storeAt 4 (.pointer (aD b9 8)) (.bool true)) R7 (λ_ TW=>Gh R q0 v1 x2 x3 b9 TW))) (Gh R q0 v1 x2 x3 b9 G))) (Gh R q0 v1 x2 x3 b9 G2)) (Gh R q0 v1 x2 x3 b9 G2)))))))))))):eh R q0 v1 x2 x3 Z22:=M.of h ok rfl
def Vg (h:AG 99 #[.pointer q0,(.pointer (aD b9 0)),(.agg #[(.string (ByteArray.mk #[111,110])),(.string (ByteArray.mk #[105,103,110,111,114,105,110,103]))]),.agg #[.I 3,.I 4]] Z22 R (λz y=>z=(.tuple #[])/\∃(f65:Nat) (G AHH:Array Value),v1=.func (.func f65) G AHH/\Enters prog f65/\Spec prog f65 (G++#[]++AHH) y (AY R (λz AE=>z=(.tuple #[])/\∃NC ND NF NG NH NI NJ NK NL NM NN NO NQ NR,A2 AE b9 0 [.I NC,.I ND,.string NF,.slice NG NH NI,.I NJ,.I NK,.I NL,.slice NM NN NO,.bool NQ,.I NR]/\AG 100 #[.pointer q0,.agg #[.I NC,.I ND,.string NF,.slice NG NH NI,.I NJ,.I NK,.I NL,.slice NM NN NO,.bool NQ,.I NR]] AE R (λz AK=>z=(.tuple #[])/\eh R q0 v1 x2 x3 AK))))):Gh R q0 v1 x2 x3 b9 Z22:=M.of h ok rfl
end AZ
namespace Bb
variable {p0 p1 Mu:Option Addr}{n0 c0 n1 c1 n11 Mv:Nat}{v2:Value}{x12 GB:Int}
def M:Fw:=⟨prog,72,f72,[],[8,9],false,[],[],[(104,[(0,wL),(1,wL),(2,wV),(11,wL),(12,wI),(13,wI)])]⟩
def ok:M.Ok:=⟨AH.nil,mixed,func72,by kernel_rfl⟩
def Gf:=M.pt 0
def start (h:Gf R p0 n0 c0 p1 n1 c1 v2 p0 n0 c0 (n0:Int) 0 Z22):Spec prog 72 #[.slice p0 n0 c0,.slice p1 n1 c1,v2] Z22 R:=M.DL h ok [(0,.o (.L p0 n0 c0)),(1,.o (.L p1 n1 c1)),(2,.o (.V v2))] rfl rfl (by kernel_rfl)
def A0 (h:Br (GB<x12) (Pq Mu λUO eZ=>In GB (n11:Int)/\∃APh APi,A2 Z22 UO (eZ+GB.toNat*2) [.string APh,.string APi]/\∀b8:Nat,Br ((n1:Int)<=GB) (R (.returned (.I 1)) Z22) (Pq p1 λak iF=>In GB (n1:Int)/\∃APj APk,A2 Z22 ak (iF+GB.toNat*2) [.string APj,.string APk]/\∀b9:Nat,∃(f29:Nat) (G AHJ:Array Value),v2=.func (.func f29) G AHJ/\Enters prog f29/\Spec prog f29 (G++#[.agg #[.string APh,.string APi],.agg #[.string APj,.string APk]]++AHJ) Z22 (AY R (CI .i64 λey y=>Br (ey≠0) (R (.returned (.I ey)) y) (AL (GB+1)/\Gf R p0 n0 c0 (aD ak iF) n1 c1 v2 (aD UO eZ) n11 Mv x12 (GB+1) y))))) (Br ((n0:Int)<(n1:Int)) (R (.returned (.I (-1))) Z22) (R (.returned (.I 0)) Z22))):Gf R p0 n0 c0 p1 n1 c1 v2 Mu n11 Mv x12 GB Z22:=M.of h ok rfl
end Bb
namespace HT
variable {s0:ByteArray}{x3:Int}
def M:Fw:=⟨prog,82,f82,[],[],false,[],[],[(464,[(0,wT),(3,wI)])]⟩
def ok:M.Ok:=⟨AH.nil,mixed,func82,by kernel_rfl⟩
def FA:=M.pt 0
def start (h:Bo ((ByteArray.toList s0==ByteArray.toList (ByteArray.mk #[]))) (R (.B false) Z22) (Br ((64:Int)<(s0.size:Int)) (R (.B false) Z22) (∃P2:UInt8,(0:Int)<=0/\(ByteArray.data s0)[Int.toNat 0]?=some P2/\Br ((48:Int)<=(P2.toNat:Int)) (∃G:UInt8,(0:Int)<=0/\(ByteArray.data s0)[Int.toNat 0]?=some G/\Br (((G.toNat:Int):Int)<=57) (R (.B false) Z22) (FA R s0 0 Z22)) (FA R s0 0 Z22)))):Spec prog 82 #[.string s0] Z22 R:=M.start h ok
def DH (h:Br (x3<(s0.size:Int)) (∃G:UInt8,0<=x3/\(ByteArray.data s0)[x3.toNat]?=some G/\Br (((G.toNat:Int):Int)≠95) (Br (((G.toNat:Int):Int)<48) (Br (((G.toNat:Int):Int)<65) (Br (((G.toNat:Int):Int)<97) (R (.B false) Z22) (Br ((122:Int)<(G.toNat:Int)) (R (.B false) Z22) (AL (x3+1)/\FA R s0 (x3+1) Z22))) (Br ((90:Int)<(G.toNat:Int)) (Br (((G.toNat:Int):Int)<97) (R (.B false) Z22) (Br ((122:Int)<(G.toNat:Int)) (R (.B false) Z22) (AL (x3+1)/\FA R s0 (x3+1) Z22))) (AL (x3+1)/\FA R s0 (x3+1) Z22))) (Br ((57:Int)<(G.toNat:Int)) (Br (((G.toNat:Int):Int)<65) (Br (((G.toNat:Int):Int)<97) (R (.B false) Z22) (Br ((122:Int)<(G.toNat:Int)) (R (.B false) Z22) (AL (x3+1)/\FA R s0 (x3+1) Z22))) (Br ((90:Int)<(G.toNat:Int)) (Br (((G.toNat:Int):Int)<97) (R (.B false) Z22) (Br ((122:Int)<(G.toNat:Int)) (R (.B false) Z22) (AL (x3+1)/\FA R s0 (x3+1) Z22))) (AL (x3+1)/\FA R s0 (x3+1) Z22))) (AL (x3+1)/\FA R s0 (x3+1) Z22))) (AL (x3+1)/\FA R s0 (x3+1) Z22)) (R (.B true) Z22)):FA R s0 x3 Z22:=M.of h ok rfl
end HT
namespace cM
def M:Fw:=⟨prog,96,f96,[],[],false,[],[],[]⟩
def ok:M.Ok:=⟨AH.nil,mixed,func96,by kernel_rfl⟩
def start (h:Al Z22 λb1=>R (.returned (.slice (aD b1 0) 14 14)) (Hp.set Z22 b1 (.cells #[(.string (ByteArray.mk #[])),(.string (ByteArray.mk #[43])),(.string (ByteArray.mk #[45])),(.string (ByteArray.mk #[42])),(.string (ByteArray.mk #[47])),(.string (ByteArray.mk #[61,61])),(.string (ByteArray.mk #[33,61])),(.string (ByteArray.mk #[60])),(.string (ByteArray.mk #[60,61])),(.string (ByteArray.mk #[62])),(.string (ByteArray.mk #[62,61])),(.string (ByteArray.mk #[97,110,100])),(.string (ByteArray.mk #[111,114])),(.string (ByteArray.mk #[117,110,108,101,115,115]))] 9 (0,0)))):Spec prog 96 #[] Z22 R:=M.start h ok
end cM
namespace ML
variable {q0:Option Addr}
def M:Fw:=⟨prog,97,f97,[],[2,3],false,[],[],[]⟩
def ok:M.Ok:=⟨AH.nil,mixed,func97,by kernel_rfl⟩
def start (h:∀b2:Nat,Pq q0 λb5 o5=>LS Z22 b5 o5 λp7 n7 c7=>Pq p7 λb8 o8=>In 0 (n7:Int)/\∃x9a x9b G x9d,A2 Z22 b8 o8 [.I x9a,.I x9b,.string G,.I x9d]/\∀b3:Nat,LS Z22 b5 o5 λKa n14 JR=>((0:Int)<=1/\1<=(n14:Int))/\AI prog (Instr.storeAt 73 (.pointer (aD b5 o5)) (.slice (Ee Ka (1) JR 4) (n14-1) (JR-1))) Z22 (λ_ y=>R (.returned (.agg #[.I x9a,.I x9b,.string G,.I x9d])) y)):Spec prog 97 #[.pointer q0] Z22 R:=M.start h ok
end ML
namespace MM
variable {q0:Option Addr}{x1:Int}{s2:ByteArray}
def M:Fw:=⟨prog,98,f98,[31],[],false,[],[],[]⟩
def ok:M.Ok:=⟨.cons call31 (AH.nil),mixed,func98,by kernel_rfl⟩
def start (h:AG 31 #[.pointer q0] Z22 R (λz y=>∃FH FT G x8d,z=(.agg #[.I FH,.I FT,.string G,.I x8d])/\Br (FH=x1) (AG 31 #[.pointer q0] y R (λz AE=>∃HS Tg ei vJ,z=(.agg #[.I HS,.I Tg,.string ei,.I vJ])/\R (.returned (.bool (ByteArray.toList ei==ByteArray.toList s2))) AE)) (R (.B false) y))):Spec prog 98 #[.pointer q0,.I x1,.string s2] Z22 R:=M.start h ok
end MM
namespace Aw
variable {v0:Value}{x1 x2 x7 x9:Int}
def M:Fw:=⟨prog,103,f103,[],[],false,[],[],[(224,[(0,wV),(1,wI),(2,wI),(7,wI)]),(30,[(1,wI),(7,wI)]),(7228,[(0,wV),(1,wI),(2,wI),(7,wI),(9,wI)])]⟩
def ok:M.Ok:=⟨AH.nil,mixed,func103,by kernel_rfl⟩
def GQ:=M.pt 0
def fA:=M.pt 1
def HQ:=M.pt 2
def start (h:GQ R v0 x1 x2 x1 Z22):Spec prog 103 #[v0,.I x1,.I x2] Z22 R:=M.DL h ok [(0,.o (.V v0)),(1,.o (.I .i64 x1)),(2,.o (.I .i64 x2))] rfl rfl (by kernel_rfl)
def BI (h:AL (2*x7)/\AL ((2*x7)+1)/\Br (x2<=((2*x7)+1)) (fA R x1 x7 Z22) (Br ((((2*x7)+1):Int)<0) (fA R x1 x7 Z22) (AL (((2*x7)+1)+1)/\Br (((((2*x7)+1)+1):Int)<x2) (MC prog v0 UI #[(.I (((2*x7)+1)+1)),(.I ((2*x7)+1))] Z22 (AY R (CB λt32 y=>Bo t32 (HQ R v0 x1 x2 x7 ((((2*x7)+1)+1)) y) (HQ R v0 x1 x2 x7 (((2*x7)+1)) y)))) (HQ R v0 x1 x2 x7 (((2*x7)+1)) Z22)))):GQ R v0 x1 x2 x7 Z22:=M.of h ok rfl
def SB (h:R (.returned (.bool (decide (x1<x7)))) Z22):fA R x1 x7 Z22:=M.of h ok rfl
def DZ (h:MC prog v0 UI #[.I x9,.I x7] Z22 (AY R (CB λt38 y=>Bn t38 (fA R x1 x7 y) (MC prog v0 R5 #[.I x7,.I x9] y (AY R (λz G=>z=(.tuple #[])/\GQ R v0 x1 x2 x9 G)))))):HQ R v0 x1 x2 x7 x9 Z22:=M.of h ok rfl
end Aw
namespace Wa
variable {x0:Int}
def M:Fw:=⟨prog,120,f120,[],[],false,[],[],[]⟩
def ok:M.Ok:=⟨AH.nil,mixed,func120,by kernel_rfl⟩
def start (h:Br (11<=x0) (R (.returned (.bool (decide (x0<=13)))) Z22) (R (.B false) Z22)):Spec prog 120 #[.I x0] Z22 R:=M.start h ok
end Wa
namespace FU
variable {p0 p5:Option Addr}{n0 c0 n5 c5:Nat}{x1:Int}
def M:Fw:=⟨prog,140,f140,[],[],false,[],[],[(224,[(1,wU),(5,wL)])]⟩
def ok:M.Ok:=⟨AH.nil,mixed,func140,by kernel_rfl⟩
def GQ:=M.pt 0
def start (h:Al Z22 λb6=>AI prog (Builtin.append_ #[134,134] 134 #[(.slice (aD b6 0) 0 0),.slice p0 n0 c0]) (Hp.set Z22 b6 (.cells #[] 5 (0,0))) (CS λp8 n8 c8 y=>GQ R x1 p8 n8 c8 y)):Spec prog 140 #[.slice p0 n0 c0,.U x1] Z22 R:=M.start h ok
def BI (h:Br (127<x1) (Df (IntKind.u8.wrap x1) λx15=>Df (Go.bits .or .u8 x15 128) λx16=>Al Z22 λH9=>AI prog (G1 134 p5 n5 c5 H9) (Hp.set Z22 H9 (.cells #[.int .u8 x16] 5 (0,0))) (CS λzc n18 xv y=>((0:Int)<=7/\7<=((IntKind.bits .u64:Nat):Int))/\Df (x1/2^Int.toNat 7) λx12=>GQ R x12 zc n18 xv y)) (Df (IntKind.u8.wrap x1) λaO=>Al Z22 λed=>AI prog (G1 134 p5 n5 c5 ed) (Hp.set Z22 ed (.cells #[.int .u8 aO] 5 (0,0))) (CS λmY G ec y=>R (.returned (.slice mY G ec)) y))):GQ R x1 p5 n5 c5 Z22:=M.of h ok rfl
end FU
namespace cP
variable {p0:Option Addr}{n0 c0:Nat}
def M:Fw:=⟨prog,158,f158,[162],[],false,[],[],[]⟩
def ok:M.Ok:=⟨.cons call162 (AH.nil),mixed,func158,by kernel_rfl⟩
def start (h:Al Z22 λG=>AG 162 #[.slice p0 n0 c0,(.slice (aD G 0) 1 1)] (Hp.set Z22 G (.cells #[(.string (ByteArray.mk #[95,95,110,97,109,101,95,95]))] 9 (0,0))) R (CS λp5 n5 c5 y=>R (.returned (.slice p5 n5 c5)) y)):Spec prog 158 #[.slice p0 n0 c0] Z22 R:=M.start h ok
end cP
namespace Gi
variable {p0:Option Addr}{n0 c0:Nat}
def M:Fw:=⟨prog,166,f166,[163,167,204],[],false,[],[],[]⟩
def ok:M.Ok:=⟨.cons call163 (.cons call167 (.cons call204 (AH.nil))),mixed,func166,by kernel_rfl⟩
def start (h:AG 163 #[.slice p0 n0 c0] Z22 R (CI .u64 λx4 y=>AG 167 #[.slice p0 n0 c0] y R (CI .u64 λx6 G=>AG 204 #[.U x4,.U x6] G R (CI .u64 λx7 AK=>R (.returned (.U x7)) AK)))):Spec prog 166 #[.slice p0 n0 c0] Z22 R:=M.start h ok
end Gi
namespace CR
variable {p0:Option Addr}{n0 c0:Nat}{x3:Int}
def M:Fw:=⟨prog,197,f197,[234],[],false,[],[],[(224,[(0,wL),(3,wI)])]⟩
def ok:M.Ok:=⟨.cons call234 (AH.nil),mixed,func197,by kernel_rfl⟩
def GQ:=M.pt 0
def start (h:GQ R p0 n0 c0 8 Z22):Spec prog 197 #[.slice p0 n0 c0] Z22 R:=M.start h ok
def BI (h:Br ((n0:Int)<x3) (2≠(0:Int)/\Df (IntKind.i64.wrap (Int.tdiv x3 2)) λx11=>GQ R p0 n0 c0 x11 Z22) (AL ((n0:Int)-x3)/\((0:Int)<=((n0:Int)-x3)/\((n0:Int)-x3)<=(n0:Int))/\AG 234 #[(.slice (Ee p0 (Int.toNat ((n0:Int)-x3)) c0 1) (n0-Int.toNat ((n0:Int)-x3)) (c0-Int.toNat ((n0:Int)-x3)))] Z22 R (λz y=>∃G KZ,z=(.tuple #[.U G,.I KZ])/\R (.returned (.U G)) y))):GQ R p0 n0 c0 x3 Z22:=M.of h ok rfl
end CR
namespace Ej
variable {p0 p1:Option Addr}{n0 c0 n1 c1:Nat}
def M:Fw:=⟨prog,203,f203,[202,204],[],false,[],[],[]⟩
def ok:M.Ok:=⟨.cons call202 (.cons call204 (AH.nil)),mixed,func203,by kernel_rfl⟩
def start (h:Pq p1 λG o8=>In 0 (n1:Int)/\LI .u64 Z22 G (o8+1) λx10=>AG 202 #[.slice p0 n0 c0] Z22 R (CI .u64 λx6 y=>Kp [G] Z22 y/\AG 204 #[.U x6,.U x10] y R (CI .u64 λx11 AE=>R (.returned (.U x11)) AE))):Spec prog 203 #[.slice p0 n0 c0,.slice p1 n1 c1] Z22 R:=M.start h ok
end Ej
namespace eval_add
variable {x0 x1:Int}
def M:Fw:=⟨prog,211,f211,[213],[],false,[],[],[]⟩
def ok:M.Ok:=⟨.cons call213 (AH.nil),mixed,func211,by kernel_rfl⟩
def start (h:AG 213 #[.I 1,.U x0,.U x1] Z22 R (λz y=>∃IF G,z=(.tuple #[.U IF,.bool G])/\R (.returned (.U IF)) y)):Spec prog 211 #[.U x0,.U x1] Z22 R:=M.start h ok
end eval_add
end TwW
end
end
section
set_option maxRecDepth 100000
noncomputable section
namespace TwW
open Go Tw Go.Proofs.Tryz
variable [GO]{R:Rr}{Z22:Hp}

namespace EF
variable {q0:Option Addr}{v1:Value}
def M:Fw:=⟨prog,219,f219,[31,65,97],[],false,[],[],[(6,[(0,wQ),(1,wV)])]⟩
def ok:M.Ok:=⟨.cons call31 (.cons call65 (.cons call97 (AH.nil))),mixed,func219,by kernel_rfl⟩
def jo:=M.pt 0
def start (h:Pq q0 λb5 o5=>LI .i64 Z22 b5 (o5+1) λx7=>Br (x7=64) (AG 31 #[(.pointer (aD b5 o5))] Z22 R (λz y=>∃fB RN vK G,z=(.agg #[.I fB,.I RN,.string vK,.I G])/\AG 65 #[(.pointer (aD b5 o5)),.I 182,.agg #[.I fB,.I RN,.string vK,.I G]] y R (λz AE=>z=(.tuple #[])/\jo R (aD b5 o5) v1 AE))) (jo R (aD b5 o5) v1 Z22)):Spec prog 219 #[.pointer q0,v1] Z22 R:=M.DL h ok [(0,.o (.Q q0)),(1,.o (.V v1))] rfl rfl (by kernel_rfl)
def NS (h:Pq q0 λHo Ji=>LI .i64 Z22 Ho (Ji+1) λx16=>AL (x16+1)/\AI prog (Instr.storeAt 3 (.pointer (aD Ho (Ji+1))) (.I (x16+1))) Z22 (λ_ y=>AG 97 #[(.pointer (aD Ho Ji))] y R (λz AE=>∃WY U9 AYF AYG,z=(.agg #[.I WY,.I U9,.string AYF,.I AYG])/\∃(f23:Nat) (G AHL:Array Value),v1=.func (.func f23) G AHL/\Enters prog f23/\Spec prog f23 (G++#[]++AHL) AE (AY R (λz AK=>z=(.tuple #[])/\LI .i64 AK Ho (Ji+1) λJS=>AL (JS-1)/\AI prog (Instr.storeAt 3 (.pointer (aD Ho (Ji+1))) (.I (JS-1))) AK (λ_ Ai=>R (.T #[]) Ai)))))):jo R q0 v1 Z22:=M.of h ok rfl
end EF
namespace Fk
variable {iE:Option Addr}{R8 cG:Nat}{mZ s1:ByteArray}
def M:Fw:=⟨prog,228,f228,[248],[2],false,[],[],[]⟩
def ok:M.Ok:=⟨.cons call248 (AH.nil),mixed,func228,by kernel_rfl⟩
def start (h:∀b2:Nat,AG 248 #[.agg #[.slice iE R8 cG],.string s1] Z22 R (CB λt8 y=>R (.returned (.bool (!t8))) y)):Spec prog 228 #[.agg #[.slice iE R8 cG,.string mZ],.string s1] Z22 R:=M.start h ok
end Fk
namespace US
def M:Fw:=⟨prog,239,f239,[],[],false,[],[],[]⟩
def ok:M.Ok:=⟨AH.nil,mixed,func239,by kernel_rfl⟩
def start (h:Al Z22 λb1=>R (.returned (.slice (aD b1 0) 13 13)) (Hp.set Z22 b1 (.cells #[(.string (ByteArray.mk #[])),(.string (ByteArray.mk #[114,97,116,101])),(.string (ByteArray.mk #[105,110,99,114,101,97,115,101])),(.string (ByteArray.mk #[100,101,108,116,97])),(.string (ByteArray.mk #[115,117,109,95,111,118,101,114,95,116,105,109,101])),(.string (ByteArray.mk #[97,118,103,95,111,118,101,114,95,116,105,109,101])),(.string (ByteArray.mk #[109,105,110,95,111,118,101,114,95,116,105,109,101])),(.string (ByteArray.mk #[109,97,120,95,111,118,101,114,95,116,105,109,101])),(.string (ByteArray.mk #[99,111,117,110,116,95,111,118,101,114,95,116,105,109,101])),(.string (ByteArray.mk #[108,97,115,116,95,111,118,101,114,95,116,105,109,101])),(.string (ByteArray.mk #[119,97,118,101])),(.string (ByteArray.mk #[97,98,115])),(.string (ByteArray.mk #[102,108,111,111,114]))] 9 (0,0)))):Spec prog 239 #[] Z22 R:=M.start h ok
end US
namespace cQ
variable {x0:Int}
def M:Fw:=⟨prog,252,f252,[],[],false,[],[],[]⟩
def ok:M.Ok:=⟨AH.nil,mixed,func252,by kernel_rfl⟩
def start (h:Br (x0=1) (R (.B true) Z22) (Br (x0=2) (R (.B true) Z22) (Br (x0=4) (R (.B true) Z22) (R (.returned (.bool (decide (x0=8)))) Z22)))):Spec prog 252 #[.I x0] Z22 R:=M.start h ok
end cQ
namespace CH
variable {x0 x1:Int}{t2 t7:Bool}{v6:Value}
def M:Fw:=⟨prog,293,f293,[],[],false,[],[],[(248,[(1,wI),(6,wV),(7,wB)]),(15988,[(1,wI),(6,wV),(7,wB)])]⟩
def ok:M.Ok:=⟨AH.nil,mixed,func293,by kernel_rfl⟩
def AKL:=M.pt 0
def Th:=M.pt 1
def start (h:LI .u64 Z22 6 0 λx10=>(0<=x10/\x10<=((IntKind.bits .u64:Nat):Int))/\Df (x0/2^x10.toNat) λx11=>Br (x11≠0) (R (.T #[.float .f64 0,.bool false]) Z22) (AI prog (convert 27 258 (.U x0)) Z22 (λz y=>∃Vd,(Value.float .f64 Vd)=z/\Bo t2 (∃x17,YF prog (Op.unary .neg (Value.float .f64 Vd)) y (Value.float .f64 x17)/\AKL R x1 (Value.float .f64 x17) false y) (AKL R x1 (Value.float .f64 Vd) false y)))):Spec prog 293 #[.U x0,.I x1,.bool t2] Z22 R:=M.start h ok
def AEZ (h:Br (x1=0) (R (.T #[v6,.bool true]) Z22) (Br (0<x1) (Br (x1<=37) (Br (22<x1) (LS Z22 9 0 λp32 n32 c32=>AL (x1-22)/\Pq p32 λb35 o35=>In (x1-22) (n32:Int)/\∃fC,Hp.ld Z22 ⟨b35,(o35+Int.toNat (x1-22)*1),none⟩=some (Value.float .f64 fC)/\AI prog (binOp .mul 258 v6 (Value.float .f64 fC)) Z22 (λz y=>∃VA,(Value.float .f64 VA)=z/\Th R 22 (Value.float .f64 VA) t7 y)) (Th R x1 v6 t7 Z22)) (Br (x1<0) (Br (((-22):Int)<=x1) (LS Z22 9 0 λaM UQ cK=>Df (IntKind.i64.wrap (0-x1)) λG=>Pq aM λb61 o61=>In G (UQ:Int)/\∃x62,Hp.ld Z22 ⟨b61,(o61+G.toNat*1),none⟩=some (Value.float .f64 x62)/\AI prog (binOp .quo 258 v6 (Value.float .f64 x62)) Z22 (λz y=>∃x63,(Value.float .f64 x63)=z/\R (.T #[(Value.float .f64 x63),.bool true]) y)) (R (.T #[v6,.bool t7]) Z22)) (R (.T #[v6,.bool t7]) Z22))) (Br (x1<0) (Br (((-22):Int)<=x1) (LS Z22 9 0 λaM UQ cK=>Df (IntKind.i64.wrap (0-x1)) λG=>Pq aM λb61 o61=>In G (UQ:Int)/\∃x62,Hp.ld Z22 ⟨b61,(o61+G.toNat*1),none⟩=some (Value.float .f64 x62)/\AI prog (binOp .quo 258 v6 (Value.float .f64 x62)) Z22 (λz y=>∃x63,(Value.float .f64 x63)=z/\R (.T #[(Value.float .f64 x63),.bool true]) y)) (R (.T #[v6,.bool t7]) Z22)) (R (.T #[v6,.bool t7]) Z22)))):AKL R x1 v6 t7 Z22:=M.of h ok rfl
end CH
namespace Jk
variable {s0 s1:ByteArray}
def M:Fw:=⟨prog,296,f296,[321],[],false,[],[],[]⟩
def ok:M.Ok:=⟨.cons call321 (AH.nil),mixed,func296,by kernel_rfl⟩
def start (h:AG 321 #[.string s0,.string s1] Z22 R (CB λt7 y=>R (.B t7) y)):Spec prog 296 #[.string s0,.string s1] Z22 R:=M.start h ok
end Jk
namespace DI
variable {p0:Option Addr}{n0 c0:Nat}{x1 x2:Int}
def M:Fw:=⟨prog,360,f360,[36],[],false,[],[],[]⟩
def ok:M.Ok:=⟨.cons call36 (AH.nil),mixed,func360,by kernel_rfl⟩
def start (h:Pq p0 λb9 o9=>In x1 (n0:Int)/\LQ Z22 b9 (o9+x1.toNat*1) λq10=>Pq q10 λE4 ae=>LS Z22 E4 ae λvL n13 yA=>Pq vL λHo Ji=>In 0 (n13:Int)/\LS Z22 Ho Ji λRm n16 QJ=>In x2 (n0:Int)/\LQ Z22 b9 (o9+x2.toNat*1) λq20=>Pq q20 λrn xy=>LS Z22 rn xy λmY G ec=>Pq mY λak iF=>In 0 (G:Int)/\LS Z22 ak iF λai n26 aj=>AG 36 #[.slice Rm n16 QJ,.slice ai n26 aj] Z22 R (CI .i64 λJS y=>R (.returned (.bool (decide (JS<0)))) y)):Spec prog 360 #[.slice p0 n0 c0,.I x1,.I x2] Z22 R:=M.start h ok
end DI
end TwW
end
end
section
set_option maxRecDepth 100000
noncomputable section
namespace TwW
open Go Tw Go.Proofs.Tryz
variable [GO]{R:Rr}{Z22:Hp}

namespace Dl
variable {p0 p3:Option Addr}{n0 c0 n3 c3:Nat}{x4:Int}
def M:Fw:=⟨prog,12,f12,[39,40],[],false,[],[],[(464,[(0,wL),(3,wL),(4,wI)])]⟩
def ok:M.Ok:=⟨.cons call39 (.cons call40 (AH.nil)),mixed,func12,by kernel_rfl⟩
def CD:=M.pt 0
def start (h:CD R p0 n0 c0 none 0 0 0 Z22):Spec prog 12 #[.slice p0 n0 c0] Z22 R:=M.start h ok
def A5 (h:Br (x4<(n0:Int)) (Pq p0 λHo G=>In x4 (n0:Int)/\LS Z22 Ho (G+x4.toNat*2) λRm n16 QJ=>In x4 (n0:Int)/\LS Z22 Ho ((G+x4.toNat*2)+1) λvM n22 oa=>AG 39 #[.slice Rm n16 QJ] Z22 R (CS λsE n17 cR y=>Kp [Ho] Z22 y/\AG 40 #[.slice vM n22 oa] y R (CS λmY n23 ec AE=>Al AE λNT=>AI prog (G1 22 p3 n3 c3 NT) (Hp.set AE NT (.cells #[.slice sE n17 cR,.slice mY n23 ec] 98 (0,0))) (CS λai n26 aj AK=>AL (x4+1)/\CD R (aD Ho G) n0 c0 ai n26 aj (x4+1) AK)))) (R (.returned (.slice p3 n3 c3)) Z22)):CD R p0 n0 c0 p3 n3 c3 x4 Z22:=M.of h ok rfl
end Dl
namespace Fq
variable {q0:Option Addr}
def M:Fw:=⟨prog,32,f32,[31,65],[],false,[],[],[(3,[(0,wQ)])]⟩
def ok:M.Ok:=⟨.cons call31 (.cons call65 (AH.nil)),mixed,func32,by kernel_rfl⟩
def eh:=M.pt 0
def start (h:AG 31 #[.pointer q0] Z22 R (λz y=>∃Vf WX s3c x3d,z=(.agg #[.I Vf,.I WX,.string s3c,.I x3d])/\Br (Vf=0) (AG 31 #[.pointer q0] y R (λz AE=>∃FH FT G x8d,z=(.agg #[.I FH,.I FT,.string G,.I x8d])/\AG 65 #[.pointer q0,.I 180,.agg #[.I FH,.I FT,.string G,.I x8d]] AE R (λz AK=>z=(.tuple #[])/\eh R q0 AK))) (eh R q0 y))):Spec prog 32 #[.pointer q0] Z22 R:=M.start h ok
def LU (h:AG 31 #[.pointer q0] Z22 R (λz y=>∃fD VB zm G,z=(.agg #[.I fD,.I VB,.string zm,.I G])/\AG 65 #[.pointer q0,.I 181,.agg #[.I fD,.I VB,.string zm,.I G]] y R (λz AE=>z=(.tuple #[])/\R (.T #[]) AE))):eh R q0 Z22:=M.of h ok rfl
end Fq
namespace Qr
variable {p0 p1:Option Addr}{n0 c0 n1 c1:Nat}
def M:Fw:=⟨prog,36,f36,[72],[],false,[],[],[]⟩
def ok:M.Ok:=⟨.cons call72 (AH.nil),mixed,func36,by kernel_rfl⟩
def start (h:AG 72 #[.slice p0 n0 c0,.slice p1 n1 c1,(.func (.func 73) #[] #[])] Z22 R (CI .i64 λx7 y=>R (.returned (.I x7)) y)):Spec prog 36 #[.slice p0 n0 c0,.slice p1 n1 c1] Z22 R:=M.start h ok
end Qr
namespace cS
variable {p0 p1:Option Addr}{n0 c0 n1 c1:Nat}
def M:Fw:=⟨prog,44,f44,[19,24],[],false,[],[],[]⟩
def ok:M.Ok:=⟨.cons call19 (.cons call24 (AH.nil)),mixed,func44,by kernel_rfl⟩
def start (h:AG 24 #[.slice p0 n0 c0] Z22 R (λz y=>∃IF u5 G,z=(.tuple #[.I IF,.I u5,.I G])/\Br (G≠0) (R (.returned (.I 220)) y) (Br (IF=3) (R (.returned (.I 220)) y) (AG 19 #[.slice p1 n1 c1] y R (CI .i64 λGL AE=>Br (GL≠0) (R (.returned (.I 224)) AE) (R (.returned (.I 0)) AE)))))):Spec prog 44 #[.slice p0 n0 c0,.slice p1 n1 c1] Z22 R:=M.start h ok
end cS
namespace DC
variable {DR DT Vf WX Vd x15:Int}{ji oT p4 vL:Option Addr}{ah jj me oV n4 c4 n13 yA:Nat}
def M:Fw:=⟨prog,53,f53,[41,42,84],[1,3],false,[],[],[(1000,[(3,.X 43 [.I .u64,.I .i64,.L]),(4,wL),(13,wL),(14,wI),(15,wI)])]⟩
def ok:M.Ok:=⟨.cons call41 (.cons call42 (.cons call84 (AH.nil))),mixed,func53,by kernel_rfl⟩
def HR:=M.pt 0
def start (h:∀b1:Nat,AG 41 #[.agg #[.U DR,.I DT,.slice ji ah jj]] Z22 R (CI .i64 λx8 y=>Br (x8≠0) (R (.returned (.N)) y) (AG 42 #[.agg #[.U DR,.I DT,.slice ji ah jj]] y R (λz AE=>∃fB RN G APs APt,z=(.agg #[.U fB,.I RN,.slice G APs APt])/\∀b3:Nat,AG 84 #[.agg #[.U DR,.I DT,.slice ji ah jj]] AE R (CS λvL n13 yA AK=>HR R fB RN G APs APt none 0 0 vL n13 yA (n13:Int) 0 AK))))):Spec prog 53 #[.agg #[.U DR,.I DT,.slice ji ah jj]] Z22 R:=M.start h ok
def CF (h:Br (x15<Vd) (Pq vL λH9 vN=>In x15 (n13:Int)/\LI .i64 Z22 H9 (vN+x15.toNat*1) λMN=>Pq oT λaP cU=>In MN (me:Int)/\∃vO APu APv APw APx APy APz G AP1,A2 Z22 aP (cU+MN.toNat*9) [.U vO,.I APu,.I APv,.I APw,.slice APx APy APz,.I G,.I AP1]/\Al Z22 λmh=>AI prog (G1 119 p4 n4 c4 mh) (Hp.set Z22 mh (.cells #[.U vO,.I APu,.I APv,.I APw,.slice APx APy APz,.I G,.I AP1] 89 (0,0))) (CS λp27 n27 yB y=>AL (x15+1)/\HR R Vf WX (aD aP cU) me oV p27 n27 yB (aD H9 vN) n13 yA Vd (x15+1) y)) (R (.returned (.slice p4 n4 c4)) Z22)):HR R Vf WX oT me oV p4 n4 c4 vL n13 yA Vd x15 Z22:=M.WQ h ok rfl λ_=>by kernel_rfl
end DC
namespace Wb
variable {x0:Int}
def M:Fw:=⟨prog,87,f87,[],[],false,[],[],[]⟩
def ok:M.Ok:=⟨AH.nil,mixed,func87,by kernel_rfl⟩
def start (h:Al Z22 λb1=>R (.returned (.func (.func 119) #[] #[(.pointer (aD b1 0))])) (Hp.set Z22 b1 (.cells #[.I x0] 3 (0,0)))):Spec prog 87 #[.I x0] Z22 R:=M.start h ok
end Wb
namespace Wc
def M:Fw:=⟨prog,110,f110,[],[],false,[],[],[]⟩
def ok:M.Ok:=⟨AH.nil,mixed,func110,by kernel_rfl⟩
def start (h:Al Z22 λb1=>R (.returned (.slice (aD b1 0) 8 8)) (Hp.set Z22 b1 (.cells #[.nilFunc,(.func (.func 129) #[] #[]),(.func (.func 130) #[] #[]),(.func (.func 131) #[] #[]),(.func (.func 132) #[] #[]),(.func (.func 133) #[] #[]),(.func (.func 134) #[] #[]),(.func (.func 135) #[] #[])] 207 (0,0)))):Spec prog 110 #[] Z22 R:=M.start h ok
end Wc
namespace Hr
variable {DR DT VC QS JP MO Cm CN E8 EK Dg Dj x7 x8:Int}{VD E9:ByteArray}{cV Wd FC FP p6:Option Addr}{al cW Vh We FD FE FG FQ n6 c6:Nat}{RO EU:Bool}
def M:Fw:=⟨prog,114,f114,[118],[1],false,[],[],[(104,[(1,.X 127 [.I .i64,.I .i64,.T,.L,.I .i64,.I .i64,.I .i64,.L,.B,.I .i64]),(6,wL),(7,wI),(8,wI)])]⟩
def ok:M.Ok:=⟨.cons call118 (AH.nil),mixed,func114,by kernel_rfl⟩
def Gf:=M.pt 0
def start (h:∀b1:Nat,Gf R DR DT VD cV al cW VC QS JP Wd Vh We RO MO Wd Vh We (Vh:Int) 0 Z22):Spec prog 114 #[.agg #[.I DR,.I DT,.string VD,.slice cV al cW,.I VC,.I QS,.I JP,.slice Wd Vh We,.bool RO,.I MO]] Z22 R:=M.start h ok
def A0 (h:Br (x8<x7) (Pq p6 λDk G=>In x8 (n6:Int)/\LT Z22 Dk (G+x8.toNat*1) λs11=>AG 118 #[.string s11] Z22 R (CB λt13 y=>Bn t13 (R (.B false) y) (AL (x8+1)/\Gf R Cm CN E9 FC FD FE E8 EK Dg FP FG FQ EU Dj (aD Dk G) n6 c6 x7 (x8+1) y))) (Br ((FG:Int)=0) (R (.B true) Z22) (R (.returned (.bool (decide (Dg≠0)))) Z22))):Gf R Cm CN E9 FC FD FE E8 EK Dg FP FG FQ EU Dj p6 n6 c6 x7 x8 Z22:=M.WQ h ok rfl λ_=>by kernel_rfl
end Hr
namespace A6
variable {q0 FC FP p2 Ii KF JT IC G3 G6 Rm:Option Addr}{Cm CN E8 EK Dg Dj GC Hq KG IM KH Kz IA IB FH FT x17 MN:Int}{E9 Jj:ByteArray}{FD FE FG FQ n2 c2 Ij Ik KI KJ JU JV ID IE G4 G5 G7 G8 n16 QJ:Nat}{EU LA:Bool}
def M:Fw:=⟨prog,130,f130,[153,154],[4,6,8,10],false,[(7,15,false)],[],[(232,[(0,wQ),(4,.X 127 [.I .i64,.I .i64,.T,.L,.I .i64,.I .i64,.I .i64,.L,.B,.I .i64]),(6,.X 164 [.I .i64,.I .u64,.L,.L]),(8,.X 164 [.I .i64,.I .u64,.L,.L]),(16,wL),(17,wI),(18,wI)]),(935,[(0,wQ),(4,.X 127 [.I .i64,.I .i64,.T,.L,.I .i64,.I .i64,.I .i64,.L,.B,.I .i64]),(6,.X 164 [.I .i64,.I .u64,.L,.L]),(8,.X 164 [.I .i64,.I .u64,.L,.L]),(16,wL),(17,wI),(18,wI)])]⟩
def ok:M.Ok:=⟨.cons call153 (.cons call154 (AH.nil)),mixed,func130,by kernel_rfl⟩
def A4:=M.pt 0
def HQ:=M.pt 1
def start (h:∀b4:Nat,∀b6:Nat,∀b8:Nat,Pq q0 λHo G=>LS Z22 Ho G λRm n16 QJ=>A4 R (aD Ho G) Cm CN E9 FC FD FE E8 EK Dg FP FG FQ EU Dj 0 0 none 0 0 none 0 0 2 0 none 0 0 none 0 0 Rm n16 QJ (n16:Int) 0 Z22):Spec prog 130 #[.pointer q0,.agg #[.I Cm,.I CN,.string E9,.slice FC FD FE,.I E8,.I EK,.I Dg,.slice FP FG FQ,.bool EU,.I Dj],.slice p2 n2 c2] Z22 R:=M.start h ok
def AX (h:Br (MN<x17) (Pq Rm λiG od=>In MN (n16:Int)/\∃AKP AKQ AKR AP2 AP3 AP4,A2 Z22 iG (od+MN.toNat*2) [.slice AKP AKQ AKR,.slice AP2 AP3 AP4]/\∀Dk:Nat,Pq q0 λNT aQ=>LI .i64 Z22 NT (aQ+1) λJS=>AL (JS-IM)/\AL ((JS-IM)-300)/\LI .i64 Z22 NT (aQ+1) λTV=>AL (TV-IM)/\AG 153 #[.slice AP2 AP3 AP4,(.I ((JS-IM)-300)),(.I (TV-IM))] Z22 R (CS λp39 G c39 y=>Br ((G:Int)=0) (HQ R (aD NT aQ) GC Hq Jj Ii Ij Ik KG IM KH KF KI KJ LA Kz IA IB JT JU JV IC ID IE FH FT G3 G4 G5 G6 G7 G8 (aD iG od) n16 QJ x17 MN y) (AL ((G:Int)-1)/\Pq p39 λVE o48=>In (((G:Int)-1)) (G:Int)/\LI .u64 y VE ((o48+Int.toNat ((G:Int)-1)*2)+1) λx50=>Br (x50=9218868437227405314) (HQ R (aD NT aQ) GC Hq Jj Ii Ij Ik KG IM KH KF KI KJ LA Kz IA IB JT JU JV IC ID IE FH FT G3 G4 G5 G6 G7 G8 (aD iG od) n16 QJ x17 MN y) (AG 154 #[.slice Ii Ij Ik,.slice AKP AKQ AKR] y R (CB λt58 AE=>Bn t58 (HQ R (aD NT aQ) GC Hq Jj Ii Ij Ik KG IM KH KF KI KJ LA Kz IA IB JT JU JV IC ID IE FH FT G3 G4 G5 G6 G7 G8 (aD iG od) n16 QJ x17 MN AE) (AL ((G:Int)-1)/\In (((G:Int)-1)) (G:Int)/\LI .u64 AE VE ((o48+Int.toNat ((G:Int)-1)*2)+1) λx71=>Al AE λb73=>AI prog (G1 105 G3 G4 G5 b73) (Hp.set AE b73 (.cells #[.slice AKP AKQ AKR,.U x71] 109 (0,0))) (CS λp74 n74 c74 AK=>HQ R (aD NT aQ) GC Hq Jj Ii Ij Ik KG IM KH KF KI KJ LA Kz IA IB JT JU JV IC ID IE FH FT p74 n74 c74 G6 G7 G8 (aD iG od) n16 QJ x17 MN AK))))))) (R (.T #[.agg #[.I FH,.U FT,.slice G3 G4 G5,.slice G6 G7 G8],.I 0]) Z22)):A4 R q0 GC Hq Jj Ii Ij Ik KG IM KH KF KI KJ LA Kz IA IB JT JU JV IC ID IE FH FT G3 G4 G5 G6 G7 G8 Rm n16 QJ x17 MN Z22:=M.of3 h ok rfl λ_ _ _=>by kernel_rfl
def DZ (h:AL (MN+1)/\A4 R q0 GC Hq Jj Ii Ij Ik KG IM KH KF KI KJ LA Kz IA IB JT JU JV IC ID IE FH FT G3 G4 G5 G6 G7 G8 Rm n16 QJ x17 (MN+1) Z22):HQ R q0 GC Hq Jj Ii Ij Ik KG IM KH KF KI KJ LA Kz IA IB JT JU JV IC ID IE FH FT G3 G4 G5 G6 G7 G8 Rm n16 QJ x17 MN Z22:=M.of3 h ok rfl λ_ _ _=>by kernel_rfl
end A6
namespace Ah
variable {q0 FC FP p2 Ii KF JT IC G3 G6 SC oe jV Mu sF:Option Addr}{Cm CN E8 EK Dg Dj GC Hq KG IM KH Kz IA IB FH FT FV GL zn fE:Int}{E9 Jj:ByteArray}{FD FE FG FQ n2 c2 Ij Ik KI KJ JU JV ID IE G4 G5 G7 G8 n21 QT og oh WV jX n11 Mv n46 ot:Nat}{EU LA:Bool}
def M:Fw:=⟨prog,131,f131,[153,154,155],[4,6,8,10,13],false,[],[],[(232,[(0,wQ),(4,.X 127 [.I .i64,.I .i64,.T,.L,.I .i64,.I .i64,.I .i64,.L,.B,.I .i64]),(6,.X 164 [.I .i64,.I .u64,.L,.L]),(8,.X 164 [.I .i64,.I .u64,.L,.L]),(21,wL),(22,wI),(23,wI)]),(239208,[(0,wQ),(4,.X 127 [.I .i64,.I .i64,.T,.L,.I .i64,.I .i64,.I .i64,.L,.B,.I .i64]),(6,.X 164 [.I .i64,.I .u64,.L,.L]),(8,.X 164 [.I .i64,.I .u64,.L,.L]),(10,.X 98 [.L,.L]),(11,wL),(21,wL),(22,wI),(23,wI),(46,wL),(47,wI),(48,wI)]),(935,[(0,wQ),(4,.X 127 [.I .i64,.I .i64,.T,.L,.I .i64,.I .i64,.I .i64,.L,.B,.I .i64]),(6,.X 164 [.I .i64,.I .u64,.L,.L]),(8,.X 164 [.I .i64,.I .u64,.L,.L]),(21,wL),(22,wI),(23,wI)]),(956839,[(0,wQ),(4,.X 127 [.I .i64,.I .i64,.T,.L,.I .i64,.I .i64,.I .i64,.L,.B,.I .i64]),(6,.X 164 [.I .i64,.I .u64,.L,.L]),(8,.X 164 [.I .i64,.I .u64,.L,.L]),(10,.X 98 [.L,.L]),(11,wL),(21,wL),(22,wI),(23,wI),(46,wL),(47,wI),(48,wI)])]⟩
def ok:M.Ok:=⟨.cons call153 (.cons call154 (.cons call155 (AH.nil))),mixed,func131,by kernel_rfl⟩
def A4:=M.pt 0
def Kb:=M.pt 1
def QW:=M.pt 2
def AEb:=M.pt 3
def start (h:∀b4:Nat,∀b6:Nat,AG 155 #[.I E8] Z22 R (CI .u64 λx16 y=>∀b8:Nat,Pq q0 λG aq=>LS y G aq λSC n21 QT=>A4 R (aD G aq) Cm CN E9 FC FD FE E8 EK Dg FP FG FQ EU Dj 0 0 none 0 0 none 0 0 3 x16 none 0 0 none 0 0 SC n21 QT (n21:Int) 0 y)):Spec prog 131 #[.pointer q0,.agg #[.I Cm,.I CN,.string E9,.slice FC FD FE,.I E8,.I EK,.I Dg,.slice FP FG FQ,.bool EU,.I Dj],.slice p2 n2 c2] Z22 R:=M.start h ok
def AX (h:Br (GL<FV) (Pq SC λNT aQ=>In GL (n21:Int)/\∃AP6 AP7 AP8 G AKU AKV,A2 Z22 NT (aQ+GL.toNat*2) [.slice AP6 AP7 AP8,.slice G AKU AKV]/\∀Dk:Nat,Pq q0 λb30 o30=>LI .i64 Z22 b30 (o30+1) λzo=>AL (zo-IM)/\AL ((zo-IM)-KG)/\LI .i64 Z22 b30 (o30+1) λjq=>AL (jq-IM)/\AG 153 #[.slice G AKU AKV,(.I ((zo-IM)-KG)),(.I (jq-IM))] Z22 R (CS λsF n46 ot y=>Kb R (aD b30 o30) GC Hq Jj Ii Ij Ik KG IM KH KF KI KJ LA Kz IA IB JT JU JV IC ID IE FH FT G3 G4 G5 G6 G7 G8 AP6 AP7 AP8 G AKU AKV none 0 0 (aD NT aQ) n21 QT FV GL sF n46 ot (n46:Int) 0 y)) (R (.T #[.agg #[.I FH,.U FT,.slice G3 G4 G5,.slice G6 G7 G8],.I 0]) Z22)):A4 R q0 GC Hq Jj Ii Ij Ik KG IM KH KF KI KJ LA Kz IA IB JT JU JV IC ID IE FH FT G3 G4 G5 G6 G7 G8 SC n21 QT FV GL Z22:=M.of3 h ok rfl λ_ _ _=>by kernel_rfl
def Jl (h:Br (fE<zn) (Pq sF λfF G=>In fE (n46:Int)/\∃AYQ zX,A2 Z22 fF (G+fE.toNat*2) [.I AYQ,.U zX]/\∀H8:Nat,Br (zX≠9218868437227405314) (Al Z22 λb58=>AI prog (G1 60 Mu n11 Mv b58) (Hp.set Z22 b58 (.cells #[.U zX] 27 (0,0))) (CS λp59 n59 c59 y=>AEb R q0 GC Hq Jj Ii Ij Ik KG IM KH KF KI KJ LA Kz IA IB JT JU JV IC ID IE FH FT G3 G4 G5 G6 G7 G8 oe og oh jV WV jX p59 n59 c59 SC n21 QT FV GL (aD fF G) n46 ot zn fE y)) (AEb R q0 GC Hq Jj Ii Ij Ik KG IM KH KF KI KJ LA Kz IA IB JT JU JV IC ID IE FH FT G3 G4 G5 G6 G7 G8 oe og oh jV WV jX Mu n11 Mv SC n21 QT FV GL (aD fF G) n46 ot zn fE Z22)) (Br (0<(n11:Int)) (AG 154 #[.slice Ii Ij Ik,.slice oe og oh] Z22 R (CB λt69 y=>Bo t69 (Al y λb77=>AI prog (G1 162 G6 G7 G8 b77) (Hp.set y b77 (.cells #[.slice oe og oh,.slice Mu n11 Mv] 234 (0,0))) (CS λp78 n78 c78 AE=>QW R q0 GC Hq Jj Ii Ij Ik KG IM KH KF KI KJ LA Kz IA IB JT JU JV IC ID IE FH FT G3 G4 G5 p78 n78 c78 SC n21 QT FV GL AE)) (QW R q0 GC Hq Jj Ii Ij Ik KG IM KH KF KI KJ LA Kz IA IB JT JU JV IC ID IE FH FT G3 G4 G5 G6 G7 G8 SC n21 QT FV GL y))) (QW R q0 GC Hq Jj Ii Ij Ik KG IM KH KF KI KJ LA Kz IA IB JT JU JV IC ID IE FH FT G3 G4 G5 G6 G7 G8 SC n21 QT FV GL Z22))):Kb R q0 GC Hq Jj Ii Ij Ik KG IM KH KF KI KJ LA Kz IA IB JT JU JV IC ID IE FH FT G3 G4 G5 G6 G7 G8 oe og oh jV WV jX Mu n11 Mv SC n21 QT FV GL sF n46 ot zn fE Z22:=M.of4 h ok rfl λ_ _ _ _=>by kernel_rfl
def LV (h:AL (GL+1)/\A4 R q0 GC Hq Jj Ii Ij Ik KG IM KH KF KI KJ LA Kz IA IB JT JU JV IC ID IE FH FT G3 G4 G5 G6 G7 G8 SC n21 QT FV (GL+1) Z22):QW R q0 GC Hq Jj Ii Ij Ik KG IM KH KF KI KJ LA Kz IA IB JT JU JV IC ID IE FH FT G3 G4 G5 G6 G7 G8 SC n21 QT FV GL Z22:=M.of3 h ok rfl λ_ _ _=>by kernel_rfl
def AEf (h:AL (fE+1)/\Kb R q0 GC Hq Jj Ii Ij Ik KG IM KH KF KI KJ LA Kz IA IB JT JU JV IC ID IE FH FT G3 G4 G5 G6 G7 G8 oe og oh jV WV jX Mu n11 Mv SC n21 QT FV GL sF n46 ot zn (fE+1) Z22):AEb R q0 GC Hq Jj Ii Ij Ik KG IM KH KF KI KJ LA Kz IA IB JT JU JV IC ID IE FH FT G3 G4 G5 G6 G7 G8 oe og oh jV WV jX Mu n11 Mv SC n21 QT FV GL sF n46 ot zn fE Z22:=M.of4 h ok rfl λ_ _ _ _=>by kernel_rfl
end Ah
namespace Qt
variable {p0:Option Addr}{n0 c0:Nat}{s1:ByteArray}
def M:Fw:=⟨prog,141,f141,[140],[],false,[],[],[]⟩
def ok:M.Ok:=⟨.cons call140 (AH.nil),mixed,func141,by kernel_rfl⟩
def start (h:Df (IntKind.u64.wrap (s1.size:Int)) λx8=>AG 140 #[.slice p0 n0 c0,.U x8] Z22 R (CS λp9 n9 c9 y=>AI prog (Builtin.append_ #[134,9] 134 #[.slice p9 n9 c9,.string s1]) y (CS λMu n11 Mv G=>R (.returned (.slice Mu n11 Mv)) G))):Spec prog 141 #[.slice p0 n0 c0,.string s1] Z22 R:=M.start h ok
end Qt
namespace UT
variable {p0:Option Addr}{n0 c0:Nat}{x1 x2:Int}
def M:Fw:=⟨prog,153,f153,[184],[],false,[],[],[]⟩
def ok:M.Ok:=⟨.cons call184 (AH.nil),mixed,func153,by kernel_rfl⟩
def start (h:AG 184 #[.slice p0 n0 c0,.I x1,(.func (.func 185) #[] #[])] Z22 R (λz y=>∃HS AYT,z=(.tuple #[.I HS,.bool AYT])/\AG 184 #[.slice p0 n0 c0,.I x2,(.func (.func 186) #[] #[])] y R (λz AE=>∃G AYU,z=(.tuple #[.I G,.bool AYU])/\((0:Int)<=(if G<HS then G else HS)/\(if G<HS then G else HS)<=G/\G<=(c0:Int))/\R (.returned (.slice (Ee p0 (Int.toNat (if G<HS then G else HS)) c0 2) (G.toNat-Int.toNat (if G<HS then G else HS)) (c0-Int.toNat (if G<HS then G else HS)))) AE))):Spec prog 153 #[.slice p0 n0 c0,.I x1,.I x2] Z22 R:=M.start h ok
end UT
namespace Fs
variable {p0 p1 p5 p9:Option Addr}{n0 c0 n1 c1 n5 c5 n9 c9:Nat}{x10 x11:Int}
def M:Fw:=⟨prog,154,f154,[117,187,188,189],[7],false,[],[],[(232,[(1,wL),(5,wL),(9,wL),(10,wI),(11,wI)])]⟩
def ok:M.Ok:=⟨.cons call117 (.cons call187 (.cons call188 (.cons call189 (AH.nil)))),mixed,func154,by kernel_rfl⟩
def A4:=M.pt 0
def start (h:AG 187 #[] Z22 R (CS λp8 n8 c8 y=>A4 R p1 n1 c1 p8 n8 c8 p0 n0 c0 (n0:Int) 0 y)):Spec prog 154 #[.slice p0 n0 c0,.slice p1 n1 c1] Z22 R:=M.start h ok
def AX (h:Br (x11<x10) (Pq p9 λH8 U4=>In x11 (n9:Int)/\∃HS oP ei,A2 Z22 H8 (U4+x11.toNat*3) [.I HS,.string oP,.string ei]/\∀b7:Nat,AG 117 #[.I HS] Z22 R (CB λt17 y=>Bn t17 (R (.B false) y) (Pq p5 λaP cU=>In HS (n5:Int)/\∃G,Hp.ld y ⟨aP,(cU+HS.toNat*1),none⟩=some G/\AG 188 #[.string ei] y R (λz AE=>∃RP QX RQ,z=(.agg #[.slice RP QX RQ])/\Kp [aP] y AE/\AG 189 #[.slice p1 n1 c1,.string oP] AE R (CT λs34 AK=>Kp [aP] AE AK/\∃(f35:Nat) (jr js:Array Value),G=.func (.func f35) jr js/\Enters prog f35/\Spec prog f35 (jr++#[.agg #[.slice RP QX RQ,.string ei],.string s34]++js) AK (AY R (CB λt35 Ai=>Bn t35 (R (.B false) Ai) (AL (x11+1)/\A4 R p1 n1 c1 (aD aP cU) n5 c5 (aD H8 U4) n9 c9 x10 (x11+1) Ai)))))))) (R (.B true) Z22)):A4 R p1 n1 c1 p5 n5 c5 p9 n9 c9 x10 x11 Z22:=M.of h ok rfl
end Fs
namespace Wf
variable {x0:Int}
def M:Fw:=⟨prog,155,f155,[],[],false,[],[],[]⟩
def ok:M.Ok:=⟨AH.nil,mixed,func155,by kernel_rfl⟩
def start (h:AI prog (convert 2 258 (.I x0)) Z22 (λz y=>∃x4,(Value.float .f64 x4)=z/\EN prog 190 #[(Value.float .f64 x4)] y (CI .u64 λx5 G=>R (.returned (.U x5)) G))):Spec prog 155 #[.I x0] Z22 R:=M.start h ok
end Wf
namespace LX
variable {x0:Int}
def M:Fw:=⟨prog,157,f157,[183,192,193],[],false,[],[],[]⟩
def ok:M.Ok:=⟨.cons call183 (.cons call192 (.cons call193 (AH.nil))),mixed,func157,by kernel_rfl⟩
def start (h:AG 192 #[.U x0] Z22 R (λz y=>∃x4,(Value.float .f64 x4)=z/\AG 193 #[(Value.float .f64 x4)] y R (λz G=>∃x5,(Value.float .f64 x5)=z/\AG 183 #[(Value.float .f64 x5)] G R (CI .u64 λx6 AK=>R (.returned (.U x6)) AK)))):Spec prog 157 #[.U x0] Z22 R:=M.start h ok
end LX
namespace Ht
variable {p0 Mu:Option Addr}{n0 c0 n11 Mv:Nat}{x3 x12 GB:Int}
def M:Fw:=⟨prog,163,f163,[196,211],[],false,[],[],[(232,[(3,wU),(11,wL),(12,wI),(13,wI)])]⟩
def ok:M.Ok:=⟨.cons call196 (.cons call211 (AH.nil)),mixed,func163,by kernel_rfl⟩
def A4:=M.pt 0
def start (h:Pq p0 λb7 G=>In 0 (n0:Int)/\LI .u64 Z22 b7 G λx8=>AG 196 #[.U x8] Z22 R (CI .u64 λx9 y=>((0:Int)<=1/\1<=(n0:Int))/\A4 R x9 ((Ee (aD b7 G) (1) c0 1)) (n0-1) (c0-1) ((((n0-1):Nat):Int)) 0 y)):Spec prog 163 #[.slice p0 n0 c0] Z22 R:=M.start h ok
def AX (h:Br (GB<x12) (Pq Mu λG jc=>In GB (n11:Int)/\LI .u64 Z22 G (jc+GB.toNat*1) λx16=>AG 211 #[.U x3,.U x16] Z22 R (CI .u64 λCe y=>AL (GB+1)/\A4 R Ce (aD G jc) n11 Mv x12 (GB+1) y)) (R (.returned (.U x3)) Z22)):A4 R x3 Mu n11 Mv x12 GB Z22:=M.of h ok rfl
end Ht
namespace Ek
variable {x0:Int}{b1 b2:Nat}
def M:Fw:=⟨prog,171,f171,[168],[],false,[],[],[]⟩
def ok:M.Ok:=⟨.cons call168 (AH.nil),mixed,func171,by kernel_rfl⟩
def start (h:∃IA IB s6c IC ID IE x6e x6f x6g p6h n6h G t6i x6j,A2 Z22 b1 0 [.I IA,.I IB,.string s6c,.slice IC ID IE,.I x6e,.I x6f,.I x6g,.slice p6h n6h G,.bool t6i,.I x6j]/\LI .u64 Z22 b2 1 λx9=>AG 168 #[.agg #[.I IA,.I IB,.string s6c,.slice IC ID IE,.I x6e,.I x6f,.I x6g,.slice p6h n6h G,.bool t6i,.I x6j],.U x0,.U x9] Z22 R (λz y=>∃IF WU,z=(.tuple #[.U IF,.bool WU])/\R (.T #[.U IF,.bool WU]) y)):Spec prog 171 #[.U x0,(.pointer (aD b1 0)),(.pointer (aD b2 0))] Z22 R:=M.start h ok
end Ek
namespace Kd
variable {p0 p7:Option Addr}{n0 c0 n7 c7:Nat}{s1:ByteArray}{x8 x9:Int}
def M:Fw:=⟨prog,189,f189,[],[6],false,[],[],[(104,[(1,wT),(7,wL),(8,wI),(9,wI)])]⟩
def ok:M.Ok:=⟨AH.nil,mixed,func189,by kernel_rfl⟩
def Gf:=M.pt 0
def start (h:Gf R s1 p0 n0 c0 (n0:Int) 0 Z22):Spec prog 189 #[.slice p0 n0 c0,.string s1] Z22 R:=M.start h ok
def A0 (h:Br (x9<x8) (Pq p7 λE4 ae=>In x9 (n7:Int)/\∃G AQA,A2 Z22 E4 (ae+x9.toNat*2) [.string G,.string AQA]/\∀b6:Nat,Bo (ByteArray.toList G==ByteArray.toList s1) (R (.returned (.string AQA)) Z22) (AL (x9+1)/\Gf R s1 (aD E4 ae) n7 c7 x8 (x9+1) Z22)) (R (.returned (.string (ByteArray.mk #[]))) Z22)):Gf R s1 p7 n7 c7 x8 x9 Z22:=M.of h ok rfl
end Kd
namespace jt
variable {v0:Value}
def M:Fw:=⟨prog,191,f191,[],[],false,[],[],[]⟩
def ok:M.Ok:=⟨AH.nil,mixed,func191,by kernel_rfl⟩
def start (h:EN prog 190 #[v0] Z22 (CI .u64 λx4 y=>Df (Go.bits .andNot .u64 x4 9223372036854775808) λx5=>EN prog 230 #[.U x5] y (λz G=>∃x6,(Value.float .f64 x6)=z/\R (.returned (Value.float .f64 x6)) G))):Spec prog 191 #[v0] Z22 R:=M.DL h ok [(0,.o (.V v0))] rfl rfl (by kernel_rfl)
end jt
namespace sG
variable {x0:Int}
def M:Fw:=⟨prog,192,f192,[],[],false,[],[],[]⟩
def ok:M.Ok:=⟨AH.nil,mixed,func192,by kernel_rfl⟩
def start (h:EN prog 230 #[.U x0] Z22 (λz y=>∃x4,(Value.float .f64 x4)=z/\R (.returned (Value.float .f64 x4)) y)):Spec prog 192 #[.U x0] Z22 R:=M.start h ok
end sG
namespace Ft
variable {p0:Option Addr}{n0 c0:Nat}{x3 x4:Int}
def M:Fw:=⟨prog,202,f202,[200,211,214],[],false,[],[],[(464,[(0,wL),(3,wU),(4,wI)]),(467,[(0,wL),(3,wU),(4,wI)])]⟩
def ok:M.Ok:=⟨.cons call200 (.cons call211 (.cons call214 (AH.nil))),mixed,func202,by kernel_rfl⟩
def CD:=M.pt 0
def Iy:=M.pt 1
def start (h:AL ((n0:Int)-1)/\Pq p0 λE4 G=>In (((n0:Int)-1)) (n0:Int)/\LI .u64 Z22 E4 (G+Int.toNat ((n0:Int)-1)*1) λx12=>In 0 (n0:Int)/\LI .u64 Z22 E4 G λx15=>AG 200 #[.U x12,.U x15] Z22 R (CI .u64 λx16 y=>CD R (aD E4 G) n0 c0 x16 1 y)):Spec prog 202 #[.slice p0 n0 c0] Z22 R:=M.start h ok
def A5 (h:Br (x4<(n0:Int)) (Pq p0 λmh G=>In x4 (n0:Int)/\LI .u64 Z22 mh (G+x4.toNat*1) λJS=>AL (x4-1)/\In (x4-1) (n0:Int)/\LI .u64 Z22 mh (G+Int.toNat (x4-1)*1) λzo=>AG 214 #[.I 7,.U JS,.U zo] Z22 R (λz y=>∃AQB zp,z=(.tuple #[.bool AQB,.bool zp])/\Bo AQB (AL (x4-1)/\In (x4-1) (n0:Int)/\LI .u64 y mh (G+Int.toNat (x4-1)*1) λjq=>AG 211 #[.U x3,.U jq] y R (CI .u64 λmj AE=>Iy R (aD mh G) n0 c0 mj x4 AE)) (Iy R (aD mh G) n0 c0 x3 x4 y))) (R (.returned (.U x3)) Z22)):CD R p0 n0 c0 x3 x4 Z22:=M.of h ok rfl
def Em (h:AL (x4+1)/\CD R p0 n0 c0 x3 (x4+1) Z22):Iy R p0 n0 c0 x3 x4 Z22:=M.of h ok rfl
end Ft
namespace HU
variable {x0 x5 x15 x16:Int}{p1 Ka:Option Addr}{n1 c1 n14 JR:Nat}
def M:Fw:=⟨prog,212,f212,[196,214,238],[],false,[],[],[(232,[(0,wI),(5,wU),(14,wL),(15,wI),(16,wI)]),(935,[(0,wI),(5,wU),(14,wL),(15,wI),(16,wI)])]⟩
def ok:M.Ok:=⟨.cons call196 (.cons call214 (.cons call238 (AH.nil))),mixed,func212,by kernel_rfl⟩
def A4:=M.pt 0
def RR:=M.pt 1
def start (h:Pq p1 λE4 G=>In 0 (n1:Int)/\LI .u64 Z22 E4 G λx12=>((0:Int)<=1/\1<=(n1:Int))/\A4 R x0 x12 ((Ee (aD E4 G) (1) c1 1)) (n1-1) (c1-1) ((((n1-1):Nat):Int)) 0 Z22):Spec prog 212 #[.I x0,.slice p1 n1 c1] Z22 R:=M.start h ok
def AX (h:Br (x16<x15) (Pq Ka λcD ou=>In x16 (n14:Int)/\LI .u64 Z22 cD (ou+x16.toNat*1) λCe=>AG 214 #[.I x0,.U Ce,.U x5] Z22 R (λz y=>∃G AYW,z=(.tuple #[.bool G,.bool AYW])/\Bo G (RR R x0 Ce (aD cD ou) n14 JR x15 x16 y) (AG 238 #[.U x5] y R (CB λt30 AE=>Bo t30 (RR R x0 Ce (aD cD ou) n14 JR x15 x16 AE) (RR R x0 x5 (aD cD ou) n14 JR x15 x16 AE))))) (AG 196 #[.U x5] Z22 R (CI .u64 λTV y=>R (.returned (.U TV)) y))):A4 R x0 x5 Ka n14 JR x15 x16 Z22:=M.of h ok rfl
def SD (h:AL (x16+1)/\A4 R x0 x5 Ka n14 JR x15 (x16+1) Z22):RR R x0 x5 Ka n14 JR x15 x16 Z22:=M.of h ok rfl
end HU
namespace Gj
variable {iE:Option Addr}{R8 cG:Nat}{mZ s1:ByteArray}
def M:Fw:=⟨prog,225,f225,[],[2],false,[],[],[]⟩
def ok:M.Ok:=⟨AH.nil,mixed,func225,by kernel_rfl⟩
def start (h:∀b2:Nat,R (.returned (.bool (ByteArray.toList s1==ByteArray.toList mZ))) Z22):Spec prog 225 #[.agg #[.slice iE R8 cG,.string mZ],.string s1] Z22 R:=M.start h ok
end Gj
namespace Ke
variable {p0 p5:Option Addr}{n0 c0 n5 c5:Nat}{x1 x7:Int}{v6:Value}
def M:Fw:=⟨prog,253,f253,[192,278],[],false,[],[],[(444,[(0,wL),(1,wI),(5,wL),(6,wV),(7,wI)])]⟩
def ok:M.Ok:=⟨.cons call192 (.cons call278 (AH.nil)),mixed,func253,by kernel_rfl⟩
def AEg:=M.pt 0
def start (h:AG 278 #[] Z22 R (CS λRo n10 MK y=>AEg R p0 n0 c0 x1 Ro n10 MK (.complex .f64 0 0) 0 y)):Spec prog 253 #[.slice p0 n0 c0,.I x1] Z22 R:=M.start h ok
def sH (h:Br (x7=(n0:Int)) (R (.returned v6) Z22) (Pq p0 λcD ou=>In x7 (n0:Int)/\LI .u64 Z22 cD (ou+x7.toNat*1) λCe=>AL (x1*x7)/\(n0:Int)≠(0:Int)/\Df (Int.tmod (x1*x7) (n0:Int)) λJS=>(n0:Int)≠(0:Int)/\Df (IntKind.i64.wrap (Int.tdiv 8 (n0:Int))) λyC=>AL (JS*yC)/\Pq p5 λzl o32=>In (JS*yC) (n5:Int)/\∃G y33,Hp.ld Z22 ⟨zl,(o32+Int.toNat (JS*yC)*1),none⟩=some (Value.complex .f64 G y33)/\AG 192 #[.U Ce] Z22 R (λz y=>∃Il,(Value.float .f64 Il)=z/\Kp [zl] Z22 y/\∃TV,YF prog (Builtin.real_ #[319] 258 #[v6]) y (Value.float .f64 TV)/\∃aY,YF prog (Builtin.real_ #[319] 258 #[(Value.complex .f64 G y33)]) y (Value.float .f64 aY)/\AI prog (binOp .mul 258 (Value.float .f64 Il) (Value.float .f64 aY)) y (λz AE=>∃x39,(Value.float .f64 x39)=z/\AI prog (binOp .add 258 (Value.float .f64 TV) (Value.float .f64 x39)) AE (λz AK=>∃jS,(Value.float .f64 jS)=z/\∃jq,YF prog (Builtin.imag_ #[319] 258 #[v6]) AK (Value.float .f64 jq)/\∃x45,YF prog (Builtin.imag_ #[319] 258 #[(Value.complex .f64 G y33)]) AK (Value.float .f64 x45)/\AI prog (binOp .mul 258 (Value.float .f64 Il) (Value.float .f64 x45)) AK (λz Ai=>∃x46,(Value.float .f64 x46)=z/\AI prog (binOp .add 258 (Value.float .f64 jq) (Value.float .f64 x46)) Ai (λz CC=>∃zn,(Value.float .f64 zn)=z/\∃fE y48,YF prog (Builtin.complex_ #[258,258] 319 #[(Value.float .f64 jS),(Value.float .f64 zn)]) CC (Value.complex .f64 fE y48)/\AL (x7+1)/\AEg R (aD cD ou) n0 c0 x1 (aD zl o32) n5 c5 (Value.complex .f64 fE y48) (x7+1) CC))))))):AEg R p0 n0 c0 x1 p5 n5 c5 v6 x7 Z22:=M.of h ok rfl
end Ke
namespace Iz
variable {s0:ByteArray}{t4:Bool}
def M:Fw:=⟨prog,263,f263,[95,239,240],[],false,[],[],[(53,[(0,wT),(4,wB)])]⟩
def ok:M.Ok:=⟨.cons call95 (.cons call239 (.cons call240 (AH.nil))),mixed,func263,by kernel_rfl⟩
def VF:=M.pt 0
def start (h:Bo ((ByteArray.toList s0==ByteArray.toList (ByteArray.mk #[111,114]))) (VF R s0 true Z22) (Bo ((ByteArray.toList s0==ByteArray.toList (ByteArray.mk #[97,110,100]))) (VF R s0 true Z22) (Bo ((ByteArray.toList s0==ByteArray.toList (ByteArray.mk #[117,110,108,101,115,115]))) (VF R s0 true Z22) (Bo ((ByteArray.toList s0==ByteArray.toList (ByteArray.mk #[98,111,111,108]))) (VF R s0 true Z22) (Bo ((ByteArray.toList s0==ByteArray.toList (ByteArray.mk #[111,110]))) (VF R s0 true Z22) (Bo ((ByteArray.toList s0==ByteArray.toList (ByteArray.mk #[105,103,110,111,114,105,110,103]))) (VF R s0 true Z22) (Bo ((ByteArray.toList s0==ByteArray.toList (ByteArray.mk #[98,121]))) (VF R s0 true Z22) (Bo ((ByteArray.toList s0==ByteArray.toList (ByteArray.mk #[119,105,116,104,111,117,116]))) (VF R s0 true Z22) (VF R s0 ((ByteArray.toList s0==ByteArray.toList (ByteArray.mk #[111,102,102,115,101,116]))) Z22))))))))):Spec prog 263 #[.string s0] Z22 R:=M.start h ok
def AEh (h:Bo t4 (R (.B true) Z22) (AG 239 #[] Z22 R (CS λKa n14 JR y=>AG 95 #[.slice Ka n14 JR,.string s0] y R (CI .i64 λx16 G=>Br (0<x16) (R (.B true) G) (AG 240 #[] G R (CS λiD n19 cE AK=>AG 95 #[.slice iD n19 cE,.string s0] AK R (CI .i64 λaO Ai=>R (.returned (.bool (decide (0<aO)))) Ai))))))):VF R s0 t4 Z22:=M.of h ok rfl
end Iz
namespace strings_Index
variable {s0 s1:ByteArray}
end strings_Index
namespace Db
variable {p0:Option Addr}{n0 c0:Nat}
def M:Fw:=⟨prog,359,f359,[],[],false,[],[],[]⟩
def ok:M.Ok:=⟨AH.nil,mixed,func359,by kernel_rfl⟩
def start (h:R (.returned (.I (n0:Int))) Z22):Spec prog 359 #[.slice p0 n0 c0] Z22 R:=M.start h ok
end Db
namespace Bs
variable {p0:Option Addr}{n0 c0:Nat}{x1 x2:Int}
def M:Fw:=⟨prog,361,f361,[],[],false,[(0,15,false)],[],[]⟩
def ok:M.Ok:=⟨AH.nil,mixed,func361,by kernel_rfl⟩
def start (h:Pq p0 λG Jn=>In x2 (n0:Int)/\LQ Z22 G (Jn+x2.toNat*1) λsI=>In x1 (n0:Int)/\LQ Z22 G (Jn+x1.toNat*1) λq17=>In x1 (n0:Int)/\AI prog (Instr.storeAt 150 (.pointer (aD G (Jn+x1.toNat*1))) (.pointer sI)) Z22 (λ_ y=>In x2 (n0:Int)/\AI prog (Instr.storeAt 150 (.pointer (aD G (Jn+x2.toNat*1))) (.pointer q17)) y (λ_ AE=>R (.T #[]) AE))):Spec prog 361 #[.slice p0 n0 c0,.I x1,.I x2] Z22 R:=M.start h ok
end Bs
namespace Ca
variable {q0:Option Addr}
def M:Fw:=⟨prog,362,f362,[],[],false,[(1,11,true),(2,11,true)],[],[]⟩
def ok:M.Ok:=⟨AH.nil,mixed,func362,by kernel_rfl⟩
def start (h:Pq q0 λb5 G=>LS Z22 b5 G λp6 n6 c6=>LS Z22 b5 G λp9 n9 c9=>AL ((n9:Int)-1)/\Pq p6 λHV Jn=>In (((n9:Int)-1)) (n6:Int)/\LQ Z22 HV (Jn+Int.toNat ((n9:Int)-1)*1) λsI=>LS Z22 b5 G λsE n17 cR=>LS Z22 b5 G λUR n20 R9=>AL ((n20:Int)-1)/\((0:Int)<=((n20:Int)-1)/\((n20:Int)-1)<=(cR:Int))/\AI prog (Instr.storeAt 147 (.pointer (aD b5 G)) (.slice sE (Int.toNat ((n20:Int)-1)) cR)) Z22 (λ_ y=>R (.returned (.iface 150 (.pointer sI))) y)):Spec prog 362 #[.pointer q0] Z22 R:=M.start h ok
end Ca
end TwW
end
end
section
set_option maxRecDepth 100000
noncomputable section
namespace TwW
open Go Tw Go.Proofs.Tryz
variable [GO]{R:Rr}{Z22:Hp}

namespace Cz
variable {q0:Option Addr}
def M:Fw:=⟨prog,14,f14,[],[],false,[],[],[]⟩
def ok:M.Ok:=⟨AH.nil,mixed,func14,by kernel_rfl⟩
def start (h:Pq q0 λb6 o6=>∃v8,Hp.ld Z22 ⟨b6,(o6+12),none⟩=some v8/\∃(f9:Nat) (G AQF:Array Value),v8=.func (.func f9) G AQF/\Enters prog f9/\Spec prog f9 (G++#[]++AQF) Z22 (AY R (λz y=>∃p9a n9a c9a x9b x9c,z=(.tuple #[.slice p9a n9a c9a,.I x9b,.I x9c])/\R (.T #[.slice p9a n9a c9a,.I x9b,.I x9c]) y))):Spec prog 14 #[.pointer q0] Z22 R:=M.start h ok
end Cz
namespace Eo
variable {p0 p5:Option Addr}{n0 c0 n5 c5:Nat}{x6 x7:Int}
def M:Fw:=⟨prog,19,f19,[36,50,51],[4],false,[],[],[(104,[(0,wL),(5,wL),(6,wI),(7,wI)])]⟩
def ok:M.Ok:=⟨.cons call36 (.cons call50 (.cons call51 (AH.nil))),mixed,func19,by kernel_rfl⟩
def Gf:=M.pt 0
def start (h:Gf R p0 n0 c0 p0 n0 c0 (n0:Int) 0 Z22):Spec prog 19 #[.slice p0 n0 c0] Z22 R:=M.start h ok
def A0 (h:Br (x7<x6) (Pq p5 λDk Mw=>In x7 (n5:Int)/\∃Td Te Tf oW oX oY,A2 Z22 Dk (Mw+x7.toNat*2) [.slice Td Te Tf,.slice oW oX oY]/\∀b4:Nat,AG 50 #[.slice Td Te Tf] Z22 R (CI .i64 λVd y=>Br (Vd≠0) (R (.returned (.I 100)) y) (AG 51 #[.slice oW oX oY] y R (CB λt19 G=>Bn t19 (R (.returned (.I 100)) G) (Br (0<x7) (AL (x7-1)/\Pq p0 λS8 cL=>In (x7-1) (n0:Int)/\LS G S8 (cL+Int.toNat (x7-1)*2) λp31 n31 c31=>AG 36 #[.slice p31 n31 c31,.slice Td Te Tf] G R (CI .i64 λzZ AK=>Br (0<=zZ) (R (.returned (.I 100)) AK) (AL (x7+1)/\Gf R (aD S8 cL) n0 c0 (aD Dk Mw) n5 c5 x6 (x7+1) AK))) (AL (x7+1)/\Gf R p0 n0 c0 (aD Dk Mw) n5 c5 x6 (x7+1) G)))))) (R (.returned (.I 0)) Z22)):Gf R p0 n0 c0 p5 n5 c5 x6 x7 Z22:=M.of h ok rfl
end Eo
namespace C0
variable {p0 p1:Option Addr}{n0 c0 n1 c1:Nat}{x5:Int}
def M:Fw:=⟨prog,22,f22,[],[],false,[(6,9,true)],[],[(464,[(0,wL),(1,wL),(5,wI)])]⟩
def ok:M.Ok:=⟨AH.nil,mixed,func22,by kernel_rfl⟩
def FA:=M.pt 0
def start (h:Br ((n0:Int)≠(n1:Int)) (R (.B false) Z22) (FA R p0 n0 c0 p1 n1 c1 0 Z22)):Spec prog 22 #[.slice p0 n0 c0,.slice p1 n1 c1] Z22 R:=M.start h ok
def DH (h:Br (x5<(n0:Int)) (Pq p0 λG aq=>In x5 (n0:Int)/\LI .u64 Z22 G (aq+x5.toNat*1) λIl=>Pq p1 λaP cU=>In x5 (n1:Int)/\LI .u64 Z22 aP (cU+x5.toNat*1) λP0=>Br (Il≠P0) (R (.B false) Z22) (AL (x5+1)/\FA R (aD G aq) n0 c0 (aD aP cU) n1 c1 (x5+1) Z22)) (R (.B true) Z22)):FA R p0 n0 c0 p1 n1 c1 x5 Z22:=M.of h ok rfl
end C0
namespace Dm
variable {p0 p1:Option Addr}{n0 c0 n1 c1:Nat}{x5:Int}
def M:Fw:=⟨prog,48,f48,[],[],false,[(6,9,true)],[],[(464,[(0,wL),(1,wL),(5,wI)])]⟩
def ok:M.Ok:=⟨AH.nil,mixed,func48,by kernel_rfl⟩
def FA:=M.pt 0
def start (h:Br ((n0:Int)≠(n1:Int)) (R (.B false) Z22) (FA R p0 n0 c0 p1 n1 c1 0 Z22)):Spec prog 48 #[.slice p0 n0 c0,.slice p1 n1 c1] Z22 R:=M.start h ok
def DH (h:Br (x5<(n0:Int)) (Pq p0 λHE aq=>In x5 (n0:Int)/\∃G AKX,A2 Z22 HE (aq+x5.toNat*2) [.string G,.string AKX]/\Pq p1 λaP cU=>In x5 (n1:Int)/\∃AKY AKZ,A2 Z22 aP (cU+x5.toNat*2) [.string AKY,.string AKZ]/\∃t25,YF prog ((do eqGuard .neq 144 (.tmp 20) (.tmp 24) (.agg #[.string G,.string AKX]) (.agg #[.string AKY,.string AKZ]);binOp .neq 144 (.agg #[.string G,.string AKX]) (.agg #[.string AKY,.string AKZ]))) Z22 (.bool t25)/\Bo t25 (R (.B false) Z22) (AL (x5+1)/\FA R (aD HE aq) n0 c0 (aD aP cU) n1 c1 (x5+1) Z22)) (R (.B true) Z22)):FA R p0 n0 c0 p1 n1 c1 x5 Z22:=M.of h ok rfl
end Dm
namespace Dn
variable {p0:Option Addr}{n0 c0:Nat}{x3:Int}
def M:Fw:=⟨prog,57,f57,[],[],false,[(4,10,true)],[],[(208,[(0,wL),(3,wI)])]⟩
def ok:M.Ok:=⟨AH.nil,mixed,func57,by kernel_rfl⟩
def GQ:=M.pt 0
def start (h:GQ R p0 n0 c0 1 Z22):Spec prog 57 #[.slice p0 n0 c0] Z22 R:=M.start h ok
def BI (h:Br (x3<(n0:Int)) (Pq p0 λG Jn=>In x3 (n0:Int)/\LI .i64 Z22 G (Jn+x3.toNat*1) λGB=>AL (x3-1)/\In (x3-1) (n0:Int)/\LI .i64 Z22 G (Jn+Int.toNat (x3-1)*1) λMN=>Br (GB<=MN) (R (.B false) Z22) (AL (x3+1)/\GQ R (aD G Jn) n0 c0 (x3+1) Z22)) (R (.B true) Z22)):GQ R p0 n0 c0 x3 Z22:=M.of h ok rfl
end Dn
namespace Ti
variable {x0:Int}
def M:Fw:=⟨prog,58,f58,[],[],false,[],[],[]⟩
def ok:M.Ok:=⟨AH.nil,mixed,func58,by kernel_rfl⟩
def start (h:Br (48<=x0) (R (.returned (.bool (decide (x0<=57)))) Z22) (R (.B false) Z22)):Spec prog 58 #[.int .u8 x0] Z22 R:=M.start h ok
end Ti
namespace I0
variable {s0:ByteArray}{x3 x4 x5:Int}
def M:Fw:=⟨prog,61,f61,[93],[],false,[],[],[(2000,[(0,wT),(3,wI),(4,wI),(5,wI)]),(508,[(4,wI)])]⟩
def ok:M.Ok:=⟨.cons call93 (AH.nil),mixed,func61,by kernel_rfl⟩
def AEi:=M.pt 0
def vP:=M.pt 1
def start (h:AG 93 #[.string s0] Z22 R (CI .i64 λx7 y=>Br (x7=0) (R (.returned (.I 0)) y) (Br (10<x7) (R (.returned (.I 0)) y) (∃G:UInt8,(0:Int)<=0/\(ByteArray.data s0)[Int.toNat 0]?=some G/\Br (((G.toNat:Int):Int)=48) (R (.returned (.I 0)) y) (AL (x7+1)/\Br (((x7+1):Int)≠(s0.size:Int)) (R (.returned (.I 0)) y) (AEi R s0 x7 0 0 y)))))):Spec prog 61 #[.string s0] Z22 R:=M.start h ok
def sJ (h:Br (x5<x3) (AL (10*x4)/\∃u35:UInt8,0<=x5/\(ByteArray.data s0)[x5.toNat]?=some u35/\Df (IntKind.u8.wrap ((u35.toNat:Int)-48)) λfC=>Df (IntKind.i64.wrap fC) λVA=>AL ((10*x4)+VA)/\AL (x5+1)/\AEi R s0 x3 (((10*x4)+VA)) (x5+1) Z22) (∃G:UInt8,0<=x3/\(ByteArray.data s0)[x3.toNat]?=some G/\Br (((G.toNat:Int):Int)=115) (vP R x4 Z22) (Br (((G.toNat:Int):Int)=109) (AL (x4*60)/\vP R (x4*60) Z22) (Br (((G.toNat:Int):Int)=104) (AL (x4*3600)/\vP R (x4*3600) Z22) (Br (((G.toNat:Int):Int)=100) (AL (x4*86400)/\vP R (x4*86400) Z22) (R (.returned (.I 0)) Z22)))))):AEi R s0 x3 x4 x5 Z22:=M.of h ok rfl
def AEj (h:Br (2147483648<=x4) (R (.returned (.I 0)) Z22) (R (.returned (.I x4)) Z22)):vP R x4 Z22:=M.of h ok rfl
end I0
namespace A8
variable {p0 SC AYZ AYa:Option Addr}{n0 c0 n21 QT AYb AYc AYd AYe:Nat}{x7 x8 FV GL fB RN AYf AEk AYg AYh x12:Int}{t9 AYi:Bool}{vK:ByteArray}
def M:Fw:=⟨prog,66,f66,[24],[11],false,[],[],[(488,[(7,wI),(8,wI),(9,wB),(21,wL),(22,wI),(23,wI)]),(1959,[(7,wI),(8,wI),(9,wB),(21,wL),(22,wI),(23,wI)]),(125342,[(7,wI),(8,wI),(9,wB),(11,.X 127 [.I .i64,.I .i64,.T,.L,.I .i64,.I .i64,.I .i64,.L,.B,.I .i64]),(12,wI),(21,wL),(22,wI),(23,wI)]),(250687,[(7,wI),(8,wI),(21,wL),(22,wI),(23,wI)])]⟩
def ok:M.Ok:=⟨.cons call24 (AH.nil),mixed,func66,by kernel_rfl⟩
def HR:=M.pt 0
def AEl:=M.pt 1
def Wg:=M.pt 2
def fG:=M.pt 3
def start (h:AG 24 #[.slice p0 n0 c0] Z22 R (λz y=>∃vQ ov G,z=(.tuple #[.I vQ,.I ov,.I G])/\Br (G≠0) (R (.T #[.I 0,.I 0]) y) (HR R 0 0 false p0 n0 c0 (n0:Int) 0 y))):Spec prog 66 #[.slice p0 n0 c0] Z22 R:=M.start h ok
def CF (h:Br (GL<FV) (Pq SC λNT aQ=>In GL (n21:Int)/\∃Tj ju zq zr zt zu Tl G jv zv zw zx zy zz,A2 Z22 NT (aQ+GL.toNat*10) [.I Tj,.I ju,.string zq,.slice zr zt zu,.I Tl,.I G,.I jv,.slice zv zw zx,.bool zy,.I zz]/\∀E4:Nat,Br (Tj≠2) (Br (Tj≠3) (AEl R x7 x8 t9 (aD NT aQ) n21 QT FV GL Z22) (AL (G+Tl)/\Br (Tj=2) (AL ((G+Tl)+300)/\Wg R x7 x8 t9 Tj ju zq zr zt zu Tl G jv zv zw zx zy zz (((G+Tl)+300)) (aD NT aQ) n21 QT FV GL Z22) (Wg R x7 x8 t9 Tj ju zq zr zt zu Tl G jv zv zw zx zy zz (G+Tl) (aD NT aQ) n21 QT FV GL Z22))) (AL (G+Tl)/\Br (Tj=2) (AL ((G+Tl)+300)/\Wg R x7 x8 t9 Tj ju zq zr zt zu Tl G jv zv zw zx zy zz (((G+Tl)+300)) (aD NT aQ) n21 QT FV GL Z22) (Wg R x7 x8 t9 Tj ju zq zr zt zu Tl G jv zv zw zx zy zz (G+Tl) (aD NT aQ) n21 QT FV GL Z22))) (R (.T #[.I x7,.I x8]) Z22)):HR R x7 x8 t9 SC n21 QT FV GL Z22:=M.of h ok rfl
def sK (h:AL (GL+1)/\HR R x7 x8 t9 SC n21 QT FV (GL+1) Z22):AEl R x7 x8 t9 SC n21 QT FV GL Z22:=M.of h ok rfl
def SE (h:Bn t9 (fG R (if x7<x12 then x12 else x7) AEk SC n21 QT FV GL Z22) (Br (AEk<x8) (fG R (if x7<x12 then x12 else x7) AEk SC n21 QT FV GL Z22) (fG R (if x7<x12 then x12 else x7) x8 SC n21 QT FV GL Z22))):Wg R x7 x8 t9 fB RN vK AYZ AYb AYc AYf AEk AYg AYa AYd AYe AYi AYh x12 SC n21 QT FV GL Z22:=M.WQ h ok rfl λ_=>by kernel_rfl
def Vi (h:AEl R x7 x8 true SC n21 QT FV GL Z22):fG R x7 x8 SC n21 QT FV GL Z22:=M.of h ok rfl
end A8
namespace Fu
variable {v0:Value}
def M:Fw:=⟨prog,70,f70,[103],[],false,[],[],[]⟩
def ok:M.Ok:=⟨.cons call103 (AH.nil),mixed,func70,by kernel_rfl⟩
def start (h:MC prog v0 zI #[] Z22 (AY R (CI .i64 λx5 y=>AL (x5-1)/\MC prog v0 R5 #[.I 0,(.I (x5-1))] y (AY R (λz G=>z=(.tuple #[])/\AG 103 #[v0,.I 0,(.I (x5-1))] G R (CB λt12 AK=>MC prog v0 AOk #[] AK (AY R (λz Ai=>∃vR,vR=z/\R (.returned vR) Ai)))))))):Spec prog 70 #[v0] Z22 R:=M.DL h ok [(0,.o (.V v0))] rfl rfl (by kernel_rfl)
end Fu
namespace BH
variable {s0:ByteArray}{x3 x4 x5 x6:Int}
def M:Fw:=⟨prog,83,f83,[],[],false,[],[],[(220,[(0,wT),(3,wI)]),(894,[(0,wT),(3,wI),(4,wI),(5,w8),(6,w8)]),(7164,[(0,wT),(3,wI),(4,wI),(5,w8),(6,w8)])]⟩
def ok:M.Ok:=⟨AH.nil,mixed,func83,by kernel_rfl⟩
def CD:=M.pt 0
def JW:=M.pt 1
def AAA:=M.pt 2
def start (h:CD R s0 0 Z22):Spec prog 83 #[.string s0] Z22 R:=M.start h ok
def A5 (h:Br (x3=(s0.size:Int)) (R (.B true) Z22) (∃G:UInt8,0<=x3/\(ByteArray.data s0)[x3.toNat]?=some G/\Br (((G.toNat:Int):Int)<128) (AL (x3+1)/\CD R s0 (x3+1) Z22) (Br ((194:Int)<=(G.toNat:Int)) (Br (((G.toNat:Int):Int)<=223) (JW R s0 x3 1 128 191 Z22) (Br ((224:Int)<=(G.toNat:Int)) (Br (((G.toNat:Int):Int)<=239) (Br (((G.toNat:Int):Int)=224) (JW R s0 x3 2 160 191 Z22) (Br (((G.toNat:Int):Int)=237) (JW R s0 x3 2 128 159 Z22) (JW R s0 x3 2 128 191 Z22))) (Br ((240:Int)<=(G.toNat:Int)) (Br (((G.toNat:Int):Int)<=244) (Br (((G.toNat:Int):Int)=240) (JW R s0 x3 3 144 191 Z22) (Br (((G.toNat:Int):Int)=244) (JW R s0 x3 3 128 143 Z22) (JW R s0 x3 3 128 191 Z22))) (R (.B false) Z22)) (R (.B false) Z22))) (Br ((240:Int)<=(G.toNat:Int)) (Br (((G.toNat:Int):Int)<=244) (Br (((G.toNat:Int):Int)=240) (JW R s0 x3 3 144 191 Z22) (Br (((G.toNat:Int):Int)=244) (JW R s0 x3 3 128 143 Z22) (JW R s0 x3 3 128 191 Z22))) (R (.B false) Z22)) (R (.B false) Z22)))) (Br ((224:Int)<=(G.toNat:Int)) (Br (((G.toNat:Int):Int)<=239) (Br (((G.toNat:Int):Int)=224) (JW R s0 x3 2 160 191 Z22) (Br (((G.toNat:Int):Int)=237) (JW R s0 x3 2 128 159 Z22) (JW R s0 x3 2 128 191 Z22))) (Br ((240:Int)<=(G.toNat:Int)) (Br (((G.toNat:Int):Int)<=244) (Br (((G.toNat:Int):Int)=240) (JW R s0 x3 3 144 191 Z22) (Br (((G.toNat:Int):Int)=244) (JW R s0 x3 3 128 143 Z22) (JW R s0 x3 3 128 191 Z22))) (R (.B false) Z22)) (R (.B false) Z22))) (Br ((240:Int)<=(G.toNat:Int)) (Br (((G.toNat:Int):Int)<=244) (Br (((G.toNat:Int):Int)=240) (JW R s0 x3 3 144 191 Z22) (Br (((G.toNat:Int):Int)=244) (JW R s0 x3 3 128 143 Z22) (JW R s0 x3 3 128 191 Z22))) (R (.B false) Z22)) (R (.B false) Z22)))))):CD R s0 x3 Z22:=M.of h ok rfl
def AEm (h:AL (x3+1)/\AAA R s0 (x3+1) x4 x5 x6 Z22):JW R s0 x3 x4 x5 x6 Z22:=M.of h ok rfl
def sL (h:Br (x4=0) (CD R s0 x3 Z22) (Br (x3=(s0.size:Int)) (R (.B false) Z22) (∃G:UInt8,0<=x3/\(ByteArray.data s0)[x3.toNat]?=some G/\Br (((G.toNat:Int):Int)<x5) (R (.B false) Z22) (∃u67:UInt8,0<=x3/\(ByteArray.data s0)[x3.toNat]?=some u67/\Br (x6<(u67.toNat:Int)) (R (.B false) Z22) (AL (x4-1)/\AL (x3+1)/\AAA R s0 (x3+1) (x4-1) 128 191 Z22))))):AAA R s0 x3 x4 x5 x6 Z22:=M.of h ok rfl
end BH
namespace Hu
variable {p0 p8:Option Addr}{n0 c0 n8 c8:Nat}{x9 x10:Int}
def M:Fw:=⟨prog,86,f86,[117,118],[4],false,[],[],[(232,[(8,wL),(9,wI),(10,wI)])]⟩
def ok:M.Ok:=⟨.cons call117 (.cons call118 (AH.nil)),mixed,func86,by kernel_rfl⟩
def Gc:=M.pt 0
def start (h:Br (8<(n0:Int)) (R (.returned (.I 41)) Z22) (Gc R p0 n0 c0 (n0:Int) 0 Z22)):Spec prog 86 #[.slice p0 n0 c0] Z22 R:=M.start h ok
def EE (h:Br (x10<x9) (Pq p8 λHV Jn=>In x10 (n8:Int)/\∃IU vS G,A2 Z22 HV (Jn+x10.toNat*3) [.I IU,.string vS,.string G]/\∀b4:Nat,AG 117 #[.I IU] Z22 R (CB λt16 y=>Bn t16 (R (.returned (.I 40)) y) (AG 118 #[.string vS] y R (CB λt21 AE=>Bn t21 (R (.returned (.I 40)) AE) (Br ((256:Int)<(G.size:Int)) (R (.returned (.I 40)) AE) (AL (x10+1)/\Gc R (aD HV Jn) n8 c8 x9 (x10+1) AE)))))) (R (.returned (.I 0)) Z22)):Gc R p8 n8 c8 x9 x10 Z22:=M.of h ok rfl
end Hu
namespace I1
variable {s0:ByteArray}{x3:Int}
def M:Fw:=⟨prog,93,f93,[58],[],false,[],[],[(224,[(0,wT),(3,wI)])]⟩
def ok:M.Ok:=⟨.cons call58 (AH.nil),mixed,func93,by kernel_rfl⟩
def GQ:=M.pt 0
def start (h:GQ R s0 0 Z22):Spec prog 93 #[.string s0] Z22 R:=M.start h ok
def BI (h:Br (x3<(s0.size:Int)) (∃G:UInt8,0<=x3/\(ByteArray.data s0)[x3.toNat]?=some G/\AG 58 #[(.int .u8 (G.toNat:Int))] Z22 R (CB λt12 y=>Bo t12 (AL (x3+1)/\GQ R s0 (x3+1) y) (R (.returned (.I x3)) y))) (R (.returned (.I x3)) Z22)):GQ R s0 x3 Z22:=M.of h ok rfl
end I1
namespace Ak
variable {q0 FC FP p2 Ii KF JT IC p8 ja aN p47:Option Addr}{Cm CN E8 EK Dg Dj GC Hq KG IM KH Kz IA IB au JS fE yD:Int}{E9 Jj:ByteArray}{FD FE FG FQ n2 c2 Ij Ik KI KJ JU JV ID IE n8 c8 n25 jb n12 WZ n47 c47:Nat}{EU LA:Bool}{v9:Value}
def M:Fw:=⟨prog,132,f132,[158,159,160],[4,6,11,14],false,[],[],[(488,[(2,wL),(4,.X 127 [.I .i64,.I .i64,.T,.L,.I .i64,.I .i64,.I .i64,.L,.B,.I .i64]),(6,.X 164 [.I .i64,.I .u64,.L,.L]),(8,wL),(9,wV),(25,wL),(26,wI),(27,wI)]),(2024,[(2,wL),(4,.X 127 [.I .i64,.I .i64,.T,.L,.I .i64,.I .i64,.I .i64,.L,.B,.I .i64]),(6,.X 164 [.I .i64,.I .u64,.L,.L]),(8,wL),(12,wL),(47,wL),(48,wI),(49,wI)]),(8103,[(2,wL),(4,.X 127 [.I .i64,.I .i64,.T,.L,.I .i64,.I .i64,.I .i64,.L,.B,.I .i64]),(6,.X 164 [.I .i64,.I .u64,.L,.L]),(8,wL),(12,wL),(47,wL),(48,wI),(49,wI)])]⟩
def ok:M.Ok:=⟨.cons call158 (.cons call159 (.cons call160 (AH.nil))),mixed,func132,by kernel_rfl⟩
def Dp:=M.pt 0
def Fv:=M.pt 1
def QW:=M.pt 2
def start (h:∀b4:Nat,∀b6:Nat,AI prog (Instr.makeMap 236 none) Z22 (λz y=>∃G,z=(.map (some G))/\AI prog (Instr.mapUpdate 236 (.map (some G)) (.I 11) (.func (.func 156) #[] #[])) y (λ_ AE=>AI prog (Instr.mapUpdate 236 (.map (some G)) (.I 12) (.func (.func 157) #[] #[])) AE (λ_ AK=>AI prog (Instr.lookup 236 (.map (some G)) (.I CN) false) AK (λz Ai=>∃v21,v21=z/\Pq p2 λaP cU=>In 0 (n2:Int)/\LS Ai aP (cU+2) λja n25 jb=>Dp R (aD aP cU) n2 c2 Cm CN E9 FC FD FE E8 EK Dg FP FG FQ EU Dj 0 0 none 0 0 none 0 0 none 0 0 v21 ja n25 jb (n25:Int) 0 Ai))))):Spec prog 132 #[.pointer q0,.agg #[.I Cm,.I CN,.string E9,.slice FC FD FE,.I E8,.I EK,.I Dg,.slice FP FG FQ,.bool EU,.I Dj],.slice p2 n2 c2] Z22 R:=M.start h ok
def Bp (h:Br (JS<au) (Pq ja λS8 cL=>In JS (n25:Int)/\∃G AAC AAD jR,A2 Z22 S8 (cL+JS.toNat*2) [.slice G AAC AAD,.U jR]/\∀E4:Nat,AG 158 #[.slice G AAC AAD] Z22 R (CS λp34 n34 c34 y=>∃(f38:Nat) (Jo Jp:Array Value),v9=.func (.func f38) Jo Jp/\Enters prog f38/\Spec prog f38 (Jo++#[.U jR]++Jp) y (AY R (CI .u64 λaY AE=>Al AE λaZ=>AI prog (G1 105 p8 n8 c8 aZ) (Hp.set AE aZ (.cells #[.slice p34 n34 c34,.U aY] 109 (0,0))) (CS λvF n41 mc AK=>AL (JS+1)/\Dp R p2 n2 c2 GC Hq Jj Ii Ij Ik KG IM KH KF KI KJ LA Kz IA IB JT JU JV IC ID IE vF n41 mc v9 (aD S8 cL) n25 jb au (JS+1) AK))))) (AG 159 #[] Z22 R (CS λyE n43 yF y=>Pq p2 λad xu=>In 0 (n2:Int)/\LS y ad (xu+3) λp47 n47 c47=>Fv R (aD ad xu) n2 c2 GC Hq Jj Ii Ij Ik KG IM KH KF KI KJ LA Kz IA IB JT JU JV IC ID IE p8 n8 c8 yE n43 yF p47 n47 c47 (n47:Int) 0 y))):Dp R p2 n2 c2 GC Hq Jj Ii Ij Ik KG IM KH KF KI KJ LA Kz IA IB JT JU JV IC ID IE p8 n8 c8 v9 ja n25 jb au JS Z22:=M.oO h ok rfl λ_ _=>by kernel_rfl
def Fm (h:Br (yD<fE) (Pq p47 λG o51=>In yD (n47:Int)/\∃AQK AQL AQM AQN AQO AQP,A2 Z22 G (o51+yD.toNat*2) [.slice AQK AQL AQM,.slice AQN AQO AQP]/\∀Ho:Nat,Pq aN λQR o57=>In Hq (n12:Int)/\∃v58,Hp.ld Z22 ⟨QR,(o57+Hq.toNat*1),none⟩=some v58/\∃(f63:Nat) (NU NV:Array Value),v58=.func (.func f63) NU NV/\Enters prog f63/\Spec prog f63 (NU++#[.slice AQN AQO AQP,.agg #[.I GC,.I Hq,.string Jj,.slice Ii Ij Ik,.I KG,.I IM,.I KH,.slice KF KI KJ,.bool LA,.I Kz],.slice p2 n2 c2]++NV) Z22 (AY R (λz y=>∃AQQ AQR,z=(.tuple #[.U AQQ,.bool AQR])/\Bo AQR (AG 158 #[.slice AQK AQL AQM] y R (CS λp70 n70 c70 AE=>Al AE λb73=>AI prog (G1 105 p8 n8 c8 b73) (Hp.set AE b73 (.cells #[.slice p70 n70 c70,.U AQQ] 109 (0,0))) (CS λp74 n74 c74 AK=>QW R p2 n2 c2 GC Hq Jj Ii Ij Ik KG IM KH KF KI KJ LA Kz IA IB JT JU JV IC ID IE p74 n74 c74 (aD QR o57) n12 WZ (aD G o51) n47 c47 fE yD AK))) (QW R p2 n2 c2 GC Hq Jj Ii Ij Ik KG IM KH KF KI KJ LA Kz IA IB JT JU JV IC ID IE p8 n8 c8 (aD QR o57) n12 WZ (aD G o51) n47 c47 fE yD y)))) (AG 160 #[.slice p8 n8 c8] Z22 R (λz y=>∃AHN AHO AHP AHQ AHR AHS AHT AHU AQV,z=(.tuple #[.agg #[.I AHN,.U AHO,.slice AHP AHQ AHR,.slice AHS AHT AHU],.I AQV])/\R (.T #[.agg #[.I AHN,.U AHO,.slice AHP AHQ AHR,.slice AHS AHT AHU],.I AQV]) y))):Fv R p2 n2 c2 GC Hq Jj Ii Ij Ik KG IM KH KF KI KJ LA Kz IA IB JT JU JV IC ID IE p8 n8 c8 aN n12 WZ p47 n47 c47 fE yD Z22:=M.oO h ok rfl λ_ _=>by kernel_rfl
def LV (h:AL (yD+1)/\Fv R p2 n2 c2 GC Hq Jj Ii Ij Ik KG IM KH KF KI KJ LA Kz IA IB JT JU JV IC ID IE p8 n8 c8 aN n12 WZ p47 n47 c47 fE (yD+1) Z22):QW R p2 n2 c2 GC Hq Jj Ii Ij Ik KG IM KH KF KI KJ LA Kz IA IB JT JU JV IC ID IE p8 n8 c8 aN n12 WZ p47 n47 c47 fE yD Z22:=M.oO h ok rfl λ_ _=>by kernel_rfl
end Ak
namespace UU
variable {s0:ByteArray}
def M:Fw:=⟨prog,181,f181,[221],[],false,[],[],[]⟩
def ok:M.Ok:=⟨.cons call221 (AH.nil),mixed,func181,by kernel_rfl⟩
def start (h:AG 221 #[.string s0] Z22 R (CI .i64 λx6 y=>Br (x6=0) (R (.B false) y) (Br (1<x6) (∃P2:UInt8,(0:Int)<=0/\(ByteArray.data s0)[Int.toNat 0]?=some P2/\Br (((P2.toNat:Int):Int)=48) (R (.B false) y) (Br (x6=(s0.size:Int)) (R (.returned (.bool (decide (x6<=15)))) y) (AL (x6+1)/\∃G,YF prog (Instr.sliceAt 9 (.string s0) (some (.I (x6+1))) none none) y (.string G)/\AG 221 #[.string G] y R (CI .i64 λMP AE=>∃u31:UInt8,0<=x6/\(ByteArray.data s0)[x6.toNat]?=some u31/\Br (((u31.toNat:Int):Int)=46) (Br (0<MP) (AL (x6+1)/\AL ((x6+1)+MP)/\Br ((((x6+1)+MP):Int)=(s0.size:Int)) (AL (x6+MP)/\R (.returned (.bool (decide (((x6+MP):Int)<=15)))) AE) (R (.B false) AE)) (R (.B false) AE)) (R (.B false) AE))))) (Br (x6=(s0.size:Int)) (R (.returned (.bool (decide (x6<=15)))) y) (AL (x6+1)/\∃G,YF prog (Instr.sliceAt 9 (.string s0) (some (.I (x6+1))) none none) y (.string G)/\AG 221 #[.string G] y R (CI .i64 λMP AE=>∃u31:UInt8,0<=x6/\(ByteArray.data s0)[x6.toNat]?=some u31/\Br (((u31.toNat:Int):Int)=46) (Br (0<MP) (AL (x6+1)/\AL ((x6+1)+MP)/\Br ((((x6+1)+MP):Int)=(s0.size:Int)) (AL (x6+MP)/\R (.returned (.bool (decide (((x6+MP):Int)<=15)))) AE) (R (.B false) AE)) (R (.B false) AE)) (R (.B false) AE))))))):Spec prog 181 #[.string s0] Z22 R:=M.start h ok
end UU
namespace UW
def M:Fw:=⟨prog,187,f187,[],[],false,[],[],[]⟩
def ok:M.Ok:=⟨AH.nil,mixed,func187,by kernel_rfl⟩
def start (h:Al Z22 λb1=>R (.returned (.slice (aD b1 0) 5 5)) (Hp.set Z22 b1 (.cells #[.nilFunc,(.func (.func 225) #[] #[]),(.func (.func 226) #[] #[]),(.func (.func 227) #[] #[]),(.func (.func 228) #[] #[])] 268 (0,0)))):Spec prog 187 #[] Z22 R:=M.start h ok
end UW
namespace Wh
variable {v0:Value}
def M:Fw:=⟨prog,193,f193,[],[],false,[],[],[]⟩
def ok:M.Ok:=⟨AH.nil,mixed,func193,by kernel_rfl⟩
def start (h:EN prog 231 #[v0] Z22 (λz y=>∃x4,(Value.float .f64 x4)=z/\R (.returned (Value.float .f64 x4)) y)):Spec prog 193 #[v0] Z22 R:=M.DL h ok [(0,.o (.V v0))] rfl rfl (by kernel_rfl)
end Wh
namespace UX
variable {x0:Int}
def M:Fw:=⟨prog,196,f196,[183,192],[],false,[],[],[]⟩
def ok:M.Ok:=⟨.cons call183 (.cons call192 (AH.nil)),mixed,func196,by kernel_rfl⟩
def start (h:AG 192 #[.U x0] Z22 R (λz y=>∃x4,(Value.float .f64 x4)=z/\AG 183 #[(Value.float .f64 x4)] y R (CI .u64 λx5 G=>R (.returned (.U x5)) G))):Spec prog 196 #[.U x0] Z22 R:=M.start h ok
end UX
namespace SF
variable {f0:Fn}{a0 c0:Array Value}
def M:Fw:=⟨prog,198,f198,[],[],false,[],[],[]⟩
def ok:M.Ok:=⟨AH.nil,mixed,func198,by kernel_rfl⟩
def start (h:Al Z22 λb1=>R (.returned (.func (.func 235) #[] #[(.pointer (aD b1 0))])) (Hp.set Z22 b1 (.cells #[(Value.func f0 a0 c0)] 280 (0,0)))):Spec prog 198 #[(Value.func f0 a0 c0)] Z22 R:=M.DL h ok [(0,.o (.V (Value.func f0 a0 c0)))] rfl rfl (by kernel_rfl)
end SF
namespace Qu
variable {iE p1a:Option Addr}{R8 cG n1a c1a:Nat}{DT CN:Int}
def M:Fw:=⟨prog,206,f206,[36],[2,3],false,[],[],[]⟩
def ok:M.Ok:=⟨.cons call36 (AH.nil),mixed,func206,by kernel_rfl⟩
def start (h:∀b2:Nat,∀b3:Nat,AG 36 #[.slice iE R8 cG,.slice p1a n1a c1a] Z22 R (CI .i64 λx9 y=>R (.returned (.I x9)) y)):Spec prog 206 #[.agg #[.slice iE R8 cG,.U DT],.agg #[.slice p1a n1a c1a,.U CN]] Z22 R:=M.start h ok
end Qu
namespace Gk
variable {p0:Option Addr}{n0 c0:Nat}{s1:ByteArray}
def M:Fw:=⟨prog,209,f209,[237],[],false,[],[],[]⟩
def ok:M.Ok:=⟨.cons call237 (AH.nil),mixed,func209,by kernel_rfl⟩
def start (h:AG 237 #[.slice p0 n0 c0,.string s1] Z22 R (CI .i64 λx7 y=>R (.returned (.bool (decide (0<=x7)))) y)):Spec prog 209 #[.slice p0 n0 c0,.string s1] Z22 R:=M.start h ok
end Gk
namespace HW
variable {q0:Option Addr}
def M:Fw:=⟨prog,218,f218,[31,95,97,98,99,100,239,240,241,242],[2],false,[],[],[]⟩
def ok:M.Ok:=⟨.cons call31 (.cons call95 (.cons call97 (.cons call98 (.cons call99 (.cons call100 (.cons call239 (.cons call240 (.cons call241 (.cons call242 (AH.nil)))))))))),mixed,func218,by kernel_rfl⟩
def start (h:AG 31 #[.pointer q0] Z22 R (λz y=>∃x7a x7b s7c x7d,z=(.agg #[.I x7a,.I x7b,.string s7c,.I x7d])/\∀b2:Nat,AG 239 #[] y R (CS λp8 n8 c8 AE=>AG 95 #[.slice p8 n8 c8,.string s7c] AE R (CI .i64 λx11 AK=>AG 240 #[] AK R (CS λaN n12 WZ Ai=>AG 95 #[.slice aN n12 WZ,.string s7c] Ai R (CI .i64 λx15 CC=>Br (x7a=1) (AG 97 #[.pointer q0] CC R (λz G2=>∃AEX jn AKG AKH,z=(.agg #[.I AEX,.I jn,.string AKG,.I AKH])/\AG 100 #[.pointer q0,.agg #[.I 1,.I 0,.string s7c,.N,.I 0,.I 0,.I 0,.N,.bool false,.I 0]] G2 R (λz G=>z=(.tuple #[])/\R (.T #[]) G))) (AG 98 #[.pointer q0,.I 5,(.string (ByteArray.mk #[40]))] CC R (CB λt31 G2=>Bo t31 (AG 241 #[.pointer q0] G2 R (λz G=>z=(.tuple #[])/\R (.T #[]) G)) (Br (x7a=3) (Br (0<x11) (AG 97 #[.pointer q0] G2 R (λz G=>∃QZ LY NW AEn,z=(.agg #[.I QZ,.I LY,.string NW,.I AEn])/\AG 241 #[.pointer q0] G R (λz R7=>z=(.tuple #[])/\AG 100 #[.pointer q0,(.agg #[.I 4,.I x11,(.string (ByteArray.mk #[])),.N,.I 0,.I 0,.I 0,.N,.bool false,.I 1])] R7 R (λz TW=>z=(.tuple #[])/\R (.T #[]) TW)))) (Br (x7a=3) (Br (0<x15) (AG 97 #[.pointer q0] G2 R (λz G=>∃Wi I2 AAE AAF,z=(.agg #[.I Wi,.I I2,.string AAE,.I AAF])/\Al G λb5=>AI prog (Instr.storeAt 127 (.pointer (aD b5 0)) (.agg #[.I 5,.I x15,(.string (ByteArray.mk #[])),.N,.I 0,.I 0,.I 0,.N,.bool false,.I 1])) (Hp.set G b5 (.cells #[.I 0,.I 0,(.string (ByteArray.mk #[])),.N,.I 0,.I 0,.I 0,.N,.bool false,.I 0] 127 (0,0))) (λ_ R7=>AG 99 #[.pointer q0,(.pointer (aD b5 0)),(.agg #[(.string (ByteArray.mk #[98,121])),(.string (ByteArray.mk #[119,105,116,104,111,117,116]))]),.agg #[.I 1,.I 2]] R7 R (λz TW=>z=(.tuple #[])/\AG 241 #[.pointer q0] TW R (λz H7=>z=(.tuple #[])/\∃Wj Wk Wl Wm Wn Wo Wp Wq Wr Ws Wt Wu Wv Ww,A2 H7 b5 0 [.I Wj,.I Wk,.string Wl,.slice Wm Wn Wo,.I Wp,.I Wq,.I Wr,.slice Ws Wt Wu,.bool Wv,.I Ww]/\AG 100 #[.pointer q0,.agg #[.I Wj,.I Wk,.string Wl,.slice Wm Wn Wo,.I Wp,.I Wq,.I Wr,.slice Ws Wt Wu,.bool Wv,.I Ww]] H7 R (λz TY=>z=(.tuple #[])/\R (.T #[]) TY)))))) (AG 242 #[.pointer q0] G2 R (λz G=>z=(.tuple #[])/\R (.T #[]) G))) (AG 242 #[.pointer q0] G2 R (λz G=>z=(.tuple #[])/\R (.T #[]) G)))) (Br (x7a=3) (Br (0<x15) (AG 97 #[.pointer q0] G2 R (λz G=>∃Wi I2 AAE AAF,z=(.agg #[.I Wi,.I I2,.string AAE,.I AAF])/\Al G λb5=>AI prog (Instr.storeAt 127 (.pointer (aD b5 0)) (.agg #[.I 5,.I x15,(.string (ByteArray.mk #[])),.N,.I 0,.I 0,.I 0,.N,.bool false,.I 1])) (Hp.set G b5 (.cells #[.I 0,.I 0,(.string (ByteArray.mk #[])),.N,.I 0,.I 0,.I 0,.N,.bool false,.I 0] 127 (0,0))) (λ_ R7=>AG 99 #[.pointer q0,(.pointer (aD b5 0)),(.agg #[(.string (ByteArray.mk #[98,121])),(.string (ByteArray.mk #[119,105,116,104,111,117,116]))]),.agg #[.I 1,.I 2]] R7 R (λz TW=>z=(.tuple #[])/\AG 241 #[.pointer q0] TW R (λz H7=>z=(.tuple #[])/\∃Wj Wk Wl Wm Wn Wo Wp Wq Wr Ws Wt Wu Wv Ww,A2 H7 b5 0 [.I Wj,.I Wk,.string Wl,.slice Wm Wn Wo,.I Wp,.I Wq,.I Wr,.slice Ws Wt Wu,.bool Wv,.I Ww]/\AG 100 #[.pointer q0,.agg #[.I Wj,.I Wk,.string Wl,.slice Wm Wn Wo,.I Wp,.I Wq,.I Wr,.slice Ws Wt Wu,.bool Wv,.I Ww]] H7 R (λz TY=>z=(.tuple #[])/\R (.T #[]) TY)))))) (AG 242 #[.pointer q0] G2 R (λz G=>z=(.tuple #[])/\R (.T #[]) G))) (AG 242 #[.pointer q0] G2 R (λz G=>z=(.tuple #[])/\R (.T #[]) G)))))))))))):Spec prog 218 #[.pointer q0] Z22 R:=M.start h ok
end HW
namespace Hv
variable {s0:ByteArray}{x3:Int}
def M:Fw:=⟨prog,221,f221,[],[],false,[],[],[(224,[(0,wT),(3,wI)])]⟩
def ok:M.Ok:=⟨AH.nil,mixed,func221,by kernel_rfl⟩
def GQ:=M.pt 0
def start (h:GQ R s0 0 Z22):Spec prog 221 #[.string s0] Z22 R:=M.start h ok
def BI (h:Br (x3<(s0.size:Int)) (∃G:UInt8,0<=x3/\(ByteArray.data s0)[x3.toNat]?=some G/\Br ((48:Int)<=(G.toNat:Int)) (∃u17:UInt8,0<=x3/\(ByteArray.data s0)[x3.toNat]?=some u17/\Br (((u17.toNat:Int):Int)<=57) (AL (x3+1)/\GQ R s0 (x3+1) Z22) (R (.returned (.I x3)) Z22)) (R (.returned (.I x3)) Z22)) (R (.returned (.I x3)) Z22)):GQ R s0 x3 Z22:=M.of h ok rfl
end Hv
namespace Gm
variable {iE:Option Addr}{R8 cG:Nat}{mZ s1:ByteArray}
def M:Fw:=⟨prog,226,f226,[],[2],false,[],[],[]⟩
def ok:M.Ok:=⟨AH.nil,mixed,func226,by kernel_rfl⟩
def start (h:∀b2:Nat,R (.returned (.bool (!(ByteArray.toList s1==ByteArray.toList mZ)))) Z22):Spec prog 226 #[.agg #[.slice iE R8 cG,.string mZ],.string s1] Z22 R:=M.start h ok
end Gm
namespace jw
variable {x0:Int}
def M:Fw:=⟨prog,238,f238,[196],[],false,[],[],[]⟩
def ok:M.Ok:=⟨.cons call196 (AH.nil),mixed,func238,by kernel_rfl⟩
def start (h:AG 196 #[.U x0] Z22 R (CI .u64 λx4 y=>R (.returned (.bool (decide (x4=9221120237041090560)))) y)):Spec prog 238 #[.U x0] Z22 R:=M.start h ok
end jw
namespace Wx
def M:Fw:=⟨prog,240,f240,[],[],false,[],[],[]⟩
def ok:M.Ok:=⟨AH.nil,mixed,func240,by kernel_rfl⟩
def start (h:Al Z22 λb1=>R (.returned (.slice (aD b1 0) 6 6)) (Hp.set Z22 b1 (.cells #[(.string (ByteArray.mk #[])),(.string (ByteArray.mk #[115,117,109])),(.string (ByteArray.mk #[109,105,110])),(.string (ByteArray.mk #[109,97,120])),(.string (ByteArray.mk #[97,118,103])),(.string (ByteArray.mk #[99,111,117,110,116]))] 9 (0,0)))):Spec prog 240 #[] Z22 R:=M.start h ok
end Wx
namespace Cj
variable {s0:ByteArray}{x1:Int}
def M:Fw:=⟨prog,243,f243,[267,268],[],false,[],[],[]⟩
def ok:M.Ok:=⟨.cons call267 (.cons call268 (AH.nil)),mixed,func243,by kernel_rfl⟩
def start (h:Br (x1=32) (AG 267 #[.string s0] Z22 R (λz y=>∃G Tg AQX,z=(.tuple #[G,.I Tg,AQX])/\AI prog (convert 329 258 G) y (λz AE=>∃Ce,(Value.float .f64 Ce)=z/\R (.T #[(Value.float .f64 Ce),.I Tg,AQX]) AE))) (AG 268 #[.string s0] Z22 R (λz y=>∃AQY jn AQZ,z=(.tuple #[AQY,.I jn,AQZ])/\R (.T #[AQY,.I jn,AQZ]) y))):Spec prog 243 #[.string s0,.I x1] Z22 R:=M.start h ok
end Cj
namespace HX
variable {q0 q1:Option Addr}{jU Vf WX x3d:Int}{s2b s2c s3c:ByteArray}
def M:Fw:=⟨prog,264,f264,[65,86],[6,7],false,[(1,10,false)],[],[]⟩
def ok:M.Ok:=⟨.cons call65 (.cons call86 (AH.nil)),mixed,func264,by kernel_rfl⟩
def start (h:∀b6:Nat,∀b7:Nat,Pq q1 λDk G=>LS Z22 Dk (G+3) λaN n12 WZ=>Al Z22 λHo=>AI prog (G1 112 aN n12 WZ Ho) (Hp.set Z22 Ho (.cells #[.I jU,.string s2b,.string s2c] 172 (0,0))) (CS λVc n15 Ta y=>AI prog (Instr.storeAt 112 (.pointer (aD Dk (G+3))) (.slice Vc n15 Ta)) y (λ_ AE=>LS AE Dk (G+3) λSC n21 QT=>AG 86 #[.slice SC n21 QT] AE R (CI .i64 λFV AK=>Br (FV≠0) (AG 65 #[.pointer q0,.I 183,.agg #[.I Vf,.I WX,.string s3c,.I x3d]] AK R (λz Ai=>z=(.tuple #[])/\R (.T #[]) Ai)) (R (.T #[]) AK))))):Spec prog 264 #[.pointer q0,.pointer q1,.agg #[.I jU,.string s2b,.string s2c],.agg #[.I Vf,.I WX,.string s3c,.I x3d]] Z22 R:=M.start h ok
end HX
namespace GF
variable {s0:ByteArray}{x3 x8 x9 x16:Int}{v4 v2:Value}{t11:Bool}
def M:Fw:=⟨prog,268,f268,[282,283,284,289,290,291,293,294],[],false,[],[],[(254,[(0,wT),(3,wI),(4,wV)]),(8190,[(2,wV),(3,wI),(4,wV)]),(32446,[(0,wT),(3,wI),(4,wV),(8,wU),(9,wI),(11,wB),(16,wU)])]⟩
def ok:M.Ok:=⟨.cons call282 (.cons call283 (.cons call284 (.cons call289 (.cons call290 (.cons call291 (.cons call293 (.cons call294 (AH.nil)))))))),mixed,func268,by kernel_rfl⟩
def AYm:=M.pt 0
def AQb:=M.pt 2
def start (h:AG 282 #[.string s0] Z22 R (λz y=>∃AQc Wy AQd,z=(.tuple #[AQc,.I Wy,.bool AQd])/\Bo AQd (R (.T #[AQc,.I Wy,.nilIface]) y) (AG 283 #[.string s0] y R (λz AE=>∃fH fI AEo AKb AQe G AQf,z=(.tuple #[.U fH,.I fI,.bool AEo,.bool AKb,.bool AQe,.I G,.bool AQf])/\Bn AQf (R (.T #[.float .f64 0,.I G,(.iface 311 (.I 2))]) AE) (Bo AQe (∃s53,YF prog (Instr.sliceAt 9 (.string s0) none (some (.I G)) none) AE (.string s53)/\AG 284 #[.string s53,(.pointer (aD 6 0)),.U fH,.I fI,.bool AEo,.bool AKb] AE R (λz AK=>∃AQg AQh,z=(.tuple #[AQg,AQh])/\R (.T #[AQg,.I G,AQh]) AK)) (LB AE 5 0 λt64=>Bo t64 (AG 291 #[.bool AEo] AE R (CI .u64 λx66 AK=>((0:Int)<=63/\63<=((IntKind.bits .u64:Nat):Int))/\Df (IntKind.u64.wrap (x66*2^Int.toNat 63)) λoz=>Br (fH=0) (Df (Go.bits .or .u64 oz 0) λx71=>EN prog 292 #[.U x71] AK (λz Ai=>∃x72,(Value.float .f64 x72)=z/\R (.T #[(Value.float .f64 x72),.I G,.nilIface]) Ai)) (Br (310<fI) (Df (Go.bits .or .u64 oz 9218868437227405312) λx77=>EN prog 292 #[.U x77] AK (λz Ai=>∃x78,(Value.float .f64 x78)=z/\R (.T #[(Value.float .f64 x78),.I G,(.iface 311 (.I 1))]) Ai)) (Br (fI<(-345)) (Df (Go.bits .or .u64 oz 0) λx84=>EN prog 292 #[.U x84] AK (λz Ai=>∃x85,(Value.float .f64 x85)=z/\R (.T #[(Value.float .f64 x85),.I G,.nilIface]) Ai)) (Bn AKb (AG 293 #[.U fH,.I fI,.bool AEo] AK R (λz Ai=>∃AQi AQj,z=(.tuple #[AQi,.bool AQj])/\Bo AQj (R (.T #[AQi,.I G,.nilIface]) Ai) (AQb R s0 G .nilIface fH fI false oz Ai))) (AQb R s0 G .nilIface fH fI true oz AK)))))) (AYm R s0 G .nilIface AE))))))):Spec prog 268 #[.string s0] Z22 R:=M.start h ok
end GF
namespace DV
variable {t0:Bool}
def M:Fw:=⟨prog,291,f291,[],[],false,[],[],[]⟩
def ok:M.Ok:=⟨AH.nil,mixed,func291,by kernel_rfl⟩
def start (h:Bo t0 (R (.returned (.U 1)) Z22) (R (.returned (.U 0)) Z22)):Spec prog 291 #[.bool t0] Z22 R:=M.start h ok
end DV
namespace Jq
variable {s0 s1:ByteArray}
def M:Fw:=⟨prog,297,f297,[322],[],false,[],[],[]⟩
def ok:M.Ok:=⟨.cons call322 (AH.nil),mixed,func297,by kernel_rfl⟩
def start (h:AG 322 #[.string s0,.string s1] Z22 R (CB λt7 y=>R (.B t7) y)):Spec prog 297 #[.string s0,.string s1] Z22 R:=M.start h ok
end Jq
end TwW
end
end
