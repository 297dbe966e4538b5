/-
  Part 2 of the proof that the law EvalInstantsUptoCardSaid of the given program answers true for every input of the given statement; the input reads behind the call as it did. (The texts: packed from 6 texts. Names are shortened by the packing program, for the bound on size.)
-/
import Derived.Test.YtamakbhlhpaiiaaGreatDoorA1
set_option linter.all false
section
namespace Tw
open Go
variable [G9]
def u7 (P:Program):Op→Bool
 | .call c=>match c.callee with
  | .builtin .len=>false
  | .builtin .cap=>false
  | .builtin .min=>match c.argTypes.toList with
   | T::_=>AHl P T
   | []=>false
  | .builtin .max=>match c.argTypes.toList with
   | T::_=>AHl P T
   | []=>false
  | .builtin .real=>false
  | .builtin .imag=>false
  | .builtin .complex=>false
  | _=>true
 | .convert T T' _=>match P.underlying T,P.underlying T' with
  | some (.int _),some (.int _)=>false
  | _,_=>true
 | .box ..=>true
 | .alloc ..=>true
 | .store ..=>true
 | .buildSlice ..=>true
 | .makeSlice ..=>true
 | .mapUpdate ..=>true
 | .makeMap ..=>true
 | .insert ..=>true
 | .range ..=>true
 | .next ..=>true
 | .lookup ..=>true
 | .entryStore ..=>true
 | .mapEntry ..=>true
 | .makeChan ..=>true
 | .binOp b T _ _ _=>flB b&&AHl P T
 | _=>false
def qp (s:S):Option Operand→Option (Option Value)
 | none=>some none
 | some x=>match s.op x with
  | some v=>some (some (v.den s.vl))
  | none=>none
def ABj (P:Program)(b:BinOp)(T:TypeId)(x y:Option SV):Bool:=match eW x,eW y with
 | some _,some _=>true
 | _,_=>match P.underlying T with
  | some .string=>match b with
   | .eql=>true
   | .neq=>true
   | .add=>true
   | _=>false
  | some (.pointer _)=>true
  | some .bool=>true
  | _=>false
def AVn:Option SV→Bool
 | some (.v (.a (.sl _ _ _)))=>true
 | _=>false
def anyM (P:Program)(op:Op)(ty:TypeId)(s:S):Option (Sem Value):=match op with
 | .slice T x lo hi mx=>match AVn (s.op x)&&mx.isNone with
  | true=>none
  | false=>match s.op x,qp s lo,qp s hi,qp s mx with
   | some w,some l,some h,some m=>some (Instr.sliceAt T (w.den s.vl) l h m)
   | _,_,_,_=>none
 | .unOp u _ x=>match u,s.op x with
  | .not,_=>none
  | .neg,v=>match eW v,v with
   | some _,_=>none
   | none,some v=>some (Op.unary .neg (v.den s.vl))
   | none,none=>none
  | u,some v=>some (Op.unary u (v.den s.vl))
  | _,none=>none
 | .binOp b T x y _=>match ABj P b T (s.op x) (s.op y) with
  | true=>none
  | false=>match s.op x,s.op y with
   | some u,some v=>some (do eqGuard b T x y (u.den s.vl) (v.den s.vl);binOp b T (u.den s.vl) (v.den s.vl))
   | _,_=>none
 | .call c=>match c.callee,c.args.toList,c.argTypes.toList with
  | .builtin .len,[x],[T]=>match s.op x with
   | some (.v (.a (.mp m)))=>some (Builtin.len_ #[T] ty #[.map m])
   | _=>none
  | .builtin .real,[x],_=>match s.op x with
   | some v=>some (Builtin.real_ c.argTypes ty #[v.den s.vl])
   | none=>none
  | .builtin .imag,[x],_=>match s.op x with
   | some v=>some (Builtin.imag_ c.argTypes ty #[v.den s.vl])
   | none=>none
  | .builtin .complex,[x,y],_=>match s.op x,s.op y with
   | some u,some v=>some (Builtin.complex_ c.argTypes ty #[u.den s.vl,v.den s.vl])
   | _,_=>none
  | _,_,_=>none
 | _=>none
theorem TB {s:S}{J:Env}{x:Option Operand}{v:Option Value}(h:qp s x=some v):x.map (AD (s.e J))=v:=by
 cases x with
 | none=>simp only[qp,AiO]at h;subst h;rfl
 | some x=>
  simp only[qp]at h;split at h
  ·rename_i u hu;cases h;simp only[Aiv];rw[ev hu]
  ·cases h
theorem qt {P:Program}{op:Op}{ty:TypeId}{s:S}{m:Sem Value}(h:anyM P op ty s=some m)(J:Env):∀o:Oper,o.op=op→o.type=ty→execOp (AD (s.e J)) o=(do pure (Next.value (←m))):=fun o ho ht=>by
 unfold anyM at h;split at h
 ·rename_i T x lo hi mx;split at h
  ·cases h
  ·split at h
   ·rename_i w l hh mm h1 h2 h3 h4;cases h;simp only[execOp,ho,TB h2,TB h3,TB h4,ev h1]
   ·cases h
 ·rename_i u T x;split at h
  ·cases h
  ·split at h
   ·cases h
   ·rename_i hv;cases h;simp only[execOp,ho,ev hv]
   ·cases h
  ·rename_i hv;cases h;simp only[execOp,ho,ev hv]
  ·cases h
 ·rename_i b T x y T';split at h
  ·cases h
  ·split at h
   ·rename_i u v hu hv;cases h;simp only[execOp,ho,ev hu,ev hv]
   ·cases h
 ·rename_i c;obtain⟨ce,AiJ,ts⟩:=c;split at h
  ·rename_i x T h1 h2 h3;simp only at h1 h2 h3;have e1:AiJ=#[x]:=by rw[←Aip];simpa using h2
   have e2:ts=#[T]:=by rw[←Aip];simpa using h3
   subst h1 e1 e2;split at h
   ·rename_i mm hx;cases h;exact kW (by rw[ev hx];rfl) o ho ht
   ·cases h
  ·rename_i x h1 h2;simp only at h1 h2 h;have e1:AiJ=#[x]:=by rw[←Aip];simpa using h2
   subst h1 e1;split at h
   ·rename_i v hv;cases h;exact UG (ev hv) o ho ht
   ·cases h
  ·rename_i x h1 h2;simp only at h1 h2 h;have e1:AiJ=#[x]:=by rw[←Aip];simpa using h2
   subst h1 e1;split at h
   ·rename_i v hv;cases h;exact UH (ev hv) o ho ht
   ·cases h
  ·rename_i x y h1 h2;simp only at h1 h2 h;have e1:AiJ=#[x,y]:=by rw[←Aip];simpa using h2
   subst h1 e1;split at h
   ·rename_i u v hu hv;cases h;exact NY (ev hu) (ev hv) o ho ht
   ·cases h
  ·cases h
 ·cases h
def AHm (P:Program)(ty:TypeId)(m:Sem Value)(s:S)(K:SV→S→Prop):Prop:=s.ex P ty fun v s=>YF P m s.σ (v.den s.vl)∧K v s
theorem WU {P:Program}{op:Op}{ty:TypeId}{s:S}{m:Sem Value}{K:SV→S→Prop}(hm:anyM P op ty s=some m)(h:AHm P ty m s K):∃v s',s.LP s'∧(∀J,Yd P (s.e J) s.b s.σ op ty (v.den s'.vl))∧K v s':=by
 obtain⟨v,s',h1,hy,hk⟩:=S.WS h;rw[h1.σ]at hy;exact⟨v,s',h1,fun J=>Yd.any (qt hm J) hy,hk⟩
def WV (ops:Array Oper)(gd:Option (Nat×Bool))(s:S)(K:Bool→S→Prop):Prop:=match gd with
 | none=>K true s
 | some (j,want)=>match (ops[j]?).bind (·.dst) with
  | none=>False
  | some d=>match bh s.env d with
   | some (.v (.a .un))=>K false s
   | v=>s.onV v fun t s=>K (t==want) s
theorem MP {ops:Array Oper}{gd:Option (Nat×Bool)}{s:S}{K:Bool→S→Prop}(h:WV ops gd s K):∃b s',s.LP s'∧(∀J,AY ops (s.e J) gd=b)∧K b s':=by
 unfold WV at h;split at h
 ·exact⟨true,s,.refl s,fun _=>rfl,h⟩
 ·rename_i j want;split at h
  ·cases h
  ·rename_i d hd;split at h
   ·rename_i hv;refine⟨false,s,.refl s,fun J=>?_,h⟩;have:s.e J d=undef:=Gn hv;simp only[AY,hd,this];rfl
   ·obtain⟨t,s',x,h1,h2,h3,h4,h⟩:=S.Hx h;refine⟨_,s',h1,fun J=>?_,h⟩;have:s.e J d=.bool t:=(Gn h3).trans h4;simp only[AY,hd,this];cases t<;>cases want<;>rfl
def oP (J:Env)(K:S→Prop):Env→Bx→Hp→Prop:=fun e bx σ=>∃s,e=s.e J∧bx=s.b∧σ=s.σ∧K s
structure Cx extends k9 where
 n:Nat
 RV:List (Nat×TypeId):=[]
structure Cx.Ok (c:Cx)(g:Gl):Prop where
 P:c.P=g.P
 R:c.R=g.R
 E:AH g.P c.RU
 n:c.n=g.n
 JY:g.JY=none
 ds:g.ds=[]
def kp0:KP:=fun _ _ F=>F
def Uu (l:List Hv)(i:Nat)(o:Nat)(xs:List DN):List Hv:=match l with
 | []=>[]
 | (j,t,cs)::l=>bif Nat.beq j i then(j,t,kv cs o xs)::l else(j,t,cs)::Uu l i o xs
def WW {α:Type}:List α→Nat
 | []=>0
 | _::l=>WW l+1
theorem Ve {α:Type}:∀l:List α,WW l=l.length
 | []=>rfl
 | _::l=>by simp only[WW,AjB];rw[Ve l]
def TC:List DN→List Value
 | []=>[]
 | .raw v::l=>v::TC l
 | .un::l=>undef::TC l
 | _::l=>TC l
def AHn (F:Prop):List Value→Prop
 | []=>F
 | [v]=>(Value.oneCell' v=true)∧F
 | l=>AHo l∧F
where
 AHo:List Value→Prop
  | []=>True
  | [v]=>Value.oneCell' v=true
  | v::l=>Value.oneCell' v=true∧AHo l
def SV.lC:SV→Option (List DN)
 | .v (.a x)=>some [x]
 | .v (.agg l)=>some l
 | .Z3 _=>none
def mapOf (P:Program)(l:List (Nat×TypeId))(x:Operand):Option (TypeId×TypeId):=match x with
 | .tmp t=>match l.find? fun p=>Nat.beq p.1 t with
  | some p=>match P.underlying p.2 with
   | some (.map k v)=>some (k,v)
   | _=>none
  | none=>none
 | _=>none
def vA (c:Cx)(dst:Option Nat)(x:Operand)(ty:TypeId)(s:S)(K:S→Prop):Prop:=match dst,s.op x,mapOf c.P c.RV x with
 | some d,some u,some (tk,tv)=>AK c.P (Instr.next (u.den s.vl) false ty) s.σ (fun v σ1=>(v=(.tuple #[(.bool false)])∧K ((s.hp σ1).put (some d) (.Z3 [.a (.bl false)]))) ∨
  (match s.ok with
   | true=>ex1 c.P tk s.vl fun a vl=>ex1 c.P tv vl fun b vl=>v=(SV.Z3 [.a (.bl true),a,b]).den vl∧K (((s.hp σ1).w vl).put (some d) (.Z3 [.a (.bl true),a,b]))
   | false=>False))
 | _,_,_=>False
def AHp (c:Cx)(T:TypeId)(i o:Nat)(v:SV)(s:S)(K:S→Prop):Prop:=match v.lC,fN c.P T with
 | some l,some n=>match fV s.bx i with
  | some (t,cs)=>match Nat.beq (WW l) n&&Nat.ble (o+WW l) (WW cs) with
   | true=>AHn (K ⟨s.env,Uu s.bx i o l,s.vl,s.σ⟩) (TC l)
   | false=>False
  | none=>False
 | _,_=>False
def vB (c:Cx)(ops:Array Oper)(i:Nat)(s:S)(K:S→Prop):Prop:=match ops[i]? with
 | none=>False
 | some o=>match J1 o.dst c.n with
  | false=>False
  | true=>WV ops o.guard s fun b s=>match b with
   | false=>K (s.put o.dst (.at .un))
   | true=>match o.op with
    | .load T x=>ldV c.P T x s fun _ v s=>K (s.put o.dst v)
    | .mapUpdate T m k v=>match o.dst,s.op m,s.op k,s.op v with
     | none,some m,some k,some v=>AK c.P (Instr.mapUpdate T (m.den s.vl) (k.den s.vl) (v.den s.vl)) s.σ (fun _ σ1=>K (s.hp σ1))
     | _,_,_,_=>False
    | .insert T m k v=>match o.dst,s.op m,s.op k,s.op v with
     | none,some m,some k,some v=>AK c.P (Instr.mapUpdate T (m.den s.vl) (k.den s.vl) (v.den s.vl)) s.σ (fun _ σ1=>K (s.hp σ1))
     | _,_,_,_=>False
    | .next x false=>vA c o.dst x o.type s K
    | .entry x=>match s.op x,mapOf c.P c.RV x with
     | some u,some (tk,tv)=>AK c.P (Instr.entry (u.den s.vl)) s.σ (fun v σ1=>Je (u4 c.P tk tv) o.dst (s.hp σ1) s.σ v kp0 K)
     | _,_=>False
    | .panic x=>match s.op x with
     | some (.v (.a (.raw (.iface T u))))=>c.R (.panicked [{ v:=.iface T u,recovered:=false }]) s.σ
     | _=>False
    | .store T x y=>match o.dst,uq (s.op x),s.op y with
     | none,some (.bx i b),some v=>AHp c T i b v s K
     | _,_,_=>qn c.tok9 o.dst (.store T x y) o.type s kp0 K
    | op=>match u7 c.P op,anyM c.P op o.type s with
     | true,_=>qn c.tok9 o.dst op o.type s kp0 K
     | false,some m=>AHm c.P o.type m s fun v s=>K (s.put o.dst v)
     | false,none=>yv c.P c.wr op s fun v s=>K (s.put o.dst v)
def ABk (c:Cx)(ops:Array Oper):List Nat→S→(S→Prop)→Prop
 | [],s,K=>K s
 | i::is,s,K=>vB c ops i s fun s=>ABk c ops is s K
section
variable {g:Gl}{ops:Array Oper}{i:Nat}{J:Env}{s:S}{K:S→Prop}{c:Cx}
theorem oQ {s s':S}{K:Env→Bx→Hp→Prop}(h:s.LP s')(hk:AP g ops i (s'.e J) s'.b s'.σ K):AP g ops i (s.e J) s.b s.σ K:=by
 rw[←h.e J,←h.b,←h.σ];exact hk
theorem AL1 {s:S}{o:Oper}{K:SV→S→Prop}{K':Env→Bx→Hp→Prop}(ho:ops[i]?=some o)(hw:AY ops (s.e J) o.guard=true)(hd:J1 o.dst g.n=true)(h:YP g.P o.op o.type s K)(hk:∀v s',s.LP s'→K v s'→K' ((s'.put o.dst v).e J) s'.b s'.σ):
  AP g ops i (s.e J) s.b s.σ K':=by
 obtain⟨v,s',h1,h2,h3⟩:=h;have:=hk v s' h1 h3;rw[S.LM,h1.e J,h1.b,h1.σ]at this;exact AP.y (E7 ho) hw hd (h2 J _) this
theorem Yd.up {P:Program}{e:Env}{bx:Bx}{σ:Hp}{b:Nat}{op:Op}{ty:TypeId}{v:Value}(h:Yd P e bx (fun x=>if x=b then σ x else none) op ty v):Yd P e bx σ op ty v:=fun o ho ht w hs hb=>h o ho ht w (fun k u hk=>by
 simp only at hk;split at hk
 ·exact hs k u hk
 ·cases hk) hb
theorem AP.mono {e:Env}{bx:Bx}{σ:Hp}{K K':Env→Bx→Hp→Prop}(h:AP g ops i e bx σ K)(hk:∀e bx σ,K e bx σ→K' e bx σ):AP g ops i e bx σ K':=fun w0 F a w st=>wpOpIn_mono (fun a' w' ⟨e',b',σ',RJ,h'⟩=>⟨e',b',σ',RJ,hk _ _ _ h'⟩) (h w0 F a w st)
theorem AL2 {dst:Option Nat}{op:Op}{ty:TypeId}{gd:Option (Nat×Bool)}(hc:c.Ok g)(hs:sig ops i=some (dst,op,ty,gd))(hw:AY ops (s.e J) gd=true)(hd:J1 dst g.n=true)(h:qn c.tok9 dst op ty s kp0 K):AP g ops i (s.e J) s.b s.σ (oP J K):=by
 have:=WT (c:=c.tok9) (kq:=fun _ _=>True) (J:=J) hc.P hc.R hc.E (fun _ _ F h=>⟨h,trivial⟩) (fun _ _ _=>trivial) hs hw hd h;intro w0 F a w st;refine wpOpIn_mono ?_ (this w0 F a w st)
 rintro a' w' ⟨e',I7,σ',RJ,s',rfl,rfl,rfl,_,_,hk⟩
 exact⟨_,_,_,RJ,s',rfl,rfl,rfl,hk⟩
theorem fc {dst:Option Nat}{x:Operand}{ty:TypeId}{gd:Option (Nat×Bool)}(hc:c.Ok g)(hs:sig ops i=some (dst,.next x false,ty,gd))(hw:AY ops (s.e J) gd=true)(hd:J1 dst g.n=true)(h:vA c dst x ty s K):AP g ops i (s.e J) s.b s.σ (oP J K):=by
 unfold vA at h;split at h
 ·rename_i d u tk tv hu hm;rw[hc.P]at h;refine AP.WA hs hw hd (Instr.next (u.den s.vl) false ty) (fun o ho ht=>by simp only[execOp,ho,ht];rw[ev hu]) (h.mono fun v σ1 hr=>?_);rcases hr with ⟨rfl,hk⟩|hr
  ·exact⟨_,(S.LM (s:=s.hp σ1) (x:=.Z3 [.a (.bl false)])).symm,(S.LN (s:=s.hp σ1) (x:=.Z3 [.a (.bl false)])).symm,(S.Hw (s:=s.hp σ1) (x:=.Z3 [.a (.bl false)])).symm,hk⟩
  ·split at hr
   ·rename_i EI;obtain⟨a,w1,h1,hr⟩:=Gp hr;obtain⟨b,w2,h2,hr⟩:=Gp hr;obtain⟨hv,hk⟩:=hr;have UF:=S.WJ (s:=s.hp σ1) EI (h1.trans h2).le;refine⟨_,?_,?_,?_,hk⟩
    ·rw[S.LM,UF.e J,hv];rfl
    ·rw[S.LN,UF.b];rfl
    ·rw[S.Hw];rfl
   ·cases hr
 ·cases h
theorem ff {vl:Vl}{i o:Nat}{l:List DN}:∀{bx:List Hv} {t:TypeId} {cs:List DN},fV bx i=some (t,cs)→∃j,(HC vl bx)[j]?=some (nth 0 vl.δ i,.cells (Bp vl cs).toArray t (0,0))∧HC vl (Uu bx i o l)=(HC vl bx).set j (nth 0 vl.δ i,.cells (Bp vl (kv cs o l)).toArray t (0,0))
 | (k,u,ds)::r,t,cs,h=>by
  simp only[fV]at h;cases hk:Nat.beq k i with
  | true=>
   rw[hk]at h;simp only[cond_true,AiO,Ajr]at h;obtain⟨rfl,rfl⟩:=h;have:=Ai7 hk;subst this;exact⟨0,rfl,by simp only[Uu,hk,cond_true,HC,List.set_cons_zero]⟩
  | false=>
   rw[hk]at h;simp only[cond_false]at h;obtain⟨j,h1,h2⟩:=ff (vl:=vl) (o:=o) (l:=l) h;exact⟨j+1,by simpa only[HC,Ai3] using h1,by simp only[Uu,hk,cond_false,HC,List.set_cons_succ,h2]⟩
theorem lD {F:Prop}{l:List Value}(h:AHn F l):F∧∀v∈l,Value.oneCell' v=true:=by
 have cj:∀{l:List Value},AHn.AHo l→∀v∈l,Value.oneCell' v=true:=fun {l}=>by
  induction l with
  | nil=>intro _ v hv;cases hv
  | cons a l ih=>
   intro h v hv;cases l with
   | nil=>simp at hv;subst hv;exact h
   | cons b l=>
    rcases AiT.1 hv with rfl|hv
    ·exact h.1
    ·exact ih h.2 v hv
 match l,h with
 | [],h=>exact⟨h,fun v hv=>by cases hv⟩
 | [v],h=>exact⟨h.2,fun u hu=>by simp at hu;subst hu;exact h.1⟩
 | a::b::l,h=>exact⟨h.2,cj h.1⟩
theorem WX {vl:Vl}:∀{l:List DN},(∀v∈TC l,Value.oneCell' v=true)→∀u∈Bp vl l,Value.oneCell' u=true
 | [],_,u,hu=>by cases hu
 | x::l,h,u,hu=>by
  have tl:∀v∈TC l,Value.oneCell' v=true:=fun v hv=>h v (by cases x<;>first|exact hv|exact AiX _ hv);rcases AiT.1 hu with rfl|hu
  ·cases x<;>try rfl
   case bs i n=>cases n<;>rfl
   case raw v=>exact h v (Aih ..)
   case un=>exact h undef (Aih ..)
  ·exact WX tl u hu
theorem lE {vl:Vl}{v:SV}{l:List DN}(h:v.lC=some l)(ho:∀u∈Bp vl l,Value.oneCell' u=true):(v.den vl).cells=(Bp vl l).toArray:=by
 unfold SV.lC at h;split at h
 ·rename_i x;cases h;have:=ho (x.den vl) (Aih ..);simp only[SV.den,JQ.den,Bp];cases hx:x.den vl<;>first|rfl|(rw[hx]at this;cases this)
 ·cases h;rfl
 ·cases h
theorem lF {T ty:TypeId}{x y:Operand}{gd:Option (Nat×Bool)}{k b:Nat}{v:SV}(hc:c.Ok g)(hs:sig ops i=some (none,.store T x y,ty,gd))(hw:AY ops (s.e J) gd=true)(hx:uq (s.op x)=some (.bx k b))(hy:s.op y=some v)(h:AHp c T k b v s K):AP g ops i (s.e J) s.b s.σ (oP J K):=by
 unfold AHp at h;split at h
 ·rename_i l n hl hz;split at h
  ·rename_i t cs hg;split at h
   ·rename_i hd;simp only[AiS,Ve]at hd;obtain⟨hk,ho⟩:=lD h;have NN:=WX (vl:=s.vl) ho;have ZC:=lE (vl:=s.vl) hl NN;obtain⟨u,e1,e2⟩:=HE hx;obtain⟨j,h1,h2⟩:=ff (vl:=s.vl) (o:=b) (l:=l) hg;rw[hc.P]at hz;refine AP.AHB (b:=nth 0 s.vl.δ k) (o:=b) (c:=(Bp s.vl cs).toArray) (c':=(Bp s.vl (kv cs b l)).toArray) (t:=t) (j:=j) hs hw (EK hz) (by rw[ev e1,e2];rfl) (ev hy) h1 ?_ ?_ ?_ ?_ ?_
    ·rw[ZC];simp[E8];exact Ai7 hd.1
    ·have:=Ai7 hd.1;have h3:=AjF hd.2;exact Nat.ble_eq_true_of_le (by simp[E8];omega)
    ·rw[ZC];exact List.all_eq_true.2 fun u hu=>NN u (by simpa using hu)
    ·rw[ZC,WO]
    ·exact⟨⟨s.env,Uu s.bx k b l,s.vl,s.σ⟩,rfl,h2.symm,rfl,hk⟩
   ·cases h
  ·cases h
 ·cases h
theorem fg (hc:c.Ok g)(h:vB c ops i s K):AP g ops i (s.e J) s.b s.σ (oP J K):=by
 unfold vB at h;split at h
 ·cases h
 ·rename_i o ho;split at h
  ·cases h
  ·rename_i hd;rw[hc.n]at hd;obtain⟨b,s1,h1,hw,h⟩:=MP h;have hw:=hw J;rw[←h1.e J]at hw;refine oQ h1 ?_;cases b with
   | false=>exact AP.no (E7 ho) hw hd ⟨_,(S.LM (x:=.at .un)).symm,S.LN.symm,S.Hw.symm,h⟩
   | true=>
    simp only at h;split at h
    ·rename_i T x MJ;obtain⟨m,v,s2,h2,hk,hy⟩:=aI (ty:=o.type) h;have hs:=E7 ho;rw[MJ]at hs;refine AP.y (v:=v.den s2.vl) hs hw hd ?_ ⟨s2.put o.dst v,by rw[S.LM,h2.e J],by rw[S.LN,h2.b],by rw[S.Hw,h2.σ],hk⟩;have hy:=hy J;rw[hc.P]at hy;cases m with
     | none=>exact hy _
     | some b=>exact Yd.up hy
    ·rename_i T m k v MJ;split at h
     ·rename_i um uk uv Qo hm hk hv;have hs:=E7 ho;rw[MJ,Qo]at hs;rw[hc.P]at h;exact AP.ABT hs hw rfl _ (fun o ho ht=>by simp only[execOp,ho];rw[ev hm,ev hk,ev hv]) (h.mono fun _ σ1 hr=>⟨s1.hp σ1,rfl,rfl,rfl,hr⟩)
     ·cases h
    ·rename_i T m k v MJ;split at h
     ·rename_i um uk uv Qo hm hk hv;have hs:=E7 ho;rw[MJ,Qo]at hs;rw[hc.P]at h;exact AP.ABT hs hw rfl _ (fun o ho ht=>by simp only[execOp,ho];rw[ev hm,ev hk,ev hv]) (h.mono fun _ σ1 hr=>⟨s1.hp σ1,rfl,rfl,rfl,hr⟩)
     ·cases h
    ·have MJ:=‹o.op=Op.next _ false›
     have hs:=E7 ho;rw[MJ]at hs;exact fc hc hs hw hd h
    ·have MJ:=‹o.op=Op.entry _›;have hs:=E7 ho;rw[MJ]at hs;split at h
     ·rename_i u tk tv hu hm;rw[hc.P]at h;have:=AP.WA (K:=St' J s1 (fun _ _=>True) K) hs hw hd (Instr.entry (u.den s1.vl)) (fun o ho ht=>by simp only[execOp,ho];rw[ev hu]) (h.mono fun v σ1 hr=>Av (kq:=fun _ _=>True) qm (fun _ _ F h=>⟨h,trivial⟩) hr J);exact this.mono fun e bx σ ⟨s',e1,e2,e3,_,_,hk⟩=>⟨s',e1,e2,e3,hk⟩
     ·cases h
    ·have MJ:=‹o.op=Op.panic _›;split at h
     ·rename_i T u hx;have hs:=E7 ho;rw[MJ]at hs;rw[hc.R]at h;exact AP.panic hs hw (by rw[ev hx];rfl) hc.JY hc.ds h
     ·cases h
    ·have MJ:=‹o.op=Op.store _ _ _›;have hs:=E7 ho;rw[MJ]at hs;split at h
     ·rename_i i' b v Qo hx hy;rw[Qo]at hs;exact lF hc hs hw hx hy h
     ·exact AL2 hc hs hw hd h
    ·split at h
     ·exact AL2 hc (E7 ho) hw hd h
     ·rename_i m _ hm;rw[hc.P]at h hm;obtain⟨v,s2,h2,hy,hk⟩:=WU hm h;exact AP.y (v:=v.den s2.vl) (E7 ho) hw hd (hy J) ⟨s2.put o.dst v,by rw[S.LM,h2.e J],by rw[S.LN,h2.b],by rw[S.Hw,h2.σ],hk⟩
     ·rw[hc.P]at h;exact AL1 ho hw hd (fW h) fun v s' TD hk=>⟨s'.put o.dst v,rfl,S.LN.symm,S.Hw.symm,hk⟩
theorem Qt (hc:c.Ok g):∀{is:List Nat} {s:S},ABk c ops is s K→Seq g ops is (s.e J) s.b s.σ (oP J K)
 | [],s,h=>⟨s,rfl,rfl,rfl,h⟩
 | i::is,s,h=>(fg hc h).mono fun e bx σ ⟨s',h1,h2,h3,h4⟩=>by subst h1 h2 h3;exact Qt hc h4
theorem WY {K K':Env→Bx→Hp→Prop}(hk:∀e bx σ,K e bx σ→K' e bx σ):∀{is:List Nat} {e:Env} {bx:Bx} {σ:Hp},Seq g ops is e bx σ K→Seq g ops is e bx σ K'
 | [],_,_,_,h=>hk _ _ _ h
 | i::is,e,bx,σ,h=>AP.mono h fun _ _ _ h=>WY hk h
theorem MQ {K K':Env→Bx→Hp→Prop}(hk:∀e bx σ,K e bx σ→K' e bx σ):∀{p:Ord} {q:MD} {e:Env} {bx:Bx} {σ:Hp},NU g ops p q e bx σ K→NU g ops p q e bx σ K'
 | .done,_,_,_,_,h=>hk _ _ _ h
 | .yes i r,q,e,bx,σ,⟨own,o,v,h1,h2,h3,h4,h5⟩=>⟨own,o,v,h1,h2,h3,h4,MQ hk h5⟩
 | .alt i r t,q,e,bx,σ,⟨h1,h2⟩=>⟨AP.mono h1 fun _ _ _ ⟨h3,h4⟩=>⟨h3,MQ hk h4⟩,MQ hk h2⟩
 | .no,_,_,_,_,_=>trivial
def WZ:Ord→List Nat
 | .done=>[]
 | .yes _ r=>WZ r
 | .alt i r _=>i::WZ r
 | .no=>[]
def AL3 (ops:Array Oper)(i:Nat):Nat→Nat→Option (List Nat)
 | 0,_=>none
 | f+1,t=>match LJ ops t i with
  | true=>some [t]
  | false=>(List.range t).findSome? fun u=>match Nat.blt i u&&LJ ops t u with
   | true=>match AL3 ops i f u with
    | some p=>some (t::p)
    | none=>none
   | false=>none
def waits (ops:Array Oper)(i:Nat):List Nat→List (List Nat)
 | []=>[]
 | t::l=>match AL3 ops i 40 t with
  | some p=>p::waits ops i l
  | none=>waits ops i l
def kpL (L:MD):KP:=fun σ0 σ1 F=>match L with
 | none=>Ext σ0 σ1∧F
 | some []=>F
 | some (x::l)=>Kp ((x::l).map Prod.fst) σ0 σ1∧F
def IX (c:Cx)(ops:Array Oper):Ord→MD→S→(S→Prop)→Prop
 | .done,_,s,K=>K s
 | .yes i r,L,s,K=>match ops[i]? with
  | none=>False
  | some o=>match J1 o.dst c.n&&L.ok i with
   | false=>False
   | true=>WV ops o.guard s fun b s=>match b with
    | false=>IX c ops r L (s.put o.dst (.at .un)) K
    | true=>match o.op with
     | .load T x=>ldV c.P T x s fun m v s=>match m,L with
      | none,_=>IX c ops r L (s.put o.dst v) K
      | some _,none=>IX c ops r L (s.put o.dst v) K
      | some b,some l=>match (Qk (some l) (some (b,waits ops i (WZ r)))).ok i&&V9 ops i (some (b,waits ops i (WZ r))) with
       | true=>IX c ops r (Qk (some l) (some (b,waits ops i (WZ r)))) (s.put o.dst v) K
       | false=>False
     | op=>match u7 c.P op,anyM c.P op o.type s,L with
      | true,_,_=>False
      | false,some m,none=>AHm c.P o.type m s fun v s=>IX c ops r none (s.put o.dst v) K
      | false,some _,some _=>False
      | false,none,L=>yv c.P c.wr op s fun v s=>IX c ops r L (s.put o.dst v) K
 | .alt i r t,L,s,K=>
  match t with
  | .no=>fh c ops i L s fun s=>IX c ops r (IU L i) s K
  | t=>(fh c ops i L s fun s=>IX c ops r (IU L i) s K)∧IX c ops t L s K
 | .no,_,_,_=>True
where
 fh (c:Cx) (ops:Array Oper) (i:Nat) (L:MD) (s:S) (K:S→Prop):Prop:=match ops[i]? with
  | none=>False
  | some o=>match J1 o.dst c.n with
   | false=>False
   | true=>WV ops o.guard s fun b s=>match b with
    | false=>K (s.put o.dst (.at .un))
    | true=>qn c.tok9 o.dst o.op o.type s (kpL (IU L i)) K
def kqL (q:MD)(σ σ':Hp):Prop:=match q with
 | none=>∀b o,σ b=some o→σ' b=some o
 | some L=>∀x∈L,∀o,σ x.1=some o→σ' x.1=some o
theorem AHq {q:MD}{bx I7:Bx}{σ σ':Hp}(h:kqL q σ σ')(hb:∀p∈bx,p∈I7):NT q bx σ I7 σ':=⟨hb,h⟩
theorem qu {L:MD}{σ0 σ1:Hp}{F:Prop}(h:kpL L σ0 σ1 F):F∧kqL L σ0 σ1:=by
 unfold kpL at h;split at h
 ·exact⟨h.2,h.1⟩
 ·exact⟨h,fun x hx=>by cases hx⟩
 ·exact⟨h.2,fun y hy o ho=>h.1 y.1 (List.mem_map.2 ⟨y,hy,rfl⟩) o ho⟩
theorem ABl {L:MD}{σ0 σ1:Hp}(h:Ext σ0 σ1):kqL L σ0 σ1:=by
 cases L with
 | none=>exact h
 | some l=>exact fun x _ o ho=>h _ _ ho
theorem fi {L:MD}(hc:c.Ok g)(h:IX.fh c ops i L s K):AP g ops i (s.e J) s.b s.σ fun e' I7 σ'=>NT (IU L i) s.b s.σ I7 σ'∧oP J K e' I7 σ':=by
 unfold IX.fh at h;split at h
 ·cases h
 ·rename_i o ho;split at h
  ·cases h
  ·rename_i hd;rw[hc.n]at hd;obtain⟨b,s1,h1,hw,h⟩:=MP h;have hw:=hw J;rw[←h1.e J]at hw;have key:AP g ops i (s1.e J) s1.b s1.σ fun e' I7 σ'=>NT (IU L i) s1.b s1.σ I7 σ'∧oP J K e' I7 σ':=by
    cases b with
    | false=>exact AP.no (E7 ho) hw hd ⟨NT.refl _ _ _,_,(S.LM (x:=.at .un)).symm,S.LN.symm,S.Hw.symm,h⟩
    | true=>
     have:=WT (c:=c.tok9) (kq:=kqL (IU L i)) (J:=J) hc.P hc.R hc.E (fun _ _ F h=>qu h) (fun _ _ h=>ABl h) (E7 ho) hw hd h;exact this.mono fun e' I7 σ' ⟨s',e1,e2,e3,hq,hb,hk⟩=>⟨AHq hq hb,s',e1,e2,e3,hk⟩
   have:=oQ (K:=fun e' I7 σ'=>NT (IU L i) s1.b s1.σ I7 σ'∧oP J K e' I7 σ') h1 key;rw[h1.b,h1.σ]at this;exact this
theorem E9 (hc:c.Ok g):∀{p:Ord} {q:MD} {s:S},IX c ops p q s K→NU g ops p q (s.e J) s.b s.σ (oP J K)
 | .done,q,s,h=>⟨s,rfl,rfl,rfl,h⟩
 | .yes i r,q,s,h=>by
  simp only[IX]at h;split at h
  ·cases h
  ·rename_i o ho;split at h
   ·cases h
   ·rename_i hd;simp only[AiS]at hd;obtain⟨hd,hq⟩:=hd;rw[hc.n]at hd;obtain⟨b,s1,h1,hw,h⟩:=MP h;have hw:=hw J;rw[←h1.e J]at hw;rw[←h1.e J,←h1.b,←h1.σ];have go:∀{v:SV} {s2:S} {own:Option (Nat×List (List Nat))},s1.LP s2→((Qk q own).ok i&&V9 ops i own)=true→Yd g.P (s1.e J) s1.b (S1 q own s1.σ) o.op o.type (v.den s2.vl)→AY ops (s1.e J) o.guard=true→IX c ops r (Qk q own) (s2.put o.dst v) K→NU g ops (.yes i r) q (s1.e J) s1.b s1.σ (oP J K):=fun {v s2 own} h2 EI hy hw hk=>by
     have:=E9 hc hk;rw[S.LM,S.LN,S.Hw,h2.e J,h2.b,h2.σ]at this;exact⟨own,o,v.den s2.vl,EI,ho,.inl ⟨hw,hy⟩,J1.lt hd,this⟩
    cases b with
    | false=>
     have:=E9 hc h;rw[S.LM,S.LN,S.Hw]at this;exact⟨none,o,undef,ok_none hq,ho,.inr ⟨hw,rfl⟩,J1.lt hd,by rw[Hr];exact this⟩
    | true=>
     simp only at h;split at h
     ·rename_i T x MJ;obtain⟨m,v,s2,h2,hk,hy⟩:=aI (ty:=o.type) h;have hy:=hy J;rw[hc.P,←MJ]at hy;split at hk
      ·exact go (own:=none) h2 (ok_none hq) (hy _) hw (by rw[Hr];exact hk)
      ·exact go (own:=none) h2 (ok_none hq) (Yd.up hy) hw (by rw[Hr];exact hk)
      ·rename_i b l;split at hk
       ·rename_i EI;exact go h2 EI hy hw hk
       ·cases hk
     ·split at h
      ·cases h
      ·have hm:=‹anyM c.P o.op o.type s1=some _›;rw[hc.P]at h hm;obtain⟨v,s2,h2,hy,hk⟩:=WU hm h;exact go (own:=none) h2 (ok_none hq) (hy J) hw hk
      ·cases h
      ·rw[hc.P]at h;obtain⟨v,s2,h2,hy,hk⟩:=fW (ty:=o.type) h;exact go (own:=none) h2 (ok_none hq) (hy J _) hw (by rw[Hr];exact hk)
 | .alt i r t,q,s,h=>by
  have key:∀{t:Ord},(IX.fh c ops i q s fun s=>IX c ops r (IU q i) s K)→NU g ops t q (s.e J) s.b s.σ (oP J K)→NU g ops (.alt i r t) q (s.e J) s.b s.σ (oP J K):=fun {t} h1 h2=>
   ⟨(fi hc h1).mono fun e bx σ ⟨hk,s',e1,e2,e3,h3⟩=>⟨hk,by subst e1 e2 e3;exact E9 hc h3⟩,h2⟩
  cases t with
  | no=>exact key h trivial
  | done=>exact key h.1 (E9 hc h.2)
  | yes j u=>exact key h.1 (E9 hc h.2)
  | alt j u w=>exact key h.1 (E9 hc h.2)
 | .no,q,s,h=>trivial
def oR (P:Program)(ops:Array Oper)(m:Nat):Nat→Array Bool→Ord
 | 0,_=>.no
 | f+1,listed=>match (List.range m).all fun i=>listed.getD i false with
  | true=>.done
  | false=>match (Region.ready .any ops listed).find? fun j=>Nat.blt j m&&match ops[j]? with | some o=>!u7 P o.op | none=>false with
   | some j=>.yes j (oR P ops m f (listed.setIfInBounds j true))
   | none=>(Region.ready .any ops listed).foldr (fun j acc=>.alt j (oR P ops m f (listed.setIfInBounds j true)) acc) .no
def AHr (c:Cx)(ops:Array Oper)(draw:Bool)(m:Nat)(q:MD)(s:S)(K:S→Prop):Prop:=match draw with
 | false=>ABk c ops (List.range ops.size) s K
 | true=>match bc ops m (oR c.P ops m (ops.size+1) (Array.replicate ops.size false)) (List.range' m (ops.size-m)) with
  | true=>IX c ops (oR c.P ops m (ops.size+1) (Array.replicate ops.size false)) q s fun s=>ABk c ops (List.range' m (ops.size-m)) s K
  | false=>False
theorem lG {k:List Item}{id m:Nat}{draw:Bool}{q:MD}(hc:c.Ok g)(hm:g.P.follows .mixedOrders=true)(h:AHr c ops draw m q s K)(hk:∀s,K s→At g k (s.e J) s.b s.σ):At g (.code (.region id ops draw)::k) (s.e J) s.b s.σ:=by
 have fin:∀e bx σ,oP J K e bx σ→At g k e bx σ:=fun e bx σ ⟨s',e1,e2,e3,h⟩=>by subst e1 e2 e3;exact hk s' h
 cases draw with
 | false=>
  refine At.region rfl rfl ?_;have:Seq g ops (List.range ops.size) (s.e J) s.b s.σ (oP J K):=Qt hc h;exact WY fin this
 | true=>
  simp only[AHr]at h;split at h
  ·rename_i hp;refine At.ALx hm rfl hp (q:=q) ?_;have:=E9 (J:=J) hc h;refine MQ (fun e bx σ ⟨s',e1,e2,e3,h⟩=>?_) this;subst e1 e2 e3;exact WY fin (Qt hc h)
  ·cases h
end
end Tw
end
section
namespace Tw
open Go
variable [G9]
def node (body:Code):List Bool→Code
 | []=>body
 | false::p=>cl (node body p)
 | true::p=>cr (node body p)
inductive It where
 | c (p:List Bool)
 | WK (i:Nat)
 | lp (p:List Bool)
 | sc (p:List Bool)
def It.den (body:Code):It→Item
 | .c p=>.code (node body p)
 | .WK i=>.inBlock i
 | .lp p=>.inLoop (node body p)
 | .sc p=>.inScope (node body p)
def FA (body:Code):List It→List Item
 | []=>[]
 | x::l=>x.den body::FA body l
def TE:List Bool→List Bool→Bool
 | [],[]=>true
 | a::p,b::q=>(bif a then b else !b)&&TE p q
 | _,_=>false
theorem aL:∀{p q:List Bool},TE p q=true→p=q
 | [],[],_=>rfl
 | a::p,b::q,h=>by
  simp only[TE,AiS]at h;rw[aL h.2];cases a<;>cases b<;>simp at h<;>rfl
 | [],_::_,h=>by cases h
 | _::_,[],h=>by cases h
def It.eq:It→It→Bool
 | .c p,.c q=>TE p q
 | .WK i,.WK j=>Nat.beq i j
 | .lp p,.lp q=>TE p q
 | .sc p,.sc q=>TE p q
 | _,_=>false
def oS:List It→List It→Bool
 | [],[]=>true
 | x::l,y::m=>x.eq y&&oS l m
 | _,_=>false
theorem fj:∀{l m:List It},oS l m=true→l=m
 | [],[],_=>rfl
 | x::l,y::m,h=>by
  simp only[oS,AiS]at h;rw[fj h.2];have:x=y:=by
   cases x<;>cases y<;>simp only[It.eq]at h<;>first
    | (rw[aL h.1])
    | (rw[Ai7 h.1])
    | (exact absurd h.1 (by simp))
  rw[this]
 | [],_::_,h=>by cases h
 | _::_,[],h=>by cases h
structure Cut where
 todo:List It
 f:S→Prop
def Cut.Ok (g:Gl)(body:Code)(k:Cut):Prop:=∀s J,k.f s→At g (FA body k.todo) (s.e J) s.b s.σ
def ABm:List Cut→List It→Option (S→Prop)
 | [],_=>none
 | k::l,t=>match oS k.todo t with
  | true=>some k.f
  | false=>ABm l t
theorem oT {g:Gl}{body:Code}:∀{l:List Cut} {t:List It} {f:S→Prop},(∀k∈l,k.Ok g body)→ABm l t=some f→∀s J,f s→At g (FA body t) (s.e J) s.b s.σ
 | k::l,t,f,hl,h=>by
  simp only[ABm]at h;split at h
  ·rename_i he;cases h;rw[←fj he];exact hl k (Aih ..)
  ·exact oT (fun k hk=>hl k (AiX _ hk)) h
def UI (i:Nat):List It→Option (List It)
 | []=>none
 | .WK j::r=>match Nat.beq i j with
  | true=>some r
  | false=>UI i r
 | _::r=>UI i r
def bu (l:Nat):Code→List Bool→Option (List It)
 | .seq a b,p=>match bu l a (false::p) with
  | some r=>some (r++[.c (true::p)])
  | none=>bu l b (true::p)
 | .label j,_=>match Nat.beq j l with
  | true=>some []
  | false=>none
 | _,_=>none
def UJ (body:Code)(l:Nat):List It→Option (List It)
 | []=>none
 | .sc p::r=>match bu l (node body p) p with
  | some m=>some (m++(.sc p::r))
  | none=>UJ body l r
 | _::r=>UJ body l r
structure Fx extends Cx where
 body:Code
 res:List ResultVar
 reg:List (Nat×Nat×Bool)
def vC:List (Nat×Nat×Bool)→Nat→Nat→Nat×MD
 | [],_,m=>(m,some [])
 | (i,m,b)::l,id,z=>match Nat.beq i id with
  | true=>(m,bif b then none else some [])
  | false=>vC l id z
def lH (c:Fx)(s:S):List ResultVar→Option (List SV)
 | []=>some []
 | .tmp t::r=>match bh s.env t,lH c s r with
  | some v,some l=>some (v::l)
  | _,_=>none
 | .cell p T::r=>match uq (bh s.env p),lH c s r with
  | some (.bx i 0),some l=>match fV s.bx i,fO c.P T with
   | some (_,cs),some true=>match fN c.P T with
    | some n=>match decide (cs.length=n) with
     | true=>some (.v (.agg cs)::l)
     | false=>none
    | none=>none
   | some (_,x::_),some false=>some (.at x::l)
   | _,_=>none
  | _,_=>none
def bY (c:Fx)(s:S):Prop:=match lH c s c.res with
 | some l=>c.R (.returned (WB (D8 s.vl l))) s.σ
 | none=>False
def Ev (c:Fx)(cuts:List Cut):Nat→Bool→List It→S→Prop
 | 0,_,_,_=>False
 | f+1,first,todo,s=>match (bif first then none else ABm cuts todo) with
  | some k=>k s
  | none=>match todo with
   | []=>bY c s
   | .WK _::r=>Ev c cuts f false r s
   | .lp p::r=>Ev c cuts f false (.c p::.lp p::r) s
   | .sc _::r=>Ev c cuts f false r s
   | .c p::r=>match node c.body p with
    | .skip=>Ev c cuts f false r s
    | .seq _ _=>Ev c cuts f false (.c (false::p)::.c (true::p)::r) s
    | .block i _=>Ev c cuts f false (.c (false::p)::.WK i::r) s
    | .loop _=>Ev c cuts f false (.c (false::p)::.lp (false::p)::r) s
    | .exit i=>match UI i r with
     | some r=>Ev c cuts f false r s
     | none=>False
    | .scope _=>Ev c cuts f false (.c (false::p)::.sc (false::p)::r) s
    | .label _=>Ev c cuts f false r s
    | .goto l=>match UJ c.body l r with
     | some r=>Ev c cuts f false r s
     | none=>False
    | .cond x _ _=>s.onV (s.op x) fun t s=>Ev c cuts f false (.c ((!t)::p)::r) s
    | .ret=>bY c s
    | .region id ops draw=>AHr c.toCx ops draw (vC c.reg id ops.size).1 (vC c.reg id ops.size).2 s fun s=>Ev c cuts f false r s
    | _=>False
structure Fx.Ok (c:Fx)(g:Gl)(fn:Func):Prop where
 cx:c.toCx.Ok g
 mixed:g.P.follows .mixedOrders=true
 fnc:g.P.funcs[g.f]?=some fn
 res:fn.results=c.res.toArray
 JY:g.JY=none
 ds:g.ds=[]
section
variable {g:Gl}{c:Fx}{fn:Func}{cuts:List Cut}{J:Env}
theorem Jf (hP:c.P=g.P){s:S}:∀{rs:List ResultVar} {l:List SV},lH c s rs=some l→KF g.P (s.e J) s.b s.σ rs (D8 s.vl l)
 | [],l,h=>by simp only[lH,AiO]at h;subst h;rfl
 | .tmp t::r,l,h=>by
  simp only[lH]at h;split at h
  ·rename_i v l' h1 h2;cases h;refine⟨_,?_,Jf hP h2⟩;rw[show s.e J t=v.den s.vl from Gn h1];rfl
  ·cases h
 | .cell p T::r,l,h=>by
  simp only[lH]at h;split at h
  ·rename_i i l' h1 h2;obtain⟨u,e1,e2⟩:=HE h1;have hp:s.e J p=.pointer (some ⟨nth 0 s.vl.δ i,0,none⟩):=(Gn e1).trans (e2 _);split at h
   ·rename_i t cs hb ha;split at h
    ·rename_i n hn;split at h
     ·rename_i hd;have hd:=AiP hd;cases h;rw[hP]at ha hn;exact⟨_,_,rfl,⟨_,hp,uT (HD ha) (EK hn) (by simp[E8];exact hd) (NV hb)⟩,Jf hP h2⟩
     ·cases h
    ·cases h
   ·rename_i t x cs hb ha;cases h;rw[hP]at ha;exact⟨_,_,rfl,⟨_,hp,ABU (HD ha) (NV hb) rfl⟩,Jf hP h2⟩
   ·cases h
  ·cases h
theorem LU {body:Code}{i:Nat}:∀{r r':List It},UI i r=some r'→exitTo i (FA body r)=some (FA body r')
 | .WK j::r,r',h=>by
  simp only[UI]at h;split at h
  ·rename_i he;cases h;have:=Ai7 he;subst this;simp[FA,It.den,exitTo]
  ·rename_i he;have Ah:i≠j:=fun e=>by subst e;rw[Nat.beq_refl]at he;cases he
   simp only[FA,It.den,exitTo];rw[AiK (by simpa using AjI Ah)];exact LU h
 | .c p::r,r',h=>by simp only[UI]at h;simp only[FA,It.den,exitTo];exact LU h
 | .lp p::r,r',h=>by simp only[UI]at h;simp only[FA,It.den,exitTo];exact LU h
 | .sc p::r,r',h=>by simp only[UI]at h;simp only[FA,It.den,exitTo];exact LU h
theorem Wa {body:Code}:∀{l m:List It},FA body (l++m)=FA body l++FA body m
 | [],_=>rfl
 | x::l,m=>by simp only[Ai1,FA,Wa]
theorem PJ {l:Nat}:∀{x:Code} {p:List Bool},bu l x p=none→findLabel x l=none
 | .seq a b,p,h=>by
  simp only[bu]at h;split at h
  ·cases h
  ·rename_i h1;simp only[findLabel,PJ h1,PJ h]
 | .label j,p,h=>by
  simp only[bu]at h;split at h
  ·cases h
  ·rename_i h1;have:j≠l:=fun e=>by subst e;rw[Nat.beq_refl]at h1;cases h1
   simp[findLabel,this]
 | .skip,p,h=>rfl
 | .region ..,p,h=>rfl
 | .cond ..,p,h=>rfl
 | .block ..,p,h=>rfl
 | .loop ..,p,h=>rfl
 | .rangeFunc ..,p,h=>rfl
 | .exit ..,p,h=>rfl
 | .scope ..,p,h=>rfl
 | .goto ..,p,h=>rfl
 | .ret,p,h=>rfl
 | .refuse ..,p,h=>rfl
theorem Wb {l:Nat}{body:Code}:∀{x:Code} {p:List Bool} {m:List It},node body p=x→bu l x p=some m→∃rest,findLabel x l=some rest∧∀{k:List Item} {e:Env} {bx:Bx} {σ:Hp},At g (FA body m++k) e bx σ→At g (.code rest::k) e bx σ
 | .seq a b,p,m,hx,h=>by
  simp only[bu]at h;split at h
  ·rename_i r h1;cases h;obtain⟨rest,e1,e2⟩:=Wb (body:=body) (x:=a) (p:=false::p) (by simp only[node,hx,cl]) h1;refine⟨.seq rest b,by simp only[findLabel,e1],fun h=>At.seq rfl (e2 ?_)⟩;rw[Wa,AjL]at h;simp only[FA,It.den,node,hx,cr,Ai1,AjK]at h;exact h
  ·rename_i h1;obtain⟨rest,e1,e2⟩:=Wb (body:=body) (x:=b) (p:=true::p) (by simp only[node,hx,cr]) h;exact⟨rest,by simp only[findLabel,PJ h1,e1],e2⟩
 | .label j,p,m,hx,h=>by
  simp only[bu]at h;split at h
  ·rename_i h1;cases h;have:=Ai7 h1;subst this;exact⟨.skip,by simp[findLabel],fun h=>At.skip h⟩
  ·cases h
theorem LV {l:Nat}{body:Code}:∀{r r':List It},UJ body l r=some r'→∃k',gotoIn l (FA body r)=some k'∧∀{e:Env} {bx:Bx} {σ:Hp},At g (FA body r') e bx σ→At g k' e bx σ
 | .sc p::r,r',h=>by
  simp only[UJ]at h;split at h
  ·rename_i m h1;cases h;obtain⟨rest,e1,e2⟩:=Wb (g:=g) rfl h1;refine⟨.code rest::.inScope (node body p)::FA body r,by simp only[FA,It.den,gotoIn,e1],fun h=>e2 ?_⟩;rw[Wa]at h;exact h
  ·rename_i h1;obtain⟨k',e1,e2⟩:=LV h;exact⟨k',by simp only[FA,It.den,gotoIn,PJ h1,e1],e2⟩
 | .c p::r,r',h=>by simp only[UJ]at h;simp only[FA,It.den,gotoIn];exact LV h
 | .lp p::r,r',h=>by simp only[UJ]at h;simp only[FA,It.den,gotoIn];exact LV h
 | .WK p::r,r',h=>by simp only[UJ]at h;simp only[FA,It.den,gotoIn];exact LV h
theorem BG (hc:c.Ok g fn)(hk:∀k∈cuts,k.Ok g c.body):∀{f:Nat} {first:Bool} {todo:List It} {s:S},Ev c cuts f first todo s→At g (FA c.body todo) (s.e J) s.b s.σ
 | 0,_,_,_,h=>h.elim
 | f+1,first,todo,s,h=>by
  have hl:∀σ,left g.ds σ=σ:=fun σ=>by rw[hc.ds];rfl
  have te:Marks g.ds s.σ:=by rw[hc.ds];trivial
  simp only[Ev]at h;split at h
  ·rename_i k AL6;cases first with
   | true=>cases AL6
   | false=>exact oT hk AL6 s J h
  ·split at h
   ·unfold bY at h;split at h
    ·rename_i l UK;rw[hc.cx.R]at h;exact At.ALn hc.fnc hc.res (by rw[hl];exact Jf hc.cx.P UK) (by rw[hl];exact h) hc.JY te
    ·cases h
   ·exact At.inBlock (BG hc hk h)
   ·exact At.inLoop (BG hc hk h)
   ·exact At.inScope (BG hc hk h)
   ·rename_i p r _;have e:FA c.body (.c p::r)=.code (node c.body p)::FA c.body r:=rfl;rw[e];split at h
    ·rename_i hn;rw[hn];exact At.skip (BG hc hk h)
    ·rename_i a b hn;refine At.seq hn ?_;have:=BG hc hk h;simp only[FA,It.den,node,hn,cl,cr]at this;exact this
    ·rename_i i a hn;refine At.block hn ?_;have:=BG hc hk h;simp only[FA,It.den,node,hn,cl]at this;exact this
    ·rename_i a hn;refine At.loop hn ?_;have:=BG hc hk h;simp only[FA,It.den,node,hn,cl]at this;exact this
    ·rename_i i hn;split at h
     ·rename_i r' hr;exact At.exit hn (LU hr) (BG hc hk h)
     ·cases h
    ·rename_i a hn;refine At.scope hn ?_;have:=BG hc hk h;simp only[FA,It.den,node,hn,cl]at this;exact this
    ·rename_i l hn;rw[hn];exact At.label (BG hc hk h)
    ·rename_i l hn;split at h
     ·rename_i r' hr;obtain⟨k',e1,e2⟩:=LV (g:=g) hr;exact At.goto hn e1 (e2 (BG hc hk h))
     ·cases h
    ·rename_i x a b hn;obtain⟨t,s',v,h1,h2,h3,h4,h⟩:=S.Hx h;have hx:AD (s.e J) x=.bool t:=by rw[ev h3,h4]
     have:=BG hc hk h;rw[h1.e J,h1.b,h1.σ]at this;cases t with
     | true=>
      refine At.AED hn hx ?_;simp only[FA,It.den,node,hn,cl,Bool.not_true]at this;exact this
     | false=>
      refine At.AEE hn hx ?_;simp only[FA,It.den,node,hn,cr,Bool.not_false]at this;exact this
    ·rename_i hn;unfold bY at h;split at h
     ·rename_i l UK;rw[hc.cx.R]at h;exact At.bY hn hc.fnc hc.res (by rw[hl];exact Jf hc.cx.P UK) (by rw[hl];exact h) hc.JY te
     ·cases h
    ·rename_i id ops draw hn;rw[hn];exact lG hc.cx hc.mixed h fun s' h'=>BG hc hk h'
    ·cases h
end
def S.qz (s:S):List Nat→Option (List Value)
 | []=>some []
 | t::l=>match bh s.env t,s.qz l with
  | some v,some r=>some (v.den s.vl::r)
  | _,_=>none
theorem aM {s:S}{J:Env}:∀{l:List Nat} {vs:List Value},s.qz l=some vs→Live (s.e J) (l.zip vs)
 | [],vs,h=>by simp only[S.qz,AiO]at h;subst h;trivial
 | t::l,vs,h=>by
  simp only[S.qz]at h;split at h
  ·rename_i v r h1 h2;cases h;exact⟨Gn h1,aM h2⟩
  ·cases h
def oU (i:Nat):List Hv→Option (Hv×List Hv)
 | []=>none
 | x::l=>match Nat.beq x.1 i with
  | true=>some (x,l)
  | false=>oU i l
def AES:Option SV→Option Nat
 | some (.v (.a (.pt (.bx i 0))))=>some i
 | _=>none
def S.bw (s:S):List Nat→List Hv→Option (List Hv)
 | [],_=>some []
 | t::l,bx=>match AES (bh s.env t) with
  | some i=>match oU i bx with
   | some (x,r)=>match s.bw l r with
    | some m=>some (x::m)
    | none=>none
   | none=>none
  | none=>none
def Wc (vl:Vl):List Nat→List Hv→List (Nat×Value)
 | t::l,x::r=>(t,.pointer (some ⟨nth 0 vl.δ x.1,0,none⟩))::Wc vl l r
 | _,_=>[]
theorem aN {vl:Vl}{i:Nat}:∀{l r:List Hv} {x:Hv},oU i l=some (x,r)→x.1=i∧∀m:List Hv,(HC vl m).Sublist (HC vl r)→(HC vl (x::m)).Sublist (HC vl l)
 | y::l,r,x,h=>by
  simp only[oU]at h;split at h
  ·rename_i he;cases h;exact⟨Ai7 he,fun m hm=>List.Sublist.cons_cons _ hm⟩
  ·obtain⟨h1,h2⟩:=aN (vl:=vl) h;exact⟨h1,fun m hm=>List.Sublist.cons _ (h2 m hm)⟩
theorem fk {s:S}{J:Env}:∀{l:List Nat} {bx B:List Hv},s.bw l bx=some B→(HC s.vl B).Sublist (HC s.vl bx)∧Live (s.e J) (Wc s.vl l B)
 | [],bx,B,h=>by simp only[S.bw,AiO]at h;subst h;exact⟨List.nil_sublist _,trivial⟩
 | t::l,bx,B,h=>by
  simp only[S.bw]at h;split at h
  ·rename_i i hi;split at h
   ·rename_i x r hx;split at h
    ·rename_i m hm;cases h;obtain⟨h1,h2⟩:=aN (vl:=s.vl) hx;obtain⟨h3,h4⟩:=fk (s:=s) (J:=J) hm;refine⟨h2 m h3,?_,h4⟩;unfold AES at hi;split at hi
     ·rename_i hg;cases hi;rw[h1];exact Gn hg
     ·cases hi
    ·cases h
   ·cases h
  ·cases h
theorem Live.app {e:Env}:∀{l m:List (Nat×Value)},Live e l→Live e m→Live e (l++m)
 | [],_,_,h=>h
 | (_,_)::_,_,h,g=>⟨h.1,Live.app h.2 g⟩
theorem At.AL7 {g:Gl}{k:List Item}{s:S}{J:Env}{l bl:List Nat}{vs:List Value}{B:List Hv}(h:s.qz l=some vs)(hb:s.bw bl s.bx=some B)(hk:∀J,At g k (NS J (Wc s.vl bl B++l.zip vs)) (HC s.vl B) s.σ):At g k (s.e J) s.b s.σ:=by
 obtain⟨h1,h2⟩:=fk (J:=J) hb;exact At.sub h1 (At.live (h2.app (aM h)) (hk _))
def Wd:Nat→List Value→List (Nat×Value)
 | _,[]=>[]
 | k,v::l=>(k,v)::Wd (k+1) l
theorem We {e:Env}:∀{l:List Value} {k:Nat},(∀j v,l[j]?=some v→e (k+j)=v)→Live e (Wd k l)
 | [],_,_=>trivial
 | v::l,k,h=>⟨h 0 v rfl,We fun j u hj=>by rw[show k+1+j=k+(j+1) by omega];exact h (j+1) u (by simpa using hj)⟩
theorem Spec.walk {P:Program}{f:FuncId}{fn:Func}{R:Rr}{args:Array Value}{n fuel:Nat}(c:Fx)(cuts:List Cut)(s:S)(hc:c.Ok (Gl.fn P f n R) fn)(hb:fn.body=some c.body)(hnt:fn.ntmps=n)(hn:Nat.ble args.size n=true)
  (hk:∀k∈cuts,k.Ok (Gl.fn P f n R) c.body) (he:J7 s.vl s.env=Wd 0 args.toList) (hbx:s.bx=[]) (h:Ev c cuts fuel true [.c []] s):Spec P f args s.σ R:=by
 subst hnt;refine Spec.nu hc.fnc hb (AjF hn) fun e hee=>?_;have hl:Live e (J7 s.vl s.env):=by
  rw[he];refine We fun j v hj=>?_;rw[AjV,hee];simp only[AkQ];rw[←AjJ,hj];rfl
 have:=BG (J:=e) hc hk h;have bz:s.b=[]:=by rw[S.b,hbx];rfl
 rw[bz]at this;exact At.live hl this
end Tw
end
section
namespace Tw
open Go
variable [G9]
inductive Dv where
 | I (k:IntKind) (x:Int)
 | B (t:Bool)
 | T (x:ByteArray)
 | L (p:Option Addr) (n c:Nat)
 | Q (p:Option Addr)
 | A (b:Nat)
 | M (x:Option Nat)
 | V (x:Value)
def Dv.den:Dv→Value
 | .I k x=>.int k x
 | .B t=>.bool t
 | .T x=>.string x
 | .L p n c=>.slice p n c
 | .Q p=>.pointer p
 | .A b=>.pointer (some ⟨b,0,none⟩)
 | .M x=>.map x
 | .V x=>x
def fl:List Dv→List Value
 | []=>[]
 | x::l=>x.den::fl l
inductive Dw where
 | o (x:Dv)
 | G (l:List Dv)
 | U (l:List Dv)
 | X (T:TypeId) (l:List Dv)
def Dw.den:Dw→Value
 | .o x=>x.den
 | .G l=>.agg (fl l).toArray
 | .U l=>.tuple (fl l).toArray
 | .X _ _=>undef
structure Nm where
 ρ:List (Option Addr)
 β:List BK
structure Nm.le (n:Nm)(v:Vl):Prop where
 ρ:∀i,i<n.ρ.length→nth none v.ρ i=nth none n.ρ i
 β:∀i,i<n.β.length→nth (.var false) v.β i=nth (.var false) n.β i
def Dv.sym:Dv→Nm→DN×Nm
 | .I k x,n=>(.int k x,n)
 | .B t,n=>(.bs (WW n.β) false,⟨n.ρ,n.β++[.var t]⟩)
 | .T x,n=>(.str x,n)
 | .L p k c,n=>(.sl (.var (WW n.ρ)) k c,⟨n.ρ++[p],n.β⟩)
 | .Q p,n=>(.pt (.var (WW n.ρ)),⟨n.ρ++[p],n.β⟩)
 | .A b,n=>(.pt (.at b 0),n)
 | .M x,n=>(.mp x,n)
 | .V x,n=>(.raw x,n)
theorem Nm.AL8 {n:Nm}{v:Vl}{p:Option Addr}(h:Nm.le ⟨n.ρ++[p],n.β⟩ v):n.le v∧nth none v.ρ (WW n.ρ)=p:=by
 refine⟨⟨fun i hi=>(h.ρ i (by simp only[Aid];omega)).trans (PH hi),h.β⟩,?_⟩;rw[Ve,h.ρ _ (by simp)];exact PI
theorem Nm.AVo {n:Nm}{v:Vl}{p:BK}(h:Nm.le ⟨n.ρ,n.β++[p]⟩ v):n.le v∧nth (.var false) v.β (WW n.β)=p:=by
 refine⟨⟨h.ρ,fun i hi=>(h.β i (by simp only[Aid];omega)).trans (PH hi)⟩,?_⟩;rw[Ve,h.β _ (by simp)];exact PI
theorem Dv.TF {x:Dv}{n:Nm}{v:Vl}(h:(x.sym n).2.le v):(x.sym n).1.den v=x.den∧n.le v:=by
 cases x with
 | B t=>obtain⟨h1,h2⟩:=Nm.AVo h;exact⟨by simp only[Dv.sym,DN.den,h2];rfl,h1⟩
 | L p k c=>obtain⟨h1,h2⟩:=Nm.AL8 h;exact⟨by simp only[Dv.sym,DN.den,PV.den,h2];rfl,h1⟩
 | Q p=>obtain⟨h1,h2⟩:=Nm.AL8 h;exact⟨by simp only[Dv.sym,DN.den,PV.den,h2];rfl,h1⟩
 | _=>exact⟨rfl,h⟩
def fm:List Dv→Nm→List DN×Nm
 | [],n=>([],n)
 | x::l,n=>match x.sym n with
  | (a,n)=>match fm l n with
   | (r,n)=>(a::r,n)
theorem Vf {v:Vl}:∀{l:List Dv} {n:Nm},(fm l n).2.le v→Bp v (fm l n).1=fl l∧n.le v
 | [],n,h=>⟨rfl,h⟩
 | x::l,n,h=>by
  obtain⟨h1,h2⟩:=Vf (l:=l) (n:=(x.sym n).2) h;obtain⟨h3,h4⟩:=Dv.TF h2;exact⟨by simp only[fm,Bp,fl,h3];rw[←h1],h4⟩
def atoms:List DN→List JQ
 | []=>[]
 | x::l=>.a x::atoms l
theorem aO {v:Vl}:∀l,KJ v (atoms l)=Bp v l
 | []=>rfl
 | x::l=>by simp only[atoms,KJ,Bp];rw[aO l];rfl
def Dw.sym:Dw→Nm→SV×Nm
 | .o x,n=>match x.sym n with | (a,n)=>(.v (.a a),n)
 | .G l,n=>match fm l n with | (a,n)=>(.v (.agg a),n)
 | .U l,n=>match fm l n with | (a,n)=>(.Z3 (atoms a),n)
 | .X _ _,n=>(.v (.a .un),n)
theorem Dw.TF {x:Dw}{n:Nm}{v:Vl}(h:(x.sym n).2.le v):(x.sym n).1.den v=x.den∧n.le v:=by
 cases x with
 | o x=>exact Dv.TF (x:=x) h
 | G l=>obtain⟨h1,h2⟩:=Vf (l:=l) h;exact⟨by simp only[Dw.sym,SV.den,JQ.den,Dw.den];rw[←h1],h2⟩
 | U l=>obtain⟨h1,h2⟩:=Vf (l:=l) h;exact⟨by simp only[Dw.sym,SV.den,Dw.den];rw[aO,←h1],h2⟩
 | X T l=>exact⟨rfl,h⟩
abbrev Bv:=Nat×TypeId×List Dv
def Uv:List (Nat×Dw)→List (Nat×Value)
 | []=>[]
 | (_,.X _ _)::l=>Uv l
 | (t,x)::l=>(t,x.den)::Uv l
def TG:List (Nat×Dw)→Nm→List (Nat×SV)×Nm
 | [],n=>([],n)
 | (_,.X _ _)::l,n=>TG l n
 | (t,x)::l,n=>match x.sym n with
  | (a,n)=>match TG l n with
   | (r,n)=>((t,a)::r,n)
theorem PK {v:Vl}:∀{l:List (Nat×Dw)} {n:Nm},(TG l n).2.le v→J7 v (TG l n).1=Uv l∧n.le v
 | [],n,h=>⟨rfl,h⟩
 | (t,.o x)::l,n,h=>by
  obtain⟨h1,h2⟩:=PK (l:=l) (n:=((Dw.o x).sym n).2) h;obtain⟨h3,h4⟩:=Dw.TF h2;exact⟨by simp only[TG,J7,Uv,h3];rw[←h1],h4⟩
 | (t,.G x)::l,n,h=>by
  obtain⟨h1,h2⟩:=PK (l:=l) (n:=((Dw.G x).sym n).2) h;obtain⟨h3,h4⟩:=Dw.TF h2;exact⟨by simp only[TG,J7,Uv,h3];rw[←h1],h4⟩
 | (t,.U x)::l,n,h=>by
  obtain⟨h1,h2⟩:=PK (l:=l) (n:=((Dw.U x).sym n).2) h;obtain⟨h3,h4⟩:=Dw.TF h2;exact⟨by simp only[TG,J7,Uv,h3];rw[←h1],h4⟩
 | (_,.X T x)::l,n,h=>PK (l:=l) (n:=n) h
def MR:List (Nat×Dw)→List Bv→List Bv
 | [],r=>r
 | (t,.X T l)::m,r=>MR m ((t,T,l)::r)
 | _::m,r=>MR m r
def fp:List Bv→Nat→Nm→List Hv×Nm
 | [],_,n=>([],n)
 | (_,T,l)::m,j,n=>match fm l n with
  | (a,n)=>match fp m (j+1) n with
   | (r,n)=>((j,T,a)::r,n)
def ABn:List Bv→Nat→List (Nat×SV)
 | [],_=>[]
 | (t,_,_)::m,j=>(t,.v (.a (.pt (.bx j 0))))::ABn m (j+1)
abbrev Bw:=Nat×TypeId×List Value
def ZO:List Bv→List Bw
 | []=>[]
 | (t,T,l)::m=>(t,T,fl l)::ZO m
def lI:List Bw→List Nat→List (Nat×Value)
 | (t,_,_)::m,b::δ=>(t,.pointer (some ⟨b,0,none⟩))::lI m δ
 | _,_=>[]
def bxV:List Bw→List Nat→Bx
 | (_,T,l)::m,b::δ=>(b,.cells l.toArray T (0,0))::bxV m δ
 | _,_=>[]
def PB:List Bw→(List Nat→Prop)→Prop
 | [],K=>K []
 | _::m,K=>∀b:Nat,PB m fun δ=>K (b::δ)
theorem vD:∀{l:List Bw} {K:List Nat→Prop},PB l K→∀δ,δ.length=l.length→K δ
 | [],K,h,[],_=>h
 | _::m,K,h,b::δ,hl=>vD (h b) δ (by simpa using hl)
theorem vE:∀{l:List Bw} {K:List Nat→Prop},(∀δ,δ.length=l.length→K δ)→PB l K
 | [],K,h=>h [] rfl
 | _::m,K,h=>fun b=>vE fun δ hl=>h (b::δ) (by simp[hl])
def PTv (g:Gl)(td:List Item)(bs:List Bw)(ts:List (Nat×Value))(σ:Hp):Prop:=
 ∀J:Env,PB bs fun δ=>At g td (NS J (lI bs δ++ts)) (bxV bs δ) σ
theorem oV {δ0:List Nat}{v:Vl}:∀{m:List Bv} {j:Nat} {n:Nm} {δ:List Nat},δ.length=m.length→(∀i,i<δ.length→nth 0 v.δ (j+i)=nth 0 δ i)→(fp m j n).2.le v→
  HC v (fp m j n).1=bxV (ZO m) δ∧J7 v (ABn m j)=lI (ZO m) δ∧n.le v
 | [],j,n,[],_,_,h=>⟨rfl,rfl,h⟩
 | (t,T,l)::m,j,n,b::δ,hl,hd,h=>by
  obtain⟨h1,h2,h3⟩:=oV (δ0:=δ0) (m:=m) (j:=j+1) (n:=(fm l n).2) (δ:=δ) (by simpa using hl) (fun i hi=>by
   have:=hd (i+1) (by simpa using hi);rw[show j+1+i=j+(i+1) by omega];exact this) h
  obtain⟨h4,h5⟩:=Vf h3;have hb:nth 0 v.δ j=b:=hd 0 (by simp);refine⟨?_,?_,h5⟩
  ·simp only[fp,HC,ZO,bxV,hb,h4];rw[←h1]
  ·simp only[ABn,J7,ZO,lI,SV.den,JQ.den,DN.den,PV.den,hb];rw[h2]
def oW (D:List (Nat×Dw))(δ:List Nat)(σ:Hp):S:=match TG D ⟨[],[]⟩ with
 | (e,n)=>match MR D [] with
  | bs=>match fp bs 0 n with
   | (x,n)=>⟨ABn bs 0++e,x,⟨n.ρ,n.β,δ⟩,σ⟩
theorem fq {v:Vl}:∀{l m:List (Nat×SV)},J7 v (l++m)=J7 v l++J7 v m
 | [],_=>rfl
 | (t,x)::l,m=>by simp only[Ai1,J7];rw[fq]
theorem AHt {D:List (Nat×Dw)}{δ:List Nat}{σ:Hp}{J:Env}(hl:δ.length=(MR D []).length):
  (oW D δ σ).e J=NS J (lI (ZO (MR D [])) δ++Uv D)∧(oW D δ σ).b=bxV (ZO (MR D [])) δ:=by
 have hle:(fp (MR D []) 0 (TG D ⟨[],[]⟩).2).2.le ⟨(fp (MR D []) 0 (TG D ⟨[],[]⟩).2).2.ρ,(fp (MR D []) 0 (TG D ⟨[],[]⟩).2).2.β,δ⟩:=⟨fun _ _=>rfl,fun _ _=>rfl⟩;obtain⟨h1,h2,h3⟩:=oV (δ0:=[]) (δ:=δ) hl (fun i _=>by rw[AjV]) hle;obtain⟨h4,_⟩:=PK h3;exact⟨by simp only[oW,S.e,fq];rw[h2,h4],h1⟩
def AL9:Nat→Nat→List Bool
 | 0,_=>[]
 | f+1,n=>match Nat.ble n 1 with
  | true=>[]
  | false=>Nat.beq (n%2) 1::AL9 f (n/2)
def pth (n:Nat):List Bool:=AL9 400 n
def Qu (body:Code):List Bool→List It
 | []=>[]
 | t::p=>match node body p with
  | .seq _ _=>bif t then Qu body p else .c (true::p)::Qu body p
  | .block i _=>.WK i::Qu body p
  | .loop _=>.lp (false::p)::Qu body p
  | .scope _=>.sc (false::p)::Qu body p
  | _=>Qu body p
def tdo (body:Code)(n:Nat):List It:=.c (pth n)::Qu body (pth n)
inductive Sh where
 | I (k:IntKind) | B | T | L | Q | A | M | V
inductive Sw where
 | o (x:Sh)
 | G (l:List Sh)
 | U (l:List Sh)
 | X (T:TypeId) (l:List Sh)
abbrev ArS:Sh→Type→Type
 | .I _,C=>Int→C
 | .B,C=>Bool→C
 | .T,C=>ByteArray→C
 | .L,C=>Option Addr→Nat→Nat→C
 | .Q,C=>Option Addr→C
 | .A,C=>Nat→C
 | .M,C=>Option Nat→C
 | .V,C=>Value→C
def AMA {C:Type}:(x:Sh)→(Dv→C)→ArS x C
 | .I k,K=>fun x=>K (.I k x)
 | .B,K=>fun x=>K (.B x)
 | .T,K=>fun x=>K (.T x)
 | .L,K=>fun p n c=>K (.L p n c)
 | .Q,K=>fun x=>K (.Q x)
 | .A,K=>fun x=>K (.A x)
 | .M,K=>fun x=>K (.M x)
 | .V,K=>fun x=>K (.V x)
abbrev ArL:List Sh→Type→Type
 | [],A=>A
 | x::l,A=>ArS x (ArL l A)
def ABo {A:Type}:(l:List Sh)→(List Dv→A)→ArL l A
 | [],K=>K []
 | x::l,K=>AMA x fun d=>ABo l fun r=>K (d::r)
abbrev ArW:Sw→Type→Type
 | .o x,C=>ArS x C
 | .G l,C=>ArL l C
 | .U l,C=>ArL l C
 | .X _ l,C=>ArL l C
def AVq {A:Type}:(x:Sw)→(Dw→A)→ArW x A
 | .o x,K=>AMA x fun d=>K (.o d)
 | .G l,K=>ABo l fun d=>K (.G d)
 | .U l,K=>ABo l fun d=>K (.U d)
 | .X T l,K=>ABo l fun d=>K (.X T d)
abbrev Ar:List (Nat×Sw)→Type→Type
 | [],A=>A
 | (_,x)::l,A=>ArW x (Ar l A)
def cur {A:Type}:(l:List (Nat×Sw))→(List (Nat×Dw)→A)→Ar l A
 | [],K=>K []
 | (t,x)::l,K=>AVq x fun d=>cur l fun r=>K ((t,d)::r)
structure Fw where
 P:Program
 f:Nat
 fn:Func
 RU:List Nat
 hid:List Nat
 wr:Bool
 reg:List (Nat×Nat×Bool)
 RV:List (Nat×TypeId)
 cuts:List (Nat×List (Nat×Sw))
def Fw.K (M:Fw):Code:=M.fn.body.getD .skip
def Fw.gl (M:Fw)(R:Rr):Gl:=Gl.fn M.P M.f M.fn.ntmps R
def Fw.cx (M:Fw)(R:Rr):Fx:={ P:=M.P,R:=R,RU:=M.RU,hid:=M.hid,wr:=M.wr,n:=M.fn.ntmps,body:=M.K,res:=M.fn.results.toList,reg:=M.reg,RV:=M.RV }
def ft (vl:Vl):List Nat→List Hv→List Bw
 | t::l,x::r=>(t,x.2.1,Bp vl x.2.2)::ft vl l r
 | _,_=>[]
def tmps:List (Nat×Sw)→List Nat
 | []=>[]
 | (_,.X _ _)::l=>tmps l
 | (t,_)::l=>t::tmps l
def vF:List (Nat×Sw)→List Nat→List Nat
 | [],r=>r
 | (t,.X _ _)::l,r=>vF l (t::r)
 | _::l,r=>vF l r
def Fw.cut (M:Fw)(R:Rr)(c:Nat×List (Nat×Sw)):Cut:=⟨tdo M.K c.1,fun s=>match s.qz (tmps c.2),s.bw (vF c.2 []) s.bx with
 | some vs,some B=>PTv (M.gl R) (FA M.K (tdo M.K c.1)) (ft s.vl (vF c.2 []) B) ((tmps c.2).zip vs) s.σ
 | _,_=>False⟩
def Wf (M:Fw)(R:Rr):List (Nat×List (Nat×Sw))→List Cut
 | []=>[]
 | c::l=>M.cut R c::Wf M R l
def Fw.ptD (M:Fw)(at_:Nat)(R:Rr)(D:List (Nat×Dw))(σ:Hp):Prop:=PTv (M.gl R) (FA M.K (tdo M.K at_)) (ZO (MR D [])) (Uv D) σ
noncomputable def Fw.pt (M:Fw)(i:Nat)(R:Rr):Ar (nth (0,[]) M.cuts i).2 (Hp→Prop):=cur (nth (0,[]) M.cuts i).2 (M.ptD (nth (0,[]) M.cuts i).1 R)
structure Fw.Ok (M:Fw):Prop where
 E:AH M.P M.RU
 mixed:M.P.follows .mixedOrders=true
 fnc:M.P.funcs[M.f]?=some M.fn
 body:M.fn.body.isSome=true
theorem Fw.AEU {M:Fw}{R:Rr}(h:M.Ok):(M.cx R).Ok (M.gl R) M.fn:=⟨⟨rfl,rfl,h.E,rfl,rfl,rfl⟩,h.mixed,h.fnc,rfl,rfl,rfl⟩
theorem fu {vl:Vl}:∀{l:List Nat} {B:List Hv},∃δ:List Nat,δ.length=(ft vl l B).length∧lI (ft vl l B) δ=Wc vl l B∧(l.length=B.length→bxV (ft vl l B) δ=HC vl B)
 | [],[]=>⟨[],rfl,rfl,fun _=>rfl⟩
 | [],_::_=>⟨[],rfl,rfl,fun h=>by simp at h⟩
 | _::_,[]=>⟨[],rfl,rfl,fun h=>by simp at h⟩
 | t::l,(i,T,cs)::B=>by
  obtain⟨δ,h1,h2,h3⟩:=fu (vl:=vl) (l:=l) (B:=B);exact⟨nth 0 vl.δ i::δ,by simp[ft,h1],by simp only[ft,lI,Wc];rw[h2],fun h=>by simp only[ft,bxV,HC];rw[h3 (by simpa using h)]⟩
theorem fw {s:S}:∀{l:List Nat} {bx B:List Hv},s.bw l bx=some B→l.length=B.length
 | [],bx,B,h=>by simp only[S.bw,AiO]at h;subst h;rfl
 | t::l,bx,B,h=>by
  simp only[S.bw]at h;split at h
  ·split at h
   ·split at h
    ·rename_i m hm;cases h;simp[fw hm]
    ·cases h
   ·cases h
  ·cases h
theorem Fw.AHu (M:Fw)(R:Rr)(c:Nat×List (Nat×Sw)):(M.cut R c).Ok (M.gl R) M.K:=fun s J h=>by
 simp only[Fw.cut]at h;split at h
 ·rename_i vs B h1 h2;obtain⟨δ,e1,e2,e3⟩:=fu (vl:=s.vl) (l:=vF c.2 []) (B:=B);refine At.AL7 h1 h2 fun J=>?_;have:=vD (h J) δ e1;rw[e2,e3 (fw h2)]at this;exact this
 ·cases h
theorem b0 {M:Fw}{R:Rr}:∀{l:List (Nat×List (Nat×Sw))},∀k∈Wf M R l,k.Ok (M.gl R) M.K
 | c::l,k,hk=>by
  rcases AiT.1 hk with rfl|hk
  ·exact M.AHu R c
  ·exact b0 k hk
theorem fx:∀{l:List Bv},(ZO l).length=l.length
 | []=>rfl
 | _::m=>by simp only[ZO,AjB];rw[fx]
def PX (F:Prop):List Bv→(List Nat→Prop)→Prop
 | [],K=>F=K []
 | _::m,K=>∀b:Nat,PX F m fun δ=>K (b::δ)
theorem vG {F:Prop}(h:F):∀{l:List Bv} {K:List Nat→Prop},PX F l K→∀δ,δ.length=l.length→K δ
 | [],K,e,[],_=>e▸h
 | _::m,K,e,b::δ,hl=>vG h (e b) δ (by simpa using hl)
theorem Fw.ofB {M:Fw}{R:Rr}{at_:Nat}{D:List (Nat×Dw)}{σ:Hp}{F:Prop}(h:F)(ok:M.Ok)(e:PX F (MR D []) fun δ=>Ev (M.cx R) (Wf M R M.cuts) 4000 true (tdo M.K at_) (oW D δ σ)):M.ptD at_ R D σ:=fun J=>by
 refine vE fun δ hl=>?_;rw[fx]at hl;have:=BG (J:=J) (Fw.AEU ok) b0 (vG h e δ hl);obtain⟨e1,e2⟩:=AHt (D:=D) (σ:=σ) (J:=J) hl;rw[e1,e2]at this;exact this
theorem Fw.of {M:Fw}{R:Rr}{at_:Nat}{D:List (Nat×Dw)}{σ:Hp}{F:Prop}(h:F)(ok:M.Ok)(hb:MR D []=[])(e:F=Ev (M.cx R) (Wf M R M.cuts) 4000 true (tdo M.K at_) (oW D [] σ):=by kernel_rfl):M.ptD at_ R D σ:=
 M.ofB h ok (by rw[hb];exact e)
theorem Fw.fy {M:Fw}{R:Rr}{at_:Nat}{D:List (Nat×Dw)}{σ:Hp}{F:Prop}{x1:Bv}(h:F)(ok:M.Ok)(hb:MR D []=[x1])(e:∀b1:Nat,F=Ev (M.cx R) (Wf M R M.cuts) 4000 true (tdo M.K at_) (oW D [b1] σ)):M.ptD at_ R D σ:=
 M.ofB h ok (by rw[hb];exact e)
theorem Fw.lJ {M:Fw}{R:Rr}{at_:Nat}{D:List (Nat×Dw)}{σ:Hp}{F:Prop}{x1 x2:Bv}(h:F)(ok:M.Ok)(hb:MR D []=[x1,x2])(e:∀b1 b2:Nat,F=Ev (M.cx R) (Wf M R M.cuts) 4000 true (tdo M.K at_) (oW D [b1,b2] σ)):M.ptD at_ R D σ:=
 M.ofB h ok (by rw[hb];exact e)
theorem Fw.ZP {M:Fw}{R:Rr}{at_:Nat}{D:List (Nat×Dw)}{σ:Hp}{F:Prop}{x1 x2 x3:Bv}(h:F)(ok:M.Ok)(hb:MR D []=[x1,x2,x3])(e:∀b1 b2 b3:Nat,F=Ev (M.cx R) (Wf M R M.cuts) 4000 true (tdo M.K at_) (oW D [b1,b2,b3] σ)):M.ptD at_ R D σ:=
 M.ofB h ok (by rw[hb];exact e)
theorem Fw.of4 {M:Fw}{R:Rr}{at_:Nat}{D:List (Nat×Dw)}{σ:Hp}{F:Prop}{x1 x2 x3 x4:Bv}(h:F)(ok:M.Ok)(hb:MR D []=[x1,x2,x3,x4])(e:∀b1 b2 b3 b4:Nat,F=Ev (M.cx R) (Wf M R M.cuts) 4000 true (tdo M.K at_) (oW D [b1,b2,b3,b4] σ)):M.ptD at_ R D σ:=
 M.ofB h ok (by rw[hb];exact e)
theorem Fw.of5 {M:Fw}{R:Rr}{at_:Nat}{D:List (Nat×Dw)}{σ:Hp}{F:Prop}{x1 x2 x3 x4 x5:Bv}(h:F)(ok:M.Ok)(hb:MR D []=[x1,x2,x3,x4,x5])(e:∀b1 b2 b3 b4 b5:Nat,F=Ev (M.cx R) (Wf M R M.cuts) 4000 true (tdo M.K at_) (oW D [b1,b2,b3,b4,b5] σ)):M.ptD at_ R D σ:=
 M.ofB h ok (by rw[hb];exact e)
def AHv:Value→Dv
 | .int k x=>.I k x
 | .bool t=>.B t
 | .string x=>.T x
 | .slice p n c=>.L p n c
 | .pointer p=>.Q p
 | .map x=>.M x
 | x=>.V x
theorem fz (x:Value):(AHv x).den=x:=by cases x<;>rfl
def oX:List Value→List Dv
 | []=>[]
 | x::l=>AHv x::oX l
theorem aP:∀l:List Value,fl (oX l)=l
 | []=>rfl
 | x::l=>by simp only[oX,fl];rw[fz,aP]
def q6:Value→Dw
 | .agg cs=>.G (oX cs.toList)
 | x=>.o (AHv x)
theorem vH (x:Value):(q6 x).den=x:=by
 cases x
 case agg cs=>simp only[q6,Dw.den,aP]
 all_goals (simp only[q6,Dw.den];exact fz _)
def vI:Value→Dw
 | .pointer (some ⟨b,0,none⟩)=>.o (.A b)
 | x=>.o (.V x)
theorem vJ (x:Value):(vI x).den=x:=by
 unfold vI;split<;>rfl
def q7 (np:Nat):Nat→List Value→List (Nat×Dw)
 | _,[]=>[]
 | k,x::l=>match Nat.blt k np with
  | true=>(k,q6 x)::q7 np (k+1) l
  | false=>(k,vI x)::q7 np (k+1) l
theorem vK (x:Value):(∃y,q6 x=.o y)∨∃y,q6 x=.G y:=by cases x<;>first|exact .inr ⟨_,rfl⟩|exact .inl ⟨_,rfl⟩
theorem vL (x:Value):∃y,vI x=.o y:=by unfold vI;split<;>exact⟨_,rfl⟩
theorem cA {np:Nat}:∀{l:List Value} {k:Nat},Uv (q7 np k l)=Wd k l∧MR (q7 np k l) []=[]
 | [],_=>⟨rfl,rfl⟩
 | x::l,k=>by
  obtain⟨h1,h2⟩:=cA (np:=np) (l:=l) (k:=k+1);simp only[q7];split
  ·have hd:=vH x;rcases vK x with ⟨y,hy⟩|⟨y,hy⟩<;>rw[hy]at hd ⊢<;>exact⟨by simp only[Uv,Wd];rw[hd,h1],h2⟩
  ·have hd:=vJ x;obtain⟨y,hy⟩:=vL x;rw[hy]at hd ⊢;exact⟨by simp only[Uv,Wd];rw[hd,h1],h2⟩
def Fw.run (M:Fw)(R:Rr)(k:Nat)(D:List (Nat×Dw))(σ:Hp):Prop:=match Nat.ble k M.fn.ntmps with
 | true=>Ev (M.cx R) (Wf M R M.cuts) 4000 true [.c []] (oW D [] σ)
 | false=>False
theorem Fw.HF {M:Fw}{R:Rr}{args:Array Value}{σ:Hp}{F:Prop}(h:F)(ok:M.Ok)(D:List (Nat×Dw))(hx:MR D []=[])(hD:Uv D=Wd 0 args.toList)(e:F=M.run R args.size D σ):Spec M.P M.f args σ R:=by
 subst e;unfold Fw.run at h;split at h
 case h_2=>exact h.elim
 rename_i hn;obtain⟨fb,hb⟩:=Option.isSome_iff_exists.1 ok.body;refine Spec.walk (c:=M.cx R) (cuts:=Wf M R M.cuts) (s:=oW D [] σ) (fuel:=4000) (Fw.AEU ok) ?_ rfl hn b0 ?_ ?_ h
 ·show M.fn.body=some (M.fn.body.getD .skip)
  rw[hb];rfl
 ·obtain⟨h4,_⟩:=PK (l:=D) (n:=⟨[],[]⟩) (v:=⟨(TG D ⟨[],[]⟩).2.ρ,(TG D ⟨[],[]⟩).2.β,[]⟩) ⟨fun _ _=>rfl,fun _ _=>rfl⟩;rw[hD]at h4;simp only[oW,hx];exact h4
 ·simp only[oW,hx];rfl
theorem Fw.start {M:Fw}{R:Rr}{args:Array Value}{σ:Hp}{F:Prop}(h:F)(ok:M.Ok)(e:F=M.run R args.size (q7 M.fn.params.size 0 args.toList) σ:=by kernel_rfl):Spec M.P M.f args σ R:=
 M.HF h ok _ cA.2 cA.1 e
abbrev wI:Sw:=.o (.I .i64)
abbrev wU:Sw:=.o (.I .u64)
abbrev w8:Sw:=.o (.I .u8)
abbrev wB:Sw:=.o .B
abbrev wT:Sw:=.o .T
abbrev wL:Sw:=.o .L
abbrev wQ:Sw:=.o .Q
abbrev wA:Sw:=.o .A
abbrev wM:Sw:=.o .M
abbrev wV:Sw:=.o .V
abbrev aD (b o:Nat):Option Addr:=some ⟨b,o,none⟩
theorem gA {p:Option Addr}{b o:Nat}(h:p=some ⟨b,o,none⟩):aD b o=p:=h.symm
abbrev Br (p A B:Prop):Prop:=(p→A)∧(¬p→B)
abbrev Bm (p A B:Prop):Prop:=(¬p→A)∧(p→B)
abbrev Bo (t:Bool)(A B:Prop):Prop:=(t=true→A)∧(t=false→B)
abbrev Bn (t:Bool)(A B:Prop):Prop:=(t=false→A)∧(t=true→B)
abbrev Pq (p:Option Addr)(K:Nat→Nat→Prop):Prop:=∃b o:Nat,p=some ⟨b,o,none⟩∧K b o
abbrev In (x n:Int):Prop:=(0:Int)≤x∧x<n
abbrev Df (r:Int)(K:Int→Prop):Prop:=∀x:Int,x=r→K x
abbrev Al (σ:Hp)(K:Nat→Prop):Prop:=∀b:Nat,σ b=none→K b
abbrev LI (k:IntKind)(σ:Hp)(b o:Nat)(K:Int→Prop):Prop:=∃x:Int,Hp.ld σ ⟨b,o,none⟩=some (.int k x)∧K x
abbrev LB (σ:Hp)(b o:Nat)(K:Bool→Prop):Prop:=∃x:Bool,Hp.ld σ ⟨b,o,none⟩=some (.bool x)∧K x
abbrev LT (σ:Hp)(b o:Nat)(K:ByteArray→Prop):Prop:=∃x:ByteArray,Hp.ld σ ⟨b,o,none⟩=some (.string x)∧K x
abbrev LQ (σ:Hp)(b o:Nat)(K:Option Addr→Prop):Prop:=∃x:Option Addr,Hp.ld σ ⟨b,o,none⟩=some (.pointer x)∧K x
abbrev LS (σ:Hp)(b o:Nat)(K:Option Addr→Nat→Nat→Prop):Prop:=∃p:Option Addr,∃n:Nat,∃c:Nat,Hp.ld σ ⟨b,o,none⟩=some (.slice p n c)∧K p n c
abbrev CI (k:IntKind)(K:Int→Hp→Prop):Value→Hp→Prop:=fun v σ=>∃x:Int,v=.int k x∧K x σ
abbrev CB (K:Bool→Hp→Prop):Value→Hp→Prop:=fun v σ=>∃x:Bool,v=.bool x∧K x σ
abbrev CT (K:ByteArray→Hp→Prop):Value→Hp→Prop:=fun v σ=>∃x:ByteArray,v=.string x∧K x σ
abbrev CQ (K:Option Addr→Hp→Prop):Value→Hp→Prop:=fun v σ=>∃x:Option Addr,v=.pointer x∧K x σ
abbrev CS (K:Option Addr→Nat→Nat→Hp→Prop):Value→Hp→Prop:=fun v σ=>∃p:Option Addr,∃n:Nat,∃c:Nat,v=.slice p n c∧K p n c σ
end Tw
end
section
set_option maxRecDepth 100000
noncomputable section
namespace TwW
open Go Tw Go.Proofs.Tryz
variable [G9]{R:Rr}{σ:Hp}
abbrev AF (f:FuncId)(a:Array Value)(s:Hp)(R:Rr)(K:Value→Hp→Prop):Prop:=Spec prog f a s (BB R K)
abbrev E3 (T:TypeId)(p:Option Addr)(n c b:Nat):Sem Value:=Builtin.append_ #[T,T] T #[.slice p n c,.slice (aD b 0) 1 1]

namespace Jg
variable {p0 p1:Option Addr}{n0 c0 n1 c1:Nat}{x2:Int}
def M:Fw:=⟨prog,3,f3,[5,6,7,8,9,10,11,12,13,14],[],false,[],[],[]⟩
def ok:M.Ok:=⟨.cons call5 (.cons call6 (.cons call7 (.cons call8 (.cons call9 (.cons call10 (.cons call11 (.cons call12 (.cons call13 (.cons call14 (AH.nil)))))))))),mixed,func3,by kernel_rfl⟩
def start (h:AF 5 #[.slice p0 n0 c0,.slice p1 n1 c1,.I x2] σ R (fun z y=>∃q8 q9 rC gB,z=(.tuple #[.slice q8 q9 rC,.I gB])∧AF 6 #[.slice p0 n0 c0] y R (CS fun gC n27 aQ AB=>AF 7 #[.slice p1 n1 c1] AB R (CS fun oY n29 gD AI=>AF 8 #[.slice gC n27 aQ,.slice oY n29 gD,.I x2] AI R (fun z AU=>∃rD lK vM gE,z=(.tuple #[.slice rD lK vM,.I gE])∧AF 9 #[.slice gC n27 aQ] AU R (fun z DI=>∃vN vO,z=(.tuple #[.I vN,.I vO])∧AF 10 #[.slice p0 n0 c0] DI R (fun z Gi=>∃gF gG,z=(.tuple #[.I gF,.I gG])∧AF 11 #[.slice gC n27 aQ,.slice p0 n0 c0] Gi R (CB fun t49 Pn=>Bn t49 (R (.B false) Pn) (AF 12 #[.slice oY n29 gD,.slice p1 n1 c1] Pn R (CB fun t54 Qv=>Bn t54 (R (.B false) Qv) (Br (gE≠gB) (R (.B false) Qv) (Br (vN≠gF) (R (.B false) Qv) (Br (vO≠gG) (R (.B false) Qv) (AF 12 #[.slice rD lK vM,.slice q8 q9 rC] Qv R (CB fun t75 gH=>Bn t75 (R (.B false) gH) (AF 8 #[.slice gC n27 aQ,.slice oY n29 gD,.I x2] gH R (fun z ZQ=>∃gI gJ gK vP,z=(.tuple #[.slice gI gJ gK,.I vP])∧AF 13 #[.slice rD lK vM] ZQ R (fun z lL=>z=(.tuple #[])∧AF 12 #[.slice gI gJ gK,.slice q8 q9 rC] lL R (CB fun t89 TH=>Bo t89 (AF 12 #[.slice oY n29 gD,.slice p1 n1 c1] TH R (CB fun t93 Po=>Bo t93 (AF 14 #[] Po R (CB fun t96 ZR=>R (.B t96) ZR)) (R (.B false) Po))) (R (.B false) TH)))))))))))))))))))):Spec prog 3 #[.slice p0 n0 c0,.slice p1 n1 c1,.I x2] σ R:=M.start h ok
end Jg
namespace ER
variable {p0 p1:Option Addr}{n0 c0 n1 c1:Nat}{x5:Int}
def M:Fw:=⟨prog,12,f12,[32,33],[],false,[],[],[(464,[(0,wL),(1,wL),(5,wI)])]⟩
def ok:M.Ok:=⟨.cons call32 (.cons call33 (AH.nil)),mixed,func12,by kernel_rfl⟩
def Aw:=M.pt 0
def start (h:Br ((n0:Int)≠(n1:Int)) (R (.B false) σ) (Aw R p0 n0 c0 p1 n1 c1 0 σ)):Spec prog 12 #[.slice p0 n0 c0,.slice p1 n1 c1] σ R:=M.start h ok
def Ay (h:Br (x5<(n0:Int)) (Pq p0 fun Dl Vg=>In x5 (n0:Int)∧LS σ Dl (Vg+x5.toNat*2) fun RW n21 Pp=>Pq p1 fun b24 o24=>In x5 (n1:Int)∧LS σ b24 (o24+x5.toNat*2) fun p26 n26 c26=>AF 32 #[.slice RW n21 Pp,.slice p26 n26 c26] σ R (CB fun t27 y=>Bn t27 (R (.B false) y) (In x5 (n0:Int)∧LS y Dl ((Vg+x5.toNat*2)+1) fun p34 n34 c34=>In x5 (n1:Int)∧LS y b24 ((o24+x5.toNat*2)+1) fun p39 n39 c39=>AF 33 #[.slice p34 n34 c34,.slice p39 n39 c39] y R (CB fun t40 AB=>Bn t40 (R (.B false) AB) (AG (x5+1)∧Aw R (aD Dl Vg) n0 c0 (aD b24 o24) n1 c1 (x5+1) AB))))) (R (.B true) σ)):Aw R p0 n0 c0 p1 n1 c1 x5 σ:=M.of h ok rfl
end ER
namespace CU
variable {p0:Option Addr}{n0 c0:Nat}{x2:Int}
def M:Fw:=⟨prog,13,f13,[34,35],[],false,[],[],[(48,[(0,wL),(2,wI)])]⟩
def ok:M.Ok:=⟨.cons call34 (.cons call35 (AH.nil)),mixed,func13,by kernel_rfl⟩
def pt6:=M.pt 0
def start (h:pt6 R p0 n0 c0 0 σ):Spec prog 13 #[.slice p0 n0 c0] σ R:=M.start h ok
def TI (h:Br (x2<(n0:Int)) (Pq p0 fun CH gL=>In x2 (n0:Int)∧LS σ CH (gL+x2.toNat*2) fun p13 n13 c13=>AF 34 #[.slice p13 n13 c13] σ R (fun z y=>z=(.tuple #[])∧In x2 (n0:Int)∧LS y CH ((gL+x2.toNat*2)+1) fun rE n19 lM=>AF 35 #[.slice rE n19 lM] y R (fun z AB=>z=(.tuple #[])∧In x2 (n0:Int)∧AK prog (Instr.storeAt 51 (.pointer (aD CH (gL+x2.toNat*2))) (.agg #[.N,.N])) AB (fun _ AI=>AG (x2+1)∧pt6 R (aD CH gL) n0 c0 (x2+1) AI)))) (R (.T #[]) σ)):pt6 R p0 n0 c0 x2 σ:=M.of h ok rfl
end CU
namespace Db
noncomputable def K0:=f16.body.getD .skip
def K1:=cl K0
def K2:=cr K0
def K3:=cl K2
def K4:=cl K3
def K5:=cr K3
def K6:=cl K5
def K7:=cr K5
def K8:=cl K7
def K9:=cl K8
def K10:=cr K8
def K11:=cr K7
def K12:=cr K2
def K13:=cl K12
def K14:=cl K13
def K15:=cr K13
def K16:=cl K15
def K17:=cl K16
def K18:=cr K16
def K19:=cr K15
def K20:=cr K12
def K21:=cl K20
def K22:=cl K21
def K23:=cr K21
def K24:=cl K23
def K25:=cl K24
def K26:=cr K24
def K27:=cr K23
def K28:=cr K20
def K29:=cl K28
def K30:=cr K28
def K31:=cl K30
def K32:=cr K30
def K33:=cl K32
def K34:=cl K33
def K35:=cr K33
def K36:=cl K35
def K37:=cl K36
def K38:=cr K36
def K39:=cl K38
def K40:=cl K39
def K41:=cr K39
def K42:=cl K41
def K43:=cl K42
def K44:=cr K42
def K45:=cl K44
def K46:=cl K45
def K47:=cr K45
def K48:=cr K44
def K49:=cr K41
def K50:=cl K49
def K51:=cr K49
def K52:=cl K51
def K53:=cl K52
def K54:=cl K53
def K55:=cr K53
def K56:=cl K55
def K57:=cl K56
def K58:=cr K56
def K59:=cr K55
def K60:=cl K59
def K61:=cl K60
def K62:=cl K61
def K63:=cr K61
def K64:=cl K63
def K65:=cr K63
def K66:=cl K65
def K67:=cl K66
def K68:=cr K66
def K69:=cl K68
def K70:=cl K69
def K71:=cr K69
def K72:=cl K71
def K73:=cr K71
def K74:=cr K68
def K75:=cr K65
def K76:=cr K59
def K77:=cr K32
def K78:=cl K77
def K79:=cr K77
def K80:=cl K79
def K81:=cr K79
def K82:Code:=.ret
abbrev gl (R:Rr):Gl:=Gl.fn prog 16 117 R
def F7 (R:Rr)(l:Nat)(r0:Loop)(b5 b6 FB CH D9 DO:Nat)(oZ:Int)(σ:Hp):Prop:=∀(J:Env),At (Gl.round prog 16 117 l R) [.code K37,.beginRound,.code K38] (NS J [(5,(.pointer (some ⟨b5,0,none⟩))),(6,(.pointer (some ⟨b6,0,none⟩))),(10,(.pointer (some ⟨FB,0,none⟩))),(11,(.pointer (some ⟨CH,0,none⟩))),(13,(.pointer (some ⟨D9,0,none⟩))),(14,(.pointer (some ⟨DO,0,none⟩))),(56,(.I oZ))]) [] σ
def cB (R:Rr)(l:Nat)(r0:Loop)(D9 DO:Nat)(x15:Int)(ZS:Option Addr)(Wg Uw:Nat)(RX TJ:Int)(σ:Hp):Prop:=∀(J:Env),At (Gl.round prog 16 117 l R) [.code K54,.code K55,.inLoop K53,.inBlock 2,.inBlock 1] (NS J [(13,(.pointer (some ⟨D9,0,none⟩))),(14,(.pointer (some ⟨DO,0,none⟩))),(15,(.I x15)),(67,(.slice ZS Wg Uw)),(68,(.I RX)),(69,(.I TJ))]) [] σ
def ABp (R:Rr)(l:Nat)(r0:Loop)(D9 DO:Nat)(x15:Int)(Dl:Nat)(II:Int)(ZS:Option Addr)(Wg Uw:Nat)(RX TJ:Int)(σ:Hp):Prop:=∀(J:Env),At (Gl.round prog 16 117 l R) [.code K75,.inBlock 3,.code K76,.inLoop K53,.inBlock 2,.inBlock 1] (NS J [(13,(.pointer (some ⟨D9,0,none⟩))),(14,(.pointer (some ⟨DO,0,none⟩))),(15,(.I x15)),(19,(.pointer (some ⟨Dl,0,none⟩))),(20,(.I II)),(67,(.slice ZS Wg Uw)),(68,(.I RX)),(69,(.I TJ))]) [] σ
def start {R:Rr}{p0 p1:Option Addr}{n0 c0 n1 c1:Nat}{x2 x3 x4:Int}{σ:Hp}(h:∀b5:Nat,σ b5=none→∀b6:Nat,(Hp.set σ b5 (.cells #[(.slice p0 n0 c0)] 22 (0,0))) b6=none→∀FB:Nat,(Hp.set (Hp.set σ b5 (.cells #[(.slice p0 n0 c0)] 22 (0,0))) b6 (.cells #[(.slice p1 n1 c1)] 23 (0,0))) FB=none→∀CH:Nat,(Hp.set (Hp.set (Hp.set σ b5 (.cells #[(.slice p0 n0 c0)] 22 (0,0))) b6 (.cells #[(.slice p1 n1 c1)] 23 (0,0))) FB (.cells #[(.N)] 23 (0,0))) CH=none→∃aR:Option Addr,∃n22:Nat,∃ZD:Nat,Hp.ld (Hp.set (Hp.set (Hp.set (Hp.set σ b5 (.cells #[(.slice p0 n0 c0)] 22 (0,0))) b6 (.cells #[(.slice p1 n1 c1)] 23 (0,0))) FB (.cells #[(.N)] 23 (0,0))) CH (.cells #[(.I 0)] 24 (0,0))) ⟨b5,0,none⟩=some (.slice aR n22 ZD)∧∃vQ:Option Addr,∃n23:Nat,∃vR:Nat,Hp.ld (Hp.set (Hp.set (Hp.set (Hp.set σ b5 (.cells #[(.slice p0 n0 c0)] 22 (0,0))) b6 (.cells #[(.slice p1 n1 c1)] 23 (0,0))) FB (.cells #[(.N)] 23 (0,0))) CH (.cells #[(.I 0)] 24 (0,0))) ⟨b6,0,none⟩=some (.slice vQ n23 vR)∧AF 25 #[(.slice aR n22 ZD),(.slice vQ n23 vR)] (Hp.set (Hp.set (Hp.set (Hp.set σ b5 (.cells #[(.slice p0 n0 c0)] 22 (0,0))) b6 (.cells #[(.slice p1 n1 c1)] 23 (0,0))) FB (.cells #[(.N)] 23 (0,0))) CH (.cells #[(.I 0)] 24 (0,0))) R (fun v σ1=>∃JG:Int,v=(.I JG)∧((JG:Int)≠0→AK prog (Instr.storeAt 23 (.pointer (some ⟨FB,0,none⟩)) (.N)) σ1 (fun _ I8=>AK prog (Instr.storeAt 24 (.pointer (some ⟨CH,0,none⟩)) (.I JG)) I8 (fun _ EA=>∃Ek:Option Addr,∃Em:Nat,∃En:Nat,∃Eo:Int,Hp.ld EA ⟨FB,0,none⟩=some (.slice Ek Em En)∧Hp.ld EA ⟨CH,0,none⟩=some (.I Eo)∧R (.T #[(.slice Ek Em En),(.I Eo)]) EA)))∧(¬((JG:Int)≠0)→AF 26 #[(.I x2)] σ1 R (fun v_2 I8=>∃t29:Bool,v_2=(.bool t29)∧(t29=false→AK prog (Instr.storeAt 23 (.pointer (some ⟨FB,0,none⟩)) (.N)) I8 (fun _ EA=>AK prog (Instr.storeAt 24 (.pointer (some ⟨CH,0,none⟩)) (.I 221)) EA (fun _ Ew=>∃Ek:Option Addr,∃Em:Nat,∃En:Nat,∃Eo:Int,Hp.ld Ew ⟨FB,0,none⟩=some (.slice Ek Em En)∧Hp.ld Ew ⟨CH,0,none⟩=some (.I Eo)∧R (.T #[(.slice Ek Em En),(.I Eo)]) Ew)))∧(t29=true→AF 26 #[(.I x3)] I8 R (fun v_3 EA=>∃t33:Bool,v_3=(.bool t33)∧(t33=false→AK prog (Instr.storeAt 23 (.pointer (some ⟨FB,0,none⟩)) (.N)) EA (fun _ Ew=>AK prog (Instr.storeAt 24 (.pointer (some ⟨CH,0,none⟩)) (.I 221)) Ew (fun _ DK=>∃Ek:Option Addr,∃Em:Nat,∃En:Nat,∃Eo:Int,Hp.ld DK ⟨FB,0,none⟩=some (.slice Ek Em En)∧Hp.ld DK ⟨CH,0,none⟩=some (.I Eo)∧R (.T #[(.slice Ek Em En),(.I Eo)]) DK)))∧(t33=true→((x3:Int)<x2→AK prog (Instr.storeAt 23 (.pointer (some ⟨FB,0,none⟩)) (.N)) EA (fun _ Ew=>AK prog (Instr.storeAt 24 (.pointer (some ⟨CH,0,none⟩)) (.I 221)) Ew (fun _ DK=>∃Ek:Option Addr,∃Em:Nat,∃En:Nat,∃Eo:Int,Hp.ld DK ⟨FB,0,none⟩=some (.slice Ek Em En)∧Hp.ld DK ⟨CH,0,none⟩=some (.I Eo)∧R (.T #[(.slice Ek Em En),(.I Eo)]) DK)))∧(¬((x3:Int)<x2)→((x4:Int)<1→AK prog (Instr.storeAt 23 (.pointer (some ⟨FB,0,none⟩)) (.N)) EA (fun _ Ew=>AK prog (Instr.storeAt 24 (.pointer (some ⟨CH,0,none⟩)) (.I 221)) Ew (fun _ DK=>∃Ek:Option Addr,∃Em:Nat,∃En:Nat,∃Eo:Int,Hp.ld DK ⟨FB,0,none⟩=some (.slice Ek Em En)∧Hp.ld DK ⟨CH,0,none⟩=some (.I Eo)∧R (.T #[(.slice Ek Em En),(.I Eo)]) DK)))∧(¬((x4:Int)<1)→AG (x3-x2)∧x4≠(0:Int)∧∀RY:Int,RY=IntKind.i64.wrap (Int.tdiv (x3-x2) x4)→((512:Int)≤RY→AK prog (Instr.storeAt 23 (.pointer (some ⟨FB,0,none⟩)) (.N)) EA (fun _ Ew=>AK prog (Instr.storeAt 24 (.pointer (some ⟨CH,0,none⟩)) (.I 222)) Ew (fun _ DK=>∃Ek:Option Addr,∃Em:Nat,∃En:Nat,∃Eo:Int,Hp.ld DK ⟨FB,0,none⟩=some (.slice Ek Em En)∧Hp.ld DK ⟨CH,0,none⟩=some (.I Eo)∧R (.T #[(.slice Ek Em En),(.I Eo)]) DK)))∧(¬((512:Int)≤RY)→AK prog (Instr.makeMap 78 none) EA (fun v_4 Ew=>∃m51:Nat,v_4=(.map (some m51))∧∀D9:Nat,Ew D9=none→AK prog (Instr.storeAt 78 (.pointer (some ⟨D9,0,none⟩)) (.map (some m51))) (Hp.set Ew D9 (.cells #[(.map none)] 78 (0,0))) (fun _ DK=>∀DO:Nat,DK DO=none→AF 38 #[(.I x2),(.I x3),(.I x4)] (Hp.set DK DO (.cells #[(.N)] 23 (0,0))) R (fun v_5 RZ=>∃f55:Fn,∃a55:Array Value,∃c55:Array Value,(Value.func f55 a55 c55)=v_5∧∃(gf:Nat) (lb:Array Value),(Value.func f55 a55 c55)=.func (.func gf) #[] lb∧Enters prog gf∧∀(lN j4:Nat) (Ux:Loop),lN≠j4→RZ lN=none→RZ j4=none→(∀(R2:Rr) (σ2:Hp) (ABq:Int),σ2 j4=some (.loop (lp Ux .ready none))→F7 R2 j4 Ux b5 b6 FB CH D9 DO ABq σ2→LL prog j4 #[(.I ABq)] σ2 R2)→Spec prog gf (#[.func (.yield j4) #[] #[]]++lb) (Hp.set (Hp.set RZ lN (.deferred (some []))) j4 (.loop (lp Ux .ready none))) (fun en NZ=>∃(v:Value) (s:LoopState) (p:Option Code),en=.returned v∧NZ j4=some (.loop (lp Ux s p))∧s≠.busy∧((p=none∧∃ABr:Option Addr,∃n114:Nat,∃ABs:Nat,Hp.ld (Hp.set NZ j4 (.loop (lp Ux .exhausted none))) ⟨DO,0,none⟩=some (.slice ABr n114 ABs)∧Spec prog 40 #[(.slice ABr n114 ABs),(.func (.func 41) #[] #[])] (Hp.set NZ j4 (.loop (lp Ux .exhausted none))) (BB (NP R) (fun v_6 aS=>v_6=(.tuple #[])∧∃vS:Option Addr,∃n116:Nat,∃vT:Nat,Hp.ld aS ⟨DO,0,none⟩=some (.slice vS n116 vT)∧AK prog (Instr.storeAt 23 (.pointer (some ⟨FB,0,none⟩)) (.slice vS n116 vT)) aS (fun _ AEX=>AK prog (Instr.storeAt 24 (.pointer (some ⟨CH,0,none⟩)) (.I 0)) AEX (fun _ Wh=>∃Ek:Option Addr,∃Em:Nat,∃En:Nat,∃Eo:Int,Wh lN=some (.deferred (some []))∧Hp.ld (Hp.set Wh lN (.deferred none)) ⟨FB,0,none⟩=some (.slice Ek Em En)∧Hp.ld (Hp.set Wh lN (.deferred none)) ⟨CH,0,none⟩=some (.I Eo)∧R (.T #[(.slice Ek Em En),(.I Eo)]) (Hp.set Wh lN (.deferred none)))))))∨(p=(some .ret)∧∃cC:Option Addr,∃cD:Nat,∃cE:Nat,∃cG:Int,(Hp.set NZ j4 (.loop (lp Ux .exhausted (some .ret)))) lN=some (.deferred (some []))∧Hp.ld (Hp.set (Hp.set NZ j4 (.loop (lp Ux .exhausted (some .ret)))) lN (.deferred none)) ⟨FB,0,none⟩=some (.slice cC cD cE)∧Hp.ld (Hp.set (Hp.set NZ j4 (.loop (lp Ux .exhausted (some .ret)))) lN (.deferred none)) ⟨CH,0,none⟩=some (.I cG)∧R (.T #[(.slice cC cD cE),(.I cG)]) (Hp.set (Hp.set NZ j4 (.loop (lp Ux .exhausted (some .ret)))) lN (.deferred none)))))))))))))))))):Spec prog 16 #[(.slice p0 n0 c0),(.slice p1 n1 c1),(.I x2),(.I x3),(.I x4)] σ R:=by
 refine Spec.nu (fn:=f16) (c:=K0) func16 (by kernel_rfl) (AjF (by kernel_rfl)) (fun e he=>?_);refine At.ofL (l:=[(0,(.slice p0 n0 c0)),(1,(.slice p1 n1 c1)),(2,(.I x2)),(3,(.I x3)),(4,(.I x4))]) ⟨he 0,he 1,he 2,he 3,he 4,trivial⟩ (fun J=>?_);show At (gl R) _ _ _ _
 refine At.s K1 K2 ?_;refine At.rg 0 [0,1,2,3] ?_;refine Seq.o ?_;refine AP.AHA (T:=22) (d:=(some 5)) (ty:=0) (x:=(.tmp 0)) (gd:=none) (cs:=#[(.slice p0 n0 c0)]) (by kernel_rfl) rfl rfl rfl (fun b5 hn=>?_)
 replace h:=h b5 hn
 refine Seq.o ?_;refine AP.AHA (T:=23) (d:=(some 6)) (ty:=0) (x:=(.tmp 1)) (gd:=none) (cs:=#[(.slice p1 n1 c1)]) (by kernel_rfl) rfl rfl rfl (fun b6 hn=>?_)
 replace h:=h b6 hn
 refine Seq.o ?_;refine AP.S4 (T:=23) (d:=(some 10)) (ty:=0)  (gd:=none) (cs:=#[(.N)]) (by kernel_rfl) rfl rfl zeroValue23 rfl (fun FB hn=>?_)
 replace h:=h FB hn
 refine Seq.o ?_;refine AP.S4 (T:=24) (d:=(some 11)) (ty:=0)  (gd:=none) (cs:=#[(.I 0)]) (by kernel_rfl) rfl rfl zeroValue24 rfl (fun CH hn=>?_)
 replace h:=h CH hn
 refine Seq.done ?_;refine At.s K3 K12 (At.s K4 K5 ?_);refine At.rg 1 [0,1,2,3] ?_;obtain⟨aR,n22,ZD,hl,h⟩:=h;refine Seq.z 22 (.load 22 (.tmp 5)) 22 (.slice aR n22 ZD) (Y.ld isAgg22 rfl hl) ?_;obtain⟨vQ,n23,vR,hl,h⟩:=h;refine Seq.z 23 (.load 23 (.tmp 6)) 23 (.slice vQ n23 vR) (Y.ld isAgg23 rfl hl) ?_;refine Seq.o ?_;refine AP.cl (some 24) call25 (h.cont fun v σ1 h2=>?_);replace h:=h2;clear h2;obtain⟨JG,rfl,h⟩:=h;refine Seq.u 12 (.I JG) (Seq.done ?_);refine At.s K6 K7 ?_;refine At.rg 2 [0,1] ?_;refine Seq.us [(25,.I JG),(26,.bool (decide ((JG:Int)≠0)))] (Seq.done ?_);cases hb:(decide ((JG:Int)≠0)) with
 | true=>
  replace h:=h.1 (AiP hb)
  refine At.cT 26 K8 K11 ?_;refine At.s K9 K10 ?_;refine At.rg 3 [0,1,2] ?_;refine Seq.u 27 (.I JG) ?_;refine Seq.o ?_;refine AP.store (T:=23) (ty:=0) (x:=(.tmp 10)) (y:=(.const (.N))) (p:=(.pointer (some ⟨FB,0,none⟩))) (v:=(.N)) (gd:=none) (by kernel_rfl) rfl rfl rfl (h.mono (fun _ I8 h2=>?_));replace h:=h2;clear h2;refine Seq.o ?_;refine AP.store (T:=24) (ty:=0) (x:=(.tmp 11)) (y:=(.tmp 27)) (p:=(.pointer (some ⟨CH,0,none⟩))) (v:=(.I JG)) (gd:=none) (by kernel_rfl) rfl rfl rfl (h.mono (fun _ EA h2=>?_));replace h:=h2;clear h2;refine Seq.done ?_;obtain⟨Ek,Em,En,Eo,TL,TM,h⟩:=h;exact At.rt [.cell 10 23,.cell 11 24] [(.slice Ek Em En),(.I Eo)] func16 ⟨_,_,rfl,⟨_,rfl,Di isAgg23 TL⟩,⟨_,_,rfl,⟨_,rfl,Di isAgg24 TM⟩,rfl⟩⟩ h
 | false=>
  replace h:=h.2 (Aio hb)
  refine At.cF 26 K8 K11 ?_;refine At.skip ?_;refine At.s K13 K20 (At.s K14 K15 ?_);refine At.rg 4 [0,1,2,3,4,5,6,7,8,9,10,11,12,13,14,15,16] ?_;refine Seq.u 28 (.I x2) ?_;refine Seq.o ?_;refine AP.cl (some 29) call26 (h.cont fun v_2 I8 h2=>?_);replace h:=h2;clear h2;obtain⟨t29,rfl,h⟩:=h;refine Seq.us [(30,.bool (!t29)),(31,.bool (!t29))] ?_;cases hb:(!t29) with
  | true=>
   replace h:=h.1 (Tw.nt hb)
   refine Seq.n 32 ?_;refine Seq.n 33 ?_;refine Seq.n 34 ?_;refine Seq.us [(35,.bool true),(36,.bool true)] ?_;refine Seq.n 37 ?_;refine Seq.n 38 ?_;refine Seq.n 39 ?_;refine Seq.us [(40,.bool true),(41,.bool true)] ?_;refine Seq.n 42 ?_;refine Seq.n 43 ?_;refine Seq.u 44 (.bool true) (Seq.done ?_);refine At.cT 44 K16 K19 ?_;refine At.s K17 K18 ?_;refine At.rg 5 [0,1] ?_;refine Seq.o ?_;refine AP.store (T:=23) (ty:=0) (x:=(.tmp 10)) (y:=(.const (.N))) (p:=(.pointer (some ⟨FB,0,none⟩))) (v:=(.N)) (gd:=none) (by kernel_rfl) rfl rfl rfl (h.mono (fun _ EA h2=>?_));replace h:=h2;clear h2;refine Seq.o ?_;refine AP.store (T:=24) (ty:=0) (x:=(.tmp 11)) (y:=(.const (.I 221))) (p:=(.pointer (some ⟨CH,0,none⟩))) (v:=(.I 221)) (gd:=none) (by kernel_rfl) rfl rfl rfl (h.mono (fun _ Ew h2=>?_));replace h:=h2;clear h2;refine Seq.done ?_;obtain⟨Ek,Em,En,Eo,TL,TM,h⟩:=h;exact At.rt [.cell 10 23,.cell 11 24] [(.slice Ek Em En),(.I Eo)] func16 ⟨_,_,rfl,⟨_,rfl,Di isAgg23 TL⟩,⟨_,_,rfl,⟨_,rfl,Di isAgg24 TM⟩,rfl⟩⟩ h
  | false=>
   replace h:=h.2 (Tw.nf hb)
   refine Seq.u 32 (.I x3) ?_;refine Seq.o ?_;refine AP.cl (some 33) call26 (h.cont fun v_3 EA h2=>?_);replace h:=h2;clear h2;obtain⟨t33,rfl,h⟩:=h;refine Seq.us [(34,.bool (!t33)),(35,.bool (!t33)),(36,.bool (!t33))] ?_;cases hb:(!t33) with
   | true=>
    replace h:=h.1 (Tw.nt hb)
    refine Seq.n 37 ?_;refine Seq.n 38 ?_;refine Seq.n 39 ?_;refine Seq.us [(40,.bool true),(41,.bool true)] ?_;refine Seq.n 42 ?_;refine Seq.n 43 ?_;refine Seq.u 44 (.bool true) (Seq.done ?_);refine At.L [(2,(.I x2)),(3,(.I x3)),(4,(.I x4)),(5,(.pointer (some ⟨b5,0,none⟩))),(6,(.pointer (some ⟨b6,0,none⟩))),(10,(.pointer (some ⟨FB,0,none⟩))),(11,(.pointer (some ⟨CH,0,none⟩))),(44,(.bool true))] fun J=>?_;refine At.cT 44 K16 K19 ?_;refine At.s K17 K18 ?_;refine At.rg 5 [0,1] ?_;refine Seq.o ?_;refine AP.store (T:=23) (ty:=0) (x:=(.tmp 10)) (y:=(.const (.N))) (p:=(.pointer (some ⟨FB,0,none⟩))) (v:=(.N)) (gd:=none) (by kernel_rfl) rfl rfl rfl (h.mono (fun _ Ew h2=>?_));replace h:=h2;clear h2;refine Seq.o ?_;refine AP.store (T:=24) (ty:=0) (x:=(.tmp 11)) (y:=(.const (.I 221))) (p:=(.pointer (some ⟨CH,0,none⟩))) (v:=(.I 221)) (gd:=none) (by kernel_rfl) rfl rfl rfl (h.mono (fun _ DK h2=>?_));replace h:=h2;clear h2;refine Seq.done ?_;obtain⟨Ek,Em,En,Eo,TL,TM,h⟩:=h;exact At.rt [.cell 10 23,.cell 11 24] [(.slice Ek Em En),(.I Eo)] func16 ⟨_,_,rfl,⟨_,rfl,Di isAgg23 TL⟩,⟨_,_,rfl,⟨_,rfl,Di isAgg24 TM⟩,rfl⟩⟩ h
   | false=>
    replace h:=h.2 (Tw.nf hb)
    refine Seq.us [(37,.I x2),(38,.I x3),(39,.bool (decide ((x3:Int)<x2))),(40,.bool (decide ((x3:Int)<x2))),(41,.bool (decide ((x3:Int)<x2)))] ?_;cases hb:(decide ((x3:Int)<x2)) with
    | true=>
     replace h:=h.1 (AiP hb)
     refine Seq.n 42 ?_;refine Seq.n 43 ?_;refine Seq.u 44 (.bool true) (Seq.done ?_);refine At.cT 44 K16 K19 ?_;refine At.s K17 K18 ?_;refine At.rg 5 [0,1] ?_;refine Seq.o ?_;refine AP.store (T:=23) (ty:=0) (x:=(.tmp 10)) (y:=(.const (.N))) (p:=(.pointer (some ⟨FB,0,none⟩))) (v:=(.N)) (gd:=none) (by kernel_rfl) rfl rfl rfl (h.mono (fun _ Ew h2=>?_));replace h:=h2;clear h2;refine Seq.o ?_;refine AP.store (T:=24) (ty:=0) (x:=(.tmp 11)) (y:=(.const (.I 221))) (p:=(.pointer (some ⟨CH,0,none⟩))) (v:=(.I 221)) (gd:=none) (by kernel_rfl) rfl rfl rfl (h.mono (fun _ DK h2=>?_));replace h:=h2;clear h2;refine Seq.done ?_;obtain⟨Ek,Em,En,Eo,TL,TM,h⟩:=h;exact At.rt [.cell 10 23,.cell 11 24] [(.slice Ek Em En),(.I Eo)] func16 ⟨_,_,rfl,⟨_,rfl,Di isAgg23 TL⟩,⟨_,_,rfl,⟨_,rfl,Di isAgg24 TM⟩,rfl⟩⟩ h
    | false=>
     replace h:=h.2 (Aio hb)
     refine Seq.us [(42,.I x4),(43,.bool (decide ((x4:Int)<1))),(44,.bool (decide ((x4:Int)<1)))] (Seq.done ?_);cases hb:(decide ((x4:Int)<1)) with
     | true=>
      replace h:=h.1 (AiP hb)
      refine At.cT 44 K16 K19 ?_;refine At.s K17 K18 ?_;refine At.rg 5 [0,1] ?_;refine Seq.o ?_;refine AP.store (T:=23) (ty:=0) (x:=(.tmp 10)) (y:=(.const (.N))) (p:=(.pointer (some ⟨FB,0,none⟩))) (v:=(.N)) (gd:=none) (by kernel_rfl) rfl rfl rfl (h.mono (fun _ Ew h2=>?_));replace h:=h2;clear h2;refine Seq.o ?_;refine AP.store (T:=24) (ty:=0) (x:=(.tmp 11)) (y:=(.const (.I 221))) (p:=(.pointer (some ⟨CH,0,none⟩))) (v:=(.I 221)) (gd:=none) (by kernel_rfl) rfl rfl rfl (h.mono (fun _ DK h2=>?_));replace h:=h2;clear h2;refine Seq.done ?_;obtain⟨Ek,Em,En,Eo,TL,TM,h⟩:=h;exact At.rt [.cell 10 23,.cell 11 24] [(.slice Ek Em En),(.I Eo)] func16 ⟨_,_,rfl,⟨_,rfl,Di isAgg23 TL⟩,⟨_,_,rfl,⟨_,rfl,Di isAgg24 TM⟩,rfl⟩⟩ h
     | false=>
      replace h:=h.2 (Aio hb)
      refine At.cF 44 K16 K19 ?_;refine At.skip ?_;refine At.s K21 K28 (At.s K22 K23 ?_);refine At.rg 6 [0,1,2,3,4,5] ?_;refine Seq.us [(45,.I x3),(46,.I x2)] ?_;obtain⟨hi,h⟩:=h;refine Seq.z 47 (.binOp .sub 2 (.tmp 45) (.tmp 46) 2) 2 (.I (x3-x2)) (Y.AVL hi rfl rfl) ?_;refine Seq.u 48 (.I x4) ?_;obtain⟨hc,h⟩:=h;obtain⟨RY,AEY⟩:∃y,y=IntKind.i64.wrap (Int.tdiv (x3-x2) x4):=⟨_,rfl⟩
      replace h:=h RY AEY
      refine Seq.y (d:=(some 49)) (op:=(.binOp .quo 2 (.tmp 47) (.tmp 48) 2)) (ty:=2) (v:=(.I RY)) (by kernel_rfl) rfl (AEY▸Y.quo hc rfl rfl) ?_;refine Seq.u 50 (.bool (decide ((512:Int)≤RY))) (Seq.done ?_);cases hb:(decide ((512:Int)≤RY)) with
      | true=>
       replace h:=h.1 (AiP hb)
       refine At.cT 50 K24 K27 ?_;refine At.s K25 K26 ?_;refine At.rg 7 [0,1] ?_;refine Seq.o ?_;refine AP.store (T:=23) (ty:=0) (x:=(.tmp 10)) (y:=(.const (.N))) (p:=(.pointer (some ⟨FB,0,none⟩))) (v:=(.N)) (gd:=none) (by kernel_rfl) rfl rfl rfl (h.mono (fun _ Ew h2=>?_));replace h:=h2;clear h2;refine Seq.o ?_;refine AP.store (T:=24) (ty:=0) (x:=(.tmp 11)) (y:=(.const (.I 222))) (p:=(.pointer (some ⟨CH,0,none⟩))) (v:=(.I 222)) (gd:=none) (by kernel_rfl) rfl rfl rfl (h.mono (fun _ DK h2=>?_));replace h:=h2;clear h2;refine Seq.done ?_;obtain⟨Ek,Em,En,Eo,TL,TM,h⟩:=h;exact At.rt [.cell 10 23,.cell 11 24] [(.slice Ek Em En),(.I Eo)] func16 ⟨_,_,rfl,⟨_,rfl,Di isAgg23 TL⟩,⟨_,_,rfl,⟨_,rfl,Di isAgg24 TM⟩,rfl⟩⟩ h
      | false=>
       replace h:=h.2 (Aio hb)
       refine At.cF 50 K24 K27 ?_;refine At.skip ?_;refine At.s K29 K30 ?_;refine At.rg 8 [0,1,2] ?_;refine Seq.o ?_;refine AP.WA (d:=(some 51)) (op:=(.makeMap 78 none)) (ty:=78) (gd:=none) (by kernel_rfl) rfl rfl (Instr.makeMap 78 none) (fun o ho ht=>by simp only[execOp,ho];rfl) (h.mono (fun v_4 Ew h2=>?_));replace h:=h2;clear h2;obtain⟨m51,rfl,h⟩:=h;refine Seq.o ?_;refine AP.S4 (T:=78) (d:=(some 13)) (ty:=0)  (gd:=none) (cs:=#[(.map none)]) (by kernel_rfl) rfl rfl zeroValue78 rfl (fun D9 hn=>?_)
       replace h:=h D9 hn
       refine Seq.o ?_;refine AP.store (T:=78) (ty:=0) (x:=(.tmp 13)) (y:=(.tmp 51)) (p:=(.pointer (some ⟨D9,0,none⟩))) (v:=(.map (some m51))) (gd:=none) (by kernel_rfl) rfl rfl rfl (h.mono (fun _ DK h2=>?_));replace h:=h2;clear h2;refine Seq.done ?_;refine At.s K31 K32 ?_;refine At.rg 9 [0] ?_;refine Seq.o ?_;refine AP.S4 (T:=23) (d:=(some 14)) (ty:=0)  (gd:=none) (cs:=#[(.N)]) (by kernel_rfl) rfl rfl zeroValue23 rfl (fun DO hn=>?_)
       replace h:=h DO hn
       refine Seq.done ?_;refine At.s K33 K77 (At.s K34 K35 ?_);refine At.rg 10 [0,1,2,3] ?_;refine Seq.us [(52,.I x2),(53,.I x3),(54,.I x4)] ?_;refine Seq.o ?_;refine AP.cl (some 55) call38 (h.cont fun v_5 RZ h2=>?_);replace h:=h2;clear h2;obtain⟨f55,a55,c55,rfl,h⟩:=h;refine Seq.done ?_;refine At.b 0 K36 ?_;obtain⟨gf,lb,hgv,Ut,h⟩:=h;refine At.range (gop:=(.tmp 55)) (ps:=#[56]) (assign:=K37) (body:=K38) (gf:=gf) (lb:=lb) (by kernel_rfl) rfl rfl hgv Ut (fun lN j4 Ux rF hD hl hrf hrp hra hrb hrs hre=>?_);refine(h lN j4 Ux rF hD hl (fun R2 σ2 ABq AH2 hp=>LL.nu (n:=117) AH2 hrp hrs (by decide) hre (fn:=f16) (by rw[hrf];exact func16) ?_)).mono (fun en NZ h=>?_)
       ·rw[hrf,hra,hrb];exact At.v [(5,(.pointer (some ⟨b5,0,none⟩))),(6,(.pointer (some ⟨b6,0,none⟩))),(10,(.pointer (some ⟨FB,0,none⟩))),(11,(.pointer (some ⟨CH,0,none⟩))),(13,(.pointer (some ⟨D9,0,none⟩))),(14,(.pointer (some ⟨DO,0,none⟩))),(56,(.I ABq))] (hp _)
       obtain⟨v,s,p,he,AHJ,hs,h⟩:=h;refine⟨v,s,p,he,AHJ,hs,?_⟩;rcases h with h|h
       ·obtain⟨rfl,h⟩:=h;show At (Gl.behind prog 16 117 lN R) [.inBlock 0,.code K77] _ _ _
        refine At.inBlock ?_;refine At.s K78 K79 ?_;refine At.rg 25 [0,1] ?_;obtain⟨ABr,n114,ABs,hl,h⟩:=h;refine Seq.z 114 (.load 23 (.tmp 14)) 23 (.slice ABr n114 ABs) (Y.ld isAgg23 rfl hl) ?_;refine Seq.o ?_;refine AP.cl (some 115) call40 (h.cont fun v_6 aS h2=>?_);replace h:=h2;clear h2;obtain⟨rfl,h⟩:=h;refine Seq.done ?_;refine At.L [(10,(.pointer (some ⟨FB,0,none⟩))),(11,(.pointer (some ⟨CH,0,none⟩))),(14,(.pointer (some ⟨DO,0,none⟩)))] fun J=>?_;refine At.s K80 K81 ?_;refine At.rg 26 [0,1,2] ?_;obtain⟨vS,n116,vT,hl,h⟩:=h;refine Seq.z 116 (.load 23 (.tmp 14)) 23 (.slice vS n116 vT) (Y.ld isAgg23 rfl hl) ?_;refine Seq.o ?_;refine AP.store (T:=23) (ty:=0) (x:=(.tmp 10)) (y:=(.tmp 116)) (p:=(.pointer (some ⟨FB,0,none⟩))) (v:=(.slice vS n116 vT)) (gd:=none) (by kernel_rfl) rfl rfl rfl (h.mono (fun _ AEX h2=>?_));replace h:=h2;clear h2;refine Seq.o ?_;refine AP.store (T:=24) (ty:=0) (x:=(.tmp 11)) (y:=(.const (.I 0))) (p:=(.pointer (some ⟨CH,0,none⟩))) (v:=(.I 0)) (gd:=none) (by kernel_rfl) rfl rfl rfl (h.mono (fun _ Wh h2=>?_));replace h:=h2;clear h2;refine Seq.done ?_;obtain⟨Ek,Em,En,Eo,te,TL,TM,h⟩:=h;exact At.bY (rs:=[.cell 10 23,.cell 11 24]) (vs:=[(.slice Ek Em En),(.I Eo)]) (by kernel_rfl) func16 (by kernel_rfl) ⟨_,_,rfl,⟨_,rfl,Di isAgg23 TL⟩,⟨_,_,rfl,⟨_,rfl,Di isAgg24 TM⟩,rfl⟩⟩ h rfl (uZ te)
       ·obtain⟨rfl,h⟩:=h;show At (Gl.behind prog 16 117 lN R) [.code K82,.inBlock 0,.code K77] _ _ _
        obtain⟨cC,cD,cE,cG,te,AH3,AH4,h⟩:=h;exact At.bY (rs:=[.cell 10 23,.cell 11 24]) (vs:=[(.slice cC cD cE),(.I cG)]) (by kernel_rfl) func16 (by kernel_rfl) ⟨_,_,rfl,⟨_,rfl,Di isAgg23 AH3⟩,⟨_,_,rfl,⟨_,rfl,Di isAgg24 AH4⟩,rfl⟩⟩ h rfl (uZ te)
def IJ {R:Rr}{l b5 b6 FB CH D9 DO:Nat}{r0:Loop}{oZ:Int}{σ:Hp}(h:σ l=some (.loop (lp r0 .ready none))∧∃Uy:Option Addr,∃Uz:Nat,∃Wi:Nat,Hp.ld (Hp.set σ l (.loop (lp r0 .busy none))) ⟨b5,0,none⟩=some (.slice Uy Uz Wi)∧∃p59:Option Addr,∃n59:Nat,∃c59:Nat,Hp.ld (Hp.set σ l (.loop (lp r0 .busy none))) ⟨b6,0,none⟩=some (.slice p59 n59 c59)∧Spec prog 27 #[(.slice Uy Uz Wi),(.slice p59 n59 c59),(.I oZ)] (Hp.set σ l (.loop (lp r0 .busy none))) (BB (NP R) (fun v σ1=>∃gM:Option Addr,∃Wj:Nat,∃gN:Nat,∃TN:Int,v=(.tuple #[(.slice gM Wj gN),(.I TN)])∧((TN:Int)≠0→AK prog (Instr.storeAt 23 (.pointer (some ⟨FB,0,none⟩)) (.N)) σ1 (fun _ I8=>AK prog (Instr.storeAt 24 (.pointer (some ⟨CH,0,none⟩)) (.I TN)) I8 (fun _ EA=>EA l=some (.loop (lp r0 .busy none))∧R (.B false) (Hp.set EA l (.loop (lp r0 .done (some .ret)))))))∧(¬((TN:Int)≠0)→cB R l r0 D9 DO oZ gM Wj gN ((Wj:Int)) 0 σ1)))):F7 R l r0 b5 b6 FB CH D9 DO oZ σ:=by
 intro J;show At (Gl.round prog 16 117 l R) _ _ _ _
 refine At.rg 11 [0] ?_;refine Seq.u 15 (.I oZ) (Seq.done ?_);obtain⟨nq,h⟩:=h;refine At.beginRound rfl nq ?_;refine At.b 1 K39 ?_;refine At.s K40 K41 ?_;refine At.rg 12 [0,1,2,3,4,5,6,7,8] ?_;obtain⟨Uy,Uz,Wi,hl,h⟩:=h;refine Seq.z 58 (.load 22 (.tmp 5)) 22 (.slice Uy Uz Wi) (Y.ld isAgg22 rfl hl) ?_;obtain⟨p59,n59,c59,hl,h⟩:=h;refine Seq.z 59 (.load 23 (.tmp 6)) 23 (.slice p59 n59 c59) (Y.ld isAgg23 rfl hl) ?_;refine Seq.u 60 (.I oZ) ?_;refine Seq.o ?_;refine AP.cl (some 61) call27 (h.cont fun v σ1 h2=>?_);replace h:=h2;clear h2;obtain⟨gM,Wj,gN,TN,rfl,h⟩:=h;refine Seq.us [(57,.tuple #[(.slice gM Wj gN),(.I TN)]),(62,.slice gM Wj gN),(63,.I TN),(16,.slice gM Wj gN),(17,.I TN)] (Seq.done ?_);refine At.s K42 K49 (At.s K43 K44 ?_);refine At.rg 13 [0,1] ?_;refine Seq.us [(64,.I TN),(65,.bool (decide ((TN:Int)≠0)))] (Seq.done ?_);cases hb:(decide ((TN:Int)≠0)) with
 | true=>
  replace h:=h.1 (AiP hb)
  refine At.cT 65 K45 K48 ?_;refine At.s K46 K47 ?_;refine At.rg 14 [0,1,2] ?_;refine Seq.u 66 (.I TN) ?_;refine Seq.o ?_;refine AP.store (T:=23) (ty:=0) (x:=(.tmp 10)) (y:=(.const (.N))) (p:=(.pointer (some ⟨FB,0,none⟩))) (v:=(.N)) (gd:=none) (by kernel_rfl) rfl rfl rfl (h.mono (fun _ I8 h2=>?_));replace h:=h2;clear h2;refine Seq.o ?_;refine AP.store (T:=24) (ty:=0) (x:=(.tmp 11)) (y:=(.tmp 66)) (p:=(.pointer (some ⟨CH,0,none⟩))) (v:=(.I TN)) (gd:=none) (by kernel_rfl) rfl rfl rfl (h.mono (fun _ EA h2=>?_));replace h:=h2;clear h2;refine Seq.done ?_;exact At.uM (by kernel_rfl) rfl h.1 h.2
 | false=>
  replace h:=h.2 (Aio hb)
  refine At.cF 65 K45 K48 ?_;refine At.skip ?_;refine At.s K50 K51 ?_;refine At.rg 15 [0,1,2] ?_;refine Seq.u 67 (.slice gM Wj gN) ?_;refine Seq.z 68 (.call { callee:=.builtin .len,args:=#[(.tmp 67)],argTypes:=#[54] }) 3 (.I (Wj:Int)) (Y.AG4 underlying54 rfl rfl) ?_;refine Seq.u 69 (.I 0) (Seq.done ?_);refine At.b 2 K52 ?_;refine At.loop (x:=K53) (by kernel_rfl) ?_;refine At.s K54 K55 ?_;exact At.v [(13,(.pointer (some ⟨D9,0,none⟩))),(14,(.pointer (some ⟨DO,0,none⟩))),(15,(.I oZ)),(67,(.slice gM Wj gN)),(68,(.I (Wj:Int))),(69,(.I 0))] (h _)
def MT {R:Rr}{l D9 DO Wg Uw:Nat}{r0:Loop}{x15 RX TJ:Int}{ZS:Option Addr}{σ:Hp}(h:((TJ:Int)<RX→∃(U0 rG:Nat),ZS=some ⟨U0,rG,none⟩∧((0:Int)≤TJ∧TJ<(Wg:Int))∧∃vU:Option Addr,∃vV:Nat,∃vW:Nat,∃LX:Int,Ae σ U0 (rG+TJ.toNat*2) [(.slice vU vV vW),(.U LX)]∧∀Dl:Nat,σ Dl=none→AK prog (Instr.storeAt 59 (.pointer (some ⟨Dl,0,none⟩)) (.agg #[(.slice vU vV vW),(.U LX)])) (Hp.set σ Dl (.cells #[(.N),(.U 0)] 59 (0,0))) (fun _ σ1=>∃lO:Option Nat,Hp.ld σ1 ⟨D9,0,none⟩=some (.map lO)∧∃p76:Option Addr,∃n76:Nat,∃c76:Nat,Hp.ld σ1 ⟨Dl,0,none⟩=some (.slice p76 n76 c76)∧Spec prog 39 #[(.slice p76 n76 c76)] σ1 (BB (NP R) (fun v I8=>∃s77:ByteArray,v=(.string s77)∧Kp [D9] σ1 I8∧AK prog (Instr.lookup 78 (.map lO) (.string s77) true) I8 (fun v_2 EA=>∃ZT:Int,∃ZU:Bool,v_2=(.tuple #[(.I ZT),(.bool ZU)])∧(ZU=false→∃rH:Option Addr,∃ZV:Nat,∃rI:Nat,Hp.ld EA ⟨DO,0,none⟩=some (.slice rH ZV rI)∧∃m85:Option Nat,Hp.ld EA ⟨D9,0,none⟩=some (.map m85)∧∃p87:Option Addr,∃n87:Nat,∃c87:Nat,Hp.ld EA ⟨Dl,0,none⟩=some (.slice p87 n87 c87)∧Spec prog 39 #[(.slice p87 n87 c87)] EA (BB (NP R) (fun v_3 Ew=>∃s88:ByteArray,v_3=(.string s88)∧Kp [D9] EA Ew∧AK prog (Instr.mapUpdate 78 (.map m85) (.string s88) (.I (ZV:Int))) Ew (fun _ DK=>∃p90:Option Addr,∃n90:Nat,∃c90:Nat,Hp.ld DK ⟨DO,0,none⟩=some (.slice p90 n90 c90)∧∃p93:Option Addr,∃n93:Nat,∃c93:Nat,Hp.ld DK ⟨Dl,0,none⟩=some (.slice p93 n93 c93)∧∀tg:Nat,DK tg=none→AK prog (Builtin.append_ #[47,47] 47 #[(.slice (some ⟨tg,0,none⟩) 0 0),(.slice p93 n93 c93)]) (Hp.set DK tg (.cells #[] 71 (0,0))) (fun v_4 RZ=>∃p94:Option Addr,∃n94:Nat,∃c94:Nat,v_4=(.slice p94 n94 c94)∧Kp [DO] (Hp.set DK tg (.cells #[] 71 (0,0))) RZ∧∀th:Nat,RZ th=none→AK prog (Builtin.append_ #[23,23] 23 #[(.slice p90 n90 c90),(.slice (some ⟨th,0,none⟩) 1 1)]) (Hp.set RZ th (.cells #[(.slice p94 n94 c94),(.N)] 51 (0,0))) (fun v_5 NZ=>∃p97:Option Addr,∃n97:Nat,∃c97:Nat,v_5=(.slice p97 n97 c97)∧AK prog (Instr.storeAt 23 (.pointer (some ⟨DO,0,none⟩)) (.slice p97 n97 c97)) NZ (fun _ aS=>ABp R l r0 D9 DO x15 Dl ((ZV:Int)) ((some ⟨U0,rG,none⟩)) Wg Uw RX TJ aS)))))))∧(ZU=true→ABp R l r0 D9 DO x15 Dl ZT ((some ⟨U0,rG,none⟩)) Wg Uw RX TJ EA))))))∧(¬((TJ:Int)<RX)→σ l=some (.loop (lp r0 .busy none))∧R (.B true) (Hp.set σ l (.loop (lp r0 .ready none))))):cB R l r0 D9 DO x15 ZS Wg Uw RX TJ σ:=by
 intro J;show At (Gl.round prog 16 117 l R) _ _ _ _
 refine At.rg 16 [0] ?_;refine Seq.u 70 (.bool (decide ((TJ:Int)<RX))) (Seq.done ?_);refine At.s K56 K59 ?_;cases hb:(decide ((TJ:Int)<RX)) with
 | true=>
  replace h:=h.1 (AiP hb)
  refine At.cT 70 K57 K58 ?_;refine At.skip ?_;refine At.s K60 K76 ?_;refine At.b 3 K61 ?_;refine At.s K62 K63 ?_;refine At.rg 17 [0,1,2,3] ?_;obtain⟨U0,rG,hq,h⟩:=h;subst hq;obtain⟨hi,h⟩:=h;refine Seq.z 71 (.indexAddr 54 (.tmp 67) (.tmp 69)) 0 (.pointer (some ⟨U0,(rG+TJ.toNat*2),none⟩)) (Y.idx underlying54 sizeOf59 rfl rfl hi rfl) ?_;obtain⟨vU,vV,vW,LX,hl,h⟩:=h;refine Seq.z 72 (.load 59 (.tmp 71)) 59 (.agg #[(.slice vU vV vW),(.U LX)]) (Y.lda isAgg59 sizeOf59 rfl rfl hl) ?_;refine Seq.o ?_;refine AP.S4 (T:=59) (d:=(some 19)) (ty:=0)  (gd:=none) (cs:=#[(.N),(.U 0)]) (by kernel_rfl) rfl rfl zeroValue59 rfl (fun Dl hn=>?_)
  replace h:=h Dl hn
  refine Seq.o ?_;refine AP.store (T:=59) (ty:=0) (x:=(.tmp 19)) (y:=(.tmp 72)) (p:=(.pointer (some ⟨Dl,0,none⟩))) (v:=(.agg #[(.slice vU vV vW),(.U LX)])) (gd:=none) (by kernel_rfl) rfl rfl rfl (h.mono (fun _ σ1 h2=>?_));replace h:=h2;clear h2;refine Seq.done ?_;refine At.s K64 K65 ?_;refine At.draw (id:=18) (ops:=cO K64) (n:=10) (q:=(some [])) (plan:=[(0,true),(1,true),(2,true),(3,false),(4,false),(5,true),(6,true),(7,true),(8,true),(9,true)]) (tl:=[]) mixed (by kernel_rfl) (by kernel_rfl) ?_;obtain⟨lO,hl,h⟩:=h;refine Head.yl D9 [[4]] rfl (by kernel_rfl) (d:=(some 74)) (op:=(.load 78 (.tmp 13))) (ty:=78) (v:=(.map lO)) (by kernel_rfl) rfl (Y.ld isAgg78 rfl (Kf hl)) ?_;refine Head.z 75 (.fieldAddr 59 (.tmp 19) 0) 0 (.pointer (some ⟨Dl,0,none⟩)) (Y.fieldAddr (fd:=(PD prog 59 0)) underlying59 (by kernel_rfl) sizeOf47 rfl rfl) ?_;obtain⟨p76,n76,c76,hl,h⟩:=h;refine Head.yl Dl [[3],[4,3]] rfl (by kernel_rfl) (d:=(some 76)) (op:=(.load 47 (.tmp 75))) (ty:=47) (v:=(.slice p76 n76 c76)) (by kernel_rfl) rfl (Y.ld isAgg47 rfl (Kf hl)) ?_;refine Head.o (q':=(some [(D9,[4])])) rfl ?_;refine AP.cl (some 77) call39 (h.cont fun v I8 h2=>?_);replace h:=h2;clear h2;obtain⟨s77,rfl,hk,h⟩:=h;refine⟨⟨fun _ h=>h,fG (L:=[(D9,[4])]) hk⟩,?_⟩;refine Head.o (q':=(some [])) rfl ?_;refine AP.WA (d:=(some 78)) (op:=(.lookup 78 (.tmp 74) (.tmp 77) true)) (ty:=81) (gd:=none) (by kernel_rfl) rfl rfl (Instr.lookup 78 (.map lO) (.string s77) true) (fun o ho ht=>by simp only[execOp,ho];rfl) (h.mono (fun v_2 EA h2=>?_));replace h:=h2;clear h2;obtain⟨ZT,ZU,rfl,h⟩:=h;refine⟨⟨fun _ h=>h,fG (L:=[]) Kp.nil⟩,?_⟩;refine Head.u 73 (.tuple #[(.I ZT),(.bool ZU)]) ?_;refine Head.u 79 (.I ZT) ?_;refine Head.u 80 (.bool ZU) ?_;refine Head.u 20 (.I ZT) ?_;refine Head.u 21 (.bool ZU) ?_;refine Head.done ?_;refine Seq.done ?_;refine At.s K66 K75 (At.s K67 K68 ?_);refine At.rg 19 [0,1] ?_;refine Seq.us [(81,.bool ZU),(82,.bool (!ZU))] (Seq.done ?_);cases hb:(!ZU) with
  | true=>
   replace h:=h.1 (Tw.nt hb)
   refine At.cT 82 K69 K74 ?_;refine At.s K70 K71 ?_;refine At.rg 20 [0,1,2] ?_;obtain⟨rH,ZV,rI,hl,h⟩:=h;refine Seq.z 83 (.load 23 (.tmp 14)) 23 (.slice rH ZV rI) (Y.ld isAgg23 rfl hl) ?_;refine Seq.z 84 (.call { callee:=.builtin .len,args:=#[(.tmp 83)],argTypes:=#[23] }) 3 (.I (ZV:Int)) (Y.AG4 underlying23 rfl rfl) ?_;refine Seq.u 20 (.I (ZV:Int)) (Seq.done ?_);refine At.s K72 K73 ?_;refine At.draw (id:=21) (ops:=cO K72) (n:=5) (q:=(some [])) (plan:=[(0,true),(1,true),(2,true),(4,true),(3,false)]) (tl:=[5]) mixed (by kernel_rfl) (by kernel_rfl) ?_;obtain⟨m85,hl,h⟩:=h;refine Head.yl D9 [] rfl (by kernel_rfl) (d:=(some 85)) (op:=(.load 78 (.tmp 13))) (ty:=78) (v:=(.map m85)) (by kernel_rfl) rfl (Y.ld isAgg78 rfl (Kf hl)) ?_;refine Head.z 86 (.fieldAddr 59 (.tmp 19) 0) 0 (.pointer (some ⟨Dl,0,none⟩)) (Y.fieldAddr (fd:=(PD prog 59 0)) underlying59 (by kernel_rfl) sizeOf47 rfl rfl) ?_;obtain⟨p87,n87,c87,hl,h⟩:=h;refine Head.yl Dl [[3]] rfl (by kernel_rfl) (d:=(some 87)) (op:=(.load 47 (.tmp 86))) (ty:=47) (v:=(.slice p87 n87 c87)) (by kernel_rfl) rfl (Y.ld isAgg47 rfl (Kf hl)) ?_;refine Head.u 89 (.I (ZV:Int)) ?_;refine Head.o (q':=(some [(D9,[])])) rfl ?_;refine AP.cl (some 88) call39 (h.cont fun v_3 Ew h2=>?_);replace h:=h2;clear h2;obtain⟨s88,rfl,hk,h⟩:=h;refine⟨⟨fun _ h=>h,fG (L:=[(D9,[])]) hk⟩,?_⟩;refine Head.done ?_;refine Seq.o ?_;refine AP.ABT (d:=none) (op:=(.mapUpdate 78 (.tmp 85) (.tmp 88) (.tmp 89))) (ty:=0) (gd:=none) (by kernel_rfl) rfl rfl (Instr.mapUpdate 78 (.map m85) (.string s88) (.I (ZV:Int))) (fun o ho ht=>by simp only[execOp,ho];rfl) (h.mono (fun _ DK h2=>?_));replace h:=h2;clear h2;refine Seq.done ?_;refine At.draw (id:=22) (ops:=cO K73) (n:=7) (q:=(some [])) (plan:=[(0,true),(2,true),(3,true),(1,false),(4,false),(5,true),(6,false)]) (tl:=[7,8]) mixed (by kernel_rfl) (by kernel_rfl) ?_;obtain⟨p90,n90,c90,hl,h⟩:=h;refine Head.yl DO [] rfl (by kernel_rfl) (d:=(some 90)) (op:=(.load 23 (.tmp 14))) (ty:=23) (v:=(.slice p90 n90 c90)) (by kernel_rfl) rfl (Y.ld isAgg23 rfl (Kf hl)) ?_;refine Head.z 92 (.fieldAddr 59 (.tmp 19) 0) 0 (.pointer (some ⟨Dl,0,none⟩)) (Y.fieldAddr (fd:=(PD prog 59 0)) underlying59 (by kernel_rfl) sizeOf47 rfl rfl) ?_;obtain⟨p93,n93,c93,hl,h⟩:=h;refine Head.yl Dl [[4],[6,5,4]] rfl (by kernel_rfl) (d:=(some 93)) (op:=(.load 47 (.tmp 92))) (ty:=47) (v:=(.slice p93 n93 c93)) (by kernel_rfl) rfl (Y.ld isAgg47 rfl (Kf hl)) ?_;refine Head.o (q':=(some [(Dl,[4,6]),(DO,[])])) rfl ?_;refine AP.ML (T:=47) (E:=71) (m:=0) (ps:=#[]) (d:=(some 91)) (ty:=47) (gd:=none) (vs:=[]) (cs:=#[]) underlying47 (by kernel_rfl) rfl rfl rfl (by kernel_rfl) (fun tg hn=>?_);refine⟨⟨fun _ h=>h,fG (Kp.Hs (Ext.set hn))⟩,?_⟩
   replace h:=h tg hn
   refine Head.o (q':=(some [(DO,[])])) rfl ?_;refine AP.WA (d:=(some 94)) (op:=(.call { callee:=.builtin .append,args:=#[(.tmp 91),(.tmp 93)],argTypes:=#[47,47] })) (ty:=47) (gd:=none) (by kernel_rfl) rfl rfl (Builtin.append_ #[47,47] 47 #[(.slice (some ⟨tg,0,none⟩) 0 0),(.slice p93 n93 c93)]) (fun o ho ht=>IH rfl rfl o ho ht) (h.mono (fun v_4 RZ h2=>?_));replace h:=h2;clear h2;obtain⟨p94,n94,c94,rfl,hk,h⟩:=h;refine⟨⟨fun _ h=>h,fG (L:=[(DO,[])]) hk⟩,?_⟩;refine Head.z 95 (.build 51 #[(0,(.tmp 94))]) 51 (.agg #[(.slice p94 n94 c94),(.N)]) (Y.build (vs:=[(0,(.slice p94 n94 c94))]) rfl (by kernel_rfl)) ?_;refine Head.o (q':=(some [(DO,[])])) rfl ?_;refine AP.ML (T:=23) (E:=51) (m:=1) (ps:=#[(0,(.tmp 95))]) (d:=(some 96)) (ty:=23) (gd:=none) (vs:=[(0,(.agg #[(.slice p94 n94 c94),(.N)]))]) (cs:=#[(.slice p94 n94 c94),(.N)]) underlying23 (by kernel_rfl) rfl rfl rfl (by kernel_rfl) (fun th hn=>?_);refine⟨⟨fun _ h=>h,fG (Kp.Hs (Ext.set hn))⟩,?_⟩
   replace h:=h th hn
   refine Head.done ?_;refine Seq.o ?_;refine AP.WA (d:=(some 97)) (op:=(.call { callee:=.builtin .append,args:=#[(.tmp 90),(.tmp 96)],argTypes:=#[23,23] })) (ty:=23) (gd:=none) (by kernel_rfl) rfl rfl (Builtin.append_ #[23,23] 23 #[(.slice p90 n90 c90),(.slice (some ⟨th,0,none⟩) 1 1)]) (fun o ho ht=>IH rfl rfl o ho ht) (h.mono (fun v_5 NZ h2=>?_));replace h:=h2;clear h2;obtain⟨p97,n97,c97,rfl,h⟩:=h;refine Seq.o ?_;refine AP.store (T:=23) (ty:=0) (x:=(.tmp 14)) (y:=(.tmp 97)) (p:=(.pointer (some ⟨DO,0,none⟩))) (v:=(.slice p97 n97 c97)) (gd:=none) (by kernel_rfl) rfl rfl rfl (h.mono (fun _ aS h2=>?_));replace h:=h2;clear h2;refine Seq.done ?_;refine At.L [(13,(.pointer (some ⟨D9,0,none⟩))),(14,(.pointer (some ⟨DO,0,none⟩))),(15,(.I x15)),(19,(.pointer (some ⟨Dl,0,none⟩))),(20,(.I (ZV:Int))),(67,(.slice (some ⟨U0,rG,none⟩) Wg Uw)),(68,(.I RX)),(69,(.I TJ))] fun J=>?_;exact At.v [(13,(.pointer (some ⟨D9,0,none⟩))),(14,(.pointer (some ⟨DO,0,none⟩))),(15,(.I x15)),(19,(.pointer (some ⟨Dl,0,none⟩))),(20,(.I (ZV:Int))),(67,(.slice (some ⟨U0,rG,none⟩) Wg Uw)),(68,(.I RX)),(69,(.I TJ))] (h _)
  | false=>
   replace h:=h.2 (Tw.nf hb)
   refine At.cF 82 K69 K74 ?_;refine At.skip ?_;exact At.v [(13,(.pointer (some ⟨D9,0,none⟩))),(14,(.pointer (some ⟨DO,0,none⟩))),(15,(.I x15)),(19,(.pointer (some ⟨Dl,0,none⟩))),(20,(.I ZT)),(67,(.slice (some ⟨U0,rG,none⟩) Wg Uw)),(68,(.I RX)),(69,(.I TJ))] (h _)
 | false=>
  replace h:=h.2 (Aio hb)
  refine At.cF 70 K57 K58 ?_;refine At.x 2 [.inBlock 1] ?_;refine At.inBlock ?_;exact At.uL rfl h.1 h.2
def ABx {R:Rr}{l D9 DO Dl Wg Uw:Nat}{r0:Loop}{x15 II RX TJ:Int}{ZS:Option Addr}{σ:Hp}(h:∃p98:Option Addr,∃n98:Nat,∃c98:Nat,Hp.ld σ ⟨DO,0,none⟩=some (.slice p98 n98 c98)∧∃ABy:Option Addr,∃n100:Nat,∃AIB:Nat,Hp.ld σ ⟨DO,0,none⟩=some (.slice ABy n100 AIB)∧∃(lP vX:Nat),ABy=some ⟨lP,vX,none⟩∧((0:Int)≤II∧II<(n100:Int))∧∃vY:Option Addr,∃n104:Nat,∃vZ:Nat,Hp.ld σ ⟨lP,((vX+II.toNat*2)+1),none⟩=some (.slice vY n104 vZ)∧∃cH:Int,Hp.ld σ ⟨Dl,1,none⟩=some (.U cH)∧∀TO:Nat,σ TO=none→AK prog (Builtin.append_ #[49,49] 49 #[(.slice vY n104 vZ),(.slice (some ⟨TO,0,none⟩) 1 1)]) (Hp.set σ TO (.cells #[(.I x15),(.U cH)] 61 (0,0))) (fun v σ1=>∃ABz:Option Addr,∃n110:Nat,∃AB0:Nat,v=(.slice ABz n110 AB0)∧Kp [DO] (Hp.set σ TO (.cells #[(.I x15),(.U cH)] 61 (0,0))) σ1∧∃(rJ rK:Nat),p98=some ⟨rJ,rK,none⟩∧((0:Int)≤II∧II<(n98:Int))∧AK prog (Instr.storeAt 49 (.pointer (some ⟨rJ,((rK+II.toNat*2)+1),none⟩)) (.slice ABz n110 AB0)) σ1 (fun _ I8=>AG (TJ+1)∧cB R l r0 D9 DO x15 ZS Wg Uw RX ((TJ+1)) I8))):ABp R l r0 D9 DO x15 Dl II ZS Wg Uw RX TJ σ:=by
 intro J;show At (Gl.round prog 16 117 l R) _ _ _ _
 refine At.draw (id:=23) (ops:=cO K75) (n:=15) (q:=(some [])) (plan:=[(0,true),(1,true),(2,true),(3,true),(4,true),(5,true),(6,true),(7,true),(8,true),(9,true),(10,true),(11,false),(12,false),(13,true),(14,true)]) (tl:=[15]) mixed (by kernel_rfl) (by kernel_rfl) ?_;obtain⟨p98,n98,c98,hl,h⟩:=h;refine Head.yl DO [] rfl (by kernel_rfl) (d:=(some 98)) (op:=(.load 23 (.tmp 14))) (ty:=23) (v:=(.slice p98 n98 c98)) (by kernel_rfl) rfl (Y.ld isAgg23 rfl (Kf hl)) ?_;refine Head.u 99 (.I II) ?_;obtain⟨ABy,n100,AIB,hl,h⟩:=h;refine Head.yl DO [[12,6,5,4]] rfl (by kernel_rfl) (d:=(some 100)) (op:=(.load 23 (.tmp 14))) (ty:=23) (v:=(.slice ABy n100 AIB)) (by kernel_rfl) rfl (Y.ld isAgg23 rfl (Kf hl)) ?_;refine Head.u 101 (.I II) ?_;obtain⟨lP,vX,hq,h⟩:=h;subst hq;obtain⟨hi,h⟩:=h;refine Head.z 102 (.indexAddr 23 (.tmp 100) (.tmp 101)) 0 (.pointer (some ⟨lP,(vX+II.toNat*2),none⟩)) (Y.idx underlying23 sizeOf51 rfl rfl hi rfl) ?_;refine Head.z 103 (.fieldAddr 51 (.tmp 102) 1) 0 (.pointer (some ⟨lP,((vX+II.toNat*2)+1),none⟩)) (Y.fieldAddr (fd:=(PD prog 51 1)) underlying51 (by kernel_rfl) sizeOf49 rfl rfl) ?_;obtain⟨vY,n104,vZ,hl,h⟩:=h;refine Head.yl lP [[12]] rfl (by kernel_rfl) (d:=(some 104)) (op:=(.load 49 (.tmp 103))) (ty:=49) (v:=(.slice vY n104 vZ)) (by kernel_rfl) rfl (Y.ld isAgg49 rfl (Kf hl)) ?_;refine Head.u 105 (.I x15) ?_;refine Head.z 106 (.fieldAddr 59 (.tmp 19) 1) 0 (.pointer (some ⟨Dl,1,none⟩)) (Y.fieldAddr (fd:=(PD prog 59 1)) underlying59 (by kernel_rfl) sizeOf57 rfl rfl) ?_;obtain⟨cH,hl,h⟩:=h;refine Head.yl Dl [[11,10],[12,11,10]] rfl (by kernel_rfl) (d:=(some 107)) (op:=(.load 57 (.tmp 106))) (ty:=57) (v:=(.U cH)) (by kernel_rfl) rfl (Y.ld isAgg57 rfl (Kf hl)) ?_;refine Head.z 108 (.build 61 #[(0,(.tmp 105)),(1,(.tmp 107))]) 61 (.agg #[(.I x15),(.U cH)]) (Y.build (vs:=[(0,(.I x15)),(1,(.U cH))]) rfl (by kernel_rfl)) ?_;refine Head.o (q':=(some [(lP,[12]),(DO,[12]),(DO,[])])) rfl ?_;refine AP.ML (T:=49) (E:=61) (m:=1) (ps:=#[(0,(.tmp 108))]) (d:=(some 109)) (ty:=49) (gd:=none) (vs:=[(0,(.agg #[(.I x15),(.U cH)]))]) (cs:=#[(.I x15),(.U cH)]) underlying49 (by kernel_rfl) rfl rfl rfl (by kernel_rfl) (fun TO hn=>?_);refine⟨⟨fun _ h=>h,fG (Kp.Hs (Ext.set hn))⟩,?_⟩
 replace h:=h TO hn
 refine Head.o (q':=(some [(DO,[])])) rfl ?_;refine AP.WA (d:=(some 110)) (op:=(.call { callee:=.builtin .append,args:=#[(.tmp 104),(.tmp 109)],argTypes:=#[49,49] })) (ty:=49) (gd:=none) (by kernel_rfl) rfl rfl (Builtin.append_ #[49,49] 49 #[(.slice vY n104 vZ),(.slice (some ⟨TO,0,none⟩) 1 1)]) (fun o ho ht=>IH rfl rfl o ho ht) (h.mono (fun v σ1 h2=>?_));replace h:=h2;clear h2;obtain⟨ABz,n110,AB0,rfl,hk,h⟩:=h;refine⟨⟨fun _ h=>h,fG (L:=[(DO,[])]) hk⟩,?_⟩;obtain⟨rJ,rK,hq,h⟩:=h;subst hq;obtain⟨hi,h⟩:=h;refine Head.z 111 (.indexAddr 23 (.tmp 98) (.tmp 99)) 0 (.pointer (some ⟨rJ,(rK+II.toNat*2),none⟩)) (Y.idx underlying23 sizeOf51 rfl rfl hi rfl) ?_;refine Head.z 112 (.fieldAddr 51 (.tmp 111) 1) 0 (.pointer (some ⟨rJ,((rK+II.toNat*2)+1),none⟩)) (Y.fieldAddr (fd:=(PD prog 51 1)) underlying51 (by kernel_rfl) sizeOf49 rfl rfl) ?_;refine Head.done ?_;refine Seq.o ?_;refine AP.store (T:=49) (ty:=0) (x:=(.tmp 112)) (y:=(.tmp 110)) (p:=(.pointer (some ⟨rJ,((rK+II.toNat*2)+1),none⟩))) (v:=(.slice ABz n110 AB0)) (gd:=none) (by kernel_rfl) rfl rfl rfl (h.mono (fun _ I8 h2=>?_));replace h:=h2;clear h2;refine Seq.done ?_;refine At.inBlock ?_;refine At.rg 24 [0,1] ?_;obtain⟨hi,h⟩:=h;refine Seq.z 113 (.binOp .add 3 (.tmp 69) (.const (.I 1)) 3) 3 (.I (TJ+1)) (Y.AVK hi rfl rfl) ?_;refine Seq.u 69 (.I (TJ+1)) (Seq.done ?_);refine At.inLoop ?_;refine At.s K54 K55 ?_;exact At.v [(13,(.pointer (some ⟨D9,0,none⟩))),(14,(.pointer (some ⟨DO,0,none⟩))),(15,(.I x15)),(67,(.slice ZS Wg Uw)),(68,(.I RX)),(69,(.I (TJ+1)))] (h _)
end Db
namespace Wk
variable {p0:Option Addr}{n0 c0:Nat}
def M:Fw:=⟨prog,17,f17,[29],[],false,[],[],[]⟩
def ok:M.Ok:=⟨.cons call29 (AH.nil),mixed,func17,by kernel_rfl⟩
def start (h:AF 29 #[.slice p0 n0 c0] σ R (fun z y=>∃CO CP x8c,z=(.tuple #[.I CO,.I CP,.I x8c])∧Br (x8c=0) (R (.returned (.bool (decide (CO≠3)))) y) (R (.B false) y))):Spec prog 17 #[.slice p0 n0 c0] σ R:=M.start h ok
end Wk
namespace Na
variable {p0:Option Addr}{n0 c0:Nat}
def M:Fw:=⟨prog,22,f22,[],[],false,[],[],[]⟩
def ok:M.Ok:=⟨AH.nil,mixed,func22,by kernel_rfl⟩
def start (h:Al σ fun b3=>AK prog (Builtin.append_ #[42,42] 42 #[(.slice (aD b3 0) 0 0),.slice p0 n0 c0]) (Hp.set σ b3 (.cells #[] 9 (0,0))) (CS fun p5 n5 c5 y=>R (.returned (.slice p5 n5 c5)) y)):Spec prog 22 #[.slice p0 n0 c0] σ R:=M.start h ok
end Na
namespace aT
variable {p0 p1:Option Addr}{n0 c0 n1 c1:Nat}
def M:Fw:=⟨prog,25,f25,[28,46],[],false,[],[],[]⟩
def ok:M.Ok:=⟨.cons call28 (.cons call46 (AH.nil)),mixed,func25,by kernel_rfl⟩
def start (h:AF 28 #[.slice p0 n0 c0] σ R (fun z y=>∃FY MU rL,z=(.tuple #[.I FY,.I MU,.I rL])∧Br (rL≠0) (R (.returned (.I 220)) y) (Br (FY=3) (R (.returned (.I 220)) y) (AF 46 #[.slice p1 n1 c1] y R (CI .i64 fun GC AB=>Br (GC≠0) (R (.returned (.I 224)) AB) (R (.returned (.I 0)) AB)))))):Spec prog 25 #[.slice p0 n0 c0,.slice p1 n1 c1] σ R:=M.start h ok
end aT
namespace DV
variable {p0 p1:Option Addr}{n0 c0 n1 c1:Nat}{x5:Int}
def M:Fw:=⟨prog,30,f30,[],[],false,[(6,9,true)],[],[(464,[(0,wL),(1,wL),(5,wI)])]⟩
def ok:M.Ok:=⟨AH.nil,mixed,func30,by kernel_rfl⟩
def Aw:=M.pt 0
def start (h:Br ((n0:Int)≠(n1:Int)) (R (.B false) σ) (Aw R p0 n0 c0 p1 n1 c1 0 σ)):Spec prog 30 #[.slice p0 n0 c0,.slice p1 n1 c1] σ R:=M.start h ok
def Ay (h:Br (x5<(n0:Int)) (Pq p0 fun Dl Vg=>In x5 (n0:Int)∧∃J8 lQ AIC,Ae σ Dl (Vg+x5.toNat*3) [.I J8,.string lQ,.string AIC]∧Pq p1 fun JH TP=>In x5 (n1:Int)∧∃ZW lR rO,Ae σ JH (TP+x5.toNat*3) [.I ZW,.string lR,.string rO]∧∃t25,YF prog ((do eqGuard .neq 75 (.tmp 20) (.tmp 24) (.agg #[.I J8,.string lQ,.string AIC]) (.agg #[.I ZW,.string lR,.string rO]);binOp .neq 75 (.agg #[.I J8,.string lQ,.string AIC]) (.agg #[.I ZW,.string lR,.string rO]))) σ (.bool t25)∧Bo t25 (R (.B false) σ) (AG (x5+1)∧Aw R (aD Dl Vg) n0 c0 (aD JH TP) n1 c1 (x5+1) σ)) (R (.B true) σ)):Aw R p0 n0 c0 p1 n1 c1 x5 σ:=M.of h ok rfl
end DV
end TwW
end
end
section
set_option maxRecDepth 100000
noncomputable section
namespace TwW
open Go Tw Go.Proofs.Tryz
variable [G9]{R:Rr}{σ:Hp}

namespace FC
variable {p0 p1:Option Addr}{n0 c0 n1 c1:Nat}{x5:Int}
def M:Fw:=⟨prog,31,f31,[],[],false,[(6,9,true)],[],[(464,[(0,wL),(1,wL),(5,wI)])]⟩
def ok:M.Ok:=⟨AH.nil,mixed,func31,by kernel_rfl⟩
def Aw:=M.pt 0
def start (h:Br ((n0:Int)≠(n1:Int)) (R (.B false) σ) (Aw R p0 n0 c0 p1 n1 c1 0 σ)):Spec prog 31 #[.slice p0 n0 c0,.slice p1 n1 c1] σ R:=M.start h ok
def Ay (h:Br (x5<(n0:Int)) (Pq p0 fun Dl Vg=>In x5 (n0:Int)∧LT σ Dl (Vg+x5.toNat*1) fun s20=>Pq p1 fun JH TP=>In x5 (n1:Int)∧LT σ JH (TP+x5.toNat*1) fun s24=>Bn (ByteArray.toList s20==ByteArray.toList s24) (R (.B false) σ) (AG (x5+1)∧Aw R (aD Dl Vg) n0 c0 (aD JH TP) n1 c1 (x5+1) σ)) (R (.B true) σ)):Aw R p0 n0 c0 p1 n1 c1 x5 σ:=M.of h ok rfl
end FC
namespace ES
variable {p0 p1:Option Addr}{n0 c0 n1 c1:Nat}{x5:Int}
def M:Fw:=⟨prog,33,f33,[],[],false,[(6,9,true)],[],[(464,[(0,wL),(1,wL),(5,wI)])]⟩
def ok:M.Ok:=⟨AH.nil,mixed,func33,by kernel_rfl⟩
def Aw:=M.pt 0
def start (h:Br ((n0:Int)≠(n1:Int)) (R (.B false) σ) (Aw R p0 n0 c0 p1 n1 c1 0 σ)):Spec prog 33 #[.slice p0 n0 c0,.slice p1 n1 c1] σ R:=M.start h ok
def Ay (h:Br (x5<(n0:Int)) (Pq p0 fun Dl Vg=>In x5 (n0:Int)∧∃J8 lS,Ae σ Dl (Vg+x5.toNat*2) [.I J8,.U lS]∧Pq p1 fun JH TP=>In x5 (n1:Int)∧∃ZW rR,Ae σ JH (TP+x5.toNat*2) [.I ZW,.U rR]∧∃t25,YF prog ((do eqGuard .neq 61 (.tmp 20) (.tmp 24) (.agg #[.I J8,.U lS]) (.agg #[.I ZW,.U rR]);binOp .neq 61 (.agg #[.I J8,.U lS]) (.agg #[.I ZW,.U rR]))) σ (.bool t25)∧Bo t25 (R (.B false) σ) (AG (x5+1)∧Aw R (aD Dl Vg) n0 c0 (aD JH TP) n1 c1 (x5+1) σ)) (R (.B true) σ)):Aw R p0 n0 c0 p1 n1 c1 x5 σ:=M.of h ok rfl
end ES
namespace aU
variable {v0:Value}
def M:Fw:=⟨prog,36,f36,[],[],false,[],[],[]⟩
def ok:M.Ok:=⟨AH.nil,mixed,func36,by kernel_rfl⟩
def start (h:EN prog 53 #[v0] σ (CI .u64 fun x4 y=>R (.returned (.U x4)) y)):Spec prog 36 #[v0] σ R:=M.HF h ok [(0,.o (.V v0))] rfl rfl (by kernel_rfl)
end aU
namespace Gq
variable {p0 p8:Option Addr}{n0 c0 n8 c8:Nat}{x9 x10:Int}
def M:Fw:=⟨prog,74,f74,[118,119],[4],false,[(10,14,true)],[],[(232,[(0,wL),(8,wL),(9,wI),(10,wI)])]⟩
def ok:M.Ok:=⟨.cons call118 (.cons call119 (AH.nil)),mixed,func74,by kernel_rfl⟩
def Nb:=M.pt 0
def start (h:Br (16<(n0:Int)) (R (.returned (.I 30)) σ) (Nb R p0 n0 c0 p0 n0 c0 (n0:Int) 0 σ)):Spec prog 74 #[.slice p0 n0 c0] σ R:=M.start h ok
def KK (h:Br (x10<x9) (Pq p8 fun D9 cI=>In x10 (n8:Int)∧∃AB2 lT,Ae σ D9 (cI+x10.toNat*2) [.string AB2,.string lT]∧∀b4:Nat,AF 118 #[.string AB2] σ R (CB fun t18 y=>Bn t18 (R (.returned (.I 31)) y) (Bo ((ByteArray.toList lT==ByteArray.toList (ByteArray.mk #[]))) (R (.returned (.I 32)) y) (Br ((256:Int)<(lT.size:Int)) (R (.returned (.I 32)) y) (AF 119 #[.string lT] y R (CB fun t33 AB=>Bn t33 (R (.returned (.I 32)) AB) (Br (0<x10) (AG (x10-1)∧Pq p0 fun ti tj=>In (x10-1) (n0:Int)∧LT AB ti (tj+Int.toNat (x10-1)*2) fun s47=>∃t48,YF prog ((do eqGuard .leq 9 (.tmp 41) (.tmp 47) (.string AB2) (.string s47);binOp .leq 9 (.string AB2) (.string s47))) AB (.bool t48)∧Bo t48 (R (.returned (.I 33)) AB) (AG (x10+1)∧Nb R (aD ti tj) n0 c0 (aD D9 cI) n8 c8 x9 (x10+1) AB)) (AG (x10+1)∧Nb R p0 n0 c0 (aD D9 cI) n8 c8 x9 (x10+1) AB)))))))) (R (.returned (.I 0)) σ)):Nb R p0 n0 c0 p8 n8 c8 x9 x10 σ:=M.of h ok rfl
end Gq
namespace HG
variable {q0 FZ F2 p2:Option Addr}{Bq BM FD FE Dm EB:Int}{FG:ByteArray}{Fa Fb Fc F3 n2 c2:Nat}{EC:Bool}
def M:Fw:=⟨prog,81,f81,[],[4],false,[],[],[]⟩
def ok:M.Ok:=⟨AH.nil,mixed,func81,by kernel_rfl⟩
def start (h:∀b4:Nat,Pq p2 fun b9 o9=>In 0 (n2:Int)∧LI .i64 σ b9 o9 fun x11=>Br (x11≠2) (R (.T #[.I 0,.I 191]) σ) (R (.T #[.I 2,.I 0]) σ)):Spec prog 81 #[.pointer q0,.agg #[.I Bq,.I BM,.string FG,.slice FZ Fa Fb,.I FD,.I FE,.I Dm,.slice F2 Fc F3,.bool EC,.I EB],.slice p2 n2 c2] σ R:=M.start h ok
end HG
namespace Dn
variable {s0 s1:ByteArray}
def M:Fw:=⟨prog,101,f101,[],[],false,[],[],[]⟩
def ok:M.Ok:=⟨AH.nil,mixed,func101,by kernel_rfl⟩
def start (h:EN prog 144 #[.string s0,.string s1] σ (CI .i64 fun x7 y=>R (.returned (.I x7)) y)):Spec prog 101 #[.string s0,.string s1] σ R:=M.start h ok
end Dn
namespace FH
variable {x0 x5 x6:Int}{p1:Option Addr}{n1 c1:Nat}
def M:Fw:=⟨prog,110,f110,[103,114,115,147,151],[],false,[],[],[(464,[(0,wI),(1,wL),(5,wU),(6,wI)]),(467,[(0,wI),(1,wL),(5,wU),(6,wI)])]⟩
def ok:M.Ok:=⟨.cons call103 (.cons call114 (.cons call115 (.cons call147 (.cons call151 (AH.nil))))),mixed,func110,by kernel_rfl⟩
def Ab:=M.pt 0
def F7:=M.pt 1
def start (h:Pq p1 fun b8 o8=>In 0 (n1:Int)∧LI .u64 σ b8 o8 fun x9=>AF 147 #[.U x9] σ R (fun z y=>∃x10,(Value.float .f64 x10)=z∧AF 103 #[(Value.float .f64 x10)] y R (CI .u64 fun x11 AB=>Ab R x0 (aD b8 o8) n1 c1 x11 1 AB))):Spec prog 110 #[.I x0,.slice p1 n1 c1] σ R:=M.start h ok
def AO (h:Br (x6<(n1:Int)) (Br (x0=2) (Pq p1 fun LY RL=>In x6 (n1:Int)∧LI .u64 σ LY (RL+x6.toNat*1) fun LZ=>AF 114 #[.I 7,.U LZ,.U x5] σ R (CB fun t32 y=>Bo t32 (In x6 (n1:Int)∧LI .u64 y LY (RL+x6.toNat*1) fun rU=>AF 147 #[.U rU] y R (fun z AB=>∃La,(Value.float .f64 La)=z∧AF 103 #[(Value.float .f64 La)] AB R (CI .u64 fun QF AI=>F7 R x0 (aD LY RL) n1 c1 QF x6 AI))) (AF 114 #[.I 6,.U x5,.U x5] y R (CB fun t36 AB=>Bo t36 (In x6 (n1:Int)∧LI .u64 AB LY (RL+x6.toNat*1) fun rU=>AF 147 #[.U rU] AB R (fun z AI=>∃La,(Value.float .f64 La)=z∧AF 103 #[(Value.float .f64 La)] AI R (CI .u64 fun QF AU=>F7 R x0 (aD LY RL) n1 c1 QF x6 AU))) (F7 R x0 (aD LY RL) n1 c1 x5 x6 AB))))) (Br (x0=3) (Pq p1 fun I9 aV=>In x6 (n1:Int)∧LI .u64 σ I9 (aV+x6.toNat*1) fun RY=>AF 114 #[.I 9,.U RY,.U x5] σ R (CB fun t51 y=>Bo t51 (In x6 (n1:Int)∧LI .u64 y I9 (aV+x6.toNat*1) fun lU=>AF 147 #[.U lU] y R (fun z AB=>∃x61,(Value.float .f64 x61)=z∧AF 103 #[(Value.float .f64 x61)] AB R (CI .u64 fun gO AI=>F7 R x0 (aD I9 aV) n1 c1 gO x6 AI))) (AF 114 #[.I 6,.U x5,.U x5] y R (CB fun t55 AB=>Bo t55 (In x6 (n1:Int)∧LI .u64 AB I9 (aV+x6.toNat*1) fun lU=>AF 147 #[.U lU] AB R (fun z AI=>∃x61,(Value.float .f64 x61)=z∧AF 103 #[(Value.float .f64 x61)] AI R (CI .u64 fun gO AU=>F7 R x0 (aD I9 aV) n1 c1 gO x6 AU))) (F7 R x0 (aD I9 aV) n1 c1 x5 x6 AB))))) (Pq p1 fun eX lV=>In x6 (n1:Int)∧LI .u64 σ eX (lV+x6.toNat*1) fun GC=>AF 115 #[.I 1,.U x5,.U GC] σ R (CI .u64 fun JG y=>F7 R x0 (aD eX lV) n1 c1 JG x6 y)))) (Br (x0=4) (AF 151 #[(.I (n1:Int))] σ R (CI .u64 fun TJ y=>AF 115 #[.I 4,.U x5,.U TJ] y R (CI .u64 fun va AB=>R (.returned (.U va)) AB))) (Br (x0=5) (AF 151 #[(.I (n1:Int))] σ R (CI .u64 fun x75 y=>R (.returned (.U x75)) y)) (R (.returned (.U x5)) σ)))):Ab R x0 p1 n1 c1 x5 x6 σ:=M.of h ok rfl
def IJ (h:AG (x6+1)∧Ab R x0 p1 n1 c1 x5 (x6+1) σ):F7 R x0 p1 n1 c1 x5 x6 σ:=M.of h ok rfl
end FH
namespace aW
variable {t0:Bool}
def M:Fw:=⟨prog,113,f113,[151],[],false,[],[],[]⟩
def ok:M.Ok:=⟨.cons call151 (AH.nil),mixed,func113,by kernel_rfl⟩
def start (h:Bo t0 (AF 151 #[.I 1] σ R (CI .u64 fun x4 y=>R (.returned (.U x4)) y)) (R (.returned (.U 0)) σ)):Spec prog 113 #[.bool t0] σ R:=M.start h ok
end aW
namespace oa
variable {x0:Int}
def M:Fw:=⟨prog,147,f147,[],[],false,[],[],[]⟩
def ok:M.Ok:=⟨AH.nil,mixed,func147,by kernel_rfl⟩
def start (h:EN prog 183 #[.U x0] σ (fun z y=>∃x4,(Value.float .f64 x4)=z∧R (.returned (Value.float .f64 x4)) y)):Spec prog 147 #[.U x0] σ R:=M.start h ok
end oa
namespace UL
variable {p0:Option Addr}{n0 c0:Nat}{x1 x2:Int}
def M:Fw:=⟨prog,157,f157,[191],[],false,[],[],[]⟩
def ok:M.Ok:=⟨.cons call191 (AH.nil),mixed,func157,by kernel_rfl⟩
def start (h:AF 191 #[.slice p0 n0 c0,.I x1,(.func (.func 192) #[] #[])] σ R (fun z y=>∃J9 AWM,z=(.tuple #[.I J9,.bool AWM])∧AF 191 #[.slice p0 n0 c0,.I x2,(.func (.func 193) #[] #[])] y R (fun z AB=>∃J8 AWN,z=(.tuple #[.I J8,.bool AWN])∧((0:Int)≤(if J8<J9 then J8 else J9)∧(if J8<J9 then J8 else J9)≤J8∧J8≤(c0:Int))∧R (.returned (.slice (MK p0 (Int.toNat (if J8<J9 then J8 else J9)) c0 2) (J8.toNat-Int.toNat (if J8<J9 then J8 else J9)) (c0-Int.toNat (if J8<J9 then J8 else J9)))) AB))):Spec prog 157 #[.slice p0 n0 c0,.I x1,.I x2] σ R:=M.start h ok
end UL
namespace Wl
variable {x0:Int}
def M:Fw:=⟨prog,159,f159,[],[],false,[],[],[]⟩
def ok:M.Ok:=⟨AH.nil,mixed,func159,by kernel_rfl⟩
def start (h:AK prog (convert 2 73 (.I x0)) σ (fun z y=>∃x4,(Value.float .f64 x4)=z∧EN prog 53 #[(Value.float .f64 x4)] y (CI .u64 fun x5 AB=>R (.returned (.U x5)) AB))):Spec prog 159 #[.I x0] σ R:=M.start h ok
end Wl
namespace Fe
variable {p0 p1:Option Addr}{n0 c0 n1 c1:Nat}
def M:Fw:=⟨prog,208,f208,[207,209],[],false,[],[],[]⟩
def ok:M.Ok:=⟨.cons call207 (.cons call209 (AH.nil)),mixed,func208,by kernel_rfl⟩
def start (h:Pq p1 fun b8 o8=>In 0 (n1:Int)∧LI .u64 σ b8 (o8+1) fun x10=>AF 207 #[.slice p0 n0 c0] σ R (CI .u64 fun x6 y=>Kp [b8] σ y∧AF 209 #[.U x6,.U x10] y R (CI .u64 fun x11 AB=>R (.returned (.U x11)) AB))):Spec prog 208 #[.slice p0 n0 c0,.slice p1 n1 c1] σ R:=M.start h ok
end Fe
namespace eval_add
variable {x0 x1:Int}
def M:Fw:=⟨prog,216,f216,[218],[],false,[],[],[]⟩
def ok:M.Ok:=⟨.cons call218 (AH.nil),mixed,func216,by kernel_rfl⟩
def start (h:AF 218 #[.I 1,.U x0,.U x1] σ R (fun z y=>∃FY Wm,z=(.tuple #[.U FY,.bool Wm])∧R (.returned (.U FY)) y)):Spec prog 216 #[.U x0,.U x1] σ R:=M.start h ok
end eval_add
namespace Hy
variable {x0 x5 x15 x16:Int}{p1 NO:Option Addr}{n1 c1 n14 Lc:Nat}
def M:Fw:=⟨prog,217,f217,[201,219,241],[],false,[],[],[(232,[(0,wI),(5,wU),(14,wL),(15,wI),(16,wI)]),(935,[(0,wI),(5,wU),(14,wL),(15,wI),(16,wI)])]⟩
def ok:M.Ok:=⟨.cons call201 (.cons call219 (.cons call241 (AH.nil))),mixed,func217,by kernel_rfl⟩
def B4:=M.pt 0
def ZX:=M.pt 1
def start (h:Pq p1 fun CH gL=>In 0 (n1:Int)∧LI .u64 σ CH gL fun x12=>((0:Int)≤1∧1≤(n1:Int))∧B4 R x0 x12 ((MK (aD CH gL) (1) c1 1)) (n1-1) (c1-1) ((((n1-1):Nat):Int)) 0 σ):Spec prog 217 #[.I x0,.slice p1 n1 c1] σ R:=M.start h ok
def Ap (h:Br (x16<x15) (Pq NO fun KL MV=>In x16 (n14:Int)∧LI .u64 σ KL (MV+x16.toNat*1) fun FV=>AF 219 #[.I x0,.U FV,.U x5] σ R (fun z y=>∃AMU AWO,z=(.tuple #[.bool AMU,.bool AWO])∧Bo AMU (ZX R x0 FV (aD KL MV) n14 Lc x15 x16 y) (AF 241 #[.U x5] y R (CB fun t30 AB=>Bo t30 (ZX R x0 FV (aD KL MV) n14 Lc x15 x16 AB) (ZX R x0 x5 (aD KL MV) n14 Lc x15 x16 AB))))) (AF 201 #[.U x5] σ R (CI .u64 fun QG y=>R (.returned (.U QG)) y))):B4 R x0 x5 NO n14 Lc x15 x16 σ:=M.of h ok rfl
def Vh (h:AG (x16+1)∧B4 R x0 x5 NO n14 Lc x15 (x16+1) σ):ZX R x0 x5 NO n14 Lc x15 x16 σ:=M.of h ok rfl
end Hy
namespace Ra
variable {x0 x1 x2:Int}
def M:Fw:=⟨prog,219,f219,[198],[],false,[],[],[]⟩
def ok:M.Ok:=⟨.cons call198 (AH.nil),mixed,func219,by kernel_rfl⟩
def start (h:AF 198 #[.U x1] σ R (fun z y=>∃x11,(Value.float .f64 x11)=z∧AF 198 #[.U x2] y R (fun z AB=>∃DP,(Value.float .f64 DP)=z∧Br (x0=5) (∃t19,YF prog ((do eqGuard .eql 73 (.tmp 17) (.tmp 18) (Value.float .f64 x11) (Value.float .f64 DP);binOp .eql 73 (Value.float .f64 x11) (Value.float .f64 DP))) AB (.bool t19)∧R (.T #[.bool t19,.bool true]) AB) (Br (x0=6) (∃t24,YF prog ((do eqGuard .neq 73 (.tmp 22) (.tmp 23) (Value.float .f64 x11) (Value.float .f64 DP);binOp .neq 73 (Value.float .f64 x11) (Value.float .f64 DP))) AB (.bool t24)∧R (.T #[.bool t24,.bool true]) AB) (Br (x0=7) (∃t29,YF prog ((do eqGuard .lss 73 (.tmp 27) (.tmp 28) (Value.float .f64 x11) (Value.float .f64 DP);binOp .lss 73 (Value.float .f64 x11) (Value.float .f64 DP))) AB (.bool t29)∧R (.T #[.bool t29,.bool true]) AB) (Br (x0=8) (∃t34,YF prog ((do eqGuard .leq 73 (.tmp 32) (.tmp 33) (Value.float .f64 x11) (Value.float .f64 DP);binOp .leq 73 (Value.float .f64 x11) (Value.float .f64 DP))) AB (.bool t34)∧R (.T #[.bool t34,.bool true]) AB) (Br (x0=9) (∃t39,YF prog ((do eqGuard .gtr 73 (.tmp 37) (.tmp 38) (Value.float .f64 x11) (Value.float .f64 DP);binOp .gtr 73 (Value.float .f64 x11) (Value.float .f64 DP))) AB (.bool t39)∧R (.T #[.bool t39,.bool true]) AB) (Br (x0=10) (∃t44,YF prog ((do eqGuard .geq 73 (.tmp 42) (.tmp 43) (Value.float .f64 x11) (Value.float .f64 DP);binOp .geq 73 (Value.float .f64 x11) (Value.float .f64 DP))) AB (.bool t44)∧R (.T #[.bool t44,.bool true]) AB) (R (.T #[.bool false,.bool false]) AB))))))))):Spec prog 219 #[.I x0,.U x1,.U x2] σ R:=M.start h ok
end Ra
namespace Gd
variable {ZY:Option Addr}{QH Wn:Nat}{j5 s1:ByteArray}
def M:Fw:=⟨prog,233,f233,[249],[2],false,[],[],[]⟩
def ok:M.Ok:=⟨.cons call249 (AH.nil),mixed,func233,by kernel_rfl⟩
def start (h:∀b2:Nat,AF 249 #[.agg #[.slice ZY QH Wn],.string s1] σ R (CB fun t8 y=>R (.B t8) y)):Spec prog 233 #[.agg #[.slice ZY QH Wn,.string j5],.string s1] σ R:=M.start h ok
end Gd
namespace DL
variable {s0:ByteArray}{x1:Int}
def M:Fw:=⟨prog,244,f244,[263,264],[],false,[],[],[]⟩
def ok:M.Ok:=⟨.cons call263 (.cons call264 (AH.nil)),mixed,func244,by kernel_rfl⟩
def start (h:Br (x1=32) (AF 263 #[.string s0] σ R (fun z y=>∃AMV gQ AMW,z=(.tuple #[AMV,.I gQ,AMW])∧AK prog (convert 280 73 AMV) y (fun z AB=>∃FV,(Value.float .f64 FV)=z∧R (.T #[(Value.float .f64 FV),.I gQ,AMW]) AB))) (AF 264 #[.string s0] σ R (fun z y=>∃AMX gB AMY,z=(.tuple #[AMX,.I gB,AMY])∧R (.T #[AMX,.I gB,AMY]) y))):Spec prog 244 #[.string s0,.I x1] σ R:=M.start h ok
end DL
namespace A7
variable {s0:ByteArray}{x5 x6 x12 x7:Int}{t13 t16 t19:Bool}
def M:Fw:=⟨prog,276,f276,[297,298,299],[],false,[],[],[(128001,[(0,wT),(5,wI),(6,wI),(12,w8),(13,wB)]),(256005,[(0,wT),(5,wI),(6,wI),(12,w8),(16,wB)]),(8004,[(0,wT),(5,wI),(6,wI)]),(256007,[(0,wT),(19,wB)]),(126,[]),(32022,[(5,wI),(6,wI),(7,wI)]),(32006,[(0,wT),(5,wI)])]⟩
def ok:M.Ok:=⟨.cons call297 (.cons call298 (.cons call299 (AH.nil))),mixed,func276,by kernel_rfl⟩
def NJ:=M.pt 0
def cJ:=M.pt 1
def AWP:=M.pt 2
def Kj:=M.pt 3
def TQ:=M.pt 4
def AMZ:=M.pt 6
def start (h:Br (((s0.size:Int):Int)=0) (R (.T #[.float .f64 0,.I 0,.bool false]) σ) (∃QI:UInt8,(0:Int)≤0∧(ByteArray.data s0)[Int.toNat 0]?=some QI∧Br (((QI.toNat:Int):Int)=43) (NJ R s0 1 0 ((QI.toNat:Int)) true σ) (NJ R s0 1 0 ((QI.toNat:Int)) ((decide (((QI.toNat:Int):Int)=45))) σ))):Spec prog 276 #[.string s0] σ R:=M.start h ok
def IK (h:Bo t13 (∃u23:UInt8,(0:Int)≤0∧(ByteArray.data s0)[Int.toNat 0]?=some u23∧Br (((u23.toNat:Int):Int)=45) (AMZ R s0 (-1) σ) (AMZ R s0 x5 σ)) (Br (x12=105) (cJ R s0 x5 x6 x12 true σ) (cJ R s0 x5 x6 x12 ((decide (x12=73))) σ))):NJ R s0 x5 x6 x12 t13 σ:=M.of h ok rfl
def cK (h:Bo t16 (AWP R s0 x5 x6 σ) (Br (x12=110) (Kj R s0 true σ) (Kj R s0 ((decide (x12=78))) σ))):cJ R s0 x5 x6 x12 t16 σ:=M.of h ok rfl
def IL (h:Bo t19 (AF 297 #[.string s0,(.string (ByteArray.mk #[110,97,110]))] σ R (CI .i64 fun vd y=>Br (vd=3) (AF 299 #[] y R (fun z AB=>∃RY,(Value.float .f64 RY)=z∧R (.T #[(Value.float .f64 RY),.I 3,.bool true]) AB)) (TQ R y))) (TQ R σ)):Kj R s0 t19 σ:=M.of h ok rfl
def PL (h:R (.T #[.float .f64 0,.I 0,.bool false]) σ):TQ R  σ:=M.of h ok rfl
end A7
end TwW
end
end
section
set_option maxRecDepth 100000
noncomputable section
namespace TwW
open Go Tw Go.Proofs.Tryz
variable [G9]{R:Rr}{σ:Hp}

namespace CA
variable {p0 p1 M7 p33:Option Addr}{n0 c0 n1 c1 n11 PM n33 c33:Nat}{x2 TR QG:Int}
def M:Fw:=⟨prog,8,f8,[25,26,27],[13],false,[],[],[(4072,[(2,wI),(11,wL),(33,wL),(34,wI),(35,wI)])]⟩
def ok:M.Ok:=⟨.cons call25 (.cons call26 (.cons call27 (AH.nil))),mixed,func8,by kernel_rfl⟩
def Nc:=M.pt 0
def start (h:AF 25 #[.slice p0 n0 c0,.slice p1 n1 c1] σ R (CI .i64 fun x16 y=>Br (x16≠0) (R (.T #[.N,.I x16]) y) (AF 26 #[.I x2] y R (CB fun t21 AB=>Bn t21 (R (.T #[.N,.I 221]) AB) (AF 27 #[.slice p0 n0 c0,.slice p1 n1 c1,.I x2] AB R (fun z AI=>∃Qw Pr Qy Wo,z=(.tuple #[.slice Qw Pr Qy,.I Wo])∧Br (Wo≠0) (R (.T #[.N,.I Wo]) AI) (Nc R x2 none 0 0 Qw Pr Qy (Pr:Int) 0 AI))))))):Spec prog 8 #[.slice p0 n0 c0,.slice p1 n1 c1,.I x2] σ R:=M.start h ok
def PN (h:Br (QG<TR) (Pq p33 fun b37 o37=>In QG (n33:Int)∧∃AB3 AB4 AB5 KA,Ae σ b37 (o37+QG.toNat*2) [.slice AB3 AB4 AB5,.U KA]∧∀D9:Nat,(Al σ fun Vi=>(AK prog (Builtin.append_ #[47,47] 47 #[(.slice (aD Vi 0) 0 0),.slice AB3 AB4 AB5]) (Hp.set σ Vi (.cells #[] 71 (0,0))) (CS fun ZZ n43 Za y=>Al y fun I9=>Al (Hp.set y I9 (.cells #[.I x2,.U KA] 61 (0,0))) fun RM=>AK prog (E3 23 M7 n11 PM RM) (Hp.set (Hp.set y I9 (.cells #[.I x2,.U KA] 61 (0,0))) RM (.cells #[.slice ZZ n43 Za,(.slice (aD I9 0) 1 1)] 51 (0,0))) (CS fun p51 n51 c51 AB=>AG (QG+1)∧Nc R x2 p51 n51 c51 (aD b37 o37) n33 c33 TR (QG+1) AB)))∧(Al (Hp.set σ Vi (.cells #[] 71 (0,0))) fun I9=>AK prog (Builtin.append_ #[47,47] 47 #[(.slice (aD Vi 0) 0 0),.slice AB3 AB4 AB5]) (Hp.set (Hp.set σ Vi (.cells #[] 71 (0,0))) I9 (.cells #[.I x2,.U KA] 61 (0,0))) (CS fun ZZ n43 Za y=>Al y fun RM=>AK prog (E3 23 M7 n11 PM RM) (Hp.set y RM (.cells #[.slice ZZ n43 Za,(.slice (aD I9 0) 1 1)] 51 (0,0))) (CS fun p51 n51 c51 AB=>AG (QG+1)∧Nc R x2 p51 n51 c51 (aD b37 o37) n33 c33 TR (QG+1) AB))))∧(Al σ fun I9=>Al (Hp.set σ I9 (.cells #[.I x2,.U KA] 61 (0,0))) fun Vi=>AK prog (Builtin.append_ #[47,47] 47 #[(.slice (aD Vi 0) 0 0),.slice AB3 AB4 AB5]) (Hp.set (Hp.set σ I9 (.cells #[.I x2,.U KA] 61 (0,0))) Vi (.cells #[] 71 (0,0))) (CS fun ZZ n43 Za y=>Al y fun RM=>AK prog (E3 23 M7 n11 PM RM) (Hp.set y RM (.cells #[.slice ZZ n43 Za,(.slice (aD I9 0) 1 1)] 51 (0,0))) (CS fun p51 n51 c51 AB=>AG (QG+1)∧Nc R x2 p51 n51 c51 (aD b37 o37) n33 c33 TR (QG+1) AB)))) (R (.T #[.slice M7 n11 PM,.I 0]) σ)):Nc R x2 M7 n11 PM p33 n33 c33 TR QG σ:=M.of h ok rfl
end CA
namespace gR
variable {p0:Option Addr}{n0 c0:Nat}
def M:Fw:=⟨prog,39,f39,[56],[],false,[],[],[]⟩
def ok:M.Ok:=⟨.cons call56 (AH.nil),mixed,func39,by kernel_rfl⟩
def start (h:AF 56 #[.slice p0 n0 c0] σ R (CS fun p4 n4 c4 y=>AK prog (convert 117 9 (.slice p4 n4 c4)) y (CT fun s5 AB=>R (.returned (.string s5)) AB))):Spec prog 39 #[.slice p0 n0 c0] σ R:=M.start h ok
end gR
namespace M8
variable {q0 FZ F2:Option Addr}{Bq BM FD FE Dm EB:Int}{FG:ByteArray}{Fa Fb Fc F3:Nat}{EC:Bool}
def M:Fw:=⟨prog,48,f48,[77,78,79],[3],false,[(6,9,true)],[],[]⟩
def ok:M.Ok:=⟨.cons call77 (.cons call78 (.cons call79 (AH.nil))),mixed,func48,by kernel_rfl⟩
def start (h:∀b3:Nat,AF 77 #[.agg #[.I Bq,.I BM,.string FG,.slice FZ Fa Fb,.I FD,.I FE,.I Dm,.slice F2 Fc F3,.bool EC,.I EB]] σ R (CB fun t10 y=>Bn t10 (R (.returned (.I 190)) y) (Pq q0 fun IY Rb=>LS y IY Rb fun p18 n18 c18=>Br ((n18:Int)<EB) (R (.returned (.I 190)) y) (AF 78 #[.slice FZ Fa Fb] y R (CI .i64 fun JG AB=>Br (JG≠0) (R (.returned (.I 193)) AB) (AK prog (Instr.makeMap 144 none) AB (fun z AI=>∃m26,z=(.map (some m26))∧AF 79 #[.I 1] AI R (fun z AU=>∃f27 a27 aQ,(Value.func f27 a27 aQ)=z∧AK prog (Instr.mapUpdate 144 (.map (some m26)) (.I 1) (Value.func f27 a27 aQ)) AU (fun _ DI=>AF 79 #[.I 2] DI R (fun z Gi=>∃f28 a28 c28,(Value.func f28 a28 c28)=z∧AK prog (Instr.mapUpdate 144 (.map (some m26)) (.I 2) (Value.func f28 a28 c28)) Gi (fun _ Pn=>AF 79 #[.I 3] Pn R (fun z Qv=>∃f29 a29 gD,(Value.func f29 a29 gD)=z∧AK prog (Instr.mapUpdate 144 (.map (some m26)) (.I 3) (Value.func f29 a29 gD)) Qv (fun _ gH=>AK prog (Instr.mapUpdate 144 (.map (some m26)) (.I 4) (.func (.func 80) #[(.pointer (aD IY Rb))] #[])) gH (fun _ ZQ=>AK prog (Instr.mapUpdate 144 (.map (some m26)) (.I 5) (.func (.func 81) #[(.pointer (aD IY Rb))] #[])) ZQ (fun _ lL=>AK prog (Instr.mapUpdate 144 (.map (some m26)) (.I 6) (.func (.func 82) #[(.pointer (aD IY Rb))] #[])) lL (fun _ TH=>AK prog (Instr.mapUpdate 144 (.map (some m26)) (.I 7) (.func (.func 83) #[(.pointer (aD IY Rb))] #[])) TH (fun _ Po=>LS Po IY Rb fun p42 n42 c42=>AG ((n42:Int)-EB)∧LS Po IY Rb fun p56 n56 c56=>((0:Int)≤((n42:Int)-EB)∧((n42:Int)-EB)≤(n56:Int))∧AK prog (Instr.lookup 144 (.map (some m26)) (.I Bq) false) Po (fun z ZR=>∃v51,v51=z∧Kp [IY] Po ZR∧∃(f59:Nat) (AEd AEe:Array Value),v51=.func (.func f59) AEd AEe∧Enters prog f59∧Spec prog f59 (AEd++#[.agg #[.I Bq,.I BM,.string FG,.slice FZ Fa Fb,.I FD,.I FE,.I Dm,.slice F2 Fc F3,.bool EC,.I EB],(.slice (MK p56 (Int.toNat ((n42:Int)-EB)) c56 1) (n56-Int.toNat ((n42:Int)-EB)) (c56-Int.toNat ((n42:Int)-EB)))]++AEe) ZR (BB R (fun z lW=>∃ve Nf,z=(.tuple #[.I ve,.I Nf])∧LS lW IY Rb fun p66 vf od=>((0:Int)≤((n42:Int)-EB)∧((n42:Int)-EB)≤(od:Int))∧Al lW fun U0=>AK prog (Builtin.append_ #[104,104] 104 #[(.slice p66 (Int.toNat ((n42:Int)-EB)) od),(.slice (aD U0 0) 1 1)]) (Hp.set lW U0 (.cells #[.I ve] 109 (0,0))) (CS fun p72 n72 c72 AIE=>AK prog (Instr.storeAt 104 (.pointer (aD IY Rb)) (.slice p72 n72 c72)) AIE (fun _ AIF=>R (.returned (.I Nf)) AIF)))))))))))))))))))))):Spec prog 48 #[.pointer q0,.agg #[.I Bq,.I BM,.string FG,.slice FZ Fa Fb,.I FD,.I FE,.I Dm,.slice F2 Fc F3,.bool EC,.I EB]] σ R:=M.start h ok
end M8
namespace ED
variable {x0 x3:Int}{t4 t8:Bool}
def M:Fw:=⟨prog,49,f49,[],[],false,[],[],[(53,[(3,wI),(4,wB)]),(215,[(3,wI),(8,wB)])]⟩
def ok:M.Ok:=⟨AH.nil,mixed,func49,by kernel_rfl⟩
def Nb:=M.pt 0
def Hz:=M.pt 1
def start (h:Br (x0=1) (Nb R x0 true σ) (Br (x0=2) (Nb R x0 true σ) (Nb R x0 ((decide (x0=3))) σ))):Spec prog 49 #[.I x0] σ R:=M.start h ok
def KK (h:Bo t4 (R (.returned (.I 0)) σ) (Br (x3=4) (Hz R x3 true σ) (Br (x3=5) (Hz R x3 true σ) (Hz R x3 ((decide (x3=7))) σ)))):Nb R x3 t4 σ:=M.of h ok rfl
def Ff (h:Bo t8 (R (.returned (.I 1)) σ) (Br (x3=6) (R (.returned (.I 2)) σ) (R (.returned (.I (-1))) σ))):Hz R x3 t8 σ:=M.of h ok rfl
end ED
namespace Wp
variable {s0 s1:ByteArray}
def M:Fw:=⟨prog,65,f65,[],[],false,[],[],[]⟩
def ok:M.Ok:=⟨AH.nil,mixed,func65,by kernel_rfl⟩
def start (h:∃t8,YF prog ((do eqGuard .lss 9 (.tmp 6) (.tmp 7) (.string s0) (.string s1);binOp .lss 9 (.string s0) (.string s1))) σ (.bool t8)∧Bo t8 (R (.returned (.I (-1))) σ) (∃t12,YF prog ((do eqGuard .gtr 9 (.tmp 10) (.tmp 11) (.string s0) (.string s1);binOp .gtr 9 (.string s0) (.string s1))) σ (.bool t12)∧Bo t12 (R (.returned (.I 1)) σ) (R (.returned (.I 0)) σ))):Spec prog 65 #[.string s0,.string s1] σ R:=M.start h ok
end Wp
namespace Ba
variable {Ac Ax Bb Be BI BO x2 Bf A4 Cp CZ Cu Cv A8 A9 Cw Kk Kl Km x8 x9 x10:Int}{BS Cy:ByteArray}{CJ Bt p1 Cq Cz BC C0 Kn Ko:Option Addr}{CC CK Bh Bu n1 c1 Cr Cs C1 C2 BD BE C3 C4 Kq Kr Ks Kt:Nat}{Bg DQ:Bool}
def M:Fw:=⟨prog,67,f67,[104],[3,6,7],false,[(14,20,false)],[],[(464,[(1,wL),(2,wI),(3,.X 44 [.I .i64,.I .i64,.T,.L,.I .i64,.I .i64,.I .i64,.L,.B,.I .i64]),(6,.X 90 [.I .i64,.I .u64,.L,.I .i64,.L]),(7,.X 90 [.I .i64,.I .u64,.L,.I .i64,.L]),(8,wI)]),(467,[(1,wL),(2,wI),(3,.X 44 [.I .i64,.I .i64,.T,.L,.I .i64,.I .i64,.I .i64,.L,.B,.I .i64]),(6,.X 90 [.I .i64,.I .u64,.L,.I .i64,.L]),(7,.X 90 [.I .i64,.I .u64,.L,.I .i64,.L]),(8,wI)]),(238800,[(1,wL),(2,wI),(3,.X 44 [.I .i64,.I .i64,.T,.L,.I .i64,.I .i64,.I .i64,.L,.B,.I .i64]),(6,.X 90 [.I .i64,.I .u64,.L,.I .i64,.L]),(7,.X 90 [.I .i64,.I .u64,.L,.I .i64,.L]),(8,wI),(9,wI),(10,wI)]),(238803,[(1,wL),(2,wI),(3,.X 44 [.I .i64,.I .i64,.T,.L,.I .i64,.I .i64,.I .i64,.L,.B,.I .i64]),(6,.X 90 [.I .i64,.I .u64,.L,.I .i64,.L]),(7,.X 90 [.I .i64,.I .u64,.L,.I .i64,.L]),(8,wI),(9,wI),(10,wI)])]⟩
def ok:M.Ok:=⟨.cons call104 (AH.nil),mixed,func67,by kernel_rfl⟩
def Ab:=M.pt 0
def Kj:=M.pt 1
def NJ:=M.pt 2
def Gj:=M.pt 3
def start (h:∀b3:Nat,∀b6:Nat,∀b7:Nat,Ab R p1 n1 c1 x2 Ac Ax BS CJ CC CK Bb Be BI Bt Bh Bu Bg BO 0 0 none 0 0 0 none 0 0 2 0 none 0 0 0 none 0 0 0 σ):Spec prog 67 #[.agg #[.I Ac,.I Ax,.string BS,.slice CJ CC CK,.I Bb,.I Be,.I BI,.slice Bt Bh Bu,.bool Bg,.I BO],.slice p1 n1 c1,.I x2] σ R:=M.start h ok
def AO (h:Br (x8<(n1:Int)) (Pq p1 fun JH TP=>In x8 (n1:Int)∧LS σ JH (TP+x8.toNat*2) fun rV n25 rW=>AF 104 #[.slice Cq Cr Cs,.slice rV n25 rW] σ R (CB fun t26 y=>Bn t26 (Kj R (aD JH TP) n1 c1 x2 Bf A4 Cy Cq Cr Cs Cp CZ Cu Cz C1 C2 DQ Cv A8 A9 BC BD BE Cw C0 C3 C4 Kk Kl Kn Kq Kr Km Ko Ks Kt x8 y) (NJ R (aD JH TP) n1 c1 x2 Bf A4 Cy Cq Cr Cs Cp CZ Cu Cz C1 C2 DQ Cv A8 A9 BC BD BE Cw C0 C3 C4 Kk Kl Kn Kq Kr Km Ko Ks Kt x8 (-1) 0 y))) (R (.returned (.agg #[.I Kk,.U Kl,.slice Kn Kq Kr,.I Km,.slice Ko Ks Kt])) σ)):Ab R p1 n1 c1 x2 Bf A4 Cy Cq Cr Cs Cp CZ Cu Cz C1 C2 DQ Cv A8 A9 BC BD BE Cw C0 C3 C4 Kk Kl Kn Kq Kr Km Ko Ks Kt x8 σ:=M.ZP h ok rfl fun _ _ _=>by kernel_rfl
def IL (h:AG (x8+1)∧Ab R p1 n1 c1 x2 Bf A4 Cy Cq Cr Cs Cp CZ Cu Cz C1 C2 DQ Cv A8 A9 BC BD BE Cw C0 C3 C4 Kk Kl Kn Kq Kr Km Ko Ks Kt (x8+1) σ):Kj R p1 n1 c1 x2 Bf A4 Cy Cq Cr Cs Cp CZ Cu Cz C1 C2 DQ Cv A8 A9 BC BD BE Cw C0 C3 C4 Kk Kl Kn Kq Kr Km Ko Ks Kt x8 σ:=M.ZP h ok rfl fun _ _ _=>by kernel_rfl
def IK (h:Pq p1 fun vg vh=>In x8 (n1:Int)∧LS σ vg ((vh+x8.toNat*2)+1) fun p33 n33 c33=>Br (x10<(n33:Int)) (In x8 (n1:Int)∧LS σ vg ((vh+x8.toNat*2)+1) fun p42 n42 c42=>Pq p42 fun b44 o44=>In x10 (n42:Int)∧LI .i64 σ b44 (o44+x10.toNat*2) fun cL=>AG (x2-CZ)∧AG ((x2-CZ)-300)∧Br ((((x2-CZ)-300):Int)<cL) (AG (x2-CZ)∧Br (cL≤(x2-CZ)) (Gj R (aD vg vh) n1 c1 x2 Bf A4 Cy Cq Cr Cs Cp CZ Cu Cz C1 C2 DQ Cv A8 A9 BC BD BE Cw C0 C3 C4 Kk Kl Kn Kq Kr Km Ko Ks Kt x8 x10 x10 σ) (Gj R (aD vg vh) n1 c1 x2 Bf A4 Cy Cq Cr Cs Cp CZ Cu Cz C1 C2 DQ Cv A8 A9 BC BD BE Cw C0 C3 C4 Kk Kl Kn Kq Kr Km Ko Ks Kt x8 x9 x10 σ)) (Gj R (aD vg vh) n1 c1 x2 Bf A4 Cy Cq Cr Cs Cp CZ Cu Cz C1 C2 DQ Cv A8 A9 BC BD BE Cw C0 C3 C4 Kk Kl Kn Kq Kr Km Ko Ks Kt x8 x9 x10 σ)) (Br (0≤x9) (In x8 (n1:Int)∧LS σ vg ((vh+x8.toNat*2)+1) fun p70 n70 c70=>Pq p70 fun rX o72=>In x9 (n70:Int)∧LI .u64 σ rX ((o72+x9.toNat*2)+1) fun x74=>Br (x74≠9218868437227405314) (In x8 (n1:Int)∧LS σ vg (vh+x8.toNat*2) fun rH ZV rI=>In x8 (n1:Int)∧LS σ vg ((vh+x8.toNat*2)+1) fun p88 n88 c88=>Pq p88 fun b90 o90=>In x9 (n88:Int)∧LI .u64 σ b90 ((o90+x9.toNat*2)+1) fun lX=>Al σ fun b94=>AK prog (E3 87 Kn Kq Kr b94) (Hp.set σ b94 (.cells #[.slice rH ZV rI,.U lX] 94 (0,0))) (CS fun p95 n95 c95 y=>Kj R (aD vg vh) n1 c1 x2 Bf A4 Cy Cq Cr Cs Cp CZ Cu Cz C1 C2 DQ Cv A8 A9 BC BD BE Cw C0 C3 C4 Kk Kl p95 n95 c95 Km Ko Ks Kt x8 y)) (Kj R (aD vg vh) n1 c1 x2 Bf A4 Cy Cq Cr Cs Cp CZ Cu Cz C1 C2 DQ Cv A8 A9 BC BD BE Cw C0 C3 C4 Kk Kl Kn Kq Kr Km Ko Ks Kt x8 σ)) (Kj R (aD vg vh) n1 c1 x2 Bf A4 Cy Cq Cr Cs Cp CZ Cu Cz C1 C2 DQ Cv A8 A9 BC BD BE Cw C0 C3 C4 Kk Kl Kn Kq Kr Km Ko Ks Kt x8 σ))):NJ R p1 n1 c1 x2 Bf A4 Cy Cq Cr Cs Cp CZ Cu Cz C1 C2 DQ Cv A8 A9 BC BD BE Cw C0 C3 C4 Kk Kl Kn Kq Kr Km Ko Ks Kt x8 x9 x10 σ:=M.ZP h ok rfl fun _ _ _=>by kernel_rfl
def HH (h:AG (x10+1)∧NJ R p1 n1 c1 x2 Bf A4 Cy Cq Cr Cs Cp CZ Cu Cz C1 C2 DQ Cv A8 A9 BC BD BE Cw C0 C3 C4 Kk Kl Kn Kq Kr Km Ko Ks Kt x8 x9 (x10+1) σ):Gj R p1 n1 c1 x2 Bf A4 Cy Cq Cr Cs Cp CZ Cu Cz C1 C2 DQ Cv A8 A9 BC BD BE Cw C0 C3 C4 Kk Kl Kn Kq Kr Km Ko Ks Kt x8 x9 x10 σ:=M.ZP h ok rfl fun _ _ _=>by kernel_rfl
end Ba
namespace Ld
variable {Ac Ax x0d Bq BM PO GH Ge Sl Bf A4 TT x4:Int}{p0c p0e Ng PQ QJ Sm U1 U2:Option Addr}{n0c c0c n0e c0e M9 Nh PR PS QK QL Sn Sp Ps UM Rc UN:Nat}
def M:Fw:=⟨prog,71,f71,[107,111],[1,2,3],false,[(7,20,false)],[],[(976,[(1,.X 90 [.I .i64,.I .u64,.L,.I .i64,.L]),(2,.X 90 [.I .i64,.I .u64,.L,.I .i64,.L]),(3,.X 90 [.I .i64,.I .u64,.L,.I .i64,.L]),(4,wI)])]⟩
def ok:M.Ok:=⟨.cons call107 (.cons call111 (AH.nil)),mixed,func71,by kernel_rfl⟩
def gS:=M.pt 0
def start (h:∀b1:Nat,∀b2:Nat,Br (Ac=1) (AF 111 #[.U Ax] σ R (CI .u64 fun x10 y=>R (.returned (.agg #[.I 1,.U x10,.N,.I 0,.N])) y)) (∀b3:Nat,gS R Ac Ax p0c n0c c0c x0d p0e n0e c0e 0 0 none 0 0 0 none 0 0 2 0 none 0 0 0 none 0 0 0 σ)):Spec prog 71 #[.agg #[.I Ac,.U Ax,.slice p0c n0c c0c,.I x0d,.slice p0e n0e c0e]] σ R:=M.start h ok
def Vj (h:Br (x4<(M9:Int)) (Pq Ng fun H0 PT=>In x4 (M9:Int)∧LS σ H0 (PT+x4.toNat*2) fun gC n27 aQ=>In x4 (M9:Int)∧LI .u64 σ H0 ((PT+x4.toNat*2)+1) fun TR=>AF 107 #[.slice gC n27 aQ] σ R (CS fun p28 n28 c28 y=>Kp [H0] σ y∧AF 111 #[.U TR] y R (CI .u64 fun QG AB=>Al AB fun b37=>AK prog (E3 87 U1 Ps UM b37) (Hp.set AB b37 (.cells #[.slice p28 n28 c28,.U QG] 94 (0,0))) (CS fun p38 n38 c38 AI=>AG (x4+1)∧gS R Bq BM (aD H0 PT) M9 Nh PO PQ PR PS GH Ge QJ QK QL Sl Sm Sn Sp Bf A4 p38 n38 c38 TT U2 Rc UN (x4+1) AI)))) (R (.returned (.agg #[.I Bf,.U A4,.slice U1 Ps UM,.I TT,.slice U2 Rc UN])) σ)):gS R Bq BM Ng M9 Nh PO PQ PR PS GH Ge QJ QK QL Sl Sm Sn Sp Bf A4 U1 Ps UM TT U2 Rc UN x4 σ:=M.ZP h ok rfl fun _ _ _=>by kernel_rfl
end Ld
namespace HI
variable {q0 FZ F2 p2:Option Addr}{Bq BM FD FE Dm EB:Int}{FG:ByteArray}{Fa Fb Fc F3 n2 c2:Nat}{EC:Bool}
def M:Fw:=⟨prog,82,f82,[132,136],[4],false,[(1,10,true)],[],[]⟩
def ok:M.Ok:=⟨.cons call132 (.cons call136 (AH.nil)),mixed,func82,by kernel_rfl⟩
def start (h:∀b4:Nat,Pq p2 fun D9 cI=>In 0 (n2:Int)∧LI .i64 σ D9 cI fun x15=>In 1 (n2:Int)∧LI .i64 σ D9 (cI+1) fun FV=>Br (x15=2) (Br (x15=1) (Br (x15=3) (R (.T #[.I 0,.I 192]) σ) (Br (FV=3) (R (.T #[.I 0,.I 192]) σ) (AF 136 #[.I BM] σ R (CB fun t41 y=>Bo t41 (Bm (FV=2) (R (.T #[.I 0,.I 192]) y) (Br (FV=1) (AF 132 #[.I BM] y R (CB fun t57 AB=>Bo t57 (Bn EC (R (.T #[.I 0,.I 192]) AB) (R (.T #[(.I (if x15<FV then FV else x15)),.I 0]) AB)) (R (.T #[(.I (if x15<FV then FV else x15)),.I 0]) AB))) (R (.T #[(.I (if x15<FV then FV else x15)),.I 0]) y))) (Br (Dm≠0) (Bm (FV=2) (R (.T #[.I 0,.I 192]) y) (Br (FV=1) (AF 132 #[.I BM] y R (CB fun t57 AB=>Bo t57 (Bn EC (R (.T #[.I 0,.I 192]) AB) (R (.T #[(.I (if x15<FV then FV else x15)),.I 0]) AB)) (R (.T #[(.I (if x15<FV then FV else x15)),.I 0]) AB))) (R (.T #[(.I (if x15<FV then FV else x15)),.I 0]) y))) (Br (FV=1) (AF 132 #[.I BM] y R (CB fun t57 AB=>Bo t57 (Bn EC (R (.T #[.I 0,.I 192]) AB) (R (.T #[(.I (if x15<FV then FV else x15)),.I 0]) AB)) (R (.T #[(.I (if x15<FV then FV else x15)),.I 0]) AB))) (R (.T #[(.I (if x15<FV then FV else x15)),.I 0]) y))))))) (Br (x15=3) (R (.T #[.I 0,.I 192]) σ) (Br (FV=3) (R (.T #[.I 0,.I 192]) σ) (AF 136 #[.I BM] σ R (CB fun t41 y=>Bo t41 (Bm (FV=2) (R (.T #[.I 0,.I 192]) y) (R (.T #[(.I (if x15<FV then FV else x15)),.I 0]) y)) (Br (Dm≠0) (Bm (FV=2) (R (.T #[.I 0,.I 192]) y) (R (.T #[(.I (if x15<FV then FV else x15)),.I 0]) y)) (R (.T #[(.I (if x15<FV then FV else x15)),.I 0]) y))))))) (Br (x15=1) (Br (x15=3) (R (.T #[.I 0,.I 192]) σ) (Br (FV=3) (R (.T #[.I 0,.I 192]) σ) (AF 136 #[.I BM] σ R (CB fun t41 y=>Bo t41 (R (.T #[.I 0,.I 192]) y) (Br (Dm≠0) (R (.T #[.I 0,.I 192]) y) (Br (FV=1) (AF 132 #[.I BM] y R (CB fun t57 AB=>Bo t57 (Bn EC (R (.T #[.I 0,.I 192]) AB) (R (.T #[(.I (if x15<FV then FV else x15)),.I 0]) AB)) (R (.T #[(.I (if x15<FV then FV else x15)),.I 0]) AB))) (R (.T #[(.I (if x15<FV then FV else x15)),.I 0]) y))))))) (Br (x15=3) (R (.T #[.I 0,.I 192]) σ) (Br (FV=3) (R (.T #[.I 0,.I 192]) σ) (AF 136 #[.I BM] σ R (CB fun t41 y=>Bo t41 (R (.T #[.I 0,.I 192]) y) (Br (Dm≠0) (R (.T #[.I 0,.I 192]) y) (R (.T #[(.I (if x15<FV then FV else x15)),.I 0]) y)))))))):Spec prog 82 #[.pointer q0,.agg #[.I Bq,.I BM,.string FG,.slice FZ Fa Fb,.I FD,.I FE,.I Dm,.slice F2 Fc F3,.bool EC,.I EB],.slice p2 n2 c2] σ R:=M.start h ok
end HI
namespace Wq
variable {p0:Option Addr}{n0 c0:Nat}
def M:Fw:=⟨prog,107,f107,[149],[],false,[],[],[]⟩
def ok:M.Ok:=⟨.cons call149 (AH.nil),mixed,func107,by kernel_rfl⟩
def start (h:Al σ fun b4=>AF 149 #[.slice p0 n0 c0,(.slice (aD b4 0) 1 1),.bool false] (Hp.set σ b4 (.cells #[(.string (ByteArray.mk #[95,95,110,97,109,101,95,95]))] 9 (0,0))) R (CS fun p5 n5 c5 y=>R (.returned (.slice p5 n5 c5)) y)):Spec prog 107 #[.slice p0 n0 c0] σ R:=M.start h ok
end Wq
namespace Eh
variable {x0 x7:Int}{p1 p2:Option Addr}{n1 c1 n2 c2:Nat}{t8 t14:Bool}
def M:Fw:=⟨prog,109,f109,[107,149],[],false,[],[],[(53,[(1,wL),(2,wL),(7,wI),(8,wB)]),(215,[(1,wL),(2,wL),(14,wB)])]⟩
def ok:M.Ok:=⟨.cons call107 (.cons call149 (AH.nil)),mixed,func109,by kernel_rfl⟩
def GL:=M.pt 0
def Iy:=M.pt 1
def start (h:Br (x0=1) (GL R p1 n1 c1 p2 n2 c2 x0 true σ) (GL R p1 n1 c1 p2 n2 c2 x0 ((decide (x0=3))) σ)):Spec prog 109 #[.I x0,.slice p1 n1 c1,.slice p2 n2 c2] σ R:=M.start h ok
def Fg (h:Bo t8 (AF 149 #[.slice p2 n2 c2,.slice p1 n1 c1,.bool true] σ R (CS fun p13 n13 c13 y=>R (.returned (.slice p13 n13 c13)) y)) (Br (x7=2) (Iy R p1 n1 c1 p2 n2 c2 true σ) (Iy R p1 n1 c1 p2 n2 c2 ((decide (x7=4))) σ))):GL R p1 n1 c1 p2 n2 c2 x7 t8 σ:=M.of h ok rfl
def Gf (h:Bo t14 (AF 149 #[.slice p2 n2 c2,.slice p1 n1 c1,.bool false] σ R (CS fun rE n19 lM y=>AF 107 #[.slice rE n19 lM] y R (CS fun p20 n20 c20 AB=>R (.returned (.slice p20 n20 c20)) AB))) (R (.returned (.N)) σ)):Iy R p1 n1 c1 p2 n2 c2 t14 σ:=M.of h ok rfl
end Eh
namespace gT
variable {x0 x1 x2:Int}
def M:Fw:=⟨prog,115,f115,[153],[],false,[],[],[]⟩
def ok:M.Ok:=⟨.cons call153 (AH.nil),mixed,func115,by kernel_rfl⟩
def start (h:AF 153 #[.I x0,.U x1,.U x2] σ R (fun z y=>∃gU vi,z=(.tuple #[.U gU,.bool vi])∧R (.returned (.U gU)) y)):Spec prog 115 #[.I x0,.U x1,.U x2] σ R:=M.start h ok
end gT
namespace Ag
variable {Ac Ax Bb Be BI BO Bq BM PO GH Ge Sl Bf A4 Cp CZ Cu Cv BZ BT D2 Ca CL Fh A8 A9 Cw CO CP IM x10 x11 NA:Int}{BS Cy:ByteArray}{CJ Bt Ng PQ QJ Sm Cq Cz Hd D3 GM Fi BC C0 CV IN:Option Addr}{CC CK Bh Bu M9 Nh PR PS QK QL Sn Sp Cr Cs C1 C2 CM DR D4 D5 Da FI Fj Fk BD BE C3 C4 CN CR IP IQ:Nat}{Bg DQ t9:Bool}
def M:Fw:=⟨prog,117,f117,[112,113,114,115,154,155],[3,4,5,6,8],false,[(16,10,false),(19,22,false),(21,23,false),(23,10,false),(28,10,false)],[],[(976,[(3,.X 44 [.I .i64,.I .i64,.T,.L,.I .i64,.I .i64,.I .i64,.L,.B,.I .i64]),(4,.X 90 [.I .i64,.I .u64,.L,.I .i64,.L]),(5,.X 90 [.I .i64,.I .u64,.L,.I .i64,.L]),(6,.X 90 [.I .i64,.I .u64,.L,.I .i64,.L]),(8,.X 90 [.I .i64,.I .u64,.L,.I .i64,.L]),(9,wB),(10,wI)]),(2000,[(3,.X 44 [.I .i64,.I .i64,.T,.L,.I .i64,.I .i64,.I .i64,.L,.B,.I .i64]),(4,.X 90 [.I .i64,.I .u64,.L,.I .i64,.L]),(5,.X 90 [.I .i64,.I .u64,.L,.I .i64,.L]),(6,.X 90 [.I .i64,.I .u64,.L,.I .i64,.L]),(8,.X 90 [.I .i64,.I .u64,.L,.I .i64,.L]),(9,wB),(11,wI)]),(4048,[(3,.X 44 [.I .i64,.I .i64,.T,.L,.I .i64,.I .i64,.I .i64,.L,.B,.I .i64]),(4,.X 90 [.I .i64,.I .u64,.L,.I .i64,.L]),(5,.X 90 [.I .i64,.I .u64,.L,.I .i64,.L]),(6,.X 90 [.I .i64,.I .u64,.L,.I .i64,.L]),(8,.X 90 [.I .i64,.I .u64,.L,.I .i64,.L]),(14,wI)]),(4051,[(3,.X 44 [.I .i64,.I .i64,.T,.L,.I .i64,.I .i64,.I .i64,.L,.B,.I .i64]),(4,.X 90 [.I .i64,.I .u64,.L,.I .i64,.L]),(5,.X 90 [.I .i64,.I .u64,.L,.I .i64,.L]),(6,.X 90 [.I .i64,.I .u64,.L,.I .i64,.L]),(8,.X 90 [.I .i64,.I .u64,.L,.I .i64,.L]),(14,wI)]),(2003,[(3,.X 44 [.I .i64,.I .i64,.T,.L,.I .i64,.I .i64,.I .i64,.L,.B,.I .i64]),(4,.X 90 [.I .i64,.I .u64,.L,.I .i64,.L]),(5,.X 90 [.I .i64,.I .u64,.L,.I .i64,.L]),(6,.X 90 [.I .i64,.I .u64,.L,.I .i64,.L]),(8,.X 90 [.I .i64,.I .u64,.L,.I .i64,.L]),(9,wB),(11,wI)])]⟩
def ok:M.Ok:=⟨.cons call112 (.cons call113 (.cons call114 (.cons call115 (.cons call154 (.cons call155 (AH.nil)))))),mixed,func117,by kernel_rfl⟩
def Jh:=M.pt 0
def cM:=M.pt 1
def ACA:=M.pt 2
def TQ:=M.pt 3
def Ep:=M.pt 4
def start (h:∀b3:Nat,∀b4:Nat,∀b5:Nat,∀b6:Nat,∀b8:Nat,Jh R Ac Ax BS CJ CC CK Bb Be BI Bt Bh Bu Bg BO Bq BM Ng M9 Nh PO PQ PR PS GH Ge QJ QK QL Sl Sm Sn Sp 0 0 none 0 0 0 none 0 0 2 0 none 0 0 0 none 0 0 ((decide (11≤Ax))) 0 σ):Spec prog 117 #[.agg #[.I Ac,.I Ax,.string BS,.slice CJ CC CK,.I Bb,.I Be,.I BI,.slice Bt Bh Bu,.bool Bg,.I BO],.agg #[.I Bq,.U BM,.slice Ng M9 Nh,.I PO,.slice PQ PR PS],.agg #[.I GH,.U Ge,.slice QJ QK QL,.I Sl,.slice Sm Sn Sp]] σ R:=M.start h ok
def HJ (h:Br (x10<(Da:Int)) (Bn t9 (Pq GM fun b36 o36=>In x10 (Da:Int)∧LS σ b36 (o36+x10.toNat*2) fun p38 n38 c38=>AF 155 #[.agg #[.I Bf,.I A4,.string Cy,.slice Cq Cr Cs,.I Cp,.I CZ,.I Cu,.slice Cz C1 C2,.bool DQ,.I Cv],.slice p38 n38 c38] σ R (CS fun p39 n39 c39 y=>AF 154 #[.agg #[.I Bf,.I A4,.string Cy,.slice Cq Cr Cs,.I Cp,.I CZ,.I Cu,.slice Cz C1 C2,.bool DQ,.I Cv],(.slice (aD b36 o36) Da FI),.slice p39 n39 c39] y R (CI .i64 fun eY AB=>Br (eY=(-2)) (R (.T #[.agg #[.I CO,.U CP,.slice CV CN CR,.I IM,.slice IN IP IQ],.bool false]) AB) (AG (x10+1)∧Jh R Bf A4 Cy Cq Cr Cs Cp CZ Cu Cz C1 C2 DQ Cv BZ BT Hd CM DR D2 D3 D4 D5 Ca CL (aD b36 o36) Da FI Fh Fi Fj Fk A8 A9 BC BD BE Cw C0 C3 C4 CO CP CV CN CR IM IN IP IQ false (x10+1) AB)))) (AG (x10+1)∧Jh R Bf A4 Cy Cq Cr Cs Cp CZ Cu Cz C1 C2 DQ Cv BZ BT Hd CM DR D2 D3 D4 D5 Ca CL GM Da FI Fh Fi Fj Fk A8 A9 BC BD BE Cw C0 C3 C4 CO CP CV CN CR IM IN IP IQ true (x10+1) σ)) (cM R Bf A4 Cy Cq Cr Cs Cp CZ Cu Cz C1 C2 DQ Cv BZ BT Hd CM DR D2 D3 D4 D5 Ca CL GM Da FI Fh Fi Fj Fk A8 A9 BC BD BE Cw C0 C3 C4 CO CP CV CN CR IM IN IP IQ t9 0 σ)):Jh R Bf A4 Cy Cq Cr Cs Cp CZ Cu Cz C1 C2 DQ Cv BZ BT Hd CM DR D2 D3 D4 D5 Ca CL GM Da FI Fh Fi Fj Fk A8 A9 BC BD BE Cw C0 C3 C4 CO CP CV CN CR IM IN IP IQ t9 x10 σ:=M.of5 h ok rfl fun _ _ _ _ _=>by kernel_rfl
def Re (h:Br (x11<(CM:Int)) (Pq Hd fun Er He=>In x11 (CM:Int)∧LS σ Er (He+x11.toNat*2) fun p57 n57 c57=>AF 155 #[.agg #[.I Bf,.I A4,.string Cy,.slice Cq Cr Cs,.I Cp,.I CZ,.I Cu,.slice Cz C1 C2,.bool DQ,.I Cv],.slice p57 n57 c57] σ R (CS fun Uy Uz Wi y=>AF 154 #[.agg #[.I Bf,.I A4,.string Cy,.slice Cq Cr Cs,.I Cp,.I CZ,.I Cu,.slice Cz C1 C2,.bool DQ,.I Cv],.slice GM Da FI,.slice Uy Uz Wi] y R (CI .i64 fun JR AB=>Bn t9 (AF 154 #[.agg #[.I Bf,.I A4,.string Cy,.slice Cq Cr Cs,.I Cp,.I CZ,.I Cu,.slice Cz C1 C2,.bool DQ,.I Cv],(.slice (aD Er He) CM DR),.slice Uy Uz Wi] AB R (CI .i64 fun tn AI=>Br (tn=(-2)) (R (.T #[.agg #[.I CO,.U CP,.slice CV CN CR,.I IM,.slice IN IP IQ],.bool false]) AI) (Br (A4=12) (In x11 (CM:Int)∧∃FJ FK FL FM,Ae AI Er (He+x11.toNat*2) [.slice FJ FK FL,.U FM]∧Al AI fun Ji=>AK prog (E3 87 CV CN CR Ji) (Hp.set AI Ji (.cells #[.slice FJ FK FL,.U FM] 94 (0,0))) (CS fun Ni n106 Nj AU=>Ep R Bf A4 Cy Cq Cr Cs Cp CZ Cu Cz C1 C2 DQ Cv BZ BT (aD Er He) CM DR D2 D3 D4 D5 Ca CL GM Da FI Fh Fi Fj Fk A8 A9 BC BD BE Cw C0 C3 C4 CO CP Ni n106 Nj IM IN IP IQ false x11 AU)) (Br (A4=11) (Br (JR≠(-1)) (In x11 (CM:Int)∧∃FJ FK FL FM,Ae AI Er (He+x11.toNat*2) [.slice FJ FK FL,.U FM]∧Al AI fun Ji=>AK prog (E3 87 CV CN CR Ji) (Hp.set AI Ji (.cells #[.slice FJ FK FL,.U FM] 94 (0,0))) (CS fun Ni n106 Nj AU=>Ep R Bf A4 Cy Cq Cr Cs Cp CZ Cu Cz C1 C2 DQ Cv BZ BT (aD Er He) CM DR D2 D3 D4 D5 Ca CL GM Da FI Fh Fi Fj Fk A8 A9 BC BD BE Cw C0 C3 C4 CO CP Ni n106 Nj IM IN IP IQ false x11 AU)) (Br (A4=13) (Br (JR=(-1)) (In x11 (CM:Int)∧∃FJ FK FL FM,Ae AI Er (He+x11.toNat*2) [.slice FJ FK FL,.U FM]∧Al AI fun Ji=>AK prog (E3 87 CV CN CR Ji) (Hp.set AI Ji (.cells #[.slice FJ FK FL,.U FM] 94 (0,0))) (CS fun Ni n106 Nj AU=>Ep R Bf A4 Cy Cq Cr Cs Cp CZ Cu Cz C1 C2 DQ Cv BZ BT (aD Er He) CM DR D2 D3 D4 D5 Ca CL GM Da FI Fh Fi Fj Fk A8 A9 BC BD BE Cw C0 C3 C4 CO CP Ni n106 Nj IM IN IP IQ false x11 AU)) (Br (JR<0) (Ep R Bf A4 Cy Cq Cr Cs Cp CZ Cu Cz C1 C2 DQ Cv BZ BT (aD Er He) CM DR D2 D3 D4 D5 Ca CL GM Da FI Fh Fi Fj Fk A8 A9 BC BD BE Cw C0 C3 C4 CO CP CV CN CR IM IN IP IQ false x11 AI) (AF 112 #[.I A4] AI R (CB fun t117 AU=>Bn t117 (In x11 (CM:Int)∧LI .u64 AU Er ((He+x11.toNat*2)+1) fun Wr=>Pq GM fun Ws Wt=>In JR (Da:Int)∧LI .u64 AU Ws ((Wt+JR.toNat*2)+1) fun Wu=>AF 115 #[.I A4,.U Wr,.U Wu] AU R (CI .u64 fun Wv DI=>Al DI fun U3=>AK prog (E3 87 CV CN CR U3) (Hp.set DI U3 (.cells #[.slice Uy Uz Wi,.U Wv] 94 (0,0))) (CS fun lY n139 lZ Gi=>Ep R Bf A4 Cy Cq Cr Cs Cp CZ Cu Cz C1 C2 DQ Cv BZ BT (aD Er He) CM DR D2 D3 D4 D5 Ca CL (aD Ws Wt) Da FI Fh Fi Fj Fk A8 A9 BC BD BE Cw C0 C3 C4 CO CP lY n139 lZ IM IN IP IQ false x11 Gi))) (Bo DQ (In x11 (CM:Int)∧LI .u64 AU Er ((He+x11.toNat*2)+1) fun la=>Pq GM fun Ww Wx=>In JR (Da:Int)∧LI .u64 AU Ww ((Wx+JR.toNat*2)+1) fun lf=>AF 114 #[.I A4,.U la,.U lf] AU R (CB fun t161 DI=>AF 113 #[.bool t161] DI R (CI .u64 fun lg Gi=>Al Gi fun U4=>AK prog (E3 87 CV CN CR U4) (Hp.set Gi U4 (.cells #[.slice Uy Uz Wi,.U lg] 94 (0,0))) (CS fun lh n165 lj Pn=>Ep R Bf A4 Cy Cq Cr Cs Cp CZ Cu Cz C1 C2 true Cv BZ BT (aD Er He) CM DR D2 D3 D4 D5 Ca CL (aD Ww Wx) Da FI Fh Fi Fj Fk A8 A9 BC BD BE Cw C0 C3 C4 CO CP lh n165 lj IM IN IP IQ false x11 Pn)))) (In x11 (CM:Int)∧LI .u64 AU Er ((He+x11.toNat*2)+1) fun ll=>Pq GM fun Qz Q0=>In JR (Da:Int)∧LI .u64 AU Qz ((Q0+JR.toNat*2)+1) fun lq=>AF 114 #[.I A4,.U ll,.U lq] AU R (CB fun t182 DI=>Bo t182 (In x11 (CM:Int)∧∃Nk Nl Nn No,Ae DI Er (He+x11.toNat*2) [.slice Nk Nl Nn,.U No]∧Al DI fun U5=>AK prog (E3 87 CV CN CR U5) (Hp.set DI U5 (.cells #[.slice Nk Nl Nn,.U No] 94 (0,0))) (CS fun lr n191 lu Gi=>Ep R Bf A4 Cy Cq Cr Cs Cp CZ Cu Cz C1 C2 false Cv BZ BT (aD Er He) CM DR D2 D3 D4 D5 Ca CL (aD Qz Q0) Da FI Fh Fi Fj Fk A8 A9 BC BD BE Cw C0 C3 C4 CO CP lr n191 lu IM IN IP IQ false x11 Gi)) (Ep R Bf A4 Cy Cq Cr Cs Cp CZ Cu Cz C1 C2 false Cv BZ BT (aD Er He) CM DR D2 D3 D4 D5 Ca CL (aD Qz Q0) Da FI Fh Fi Fj Fk A8 A9 BC BD BE Cw C0 C3 C4 CO CP CV CN CR IM IN IP IQ false x11 DI)))))))) (Br (JR<0) (Ep R Bf A4 Cy Cq Cr Cs Cp CZ Cu Cz C1 C2 DQ Cv BZ BT (aD Er He) CM DR D2 D3 D4 D5 Ca CL GM Da FI Fh Fi Fj Fk A8 A9 BC BD BE Cw C0 C3 C4 CO CP CV CN CR IM IN IP IQ false x11 AI) (AF 112 #[.I A4] AI R (CB fun t117 AU=>Bn t117 (In x11 (CM:Int)∧LI .u64 AU Er ((He+x11.toNat*2)+1) fun Wr=>Pq GM fun Ws Wt=>In JR (Da:Int)∧LI .u64 AU Ws ((Wt+JR.toNat*2)+1) fun Wu=>AF 115 #[.I A4,.U Wr,.U Wu] AU R (CI .u64 fun Wv DI=>Al DI fun U3=>AK prog (E3 87 CV CN CR U3) (Hp.set DI U3 (.cells #[.slice Uy Uz Wi,.U Wv] 94 (0,0))) (CS fun lY n139 lZ Gi=>Ep R Bf A4 Cy Cq Cr Cs Cp CZ Cu Cz C1 C2 DQ Cv BZ BT (aD Er He) CM DR D2 D3 D4 D5 Ca CL (aD Ws Wt) Da FI Fh Fi Fj Fk A8 A9 BC BD BE Cw C0 C3 C4 CO CP lY n139 lZ IM IN IP IQ false x11 Gi))) (Bo DQ (In x11 (CM:Int)∧LI .u64 AU Er ((He+x11.toNat*2)+1) fun la=>Pq GM fun Ww Wx=>In JR (Da:Int)∧LI .u64 AU Ww ((Wx+JR.toNat*2)+1) fun lf=>AF 114 #[.I A4,.U la,.U lf] AU R (CB fun t161 DI=>AF 113 #[.bool t161] DI R (CI .u64 fun lg Gi=>Al Gi fun U4=>AK prog (E3 87 CV CN CR U4) (Hp.set Gi U4 (.cells #[.slice Uy Uz Wi,.U lg] 94 (0,0))) (CS fun lh n165 lj Pn=>Ep R Bf A4 Cy Cq Cr Cs Cp CZ Cu Cz C1 C2 true Cv BZ BT (aD Er He) CM DR D2 D3 D4 D5 Ca CL (aD Ww Wx) Da FI Fh Fi Fj Fk A8 A9 BC BD BE Cw C0 C3 C4 CO CP lh n165 lj IM IN IP IQ false x11 Pn)))) (In x11 (CM:Int)∧LI .u64 AU Er ((He+x11.toNat*2)+1) fun ll=>Pq GM fun Qz Q0=>In JR (Da:Int)∧LI .u64 AU Qz ((Q0+JR.toNat*2)+1) fun lq=>AF 114 #[.I A4,.U ll,.U lq] AU R (CB fun t182 DI=>Bo t182 (In x11 (CM:Int)∧∃Nk Nl Nn No,Ae DI Er (He+x11.toNat*2) [.slice Nk Nl Nn,.U No]∧Al DI fun U5=>AK prog (E3 87 CV CN CR U5) (Hp.set DI U5 (.cells #[.slice Nk Nl Nn,.U No] 94 (0,0))) (CS fun lr n191 lu Gi=>Ep R Bf A4 Cy Cq Cr Cs Cp CZ Cu Cz C1 C2 false Cv BZ BT (aD Er He) CM DR D2 D3 D4 D5 Ca CL (aD Qz Q0) Da FI Fh Fi Fj Fk A8 A9 BC BD BE Cw C0 C3 C4 CO CP lr n191 lu IM IN IP IQ false x11 Gi)) (Ep R Bf A4 Cy Cq Cr Cs Cp CZ Cu Cz C1 C2 false Cv BZ BT (aD Er He) CM DR D2 D3 D4 D5 Ca CL (aD Qz Q0) Da FI Fh Fi Fj Fk A8 A9 BC BD BE Cw C0 C3 C4 CO CP CV CN CR IM IN IP IQ false x11 DI))))))))) (Br (A4=13) (Br (JR=(-1)) (In x11 (CM:Int)∧∃FJ FK FL FM,Ae AI Er (He+x11.toNat*2) [.slice FJ FK FL,.U FM]∧Al AI fun Ji=>AK prog (E3 87 CV CN CR Ji) (Hp.set AI Ji (.cells #[.slice FJ FK FL,.U FM] 94 (0,0))) (CS fun Ni n106 Nj AU=>Ep R Bf A4 Cy Cq Cr Cs Cp CZ Cu Cz C1 C2 DQ Cv BZ BT (aD Er He) CM DR D2 D3 D4 D5 Ca CL GM Da FI Fh Fi Fj Fk A8 A9 BC BD BE Cw C0 C3 C4 CO CP Ni n106 Nj IM IN IP IQ false x11 AU)) (Br (JR<0) (Ep R Bf A4 Cy Cq Cr Cs Cp CZ Cu Cz C1 C2 DQ Cv BZ BT (aD Er He) CM DR D2 D3 D4 D5 Ca CL GM Da FI Fh Fi Fj Fk A8 A9 BC BD BE Cw C0 C3 C4 CO CP CV CN CR IM IN IP IQ false x11 AI) (AF 112 #[.I A4] AI R (CB fun t117 AU=>Bn t117 (In x11 (CM:Int)∧LI .u64 AU Er ((He+x11.toNat*2)+1) fun Wr=>Pq GM fun Ws Wt=>In JR (Da:Int)∧LI .u64 AU Ws ((Wt+JR.toNat*2)+1) fun Wu=>AF 115 #[.I A4,.U Wr,.U Wu] AU R (CI .u64 fun Wv DI=>Al DI fun U3=>AK prog (E3 87 CV CN CR U3) (Hp.set DI U3 (.cells #[.slice Uy Uz Wi,.U Wv] 94 (0,0))) (CS fun lY n139 lZ Gi=>Ep R Bf A4 Cy Cq Cr Cs Cp CZ Cu Cz C1 C2 DQ Cv BZ BT (aD Er He) CM DR D2 D3 D4 D5 Ca CL (aD Ws Wt) Da FI Fh Fi Fj Fk A8 A9 BC BD BE Cw C0 C3 C4 CO CP lY n139 lZ IM IN IP IQ false x11 Gi))) (Bo DQ (In x11 (CM:Int)∧LI .u64 AU Er ((He+x11.toNat*2)+1) fun la=>Pq GM fun Ww Wx=>In JR (Da:Int)∧LI .u64 AU Ww ((Wx+JR.toNat*2)+1) fun lf=>AF 114 #[.I A4,.U la,.U lf] AU R (CB fun t161 DI=>AF 113 #[.bool t161] DI R (CI .u64 fun lg Gi=>Al Gi fun U4=>AK prog (E3 87 CV CN CR U4) (Hp.set Gi U4 (.cells #[.slice Uy Uz Wi,.U lg] 94 (0,0))) (CS fun lh n165 lj Pn=>Ep R Bf A4 Cy Cq Cr Cs Cp CZ Cu Cz C1 C2 true Cv BZ BT (aD Er He) CM DR D2 D3 D4 D5 Ca CL (aD Ww Wx) Da FI Fh Fi Fj Fk A8 A9 BC BD BE Cw C0 C3 C4 CO CP lh n165 lj IM IN IP IQ false x11 Pn)))) (In x11 (CM:Int)∧LI .u64 AU Er ((He+x11.toNat*2)+1) fun ll=>Pq GM fun Qz Q0=>In JR (Da:Int)∧LI .u64 AU Qz ((Q0+JR.toNat*2)+1) fun lq=>AF 114 #[.I A4,.U ll,.U lq] AU R (CB fun t182 DI=>Bo t182 (In x11 (CM:Int)∧∃Nk Nl Nn No,Ae DI Er (He+x11.toNat*2) [.slice Nk Nl Nn,.U No]∧Al DI fun U5=>AK prog (E3 87 CV CN CR U5) (Hp.set DI U5 (.cells #[.slice Nk Nl Nn,.U No] 94 (0,0))) (CS fun lr n191 lu Gi=>Ep R Bf A4 Cy Cq Cr Cs Cp CZ Cu Cz C1 C2 false Cv BZ BT (aD Er He) CM DR D2 D3 D4 D5 Ca CL (aD Qz Q0) Da FI Fh Fi Fj Fk A8 A9 BC BD BE Cw C0 C3 C4 CO CP lr n191 lu IM IN IP IQ false x11 Gi)) (Ep R Bf A4 Cy Cq Cr Cs Cp CZ Cu Cz C1 C2 false Cv BZ BT (aD Er He) CM DR D2 D3 D4 D5 Ca CL (aD Qz Q0) Da FI Fh Fi Fj Fk A8 A9 BC BD BE Cw C0 C3 C4 CO CP CV CN CR IM IN IP IQ false x11 DI)))))))) (Br (JR<0) (Ep R Bf A4 Cy Cq Cr Cs Cp CZ Cu Cz C1 C2 DQ Cv BZ BT (aD Er He) CM DR D2 D3 D4 D5 Ca CL GM Da FI Fh Fi Fj Fk A8 A9 BC BD BE Cw C0 C3 C4 CO CP CV CN CR IM IN IP IQ false x11 AI) (AF 112 #[.I A4] AI R (CB fun t117 AU=>Bn t117 (In x11 (CM:Int)∧LI .u64 AU Er ((He+x11.toNat*2)+1) fun Wr=>Pq GM fun Ws Wt=>In JR (Da:Int)∧LI .u64 AU Ws ((Wt+JR.toNat*2)+1) fun Wu=>AF 115 #[.I A4,.U Wr,.U Wu] AU R (CI .u64 fun Wv DI=>Al DI fun U3=>AK prog (E3 87 CV CN CR U3) (Hp.set DI U3 (.cells #[.slice Uy Uz Wi,.U Wv] 94 (0,0))) (CS fun lY n139 lZ Gi=>Ep R Bf A4 Cy Cq Cr Cs Cp CZ Cu Cz C1 C2 DQ Cv BZ BT (aD Er He) CM DR D2 D3 D4 D5 Ca CL (aD Ws Wt) Da FI Fh Fi Fj Fk A8 A9 BC BD BE Cw C0 C3 C4 CO CP lY n139 lZ IM IN IP IQ false x11 Gi))) (Bo DQ (In x11 (CM:Int)∧LI .u64 AU Er ((He+x11.toNat*2)+1) fun la=>Pq GM fun Ww Wx=>In JR (Da:Int)∧LI .u64 AU Ww ((Wx+JR.toNat*2)+1) fun lf=>AF 114 #[.I A4,.U la,.U lf] AU R (CB fun t161 DI=>AF 113 #[.bool t161] DI R (CI .u64 fun lg Gi=>Al Gi fun U4=>AK prog (E3 87 CV CN CR U4) (Hp.set Gi U4 (.cells #[.slice Uy Uz Wi,.U lg] 94 (0,0))) (CS fun lh n165 lj Pn=>Ep R Bf A4 Cy Cq Cr Cs Cp CZ Cu Cz C1 C2 true Cv BZ BT (aD Er He) CM DR D2 D3 D4 D5 Ca CL (aD Ww Wx) Da FI Fh Fi Fj Fk A8 A9 BC BD BE Cw C0 C3 C4 CO CP lh n165 lj IM IN IP IQ false x11 Pn)))) (In x11 (CM:Int)∧LI .u64 AU Er ((He+x11.toNat*2)+1) fun ll=>Pq GM fun Qz Q0=>In JR (Da:Int)∧LI .u64 AU Qz ((Q0+JR.toNat*2)+1) fun lq=>AF 114 #[.I A4,.U ll,.U lq] AU R (CB fun t182 DI=>Bo t182 (In x11 (CM:Int)∧∃Nk Nl Nn No,Ae DI Er (He+x11.toNat*2) [.slice Nk Nl Nn,.U No]∧Al DI fun U5=>AK prog (E3 87 CV CN CR U5) (Hp.set DI U5 (.cells #[.slice Nk Nl Nn,.U No] 94 (0,0))) (CS fun lr n191 lu Gi=>Ep R Bf A4 Cy Cq Cr Cs Cp CZ Cu Cz C1 C2 false Cv BZ BT (aD Er He) CM DR D2 D3 D4 D5 Ca CL (aD Qz Q0) Da FI Fh Fi Fj Fk A8 A9 BC BD BE Cw C0 C3 C4 CO CP lr n191 lu IM IN IP IQ false x11 Gi)) (Ep R Bf A4 Cy Cq Cr Cs Cp CZ Cu Cz C1 C2 false Cv BZ BT (aD Er He) CM DR D2 D3 D4 D5 Ca CL (aD Qz Q0) Da FI Fh Fi Fj Fk A8 A9 BC BD BE Cw C0 C3 C4 CO CP CV CN CR IM IN IP IQ false x11 DI)))))))))))) (Br (A4=12) (In x11 (CM:Int)∧∃FJ FK FL FM,Ae AB Er (He+x11.toNat*2) [.slice FJ FK FL,.U FM]∧Al AB fun Ji=>AK prog (E3 87 CV CN CR Ji) (Hp.set AB Ji (.cells #[.slice FJ FK FL,.U FM] 94 (0,0))) (CS fun Ni n106 Nj AI=>Ep R Bf A4 Cy Cq Cr Cs Cp CZ Cu Cz C1 C2 DQ Cv BZ BT (aD Er He) CM DR D2 D3 D4 D5 Ca CL GM Da FI Fh Fi Fj Fk A8 A9 BC BD BE Cw C0 C3 C4 CO CP Ni n106 Nj IM IN IP IQ true x11 AI)) (Br (A4=11) (Br (JR≠(-1)) (In x11 (CM:Int)∧∃FJ FK FL FM,Ae AB Er (He+x11.toNat*2) [.slice FJ FK FL,.U FM]∧Al AB fun Ji=>AK prog (E3 87 CV CN CR Ji) (Hp.set AB Ji (.cells #[.slice FJ FK FL,.U FM] 94 (0,0))) (CS fun Ni n106 Nj AI=>Ep R Bf A4 Cy Cq Cr Cs Cp CZ Cu Cz C1 C2 DQ Cv BZ BT (aD Er He) CM DR D2 D3 D4 D5 Ca CL GM Da FI Fh Fi Fj Fk A8 A9 BC BD BE Cw C0 C3 C4 CO CP Ni n106 Nj IM IN IP IQ true x11 AI)) (Br (A4=13) (Br (JR=(-1)) (In x11 (CM:Int)∧∃FJ FK FL FM,Ae AB Er (He+x11.toNat*2) [.slice FJ FK FL,.U FM]∧Al AB fun Ji=>AK prog (E3 87 CV CN CR Ji) (Hp.set AB Ji (.cells #[.slice FJ FK FL,.U FM] 94 (0,0))) (CS fun Ni n106 Nj AI=>Ep R Bf A4 Cy Cq Cr Cs Cp CZ Cu Cz C1 C2 DQ Cv BZ BT (aD Er He) CM DR D2 D3 D4 D5 Ca CL GM Da FI Fh Fi Fj Fk A8 A9 BC BD BE Cw C0 C3 C4 CO CP Ni n106 Nj IM IN IP IQ true x11 AI)) (Ep R Bf A4 Cy Cq Cr Cs Cp CZ Cu Cz C1 C2 DQ Cv BZ BT (aD Er He) CM DR D2 D3 D4 D5 Ca CL GM Da FI Fh Fi Fj Fk A8 A9 BC BD BE Cw C0 C3 C4 CO CP CV CN CR IM IN IP IQ true x11 AB)) (Ep R Bf A4 Cy Cq Cr Cs Cp CZ Cu Cz C1 C2 DQ Cv BZ BT (aD Er He) CM DR D2 D3 D4 D5 Ca CL GM Da FI Fh Fi Fj Fk A8 A9 BC BD BE Cw C0 C3 C4 CO CP CV CN CR IM IN IP IQ true x11 AB))) (Br (A4=13) (Br (JR=(-1)) (In x11 (CM:Int)∧∃FJ FK FL FM,Ae AB Er (He+x11.toNat*2) [.slice FJ FK FL,.U FM]∧Al AB fun Ji=>AK prog (E3 87 CV CN CR Ji) (Hp.set AB Ji (.cells #[.slice FJ FK FL,.U FM] 94 (0,0))) (CS fun Ni n106 Nj AI=>Ep R Bf A4 Cy Cq Cr Cs Cp CZ Cu Cz C1 C2 DQ Cv BZ BT (aD Er He) CM DR D2 D3 D4 D5 Ca CL GM Da FI Fh Fi Fj Fk A8 A9 BC BD BE Cw C0 C3 C4 CO CP Ni n106 Nj IM IN IP IQ true x11 AI)) (Ep R Bf A4 Cy Cq Cr Cs Cp CZ Cu Cz C1 C2 DQ Cv BZ BT (aD Er He) CM DR D2 D3 D4 D5 Ca CL GM Da FI Fh Fi Fj Fk A8 A9 BC BD BE Cw C0 C3 C4 CO CP CV CN CR IM IN IP IQ true x11 AB)) (Ep R Bf A4 Cy Cq Cr Cs Cp CZ Cu Cz C1 C2 DQ Cv BZ BT (aD Er He) CM DR D2 D3 D4 D5 Ca CL GM Da FI Fh Fi Fj Fk A8 A9 BC BD BE Cw C0 C3 C4 CO CP CV CN CR IM IN IP IQ true x11 AB))))))) (ACA R Bf A4 Cy Cq Cr Cs Cp CZ Cu Cz C1 C2 DQ Cv BZ BT Hd CM DR D2 D3 D4 D5 Ca CL GM Da FI Fh Fi Fj Fk A8 A9 BC BD BE Cw C0 C3 C4 CO CP CV CN CR IM IN IP IQ 0 σ)):cM R Bf A4 Cy Cq Cr Cs Cp CZ Cu Cz C1 C2 DQ Cv BZ BT Hd CM DR D2 D3 D4 D5 Ca CL GM Da FI Fh Fi Fj Fk A8 A9 BC BD BE Cw C0 C3 C4 CO CP CV CN CR IM IN IP IQ t9 x11 σ:=M.of5 h ok rfl fun _ _ _ _ _=>by kernel_rfl
def oe (h:Br (NA<(Da:Int)) (Br (A4=12) (Pq GM fun ACD ACE=>In NA (Da:Int)∧LS σ ACD (ACE+NA.toNat*2) fun AWS n214 AWT=>AF 155 #[.agg #[.I Bf,.I A4,.string Cy,.slice Cq Cr Cs,.I Cp,.I CZ,.I Cu,.slice Cz C1 C2,.bool DQ,.I Cv],.slice AWS n214 AWT] σ R (CS fun AWU n215 AWV y=>AF 154 #[.agg #[.I Bf,.I A4,.string Cy,.slice Cq Cr Cs,.I Cp,.I CZ,.I Cu,.slice Cz C1 C2,.bool DQ,.I Cv],.slice Hd CM DR,.slice AWU n215 AWV] y R (CI .i64 fun AWW AB=>Br (AWW=(-1)) (In NA (Da:Int)∧∃AEh AEi AEj AEk,Ae AB ACD (ACE+NA.toNat*2) [.slice AEh AEi AEj,.U AEk]∧Al AB fun AIK=>AK prog (E3 87 CV CN CR AIK) (Hp.set AB AIK (.cells #[.slice AEh AEi AEj,.U AEk] 94 (0,0))) (CS fun AWX n226 AWY AI=>TQ R Bf A4 Cy Cq Cr Cs Cp CZ Cu Cz C1 C2 DQ Cv BZ BT Hd CM DR D2 D3 D4 D5 Ca CL (aD ACD ACE) Da FI Fh Fi Fj Fk A8 A9 BC BD BE Cw C0 C3 C4 CO CP AWX n226 AWY IM IN IP IQ NA AI)) (TQ R Bf A4 Cy Cq Cr Cs Cp CZ Cu Cz C1 C2 DQ Cv BZ BT Hd CM DR D2 D3 D4 D5 Ca CL (aD ACD ACE) Da FI Fh Fi Fj Fk A8 A9 BC BD BE Cw C0 C3 C4 CO CP CV CN CR IM IN IP IQ NA AB)))) (R (.T #[.agg #[.I CO,.U CP,.slice CV CN CR,.I IM,.slice IN IP IQ],.bool true]) σ)) (R (.T #[.agg #[.I CO,.U CP,.slice CV CN CR,.I IM,.slice IN IP IQ],.bool true]) σ)):ACA R Bf A4 Cy Cq Cr Cs Cp CZ Cu Cz C1 C2 DQ Cv BZ BT Hd CM DR D2 D3 D4 D5 Ca CL GM Da FI Fh Fi Fj Fk A8 A9 BC BD BE Cw C0 C3 C4 CO CP CV CN CR IM IN IP IQ NA σ:=M.of5 h ok rfl fun _ _ _ _ _=>by kernel_rfl
def PL (h:AG (NA+1)∧ACA R Bf A4 Cy Cq Cr Cs Cp CZ Cu Cz C1 C2 DQ Cv BZ BT Hd CM DR D2 D3 D4 D5 Ca CL GM Da FI Fh Fi Fj Fk A8 A9 BC BD BE Cw C0 C3 C4 CO CP CV CN CR IM IN IP IQ (NA+1) σ):TQ R Bf A4 Cy Cq Cr Cs Cp CZ Cu Cz C1 C2 DQ Cv BZ BT Hd CM DR D2 D3 D4 D5 Ca CL GM Da FI Fh Fi Fj Fk A8 A9 BC BD BE Cw C0 C3 C4 CO CP CV CN CR IM IN IP IQ NA σ:=M.of5 h ok rfl fun _ _ _ _ _=>by kernel_rfl
def oh (h:AG (x11+1)∧cM R Bf A4 Cy Cq Cr Cs Cp CZ Cu Cz C1 C2 DQ Cv BZ BT Hd CM DR D2 D3 D4 D5 Ca CL GM Da FI Fh Fi Fj Fk A8 A9 BC BD BE Cw C0 C3 C4 CO CP CV CN CR IM IN IP IQ t9 (x11+1) σ):Ep R Bf A4 Cy Cq Cr Cs Cp CZ Cu Cz C1 C2 DQ Cv BZ BT Hd CM DR D2 D3 D4 D5 Ca CL GM Da FI Fh Fi Fj Fk A8 A9 BC BD BE Cw C0 C3 C4 CO CP CV CN CR IM IN IP IQ t9 x11 σ:=M.of5 h ok rfl fun _ _ _ _ _=>by kernel_rfl
end Ag
namespace Np
variable {x0:Int}
def M:Fw:=⟨prog,132,f132,[],[],false,[],[],[]⟩
def ok:M.Ok:=⟨AH.nil,mixed,func132,by kernel_rfl⟩
def start (h:Br (5≤x0) (R (.returned (.bool (decide (x0≤10)))) σ) (R (.B false) σ)):Spec prog 132 #[.I x0] σ R:=M.start h ok
end Np
namespace IZ
variable {s0:ByteArray}{x3:Int}
def M:Fw:=⟨prog,137,f137,[138],[],false,[],[],[(208,[(0,wT),(3,wI)])]⟩
def ok:M.Ok:=⟨.cons call138 (AH.nil),mixed,func137,by kernel_rfl⟩
def Fm:=M.pt 0
def start (h:Fm R s0 0 σ):Spec prog 137 #[.string s0] σ R:=M.start h ok
def As (h:Br (x3<(s0.size:Int)) (∃QI:UInt8,0≤x3∧(ByteArray.data s0)[x3.toNat]?=some QI∧AF 138 #[(.int .u8 (QI.toNat:Int))] σ R (CB fun t13 y=>Bn t13 (R (.B false) y) (AG (x3+1)∧Fm R s0 (x3+1) y))) (Bn ((ByteArray.toList s0==ByteArray.toList (ByteArray.mk #[]))) (Br (((s0.size:Int):Int)=1) (R (.B true) σ) (∃u23:UInt8,(0:Int)≤0∧(ByteArray.data s0)[Int.toNat 0]?=some u23∧R (.returned (.bool (decide (((u23.toNat:Int):Int)≠48)))) σ)) (R (.B false) σ))):Fm R s0 x3 σ:=M.of h ok rfl
end IZ
namespace Gr
variable {p0 QJ TU:Option Addr}{n0 c0 QK QL TV TW:Nat}{GH Ge x4:Int}
def M:Fw:=⟨prog,164,f164,[42,210],[2],false,[],[],[(464,[(0,wL),(2,.X 97 [.I .i64,.I .u64,.L,.L]),(4,wI)])]⟩
def ok:M.Ok:=⟨.cons call42 (.cons call210 (AH.nil)),mixed,func164,by kernel_rfl⟩
def Ab:=M.pt 0
def start (h:∀b2:Nat,AF 210 #[.slice p0 n0 c0,(.func (.func 211) #[] #[])] σ R (fun z y=>z=(.tuple #[])∧Ab R p0 n0 c0 0 0 none 0 0 none 0 0 1 y)):Spec prog 164 #[.slice p0 n0 c0] σ R:=M.start h ok
def AO (h:Br (x4<(n0:Int)) (AG (x4-1)∧Pq p0 fun IY Rb=>In (x4-1) (n0:Int)∧LS σ IY (Rb+Int.toNat (x4-1)*2) fun p18 n18 c18=>In x4 (n0:Int)∧LS σ IY (Rb+x4.toNat*2) fun vQ n23 vR=>AF 42 #[.slice p18 n18 c18,.slice vQ n23 vR] σ R (CI .i64 fun JG y=>Br (JG=0) (R (.T #[.agg #[.I 0,.U 0,.N,.N],.I 223]) y) (AG (x4+1)∧Ab R (aD IY Rb) n0 c0 GH Ge QJ QK QL TU TV TW (x4+1) y))) (R (.T #[.agg #[.I 2,.U 0,.slice p0 n0 c0,.N],.I 0]) σ)):Ab R p0 n0 c0 GH Ge QJ QK QL TU TV TW x4 σ:=M.fy h ok rfl fun _=>by kernel_rfl
end Gr
namespace Wy
variable {p0 p1:Option Addr}{n0 c0 n1 c1:Nat}
def M:Fw:=⟨prog,165,f165,[212],[],false,[],[],[]⟩
def ok:M.Ok:=⟨.cons call212 (AH.nil),mixed,func165,by kernel_rfl⟩
def start (h:Al σ fun b3=>AF 212 #[.slice p0 n0 c0,(.func (.func 213) #[] #[(.pointer (aD b3 0))])] (Hp.set σ b3 (.cells #[.slice p1 n1 c1] 42 (0,0))) R (CS fun p7 n7 c7 y=>R (.returned (.slice p7 n7 c7)) y)):Spec prog 165 #[.slice p0 n0 c0,.slice p1 n1 c1] σ R:=M.start h ok
end Wy
namespace Jj
variable {s0:ByteArray}{x1:Int}
def M:Fw:=⟨prog,189,f189,[229,230],[],false,[],[],[]⟩
def ok:M.Ok:=⟨.cons call229 (.cons call230 (AH.nil)),mixed,func189,by kernel_rfl⟩
def start (h:AF 229 #[.string s0,.I x1] σ R (fun z y=>∃rY rZ,z=(.tuple #[rY,rZ])∧∃t15,YF prog ((do eqGuard .neq 225 (.tmp 14) (.const .nilIface) rZ .nilIface;binOp .neq 225 rZ .nilIface)) y (.bool t15)∧Bo t15 (AF 230 #[(.string (ByteArray.mk #[80,97,114,115,101,70,108,111,97,116])),.string s0,.I 0,.I x1,rZ] y R (fun z AB=>∃v20,v20=z∧R (.T #[rY,v20]) AB)) (R (.T #[rY,.nilIface]) y))):Spec prog 189 #[.string s0,.I x1] σ R:=M.start h ok
end Jj
namespace Fo
variable {p0 p1:Option Addr}{n0 c0 n1 c1:Nat}
def M:Fw:=⟨prog,204,f204,[205],[],false,[],[],[]⟩
def ok:M.Ok:=⟨.cons call205 (AH.nil),mixed,func204,by kernel_rfl⟩
def start (h:AG ((n0:Int)-1)∧Pq p0 fun b9 o9=>In (((n0:Int)-1)) (n0:Int)∧LI .u64 σ b9 (o9+Int.toNat ((n0:Int)-1)*1) fun x10=>In 0 (n0:Int)∧LI .u64 σ b9 o9 fun DP=>AF 205 #[.U x10,.U DP] σ R (CI .u64 fun NA y=>R (.returned (.U NA)) y)):Spec prog 204 #[.slice p0 n0 c0,.slice p1 n1 c1] σ R:=M.start h ok
end Fo
namespace JI
variable {s0a j5:ByteArray}{b1:Nat}
def M:Fw:=⟨prog,213,f213,[214],[2],false,[],[],[]⟩
def ok:M.Ok:=⟨.cons call214 (AH.nil),mixed,func213,by kernel_rfl⟩
def start (h:∀b2:Nat,LS σ b1 0 fun p4 n4 c4=>AF 214 #[.slice p4 n4 c4,.string s0a] σ R (CB fun t7 y=>R (.B t7) y)):Spec prog 213 #[.agg #[.string s0a,.string j5],(.pointer (aD b1 0))] σ R:=M.start h ok
end JI
namespace aX
variable {x0:Int}
def M:Fw:=⟨prog,223,f223,[],[],false,[],[],[]⟩
def ok:M.Ok:=⟨AH.nil,mixed,func223,by kernel_rfl⟩
def start (h:Br (48≤x0) (R (.returned (.bool (decide (x0≤57)))) σ) (R (.B false) σ)):Spec prog 223 #[.int .u8 x0] σ R:=M.start h ok
end aX
namespace Wz
variable {v0:Value}
def M:Fw:=⟨prog,224,f224,[],[],false,[],[],[]⟩
def ok:M.Ok:=⟨AH.nil,mixed,func224,by kernel_rfl⟩
def start (h:∃t5,YF prog ((do eqGuard .neq 73 (.tmp 3) (.tmp 4) v0 v0;binOp .neq 73 v0 v0)) σ (.bool t5)∧R (.B t5) σ):Spec prog 224 #[v0] σ R:=M.HF h ok [(0,.o (.V v0))] rfl rfl (by kernel_rfl)
end Wz
namespace aY
variable {x0:Int}
def M:Fw:=⟨prog,251,f251,[],[],false,[],[],[]⟩
def ok:M.Ok:=⟨AH.nil,mixed,func251,by kernel_rfl⟩
def start (h:Br (x0=1) (R (.B true) σ) (Br (x0=2) (R (.B true) σ) (Br (x0=4) (R (.B true) σ) (R (.returned (.bool (decide (x0=8)))) σ)))):Spec prog 251 #[.I x0] σ R:=M.start h ok
end aY
end TwW
end
end
section
set_option maxRecDepth 100000
noncomputable section
namespace TwW
open Go Tw Go.Proofs.Tryz
variable [G9]{R:Rr}{σ:Hp}

namespace QM
def M:Fw:=⟨prog,272,f272,[198],[],false,[],[],[]⟩
def ok:M.Ok:=⟨.cons call198 (AH.nil),mixed,func272,by kernel_rfl⟩
def start (h:AF 198 #[.U 4604544271217802189] σ R (fun z y=>∃x2,(Value.float .f64 x2)=z∧∃x5,YF prog (Op.unary .neg (Value.float .f64 x2)) y (Value.float .f64 x5)∧∃x6 y6,YF prog (Builtin.complex_ #[73,73] 273 #[(Value.float .f64 x2),(Value.float .f64 x5)]) y (Value.complex .f64 x6 y6)∧∃x8,YF prog (Op.unary .neg (Value.float .f64 x2)) y (Value.float .f64 x8)∧∃x10,YF prog (Op.unary .neg (Value.float .f64 x2)) y (Value.float .f64 x10)∧∃x11 y11,YF prog (Builtin.complex_ #[73,73] 273 #[(Value.float .f64 x8),(Value.float .f64 x10)]) y (Value.complex .f64 x11 y11)∧∃DP,YF prog (Op.unary .neg (Value.float .f64 x2)) y (Value.float .f64 DP)∧∃x15 y15,YF prog (Builtin.complex_ #[73,73] 273 #[(Value.float .f64 DP),(Value.float .f64 x2)]) y (Value.complex .f64 x15 y15)∧∃U6 y18,YF prog (Builtin.complex_ #[73,73] 273 #[(Value.float .f64 x2),(Value.float .f64 x2)]) y (Value.complex .f64 U6 y18)∧Al y fun Dl=>R (.returned (.slice (aD Dl 0) 8 8)) (Hp.set y Dl (.cells #[.complex .f64 4607182418800017408 0,(Value.complex .f64 x6 y6),.complex .f64 0 13830554455654793216,(Value.complex .f64 x11 y11),.complex .f64 13830554455654793216 0,(Value.complex .f64 x15 y15),.complex .f64 0 4607182418800017408,(Value.complex .f64 U6 y18)] 273 (0,0))))):Spec prog 272 #[] σ R:=M.start h ok
end QM
end TwW
end
end
section
set_option maxRecDepth 100000
noncomputable section
namespace TwW
open Go Tw Go.Proofs.Tryz
variable [G9]{R:Rr}{σ:Hp}

namespace ET
variable {p0 p3:Option Addr}{n0 c0 n3 c3:Nat}{x4:Int}
def M:Fw:=⟨prog,7,f7,[23,24],[],false,[],[],[(464,[(0,wL),(3,wL),(4,wI)])]⟩
def ok:M.Ok:=⟨.cons call23 (.cons call24 (AH.nil)),mixed,func7,by kernel_rfl⟩
def Ab:=M.pt 0
def start (h:Ab R p0 n0 c0 none 0 0 0 σ):Spec prog 7 #[.slice p0 n0 c0] σ R:=M.start h ok
def AO (h:Br (x4<(n0:Int)) (Pq p0 fun DO U7=>In x4 (n0:Int)∧LS σ DO (U7+x4.toNat*2) fun gV n16 aZ=>In x4 (n0:Int)∧LS σ DO ((U7+x4.toNat*2)+1) fun aR n22 ZD=>AF 23 #[.slice gV n16 aZ] σ R (CS fun p17 n17 c17 y=>Kp [DO] σ y∧AF 24 #[.slice aR n22 ZD] y R (CS fun vQ n23 vR AB=>Al AB fun H0=>AK prog (E3 23 p3 n3 c3 H0) (Hp.set AB H0 (.cells #[.slice p17 n17 c17,.slice vQ n23 vR] 51 (0,0))) (CS fun p26 n26 c26 AI=>AG (x4+1)∧Ab R (aD DO U7) n0 c0 p26 n26 c26 (x4+1) AI)))) (R (.returned (.slice p3 n3 c3)) σ)):Ab R p0 n0 c0 p3 n3 c3 x4 σ:=M.of h ok rfl
end ET
namespace Ia
variable {p0 q5 M7:Option Addr}{n0 c0 n11 PM:Nat}{x12 DP:Int}
def M:Fw:=⟨prog,28,f28,[48],[7],false,[],[],[(232,[(0,wL),(5,wQ),(11,wL),(12,wI),(13,wI)])]⟩
def ok:M.Ok:=⟨.cons call48 (AH.nil),mixed,func28,by kernel_rfl⟩
def B4:=M.pt 0
def start (h:Al σ fun FB=>B4 R p0 n0 c0 (aD FB 0) p0 n0 c0 (n0:Int) 0 (Hp.set σ FB (.cells #[.N] 106 (0,0)))):Spec prog 28 #[.slice p0 n0 c0] σ R:=M.start h ok
def Ap (h:Br (DP<x12) (Pq M7 fun IY Rb=>In DP (n11:Int)∧∃cP ra AMl rf rh ri AMm AMn AMo AMp AMq AMr AMs AMt,Ae σ IY (Rb+DP.toNat*10) [.I cP,.I ra,.string AMl,.slice rf rh ri,.I AMm,.I AMn,.I AMo,.slice AMp AMq AMr,.bool AMs,.I AMt]∧∀b7:Nat,AF 48 #[.pointer q5,.agg #[.I cP,.I ra,.string AMl,.slice rf rh ri,.I AMm,.I AMn,.I AMo,.slice AMp AMq AMr,.bool AMs,.I AMt]] σ R (CI .i64 fun II y=>Br (II≠0) (R (.T #[.I 0,.I DP,.I II]) y) (AG (DP+1)∧B4 R p0 n0 c0 q5 (aD IY Rb) n11 PM x12 (DP+1) y))) (Pq q5 fun ZE ot=>LS σ ZE ot fun oY n29 gD=>Br ((n29:Int)≠1) (R (.T #[.I 0,(.I (n0:Int)),.I 190]) σ) (Br (4096<(n0:Int)) (R (.T #[.I 0,(.I (n0:Int)),.I 190]) σ) (LS σ ZE ot fun p42 n42 c42=>Pq p42 fun Zb o43=>In 0 (n42:Int)∧LI .i64 σ Zb o43 fun j6=>R (.T #[.I j6,.I 0,.I 0]) σ)))):B4 R p0 n0 c0 q5 M7 n11 PM x12 DP σ:=M.of h ok rfl
end Ia
namespace Bi
variable {p0 p2:Option Addr}{n0 c0 n2 c2:Nat}{x3 x4:Int}
def M:Fw:=⟨prog,35,f35,[],[],false,[],[],[(208,[(0,wL),(2,wL),(3,wI)]),(240,[(0,wL),(4,wI)])]⟩
def ok:M.Ok:=⟨AH.nil,mixed,func35,by kernel_rfl⟩
def Fm:=M.pt 0
def cQ:=M.pt 1
def start (h:Al σ fun b7=>AK prog (E3 49 p0 n0 c0 b7) (Hp.set σ b7 (.cells #[(.I (-7)),.U 77] 61 (0,0))) (CS fun p8 n8 c8 y=>Fm R p0 n0 c0 p8 n8 c8 0 y)):Spec prog 35 #[.slice p0 n0 c0] σ R:=M.start h ok
def As (h:Br (x3<(n2:Int)) (Pq p2 fun KL MV=>In x3 (n2:Int)∧AK prog (Instr.storeAt 61 (.pointer (aD KL (MV+x3.toNat*2))) (.agg #[(.I (-7)),.U 77])) σ (fun _ y=>AG (x3+1)∧Fm R p0 n0 c0 (aD KL MV) n2 c2 (x3+1) y)) (cQ R p0 n0 c0 0 σ)):Fm R p0 n0 c0 p2 n2 c2 x3 σ:=M.of h ok rfl
def Rf (h:Br (x4<(n0:Int)) (Pq p0 fun Rh cR=>In x4 (n0:Int)∧AK prog (Instr.storeAt 61 (.pointer (aD Rh (cR+x4.toNat*2))) (.agg #[(.I (-7)),.U 77])) σ (fun _ y=>AG (x4+1)∧cQ R (aD Rh cR) n0 c0 (x4+1) y)) (R (.T #[]) σ)):cQ R p0 n0 c0 x4 σ:=M.of h ok rfl
end Bi
namespace Ri
variable {ZY p0b p1a p1b:Option Addr}{QH Wn n0b c0b n1a c1a n1b c1b:Nat}
def M:Fw:=⟨prog,41,f41,[42],[2,3],false,[],[],[]⟩
def ok:M.Ok:=⟨.cons call42 (AH.nil),mixed,func41,by kernel_rfl⟩
def start (h:∀b2:Nat,∀b3:Nat,AF 42 #[.slice ZY QH Wn,.slice p1a n1a c1a] σ R (CI .i64 fun x9 y=>R (.returned (.I x9)) y)):Spec prog 41 #[.agg #[.slice ZY QH Wn,.slice p0b n0b c0b],.agg #[.slice p1a n1a c1a,.slice p1b n1b c1b]] σ R:=M.start h ok
end Ri
namespace Dp
variable {v0:Value}{b1 b2 b3:Nat}{x5:Int}
def M:Fw:=⟨prog,55,f55,[],[100000],false,[],[],[(48,[(0,wV),(2,wA),(3,wA),(5,wI)])]⟩
def ok:M.Ok:=⟨AH.nil,mixed,func55,by kernel_rfl⟩
def pt6:=M.pt 0
def start (h:LI .i64 σ b1 0 fun x6=>pt6 R v0 b2 b3 x6 σ):Spec prog 55 #[v0,(.pointer (aD b1 0)),(.pointer (aD b2 0)),(.pointer (aD b3 0))] σ R:=M.HF h ok [(0,.o (.V v0)),(1,.o (.A b1)),(2,.o (.A b2)),(3,.o (.A b3))] rfl rfl (by kernel_rfl)
def TI (h:∃l9:Nat,v0=.func (.yield l9) #[] #[]∧LL prog l9 #[.I x5] σ (BB R (CB fun t9 y=>Bo t9 (LI .i64 y b2 0 fun x11=>LI .i64 y b3 0 fun x12=>AG (x12-x5)∧Br (x11≤(x12-x5)) (LI .i64 y b2 0 fun U6=>AG (x5+U6)∧pt6 R v0 b2 b3 (x5+U6) y) (R (.T #[]) y)) (R (.T #[]) y)))):pt6 R v0 b2 b3 x5 σ:=M.of h ok rfl
end Dp
namespace Cm
variable {x0 Bq BM PO Bf A4 TT BZ BT D2 Ca CL Fh x6 x8 x7:Int}{Ng PQ U1 U2 Hd D3 GM Fi:Option Addr}{M9 Nh PR PS Ps UM Rc UN CM DR D4 D5 Da FI Fj Fk:Nat}
def M:Fw:=⟨prog,69,f69,[105,106,107,108],[3,4,5],false,[(8,14,false),(14,14,false)],[],[(464,[(0,wI),(3,.X 90 [.I .i64,.I .u64,.L,.I .i64,.L]),(4,.X 90 [.I .i64,.I .u64,.L,.I .i64,.L]),(5,.X 90 [.I .i64,.I .u64,.L,.I .i64,.L]),(6,wI)]),(976,[(0,wI),(3,.X 90 [.I .i64,.I .u64,.L,.I .i64,.L]),(4,.X 90 [.I .i64,.I .u64,.L,.I .i64,.L]),(5,.X 90 [.I .i64,.I .u64,.L,.I .i64,.L]),(8,wI)]),(979,[(0,wI),(3,.X 90 [.I .i64,.I .u64,.L,.I .i64,.L]),(4,.X 90 [.I .i64,.I .u64,.L,.I .i64,.L]),(5,.X 90 [.I .i64,.I .u64,.L,.I .i64,.L]),(8,wI)]),(3731,[(0,wI),(3,.X 90 [.I .i64,.I .u64,.L,.I .i64,.L]),(4,.X 90 [.I .i64,.I .u64,.L,.I .i64,.L]),(5,.X 90 [.I .i64,.I .u64,.L,.I .i64,.L]),(6,wI),(7,wU)])]⟩
def ok:M.Ok:=⟨.cons call105 (.cons call106 (.cons call107 (.cons call108 (AH.nil)))),mixed,func69,by kernel_rfl⟩
def Ab:=M.pt 0
def cM:=M.pt 1
def Ku:=M.pt 2
def ACG:=M.pt 3
def start (h:∀b3:Nat,∀b4:Nat,∀b5:Nat,Ab R x0 Bq BM Ng M9 Nh PO PQ PR PS 0 0 none 0 0 0 none 0 0 2 0 none 0 0 0 none 0 0 0 σ):Spec prog 69 #[.I x0,.agg #[.I Bq,.U BM,.slice Ng M9 Nh,.I PO,.slice PQ PR PS]] σ R:=M.start h ok
def AO (h:Br (x6<(Ps:Int)) (Pq U1 fun eX lV=>In x6 (Ps:Int)∧LI .u64 σ eX ((lV+x6.toNat*2)+1) fun JG=>AF 105 #[.U JG] σ R (CI .u64 fun Kz y=>Br (x0=12) (In x6 (Ps:Int)∧LI .u64 y eX ((lV+x6.toNat*2)+1) fun x33=>AF 106 #[.U x33] y R (CI .u64 fun TR AB=>ACG R x0 Bf A4 (aD eX lV) Ps UM TT U2 Rc UN BZ BT Hd CM DR D2 D3 D4 D5 Ca CL GM Da FI Fh Fi Fj Fk x6 TR AB)) (ACG R x0 Bf A4 (aD eX lV) Ps UM TT U2 Rc UN BZ BT Hd CM DR D2 D3 D4 D5 Ca CL GM Da FI Fh Fi Fj Fk x6 Kz y))) (cM R x0 Bf A4 U1 Ps UM TT U2 Rc UN BZ BT Hd CM DR D2 D3 D4 D5 Ca CL GM Da FI Fh Fi Fj Fk 0 σ)):Ab R x0 Bf A4 U1 Ps UM TT U2 Rc UN BZ BT Hd CM DR D2 D3 D4 D5 Ca CL GM Da FI Fh Fi Fj Fk x6 σ:=M.ZP h ok rfl fun _ _ _=>by kernel_rfl
def Re (h:Br (x8<(Rc:Int)) (Pq U2 fun b61 o61=>In x8 (Rc:Int)∧LS σ b61 ((o61+x8.toNat*2)+1) fun p63 n63 c63=>AF 108 #[.I x0,.slice p63 n63 c63,.I TT] σ R (fun z y=>∃cS vj,z=(.tuple #[.U cS,.bool vj])∧Bo vj (In x8 (Rc:Int)∧LS y b61 (o61+x8.toNat*2) fun vk vm vo=>AF 107 #[.slice vk vm vo] y R (CS fun tq rj tr AB=>Al AB fun b81=>AK prog (E3 87 GM Da FI b81) (Hp.set AB b81 (.cells #[.slice tq rj tr,.U cS] 94 (0,0))) (CS fun p82 n82 c82 AI=>Ku R x0 Bf A4 U1 Ps UM TT (aD b61 o61) Rc UN BZ BT Hd CM DR D2 D3 D4 D5 Ca CL p82 n82 c82 Fh Fi Fj Fk x8 AI))) (Ku R x0 Bf A4 U1 Ps UM TT (aD b61 o61) Rc UN BZ BT Hd CM DR D2 D3 D4 D5 Ca CL GM Da FI Fh Fi Fj Fk x8 y))) (R (.returned (.agg #[.I Ca,.U CL,.slice GM Da FI,.I Fh,.slice Fi Fj Fk])) σ)):cM R x0 Bf A4 U1 Ps UM TT U2 Rc UN BZ BT Hd CM DR D2 D3 D4 D5 Ca CL GM Da FI Fh Fi Fj Fk x8 σ:=M.ZP h ok rfl fun _ _ _=>by kernel_rfl
def JJ (h:AG (x8+1)∧cM R x0 Bf A4 U1 Ps UM TT U2 Rc UN BZ BT Hd CM DR D2 D3 D4 D5 Ca CL GM Da FI Fh Fi Fj Fk (x8+1) σ):Ku R x0 Bf A4 U1 Ps UM TT U2 Rc UN BZ BT Hd CM DR D2 D3 D4 D5 Ca CL GM Da FI Fh Fi Fj Fk x8 σ:=M.ZP h ok rfl fun _ _ _=>by kernel_rfl
def ACH (h:Pq U1 fun Vi o40=>In x6 (Ps:Int)∧LS σ Vi (o40+x6.toNat*2) fun p42 n42 c42=>AF 107 #[.slice p42 n42 c42] σ R (CS fun ZZ n43 Za y=>Al y fun gW=>AK prog (E3 87 GM Da FI gW) (Hp.set y gW (.cells #[.slice ZZ n43 Za,.U x7] 94 (0,0))) (CS fun p47 n47 c47 AB=>AG (x6+1)∧Ab R x0 Bf A4 (aD Vi o40) Ps UM TT U2 Rc UN BZ BT Hd CM DR D2 D3 D4 D5 Ca CL p47 n47 c47 Fh Fi Fj Fk (x6+1) AB))):ACG R x0 Bf A4 U1 Ps UM TT U2 Rc UN BZ BT Hd CM DR D2 D3 D4 D5 Ca CL GM Da FI Fh Fi Fj Fk x6 x7 σ:=M.ZP h ok rfl fun _ _ _=>by kernel_rfl
end Cm
namespace W0
variable {Ac Ax Bb Be BI BO:Int}{BS:ByteArray}{CJ Bt:Option Addr}{CC CK Bh Bu:Nat}{Bg:Bool}
def M:Fw:=⟨prog,77,f77,[127,128,129,130,131,132],[1],false,[],[],[]⟩
def ok:M.Ok:=⟨.cons call127 (.cons call128 (.cons call129 (.cons call130 (.cons call131 (.cons call132 (AH.nil)))))),mixed,func77,by kernel_rfl⟩
def start (h:∀b1:Nat,AF 128 #[.agg #[.I Ac,.I Ax,.string BS,.slice CJ CC CK,.I Bb,.I Be,.I BI,.slice Bt Bh Bu,.bool Bg,.I BO]] σ R (fun z y=>∃Ca CL MW MX MY MZ Ma Mb Mc Md Me Mf Nq Mg,z=(.agg #[.I Ca,.I CL,.string MW,.slice MX MY MZ,.I Ma,.I Mb,.I Mc,.slice Md Me Mf,.bool Nq,.I Mg])∧AF 127 #[.agg #[.I Ac,.I Ax,.string BS,.slice CJ CC CK,.I Bb,.I Be,.I BI,.slice Bt Bh Bu,.bool Bg,.I BO],.agg #[.I Ca,.I CL,.string MW,.slice MX MY MZ,.I Ma,.I Mb,.I Mc,.slice Md Me Mf,.bool Nq,.I Mg]] y R (CB fun t6 AB=>Bn t6 (R (.B false) AB) (AF 129 #[.agg #[.I Ac,.I Ax,.string BS,.slice CJ CC CK,.I Bb,.I Be,.I BI,.slice Bt Bh Bu,.bool Bg,.I BO]] AB R (CB fun t10 AI=>Bn t10 (R (.B false) AI) (Br (0<(CC:Int)) (Br (Ac≠2) (Br (Ac≠3) (R (.B false) AI) (Br (Ac=1) (AF 130 #[.string BS] AI R (CB fun t35 AU=>R (.B t35) AU)) (Br (Ac=2) (AF 131 #[.I Be,.I 0] AI R (CB fun t40 AU=>R (.B t40) AU)) (Br (Ac=3) (AF 131 #[.I Bb,.I 1] AI R (CB fun t45 AU=>Bo t45 (AF 131 #[.I Be,.I 0] AU R (CB fun t49 DI=>R (.B t49) DI)) (R (.B false) AU))) (Br (Ac=4) (Br (BO=1) (Br (1≤Ax) (R (.returned (.bool (decide (Ax≤12)))) AI) (R (.B false) AI)) (R (.B false) AI)) (Br (Ac=5) (Br (BO=1) (Br (1≤Ax) (Br (Ax≤5) (Br (BI=0) (R (.B true) AI) (Br (BI=1) (R (.B true) AI) (R (.returned (.bool (decide (BI=2)))) AI))) (R (.B false) AI)) (R (.B false) AI)) (R (.B false) AI)) (Br (Ac=6) (Br (BO=2) (Br (1≤Ax) (Br (Ax≤13) (Br (BI=0) (Bn Bg (R (.B true) AI) (AF 132 #[.I Ax] AI R (CB fun t133 AU=>R (.B t133) AU))) (Br (BI=3) (Bn Bg (R (.B true) AI) (AF 132 #[.I Ax] AI R (CB fun t133 AU=>R (.B t133) AU))) (Br (BI=4) (Bn Bg (R (.B true) AI) (AF 132 #[.I Ax] AI R (CB fun t133 AU=>R (.B t133) AU))) (R (.B false) AI)))) (R (.B false) AI)) (R (.B false) AI)) (R (.B false) AI)) (Br (Ac=7) (R (.returned (.bool (decide (BO=1)))) AI) (R (.B false) AI))))))))) (Br (Ac=1) (AF 130 #[.string BS] AI R (CB fun t35 AU=>R (.B t35) AU)) (Br (Ac=2) (AF 131 #[.I Be,.I 0] AI R (CB fun t40 AU=>R (.B t40) AU)) (Br (Ac=3) (AF 131 #[.I Bb,.I 1] AI R (CB fun t45 AU=>Bo t45 (AF 131 #[.I Be,.I 0] AU R (CB fun t49 DI=>R (.B t49) DI)) (R (.B false) AU))) (Br (Ac=4) (Br (BO=1) (Br (1≤Ax) (R (.returned (.bool (decide (Ax≤12)))) AI) (R (.B false) AI)) (R (.B false) AI)) (Br (Ac=5) (Br (BO=1) (Br (1≤Ax) (Br (Ax≤5) (Br (BI=0) (R (.B true) AI) (Br (BI=1) (R (.B true) AI) (R (.returned (.bool (decide (BI=2)))) AI))) (R (.B false) AI)) (R (.B false) AI)) (R (.B false) AI)) (Br (Ac=6) (Br (BO=2) (Br (1≤Ax) (Br (Ax≤13) (Br (BI=0) (Bn Bg (R (.B true) AI) (AF 132 #[.I Ax] AI R (CB fun t133 AU=>R (.B t133) AU))) (Br (BI=3) (Bn Bg (R (.B true) AI) (AF 132 #[.I Ax] AI R (CB fun t133 AU=>R (.B t133) AU))) (Br (BI=4) (Bn Bg (R (.B true) AI) (AF 132 #[.I Ax] AI R (CB fun t133 AU=>R (.B t133) AU))) (R (.B false) AI)))) (R (.B false) AI)) (R (.B false) AI)) (R (.B false) AI)) (Br (Ac=7) (R (.returned (.bool (decide (BO=1)))) AI) (R (.B false) AI))))))))) (Br (Ac=1) (AF 130 #[.string BS] AI R (CB fun t35 AU=>R (.B t35) AU)) (Br (Ac=2) (AF 131 #[.I Be,.I 0] AI R (CB fun t40 AU=>R (.B t40) AU)) (Br (Ac=3) (AF 131 #[.I Bb,.I 1] AI R (CB fun t45 AU=>Bo t45 (AF 131 #[.I Be,.I 0] AU R (CB fun t49 DI=>R (.B t49) DI)) (R (.B false) AU))) (Br (Ac=4) (Br (BO=1) (Br (1≤Ax) (R (.returned (.bool (decide (Ax≤12)))) AI) (R (.B false) AI)) (R (.B false) AI)) (Br (Ac=5) (Br (BO=1) (Br (1≤Ax) (Br (Ax≤5) (Br (BI=0) (R (.B true) AI) (Br (BI=1) (R (.B true) AI) (R (.returned (.bool (decide (BI=2)))) AI))) (R (.B false) AI)) (R (.B false) AI)) (R (.B false) AI)) (Br (Ac=6) (Br (BO=2) (Br (1≤Ax) (Br (Ax≤13) (Br (BI=0) (Bn Bg (R (.B true) AI) (AF 132 #[.I Ax] AI R (CB fun t133 AU=>R (.B t133) AU))) (Br (BI=3) (Bn Bg (R (.B true) AI) (AF 132 #[.I Ax] AI R (CB fun t133 AU=>R (.B t133) AU))) (Br (BI=4) (Bn Bg (R (.B true) AI) (AF 132 #[.I Ax] AI R (CB fun t133 AU=>R (.B t133) AU))) (R (.B false) AI)))) (R (.B false) AI)) (R (.B false) AI)) (R (.B false) AI)) (Br (Ac=7) (R (.returned (.bool (decide (BO=1)))) AI) (R (.B false) AI)))))))))))))):Spec prog 77 #[.agg #[.I Ac,.I Ax,.string BS,.slice CJ CC CK,.I Bb,.I Be,.I BI,.slice Bt Bh Bu,.bool Bg,.I BO]] σ R:=M.start h ok
end W0
namespace W1
variable {x0:Int}
def M:Fw:=⟨prog,79,f79,[],[],false,[],[],[]⟩
def ok:M.Ok:=⟨AH.nil,mixed,func79,by kernel_rfl⟩
def start (h:Al σ fun b1=>R (.returned (.func (.func 135) #[] #[(.pointer (aD b1 0))])) (Hp.set σ b1 (.cells #[.I x0] 3 (0,0)))):Spec prog 79 #[.I x0] σ R:=M.start h ok
end W1
namespace CW
variable {x0 x2 x8 x12 DP x9:Int}{p1:Option Addr}{n1 c1:Nat}
def M:Fw:=⟨prog,108,f108,[103,110,114,115,147,150,151],[],false,[(29,9,true)],[],[(8144,[(0,wI),(1,wL),(2,wI),(8,wI),(12,wU),(13,wI)]),(1022,[(12,wU)]),(8147,[(0,wI),(1,wL),(2,wI),(8,wI),(12,wU),(13,wI)]),(61865888,[(1,wL),(8,wI),(9,wI)])]⟩
def ok:M.Ok:=⟨.cons call103 (.cons call110 (.cons call114 (.cons call115 (.cons call147 (.cons call150 (.cons call151 (AH.nil))))))),mixed,func108,by kernel_rfl⟩
def TQ:=M.pt 0
def vq:=M.pt 1
def ou:=M.pt 2
def cB:=M.pt 3
def start (h:Br (x0=4) (AF 110 #[.I 1,.slice p1 n1 c1] σ R (CI .u64 fun II y=>R (.T #[.U II,.bool true]) y)) (Br (x0=5) (AF 110 #[.I 4,.slice p1 n1 c1] σ R (CI .u64 fun JG y=>R (.T #[.U JG,.bool true]) y)) (Br (x0=6) (AF 110 #[.I 2,.slice p1 n1 c1] σ R (CI .u64 fun QN y=>R (.T #[.U QN,.bool true]) y)) (Br (x0=7) (AF 110 #[.I 3,.slice p1 n1 c1] σ R (CI .u64 fun lv y=>R (.T #[.U lv,.bool true]) y)) (Br (x0=8) (AF 110 #[.I 5,.slice p1 n1 c1] σ R (CI .u64 fun NB y=>R (.T #[.U NB,.bool true]) y)) (Br (x0=9) (AG ((n1:Int)-1)∧Pq p1 fun b42 o42=>In (((n1:Int)-1)) (n1:Int)∧LI .u64 σ b42 (o42+Int.toNat ((n1:Int)-1)*1) fun QF=>AF 147 #[.U QF] σ R (fun z y=>∃Vk,(Value.float .f64 Vk)=z∧AF 103 #[(Value.float .f64 Vk)] y R (CI .u64 fun j6 AB=>R (.T #[.U j6,.bool true]) AB))) (Br (x0=10) (cB R p1 n1 c1 (n1:Int) 1 σ) (Br ((n1:Int)<2) (R (.T #[.U 0,.bool false]) σ) (AG ((n1:Int)-1)∧Pq p1 fun vr o73=>In (((n1:Int)-1)) (n1:Int)∧LI .u64 σ vr (o73+Int.toNat ((n1:Int)-1)*1) fun x74=>In 0 (n1:Int)∧LI .u64 σ vr o73 fun x77=>AF 115 #[.I 2,.U x74,.U x77] σ R (CI .u64 fun x78 y=>Br (x0=3) (R (.T #[.U x78,.bool true]) y) (TQ R x0 (aD vr o73) n1 c1 x2 (n1:Int) x78 1 y))))))))))):Spec prog 108 #[.I x0,.slice p1 n1 c1,.I x2] σ R:=M.start h ok
def PL (h:Br (DP<x8) (Pq p1 fun b89 o89=>In DP (n1:Int)∧LI .u64 σ b89 (o89+DP.toNat*1) fun x90=>AG (DP-1)∧In (DP-1) (n1:Int)∧LI .u64 σ b89 (o89+Int.toNat (DP-1)*1) fun x95=>AF 114 #[.I 7,.U x90,.U x95] σ R (CB fun t96 y=>Bo t96 (AG (DP-1)∧In (DP-1) (n1:Int)∧LI .u64 y b89 (o89+Int.toNat (DP-1)*1) fun gX=>AF 115 #[.I 1,.U x12,.U gX] y R (CI .u64 fun gY AB=>ou R x0 (aD b89 o89) n1 c1 x2 x8 gY DP AB)) (ou R x0 (aD b89 o89) n1 c1 x2 x8 x12 DP y))) (Br (x0=1) (AF 151 #[.I x2] σ R (CI .u64 fun AWg y=>AF 115 #[.I 4,.U x12,.U AWg] y R (CI .u64 fun AWh AB=>vq R AWh AB))) (vq R x12 σ))):TQ R x0 p1 n1 c1 x2 x8 x12 DP σ:=M.of h ok rfl
def gZ (h:R (.T #[.U x12,.bool true]) σ):vq R x12 σ:=M.of h ok rfl
def vt (h:AG (DP+1)∧TQ R x0 p1 n1 c1 x2 x8 x12 (DP+1) σ):ou R x0 p1 n1 c1 x2 x8 x12 DP σ:=M.of h ok rfl
def MT (h:AG (2*x9)∧Br (((2*x9):Int)≤x8) (Br (x9<8) (AG (2*x9)∧cB R p1 n1 c1 x8 (2*x9) σ) (AG (x8-x9)∧((0:Int)≤(x8-x9)∧(x8-x9)≤(n1:Int))∧AF 150 #[(.slice (MK p1 (Int.toNat (x8-x9)) c1 1) (n1-Int.toNat (x8-x9)) (c1-Int.toNat (x8-x9)))] σ R (fun z y=>∃ga vu,z=(.tuple #[.U ga,.I vu])∧R (.T #[.U ga,.bool true]) y))) (AG (x8-x9)∧((0:Int)≤(x8-x9)∧(x8-x9)≤(n1:Int))∧AF 150 #[(.slice (MK p1 (Int.toNat (x8-x9)) c1 1) (n1-Int.toNat (x8-x9)) (c1-Int.toNat (x8-x9)))] σ R (fun z y=>∃ga vu,z=(.tuple #[.U ga,.I vu])∧R (.T #[.U ga,.bool true]) y))):cB R p1 n1 c1 x8 x9 σ:=M.of h ok rfl
end CW
namespace Nr
variable {x0:Int}
def M:Fw:=⟨prog,112,f112,[],[],false,[],[],[]⟩
def ok:M.Ok:=⟨AH.nil,mixed,func112,by kernel_rfl⟩
def start (h:Br (5≤x0) (R (.returned (.bool (decide (x0≤10)))) σ) (R (.B false) σ)):Spec prog 112 #[.I x0] σ R:=M.start h ok
end Nr
namespace DW
variable {q0 FZ F2 p2:Option Addr}{Bq BM FD FE Dm EB:Int}{FG:ByteArray}{Fa Fb Fc F3 n2 c2:Nat}{EC:Bool}
def M:Fw:=⟨prog,120,f120,[156],[4,6],false,[],[],[]⟩
def ok:M.Ok:=⟨.cons call156 (AH.nil),mixed,func120,by kernel_rfl⟩
def start (h:∀b4:Nat,∀b6:Nat,AF 156 #[.string FG] σ R (fun z y=>∃gU vi,z=(.tuple #[.U gU,.bool vi])∧R (.T #[.agg #[.I 1,.U gU,.N,.N],.I 0]) y)):Spec prog 120 #[.pointer q0,.agg #[.I Bq,.I BM,.string FG,.slice FZ Fa Fb,.I FD,.I FE,.I Dm,.slice F2 Fc F3,.bool EC,.I EB],.slice p2 n2 c2] σ R:=M.start h ok
end DW
namespace Az
variable {q0 FZ F2 p2 JS LA BC Iz CV Hf gV:Option Addr}{Bq BM FD FE Dm EB BZ BT LC JA LD ME A8 A9 CO CP x17 U6:Int}{FG MF:ByteArray}{Fa Fb Fc F3 n2 c2 JT JU LF LG BD BE I0 I1 CN CR Hg Hh n16 aZ:Nat}{EC MG:Bool}
def M:Fw:=⟨prog,121,f121,[157,158],[4,6,8,10],false,[(7,15,false)],[],[(232,[(0,wQ),(4,.X 44 [.I .i64,.I .i64,.T,.L,.I .i64,.I .i64,.I .i64,.L,.B,.I .i64]),(6,.X 97 [.I .i64,.I .u64,.L,.L]),(8,.X 97 [.I .i64,.I .u64,.L,.L]),(16,wL),(17,wI),(18,wI)]),(935,[(0,wQ),(4,.X 44 [.I .i64,.I .i64,.T,.L,.I .i64,.I .i64,.I .i64,.L,.B,.I .i64]),(6,.X 97 [.I .i64,.I .u64,.L,.L]),(8,.X 97 [.I .i64,.I .u64,.L,.L]),(16,wL),(17,wI),(18,wI)])]⟩
def ok:M.Ok:=⟨.cons call157 (.cons call158 (AH.nil)),mixed,func121,by kernel_rfl⟩
def B4:=M.pt 0
def NK:=M.pt 1
def start (h:∀b4:Nat,∀b6:Nat,∀b8:Nat,Pq q0 fun DO U7=>LS σ DO U7 fun gV n16 aZ=>B4 R (aD DO U7) Bq BM FG FZ Fa Fb FD FE Dm F2 Fc F3 EC EB 0 0 none 0 0 none 0 0 2 0 none 0 0 none 0 0 gV n16 aZ (n16:Int) 0 σ):Spec prog 121 #[.pointer q0,.agg #[.I Bq,.I BM,.string FG,.slice FZ Fa Fb,.I FD,.I FE,.I Dm,.slice F2 Fc F3,.bool EC,.I EB],.slice p2 n2 c2] σ R:=M.start h ok
def Ap (h:Br (U6<x17) (Pq gV fun gb o20=>In U6 (n16:Int)∧∃AIM AIN AIO AM0 AM1 AM2,Ae σ gb (o20+U6.toNat*2) [.slice AIM AIN AIO,.slice AM0 AM1 AM2]∧∀FB:Nat,Pq q0 fun H0 PT=>LI .i64 σ H0 (PT+1) fun Kv=>AG (Kv-JA)∧AG ((Kv-JA)-300)∧LI .i64 σ H0 (PT+1) fun QG=>AG (QG-JA)∧AF 157 #[.slice AM0 AM1 AM2,(.I ((Kv-JA)-300)),(.I (QG-JA))] σ R (CS fun p39 n39 c39 y=>Br ((n39:Int)=0) (NK R (aD H0 PT) BZ BT MF JS JT JU LC JA LD LA LF LG MG ME A8 A9 BC BD BE Iz I0 I1 CO CP CV CN CR Hf Hg Hh (aD gb o20) n16 aZ x17 U6 y) (AG ((n39:Int)-1)∧Pq p39 fun I9 aV=>In (((n39:Int)-1)) (n39:Int)∧LI .u64 y I9 ((aV+Int.toNat ((n39:Int)-1)*2)+1) fun x50=>Br (x50=9218868437227405314) (NK R (aD H0 PT) BZ BT MF JS JT JU LC JA LD LA LF LG MG ME A8 A9 BC BD BE Iz I0 I1 CO CP CV CN CR Hf Hg Hh (aD gb o20) n16 aZ x17 U6 y) (AF 158 #[.slice JS JT JU,.slice AIM AIN AIO] y R (CB fun t58 AB=>Bn t58 (NK R (aD H0 PT) BZ BT MF JS JT JU LC JA LD LA LF LG MG ME A8 A9 BC BD BE Iz I0 I1 CO CP CV CN CR Hf Hg Hh (aD gb o20) n16 aZ x17 U6 AB) (AG ((n39:Int)-1)∧In (((n39:Int)-1)) (n39:Int)∧LI .u64 AB I9 ((aV+Int.toNat ((n39:Int)-1)*2)+1) fun x71=>Al AB fun vr=>AK prog (E3 54 CV CN CR vr) (Hp.set AB vr (.cells #[.slice AIM AIN AIO,.U x71] 59 (0,0))) (CS fun p74 n74 c74 AI=>NK R (aD H0 PT) BZ BT MF JS JT JU LC JA LD LA LF LG MG ME A8 A9 BC BD BE Iz I0 I1 CO CP p74 n74 c74 Hf Hg Hh (aD gb o20) n16 aZ x17 U6 AI))))))) (R (.T #[.agg #[.I CO,.U CP,.slice CV CN CR,.slice Hf Hg Hh],.I 0]) σ)):B4 R q0 BZ BT MF JS JT JU LC JA LD LA LF LG MG ME A8 A9 BC BD BE Iz I0 I1 CO CP CV CN CR Hf Hg Hh gV n16 aZ x17 U6 σ:=M.ZP h ok rfl fun _ _ _=>by kernel_rfl
def Mh (h:AG (U6+1)∧B4 R q0 BZ BT MF JS JT JU LC JA LD LA LF LG MG ME A8 A9 BC BD BE Iz I0 I1 CO CP CV CN CR Hf Hg Hh gV n16 aZ x17 (U6+1) σ):NK R q0 BZ BT MF JS JT JU LC JA LD LA LF LG MG ME A8 A9 BC BD BE Iz I0 I1 CO CP CV CN CR Hf Hg Hh gV n16 aZ x17 U6 σ:=M.ZP h ok rfl fun _ _ _=>by kernel_rfl
end Az
namespace W2
variable {s0:ByteArray}
def M:Fw:=⟨prog,130,f130,[179,180],[],false,[],[],[]⟩
def ok:M.Ok:=⟨.cons call179 (.cons call180 (AH.nil)),mixed,func130,by kernel_rfl⟩
def start (h:AF 179 #[.string s0] σ R (CI .i64 fun x6 y=>Br (x6=0) (R (.B false) y) (∃s12,YF prog (Instr.sliceAt 9 (.string s0) none (some (.I x6)) none) y (.string s12)∧AF 180 #[.string s12] y R (CB fun t13 AB=>Bo t13 (R (.B false) AB) (Br (x6=(s0.size:Int)) (R (.returned (.bool (decide (x6≤15)))) AB) (AG (x6+1)∧∃s24,YF prog (Instr.sliceAt 9 (.string s0) (some (.I (x6+1))) none none) AB (.string s24)∧AF 179 #[.string s24] AB R (CI .i64 fun Kz AI=>∃u28:UInt8,0≤x6∧(ByteArray.data s0)[x6.toNat]?=some u28∧Br (((u28.toNat:Int):Int)=46) (Br (0<Kz) (AG (x6+1)∧AG ((x6+1)+Kz)∧Br ((((x6+1)+Kz):Int)=(s0.size:Int)) (AG (x6+Kz)∧R (.returned (.bool (decide (((x6+Kz):Int)≤15)))) AI) (R (.B false) AI)) (R (.B false) AI)) (R (.B false) AI)))))))):Spec prog 130 #[.string s0] σ R:=M.start h ok
end W2
namespace W3
variable {x0 x1:Int}
def M:Fw:=⟨prog,131,f131,[],[],false,[],[],[]⟩
def ok:M.Ok:=⟨AH.nil,mixed,func131,by kernel_rfl⟩
def start (h:Br (x1≤x0) (R (.returned (.bool (decide (x0<2147483648)))) σ) (R (.B false) σ)):Spec prog 131 #[.I x0,.I x1] σ R:=M.start h ok
end W3
namespace QO
variable {x0 x1 x2:Int}
def M:Fw:=⟨prog,152,f152,[147],[],false,[],[],[]⟩
def ok:M.Ok:=⟨.cons call147 (AH.nil),mixed,func152,by kernel_rfl⟩
def start (h:AF 147 #[.U x1] σ R (fun z y=>∃x11,(Value.float .f64 x11)=z∧AF 147 #[.U x2] y R (fun z AB=>∃DP,(Value.float .f64 DP)=z∧Br (x0=5) (∃t19,YF prog ((do eqGuard .eql 73 (.tmp 17) (.tmp 18) (Value.float .f64 x11) (Value.float .f64 DP);binOp .eql 73 (Value.float .f64 x11) (Value.float .f64 DP))) AB (.bool t19)∧R (.T #[.bool t19,.bool true]) AB) (Br (x0=6) (∃t24,YF prog ((do eqGuard .neq 73 (.tmp 22) (.tmp 23) (Value.float .f64 x11) (Value.float .f64 DP);binOp .neq 73 (Value.float .f64 x11) (Value.float .f64 DP))) AB (.bool t24)∧R (.T #[.bool t24,.bool true]) AB) (Br (x0=7) (∃t29,YF prog ((do eqGuard .lss 73 (.tmp 27) (.tmp 28) (Value.float .f64 x11) (Value.float .f64 DP);binOp .lss 73 (Value.float .f64 x11) (Value.float .f64 DP))) AB (.bool t29)∧R (.T #[.bool t29,.bool true]) AB) (Br (x0=8) (∃t34,YF prog ((do eqGuard .leq 73 (.tmp 32) (.tmp 33) (Value.float .f64 x11) (Value.float .f64 DP);binOp .leq 73 (Value.float .f64 x11) (Value.float .f64 DP))) AB (.bool t34)∧R (.T #[.bool t34,.bool true]) AB) (Br (x0=9) (∃t39,YF prog ((do eqGuard .gtr 73 (.tmp 37) (.tmp 38) (Value.float .f64 x11) (Value.float .f64 DP);binOp .gtr 73 (Value.float .f64 x11) (Value.float .f64 DP))) AB (.bool t39)∧R (.T #[.bool t39,.bool true]) AB) (Br (x0=10) (∃t44,YF prog ((do eqGuard .geq 73 (.tmp 42) (.tmp 43) (Value.float .f64 x11) (Value.float .f64 DP);binOp .geq 73 (Value.float .f64 x11) (Value.float .f64 DP))) AB (.bool t44)∧R (.T #[.bool t44,.bool true]) AB) (R (.T #[.bool false,.bool false]) AB))))))))):Spec prog 152 #[.I x0,.U x1,.U x2] σ R:=M.start h ok
end QO
namespace FN
variable {Ac Ax Bb Be BI BO Bf A4 Cp CZ Cu Cv x7 x8:Int}{BS Cy:ByteArray}{CJ Bt p1 p2 Cq Cz:Option Addr}{CC CK Bh Bu n1 c1 n2 c2 Cr Cs C1 C2:Nat}{Bg DQ:Bool}
def M:Fw:=⟨prog,154,f154,[44,155],[3],false,[],[],[(464,[(1,wL),(2,wL),(3,.X 44 [.I .i64,.I .i64,.T,.L,.I .i64,.I .i64,.I .i64,.L,.B,.I .i64]),(7,wI),(8,wI)]),(467,[(1,wL),(2,wL),(3,.X 44 [.I .i64,.I .i64,.T,.L,.I .i64,.I .i64,.I .i64,.L,.B,.I .i64]),(7,wI),(8,wI)])]⟩
def ok:M.Ok:=⟨.cons call44 (.cons call155 (AH.nil)),mixed,func154,by kernel_rfl⟩
def Ab:=M.pt 0
def Hz:=M.pt 1
def start (h:∀b3:Nat,Ab R p1 n1 c1 p2 n2 c2 Ac Ax BS CJ CC CK Bb Be BI Bt Bh Bu Bg BO (-1) 0 σ):Spec prog 154 #[.agg #[.I Ac,.I Ax,.string BS,.slice CJ CC CK,.I Bb,.I Be,.I BI,.slice Bt Bh Bu,.bool Bg,.I BO],.slice p1 n1 c1,.slice p2 n2 c2] σ R:=M.start h ok
def AO (h:Br (x8<(n1:Int)) (Pq p1 fun KL MV=>In x8 (n1:Int)∧LS σ KL (MV+x8.toNat*2) fun p20 n20 c20=>AF 155 #[.agg #[.I Bf,.I A4,.string Cy,.slice Cq Cr Cs,.I Cp,.I CZ,.I Cu,.slice Cz C1 C2,.bool DQ,.I Cv],.slice p20 n20 c20] σ R (CS fun RW n21 Pp y=>AF 44 #[.slice RW n21 Pp,.slice p2 n2 c2] y R (CI .i64 fun GC AB=>Br (GC=0) (Br (0≤x7) (R (.returned (.I (-2))) AB) (Hz R (aD KL MV) n1 c1 p2 n2 c2 Bf A4 Cy Cq Cr Cs Cp CZ Cu Cz C1 C2 DQ Cv x8 x8 AB)) (Hz R (aD KL MV) n1 c1 p2 n2 c2 Bf A4 Cy Cq Cr Cs Cp CZ Cu Cz C1 C2 DQ Cv x7 x8 AB)))) (R (.returned (.I x7)) σ)):Ab R p1 n1 c1 p2 n2 c2 Bf A4 Cy Cq Cr Cs Cp CZ Cu Cz C1 C2 DQ Cv x7 x8 σ:=M.fy h ok rfl fun _=>by kernel_rfl
def Ff (h:AG (x8+1)∧Ab R p1 n1 c1 p2 n2 c2 Bf A4 Cy Cq Cr Cs Cp CZ Cu Cz C1 C2 DQ Cv x7 (x8+1) σ):Hz R p1 n1 c1 p2 n2 c2 Bf A4 Cy Cq Cr Cs Cp CZ Cu Cz C1 C2 DQ Cv x7 x8 σ:=M.fy h ok rfl fun _=>by kernel_rfl
end FN
namespace UO
variable {x0:Int}
def M:Fw:=⟨prog,178,f178,[201],[],false,[],[],[]⟩
def ok:M.Ok:=⟨.cons call201 (AH.nil),mixed,func178,by kernel_rfl⟩
def start (h:Df (Go.bits .xor .u64 x0 9223372036854775808) fun x4=>AF 201 #[.U x4] σ R (CI .u64 fun x5 y=>R (.returned (.U x5)) y)):Spec prog 178 #[.U x0] σ R:=M.start h ok
end UO
namespace Jk
variable {s0:ByteArray}{x3:Int}
def M:Fw:=⟨prog,179,f179,[223],[],false,[],[],[(224,[(0,wT),(3,wI)])]⟩
def ok:M.Ok:=⟨.cons call223 (AH.nil),mixed,func179,by kernel_rfl⟩
def Fm:=M.pt 0
def start (h:Fm R s0 0 σ):Spec prog 179 #[.string s0] σ R:=M.start h ok
def As (h:Br (x3<(s0.size:Int)) (∃u11:UInt8,0≤x3∧(ByteArray.data s0)[x3.toNat]?=some u11∧AF 223 #[(.int .u8 (u11.toNat:Int))] σ R (CB fun t12 y=>Bo t12 (AG (x3+1)∧Fm R s0 (x3+1) y) (R (.returned (.I x3)) y))) (R (.returned (.I x3)) σ)):Fm R s0 x3 σ:=M.of h ok rfl
end Jk
namespace Cd
variable {p0 p6 p7:Option Addr}{n0 c0 n6 c6 n7 c7:Nat}{x5 x8 x11:Int}{v9 v10:Value}
def M:Fw:=⟨prog,187,f187,[103,147,227],[],false,[],[],[(2000,[(0,wL),(5,wI),(6,wL),(7,wL),(8,wI)]),(512592,[(0,wL),(5,wI),(6,wL),(7,wL),(8,wI),(9,wV),(10,wV),(11,wI)])]⟩
def ok:M.Ok:=⟨.cons call103 (.cons call147 (.cons call227 (AH.nil))),mixed,func187,by kernel_rfl⟩
def Ns:=M.pt 0
def ACJ:=M.pt 1
def start (h:Br ((n0:Int)≠1) (Br ((n0:Int)≠2) (Br ((n0:Int)≠4) (Br ((n0:Int)≠8) (R (.T #[.N,.N,.I 210]) σ) (Ns R p0 n0 c0 (n0:Int) none 0 0 none 0 0 0 σ)) (Ns R p0 n0 c0 (n0:Int) none 0 0 none 0 0 0 σ)) (Ns R p0 n0 c0 (n0:Int) none 0 0 none 0 0 0 σ)) (Ns R p0 n0 c0 (n0:Int) none 0 0 none 0 0 0 σ)):Spec prog 187 #[.slice p0 n0 c0] σ R:=M.start h ok
def KM (h:Br (x8<x5) (ACJ R p0 n0 c0 x5 p6 n6 c6 p7 n7 c7 x8 (.float .f64 0) (.float .f64 0) 0 σ) (R (.T #[.slice p6 n6 c6,.slice p7 n7 c7,.I 0]) σ)):Ns R p0 n0 c0 x5 p6 n6 c6 p7 n7 c7 x8 σ:=M.of h ok rfl
def ov (h:Br (x11<x5) (AG (x8*x11)∧x5≠(0:Int)∧Df (Int.tmod (x8*x11) x5) fun cL=>AF 227 #[.I x5,.I cL] σ R (fun z y=>∃AM8 AM9,z=(.tuple #[AM8,AM9])∧Pq p0 fun Q1 o53=>In x11 (n0:Int)∧LI .u64 y Q1 (o53+x11.toNat*1) fun x54=>AF 147 #[.U x54] y R (fun z AB=>∃x55,(Value.float .f64 x55)=z∧AK prog (binOp .mul 73 (Value.float .f64 x55) AM8) AB (fun z AI=>∃x57,(Value.float .f64 x57)=z∧AK prog (binOp .add 73 v9 (Value.float .f64 x57)) AI (fun z AU=>∃x58,(Value.float .f64 x58)=z∧In x11 (n0:Int)∧LI .u64 AU Q1 (o53+x11.toNat*1) fun JR=>AF 147 #[.U JR] AU R (fun z DI=>∃j7,(Value.float .f64 j7)=z∧AK prog (binOp .mul 73 (Value.float .f64 j7) AM9) DI (fun z Gi=>∃rk,(Value.float .f64 rk)=z∧AK prog (binOp .add 73 v10 (Value.float .f64 rk)) Gi (fun z Pn=>∃eZ,(Value.float .f64 eZ)=z∧AG (x11+1)∧ACJ R (aD Q1 o53) n0 c0 x5 p6 n6 c6 p7 n7 c7 x8 (Value.float .f64 x58) (Value.float .f64 eZ) (x11+1) Pn)))))))) (AF 103 #[v9] σ R (CI .u64 fun va y=>Al y fun U0=>AK prog (E3 163 p6 n6 c6 U0) (Hp.set y U0 (.cells #[.U va] 57 (0,0))) (CS fun p72 n72 c72 AB=>AF 103 #[v10] AB R (CI .u64 fun x75 AI=>Al AI fun b76=>AK prog (E3 163 p7 n7 c7 b76) (Hp.set AI b76 (.cells #[.U x75] 57 (0,0))) (CS fun vk vm vo AU=>AG (x8+1)∧Ns R p0 n0 c0 x5 p72 n72 c72 vk vm vo (x8+1) AU)))))):ACJ R p0 n0 c0 x5 p6 n6 c6 p7 n7 c7 x8 v9 v10 x11 σ:=M.of h ok rfl
end Cd
namespace ow
variable {v0:Value}
def M:Fw:=⟨prog,190,f190,[224],[],false,[],[],[]⟩
def ok:M.Ok:=⟨.cons call224 (AH.nil),mixed,func190,by kernel_rfl⟩
def start (h:AF 224 #[v0] σ R (CB fun t4 y=>Bo t4 (R (.returned (.U 9221120237041090560)) y) (EN prog 53 #[v0] y (CI .u64 fun x6 AB=>R (.returned (.U x6)) AB)))):Spec prog 190 #[v0] σ R:=M.HF h ok [(0,.o (.V v0))] rfl rfl (by kernel_rfl)
end ow
namespace EL
variable {p0 p5 p8:Option Addr}{n0 c0 n5 c5 n8 c8:Nat}{v1:Value}{x9 x10:Int}
def M:Fw:=⟨prog,212,f212,[],[7],false,[],[],[(232,[(1,wV),(5,wL),(8,wL),(9,wI),(10,wI)]),(935,[(1,wV),(5,wL),(8,wL),(9,wI),(10,wI)])]⟩
def ok:M.Ok:=⟨AH.nil,mixed,func212,by kernel_rfl⟩
def B4:=M.pt 0
def TX:=M.pt 1
def start (h:B4 R v1 none 0 0 p0 n0 c0 (n0:Int) 0 σ):Spec prog 212 #[.slice p0 n0 c0,v1] σ R:=M.HF h ok [(0,.o (.L p0 n0 c0)),(1,.o (.V v1))] rfl rfl (by kernel_rfl)
def Ap (h:Br (x10<x9) (Pq p8 fun Dd TY=>In x10 (n8:Int)∧∃AIP rl,Ae σ Dd (TY+x10.toNat*2) [.string AIP,.string rl]∧∀b7:Nat,∃(f16:Nat) (AEr AEs:Array Value),v1=.func (.func f16) AEr AEs∧Enters prog f16∧Spec prog f16 (AEr++#[.agg #[.string AIP,.string rl]]++AEs) σ (BB R (CB fun t16 y=>Bo t16 (Al y fun Dl=>AK prog (E3 47 p5 n5 c5 Dl) (Hp.set y Dl (.cells #[.string AIP,.string rl] 71 (0,0))) (CS fun p20 n20 c20 AB=>TX R v1 p20 n20 c20 (aD Dd TY) n8 c8 x9 x10 AB)) (TX R v1 p5 n5 c5 (aD Dd TY) n8 c8 x9 x10 y)))) (R (.returned (.slice p5 n5 c5)) σ)):B4 R v1 p5 n5 c5 p8 n8 c8 x9 x10 σ:=M.of h ok rfl
def Mi (h:AG (x10+1)∧B4 R v1 p5 n5 c5 p8 n8 c8 x9 (x10+1) σ):TX R v1 p5 n5 c5 p8 n8 c8 x9 x10 σ:=M.of h ok rfl
end EL
namespace NC
variable {s0a j5:ByteArray}{b1:Nat}
def M:Fw:=⟨prog,215,f215,[214],[2],false,[],[],[]⟩
def ok:M.Ok:=⟨.cons call214 (AH.nil),mixed,func215,by kernel_rfl⟩
def start (h:∀b2:Nat,LS σ b1 0 fun p4 n4 c4=>AF 214 #[.slice p4 n4 c4,.string s0a] σ R (CB fun t7 y=>R (.returned (.bool (!t7))) y)):Spec prog 215 #[.agg #[.string s0a,.string j5],(.pointer (aD b1 0))] σ R:=M.start h ok
end NC
namespace W4
variable {x0 x1 x2:Int}
def M:Fw:=⟨prog,218,f218,[190,198],[],false,[],[],[]⟩
def ok:M.Ok:=⟨.cons call190 (.cons call198 (AH.nil)),mixed,func218,by kernel_rfl⟩
def start (h:AF 198 #[.U x1] σ R (fun z y=>∃x11,(Value.float .f64 x11)=z∧AF 198 #[.U x2] y R (fun z AB=>∃DP,(Value.float .f64 DP)=z∧Br (x0=1) (AK prog (binOp .add 73 (Value.float .f64 x11) (Value.float .f64 DP)) AB (fun z AI=>∃FV,(Value.float .f64 FV)=z∧AF 190 #[(Value.float .f64 FV)] AI R (CI .u64 fun II AU=>R (.T #[.U II,.bool true]) AU))) (Br (x0=2) (AK prog (binOp .sub 73 (Value.float .f64 x11) (Value.float .f64 DP)) AB (fun z AI=>∃Kz,(Value.float .f64 Kz)=z∧AF 190 #[(Value.float .f64 Kz)] AI R (CI .u64 fun eb AU=>R (.T #[.U eb,.bool true]) AU))) (Br (x0=3) (AK prog (binOp .mul 73 (Value.float .f64 x11) (Value.float .f64 DP)) AB (fun z AI=>∃W5,(Value.float .f64 W5)=z∧AF 190 #[(Value.float .f64 W5)] AI R (CI .u64 fun lv AU=>R (.T #[.U lv,.bool true]) AU))) (Br (x0=4) (AK prog (binOp .quo 73 (Value.float .f64 x11) (Value.float .f64 DP)) AB (fun z AI=>∃Ss,(Value.float .f64 Ss)=z∧AF 190 #[(Value.float .f64 Ss)] AI R (CI .u64 fun x38 AU=>R (.T #[.U x38,.bool true]) AU))) (R (.T #[.U 0,.bool false]) AB))))))):Spec prog 218 #[.I x0,.U x1,.U x2] σ R:=M.start h ok
end W4
namespace W6
variable {t0:Bool}
def M:Fw:=⟨prog,220,f220,[159],[],false,[],[],[]⟩
def ok:M.Ok:=⟨.cons call159 (AH.nil),mixed,func220,by kernel_rfl⟩
def start (h:Bo t0 (AF 159 #[.I 1] σ R (CI .u64 fun x4 y=>R (.returned (.U x4)) y)) (AF 159 #[.I 0] σ R (CI .u64 fun x5 y=>R (.returned (.U x5)) y))):Spec prog 220 #[.bool t0] σ R:=M.start h ok
end W6
namespace Ex
variable {s0:ByteArray}{x1:Int}
def M:Fw:=⟨prog,229,f229,[244],[],false,[],[],[]⟩
def ok:M.Ok:=⟨.cons call244 (AH.nil),mixed,func229,by kernel_rfl⟩
def start (h:AF 244 #[.string s0,.I x1] σ R (fun z y=>∃ANC vw AND,z=(.tuple #[ANC,.I vw,AND])∧Br (vw≠(s0.size:Int)) (R (.T #[.float .f64 0,(.iface 268 (.I 2))]) y) (R (.T #[ANC,AND]) y))):Spec prog 229 #[.string s0,.I x1] σ R:=M.start h ok
end Ex
namespace HK
variable {ZY:Option Addr}{QH Wn:Nat}{j5 s1:ByteArray}
def M:Fw:=⟨prog,231,f231,[],[2],false,[],[],[]⟩
def ok:M.Ok:=⟨AH.nil,mixed,func231,by kernel_rfl⟩
def start (h:∀b2:Nat,R (.returned (.bool (ByteArray.toList s1==ByteArray.toList j5))) σ):Spec prog 231 #[.agg #[.slice ZY QH Wn,.string j5],.string s1] σ R:=M.start h ok
end HK
namespace W7
variable {p0:Option Addr}{n0 c0:Nat}
def M:Fw:=⟨prog,237,f237,[190,251,252],[],false,[],[],[]⟩
def ok:M.Ok:=⟨.cons call190 (.cons call251 (.cons call252 (AH.nil))),mixed,func237,by kernel_rfl⟩
def start (h:AF 251 #[(.I (n0:Int))] σ R (CB fun t7 y=>Bn t7 (R (.T #[.U 0,.I 210]) y) ((n0:Int)≠(0:Int)∧Df (Int.tmod 1 (n0:Int)) fun x12=>AF 252 #[.slice p0 n0 c0,.I x12] y R (fun z AB=>∃DP y13,(Value.complex .f64 DP y13)=z∧∃x15,YF prog (Builtin.real_ #[273] 73 #[(Value.complex .f64 DP y13)]) AB (Value.float .f64 x15)∧∃x17,YF prog (Builtin.real_ #[273] 73 #[(Value.complex .f64 DP y13)]) AB (Value.float .f64 x17)∧AK prog (binOp .mul 73 (Value.float .f64 x15) (Value.float .f64 x17)) AB (fun z AI=>∃U6,(Value.float .f64 U6)=z∧∃II,YF prog (Builtin.imag_ #[273] 73 #[(Value.complex .f64 DP y13)]) AI (Value.float .f64 II)∧∃MH,YF prog (Builtin.imag_ #[273] 73 #[(Value.complex .f64 DP y13)]) AI (Value.float .f64 MH)∧AK prog (binOp .mul 73 (Value.float .f64 II) (Value.float .f64 MH)) AI (fun z AU=>∃GC,(Value.float .f64 GC)=z∧AK prog (binOp .add 73 (Value.float .f64 U6) (Value.float .f64 GC)) AU (fun z DI=>∃JG,(Value.float .f64 JG)=z∧AF 190 #[(Value.float .f64 JG)] DI R (CI .u64 fun Kz Gi=>R (.T #[.U Kz,.I 0]) Gi)))))))):Spec prog 237 #[.slice p0 n0 c0] σ R:=M.start h ok
end W7
namespace Cn
variable {x0 x1:Int}{t2 t7:Bool}{v6:Value}
def M:Fw:=⟨prog,287,f287,[],[],false,[],[],[(248,[(1,wI),(6,wV),(7,wB)]),(15988,[(1,wI),(6,wV),(7,wB)])]⟩
def ok:M.Ok:=⟨AH.nil,mixed,func287,by kernel_rfl⟩
def gS:=M.pt 0
def F7:=M.pt 1
def start (h:LI .u64 σ 6 0 fun x10=>(0≤x10∧x10≤((IntKind.bits .u64:Nat):Int))∧Df (x0/2^x10.toNat) fun x11=>Br (x11≠0) (R (.T #[.float .f64 0,.bool false]) σ) (AK prog (convert 57 73 (.U x0)) σ (fun z y=>∃NA,(Value.float .f64 NA)=z∧Bo t2 (∃x17,YF prog (Op.unary .neg (Value.float .f64 NA)) y (Value.float .f64 x17)∧gS R x1 (Value.float .f64 x17) false y) (gS R x1 (Value.float .f64 NA) false y)))):Spec prog 287 #[.U x0,.I x1,.bool t2] σ R:=M.start h ok
def Vj (h:Br (x1=0) (R (.T #[v6,.bool true]) σ) (Br (0<x1) (Br (x1≤37) (Br (22<x1) (LS σ 9 0 fun p32 n32 c32=>AG (x1-22)∧Pq p32 fun b35 o35=>In (x1-22) (n32:Int)∧∃NB,Hp.ld σ ⟨b35,(o35+Int.toNat (x1-22)*1),none⟩=some (Value.float .f64 NB)∧AK prog (binOp .mul 73 v6 (Value.float .f64 NB)) σ (fun z y=>∃Ss,(Value.float .f64 Ss)=z∧F7 R 22 (Value.float .f64 Ss) t7 y)) (F7 R x1 v6 t7 σ)) (Br (x1<0) (Br (((-22):Int)≤x1) (LS σ 9 0 fun Uy Uz Wi=>Df (IntKind.i64.wrap (0-x1)) fun lU=>Pq Uy fun b61 o61=>In lU (Uz:Int)∧∃gO,Hp.ld σ ⟨b61,(o61+lU.toNat*1),none⟩=some (Value.float .f64 gO)∧AK prog (binOp .quo 73 v6 (Value.float .f64 gO)) σ (fun z y=>∃JR,(Value.float .f64 JR)=z∧R (.T #[(Value.float .f64 JR),.bool true]) y)) (R (.T #[v6,.bool t7]) σ)) (R (.T #[v6,.bool t7]) σ))) (Br (x1<0) (Br (((-22):Int)≤x1) (LS σ 9 0 fun Uy Uz Wi=>Df (IntKind.i64.wrap (0-x1)) fun lU=>Pq Uy fun b61 o61=>In lU (Uz:Int)∧∃gO,Hp.ld σ ⟨b61,(o61+lU.toNat*1),none⟩=some (Value.float .f64 gO)∧AK prog (binOp .quo 73 v6 (Value.float .f64 gO)) σ (fun z y=>∃JR,(Value.float .f64 JR)=z∧R (.T #[(Value.float .f64 JR),.bool true]) y)) (R (.T #[v6,.bool t7]) σ)) (R (.T #[v6,.bool t7]) σ)))):gS R x1 v6 t7 σ:=M.of h ok rfl
end Cn
namespace HL
variable {x0:Int}
def M:Fw:=⟨prog,300,f300,[],[],false,[],[],[]⟩
def ok:M.Ok:=⟨AH.nil,mixed,func300,by kernel_rfl⟩
def start (h:Df (Go.bits .or .u8 x0 32) fun x4=>R (.returned (.int .u8 x4)) σ):Spec prog 300 #[.int .u8 x0] σ R:=M.start h ok
end HL
namespace Dq
variable {s0 s1:ByteArray}
def M:Fw:=⟨prog,314,f314,[],[],false,[],[],[]⟩
def ok:M.Ok:=⟨AH.nil,mixed,func314,by kernel_rfl⟩
def start (h:Br (((s1.size:Int):Int)≤(s0.size:Int)) (AG ((s0.size:Int)-(s1.size:Int))∧∃s17,YF prog (Instr.sliceAt 9 (.string s0) (some (.I ((s0.size:Int)-(s1.size:Int)))) none none) σ (.string s17)∧R (.returned (.bool (ByteArray.toList s17==ByteArray.toList s1))) σ) (R (.B false) σ)):Spec prog 314 #[.string s0,.string s1] σ R:=M.start h ok
end Dq
end TwW
end
end
