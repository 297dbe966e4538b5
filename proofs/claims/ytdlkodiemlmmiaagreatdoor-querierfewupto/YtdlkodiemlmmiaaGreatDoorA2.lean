/-
  Part 2 of the proof that the law QuerierFewUptoCardSaid of the given program answers true for every input of the given statement; the input reads behind the call as it did. (The texts: packed from 9 texts. Names are shortened by the packing program, for the bound on size.)
-/
import Derived.Test.YtdlkodiemlmmiaaGreatDoorA1
set_option linter.all false
section
namespace Tw
open Go
variable [Ez]
structure Vl.Le (v w:Vl):Prop where
 le:v.le w
 ln:v.ρ.length≤w.ρ.length∧v.β.length≤w.β.length∧v.δ.length≤w.δ.length
theorem Vl.Le.refl (v:Vl):v.Le v:=⟨.refl v,Abo _,Abo _,Abo _⟩
theorem Vl.Le.trans {u v w:Vl}(h:u.Le v)(g:v.Le w):u.Le w:=⟨h.le.trans g.le h.ln,by have:=h.ln;have:=g.ln;omega⟩
theorem Vl.ke (v:Vl)(p:Option Addr):v.Le (v.rq p):=⟨v.yV p,by simp[Vl.rq]⟩
theorem Vl.kg (v:Vl)(k:BK):v.Le (v.gj k):=⟨v.kZ k,by simp[Vl.gj]⟩
def exA (P:Program)(t:TypeId)(vl:Vl)(k:Bs→Vl→Prop):Prop:=match P.underlying t with
 | some (.int kd)=>∃x:Int,k (.int kd x) vl
 | some .bool=>∃b:Bool,k (.bs vl.β.length false) (vl.gj (.var b))
 | some (.slice _)=>∃p:Option Addr,∃n:Nat,∃c:Nat,k (.sl (.var vl.ρ.length) n c) (vl.rq p)
 | some .string=>∃w:ByteArray,k (.str w) vl
 | some (.pointer _)=>∃q:Option Addr,k (.pt (.var vl.ρ.length)) (vl.rq q)
 | some (.map _ _)=>∃m:Option Nat,k (.mp m) vl
 | _=>∃v:Value,k (.raw v) vl
def AD2 (P:Program):List TypeId→Vl→(List Bs→Vl→Prop)→Prop
 | [],vl,k=>k [] vl
 | t::l,vl,k=>exA P t vl fun a vl=>AD2 P l vl fun r vl=>k (a::r) vl
def rz (P:Program):Nat→TypeId→List TypeId
 | 0,t=>[t]
 | f+1,t=>match P.underlying t with
  | some (.struct fs)=>(fs.toList.map fun fd=>rz P f fd.type).flatten
  | some (.array n e)=>(List.replicate n (rz P f e)).flatten
  | _=>[t]
def small (P:Program)(t:TypeId):Bool:=match bc P t,bZ P t with
 | some true,some n=>Nat.ble n 24
 | _,_=>false
def xh (P:Program)(t:TypeId)(vl:Vl)(k:HG→Vl→Prop):Prop:=match small P t with
 | true=>AD2 P (rz P 40 t) vl fun l vl=>k (.agg l) vl
 | false=>exA P t vl fun a vl=>k (.a a) vl
def AD3 (P:Program):List TypeId→Vl→(List HG→Vl→Prop)→Prop
 | [],vl,k=>k [] vl
 | t::l,vl,k=>xh P t vl fun a vl=>AD3 P l vl fun r vl=>k (a::r) vl
def exV (P:Program)(t:TypeId)(vl:Vl)(k:SV→Vl→Prop):Prop:=match P.underlying t with
 | some (.tuple ts)=>AD3 P ts.toList vl fun l vl=>k (.W7 l) vl
 | some (.float d)=>∃x:Nat,k (.v (.a (.raw (.float d x)))) vl
 | some (.complex d)=>∃x:Nat,∃y:Nat,k (.v (.a (.raw (.complex d x y)))) vl
 | _=>xh P t vl fun a vl=>k (.v a) vl
def WU (P:Program)(t:TypeId)(vl:Vl)(k:SV→Vl→Prop):Prop:=match P.underlying t with
 | some (.func _ _ _)=>∃f:Fn,∃a:Array Value,∃c:Array Value,k (.v (.a (.raw (.func f a c)))) vl
 | _=>exV P t vl k
section
variable {P:Program}
theorem XH {t:TypeId}{vl:Vl}{k:Bs→Vl→Prop}(h:exA P t vl k):∃a w,vl.Le w∧k a w:=by
 unfold exA at h;split at h
 ·obtain⟨x,h⟩:=h;exact⟨_,_,.refl _,h⟩
 ·obtain⟨x,h⟩:=h;exact⟨_,_,Vl.kg _ _,h⟩
 ·obtain⟨p,n,c,h⟩:=h;exact⟨_,_,Vl.ke _ _,h⟩
 ·obtain⟨x,h⟩:=h;exact⟨_,_,.refl _,h⟩
 ·obtain⟨x,h⟩:=h;exact⟨_,_,Vl.ke _ _,h⟩
 ·obtain⟨x,h⟩:=h;exact⟨_,_,.refl _,h⟩
 ·obtain⟨x,h⟩:=h;exact⟨_,_,.refl _,h⟩
theorem Tz:∀{l:List TypeId} {vl:Vl} {k:List Bs→Vl→Prop},AD2 P l vl k→∃a w,vl.Le w∧k a w
 | [],vl,k,h=>⟨_,_,.refl _,h⟩
 | t::l,vl,k,h=>by
  obtain⟨a,w,h1,h⟩:=XH h;obtain⟨r,w2,h2,h⟩:=Tz h;exact⟨_,_,h1.trans h2,h⟩
theorem Eg {t:TypeId}{vl:Vl}{k:HG→Vl→Prop}(h:xh P t vl k):∃a w,vl.Le w∧k a w:=by
 unfold xh at h;split at h
 ·obtain⟨a,w,h1,h⟩:=Tz h;exact⟨_,_,h1,h⟩
 ·obtain⟨a,w,h1,h⟩:=XH h;exact⟨_,_,h1,h⟩
theorem T0:∀{l:List TypeId} {vl:Vl} {k:List HG→Vl→Prop},AD3 P l vl k→∃a w,vl.Le w∧k a w
 | [],vl,k,h=>⟨_,_,.refl _,h⟩
 | t::l,vl,k,h=>by
  obtain⟨a,w,h1,h⟩:=Eg h;obtain⟨r,w2,h2,h⟩:=T0 h;exact⟨_,_,h1.trans h2,h⟩
theorem XI {t:TypeId}{vl:Vl}{k:SV→Vl→Prop}(h:exV P t vl k):∃a w,vl.Le w∧k a w:=by
 unfold exV at h;split at h
 ·obtain⟨a,w,h1,h⟩:=T0 h;exact⟨_,_,h1,h⟩
 ·obtain⟨x,h⟩:=h;exact⟨_,_,.refl _,h⟩
 ·obtain⟨x,y,h⟩:=h;exact⟨_,_,.refl _,h⟩
 ·obtain⟨a,w,h1,h⟩:=Eg h;exact⟨_,_,h1,h⟩
theorem mz {t:TypeId}{vl:Vl}{k:SV→Vl→Prop}(h:WU P t vl k):∃a w,vl.Le w∧k a w:=by
 unfold WU at h;split at h
 ·obtain⟨f,a,c,h⟩:=h;exact⟨_,_,.refl _,h⟩
 ·exact XI h
end
def S.ex (s:S)(P:Program)(t:TypeId)(K:SV→S→Prop):Prop:=match s.ok with
 | true=>exV P t s.vl fun v vl=>K v (s.w vl)
 | false=>False
theorem S.T1 {s:S}{P:Program}{t:TypeId}{K:SV→S→Prop}(h:s.ex P t K):∃v s',s.I2 s'∧K v s':=by
 unfold S.ex at h;cases hs:s.ok with
 | false=>rw[hs]at h;cases h
 | true=>
  rw[hs]at h;obtain⟨v,w,h1,h⟩:=XI h;exact⟨v,_,S.Tu hs h1.le,h⟩
def eqV (x:SV)(vl:Vl)(v:Value)(F:Prop):Prop:=match x with
 | .v (.a (.raw u))=>u=v∧F
 | x=>v=x.den vl∧F
theorem nC {x:SV}{vl:Vl}{v:Value}{F:Prop}(h:eqV x vl v F):v=x.den vl∧F:=by
 unfold eqV at h;split at h
 ·exact⟨h.1.symm,h.2⟩
 ·exact h
def bp:List Fq→Nat→Option (TypeId×List Bs)
 | [],_=>none
 | (i,t,cs)::l,j=>bif Nat.beq i j then some (t,cs) else bp l j
theorem Ky {vl:Vl}:∀{l:List Fq} {j:Nat} {t:TypeId} {cs:List Bs},bp l j=some (t,cs)→(nth 0 vl.δ j,Obj.cells (BF vl cs).toArray t (0,0))∈E9 vl l
 | (i,u,ds)::l,j,t,cs,h=>by
  simp only[bp]at h;cases hi:Nat.beq i j with
  | true=>
   rw[hi]at h;simp only[Adq,Abg,AcT]at h;obtain⟨rfl,rfl⟩:=h;have:=AcW hi;subst this;exact Abv ..
  | false=>
   rw[hi]at h;simp only[Adi]at h;exact Abl _ (Ky h)
def ldV (P:Program)(T:TypeId)(x:Operand)(s:S)(K:Option Nat→SV→S→Prop):Prop:=match ru (s.op x) with
 | some (.bx i o)=>match bp s.bx i,bc P T with
  | some (_,cs),some true=>match bZ P T with
   | some n=>match decide (((cs.drop o).take n).length=n) with
    | true=>K none (.v (.agg ((cs.drop o).take n))) s
    | false=>False
   | none=>False
  | some (_,cs),some false=>match EV cs o with
   | some u=>K none (.at u) s
   | none=>False
  | _,_=>False
 | some (.at b o)=>match bc P T,bZ P T with
  | some true,some n=>s.ex P T fun v s=>match v with
   | .v (.agg l)=>match decide (l.length=n) with
    | true=>Am s.σ b o (BF s.vl l)∧K (some b) v s
    | false=>False
   | _=>False
  | some false,some _=>s.ex P T fun v s=>Hp.ld s.σ ⟨b,o,none⟩=some (v.den s.vl)∧K (some b) v s
  | _,_=>False
 | _=>False
theorem Hp.r4 {σ:Hp}{b o:Nat}{v:Value}(h:Hp.ld σ ⟨b,o,none⟩=some v):Hp.ld (fun x=>if x=b then σ x else none) ⟨b,o,none⟩=some v:=by
 unfold Hp.ld at *;simpa using h
theorem Am.lim {σ:Hp}{b:Nat}:∀{l:List Value} {o:Nat},Am σ b o l→Am (fun x=>if x=b then σ x else none) b o l
 | [],_,_=>trivial
 | v::l,o,h=>⟨Hp.r4 h.1,Am.lim h.2⟩
theorem XJ {P:Program}{T ty:TypeId}{x:Operand}{s:S}{K:Option Nat→SV→S→Prop}(h:ldV P T x s K):
  ∃m v s',s.I2 s'∧K m v s'∧∀J,match m with
   | none=>∀σ,Yd P (s.e J) s.b σ (.load T x) ty (v.den s'.vl)
   | some b=>Yd P (s.e J) s.b (fun x=>if x=b then s.σ x else none) (.load T x) ty (v.den s'.vl):=by
 unfold ldV at h;split at h
 ·rename_i i o hp;obtain⟨u,e1,e2⟩:=FB hp;have hx:∀J,AB (s.e J) x=.pointer (some ⟨nth 0 s.vl.δ i,o,none⟩):=fun J=>by rw[ev e1,e2];rfl
  split at h
  ·rename_i t cs hb ha;split at h
   ·rename_i n hn;split at h
    ·rename_i hd;have hd:=Abm hd;refine⟨none,_,s,.refl s,h,fun J σ=>?_⟩;have:=Y.AP9 (P:=P) (e:=s.e J) (bx:=s.b) (σ:=σ) (ty:=ty) (vs:=BF s.vl ((cs.drop o).take n)) (FA ha) (CZ hn) (by rw[DE];exact hd) (hx J) (Ky hb) (by simp[Tx]);exact this
    ·cases h
   ·cases h
  ·rename_i t cs hb ha;split at h
   ·rename_i u hu;exact⟨none,_,s,.refl s,h,fun J σ=>Y.ldb (FA ha) (hx J) (Ky hb) (by simpa[SV.den,HG.den] using Q2 hu)⟩
   ·cases h
  ·cases h
 ·rename_i b o hp;obtain⟨u,e1,e2⟩:=FB hp;have hx:∀J,AB (s.e J) x=.pointer (some ⟨b,o,none⟩):=fun J=>by rw[ev e1,e2];rfl
  split at h
  ·rename_i n ha hn;obtain⟨v,s',h1,h⟩:=S.T1 h;split at h
   ·rename_i l;split at h
    ·rename_i hd;have hd:=Abm hd;refine⟨some b,_,s',h1,h.2,fun J=>?_⟩;have hl:=h.1;rw[h1.σ]at hl;exact Y.lda (FA ha) (CZ hn) (by rw[DE];exact hd) (hx J) hl.lim
    ·cases h
   ·cases h
  ·rename_i n ha hn;obtain⟨v,s',h1,h⟩:=S.T1 h;have hl:=h.1;rw[h1.σ]at hl;exact⟨some b,_,s',h1,h.2,fun J=>Y.ld (FA ha) (hx J) (Hp.r4 hl)⟩
  ·cases h
 ·cases h
def yv (P:Program)(wr:Bool)(op:Op)(s:S)(K:SV→S→Prop):Prop:=match op with
 | .move x=>s.val x K
 | .assign x=>s.val x K
 | .pick z x y=>ABb x y z s K
 | .binOp b T x y _=>ADs P wr b T x y s K
 | .unOp u _ x=>match u with
  | .not=>ADt x s K
  | .neg=>ADu x s K
  | _=>False
 | .convert T T' x=>rv P T T' x s K
 | .fieldAddr T x f=>ADv P T x f s K
 | .field T x f=>gq P T x f s K
 | .extract x i=>ADw x i s K
 | .indexAddr T x y=>ADx P T x y s K
 | .index T x y=>ry P T x y s K
 | .nilCheck x=>ADy x s K
 | .makeFunc fn xs ys=>ADz fn xs ys s K
 | .build T ps=>iI P T ps s K
 | .makeInterface T x=>gu P T x s K
 | .slice T x lo hi mx=>match mx with
  | none=>iF P T x lo hi s K
  | some _=>False
 | .call c=>match c.callee,c.args.toList with
  | .builtin .len,[x]=>AD0 P x c.argTypes s K
  | .builtin .cap,[x]=>AD1 P x c.argTypes s K
  | .builtin .min,[x,y]=>match az (s.op x),az (s.op y) with
   | some (k,a),some (_,b)=>K (.at (.int k (if(b:Int)<a then b else a))) s
   | _,_=>False
  | .builtin .max,[x,y]=>match az (s.op x),az (s.op y) with
   | some (k,a),some (_,b)=>K (.at (.int k (if(a:Int)<b then b else a))) s
   | _,_=>False
  | _,_=>False
 | _=>False
theorem bq {P:Program}{wr:Bool}{op:Op}{ty:TypeId}{s:S}{K:SV→S→Prop}(h:yv P wr op s K):YP P op ty s K:=by
 unfold yv at h;split at h
 ·exact XC h fun v J σ hv=>Y.move hv
 ·exact XC h fun v J σ hv=>Y.assign hv
 ·exact bh h
 ·exact gn h
 ·split at h
  ·exact gw h
  ·exact gx h
  ·cases h
 ·exact bj h
 ·exact gy h
 ·exact YT h
 ·exact hZ h
 ·exact iA h
 ·exact bk h
 ·exact iB h
 ·exact iC h
 ·exact YW h
 ·exact YU h
 ·split at h
  ·exact YV h
  ·cases h
 ·rename_i c;obtain⟨ce,Abc,ts⟩:=c;split at h
  ·rename_i x h1 h2;simp only at h1 h2 h;have:Abc=#[x]:=by rw[←Ab0];simpa using h2
   subst this h1;exact iD h
  ·rename_i x h1 h2;simp only at h1 h2 h;have:Abc=#[x]:=by rw[←Ab0];simpa using h2
   subst this h1;exact iE h
  ·rename_i x y h1 h2;simp only at h1 h2 h;have:Abc=#[x,y]:=by rw[←Ab0];simpa using h2
   subst this h1;split at h
   ·rename_i k a k' b hx hy;obtain⟨u,e1,e2⟩:=B5 hx;obtain⟨v,e3,e4⟩:=B5 hy;exact Bc h fun J σ=>Y.min2 (by rw[ev e1,e2]) (by rw[ev e3,e4])
   ·cases h
  ·rename_i x y h1 h2;simp only at h1 h2 h;have:Abc=#[x,y]:=by rw[←Ab0];simpa using h2
   subst this h1;split at h
   ·rename_i k a k' b hx hy;obtain⟨u,e1,e2⟩:=B5 hx;obtain⟨v,e3,e4⟩:=B5 hy;exact Bc h fun J σ=>Y.max2 (by rw[ev e1,e2]) (by rw[ev e3,e4])
   ·cases h
  ·cases h
 ·cases h
end Tw
end
section
namespace Tw
open Go
variable [Ez]
def nE:List Nat→Nat→Bool
 | [],_=>false
 | x::l,n=>Nat.beq x n||nE l n
theorem br:∀{l:List Nat} {n:Nat},nE l n=true→n∈l
 | x::l,n,h=>by
  simp only[nE,AeD]at h;rcases h with h|h
  ·exact(AcW h)▸Abv ..
  ·exact Abl _ (br h)
def AG (P:Program)(l:List Nat):Prop:=∀f∈l,Enters P f
theorem AG.nil {P:Program}:AG P []:=fun f h=>by cases h
theorem AG.cons {P:Program}{f:Nat}{l:List Nat}(h:Enters P f)(hl:AG P l):AG P (f::l):=fun x hx=>by
 rcases Abh.1 hx with rfl|hx
 ·exact h
 ·exact hl x hx
abbrev KP:=Hp→Hp→Prop→Prop
def Gk (gen:Vl→(SV→Vl→Prop)→Prop)(dst:Option Nat)(s:S)(σ0:Hp)(v:Value)(kp:KP)(K:S→Prop):Prop:=match dst with
 | none=>kp σ0 s.σ (K s)
 | some d=>match s.ok with
  | true=>gen s.vl fun x vl=>eqV x vl v (kp σ0 s.σ (K ((s.w vl).put (some d) x)))
  | false=>False
def XK (gen:Vl→(SV→Vl→Prop)→Prop):Prop:=∀vl k,gen vl k→∃a w,vl.Le w∧k a w
theorem Jh {P:Program}{t:TypeId}:XK (WU P t):=fun _ _ h=>mz h
def r5:Vl→(SV→Vl→Prop)→Prop:=fun vl k=>∃m:Nat,k (.at (.mp (some m))) vl
theorem nF:XK r5:=fun vl k ⟨m,h⟩=>⟨_,_,.refl _,h⟩
def r7:Vl→(SV→Vl→Prop)→Prop:=fun vl k=>∃v:Value,k (.at (.raw v)) vl
theorem nG:XK r7:=fun vl k ⟨m,h⟩=>⟨_,_,.refl _,h⟩
def TG (P:Program)(t:TypeId)(two:Bool):Vl→(SV→Vl→Prop)→Prop:=fun vl k=>match two with
 | false=>xh P t vl fun a vl=>k (.v a) vl
 | true=>xh P t vl fun a vl=>∃b:Bool,k (.W7 [a,.a (.bs vl.β.length false)]) (vl.gj (.var b))
theorem iL {P:Program}{t:TypeId}{two:Bool}:XK (TG P t two):=fun vl k h=>by
 cases two with
 | false=>unfold TG at h;obtain⟨a,w,h1,h⟩:=Eg h;exact⟨_,_,h1,h⟩
 | true=>unfold TG at h;obtain⟨a,w,h1,b,h⟩:=Eg h;exact⟨_,_,h1.trans (Vl.kg _ _),h⟩
def r8 (P:Program)(t u:TypeId):Vl→(SV→Vl→Prop)→Prop:=fun vl k=>xh P t vl fun a vl=>xh P u vl fun b vl=>k (.W7 [a,b]) vl
theorem nH {P:Program}{t u:TypeId}:XK (r8 P t u):=fun vl k h=>by
 obtain⟨a,w,h1,h⟩:=Eg h;obtain⟨b,w2,h2,h⟩:=Eg h;exact⟨_,_,h1.trans h2,h⟩
def St' (J:Env)(s:S)(kq:Hp→Hp→Prop)(K:S→Prop):Env→Bx→Hp→Prop:=fun e' G0 σ'=>∃s',e'=s'.e J∧G0=s'.b∧σ'=s'.σ∧kq s.σ σ'∧(∀p∈s.b,p∈G0)∧K s'
theorem Af {gen:Vl→(SV→Vl→Prop)→Prop}(hg:XK gen){dst:Option Nat}{s:S}{σ1:Hp}{v:Value}{kp:KP}{kq:Hp→Hp→Prop}{K:S→Prop}(Nf:∀σ0 σ1 F,kp σ0 σ1 F→F∧kq σ0 σ1)
  (h:Gk gen dst (s.hp σ1) s.σ v kp K) (J:Env):St' J s kq K (put (s.e J) dst v) s.b σ1:=by
 cases dst with
 | none=>
  obtain⟨h1,h2⟩:=Nf _ _ _ h;exact⟨s.hp σ1,rfl,rfl,rfl,h2,fun _ h=>h,h1⟩
 | some d=>
  simp only[Gk]at h;cases hs:(s.hp σ1).ok with
  | false=>rw[hs]at h;cases h
  | true=>
   rw[hs]at h;obtain⟨x,w,hle,h⟩:=hg _ _ h;obtain⟨hv,h⟩:=nC h;obtain⟨h1,h2⟩:=Nf _ _ _ h;have R3:=S.Tu hs hle.le;refine⟨_,?_,?_,?_,h2,fun _ h=>h,h1⟩
   ·rw[S.Iz,R3.e J,hv];rfl
   ·rw[S.I0,R3.b];rfl
   ·rw[S.Fs];rfl
def S.boxed (s:S)(d:Option Nat)(b:Nat)(T:TypeId)(cs:List Bs):S:=
 S.put ⟨s.env,(s.vl.δ.length,T,cs)::s.bx,s.vl.yU b,s.σ⟩ d (.at (.pt (.bx s.vl.δ.length 0)))
def yZ (hid:Bool)(d:Option Nat)(T:TypeId)(cs:List Bs)(s:S)(K:S→Prop):Prop:=match hid with
 | true=>match s.ok&&oks s.vl cs with
  | true=>∀b:Nat,K (s.boxed d b T cs)
  | false=>False
 | false=>∀b:Nat,s.σ b=none→K ((s.hp (Hp.set s.σ b (.cells (BF s.vl cs).toArray T (0,0)))).put d (.at (.pt (.at b 0))))
def r9 (P:Program)(T:TypeId):Option Value:=match P.info? T with
 | some it=>it.zero
 | none=>none
theorem XL {P:Program}{T:TypeId}{z:Value}(h:r9 P T=some z):∀w,(zeroValue T).run P w=.ok z w:=fun w=>by
 unfold r9 at h;split at h
 ·rename_i it hi;simp[zeroValue,typeInfo,hi,h]
 ·cases h
structure iM where
 P:Program
 R:Rr
 Jf:List Nat
 hid:List Nat
 wr:Bool
def iM.kh (c:iM)(d:Option Nat):Bool:=match d with
 | some d=>nE c.hid d
 | none=>false
def EN (P:Program)(f:FuncId)(args:Array Value)(σ:Hp)(Φ:Value→Hp→Prop):Prop:=
 ∀w (F:Nat→Prop),Sat σ w→(∀b,F b→b<w.heap.size∧σ b=none)→∃v w' σ',(callFunc f args).run P w=.ok (.value v) w'∧Φ v σ'∧Fin σ' F w w'
theorem EN.y {P:Program}{f:FuncId}{args:Array Value}{σ:Hp}{v:Value}{Φ:Value→Hp→Prop}(hy:YN P f args σ v)(h:Φ v σ):EN P f args σ Φ:=fun w F hs hF=>
 ⟨v,w,σ,hy w hs,h,hs,fun b hb=>⟨(hF b hb).2,rfl⟩,.same rfl rfl rfl,rfl,Abo _⟩
theorem EN.mono {P:Program}{f:FuncId}{args:Array Value}{σ:Hp}{Φ Ψ:Value→Hp→Prop}(h:EN P f args σ Φ)(hh:∀v σ',Φ v σ'→Ψ v σ'):EN P f args σ Ψ:=fun w F hs hF=>
 let ⟨v,w',σ',h1,h2,h3⟩:=h w F hs hF
 ⟨v,w',σ',h1,hh _ _ h2,h3⟩
theorem AQ.en {g:Gl}{ops:Array Oper}{i:Nat}{d:Option Nat}{ty:TypeId}{gd:Option (Nat×Bool)}{e:Env}{bx:Bx}{σ:Hp}{K:Env→Bx→Hp→Prop}{x:Operand}{xs:Array Operand}{ts:Array TypeId}{f:FuncId}{args:Array Value}
  (hs:sig ops i=some (d,.call { callee:=.value x,args:=xs,argTypes:=ts },ty,gd)) (hw:AT ops e gd=true) (hd:Gj d g.n=true) (hx:AB e x=.func (.func f) #[] #[]) (G1:xs.toList.map (AB e)=args.toList)
  (h:EN g.P f args σ fun v σ'=>K (put e d v) bx σ'):AQ g ops i e bx σ K:=by
 intro w0 F a w st;obtain⟨o,ho,rfl,BM,Dt,rfl⟩:=BI hs;refine B0 ho (by rw[st.wanted];exact hw) ?_;obtain⟨v,w',σ',h1,h2,h3⟩:=h w _ st.sat st.lt;rw[st.eval];have G1:xs.map (AB e)=args:=by rw[←Ab0];simpa using G1
 have BP:(execOp (AB e) o).run g.P w=.ok (.value v) w':=by
  simp only[execOp,BM,resolve,hx,G1,Deferred.ofValue,invoke,bind,Sem.bind,pure,AeV,Array.append_empty];exact h1
 rw[Ci BP (fun d=>by simp)];exact⟨_,_,_,(st.fin h3).put _ _ (Gj.lt hd),h2⟩
abbrev sC : String := "Len"
abbrev R4 : String := "Less"
abbrev Py : String := "Swap"
abbrev ABc : String := "Push"
abbrev AIT : String := "Pop"
def MC (P:Program)(u:Value)(name:String)(args:Array Value)(σ:Hp)(R:Rr):Prop:=
 ∃(f:FuncId) (Abc:Array Value),(∀w,Sat σ w→(invoke (.fn (.method name) #[]) (#[u]++args)).run P w=.ok (.enter f Abc) w)∧Spec P f Abc σ R
theorem MC.cont {P:Program}{u:Value}{name:String}{args:Array Value}{σ:Hp}{R:Rr}{Φ Ψ:Value→Hp→Prop}(h:MC P u name args σ (AZ R Φ))(hh:∀v σ',Φ v σ'→Ψ v σ'):MC P u name args σ (AZ R Ψ):=
 let ⟨f,Abc,hm,h⟩:=h
 ⟨f,Abc,hm,h.cont hh⟩
theorem AQ.inv {g:Gl}{ops:Array Oper}{i:Nat}{d:Option Nat}{ty:TypeId}{gd:Option (Nat×Bool)}{e:Env}{bx:Bx}{σ:Hp}{K:Env→Bx→Hp→Prop}{x:Operand}{xs:Array Operand}{ts:Array TypeId}{name:String}{u:Value}{vs:Array Value}
  (hs:sig ops i=some (d,.call { callee:=.invoke x name,args:=xs,argTypes:=ts },ty,gd)) (hw:AT ops e gd=true) (hd:Gj d g.n=true) (hx:AB e x=u) (G1:xs.toList.map (AB e)=vs.toList)
  (h:MC g.P u name vs σ (AZ g.R fun v σ'=>K (put e d v) bx σ')):AQ g ops i e bx σ K:=by
 obtain⟨f,Abc,hm,h⟩:=h;intro w0 F a w st;obtain⟨o,ho,rfl,BM,Dt,rfl⟩:=BI hs;refine B0 ho (by rw[st.wanted];exact hw) ?_;have G1:xs.map (AB e)=vs:=by rw[←Ab0];simpa using G1
 have BP:(execOp (AB e) o).run g.P w=.ok (.enter f Abc) w:=by
  simp only[execOp,BM,resolve,hx,G1,bind,Sem.bind,pure];exact hm w st.sat
 rw[st.eval,Ci BP (fun d=>by simp)];refine⟨fun hh=>(by cases hh),Tk (Calls.mono (h w _ st.sat st.lt) fun en w'=>?_)⟩
 rintro⟨σ',hr,hf⟩
 have Mg:=st.fin hf;cases en with
 | returned v=>exact⟨_,_,_,Mg.put _ _ (Gj.lt hd),hr⟩
 | panicked ch=>
  rcases g.pan with ⟨h1,h2⟩|By
  ·exact⟨⟨h1,Mg.defers.trans h2⟩,σ',hr,Mg.toFin⟩
  ·exact absurd hr (By ch σ')
 | outgrown=>exact hr.elim
def sD (c:iM)(dst:Option Nat)(x:Operand)(xs:List Operand)(ty:TypeId)(s:S)(kp:KP)(K:S→Prop):Prop:=match s.op x,s.YS xs with
 | some (.v (.a (.fn f a b))),some vs=>match nE c.Jf f with
  | true=>Spec c.P f (a.toList++(CK s.vl vs++b.toList)).toArray s.σ (AZ c.R fun v σ1=>Gk (WU c.P ty) dst (s.hp σ1) s.σ v kp K)
  | false=>match Nat.beq (a.size+b.size) 0 with
   | true=>EN c.P f (CK s.vl vs).toArray s.σ (fun v σ1=>Gk (WU c.P ty) dst (s.hp σ1) s.σ v kp K)
   | false=>False
 | some (.v (.a (.raw u))),some vs=>match nE c.hid 100000 with
  | true=>∃l:Nat,u=.func (.yield l) #[] #[]∧IA c.P l (CK s.vl vs).toArray s.σ (AZ c.R fun v σ1=>Gk (WU c.P ty) dst (s.hp σ1) s.σ v kp K)
  | false=>∃(f:Nat) (fst cap:Array Value),u=.func (.func f) fst cap∧Enters c.P f∧Spec c.P f (fst++(CK s.vl vs).toArray++cap) s.σ (AZ c.R fun v σ1=>Gk (WU c.P ty) dst (s.hp σ1) s.σ v kp K)
 | _,_=>False
def biV (c:iM)(dst:Option Nat)(b:Builtin)(xs:List Operand)(ts:Array TypeId)(ty:TypeId)(s:S)(kp:KP)(K:S→Prop):Prop:=match s.YS xs with
 | none=>False
 | some vs=>match b,xs with
  | .append,[_,_]=>AI c.P (Builtin.append_ ts ty (CK s.vl vs).toArray) s.σ (fun v σ1=>Gk (WU c.P ty) dst (s.hp σ1) s.σ v kp K)
  | .copy,[_,_]=>AI c.P (Builtin.copy_ ts ty (CK s.vl vs).toArray) s.σ (fun v σ1=>Gk (WU c.P ty) dst (s.hp σ1) s.σ v kp K)
  | .delete,[_,_]=>AI c.P (Builtin.delete_ ts ty (CK s.vl vs).toArray) s.σ (fun v σ1=>Gk (WU c.P ty) dst (s.hp σ1) s.σ v kp K)
  | .clear,[_]=>AI c.P (Builtin.clear_ ts ty (CK s.vl vs).toArray) s.σ (fun v σ1=>Gk (WU c.P ty) dst (s.hp σ1) s.σ v kp K)
  | .real,[_]=>AI c.P (Builtin.real_ ts ty (CK s.vl vs).toArray) s.σ (fun v σ1=>Gk (WU c.P ty) dst (s.hp σ1) s.σ v kp K)
  | .imag,[_]=>AI c.P (Builtin.imag_ ts ty (CK s.vl vs).toArray) s.σ (fun v σ1=>Gk (WU c.P ty) dst (s.hp σ1) s.σ v kp K)
  | .complex,[_,_]=>AI c.P (Builtin.complex_ ts ty (CK s.vl vs).toArray) s.σ (fun v σ1=>Gk (WU c.P ty) dst (s.hp σ1) s.σ v kp K)
  | .unsafeString,[_,_]=>AI c.P (Builtin.unsafeString_ ts ty (CK s.vl vs).toArray) s.σ (fun v σ1=>Gk (WU c.P ty) dst (s.hp σ1) s.σ v kp K)
  | .min,[_,_]=>AI c.P (Builtin.min_ ts ty (CK s.vl vs).toArray) s.σ (fun v σ1=>Gk (WU c.P ty) dst (s.hp σ1) s.σ v kp K)
  | .max,[_,_]=>AI c.P (Builtin.max_ ts ty (CK s.vl vs).toArray) s.σ (fun v σ1=>Gk (WU c.P ty) dst (s.hp σ1) s.σ v kp K)
  | _,_=>False
def flB:BinOp→Bool
 | .add=>true
 | .sub=>true
 | .mul=>true
 | .quo=>true
 | _=>false
def AD5 (P:Program)(T:TypeId):Bool:=match P.underlying T with
 | some (.float _)=>true
 | _=>false
def nJ (c:iM)(dst:Option Nat)(op:Op)(ty:TypeId)(s:S)(kp:KP)(K:S→Prop):Prop:=match op with
 | .call cl=>match cl.callee with
  | .value x=>sD c dst x cl.args.toList ty s kp K
  | .builtin b=>biV c dst b cl.args.toList cl.argTypes ty s kp K
  | .invoke x name=>match s.op x,s.YS cl.args.toList with
   | some u,some vs=>MC c.P (u.den s.vl) name (CK s.vl vs).toArray s.σ (AZ c.R fun v σ1=>Gk (WU c.P ty) dst (s.hp σ1) s.σ v kp K)
   | _,_=>False
 | .binOp b T x y _=>match flB b,s.op x,s.op y with
  | true,some u,some v=>AI c.P (binOp b T (u.den s.vl) (v.den s.vl)) s.σ (fun v σ1=>Gk (WU c.P ty) dst (s.hp σ1) s.σ v kp K)
  | _,_,_=>False
 | .box T x=>match s.op x with
  | some v=>match v.flat with
   | some cs=>yZ (c.kh dst) dst T cs s K
   | none=>False
  | none=>False
 | .alloc T=>match r9 c.P T with
  | some z=>yZ (c.kh dst) dst T (Rz z.cells.toList) s K
  | none=>False
 | .buildSlice T m ps=>match c.P.underlying T,s.parts ps.toList with
  | some (.slice E),some vs=>match Program.Kw c.P E m (PC s.vl vs) with
   | some cs=>∀b:Nat,s.σ b=none→K ((s.hp (Hp.set s.σ b (.cells cs E (0,0)))).put dst (.at (.sl (.at b 0) m m)))
   | none=>False
  | _,_=>False
 | .store T x y=>match dst,ru (s.op x),s.op y with
  | none,some (.at b o),some v=>AI c.P (Instr.storeAt T (.pointer (some ⟨b,o,none⟩)) (v.den s.vl)) s.σ (fun _ σ1=>kp s.σ σ1 (K (s.hp σ1)))
  | _,_,_=>False
 | .convert T T' x=>match s.op x with
  | some v=>AI c.P (convert T T' (v.den s.vl)) s.σ (fun v σ1=>Gk (WU c.P ty) dst (s.hp σ1) s.σ v kp K)
  | none=>False
 | .makeMap T none=>AI c.P (Instr.makeMap T none) s.σ (fun v σ1=>Gk r5 dst (s.hp σ1) s.σ v kp K)
 | .lookup T x y two=>match c.P.underlying T,s.op x,s.op y with
  | some (.map _ t),some u,some v=>AI c.P (Instr.lookup T (u.den s.vl) (v.den s.vl) two) s.σ (fun v σ1=>Gk (TG c.P t two) dst (s.hp σ1) s.σ v kp K)
  | _,_,_=>False
 | .range T x=>match s.op x with
  | some v=>AI c.P (Instr.range T (v.den s.vl)) s.σ (fun v σ1=>Gk r7 dst (s.hp σ1) s.σ v kp K)
  | none=>False
 | .makeSlice T x y=>match s.op x,s.op y with
  | some u,some v=>AI c.P (Instr.makeSlice T (u.den s.vl) (v.den s.vl)) s.σ (fun v σ1=>Gk (WU c.P ty) dst (s.hp σ1) s.σ v kp K)
  | _,_=>False
 | .typeAssert x T A two=>match s.op x with
  | some u=>AI c.P (Instr.typeAssert (u.den s.vl) T A two) s.σ (fun v σ1=>Gk (WU c.P ty) dst (s.hp σ1) s.σ v kp K)
  | none=>False
 | _=>False
section
variable {g:Gl}{ops:Array Oper}{i:Nat}{J:Env}{dst:Option Nat}{op:Op}{ty:TypeId}{gd:Option (Nat×Bool)}{s:S}{kp:KP}{kq:Hp→Hp→Prop}{K:S→Prop}{c:iM}
theorem bu {x:Operand}{xs:Array Operand}{ts:Array TypeId}(hP:c.P=g.P)(hR:c.R=g.R)(hE:AG g.P c.Jf)(Nf:∀σ0 σ1 F,kp σ0 σ1 F→F∧kq σ0 σ1)
  (hs:sig ops i=some (dst,.call { callee:=.value x,args:=xs,argTypes:=ts },ty,gd)) (hw:AT ops (s.e J) gd=true) (hd:Gj dst g.n=true) (h:sD c dst x xs.toList ty s kp K):AQ g ops i (s.e J) s.b s.σ (St' J s kq K):=by
 unfold sD at h;rw[hP,hR]at h;split at h
 ·rename_i f a b vs hx bB;split at h
  ·rename_i hm;refine AQ.call hs hw hd (fun o ho _ w=>Qt (hE f (br hm)) (fst:=a) (cap:=b) (vs:=(CK s.vl vs).toArray) (by rw[ev hx];rfl) (by simpa using Cr bB) ?_ o ho w) (h.mono fun e σ1 hr=>?_)
   ·rw[←Ab0];simp
   ·cases e with
    | returned v=>exact Af Jh Nf hr J
    | panicked ch=>exact hr
    | outgrown=>exact hr
  ·split at h
   ·rename_i hz;have hz:=AcW hz;exact AQ.en hs hw hd (by rw[ev hx,show a=#[] from AdZ (by omega),show b=#[] from AdZ (by omega)];rfl) (by simpa using Cr bB) (h.mono fun v σ1 hr=>Af Jh Nf hr J)
   ·cases h
 ·rename_i u vs hx bB;split at h
  ·obtain⟨l,hu,h⟩:=h;refine AQ.yield hs hw hd (u:=u) (vs:=(CK s.vl vs).toArray) (by rw[ev hx];rfl) (by simpa using Cr bB) hu (h.mono fun e σ1 hr=>?_);cases e with
   | returned v=>exact Af Jh Nf hr J
   | panicked ch=>exact hr
   | outgrown=>exact hr
  ·obtain⟨f,fst,cap,hu,JZ,h⟩:=h;refine AQ.AIE hs hw hd (u:=u) (vs:=(CK s.vl vs).toArray) (by rw[ev hx];rfl) (by simpa using Cr bB) hu JZ (h.mono fun e σ1 hr=>?_);cases e with
   | returned v=>exact Af Jh Nf hr J
   | panicked ch=>exact hr
   | outgrown=>exact hr
 ·cases h
theorem bz {T:TypeId}{cs:List Bs}{hid:Bool}(Q4:∀σ0 σ1,Ext σ0 σ1→kq σ0 σ1)(h:yZ hid dst T cs s K):
  (hid=true→∀b,St' J s kq K (put (s.e J) dst (.pointer (some ⟨b,0,none⟩))) ((b,.cells (BF s.vl cs).toArray T (0,0))::s.b) s.σ)∧
  (hid=false→∀b,s.σ b=none→St' J s kq K (put (s.e J) dst (.pointer (some ⟨b,0,none⟩))) s.b (s.σ.set b (.cells (BF s.vl cs).toArray T (0,0)))):=by
 unfold yZ at h
 constructor
 ·rintro rfl b
  simp only at h;cases hs:s.ok&&oks s.vl cs with
  | false=>rw[hs]at h;cases h
  | true=>
   rw[hs]at h;simp only[Abt]at hs;have h:=h b;have hle:=Vl.yW s.vl b;have R3:=S.Tu hs.1 hle;have hb:(S.boxed s dst b T cs).b=(b,Obj.cells (BF s.vl cs).toArray T (0,0))::s.b:=by
    unfold S.boxed;rw[S.I0];simp only[S.b,E9];have hbv:E9 (s.vl.yU b) s.bx=E9 s.vl s.bx:=R3.b;rw[TF hle hs.2,hbv];show(nth 0 (s.vl.δ++[b]) s.vl.δ.length,_)::_=_
    rw[Mn]
   refine⟨_,?_,hb.symm,?_,Q4 _ _ (Ext.refl _),fun _ h=>Abl _ h,h⟩
   ·unfold S.boxed;rw[S.Iz];have:=R3.e J;show put (s.e J) dst _=put ((s.w (s.vl.yU b)).e J) dst (.pointer (some ⟨nth 0 (s.vl.δ++[b]) s.vl.δ.length,0,none⟩))
    rw[this,Mn]
   ·unfold S.boxed;rw[S.Fs]
 ·rintro rfl b hb
  have h:=h b hb;refine⟨_,?_,?_,?_,Q4 _ _ (.set hb),fun _ h=>h,h⟩
  ·rw[S.Iz];rfl
  ·rw[S.I0];rfl
  ·rw[S.Fs];rfl
section
variable {e:Env}{x y:Operand}{u v:Value}{ts:Array TypeId}{ty:TypeId}
theorem R5 (hx:AB e x=u)(o:Oper)(ho:o.op=.call { callee:=.builtin .real,args:=#[x],argTypes:=ts })(ht:o.type=ty):execOp (AB e) o=(do pure (.value (←Builtin.real_ ts ty #[u]))):=by
 subst ht;simp[execOp,ho,resolve,invoke,builtin,hx]
theorem R6 (hx:AB e x=u)(o:Oper)(ho:o.op=.call { callee:=.builtin .imag,args:=#[x],argTypes:=ts })(ht:o.type=ty):execOp (AB e) o=(do pure (.value (←Builtin.imag_ ts ty #[u]))):=by
 subst ht;simp[execOp,ho,resolve,invoke,builtin,hx]
theorem Kz (hx:AB e x=u)(hy:AB e y=v)(o:Oper)(ho:o.op=.call { callee:=.builtin .complex,args:=#[x,y],argTypes:=ts })(ht:o.type=ty):execOp (AB e) o=(do pure (.value (←Builtin.complex_ ts ty #[u,v]))):=by
 subst ht;simp[execOp,ho,resolve,invoke,builtin,hx,hy]
theorem iN (hx:AB e x=u)(hy:AB e y=v)(o:Oper)(ho:o.op=.call { callee:=.builtin .min,args:=#[x,y],argTypes:=ts })(ht:o.type=ty):execOp (AB e) o=(do pure (.value (←Builtin.min_ ts ty #[u,v]))):=by
 subst ht;simp[execOp,ho,resolve,invoke,builtin,hx,hy]
theorem iO (hx:AB e x=u)(hy:AB e y=v)(o:Oper)(ho:o.op=.call { callee:=.builtin .max,args:=#[x,y],argTypes:=ts })(ht:o.type=ty):execOp (AB e) o=(do pure (.value (←Builtin.max_ ts ty #[u,v]))):=by
 subst ht;simp[execOp,ho,resolve,invoke,builtin,hx,hy]
theorem NC (hx:AB e x=u)(hy:AB e y=v)(o:Oper)(ho:o.op=.call { callee:=.builtin .unsafeString,args:=#[x,y],argTypes:=ts })(ht:o.type=ty):execOp (AB e) o=(do pure (.value (←Builtin.unsafeString_ ts ty #[u,v]))):=by
 subst ht;simp[execOp,ho,resolve,invoke,builtin,hx,hy]
end
theorem nK {b:Builtin}{xs:Array Operand}{ts:Array TypeId}(hP:c.P=g.P)(Nf:∀σ0 σ1 F,kp σ0 σ1 F→F∧kq σ0 σ1)
  (hs:sig ops i=some (dst,.call { callee:=.builtin b,args:=xs,argTypes:=ts },ty,gd)) (hw:AT ops (s.e J) gd=true) (hd:Gj dst g.n=true) (h:biV c dst b xs.toList ts ty s kp K):AQ g ops i (s.e J) s.b s.σ (St' J s kq K):=by
 unfold biV at h;rw[hP]at h;split at h
 ·cases h
 ·rename_i vs bB;have two:∀{x y:Operand},xs.toList=[x,y]→xs=#[x,y]∧CK s.vl vs=[AB (s.e J) x,AB (s.e J) y]:=fun hx=>by
   refine⟨by rw[←Ab0];simpa using hx,?_⟩;rw[←Cr (J:=J) bB,hx];rfl
  have one:∀{x:Operand},xs.toList=[x]→xs=#[x]∧CK s.vl vs=[AB (s.e J) x]:=fun hx=>by
   refine⟨by rw[←Ab0];simpa using hx,?_⟩;rw[←Cr (J:=J) bB,hx];rfl
  split at h
  ·rename_i x y hx;obtain⟨rfl,e⟩:=two hx;rw[e]at h;exact AQ.Wd hs hw hd _ (fun o ho ht=>IY rfl rfl o ho ht) (h.mono fun v σ1 hr=>Af Jh Nf hr J)
  ·rename_i x y hx;obtain⟨rfl,e⟩:=two hx;rw[e]at h;exact AQ.Wd hs hw hd _ (fun o ho ht=>bS rfl rfl o ho ht) (h.mono fun v σ1 hr=>Af Jh Nf hr J)
  ·rename_i x y hx;obtain⟨rfl,e⟩:=two hx;rw[e]at h;exact AQ.Wd hs hw hd _ (fun o ho ht=>We rfl rfl o ho ht) (h.mono fun v σ1 hr=>Af Jh Nf hr J)
  ·rename_i x hx;obtain⟨rfl,e⟩:=one hx;rw[e]at h;exact AQ.Wd hs hw hd _ (fun o ho ht=>YJ rfl o ho ht) (h.mono fun v σ1 hr=>Af Jh Nf hr J)
  ·rename_i x hx;obtain⟨rfl,e⟩:=one hx;rw[e]at h;exact AQ.Wd hs hw hd _ (fun o ho ht=>R5 rfl o ho ht) (h.mono fun v σ1 hr=>Af Jh Nf hr J)
  ·rename_i x hx;obtain⟨rfl,e⟩:=one hx;rw[e]at h;exact AQ.Wd hs hw hd _ (fun o ho ht=>R6 rfl o ho ht) (h.mono fun v σ1 hr=>Af Jh Nf hr J)
  ·rename_i x y hx;obtain⟨rfl,e⟩:=two hx;rw[e]at h;exact AQ.Wd hs hw hd _ (fun o ho ht=>Kz rfl rfl o ho ht) (h.mono fun v σ1 hr=>Af Jh Nf hr J)
  ·rename_i x y hx;obtain⟨rfl,e⟩:=two hx;rw[e]at h;exact AQ.Wd hs hw hd _ (fun o ho ht=>NC rfl rfl o ho ht) (h.mono fun v σ1 hr=>Af Jh Nf hr J)
  ·rename_i x y hx;obtain⟨rfl,e⟩:=two hx;rw[e]at h;exact AQ.Wd hs hw hd _ (fun o ho ht=>iN rfl rfl o ho ht) (h.mono fun v σ1 hr=>Af Jh Nf hr J)
  ·rename_i x y hx;obtain⟨rfl,e⟩:=two hx;rw[e]at h;exact AQ.Wd hs hw hd _ (fun o ho ht=>iO rfl rfl o ho ht) (h.mono fun v σ1 hr=>Af Jh Nf hr J)
  ·cases h
theorem ya {e:Env}{b:BinOp}{T T':TypeId}{x y:Operand}{u v:Value}(hb:flB b=true)(hx:AB e x=u)(hy:AB e y=v)(o:Oper)(ho:o.op=.binOp b T x y T'):execOp (AB e) o=(do pure (.value (←binOp b T u v))):=by
 cases b<;>first|(cases hb;done)|(simp[execOp,ho,hx,hy,eqGuard])
theorem T3 (hP:c.P=g.P)(hR:c.R=g.R)(hE:AG g.P c.Jf)(Nf:∀σ0 σ1 F,kp σ0 σ1 F→F∧kq σ0 σ1)(Q4:∀σ0 σ1,Ext σ0 σ1→kq σ0 σ1)
  (hs:sig ops i=some (dst,op,ty,gd)) (hw:AT ops (s.e J) gd=true) (hd:Gj dst g.n=true) (h:nJ c dst op ty s kp K):AQ g ops i (s.e J) s.b s.σ (St' J s kq K):=by
 unfold nJ at h;split at h
 ·rename_i cl;obtain⟨ce,xs,ts⟩:=cl;split at h
  ·rename_i x hx;simp only at hx h;subst hx;exact bu hP hR hE Nf hs hw hd h
  ·rename_i b hx;simp only at hx h;subst hx;exact nK hP Nf hs hw hd h
  ·rename_i x name hx;simp only at hx h;subst hx;rw[hP,hR]at h;split at h
   ·rename_i u vs hu bB;obtain⟨f,Abc,hm,h⟩:=h;refine AQ.inv hs hw hd (ev hu) (by simpa using Cr bB) ⟨f,Abc,hm,h.mono fun e σ1 hr=>?_⟩;cases e with
    | returned v=>exact Af Jh Nf hr J
    | panicked ch=>exact hr
    | outgrown=>exact hr
   ·cases h
 ·rename_i b T x y T';split at h
  ·rename_i u v hb hu hv;rw[hP]at h;exact AQ.Wd hs hw hd _ (fun o ho ht=>ya hb (ev hu) (ev hv) o ho) (h.mono fun v σ1 hr=>Af Jh Nf hr J)
  ·cases h
 ·rename_i T x;split at h
  ·rename_i v hv;split at h
   ·rename_i cs hc;obtain⟨h1,h2⟩:=bz (J:=J) Q4 h;have hx:(AB (s.e J) x).cells=(BF s.vl cs).toArray:=by rw[ev hv,bn hc]
    cases hh:c.kh dst with
    | true=>exact AQ.box hs hw hd hx (h1 hh)
    | false=>exact AQ.AQB hs hw hd hx (h2 hh)
   ·cases h
  ·cases h
 ·rename_i T;split at h
  ·rename_i z hz;obtain⟨h1,h2⟩:=bz (J:=J) Q4 h;have hx:z.cells=(BF s.vl (Rz z.cells.toList)).toArray:=by rw[I1]
   rw[hP]at hz;cases hh:c.kh dst with
   | true=>exact AQ.alloc hs hw hd (XL hz) hx (h1 hh)
   | false=>exact AQ.YH hs hw hd (XL hz) hx (h2 hh)
  ·cases h
 ·rename_i T m ps;rw[hP]at h;split at h
  ·rename_i E vs hT bB;split at h
   ·rename_i cs hc;refine AQ.Kw hT hs hw hd (PD bB) hc fun b hb=>?_;refine⟨_,?_,?_,?_,Q4 _ _ (.set hb),fun _ h=>h,h b hb⟩
    ·rw[S.Iz];rfl
    ·rw[S.I0];rfl
    ·rw[S.Fs];rfl
   ·cases h
  ·cases h
 ·rename_i T x y;split at h
  ·rename_i b o v hx hy;obtain⟨u,e1,e2⟩:=FB hx;rw[hP]at h;refine AQ.store hs hw (p:=.pointer (some ⟨b,o,none⟩)) (by rw[ev e1,e2];rfl) (ev hy) (h.mono fun _ σ1 hr=>?_);obtain⟨h1,h2⟩:=Nf _ _ _ hr;exact⟨s.hp σ1,rfl,rfl,rfl,h2,fun _ h=>h,h1⟩
  ·cases h
 ·rename_i T T' x;split at h
  ·rename_i v hv;rw[hP]at h;exact AQ.Wd hs hw hd _ (fun o ho ht=>by simp only[execOp,ho];rw[ev hv]) (h.mono fun v σ1 hr=>Af Jh Nf hr J)
  ·cases h
 ·rename_i T;rw[hP]at h;exact AQ.Wd hs hw hd _ (fun o ho ht=>by simp only[execOp,ho];rfl) (h.mono fun v σ1 hr=>Af nF Nf hr J)
 ·rename_i T x y two;rw[hP]at h;split at h
  ·rename_i a t u v hT hu hv;exact AQ.Wd hs hw hd _ (fun o ho ht=>by simp only[execOp,ho];rw[ev hu,ev hv]) (h.mono fun v σ1 hr=>Af iL Nf hr J)
  ·cases h
 ·rename_i T x;split at h
  ·rename_i v hv;rw[hP]at h;exact AQ.Wd hs hw hd _ (fun o ho ht=>by simp only[execOp,ho];rw[ev hv]) (h.mono fun v σ1 hr=>Af nG Nf hr J)
  ·cases h
 ·rename_i T x y;split at h
  ·rename_i u v hu hv;rw[hP]at h;exact AQ.Wd hs hw hd _ (fun o ho ht=>by simp only[execOp,ho];rw[ev hu,ev hv]) (h.mono fun v σ1 hr=>Af Jh Nf hr J)
  ·cases h
 ·rename_i x T A two;split at h
  ·rename_i u hu;rw[hP]at h;exact AQ.Wd hs hw hd _ (fun o ho ht=>by simp only[execOp,ho];rw[ev hu]) (h.mono fun v σ1 hr=>Af Jh Nf hr J)
  ·cases h
 ·cases h
end
end Tw
end
section
namespace Tw
open Go
variable [Ez]
def sE (P:Program):Op→Bool
 | .call c=>match c.callee with
  | .builtin .len=>false
  | .builtin .cap=>false
  | .builtin .min=>match c.argTypes.toList with
   | T::_=>AD5 P T
   | []=>false
  | .builtin .max=>match c.argTypes.toList with
   | T::_=>AD5 P T
   | []=>false
  | .builtin .real=>false
  | .builtin .imag=>false
  | .builtin .complex=>false
  | _=>true
 | .convert T T' _=>match P.underlying T,P.underlying T' with
  | some (.int _),some (.int _)=>false
  | _,_=>true
 | .box ..=>true
 | .alloc ..=>true
 | .store ..=>true
 | .buildSlice ..=>true
 | .makeSlice ..=>true
 | .mapUpdate ..=>true
 | .makeMap ..=>true
 | .insert ..=>true
 | .range ..=>true
 | .next ..=>true
 | .lookup ..=>true
 | .entryStore ..=>true
 | .mapEntry ..=>true
 | .makeChan ..=>true
 | .typeAssert ..=>true
 | .binOp b T _ _ _=>flB b&&AD5 P T
 | _=>false
def nL (s:S):Option Operand→Option (Option Value)
 | none=>some none
 | some x=>match s.op x with
  | some v=>some (some (v.den s.vl))
  | none=>none
def yb (P:Program)(b:BinOp)(T:TypeId)(x y:Option SV):Bool:=match az x,az y with
 | some _,some _=>true
 | _,_=>match P.underlying T with
  | some .string=>match b with
   | .eql=>true
   | .neq=>true
   | .add=>true
   | _=>false
  | some (.pointer _)=>true
  | some .bool=>true
  | _=>false
def AQW:Option SV→Bool
 | some (.v (.a (.sl _ _ _)))=>true
 | _=>false
def anyM (P:Program)(op:Op)(ty:TypeId)(s:S):Option (Sem Value):=match op with
 | .slice T x lo hi mx=>match AQW (s.op x)&&mx.isNone with
  | true=>none
  | false=>match s.op x,nL s lo,nL s hi,nL s mx with
   | some w,some l,some h,some m=>some (Instr.sliceAt T (w.den s.vl) l h m)
   | _,_,_,_=>none
 | .unOp u _ x=>match u,s.op x with
  | .not,_=>none
  | .neg,v=>match az v,v with
   | some _,_=>none
   | none,some v=>some (Op.unary .neg (v.den s.vl))
   | none,none=>none
  | u,some v=>some (Op.unary u (v.den s.vl))
  | _,none=>none
 | .binOp b T x y _=>match yb P b T (s.op x) (s.op y) with
  | true=>none
  | false=>match s.op x,s.op y with
   | some u,some v=>some (do eqGuard b T x y (u.den s.vl) (v.den s.vl);binOp b T (u.den s.vl) (v.den s.vl))
   | _,_=>none
 | .call c=>match c.callee,c.args.toList,c.argTypes.toList with
  | .builtin .len,[x],[T]=>match s.op x with
   | some (.v (.a (.mp m)))=>some (Builtin.len_ #[T] ty #[.map m])
   | _=>none
  | .builtin .real,[x],_=>match s.op x with
   | some v=>some (Builtin.real_ c.argTypes ty #[v.den s.vl])
   | none=>none
  | .builtin .imag,[x],_=>match s.op x with
   | some v=>some (Builtin.imag_ c.argTypes ty #[v.den s.vl])
   | none=>none
  | .builtin .complex,[x,y],_=>match s.op x,s.op y with
   | some u,some v=>some (Builtin.complex_ c.argTypes ty #[u.den s.vl,v.den s.vl])
   | _,_=>none
  | _,_,_=>none
 | _=>none
theorem Q5 {s:S}{J:Env}{x:Option Operand}{v:Option Value}(h:nL s x=some v):x.map (AB (s.e J))=v:=by
 cases x with
 | none=>simp only[nL,Abg]at h;subst h;rfl
 | some x=>
  simp only[nL]at h;split at h
  ·rename_i u hu;cases h;simp only[AcM];rw[ev hu]
  ·cases h
theorem nM {P:Program}{op:Op}{ty:TypeId}{s:S}{m:Sem Value}(h:anyM P op ty s=some m)(J:Env):∀o:Oper,o.op=op→o.type=ty→execOp (AB (s.e J)) o=(do pure (Next.value (←m))):=fun o ho ht=>by
 unfold anyM at h;split at h
 ·rename_i T x lo hi mx;split at h
  ·cases h
  ·split at h
   ·rename_i w l hh mm h1 h2 h3 h4;cases h;simp only[execOp,ho,Q5 h2,Q5 h3,Q5 h4,ev h1]
   ·cases h
 ·rename_i u T x;split at h
  ·cases h
  ·split at h
   ·cases h
   ·rename_i hv;cases h;simp only[execOp,ho,ev hv]
   ·cases h
  ·rename_i hv;cases h;simp only[execOp,ho,ev hv]
  ·cases h
 ·rename_i b T x y T';split at h
  ·cases h
  ·split at h
   ·rename_i u v hu hv;cases h;simp only[execOp,ho,ev hu,ev hv]
   ·cases h
 ·rename_i c;obtain⟨ce,Abc,ts⟩:=c;split at h
  ·rename_i x T h1 h2 h3;simp only at h1 h2 h3;have e1:Abc=#[x]:=by rw[←Ab0];simpa using h2
   have e2:ts=#[T]:=by rw[←Ab0];simpa using h3
   subst h1 e1 e2;split at h
   ·rename_i mm hx;cases h;exact gb (by rw[ev hx];rfl) o ho ht
   ·cases h
  ·rename_i x h1 h2;simp only at h1 h2 h;have e1:Abc=#[x]:=by rw[←Ab0];simpa using h2
   subst h1 e1;split at h
   ·rename_i v hv;cases h;exact R5 (ev hv) o ho ht
   ·cases h
  ·rename_i x h1 h2;simp only at h1 h2 h;have e1:Abc=#[x]:=by rw[←Ab0];simpa using h2
   subst h1 e1;split at h
   ·rename_i v hv;cases h;exact R6 (ev hv) o ho ht
   ·cases h
  ·rename_i x y h1 h2;simp only at h1 h2 h;have e1:Abc=#[x,y]:=by rw[←Ab0];simpa using h2
   subst h1 e1;split at h
   ·rename_i u v hu hv;cases h;exact Kz (ev hu) (ev hv) o ho ht
   ·cases h
  ·cases h
 ·cases h
def AD6 (P:Program)(ty:TypeId)(m:Sem Value)(s:S)(K:SV→S→Prop):Prop:=s.ex P ty fun v s=>YF P m s.σ (v.den s.vl)∧K v s
theorem T5 {P:Program}{op:Op}{ty:TypeId}{s:S}{m:Sem Value}{K:SV→S→Prop}(hm:anyM P op ty s=some m)(h:AD6 P ty m s K):∃v s',s.I2 s'∧(∀J,Yd P (s.e J) s.b s.σ op ty (v.den s'.vl))∧K v s':=by
 obtain⟨v,s',h1,hy,hk⟩:=S.T1 h;rw[h1.σ]at hy;exact⟨v,s',h1,fun J=>Yd.any (nM hm J) hy,hk⟩
def T6 (ops:Array Oper)(gd:Option (Nat×Bool))(s:S)(K:Bool→S→Prop):Prop:=match gd with
 | none=>K true s
 | some (j,want)=>match (ops[j]?).bind (·.dst) with
  | none=>False
  | some d=>match YQ s.env d with
   | some (.v (.a .un))=>K false s
   | v=>s.yX v fun t s=>K (t==want) s
theorem Ji {ops:Array Oper}{gd:Option (Nat×Bool)}{s:S}{K:Bool→S→Prop}(h:T6 ops gd s K):∃b s',s.I2 s'∧(∀J,AT ops (s.e J) gd=b)∧K b s':=by
 unfold T6 at h;split at h
 ·exact⟨true,s,.refl s,fun _=>rfl,h⟩
 ·rename_i j want;split at h
  ·cases h
  ·rename_i d hd;split at h
   ·rename_i hv;refine⟨false,s,.refl s,fun J=>?_,h⟩;have:s.e J d=undef:=Ef hv;simp only[AT,hd,this];rfl
   ·obtain⟨t,s',x,h1,h2,h3,h4,h⟩:=S.Ft h;refine⟨_,s',h1,fun J=>?_,h⟩;have:s.e J d=.bool t:=(Ef h3).trans h4;simp only[AT,hd,this];cases t<;>cases want<;>rfl
def ki (J:Env)(K:S→Prop):Env→Bx→Hp→Prop:=fun e bx σ=>∃s,e=s.e J∧bx=s.b∧σ=s.σ∧K s
structure Cx extends iM where
 n:Nat
 PE:List (Nat×TypeId):=[]
structure Cx.Ok (c:Cx)(g:Gl):Prop where
 P:c.P=g.P
 R:c.R=g.R
 E:AG g.P c.Jf
 n:c.n=g.n
 HU:g.HU=none
 ds:g.ds=[]
def kp0:KP:=fun _ _ F=>F
def nN (l:List Fq)(i:Nat)(o:Nat)(xs:List Bs):List Fq:=match l with
 | []=>[]
 | (j,t,cs)::l=>bif Nat.beq j i then(j,t,iG cs o xs)::l else(j,t,cs)::nN l i o xs
def T7 {α:Type}:List α→Nat
 | []=>0
 | _::l=>T7 l+1
theorem TH {α:Type}:∀l:List α,T7 l=l.length
 | []=>rfl
 | _::l=>by simp only[T7,Abk];rw[TH l]
def Q6:List Bs→List Value
 | []=>[]
 | .raw v::l=>v::Q6 l
 | .un::l=>undef::Q6 l
 | _::l=>Q6 l
def AD7 (F:Prop):List Value→Prop
 | []=>F
 | [v]=>(Value.oneCell' v=true)∧F
 | l=>AD8 l∧F
where
 AD8:List Value→Prop
  | []=>True
  | [v]=>Value.oneCell' v=true
  | v::l=>Value.oneCell' v=true∧AD8 l
def SV.iP:SV→Option (List Bs)
 | .v (.a x)=>some [x]
 | .v (.agg l)=>some l
 | .W7 _=>none
def mapOf (P:Program)(l:List (Nat×TypeId))(x:Operand):Option (TypeId×TypeId):=match x with
 | .tmp t=>match l.find? fun p=>Nat.beq p.1 t with
  | some p=>match P.underlying p.2 with
   | some (.map k v)=>some (k,v)
   | _=>none
  | none=>none
 | _=>none
def sF (c:Cx)(dst:Option Nat)(x:Operand)(ty:TypeId)(s:S)(K:S→Prop):Prop:=match dst,s.op x,mapOf c.P c.PE x with
 | some d,some u,some (tk,tv)=>AI c.P (Instr.next (u.den s.vl) false ty) s.σ (fun v σ1=>(v=(.tuple #[(.bool false)])∧K ((s.hp σ1).put (some d) (.W7 [.a (.bl false)]))) ∨
  (match s.ok with
   | true=>xh c.P tk s.vl fun a vl=>xh c.P tv vl fun b vl=>v=(SV.W7 [.a (.bl true),a,b]).den vl∧K (((s.hp σ1).w vl).put (some d) (.W7 [.a (.bl true),a,b]))
   | false=>False))
 | _,_,_=>False
def AD9 (c:Cx)(T:TypeId)(i o:Nat)(v:SV)(s:S)(K:S→Prop):Prop:=match v.iP,bZ c.P T with
 | some l,some n=>match bp s.bx i with
  | some (t,cs)=>match Nat.beq (T7 l) n&&Nat.ble (o+T7 l) (T7 cs) with
   | true=>AD7 (K ⟨s.env,nN s.bx i o l,s.vl,s.σ⟩) (Q6 l)
   | false=>False
  | none=>False
 | _,_=>False
def sG (c:Cx)(ops:Array Oper)(i:Nat)(s:S)(K:S→Prop):Prop:=match ops[i]? with
 | none=>False
 | some o=>match Gj o.dst c.n with
  | false=>False
  | true=>T6 ops o.guard s fun b s=>match b with
   | false=>K (s.put o.dst (.at .un))
   | true=>match o.op with
    | .load T x=>ldV c.P T x s fun _ v s=>K (s.put o.dst v)
    | .mapUpdate T m k v=>match o.dst,s.op m,s.op k,s.op v with
     | none,some m,some k,some v=>AI c.P (Instr.mapUpdate T (m.den s.vl) (k.den s.vl) (v.den s.vl)) s.σ (fun _ σ1=>K (s.hp σ1))
     | _,_,_,_=>False
    | .insert T m k v=>match o.dst,s.op m,s.op k,s.op v with
     | none,some m,some k,some v=>AI c.P (Instr.mapUpdate T (m.den s.vl) (k.den s.vl) (v.den s.vl)) s.σ (fun _ σ1=>K (s.hp σ1))
     | _,_,_,_=>False
    | .next x false=>sF c o.dst x o.type s K
    | .entry x=>match s.op x,mapOf c.P c.PE x with
     | some u,some (tk,tv)=>AI c.P (Instr.entry (u.den s.vl)) s.σ (fun v σ1=>Gk (r8 c.P tk tv) o.dst (s.hp σ1) s.σ v kp0 K)
     | _,_=>False
    | .panic x=>match s.op x with
     | some (.v (.a (.raw (.iface T u))))=>c.R (.panicked [{ v:=.iface T u,recovered:=false }]) s.σ
     | _=>False
    | .store T x y=>match o.dst,ru (s.op x),s.op y with
     | none,some (.bx i b),some v=>AD9 c T i b v s K
     | _,_,_=>nJ c.toiM o.dst (.store T x y) o.type s kp0 K
    | op=>match sE c.P op,anyM c.P op o.type s with
     | true,_=>nJ c.toiM o.dst op o.type s kp0 K
     | false,some m=>AD6 c.P o.type m s fun v s=>K (s.put o.dst v)
     | false,none=>yv c.P c.wr op s fun v s=>K (s.put o.dst v)
def yc (c:Cx)(ops:Array Oper):List Nat→S→(S→Prop)→Prop
 | [],s,K=>K s
 | i::is,s,K=>sG c ops i s fun s=>yc c ops is s K
section
variable {g:Gl}{ops:Array Oper}{i:Nat}{J:Env}{s:S}{K:S→Prop}{c:Cx}
theorem kj {s s':S}{K:Env→Bx→Hp→Prop}(h:s.I2 s')(hk:AQ g ops i (s'.e J) s'.b s'.σ K):AQ g ops i (s.e J) s.b s.σ K:=by
 rw[←h.e J,←h.b,←h.σ];exact hk
theorem AIU {s:S}{o:Oper}{K:SV→S→Prop}{K':Env→Bx→Hp→Prop}(ho:ops[i]?=some o)(hw:AT ops (s.e J) o.guard=true)(hd:Gj o.dst g.n=true)(h:YP g.P o.op o.type s K)(hk:∀v s',s.I2 s'→K v s'→K' ((s'.put o.dst v).e J) s'.b s'.σ):
  AQ g ops i (s.e J) s.b s.σ K':=by
 obtain⟨v,s',h1,h2,h3⟩:=h;have:=hk v s' h1 h3;rw[S.Iz,h1.e J,h1.b,h1.σ]at this;exact AQ.y (Cy ho) hw hd (h2 J _) this
theorem Yd.up {P:Program}{e:Env}{bx:Bx}{σ:Hp}{b:Nat}{op:Op}{ty:TypeId}{v:Value}(h:Yd P e bx (fun x=>if x=b then σ x else none) op ty v):Yd P e bx σ op ty v:=fun o ho ht w hs hb=>h o ho ht w (fun k u hk=>by
 simp only at hk;split at hk
 ·exact hs k u hk
 ·cases hk) hb
theorem AQ.mono {e:Env}{bx:Bx}{σ:Hp}{K K':Env→Bx→Hp→Prop}(h:AQ g ops i e bx σ K)(hk:∀e bx σ,K e bx σ→K' e bx σ):AQ g ops i e bx σ K':=fun w0 F a w st=>wpOpIn_mono (fun a' w' ⟨e',b',σ',Mg,h'⟩=>⟨e',b',σ',Mg,hk _ _ _ h'⟩) (h w0 F a w st)
theorem AIV {dst:Option Nat}{op:Op}{ty:TypeId}{gd:Option (Nat×Bool)}(hc:c.Ok g)(hs:sig ops i=some (dst,op,ty,gd))(hw:AT ops (s.e J) gd=true)(hd:Gj dst g.n=true)(h:nJ c.toiM dst op ty s kp0 K):AQ g ops i (s.e J) s.b s.σ (ki J K):=by
 have:=T3 (c:=c.toiM) (kq:=fun _ _=>True) (J:=J) hc.P hc.R hc.E (fun _ _ F h=>⟨h,trivial⟩) (fun _ _ _=>trivial) hs hw hd h;intro w0 F a w st;refine wpOpIn_mono ?_ (this w0 F a w st)
 rintro a' w' ⟨e',G0,σ',Mg,s',rfl,rfl,rfl,_,_,hk⟩
 exact⟨_,_,_,Mg,s',rfl,rfl,rfl,hk⟩
theorem cC {dst:Option Nat}{x:Operand}{ty:TypeId}{gd:Option (Nat×Bool)}(hc:c.Ok g)(hs:sig ops i=some (dst,.next x false,ty,gd))(hw:AT ops (s.e J) gd=true)(hd:Gj dst g.n=true)(h:sF c dst x ty s K):AQ g ops i (s.e J) s.b s.σ (ki J K):=by
 unfold sF at h;split at h
 ·rename_i d u tk tv hu hm;rw[hc.P]at h;refine AQ.Wd hs hw hd (Instr.next (u.den s.vl) false ty) (fun o ho ht=>by simp only[execOp,ho,ht];rw[ev hu]) (h.mono fun v σ1 hr=>?_);rcases hr with ⟨rfl,hk⟩|hr
  ·exact⟨_,(S.Iz (s:=s.hp σ1) (x:=.W7 [.a (.bl false)])).symm,(S.I0 (s:=s.hp σ1) (x:=.W7 [.a (.bl false)])).symm,(S.Fs (s:=s.hp σ1) (x:=.W7 [.a (.bl false)])).symm,hk⟩
  ·split at hr
   ·rename_i B9;obtain⟨a,w1,h1,hr⟩:=Eg hr;obtain⟨b,w2,h2,hr⟩:=Eg hr;obtain⟨hv,hk⟩:=hr;have R3:=S.Tu (s:=s.hp σ1) B9 (h1.trans h2).le;refine⟨_,?_,?_,?_,hk⟩
    ·rw[S.Iz,R3.e J,hv];rfl
    ·rw[S.I0,R3.b];rfl
    ·rw[S.Fs];rfl
   ·cases hr
 ·cases h
theorem cD {vl:Vl}{i o:Nat}{l:List Bs}:∀{bx:List Fq} {t:TypeId} {cs:List Bs},bp bx i=some (t,cs)→∃j,(E9 vl bx)[j]?=some (nth 0 vl.δ i,.cells (BF vl cs).toArray t (0,0))∧E9 vl (nN bx i o l)=(E9 vl bx).set j (nth 0 vl.δ i,.cells (BF vl (iG cs o l)).toArray t (0,0))
 | (k,u,ds)::r,t,cs,h=>by
  simp only[bp]at h;cases hk:Nat.beq k i with
  | true=>
   rw[hk]at h;simp only[Adq,Abg,AcT]at h;obtain⟨rfl,rfl⟩:=h;have:=AcW hk;subst this;exact⟨0,rfl,by simp only[nN,hk,Adq,E9,List.set_cons_zero]⟩
  | false=>
   rw[hk]at h;simp only[Adi]at h;obtain⟨j,h1,h2⟩:=cD (vl:=vl) (o:=o) (l:=l) h;exact⟨j+1,by simpa only[E9,Aco] using h1,by simp only[nN,hk,Adi,E9,Adp,h2]⟩
theorem iQ {F:Prop}{l:List Value}(h:AD7 F l):F∧∀v∈l,Value.oneCell' v=true:=by
 have cj:∀{l:List Value},AD7.AD8 l→∀v∈l,Value.oneCell' v=true:=fun {l}=>by
  induction l with
  | nil=>intro _ v hv;cases hv
  | cons a l ih=>
   intro h v hv;cases l with
   | nil=>simp at hv;subst hv;exact h
   | cons b l=>
    rcases Abh.1 hv with rfl|hv
    ·exact h.1
    ·exact ih h.2 v hv
 match l,h with
 | [],h=>exact⟨h,fun v hv=>by cases hv⟩
 | [v],h=>exact⟨h.2,fun u hu=>by simp at hu;subst hu;exact h.1⟩
 | a::b::l,h=>exact⟨h.2,cj h.1⟩
theorem T8 {vl:Vl}:∀{l:List Bs},(∀v∈Q6 l,Value.oneCell' v=true)→∀u∈BF vl l,Value.oneCell' u=true
 | [],_,u,hu=>by cases hu
 | x::l,h,u,hu=>by
  have tl:∀v∈Q6 l,Value.oneCell' v=true:=fun v hv=>h v (by cases x<;>first|exact hv|exact Abl _ hv);rcases Abh.1 hu with rfl|hu
  ·cases x<;>try rfl
   case bs i n=>cases n<;>rfl
   case raw v=>exact h v (Abv ..)
   case un=>exact h undef (Abv ..)
  ·exact T8 tl u hu
theorem iR {vl:Vl}{v:SV}{l:List Bs}(h:v.iP=some l)(ho:∀u∈BF vl l,Value.oneCell' u=true):(v.den vl).cells=(BF vl l).toArray:=by
 unfold SV.iP at h;split at h
 ·rename_i x;cases h;have:=ho (x.den vl) (Abv ..);simp only[SV.den,HG.den,BF];cases hx:x.den vl<;>first|rfl|(rw[hx]at this;cases this)
 ·cases h;rfl
 ·cases h
theorem iS {T ty:TypeId}{x y:Operand}{gd:Option (Nat×Bool)}{k b:Nat}{v:SV}(hc:c.Ok g)(hs:sig ops i=some (none,.store T x y,ty,gd))(hw:AT ops (s.e J) gd=true)(hx:ru (s.op x)=some (.bx k b))(hy:s.op y=some v)(h:AD9 c T k b v s K):AQ g ops i (s.e J) s.b s.σ (ki J K):=by
 unfold AD9 at h;split at h
 ·rename_i l n hl hz;split at h
  ·rename_i t cs hg;split at h
   ·rename_i hd;simp only[Abt,TH]at hd;obtain⟨hk,ho⟩:=iQ h;have XM:=T8 (vl:=s.vl) ho;have bC:=iR (vl:=s.vl) hl XM;obtain⟨u,e1,e2⟩:=FB hx;obtain⟨j,h1,h2⟩:=cD (vl:=s.vl) (o:=b) (l:=l) hg;rw[hc.P]at hz;refine AQ.ADU (b:=nth 0 s.vl.δ k) (o:=b) (c:=(BF s.vl cs).toArray) (c':=(BF s.vl (iG cs b l)).toArray) (t:=t) (j:=j) hs hw (CZ hz) (by rw[ev e1,e2];rfl) (ev hy) h1 ?_ ?_ ?_ ?_ ?_
    ·rw[bC];simp[DE];exact AcW hd.1
    ·have:=AcW hd.1;have h3:=AcS hd.2;exact Aez (by simp[DE];omega)
    ·rw[bC];exact Acb.2 fun u hu=>XM u (by simpa using hu)
    ·rw[bC,Ty]
    ·exact⟨⟨s.env,nN s.bx k b l,s.vl,s.σ⟩,rfl,h2.symm,rfl,hk⟩
   ·cases h
  ·cases h
 ·cases h
theorem cE (hc:c.Ok g)(h:sG c ops i s K):AQ g ops i (s.e J) s.b s.σ (ki J K):=by
 unfold sG at h;split at h
 ·cases h
 ·rename_i o ho;split at h
  ·cases h
  ·rename_i hd;rw[hc.n]at hd;obtain⟨b,s1,h1,hw,h⟩:=Ji h;have hw:=hw J;rw[←h1.e J]at hw;refine kj h1 ?_;cases b with
   | false=>exact AQ.no (Cy ho) hw hd ⟨_,(S.Iz (x:=.at .un)).symm,S.I0.symm,S.Fs.symm,h⟩
   | true=>
    simp only at h;split at h
    ·rename_i T x Kn;obtain⟨m,v,s2,h2,hk,hy⟩:=XJ (ty:=o.type) h;have hs:=Cy ho;rw[Kn]at hs;refine AQ.y (v:=v.den s2.vl) hs hw hd ?_ ⟨s2.put o.dst v,by rw[S.Iz,h2.e J],by rw[S.I0,h2.b],by rw[S.Fs,h2.σ],hk⟩;have hy:=hy J;rw[hc.P]at hy;cases m with
     | none=>exact hy _
     | some b=>exact Yd.up hy
    ·rename_i T m k v Kn;split at h
     ·rename_i um uk uv Kv hm hk hv;have hs:=Cy ho;rw[Kn,Kv]at hs;rw[hc.P]at h;exact AQ.ADT hs hw rfl _ (fun o ho ht=>by simp only[execOp,ho];rw[ev hm,ev hk,ev hv]) (h.mono fun _ σ1 hr=>⟨s1.hp σ1,rfl,rfl,rfl,hr⟩)
     ·cases h
    ·rename_i T m k v Kn;split at h
     ·rename_i um uk uv Kv hm hk hv;have hs:=Cy ho;rw[Kn,Kv]at hs;rw[hc.P]at h;exact AQ.ADT hs hw rfl _ (fun o ho ht=>by simp only[execOp,ho];rw[ev hm,ev hk,ev hv]) (h.mono fun _ σ1 hr=>⟨s1.hp σ1,rfl,rfl,rfl,hr⟩)
     ·cases h
    ·have Kn:=‹o.op=Op.next _ false›
     have hs:=Cy ho;rw[Kn]at hs;exact cC hc hs hw hd h
    ·have Kn:=‹o.op=Op.entry _›;have hs:=Cy ho;rw[Kn]at hs;split at h
     ·rename_i u tk tv hu hm;rw[hc.P]at h;have:=AQ.Wd (K:=St' J s1 (fun _ _=>True) K) hs hw hd (Instr.entry (u.den s1.vl)) (fun o ho ht=>by simp only[execOp,ho];rw[ev hu]) (h.mono fun v σ1 hr=>Af (kq:=fun _ _=>True) nH (fun _ _ F h=>⟨h,trivial⟩) hr J);exact this.mono fun e bx σ ⟨s',e1,e2,e3,_,_,hk⟩=>⟨s',e1,e2,e3,hk⟩
     ·cases h
    ·have Kn:=‹o.op=Op.panic _›;split at h
     ·rename_i T u hx;have hs:=Cy ho;rw[Kn]at hs;rw[hc.R]at h;exact AQ.panic hs hw (by rw[ev hx];rfl) hc.HU hc.ds h
     ·cases h
    ·have Kn:=‹o.op=Op.store _ _ _›;have hs:=Cy ho;rw[Kn]at hs;split at h
     ·rename_i i' b v Kv hx hy;rw[Kv]at hs;exact iS hc hs hw hx hy h
     ·exact AIV hc hs hw hd h
    ·split at h
     ·exact AIV hc (Cy ho) hw hd h
     ·rename_i m _ hm;rw[hc.P]at h hm;obtain⟨v,s2,h2,hy,hk⟩:=T5 hm h;exact AQ.y (v:=v.den s2.vl) (Cy ho) hw hd (hy J) ⟨s2.put o.dst v,by rw[S.Iz,h2.e J],by rw[S.I0,h2.b],by rw[S.Fs,h2.σ],hk⟩
     ·rw[hc.P]at h;exact AIU ho hw hd (bq h) fun v s' kk hk=>⟨s'.put o.dst v,rfl,S.I0.symm,S.Fs.symm,hk⟩
theorem PF (hc:c.Ok g):∀{is:List Nat} {s:S},yc c ops is s K→Seq g ops is (s.e J) s.b s.σ (ki J K)
 | [],s,h=>⟨s,rfl,rfl,rfl,h⟩
 | i::is,s,h=>(cE hc h).mono fun e bx σ ⟨s',h1,h2,h3,h4⟩=>by subst h1 h2 h3;exact PF hc h4
theorem T9 {K K':Env→Bx→Hp→Prop}(hk:∀e bx σ,K e bx σ→K' e bx σ):∀{is:List Nat} {e:Env} {bx:Bx} {σ:Hp},Seq g ops is e bx σ K→Seq g ops is e bx σ K'
 | [],_,_,_,h=>hk _ _ _ h
 | i::is,e,bx,σ,h=>AQ.mono h fun _ _ _ h=>T9 hk h
theorem Jj {K K':Env→Bx→Hp→Prop}(hk:∀e bx σ,K e bx σ→K' e bx σ):∀{p:Ord} {q:JT} {e:Env} {bx:Bx} {σ:Hp},Kx g ops p q e bx σ K→Kx g ops p q e bx σ K'
 | .done,_,_,_,_,h=>hk _ _ _ h
 | .yes i r,q,e,bx,σ,⟨own,o,v,h1,h2,h3,h4,h5⟩=>⟨own,o,v,h1,h2,h3,h4,Jj hk h5⟩
 | .alt i r t,q,e,bx,σ,⟨h1,h2⟩=>⟨AQ.mono h1 fun _ _ _ ⟨h3,h4⟩=>⟨h3,Jj hk h4⟩,Jj hk h2⟩
 | .no,_,_,_,_,_=>trivial
def UA:Ord→List Nat
 | .done=>[]
 | .yes _ r=>UA r
 | .alt i r _=>i::UA r
 | .no=>[]
def AIW (ops:Array Oper)(i:Nat):Nat→Nat→Option (List Nat)
 | 0,_=>none
 | f+1,t=>match Iq ops t i with
  | true=>some [t]
  | false=>(List.range t).findSome? fun u=>match Nat.blt i u&&Iq ops t u with
   | true=>match AIW ops i f u with
    | some p=>some (t::p)
    | none=>none
   | false=>none
def waits (ops:Array Oper)(i:Nat):List Nat→List (List Nat)
 | []=>[]
 | t::l=>match AIW ops i 40 t with
  | some p=>p::waits ops i l
  | none=>waits ops i l
def kpL (L:JT):KP:=fun σ0 σ1 F=>match L with
 | none=>Ext σ0 σ1∧F
 | some []=>F
 | some (x::l)=>Kp ((x::l).map Prod.fst) σ0 σ1∧F
def GN (c:Cx)(ops:Array Oper):Ord→JT→S→(S→Prop)→Prop
 | .done,_,s,K=>K s
 | .yes i r,L,s,K=>match ops[i]? with
  | none=>False
  | some o=>match Gj o.dst c.n&&L.ok i with
   | false=>False
   | true=>T6 ops o.guard s fun b s=>match b with
    | false=>GN c ops r L (s.put o.dst (.at .un)) K
    | true=>match o.op with
     | .load T x=>ldV c.P T x s fun m v s=>match m,L with
      | none,_=>GN c ops r L (s.put o.dst v) K
      | some _,none=>GN c ops r L (s.put o.dst v) K
      | some b,some l=>match (NB (some l) (some (b,waits ops i (UA r)))).ok i&&Rq ops i (some (b,waits ops i (UA r))) with
       | true=>GN c ops r (NB (some l) (some (b,waits ops i (UA r)))) (s.put o.dst v) K
       | false=>False
     | op=>match sE c.P op,anyM c.P op o.type s,L with
      | true,_,_=>False
      | false,some m,none=>AD6 c.P o.type m s fun v s=>GN c ops r none (s.put o.dst v) K
      | false,some _,some _=>False
      | false,none,L=>yv c.P c.wr op s fun v s=>GN c ops r L (s.put o.dst v) K
 | .alt i r t,L,s,K=>
  match t with
  | .no=>cG c ops i L s fun s=>GN c ops r (GK L i) s K
  | t=>(cG c ops i L s fun s=>GN c ops r (GK L i) s K)∧GN c ops t L s K
 | .no,_,_,_=>True
where
 cG (c:Cx) (ops:Array Oper) (i:Nat) (L:JT) (s:S) (K:S→Prop):Prop:=match ops[i]? with
  | none=>False
  | some o=>match Gj o.dst c.n with
   | false=>False
   | true=>T6 ops o.guard s fun b s=>match b with
    | false=>K (s.put o.dst (.at .un))
    | true=>nJ c.toiM o.dst o.op o.type s (kpL (GK L i)) K
def kqL (q:JT)(σ σ':Hp):Prop:=match q with
 | none=>∀b o,σ b=some o→σ' b=some o
 | some L=>∀x∈L,∀o,σ x.1=some o→σ' x.1=some o
theorem AEA {q:JT}{bx G0:Bx}{σ σ':Hp}(h:kqL q σ σ')(hb:∀p∈bx,p∈G0):KK q bx σ G0 σ':=⟨hb,h⟩
theorem nO {L:JT}{σ0 σ1:Hp}{F:Prop}(h:kpL L σ0 σ1 F):F∧kqL L σ0 σ1:=by
 unfold kpL at h;split at h
 ·exact⟨h.2,h.1⟩
 ·exact⟨h,fun x hx=>by cases hx⟩
 ·exact⟨h.2,fun y hy o ho=>h.1 y.1 (AcO.2 ⟨y,hy,rfl⟩) o ho⟩
theorem yd {L:JT}{σ0 σ1:Hp}(h:Ext σ0 σ1):kqL L σ0 σ1:=by
 cases L with
 | none=>exact h
 | some l=>exact fun x _ o ho=>h _ _ ho
theorem cH {L:JT}(hc:c.Ok g)(h:GN.cG c ops i L s K):AQ g ops i (s.e J) s.b s.σ fun e' G0 σ'=>KK (GK L i) s.b s.σ G0 σ'∧ki J K e' G0 σ':=by
 unfold GN.cG at h;split at h
 ·cases h
 ·rename_i o ho;split at h
  ·cases h
  ·rename_i hd;rw[hc.n]at hd;obtain⟨b,s1,h1,hw,h⟩:=Ji h;have hw:=hw J;rw[←h1.e J]at hw;have key:AQ g ops i (s1.e J) s1.b s1.σ fun e' G0 σ'=>KK (GK L i) s1.b s1.σ G0 σ'∧ki J K e' G0 σ':=by
    cases b with
    | false=>exact AQ.no (Cy ho) hw hd ⟨KK.refl _ _ _,_,(S.Iz (x:=.at .un)).symm,S.I0.symm,S.Fs.symm,h⟩
    | true=>
     have:=T3 (c:=c.toiM) (kq:=kqL (GK L i)) (J:=J) hc.P hc.R hc.E (fun _ _ F h=>nO h) (fun _ _ h=>yd h) (Cy ho) hw hd h;exact this.mono fun e' G0 σ' ⟨s',e1,e2,e3,hq,hb,hk⟩=>⟨AEA hq hb,s',e1,e2,e3,hk⟩
   have:=kj (K:=fun e' G0 σ'=>KK (GK L i) s1.b s1.σ G0 σ'∧ki J K e' G0 σ') h1 key;rw[h1.b,h1.σ]at this;exact this
theorem DF (hc:c.Ok g):∀{p:Ord} {q:JT} {s:S},GN c ops p q s K→Kx g ops p q (s.e J) s.b s.σ (ki J K)
 | .done,q,s,h=>⟨s,rfl,rfl,rfl,h⟩
 | .yes i r,q,s,h=>by
  simp only[GN]at h;split at h
  ·cases h
  ·rename_i o ho;split at h
   ·cases h
   ·rename_i hd;simp only[Abt]at hd;obtain⟨hd,hq⟩:=hd;rw[hc.n]at hd;obtain⟨b,s1,h1,hw,h⟩:=Ji h;have hw:=hw J;rw[←h1.e J]at hw;rw[←h1.e J,←h1.b,←h1.σ];have go:∀{v:SV} {s2:S} {own:Option (Nat×List (List Nat))},s1.I2 s2→((NB q own).ok i&&Rq ops i own)=true→Yd g.P (s1.e J) s1.b (N0 q own s1.σ) o.op o.type (v.den s2.vl)→AT ops (s1.e J) o.guard=true→GN c ops r (NB q own) (s2.put o.dst v) K→Kx g ops (.yes i r) q (s1.e J) s1.b s1.σ (ki J K):=fun {v s2 own} h2 B9 hy hw hk=>by
     have:=DF hc hk;rw[S.Iz,S.I0,S.Fs,h2.e J,h2.b,h2.σ]at this;exact⟨own,o,v.den s2.vl,B9,ho,.inl ⟨hw,hy⟩,Gj.lt hd,this⟩
    cases b with
    | false=>
     have:=DF hc h;rw[S.Iz,S.I0,S.Fs]at this;exact⟨none,o,undef,ok_none hq,ho,.inr ⟨hw,rfl⟩,Gj.lt hd,by rw[Ee];exact this⟩
    | true=>
     simp only at h;split at h
     ·rename_i T x Kn;obtain⟨m,v,s2,h2,hk,hy⟩:=XJ (ty:=o.type) h;have hy:=hy J;rw[hc.P,←Kn]at hy;split at hk
      ·exact go (own:=none) h2 (ok_none hq) (hy _) hw (by rw[Ee];exact hk)
      ·exact go (own:=none) h2 (ok_none hq) (Yd.up hy) hw (by rw[Ee];exact hk)
      ·rename_i b l;split at hk
       ·rename_i B9;exact go h2 B9 hy hw hk
       ·cases hk
     ·split at h
      ·cases h
      ·have hm:=‹anyM c.P o.op o.type s1=some _›;rw[hc.P]at h hm;obtain⟨v,s2,h2,hy,hk⟩:=T5 hm h;exact go (own:=none) h2 (ok_none hq) (hy J) hw hk
      ·cases h
      ·rw[hc.P]at h;obtain⟨v,s2,h2,hy,hk⟩:=bq (ty:=o.type) h;exact go (own:=none) h2 (ok_none hq) (hy J _) hw (by rw[Ee];exact hk)
 | .alt i r t,q,s,h=>by
  have key:∀{t:Ord},(GN.cG c ops i q s fun s=>GN c ops r (GK q i) s K)→Kx g ops t q (s.e J) s.b s.σ (ki J K)→Kx g ops (.alt i r t) q (s.e J) s.b s.σ (ki J K):=fun {t} h1 h2=>
   ⟨(cH hc h1).mono fun e bx σ ⟨hk,s',e1,e2,e3,h3⟩=>⟨hk,by subst e1 e2 e3;exact DF hc h3⟩,h2⟩
  cases t with
  | no=>exact key h trivial
  | done=>exact key h.1 (DF hc h.2)
  | yes j u=>exact key h.1 (DF hc h.2)
  | alt j u w=>exact key h.1 (DF hc h.2)
 | .no,q,s,h=>trivial
def kl (P:Program)(ops:Array Oper)(m:Nat):Nat→Array Bool→Ord
 | 0,_=>.no
 | f+1,listed=>match (List.range m).all fun i=>listed.getD i false with
  | true=>.done
  | false=>match (Region.ready .any ops listed).find? fun j=>Nat.blt j m&&match ops[j]? with | some o=>!sE P o.op | none=>false with
   | some j=>.yes j (kl P ops m f (listed.setIfInBounds j true))
   | none=>(Region.ready .any ops listed).foldr (fun j acc=>.alt j (kl P ops m f (listed.setIfInBounds j true)) acc) .no
def AEB (c:Cx)(ops:Array Oper)(draw:Bool)(m:Nat)(q:JT)(s:S)(K:S→Prop):Prop:=match draw with
 | false=>yc c ops (List.range ops.size) s K
 | true=>match YM ops m (kl c.P ops m (ops.size+1) (Array.replicate ops.size false)) (List.range' m (ops.size-m)) with
  | true=>GN c ops (kl c.P ops m (ops.size+1) (Array.replicate ops.size false)) q s fun s=>yc c ops (List.range' m (ops.size-m)) s K
  | false=>False
theorem iT {k:List Item}{id m:Nat}{draw:Bool}{q:JT}(hc:c.Ok g)(hm:g.P.follows .mixedOrders=true)(h:AEB c ops draw m q s K)(hk:∀s,K s→At g k (s.e J) s.b s.σ):At g (.code (.region id ops draw)::k) (s.e J) s.b s.σ:=by
 have fin:∀e bx σ,ki J K e bx σ→At g k e bx σ:=fun e bx σ ⟨s',e1,e2,e3,h⟩=>by subst e1 e2 e3;exact hk s' h
 cases draw with
 | false=>
  refine At.region rfl rfl ?_;have:Seq g ops (List.range ops.size) (s.e J) s.b s.σ (ki J K):=PF hc h;exact T9 fin this
 | true=>
  simp only[AEB]at h;split at h
  ·rename_i hp;refine At.AIP hm rfl hp (q:=q) ?_;have:=DF (J:=J) hc h;refine Jj (fun e bx σ ⟨s',e1,e2,e3,h⟩=>?_) this;subst e1 e2 e3;exact T9 fin (PF hc h)
  ·cases h
end
end Tw
end
section
namespace Tw
open Go
variable [Ez]
def node (body:Code):List Bool→Code
 | []=>body
 | false::p=>cl (node body p)
 | true::p=>cr (node body p)
inductive It where
 | c (p:List Bool)
 | Tq (i:Nat)
 | lp (p:List Bool)
 | sc (p:List Bool)
def It.den (body:Code):It→Item
 | .c p=>.code (node body p)
 | .Tq i=>.inBlock i
 | .lp p=>.inLoop (node body p)
 | .sc p=>.inScope (node body p)
def DG (body:Code):List It→List Item
 | []=>[]
 | x::l=>x.den body::DG body l
def Q7:List Bool→List Bool→Bool
 | [],[]=>true
 | a::p,b::q=>(bif a then b else !b)&&Q7 p q
 | _,_=>false
theorem XN:∀{p q:List Bool},Q7 p q=true→p=q
 | [],[],_=>rfl
 | a::p,b::q,h=>by
  simp only[Q7,Abt]at h;rw[XN h.2];cases a<;>cases b<;>simp at h<;>rfl
 | [],_::_,h=>by cases h
 | _::_,[],h=>by cases h
def It.eq:It→It→Bool
 | .c p,.c q=>Q7 p q
 | .Tq i,.Tq j=>Nat.beq i j
 | .lp p,.lp q=>Q7 p q
 | .sc p,.sc q=>Q7 p q
 | _,_=>false
def ko:List It→List It→Bool
 | [],[]=>true
 | x::l,y::m=>x.eq y&&ko l m
 | _,_=>false
theorem cJ:∀{l m:List It},ko l m=true→l=m
 | [],[],_=>rfl
 | x::l,y::m,h=>by
  simp only[ko,Abt]at h;rw[cJ h.2];have:x=y:=by
   cases x<;>cases y<;>simp only[It.eq]at h<;>first
    | (rw[XN h.1])
    | (rw[AcW h.1])
    | (exact absurd h.1 (by simp))
  rw[this]
 | [],_::_,h=>by cases h
 | _::_,[],h=>by cases h
structure Cut where
 todo:List It
 f:S→Prop
def Cut.Ok (g:Gl)(body:Code)(k:Cut):Prop:=∀s J,k.f s→At g (DG body k.todo) (s.e J) s.b s.σ
def ye:List Cut→List It→Option (S→Prop)
 | [],_=>none
 | k::l,t=>match ko k.todo t with
  | true=>some k.f
  | false=>ye l t
theorem kr {g:Gl}{body:Code}:∀{l:List Cut} {t:List It} {f:S→Prop},(∀k∈l,k.Ok g body)→ye l t=some f→∀s J,f s→At g (DG body t) (s.e J) s.b s.σ
 | k::l,t,f,hl,h=>by
  simp only[ye]at h;split at h
  ·rename_i he;cases h;rw[←cJ he];exact hl k (Abv ..)
  ·exact kr (fun k hk=>hl k (Abl _ hk)) h
def R7 (i:Nat):List It→Option (List It)
 | []=>none
 | .Tq j::r=>match Nat.beq i j with
  | true=>some r
  | false=>R7 i r
 | _::r=>R7 i r
def YX (l:Nat):Code→List Bool→Option (List It)
 | .seq a b,p=>match YX l a (false::p) with
  | some r=>some (r++[.c (true::p)])
  | none=>YX l b (true::p)
 | .label j,_=>match Nat.beq j l with
  | true=>some []
  | false=>none
 | _,_=>none
def R8 (body:Code)(l:Nat):List It→Option (List It)
 | []=>none
 | .sc p::r=>match YX l (node body p) p with
  | some m=>some (m++(.sc p::r))
  | none=>R8 body l r
 | _::r=>R8 body l r
structure Fx extends Cx where
 body:Code
 res:List ResultVar
 reg:List (Nat×Nat×Bool)
def sH:List (Nat×Nat×Bool)→Nat→Nat→Nat×JT
 | [],_,m=>(m,some [])
 | (i,m,b)::l,id,z=>match Nat.beq i id with
  | true=>(m,bif b then none else some [])
  | false=>sH l id z
def iU (c:Fx)(s:S):List ResultVar→Option (List SV)
 | []=>some []
 | .tmp t::r=>match YQ s.env t,iU c s r with
  | some v,some l=>some (v::l)
  | _,_=>none
 | .cell p T::r=>match ru (YQ s.env p),iU c s r with
  | some (.bx i 0),some l=>match bp s.bx i,bc c.P T with
   | some (_,cs),some true=>match bZ c.P T with
    | some n=>match decide (cs.length=n) with
     | true=>some (.v (.agg cs)::l)
     | false=>none
    | none=>none
   | some (_,x::_),some false=>some (.at x::l)
   | _,_=>none
  | _,_=>none
def YI (c:Fx)(s:S):Prop:=match iU c s c.res with
 | some l=>c.R (.returned (Tl (CK s.vl l))) s.σ
 | none=>False
def DH (c:Fx)(cuts:List Cut):Nat→Bool→List It→S→Prop
 | 0,_,_,_=>False
 | f+1,first,todo,s=>match (bif first then none else ye cuts todo) with
  | some k=>k s
  | none=>match todo with
   | []=>YI c s
   | .Tq _::r=>DH c cuts f false r s
   | .lp p::r=>DH c cuts f false (.c p::.lp p::r) s
   | .sc _::r=>DH c cuts f false r s
   | .c p::r=>match node c.body p with
    | .skip=>DH c cuts f false r s
    | .seq _ _=>DH c cuts f false (.c (false::p)::.c (true::p)::r) s
    | .block i _=>DH c cuts f false (.c (false::p)::.Tq i::r) s
    | .loop _=>DH c cuts f false (.c (false::p)::.lp (false::p)::r) s
    | .exit i=>match R7 i r with
     | some r=>DH c cuts f false r s
     | none=>False
    | .scope _=>DH c cuts f false (.c (false::p)::.sc (false::p)::r) s
    | .label _=>DH c cuts f false r s
    | .goto l=>match R8 c.body l r with
     | some r=>DH c cuts f false r s
     | none=>False
    | .cond x _ _=>s.yX (s.op x) fun t s=>DH c cuts f false (.c ((!t)::p)::r) s
    | .ret=>YI c s
    | .region id ops draw=>AEB c.toCx ops draw (sH c.reg id ops.size).1 (sH c.reg id ops.size).2 s fun s=>DH c cuts f false r s
    | _=>False
structure Fx.Ok (c:Fx)(g:Gl)(fn:Func):Prop where
 cx:c.toCx.Ok g
 mixed:g.P.follows .mixedOrders=true
 fnc:g.P.funcs[g.f]?=some fn
 res:fn.results=c.res.toArray
 HU:g.HU=none
 ds:g.ds=[]
section
variable {g:Gl}{c:Fx}{fn:Func}{cuts:List Cut}{J:Env}
theorem HZ (hP:c.P=g.P){s:S}:∀{rs:List ResultVar} {l:List SV},iU c s rs=some l→H6 g.P (s.e J) s.b s.σ rs (CK s.vl l)
 | [],l,h=>by simp only[iU,Abg]at h;subst h;rfl
 | .tmp t::r,l,h=>by
  simp only[iU]at h;split at h
  ·rename_i v l' h1 h2;cases h;refine⟨_,?_,HZ hP h2⟩;rw[show s.e J t=v.den s.vl from Ef h1];rfl
  ·cases h
 | .cell p T::r,l,h=>by
  simp only[iU]at h;split at h
  ·rename_i i l' h1 h2;obtain⟨u,e1,e2⟩:=FB h1;have hp:s.e J p=.pointer (some ⟨nth 0 s.vl.δ i,0,none⟩):=(Ef e1).trans (e2 _);split at h
   ·rename_i t cs hb ha;split at h
    ·rename_i n hn;split at h
     ·rename_i hd;have hd:=Abm hd;cases h;rw[hP]at ha hn;exact⟨_,_,rfl,⟨_,hp,rO (FA ha) (CZ hn) (by simp[DE];exact hd) (Ky hb)⟩,HZ hP h2⟩
     ·cases h
    ·cases h
   ·rename_i t x cs hb ha;cases h;rw[hP]at ha;exact⟨_,_,rfl,⟨_,hp,yN (FA ha) (Ky hb) rfl⟩,HZ hP h2⟩
   ·cases h
  ·cases h
theorem I4 {body:Code}{i:Nat}:∀{r r':List It},R7 i r=some r'→exitTo i (DG body r)=some (DG body r')
 | .Tq j::r,r',h=>by
  simp only[R7]at h;split at h
  ·rename_i he;cases h;have:=AcW he;subst this;simp[DG,It.den,exitTo]
  ·rename_i he;have A8:i≠j:=fun e=>by subst e;rw[AfF]at he;cases he
   simp only[DG,It.den,exitTo];rw[Abd (by simpa using Aby A8)];exact I4 h
 | .c p::r,r',h=>by simp only[R7]at h;simp only[DG,It.den,exitTo];exact I4 h
 | .lp p::r,r',h=>by simp only[R7]at h;simp only[DG,It.den,exitTo];exact I4 h
 | .sc p::r,r',h=>by simp only[R7]at h;simp only[DG,It.den,exitTo];exact I4 h
theorem UB {body:Code}:∀{l m:List It},DG body (l++m)=DG body l++DG body m
 | [],_=>rfl
 | x::l,m=>by simp only[Acj,DG,UB]
theorem Mo {l:Nat}:∀{x:Code} {p:List Bool},YX l x p=none→findLabel x l=none
 | .seq a b,p,h=>by
  simp only[YX]at h;split at h
  ·cases h
  ·rename_i h1;simp only[findLabel,Mo h1,Mo h]
 | .label j,p,h=>by
  simp only[YX]at h;split at h
  ·cases h
  ·rename_i h1;have:j≠l:=fun e=>by subst e;rw[AfF]at h1;cases h1
   simp[findLabel,this]
 | .skip,p,h=>rfl
 | .region ..,p,h=>rfl
 | .cond ..,p,h=>rfl
 | .block ..,p,h=>rfl
 | .loop ..,p,h=>rfl
 | .rangeFunc ..,p,h=>rfl
 | .exit ..,p,h=>rfl
 | .scope ..,p,h=>rfl
 | .goto ..,p,h=>rfl
 | .ret,p,h=>rfl
 | .refuse ..,p,h=>rfl
theorem UC {l:Nat}{body:Code}:∀{x:Code} {p:List Bool} {m:List It},node body p=x→YX l x p=some m→∃rest,findLabel x l=some rest∧∀{k:List Item} {e:Env} {bx:Bx} {σ:Hp},At g (DG body m++k) e bx σ→At g (.code rest::k) e bx σ
 | .seq a b,p,m,hx,h=>by
  simp only[YX]at h;split at h
  ·rename_i r h1;cases h;obtain⟨rest,e1,e2⟩:=UC (body:=body) (x:=a) (p:=false::p) (by simp only[node,hx,cl]) h1;refine⟨.seq rest b,by simp only[findLabel,e1],fun h=>At.seq rfl (e2 ?_)⟩;rw[UB,AcA]at h;simp only[DG,It.den,node,hx,cr,Acj,Ach]at h;exact h
  ·rename_i h1;obtain⟨rest,e1,e2⟩:=UC (body:=body) (x:=b) (p:=true::p) (by simp only[node,hx,cr]) h;exact⟨rest,by simp only[findLabel,Mo h1,e1],e2⟩
 | .label j,p,m,hx,h=>by
  simp only[YX]at h;split at h
  ·rename_i h1;cases h;have:=AcW h1;subst this;exact⟨.skip,by simp[findLabel],fun h=>At.skip h⟩
  ·cases h
theorem I5 {l:Nat}{body:Code}:∀{r r':List It},R8 body l r=some r'→∃k',gotoIn l (DG body r)=some k'∧∀{e:Env} {bx:Bx} {σ:Hp},At g (DG body r') e bx σ→At g k' e bx σ
 | .sc p::r,r',h=>by
  simp only[R8]at h;split at h
  ·rename_i m h1;cases h;obtain⟨rest,e1,e2⟩:=UC (g:=g) rfl h1;refine⟨.code rest::.inScope (node body p)::DG body r,by simp only[DG,It.den,gotoIn,e1],fun h=>e2 ?_⟩;rw[UB]at h;exact h
  ·rename_i h1;obtain⟨k',e1,e2⟩:=I5 h;exact⟨k',by simp only[DG,It.den,gotoIn,Mo h1,e1],e2⟩
 | .c p::r,r',h=>by simp only[R8]at h;simp only[DG,It.den,gotoIn];exact I5 h
 | .lp p::r,r',h=>by simp only[R8]at h;simp only[DG,It.den,gotoIn];exact I5 h
 | .Tq p::r,r',h=>by simp only[R8]at h;simp only[DG,It.den,gotoIn];exact I5 h
theorem A1 (hc:c.Ok g fn)(hk:∀k∈cuts,k.Ok g c.body):∀{f:Nat} {first:Bool} {todo:List It} {s:S},DH c cuts f first todo s→At g (DG c.body todo) (s.e J) s.b s.σ
 | 0,_,_,_,h=>h.elim
 | f+1,first,todo,s,h=>by
  have hl:∀σ,left g.ds σ=σ:=fun σ=>by rw[hc.ds];rfl
  have hmk:Marks g.ds s.σ:=by rw[hc.ds];trivial
  simp only[DH]at h;split at h
  ·rename_i k AIa;cases first with
   | true=>cases AIa
   | false=>exact kr hk AIa s J h
  ·split at h
   ·unfold YI at h;split at h
    ·rename_i l R9;rw[hc.cx.R]at h;exact At.bQ hc.fnc hc.res (by rw[hl];exact HZ hc.cx.P R9) (by rw[hl];exact h) hc.HU hmk
    ·cases h
   ·exact At.inBlock (A1 hc hk h)
   ·exact At.inLoop (A1 hc hk h)
   ·exact At.inScope (A1 hc hk h)
   ·rename_i p r _;have e:DG c.body (.c p::r)=.code (node c.body p)::DG c.body r:=rfl;rw[e];split at h
    ·rename_i hn;rw[hn];exact At.skip (A1 hc hk h)
    ·rename_i a b hn;refine At.seq hn ?_;have:=A1 hc hk h;simp only[DG,It.den,node,hn,cl,cr]at this;exact this
    ·rename_i i a hn;refine At.block hn ?_;have:=A1 hc hk h;simp only[DG,It.den,node,hn,cl]at this;exact this
    ·rename_i a hn;refine At.loop hn ?_;have:=A1 hc hk h;simp only[DG,It.den,node,hn,cl]at this;exact this
    ·rename_i i hn;split at h
     ·rename_i r' hr;exact At.exit hn (I4 hr) (A1 hc hk h)
     ·cases h
    ·rename_i a hn;refine At.scope hn ?_;have:=A1 hc hk h;simp only[DG,It.den,node,hn,cl]at this;exact this
    ·rename_i l hn;rw[hn];exact At.label (A1 hc hk h)
    ·rename_i l hn;split at h
     ·rename_i r' hr;obtain⟨k',e1,e2⟩:=I5 (g:=g) hr;exact At.goto hn e1 (e2 (A1 hc hk h))
     ·cases h
    ·rename_i x a b hn;obtain⟨t,s',v,h1,h2,h3,h4,h⟩:=S.Ft h;have hx:AB (s.e J) x=.bool t:=by rw[ev h3,h4]
     have:=A1 hc hk h;rw[h1.e J,h1.b,h1.σ]at this;cases t with
     | true=>
      refine At.ABR hn hx ?_;simp only[DG,It.den,node,hn,cl,Bool.not_true]at this;exact this
     | false=>
      refine At.ABS hn hx ?_;simp only[DG,It.den,node,hn,cr,Bool.not_false]at this;exact this
    ·rename_i hn;unfold YI at h;split at h
     ·rename_i l R9;rw[hc.cx.R]at h;exact At.YI hn hc.fnc hc.res (by rw[hl];exact HZ hc.cx.P R9) (by rw[hl];exact h) hc.HU hmk
     ·cases h
    ·rename_i id ops draw hn;rw[hn];exact iT hc.cx hc.mixed h fun s' h'=>A1 hc hk h'
    ·cases h
end
def S.nP (s:S):List Nat→Option (List Value)
 | []=>some []
 | t::l=>match YQ s.env t,s.nP l with
  | some v,some r=>some (v.den s.vl::r)
  | _,_=>none
theorem XO {s:S}{J:Env}:∀{l:List Nat} {vs:List Value},s.nP l=some vs→Live (s.e J) (l.zip vs)
 | [],vs,h=>by simp only[S.nP,Abg]at h;subst h;trivial
 | t::l,vs,h=>by
  simp only[S.nP]at h;split at h
  ·rename_i v r h1 h2;cases h;exact⟨Ef h1,XO h2⟩
  ·cases h
def ks (i:Nat):List Fq→Option (Fq×List Fq)
 | []=>none
 | x::l=>match Nat.beq x.1 i with
  | true=>some (x,l)
  | false=>ks i l
def ABe:Option SV→Option Nat
 | some (.v (.a (.pt (.bx i 0))))=>some i
 | _=>none
def S.YY (s:S):List Nat→List Fq→Option (List Fq)
 | [],_=>some []
 | t::l,bx=>match ABe (YQ s.env t) with
  | some i=>match ks i bx with
   | some (x,r)=>match s.YY l r with
    | some m=>some (x::m)
    | none=>none
   | none=>none
  | none=>none
def UD (vl:Vl):List Nat→List Fq→List (Nat×Value)
 | t::l,x::r=>(t,.pointer (some ⟨nth 0 vl.δ x.1,0,none⟩))::UD vl l r
 | _,_=>[]
theorem XP {vl:Vl}{i:Nat}:∀{l r:List Fq} {x:Fq},ks i l=some (x,r)→x.1=i∧∀m:List Fq,(E9 vl m).Sublist (E9 vl r)→(E9 vl (x::m)).Sublist (E9 vl l)
 | y::l,r,x,h=>by
  simp only[ks]at h;split at h
  ·rename_i he;cases h;exact⟨AcW he,fun m hm=>List.Sublist.cons_cons _ hm⟩
  ·obtain⟨h1,h2⟩:=XP (vl:=vl) h;exact⟨h1,fun m hm=>List.Sublist.cons _ (h2 m hm)⟩
theorem cK {s:S}{J:Env}:∀{l:List Nat} {bx B:List Fq},s.YY l bx=some B→(E9 s.vl B).Sublist (E9 s.vl bx)∧Live (s.e J) (UD s.vl l B)
 | [],bx,B,h=>by simp only[S.YY,Abg]at h;subst h;exact⟨List.nil_sublist _,trivial⟩
 | t::l,bx,B,h=>by
  simp only[S.YY]at h;split at h
  ·rename_i i hi;split at h
   ·rename_i x r hx;split at h
    ·rename_i m hm;cases h;obtain⟨h1,h2⟩:=XP (vl:=s.vl) hx;obtain⟨h3,h4⟩:=cK (s:=s) (J:=J) hm;refine⟨h2 m h3,?_,h4⟩;unfold ABe at hi;split at hi
     ·rename_i hg;cases hi;rw[h1];exact Ef hg
     ·cases hi
    ·cases h
   ·cases h
  ·cases h
theorem Live.app {e:Env}:∀{l m:List (Nat×Value)},Live e l→Live e m→Live e (l++m)
 | [],_,_,h=>h
 | (_,_)::_,_,h,g=>⟨h.1,Live.app h.2 g⟩
theorem At.AIb {g:Gl}{k:List Item}{s:S}{J:Env}{l bl:List Nat}{vs:List Value}{B:List Fq}(h:s.nP l=some vs)(hb:s.YY bl s.bx=some B)(hk:∀J,At g k (Kc J (UD s.vl bl B++l.zip vs)) (E9 s.vl B) s.σ):At g k (s.e J) s.b s.σ:=by
 obtain⟨h1,h2⟩:=cK (J:=J) hb;exact At.sub h1 (At.live (h2.app (XO h)) (hk _))
def UE:Nat→List Value→List (Nat×Value)
 | _,[]=>[]
 | k,v::l=>(k,v)::UE (k+1) l
theorem UF {e:Env}:∀{l:List Value} {k:Nat},(∀j v,l[j]?=some v→e (k+j)=v)→Live e (UE k l)
 | [],_,_=>trivial
 | v::l,k,h=>⟨h 0 v rfl,UF fun j u hj=>by rw[show k+1+j=k+(j+1) by omega];exact h (j+1) u (by simpa using hj)⟩
theorem Spec.walk {P:Program}{f:FuncId}{fn:Func}{R:Rr}{args:Array Value}{n fuel:Nat}(c:Fx)(cuts:List Cut)(s:S)(hc:c.Ok (Gl.fn P f n R) fn)(hb:fn.body=some c.body)(hnt:fn.ntmps=n)(hn:Nat.ble args.size n=true)
  (hk:∀k∈cuts,k.Ok (Gl.fn P f n R) c.body) (he:Ht s.vl s.env=UE 0 args.toList) (hbx:s.bx=[]) (h:DH c cuts fuel true [.c []] s):Spec P f args s.σ R:=by
 subst hnt;refine Spec.Ti hc.fnc hb (AcS hn) fun e hee=>?_;have hl:Live e (Ht s.vl s.env):=by
  rw[he];refine UF fun j v hj=>?_;rw[Acl,hee];simp only[Adh];rw[←AcE,hj];rfl
 have:=A1 (J:=e) hc hk h;have Kg:s.b=[]:=by rw[S.b,hbx];rfl
 rw[Kg]at this;exact At.live hl this
end Tw
end
section
namespace Tw
open Go
variable [Ez]
inductive Dv where
 | I (k:IntKind) (x:Int)
 | B (t:Bool)
 | T (x:ByteArray)
 | L (p:Option Addr) (n c:Nat)
 | Q (p:Option Addr)
 | A (b:Nat)
 | M (x:Option Nat)
 | V (x:Value)
def Dv.den:Dv→Value
 | .I k x=>.int k x
 | .B t=>.bool t
 | .T x=>.string x
 | .L p n c=>.slice p n c
 | .Q p=>.pointer p
 | .A b=>.pointer (some ⟨b,0,none⟩)
 | .M x=>.map x
 | .V x=>x
def cL:List Dv→List Value
 | []=>[]
 | x::l=>x.den::cL l
inductive Dw where
 | o (x:Dv)
 | G (l:List Dv)
 | U (l:List Dv)
 | X (T:TypeId) (l:List Dv)
def Dw.den:Dw→Value
 | .o x=>x.den
 | .G l=>.agg (cL l).toArray
 | .U l=>.tuple (cL l).toArray
 | .X _ _=>undef
structure Nm where
 ρ:List (Option Addr)
 β:List BK
structure Nm.le (n:Nm)(v:Vl):Prop where
 ρ:∀i,i<n.ρ.length→nth none v.ρ i=nth none n.ρ i
 β:∀i,i<n.β.length→nth (.var false) v.β i=nth (.var false) n.β i
def Dv.sym:Dv→Nm→Bs×Nm
 | .I k x,n=>(.int k x,n)
 | .B t,n=>(.bs (T7 n.β) false,⟨n.ρ,n.β++[.var t]⟩)
 | .T x,n=>(.str x,n)
 | .L p k c,n=>(.sl (.var (T7 n.ρ)) k c,⟨n.ρ++[p],n.β⟩)
 | .Q p,n=>(.pt (.var (T7 n.ρ)),⟨n.ρ++[p],n.β⟩)
 | .A b,n=>(.pt (.at b 0),n)
 | .M x,n=>(.mp x,n)
 | .V x,n=>(.raw x,n)
theorem Nm.AIc {n:Nm}{v:Vl}{p:Option Addr}(h:Nm.le ⟨n.ρ++[p],n.β⟩ v):n.le v∧nth none v.ρ (T7 n.ρ)=p:=by
 refine⟨⟨fun i hi=>(h.ρ i (by simp only[Abq];omega)).trans (Mm hi),h.β⟩,?_⟩;rw[TH,h.ρ _ (by simp)];exact Mn
theorem Nm.AQX {n:Nm}{v:Vl}{p:BK}(h:Nm.le ⟨n.ρ,n.β++[p]⟩ v):n.le v∧nth (.var false) v.β (T7 n.β)=p:=by
 refine⟨⟨h.ρ,fun i hi=>(h.β i (by simp only[Abq];omega)).trans (Mm hi)⟩,?_⟩;rw[TH,h.β _ (by simp)];exact Mn
theorem Dv.Q8 {x:Dv}{n:Nm}{v:Vl}(h:(x.sym n).2.le v):(x.sym n).1.den v=x.den∧n.le v:=by
 cases x with
 | B t=>obtain⟨h1,h2⟩:=Nm.AQX h;exact⟨by simp only[Dv.sym,Bs.den,h2];rfl,h1⟩
 | L p k c=>obtain⟨h1,h2⟩:=Nm.AIc h;exact⟨by simp only[Dv.sym,Bs.den,PV.den,h2];rfl,h1⟩
 | Q p=>obtain⟨h1,h2⟩:=Nm.AIc h;exact⟨by simp only[Dv.sym,Bs.den,PV.den,h2];rfl,h1⟩
 | _=>exact⟨rfl,h⟩
def cM:List Dv→Nm→List Bs×Nm
 | [],n=>([],n)
 | x::l,n=>match x.sym n with
  | (a,n)=>match cM l n with
   | (r,n)=>(a::r,n)
theorem TI {v:Vl}:∀{l:List Dv} {n:Nm},(cM l n).2.le v→BF v (cM l n).1=cL l∧n.le v
 | [],n,h=>⟨rfl,h⟩
 | x::l,n,h=>by
  obtain⟨h1,h2⟩:=TI (l:=l) (n:=(x.sym n).2) h;obtain⟨h3,h4⟩:=Dv.Q8 h2;exact⟨by simp only[cM,BF,cL,h3];rw[←h1],h4⟩
def atoms:List Bs→List HG
 | []=>[]
 | x::l=>.a x::atoms l
theorem XQ {v:Vl}:∀l,IC v (atoms l)=BF v l
 | []=>rfl
 | x::l=>by simp only[atoms,IC,BF];rw[XQ l];rfl
def Dw.sym:Dw→Nm→SV×Nm
 | .o x,n=>match x.sym n with | (a,n)=>(.v (.a a),n)
 | .G l,n=>match cM l n with | (a,n)=>(.v (.agg a),n)
 | .U l,n=>match cM l n with | (a,n)=>(.W7 (atoms a),n)
 | .X _ _,n=>(.v (.a .un),n)
theorem Dw.Q8 {x:Dw}{n:Nm}{v:Vl}(h:(x.sym n).2.le v):(x.sym n).1.den v=x.den∧n.le v:=by
 cases x with
 | o x=>exact Dv.Q8 (x:=x) h
 | G l=>obtain⟨h1,h2⟩:=TI (l:=l) h;exact⟨by simp only[Dw.sym,SV.den,HG.den,Dw.den];rw[←h1],h2⟩
 | U l=>obtain⟨h1,h2⟩:=TI (l:=l) h;exact⟨by simp only[Dw.sym,SV.den,Dw.den];rw[XQ,←h1],h2⟩
 | X T l=>exact⟨rfl,h⟩
abbrev Bv:=Nat×TypeId×List Dv
def Sj:List (Nat×Dw)→List (Nat×Value)
 | []=>[]
 | (_,.X _ _)::l=>Sj l
 | (t,x)::l=>(t,x.den)::Sj l
def Q9:List (Nat×Dw)→Nm→List (Nat×SV)×Nm
 | [],n=>([],n)
 | (_,.X _ _)::l,n=>Q9 l n
 | (t,x)::l,n=>match x.sym n with
  | (a,n)=>match Q9 l n with
   | (r,n)=>((t,a)::r,n)
theorem Mp {v:Vl}:∀{l:List (Nat×Dw)} {n:Nm},(Q9 l n).2.le v→Ht v (Q9 l n).1=Sj l∧n.le v
 | [],n,h=>⟨rfl,h⟩
 | (t,.o x)::l,n,h=>by
  obtain⟨h1,h2⟩:=Mp (l:=l) (n:=((Dw.o x).sym n).2) h;obtain⟨h3,h4⟩:=Dw.Q8 h2;exact⟨by simp only[Q9,Ht,Sj,h3];rw[←h1],h4⟩
 | (t,.G x)::l,n,h=>by
  obtain⟨h1,h2⟩:=Mp (l:=l) (n:=((Dw.G x).sym n).2) h;obtain⟨h3,h4⟩:=Dw.Q8 h2;exact⟨by simp only[Q9,Ht,Sj,h3];rw[←h1],h4⟩
 | (t,.U x)::l,n,h=>by
  obtain⟨h1,h2⟩:=Mp (l:=l) (n:=((Dw.U x).sym n).2) h;obtain⟨h3,h4⟩:=Dw.Q8 h2;exact⟨by simp only[Q9,Ht,Sj,h3];rw[←h1],h4⟩
 | (_,.X T x)::l,n,h=>Mp (l:=l) (n:=n) h
def Kh:List (Nat×Dw)→List Bv→List Bv
 | [],r=>r
 | (t,.X T l)::m,r=>Kh m ((t,T,l)::r)
 | _::m,r=>Kh m r
def cP:List Bv→Nat→Nm→List Fq×Nm
 | [],_,n=>([],n)
 | (_,T,l)::m,j,n=>match cM l n with
  | (a,n)=>match cP m (j+1) n with
   | (r,n)=>((j,T,a)::r,n)
def yf:List Bv→Nat→List (Nat×SV)
 | [],_=>[]
 | (t,_,_)::m,j=>(t,.v (.a (.pt (.bx j 0))))::yf m (j+1)
abbrev Bw:=Nat×TypeId×List Value
def Wh:List Bv→List Bw
 | []=>[]
 | (t,T,l)::m=>(t,T,cL l)::Wh m
def iV:List Bw→List Nat→List (Nat×Value)
 | (t,_,_)::m,b::δ=>(t,.pointer (some ⟨b,0,none⟩))::iV m δ
 | _,_=>[]
def bxV:List Bw→List Nat→Bx
 | (_,T,l)::m,b::δ=>(b,.cells l.toArray T (0,0))::bxV m δ
 | _,_=>[]
def PB:List Bw→(List Nat→Prop)→Prop
 | [],K=>K []
 | _::m,K=>∀b:Nat,PB m fun δ=>K (b::δ)
theorem sI:∀{l:List Bw} {K:List Nat→Prop},PB l K→∀δ,δ.length=l.length→K δ
 | [],K,h,[],_=>h
 | _::m,K,h,b::δ,hl=>sI (h b) δ (by simpa using hl)
theorem sJ:∀{l:List Bw} {K:List Nat→Prop},(∀δ,δ.length=l.length→K δ)→PB l K
 | [],K,h=>h [] rfl
 | _::m,K,h=>fun b=>sJ fun δ hl=>h (b::δ) (by simp[hl])
def PTv (g:Gl)(td:List Item)(bs:List Bw)(ts:List (Nat×Value))(σ:Hp):Prop:=
 ∀J:Env,PB bs fun δ=>At g td (Kc J (iV bs δ++ts)) (bxV bs δ) σ
theorem kt {δ0:List Nat}{v:Vl}:∀{m:List Bv} {j:Nat} {n:Nm} {δ:List Nat},δ.length=m.length→(∀i,i<δ.length→nth 0 v.δ (j+i)=nth 0 δ i)→(cP m j n).2.le v→
  E9 v (cP m j n).1=bxV (Wh m) δ∧Ht v (yf m j)=iV (Wh m) δ∧n.le v
 | [],j,n,[],_,_,h=>⟨rfl,rfl,h⟩
 | (t,T,l)::m,j,n,b::δ,hl,hd,h=>by
  obtain⟨h1,h2,h3⟩:=kt (δ0:=δ0) (m:=m) (j:=j+1) (n:=(cM l n).2) (δ:=δ) (by simpa using hl) (fun i hi=>by
   have:=hd (i+1) (by simpa using hi);rw[show j+1+i=j+(i+1) by omega];exact this) h
  obtain⟨h4,h5⟩:=TI h3;have hb:nth 0 v.δ j=b:=hd 0 (by simp);refine⟨?_,?_,h5⟩
  ·simp only[cP,E9,Wh,bxV,hb,h4];rw[←h1]
  ·simp only[yf,Ht,Wh,iV,SV.den,HG.den,Bs.den,PV.den,hb];rw[h2]
def nQ (D:List (Nat×Dw))(δ:List Nat)(σ:Hp):S:=match Q9 D ⟨[],[]⟩ with
 | (e,n)=>match Kh D [] with
  | bs=>match cP bs 0 n with
   | (x,n)=>⟨yf bs 0++e,x,⟨n.ρ,n.β,δ⟩,σ⟩
theorem cQ {v:Vl}:∀{l m:List (Nat×SV)},Ht v (l++m)=Ht v l++Ht v m
 | [],_=>rfl
 | (t,x)::l,m=>by simp only[Acj,Ht];rw[cQ]
theorem AED {D:List (Nat×Dw)}{δ:List Nat}{σ:Hp}{J:Env}(hl:δ.length=(Kh D []).length):
  (nQ D δ σ).e J=Kc J (iV (Wh (Kh D [])) δ++Sj D)∧(nQ D δ σ).b=bxV (Wh (Kh D [])) δ:=by
 have hle:(cP (Kh D []) 0 (Q9 D ⟨[],[]⟩).2).2.le ⟨(cP (Kh D []) 0 (Q9 D ⟨[],[]⟩).2).2.ρ,(cP (Kh D []) 0 (Q9 D ⟨[],[]⟩).2).2.β,δ⟩:=⟨fun _ _=>rfl,fun _ _=>rfl⟩;obtain⟨h1,h2,h3⟩:=kt (δ0:=[]) (δ:=δ) hl (fun i _=>by rw[Acl]) hle;obtain⟨h4,_⟩:=Mp h3;exact⟨by simp only[nQ,S.e,cQ];rw[h2,h4],h1⟩
def AId:Nat→Nat→List Bool
 | 0,_=>[]
 | f+1,n=>match Nat.ble n 1 with
  | true=>[]
  | false=>Nat.beq (n%2) 1::AId f (n/2)
def pth (n:Nat):List Bool:=AId 400 n
def PH (body:Code):List Bool→List It
 | []=>[]
 | t::p=>match node body p with
  | .seq _ _=>bif t then PH body p else .c (true::p)::PH body p
  | .block i _=>.Tq i::PH body p
  | .loop _=>.lp (false::p)::PH body p
  | .scope _=>.sc (false::p)::PH body p
  | _=>PH body p
def yh (body:Code)(n:Nat):List It:=.c (pth n)::PH body (pth n)
inductive Sh where
 | I (k:IntKind) | B | T | L | Q | A | M | V
inductive Sw where
 | o (x:Sh)
 | G (l:List Sh)
 | U (l:List Sh)
 | X (T:TypeId) (l:List Sh)
abbrev ArS:Sh→Type→Type
 | .I _,C=>Int→C
 | .B,C=>Bool→C
 | .T,C=>ByteArray→C
 | .L,C=>Option Addr→Nat→Nat→C
 | .Q,C=>Option Addr→C
 | .A,C=>Nat→C
 | .M,C=>Option Nat→C
 | .V,C=>Value→C
def AIe {C:Type}:(x:Sh)→(Dv→C)→ArS x C
 | .I k,K=>fun x=>K (.I k x)
 | .B,K=>fun x=>K (.B x)
 | .T,K=>fun x=>K (.T x)
 | .L,K=>fun p n c=>K (.L p n c)
 | .Q,K=>fun x=>K (.Q x)
 | .A,K=>fun x=>K (.A x)
 | .M,K=>fun x=>K (.M x)
 | .V,K=>fun x=>K (.V x)
abbrev ArL:List Sh→Type→Type
 | [],A=>A
 | x::l,A=>ArS x (ArL l A)
def yi {A:Type}:(l:List Sh)→(List Dv→A)→ArL l A
 | [],K=>K []
 | x::l,K=>AIe x fun d=>yi l fun r=>K (d::r)
abbrev ArW:Sw→Type→Type
 | .o x,C=>ArS x C
 | .G l,C=>ArL l C
 | .U l,C=>ArL l C
 | .X _ l,C=>ArL l C
def AQZ {A:Type}:(x:Sw)→(Dw→A)→ArW x A
 | .o x,K=>AIe x fun d=>K (.o d)
 | .G l,K=>yi l fun d=>K (.G d)
 | .U l,K=>yi l fun d=>K (.U d)
 | .X T l,K=>yi l fun d=>K (.X T d)
abbrev Ar:List (Nat×Sw)→Type→Type
 | [],A=>A
 | (_,x)::l,A=>ArW x (Ar l A)
def cur {A:Type}:(l:List (Nat×Sw))→(List (Nat×Dw)→A)→Ar l A
 | [],K=>K []
 | (t,x)::l,K=>AQZ x fun d=>cur l fun r=>K ((t,d)::r)
structure Fw where
 P:Program
 f:Nat
 fn:Func
 Jf:List Nat
 hid:List Nat
 wr:Bool
 reg:List (Nat×Nat×Bool)
 PE:List (Nat×TypeId)
 cuts:List (Nat×List (Nat×Sw))
def Fw.K (M:Fw):Code:=M.fn.body.getD .skip
def Fw.gl (M:Fw)(R:Rr):Gl:=Gl.fn M.P M.f M.fn.ntmps R
def Fw.cx (M:Fw)(R:Rr):Fx:={ P:=M.P,R:=R,Jf:=M.Jf,hid:=M.hid,wr:=M.wr,n:=M.fn.ntmps,body:=M.K,res:=M.fn.results.toList,reg:=M.reg,PE:=M.PE }
def cR (vl:Vl):List Nat→List Fq→List Bw
 | t::l,x::r=>(t,x.2.1,BF vl x.2.2)::cR vl l r
 | _,_=>[]
def tmps:List (Nat×Sw)→List Nat
 | []=>[]
 | (_,.X _ _)::l=>tmps l
 | (t,_)::l=>t::tmps l
def sK:List (Nat×Sw)→List Nat→List Nat
 | [],r=>r
 | (t,.X _ _)::l,r=>sK l (t::r)
 | _::l,r=>sK l r
def Fw.cut (M:Fw)(R:Rr)(c:Nat×List (Nat×Sw)):Cut:=⟨yh M.K c.1,fun s=>match s.nP (tmps c.2),s.YY (sK c.2 []) s.bx with
 | some vs,some B=>PTv (M.gl R) (DG M.K (yh M.K c.1)) (cR s.vl (sK c.2 []) B) ((tmps c.2).zip vs) s.σ
 | _,_=>False⟩
def Wi (M:Fw)(R:Rr):List (Nat×List (Nat×Sw))→List Cut
 | []=>[]
 | c::l=>M.cut R c::Wi M R l
def Fw.ptD (M:Fw)(at_:Nat)(R:Rr)(D:List (Nat×Dw))(σ:Hp):Prop:=PTv (M.gl R) (DG M.K (yh M.K at_)) (Wh (Kh D [])) (Sj D) σ
noncomputable def Fw.pt (M:Fw)(i:Nat)(R:Rr):Ar (nth (0,[]) M.cuts i).2 (Hp→Prop):=cur (nth (0,[]) M.cuts i).2 (M.ptD (nth (0,[]) M.cuts i).1 R)
structure Fw.Ok (M:Fw):Prop where
 E:AG M.P M.Jf
 mixed:M.P.follows .mixedOrders=true
 fnc:M.P.funcs[M.f]?=some M.fn
 body:M.fn.body.isSome=true
theorem Fw.ABf {M:Fw}{R:Rr}(h:M.Ok):(M.cx R).Ok (M.gl R) M.fn:=⟨⟨rfl,rfl,h.E,rfl,rfl,rfl⟩,h.mixed,h.fnc,rfl,rfl,rfl⟩
theorem cS {vl:Vl}:∀{l:List Nat} {B:List Fq},∃δ:List Nat,δ.length=(cR vl l B).length∧iV (cR vl l B) δ=UD vl l B∧(l.length=B.length→bxV (cR vl l B) δ=E9 vl B)
 | [],[]=>⟨[],rfl,rfl,fun _=>rfl⟩
 | [],_::_=>⟨[],rfl,rfl,fun h=>by simp at h⟩
 | _::_,[]=>⟨[],rfl,rfl,fun h=>by simp at h⟩
 | t::l,(i,T,cs)::B=>by
  obtain⟨δ,h1,h2,h3⟩:=cS (vl:=vl) (l:=l) (B:=B);exact⟨nth 0 vl.δ i::δ,by simp[cR,h1],by simp only[cR,iV,UD];rw[h2],fun h=>by simp only[cR,bxV,E9];rw[h3 (by simpa using h)]⟩
theorem cU {s:S}:∀{l:List Nat} {bx B:List Fq},s.YY l bx=some B→l.length=B.length
 | [],bx,B,h=>by simp only[S.YY,Abg]at h;subst h;rfl
 | t::l,bx,B,h=>by
  simp only[S.YY]at h;split at h
  ·split at h
   ·split at h
    ·rename_i m hm;cases h;simp[cU hm]
    ·cases h
   ·cases h
  ·cases h
theorem Fw.AEF (M:Fw)(R:Rr)(c:Nat×List (Nat×Sw)):(M.cut R c).Ok (M.gl R) M.K:=fun s J h=>by
 simp only[Fw.cut]at h;split at h
 ·rename_i vs B h1 h2;obtain⟨δ,e1,e2,e3⟩:=cS (vl:=s.vl) (l:=sK c.2 []) (B:=B);refine At.AIb h1 h2 fun J=>?_;have:=sI (h J) δ e1;rw[e2,e3 (cU h2)]at this;exact this
 ·cases h
theorem YZ {M:Fw}{R:Rr}:∀{l:List (Nat×List (Nat×Sw))},∀k∈Wi M R l,k.Ok (M.gl R) M.K
 | c::l,k,hk=>by
  rcases Abh.1 hk with rfl|hk
  ·exact M.AEF R c
  ·exact YZ k hk
theorem cV:∀{l:List Bv},(Wh l).length=l.length
 | []=>rfl
 | _::m=>by simp only[Wh,Abk];rw[cV]
def PX (F:Prop):List Bv→(List Nat→Prop)→Prop
 | [],K=>F=K []
 | _::m,K=>∀b:Nat,PX F m fun δ=>K (b::δ)
theorem sL {F:Prop}(h:F):∀{l:List Bv} {K:List Nat→Prop},PX F l K→∀δ,δ.length=l.length→K δ
 | [],K,e,[],_=>e▸h
 | _::m,K,e,b::δ,hl=>sL h (e b) δ (by simpa using hl)
theorem Fw.ofB {M:Fw}{R:Rr}{at_:Nat}{D:List (Nat×Dw)}{σ:Hp}{F:Prop}(h:F)(ok:M.Ok)(e:PX F (Kh D []) fun δ=>DH (M.cx R) (Wi M R M.cuts) 4000 true (yh M.K at_) (nQ D δ σ)):M.ptD at_ R D σ:=fun J=>by
 refine sJ fun δ hl=>?_;rw[cV]at hl;have:=A1 (J:=J) (Fw.ABf ok) YZ (sL h e δ hl);obtain⟨e1,e2⟩:=AED (D:=D) (σ:=σ) (J:=J) hl;rw[e1,e2]at this;exact this
theorem Fw.of {M:Fw}{R:Rr}{at_:Nat}{D:List (Nat×Dw)}{σ:Hp}{F:Prop}(h:F)(ok:M.Ok)(hb:Kh D []=[])(e:F=DH (M.cx R) (Wi M R M.cuts) 4000 true (yh M.K at_) (nQ D [] σ):=by kernel_rfl):M.ptD at_ R D σ:=
 M.ofB h ok (by rw[hb];exact e)
theorem Fw.Ya {M:Fw}{R:Rr}{at_:Nat}{D:List (Nat×Dw)}{σ:Hp}{F:Prop}{x1:Bv}(h:F)(ok:M.Ok)(hb:Kh D []=[x1])(e:∀b1:Nat,F=DH (M.cx R) (Wi M R M.cuts) 4000 true (yh M.K at_) (nQ D [b1] σ)):M.ptD at_ R D σ:=
 M.ofB h ok (by rw[hb];exact e)
theorem Fw.iW {M:Fw}{R:Rr}{at_:Nat}{D:List (Nat×Dw)}{σ:Hp}{F:Prop}{x1 x2:Bv}(h:F)(ok:M.Ok)(hb:Kh D []=[x1,x2])(e:∀b1 b2:Nat,F=DH (M.cx R) (Wi M R M.cuts) 4000 true (yh M.K at_) (nQ D [b1,b2] σ)):M.ptD at_ R D σ:=
 M.ofB h ok (by rw[hb];exact e)
theorem Fw.of3 {M:Fw}{R:Rr}{at_:Nat}{D:List (Nat×Dw)}{σ:Hp}{F:Prop}{x1 x2 x3:Bv}(h:F)(ok:M.Ok)(hb:Kh D []=[x1,x2,x3])(e:∀b1 b2 b3:Nat,F=DH (M.cx R) (Wi M R M.cuts) 4000 true (yh M.K at_) (nQ D [b1,b2,b3] σ)):M.ptD at_ R D σ:=
 M.ofB h ok (by rw[hb];exact e)
theorem Fw.of4 {M:Fw}{R:Rr}{at_:Nat}{D:List (Nat×Dw)}{σ:Hp}{F:Prop}{x1 x2 x3 x4:Bv}(h:F)(ok:M.Ok)(hb:Kh D []=[x1,x2,x3,x4])(e:∀b1 b2 b3 b4:Nat,F=DH (M.cx R) (Wi M R M.cuts) 4000 true (yh M.K at_) (nQ D [b1,b2,b3,b4] σ)):M.ptD at_ R D σ:=
 M.ofB h ok (by rw[hb];exact e)
def AEG:Value→Dv
 | .int k x=>.I k x
 | .bool t=>.B t
 | .string x=>.T x
 | .slice p n c=>.L p n c
 | .pointer p=>.Q p
 | .map x=>.M x
 | x=>.V x
theorem cW (x:Value):(AEG x).den=x:=by cases x<;>rfl
def ku:List Value→List Dv
 | []=>[]
 | x::l=>AEG x::ku l
theorem XR:∀l:List Value,cL (ku l)=l
 | []=>rfl
 | x::l=>by simp only[ku,cL];rw[cW,XR]
def nR:Value→Dw
 | .agg cs=>.G (ku cs.toList)
 | x=>.o (AEG x)
theorem sM (x:Value):(nR x).den=x:=by
 cases x
 case agg cs=>simp only[nR,Dw.den,XR]
 all_goals (simp only[nR,Dw.den];exact cW _)
def sN:Value→Dw
 | .pointer (some ⟨b,0,none⟩)=>.o (.A b)
 | x=>.o (.V x)
theorem sO (x:Value):(sN x).den=x:=by
 unfold sN;split<;>rfl
def nS (np:Nat):Nat→List Value→List (Nat×Dw)
 | _,[]=>[]
 | k,x::l=>match Nat.blt k np with
  | true=>(k,nR x)::nS np (k+1) l
  | false=>(k,sN x)::nS np (k+1) l
theorem sP (x:Value):(∃y,nR x=.o y)∨∃y,nR x=.G y:=by cases x<;>first|exact .inr ⟨_,rfl⟩|exact .inl ⟨_,rfl⟩
theorem sQ (x:Value):∃y,sN x=.o y:=by unfold sN;split<;>exact⟨_,rfl⟩
theorem Yb {np:Nat}:∀{l:List Value} {k:Nat},Sj (nS np k l)=UE k l∧Kh (nS np k l) []=[]
 | [],_=>⟨rfl,rfl⟩
 | x::l,k=>by
  obtain⟨h1,h2⟩:=Yb (np:=np) (l:=l) (k:=k+1);simp only[nS];split
  ·have hd:=sM x;rcases sP x with ⟨y,hy⟩|⟨y,hy⟩<;>rw[hy]at hd ⊢<;>exact⟨by simp only[Sj,UE];rw[hd,h1],h2⟩
  ·have hd:=sO x;obtain⟨y,hy⟩:=sQ x;rw[hy]at hd ⊢;exact⟨by simp only[Sj,UE];rw[hd,h1],h2⟩
def Fw.run (M:Fw)(R:Rr)(k:Nat)(D:List (Nat×Dw))(σ:Hp):Prop:=match Nat.ble k M.fn.ntmps with
 | true=>DH (M.cx R) (Wi M R M.cuts) 4000 true [.c []] (nQ D [] σ)
 | false=>False
theorem Fw.CL {M:Fw}{R:Rr}{args:Array Value}{σ:Hp}{F:Prop}(h:F)(ok:M.Ok)(D:List (Nat×Dw))(hx:Kh D []=[])(hD:Sj D=UE 0 args.toList)(e:F=M.run R args.size D σ):Spec M.P M.f args σ R:=by
 subst e;unfold Fw.run at h;split at h
 case h_2=>exact h.elim
 rename_i hn;obtain⟨fb,hb⟩:=Option.isSome_iff_exists.1 ok.body;refine Spec.walk (c:=M.cx R) (cuts:=Wi M R M.cuts) (s:=nQ D [] σ) (fuel:=4000) (Fw.ABf ok) ?_ rfl hn YZ ?_ ?_ h
 ·show M.fn.body=some (M.fn.body.getD .skip)
  rw[hb];rfl
 ·obtain⟨h4,_⟩:=Mp (l:=D) (n:=⟨[],[]⟩) (v:=⟨(Q9 D ⟨[],[]⟩).2.ρ,(Q9 D ⟨[],[]⟩).2.β,[]⟩) ⟨fun _ _=>rfl,fun _ _=>rfl⟩;rw[hD]at h4;simp only[nQ,hx];exact h4
 ·simp only[nQ,hx];rfl
theorem Fw.start {M:Fw}{R:Rr}{args:Array Value}{σ:Hp}{F:Prop}(h:F)(ok:M.Ok)(e:F=M.run R args.size (nS M.fn.params.size 0 args.toList) σ:=by kernel_rfl):Spec M.P M.f args σ R:=
 M.CL h ok _ Yb.2 Yb.1 e
abbrev wI:Sw:=.o (.I .i64)
abbrev wU:Sw:=.o (.I .u64)
abbrev w8:Sw:=.o (.I .u8)
abbrev wB:Sw:=.o .B
abbrev wT:Sw:=.o .T
abbrev wL:Sw:=.o .L
abbrev wQ:Sw:=.o .Q
abbrev wA:Sw:=.o .A
abbrev wM:Sw:=.o .M
abbrev wV:Sw:=.o .V
abbrev aD (b o:Nat):Option Addr:=some ⟨b,o,none⟩
abbrev Br (p A B:Prop):Prop:=(p→A)∧(¬p→B)
abbrev Bm (p A B:Prop):Prop:=(¬p→A)∧(p→B)
abbrev Bo (t:Bool)(A B:Prop):Prop:=(t=true→A)∧(t=false→B)
abbrev Bn (t:Bool)(A B:Prop):Prop:=(t=false→A)∧(t=true→B)
abbrev Pq (p:Option Addr)(K:Nat→Nat→Prop):Prop:=∃b o:Nat,p=some ⟨b,o,none⟩∧K b o
abbrev In (x n:Int):Prop:=(0:Int)≤x∧x<n
abbrev Df (r:Int)(K:Int→Prop):Prop:=∀x:Int,x=r→K x
abbrev Al (σ:Hp)(K:Nat→Prop):Prop:=∀b:Nat,σ b=none→K b
abbrev LI (k:IntKind)(σ:Hp)(b o:Nat)(K:Int→Prop):Prop:=∃x:Int,Hp.ld σ ⟨b,o,none⟩=some (.int k x)∧K x
abbrev LB (σ:Hp)(b o:Nat)(K:Bool→Prop):Prop:=∃x:Bool,Hp.ld σ ⟨b,o,none⟩=some (.bool x)∧K x
abbrev LT (σ:Hp)(b o:Nat)(K:ByteArray→Prop):Prop:=∃x:ByteArray,Hp.ld σ ⟨b,o,none⟩=some (.string x)∧K x
abbrev LQ (σ:Hp)(b o:Nat)(K:Option Addr→Prop):Prop:=∃x:Option Addr,Hp.ld σ ⟨b,o,none⟩=some (.pointer x)∧K x
abbrev LM (σ:Hp)(b o:Nat)(K:Option Nat→Prop):Prop:=∃x:Option Nat,Hp.ld σ ⟨b,o,none⟩=some (.map x)∧K x
abbrev LS (σ:Hp)(b o:Nat)(K:Option Addr→Nat→Nat→Prop):Prop:=∃p:Option Addr,∃n:Nat,∃c:Nat,Hp.ld σ ⟨b,o,none⟩=some (.slice p n c)∧K p n c
abbrev CI (k:IntKind)(K:Int→Hp→Prop):Value→Hp→Prop:=fun v σ=>∃x:Int,v=.int k x∧K x σ
abbrev CB (K:Bool→Hp→Prop):Value→Hp→Prop:=fun v σ=>∃x:Bool,v=.bool x∧K x σ
abbrev CT (K:ByteArray→Hp→Prop):Value→Hp→Prop:=fun v σ=>∃x:ByteArray,v=.string x∧K x σ
abbrev CQ (K:Option Addr→Hp→Prop):Value→Hp→Prop:=fun v σ=>∃x:Option Addr,v=.pointer x∧K x σ
abbrev CS (K:Option Addr→Nat→Nat→Hp→Prop):Value→Hp→Prop:=fun v σ=>∃p:Option Addr,∃n:Nat,∃c:Nat,v=.slice p n c∧K p n c σ
end Tw
end
section
set_option maxRecDepth 100000
noncomputable section
namespace TwW
open Go Tw Go.Proofs.Tryz
variable [Ez]{R:Rr}{σ:Hp}
abbrev AH (f:FuncId)(a:Array Value)(s:Hp)(R:Rr)(K:Value→Hp→Prop):Prop:=Spec prog f a s (AZ R K)
abbrev GO (T:TypeId)(p:Option Addr)(n c b:Nat):Sem Value:=Builtin.append_ #[T,T] T #[.slice p n c,.slice (aD b 0) 1 1]

namespace SA
def M:Fw:=⟨prog,9,f9,[6,7,11,13,14,17,21,22,23,33,34],[],false,[],[],[]⟩
def ok:M.Ok:=⟨.cons call6 (.cons call7 (.cons call11 (.cons call13 (.cons call14 (.cons call17 (.cons call21 (.cons call22 (.cons call23 (.cons call33 (.cons call34 (AG.nil))))))))))),mixed,func9,by kernel_rfl⟩
def start (h:AH 7 #[] σ R (fun z y=>∃PI AIh AIi AIj,z=(.agg #[.U PI,.slice AIh AIi AIj])∧AH 6 #[(.string (ByteArray.mk #[120])),.I 60,.I 60,.I 0,.agg #[.U PI,.slice AIh AIi AIj],.I 3] y R (fun z AE=>∃UG Ki,z=(.tuple #[.pointer UG,.I Ki])∧Br (Ki≠0) (R (.B false) AE) (Bo (Option.isNone UG) (R (.B false) AE) (AH 33 #[.pointer UG] AE R (fun z AJ=>∃AIk cX,z=(.tuple #[.I AIk,.I cX])∧AH 34 #[] AJ R (CS fun p34 n34 c34 Ah=>AH 11 #[.pointer UG,.I 0,.slice p34 n34 c34] Ah R (CI .i64 fun RA CF=>AH 13 #[.pointer UG,(.agg #[.U 0,(.I (-9)),.N])] CF R (CI .i64 fun Wj Fu=>AH 11 #[.pointer UG,.I 1,.N] Fu R (CI .i64 fun cY FX=>Al FX fun xi=>AH 13 #[.pointer UG,(.agg #[.U 0,(.I (-9)),(.slice (aD xi 0) 1 1)])] (Hp.set FX xi (.cells #[.U 4,.I 0,.I 60,.I 0,.N,.I 0,.I 0,.bool false,.I 0] 91 (0,0))) R (CI .i64 fun x46 TJ=>AH 21 #[.pointer UG] TJ R (CS fun p48 n48 c48 Wk=>AH 14 #[.pointer UG] Wk R (fun z Jk=>∃AQc AQd AQe sR AIl,z=(.tuple #[.slice AQc AQd AQe,.I sR,.I AIl])∧Al Jk fun b56=>AH 23 #[.pointer UG,(.slice (aD b56 0) 1 1),.N] (Hp.set Jk b56 (.cells #[.U 4] 27 (0,0))) R (CI .i64 fun x57 iX=>AH 14 #[.pointer UG] iX R (fun z Wl=>∃AIm AIn AIo AIp AIq,z=(.tuple #[.slice AIm AIn AIo,.I AIp,.I AIq])∧Br (AIk=(-240)) (Br (cX=60) (Br (RA=0) (Br (Wj=271) (Br (cY=0) (Br (x46=0) (Al Wl fun b88=>AH 22 #[.slice p48 n48 c48,(.slice (aD b88 0) 1 1)] (Hp.set Wl b88 (.cells #[.U 4] 27 (0,0))) R (CB fun t89 UH=>Bo t89 (Br (AIl=272) (Br (x57=0) (Br (AIq=0) (Br (AIp=(-9)) (AH 34 #[] UH R (CS fun AQg n109 AQh yj=>AH 17 #[.slice AIm AIn AIo,.slice AQg n109 AQh] yj R (CB fun t110 Yc=>R (.B t110) Yc))) (R (.B false) UH)) (R (.B false) UH)) (R (.B false) UH)) (R (.B false) UH)) (R (.B false) UH))) (R (.B false) Wl)) (R (.B false) Wl)) (R (.B false) Wl)) (R (.B false) Wl)) (R (.B false) Wl)) (R (.B false) Wl)))))))))))))))):Spec prog 9 #[] σ R:=M.start h ok
end SA
namespace Ca
variable {q0 p1 p2 p33:Option Addr}{n1 c1 n2 c2 n33 c33:Nat}{sS RA:Int}
def M:Fw:=⟨prog,23,f23,[10],[],false,[],[],[(2024,[(0,wQ),(33,wL),(34,wI),(35,wI)])]⟩
def ok:M.Ok:=⟨.cons call10 (AG.nil),mixed,func23,by kernel_rfl⟩
def Gm:=M.pt 0
def start (h:Pq q0 fun Gn Sk=>LS σ Gn (Sk+11) fun TL n15 RB=>Al σ fun Ie=>AH 10 #[(.slice (aD Ie 0) 2 2)] (Hp.set σ Ie (.cells #[.slice TL n15 RB,.slice p2 n2 c2] 22 (0,0))) R (fun z y=>∃AIr AIs AIt PJ,z=(.tuple #[.slice AIr AIs AIt,.I PJ])∧Br (PJ≠0) (R (.returned (.I PJ)) y) (LB y Gn (Sk+6) fun t27=>Bn t27 (R (.returned (.I 273)) y) (AI prog (Instr.storeAt 22 (.pointer (aD Gn (Sk+11))) (.slice AIr AIs AIt)) y (fun _ AE=>Gm R (aD Gn Sk) p1 n1 c1 (n1:Int) 0 AE))))):Spec prog 23 #[.pointer q0,.slice p1 n1 c1,.slice p2 n2 c2] σ R:=M.start h ok
def EO (h:Br (RA<sS) (Pq p33 fun yk ym=>In RA (n33:Int)∧LI .u64 σ yk (ym+RA.toNat*1) fun Wj=>Pq q0 fun Wm o40=>LM σ Wm (o40+10) fun m42=>AI prog (Instr.lookup 70 (.map m42) (.U Wj) false) σ (CI .i64 fun x44 y=>AK (x44+1)∧AI prog (Instr.mapUpdate 70 (.map m42) (.U Wj) (.I (x44+1))) y (fun _ AE=>AK (RA+1)∧Gm R (aD Wm o40) (aD yk ym) n33 c33 sS (RA+1) AE))) (R (.returned (.I 0)) σ)):Gm R q0 p33 n33 c33 sS RA σ:=M.of h ok rfl
end Ca
namespace Eh
variable {p0 p8:Option Addr}{n0 c0 n8 c8:Nat}{x9 x10:Int}
def M:Fw:=⟨prog,50,f50,[82,83],[4],false,[(10,14,true)],[],[(232,[(0,wL),(8,wL),(9,wI),(10,wI)])]⟩
def ok:M.Ok:=⟨.cons call82 (.cons call83 (AG.nil)),mixed,func50,by kernel_rfl⟩
def Ha:=M.pt 0
def start (h:Br (16<(n0:Int)) (R (.returned (.I 30)) σ) (Ha R p0 n0 c0 p0 n0 c0 (n0:Int) 0 σ)):Spec prog 50 #[.slice p0 n0 c0] σ R:=M.start h ok
def FC (h:Br (x10<x9) (Pq p8 fun Gn Sk=>In x10 (n8:Int)∧∃yn iY,Am σ Gn (Sk+x10.toNat*2) [.string yn,.string iY]∧∀b4:Nat,AH 82 #[.string yn] σ R (CB fun t18 y=>Bn t18 (R (.returned (.I 31)) y) (Bo ((ByteArray.toList iY==ByteArray.toList (ByteArray.mk #[]))) (R (.returned (.I 32)) y) (Br ((256:Int)<(iY.size:Int)) (R (.returned (.I 32)) y) (AH 83 #[.string iY] y R (CB fun t33 AE=>Bn t33 (R (.returned (.I 32)) AE) (Br (0<x10) (AK (x10-1)∧Pq p0 fun Wn qj=>In (x10-1) (n0:Int)∧LT AE Wn (qj+Int.toNat (x10-1)*2) fun s47=>∃t48,YF prog ((do eqGuard .leq 9 (.tmp 41) (.tmp 47) (.string yn) (.string s47);binOp .leq 9 (.string yn) (.string s47))) AE (.bool t48)∧Bo t48 (R (.returned (.I 33)) AE) (AK (x10+1)∧Ha R (aD Wn qj) n0 c0 (aD Gn Sk) n8 c8 x9 (x10+1) AE)) (AK (x10+1)∧Ha R p0 n0 c0 (aD Gn Sk) n8 c8 x9 (x10+1) AE)))))))) (R (.returned (.I 0)) σ)):Ha R p0 n0 c0 p8 n8 c8 x9 x10 σ:=M.of h ok rfl
end Eh
namespace FD
variable {q0 Du EB p2:Option Addr}{CA Ba Dl DA Cf Cj:Int}{Dm:ByteArray}{Dx Dy Dz EC n2 c2:Nat}{DI:Bool}
def M:Fw:=⟨prog,91,f91,[],[4],false,[],[],[]⟩
def ok:M.Ok:=⟨AG.nil,mixed,func91,by kernel_rfl⟩
def start (h:∀b4:Nat,Pq p2 fun b9 o9=>In 0 (n2:Int)∧LI .i64 σ b9 o9 fun x11=>Br (x11=3) (R (.T #[.I 0,.I 191]) σ) (In 0 (n2:Int)∧LI .i64 σ b9 o9 fun x16=>R (.T #[.I x16,.I 0]) σ)):Spec prog 91 #[.pointer q0,.agg #[.I CA,.I Ba,.string Dm,.slice Du Dx Dy,.I Dl,.I DA,.I Cf,.slice EB Dz EC,.bool DI,.I Cj],.slice p2 n2 c2] σ R:=M.start h ok
end FD
namespace ID
variable {q0 Du EB:Option Addr}{CA Ba Dl DA Cf Cj:Int}{Dm:ByteArray}{Dx Dy Dz EC:Nat}{DI:Bool}
def M:Fw:=⟨prog,100,f100,[],[3],false,[(1,10,false)],[],[]⟩
def ok:M.Ok:=⟨AG.nil,mixed,func100,by kernel_rfl⟩
def start (h:∀b3:Nat,Pq q0 fun b6 o6=>LS σ b6 (o6+2) fun p8 n8 c8=>Al σ fun Cs=>AI prog (GO 32 p8 n8 c8 Cs) (Hp.set σ Cs (.cells #[.I CA,.I Ba,.string Dm,.slice Du Dx Dy,.I Dl,.I DA,.I Cf,.slice EB Dz EC,.bool DI,.I Cj] 127 (0,0))) (CS fun Ko n11 Kq y=>AI prog (Instr.storeAt 32 (.pointer (aD b6 (o6+2))) (.slice Ko n11 Kq)) y (fun _ AE=>R (.T #[]) AE))):Spec prog 100 #[.pointer q0,.agg #[.I CA,.I Ba,.string Dm,.slice Du Dx Dy,.I Dl,.I DA,.I Cf,.slice EB Dz EC,.bool DI,.I Cj]] σ R:=M.start h ok
end ID
namespace cZ
variable {p0:Option Addr}{n0 c0:Nat}
def M:Fw:=⟨prog,107,f107,[126],[],false,[],[],[]⟩
def ok:M.Ok:=⟨.cons call126 (AG.nil),mixed,func107,by kernel_rfl⟩
def start (h:AH 126 #[.slice p0 n0 c0] σ R (CS fun p4 n4 c4 y=>AI prog (convert 134 9 (.slice p4 n4 c4)) y (CT fun s5 AE=>R (.returned (.string s5)) AE))):Spec prog 107 #[.slice p0 n0 c0] σ R:=M.start h ok
end cZ
namespace UI
variable {s0:ByteArray}
def M:Fw:=⟨prog,118,f118,[82],[],false,[],[],[]⟩
def ok:M.Ok:=⟨.cons call82 (AG.nil),mixed,func118,by kernel_rfl⟩
def start (h:AH 82 #[.string s0] σ R (CB fun t4 y=>R (.B t4) y)):Spec prog 118 #[.string s0] σ R:=M.start h ok
end UI
namespace Ei
variable {p0 p2c p2d:Option Addr}{n0 c0 n2c c2c n2d c2d:Nat}{qk yo x4:Int}
def M:Fw:=⟨prog,160,f160,[36,205],[2],false,[],[],[(464,[(0,wL),(2,.X 164 [.I .i64,.I .u64,.L,.L]),(4,wI)])]⟩
def ok:M.Ok:=⟨.cons call36 (.cons call205 (AG.nil)),mixed,func160,by kernel_rfl⟩
def CM:=M.pt 0
def start (h:∀b2:Nat,AH 205 #[.slice p0 n0 c0,(.func (.func 206) #[] #[])] σ R (fun z y=>z=(.tuple #[])∧CM R p0 n0 c0 0 0 none 0 0 none 0 0 1 y)):Spec prog 160 #[.slice p0 n0 c0] σ R:=M.start h ok
def BE (h:Br (x4<(n0:Int)) (AK (x4-1)∧Pq p0 fun SB Ye=>In (x4-1) (n0:Int)∧LS σ SB (Ye+Int.toNat (x4-1)*2) fun sT n18 ql=>In x4 (n0:Int)∧LS σ SB (Ye+x4.toNat*2) fun kv n23 cd=>AH 36 #[.slice sT n18 ql,.slice kv n23 cd] σ R (CI .i64 fun KM y=>Br (KM=0) (R (.T #[.agg #[.I 0,.U 0,.N,.N],.I 223]) y) (AK (x4+1)∧CM R (aD SB Ye) n0 c0 qk yo p2c n2c c2c p2d n2d c2d (x4+1) y))) (R (.T #[.agg #[.I 2,.U 0,.slice p0 n0 c0,.N],.I 0]) σ)):CM R p0 n0 c0 qk yo p2c n2c c2c p2d n2d c2d x4 σ:=M.Ya h ok rfl fun _=>by kernel_rfl
end Ei
namespace Ng
variable {p0 p1:Option Addr}{n0 c0 n1 c1:Nat}
def M:Fw:=⟨prog,162,f162,[207],[],false,[],[],[]⟩
def ok:M.Ok:=⟨.cons call207 (AG.nil),mixed,func162,by kernel_rfl⟩
def start (h:Al σ fun b3=>AH 207 #[.slice p0 n0 c0,(.func (.func 210) #[] #[(.pointer (aD b3 0))])] (Hp.set σ b3 (.cells #[.slice p1 n1 c1] 125 (0,0))) R (CS fun p7 n7 c7 y=>R (.returned (.slice p7 n7 c7)) y)):Spec prog 162 #[.slice p0 n0 c0,.slice p1 n1 c1] σ R:=M.start h ok
end Ng
namespace Hb
variable {p0:Option Addr}{n0 c0:Nat}
def M:Fw:=⟨prog,167,f167,[155],[],false,[],[],[]⟩
def ok:M.Ok:=⟨.cons call155 (AG.nil),mixed,func167,by kernel_rfl⟩
def start (h:AH 155 #[(.I (n0:Int))] σ R (CI .u64 fun x5 y=>R (.returned (.U x5)) y)):Spec prog 167 #[.slice p0 n0 c0] σ R:=M.start h ok
end Hb
namespace DV
variable {x0:Int}{b1 b2:Nat}
def M:Fw:=⟨prog,170,f170,[168],[],false,[],[],[]⟩
def ok:M.Ok:=⟨.cons call168 (AG.nil),mixed,func170,by kernel_rfl⟩
def start (h:∃Gp Gq s6c Gr Gs Gt x6e x6f x6g p6h n6h c6h t6i x6j,Am σ b1 0 [.I Gp,.I Gq,.string s6c,.slice Gr Gs Gt,.I x6e,.I x6f,.I x6g,.slice p6h n6h c6h,.bool t6i,.I x6j]∧LI .u64 σ b2 1 fun x8=>AH 168 #[.agg #[.I Gp,.I Gq,.string s6c,.slice Gr Gs Gt,.I x6e,.I x6f,.I x6g,.slice p6h n6h c6h,.bool t6i,.I x6j],.U x8,.U x0] σ R (fun z y=>∃Gu UJ,z=(.tuple #[.U Gu,.bool UJ])∧R (.T #[.U Gu,.bool UJ]) y)):Spec prog 170 #[.U x0,(.pointer (aD b1 0)),(.pointer (aD b2 0))] σ R:=M.start h ok
end DV
namespace SC
variable {x0:Int}
def M:Fw:=⟨prog,174,f174,[196],[],false,[],[],[]⟩
def ok:M.Ok:=⟨.cons call196 (AG.nil),mixed,func174,by kernel_rfl⟩
def start (h:Df (Go.bits .xor .u64 x0 9223372036854775808) fun x4=>AH 196 #[.U x4] σ R (CI .u64 fun x5 y=>R (.returned (.U x5)) y)):Spec prog 174 #[.U x0] σ R:=M.start h ok
end SC
namespace Nh
variable {Cg Ck x1:Int}
def M:Fw:=⟨prog,185,f185,[],[2],false,[],[],[]⟩
def ok:M.Ok:=⟨AG.nil,mixed,func185,by kernel_rfl⟩
def start (h:∀b2:Nat,Br (Cg≤x1) (R (.returned (.I (-1))) σ) (R (.returned (.I 1)) σ)):Spec prog 185 #[.agg #[.I Cg,.U Ck],.I x1] σ R:=M.start h ok
end Nh
namespace ED
variable {s0:ByteArray}{p2 p3 p7:Option Addr}{n2 c2 n3 c3 n7 c7:Nat}{x8 x9:Int}
def M:Fw:=⟨prog,188,f188,[229],[2,3],false,[(5,8,false)],[],[(232,[(2,.X 271 [.L]),(3,.X 271 [.L]),(7,wL),(8,wI),(9,wI)])]⟩
def ok:M.Ok:=⟨.cons call229 (AG.nil),mixed,func188,by kernel_rfl⟩
def Ap:=M.pt 0
def start (h:∀b2:Nat,∀b3:Nat,AH 229 #[.string s0,(.string (ByteArray.mk #[124]))] σ R (CS fun p7 n7 c7 y=>Ap R none 0 0 none 0 0 p7 n7 c7 (n7:Int) 0 y)):Spec prog 188 #[.string s0] σ R:=M.start h ok
def AR (h:Br (x9<x8) (Pq p7 fun D5 Wo=>In x9 (n7:Int)∧LT σ D5 (Wo+x9.toNat*1) fun s12=>AH 229 #[.string s12,(.string (ByteArray.mk #[42]))] σ R (CS fun Ql n16 PK y=>Al y fun XS=>AI prog (GO 269 p3 n3 c3 XS) (Hp.set y XS (.cells #[.slice Ql n16 PK] 304 (0,0))) (CS fun sU n19 sV AE=>AK (x9+1)∧Ap R p2 n2 c2 sU n19 sV (aD D5 Wo) n7 c7 x8 (x9+1) AE))) (R (.returned (.agg #[.slice p3 n3 c3])) σ)):Ap R p2 n2 c2 p3 n3 c3 p7 n7 c7 x8 x9 σ:=M.iW h ok rfl fun _ _=>by kernel_rfl
end ED
namespace DW
variable {p0 p1:Option Addr}{n0 c0 n1 c1:Nat}
def M:Fw:=⟨prog,199,f199,[200],[],false,[],[],[]⟩
def ok:M.Ok:=⟨.cons call200 (AG.nil),mixed,func199,by kernel_rfl⟩
def start (h:AK ((n0:Int)-1)∧Pq p0 fun b9 o9=>In (((n0:Int)-1)) (n0:Int)∧LI .u64 σ b9 (o9+Int.toNat ((n0:Int)-1)*1) fun x10=>In 0 (n0:Int)∧LI .u64 σ b9 o9 fun E2=>AH 200 #[.U x10,.U E2] σ R (CI .u64 fun Jl y=>R (.returned (.U Jl)) y)):Spec prog 199 #[.slice p0 n0 c0,.slice p1 n1 c1] σ R:=M.start h ok
end DW
namespace EP
variable {bD:Option Addr}{Pz XT:Nat}{gJ s1:ByteArray}
def M:Fw:=⟨prog,227,f227,[248],[2],false,[],[],[]⟩
def ok:M.Ok:=⟨.cons call248 (AG.nil),mixed,func227,by kernel_rfl⟩
def start (h:∀b2:Nat,AH 248 #[.agg #[.slice bD Pz XT],.string s1] σ R (CB fun t8 y=>R (.B t8) y)):Spec prog 227 #[.agg #[.slice bD Pz XT,.string gJ],.string s1] σ R:=M.start h ok
end EP
namespace BU
variable {p0:Option Addr}{n0 c0:Nat}{s1:ByteArray}{x7 x8:Int}
def M:Fw:=⟨prog,237,f237,[],[],false,[],[],[(104,[(0,wL),(1,wT),(7,wI),(8,wI)])]⟩
def ok:M.Ok:=⟨AG.nil,mixed,func237,by kernel_rfl⟩
def Fv:=M.pt 0
def start (h:Fv R p0 n0 c0 s1 (n0:Int) 0 σ):Spec prog 237 #[.slice p0 n0 c0,.string s1] σ R:=M.start h ok
def As (h:Br (x8<x7) (Pq p0 fun HH JU=>In x8 (n0:Int)∧LT σ HH (JU+x8.toNat*1) fun s15=>Bo (ByteArray.toList s1==ByteArray.toList s15) (R (.returned (.I x8)) σ) (AK (x8+1)∧Fv R (aD HH JU) n0 c0 s1 x7 (x8+1) σ)) (R (.returned (.I (-1))) σ)):Fv R p0 n0 c0 s1 x7 x8 σ:=M.of h ok rfl
end BU
namespace DJ
variable {q0:Option Addr}{b1:Nat}
def M:Fw:=⟨prog,241,f241,[32,98,219],[],false,[],[],[(7,[(1,wA)])]⟩
def ok:M.Ok:=⟨.cons call32 (.cons call98 (.cons call219 (AG.nil))),mixed,func241,by kernel_rfl⟩
def Fv:=M.pt 0
def start (h:Al σ fun b1=>LQ (Hp.set σ b1 (.cells #[.pointer q0] 76 (0,0))) b1 0 fun q2=>AH 98 #[.pointer q2,.I 5,(.string (ByteArray.mk #[40]))] (Hp.set σ b1 (.cells #[.pointer q0] 76 (0,0))) R (CB fun t3 y=>Bn t3 (LQ y b1 0 fun q5=>AH 32 #[.pointer q5] y R (fun z AE=>z=(.tuple #[])∧Fv R b1 AE)) (Fv R b1 y))):Spec prog 241 #[.pointer q0] σ R:=M.start h ok
def As (h:LQ σ b1 0 fun q7=>AH 219 #[.pointer q7,(.func (.func 262) #[] #[(.pointer (aD b1 0))])] σ R (fun z y=>z=(.tuple #[])∧R (.T #[]) y)):Fv R b1 σ:=M.of h ok rfl
end DJ
namespace BW
variable {b0:Nat}
def M:Fw:=⟨prog,262,f262,[30,137],[],false,[],[],[]⟩
def ok:M.Ok:=⟨.cons call30 (.cons call137 (AG.nil)),mixed,func262,by kernel_rfl⟩
def start (h:LQ σ b0 0 fun q1=>AH 30 #[.pointer q1] σ R (fun z y=>z=(.tuple #[])∧LQ y b0 0 fun q3=>AH 137 #[.pointer q3,(.string (ByteArray.mk #[41]))] y R (fun z AE=>z=(.tuple #[])∧R (.T #[]) AE))):Spec prog 262 #[(.pointer (aD b0 0))] σ R:=M.start h ok
end BW
namespace FE
variable {q0:Option Addr}
def M:Fw:=⟨prog,266,f266,[31,32,97],[],false,[],[],[(14,[(0,wQ)])]⟩
def ok:M.Ok:=⟨.cons call31 (.cons call32 (.cons call97 (AG.nil))),mixed,func266,by kernel_rfl⟩
def E3:=M.pt 0
def start (h:AH 31 #[.pointer q0] σ R (fun z y=>∃Ej GQ IE x4d,z=(.agg #[.I Ej,.I GQ,.string IE,.I x4d])∧Br (Ej≠2) (AH 32 #[.pointer q0] y R (fun z AE=>z=(.tuple #[])∧E3 R q0 AE)) (E3 R q0 y))):Spec prog 266 #[.pointer q0] σ R:=M.start h ok
def A2 (h:AH 97 #[.pointer q0] σ R (fun z y=>∃Gu nT AQj AI7,z=(.agg #[.I Gu,.I nT,.string AQj,.I AI7])∧R (.returned (.I AI7)) y)):E3 R q0 σ:=M.of h ok rfl
end FE
namespace FG
variable {x0:Int}
def M:Fw:=⟨prog,308,f308,[],[],false,[],[],[]⟩
def ok:M.Ok:=⟨AG.nil,mixed,func308,by kernel_rfl⟩
def start (h:Df (Go.bits .or .u8 x0 32) fun x4=>R (.returned (.int .u8 x4)) σ):Spec prog 308 #[.int .u8 x0] σ R:=M.start h ok
end FG
end TwW
end
end
section
set_option maxRecDepth 100000
noncomputable section
namespace TwW
open Go Tw Go.Proofs.Tryz
variable [Ez]{R:Rr}{σ:Hp}

namespace FH
variable {s0:ByteArray}{x1 x2 x3 Ej x5 Gu xj nU:Int}{nW cg q19 p98:Option Addr}{ck nX UK cp n98 c98:Nat}
def M:Fw:=⟨prog,6,f6,[8,24,25,26],[10,21],false,[(19,6,true)],[],[(4072,[(5,wI),(10,.X 30 [.I .u64,.L]),(19,wQ),(98,wL),(99,wI),(100,wI)])]⟩
def ok:M.Ok:=⟨.cons call8 (.cons call24 (.cons call25 (.cons call26 (AG.nil)))),mixed,func6,by kernel_rfl⟩
def iZ:=M.pt 0
def start (h:∀Cs:Nat,AH 8 #[.string s0] σ R (fun z y=>∃nY nZ nc cu AEL,z=(.tuple #[.slice nY nZ nc,.I cu,.I AEL])∧Br (AEL≠0) (R (.T #[.pointer none,.I AEL]) y) (AH 24 #[.slice nY nZ nc] y R (fun z AE=>∃UL yp AEM,z=(.tuple #[.I UL,.I yp,.I AEM])∧Br (AEM≠0) (R (.T #[.pointer none,.I AEM]) AE) (Br (UL=3) (R (.T #[.pointer none,.I 220]) AE) (AH 25 #[.I x1] AE R (CB fun t46 AJ=>Bn t46 (R (.T #[.pointer none,.I 221]) AJ) (AH 25 #[.I x2] AJ R (CB fun t50 Ah=>Bn t50 (R (.T #[.pointer none,.I 221]) Ah) (Br (x3<0) (R (.T #[.pointer none,.I 221]) Ah) (Br (0<x3) (Br (x2<x1) (R (.T #[.pointer none,.I 221]) Ah) (Br (0<x3) (AK (x2-x1)∧x3≠(0:Int)∧Df (IntKind.i64.wrap (Int.tdiv (x2-x1) x3)) fun x74=>Br (512≤x74) (R (.T #[.pointer none,.I 222]) Ah) (AH 26 #[.agg #[.U Ej,.slice nW ck nX]] Ah R (CI .i64 fun yq CF=>Br (yq≠0) (R (.T #[.pointer none,.I 130]) CF) (Br (x5<1) (R (.T #[.pointer none,.I 130]) CF) (Br (5<x5) (R (.T #[.pointer none,.I 130]) CF) (AI prog (Instr.makeMap 69 none) CF (fun z Fu=>∃sW,z=(.map (some sW))∧AI prog (Instr.makeMap 70 none) Fu (fun z FX=>∃sY,z=(.map (some sY))∧Al FX fun sZ=>iZ R x5 Ej nW ck nX (aD sZ 0) nW ck nX (ck:Int) 0 (Hp.set FX sZ (.cells #[.slice nY nZ nc,.I x1,.I x2,.I x3,(.map (some sW)),.I 0,.bool false,.U 0,.I 0,.N,(.map (some sY)),.N,.nilFunc] 72 (0,0))))))))))) (AH 26 #[.agg #[.U Ej,.slice nW ck nX]] Ah R (CI .i64 fun yq CF=>Br (yq≠0) (R (.T #[.pointer none,.I 130]) CF) (Br (x5<1) (R (.T #[.pointer none,.I 130]) CF) (Br (5<x5) (R (.T #[.pointer none,.I 130]) CF) (AI prog (Instr.makeMap 69 none) CF (fun z Fu=>∃sW,z=(.map (some sW))∧AI prog (Instr.makeMap 70 none) Fu (fun z FX=>∃sY,z=(.map (some sY))∧Al FX fun sZ=>iZ R x5 Ej nW ck nX (aD sZ 0) nW ck nX (ck:Int) 0 (Hp.set FX sZ (.cells #[.slice nY nZ nc,.I x1,.I x2,.I x3,(.map (some sW)),.I 0,.bool false,.U 0,.I 0,.N,(.map (some sY)),.N,.nilFunc] 72 (0,0)))))))))))) (Br (0<x3) (AK (x2-x1)∧x3≠(0:Int)∧Df (IntKind.i64.wrap (Int.tdiv (x2-x1) x3)) fun x74=>Br (512≤x74) (R (.T #[.pointer none,.I 222]) Ah) (AH 26 #[.agg #[.U Ej,.slice nW ck nX]] Ah R (CI .i64 fun yq CF=>Br (yq≠0) (R (.T #[.pointer none,.I 130]) CF) (Br (x5<1) (R (.T #[.pointer none,.I 130]) CF) (Br (5<x5) (R (.T #[.pointer none,.I 130]) CF) (AI prog (Instr.makeMap 69 none) CF (fun z Fu=>∃sW,z=(.map (some sW))∧AI prog (Instr.makeMap 70 none) Fu (fun z FX=>∃sY,z=(.map (some sY))∧Al FX fun sZ=>iZ R x5 Ej nW ck nX (aD sZ 0) nW ck nX (ck:Int) 0 (Hp.set FX sZ (.cells #[.slice nY nZ nc,.I x1,.I x2,.I x3,(.map (some sW)),.I 0,.bool false,.U 0,.I 0,.N,(.map (some sY)),.N,.nilFunc] 72 (0,0))))))))))) (AH 26 #[.agg #[.U Ej,.slice nW ck nX]] Ah R (CI .i64 fun yq CF=>Br (yq≠0) (R (.T #[.pointer none,.I 130]) CF) (Br (x5<1) (R (.T #[.pointer none,.I 130]) CF) (Br (5<x5) (R (.T #[.pointer none,.I 130]) CF) (AI prog (Instr.makeMap 69 none) CF (fun z Fu=>∃sW,z=(.map (some sW))∧AI prog (Instr.makeMap 70 none) Fu (fun z FX=>∃sY,z=(.map (some sY))∧Al FX fun sZ=>iZ R x5 Ej nW ck nX (aD sZ 0) nW ck nX (ck:Int) 0 (Hp.set FX sZ (.cells #[.slice nY nZ nc,.I x1,.I x2,.I x3,(.map (some sW)),.I 0,.bool false,.U 0,.I 0,.N,(.map (some sY)),.N,.nilFunc] 72 (0,0)))))))))))))))))))))):Spec prog 6 #[.string s0,.I x1,.I x2,.I x3,.agg #[.U Ej,.slice nW ck nX],.I x5] σ R:=M.start h ok
def kx (h:Br (nU<xj) (Pq p98 fun AI9 AJA=>In nU (n98:Int)∧∃ABi AJB AJC AJD AJE,Am σ AI9 (AJA+nU.toNat*3) [.I ABi,.I AJB,.slice AJC AJD AJE]∧∀sa:Nat,Pq q19 fun AJF AJG=>LM σ AJF (AJG+4) fun AQm=>AI prog (Instr.mapUpdate 69 (.map AQm) (.I ABi) (.I 0)) σ (fun _ y=>AK (nU+1)∧iZ R x5 Gu cg UK cp (aD AJF AJG) (aD AI9 AJA) n98 c98 xj (nU+1) y)) (AK (x5-1)∧2≠(0:Int)∧Df (IntKind.i64.wrap (Int.tdiv (x5-1) 2)) fun AEN=>AK ((UK:Int)-AEN)∧Pq q19 fun yr yt=>AI prog (Instr.storeAt 3 (.pointer (aD yr (yt+5))) (.I (if(((UK:Int)-AEN):Int)<0 then 0 else((UK:Int)-AEN)))) σ (fun _ y=>AI prog (Instr.storeAt 45 (.pointer (aD yr (yt+12))) (.func (.func 27) #[(.pointer (aD yr yt))] #[])) y (fun _ AE=>R (.T #[(.pointer (aD yr yt)),.I 0]) AE)))):iZ R x5 Gu cg UK cp q19 p98 n98 c98 xj nU σ:=M.Ya h ok rfl fun _=>by kernel_rfl
end FH
namespace Cb
noncomputable def K0:=f10.body.getD .skip
def K1:=cl K0
def K2:=cr K0
def K3:=cl K2
def K4:=cl K3
def K5:=cr K3
def K6:=cl K5
def K7:=cl K6
def K8:=cl K7
def K9:=cr K7
def ky:=cl K9
def xk:=cl ky
def yu:=cr ky
def K13:=cr K9
def K14:=cl K13
def K15:=cl K14
def K16:=cl K15
def K17:=cr K15
def K18:=cl K17
def K19:=cr K17
def K20:=cl K19
def K21:=cr K19
def K22:=cl K21
def K23:=cl K22
def K24:=cr K22
def K25:=cr K21
def K26:=cr K13
def K27:=cr K2
def K28:=cl K27
def K29:=cr K27
def K30:=cl K29
def K31:=cl K30
def K32:=cr K30
def K33:=cl K32
def K34:=cl K33
def K35:=cr K33
def K36:=cl K35
def K37:=cl K36
def K38:=cr K36
def K39:=cl K38
def K40:=cr K38
def K41:=cl K40
def K42:=cr K40
def K43:=cr K29
def K44:=cl K43
def K45:=cr K43
abbrev gl (R:Rr):Gl:=Gl.fn prog 10 61 R
def Fv (R:Rr)(p0:Option Addr)(n0 c0:Nat)(Pn:Option Addr)(n10 KO:Nat)(x11 x12:Int)(σ:Hp):Prop:=∀(J:Env),At (gl R) [.code K8,.code K9,.inLoop K7,.inBlock 0,.code K27] (Kc J [(0,(.slice p0 n0 c0)),(10,(.slice Pn n10 KO)),(11,(.I x11)),(12,(.I x12))]) [] σ
def AEP (R:Rr)(l:Nat)(r0:Loop)(b7:Nat)(v24:Value)(σ:Hp):Prop:=∀(J:Env),At (Gl.round prog 10 61 l R) [.code K34,.beginRound,.code K35] (Kc J [(7,(.pointer (some ⟨b7,0,none⟩))),(24,v24)]) [] σ
def start {R:Rr}{p0:Option Addr}{n0 c0:Nat}{σ:Hp}(h:Fv R p0 n0 c0 p0 n0 c0 ((n0:Int)) 0 σ):Spec prog 10 #[(.slice p0 n0 c0)] σ R:=by
 refine Spec.Ti (fn:=f10) (c:=K0) func10 (by kernel_rfl) (AcS (by kernel_rfl)) (fun e he=>?_);refine At.ofL (l:=[(0,(.slice p0 n0 c0))]) ⟨he 0,trivial⟩ (fun J=>?_);show At (gl R) _ _ _ _
 refine At.s K1 K2 ?_;refine At.rg 0 [0,1] ?_;refine Seq.us [(2,.N),(3,.I 0)] (Seq.done ?_);refine At.s K3 K27 (At.s K4 K5 ?_);refine At.rg 1 [0,1,2] ?_;refine Seq.u 10 (.slice p0 n0 c0) ?_;refine Seq.z 11 (.call { callee:=.builtin .len,args:=#[(.tmp 10)],argTypes:=#[92] }) 3 (.I (n0:Int)) (Y.ADN underlying92 rfl rfl) ?_;refine Seq.u 12 (.I 0) (Seq.done ?_);refine At.b 0 K6 ?_;refine At.loop (x:=K7) (by kernel_rfl) ?_;refine At.s K8 K9 ?_;exact At.v [(0,(.slice p0 n0 c0)),(10,(.slice p0 n0 c0)),(11,(.I (n0:Int))),(12,(.I 0))] (h _)
def As {R:Rr}{p0 Pn:Option Addr}{n0 c0 n10 KO:Nat}{x11 x12:Int}{σ:Hp}(h:((x12:Int)<x11→∃(HH JU:Nat),Pn=some ⟨HH,JU,none⟩∧((0:Int)≤x12∧x12<(n10:Int))∧∃TL:Option Addr,∃n15:Nat,∃RB:Nat,Hp.ld σ ⟨HH,(JU+x12.toNat*1),none⟩=some (.slice TL n15 RB)∧AH 19 #[(.slice TL n15 RB)] σ R (fun v σ1=>∃x17:Int,v=(.I x17)∧((x17:Int)≠0→R (.T #[(.N),(.I x17)]) σ1)∧(¬((x17:Int)≠0)→AK (x12+1)∧Fv R p0 n0 c0 ((some ⟨HH,JU,none⟩)) n10 KO x11 ((x12+1)) σ1)))∧(¬((x12:Int)<x11)→∀b7:Nat,σ b7=none→AH 35 #[(.slice p0 n0 c0)] (Hp.set σ b7 (.cells #[(.N)] 22 (0,0))) R (fun v σ1=>∃f23:Fn,∃a23:Array Value,∃cd:Array Value,(Value.func f23 a23 cd)=v∧∃(gf:Nat) (lb:Array Value),(Value.func f23 a23 cd)=.func (.func gf) #[] lb∧Enters prog gf∧∀(cw RC:Nat) (Jn:Loop),cw≠RC→σ1 cw=none→σ1 RC=none→(∀(R2:Rr) (σ2:Hp) (kz:Option Addr) (k0:Nat) (k8:Nat) (k9:Option Addr) (lA:Nat) (lB:Nat),σ2 RC=some (.loop (lp Jn .ready none))→AEP R2 RC Jn b7 ((.agg #[(.slice kz k0 k8),(.slice k9 lA lB)])) σ2→IA prog RC #[(.agg #[(.slice kz k0 k8),(.slice k9 lA lB)])] σ2 R2)→Spec prog gf (#[.func (.yield RC) #[] #[]]++lb) (Hp.set (Hp.set σ1 cw (.deferred (some []))) RC (.loop (lp Jn .ready none))) (fun en Bp=>∃(v:Value) (s:LoopState) (p:Option Code),en=.returned v∧Bp RC=some (.loop (lp Jn s p))∧s≠.busy∧((p=none∧∃p59:Option Addr,∃n59:Nat,∃c59:Nat,Hp.ld (Hp.set Bp RC (.loop (lp Jn .exhausted none))) ⟨b7,0,none⟩=some (.slice p59 n59 c59)∧Spec prog 38 #[(.slice p59 n59 c59)] (Hp.set Bp RC (.loop (lp Jn .exhausted none))) (AZ (NP R) (fun gK DK=>∃p60:Option Addr,∃n60:Nat,∃c60:Nat,gK=(.slice p60 n60 c60)∧DK cw=some (.deferred (some []))∧R (.T #[(.slice p60 n60 c60),(.I 0)]) (Hp.set DK cw (.deferred none)))))))))):Fv R p0 n0 c0 Pn n10 KO x11 x12 σ:=by
 intro J;show At (gl R) _ _ _ _
 refine At.rg 2 [0] ?_;refine Seq.u 13 (.bool (decide ((x12:Int)<x11))) (Seq.done ?_);refine At.s ky K13 ?_;cases hb:(decide ((x12:Int)<x11)) with
 | true=>
  replace h:=h.1 (Abm hb)
  refine At.cT 13 xk yu ?_;refine At.skip ?_;refine At.s K14 K26 ?_;refine At.b 1 K15 ?_;refine At.s K16 K17 ?_;refine At.rg 3 [0,1,2] ?_;obtain⟨HH,JU,hq,h⟩:=h;subst hq;obtain⟨hi,h⟩:=h;refine Seq.z 14 (.indexAddr 92 (.tmp 10) (.tmp 12)) 0 (.pointer (some ⟨HH,(JU+x12.toNat*1),none⟩)) (Y.idx underlying92 sizeOf22 rfl rfl hi rfl) ?_;obtain⟨TL,n15,RB,hl,h⟩:=h;refine Seq.z 15 (.load 22 (.tmp 14)) 22 (.slice TL n15 RB) (Y.ld isAgg22 rfl hl) ?_;refine Seq.u 5 (.slice TL n15 RB) (Seq.done ?_);refine At.s K18 K19 ?_;refine At.rg 4 [0,1,2] ?_;refine Seq.u 16 (.slice TL n15 RB) ?_;refine Seq.o ?_;refine AQ.cl (some 17) call19 (h.cont fun v σ1 h2=>?_);replace h:=h2;clear h2;obtain⟨x17,rfl,h⟩:=h;refine Seq.u 6 (.I x17) (Seq.done ?_);refine At.s K20 K21 ?_;refine At.rg 5 [0,1] ?_;refine Seq.us [(18,.I x17),(19,.bool (decide ((x17:Int)≠0)))] (Seq.done ?_);cases hb:(decide ((x17:Int)≠0)) with
  | true=>
   replace h:=h.1 (Abm hb)
   refine At.cT 19 K22 K25 ?_;refine At.s K23 K24 ?_;refine At.rg 6 [0,1,2] ?_;refine Seq.us [(20,.I x17),(2,.N),(3,.I x17)] (Seq.done ?_);exact At.rt [.tmp 2,.tmp 3] [(.N),(.I x17)] func10 ⟨_,rfl,⟨_,rfl,rfl⟩⟩ h
  | false=>
   replace h:=h.2 (Ab9 hb)
   refine At.cF 19 K22 K25 ?_;refine At.skip ?_;refine At.inBlock ?_;refine At.rg 7 [0,1] ?_;obtain⟨hi,h⟩:=h;refine Seq.z 21 (.binOp .add 3 (.tmp 12) (.const (.I 1)) 3) 3 (.I (x12+1)) (Y.AP5 hi rfl rfl) ?_;refine Seq.u 12 (.I (x12+1)) (Seq.done ?_);refine At.inLoop ?_;refine At.s K8 K9 ?_;exact At.v [(0,(.slice p0 n0 c0)),(10,(.slice (some ⟨HH,JU,none⟩) n10 KO)),(11,(.I x11)),(12,(.I (x12+1)))] (h _)
 | false=>
  replace h:=h.2 (Ab9 hb)
  refine At.cF 13 xk yu ?_;refine At.x 0 [.code K27] ?_;refine At.s K28 K29 ?_;refine At.rg 8 [0] ?_;refine Seq.o ?_;refine AQ.YH (T:=22) (d:=(some 7)) (ty:=0)  (gd:=none) (cs:=#[(.N)]) (by kernel_rfl) rfl rfl zeroValue22 rfl (fun b7 hn=>?_)
  replace h:=h b7 hn
  refine Seq.done ?_;refine At.s K30 K43 (At.s K31 K32 ?_);refine At.rg 9 [0,1] ?_;refine Seq.u 22 (.slice p0 n0 c0) ?_;refine Seq.o ?_;refine AQ.cl (some 23) call35 (h.cont fun v σ1 h2=>?_);replace h:=h2;clear h2;obtain⟨f23,a23,cd,rfl,h⟩:=h;refine Seq.done ?_;refine At.b 2 K33 ?_;obtain⟨gf,lb,hgv,JZ,h⟩:=h;refine At.range (gop:=(.tmp 23)) (ps:=#[24]) (assign:=K34) (body:=K35) (gf:=gf) (lb:=lb) (by kernel_rfl) rfl rfl hgv JZ (fun cw RC Jn hDl hD hl hrf cz hra hrb hrs hre=>?_);refine(h cw RC Jn hDl hD hl (fun R2 σ2 kz k0 k8 k9 lA lB AER hp=>IA.Ti (n:=61) AER cz hrs (by decide) hre (fn:=f10) (by rw[hrf];exact func10) ?_)).mono (fun en Bp h=>?_)
  ·rw[hrf,hra,hrb];exact At.v [(7,(.pointer (some ⟨b7,0,none⟩))),(24,(.agg #[(.slice kz k0 k8),(.slice k9 lA lB)]))] (hp _)
  obtain⟨v,s,p,he,rZ,hs,h⟩:=h;refine⟨v,s,p,he,rZ,hs,?_⟩;obtain⟨rfl,h⟩:=h;show At (Gl.behind prog 10 61 cw R) [.inBlock 2,.code K43] _ _ _
  refine At.inBlock ?_;refine At.s K44 K45 ?_;refine At.rg 15 [0,1,2,3] ?_;obtain⟨p59,n59,c59,hl,h⟩:=h;refine Seq.z 59 (.load 22 (.tmp 7)) 22 (.slice p59 n59 c59) (Y.ld isAgg22 rfl hl) ?_;refine Seq.o ?_;refine AQ.cl (some 60) call38 (h.cont fun gK DK h2=>?_);replace h:=h2;clear h2;obtain⟨p60,n60,c60,rfl,h⟩:=h;refine Seq.us [(2,.slice p60 n60 c60),(3,.I 0)] (Seq.done ?_);obtain⟨hmk,h⟩:=h;exact At.YI (rs:=[.tmp 2,.tmp 3]) (vs:=[(.slice p60 n60 c60),(.I 0)]) (by kernel_rfl) func10 (by kernel_rfl) ⟨_,rfl,⟨_,rfl,rfl⟩⟩ h rfl (rW hmk)
def yw {R:Rr}{l b7:Nat}{r0:Loop}{v24:Value}{σ:Hp}(h:∀b8:Nat,σ b8=none→AI prog (Instr.storeAt 98 (.pointer (some ⟨b8,0,none⟩)) v24) (Hp.set σ b8 (.cells #[(.N),(.N)] 98 (0,0))) (fun _ σ1=>σ1 l=some (.loop (lp r0 .ready none))∧∃dA:Option Addr,∃n25:Nat,∃dB:Nat,Hp.ld (Hp.set σ1 l (.loop (lp r0 .busy none))) ⟨b7,0,none⟩=some (.slice dA n25 dB)∧((0:Int)<(n25:Int)→∃p30:Option Addr,∃n30:Nat,∃c30:Nat,Hp.ld (Hp.set σ1 l (.loop (lp r0 .busy none))) ⟨b7,0,none⟩=some (.slice p30 n30 c30)∧AK ((n25:Int)-1)∧∃(Sl o33:Nat),p30=some ⟨Sl,o33,none⟩∧((0:Int)≤((n25:Int)-1)∧((n25:Int)-1)<(n30:Int))∧∃sd:Option Addr,∃n35:Nat,∃ia:Nat,Hp.ld (Hp.set σ1 l (.loop (lp r0 .busy none))) ⟨Sl,(o33+Int.toNat ((n25:Int)-1)*2),none⟩=some (.slice sd n35 ia)∧∃Sm:Option Addr,∃n37:Nat,∃Sn:Nat,Hp.ld (Hp.set σ1 l (.loop (lp r0 .busy none))) ⟨b8,0,none⟩=some (.slice Sm n37 Sn)∧Spec prog 36 #[(.slice sd n35 ia),(.slice Sm n37 Sn)] (Hp.set σ1 l (.loop (lp r0 .busy none))) (AZ (NP R) (fun v Bp=>∃Wj:Int,v=(.I Wj)∧((Wj:Int)=0→∃ng:Option Addr,∃n41:Nat,∃gL:Nat,Hp.ld Bp ⟨b7,0,none⟩=some (.slice ng n41 gL)∧AK ((n25:Int)-1)∧∃qm:Option Addr,∃n44:Nat,∃se:Nat,Hp.ld Bp ⟨b7,0,none⟩=some (.slice qm n44 se)∧AK ((n25:Int)-1)∧∃(b47 o47:Nat),qm=some ⟨b47,o47,none⟩∧((0:Int)≤((n25:Int)-1)∧((n25:Int)-1)<(n44:Int))∧∃p49:Option Addr,∃n49:Nat,∃c49:Nat,Hp.ld Bp ⟨b47,((o47+Int.toNat ((n25:Int)-1)*2)+1),none⟩=some (.slice p49 n49 c49)∧∃xl:Option Addr,∃n51:Nat,∃xm:Nat,Hp.ld Bp ⟨b8,1,none⟩=some (.slice xl n51 xm)∧Spec prog 37 #[(.slice p49 n49 c49),(.slice xl n51 xm)] Bp (AZ (NP R) (fun gK DK=>∃p52:Option Addr,∃n52:Nat,∃c52:Nat,gK=(.slice p52 n52 c52)∧Kp [b7] Bp DK∧∃(Mq o53:Nat),ng=some ⟨Mq,o53,none⟩∧((0:Int)≤((n25:Int)-1)∧((n25:Int)-1)<(n41:Int))∧AI prog (Instr.storeAt 96 (.pointer (some ⟨Mq,((o53+Int.toNat ((n25:Int)-1)*2)+1),none⟩)) (.slice p52 n52 c52)) DK (fun _ Ni=>Ni l=some (.loop (lp r0 .busy none))∧R (.B true) (Hp.set Ni l (.loop (lp r0 .ready none)))))))∧(¬((Wj:Int)=0)→∃lC:Option Addr,∃lD:Nat,∃lE:Nat,Hp.ld Bp ⟨b7,0,none⟩=some (.slice lC lD lE)∧∃ND:Option Addr,∃NF:Nat,∃NG:Nat,∃NH:Option Addr,∃NI:Nat,∃NJ:Nat,Am Bp b8 0 [(.slice ND NF NG),(.slice NH NI NJ)]∧∀NK:Nat,Bp NK=none→AI prog (Builtin.append_ #[22,22] 22 #[(.slice lC lD lE),(.slice (some ⟨NK,0,none⟩) 1 1)]) (Hp.set Bp NK (.cells #[(.slice ND NF NG),(.slice NH NI NJ)] 98 (0,0))) (fun gK DK=>∃WV:Option Addr,∃TM:Nat,∃XU:Nat,gK=(.slice WV TM XU)∧AI prog (Instr.storeAt 22 (.pointer (some ⟨b7,0,none⟩)) (.slice WV TM XU)) DK (fun _ Ni=>Ni l=some (.loop (lp r0 .busy none))∧R (.B true) (Hp.set Ni l (.loop (lp r0 .ready none)))))))))∧(¬((0:Int)<(n25:Int))→∃lC:Option Addr,∃lD:Nat,∃lE:Nat,Hp.ld (Hp.set σ1 l (.loop (lp r0 .busy none))) ⟨b7,0,none⟩=some (.slice lC lD lE)∧∃ND:Option Addr,∃NF:Nat,∃NG:Nat,∃NH:Option Addr,∃NI:Nat,∃NJ:Nat,Am (Hp.set σ1 l (.loop (lp r0 .busy none))) b8 0 [(.slice ND NF NG),(.slice NH NI NJ)]∧∀NK:Nat,(Hp.set σ1 l (.loop (lp r0 .busy none))) NK=none→AI prog (Builtin.append_ #[22,22] 22 #[(.slice lC lD lE),(.slice (some ⟨NK,0,none⟩) 1 1)]) (Hp.set (Hp.set σ1 l (.loop (lp r0 .busy none))) NK (.cells #[(.slice ND NF NG),(.slice NH NI NJ)] 98 (0,0))) (fun v Bp=>∃WV:Option Addr,∃TM:Nat,∃XU:Nat,v=(.slice WV TM XU)∧AI prog (Instr.storeAt 22 (.pointer (some ⟨b7,0,none⟩)) (.slice WV TM XU)) Bp (fun _ DK=>DK l=some (.loop (lp r0 .busy none))∧R (.B true) (Hp.set DK l (.loop (lp r0 .ready none)))))))):AEP R l r0 b7 v24 σ:=by
 intro J;show At (Gl.round prog 10 61 l R) _ _ _ _
 refine At.rg 10 [0,1] ?_;refine Seq.o ?_;refine AQ.YH (T:=98) (d:=(some 8)) (ty:=0)  (gd:=none) (cs:=#[(.N),(.N)]) (by kernel_rfl) rfl rfl zeroValue98 rfl (fun b8 hn=>?_)
 replace h:=h b8 hn
 refine Seq.o ?_;refine AQ.store (T:=98) (ty:=0) (x:=(.tmp 8)) (y:=(.tmp 24)) (p:=(.pointer (some ⟨b8,0,none⟩))) (v:=v24) (gd:=none) (by kernel_rfl) rfl rfl rfl (h.mono (fun _ σ1 h2=>?_));replace h:=h2;clear h2;refine Seq.done ?_;obtain⟨kM,h⟩:=h;refine At.beginRound rfl kM ?_;refine At.b 3 K36 ?_;refine At.s K37 K38 ?_;refine At.rg 11 [0,1,2] ?_;obtain⟨dA,n25,dB,hl,h⟩:=h;refine Seq.z 25 (.load 22 (.tmp 7)) 22 (.slice dA n25 dB) (Y.ld isAgg22 rfl hl) ?_;refine Seq.z 26 (.call { callee:=.builtin .len,args:=#[(.tmp 25)],argTypes:=#[22] }) 3 (.I (n25:Int)) (Y.ADN underlying22 rfl rfl) ?_;refine Seq.u 9 (.I (n25:Int)) (Seq.done ?_);refine At.s K39 K40 ?_;refine At.draw (id:=12) (ops:=cO K39) (n:=14) (q:=(some [])) (plan:=[(0,true),(1,true),(2,true),(3,true),(4,true),(5,true),(6,true),(7,true),(8,true),(9,true),(10,true),(11,false),(12,true),(13,true)]) (tl:=[]) mixed (by kernel_rfl) (by kernel_rfl) ?_;refine Head.u 27 (.I (n25:Int)) ?_;refine Head.u 28 (.bool (decide ((0:Int)<(n25:Int)))) ?_;refine Head.u 29 (.bool (decide ((0:Int)<(n25:Int)))) ?_;cases hb:(decide ((0:Int)<(n25:Int))) with
 | true=>
  replace h:=h.1 (Abm hb)
  obtain⟨p30,n30,c30,hl,h⟩:=h;refine Head.ygl b7 [[11,8,7,6]] rfl (by kernel_rfl) (d:=(some 30)) (op:=(.load 22 (.tmp 7))) (ty:=22) (gd:=(some (2,true))) (v:=(.slice p30 n30 c30)) (by kernel_rfl) rfl rfl (Y.ld isAgg22 rfl (N8 hl)) ?_;refine Head.u 31 (.I (n25:Int)) ?_;obtain⟨hi,h⟩:=h;refine Head.zg 32 (.binOp .sub 3 (.tmp 31) (.const (.I 1)) 3) 3 (2,true) (.I ((n25:Int)-1)) (Y.mo hi rfl rfl) ?_;obtain⟨Sl,o33,hq,h⟩:=h;subst hq;obtain⟨hi,h⟩:=h;refine Head.zg 33 (.indexAddr 22 (.tmp 30) (.tmp 32)) 0 (2,true) (.pointer (some ⟨Sl,(o33+Int.toNat ((n25:Int)-1)*2),none⟩)) (Y.idx underlying22 sizeOf98 rfl rfl hi rfl) ?_;refine Head.zg 34 (.fieldAddr 98 (.tmp 33) 0) 0 (2,true) (.pointer (some ⟨Sl,(o33+Int.toNat ((n25:Int)-1)*2),none⟩)) (Y.fieldAddr (fd:=(H7 prog 98 0)) underlying98 (by kernel_rfl) sizeOf95 rfl rfl) ?_;obtain⟨sd,n35,ia,hl,h⟩:=h;refine Head.ygl Sl [[11]] rfl (by kernel_rfl) (d:=(some 35)) (op:=(.load 95 (.tmp 34))) (ty:=95) (gd:=(some (2,true))) (v:=(.slice sd n35 ia)) (by kernel_rfl) rfl rfl (Y.ld isAgg95 rfl (N8 hl)) ?_;refine Head.zg 36 (.fieldAddr 98 (.tmp 8) 0) 0 (2,true) (.pointer (some ⟨b8,0,none⟩)) (Y.fieldAddr (fd:=(H7 prog 98 0)) underlying98 (by kernel_rfl) sizeOf95 rfl rfl) ?_;obtain⟨Sm,n37,Sn,hl,h⟩:=h;refine Head.ygl b8 [[11]] rfl (by kernel_rfl) (d:=(some 37)) (op:=(.load 95 (.tmp 36))) (ty:=95) (gd:=(some (2,true))) (v:=(.slice Sm n37 Sn)) (by kernel_rfl) rfl rfl (Y.ld isAgg95 rfl (N8 hl)) ?_;refine Head.o (q':=(some [])) rfl ?_;refine AQ.cl (some 38) call36 (h.cont fun v Bp h2=>?_);replace h:=h2;clear h2;obtain⟨Wj,rfl,h⟩:=h;refine⟨⟨fun _ h=>h,AIB (L:=[]) Kp.nil⟩,?_⟩;refine Head.u 39 (.bool (decide ((Wj:Int)=0))) ?_;refine Head.u 40 (.bool (decide ((Wj:Int)=0))) ?_;refine Head.done ?_;refine Seq.done ?_;cases hb:(decide ((Wj:Int)=0)) with
  | true=>
   replace h:=h.1 (Abm hb)
   refine At.cT 40 K41 K42 ?_;refine At.draw (id:=13) (ops:=cO K41) (n:=14) (q:=(some [])) (plan:=[(0,true),(1,true),(2,true),(3,true),(4,true),(5,true),(6,true),(7,true),(8,true),(9,true),(10,true),(11,false),(12,true),(13,true)]) (tl:=[14]) mixed (by kernel_rfl) (by kernel_rfl) ?_;obtain⟨ng,n41,gL,hl,h⟩:=h;refine Head.yl b7 [] rfl (by kernel_rfl) (d:=(some 41)) (op:=(.load 22 (.tmp 7))) (ty:=22) (v:=(.slice ng n41 gL)) (by kernel_rfl) rfl (Y.ld isAgg22 rfl (N8 hl)) ?_;refine Head.u 42 (.I (n25:Int)) ?_;obtain⟨hi,h⟩:=h;refine Head.z 43 (.binOp .sub 3 (.tmp 42) (.const (.I 1)) 3) 3 (.I ((n25:Int)-1)) (Y.mo hi rfl rfl) ?_;obtain⟨qm,n44,se,hl,h⟩:=h;refine Head.yl b7 [[11,8,7,6]] rfl (by kernel_rfl) (d:=(some 44)) (op:=(.load 22 (.tmp 7))) (ty:=22) (v:=(.slice qm n44 se)) (by kernel_rfl) rfl (Y.ld isAgg22 rfl (N8 hl)) ?_;refine Head.u 45 (.I (n25:Int)) ?_;obtain⟨hi,h⟩:=h;refine Head.z 46 (.binOp .sub 3 (.tmp 45) (.const (.I 1)) 3) 3 (.I ((n25:Int)-1)) (Y.mo hi rfl rfl) ?_;obtain⟨b47,o47,hq,h⟩:=h;subst hq;obtain⟨hi,h⟩:=h;refine Head.z 47 (.indexAddr 22 (.tmp 44) (.tmp 46)) 0 (.pointer (some ⟨b47,(o47+Int.toNat ((n25:Int)-1)*2),none⟩)) (Y.idx underlying22 sizeOf98 rfl rfl hi rfl) ?_;refine Head.z 48 (.fieldAddr 98 (.tmp 47) 1) 0 (.pointer (some ⟨b47,((o47+Int.toNat ((n25:Int)-1)*2)+1),none⟩)) (Y.fieldAddr (fd:=(H7 prog 98 1)) underlying98 (by kernel_rfl) sizeOf96 rfl rfl) ?_;obtain⟨p49,n49,c49,hl,h⟩:=h;refine Head.yl b47 [[11]] rfl (by kernel_rfl) (d:=(some 49)) (op:=(.load 96 (.tmp 48))) (ty:=96) (v:=(.slice p49 n49 c49)) (by kernel_rfl) rfl (Y.ld isAgg96 rfl (N8 hl)) ?_;refine Head.z 50 (.fieldAddr 98 (.tmp 8) 1) 0 (.pointer (some ⟨b8,1,none⟩)) (Y.fieldAddr (fd:=(H7 prog 98 1)) underlying98 (by kernel_rfl) sizeOf96 rfl rfl) ?_;obtain⟨xl,n51,xm,hl,h⟩:=h;refine Head.yl b8 [[11]] rfl (by kernel_rfl) (d:=(some 51)) (op:=(.load 96 (.tmp 50))) (ty:=96) (v:=(.slice xl n51 xm)) (by kernel_rfl) rfl (Y.ld isAgg96 rfl (N8 hl)) ?_;refine Head.o (q':=(some [(b7,[])])) rfl ?_;refine AQ.cl (some 52) call37 (h.cont fun gK DK h2=>?_);replace h:=h2;clear h2;obtain⟨p52,n52,c52,rfl,hk,h⟩:=h;refine⟨⟨fun _ h=>h,AIB (L:=[(b7,[])]) hk⟩,?_⟩;obtain⟨Mq,o53,hq,h⟩:=h;subst hq;obtain⟨hi,h⟩:=h;refine Head.z 53 (.indexAddr 22 (.tmp 41) (.tmp 43)) 0 (.pointer (some ⟨Mq,(o53+Int.toNat ((n25:Int)-1)*2),none⟩)) (Y.idx underlying22 sizeOf98 rfl rfl hi rfl) ?_;refine Head.z 54 (.fieldAddr 98 (.tmp 53) 1) 0 (.pointer (some ⟨Mq,((o53+Int.toNat ((n25:Int)-1)*2)+1),none⟩)) (Y.fieldAddr (fd:=(H7 prog 98 1)) underlying98 (by kernel_rfl) sizeOf96 rfl rfl) ?_;refine Head.done ?_;refine Seq.o ?_;refine AQ.store (T:=96) (ty:=0) (x:=(.tmp 54)) (y:=(.tmp 52)) (p:=(.pointer (some ⟨Mq,((o53+Int.toNat ((n25:Int)-1)*2)+1),none⟩))) (v:=(.slice p52 n52 c52)) (gd:=none) (by kernel_rfl) rfl rfl rfl (h.mono (fun _ Ni h2=>?_));replace h:=h2;clear h2;refine Seq.done ?_;refine At.inBlock ?_;exact At.Pr rfl h.1 h.2
  | false=>
   replace h:=h.2 (Ab9 hb)
   refine At.cF 40 K41 K42 ?_;refine At.rg 14 [0,1,2,3,4] ?_;obtain⟨lC,lD,lE,hl,h⟩:=h;refine Seq.z 55 (.load 22 (.tmp 7)) 22 (.slice lC lD lE) (Y.ld isAgg22 rfl hl) ?_;obtain⟨ND,NF,NG,NH,NI,NJ,hl,h⟩:=h;refine Seq.z 56 (.load 98 (.tmp 8)) 98 (.agg #[(.slice ND NF NG),(.slice NH NI NJ)]) (Y.lda isAgg98 sizeOf98 rfl rfl hl) ?_;refine Seq.o ?_;refine AQ.Kw (T:=22) (E:=98) (m:=1) (ps:=#[(0,(.tmp 56))]) (d:=(some 57)) (ty:=22) (gd:=none) (vs:=[(0,(.agg #[(.slice ND NF NG),(.slice NH NI NJ)]))]) (cs:=#[(.slice ND NF NG),(.slice NH NI NJ)]) underlying22 (by kernel_rfl) rfl rfl rfl (by kernel_rfl) (fun NK hn=>?_)
   replace h:=h NK hn
   refine Seq.o ?_;refine AQ.Wd (d:=(some 58)) (op:=(.call { callee:=.builtin .append,args:=#[(.tmp 55),(.tmp 57)],argTypes:=#[22,22] })) (ty:=22) (gd:=none) (by kernel_rfl) rfl rfl (Builtin.append_ #[22,22] 22 #[(.slice lC lD lE),(.slice (some ⟨NK,0,none⟩) 1 1)]) (fun o ho ht=>IY rfl rfl o ho ht) (h.mono (fun gK DK h2=>?_));replace h:=h2;clear h2;obtain⟨WV,TM,XU,rfl,h⟩:=h;refine Seq.o ?_;refine AQ.store (T:=22) (ty:=0) (x:=(.tmp 7)) (y:=(.tmp 58)) (p:=(.pointer (some ⟨b7,0,none⟩))) (v:=(.slice WV TM XU)) (gd:=none) (by kernel_rfl) rfl rfl rfl (h.mono (fun _ Ni h2=>?_));replace h:=h2;clear h2;refine Seq.done ?_;refine At.L [] fun J=>?_;refine At.inBlock ?_;exact At.Pr rfl h.1 h.2
 | false=>
  replace h:=h.2 (Ab9 hb)
  refine Head.n 30 ?_;refine Head.n 31 ?_;refine Head.n 32 ?_;refine Head.n 33 ?_;refine Head.n 34 ?_;refine Head.n 35 ?_;refine Head.n 36 ?_;refine Head.n 37 ?_;refine Head.o (q':=(some [])) rfl ?_;refine AQ.no (d:=(some 38)) (op:=(.call { callee:=.value (.func 36),args:=#[(.tmp 35),(.tmp 37)],argTypes:=#[95,95] })) (ty:=3) (gd:=some (2,true)) (by kernel_rfl) rfl rfl ?_;refine⟨KK.refl _ _ _,?_⟩;refine Head.n 39 ?_;refine Head.u 40 (.bool false) ?_;refine Head.done ?_;refine Seq.done ?_;refine At.cF 40 K41 K42 ?_;refine At.rg 14 [0,1,2,3,4] ?_;obtain⟨lC,lD,lE,hl,h⟩:=h;refine Seq.z 55 (.load 22 (.tmp 7)) 22 (.slice lC lD lE) (Y.ld isAgg22 rfl hl) ?_;obtain⟨ND,NF,NG,NH,NI,NJ,hl,h⟩:=h;refine Seq.z 56 (.load 98 (.tmp 8)) 98 (.agg #[(.slice ND NF NG),(.slice NH NI NJ)]) (Y.lda isAgg98 sizeOf98 rfl rfl hl) ?_;refine Seq.o ?_;refine AQ.Kw (T:=22) (E:=98) (m:=1) (ps:=#[(0,(.tmp 56))]) (d:=(some 57)) (ty:=22) (gd:=none) (vs:=[(0,(.agg #[(.slice ND NF NG),(.slice NH NI NJ)]))]) (cs:=#[(.slice ND NF NG),(.slice NH NI NJ)]) underlying22 (by kernel_rfl) rfl rfl rfl (by kernel_rfl) (fun NK hn=>?_)
  replace h:=h NK hn
  refine Seq.o ?_;refine AQ.Wd (d:=(some 58)) (op:=(.call { callee:=.builtin .append,args:=#[(.tmp 55),(.tmp 57)],argTypes:=#[22,22] })) (ty:=22) (gd:=none) (by kernel_rfl) rfl rfl (Builtin.append_ #[22,22] 22 #[(.slice lC lD lE),(.slice (some ⟨NK,0,none⟩) 1 1)]) (fun o ho ht=>IY rfl rfl o ho ht) (h.mono (fun v Bp h2=>?_));replace h:=h2;clear h2;obtain⟨WV,TM,XU,rfl,h⟩:=h;refine Seq.o ?_;refine AQ.store (T:=22) (ty:=0) (x:=(.tmp 7)) (y:=(.tmp 58)) (p:=(.pointer (some ⟨b7,0,none⟩))) (v:=(.slice WV TM XU)) (gd:=none) (by kernel_rfl) rfl rfl rfl (h.mono (fun _ DK h2=>?_));replace h:=h2;clear h2;refine Seq.done ?_;refine At.inBlock ?_;exact At.Pr rfl h.1 h.2
end Cb
namespace Bd
variable {q0 p1c sf:Option Addr}{CA Ba dC dD x6:Int}{xn yx qo sg:Nat}{v18:Value}
def M:Fw:=⟨prog,13,f13,[41,42],[3],false,[],[(18,69)],[(488,[(0,wQ),(3,.X 43 [.I .u64,.I .i64,.L]),(6,wI),(18,wV)])]⟩
def ok:M.Ok:=⟨.cons call41 (.cons call42 (AG.nil)),mixed,func13,by kernel_rfl⟩
def Kj:=M.pt 0
def start (h:∀b3:Nat,AH 41 #[.agg #[.U CA,.I Ba,.slice p1c xn yx]] σ R (CI .i64 fun x10 y=>Br (x10≠0) (R (.returned (.I x10)) y) (Pq q0 fun TN dE=>LM y TN (dE+4) fun m17=>AI prog (Instr.range 69 (.map m17)) y (fun z AE=>∃v18,v18=z∧Kj R (aD TN dE) CA Ba p1c xn yx 0 v18 AE)))):Spec prog 13 #[.pointer q0,.agg #[.U CA,.I Ba,.slice p1c xn yx]] σ R:=M.start h ok
def ER (h:AI prog (Instr.next v18 false 0) σ (fun v y=>(v=(.tuple #[.bool false])∧Pq q0 fun Qm XV=>LI .i64 y Qm (XV+5) fun nh=>Br (x6<nh) (R (.returned (.I 271)) y) (AH 42 #[.agg #[.U dC,.I dD,.slice sf qo sg]] y R (fun z AE=>∃si sj sk sn so,z=(.agg #[.U si,.I sj,.slice sk sn so])∧AI prog (Instr.storeAt 43 (.pointer (aD Qm (XV+7))) (.agg #[.U si,.I sj,.slice sk sn so])) AE (fun _ AJ=>AI prog (Instr.storeAt 4 (.pointer (aD Qm (XV+6))) (.bool true)) AJ (fun _ Ah=>AI prog (Instr.storeAt 45 (.pointer (aD Qm (XV+12))) (.func (.func 43) #[(.pointer (aD Qm XV))] #[])) Ah (fun _ CF=>R (.returned (.I 0)) CF))))))∨(∃Jo Ki,v=(.tuple #[.bool true,.I Jo,.I Ki])∧AI prog (Instr.entry v18) y (fun z AE=>∃UM Sp,z=(.tuple #[.I UM,.I Sp])∧Br (0<Sp) (AK (x6+1)∧Kj R q0 dC dD sf qo sg (x6+1) v18 AE) (Kj R q0 dC dD sf qo sg x6 v18 AE))))):Kj R q0 dC dD sf qo sg x6 v18 σ:=M.Ya h ok rfl fun _=>by kernel_rfl
end Bd
namespace Ek
variable {p0 p3 p6:Option Addr}{n0 c0 n3 c3 n6 c6:Nat}{x7 x8:Int}
def M:Fw:=⟨prog,38,f38,[],[5],false,[],[],[(232,[(3,wL),(6,wL),(7,wI),(8,wI)])]⟩
def ok:M.Ok:=⟨AG.nil,mixed,func38,by kernel_rfl⟩
def Ap:=M.pt 0
def start (h:Ap R none 0 0 p0 n0 c0 (n0:Int) 0 σ):Spec prog 38 #[.slice p0 n0 c0] σ R:=M.start h ok
def AR (h:Br (x8<x7) (Pq p6 fun Cs Kr=>In x8 (n6:Int)∧∃RD RE RF ib ic ig,Am σ Cs (Kr+x8.toNat*2) [.slice RD RE RF,.slice ib ic ig]∧∀b5:Nat,(Al σ fun Gn=>(AI prog (Builtin.append_ #[95,95] 95 #[(.slice (aD Gn 0) 0 0),.slice RD RE RF]) (Hp.set σ Gn (.cells #[] 144 (0,0))) (CS fun Ql n16 PK y=>Al y fun Ie=>AI prog (Builtin.append_ #[96,96] 96 #[(.slice (aD Ie 0) 0 0),.slice ib ic ig]) (Hp.set y Ie (.cells #[] 111 (0,0))) (CS fun TO n20 RG AE=>Al AE fun Yf=>AI prog (GO 22 p3 n3 c3 Yf) (Hp.set AE Yf (.cells #[.slice Ql n16 PK,.slice TO n20 RG] 98 (0,0))) (CS fun kv n23 cd AJ=>AK (x8+1)∧Ap R kv n23 cd (aD Cs Kr) n6 c6 x7 (x8+1) AJ))))∧(Al (Hp.set σ Gn (.cells #[] 144 (0,0))) fun Ie=>AI prog (Builtin.append_ #[95,95] 95 #[(.slice (aD Gn 0) 0 0),.slice RD RE RF]) (Hp.set (Hp.set σ Gn (.cells #[] 144 (0,0))) Ie (.cells #[] 111 (0,0))) (CS fun Ql n16 PK y=>AI prog (Builtin.append_ #[96,96] 96 #[(.slice (aD Ie 0) 0 0),.slice ib ic ig]) y (CS fun TO n20 RG AE=>Al AE fun Yf=>AI prog (GO 22 p3 n3 c3 Yf) (Hp.set AE Yf (.cells #[.slice Ql n16 PK,.slice TO n20 RG] 98 (0,0))) (CS fun kv n23 cd AJ=>AK (x8+1)∧Ap R kv n23 cd (aD Cs Kr) n6 c6 x7 (x8+1) AJ)))))∧(Al σ fun Ie=>Al (Hp.set σ Ie (.cells #[] 111 (0,0))) fun Gn=>AI prog (Builtin.append_ #[95,95] 95 #[(.slice (aD Gn 0) 0 0),.slice RD RE RF]) (Hp.set (Hp.set σ Ie (.cells #[] 111 (0,0))) Gn (.cells #[] 144 (0,0))) (CS fun Ql n16 PK y=>AI prog (Builtin.append_ #[96,96] 96 #[(.slice (aD Ie 0) 0 0),.slice ib ic ig]) y (CS fun TO n20 RG AE=>Al AE fun Yf=>AI prog (GO 22 p3 n3 c3 Yf) (Hp.set AE Yf (.cells #[.slice Ql n16 PK,.slice TO n20 RG] 98 (0,0))) (CS fun kv n23 cd AJ=>AK (x8+1)∧Ap R kv n23 cd (aD Cs Kr) n6 c6 x7 (x8+1) AJ))))) (R (.returned (.slice p3 n3 c3)) σ)):Ap R p3 n3 c3 p6 n6 c6 x7 x8 σ:=M.of h ok rfl
end Ek
namespace AY
variable {q0:Option Addr}{v1:Value}{x2 x3:Int}{b9:Nat}
def M:Fw:=⟨prog,63,f63,[31,95,96,97,98,99,100],[],false,[],[],[(48,[(0,wQ),(1,wV),(2,wI),(3,wI)]),(3198,[(0,wQ),(1,wV),(2,wI),(3,wI),(9,wA)])]⟩
def ok:M.Ok:=⟨.cons call31 (.cons call95 (.cons call96 (.cons call97 (.cons call98 (.cons call99 (.cons call100 (AG.nil))))))),mixed,func63,by kernel_rfl⟩
def ij:=M.pt 0
def Fy:=M.pt 1
def start (h:∃(f11:Nat) (dF dG:Array Value),v1=.func (.func f11) dF dG∧Enters prog f11∧Spec prog f11 (dF++#[]++dG) σ (AZ R (fun z y=>z=(.tuple #[])∧ij R q0 v1 x2 x3 y))):Spec prog 63 #[.pointer q0,v1,.I x2,.I x3] σ R:=M.CL h ok [(0,.o (.Q q0)),(1,.o (.V v1)),(2,.o (.I .i64 x2)),(3,.o (.I .i64 x3))] rfl rfl (by kernel_rfl)
def UN (h:AH 96 #[] σ R (CS fun WW n12 UO y=>AH 31 #[.pointer q0] y R (fun z AE=>∃Fz RH Yg nj,z=(.agg #[.I Fz,.I RH,.string Yg,.I nj])∧AH 95 #[.slice WW n12 UO,.string Yg] AE R (CI .i64 fun x16 AJ=>AH 31 #[.pointer q0] AJ R (fun z Ah=>∃PI PJ il AQ3,z=(.agg #[.I PI,.I PJ,.string il,.I AQ3])∧Br (PI≠5) (AH 31 #[.pointer q0] Ah R (fun z CF=>∃yz dH AES AET,z=(.agg #[.I yz,.I dH,.string AES,.I AET])∧Br (yz≠3) (R (.T #[]) CF) (Br (x16<x2) (R (.T #[]) CF) (Br (x3<x16) (R (.T #[]) CF) (Br (x2=11) (Br (x16=12) (R (.T #[]) CF) (AH 97 #[.pointer q0] CF R (fun z Fu=>∃Ig Ih Yh Yi,z=(.agg #[.I Ig,.I Ih,.string Yh,.I Yi])∧Al Fu fun b9=>AI prog (Instr.storeAt 127 (.pointer (aD b9 0)) (.agg #[.I 6,.I x16,(.string (ByteArray.mk #[])),.N,.I 0,.I 0,.I 0,.N,.bool false,.I 2])) (Hp.set Fu b9 (.cells #[.I 0,.I 0,(.string (ByteArray.mk #[])),.N,.I 0,.I 0,.I 0,.N,.bool false,.I 0] 127 (0,0))) (fun _ FX=>Br (5≤x16) (Br (x16≤10) (AH 98 #[.pointer q0,.I 3,(.string (ByteArray.mk #[98,111,111,108]))] FX R (CB fun t55 TJ=>Bo t55 (AH 97 #[.pointer q0] TJ R (fun z Wk=>∃Yj Yk Yl Ym,z=(.agg #[.I Yj,.I Yk,.string Yl,.I Ym])∧AI prog (Instr.storeAt 4 (.pointer (aD b9 8)) (.bool true)) Wk (fun _ Jk=>Fy R q0 v1 x2 x3 b9 Jk))) (Fy R q0 v1 x2 x3 b9 TJ))) (Fy R q0 v1 x2 x3 b9 FX)) (Fy R q0 v1 x2 x3 b9 FX))))) (AH 97 #[.pointer q0] CF R (fun z Fu=>∃Ig Ih Yh Yi,z=(.agg #[.I Ig,.I Ih,.string Yh,.I Yi])∧Al Fu fun b9=>AI prog (Instr.storeAt 127 (.pointer (aD b9 0)) (.agg #[.I 6,.I x16,(.string (ByteArray.mk #[])),.N,.I 0,.I 0,.I 0,.N,.bool false,.I 2])) (Hp.set Fu b9 (.cells #[.I 0,.I 0,(.string (ByteArray.mk #[])),.N,.I 0,.I 0,.I 0,.N,.bool false,.I 0] 127 (0,0))) (fun _ FX=>Br (5≤x16) (Br (x16≤10) (AH 98 #[.pointer q0,.I 3,(.string (ByteArray.mk #[98,111,111,108]))] FX R (CB fun t55 TJ=>Bo t55 (AH 97 #[.pointer q0] TJ R (fun z Wk=>∃Yj Yk Yl Ym,z=(.agg #[.I Yj,.I Yk,.string Yl,.I Ym])∧AI prog (Instr.storeAt 4 (.pointer (aD b9 8)) (.bool true)) Wk (fun _ Jk=>Fy R q0 v1 x2 x3 b9 Jk))) (Fy R q0 v1 x2 x3 b9 TJ))) (Fy R q0 v1 x2 x3 b9 FX)) (Fy R q0 v1 x2 x3 b9 FX))))))))) (Br (x16<x2) (R (.T #[]) Ah) (Br (x3<x16) (R (.T #[]) Ah) (Br (x2=11) (Br (x16=12) (R (.T #[]) Ah) (AH 97 #[.pointer q0] Ah R (fun z CF=>∃Ig Ih Yh Yi,z=(.agg #[.I Ig,.I Ih,.string Yh,.I Yi])∧Al CF fun b9=>AI prog (Instr.storeAt 127 (.pointer (aD b9 0)) (.agg #[.I 6,.I x16,(.string (ByteArray.mk #[])),.N,.I 0,.I 0,.I 0,.N,.bool false,.I 2])) (Hp.set CF b9 (.cells #[.I 0,.I 0,(.string (ByteArray.mk #[])),.N,.I 0,.I 0,.I 0,.N,.bool false,.I 0] 127 (0,0))) (fun _ Fu=>Br (5≤x16) (Br (x16≤10) (AH 98 #[.pointer q0,.I 3,(.string (ByteArray.mk #[98,111,111,108]))] Fu R (CB fun t55 FX=>Bo t55 (AH 97 #[.pointer q0] FX R (fun z TJ=>∃Yj Yk Yl Ym,z=(.agg #[.I Yj,.I Yk,.string Yl,.I Ym])∧AI prog (Instr.storeAt 4 (.pointer (aD b9 8)) (.bool true)) TJ (fun _ Wk=>Fy R q0 v1 x2 x3 b9 Wk))) (Fy R q0 v1 x2 x3 b9 FX))) (Fy R q0 v1 x2 x3 b9 Fu)) (Fy R q0 v1 x2 x3 b9 Fu))))) (AH 97 #[.pointer q0] Ah R (fun z CF=>∃Ig Ih Yh Yi,z=(.agg #[.I Ig,.I Ih,.string Yh,.I Yi])∧Al CF fun b9=>AI prog (Instr.storeAt 127 (.pointer (aD b9 0)) (.agg #[.I 6,.I x16,(.string (ByteArray.mk #[])),.N,.I 0,.I 0,.I 0,.N,.bool false,.I 2])) (Hp.set CF b9 (.cells #[.I 0,.I 0,(.string (ByteArray.mk #[])),.N,.I 0,.I 0,.I 0,.N,.bool false,.I 0] 127 (0,0))) (fun _ Fu=>Br (5≤x16) (Br (x16≤10) (AH 98 #[.pointer q0,.I 3,(.string (ByteArray.mk #[98,111,111,108]))] Fu R (CB fun t55 FX=>Bo t55 (AH 97 #[.pointer q0] FX R (fun z TJ=>∃Yj Yk Yl Ym,z=(.agg #[.I Yj,.I Yk,.string Yl,.I Ym])∧AI prog (Instr.storeAt 4 (.pointer (aD b9 8)) (.bool true)) TJ (fun _ Wk=>Fy R q0 v1 x2 x3 b9 Wk))) (Fy R q0 v1 x2 x3 b9 FX))) (Fy R q0 v1 x2 x3 b9 Fu)) (Fy R q0 v1 x2 x3 b9 Fu)))))))))))):ij R q0 v1 x2 x3 σ:=M.of h ok rfl
def Yn (h:AH 99 #[.pointer q0,(.pointer (aD b9 0)),(.agg #[(.string (ByteArray.mk #[111,110])),(.string (ByteArray.mk #[105,103,110,111,114,105,110,103]))]),.agg #[.I 3,.I 4]] σ R (fun z y=>z=(.tuple #[])∧∃(f65:Nat) (ABo ABp:Array Value),v1=.func (.func f65) ABo ABp∧Enters prog f65∧Spec prog f65 (ABo++#[]++ABp) y (AZ R (fun z AE=>z=(.tuple #[])∧∃LA LC LD LF LG LH LJ LK LL LN LO LP LR LU,Am AE b9 0 [.I LA,.I LC,.string LD,.slice LF LG LH,.I LJ,.I LK,.I LL,.slice LN LO LP,.bool LR,.I LU]∧AH 100 #[.pointer q0,.agg #[.I LA,.I LC,.string LD,.slice LF LG LH,.I LJ,.I LK,.I LL,.slice LN LO LP,.bool LR,.I LU]] AE R (fun z AJ=>z=(.tuple #[])∧ij R q0 v1 x2 x3 AJ))))):Fy R q0 v1 x2 x3 b9 σ:=M.of h ok rfl
end AY
namespace BA
variable {p0 p1 Ko:Option Addr}{n0 c0 n1 c1 n11 Kq:Nat}{v2:Value}{x12 E2:Int}
def M:Fw:=⟨prog,72,f72,[],[8,9],false,[],[],[(104,[(0,wL),(1,wL),(2,wV),(11,wL),(12,wI),(13,wI)])]⟩
def ok:M.Ok:=⟨AG.nil,mixed,func72,by kernel_rfl⟩
def Fv:=M.pt 0
def start (h:Fv R p0 n0 c0 p1 n1 c1 v2 p0 n0 c0 (n0:Int) 0 σ):Spec prog 72 #[.slice p0 n0 c0,.slice p1 n1 c1,v2] σ R:=M.CL h ok [(0,.o (.L p0 n0 c0)),(1,.o (.L p1 n1 c1)),(2,.o (.V v2))] rfl rfl (by kernel_rfl)
def As (h:Br (E2<x12) (Pq Ko fun SB Ye=>In E2 (n11:Int)∧∃AJQ AJR,Am σ SB (Ye+E2.toNat*2) [.string AJQ,.string AJR]∧∀b8:Nat,Br ((n1:Int)≤E2) (R (.returned (.I 1)) σ) (Pq p1 fun Wp bE=>In E2 (n1:Int)∧∃AJS AJT,Am σ Wp (bE+E2.toNat*2) [.string AJS,.string AJT]∧∀b9:Nat,∃(f29:Nat) (ABq ABr:Array Value),v2=.func (.func f29) ABq ABr∧Enters prog f29∧Spec prog f29 (ABq++#[.agg #[.string AJQ,.string AJR],.agg #[.string AJS,.string AJT]]++ABr) σ (AZ R (CI .i64 fun Ss y=>Br (Ss≠0) (R (.returned (.I Ss)) y) (AK (E2+1)∧Fv R p0 n0 c0 (aD Wp bE) n1 c1 v2 (aD SB Ye) n11 Kq x12 (E2+1) y))))) (Br ((n0:Int)<(n1:Int)) (R (.returned (.I (-1))) σ) (R (.returned (.I 0)) σ))):Fv R p0 n0 c0 p1 n1 c1 v2 Ko n11 Kq x12 E2 σ:=M.of h ok rfl
end BA
namespace F0
variable {s0:ByteArray}{x3:Int}
def M:Fw:=⟨prog,82,f82,[],[],false,[],[],[(464,[(0,wT),(3,wI)])]⟩
def ok:M.Ok:=⟨AG.nil,mixed,func82,by kernel_rfl⟩
def EE:=M.pt 0
def start (h:Bo ((ByteArray.toList s0==ByteArray.toList (ByteArray.mk #[]))) (R (.B false) σ) (Br ((64:Int)<(s0.size:Int)) (R (.B false) σ) (∃Mr:UInt8,(0:Int)≤0∧(ByteArray.data s0)[Int.toNat 0]?=some Mr∧Br ((48:Int)≤(Mr.toNat:Int)) (∃u18:UInt8,(0:Int)≤0∧(ByteArray.data s0)[Int.toNat 0]?=some u18∧Br (((u18.toNat:Int):Int)≤57) (R (.B false) σ) (EE R s0 0 σ)) (EE R s0 0 σ)))):Spec prog 82 #[.string s0] σ R:=M.start h ok
def C4 (h:Br (x3<(s0.size:Int)) (∃gM:UInt8,0≤x3∧(ByteArray.data s0)[x3.toNat]?=some gM∧Br (((gM.toNat:Int):Int)≠95) (Br (((gM.toNat:Int):Int)<48) (Br (((gM.toNat:Int):Int)<65) (Br (((gM.toNat:Int):Int)<97) (R (.B false) σ) (Br ((122:Int)<(gM.toNat:Int)) (R (.B false) σ) (AK (x3+1)∧EE R s0 (x3+1) σ))) (Br ((90:Int)<(gM.toNat:Int)) (Br (((gM.toNat:Int):Int)<97) (R (.B false) σ) (Br ((122:Int)<(gM.toNat:Int)) (R (.B false) σ) (AK (x3+1)∧EE R s0 (x3+1) σ))) (AK (x3+1)∧EE R s0 (x3+1) σ))) (Br ((57:Int)<(gM.toNat:Int)) (Br (((gM.toNat:Int):Int)<65) (Br (((gM.toNat:Int):Int)<97) (R (.B false) σ) (Br ((122:Int)<(gM.toNat:Int)) (R (.B false) σ) (AK (x3+1)∧EE R s0 (x3+1) σ))) (Br ((90:Int)<(gM.toNat:Int)) (Br (((gM.toNat:Int):Int)<97) (R (.B false) σ) (Br ((122:Int)<(gM.toNat:Int)) (R (.B false) σ) (AK (x3+1)∧EE R s0 (x3+1) σ))) (AK (x3+1)∧EE R s0 (x3+1) σ))) (AK (x3+1)∧EE R s0 (x3+1) σ))) (AK (x3+1)∧EE R s0 (x3+1) σ)) (R (.B true) σ)):EE R s0 x3 σ:=M.of h ok rfl
end F0
namespace XW
def M:Fw:=⟨prog,96,f96,[],[],false,[],[],[]⟩
def ok:M.Ok:=⟨AG.nil,mixed,func96,by kernel_rfl⟩
def start (h:Al σ fun b1=>R (.returned (.slice (aD b1 0) 14 14)) (Hp.set σ b1 (.cells #[(.string (ByteArray.mk #[])),(.string (ByteArray.mk #[43])),(.string (ByteArray.mk #[45])),(.string (ByteArray.mk #[42])),(.string (ByteArray.mk #[47])),(.string (ByteArray.mk #[61,61])),(.string (ByteArray.mk #[33,61])),(.string (ByteArray.mk #[60])),(.string (ByteArray.mk #[60,61])),(.string (ByteArray.mk #[62])),(.string (ByteArray.mk #[62,61])),(.string (ByteArray.mk #[97,110,100])),(.string (ByteArray.mk #[111,114])),(.string (ByteArray.mk #[117,110,108,101,115,115]))] 9 (0,0)))):Spec prog 96 #[] σ R:=M.start h ok
end XW
namespace KQ
variable {q0:Option Addr}
def M:Fw:=⟨prog,97,f97,[],[2,3],false,[],[],[]⟩
def ok:M.Ok:=⟨AG.nil,mixed,func97,by kernel_rfl⟩
def start (h:∀b2:Nat,Pq q0 fun b5 o5=>LS σ b5 o5 fun p7 n7 c7=>Pq p7 fun b8 o8=>In 0 (n7:Int)∧∃x9a x9b s9c x9d,Am σ b8 o8 [.I x9a,.I x9b,.string s9c,.I x9d]∧∀b3:Nat,LS σ b5 o5 fun I6 n14 Hu=>((0:Int)≤1∧1≤(n14:Int))∧AI prog (Instr.storeAt 73 (.pointer (aD b5 o5)) (.slice (E1 I6 (1) Hu 4) (n14-1) (Hu-1))) σ (fun _ y=>R (.returned (.agg #[.I x9a,.I x9b,.string s9c,.I x9d])) y)):Spec prog 97 #[.pointer q0] σ R:=M.start h ok
end KQ
namespace KR
variable {q0:Option Addr}{x1:Int}{s2:ByteArray}
def M:Fw:=⟨prog,98,f98,[31],[],false,[],[],[]⟩
def ok:M.Ok:=⟨.cons call31 (AG.nil),mixed,func98,by kernel_rfl⟩
def start (h:AH 31 #[.pointer q0] σ R (fun z y=>∃EW Em s8c x8d,z=(.agg #[.I EW,.I Em,.string s8c,.I x8d])∧Br (EW=x1) (AH 31 #[.pointer q0] y R (fun z AE=>∃Fz RH Yg nj,z=(.agg #[.I Fz,.I RH,.string Yg,.I nj])∧R (.returned (.bool (ByteArray.toList Yg==ByteArray.toList s2))) AE)) (R (.B false) y))):Spec prog 98 #[.pointer q0,.I x1,.string s2] σ R:=M.start h ok
end KR
namespace Ag
variable {v0:Value}{x1 x2 x7 x9:Int}
def M:Fw:=⟨prog,103,f103,[],[],false,[],[],[(224,[(0,wV),(1,wI),(2,wI),(7,wI)]),(30,[(1,wI),(7,wI)]),(7228,[(0,wV),(1,wI),(2,wI),(7,wI),(9,wI)])]⟩
def ok:M.Ok:=⟨AG.nil,mixed,func103,by kernel_rfl⟩
def E3:=M.pt 0
def Yo:=M.pt 1
def Gm:=M.pt 2
def start (h:E3 R v0 x1 x2 x1 σ):Spec prog 103 #[v0,.I x1,.I x2] σ R:=M.CL h ok [(0,.o (.V v0)),(1,.o (.I .i64 x1)),(2,.o (.I .i64 x2))] rfl rfl (by kernel_rfl)
def A2 (h:AK (2*x7)∧AK ((2*x7)+1)∧Br (x2≤((2*x7)+1)) (Yo R x1 x7 σ) (Br ((((2*x7)+1):Int)<0) (Yo R x1 x7 σ) (AK (((2*x7)+1)+1)∧Br (((((2*x7)+1)+1):Int)<x2) (MC prog v0 R4 #[(.I (((2*x7)+1)+1)),(.I ((2*x7)+1))] σ (AZ R (CB fun t32 y=>Bo t32 (Gm R v0 x1 x2 x7 ((((2*x7)+1)+1)) y) (Gm R v0 x1 x2 x7 (((2*x7)+1)) y)))) (Gm R v0 x1 x2 x7 (((2*x7)+1)) σ)))):E3 R v0 x1 x2 x7 σ:=M.of h ok rfl
def P0 (h:R (.returned (.bool (decide (x1<x7)))) σ):Yo R x1 x7 σ:=M.of h ok rfl
def EO (h:MC prog v0 R4 #[.I x9,.I x7] σ (AZ R (CB fun t38 y=>Bn t38 (Yo R x1 x7 y) (MC prog v0 Py #[.I x7,.I x9] y (AZ R (fun z AE=>z=(.tuple #[])∧E3 R v0 x1 x2 x9 AE)))))):Gm R v0 x1 x2 x7 x9 σ:=M.of h ok rfl
end Ag
namespace UP
variable {x0:Int}
def M:Fw:=⟨prog,120,f120,[],[],false,[],[],[]⟩
def ok:M.Ok:=⟨AG.nil,mixed,func120,by kernel_rfl⟩
def start (h:Br (11≤x0) (R (.returned (.bool (decide (x0≤13)))) σ) (R (.B false) σ)):Spec prog 120 #[.I x0] σ R:=M.start h ok
end UP
namespace EF
variable {p0 p5:Option Addr}{n0 c0 n5 c5:Nat}{x1:Int}
def M:Fw:=⟨prog,140,f140,[],[],false,[],[],[(224,[(1,wU),(5,wL)])]⟩
def ok:M.Ok:=⟨AG.nil,mixed,func140,by kernel_rfl⟩
def E3:=M.pt 0
def start (h:Al σ fun b6=>AI prog (Builtin.append_ #[134,134] 134 #[(.slice (aD b6 0) 0 0),.slice p0 n0 c0]) (Hp.set σ b6 (.cells #[] 5 (0,0))) (CS fun p8 n8 c8 y=>E3 R x1 p8 n8 c8 y)):Spec prog 140 #[.slice p0 n0 c0,.U x1] σ R:=M.start h ok
def A2 (h:Br (127<x1) (Df (IntKind.u8.wrap x1) fun x15=>Df (Go.bits .or .u8 x15 128) fun x16=>Al σ fun Ie=>AI prog (GO 134 p5 n5 c5 Ie) (Hp.set σ Ie (.cells #[.int .u8 x16] 5 (0,0))) (CS fun sT n18 ql y=>((0:Int)≤7∧7≤((IntKind.bits .u64:Nat):Int))∧Df (x1/2^Int.toNat 7) fun x12=>E3 R x12 sT n18 ql y)) (Df (IntKind.u8.wrap x1) fun dI=>Al σ fun Yf=>AI prog (GO 134 p5 n5 c5 Yf) (Hp.set σ Yf (.cells #[.int .u8 dI] 5 (0,0))) (CS fun kv n23 cd y=>R (.returned (.slice kv n23 cd)) y))):E3 R x1 p5 n5 c5 σ:=M.of h ok rfl
end EF
namespace XX
variable {p0:Option Addr}{n0 c0:Nat}
def M:Fw:=⟨prog,158,f158,[162],[],false,[],[],[]⟩
def ok:M.Ok:=⟨.cons call162 (AG.nil),mixed,func158,by kernel_rfl⟩
def start (h:Al σ fun b4=>AH 162 #[.slice p0 n0 c0,(.slice (aD b4 0) 1 1)] (Hp.set σ b4 (.cells #[(.string (ByteArray.mk #[95,95,110,97,109,101,95,95]))] 9 (0,0))) R (CS fun p5 n5 c5 y=>R (.returned (.slice p5 n5 c5)) y)):Spec prog 158 #[.slice p0 n0 c0] σ R:=M.start h ok
end XX
namespace FI
variable {p0:Option Addr}{n0 c0:Nat}
def M:Fw:=⟨prog,166,f166,[163,167,204],[],false,[],[],[]⟩
def ok:M.Ok:=⟨.cons call163 (.cons call167 (.cons call204 (AG.nil))),mixed,func166,by kernel_rfl⟩
def start (h:AH 163 #[.slice p0 n0 c0] σ R (CI .u64 fun x4 y=>AH 167 #[.slice p0 n0 c0] y R (CI .u64 fun x6 AE=>AH 204 #[.U x4,.U x6] AE R (CI .u64 fun x7 AJ=>R (.returned (.U x7)) AJ)))):Spec prog 166 #[.slice p0 n0 c0] σ R:=M.start h ok
end FI
namespace BY
variable {p0:Option Addr}{n0 c0:Nat}{x3:Int}
def M:Fw:=⟨prog,197,f197,[234],[],false,[],[],[(224,[(0,wL),(3,wI)])]⟩
def ok:M.Ok:=⟨.cons call234 (AG.nil),mixed,func197,by kernel_rfl⟩
def E3:=M.pt 0
def start (h:E3 R p0 n0 c0 8 σ):Spec prog 197 #[.slice p0 n0 c0] σ R:=M.start h ok
def A2 (h:Br ((n0:Int)<x3) (2≠(0:Int)∧Df (IntKind.i64.wrap (Int.tdiv x3 2)) fun x11=>E3 R p0 n0 c0 x11 σ) (AK ((n0:Int)-x3)∧((0:Int)≤((n0:Int)-x3)∧((n0:Int)-x3)≤(n0:Int))∧AH 234 #[(.slice (E1 p0 (Int.toNat ((n0:Int)-x3)) c0 1) (n0-Int.toNat ((n0:Int)-x3)) (c0-Int.toNat ((n0:Int)-x3)))] σ R (fun z y=>∃Jo Ki,z=(.tuple #[.U Jo,.I Ki])∧R (.returned (.U Jo)) y))):E3 R p0 n0 c0 x3 σ:=M.of h ok rfl
end BY
namespace DX
variable {p0 p1:Option Addr}{n0 c0 n1 c1:Nat}
def M:Fw:=⟨prog,203,f203,[202,204],[],false,[],[],[]⟩
def ok:M.Ok:=⟨.cons call202 (.cons call204 (AG.nil)),mixed,func203,by kernel_rfl⟩
def start (h:Pq p1 fun b8 o8=>In 0 (n1:Int)∧LI .u64 σ b8 (o8+1) fun x10=>AH 202 #[.slice p0 n0 c0] σ R (CI .u64 fun x6 y=>Kp [b8] σ y∧AH 204 #[.U x6,.U x10] y R (CI .u64 fun x11 AE=>R (.returned (.U x11)) AE))):Spec prog 203 #[.slice p0 n0 c0,.slice p1 n1 c1] σ R:=M.start h ok
end DX
namespace eval_add
variable {x0 x1:Int}
def M:Fw:=⟨prog,211,f211,[213],[],false,[],[],[]⟩
def ok:M.Ok:=⟨.cons call213 (AG.nil),mixed,func211,by kernel_rfl⟩
def start (h:AH 213 #[.I 1,.U x0,.U x1] σ R (fun z y=>∃Gu UJ,z=(.tuple #[.U Gu,.bool UJ])∧R (.returned (.U Gu)) y)):Spec prog 211 #[.U x0,.U x1] σ R:=M.start h ok
end eval_add
namespace FJ
variable {q0:Option Addr}{v1:Value}
def M:Fw:=⟨prog,219,f219,[31,65,97],[],false,[],[],[(6,[(0,wQ),(1,wV)])]⟩
def ok:M.Ok:=⟨.cons call31 (.cons call65 (.cons call97 (AG.nil))),mixed,func219,by kernel_rfl⟩
def xo:=M.pt 0
def start (h:Pq q0 fun b5 o5=>LI .i64 σ b5 (o5+1) fun x7=>Br (x7=64) (AH 31 #[(.pointer (aD b5 o5))] σ R (fun z y=>∃Yp PL nk y5,z=(.agg #[.I Yp,.I PL,.string nk,.I y5])∧AH 65 #[(.pointer (aD b5 o5)),.I 182,.agg #[.I Yp,.I PL,.string nk,.I y5]] y R (fun z AE=>z=(.tuple #[])∧xo R (aD b5 o5) v1 AE))) (xo R (aD b5 o5) v1 σ)):Spec prog 219 #[.pointer q0,v1] σ R:=M.CL h ok [(0,.o (.Q q0)),(1,.o (.V v1))] rfl rfl (by kernel_rfl)
def UQ (h:Pq q0 fun HH JU=>LI .i64 σ HH (JU+1) fun x16=>AK (x16+1)∧AI prog (Instr.storeAt 3 (.pointer (aD HH (JU+1))) (.I (x16+1))) σ (fun _ y=>AH 97 #[(.pointer (aD HH JU))] y R (fun z AE=>∃UM Sp AQ4 AQ5,z=(.agg #[.I UM,.I Sp,.string AQ4,.I AQ5])∧∃(f23:Nat) (ABs ABt:Array Value),v1=.func (.func f23) ABs ABt∧Enters prog f23∧Spec prog f23 (ABs++#[]++ABt) AE (AZ R (fun z AJ=>z=(.tuple #[])∧LI .i64 AJ HH (JU+1) fun Hv=>AK (Hv-1)∧AI prog (Instr.storeAt 3 (.pointer (aD HH (JU+1))) (.I (Hv-1))) AJ (fun _ Ah=>R (.T #[]) Ah)))))):xo R q0 v1 σ:=M.of h ok rfl
end FJ
namespace ES
variable {bD:Option Addr}{Pz XT:Nat}{gJ s1:ByteArray}
def M:Fw:=⟨prog,228,f228,[248],[2],false,[],[],[]⟩
def ok:M.Ok:=⟨.cons call248 (AG.nil),mixed,func228,by kernel_rfl⟩
def start (h:∀b2:Nat,AH 248 #[.agg #[.slice bD Pz XT],.string s1] σ R (CB fun t8 y=>R (.returned (.bool (!t8))) y)):Spec prog 228 #[.agg #[.slice bD Pz XT,.string gJ],.string s1] σ R:=M.start h ok
end ES
end TwW
end
end
section
set_option maxRecDepth 100000
noncomputable section
namespace TwW
open Go Tw Go.Proofs.Tryz
variable [Ez]{R:Rr}{σ:Hp}

namespace SD
def M:Fw:=⟨prog,239,f239,[],[],false,[],[],[]⟩
def ok:M.Ok:=⟨AG.nil,mixed,func239,by kernel_rfl⟩
def start (h:Al σ fun b1=>R (.returned (.slice (aD b1 0) 13 13)) (Hp.set σ b1 (.cells #[(.string (ByteArray.mk #[])),(.string (ByteArray.mk #[114,97,116,101])),(.string (ByteArray.mk #[105,110,99,114,101,97,115,101])),(.string (ByteArray.mk #[100,101,108,116,97])),(.string (ByteArray.mk #[115,117,109,95,111,118,101,114,95,116,105,109,101])),(.string (ByteArray.mk #[97,118,103,95,111,118,101,114,95,116,105,109,101])),(.string (ByteArray.mk #[109,105,110,95,111,118,101,114,95,116,105,109,101])),(.string (ByteArray.mk #[109,97,120,95,111,118,101,114,95,116,105,109,101])),(.string (ByteArray.mk #[99,111,117,110,116,95,111,118,101,114,95,116,105,109,101])),(.string (ByteArray.mk #[108,97,115,116,95,111,118,101,114,95,116,105,109,101])),(.string (ByteArray.mk #[119,97,118,101])),(.string (ByteArray.mk #[97,98,115])),(.string (ByteArray.mk #[102,108,111,111,114]))] 9 (0,0)))):Spec prog 239 #[] σ R:=M.start h ok
end SD
namespace XY
variable {x0:Int}
def M:Fw:=⟨prog,252,f252,[],[],false,[],[],[]⟩
def ok:M.Ok:=⟨AG.nil,mixed,func252,by kernel_rfl⟩
def start (h:Br (x0=1) (R (.B true) σ) (Br (x0=2) (R (.B true) σ) (Br (x0=4) (R (.B true) σ) (R (.returned (.bool (decide (x0=8)))) σ)))):Spec prog 252 #[.I x0] σ R:=M.start h ok
end XY
namespace BQ
variable {x0 x1:Int}{t2 t7:Bool}{v6:Value}
def M:Fw:=⟨prog,293,f293,[],[],false,[],[],[(248,[(1,wI),(6,wV),(7,wB)]),(15988,[(1,wI),(6,wV),(7,wB)])]⟩
def ok:M.Ok:=⟨AG.nil,mixed,func293,by kernel_rfl⟩
def AEV:=M.pt 0
def RI:=M.pt 1
def start (h:LI .u64 σ 6 0 fun x10=>(0≤x10∧x10≤((IntKind.bits .u64:Nat):Int))∧Df (x0/2^x10.toNat) fun x11=>Br (x11≠0) (R (.T #[.float .f64 0,.bool false]) σ) (AI prog (convert 27 258 (.U x0)) σ (fun z y=>∃Jl,(Value.float .f64 Jl)=z∧Bo t2 (∃x17,YF prog (Op.unary .neg (Value.float .f64 Jl)) y (Value.float .f64 x17)∧AEV R x1 (Value.float .f64 x17) false y) (AEV R x1 (Value.float .f64 Jl) false y)))):Spec prog 293 #[.U x0,.I x1,.bool t2] σ R:=M.start h ok
def y7 (h:Br (x1=0) (R (.T #[v6,.bool true]) σ) (Br (0<x1) (Br (x1≤37) (Br (22<x1) (LS σ 9 0 fun p32 n32 c32=>AK (x1-22)∧Pq p32 fun b35 o35=>In (x1-22) (n32:Int)∧∃Yq,Hp.ld σ ⟨b35,(o35+Int.toNat (x1-22)*1),none⟩=some (Value.float .f64 Yq)∧AI prog (binOp .mul 258 v6 (Value.float .f64 Yq)) σ (fun z y=>∃Su,(Value.float .f64 Su)=z∧RI R 22 (Value.float .f64 Su) t7 y)) (RI R x1 v6 t7 σ)) (Br (x1<0) (Br (((-22):Int)≤x1) (LS σ 9 0 fun WV TM XU=>Df (IntKind.i64.wrap (0-x1)) fun x60=>Pq WV fun b61 o61=>In x60 (TM:Int)∧∃x62,Hp.ld σ ⟨b61,(o61+x60.toNat*1),none⟩=some (Value.float .f64 x62)∧AI prog (binOp .quo 258 v6 (Value.float .f64 x62)) σ (fun z y=>∃x63,(Value.float .f64 x63)=z∧R (.T #[(Value.float .f64 x63),.bool true]) y)) (R (.T #[v6,.bool t7]) σ)) (R (.T #[v6,.bool t7]) σ))) (Br (x1<0) (Br (((-22):Int)≤x1) (LS σ 9 0 fun WV TM XU=>Df (IntKind.i64.wrap (0-x1)) fun x60=>Pq WV fun b61 o61=>In x60 (TM:Int)∧∃x62,Hp.ld σ ⟨b61,(o61+x60.toNat*1),none⟩=some (Value.float .f64 x62)∧AI prog (binOp .quo 258 v6 (Value.float .f64 x62)) σ (fun z y=>∃x63,(Value.float .f64 x63)=z∧R (.T #[(Value.float .f64 x63),.bool true]) y)) (R (.T #[v6,.bool t7]) σ)) (R (.T #[v6,.bool t7]) σ)))):AEV R x1 v6 t7 σ:=M.of h ok rfl
end BQ
namespace IF
variable {s0 s1:ByteArray}
def M:Fw:=⟨prog,296,f296,[321],[],false,[],[],[]⟩
def ok:M.Ok:=⟨.cons call321 (AG.nil),mixed,func296,by kernel_rfl⟩
def start (h:AH 321 #[.string s0,.string s1] σ R (CB fun t7 y=>R (.B t7) y)):Spec prog 296 #[.string s0,.string s1] σ R:=M.start h ok
end IF
namespace CH
variable {p0:Option Addr}{n0 c0:Nat}{x1 x2:Int}
def M:Fw:=⟨prog,360,f360,[36],[],false,[],[],[]⟩
def ok:M.Ok:=⟨.cons call36 (AG.nil),mixed,func360,by kernel_rfl⟩
def start (h:Pq p0 fun b9 o9=>In x1 (n0:Int)∧LQ σ b9 (o9+x1.toNat*1) fun q10=>Pq q10 fun D5 Wo=>LS σ D5 Wo fun WX n13 UR=>Pq WX fun HH JU=>In 0 (n13:Int)∧LS σ HH JU fun Ql n16 PK=>In x2 (n0:Int)∧LQ σ b9 (o9+x2.toNat*1) fun q20=>Pq q20 fun sa y8=>LS σ sa y8 fun kv n23 cd=>Pq kv fun Wp bE=>In 0 (n23:Int)∧LS σ Wp bE fun qp n26 qq=>AH 36 #[.slice Ql n16 PK,.slice qp n26 qq] σ R (CI .i64 fun Hv y=>R (.returned (.bool (decide (Hv<0)))) y)):Spec prog 360 #[.slice p0 n0 c0,.I x1,.I x2] σ R:=M.start h ok
end CH
end TwW
end
end
section
set_option maxRecDepth 100000
noncomputable section
namespace TwW
open Go Tw Go.Proofs.Tryz
variable [Ez]{R:Rr}{σ:Hp}

namespace Nj
variable {p0 p1:Option Addr}{n0 c0 n1 c1:Nat}
def M:Fw:=⟨prog,36,f36,[72],[],false,[],[],[]⟩
def ok:M.Ok:=⟨.cons call72 (AG.nil),mixed,func36,by kernel_rfl⟩
def start (h:AH 72 #[.slice p0 n0 c0,.slice p1 n1 c1,(.func (.func 73) #[] #[])] σ R (CI .i64 fun x7 y=>R (.returned (.I x7)) y)):Spec prog 36 #[.slice p0 n0 c0,.slice p1 n1 c1] σ R:=M.start h ok
end Nj
namespace XZ
variable {p0 p1:Option Addr}{n0 c0 n1 c1:Nat}
def M:Fw:=⟨prog,44,f44,[19,24],[],false,[],[],[]⟩
def ok:M.Ok:=⟨.cons call19 (.cons call24 (AG.nil)),mixed,func44,by kernel_rfl⟩
def start (h:AH 24 #[.slice p0 n0 c0] σ R (fun z y=>∃Gu nT AJY,z=(.tuple #[.I Gu,.I nT,.I AJY])∧Br (AJY≠0) (R (.returned (.I 220)) y) (Br (Gu=3) (R (.returned (.I 220)) y) (AH 19 #[.slice p1 n1 c1] y R (CI .i64 fun Ew AE=>Br (Ew≠0) (R (.returned (.I 224)) AE) (R (.returned (.I 0)) AE)))))):Spec prog 44 #[.slice p0 n0 c0,.slice p1 n1 c1] σ R:=M.start h ok
end XZ
namespace F2
variable {Cg Ck dC dD Jl x15:Int}{lF sf p4 WX:Option Addr}{bF lG qo sg n4 c4 n13 UR:Nat}
def M:Fw:=⟨prog,53,f53,[41,42,84],[1,3],false,[],[],[(1000,[(3,.X 43 [.I .u64,.I .i64,.L]),(4,wL),(13,wL),(14,wI),(15,wI)])]⟩
def ok:M.Ok:=⟨.cons call41 (.cons call42 (.cons call84 (AG.nil))),mixed,func53,by kernel_rfl⟩
def Kj:=M.pt 0
def start (h:∀b1:Nat,AH 41 #[.agg #[.U Cg,.I Ck,.slice lF bF lG]] σ R (CI .i64 fun x8 y=>Br (x8≠0) (R (.returned (.N)) y) (AH 42 #[.agg #[.U Cg,.I Ck,.slice lF bF lG]] y R (fun z AE=>∃Yp PL AJZ AJa AJb,z=(.agg #[.U Yp,.I PL,.slice AJZ AJa AJb])∧∀b3:Nat,AH 84 #[.agg #[.U Cg,.I Ck,.slice lF bF lG]] AE R (CS fun WX n13 UR AJ=>Kj R Yp PL AJZ AJa AJb none 0 0 WX n13 UR (n13:Int) 0 AJ))))):Spec prog 53 #[.agg #[.U Cg,.I Ck,.slice lF bF lG]] σ R:=M.start h ok
def ER (h:Br (x15<Jl) (Pq WX fun Ie nq=>In x15 (n13:Int)∧LI .i64 σ Ie (nq+x15.toNat*1) fun KS=>Pq sf fun WY Xa=>In KS (qo:Int)∧∃nr AJc AJd AJe AJf AJg AJh AJi AJj,Am σ WY (Xa+KS.toNat*9) [.U nr,.I AJc,.I AJd,.I AJe,.slice AJf AJg AJh,.I AJi,.I AJj]∧Al σ fun lH=>AI prog (GO 119 p4 n4 c4 lH) (Hp.set σ lH (.cells #[.U nr,.I AJc,.I AJd,.I AJe,.slice AJf AJg AJh,.I AJi,.I AJj] 89 (0,0))) (CS fun p27 n27 xp y=>AK (x15+1)∧Kj R dC dD (aD WY Xa) qo sg p27 n27 xp (aD Ie nq) n13 UR Jl (x15+1) y)) (R (.returned (.slice p4 n4 c4)) σ)):Kj R dC dD sf qo sg p4 n4 c4 WX n13 UR Jl x15 σ:=M.Ya h ok rfl fun _=>by kernel_rfl
end F2
namespace US
variable {x0:Int}
def M:Fw:=⟨prog,87,f87,[],[],false,[],[],[]⟩
def ok:M.Ok:=⟨AG.nil,mixed,func87,by kernel_rfl⟩
def start (h:Al σ fun b1=>R (.returned (.func (.func 119) #[] #[(.pointer (aD b1 0))])) (Hp.set σ b1 (.cells #[.I x0] 3 (0,0)))):Spec prog 87 #[.I x0] σ R:=M.start h ok
end US
namespace UT
def M:Fw:=⟨prog,110,f110,[],[],false,[],[],[]⟩
def ok:M.Ok:=⟨AG.nil,mixed,func110,by kernel_rfl⟩
def start (h:Al σ fun b1=>R (.returned (.slice (aD b1 0) 8 8)) (Hp.set σ b1 (.cells #[.nilFunc,(.func (.func 129) #[] #[]),(.func (.func 130) #[] #[]),(.func (.func 131) #[] #[]),(.func (.func 132) #[] #[]),(.func (.func 133) #[] #[]),(.func (.func 134) #[] #[]),(.func (.func 135) #[] #[])] 207 (0,0)))):Spec prog 110 #[] σ R:=M.start h ok
end UT
namespace GU
variable {Cg Ck Sv NL Hq KT CA Ba Dl DA Cf Cj x7 x8:Int}{Sx Dm:ByteArray}{Xb UU Du EB p6:Option Addr}{Wq Xc TP UW Dx Dy Dz EC n6 c6:Nat}{PM DI:Bool}
def M:Fw:=⟨prog,114,f114,[118],[1],false,[],[],[(104,[(1,.X 127 [.I .i64,.I .i64,.T,.L,.I .i64,.I .i64,.I .i64,.L,.B,.I .i64]),(6,wL),(7,wI),(8,wI)])]⟩
def ok:M.Ok:=⟨.cons call118 (AG.nil),mixed,func114,by kernel_rfl⟩
def Fv:=M.pt 0
def start (h:∀b1:Nat,Fv R Cg Ck Sx Xb Wq Xc Sv NL Hq UU TP UW PM KT UU TP UW (TP:Int) 0 σ):Spec prog 114 #[.agg #[.I Cg,.I Ck,.string Sx,.slice Xb Wq Xc,.I Sv,.I NL,.I Hq,.slice UU TP UW,.bool PM,.I KT]] σ R:=M.start h ok
def As (h:Br (x8<x7) (Pq p6 fun Cs Kr=>In x8 (n6:Int)∧LT σ Cs (Kr+x8.toNat*1) fun s11=>AH 118 #[.string s11] σ R (CB fun t13 y=>Bn t13 (R (.B false) y) (AK (x8+1)∧Fv R CA Ba Dm Du Dx Dy Dl DA Cf EB Dz EC DI Cj (aD Cs Kr) n6 c6 x7 (x8+1) y))) (Br ((Dz:Int)=0) (R (.B true) σ) (R (.returned (.bool (decide (Cf≠0)))) σ))):Fv R CA Ba Dm Du Dx Dy Dl DA Cf EB Dz EC DI Cj p6 n6 c6 x7 x8 σ:=M.Ya h ok rfl fun _=>by kernel_rfl
end GU
namespace Aq
variable {q0 Du EB p2 HI Ik Hw Gr FY Fb Ql:Option Addr}{CA Ba Dl DA Cf Cj Ej GQ Il G3 Im JV Gp Gq EW Em x17 KS:Int}{Dm IE:ByteArray}{Dx Dy Dz EC n2 c2 HJ HK Io Ip Hx Hy Gs Gt FZ Fa Fc Fe n16 PK:Nat}{DI JW:Bool}
def M:Fw:=⟨prog,130,f130,[153,154],[4,6,8,10],false,[(7,15,false)],[],[(232,[(0,wQ),(4,.X 127 [.I .i64,.I .i64,.T,.L,.I .i64,.I .i64,.I .i64,.L,.B,.I .i64]),(6,.X 164 [.I .i64,.I .u64,.L,.L]),(8,.X 164 [.I .i64,.I .u64,.L,.L]),(16,wL),(17,wI),(18,wI)]),(935,[(0,wQ),(4,.X 127 [.I .i64,.I .i64,.T,.L,.I .i64,.I .i64,.I .i64,.L,.B,.I .i64]),(6,.X 164 [.I .i64,.I .u64,.L,.L]),(8,.X 164 [.I .i64,.I .u64,.L,.L]),(16,wL),(17,wI),(18,wI)])]⟩
def ok:M.Ok:=⟨.cons call153 (.cons call154 (AG.nil)),mixed,func130,by kernel_rfl⟩
def Ap:=M.pt 0
def Gm:=M.pt 1
def start (h:∀b4:Nat,∀b6:Nat,∀b8:Nat,Pq q0 fun HH JU=>LS σ HH JU fun Ql n16 PK=>Ap R (aD HH JU) CA Ba Dm Du Dx Dy Dl DA Cf EB Dz EC DI Cj 0 0 none 0 0 none 0 0 2 0 none 0 0 none 0 0 Ql n16 PK (n16:Int) 0 σ):Spec prog 130 #[.pointer q0,.agg #[.I CA,.I Ba,.string Dm,.slice Du Dx Dy,.I Dl,.I DA,.I Cf,.slice EB Dz EC,.bool DI,.I Cj],.slice p2 n2 c2] σ R:=M.start h ok
def AR (h:Br (KS<x17) (Pq Ql fun bG iq=>In KS (n16:Int)∧∃AEY AEZ AEa AJl AJm AJn,Am σ bG (iq+KS.toNat*2) [.slice AEY AEZ AEa,.slice AJl AJm AJn]∧∀Cs:Nat,Pq q0 fun PN WZ=>LI .i64 σ PN (WZ+1) fun Hv=>AK (Hv-G3)∧AK ((Hv-G3)-300)∧LI .i64 σ PN (WZ+1) fun RA=>AK (RA-G3)∧AH 153 #[.slice AJl AJm AJn,(.I ((Hv-G3)-300)),(.I (RA-G3))] σ R (CS fun p39 n39 c39 y=>Br ((n39:Int)=0) (Gm R (aD PN WZ) Ej GQ IE HI HJ HK Il G3 Im Ik Io Ip JW JV Gp Gq Hw Hx Hy Gr Gs Gt EW Em FY FZ Fa Fb Fc Fe (aD bG iq) n16 PK x17 KS y) (AK ((n39:Int)-1)∧Pq p39 fun Sz o48=>In (((n39:Int)-1)) (n39:Int)∧LI .u64 y Sz ((o48+Int.toNat ((n39:Int)-1)*2)+1) fun x50=>Br (x50=9218868437227405314) (Gm R (aD PN WZ) Ej GQ IE HI HJ HK Il G3 Im Ik Io Ip JW JV Gp Gq Hw Hx Hy Gr Gs Gt EW Em FY FZ Fa Fb Fc Fe (aD bG iq) n16 PK x17 KS y) (AH 154 #[.slice HI HJ HK,.slice AEY AEZ AEa] y R (CB fun t58 AE=>Bn t58 (Gm R (aD PN WZ) Ej GQ IE HI HJ HK Il G3 Im Ik Io Ip JW JV Gp Gq Hw Hx Hy Gr Gs Gt EW Em FY FZ Fa Fb Fc Fe (aD bG iq) n16 PK x17 KS AE) (AK ((n39:Int)-1)∧In (((n39:Int)-1)) (n39:Int)∧LI .u64 AE Sz ((o48+Int.toNat ((n39:Int)-1)*2)+1) fun x71=>Al AE fun b73=>AI prog (GO 105 FY FZ Fa b73) (Hp.set AE b73 (.cells #[.slice AEY AEZ AEa,.U x71] 109 (0,0))) (CS fun p74 n74 c74 AJ=>Gm R (aD PN WZ) Ej GQ IE HI HJ HK Il G3 Im Ik Io Ip JW JV Gp Gq Hw Hx Hy Gr Gs Gt EW Em p74 n74 c74 Fb Fc Fe (aD bG iq) n16 PK x17 KS AJ))))))) (R (.T #[.agg #[.I EW,.U Em,.slice FY FZ Fa,.slice Fb Fc Fe],.I 0]) σ)):Ap R q0 Ej GQ IE HI HJ HK Il G3 Im Ik Io Ip JW JV Gp Gq Hw Hx Hy Gr Gs Gt EW Em FY FZ Fa Fb Fc Fe Ql n16 PK x17 KS σ:=M.of3 h ok rfl fun _ _ _=>by kernel_rfl
def EO (h:AK (KS+1)∧Ap R q0 Ej GQ IE HI HJ HK Il G3 Im Ik Io Ip JW JV Gp Gq Hw Hx Hy Gr Gs Gt EW Em FY FZ Fa Fb Fc Fe Ql n16 PK x17 (KS+1) σ):Gm R q0 Ej GQ IE HI HJ HK Il G3 Im Ik Io Ip JW JV Gp Gq Hw Hx Hy Gr Gs Gt EW Em FY FZ Fa Fb Fc Fe Ql n16 PK x17 KS σ:=M.of3 h ok rfl fun _ _ _=>by kernel_rfl
end Aq
namespace AX
variable {q0 Du EB p2 HI Ik Hw Gr FY Fb P1 iu cg Ko lI:Option Addr}{CA Ba Dl DA Cf Cj Ej GQ Il G3 Im JV Gp Gq EW Em EG Ew sq Yr:Int}{Dm IE:ByteArray}{Dx Dy Dz EC n2 c2 HJ HK Io Ip Hx Hy Gs Gt FZ Fa Fc Fe n21 NM iw ix UK cp n11 Kq n46 iy:Nat}{DI JW:Bool}
def M:Fw:=⟨prog,131,f131,[153,154,155],[4,6,8,10,13],false,[],[],[(232,[(0,wQ),(4,.X 127 [.I .i64,.I .i64,.T,.L,.I .i64,.I .i64,.I .i64,.L,.B,.I .i64]),(6,.X 164 [.I .i64,.I .u64,.L,.L]),(8,.X 164 [.I .i64,.I .u64,.L,.L]),(21,wL),(22,wI),(23,wI)]),(239208,[(0,wQ),(4,.X 127 [.I .i64,.I .i64,.T,.L,.I .i64,.I .i64,.I .i64,.L,.B,.I .i64]),(6,.X 164 [.I .i64,.I .u64,.L,.L]),(8,.X 164 [.I .i64,.I .u64,.L,.L]),(10,.X 98 [.L,.L]),(11,wL),(21,wL),(22,wI),(23,wI),(46,wL),(47,wI),(48,wI)]),(935,[(0,wQ),(4,.X 127 [.I .i64,.I .i64,.T,.L,.I .i64,.I .i64,.I .i64,.L,.B,.I .i64]),(6,.X 164 [.I .i64,.I .u64,.L,.L]),(8,.X 164 [.I .i64,.I .u64,.L,.L]),(21,wL),(22,wI),(23,wI)]),(956839,[(0,wQ),(4,.X 127 [.I .i64,.I .i64,.T,.L,.I .i64,.I .i64,.I .i64,.L,.B,.I .i64]),(6,.X 164 [.I .i64,.I .u64,.L,.L]),(8,.X 164 [.I .i64,.I .u64,.L,.L]),(10,.X 98 [.L,.L]),(11,wL),(21,wL),(22,wI),(23,wI),(46,wL),(47,wI),(48,wI)])]⟩
def ok:M.Ok:=⟨.cons call153 (.cons call154 (.cons call155 (AG.nil))),mixed,func131,by kernel_rfl⟩
def Ap:=M.pt 0
def I7:=M.pt 1
def NN:=M.pt 2
def y9:=M.pt 3
def start (h:∀b4:Nat,∀b6:Nat,AH 155 #[.I Dl] σ R (CI .u64 fun x16 y=>∀b8:Nat,Pq q0 fun F3 Wr=>LS y F3 Wr fun P1 n21 NM=>Ap R (aD F3 Wr) CA Ba Dm Du Dx Dy Dl DA Cf EB Dz EC DI Cj 0 0 none 0 0 none 0 0 3 x16 none 0 0 none 0 0 P1 n21 NM (n21:Int) 0 y)):Spec prog 131 #[.pointer q0,.agg #[.I CA,.I Ba,.string Dm,.slice Du Dx Dy,.I Dl,.I DA,.I Cf,.slice EB Dz EC,.bool DI,.I Cj],.slice p2 n2 c2] σ R:=M.start h ok
def AR (h:Br (Ew<EG) (Pq P1 fun PN WZ=>In Ew (n21:Int)∧∃AJp AJq AJr AEc AEd AEe,Am σ PN (WZ+Ew.toNat*2) [.slice AJp AJq AJr,.slice AEc AEd AEe]∧∀Cs:Nat,Pq q0 fun b30 o30=>LI .i64 σ b30 (o30+1) fun Ys=>AK (Ys-G3)∧AK ((Ys-G3)-Il)∧LI .i64 σ b30 (o30+1) fun Wa=>AK (Wa-G3)∧AH 153 #[.slice AEc AEd AEe,(.I ((Ys-G3)-Il)),(.I (Wa-G3))] σ R (CS fun lI n46 iy y=>I7 R (aD b30 o30) Ej GQ IE HI HJ HK Il G3 Im Ik Io Ip JW JV Gp Gq Hw Hx Hy Gr Gs Gt EW Em FY FZ Fa Fb Fc Fe AJp AJq AJr AEc AEd AEe none 0 0 (aD PN WZ) n21 NM EG Ew lI n46 iy (n46:Int) 0 y)) (R (.T #[.agg #[.I EW,.U Em,.slice FY FZ Fa,.slice Fb Fc Fe],.I 0]) σ)):Ap R q0 Ej GQ IE HI HJ HK Il G3 Im Ik Io Ip JW JV Gp Gq Hw Hx Hy Gr Gs Gt EW Em FY FZ Fa Fb Fc Fe P1 n21 NM EG Ew σ:=M.of3 h ok rfl fun _ _ _=>by kernel_rfl
def IG (h:Br (Yr<sq) (Pq lI fun Yt o50=>In Yr (n46:Int)∧∃ARF sR,Am σ Yt (o50+Yr.toNat*2) [.I ARF,.U sR]∧∀Gn:Nat,Br (sR≠9218868437227405314) (Al σ fun b58=>AI prog (GO 60 Ko n11 Kq b58) (Hp.set σ b58 (.cells #[.U sR] 27 (0,0))) (CS fun p59 n59 c59 y=>y9 R q0 Ej GQ IE HI HJ HK Il G3 Im Ik Io Ip JW JV Gp Gq Hw Hx Hy Gr Gs Gt EW Em FY FZ Fa Fb Fc Fe iu iw ix cg UK cp p59 n59 c59 P1 n21 NM EG Ew (aD Yt o50) n46 iy sq Yr y)) (y9 R q0 Ej GQ IE HI HJ HK Il G3 Im Ik Io Ip JW JV Gp Gq Hw Hx Hy Gr Gs Gt EW Em FY FZ Fa Fb Fc Fe iu iw ix cg UK cp Ko n11 Kq P1 n21 NM EG Ew (aD Yt o50) n46 iy sq Yr σ)) (Br (0<(n11:Int)) (AH 154 #[.slice HI HJ HK,.slice iu iw ix] σ R (CB fun t69 y=>Bo t69 (Al y fun b77=>AI prog (GO 162 Fb Fc Fe b77) (Hp.set y b77 (.cells #[.slice iu iw ix,.slice Ko n11 Kq] 234 (0,0))) (CS fun zA zB zC AE=>NN R q0 Ej GQ IE HI HJ HK Il G3 Im Ik Io Ip JW JV Gp Gq Hw Hx Hy Gr Gs Gt EW Em FY FZ Fa zA zB zC P1 n21 NM EG Ew AE)) (NN R q0 Ej GQ IE HI HJ HK Il G3 Im Ik Io Ip JW JV Gp Gq Hw Hx Hy Gr Gs Gt EW Em FY FZ Fa Fb Fc Fe P1 n21 NM EG Ew y))) (NN R q0 Ej GQ IE HI HJ HK Il G3 Im Ik Io Ip JW JV Gp Gq Hw Hx Hy Gr Gs Gt EW Em FY FZ Fa Fb Fc Fe P1 n21 NM EG Ew σ))):I7 R q0 Ej GQ IE HI HJ HK Il G3 Im Ik Io Ip JW JV Gp Gq Hw Hx Hy Gr Gs Gt EW Em FY FZ Fa Fb Fc Fe iu iw ix cg UK cp Ko n11 Kq P1 n21 NM EG Ew lI n46 iy sq Yr σ:=M.of4 h ok rfl fun _ _ _ _=>by kernel_rfl
def Jp (h:AK (Ew+1)∧Ap R q0 Ej GQ IE HI HJ HK Il G3 Im Ik Io Ip JW JV Gp Gq Hw Hx Hy Gr Gs Gt EW Em FY FZ Fa Fb Fc Fe P1 n21 NM EG (Ew+1) σ):NN R q0 Ej GQ IE HI HJ HK Il G3 Im Ik Io Ip JW JV Gp Gq Hw Hx Hy Gr Gs Gt EW Em FY FZ Fa Fb Fc Fe P1 n21 NM EG Ew σ:=M.of3 h ok rfl fun _ _ _=>by kernel_rfl
def zD (h:AK (Yr+1)∧I7 R q0 Ej GQ IE HI HJ HK Il G3 Im Ik Io Ip JW JV Gp Gq Hw Hx Hy Gr Gs Gt EW Em FY FZ Fa Fb Fc Fe iu iw ix cg UK cp Ko n11 Kq P1 n21 NM EG Ew lI n46 iy sq (Yr+1) σ):y9 R q0 Ej GQ IE HI HJ HK Il G3 Im Ik Io Ip JW JV Gp Gq Hw Hx Hy Gr Gs Gt EW Em FY FZ Fa Fb Fc Fe iu iw ix cg UK cp Ko n11 Kq P1 n21 NM EG Ew lI n46 iy sq Yr σ:=M.of4 h ok rfl fun _ _ _ _=>by kernel_rfl
end AX
namespace Nk
variable {p0:Option Addr}{n0 c0:Nat}{s1:ByteArray}
def M:Fw:=⟨prog,141,f141,[140],[],false,[],[],[]⟩
def ok:M.Ok:=⟨.cons call140 (AG.nil),mixed,func141,by kernel_rfl⟩
def start (h:Df (IntKind.u64.wrap (s1.size:Int)) fun x8=>AH 140 #[.slice p0 n0 c0,.U x8] σ R (CS fun p9 n9 c9 y=>AI prog (Builtin.append_ #[134,9] 134 #[.slice p9 n9 c9,.string s1]) y (CS fun Ko n11 Kq AE=>R (.returned (.slice Ko n11 Kq)) AE))):Spec prog 141 #[.slice p0 n0 c0,.string s1] σ R:=M.start h ok
end Nk
namespace SE
variable {p0:Option Addr}{n0 c0:Nat}{x1 x2:Int}
def M:Fw:=⟨prog,153,f153,[184],[],false,[],[],[]⟩
def ok:M.Ok:=⟨.cons call184 (AG.nil),mixed,func153,by kernel_rfl⟩
def start (h:AH 184 #[.slice p0 n0 c0,.I x1,(.func (.func 185) #[] #[])] σ R (fun z y=>∃Fz ARI,z=(.tuple #[.I Fz,.bool ARI])∧AH 184 #[.slice p0 n0 c0,.I x2,(.func (.func 186) #[] #[])] y R (fun z AE=>∃I8 ARJ,z=(.tuple #[.I I8,.bool ARJ])∧((0:Int)≤(if I8<Fz then I8 else Fz)∧(if I8<Fz then I8 else Fz)≤I8∧I8≤(c0:Int))∧R (.returned (.slice (E1 p0 (Int.toNat (if I8<Fz then I8 else Fz)) c0 2) (I8.toNat-Int.toNat (if I8<Fz then I8 else Fz)) (c0-Int.toNat (if I8<Fz then I8 else Fz)))) AE))):Spec prog 153 #[.slice p0 n0 c0,.I x1,.I x2] σ R:=M.start h ok
end SE
namespace EX
variable {p0 p1 p5 p9:Option Addr}{n0 c0 n1 c1 n5 c5 n9 c9:Nat}{x10 x11:Int}
def M:Fw:=⟨prog,154,f154,[117,187,188,189],[7],false,[],[],[(232,[(1,wL),(5,wL),(9,wL),(10,wI),(11,wI)])]⟩
def ok:M.Ok:=⟨.cons call117 (.cons call187 (.cons call188 (.cons call189 (AG.nil)))),mixed,func154,by kernel_rfl⟩
def Ap:=M.pt 0
def start (h:AH 187 #[] σ R (CS fun p8 n8 c8 y=>Ap R p1 n1 c1 p8 n8 c8 p0 n0 c0 (n0:Int) 0 y)):Spec prog 154 #[.slice p0 n0 c0,.slice p1 n1 c1] σ R:=M.start h ok
def AR (h:Br (x11<x10) (Pq p9 fun Gn Sk=>In x11 (n9:Int)∧∃Fz iY Yg,Am σ Gn (Sk+x11.toNat*3) [.I Fz,.string iY,.string Yg]∧∀b7:Nat,AH 117 #[.I Fz] σ R (CB fun t17 y=>Bn t17 (R (.B false) y) (Pq p5 fun WY Xa=>In Fz (n5:Int)∧∃v24,Hp.ld y ⟨WY,(Xa+Fz.toNat*1),none⟩=some v24∧AH 188 #[.string Yg] y R (fun z AE=>∃PO NO PQ,z=(.agg #[.slice PO NO PQ])∧Kp [WY] y AE∧AH 189 #[.slice p1 n1 c1,.string iY] AE R (CT fun s34 AJ=>Kp [WY] AE AJ∧∃(f35:Nat) (dJ dK:Array Value),v24=.func (.func f35) dJ dK∧Enters prog f35∧Spec prog f35 (dJ++#[.agg #[.slice PO NO PQ,.string Yg],.string s34]++dK) AJ (AZ R (CB fun t35 Ah=>Bn t35 (R (.B false) Ah) (AK (x11+1)∧Ap R p1 n1 c1 (aD WY Xa) n5 c5 (aD Gn Sk) n9 c9 x10 (x11+1) Ah)))))))) (R (.B true) σ)):Ap R p1 n1 c1 p5 n5 c5 p9 n9 c9 x10 x11 σ:=M.of h ok rfl
end EX
namespace UX
variable {x0:Int}
def M:Fw:=⟨prog,155,f155,[],[],false,[],[],[]⟩
def ok:M.Ok:=⟨AG.nil,mixed,func155,by kernel_rfl⟩
def start (h:AI prog (convert 2 258 (.I x0)) σ (fun z y=>∃x4,(Value.float .f64 x4)=z∧EN prog 190 #[(Value.float .f64 x4)] y (CI .u64 fun x5 AE=>R (.returned (.U x5)) AE))):Spec prog 155 #[.I x0] σ R:=M.start h ok
end UX
namespace Jq
variable {x0:Int}
def M:Fw:=⟨prog,157,f157,[183,192,193],[],false,[],[],[]⟩
def ok:M.Ok:=⟨.cons call183 (.cons call192 (.cons call193 (AG.nil))),mixed,func157,by kernel_rfl⟩
def start (h:AH 192 #[.U x0] σ R (fun z y=>∃x4,(Value.float .f64 x4)=z∧AH 193 #[(Value.float .f64 x4)] y R (fun z AE=>∃x5,(Value.float .f64 x5)=z∧AH 183 #[(Value.float .f64 x5)] AE R (CI .u64 fun x6 AJ=>R (.returned (.U x6)) AJ)))):Spec prog 157 #[.U x0] σ R:=M.start h ok
end Jq
namespace GV
variable {p0 Ko:Option Addr}{n0 c0 n11 Kq:Nat}{x3 x12 E2:Int}
def M:Fw:=⟨prog,163,f163,[196,211],[],false,[],[],[(232,[(3,wU),(11,wL),(12,wI),(13,wI)])]⟩
def ok:M.Ok:=⟨.cons call196 (.cons call211 (AG.nil)),mixed,func163,by kernel_rfl⟩
def Ap:=M.pt 0
def start (h:Pq p0 fun b7 o7=>In 0 (n0:Int)∧LI .u64 σ b7 o7 fun x8=>AH 196 #[.U x8] σ R (CI .u64 fun x9 y=>((0:Int)≤1∧1≤(n0:Int))∧Ap R x9 ((E1 (aD b7 o7) (1) c0 1)) (n0-1) (c0-1) ((((n0-1):Nat):Int)) 0 y)):Spec prog 163 #[.slice p0 n0 c0] σ R:=M.start h ok
def AR (h:Br (E2<x12) (Pq Ko fun TN dE=>In E2 (n11:Int)∧LI .u64 σ TN (dE+E2.toNat*1) fun x16=>AH 211 #[.U x3,.U x16] σ R (CI .u64 fun Bk y=>AK (E2+1)∧Ap R Bk (aD TN dE) n11 Kq x12 (E2+1) y)) (R (.returned (.U x3)) σ)):Ap R x3 Ko n11 Kq x12 E2 σ:=M.of h ok rfl
end GV
namespace DY
variable {x0:Int}{b1 b2:Nat}
def M:Fw:=⟨prog,171,f171,[168],[],false,[],[],[]⟩
def ok:M.Ok:=⟨.cons call168 (AG.nil),mixed,func171,by kernel_rfl⟩
def start (h:∃Gp Gq s6c Gr Gs Gt x6e x6f x6g p6h n6h c6h t6i x6j,Am σ b1 0 [.I Gp,.I Gq,.string s6c,.slice Gr Gs Gt,.I x6e,.I x6f,.I x6g,.slice p6h n6h c6h,.bool t6i,.I x6j]∧LI .u64 σ b2 1 fun x9=>AH 168 #[.agg #[.I Gp,.I Gq,.string s6c,.slice Gr Gs Gt,.I x6e,.I x6f,.I x6g,.slice p6h n6h c6h,.bool t6i,.I x6j],.U x0,.U x9] σ R (fun z y=>∃Gu UJ,z=(.tuple #[.U Gu,.bool UJ])∧R (.T #[.U Gu,.bool UJ]) y)):Spec prog 171 #[.U x0,(.pointer (aD b1 0)),(.pointer (aD b2 0))] σ R:=M.start h ok
end DY
namespace I9
variable {p0 p7:Option Addr}{n0 c0 n7 c7:Nat}{s1:ByteArray}{x8 x9:Int}
def M:Fw:=⟨prog,189,f189,[],[6],false,[],[],[(104,[(1,wT),(7,wL),(8,wI),(9,wI)])]⟩
def ok:M.Ok:=⟨AG.nil,mixed,func189,by kernel_rfl⟩
def Fv:=M.pt 0
def start (h:Fv R s1 p0 n0 c0 (n0:Int) 0 σ):Spec prog 189 #[.slice p0 n0 c0,.string s1] σ R:=M.start h ok
def As (h:Br (x9<x8) (Pq p7 fun D5 Wo=>In x9 (n7:Int)∧∃AJs AJt,Am σ D5 (Wo+x9.toNat*2) [.string AJs,.string AJt]∧∀b6:Nat,Bo (ByteArray.toList AJs==ByteArray.toList s1) (R (.returned (.string AJt)) σ) (AK (x9+1)∧Fv R s1 (aD D5 Wo) n7 c7 x8 (x9+1) σ)) (R (.returned (.string (ByteArray.mk #[]))) σ)):Fv R s1 p7 n7 c7 x8 x9 σ:=M.of h ok rfl
end I9
namespace dL
variable {v0:Value}
def M:Fw:=⟨prog,191,f191,[],[],false,[],[],[]⟩
def ok:M.Ok:=⟨AG.nil,mixed,func191,by kernel_rfl⟩
def start (h:EN prog 190 #[v0] σ (CI .u64 fun x4 y=>Df (Go.bits .andNot .u64 x4 9223372036854775808) fun x5=>EN prog 230 #[.U x5] y (fun z AE=>∃x6,(Value.float .f64 x6)=z∧R (.returned (Value.float .f64 x6)) AE))):Spec prog 191 #[v0] σ R:=M.CL h ok [(0,.o (.V v0))] rfl rfl (by kernel_rfl)
end dL
namespace lJ
variable {x0:Int}
def M:Fw:=⟨prog,192,f192,[],[],false,[],[],[]⟩
def ok:M.Ok:=⟨AG.nil,mixed,func192,by kernel_rfl⟩
def start (h:EN prog 230 #[.U x0] σ (fun z y=>∃x4,(Value.float .f64 x4)=z∧R (.returned (Value.float .f64 x4)) y)):Spec prog 192 #[.U x0] σ R:=M.start h ok
end lJ
namespace EY
variable {p0:Option Addr}{n0 c0:Nat}{x3 x4:Int}
def M:Fw:=⟨prog,202,f202,[200,211,214],[],false,[],[],[(464,[(0,wL),(3,wU),(4,wI)]),(467,[(0,wL),(3,wU),(4,wI)])]⟩
def ok:M.Ok:=⟨.cons call200 (.cons call211 (.cons call214 (AG.nil))),mixed,func202,by kernel_rfl⟩
def CM:=M.pt 0
def Hz:=M.pt 1
def start (h:AK ((n0:Int)-1)∧Pq p0 fun D5 Wo=>In (((n0:Int)-1)) (n0:Int)∧LI .u64 σ D5 (Wo+Int.toNat ((n0:Int)-1)*1) fun x12=>In 0 (n0:Int)∧LI .u64 σ D5 Wo fun x15=>AH 200 #[.U x12,.U x15] σ R (CI .u64 fun x16 y=>CM R (aD D5 Wo) n0 c0 x16 1 y)):Spec prog 202 #[.slice p0 n0 c0] σ R:=M.start h ok
def BE (h:Br (x4<(n0:Int)) (Pq p0 fun lH xq=>In x4 (n0:Int)∧LI .u64 σ lH (xq+x4.toNat*1) fun Hv=>AK (x4-1)∧In (x4-1) (n0:Int)∧LI .u64 σ lH (xq+Int.toNat (x4-1)*1) fun Ys=>AH 214 #[.I 7,.U Hv,.U Ys] σ R (fun z y=>∃AJu sr,z=(.tuple #[.bool AJu,.bool sr])∧Bo AJu (AK (x4-1)∧In (x4-1) (n0:Int)∧LI .u64 y lH (xq+Int.toNat (x4-1)*1) fun Wa=>AH 211 #[.U x3,.U Wa] y R (CI .u64 fun gN AE=>Hz R (aD lH xq) n0 c0 gN x4 AE)) (Hz R (aD lH xq) n0 c0 x3 x4 y))) (R (.returned (.U x3)) σ)):CM R p0 n0 c0 x3 x4 σ:=M.of h ok rfl
def GH (h:AK (x4+1)∧CM R p0 n0 c0 x3 (x4+1) σ):Hz R p0 n0 c0 x3 x4 σ:=M.of h ok rfl
end EY
namespace F5
variable {x0 x5 x15 x16:Int}{p1 I6:Option Addr}{n1 c1 n14 Hu:Nat}
def M:Fw:=⟨prog,212,f212,[196,214,238],[],false,[],[],[(232,[(0,wI),(5,wU),(14,wL),(15,wI),(16,wI)]),(935,[(0,wI),(5,wU),(14,wL),(15,wI),(16,wI)])]⟩
def ok:M.Ok:=⟨.cons call196 (.cons call214 (.cons call238 (AG.nil))),mixed,func212,by kernel_rfl⟩
def Ap:=M.pt 0
def RJ:=M.pt 1
def start (h:Pq p1 fun D5 Wo=>In 0 (n1:Int)∧LI .u64 σ D5 Wo fun x12=>((0:Int)≤1∧1≤(n1:Int))∧Ap R x0 x12 ((E1 (aD D5 Wo) (1) c1 1)) (n1-1) (c1-1) ((((n1-1):Nat):Int)) 0 σ):Spec prog 212 #[.I x0,.slice p1 n1 c1] σ R:=M.start h ok
def AR (h:Br (x16<x15) (Pq I6 fun XS iz=>In x16 (n14:Int)∧LI .u64 σ XS (iz+x16.toNat*1) fun Bk=>AH 214 #[.I x0,.U Bk,.U x5] σ R (fun z y=>∃AJv ARL,z=(.tuple #[.bool AJv,.bool ARL])∧Bo AJv (RJ R x0 Bk (aD XS iz) n14 Hu x15 x16 y) (AH 238 #[.U x5] y R (CB fun t30 AE=>Bo t30 (RJ R x0 Bk (aD XS iz) n14 Hu x15 x16 AE) (RJ R x0 x5 (aD XS iz) n14 Hu x15 x16 AE))))) (AH 196 #[.U x5] σ R (CI .u64 fun RA y=>R (.returned (.U RA)) y))):Ap R x0 x5 I6 n14 Hu x15 x16 σ:=M.of h ok rfl
def TQ (h:AK (x16+1)∧Ap R x0 x5 I6 n14 Hu x15 (x16+1) σ):RJ R x0 x5 I6 n14 Hu x15 x16 σ:=M.of h ok rfl
end F5
namespace FK
variable {bD:Option Addr}{Pz XT:Nat}{gJ s1:ByteArray}
def M:Fw:=⟨prog,225,f225,[],[2],false,[],[],[]⟩
def ok:M.Ok:=⟨AG.nil,mixed,func225,by kernel_rfl⟩
def start (h:∀b2:Nat,R (.returned (.bool (ByteArray.toList s1==ByteArray.toList gJ))) σ):Spec prog 225 #[.agg #[.slice bD Pz XT,.string gJ],.string s1] σ R:=M.start h ok
end FK
namespace JA
variable {p0 p5:Option Addr}{n0 c0 n5 c5:Nat}{x1 x7:Int}{v6:Value}
def M:Fw:=⟨prog,253,f253,[192,278],[],false,[],[],[(444,[(0,wL),(1,wI),(5,wL),(6,wV),(7,wI)])]⟩
def ok:M.Ok:=⟨.cons call192 (.cons call278 (AG.nil)),mixed,func253,by kernel_rfl⟩
def RL:=M.pt 0
def start (h:AH 278 #[] σ R (CS fun Pn n10 KO y=>RL R p0 n0 c0 x1 Pn n10 KO (.complex .f64 0 0) 0 y)):Spec prog 253 #[.slice p0 n0 c0,.I x1] σ R:=M.start h ok
def P2 (h:Br (x7=(n0:Int)) (R (.returned v6) σ) (Pq p0 fun XS iz=>In x7 (n0:Int)∧LI .u64 σ XS (iz+x7.toNat*1) fun Bk=>AK (x1*x7)∧(n0:Int)≠(0:Int)∧Df (Int.tmod (x1*x7) (n0:Int)) fun Hv=>(n0:Int)≠(0:Int)∧Df (IntKind.i64.wrap (Int.tdiv 8 (n0:Int))) fun Ks=>AK (Hv*Ks)∧Pq p5 fun b32 o32=>In (Hv*Ks) (n5:Int)∧∃x33 y33,Hp.ld σ ⟨b32,(o32+Int.toNat (Hv*Ks)*1),none⟩=some (Value.complex .f64 x33 y33)∧AH 192 #[.U Bk] σ R (fun z y=>∃Ms,(Value.float .f64 Ms)=z∧Kp [b32] σ y∧∃RA,YF prog (Builtin.real_ #[319] 258 #[v6]) y (Value.float .f64 RA)∧∃Wj,YF prog (Builtin.real_ #[319] 258 #[(Value.complex .f64 x33 y33)]) y (Value.float .f64 Wj)∧AI prog (binOp .mul 258 (Value.float .f64 Ms) (Value.float .f64 Wj)) y (fun z AE=>∃x39,(Value.float .f64 x39)=z∧AI prog (binOp .add 258 (Value.float .f64 RA) (Value.float .f64 x39)) AE (fun z AJ=>∃cY,(Value.float .f64 cY)=z∧∃Wa,YF prog (Builtin.imag_ #[319] 258 #[v6]) AJ (Value.float .f64 Wa)∧∃x45,YF prog (Builtin.imag_ #[319] 258 #[(Value.complex .f64 x33 y33)]) AJ (Value.float .f64 x45)∧AI prog (binOp .mul 258 (Value.float .f64 Ms) (Value.float .f64 x45)) AJ (fun z Ah=>∃x46,(Value.float .f64 x46)=z∧AI prog (binOp .add 258 (Value.float .f64 Wa) (Value.float .f64 x46)) Ah (fun z CF=>∃sq,(Value.float .f64 sq)=z∧∃Yr y48,YF prog (Builtin.complex_ #[258,258] 319 #[(Value.float .f64 cY),(Value.float .f64 sq)]) CF (Value.complex .f64 Yr y48)∧AK (x7+1)∧RL R (aD XS iz) n0 c0 x1 (aD b32 o32) n5 c5 (Value.complex .f64 Yr y48) (x7+1) CF))))))):RL R p0 n0 c0 x1 p5 n5 c5 v6 x7 σ:=M.of h ok rfl
end JA
namespace Hc
variable {s0:ByteArray}{t4:Bool}
def M:Fw:=⟨prog,263,f263,[95,239,240],[],false,[],[],[(53,[(0,wT),(4,wB)])]⟩
def ok:M.Ok:=⟨.cons call95 (.cons call239 (.cons call240 (AG.nil))),mixed,func263,by kernel_rfl⟩
def S0:=M.pt 0
def start (h:Bo ((ByteArray.toList s0==ByteArray.toList (ByteArray.mk #[111,114]))) (S0 R s0 true σ) (Bo ((ByteArray.toList s0==ByteArray.toList (ByteArray.mk #[97,110,100]))) (S0 R s0 true σ) (Bo ((ByteArray.toList s0==ByteArray.toList (ByteArray.mk #[117,110,108,101,115,115]))) (S0 R s0 true σ) (Bo ((ByteArray.toList s0==ByteArray.toList (ByteArray.mk #[98,111,111,108]))) (S0 R s0 true σ) (Bo ((ByteArray.toList s0==ByteArray.toList (ByteArray.mk #[111,110]))) (S0 R s0 true σ) (Bo ((ByteArray.toList s0==ByteArray.toList (ByteArray.mk #[105,103,110,111,114,105,110,103]))) (S0 R s0 true σ) (Bo ((ByteArray.toList s0==ByteArray.toList (ByteArray.mk #[98,121]))) (S0 R s0 true σ) (Bo ((ByteArray.toList s0==ByteArray.toList (ByteArray.mk #[119,105,116,104,111,117,116]))) (S0 R s0 true σ) (S0 R s0 ((ByteArray.toList s0==ByteArray.toList (ByteArray.mk #[111,102,102,115,101,116]))) σ))))))))):Spec prog 263 #[.string s0] σ R:=M.start h ok
def zF (h:Bo t4 (R (.B true) σ) (AH 239 #[] σ R (CS fun I6 n14 Hu y=>AH 95 #[.slice I6 n14 Hu,.string s0] y R (CI .i64 fun x16 AE=>Br (0<x16) (R (.B true) AE) (AH 240 #[] AE R (CS fun sU n19 sV AJ=>AH 95 #[.slice sU n19 sV,.string s0] AJ R (CI .i64 fun dI Ah=>R (.returned (.bool (decide (0<dI)))) Ah))))))):S0 R s0 t4 σ:=M.of h ok rfl
end Hc
namespace strings_Index
variable {s0 s1:ByteArray}
end strings_Index
namespace Cc
variable {p0:Option Addr}{n0 c0:Nat}
def M:Fw:=⟨prog,359,f359,[],[],false,[],[],[]⟩
def ok:M.Ok:=⟨AG.nil,mixed,func359,by kernel_rfl⟩
def start (h:R (.returned (.I (n0:Int))) σ):Spec prog 359 #[.slice p0 n0 c0] σ R:=M.start h ok
end Cc
namespace BG
variable {p0:Option Addr}{n0 c0:Nat}{x1 x2:Int}
def M:Fw:=⟨prog,361,f361,[],[],false,[(0,15,false)],[],[]⟩
def ok:M.Ok:=⟨AG.nil,mixed,func361,by kernel_rfl⟩
def start (h:Pq p0 fun F6 IH=>In x2 (n0:Int)∧LQ σ F6 (IH+x2.toNat*1) fun q13=>In x1 (n0:Int)∧LQ σ F6 (IH+x1.toNat*1) fun q17=>In x1 (n0:Int)∧AI prog (Instr.storeAt 150 (.pointer (aD F6 (IH+x1.toNat*1))) (.pointer q13)) σ (fun _ y=>In x2 (n0:Int)∧AI prog (Instr.storeAt 150 (.pointer (aD F6 (IH+x2.toNat*1))) (.pointer q17)) y (fun _ AE=>R (.T #[]) AE))):Spec prog 361 #[.slice p0 n0 c0,.I x1,.I x2] σ R:=M.start h ok
end BG
namespace Be
variable {q0:Option Addr}
def M:Fw:=⟨prog,362,f362,[],[],false,[(1,11,true),(2,11,true)],[],[]⟩
def ok:M.Ok:=⟨AG.nil,mixed,func362,by kernel_rfl⟩
def start (h:Pq q0 fun b5 o5=>LS σ b5 o5 fun p6 n6 c6=>LS σ b5 o5 fun p9 n9 c9=>AK ((n9:Int)-1)∧Pq p6 fun F6 IH=>In (((n9:Int)-1)) (n6:Int)∧LQ σ F6 (IH+Int.toNat ((n9:Int)-1)*1) fun q13=>LS σ b5 o5 fun qs n17 bH=>LS σ b5 o5 fun TO n20 RG=>AK ((n20:Int)-1)∧((0:Int)≤((n20:Int)-1)∧((n20:Int)-1)≤(bH:Int))∧AI prog (Instr.storeAt 147 (.pointer (aD b5 o5)) (.slice qs (Int.toNat ((n20:Int)-1)) bH)) σ (fun _ y=>R (.returned (.iface 150 (.pointer q13))) y)):Spec prog 362 #[.pointer q0] σ R:=M.start h ok
end Be
end TwW
end
end
section
set_option maxRecDepth 100000
noncomputable section
namespace TwW
open Go Tw Go.Proofs.Tryz
variable [Ez]{R:Rr}{σ:Hp}

namespace B6
variable {q0:Option Addr}
def M:Fw:=⟨prog,14,f14,[],[],false,[],[],[]⟩
def ok:M.Ok:=⟨AG.nil,mixed,func14,by kernel_rfl⟩
def start (h:Pq q0 fun b6 o6=>∃v8,Hp.ld σ ⟨b6,(o6+12),none⟩=some v8∧∃(f9:Nat) (AJx AJy:Array Value),v8=.func (.func f9) AJx AJy∧Enters prog f9∧Spec prog f9 (AJx++#[]++AJy) σ (AZ R (fun z y=>∃p9a n9a c9a x9b x9c,z=(.tuple #[.slice p9a n9a c9a,.I x9b,.I x9c])∧R (.T #[.slice p9a n9a c9a,.I x9b,.I x9c]) y))):Spec prog 14 #[.pointer q0] σ R:=M.start h ok
end B6
namespace DZ
variable {p0 p5:Option Addr}{n0 c0 n5 c5:Nat}{x6 x7:Int}
def M:Fw:=⟨prog,19,f19,[36,50,51],[4],false,[],[],[(104,[(0,wL),(5,wL),(6,wI),(7,wI)])]⟩
def ok:M.Ok:=⟨.cons call36 (.cons call50 (.cons call51 (AG.nil))),mixed,func19,by kernel_rfl⟩
def Fv:=M.pt 0
def start (h:Fv R p0 n0 c0 p0 n0 c0 (n0:Int) 0 σ):Spec prog 19 #[.slice p0 n0 c0] σ R:=M.start h ok
def As (h:Br (x7<x6) (Pq p5 fun Cs Kr=>In x7 (n5:Int)∧∃RD RE RF ib ic ig,Am σ Cs (Kr+x7.toNat*2) [.slice RD RE RF,.slice ib ic ig]∧∀b4:Nat,AH 50 #[.slice RD RE RF] σ R (CI .i64 fun Jl y=>Br (Jl≠0) (R (.returned (.I 100)) y) (AH 51 #[.slice ib ic ig] y R (CB fun t19 AE=>Bn t19 (R (.returned (.I 100)) AE) (Br (0<x7) (AK (x7-1)∧Pq p0 fun Qm XV=>In (x7-1) (n0:Int)∧LS AE Qm (XV+Int.toNat (x7-1)*2) fun p31 n31 c31=>AH 36 #[.slice p31 n31 c31,.slice RD RE RF] AE R (CI .i64 fun sS AJ=>Br (0≤sS) (R (.returned (.I 100)) AJ) (AK (x7+1)∧Fv R (aD Qm XV) n0 c0 (aD Cs Kr) n5 c5 x6 (x7+1) AJ))) (AK (x7+1)∧Fv R p0 n0 c0 (aD Cs Kr) n5 c5 x6 (x7+1) AE)))))) (R (.returned (.I 0)) σ)):Fv R p0 n0 c0 p5 n5 c5 x6 x7 σ:=M.of h ok rfl
end DZ
namespace G6
variable {p0 p1:Option Addr}{n0 c0 n1 c1:Nat}{x5:Int}
def M:Fw:=⟨prog,22,f22,[],[],false,[(6,9,true)],[],[(464,[(0,wL),(1,wL),(5,wI)])]⟩
def ok:M.Ok:=⟨AG.nil,mixed,func22,by kernel_rfl⟩
def EE:=M.pt 0
def start (h:Br ((n0:Int)≠(n1:Int)) (R (.B false) σ) (EE R p0 n0 c0 p1 n1 c1 0 σ)):Spec prog 22 #[.slice p0 n0 c0,.slice p1 n1 c1] σ R:=M.start h ok
def C4 (h:Br (x5<(n0:Int)) (Pq p0 fun F3 Wr=>In x5 (n0:Int)∧LI .u64 σ F3 (Wr+x5.toNat*1) fun Ms=>Pq p1 fun WY Xa=>In x5 (n1:Int)∧LI .u64 σ WY (Xa+x5.toNat*1) fun KM=>Br (Ms≠KM) (R (.B false) σ) (AK (x5+1)∧EE R (aD F3 Wr) n0 c0 (aD WY Xa) n1 c1 (x5+1) σ)) (R (.B true) σ)):EE R p0 n0 c0 p1 n1 c1 x5 σ:=M.of h ok rfl
end G6
namespace Cm
variable {p0 p1:Option Addr}{n0 c0 n1 c1:Nat}{x5:Int}
def M:Fw:=⟨prog,48,f48,[],[],false,[(6,9,true)],[],[(464,[(0,wL),(1,wL),(5,wI)])]⟩
def ok:M.Ok:=⟨AG.nil,mixed,func48,by kernel_rfl⟩
def EE:=M.pt 0
def start (h:Br ((n0:Int)≠(n1:Int)) (R (.B false) σ) (EE R p0 n0 c0 p1 n1 c1 0 σ)):Spec prog 48 #[.slice p0 n0 c0,.slice p1 n1 c1] σ R:=M.start h ok
def C4 (h:Br (x5<(n0:Int)) (Pq p0 fun F3 Wr=>In x5 (n0:Int)∧∃AEg AEh,Am σ F3 (Wr+x5.toNat*2) [.string AEg,.string AEh]∧Pq p1 fun WY Xa=>In x5 (n1:Int)∧∃AEi AEj,Am σ WY (Xa+x5.toNat*2) [.string AEi,.string AEj]∧∃t25,YF prog ((do eqGuard .neq 144 (.tmp 20) (.tmp 24) (.agg #[.string AEg,.string AEh]) (.agg #[.string AEi,.string AEj]);binOp .neq 144 (.agg #[.string AEg,.string AEh]) (.agg #[.string AEi,.string AEj]))) σ (.bool t25)∧Bo t25 (R (.B false) σ) (AK (x5+1)∧EE R (aD F3 Wr) n0 c0 (aD WY Xa) n1 c1 (x5+1) σ)) (R (.B true) σ)):EE R p0 n0 c0 p1 n1 c1 x5 σ:=M.of h ok rfl
end Cm
namespace Cn
variable {p0:Option Addr}{n0 c0:Nat}{x3:Int}
def M:Fw:=⟨prog,57,f57,[],[],false,[(4,10,true)],[],[(208,[(0,wL),(3,wI)])]⟩
def ok:M.Ok:=⟨AG.nil,mixed,func57,by kernel_rfl⟩
def E3:=M.pt 0
def start (h:E3 R p0 n0 c0 1 σ):Spec prog 57 #[.slice p0 n0 c0] σ R:=M.start h ok
def A2 (h:Br (x3<(n0:Int)) (Pq p0 fun F6 IH=>In x3 (n0:Int)∧LI .i64 σ F6 (IH+x3.toNat*1) fun E2=>AK (x3-1)∧In (x3-1) (n0:Int)∧LI .i64 σ F6 (IH+Int.toNat (x3-1)*1) fun KS=>Br (E2≤KS) (R (.B false) σ) (AK (x3+1)∧E3 R (aD F6 IH) n0 c0 (x3+1) σ)) (R (.B true) σ)):E3 R p0 n0 c0 x3 σ:=M.of h ok rfl
end Cn
namespace RM
variable {x0:Int}
def M:Fw:=⟨prog,58,f58,[],[],false,[],[],[]⟩
def ok:M.Ok:=⟨AG.nil,mixed,func58,by kernel_rfl⟩
def start (h:Br (48≤x0) (R (.returned (.bool (decide (x0≤57)))) σ) (R (.B false) σ)):Spec prog 58 #[.int .u8 x0] σ R:=M.start h ok
end RM
namespace Hd
variable {s0:ByteArray}{x3 x4 x5:Int}
def M:Fw:=⟨prog,61,f61,[93],[],false,[],[],[(2000,[(0,wT),(3,wI),(4,wI),(5,wI)]),(508,[(4,wI)])]⟩
def ok:M.Ok:=⟨.cons call93 (AG.nil),mixed,func61,by kernel_rfl⟩
def zG:=M.pt 0
def nu:=M.pt 1
def start (h:AH 93 #[.string s0] σ R (CI .i64 fun x7 y=>Br (x7=0) (R (.returned (.I 0)) y) (Br (10<x7) (R (.returned (.I 0)) y) (∃u16:UInt8,(0:Int)≤0∧(ByteArray.data s0)[Int.toNat 0]?=some u16∧Br (((u16.toNat:Int):Int)=48) (R (.returned (.I 0)) y) (AK (x7+1)∧Br (((x7+1):Int)≠(s0.size:Int)) (R (.returned (.I 0)) y) (zG R s0 x7 0 0 y)))))):Spec prog 61 #[.string s0] σ R:=M.start h ok
def lK (h:Br (x5<x3) (AK (10*x4)∧∃u35:UInt8,0≤x5∧(ByteArray.data s0)[x5.toNat]?=some u35∧Df (IntKind.u8.wrap ((u35.toNat:Int)-48)) fun Yq=>Df (IntKind.i64.wrap Yq) fun Su=>AK ((10*x4)+Su)∧AK (x5+1)∧zG R s0 x3 (((10*x4)+Su)) (x5+1) σ) (∃u41:UInt8,0≤x3∧(ByteArray.data s0)[x3.toNat]?=some u41∧Br (((u41.toNat:Int):Int)=115) (nu R x4 σ) (Br (((u41.toNat:Int):Int)=109) (AK (x4*60)∧nu R (x4*60) σ) (Br (((u41.toNat:Int):Int)=104) (AK (x4*3600)∧nu R (x4*3600) σ) (Br (((u41.toNat:Int):Int)=100) (AK (x4*86400)∧nu R (x4*86400) σ) (R (.returned (.I 0)) σ)))))):zG R s0 x3 x4 x5 σ:=M.of h ok rfl
def zH (h:Br (2147483648≤x4) (R (.returned (.I 0)) σ) (R (.returned (.I x4)) σ)):nu R x4 σ:=M.of h ok rfl
end Hd
namespace DL
variable {p0 P1 ARN ARO:Option Addr}{n0 c0 n21 NM ARP ARQ ARR ARS:Nat}{x7 x8 EG Ew Yp PL ART zI ARU ARV x12:Int}{t9 ARW:Bool}{nk:ByteArray}
def M:Fw:=⟨prog,66,f66,[24],[11],false,[],[],[(488,[(7,wI),(8,wI),(9,wB),(21,wL),(22,wI),(23,wI)]),(1959,[(7,wI),(8,wI),(9,wB),(21,wL),(22,wI),(23,wI)]),(125342,[(7,wI),(8,wI),(9,wB),(11,.X 127 [.I .i64,.I .i64,.T,.L,.I .i64,.I .i64,.I .i64,.L,.B,.I .i64]),(12,wI),(21,wL),(22,wI),(23,wI)]),(250687,[(7,wI),(8,wI),(21,wL),(22,wI),(23,wI)])]⟩
def ok:M.Ok:=⟨.cons call24 (AG.nil),mixed,func66,by kernel_rfl⟩
def Kj:=M.pt 0
def AEk:=M.pt 1
def Yu:=M.pt 2
def dM:=M.pt 3
def start (h:AH 24 #[.slice p0 n0 c0] σ R (fun z y=>∃nz jA AJ0,z=(.tuple #[.I nz,.I jA,.I AJ0])∧Br (AJ0≠0) (R (.T #[.I 0,.I 0]) y) (Kj R 0 0 false p0 n0 c0 (n0:Int) 0 y))):Spec prog 66 #[.slice p0 n0 c0] σ R:=M.start h ok
def ER (h:Br (Ew<EG) (Pq P1 fun PN WZ=>In Ew (n21:Int)∧∃RN dO su sv tA tB RO NQ dP tC tD tE tF tG,Am σ PN (WZ+Ew.toNat*10) [.I RN,.I dO,.string su,.slice sv tA tB,.I RO,.I NQ,.I dP,.slice tC tD tE,.bool tF,.I tG]∧∀D5:Nat,Br (RN≠2) (Br (RN≠3) (AEk R x7 x8 t9 (aD PN WZ) n21 NM EG Ew σ) (AK (NQ+RO)∧Br (RN=2) (AK ((NQ+RO)+300)∧Yu R x7 x8 t9 RN dO su sv tA tB RO NQ dP tC tD tE tF tG (((NQ+RO)+300)) (aD PN WZ) n21 NM EG Ew σ) (Yu R x7 x8 t9 RN dO su sv tA tB RO NQ dP tC tD tE tF tG (NQ+RO) (aD PN WZ) n21 NM EG Ew σ))) (AK (NQ+RO)∧Br (RN=2) (AK ((NQ+RO)+300)∧Yu R x7 x8 t9 RN dO su sv tA tB RO NQ dP tC tD tE tF tG (((NQ+RO)+300)) (aD PN WZ) n21 NM EG Ew σ) (Yu R x7 x8 t9 RN dO su sv tA tB RO NQ dP tC tD tE tF tG (NQ+RO) (aD PN WZ) n21 NM EG Ew σ))) (R (.T #[.I x7,.I x8]) σ)):Kj R x7 x8 t9 P1 n21 NM EG Ew σ:=M.of h ok rfl
def zJ (h:AK (Ew+1)∧Kj R x7 x8 t9 P1 n21 NM EG (Ew+1) σ):AEk R x7 x8 t9 P1 n21 NM EG Ew σ:=M.of h ok rfl
def Yv (h:Bn t9 (dM R (if x7<x12 then x12 else x7) zI P1 n21 NM EG Ew σ) (Br (zI<x8) (dM R (if x7<x12 then x12 else x7) zI P1 n21 NM EG Ew σ) (dM R (if x7<x12 then x12 else x7) x8 P1 n21 NM EG Ew σ))):Yu R x7 x8 t9 Yp PL nk ARN ARP ARQ ART zI ARU ARO ARR ARS ARW ARV x12 P1 n21 NM EG Ew σ:=M.Ya h ok rfl fun _=>by kernel_rfl
def Yw (h:AEk R x7 x8 true P1 n21 NM EG Ew σ):dM R x7 x8 P1 n21 NM EG Ew σ:=M.of h ok rfl
end DL
namespace EZ
variable {v0:Value}
def M:Fw:=⟨prog,70,f70,[103],[],false,[],[],[]⟩
def ok:M.Ok:=⟨.cons call103 (AG.nil),mixed,func70,by kernel_rfl⟩
def start (h:MC prog v0 sC #[] σ (AZ R (CI .i64 fun x5 y=>AK (x5-1)∧MC prog v0 Py #[.I 0,(.I (x5-1))] y (AZ R (fun z AE=>z=(.tuple #[])∧AH 103 #[v0,.I 0,(.I (x5-1))] AE R (CB fun t12 AJ=>MC prog v0 AIT #[] AJ (AZ R (fun z Ah=>∃oC,oC=z∧R (.returned oC) Ah)))))))):Spec prog 70 #[v0] σ R:=M.CL h ok [(0,.o (.V v0))] rfl rfl (by kernel_rfl)
end EZ
namespace Ax
variable {s0:ByteArray}{x3 x4 x5 x6:Int}
def M:Fw:=⟨prog,83,f83,[],[],false,[],[],[(220,[(0,wT),(3,wI)]),(894,[(0,wT),(3,wI),(4,wI),(5,w8),(6,w8)]),(7164,[(0,wT),(3,wI),(4,wI),(5,w8),(6,w8)])]⟩
def ok:M.Ok:=⟨AG.nil,mixed,func83,by kernel_rfl⟩
def CM:=M.pt 0
def H0:=M.pt 1
def tH:=M.pt 2
def start (h:CM R s0 0 σ):Spec prog 83 #[.string s0] σ R:=M.start h ok
def BE (h:Br (x3=(s0.size:Int)) (R (.B true) σ) (∃Mr:UInt8,0≤x3∧(ByteArray.data s0)[x3.toNat]?=some Mr∧Br (((Mr.toNat:Int):Int)<128) (AK (x3+1)∧CM R s0 (x3+1) σ) (Br ((194:Int)≤(Mr.toNat:Int)) (Br (((Mr.toNat:Int):Int)≤223) (H0 R s0 x3 1 128 191 σ) (Br ((224:Int)≤(Mr.toNat:Int)) (Br (((Mr.toNat:Int):Int)≤239) (Br (((Mr.toNat:Int):Int)=224) (H0 R s0 x3 2 160 191 σ) (Br (((Mr.toNat:Int):Int)=237) (H0 R s0 x3 2 128 159 σ) (H0 R s0 x3 2 128 191 σ))) (Br ((240:Int)≤(Mr.toNat:Int)) (Br (((Mr.toNat:Int):Int)≤244) (Br (((Mr.toNat:Int):Int)=240) (H0 R s0 x3 3 144 191 σ) (Br (((Mr.toNat:Int):Int)=244) (H0 R s0 x3 3 128 143 σ) (H0 R s0 x3 3 128 191 σ))) (R (.B false) σ)) (R (.B false) σ))) (Br ((240:Int)≤(Mr.toNat:Int)) (Br (((Mr.toNat:Int):Int)≤244) (Br (((Mr.toNat:Int):Int)=240) (H0 R s0 x3 3 144 191 σ) (Br (((Mr.toNat:Int):Int)=244) (H0 R s0 x3 3 128 143 σ) (H0 R s0 x3 3 128 191 σ))) (R (.B false) σ)) (R (.B false) σ)))) (Br ((224:Int)≤(Mr.toNat:Int)) (Br (((Mr.toNat:Int):Int)≤239) (Br (((Mr.toNat:Int):Int)=224) (H0 R s0 x3 2 160 191 σ) (Br (((Mr.toNat:Int):Int)=237) (H0 R s0 x3 2 128 159 σ) (H0 R s0 x3 2 128 191 σ))) (Br ((240:Int)≤(Mr.toNat:Int)) (Br (((Mr.toNat:Int):Int)≤244) (Br (((Mr.toNat:Int):Int)=240) (H0 R s0 x3 3 144 191 σ) (Br (((Mr.toNat:Int):Int)=244) (H0 R s0 x3 3 128 143 σ) (H0 R s0 x3 3 128 191 σ))) (R (.B false) σ)) (R (.B false) σ))) (Br ((240:Int)≤(Mr.toNat:Int)) (Br (((Mr.toNat:Int):Int)≤244) (Br (((Mr.toNat:Int):Int)=240) (H0 R s0 x3 3 144 191 σ) (Br (((Mr.toNat:Int):Int)=244) (H0 R s0 x3 3 128 143 σ) (H0 R s0 x3 3 128 191 σ))) (R (.B false) σ)) (R (.B false) σ)))))):CM R s0 x3 σ:=M.of h ok rfl
def zK (h:AK (x3+1)∧tH R s0 (x3+1) x4 x5 x6 σ):H0 R s0 x3 x4 x5 x6 σ:=M.of h ok rfl
def lL (h:Br (x4=0) (CM R s0 x3 σ) (Br (x3=(s0.size:Int)) (R (.B false) σ) (∃u60:UInt8,0≤x3∧(ByteArray.data s0)[x3.toNat]?=some u60∧Br (((u60.toNat:Int):Int)<x5) (R (.B false) σ) (∃u67:UInt8,0≤x3∧(ByteArray.data s0)[x3.toNat]?=some u67∧Br (x6<(u67.toNat:Int)) (R (.B false) σ) (AK (x4-1)∧AK (x3+1)∧tH R s0 (x3+1) (x4-1) 128 191 σ))))):tH R s0 x3 x4 x5 x6 σ:=M.of h ok rfl
end Ax
namespace GX
variable {p0 p8:Option Addr}{n0 c0 n8 c8:Nat}{x9 x10:Int}
def M:Fw:=⟨prog,86,f86,[117,118],[4],false,[],[],[(232,[(8,wL),(9,wI),(10,wI)])]⟩
def ok:M.Ok:=⟨.cons call117 (.cons call118 (AG.nil)),mixed,func86,by kernel_rfl⟩
def Ha:=M.pt 0
def start (h:Br (8<(n0:Int)) (R (.returned (.I 41)) σ) (Ha R p0 n0 c0 (n0:Int) 0 σ)):Spec prog 86 #[.slice p0 n0 c0] σ R:=M.start h ok
def FC (h:Br (x10<x9) (Pq p8 fun F6 IH=>In x10 (n8:Int)∧∃G7 oD AJ1,Am σ F6 (IH+x10.toNat*3) [.I G7,.string oD,.string AJ1]∧∀b4:Nat,AH 117 #[.I G7] σ R (CB fun t16 y=>Bn t16 (R (.returned (.I 40)) y) (AH 118 #[.string oD] y R (CB fun t21 AE=>Bn t21 (R (.returned (.I 40)) AE) (Br ((256:Int)<(AJ1.size:Int)) (R (.returned (.I 40)) AE) (AK (x10+1)∧Ha R (aD F6 IH) n8 c8 x9 (x10+1) AE)))))) (R (.returned (.I 0)) σ)):Ha R p8 n8 c8 x9 x10 σ:=M.of h ok rfl
end GX
namespace He
variable {s0:ByteArray}{x3:Int}
def M:Fw:=⟨prog,93,f93,[58],[],false,[],[],[(224,[(0,wT),(3,wI)])]⟩
def ok:M.Ok:=⟨.cons call58 (AG.nil),mixed,func93,by kernel_rfl⟩
def E3:=M.pt 0
def start (h:E3 R s0 0 σ):Spec prog 93 #[.string s0] σ R:=M.start h ok
def A2 (h:Br (x3<(s0.size:Int)) (∃u11:UInt8,0≤x3∧(ByteArray.data s0)[x3.toNat]?=some u11∧AH 58 #[(.int .u8 (u11.toNat:Int))] σ R (CB fun t12 y=>Bo t12 (AK (x3+1)∧E3 R s0 (x3+1) y) (R (.returned (.I x3)) y))) (R (.returned (.I x3)) σ)):E3 R s0 x3 σ:=M.of h ok rfl
end He
namespace Aa
variable {q0 Du EB p2 HI Ik Hw Gr p8 dA WW p47:Option Addr}{CA Ba Dl DA Cf Cj Ej GQ Il G3 Im JV Gp Gq Ws Hv Yr qt:Int}{Dm IE:ByteArray}{Dx Dy Dz EC n2 c2 HJ HK Io Ip Hx Hy Gs Gt n8 c8 n25 dB n12 UO n47 zL:Nat}{DI JW:Bool}{v9:Value}
def M:Fw:=⟨prog,132,f132,[158,159,160],[4,6,11,14],false,[],[],[(488,[(2,wL),(4,.X 127 [.I .i64,.I .i64,.T,.L,.I .i64,.I .i64,.I .i64,.L,.B,.I .i64]),(6,.X 164 [.I .i64,.I .u64,.L,.L]),(8,wL),(9,wV),(25,wL),(26,wI),(27,wI)]),(2024,[(2,wL),(4,.X 127 [.I .i64,.I .i64,.T,.L,.I .i64,.I .i64,.I .i64,.L,.B,.I .i64]),(6,.X 164 [.I .i64,.I .u64,.L,.L]),(8,wL),(12,wL),(47,wL),(48,wI),(49,wI)]),(8103,[(2,wL),(4,.X 127 [.I .i64,.I .i64,.T,.L,.I .i64,.I .i64,.I .i64,.L,.B,.I .i64]),(6,.X 164 [.I .i64,.I .u64,.L,.L]),(8,wL),(12,wL),(47,wL),(48,wI),(49,wI)])]⟩
def ok:M.Ok:=⟨.cons call158 (.cons call159 (.cons call160 (AG.nil))),mixed,func132,by kernel_rfl⟩
def DB:=M.pt 0
def F7:=M.pt 1
def NN:=M.pt 2
def start (h:∀b4:Nat,∀b6:Nat,AI prog (Instr.makeMap 236 none) σ (fun z y=>∃m17,z=(.map (some m17))∧AI prog (Instr.mapUpdate 236 (.map (some m17)) (.I 11) (.func (.func 156) #[] #[])) y (fun _ AE=>AI prog (Instr.mapUpdate 236 (.map (some m17)) (.I 12) (.func (.func 157) #[] #[])) AE (fun _ AJ=>AI prog (Instr.lookup 236 (.map (some m17)) (.I Ba) false) AJ (fun z Ah=>∃v21,v21=z∧Pq p2 fun WY Xa=>In 0 (n2:Int)∧LS Ah WY (Xa+2) fun dA n25 dB=>DB R (aD WY Xa) n2 c2 CA Ba Dm Du Dx Dy Dl DA Cf EB Dz EC DI Cj 0 0 none 0 0 none 0 0 none 0 0 v21 dA n25 dB (n25:Int) 0 Ah))))):Spec prog 132 #[.pointer q0,.agg #[.I CA,.I Ba,.string Dm,.slice Du Dx Dy,.I Dl,.I DA,.I Cf,.slice EB Dz EC,.bool DI,.I Cj],.slice p2 n2 c2] σ R:=M.start h ok
def BX (h:Br (Hv<Ws) (Pq dA fun Qm XV=>In Hv (n25:Int)∧∃tI tJ tK cX,Am σ Qm (XV+Hv.toNat*2) [.slice tI tJ tK,.U cX]∧∀D5:Nat,AH 158 #[.slice tI tJ tK] σ R (CS fun p34 n34 c34 y=>∃(f38:Nat) (II IJ:Array Value),v9=.func (.func f38) II IJ∧Enters prog f38∧Spec prog f38 (II++#[.U cX]++IJ) y (AZ R (CI .u64 fun Wj AE=>Al AE fun Wm=>AI prog (GO 105 p8 n8 c8 Wm) (Hp.set AE Wm (.cells #[.slice p34 n34 c34,.U Wj] 109 (0,0))) (CS fun ng n41 gL AJ=>AK (Hv+1)∧DB R p2 n2 c2 Ej GQ IE HI HJ HK Il G3 Im Ik Io Ip JW JV Gp Gq Hw Hx Hy Gr Gs Gt ng n41 gL v9 (aD Qm XV) n25 dB Ws (Hv+1) AJ))))) (AH 159 #[] σ R (CS fun qu n43 qw y=>Pq p2 fun Wn qj=>In 0 (n2:Int)∧LS y Wn (qj+3) fun p47 n47 zL=>F7 R (aD Wn qj) n2 c2 Ej GQ IE HI HJ HK Il G3 Im Ik Io Ip JW JV Gp Gq Hw Hx Hy Gr Gs Gt p8 n8 c8 qu n43 qw p47 n47 zL (n47:Int) 0 y))):DB R p2 n2 c2 Ej GQ IE HI HJ HK Il G3 Im Ik Io Ip JW JV Gp Gq Hw Hx Hy Gr Gs Gt p8 n8 c8 v9 dA n25 dB Ws Hv σ:=M.iW h ok rfl fun _ _=>by kernel_rfl
def G8 (h:Br (qt<Yr) (Pq p47 fun b51 o51=>In qt (n47:Int)∧∃AJ3 AJ4 AJ5 AJ6 AJ7 AJ8,Am σ b51 (o51+qt.toNat*2) [.slice AJ3 AJ4 AJ5,.slice AJ6 AJ7 AJ8]∧∀HH:Nat,Pq WW fun NK o57=>In GQ (n12:Int)∧∃v58,Hp.ld σ ⟨NK,(o57+GQ.toNat*1),none⟩=some v58∧∃(f63:Nat) (LV LX:Array Value),v58=.func (.func f63) LV LX∧Enters prog f63∧Spec prog f63 (LV++#[.slice AJ6 AJ7 AJ8,.agg #[.I Ej,.I GQ,.string IE,.slice HI HJ HK,.I Il,.I G3,.I Im,.slice Ik Io Ip,.bool JW,.I JV],.slice p2 n2 c2]++LX) σ (AZ R (fun z y=>∃AJ9 AKA,z=(.tuple #[.U AJ9,.bool AKA])∧Bo AKA (AH 158 #[.slice AJ3 AJ4 AJ5] y R (CS fun p70 n70 c70 AE=>Al AE fun b73=>AI prog (GO 105 p8 n8 c8 b73) (Hp.set AE b73 (.cells #[.slice p70 n70 c70,.U AJ9] 109 (0,0))) (CS fun p74 n74 c74 AJ=>NN R p2 n2 c2 Ej GQ IE HI HJ HK Il G3 Im Ik Io Ip JW JV Gp Gq Hw Hx Hy Gr Gs Gt p74 n74 c74 (aD NK o57) n12 UO (aD b51 o51) n47 zL Yr qt AJ))) (NN R p2 n2 c2 Ej GQ IE HI HJ HK Il G3 Im Ik Io Ip JW JV Gp Gq Hw Hx Hy Gr Gs Gt p8 n8 c8 (aD NK o57) n12 UO (aD b51 o51) n47 zL Yr qt y)))) (AH 160 #[.slice p8 n8 c8] σ R (fun z y=>∃ABw ABx ABy ABz AB0 AB1 AB2 AB3 AKE,z=(.tuple #[.agg #[.I ABw,.U ABx,.slice ABy ABz AB0,.slice AB1 AB2 AB3],.I AKE])∧R (.T #[.agg #[.I ABw,.U ABx,.slice ABy ABz AB0,.slice AB1 AB2 AB3],.I AKE]) y))):F7 R p2 n2 c2 Ej GQ IE HI HJ HK Il G3 Im Ik Io Ip JW JV Gp Gq Hw Hx Hy Gr Gs Gt p8 n8 c8 WW n12 UO p47 n47 zL Yr qt σ:=M.iW h ok rfl fun _ _=>by kernel_rfl
def Jp (h:AK (qt+1)∧F7 R p2 n2 c2 Ej GQ IE HI HJ HK Il G3 Im Ik Io Ip JW JV Gp Gq Hw Hx Hy Gr Gs Gt p8 n8 c8 WW n12 UO p47 n47 zL Yr (qt+1) σ):NN R p2 n2 c2 Ej GQ IE HI HJ HK Il G3 Im Ik Io Ip JW JV Gp Gq Hw Hx Hy Gr Gs Gt p8 n8 c8 WW n12 UO p47 n47 zL Yr qt σ:=M.iW h ok rfl fun _ _=>by kernel_rfl
end Aa
namespace SF
variable {s0:ByteArray}
def M:Fw:=⟨prog,181,f181,[221],[],false,[],[],[]⟩
def ok:M.Ok:=⟨.cons call221 (AG.nil),mixed,func181,by kernel_rfl⟩
def start (h:AH 221 #[.string s0] σ R (CI .i64 fun x6 y=>Br (x6=0) (R (.B false) y) (Br (1<x6) (∃Mr:UInt8,(0:Int)≤0∧(ByteArray.data s0)[Int.toNat 0]?=some Mr∧Br (((Mr.toNat:Int):Int)=48) (R (.B false) y) (Br (x6=(s0.size:Int)) (R (.returned (.bool (decide (x6≤15)))) y) (AK (x6+1)∧∃s27,YF prog (Instr.sliceAt 9 (.string s0) (some (.I (x6+1))) none none) y (.string s27)∧AH 221 #[.string s27] y R (CI .i64 fun Po AE=>∃u31:UInt8,0≤x6∧(ByteArray.data s0)[x6.toNat]?=some u31∧Br (((u31.toNat:Int):Int)=46) (Br (0<Po) (AK (x6+1)∧AK ((x6+1)+Po)∧Br ((((x6+1)+Po):Int)=(s0.size:Int)) (AK (x6+Po)∧R (.returned (.bool (decide (((x6+Po):Int)≤15)))) AE) (R (.B false) AE)) (R (.B false) AE)) (R (.B false) AE))))) (Br (x6=(s0.size:Int)) (R (.returned (.bool (decide (x6≤15)))) y) (AK (x6+1)∧∃s27,YF prog (Instr.sliceAt 9 (.string s0) (some (.I (x6+1))) none none) y (.string s27)∧AH 221 #[.string s27] y R (CI .i64 fun Po AE=>∃u31:UInt8,0≤x6∧(ByteArray.data s0)[x6.toNat]?=some u31∧Br (((u31.toNat:Int):Int)=46) (Br (0<Po) (AK (x6+1)∧AK ((x6+1)+Po)∧Br ((((x6+1)+Po):Int)=(s0.size:Int)) (AK (x6+Po)∧R (.returned (.bool (decide (((x6+Po):Int)≤15)))) AE) (R (.B false) AE)) (R (.B false) AE)) (R (.B false) AE))))))):Spec prog 181 #[.string s0] σ R:=M.start h ok
end SF
namespace SG
def M:Fw:=⟨prog,187,f187,[],[],false,[],[],[]⟩
def ok:M.Ok:=⟨AG.nil,mixed,func187,by kernel_rfl⟩
def start (h:Al σ fun b1=>R (.returned (.slice (aD b1 0) 5 5)) (Hp.set σ b1 (.cells #[.nilFunc,(.func (.func 225) #[] #[]),(.func (.func 226) #[] #[]),(.func (.func 227) #[] #[]),(.func (.func 228) #[] #[])] 268 (0,0)))):Spec prog 187 #[] σ R:=M.start h ok
end SG
namespace UY
variable {v0:Value}
def M:Fw:=⟨prog,193,f193,[],[],false,[],[],[]⟩
def ok:M.Ok:=⟨AG.nil,mixed,func193,by kernel_rfl⟩
def start (h:EN prog 231 #[v0] σ (fun z y=>∃x4,(Value.float .f64 x4)=z∧R (.returned (Value.float .f64 x4)) y)):Spec prog 193 #[v0] σ R:=M.CL h ok [(0,.o (.V v0))] rfl rfl (by kernel_rfl)
end UY
namespace SH
variable {x0:Int}
def M:Fw:=⟨prog,196,f196,[183,192],[],false,[],[],[]⟩
def ok:M.Ok:=⟨.cons call183 (.cons call192 (AG.nil)),mixed,func196,by kernel_rfl⟩
def start (h:AH 192 #[.U x0] σ R (fun z y=>∃x4,(Value.float .f64 x4)=z∧AH 183 #[(Value.float .f64 x4)] y R (CI .u64 fun x5 AE=>R (.returned (.U x5)) AE))):Spec prog 196 #[.U x0] σ R:=M.start h ok
end SH
namespace P3
variable {f0:Fn}{a0 c0:Array Value}
def M:Fw:=⟨prog,198,f198,[],[],false,[],[],[]⟩
def ok:M.Ok:=⟨AG.nil,mixed,func198,by kernel_rfl⟩
def start (h:Al σ fun b1=>R (.returned (.func (.func 235) #[] #[(.pointer (aD b1 0))])) (Hp.set σ b1 (.cells #[(Value.func f0 a0 c0)] 280 (0,0)))):Spec prog 198 #[(Value.func f0 a0 c0)] σ R:=M.CL h ok [(0,.o (.V (Value.func f0 a0 c0)))] rfl rfl (by kernel_rfl)
end P3
namespace Nl
variable {bD p1a:Option Addr}{Pz XT n1a c1a:Nat}{Ck Ba:Int}
def M:Fw:=⟨prog,206,f206,[36],[2,3],false,[],[],[]⟩
def ok:M.Ok:=⟨.cons call36 (AG.nil),mixed,func206,by kernel_rfl⟩
def start (h:∀b2:Nat,∀b3:Nat,AH 36 #[.slice bD Pz XT,.slice p1a n1a c1a] σ R (CI .i64 fun x9 y=>R (.returned (.I x9)) y)):Spec prog 206 #[.agg #[.slice bD Pz XT,.U Ck],.agg #[.slice p1a n1a c1a,.U Ba]] σ R:=M.start h ok
end Nl
namespace FL
variable {p0:Option Addr}{n0 c0:Nat}{s1:ByteArray}
def M:Fw:=⟨prog,209,f209,[237],[],false,[],[],[]⟩
def ok:M.Ok:=⟨.cons call237 (AG.nil),mixed,func209,by kernel_rfl⟩
def start (h:AH 237 #[.slice p0 n0 c0,.string s1] σ R (CI .i64 fun x7 y=>R (.returned (.bool (decide (0≤x7)))) y)):Spec prog 209 #[.slice p0 n0 c0,.string s1] σ R:=M.start h ok
end FL
namespace JB
variable {q0:Option Addr}
def M:Fw:=⟨prog,218,f218,[31,95,97,98,99,100,239,240,241,242],[2],false,[],[],[]⟩
def ok:M.Ok:=⟨.cons call31 (.cons call95 (.cons call97 (.cons call98 (.cons call99 (.cons call100 (.cons call239 (.cons call240 (.cons call241 (.cons call242 (AG.nil)))))))))),mixed,func218,by kernel_rfl⟩
def start (h:AH 31 #[.pointer q0] σ R (fun z y=>∃Ff HL GY HN,z=(.agg #[.I Ff,.I HL,.string GY,.I HN])∧∀b2:Nat,AH 239 #[] y R (CS fun p8 n8 c8 AE=>AH 95 #[.slice p8 n8 c8,.string GY] AE R (CI .i64 fun x11 AJ=>AH 240 #[] AJ R (CS fun WW n12 UO Ah=>AH 95 #[.slice WW n12 UO,.string GY] Ah R (CI .i64 fun x15 CF=>Br (Ff=1) (AH 97 #[.pointer q0] CF R (fun z Fu=>∃yz dH AES AET,z=(.agg #[.I yz,.I dH,.string AES,.I AET])∧AH 100 #[.pointer q0,.agg #[.I 1,.I 0,.string GY,.N,.I 0,.I 0,.I 0,.N,.bool false,.I 0]] Fu R (fun z FX=>z=(.tuple #[])∧R (.T #[]) FX))) (AH 98 #[.pointer q0,.I 5,(.string (ByteArray.mk #[40]))] CF R (CB fun t31 Fu=>Bo t31 (AH 241 #[.pointer q0] Fu R (fun z FX=>z=(.tuple #[])∧R (.T #[]) FX)) (Br (Ff=3) (Br (0<x11) (AH 97 #[.pointer q0] Fu R (fun z FX=>∃RP NR RQ ARa,z=(.agg #[.I RP,.I NR,.string RQ,.I ARa])∧AH 241 #[.pointer q0] FX R (fun z TJ=>z=(.tuple #[])∧AH 100 #[.pointer q0,(.agg #[.I 4,.I x11,(.string (ByteArray.mk #[])),.N,.I 0,.I 0,.I 0,.N,.bool false,.I 1])] TJ R (fun z Wk=>z=(.tuple #[])∧R (.T #[]) Wk)))) (Br (Ff=3) (Br (0<x15) (AH 97 #[.pointer q0] Fu R (fun z FX=>∃Yx Ii AEl AEm,z=(.agg #[.I Yx,.I Ii,.string AEl,.I AEm])∧Al FX fun b5=>AI prog (Instr.storeAt 127 (.pointer (aD b5 0)) (.agg #[.I 5,.I x15,(.string (ByteArray.mk #[])),.N,.I 0,.I 0,.I 0,.N,.bool false,.I 1])) (Hp.set FX b5 (.cells #[.I 0,.I 0,(.string (ByteArray.mk #[])),.N,.I 0,.I 0,.I 0,.N,.bool false,.I 0] 127 (0,0))) (fun _ TJ=>AH 99 #[.pointer q0,(.pointer (aD b5 0)),(.agg #[(.string (ByteArray.mk #[98,121])),(.string (ByteArray.mk #[119,105,116,104,111,117,116]))]),.agg #[.I 1,.I 2]] TJ R (fun z Wk=>z=(.tuple #[])∧AH 241 #[.pointer q0] Wk R (fun z Jk=>z=(.tuple #[])∧∃dQ dR dS dT dU dV dW dX dY dZ da db dc de,Am Jk b5 0 [.I dQ,.I dR,.string dS,.slice dT dU dV,.I dW,.I dX,.I dY,.slice dZ da db,.bool dc,.I de]∧AH 100 #[.pointer q0,.agg #[.I dQ,.I dR,.string dS,.slice dT dU dV,.I dW,.I dX,.I dY,.slice dZ da db,.bool dc,.I de]] Jk R (fun z iX=>z=(.tuple #[])∧R (.T #[]) iX)))))) (AH 242 #[.pointer q0] Fu R (fun z FX=>z=(.tuple #[])∧R (.T #[]) FX))) (AH 242 #[.pointer q0] Fu R (fun z FX=>z=(.tuple #[])∧R (.T #[]) FX)))) (Br (Ff=3) (Br (0<x15) (AH 97 #[.pointer q0] Fu R (fun z FX=>∃Yx Ii AEl AEm,z=(.agg #[.I Yx,.I Ii,.string AEl,.I AEm])∧Al FX fun b5=>AI prog (Instr.storeAt 127 (.pointer (aD b5 0)) (.agg #[.I 5,.I x15,(.string (ByteArray.mk #[])),.N,.I 0,.I 0,.I 0,.N,.bool false,.I 1])) (Hp.set FX b5 (.cells #[.I 0,.I 0,(.string (ByteArray.mk #[])),.N,.I 0,.I 0,.I 0,.N,.bool false,.I 0] 127 (0,0))) (fun _ TJ=>AH 99 #[.pointer q0,(.pointer (aD b5 0)),(.agg #[(.string (ByteArray.mk #[98,121])),(.string (ByteArray.mk #[119,105,116,104,111,117,116]))]),.agg #[.I 1,.I 2]] TJ R (fun z Wk=>z=(.tuple #[])∧AH 241 #[.pointer q0] Wk R (fun z Jk=>z=(.tuple #[])∧∃dQ dR dS dT dU dV dW dX dY dZ da db dc de,Am Jk b5 0 [.I dQ,.I dR,.string dS,.slice dT dU dV,.I dW,.I dX,.I dY,.slice dZ da db,.bool dc,.I de]∧AH 100 #[.pointer q0,.agg #[.I dQ,.I dR,.string dS,.slice dT dU dV,.I dW,.I dX,.I dY,.slice dZ da db,.bool dc,.I de]] Jk R (fun z iX=>z=(.tuple #[])∧R (.T #[]) iX)))))) (AH 242 #[.pointer q0] Fu R (fun z FX=>z=(.tuple #[])∧R (.T #[]) FX))) (AH 242 #[.pointer q0] Fu R (fun z FX=>z=(.tuple #[])∧R (.T #[]) FX)))))))))))):Spec prog 218 #[.pointer q0] σ R:=M.start h ok
end JB
namespace GZ
variable {s0:ByteArray}{x3:Int}
def M:Fw:=⟨prog,221,f221,[],[],false,[],[],[(224,[(0,wT),(3,wI)])]⟩
def ok:M.Ok:=⟨AG.nil,mixed,func221,by kernel_rfl⟩
def E3:=M.pt 0
def start (h:E3 R s0 0 σ):Spec prog 221 #[.string s0] σ R:=M.start h ok
def A2 (h:Br (x3<(s0.size:Int)) (∃u11:UInt8,0≤x3∧(ByteArray.data s0)[x3.toNat]?=some u11∧Br ((48:Int)≤(u11.toNat:Int)) (∃u17:UInt8,0≤x3∧(ByteArray.data s0)[x3.toNat]?=some u17∧Br (((u17.toNat:Int):Int)≤57) (AK (x3+1)∧E3 R s0 (x3+1) σ) (R (.returned (.I x3)) σ)) (R (.returned (.I x3)) σ)) (R (.returned (.I x3)) σ)):E3 R s0 x3 σ:=M.of h ok rfl
end GZ
namespace FM
variable {bD:Option Addr}{Pz XT:Nat}{gJ s1:ByteArray}
def M:Fw:=⟨prog,226,f226,[],[2],false,[],[],[]⟩
def ok:M.Ok:=⟨AG.nil,mixed,func226,by kernel_rfl⟩
def start (h:∀b2:Nat,R (.returned (.bool (!(ByteArray.toList s1==ByteArray.toList gJ)))) σ):Spec prog 226 #[.agg #[.slice bD Pz XT,.string gJ],.string s1] σ R:=M.start h ok
end FM
namespace df
variable {x0:Int}
def M:Fw:=⟨prog,238,f238,[196],[],false,[],[],[]⟩
def ok:M.Ok:=⟨.cons call196 (AG.nil),mixed,func238,by kernel_rfl⟩
def start (h:AH 196 #[.U x0] σ R (CI .u64 fun x4 y=>R (.returned (.bool (decide (x4=9221120237041090560)))) y)):Spec prog 238 #[.U x0] σ R:=M.start h ok
end df
namespace UZ
def M:Fw:=⟨prog,240,f240,[],[],false,[],[],[]⟩
def ok:M.Ok:=⟨AG.nil,mixed,func240,by kernel_rfl⟩
def start (h:Al σ fun b1=>R (.returned (.slice (aD b1 0) 6 6)) (Hp.set σ b1 (.cells #[(.string (ByteArray.mk #[])),(.string (ByteArray.mk #[115,117,109])),(.string (ByteArray.mk #[109,105,110])),(.string (ByteArray.mk #[109,97,120])),(.string (ByteArray.mk #[97,118,103])),(.string (ByteArray.mk #[99,111,117,110,116]))] 9 (0,0)))):Spec prog 240 #[] σ R:=M.start h ok
end UZ
namespace Bq
variable {s0:ByteArray}{x1:Int}
def M:Fw:=⟨prog,243,f243,[267,268],[],false,[],[],[]⟩
def ok:M.Ok:=⟨.cons call267 (.cons call268 (AG.nil)),mixed,func243,by kernel_rfl⟩
def start (h:Br (x1=32) (AH 267 #[.string s0] σ R (fun z y=>∃AKF RH AKG,z=(.tuple #[AKF,.I RH,AKG])∧AI prog (convert 329 258 AKF) y (fun z AE=>∃Bk,(Value.float .f64 Bk)=z∧R (.T #[(Value.float .f64 Bk),.I RH,AKG]) AE))) (AH 268 #[.string s0] σ R (fun z y=>∃AKH dH AKI,z=(.tuple #[AKH,.I dH,AKI])∧R (.T #[AKH,.I dH,AKI]) y))):Spec prog 243 #[.string s0,.I x1] σ R:=M.start h ok
end Bq
namespace JC
variable {q0 q1:Option Addr}{qk dC dD x3d:Int}{s2b s2c s3c:ByteArray}
def M:Fw:=⟨prog,264,f264,[65,86],[6,7],false,[(1,10,false)],[],[]⟩
def ok:M.Ok:=⟨.cons call65 (.cons call86 (AG.nil)),mixed,func264,by kernel_rfl⟩
def start (h:∀b6:Nat,∀b7:Nat,Pq q1 fun Cs Kr=>LS σ Cs (Kr+3) fun WW n12 UO=>Al σ fun HH=>AI prog (GO 112 WW n12 UO HH) (Hp.set σ HH (.cells #[.I qk,.string s2b,.string s2c] 172 (0,0))) (CS fun TL n15 RB y=>AI prog (Instr.storeAt 112 (.pointer (aD Cs (Kr+3))) (.slice TL n15 RB)) y (fun _ AE=>LS AE Cs (Kr+3) fun P1 n21 NM=>AH 86 #[.slice P1 n21 NM] AE R (CI .i64 fun EG AJ=>Br (EG≠0) (AH 65 #[.pointer q0,.I 183,.agg #[.I dC,.I dD,.string s3c,.I x3d]] AJ R (fun z Ah=>z=(.tuple #[])∧R (.T #[]) Ah)) (R (.T #[]) AJ))))):Spec prog 264 #[.pointer q0,.pointer q1,.agg #[.I qk,.string s2b,.string s2c],.agg #[.I dC,.I dD,.string s3c,.I x3d]] σ R:=M.start h ok
end JC
namespace En
variable {s0:ByteArray}{x3 x8 x9 x16:Int}{v4 v2:Value}{t11:Bool}
def M:Fw:=⟨prog,268,f268,[282,283,284,289,290,291,293,294],[],false,[],[],[(254,[(0,wT),(3,wI),(4,wV)]),(8190,[(2,wV),(3,wI),(4,wV)]),(32446,[(0,wT),(3,wI),(4,wV),(8,wU),(9,wI),(11,wB),(16,wU)])]⟩
def ok:M.Ok:=⟨.cons call282 (.cons call283 (.cons call284 (.cons call289 (.cons call290 (.cons call291 (.cons call293 (.cons call294 (AG.nil)))))))),mixed,func268,by kernel_rfl⟩
def ARb:=M.pt 0
def AKK:=M.pt 2
def start (h:AH 282 #[.string s0] σ R (fun z y=>∃AKL Ua AKM,z=(.tuple #[AKL,.I Ua,.bool AKM])∧Bo AKM (R (.T #[AKL,.I Ua,.nilIface]) y) (AH 283 #[.string s0] y R (fun z AE=>∃oE jB zM AEn AKN Ub AKO,z=(.tuple #[.U oE,.I jB,.bool zM,.bool AEn,.bool AKN,.I Ub,.bool AKO])∧Bn AKO (R (.T #[.float .f64 0,.I Ub,(.iface 311 (.I 2))]) AE) (Bo AKN (∃s53,YF prog (Instr.sliceAt 9 (.string s0) none (some (.I Ub)) none) AE (.string s53)∧AH 284 #[.string s53,(.pointer (aD 6 0)),.U oE,.I jB,.bool zM,.bool AEn] AE R (fun z AJ=>∃AKP AKQ,z=(.tuple #[AKP,AKQ])∧R (.T #[AKP,.I Ub,AKQ]) AJ)) (LB AE 5 0 fun t64=>Bo t64 (AH 291 #[.bool zM] AE R (CI .u64 fun x66 AJ=>((0:Int)≤63∧63≤((IntKind.bits .u64:Nat):Int))∧Df (IntKind.u64.wrap (x66*2^Int.toNat 63)) fun jC=>Br (oE=0) (Df (Go.bits .or .u64 jC 0) fun x71=>EN prog 292 #[.U x71] AJ (fun z Ah=>∃x72,(Value.float .f64 x72)=z∧R (.T #[(Value.float .f64 x72),.I Ub,.nilIface]) Ah)) (Br (310<jB) (Df (Go.bits .or .u64 jC 9218868437227405312) fun x77=>EN prog 292 #[.U x77] AJ (fun z Ah=>∃x78,(Value.float .f64 x78)=z∧R (.T #[(Value.float .f64 x78),.I Ub,(.iface 311 (.I 1))]) Ah)) (Br (jB<(-345)) (Df (Go.bits .or .u64 jC 0) fun x84=>EN prog 292 #[.U x84] AJ (fun z Ah=>∃x85,(Value.float .f64 x85)=z∧R (.T #[(Value.float .f64 x85),.I Ub,.nilIface]) Ah)) (Bn AEn (AH 293 #[.U oE,.I jB,.bool zM] AJ R (fun z Ah=>∃AKR AKS,z=(.tuple #[AKR,.bool AKS])∧Bo AKS (R (.T #[AKR,.I Ub,.nilIface]) Ah) (AKK R s0 Ub .nilIface oE jB false jC Ah))) (AKK R s0 Ub .nilIface oE jB true jC AJ)))))) (ARb R s0 Ub .nilIface AE))))))):Spec prog 268 #[.string s0] σ R:=M.start h ok
end En
namespace CX
variable {t0:Bool}
def M:Fw:=⟨prog,291,f291,[],[],false,[],[],[]⟩
def ok:M.Ok:=⟨AG.nil,mixed,func291,by kernel_rfl⟩
def start (h:Bo t0 (R (.returned (.U 1)) σ) (R (.returned (.U 0)) σ)):Spec prog 291 #[.bool t0] σ R:=M.start h ok
end CX
namespace IK
variable {s0 s1:ByteArray}
def M:Fw:=⟨prog,297,f297,[322],[],false,[],[],[]⟩
def ok:M.Ok:=⟨.cons call322 (AG.nil),mixed,func297,by kernel_rfl⟩
def start (h:AH 322 #[.string s0,.string s1] σ R (CB fun t7 y=>R (.B t7) y)):Spec prog 297 #[.string s0,.string s1] σ R:=M.start h ok
end IK
end TwW
end
end
