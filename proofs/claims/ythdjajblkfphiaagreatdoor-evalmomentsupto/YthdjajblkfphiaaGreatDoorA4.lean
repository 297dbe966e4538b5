/-
  Part 4 of the proof that the law EvalMomentsUptoCardSaid of the given program answers true for every input of the given statement; the input reads behind the call as it did. (The texts: packed from 28 texts. Names are shortened by the packing program, for the bound on size.)
-/
import Derived.Test.YthdjajblkfphiaaGreatDoorA3
import Derived.Shelf.Strings.Search3
import Derived.Shelf.Strings.Split
import Derived.Lib.IndexMore
import Derived.Shelf.SlSortCmp.NoneTotal
import Derived.Shelf.SlGeneric
import Derived.Ground.SlsfProg
set_option linter.all false
section
namespace TwW
open Go Tw Go.RowKit Go.Proofs.Tryz
def F2 (ps:List Pt)(x:Int):Nat:=ps.countP fun q=>decide (q.1≤x)
theorem gu {ps:List Pt}{x:Int}{i:Nat}(hi:i≤ps.length)(h1:∀k q,k<i→ps[k]?=some q→q.1≤x)(h2:∀k q,i≤k→ps[k]?=some q→x<q.1):F2 ps x=i:=by
 unfold F2;rw[←AXr i ps,List.countP_append];have e1:(ps.take i).countP (fun q=>decide (q.1≤x))=(ps.take i).length:=List.countP_eq_length.2 fun q hq=>by
  obtain⟨k,hk⟩:=AXN.1 hq;rw[AW4]at hk;split at hk
  ·rename_i hki;exact AXK (h1 k q hki hk)
  ·cases hk
 have e2:(ps.drop i).countP (fun q=>decide (q.1≤x))=0:=List.countP_eq_zero.2 fun q hq=>by
  obtain⟨k,hk⟩:=AXN.1 hq;rw[AXQ]at hk;have:=h2 _ q (AY8 i k) hk;simp;omega
 rw[e1,e2,AW0];omega
def aM (ps:List Pt):Prop:=ps.Pairwise fun a b=>a.1<b.1
theorem kC {ps:List Pt}(h:KZ ps=true):aM ps:=by
 have hh:=((Hz ps).1 h).2;unfold aM;rw[AXX];intro i j hi hj I2
 induction j with
 | zero=>omega
 | succ j ih=>
  have hs:=hh j ps[j] ps[j+1] (AWm _) (AWm _);by_cases h:i=j
  ·subst h;exact hs
  ·exact Int.lt_trans (ih (by omega) (by omega)) hs
theorem gw {ps:List Pt}(h:aM ps){i j:Nat}{a b:Pt}(I2:i<j)(ha:ps[i]?=some a)(hb:ps[j]?=some b):a.1<b.1:=by
 obtain⟨h1,rfl⟩:=AWk.1 ha;obtain⟨h2,rfl⟩:=AWk.1 hb;exact AXX.1 h i j h1 h2 I2
theorem AJK {x:Int}(h0:0≤x)(h1:x<18446744073709551616):IntKind.u64.wrap x=x:=by simp[IntKind.wrap,IntKind.bits,IntKind.signed];omega
theorem AJL {x:Int}(h0:0≤x)(h1:x<9223372036854775808):IntKind.i64.wrap x=x:=by simp[IntKind.wrap,IntKind.bits,IntKind.signed];omega
section
variable [Ei]{σ:Hp}{R:Rr}
theorem gx {f:Nat}(hf:Enters prog f)(vQ:∀a b x σ' R',R' (.returned (.I (if a≤x then -1 else 1))) σ'→Spec prog f #[.agg #[.I a,.U b],.I x] σ' R'){p:Option Addr}{n c:Nat}{ps:List Pt}{x:Int}(hr:Ac 2 C1 σ p n ps)(hs:aM ps)
  (h:∀t,R (.T #[.I (F2 ps x),.bool t]) σ):Spec prog 127 #[.slice p n c,.I x,.func (.func f) #[] #[]] σ R:=by
 have hl:ps.length=n:=hr.1;have Tj:=hr.big;refine Ax.start ?_
 suffices H:∀g i j:Nat,j-i=g→i≤j→j≤n→(∀k q,k<i→ps[k]?=some q→q.1≤x)→(∀k q,j≤k→ps[k]?=some q→x<q.1)→Ax.CZ R p n c x (.func (.func f) #[] #[]) n i j σ from
  H n 0 n rfl (AWx _) (AWu _) (fun k q hk=>by omega) (fun k q hk hq=>by have:=(AWk.1 hq).1;omega)
 intro g
 induction g using Nat.strongRecOn with
 | _ g ih=>
  intro i j hg I2 hj h1 h2;refine Ax.BE ⟨fun Am=>⟨by unfold AM;omega,fun jv e21=>⟨by decide,fun I6 e22 Cz e23=>?_⟩⟩,fun Vu=>⟨fun Q7=>?_,fun Q7=>?_⟩⟩
  ·rw[AJK (by omega) (by omega)]at e21;have AON:I6=((i+j)/2:Nat):=by rw[e22,e21];show((i:Int)+j)/2^1=_;omega
   rw[AON,AJL (by omega) (by omega)]at e23;generalize hm:(i+j)/2=m at *;have him:i≤m∧m<j:=by omega
   obtain⟨q,hq⟩:=hr.ex (k:=m) (by omega);obtain⟨b,o,rfl,Ee⟩:=C1.at hr hq;rw[e23];refine⟨b,o,rfl,by omega,q.1,q.2,by simpa using Ee,f,#[],#[],rfl,hf,vQ _ _ _ _ _ ⟨_,rfl,fun AB7=>⟨by unfold AM;omega,?_⟩,fun Rc=>?_⟩⟩
   ·have hq1:q.1≤x:=by
     by_cases hh:q.1≤x
     ·exact hh
     ·rw[AWj hh]at AB7;omega
    refine ih (j-(m+1)) (by omega) (m+1) j rfl (by omega) hj (fun k r hk tG=>?_) h2;by_cases yn:k=m
    ·rw[yn,hq]at tG;cases tG;exact hq1
    ·have:=gw hs (by omega:k<m) tG hq;omega
   ·have hq1:x<q.1:=by
     by_cases hh:q.1≤x
     ·rw[AWl hh]at Rc;omega
     ·omega
    refine ih (m-i) (by omega) i m rfl (by omega) (by omega) h1 (fun k r hk tG=>?_);by_cases yn:k=m
    ·rw[yn,hq]at tG;cases tG;exact hq1
    ·have:=gw hs (by omega:m<k) hq tG;omega
  ·have e:i=j:=by omega
   subst e;have hc:=gu (by omega) h1 h2;obtain⟨q,hq⟩:=hr.ex (k:=i) (by omega);obtain⟨b,o,rfl,Ee⟩:=C1.at hr hq;refine⟨b,o,rfl,by omega,q.1,q.2,by simpa using Ee,f,#[],#[],rfl,hf,vQ _ _ _ _ _ ⟨_,rfl,?_⟩⟩;have:=h (decide ((if q.1≤x then(-1:Int) else 1)=0));rw[hc]at this;exact this
  ·have e:i=j:=by omega
   subst e;have hc:=gu (by omega) h1 h2;have:=h false;rw[hc]at this;exact this
omit [Ei] in
theorem H7 {x:Int}:∀{ps:List Pt},aM ps→F2 ps x≤ps.length∧(∀k q,k<F2 ps x→ps[k]?=some q→q.1≤x)∧(∀k q,F2 ps x≤k→ps[k]?=some q→x<q.1)
 | [],_=>⟨AWu _,fun k q hk=>by simp[F2]at hk,fun k q _ hq=>by simp at hq⟩
 | a::l,h=>by
  have hl:=AXJ.1 h;obtain⟨h1,h2,h3⟩:=H7 (x:=x) (ps:=l) hl.2;by_cases ha:a.1≤x
  ·have e:F2 (a::l) x=F2 l x+1:=by unfold F2;rw[List.countP_cons_of_pos (by simpa using ha)]
   rw[e];refine⟨by simp;exact h1,fun k q hk hq=>?_,fun k q hk hq=>?_⟩
   ·cases k with
    | zero=>simp at hq;subst hq;exact ha
    | succ k=>exact h2 k q (by omega) (by simpa using hq)
   ·cases k with
    | zero=>omega
    | succ k=>exact h3 k q (by omega) (by simpa using hq)
  ·have e:F2 (a::l) x=0:=by
    unfold F2;rw[List.countP_eq_zero];intro q hq;rcases AWo.1 hq with rfl|hq
    ·simpa using ha
    ·have:=hl.1 q hq;simp;omega
   rw[e];refine⟨AWx _,fun k q hk=>by omega,fun k q _ hq=>?_⟩;cases k with
   | zero=>simp at hq;subst hq;omega
   | succ k=>
    have:=hl.1 q (AWn (by simpa using hq));omega
omit [Ei] in
theorem vR {ps:List Pt}(hs:aM ps)(DZ Gh:Int){i m:Nat}(hi:i=min (F2 ps DZ) (F2 ps Gh))(hm:m=F2 ps Gh-i):(ps.drop i).take m=FU ps DZ Gh:=by
 obtain⟨a1,a2,a3⟩:=H7 (x:=DZ) hs;obtain⟨m1,m2,m3⟩:=H7 (x:=Gh) hs;have e:ps=ps.take i++((ps.drop i).take m++(ps.drop i).drop m):=by rw[AXr,AXr]
 have hf:FU ps DZ Gh=FU (ps.take i) DZ Gh++(FU ((ps.drop i).take m) DZ Gh++FU ((ps.drop i).drop m) DZ Gh):=by
  conv=>lhs;rw[e]
  unfold FU;rw[AYK,AYK]
 rw[hf];have f1:FU (ps.take i) DZ Gh=[]:=AZg.2 fun q hq=>by
  obtain⟨k,hk⟩:=AXN.1 hq;rw[AW4]at hk;split at hk
  ·have:=a2 k q (by omega) hk;simp;omega
  ·cases hk
 have f2:FU ((ps.drop i).take m) DZ Gh=(ps.drop i).take m:=List.filter_eq_self.2 fun q hq=>by
  obtain⟨k,hk⟩:=AXN.1 hq;rw[AW4]at hk;split at hk
  ·rename_i yn;rw[AXQ]at hk;have g1:=m2 _ q (by omega) hk;have g2:=a3 _ q (by omega) hk;simp;omega
  ·cases hk
 have f3:FU ((ps.drop i).drop m) DZ Gh=[]:=AZg.2 fun q hq=>by
  obtain⟨k,hk⟩:=AXN.1 hq;rw[AXQ,AXQ]at hk;have:=m3 _ q (by omega) hk;simp;omega
 rw[f1,f2,f3];simp
theorem Qd {p:Option Addr}{n c:Nat}{ps:List Pt}{DZ Gh:Int}(hr:Ac 2 C1 σ p n ps)(hc:n≤c)(hs:aM ps)
  (h:∀q m d,Ac 2 C1 σ q m (FU ps DZ Gh)→m≤d→R (.returned (.slice q m d)) σ):Spec prog 99 #[.slice p n c,.I DZ,.I Gh] σ R:=by
 have hl:ps.length=n:=hr.1;have c1:∀a b x σ' R',R' (.returned (.I (if a≤x then -1 else 1))) σ'→Spec prog 128 #[.agg #[.I a,.U b],.I x] σ' R':=fun a b x σ' R' hh=>MA.start fun _=>⟨fun hle=>by rw[AWl hle]at hh;exact hh,fun hle=>by rw[AWj hle]at hh;exact hh⟩;have c2:∀a b x σ' R',R' (.returned (.I (if a≤x then -1 else 1))) σ'→Spec prog 129 #[.agg #[.I a,.U b],.I x] σ' R':=fun a b x σ' R' hh=>ME.start fun _=>⟨fun hle=>by rw[AWl hle]at hh;exact hh,fun hle=>by rw[AWj hle]at hh;exact hh⟩;have ha:=(H7 (x:=DZ) hs).1;have hm:=(H7 (x:=Gh) hs).1;refine QT.start (gx (fun args w=>call128 args w) c1 hr hs fun t=>⟨_,_,rfl,gx (fun args w=>call129 args w) c2 hr hs fun t'=>⟨_,_,rfl,?_⟩⟩);have e:(if((F2 ps Gh:Nat):Int)<(F2 ps DZ:Nat) then((F2 ps Gh:Nat):Int) else(F2 ps DZ:Nat))=((min (F2 ps DZ) (F2 ps Gh):Nat):Int):=by split<;>omega
 rw[e];generalize hi:min (F2 ps DZ) (F2 ps Gh)=i;have W9:=Ac.sub (i:=i) (m:=F2 ps Gh-i) hr (by decide) (by omega) hc;rw[vR hs DZ Gh hi.symm rfl]at W9;refine⟨by omega,?_⟩;have:=h _ _ (c-i) W9 (by omega);simpa using this
end
theorem H8 {α:Type}{P:α→Bool}:∀{l:List α} {k:Nat},k≤l.length→(∀j u,j<k→l[j]?=some u→P u=true)→(∀u,l[k]?=some u→P u=false)→(l.takeWhile P).length=k
 | [],k,hk,_,_=>by simp at hk;subst hk;rfl
 | a::l,0,_,_,h2=>by simp[List.takeWhile,h2 a rfl]
 | a::l,k+1,hk,h1,h2=>by
  have ha:P a=true:=h1 0 a (by omega) rfl;simp only[List.takeWhile,ha,AWw];rw[H8 (k:=k) (by simp at hk;omega) (fun j u hj hu=>h1 (j+1) u (by omega) (by simpa using hu)) (fun u hu=>h2 u (by simpa using hu))]
def AV (s:ByteArray):Nat:=(s.data.toList.takeWhile FW).length
theorem No (s:ByteArray):AV s≤s.size:=by
 unfold AV;exact AXD (AY6 (List.takeWhile_sublist _)) (AZa (AXq (xs:=s.data)))
section
variable [Ei]{σ:Hp}{R:Rr}
omit [Ei] in
theorem yt {s:ByteArray}{h:Nat}(hh:h≤s.size):YF prog (Instr.sliceAt 9 (.string s) none (some (.I (h:Int))) none) σ (.string (s.extract 0 h)):=fun w _=>by
 rw[run_sliceAt_string (h:=underlying9)];have h1:(h:Int)≤s.size:=by omega
 simp[Instr.slice,run_underlying underlying9,Instr.sliceBounds,run_sliceBound,h1,Result.andThen]
omit [Ei] in
theorem RR {s:ByteArray}{l:Nat}(hl:l≤s.size):YF prog (Instr.sliceAt 9 (.string s) (some (.I (l:Int))) none none) σ (.string (s.extract l s.size)):=fun w _=>by
 rw[run_sliceAt_string (h:=underlying9)];have h1:(l:Int)≤s.size:=by omega
 simp[Instr.slice,run_underlying underlying9,Instr.sliceBounds,run_sliceBound,h1,Result.andThen]
omit [Ei] in
theorem byte_at {s:ByteArray}{k:Nat}(hk:k<s.size):∃u,s.data[k]?=some u∧s.data.toList[k]?=some u:=⟨s.data[k]'hk,by rw[AYQ],by rw[AXh,AYQ]⟩
theorem Kg {s:ByteArray}(hb:s.size≤4611686018427387904)(h:R (.returned (.I (AV s))) σ):Spec prog 122 #[.string s] σ R:=by
 have hlen:s.data.toList.length=s.size:=AXq (xs:=s.data);refine Gf.start ?_
 suffices H:∀g k:Nat,s.size-k=g→k≤s.size→(∀j u,j<k→s.data.toList[j]?=some u→FW u=true)→Gf.Ho R s k σ from H s.size 0 rfl (AWx _) (fun j u hj=>by omega)
 intro g
 induction g with
 | zero=>
  intro k hg hk h1;have e:AV s=k:=H8 (by omega) h1 (fun u hu=>by have:=(AWk.1 hu).1;omega);rw[e]at h;exact Gf.BJ ⟨fun Am=>by omega,fun _=>h⟩
 | succ g ih=>
  intro k hg hk h1;obtain⟨u,hu,JO⟩:=byte_at (show k<s.size by omega);have stop:FW u=false→R (.returned (.I k)) σ:=fun hd=>by
   have e:AV s=k:=H8 (by omega) h1 (fun v hv=>by rw[JO]at hv;cases hv;exact hd);rw[e]at h;exact h
  refine Gf.BJ ⟨fun _=>⟨u,by omega,by simpa using hu,Vm.start ⟨fun kD=>⟨_,rfl,fun ht=>?_,fun hf=>stop ?_⟩,fun kD=>⟨false,rfl,⟨fun ht=>(by cases ht),fun _=>stop ?_⟩⟩⟩⟩,fun hh=>by omega⟩
  ·refine⟨AN (by omega:k<s.size) hb,ih (k+1) (by omega) (by omega) fun j v hj hv=>?_⟩;by_cases il:j=k
   ·rw[il,JO]at hv;cases hv;have:=AWr ht;exact AXK (by omega)
   ·exact h1 j v (by omega) hv
  ·have:=AW2 hf;exact AXC (by omega)
  ·exact AXC (by omega)
end
abbrev M0 (n:Nd)(p:Option Addr)(k c:Nat)(q:Option Addr)(m d:Nat):Value:=.agg #[.I n.kind,.I n.op,.string n.text,.slice p k c,.I n.width,.I n.back,.I n.EH,.slice q m d,.bool n.bool,.I n.parts]
def BO (n:Nd):Nd:=
 if n.kind=1 then⟨n.kind,0,n.text,[],0,0,0,[],false,0⟩
 else if n.kind=2 then⟨n.kind,0,ByteArray.mk #[],[],0,n.back,0,[],false,0⟩
 else if n.kind=3 then⟨n.kind,0,ByteArray.mk #[],[],n.width,n.back,0,[],false,0⟩
 else if n.kind=4 then⟨n.kind,n.op,ByteArray.mk #[],[],0,0,0,[],false,n.parts⟩
 else if n.kind=5 then⟨n.kind,n.op,ByteArray.mk #[],[],0,0,n.EH,[],false,n.parts⟩
 else if n.kind=6 then⟨n.kind,n.op,ByteArray.mk #[],[],0,0,n.EH,[],n.bool,n.parts⟩
 else⟨n.kind,0,ByteArray.mk #[],[],0,0,0,[],false,n.parts⟩
theorem qY:∀w,(Go.sizeOf 2).run prog w=.ok 1 w:=fun w=>by kernel_rfl
theorem Np:∀w,(Go.sizeOf 3).run prog w=.ok 1 w:=fun w=>by kernel_rfl
theorem AJM:∀w,(Go.sizeOf 4).run prog w=.ok 1 w:=fun w=>by kernel_rfl
theorem AJN:∀w,(Go.sizeOf 9).run prog w=.ok 1 w:=fun w=>by kernel_rfl
theorem AB8:∀w,(Go.sizeOf 51).run prog w=.ok 10 w:=fun w=>by kernel_rfl
theorem aN {c:Array Value}{l:List Value}(h:l.length=c.size):Lt c 0 l=l.toArray:=by
 apply Array.ext_getElem?
 intro j;rw[Q8 l c 0 j (by omega)];split
 ·simp
 ·rename_i hj;rw[AY4 (by omega),AZB,AX6 (by omega)]
section
variable [Ei]{σ:Hp}{R:Rr}
omit [Ei] in
theorem qZ {τ:Hp}{b T:Nat}:∀{l:List Value} {c:Array Value} {o:Nat},τ b=some (.cells c T (0,0))→(∀j v,l[j]?=some v→c[o+j]?=some v)→Av τ b o l
 | [],_,_,_,_=>trivial
 | v::l,c,o,hb,h=>⟨by unfold Hp.ld;rw[hb];simpa using h 0 v rfl,qZ hb fun j u hu=>by have:=h (j+1) u (by simpa using hu);rwa[show o+(j+1)=o+1+j by omega]at this⟩
omit [Ei] in
theorem gy {τ:Hp}{b:Nat}{o:Obj}(hb:σ b=none)(h:Ext σ τ):Ext σ (τ.set b o):=fun k u hk=>by
 rw[Hp.AF (fun e=>by rw[e,hb]at hk;cases hk)];exact h k u hk
set_option maxHeartbeats 4000000 in
theorem kE {n:Nd}{p q:Option Addr}{k c m d:Nat}(h:∀σ',Ext σ σ'→R (.returned (M0 (BO n) none 0 0 none 0 0)) σ'):Spec prog 89 #[M0 n p k c q m d] σ R:=by
 refine SE.start fun _ _ b hb=>?_;have fin:∀(τ:Hp) (c:Array Value) (T:Nat),τ b=some (.cells c T (0,0))→Ext σ τ→c=#[.I (BO n).kind,.I (BO n).op,.string (BO n).text,.N,.I (BO n).width,.I (BO n).back,.I (BO n).EH,.N,.bool (BO n).bool,.I (BO n).parts]→
   ∃Wo Wp nO nP nQ nR nS nT nU nW nX nY nZ nc,Av τ b 0 [.I Wo,.I Wp,.string nO,.slice nP nQ nR,.I nS,.I nT,.I nU,.slice nW nX nY,.bool nZ,.I nc]∧R (.returned (.agg #[.I Wo,.I Wp,.string nO,.slice nP nQ nR,.I nS,.I nT,.I nU,.slice nW nX nY,.bool nZ,.I nc])) τ:=fun τ c T hτ hx hc=>
  ⟨_,_,_,_,_,_,_,_,_,_,_,_,_,_,qZ hτ fun j v hv=>by rw[hc,AXl];simpa using hv,h τ hx⟩
 have st:∀{τ:Hp} {c:Array Value} {T U o:Nat} {v:Value} {Φ:Unit→Hp→Prop},(∀w,(Go.sizeOf U).run prog w=.ok 1 w)→τ b=some (.cells c T (0,0))→Ext σ τ→o+1≤c.size→v.cells=#[v]→v.oneCell'=true→
   (∀(τ':Hp) (c':Array Value),c'=Lt c o [v]→c'.size=c.size→τ' b=some (.cells c' T (0,0))→Ext σ τ'→Φ () τ')→AH prog (Instr.storeAt U (.pointer (aD b o)) v) τ Φ:=fun {τ c T U o v Φ} hz hτ hx ho h1 h2 hk=>by
  refine AH.store hz hτ (by rw[h1];rfl) (by simpa using ho) (fun u hu=>by rw[h1]at hu;simp at hu;rw[hu];exact h2) ?_;rw[h1];exact hk _ _ rfl (Hf _ _ _) (Hp.AA _ _ _) (gy hb hx)
 have st0:∀{Φ:Unit→Hp→Prop},(∀(τ:Hp) (c:Array Value),c=#[.I n.kind,.I 0,(.string (ByteArray.mk #[])),.N,.I 0,.I 0,.I 0,.N,.bool false,.I 0]→c.size=10→τ b=some (.cells c 51 (0,0))→Ext σ τ→Φ () τ)→
   AH prog (Instr.storeAt 51 (.pointer (aD b 0)) (.agg #[.I n.kind,.I 0,(.string (ByteArray.mk #[])),.N,.I 0,.I 0,.I 0,.N,.bool false,.I 0])) (Hp.set σ b (.cells #[.I 0,.I 0,(.string (ByteArray.mk #[])),.N,.I 0,.I 0,.I 0,.N,.bool false,.I 0] 51 (0,0))) Φ:=fun {Φ} hk=>by
  refine AH.store AB8 (Hp.AA _ _ _) rfl (by simp) (by simp[Value.cells,Value.oneCell']) ?_;exact hk _ _ (aN rfl) (by rw[Hf];rfl) (Hp.AA _ _ _) (gy hb (Ext.set hb))
 refine st0 fun τ c0 e0 z0 g0 x0=>?_;refine⟨fun h1=>?_,fun h1=>⟨fun h2=>?_,fun h2=>⟨fun h3=>?_,fun h3=>⟨fun h4=>?_,fun h4=>⟨fun h5=>?_,fun h5=>⟨fun h6=>?_,fun h6=>?_⟩⟩⟩⟩⟩⟩
 ·refine st AJN g0 x0 (by omega) rfl rfl fun τ1 c1 e1 z1 g1 x1=>fin τ1 c1 _ g1 x1 ?_;subst e0 e1;unfold BO;simp only[h1,AYY];rfl
 ·refine st qY g0 x0 (by omega) rfl rfl fun τ1 c1 e1 z1 g1 x1=>fin τ1 c1 _ g1 x1 ?_;subst e0 e1;unfold BO;simp only[h2,AYY];rfl
 ·refine st qY g0 x0 (by omega) rfl rfl fun τ1 c1 e1 z1 g1 x1=>?_;refine st qY g1 x1 (by omega) rfl rfl fun τ2 c2 e2 z2 g2 x2=>fin τ2 c2 _ g2 x2 ?_;subst e0 e1 e2;unfold BO;simp only[h3,AYY];rfl
 ·refine st Np g0 x0 (by omega) rfl rfl fun τ1 c1 e1 z1 g1 x1=>?_;refine st Np g1 x1 (by omega) rfl rfl fun τ2 c2 e2 z2 g2 x2=>fin τ2 c2 _ g2 x2 ?_;subst e0 e1 e2;unfold BO;simp only[h4,AYY];rfl
 ·refine st Np g0 x0 (by omega) rfl rfl fun τ1 c1 e1 z1 g1 x1=>?_;refine st Np g1 x1 (by omega) rfl rfl fun τ2 c2 e2 z2 g2 x2=>?_;refine st Np g2 x2 (by omega) rfl rfl fun τ3 c3 e3 z3 g3 x3=>fin τ3 c3 _ g3 x3 ?_;subst e0 e1 e2 e3;unfold BO;simp only[h5,AYY];rfl
 ·refine st Np g0 x0 (by omega) rfl rfl fun τ1 c1 e1 z1 g1 x1=>?_;refine st Np g1 x1 (by omega) rfl rfl fun τ2 c2 e2 z2 g2 x2=>?_;refine st AJM g2 x2 (by omega) rfl rfl fun τ3 c3 e3 z3 g3 x3=>?_;refine st Np g3 x3 (by omega) rfl rfl fun τ4 c4 e4 z4 g4 x4=>fin τ4 c4 _ g4 x4 ?_;subst e0 e1 e2 e3 e4;unfold BO;simp only[h6,AYY];rfl
 ·refine st Np g0 x0 (by omega) rfl rfl fun τ1 c1 e1 z1 g1 x1=>fin τ1 c1 _ g1 x1 ?_;subst e0 e1;unfold BO;simp only[h1,h2,h3,h4,h5,h6,AX9];rfl
end
section
variable {σ:Hp}{R:Rr}
theorem Cq {k:Int}(h:R (.returned (.bool (FV k))) σ):Spec prog 93 #[.I k] σ R:=by
 refine KF.start ⟨fun h1=>?_,fun h1=>?_⟩
 ·rw[show FV k=decide (k≤10) by unfold FV;rw[AXK h1];rfl]at h;exact h
 ·rw[show FV k=false by unfold FV;rw[AXC h1];rfl]at h;exact h
theorem Qe {k:Int}(h:R (.returned (.bool (decide (11≤k∧k≤13)))) σ):Spec prog 97 #[.I k] σ R:=by
 refine Td.start ⟨fun h1=>?_,fun h1=>?_⟩
 ·rw[show decide (11≤k∧k≤13)=decide (k≤13) from AX0.2 ⟨fun h=>h.2,fun h=>⟨h1,h⟩⟩]at h;exact h
 ·rw[show decide (11≤k∧k≤13)=false from AXC (fun hh=>h1 hh.1)]at h;exact h
theorem Pr {v l:Int}(h:R (.returned (.bool (MM v l))) σ):Spec prog 92 #[.I v,.I l] σ R:=by
 refine Tc.start ⟨fun h1=>?_,fun h1=>?_⟩
 ·rw[show MM v l=decide (v<2147483648) by unfold MM;rw[AXK h1];rfl]at h;exact h
 ·rw[show MM v l=false by unfold MM;rw[AXC h1];rfl]at h;exact h
theorem V5 {k:Int}(h:R (.returned (.bool (decide (1≤k∧k≤4)))) σ):Spec prog 94 #[.I k] σ R:=by
 refine SI.start ⟨fun h1=>?_,fun h1=>?_⟩
 ·rw[show decide (1≤k∧k≤4)=decide (k≤4) from AX0.2 ⟨fun h=>h.2,fun h=>⟨h1,h⟩⟩]at h;exact h
 ·rw[show decide (1≤k∧k≤4)=false from AXC (fun hh=>h1 hh.1)]at h;exact h
theorem V6 {s:ByteArray}(h:R (.returned (.bool (FT s))) σ):Spec prog 95 #[.string s] σ R:=by
 refine SN.start (KV ?_);exact⟨_,rfl,h⟩
theorem Ni.at {p:Option Addr}{n i:Nat}{ms:List Mt}{x:Mt}(hr:Ac 3 Ni σ p n ms)(hx:ms[i]?=some x):∃b o,p=some ⟨b,o,none⟩∧Av σ b (o+i*3) [.I x.kind,.string x.name,.string x.val]:=by
 obtain⟨b,o,vs,hp,rfl,hl⟩:=Ac.idx hr hx;exact⟨b,o,hp,hl⟩
def eO (m:Mt):Bool:=decide (1≤m.kind∧m.kind≤4)&&FT m.name&&decide (m.val.size≤256)
theorem aO {p:Option Addr}{n c:Nat}{ms:List Mt}(hr:Ac 3 Ni σ p n ms)(h:R (.returned (.I (MN FT ms))) σ):Spec prog 69 #[.slice p n c] σ R:=by
 have hl:ms.length=n:=hr.1;refine FO.start ⟨fun h8=>?_,fun h8=>?_⟩
 ·rw[show MN FT ms=41 by unfold MN;rw[AWl (by omega)]]at h;exact h
 have hm:MN FT ms=if ms.all eO then 0 else 40:=by unfold MN;rw[AWj (by omega)];rfl
 rw[hm]at h
 suffices H:∀g k:Nat,n-k=g→k≤n→ms.all eO=(ms.drop k).all eO→FO.SR R p n c n k σ from H n 0 rfl (AWx _) rfl
 intro g
 induction g with
 | zero=>
  intro k hg hk he;rw[AXH (by omega)]at he;rw[he]at h;exact FO.NR ⟨fun Am=>by omega,fun _=>h⟩
 | succ g ih=>
  intro k hg hk he;have Ew:k<n:=by omega
  obtain⟨x,hx⟩:=hr.ex Ew;obtain⟨b,o,rfl,Ee⟩:=Ni.at hr hx;rw[BH hx,AZS]at he;have bad:eO x=false→R (.returned (.I 40)) σ:=fun hf=>by
   rw[hf]at he;rw[he]at h;exact h
  refine FO.NR ⟨fun _=>⟨b,o,rfl,by omega,x.kind,x.name,x.val,by simpa using Ee,fun _=>V5 ⟨_,rfl,fun hf=>bad ?_,fun ht=>V6 ⟨_,rfl,fun hf=>bad ?_,fun hn=>⟨fun hv=>bad ?_,fun hv=>⟨AN Ew hr.big,ih (k+1) (by omega) (by omega) ?_⟩⟩⟩⟩⟩,fun hh=>by omega⟩
  ·unfold eO;rw[hf];rfl
  ·unfold eO;rw[hf];simp
  ·unfold eO;rw[show decide (x.val.size≤256)=false from AXC (by omega)];simp
  ·rw[he,show eO x=true by unfold eO;rw[ht,hn,show decide (x.val.size≤256)=true from AXK (by omega)];rfl,AZV]
end
section
variable {σ:Hp}{R:Rr}
theorem eP {n:Nd}{p q:Option Addr}{k c m d:Nat}(hr:Gq 1 σ q m (n.names.map .string))(h:R (.returned (.bool (Po FT n))) σ):Spec prog 90 #[M0 n p k c q m d] σ R:=by
 have hl:n.names.length=m:=by have:=hr.1;simpa using this
 refine FM.start fun _=>?_
 suffices H:∀g i:Nat,m-i=g→i≤m→n.names.all FT=(n.names.drop i).all FT→FM.II R n.kind n.op n.text p k c n.width n.back n.EH q m d n.bool n.parts q m d m i σ from H m 0 rfl (AWx _) rfl
 have Tj:m≤4611686018427387904:=hr.2.1;intro g
 induction g with
 | zero=>
  intro i hg hi he;rw[AXH (by omega)]at he;have e:Po FT n=(decide (m=0)||decide (n.EH≠0)):=by unfold Po;rw[he,hl];rfl
  rw[e]at h;refine FM.A8 ⟨fun Am=>by omega,fun _=>⟨fun h0=>?_,fun h0=>?_⟩⟩
  ·rw[AXK (show m=0 by omega)]at h;exact h
  ·rw[AXC (show ¬m=0 by omega)]at h;exact h
 | succ g ih=>
  intro i hg hi he;have Bj:i<m:=by omega
  obtain⟨x,hx⟩:∃x,n.names[i]?=some x:=⟨_,AWm (by omega)⟩;obtain⟨b,o,rfl,Ee⟩:=Gq.at1 hr (k:=i) (v:=.string x) (by rw[AXM,hx];rfl);rw[BH hx,AZS]at he;refine FM.A8 ⟨fun _=>⟨b,o,rfl,by omega,x,by simpa using Ee,V6 ⟨_,rfl,fun hf=>?_,fun ht=>⟨AN Bj Tj,ih (i+1) (by omega) (by omega) ?_⟩⟩⟩,fun hh=>by omega⟩
  ·have e:Po FT n=false:=by unfold Po;rw[he,hf];rfl
   rw[e]at h;exact h
  ·rw[he,ht,AZV]
theorem qa {a b:ByteArray}:(ByteArray.toList a==ByteArray.toList b)=decide (a.data.toList=b.data.toList):=by
 rw[ByteArray.toList_eq,ByteArray.toList_eq];by_cases h:a.data.toList=b.data.toList
 ·simp[h]
 ·rw[AXC h];exact AYn.2 h
theorem AJO {a b:ByteArray}:(ByteArray.toList a==ByteArray.toList b)=decide (a=b):=by
 rw[qa];exact AX0.2 ⟨fun h=>AZT (AW5.1 h),fun h=>by rw[h]⟩
def Fp (a b:Nd):Bool:=decide (a.kind=b.kind∧a.op=b.op∧a.text=b.text∧a.width=b.width∧a.back=b.back∧a.EH=b.EH∧a.bool=b.bool∧a.parts=b.parts)
theorem eQ {a b:Nd}{p p' q q':Option Addr}{k c k' c' m d m' d':Nat}(h:R (.returned (.bool (Fp a b))) σ):Spec prog 88 #[M0 a p k c q m d,M0 b p' k' c' q' m' d'] σ R:=by
 have no:¬(a.kind=b.kind∧a.op=b.op∧a.text=b.text∧a.width=b.width∧a.back=b.back∧a.EH=b.EH∧a.bool=b.bool∧a.parts=b.parts)→R (.B false) σ:=fun hn=>by
  rw[show Fp a b=false from AXC hn]at h;exact h
 have last:a.kind=b.kind∧a.op=b.op∧a.text=b.text∧a.width=b.width∧a.back=b.back∧a.EH=b.EH∧a.bool=b.bool→R (.returned (.bool (decide (a.parts=b.parts)))) σ:=fun hh=>by
  rw[show Fp a b=decide (a.parts=b.parts) from AX0.2 ⟨fun g=>g.2.2.2.2.2.2.2,fun g=>⟨hh.1,hh.2.1,hh.2.2.1,hh.2.2.2.1,hh.2.2.2.2.1,hh.2.2.2.2.2.1,hh.2.2.2.2.2.2,g⟩⟩]at h;exact h
 refine QR.start fun _ _=>⟨fun h1=>⟨fun h2=>⟨fun h3=>?_,fun h3=>no ?_⟩,fun h2=>no fun g=>h2 g.2.1⟩,fun h1=>no fun g=>h1 g.1⟩
 ·rw[AJO]at h3;have h3:=AWr h3;refine⟨fun h4=>⟨fun h5=>⟨fun h6=>⟨fun t1=>⟨fun t2=>last ⟨h1,h2,h3,h4,h5,h6,t1.trans t2.symm⟩,fun t2=>no fun g=>?_⟩,fun t1=>⟨fun t2=>no fun g=>?_,fun t2=>last ⟨h1,h2,h3,h4,h5,h6,t1.trans t2.symm⟩⟩⟩,fun h6=>no fun g=>h6 g.2.2.2.2.2.1⟩,fun h5=>no fun g=>h5 g.2.2.2.2.1⟩,fun h4=>no fun g=>h4 g.2.2.2.1⟩
  ·have:=g.2.2.2.2.2.2.1;rw[t1,t2]at this;cases this
  ·have:=g.2.2.2.2.2.2.1;rw[t1,t2]at this;cases this
 ·rw[AJO]at h3;exact fun g=>AW2 h3 g.2.2.1
end
def F3 (s:ByteArray):Bool:=
 if AV s=0 then false else if 1<AV s∧s.data[0]?=some 48 then false else if AV s=s.size then decide (AV s≤15)
 else decide (s.data[AV s]?=some 46∧0<AV (s.extract (AV s+1) s.size)∧AV s+1+AV (s.extract (AV s+1) s.size)=s.size∧AV s+AV (s.extract (AV s+1) s.size)≤15)
theorem Iy {u:UInt8}{k:Nat}(hk:k<256):((u.toNat:Nat):Int)=k↔u=UInt8.ofNat k:=by
 constructor
 ·intro h;apply AZd.1
  rw[AZQ];omega
 ·rintro rfl
  rw[AZQ];omega
section
variable {σ:Hp}{R:Rr}
theorem Ty {s:ByteArray}(hb:s.size≤4611686018427387904)(h:R (.returned (.bool (F3 s))) σ):Spec prog 91 #[.string s] σ R:=by
 have hle:=No s;refine R8.start (Kg hb ⟨_,rfl,fun h0=>?_,fun h0=>⟨_,yt hle,?_⟩⟩)
 ·rw[show F3 s=false by unfold F3;rw[AWl (by omega)]]at h;exact h
 have Qo:(s.extract 0 (AV s)).size=AV s:=by rw[AX2];omega
 have tail:¬(1<AV s∧s.data[0]?=some 48)→Br ((AV s:Int)=(s.size:Int)) (R (.returned (.bool (decide ((AV s:Int)≤15)))) σ) (AM ((AV s:Int)+1)∧∃s24,YF prog (Instr.sliceAt 9 (.string s) (some (.I ((AV s:Int)+1))) none none) σ (.string s24)∧Spec prog 122 #[.string s24] σ (Ap R (CI .i64 fun Ky AJ=>∃u28:UInt8,0≤(AV s:Int)∧(ByteArray.data s)[Int.toNat (AV s:Int)]?=some u28∧Br (((u28.toNat:Int):Int)=46) (Br (0<Ky) (AM ((AV s:Int)+1)∧AM (((AV s:Int)+1)+Ky)∧Br (((((AV s:Int)+1)+Ky):Int)=(s.size:Int)) (AM ((AV s:Int)+Ky)∧R (.returned (.bool (decide ((((AV s:Int)+Ky):Int)≤15)))) AJ) (R (.B false) AJ)) (R (.B false) AJ)) (R (.B false) AJ)))):=fun hn=>by
  refine⟨fun he=>?_,fun he=>⟨by unfold AM;omega,s.extract (AV s+1) s.size,RR (l:=AV s+1) (by omega),?_⟩⟩
  ·rw[show F3 s=decide ((AV s:Int)≤15) by unfold F3;rw[AWj (by omega),AWj hn,AWl (by omega)];exact AX0.2 (by omega)]at h;exact h
  have AOP:(s.extract (AV s+1) s.size).size=s.size-(AV s+1):=by rw[AX2];omega
  have hm:=No (s.extract (AV s+1) s.size);refine Kg (by omega) ?_;obtain⟨u,hu,_⟩:=byte_at (show AV s<s.size by omega);have hO:F3 s=decide (s.data[AV s]?=some 46∧0<AV (s.extract (AV s+1) s.size)∧AV s+1+AV (s.extract (AV s+1) s.size)=s.size∧AV s+AV (s.extract (AV s+1) s.size)≤15):=by unfold F3;rw[AWj (by omega),AWj hn,AWj (by omega)]
  rw[hO,hu]at h;generalize AV (s.extract (AV s+1) s.size)=m at *;have b46:=Iy (u:=u) (k:=46) (by decide);have no:¬(u=46∧0<m∧AV s+1+m=s.size∧AV s+m≤15)→R (.B false) σ:=fun hh=>by
   rw[AXC (by rw[AWp];exact hh)]at h;exact h
  refine⟨_,rfl,u,by omega,by simpa using hu,fun aP=>⟨fun h0m=>⟨by unfold AM;omega,by unfold AM;omega,fun hs=>⟨by unfold AM;omega,?_⟩,fun hs=>no fun g=>hs (by omega)⟩,fun h0m=>no fun g=>h0m (by omega)⟩,fun aP=>no fun g=>aP (b46.2 g.1)⟩;rw[show decide (some u=some 46∧0<m∧AV s+1+m=s.size∧AV s+m≤15)=decide (((AV s:Int)+m)≤15) from AX0.2 ⟨fun g=>by omega,fun g=>⟨by rw[b46.1 aP];rfl,by omega,by omega,by omega⟩⟩]at h;exact h
 refine NG.start ⟨fun h1=>?_,fun h1=>⟨false,rfl,fun ht=>(by cases ht),fun _=>tail (by omega)⟩⟩;obtain⟨u,hu,_⟩:=byte_at (show 0<s.size by omega);have Qu:=Iy (u:=u) (k:=48) (by decide);have JO:(s.extract 0 (AV s)).data[0]?=some u:=by
  rw[AZh,AZi];rw[AWl (by have:s.data.size=s.size:=rfl;omega)];simpa using hu
 refine⟨u,by omega,by simpa using JO,_,rfl,fun ht=>?_,fun hf=>tail ?_⟩
 ·have:=Qu.1 (AWr ht);rw[show F3 s=false by unfold F3;rw[AWj (by omega),AWl ⟨by omega,by rw[hu,this];rfl⟩]]at h;exact h
 ·rintro⟨_,g⟩
  rw[hu,AWp]at g;exact AW2 hf (Qu.2 g)
end
def FY (n:Nd):Bool:=
 if n.kind=1 then F3 n.text else if n.kind=2 then MM n.back 0 else if n.kind=3 then MM n.width 1&&MM n.back 0
 else if n.kind=4 then decide (n.parts=1∧1≤n.op∧n.op≤12)
 else if n.kind=5 then decide (n.parts=1∧1≤n.op∧n.op≤5∧(n.EH=0∨n.EH=1∨n.EH=2))
 else if n.kind=6 then decide (n.parts=2∧1≤n.op∧n.op≤13∧(n.EH=0∨n.EH=3∨n.EH=4))&&(!n.bool||FV n.op)
 else decide (n.kind=7∧n.parts=1)
def FZ (n:Nd):Bool:=Fp n (BO n)&&Po FT n&&!(decide (0<n.mt.length)&&decide (n.kind≠2)&&decide (n.kind≠3))&&FY n
section
variable {σ:Hp}{R:Rr}
theorem kF {n:Nd}{p q:Option Addr}{k c m d:Nat}(hk:n.mt.length=k)(hr:Gq 1 σ q m (n.names.map .string))(hb:n.text.size≤4611686018427387904)(h:∀σ',Ext σ σ'→R (.returned (.bool (FZ n))) σ'):Spec prog 68 #[M0 n p k c q m d] σ R:=by
 refine Te.start fun _=>kE fun σ1 hx=>⟨_,_,_,_,_,_,_,_,_,_,_,_,_,_,rfl,eQ ⟨_,rfl,fun hf=>?_,fun ht=>eP (hr.mono hx) ⟨_,rfl,fun hf=>?_,fun hn=>?_⟩⟩⟩
 ·have:=h σ1 hx;rw[show FZ n=false by unfold FZ;rw[hf];rfl]at this;exact this
 ·have:=h σ1 hx;rw[show FZ n=false by unfold FZ;rw[ht,hf];rfl]at this;exact this
 have hh:=h σ1 hx;have e:FZ n=(!(decide (0<n.mt.length)&&decide (n.kind≠2)&&decide (n.kind≠3))&&FY n):=by unfold FZ;rw[ht,hn];rfl
 rw[e]at hh;clear e h;have fin:¬(0<n.mt.length∧n.kind≠2∧n.kind≠3)→∀t,FY n=t→R (.B t) σ1:=fun DS t ht=>by
  have e2:(!(decide (0<n.mt.length)&&decide (n.kind≠2)&&decide (n.kind≠3)))=true:=by
   rw[Bool.not_eq_true',Bool.eq_false_iff];intro hc;simp only[AWv,AW6]at hc;exact DS ⟨hc.1.1,hc.1.2,hc.2⟩
  rw[e2,AZV,ht]at hh;exact hh
 refine⟨fun hm=>⟨fun h2=>⟨fun h3=>?_,fun h3=>?_⟩,fun h2=>?_⟩,fun hm=>?_⟩
 ·rw[show(!(decide (0<n.mt.length)&&decide (n.kind≠2)&&decide (n.kind≠3)))=false by rw[AXK (show 0<n.mt.length by omega),AXK h2,AXK h3];rfl,Bool.false_and]at hh;exact hh
 all_goals
  have fin:=fin (by omega);clear hh ht hn;refine⟨fun k1=>Ty hb ⟨_,rfl,?_⟩,fun k1=>⟨fun k2=>Pr ⟨_,rfl,?_⟩,fun k2=>⟨fun k3=>Pr ⟨_,rfl,fun ht=>Pr ⟨_,rfl,?_⟩,fun hf=>?_⟩,fun k3=>⟨fun k4=>⟨fun hp=>⟨fun ho=>?_,fun ho=>?_⟩,fun hp=>?_⟩,fun k4=>⟨fun k5=>⟨fun hp=>⟨fun ho=>⟨fun Bp=>⟨fun g0=>?_,fun g0=>⟨fun g1=>?_,fun g1=>?_⟩⟩,fun Bp=>?_⟩,fun ho=>?_⟩,fun hp=>?_⟩,fun k5=>⟨fun k6=>⟨fun hp=>⟨fun ho=>⟨fun Bp=>⟨fun g0=>⟨fun bf=>?_,fun bt=>Cq ⟨_,rfl,?_⟩⟩,fun g0=>⟨fun g3=>⟨fun bf=>?_,fun bt=>Cq ⟨_,rfl,?_⟩⟩,fun g3=>⟨fun g4=>⟨fun bf=>?_,fun bt=>Cq ⟨_,rfl,?_⟩⟩,fun g4=>?_⟩⟩⟩,fun Bp=>?_⟩,fun ho=>?_⟩,fun hp=>?_⟩,fun k6=>⟨fun k7=>?_,fun k7=>?_⟩⟩⟩⟩⟩⟩⟩<;>(refine fin _ ?_;clear fin;unfold FY;simp[*])
end
section
variable {σ:Hp}{R:Rr}
abbrev tyV (x:Int×Int):Value:=.tuple #[.I x.1,.I x.2]
def aQ (n:Nd)(a:Int):Int×Int:=if a=(if n.op=11∨n.op=12 then 2 else 3) then(2,0) else(0,191)
def hY (a:Int):Int×Int:=if a=2 then(2,0) else(0,191)
def qb (a:Int):Int×Int:=if a=3 then(0,191) else(a,0)
theorem eR {w:Option Addr}{n:Nd}{p q r:Option Addr}{k c m d s t:Nat}{l:List Int}{a:Int}(hr:Ev .i64 σ r s l)(ha:l[0]?=some a)(h:R (.returned (tyV (aQ n a))) σ):Spec prog 71 #[.pointer w,M0 n p k c q m d,.slice r s t] σ R:=by
 have hs:l.length=s:=hr.1;have h0:=(AWk.1 ha).1;obtain⟨b,o,rfl,Ee⟩:=Ev.at hr ha;have go:∀z:Int,(if n.op=11∨n.op=12 then 2 else 3)=z→Bh.Eu R (some ⟨b,o,none⟩) s t z σ:=fun z hz=>by
  unfold aQ at h;rw[hz]at h;refine Bh.FE ⟨b,o,rfl,by omega,a,by simpa using Ee,fun Ay=>?_,fun heq=>?_⟩
  ·rw[AWj Ay]at h;exact h
  ·rw[AWl (AW7.1 heq)]at h;exact h
 exact Bh.start fun _=>⟨fun h1=>go 2 (AWl (.inl h1)),fun h1=>⟨fun h2=>go 2 (AWl (.inr h2)),fun h2=>go 3 (AWj (by omega))⟩⟩
theorem kG {w:Option Addr}{n:Nd}{p q r:Option Addr}{k c m d s t:Nat}{l:List Int}{a:Int}(hr:Ev .i64 σ r s l)(ha:l[0]?=some a)(h:R (.returned (tyV (hY a))) σ):Spec prog 72 #[.pointer w,M0 n p k c q m d,.slice r s t] σ R:=by
 have hs:l.length=s:=hr.1;have h0:=(AWk.1 ha).1;obtain⟨b,o,rfl,Ee⟩:=Ev.at hr ha;unfold hY at h;refine EU.start fun _=>⟨b,o,rfl,by omega,a,by simpa using Ee,fun Ay=>?_,fun heq=>?_⟩
 ·rw[AWj Ay]at h;exact h
 ·rw[AWl (AW7.1 heq)]at h;exact h
theorem kH {w:Option Addr}{n:Nd}{p q r:Option Addr}{k c m d s t:Nat}{l:List Int}{a:Int}(hr:Ev .i64 σ r s l)(ha:l[0]?=some a)(h:R (.returned (tyV (qb a))) σ):Spec prog 74 #[.pointer w,M0 n p k c q m d,.slice r s t] σ R:=by
 have hs:l.length=s:=hr.1;have h0:=(AWk.1 ha).1;obtain⟨b,o,rfl,Ee⟩:=Ev.at hr ha;unfold qb at h;refine ER.start fun _=>⟨b,o,rfl,by omega,a,by simpa using Ee,fun heq=>?_,fun Ay=>⟨by omega,a,by simpa using Ee,?_⟩⟩
 ·rw[AWl heq]at h;exact h
 ·rw[AWj Ay]at h;exact h
end
section
variable {σ:Hp}{R:Rr}
def kI (n:Nd)(a b:Int):Int×Int:=if a=3∨b=3∨((11≤n.op∧n.op≤13∨n.EH≠0)∧¬(a=2∧b=2))∨(a=1∧b=1∧FV n.op=true∧n.bool=false) then(0,192) else(if a<b then b else a,0)
theorem kJ {w:Option Addr}{n:Nd}{p q r:Option Addr}{k c m d s t:Nat}{l:List Int}{a b:Int}(hr:Ev .i64 σ r s l)(ha:l[0]?=some a)(hb:l[1]?=some b)(h:R (.returned (tyV (kI n a b))) σ):Spec prog 73 #[.pointer w,M0 n p k c q m d,.slice r s t] σ R:=by
 have hs:l.length=s:=hr.1;have h1:=(AWk.1 hb).1;obtain⟨b1,o,rfl,Ee⟩:=Ev.at hr ha;obtain⟨_,_,he,AOQ⟩:=Ev.at hr hb;cases he;have bad:a=3∨b=3∨((11≤n.op∧n.op≤13∨n.EH≠0)∧¬(a=2∧b=2))∨(a=1∧b=1∧FV n.op=true∧n.bool=false)→R (.T #[.I 0,.I 192]) σ:=fun hh=>by
  unfold kI at h;rw[AWl hh]at h;exact h
 have good:¬(a=3∨b=3∨((11≤n.op∧n.op≤13∨n.EH≠0)∧¬(a=2∧b=2))∨(a=1∧b=1∧FV n.op=true∧n.bool=false))→R (.T #[.I (if a<b then b else a),.I 0]) σ:=fun hh=>by
  unfold kI at h;rw[AWj hh]at h;exact h
 clear h;refine EV.start fun _=>⟨b1,o,rfl,by omega,a,by simpa using Ee,by omega,b,by simpa using AOQ,?_⟩
 repeat' first
  | (apply Qe;refine Exists.intro _ (And.intro rfl ?_))
  | (apply Cq;refine Exists.intro _ (And.intro rfl ?_))
  | (apply And.intro<;>intro _)
 all_goals first
  | (refine bad ?_;simp_all;done)
  | (refine good ?_;simp_all;done)
  | (refine bad ?_;simp_all;omega)
  | (refine good ?_;simp_all;omega)
end
theorem BX.en:Enters prog 34:=fun args w=>call34 args w
theorem ER.en:Enters prog 74:=fun args w=>call74 args w
theorem AT.en:Enters prog 77:=fun args w=>call77 args w
theorem NJ.en:Enters prog 102:=fun args w=>call102 args w
theorem DV.en:Enters prog 111:=fun args w=>call111 args w
theorem DF.en:Enters prog 137:=fun args w=>call137 args w
theorem FD.en:Enters prog 173:=fun args w=>call173 args w
theorem Ah.en:Enters prog 76:=fun args w=>call76 args w
theorem AS.en:Enters prog 79:=fun args w=>call79 args w
theorem BG.en:Enters prog 81:=fun args w=>call81 args w
theorem Gc.en:Enters prog 110:=fun args w=>call110 args w
theorem Fz.en:Enters prog 150:=fun args w=>call150 args w
theorem IW.en:Enters prog 175:=fun args w=>call175 args w
theorem BY.en:Enters prog 295:=fun args w=>call295 args w
theorem DG.en:Enters prog 116:=fun args w=>call116 args w
theorem Dh.en:Enters prog 167:=fun args w=>call167 args w
theorem Cb.en:Enters prog 292:=fun args w=>call292 args w
theorem EU.en:Enters prog 72:=fun args w=>call72 args w
theorem EV.en:Enters prog 73:=fun args w=>call73 args w
theorem C9.en:Enters prog 80:=fun args w=>call80 args w
theorem BU.en:Enters prog 139:=fun args w=>call139 args w
theorem DH.en:Enters prog 143:=fun args w=>call143 args w
theorem Di.en:Enters prog 168:=fun args w=>call168 args w
theorem AW.en:Enters prog 78:=fun args w=>call78 args w
theorem DJ.en:Enters prog 96:=fun args w=>call96 args w
theorem FP.en:Enters prog 109:=fun args w=>call109 args w
theorem EW.en:Enters prog 112:=fun args w=>call112 args w
theorem Gd.en:Enters prog 113:=fun args w=>call113 args w
theorem EY.en:Enters prog 165:=fun args w=>call165 args w
theorem CF.en:Enters prog 293:=fun args w=>call293 args w
theorem BA.en:Enters prog 294:=fun args w=>call294 args w
theorem Bt.en:Enters prog 75:=fun args w=>call75 args w
theorem Im.en:Enters prog 103:=fun args w=>call103 args w
theorem DK.en:Enters prog 141:=fun args w=>call141 args w
theorem Eb.en:Enters prog 166:=fun args w=>call166 args w
theorem AK.en:Enters prog 45:=fun args w=>call45 args w
theorem Bh.en:Enters prog 71:=fun args w=>call71 args w
theorem DL.en:Enters prog 117:=fun args w=>call117 args w
theorem DM.en:Enters prog 145:=fun args w=>call145 args w
theorem BQ.en:Enters prog 296:=fun args w=>call296 args w
instance:qB prog 57 9 3:=⟨underlying57,underlying9⟩
instance:qE.tE prog 147 3 145:=⟨underlying147,underlying3⟩
instance:qE.tE prog 170 3 169:=⟨underlying170,underlying3⟩
instance:qB prog 176 9 179:=⟨underlying176,underlying9⟩
instance:qE.tE prog 181 3 180:=⟨underlying181,underlying3⟩
instance:qB prog 222 9 64:=⟨underlying222,underlying9⟩
end TwW
end
section
namespace TwW
open Go Go.MapKept Tw Go.RowKit Go.Proofs.Tryz
section
variable {P:Program}{σ σ':Hp}{R:Rr}
def eT (x:Int×Value)(n:Nat):MapEntry:={ key:=.I x.1,val:=x.2,born:=n }
def MI (σ:Hp)(m:Nat)(l:List (Int×Value)):Prop:=∃(bs:List Nat) (clock:Nat),bs.length=l.length∧qE.BV σ m (List.zipWith eT l bs) clock
theorem MI.loc {m:Nat}{l:List (Int×Value)}(h:MI σ m l)(hx:σ' m=σ m):MI σ' m l:=let ⟨bs,c,h1,h2⟩:=h;⟨bs,c,h1,h2.loc hx⟩
theorem MI.known {m:Nat}{l:List (Int×Value)}(h:MI σ m l):σ m≠none:=let ⟨bs,c,h1,h2⟩:=h;by rw[h2.1];simp
theorem MI.fresh {m:Nat}:MI (σ.set m (.map #[] 0)) m []:=⟨[],0,rfl,qE.BV.fresh⟩
theorem MI.put {T K V:TypeId}[qE.tE P T K V]{m:Nat}{l:List (Int×Value)}{x:Int}{v:Value}{Φ:Unit→Hp→Prop}(h:MI σ m l)(hn:∀a∈l,a.1≠x)
  (hΦ:∀o,MI (σ.set m o) m (l++[(x,v)])→Φ () (σ.set m o)):AH P (Instr.mapUpdate T (.map (some m)) (.I x) v) σ Φ:=by
 obtain⟨bs,clock,hb,hm⟩:=h;refine qE.HQ hm (fun DS σ' hσ yu=>?_) fun l1 e l2 hl he σ' hσ yu=>?_
 ·subst hσ;refine hΦ _ ⟨bs++[clock],clock+1,by simp[hb],?_⟩;rw[List.zipWith_append hb.symm];exact yu
 ·have qc:e∈List.zipWith eT l bs:=by rw[hl];simp
  obtain⟨i,hi⟩:=AXN.1 qc;rw[AZC]at hi;cases qd:l[i]? with
  | none=>rw[qd]at hi;cases hi
  | some a=>
   cases hbi:bs[i]? with
   | none=>rw[qd,hbi]at hi;cases hi
   | some b=>
    rw[qd,hbi]at hi;simp only[AWp]at hi;subst hi;have:=hn a (AWn qd);simp only[eT,Value.int.injEq,true_and]at he;exact absurd he this
theorem MI.look {T K V:TypeId}[qE.tE P T K V]{m:Nat}{l:List (Int×Value)}{x:Int}{z:Value}{Φ:Value→Hp→Prop}(h:MI σ m l)(hz:∀w,(zeroValue V).run P w=.ok z w)
  (h0:(∀a∈l,a.1≠x)→Φ z σ) (h1:∀v,(x,v)∈l→Φ v σ):AH P (Instr.lookup T (.map (some m)) (.I x) false) σ Φ:=by
 obtain⟨bs,clock,hb,hm⟩:=h;refine qE.Mg hm hz (fun DS=>h0 fun a ha hax=>?_) fun l1 e l2 hl he=>?_
 ·obtain⟨i,hi⟩:=AXN.1 ha;have Am:=(AWk.1 hi).1;have hm:eT a (bs[i]'(by omega))∈List.zipWith eT l bs:=AXN.2 ⟨i,by rw[AZC,hi,AWm (by omega)]⟩;exact DS _ hm (by rw[←hax];rfl)
 ·have qc:e∈List.zipWith eT l bs:=by rw[hl];simp
  obtain⟨i,hi⟩:=AXN.1 qc;rw[AZC]at hi;cases qd:l[i]? with
  | none=>rw[qd]at hi;cases hi
  | some a=>
   cases hbi:bs[i]? with
   | none=>rw[qd,hbi]at hi;cases hi
   | some b=>
    rw[qd,hbi]at hi;simp only[AWp]at hi;subst hi;simp only[eT,Value.int.injEq,true_and]at he;subst he;exact h1 a.2 (AWn qd)
def qe (τ σ:Hp)(m:Nat)(l:List (Int×Value)):Prop:=Ext τ σ∧τ m=none∧MI σ m l
theorem qe.fresh {τ:Hp}{m:Nat}(h:τ m=none):qe τ (τ.set m (.map #[] 0)) m []:=⟨.set h,h,MI.fresh⟩
theorem qe.alloc {τ:Hp}{m b:Nat}{l:List (Int×Value)}{o:Obj}(h:qe τ σ m l)(hb:σ b=none):qe (τ.set b o) (σ.set b o) m l:=by
 have Ay:m≠b:=fun e=>h.2.2.known (by rw[e];exact hb);refine⟨fun k u hk=>?_,by rw[Hp.AF Ay];exact h.2.1,h.2.2.loc (Hp.AF Ay)⟩;by_cases Gn:k=b
 ·subst Gn;rw[Hp.AA]at hk ⊢;exact hk
 ·rw[Hp.AF Gn]at hk ⊢;exact h.1 _ _ hk
theorem qe.put {τ:Hp}{T K V:TypeId}[qE.tE P T K V]{m:Nat}{l:List (Int×Value)}{x:Int}{v:Value}{Φ:Unit→Hp→Prop}(h:qe τ σ m l)(hn:∀a∈l,a.1≠x)
  (hΦ:∀σ',qe τ σ' m (l++[(x,v)])→Φ () σ'):AH P (Instr.mapUpdate T (.map (some m)) (.I x) v) σ Φ:=
 h.2.2.put hn fun o ho=>hΦ _ ⟨fun k u hk=>by rw[Hp.AF (fun e=>by rw[e,h.2.1]at hk;cases hk)];exact h.1 _ _ hk,h.2.1,ho⟩
section
variable {α:Type}
theorem Tz {l:List (ByteArray×α)}{k:ByteArray}(h:∀a∈l,a.1≠k):Ck l k=none:=by
 induction l with
 | nil=>rfl
 | cons a l ih=>rw[Ck,AWj (h a (by simp))];exact ih fun b hb=>h b (AWq _ hb)
theorem V7 {l m:List (ByteArray×α)}{k:ByteArray}{y:α}(h:∀a∈l,a.1≠k):Ck (l++(k,y)::m) k=some y:=by
 induction l with
 | nil=>simp[Ck]
 | cons a l ih=>rw[AXb,Ck,AWj (h a (by simp))];exact ih fun b hb=>h b (AWq _ hb)
theorem LL {l:List (ByteArray×α)}{k:ByteArray}{y:α}(h:∀a∈l,a.1≠k):W1 l k y=l++[(k,y)]:=by
 induction l with
 | nil=>rfl
 | cons a l ih=>rw[W1,AWj (h a (by simp)),ih fun b hb=>h b (AWq _ hb)];rfl
theorem aR {l m:List (ByteArray×α)}{k:ByteArray}{y z:α}(h:∀a∈l,a.1≠k):W1 (l++(k,z)::m) k y=l++(k,y)::m:=by
 induction l with
 | nil=>simp[W1]
 | cons a l ih=>rw[AXb,W1,AWj (h a (by simp)),ih fun b hb=>h b (AWq _ hb)];rfl
def MS (E:Value→α→Prop)(σ:Hp)(m:Nat)(L:List (ByteArray×α)):Prop:=
 ∃(l:List MapEntry) (clock:Nat),BV σ m l clock∧l.length=L.length∧∀(i:Nat) (e:MapEntry) (x:ByteArray×α),l[i]?=some e→L[i]?=some x→e.key=.string x.1∧E e.val x.2
theorem MS.mono {E:Value→α→Prop}{m:Nat}{L:List (ByteArray×α)}(h:MS E σ m L)(hx:Ext σ σ'):MS E σ' m L:=let ⟨l,c,h1,h2⟩:=h;⟨l,c,h1.mono hx,h2⟩
theorem MS.loc {E:Value→α→Prop}{m:Nat}{L:List (ByteArray×α)}(h:MS E σ m L)(hx:σ' m=σ m):MS E σ' m L:=let ⟨l,c,h1,h2⟩:=h;⟨l,c,h1.loc hx,h2⟩
theorem MS.imp {E E':Value→α→Prop}{m:Nat}{L:List (ByteArray×α)}(h:MS E σ m L)(hE:∀v x,E v x→E' v x):MS E' σ m L:=let ⟨l,c,h1,h2,h3⟩:=h;⟨l,c,h1,h2,fun i e x he hx=>⟨(h3 i e x he hx).1,hE _ _ (h3 i e x he hx).2⟩⟩
theorem MS.known {E:Value→α→Prop}{m:Nat}{L:List (ByteArray×α)}(h:MS E σ m L):σ m≠none:=let ⟨l,c,h1,h2⟩:=h;by rw[h1.1];simp
theorem MS.fresh {E:Value→α→Prop}{m:Nat}:MS E (σ.set m (.map #[] 0)) m []:=⟨[],0,BV.fresh,rfl,fun i e x he=>by simp at he⟩
theorem MS.len {E:Value→α→Prop}{T K V ty:TypeId}[qB P T K V]{m:Nat}{L:List (ByteArray×α)}(h:MS E σ m L):YF P (Builtin.len_ #[T] ty #[.map (some m)]) σ (.I L.length):=by
 obtain⟨l,c,h1,h2,h3⟩:=h;rw[←h2];exact qC h1
theorem T1 {E:Value→α→Prop}{l l1 l2:List MapEntry}{e:MapEntry}{L:List (ByteArray×α)}{s:ByteArray}(hn:(l.map (·.key)).Nodup)(h2:l.length=L.length)(h3:∀(i:Nat) (e:MapEntry) (x:ByteArray×α),l[i]?=some e→L[i]?=some x→e.key=.string x.1∧E e.val x.2)(hl:l=l1++e::l2)(he:e.key=.string s):
  ∃L1 x L2,L=L1++(s,x)::L2∧L1.length=l1.length∧(∀a∈L1,a.1≠s)∧E e.val x:=by
 subst hl;have Am:l1.length<L.length:=by rw[←h2];simp
 have Mm:L=L.take l1.length++L[l1.length]::L.drop (l1.length+1):=by rw[AY5,AXr]
 have hx:=h3 l1.length e L[l1.length] (by simp) (AWm _);rw[he]at hx;have hk:L[l1.length].1=s:=by simpa using hx.1.symm
 refine⟨L.take l1.length,L[l1.length].2,L.drop (l1.length+1),?_,by rw[AW0];omega,fun a ha has=>?_,hx.2⟩
 ·rw[←hk];exact Mm
 ·obtain⟨i,hi⟩:=AXN.1 ha;rw[AW4]at hi;split at hi
  ·rename_i tH;have hle:(l1++e::l2)[i]?=some (l1[i]'tH):=by rw[AXW tH,AWm tH]
   have h4:=(h3 i _ a hle hi).1;rw[AXG,AXa,AYD]at hn;exact hn.2.2 _ (AXB.2 ⟨l1[i]'tH,AYV tH,rfl⟩) _ (by simp;exact .inl rfl) (by rw[h4,he,has])
  ·cases hi
theorem MS.vS {E:Value→α→Prop}{l:List MapEntry}{L:List (ByteArray×α)}{s:ByteArray}(h2:l.length=L.length)(h3:∀(i:Nat) (e:MapEntry) (x:ByteArray×α),l[i]?=some e→L[i]?=some x→e.key=.string x.1∧E e.val x.2)(DS:∀e∈l,e.key≠.string s):∀a∈L,a.1≠s:=fun a ha has=>by
 obtain⟨i,hi⟩:=AXN.1 ha;have Am:=(AWk.1 hi).1;have:=(h3 i (l[i]'(by omega)) a (AWm _) hi).1;exact DS _ (AYV _) (by rw[this,has])
theorem MS.look {E:Value→α→Prop}{T K V:TypeId}[qB P T K V]{m:Nat}{L:List (ByteArray×α)}{s:ByteArray}{z:Value}{Φ:Value→Hp→Prop}(h:MS E σ m L)(hz:∀w,(zeroValue V).run P w=.ok z w)
  (h0:Ck L s=none→Φ z σ) (h1:∀v x,Ck L s=some x→E v x→Φ v σ):AH P (Instr.lookup T (.map (some m)) (.string s) false) σ Φ:=by
 obtain⟨l,c,hm,h2,h3⟩:=h;refine Mg hm hz (fun DS=>h0 (Tz (MS.vS h2 h3 DS))) fun l1 e l2 hl he=>?_;obtain⟨L1,x,L2,rfl,_,DS,hE⟩:=T1 hm.nodup h2 h3 hl he;exact h1 e.val x (V7 DS) hE
theorem MS.hZ {E:Value→α→Prop}{T K V:TypeId}[t:qB P T K V]{m:Nat}{L:List (ByteArray×α)}{s:ByteArray}{z:Value}{Φ:Value→Hp→Prop}(h:MS E σ m L)(hz:∀w,(zeroValue V).run P w=.ok z w)
  (h0:Ck L s=none→Φ (.tuple #[z,.bool false]) σ) (h1:∀v x,Ck L s=some x→E v x→Φ (.tuple #[v,.bool true]) σ):AH P (Instr.lookup T (.map (some m)) (.string s) true) σ Φ:=by
 obtain⟨l,c,hm,h2,h3⟩:=h;rcases E7 (s:=s) hm.2.2 with ⟨hf,DS⟩|⟨l1,e,l2,hl,he,hf⟩
 ·refine AH.pu (fun w hs=>?_) (h0 (Tz (MS.vS h2 h3 DS)));have:=hs _ _ hm.1;simp[Instr.lookup,run_underlying t.fU,run_getObj_map this,run_checkKey t.key (k:=.string s) trivial,run_findKey t.key hf,hz,Result.andThen]
 ·obtain⟨L1,x,L2,rfl,_,DS,hE⟩:=T1 hm.nodup h2 h3 hl he;refine AH.pu (fun w hs=>?_) (h1 e.val x (V7 DS) hE);have:=hs _ _ hm.1;simp[Instr.lookup,run_underlying t.fU,run_getObj_map this,run_checkKey t.key (k:=.string s) trivial,run_findKey t.key hf,Result.andThen]
theorem MS.put {E:Value→α→Prop}{T K V:TypeId}[qB P T K V]{m:Nat}{L:List (ByteArray×α)}{s:ByteArray}{v:Value}{x:α}{Φ:Unit→Hp→Prop}(h:MS E σ m L)(hv:E v x)
  (hΦ:∀o,MS E (σ.set m o) m (W1 L s x)→Φ () (σ.set m o)):AH P (Instr.mapUpdate T (.map (some m)) (.string s) v) σ Φ:=by
 obtain⟨l,c,hm,h2,h3⟩:=h;refine HQ hm (fun DS σ' hσ yu=>?_) fun l1 e l2 hl he σ' hσ yu=>?_
 ·subst hσ;refine hΦ _ ⟨_,_,yu,?_,fun i e y hi hy=>?_⟩
  ·rw[LL (MS.vS h2 h3 DS)];simp[h2]
  ·rw[LL (MS.vS h2 h3 DS)]at hy;rw[AXt]at hi hy;split at hi
   ·rename_i Am;rw[AWl (by omega)]at hy;exact h3 i e y hi hy
   ·rename_i Am;rw[AWj (by omega)]at hy;rw[←h2]at hy;cases hj:i-l.length with
    | zero=>
     rw[hj]at hi hy;simp only[AXI,AWp]at hi hy;subst hi;subst hy;exact⟨rfl,hv⟩
    | succ j=>rw[hj]at hi;simp at hi
 ·obtain⟨L1,y,L2,rfl,hlen,DS,hE⟩:=T1 hm.nodup h2 h3 hl he;subst hσ;subst hl;refine hΦ _ ⟨_,_,yu,?_,fun i e' z hi hz=>?_⟩
  ·rw[aR DS];simp at h2 ⊢;omega
  ·rw[aR DS]at hz;by_cases tH:i=l1.length
   ·subst tH;rw[←hlen]at hz;simp at hi hz;subst hi;subst hz;exact⟨rfl,hv⟩
   ·have e1:(l1++Tw.M9 s v e.born::l2)[i]?=(l1++e::l2)[i]?:=by
     rcases AYf i l1.length with h|h
     ·rw[AXW h,AXW h]
     ·obtain⟨k,rfl⟩:∃k,i=l1.length+(k+1):=⟨i-l1.length-1,by omega⟩;simp[AXV]
    have e2:(L1++(s,x)::L2)[i]?=(L1++(s,y)::L2)[i]?:=by
     rcases AYf i L1.length with h|h
     ·rw[AXW h,AXW h]
     ·obtain⟨k,rfl⟩:∃k,i=L1.length+(k+1):=⟨i-L1.length-1,by omega⟩;simp[AXV]
    exact h3 i e' z (by rw[←e1];exact hi) (by rw[←e2];exact hz)
end
end
end TwW
end
section
namespace TwW
open Go Tw Go.RowKit Go.Proofs.Tryz
def Ps (n:Nd)(l:List Int):Int×Int:=
 if n.kind=1 then(1,0) else if n.kind=2 then(2,0) else if n.kind=3 then(3,0) else if n.kind=4 then aQ n (l[0]?.getD 0) else if n.kind=5 then hY (l[0]?.getD 0)
 else if n.kind=6 then kI n (l[0]?.getD 0) (l[1]?.getD 0) else qb (l[0]?.getD 0)
def Ba (n:Nd)(st:List Int):Int×List Int:=
 if FZ n=false∨(st.length:Int)<n.parts then(190,st) else if MN FT n.mt≠0 then(193,st) else
  ((Ps n (st.drop (st.length-n.parts.toNat))).2,st.take (st.length-n.parts.toNat)++[(Ps n (st.drop (st.length-n.parts.toNat))).1])
theorem H9 {n:Nd}(h:FZ n=true):FY n=true:=by
 unfold FZ at h;simp only[AWv]at h;exact h.2
theorem Pu {n:Nd}(h:FZ n=true):Fp n (BO n)=true:=by
 unfold FZ at h;simp only[AWv]at h;exact h.1.1.1
theorem Ao.AF {s b:Nat}{o:Obj}{σ:Hp}{p:Option Addr}{n c:Nat}{cs:List Value}(ho:Ao s σ p n c cs)(h:∀a,p=some a→a.block≠b):Ao s (σ.set b o) p n c cs:=
 ⟨ho.1,ho.2.1,ho.2.2.imp id fun⟨b',o',arr,T,hp,hb,r⟩=>⟨b',o',arr,T,hp,by rw[Hp.AF (h _ hp)];exact hb,r⟩⟩
theorem vT:∀w,(zeroValue 145).run prog w=.ok .nilFunc w:=fun w=>by
 have h:prog.info? 145=some t145:=by kernel_rfl
 simp[zeroValue,typeInfo,h];rfl
structure eU (σ0 σ:Hp)(wb:Nat)(p:Option Addr)(n c:Nat)(st:List Int):Prop where
 cell:σ wb=some (.cells #[.slice p n c] 114 (0,0))
 own:DT .i64 σ p n c st
 off:∀a,p=some a→a.block≠wb∧σ0 a.block=none
 new:σ0 wb=none
 ext:Ext σ0 σ
section
variable {σ σ' σ0:Hp}{R:Rr}
theorem eU.mono {wb:Nat}{p:Option Addr}{n c:Nat}{st:List Int}(h:eU σ0 σ wb p n c st)(hx:Ext σ σ'):eU σ0 σ' wb p n c st:=⟨hx _ _ h.cell,h.own.mono hx,h.off,h.new,h.ext.trans hx⟩
theorem Pv {k:Int}(h:∀b,σ b=none→R (.returned (.func (.func 96) #[] #[.pointer (aD b 0)])) (σ.set b (.cells #[.I k] 3 (0,0)))):Spec prog 70 #[.I k] σ R:=SH.start h
theorem Mn {n:Nd}{p q r:Option Addr}{k c m d s t b:Nat}{v:Int}(hb:σ b=some (.cells #[.I v] 3 (0,0)))(h:R (.returned (tyV (v,0))) σ):Spec prog 96 #[M0 n p k c q m d,.slice r s t,.pointer (aD b 0)] σ R:=
 DJ.start fun _=>⟨v,Af hb rfl,h⟩
theorem vU:∀w,(Go.sizeOf 112).run prog w=.ok 1 w:=fun w=>by kernel_rfl
theorem kK {wb:Nat}{p q r:Option Addr}{k c m d j e:Nat}{st:List Int}{n:Nd}(hW:eU σ0 σ wb r j e st)(hm:Ac 3 Ni σ0 p k n.mt)(hr:Gq 1 σ0 q m (n.names.map .string))(hb:n.text.size≤4611686018427387904)(hj:j≤1000000000000)
  (h:∀r' j' e' σ',(Ba n st).1=0→eU σ0 σ' wb r' j' e' (Ba n st).2→R (.returned (.I 0)) σ') (h':∀σ',(Ba n st).1≠0→Ext σ0 σ'→R (.returned (.I (Ba n st).1)) σ') :
  Spec prog 49 #[.pointer (some ⟨wb,0,none⟩),M0 n p k c q m d] σ R:=by
 have hk:n.mt.length=k:=hm.1;have hsl:st.length=j:=by have:=hW.own.1;simpa using this
 refine JA.start fun _=>kF hk (hr.mono hW.ext) hb fun σ1 Bi=>⟨_,rfl,fun hf=>?_,fun ht=>?_⟩
 ·have e1:Ba n st=(190,st):=by unfold Ba;rw[AWl (.inl hf)]
  rw[e1] at h';exact h' σ1 (by dsimp only;decide) (hW.ext.trans Bi)
 have hW1:=hW.mono Bi;refine⟨wb,0,rfl,r,j,e,Af hW1.cell rfl,fun Am=>?_,fun Vu=>aO (hm.mono Ni.mono hW1.ext) ⟨_,rfl,fun Ay=>?_,fun h0=>?_⟩⟩
 ·have e1:Ba n st=(190,st):=by unfold Ba;rw[AWl (.inr (by omega))]
  rw[e1] at h';exact h' σ1 (by dsimp only;decide) hW1.ext
 ·have e1:Ba n st=(193,st):=by unfold Ba;rw[AWj (by rw[ht];simp;omega),AWl Ay]
  rw[e1] at h';exact h' σ1 (by dsimp only;decide) hW1.ext
 have Qb:=AW7.1 h0;have eS:Ba n st=((Ps n (st.drop (st.length-n.parts.toNat))).2,st.take (st.length-n.parts.toNat)++[(Ps n (st.drop (st.length-n.parts.toNat))).1]):=by
  unfold Ba;rw[AWj (by rw[ht];simp;omega),AWj h0]
 rw[eS]at h h';dsimp only at h h';have C2:=H9 ht;have AOS:0≤n.parts:=by
  unfold FY at C2;have hp:=Pu ht;by_cases h1:n.kind=1
  ·unfold Fp BO at hp;simp[h1]at hp;omega
  by_cases h2:n.kind=2
  ·unfold Fp BO at hp;simp[h2]at hp;omega
  by_cases h3:n.kind=3
  ·unfold Fp BO at hp;simp[h3]at hp;omega
  rw[AWj h1,AWj h2,AWj h3]at C2;split at C2
  ·simp at C2;omega
  ·split at C2
   ·simp at C2;omega
   ·split at C2
    ·simp at C2;omega
    ·simp at C2;omega
 obtain⟨t,hpt⟩:∃t:Nat,n.parts=t:=⟨n.parts.toNat,by omega⟩;have htj:t≤j:=by omega
 have htn:n.parts.toNat=t:=by omega
 rw[htn,hsl]at h h';refine EC fun mb vV=>⟨mb,rfl,?_⟩;have s0:=qe.fresh vV;refine Pv fun b1 yw=>⟨_,_,_,rfl,?_⟩;have s1:=s0.alloc (o:=.cells #[.I 1] 3 (0,0)) yw;refine s1.put (by simp) fun σ2 s2=>Pv fun b2 ft=>⟨_,_,_,rfl,?_⟩;have s3:=s2.alloc (o:=.cells #[.I 2] 3 (0,0)) ft;refine s3.put (by simp) fun σ4 s4=>Pv fun b3 hb3=>⟨_,_,_,rfl,?_⟩;have s5:=s4.alloc (o:=.cells #[.I 3] 3 (0,0)) hb3;refine s5.put (by simp) fun σ6 s6=>s6.put (by simp) fun σ7 s7=>s7.put (by simp) fun σ8 s8=>s8.put (by simp) fun σ9 s9=>s9.put (by simp) fun σA sA=>?_;clear s0 s1 s3 s5 s6 s7 s8 s9;have n1:σ1 b1=none:=(Hp.Bu yw).2;have n2:(σ1.set b1 (.cells #[.I 1] 3 (0,0))) b2=none:=Ae s2.1 ft;have n3:((σ1.set b1 (.cells #[.I 1] 3 (0,0))).set b2 (.cells #[.I 2] 3 (0,0))) b3=none:=Ae s4.1 hb3;have x1:Ext σ1 σA:=(Ext.set n1).trans ((Ext.set n2).trans ((Ext.set n3).trans sA.1));have c3:=sA.1 b3 _ (Hp.AA _ _ _);have c2:=sA.1 b2 _ ((Ext.set n3) _ _ (Hp.AA _ _ _));have c1:=sA.1 b1 _ ((Ext.set n3) _ _ ((Ext.set n2) _ _ (Hp.AA _ _ _)));have kL:=hW1.mono x1;have hlA:=sA.2.2;clear s2 s4 sA n1 n2 n3 yw ft hb3;simp only[AXi,AXb]at hlA;have e1:Int.toNat ((j:Int)-n.parts)=j-t:=by omega
 refine⟨r,j,e,Af kL.cell rfl,by unfold AM;omega,r,j,e,Af kL.cell rfl,by omega,?_⟩;have hce:j≤e:=Ao.cap kL.own;have W9:Ev .i64 σA (Fe r (j-t) e 1) (j-(j-t)) (st.drop (j-t)):=by
  have:=Ac.sub (i:=j-t) (m:=j-(j-t)) (DT.rd kL.own) (by decide) (by omega) hce;rwa[AWt (by rw[AXS];omega)]at this
 have W9:Ev .i64 σA (Fe r (Int.toNat ((j:Int)-n.parts)) e 1) (j-Int.toNat ((j:Int)-n.parts)) (st.drop (j-t)):=by rw[e1];exact W9
 have fin:∀x:Int×Int,x=Ps n (st.drop (j-t))→Ap R (fun z dV=>∃ot Jb,z=(.tuple #[.I ot,.I Jb])∧LS dV wb 0 fun sv oV gP=>((0:Int)≤((j:Int)-n.parts)∧((j:Int)-n.parts)≤(gP:Int))∧Al dV fun Ve=>AH prog (Builtin.append_ #[112,112] 112 #[(.slice sv (Int.toNat ((j:Int)-n.parts)) gP),(.slice (aD Ve 0) 1 1)]) (Hp.set dV Ve (.cells #[.I ot] 117 (0,0))) (CS fun p72 n72 c72 AA9=>AH prog (Instr.storeAt 112 (.pointer (aD wb 0)) (.slice p72 n72 c72)) AA9 (fun _ ABA=>R (.returned (.I Jb)) ABA))) (.returned (tyV x)) σA:=fun x hx=>by
  rw[←hx]at h h';refine⟨x.1,x.2,rfl,r,j,e,Af kL.cell rfl,by omega,fun Ve qf=>?_⟩;rw[e1];have BS:=(Ao.take (m:=j-t) kL.own (by omega)).mono (Ext.set (o:=.cells #[.I x.1] 117 (0,0)) qf);refine CE BS (W0 (f:=.int .i64) (x:=x.1) (Hp.AA _ _ _)) Ey.Q9 (by omega) fun p' c' σB hoB tI=>⟨_,_,_,rfl,?_⟩;have hwb:∀a,r=some a→wb≠a.block:=fun a ha=>AXn (kL.off a ha).1;have hnb:wb≠Ve:=fun e=>by rw[←e,kL.cell]at qf;cases qf
  obtain⟨g1,g2⟩:=AR.1 (tI wb _ (AR.2 ⟨hwb,(Ext.set qf) _ _ kL.cell⟩));have hE0:Ext σ0 (σB.del p'):=fun k u hk=>tI k u (AR.2 ⟨fun a ha lV=>(by rw[lV,(kL.off a ha).2]at hk;cases hk),(Ext.set qf) _ _ (kL.ext _ _ hk)⟩);refine AH.store vU g2 rfl (by simp) (by simp[Value.cells,Value.oneCell']) ?_;have vW:eU σ0 (σB.set wb (.cells (Lt #[.slice r j e] 0 (Value.slice p' (j-t+1) c').cells.toList) 114 (0,0))) wb p' (j-t+1) c' (st.take (j-t)++[x.1]):=by
   refine⟨by rw[Hp.AA];simp[Lt,Value.cells],?_,fun a ha=>⟨fun e=>g1 a ha e.symm,?_⟩,kL.new,fun k u hk=>?_⟩
   ·have:=Ao.AF (b:=wb) (o:=.cells (Lt #[.slice r j e] 0 (Value.slice p' (j-t+1) c').cells.toList) 114 (0,0)) hoB (fun a ha e=>g1 a ha e.symm);unfold DT;rw[AXG,AZW];simpa using this
   ·cases hh:σ0 a.block with
    | none=>rfl
    | some u=>exact absurd rfl ((AR.1 (hE0 _ _ hh)).1 a ha)
   ·rw[Hp.AF (fun e=>by rw[e,kL.new]at hk;cases hk)];exact(AR.1 (hE0 _ _ hk)).2
  by_cases hz:x.2=0
  ·rw[hz];exact h _ _ _ _ hz vW
  ·exact h' _ hz vW.ext
 have part:∀i,i<t→∃v,(st.drop (j-t))[i]?=some v:=fun i hi=>⟨_,AWm (by rw[AXS];omega)⟩;refine hlA.look vT (fun DS=>?_) fun v hv=>⟨v,rfl,Kp.HI (.refl _),?_⟩
 ·exfalso;unfold FY at C2;have g:=fun i=>DS i;simp only[AWo,AXA,AXk,forall_eq_or_imp,forall_eq]at DS;obtain⟨a1,a2,a3,a4,a5,a6,a7⟩:=DS;rw[AWj (AXn a1),AWj (AXn a2),AWj (AXn a3),AWj (AXn a4),AWj (AXn a5),AWj (AXn a6)]at C2;exact a7 (AWr C2).1.symm
 simp only[AWo,AXA,AXk,AYG]at hv;rcases hv with ⟨hn,rfl⟩|⟨hn,rfl⟩|⟨hn,rfl⟩|⟨hn,rfl⟩|⟨hn,rfl⟩|⟨hn,rfl⟩|⟨hn,rfl⟩
 ·exact⟨96,_,_,rfl,DJ.en,Mn c1 (fin _ (by unfold Ps;rw[AWl hn]))⟩
 ·exact⟨96,_,_,rfl,DJ.en,Mn c2 (fin _ (by unfold Ps;rw[AWj (by omega),AWl hn]))⟩
 ·exact⟨96,_,_,rfl,DJ.en,Mn c3 (fin _ (by unfold Ps;rw[AWj (by omega),AWj (by omega),AWl hn]))⟩
 ·have ht1:t=1:=by unfold FY at C2;simp[hn]at C2;omega
  obtain⟨v,hv⟩:=part 0 (by omega);exact⟨71,_,_,rfl,Bh.en,eR W9 hv (fin _ (by unfold Ps;rw[AWj (by omega),AWj (by omega),AWj (by omega),AWl hn,hv];rfl))⟩
 ·have ht1:t=1:=by unfold FY at C2;simp[hn]at C2;omega
  obtain⟨v,hv⟩:=part 0 (by omega);exact⟨72,_,_,rfl,EU.en,kG W9 hv (fin _ (by unfold Ps;rw[AWj (by omega),AWj (by omega),AWj (by omega),AWj (by omega),AWl hn,hv];rfl))⟩
 ·have ht1:t=2:=by unfold FY at C2;simp[hn]at C2;omega
  obtain⟨v,hv⟩:=part 0 (by omega);obtain⟨u,hu⟩:=part 1 (by omega);exact⟨73,_,_,rfl,EV.en,kJ W9 hv hu (fin _ (by unfold Ps;rw[AWj (by omega),AWj (by omega),AWj (by omega),AWj (by omega),AWj (by omega),AWl hn,hv,hu];rfl))⟩
 ·have ht1:t=1:=by unfold FY at C2;simp[hn]at C2;omega
  obtain⟨v,hv⟩:=part 0 (by omega);exact⟨74,_,_,rfl,ER.en,kH W9 hv (fin _ (by unfold Ps;rw[AWj (by omega),AWj (by omega),AWj (by omega),AWj (by omega),AWj (by omega),AWj (by omega),hv];rfl))⟩
def DQ:List Nd→List Int→Option (List Int)
 | [],st=>some st
 | n::t,st=>if(Ba n st).1=0 then DQ t (Ba n st).2 else none
def yx (t:List Nd):Option (List Int)→Option Int
 | some [k]=>if t.length≤4096 then some k else none
 | _=>none
def JM (t:List Nd):Option Int:=yx t (DQ t [])
theorem Ha.at {p:Option Addr}{n i:Nat}{t:List Nd}{x:Nd}(hr:Ac 10 Ha σ p n t)(hx:t[i]?=some x):∃b o p1 k c q m d,p=some ⟨b,o,none⟩∧Av σ b (o+i*10) [.I x.kind,.I x.op,.string x.text,.slice p1 k c,.I x.width,.I x.back,.I x.EH,.slice q m d,.bool x.bool,.I x.parts]∧Ac 3 Ni σ p1 k x.mt∧Gq 1 σ q m (x.names.map .string):=by
 obtain⟨b,o,vs,hp,⟨p1,k,c,q,m,d,rfl,h1,h2⟩,hl⟩:=Ac.idx hr hx;exact⟨b,o,p1,k,c,q,m,d,hp,hl,h1,h2⟩
theorem qg {n:Nd}{st:List Int}:(Ba n st).2.length≤st.length+1:=by
 unfold Ba;split
 ·exact Nat.le_succ _
 ·split
  ·exact Nat.le_succ _
  ·simp only[AWz,AW0,AXc];omega
theorem T3 {p:Option Addr}{n c:Nat}{t:List Nd}(hr:Ac 10 Ha σ p n t)(hn:n≤1000000000)(hb:∀x∈t,x.text.size≤4611686018427387904)
  (h:∀k σ',JM t=some k→Ext σ σ'→R (.T #[.I k,.I 0,.I 0]) σ') (h':∀k j e σ',JM t=none→e≠0→Ext σ σ'→R (.T #[.I k,.I j,.I e]) σ') :
  Spec prog 33 #[.slice p n c] σ R:=by
 have hl:t.length=n:=hr.1;refine FK.start fun wb hwb=>?_
 suffices H:∀g k:Nat,∀r j e st σ',n-k=g→k≤n→j≤k→eU σ σ' wb r j e st→DQ t []=DQ (t.drop k) st→FK.Aw R p n c (aD wb 0) p n c n k σ' from
  H n 0 none 0 0 [] _ rfl (AWx _) (AWu _) ⟨Hp.AA _ _ _,DT.nil,fun a ha=>(by cases ha),hwb,.set hwb⟩ rfl
 intro g
 induction g with
 | zero=>
  intro k r j e st σ' hg hk hj hW he;rw[AXH (by omega)]at he;have IH:st.length=j:=by have:=hW.own.1;simpa using this
  have ht:JM t=yx t (some st):=by unfold JM;rw[he];rfl
  refine FK.AY ⟨fun Am=>by omega,fun _=>⟨wb,0,rfl,r,j,e,Af hW.cell rfl,fun h1=>h' _ _ _ σ' ?_ (by decide) hW.ext,fun h1=>⟨fun Tj=>h' _ _ _ σ' ?_ (by decide) hW.ext,fun YG=>?_⟩⟩⟩
  ·rw[ht]
   match st,IH with
   | [],_=>rfl
   | [_],IH=>simp at IH;omega
   | _::_::_,_=>rfl
  ·rw[ht]
   match st,IH with
   | [],_=>rfl
   | [_],IH=>exact AWj (by omega)
   | _::_::_,_=>rfl
  ·have lv:j=1:=by omega
   subst lv
   match st,IH with
   | [x],_=>
    obtain⟨b,o,rfl,Ee⟩:=Ev.at (DT.rd hW.own) (i:=0) (x:=x) rfl;exact⟨_,1,e,Af hW.cell rfl,b,o,rfl,by omega,x,by simpa using Ee,h x σ' (by rw[ht];exact AWl (by omega)) hW.ext⟩
 | succ g ih=>
  intro k r j e st σ' hg hk hj hW he;have Ew:k<n:=by omega
  obtain⟨x,hx⟩:=hr.ex Ew;obtain⟨b,o,p1,k1,c1,q1,m1,d1,rfl,Ee,h1,h2⟩:=Ha.at hr hx;rw[BH hx,DQ]at he;refine FK.AY ⟨fun _=>⟨b,o,rfl,by omega,_,_,_,_,_,_,_,_,_,_,_,_,_,_,by simpa using Ee.mono hW.ext,fun _=>?_⟩,fun hh=>by omega⟩;refine kK hW h1 h2 (hb x (AWn hx)) (by omega) (fun r' j' e' σ2 h0 hW2=>⟨0,rfl,fun hh=>absurd rfl hh,fun _=>⟨AN Ew hr.big,ih (k+1) r' j' e' _ σ2 (by omega) (by omega) ?_ hW2 ?_⟩⟩) fun σ2 h0 A4=>⟨_,rfl,fun _=>h' _ _ _ σ2 ?_ h0 A4,fun hh=>absurd h0 hh⟩
  ·have h3:=qg (n:=x) (st:=st);have h4:(Ba x st).2.length=j':=by have:=hW2.own.1;simpa using this
   have h5:st.length=j:=by have:=hW.own.1;simpa using this
   omega
  ·rw[he,AWl h0]
  ·unfold JM;rw[he,AWj h0];rfl
end
end TwW
end
section
namespace Go.Proofs
open Go.Shelf
def Tryz.aS:Go.Shelf.Ren:=⟨fun|143=>206|219=>232|217=>255|225=>256|224=>257|267=>258|266=>267|314=>268|n=>n,fun|9=>9|3=>3|4=>4|5=>5|46=>94|146=>333|51=>132|n=>n,fun|1=>1|n=>n⟩
theorem Tryz.vX:Go.Proofs.Lays.n143 Tryz.prog Tryz.aS:={
 mixed:=by kernel_rfl
 f143:=Tryz.func206.trans (AWy some (by kernel_rfl))
 f217:=Tryz.func255.trans (AWy some (by kernel_rfl))
 f219:=Tryz.func232.trans (AWy some (by kernel_rfl))
 f224:=Tryz.func257.trans (AWy some (by kernel_rfl))
 f225:=Tryz.func256.trans (AWy some (by kernel_rfl))
 f266:=Tryz.func267.trans (AWy some (by kernel_rfl))
 f267:=Tryz.func258.trans (AWy some (by kernel_rfl))
 f314:=Tryz.func268.trans (AWy some (by kernel_rfl))
 t3:=Tryz.underlying3
 a3:=Tryz.isAgg3
 z3:=Tryz.sizeOf3
 v3:=Tryz.zeroValue3
 t4:=Tryz.underlying4
 a4:=Tryz.isAgg4
 z4:=Tryz.sizeOf4
 v4:=Tryz.zeroValue4
 t5:=Tryz.underlying5
 a5:=Tryz.isAgg5
 z5:=Tryz.sizeOf5
 v5:=Tryz.zeroValue5
 t9:=Tryz.underlying9
 a9:=Tryz.isAgg9
 z9:=Tryz.sizeOf9
 v9:=Tryz.zeroValue9
 t46:=Tryz.underlying94
 a46:=Tryz.isAgg94
 z46:=Tryz.sizeOf94
 v46:=Tryz.zeroValue94
 t51:=Tryz.underlying132
 a51:=Tryz.isAgg132
 z51:=Tryz.sizeOf132
 v51:=Tryz.zeroValue132
 t146:=Tryz.underlying333
 a146:=Tryz.isAgg333
 z146:=Tryz.sizeOf333
 v146:=Tryz.zeroValue333
 g1:=by kernel_rfl }
open Go.RowKit Go.Lib in
theorem Tryz.strings_Index (s sub:ByteArray)(m:Int)(w:World)(hs:s.size<4294967281)(hm:w.cell? ⟨1,0,none⟩=some (.I m)):
 Calls Tryz.prog 206 #[.string s,.string sub] w fun e w'=>e=.returned (.I (Lib.index s.data.toList sub.data.toList))∧w'=w:=Any.strings_Index Tryz.vX s sub m w hs hm
def Tryz.aT:Go.Shelf.Ren:=⟨fun|146=>169|221=>185|268=>204|138=>205|143=>206|195=>229|197=>230|218=>231|219=>232|260=>254|217=>255|225=>256|224=>257|267=>258|266=>267|314=>268|n=>n,fun|9=>9|31=>49|3=>3|4=>4|0=>0|105=>296|21=>21|5=>5|46=>94|119=>329|139=>332|138=>331|146=>333|51=>132|n=>n,fun|1=>1|3=>11|4=>12|n=>n⟩
theorem Tryz.vY:Go.Proofs.Lays.n146 Tryz.prog Tryz.aT:={
 mixed:=by kernel_rfl
 f138:=Tryz.func205.trans (AWy some (by kernel_rfl))
 f143:=Tryz.func206.trans (AWy some (by kernel_rfl))
 f146:=Tryz.func169.trans (AWy some (by kernel_rfl))
 f195:=Tryz.func229.trans (AWy some (by kernel_rfl))
 f197:=Tryz.func230.trans (AWy some (by kernel_rfl))
 f217:=Tryz.func255.trans (AWy some (by kernel_rfl))
 f218:=Tryz.func231.trans (AWy some (by kernel_rfl))
 f219:=Tryz.func232.trans (AWy some (by kernel_rfl))
 f221:=Tryz.func185.trans (AWy some (by kernel_rfl))
 f224:=Tryz.func257.trans (AWy some (by kernel_rfl))
 f225:=Tryz.func256.trans (AWy some (by kernel_rfl))
 f260:=Tryz.func254.trans (AWy some (by kernel_rfl))
 f266:=Tryz.func267.trans (AWy some (by kernel_rfl))
 f267:=Tryz.func258.trans (AWy some (by kernel_rfl))
 f268:=Tryz.func204.trans (AWy some (by kernel_rfl))
 f314:=Tryz.func268.trans (AWy some (by kernel_rfl))
 t0:=Tryz.underlying0
 a0:=Tryz.isAgg0
 z0:=Tryz.sizeOf0
 v0:=Tryz.zeroValue0
 t3:=Tryz.underlying3
 a3:=Tryz.isAgg3
 z3:=Tryz.sizeOf3
 v3:=Tryz.zeroValue3
 t4:=Tryz.underlying4
 a4:=Tryz.isAgg4
 z4:=Tryz.sizeOf4
 v4:=Tryz.zeroValue4
 t5:=Tryz.underlying5
 a5:=Tryz.isAgg5
 z5:=Tryz.sizeOf5
 v5:=Tryz.zeroValue5
 t9:=Tryz.underlying9
 a9:=Tryz.isAgg9
 z9:=Tryz.sizeOf9
 v9:=Tryz.zeroValue9
 t21:=Tryz.underlying21
 a21:=Tryz.isAgg21
 z21:=Tryz.sizeOf21
 v21:=Tryz.zeroValue21
 t31:=Tryz.underlying49
 a31:=Tryz.isAgg49
 z31:=Tryz.sizeOf49
 v31:=Tryz.zeroValue49
 t46:=Tryz.underlying94
 a46:=Tryz.isAgg94
 z46:=Tryz.sizeOf94
 v46:=Tryz.zeroValue94
 t51:=Tryz.underlying132
 a51:=Tryz.isAgg132
 z51:=Tryz.sizeOf132
 v51:=Tryz.zeroValue132
 t105:=Tryz.underlying296
 a105:=Tryz.isAgg296
 z105:=Tryz.sizeOf296
 v105:=Tryz.zeroValue296
 t119:=Tryz.underlying329
 a119:=Tryz.isAgg329
 z119:=Tryz.sizeOf329
 t138:=Tryz.underlying331
 a138:=Tryz.isAgg331
 z138:=Tryz.sizeOf331
 v138:=Tryz.zeroValue331
 t139:=Tryz.underlying332
 a139:=Tryz.isAgg332
 z139:=Tryz.sizeOf332
 v139:=Tryz.zeroValue332
 t146:=Tryz.underlying333
 a146:=Tryz.isAgg333
 z146:=Tryz.sizeOf333
 v146:=Tryz.zeroValue333
 g1:=by kernel_rfl
 g3:=by kernel_rfl
 g4:=by kernel_rfl }
open Go.RowKit Go.Lib in
theorem Tryz.strings_Split (s sep:ByteArray)(m:Int)(w:World)(hs:s.size<4294967281)(hm:w.cell? ⟨1,0,none⟩=some (.I m))(h1:1≤sep.size):
 Calls Tryz.prog 169 #[.string s,.string sep] w fun e w'=>
  e=.returned (.slice (some ⟨w.heap.size,0,none⟩) (Lib.countB s sep+1) (Lib.countB s sep+1))∧w'=w.alloc (.cells ((Lib.splitB sep 0 (Lib.countB s sep) s).map Value.string).toArray 9):=Any.strings_Split Tryz.vY (by kernel_rfl) s sep m w hs hm h1
end Go.Proofs
end
section
namespace TwW
open Go Tw Go.RowKit Go.Proofs.Tryz
section
variable {P:Program}{f:FuncId}{args:Array Value}{σ σ':Hp}{R:Rr}
theorem Spec.below {v:Value}(h:∀w,Sat σ w→Calls P f args w fun e w'=>e=.returned v∧Below w.heap.size w w')(hR:R (.returned v) σ):Spec P f args σ R:=fun w F hs hF=>
 (h w hs).mono fun e w' ⟨he,hb⟩=>⟨σ,he▸hR,fun b o ho=>by
  have h1:=hs b o ho;rw[hb.block b (AW3.1 h1).1];exact h1,fun b hFb=>⟨(hF b hFb).2,hb.block b (hF b hFb).1⟩,⟨hb.os,hb.tape,fun h=>h.elim⟩,hb.output,hb.size⟩
theorem Spec.same {v:Value}(h:∀w,Sat σ w→Calls P f args w fun e w'=>e=.returned v∧w'=w)(hR:R (.returned v) σ):Spec P f args σ R:=
 Spec.below (fun w hs=>(h w hs).mono fun e w' ⟨he,hw⟩=>⟨he,hw▸Below.refl _ _⟩) hR
theorem Spec.ACB {o:Obj}{v:Nat→Value}(h:∀w,Sat σ w→Calls P f args w fun e w'=>e=.returned (v w.heap.size)∧w'=w.alloc o)(hR:∀b,σ b=none→R (.returned (v b)) (σ.set b o)):Spec P f args σ R:=fun w F hs hF=>
 (h w hs).mono fun e w' ⟨he,hw⟩=>⟨σ.set w.heap.size o,he▸hR _ (FI hs),by subst hw;exact Fin.alloc hs hF _ rfl (.same rfl rfl rfl) rfl⟩
theorem cell_of {w:World}{b o:Nat}{v:Value}(hs:Sat σ w)(h:σ.ld ⟨b,o,none⟩=some v):w.cell? ⟨b,o,none⟩=some v:=by
 have:=VD (ys:=[v]) hs ⟨h,trivial⟩ 0 v rfl;simpa[Bl] using this
end
def T5:List Nat:=[4607182418800017408,4621819117588971520,4636737291354636288,4652007308841189376,4666723172467343360,4681608360884174848,4696837146684686336,4711630319722168320,4726483295884279808,4741671816366391296,4756540486875873280,4771362005757984768,4786511204640096256,4801453603149578240,4816244402031689728,4831355200913801216]
structure Gl (σ:Hp):Prop where
 len:∃m:Int,σ.ld ⟨1,0,none⟩=some (.I m)
 opt:σ.ld ⟨5,0,none⟩=some (.bool true)
 bits:σ.ld ⟨6,0,none⟩=some (.U 52)
 pow:∃b o n c,σ.ld ⟨9,0,none⟩=some (.slice (some ⟨b,o,none⟩) n c)∧16≤n∧∀i v,T5[i]?=some v→σ.ld ⟨b,o+i*1,none⟩=some (.float .f64 v)
theorem Gl.mono {σ σ':Hp}(h:Gl σ)(hx:Ext σ σ'):Gl σ':=⟨h.len.imp fun _=>hx.ld,hx.ld h.opt,hx.ld h.bits,let ⟨b,o,n,c,h1,h2,h3⟩:=h.pow;⟨b,o,n,c,hx.ld h1,h2,fun i v hv=>hx.ld (h3 i v hv)⟩⟩
section
variable {σ σ':Hp}{R:Rr}
theorem index_spec {s t:ByteArray}(hg:Gl σ)(hs:s.size<4294967281)(h:R (.returned (.I (Lib.index s.data.toList t.data.toList))) σ):Spec prog 206 #[.string s,.string t] σ R:=by
 obtain⟨m,hm⟩:=hg.len;exact Spec.same (fun w hw=>Go.Proofs.Tryz.strings_Index s t m w hs (cell_of hw hm)) h
theorem T6 {s:ByteArray}{c:UInt8}(hg:Gl σ)(hs:s.size<4294967281)(h:∀b T,σ b=none→R (.returned (.slice (aD b 0) (EF c s).length (EF c s).length)) (σ.set b (.cells ((EF c s).map Value.string).toArray T (0,0)))):Spec prog 169 #[.string s,.string ⟨#[c]⟩] σ R:=by
 obtain⟨m,hm⟩:=hg.len;have hl:(EF c s).length=Lib.countB s ⟨#[c]⟩+1:=Lib.splitB_all ⟨#[c]⟩ (AWu 1) 0 _ s rfl;have h':=fun b=>h b 9;rw[hl] at h';exact Spec.ACB (v:=fun b=>.slice (aD b 0) _ _) (fun w hw=>Go.Proofs.Tryz.strings_Split s ⟨#[c]⟩ m w hs (cell_of hw hm) (AWu 1)) h'
theorem ACC {s:ByteArray}{l h:Nat}(hl:l≤h)(hh:h≤s.size):YF prog (Instr.sliceAt 9 (.string s) (some (.I (l:Int))) (some (.I (h:Int))) none) σ (.string (s.extract l h)):=fun w _=>by
 rw[run_sliceAt_string (h:=underlying9)];have h1:(h:Int)≤s.size:=by omega
 have h2:(l:Int)≤h:=by omega
 simp[Instr.slice,run_underlying underlying9,Instr.sliceBounds,run_sliceBound,h1,h2,Result.andThen]
theorem aU {s t:ByteArray}(h:R (.returned (.bool (decide (t.size≤s.size∧s.extract 0 t.size=t)))) σ):Spec prog 227 #[.string s,.string t] σ R:=by
 refine G8.start (CK.start ⟨fun hle=>⟨_,yt (by omega),_,rfl,?_⟩,fun yo=>⟨_,rfl,?_⟩⟩)
 ·rw[vK,show decide (s.extract 0 t.size=t)=decide (t.size≤s.size∧s.extract 0 t.size=t) from AX0.2 ⟨fun h=>⟨by omega,h⟩,fun h=>h.2⟩];exact h
 ·rw[show false=decide (t.size≤s.size∧s.extract 0 t.size=t) from(AXC fun hh=>yo (by omega)).symm];exact h
theorem aV {s t:ByteArray}(hs:s.size≤4611686018427387904)(h:R (.returned (.bool (decide (t.size≤s.size∧s.extract (s.size-t.size) s.size=t)))) σ):Spec prog 228 #[.string s,.string t] σ R:=by
 refine HB.start (CL.start ⟨fun hle=>⟨by unfold AM;omega,s.extract (s.size-t.size) s.size,?_,_,rfl,?_⟩,fun yo=>⟨_,rfl,?_⟩⟩)
 ·rw[show((s.size:Nat):Int)-((t.size:Nat):Int)=((s.size-t.size:Nat):Int) by omega];exact RR (by omega)
 ·rw[vK,show decide (s.extract (s.size-t.size) s.size=t)=decide (t.size≤s.size∧s.extract (s.size-t.size) s.size=t) from AX0.2 ⟨fun h=>⟨by omega,h⟩,fun h=>h.2⟩];exact h
 ·rw[show false=decide (t.size≤s.size∧s.extract (s.size-t.size) s.size=t) from(AXC fun hh=>yo (by omega)).symm];exact h
def ETx (_:Hp)(vs:List Value)(x:ByteArray):Prop:=vs=[.string x]
theorem ETx.mono:Gs ETx:=fun _ _ _ _ _ h=>h
abbrev iA:=Ac 1 ETx
theorem iA.at {p:Option Addr}{n i:Nat}{ls:List ByteArray}{x:ByteArray}(hr:iA σ p n ls)(hx:ls[i]?=some x):∃b o,p=some ⟨b,o,none⟩∧σ.ld ⟨b,o+i*1,none⟩=some (.string x):=by
 obtain⟨b,o,vs,hp,rfl,hl⟩:=Ac.idx hr hx;exact⟨b,o,hp,hl.1⟩
theorem iA.qh {b:Nat}{T:TypeId}{L:List ByteArray}(h:σ b=some (.cells (L.map Value.string).toArray T (0,0)))(hb:L.length≤4611686018427387904):iA σ (aD b 0) L.length L:=by
 refine⟨rfl,L.map .string,⟨by simp,hb,.inr ⟨b,0,rfl,Av.of fun j v hj=>?_⟩⟩,by simp,fun i x hx=>?_⟩
 ·rw[AXl];exact Af h (by simpa using hj)
 ·have h1:(L.map Value.string)[i]?=some (.string x):=by rw[AXM,hx];rfl
  rw[AYJ,BH h1];rfl
theorem vZ {p:Option Addr}{n c:Nat}{l:List ByteArray}{s:ByteArray}(hg:Gl σ)(hr:iA σ p n l)(h0:0<n)(hc:n≤c)(hs:s.size<4294967281)(hl:∀x∈l,x.size≤4294967296)(h:R (.returned (.bool (isK l s))) σ):
  Spec prog 203 #[.agg #[.slice p n c],.string s] σ R:=by
 have hn:l.length=n:=hr.1;have Tj:=hr.big;obtain⟨a,ha⟩:=hr.ex h0;obtain⟨z,hz⟩:=hr.ex (k:=n-1) (by omega);obtain⟨b,o,rfl,hla⟩:=iA.at hr ha;obtain⟨_,_,he,yp⟩:=iA.at hr hz;cases he;have ea:l.head?.getD ⟨#[]⟩=a:=by rw[AYd,ha];rfl
 have ez:l.getLast?.getD ⟨#[]⟩=z:=by rw[AX8,hn,hz];rfl
 have e1:Int.toNat ((n:Int)-1)=n-1:=by omega
 have hsa:=hl a (AWn ha);have Qo:=hl z (AWn hz);have eK:isK l s=if n=1 then decide (s=a) else if s.size<a.size+z.size∨s.extract 0 a.size≠a∨s.extract (s.size-z.size) s.size≠z then false else j7 l.tail.dropLast (s.extract a.size (s.size-z.size)):=by
  unfold isK;rw[ea,ez,hn]
 rw[eK]at h;refine DA.start fun _=>⟨b,o,rfl,by omega,a,by simpa using hla,by unfold AM;omega,by omega,z,by rw[e1];exact yp,fun h1=>?_,fun h1=>?_⟩
 ·rw[AWl (by omega)]at h;rw[vK];exact h
 rw[AWj (by omega)]at h;refine⟨by unfold AM;omega,fun Am=>?_,fun Vu=>aU ⟨_,rfl,fun hp=>?_,fun hp=>aV (by omega) ⟨_,rfl,fun hq=>?_,fun hq=>?_⟩⟩⟩
 ·rw[AWl (.inl (by omega))]at h;exact h
 ·have:=AW2 hp;rw[AWl (.inr (.inl fun e=>this ⟨by omega,e⟩))]at h;exact h
 ·have:=AW2 hq;rw[AWl (.inr (.inr fun e=>this ⟨by omega,e⟩))]at h;exact h
 have hp':=AWr hp;have hq':=AWr hq;rw[AWj (by
    rintro(h3|h3|h3)
    ·omega
    ·exact h3 hp'.2
    ·exact h3 hq'.2)]at h
 have va:iA σ (Fe (aD b o) 1 c 1) (n-2) (l.tail.dropLast):=by
  have:=Ac.sub (i:=1) (m:=n-2) hr (by decide) (by omega) hc;rwa[AZr,show n-2=l.tail.length-1 by rw[AYI];omega,←List.dropLast_eq_take,AYI,show l.length-1-1=n-2 by omega]at this
 refine⟨by unfold AM;omega,s.extract a.size (s.size-z.size),?_,by unfold AM;omega,by omega,?_⟩
 ·rw[show((s.size:Nat):Int)-((z.size:Nat):Int)=((s.size-z.size:Nat):Int) by omega];exact ACC (by omega) (by omega)
 rw[e1,show n-1-1=n-2 by omega];generalize hu:s.extract a.size (s.size-z.size)=u at *;have hus:u.size<4294967281:=by rw[←hu,AX2];omega
 generalize Fe (aD b o) 1 c 1=q at *;generalize l.tail.dropLast=ms at *;clear hu hla yp ha hz ea ez eK
 suffices H:∀g k:Nat,∀(q':Option Addr) (v:ByteArray),(0<n-2→q'=q)→n-2-k=g→k≤n-2→v.size<4294967281→j7 ms u=j7 (ms.drop k) v→DA.Lp R v q' (n-2) (c-1) ((n-2:Nat):Int) k σ from H (n-2) 0 q u (fun _=>rfl) rfl (AWx _) hus rfl
 have hml:ms.length=n-2:=va.1;intro g
 induction g with
 | zero=>
  intro k q' v hq hgk hk hv he;rw[AXH (by omega)]at he;rw[he]at h;exact DA.LG ⟨fun Am=>by omega,fun _=>h⟩
 | succ g ih=>
  intro k q' v hq hgk hk hv he;have Ew:k<n-2:=by omega
  obtain⟨t,ht⟩:=va.ex Ew;obtain⟨b2,o2,hq2,Am⟩:=iA.at va ht;rw[hq (by omega),hq2];rw[BH ht,j7]at he;refine DA.LG ⟨fun _=>⟨b2,o2,rfl,by omega,t,by simpa using Am,index_spec hg hv ⟨_,rfl,fun AB7=>?_,fun Rc=>?_⟩⟩,fun hh=>by omega⟩
  ·rw[AWl AB7]at he;rw[he]at h;exact h
  ·rw[AWj Rc]at he;have G3:=Lib.index_room v.data.toList t.data.toList (by omega);have hv1:v.data.toList.length=v.size:=AXq (xs:=v.data);have ht1:t.data.toList.length=t.size:=AXq (xs:=t.data);generalize hi:Lib.index v.data.toList t.data.toList=i at *;refine⟨by unfold AM;omega,v.extract (i.toNat+t.size) v.size,?_,AN Ew va.big,ih (k+1) _ _ (fun _=>hq2.symm) (by omega) (by omega) (by rw[AX2];omega) he⟩;rw[show i+((t.size:Nat):Int)=((i.toNat+t.size:Nat):Int) by omega];exact RR (by omega)
def qi (σ:Hp)(vs:List Value)(l:List ByteArray):Prop:=∃p n c,vs=[.slice p n c]∧iA σ p n l∧0<n∧n≤c
theorem qi.mono:Gs qi:=fun _ _ _ _ hx ⟨p,n,c,hv,h1,h2⟩=>⟨p,n,c,hv,h1.mono ETx.mono hx,h2⟩
theorem kM {p:Option Addr}{n c:Nat}{L:List (List ByteArray)}{s:ByteArray}(hg:Gl σ)(hr:Ac 1 qi σ p n L)(hs:s.size<4294967281)(hl:∀l∈L,∀x∈l,x.size≤4294967296)(h:R (.returned (.bool (L.any fun l=>isK l s))) σ):
  Spec prog 184 #[.agg #[.slice p n c],.string s] σ R:=by
 have hn:L.length=n:=hr.1;refine BZ.start fun _=>?_
 suffices H:∀g k:Nat,n-k=g→k≤n→(L.any fun l=>isK l s)=((L.drop k).any fun l=>isK l s)→BZ.II R s p n c n k σ from H n 0 rfl (AWx _) rfl
 intro g
 induction g with
 | zero=>
  intro k hg' hk he;rw[AXH (by omega)]at he;rw[he]at h;exact BZ.A8 ⟨fun Am=>by omega,fun _=>h⟩
 | succ g ih=>
  intro k hg' hk he;have Ew:k<n:=by omega
  obtain⟨l,hx⟩:=hr.ex Ew;obtain⟨b,o,vs,rfl,⟨p1,n1,c1,rfl,h1,h2,h3⟩,Ee⟩:=Ac.idx hr hx;rw[BH hx,List.any_cons]at he;refine BZ.A8 ⟨fun _=>⟨b,o,rfl,by omega,p1,n1,c1,by simpa using Ee,fun _=>vZ hg h1 h2 h3 hs (hl l (AWn hx)) ⟨_,rfl,fun ht=>?_,fun hf=>⟨AN Ew hr.big,ih (k+1) (by omega) (by omega) ?_⟩⟩⟩,fun hh=>by omega⟩
  ·rw[ht]at he;rw[he]at h;exact h
  ·rw[hf]at he;exact he
theorem Pw {c:UInt8}{s:ByteArray}:∀x∈EF c s,x.size≤s.size:=by
 unfold EF;generalize Lib.countB s ⟨#[c]⟩=k
 induction k generalizing s with
 | zero=>intro x hx;rw[Lib.splitB_zero,AWs]at hx;rw[hx];exact AWu _
 | succ k ih=>
  intro x hx;unfold Lib.splitB at hx;split at hx
  ·rw[AWs]at hx;rw[hx];exact AWu _
  ·rcases AWo.1 hx with rfl|hx
   ·rw[AX2];omega
   ·have:=ih x hx;rw[AX2]at this;omega
theorem aW {c:UInt8}{s:ByteArray}:(EF c s).length≤s.size+1∧0<(EF c s).length:=by
 have h1:=Lib.splitB_all ⟨#[c]⟩ (AWu 1) 0 _ s rfl;have h2:=Lib.countB_le ⟨#[c]⟩ (AWu 1) s.size s (AWu _);unfold EF;omega
theorem XA {s:ByteArray}(hg:Gl σ)(hs:s.size≤1000000)(h:∀p n c σ',Ac 1 qi σ' p n ((EF 124 s).map (EF 42))→Ext σ σ'→R (.returned (.agg #[.slice p n c])) σ'):Spec prog 131 #[.string s] σ R:=by
 refine DW.start fun _ _=>T6 hg (by omega) fun b T hb=>⟨_,_,_,rfl,?_⟩;have Bi:Ext σ (σ.set b (.cells ((EF 124 s).map Value.string).toArray T (0,0))):=.set hb;obtain⟨hlen,_⟩:=aW (c:=124) (s:=s);have hr:iA (σ.set b (.cells ((EF 124 s).map Value.string).toArray T (0,0))) (aD b 0) (EF 124 s).length (EF 124 s):=iA.qh (Hp.AA _ _ _) (by omega);generalize AOU:σ.set b (.cells ((EF 124 s).map Value.string).toArray T (0,0))=σ1 at *;have Qo:=Pw (c:=124) (s:=s);generalize EF 124 s=L at *
 suffices H:∀g k:Nat,∀p3 n3 c3 σ',L.length-k=g→k≤L.length→Ej 1 qi (σ1.new σ') p3 n3 c3 ((L.take k).map (EF 42))→Ext σ1 σ'→DW.Aw R none 0 0 p3 n3 c3 (aD b 0) L.length L.length L.length k σ' from H L.length 0 none 0 0 σ1 rfl (AWx _) Ej.nil (.refl _)
 intro g
 induction g with
 | zero=>
  intro k p3 n3 c3 σ' hg' hk ho hx;rw[AWt (by omega)]at ho;exact DW.AY ⟨fun Am=>by omega,fun _=>h p3 n3 c3 σ' ((ho.rd qi.mono).mono qi.mono (Ext.CW _ _)) (Bi.trans hx)⟩
 | succ g ih=>
  intro k p3 n3 c3 σ' hg' hk ho hx;have Ew:k<L.length:=by omega
  obtain⟨x,Vz⟩:=hr.ex Ew;obtain⟨b2,o2,he,W5⟩:=iA.at hr Vz;cases he;have hxs:=Qo x (AWn Vz);have vd:n3=k:=by have:=ho.1;rw[AW9,AW0]at this;omega
  refine DW.AY ⟨fun _=>⟨b,0,rfl,by omega,x,by simpa using hx.ld W5,T6 (hg.mono (Bi.trans hx)) (by omega) fun b4 T4 hb4=>⟨_,_,_,rfl,fun Vk AOV=>?_⟩⟩,fun hh=>by omega⟩;obtain⟨ARc,AJU⟩:=aW (c:=42) (s:=x);have MH:Ext σ' (σ'.set b4 (.cells ((EF 42 x).map Value.string).toArray T4 (0,0))):=.set hb4;have hp3:∀a,p3=some a→σ' a.block≠none:=fun a ha=>by
   have:=ho.block a ha;cases hh:(σ1.new σ') a.block with
   | none=>exact absurd hh this
   | some oo=>rw[(AQ.1 hh).2];simp
  have AOW:(σ1.new (σ'.set b4 (.cells ((EF 42 x).map Value.string).toArray T4 (0,0))) |>.del p3) b4=some (.cells ((EF 42 x).map Value.string).toArray T4 (0,0)):=AR.2 ⟨fun a ha e=>hp3 a ha (by rw[←e];exact hb4),AQ.2 ⟨Ae hx hb4,Hp.AA _ _ _⟩⟩;refine Ej.LZ qi.mono (vs:=[.slice (aD b4 0) (EF 42 x).length (EF 42 x).length]) (x:=EF 42 x) (hx.trans MH) (ho.mono qi.mono (Ext.GQ MH)) rfl (fun u hu=>by rw[AWs]at hu;subst hu;rfl) ⟨_,_,_,rfl,iA.qh AOW (by omega),AJU,AWu _⟩ (by omega) (fun p' c' σ2 Bp A4=>⟨_,_,_,rfl,AN Ew hr.big,ih (k+1) _ _ _ _ (by omega) (by omega) ?_ A4⟩) AOV;rw[Ag Vz,AXG];exact Bp
theorem V8 {p q:Option Addr}{n c m d:Nat}{ms:List Mt}{ls:List Lb}(hg:Gl σ)(hr:Ac 3 Ni σ p n ms)(hq:Dz σ q m ls)(hm:∀x∈ms,x.val.size≤1000000)(gp:∀x∈ls,x.2.size≤1000000)(hk:∀x∈ms,1≤x.kind∧x.kind≤4)(h:∀σ',Ext σ σ'→R (.returned (.bool (ML ms ls))) σ'):
  Spec prog 100 #[.slice p n c,.slice q m d] σ R:=by
 have hl:ms.length=n:=hr.1;refine Dt.start (QN.start fun kb Gn=>⟨_,_,_,rfl,?_⟩);have Bi:=Ext.set (o:=.cells #[.nilFunc,(.func (.func 165) #[] #[]),(.func (.func 166) #[] #[]),(.func (.func 167) #[] #[]),(.func (.func 168) #[] #[])] 198 (0,0)) Gn;have hc:=Hp.AA σ kb (.cells #[.nilFunc,(.func (.func 165) #[] #[]),(.func (.func 166) #[] #[]),(.func (.func 167) #[] #[]),(.func (.func 168) #[] #[])] 198 (0,0));generalize AOU:σ.set kb (.cells #[.nilFunc,(.func (.func 165) #[] #[]),(.func (.func 166) #[] #[]),(.func (.func 167) #[] #[]),(.func (.func 168) #[] #[])] 198 (0,0))=σ1 at *;have ve:∀k:ByteArray,(Dk ls k).size≤1000000:=fun k=>by
  clear hq h
  induction ls with
  | nil=>unfold Dk;decide
  | cons a l ih=>
   unfold Dk;split
   ·exact gp a (by simp)
   ·exact ih fun x hx=>gp x (AWq _ hx)
 suffices H:∀g k:Nat,∀σ',n-k=g→k≤n→Ext σ1 σ'→ML ms ls=ML (ms.drop k) ls→Dt.Aw R q m d (aD kb 0) 5 5 p n c n k σ' from H n 0 σ1 rfl (AWx _) (.refl _) rfl
 intro g
 induction g with
 | zero=>
  intro k σ' hg' Ew hx he;have:=h σ' (Bi.trans hx);rw[he,AXH (by omega)]at this;exact Dt.AY ⟨fun Am=>by omega,fun _=>this⟩
 | succ g ih=>
  intro k σ' hg' iq hx he;have Ew:k<n:=by omega
  obtain⟨x,Vz⟩:=hr.ex Ew;obtain⟨b,o,rfl,Ee⟩:=Ni.at hr Vz;have aX:=AWn Vz;have hk4:=hk x aX;have Vw:ML ms ls=(QZ x ls&&ML (ms.drop (k+1)) ls):=by rw[he,BH Vz];rfl
  have step:∀(t:Bool) (σ2:Hp),t=QZ x ls→Ext σ1 σ2→Ap R (CB fun t35 As=>Bn t35 (R (.B false) As) (AM ((k:Int)+1)∧Dt.Aw R q m d (aD kb 0) 5 5 (aD b o) n c n ((k:Int)+1) As)) (.B t) σ2:=fun t σ2 ht A4=>by
   refine⟨t,rfl,fun hf=>?_,fun htt=>⟨AN Ew hr.big,ih (k+1) σ2 (by omega) (by omega) A4 ?_⟩⟩
   ·have:=h σ2 (Bi.trans A4);rw[Vw,←ht,hf]at this;exact this
   ·rw[Vw,←ht,htt];rfl
  refine Dt.AY ⟨fun _=>⟨b,o,rfl,by omega,x.kind,x.name,x.val,by simpa using(Ee.mono (Bi.trans hx)),fun _=>V5 ⟨_,rfl,fun hf=>?_,fun ht=>⟨kb,0,rfl,by omega,?_⟩⟩⟩,fun hh=>by omega⟩
  ·exact absurd hk4 (AW2 hf)
  have JF:∀σ2 p1 n1 c1,Ac 1 qi σ2 p1 n1 ((EF 124 x.val).map (EF 42))→Ext σ1 σ2→∀R2:Rr,R2 (.returned (.bool (aB x.val (Dk ls x.name)))) σ2→Spec prog 184 #[.agg #[.slice p1 n1 c1],.string (Dk ls x.name)] σ2 R2:=fun σ2 p1 n1 c1 mq A4 R2 aY=>by
   refine kM (hg.mono (Bi.trans A4)) mq (by have:=ve x.name;omega) (fun l hl y hy=>?_) ?_
   ·obtain⟨z,hz,rfl⟩:=AXB.1 hl;have h1:=Pw y hy;have h2:=Pw z hz;have h3:=hm x aX;omega
   ·rw[List.any_map];exact aY
  have row:∀(i:Nat) (f:FuncId) (t:Bool),x.kind=i→(#[.nilFunc,(.func (.func 165) #[] #[]),(.func (.func 166) #[] #[]),(.func (.func 167) #[] #[]),(.func (.func 168) #[] #[])]:Array Value)[i]?=some (.func (.func f) #[] #[])→Enters prog f→t=QZ x ls→
    (∀p1 n1 c1 σ2 (R2:Rr),Ac 1 qi σ2 p1 n1 ((EF 124 x.val).map (EF 42))→Ext σ1 σ2→R2 (.B t) σ2→Spec prog f #[.agg #[.slice p1 n1 c1,.string x.val],.string (Dk ls x.name)] σ2 R2)→
    ∃v24,Hp.ld σ' ⟨kb,(0+Int.toNat x.kind*1),none⟩=some v24∧Spec prog 131 #[.string x.val] σ' (Ap R (fun z AE=>∃Mc Ld Md,z=(.agg #[.slice Mc Ld Md])∧Kp [kb] σ' AE∧Spec prog 132 #[.slice q m d,.string x.name] AE (Ap R (CT fun s34 AJ=>Kp [kb] AE AJ∧∃(f35:Nat) (Yh Yi:Array Value),v24=.func (.func f35) Yh Yi∧Enters prog f35∧Spec prog f35 (Yh++#[.agg #[.slice Mc Ld Md,.string x.val],.string s34]++Yi) AJ (Ap R (CB fun t35 As=>Bn t35 (R (.B false) As) (AM ((k:Int)+1)∧Dt.Aw R q m d (aD kb 0) 5 5 (aD b o) n c n ((k:Int)+1) As)))))) ):=fun i f t hi hv JG ht hf=>by
   refine⟨.func (.func f) #[] #[],?_,?_⟩
   rotate_left
   ·refine XA (hg.mono (Bi.trans hx)) (hm x aX) fun p1 n1 c1 σ2 mq A4=>⟨p1,n1,c1,rfl,Kp.HI A4,U3 (hq.mono BM.mono (Bi.trans (hx.trans A4))) ⟨_,rfl,Kp.HI (.refl _),f,#[],#[],rfl,JG,hf p1 n1 c1 σ2 _ mq (hx.trans A4) (step t σ2 ht (hx.trans A4))⟩⟩
   rw[hi];exact Af (hx _ _ hc) (by simpa using hv)
  have qj:x.kind=1∨x.kind=2∨x.kind=3∨x.kind=4:=by omega
  rcases qj with h1|h1|h1|h1
  ·exact row 1 165 (decide (Dk ls x.name=x.val)) h1 rfl EY.en (by unfold QZ;rw[AWl h1]) fun p1 n1 c1 σ2 R2 _ _ aY=>EY.start fun _=>by rw[vK];exact aY
  ·exact row 2 166 (!decide (Dk ls x.name=x.val)) h1 rfl Eb.en (by unfold QZ;rw[AWj (by omega),AWl h1];simp) fun p1 n1 c1 σ2 R2 _ _ aY=>Eb.start fun _=>by rw[vK];exact aY
  ·exact row 3 167 (aB x.val (Dk ls x.name)) h1 rfl Dh.en (by unfold QZ;rw[AWj (by omega),AWj (by omega),AWl h1]) fun p1 n1 c1 σ2 R2 mq A4 aY=>Dh.start fun _=>JF σ2 p1 n1 c1 mq A4 _ ⟨_,rfl,aY⟩
  ·exact row 4 168 (!aB x.val (Dk ls x.name)) h1 rfl Di.en (by unfold QZ;rw[AWj (by omega),AWj (by omega),AWj (by omega),AWl h1]) fun p1 n1 c1 σ2 R2 mq A4 aY=>Di.start fun _=>JF σ2 p1 n1 c1 mq A4 _ ⟨_,rfl,aY⟩
end
structure Rs where
 m:Nat
 dot:Bool
 nd:Nat
 dp:Int
def Cw (st:Rs)(u:UInt8):Rs:=if u=46 then { st with dot:=true,dp:=st.nd } else if u=48∧st.nd=0 then { st with dp:=st.dp-1 } else { st with m:=st.m*10+(u.toNat-48),nd:=st.nd+1 }
def HE (s:ByteArray):Rs:=s.data.toList.foldl Cw ⟨0,false,0,0⟩
def T7 (r:Rs):Int:=if r.m=0 then 0 else(if r.dot then r.dp else r.nd)-r.nd
def aZ (s:ByteArray):Int:=
 let r:=HE s
 if r.m=0 then(toF 0:Nat) else if T7 r=0 then(toF (FloatKind.f64.nearest r.m):Nat) else(W6 4 (FloatKind.f64.nearest r.m) (T5.getD (-T7 r).toNat 0):Nat)
section
variable {σ σ':Hp}{R:Rr}
theorem Nq {s:ByteArray}(hb:s.size≤4611686018427387904)(h:R (.returned (.I (AV s))) σ):Spec prog 161 #[.string s] σ R:=by
 have hlen:s.data.toList.length=s.size:=AXq (xs:=s.data);refine FN.start ?_
 suffices H:∀g k:Nat,s.size-k=g→k≤s.size→(∀j u,j<k→s.data.toList[j]?=some u→FW u=true)→FN.Ho R s k σ from H s.size 0 rfl (AWx _) (fun j u hj=>by omega)
 intro g
 induction g with
 | zero=>
  intro k hg hk h1;have e:AV s=k:=H8 (by omega) h1 (fun u hu=>by have:=(AWk.1 hu).1;omega);rw[e]at h;exact FN.BJ ⟨fun Am=>by omega,fun _=>h⟩
 | succ g ih=>
  intro k hg hk h1;obtain⟨u,hu,JO⟩:=byte_at (show k<s.size by omega);have stop:FW u=false→R (.returned (.I k)) σ:=fun hd=>by
   have e:AV s=k:=H8 (by omega) h1 (fun v hv=>by rw[JO]at hv;cases hv;exact hd);rw[e]at h;exact h
  refine FN.BJ ⟨fun _=>⟨u,by omega,by simpa using hu,fun kD=>⟨u,by omega,by simpa using hu,fun h57=>?_,fun h57=>stop ?_⟩,fun kD=>stop ?_⟩,fun hh=>by omega⟩
  ·refine⟨AN (by omega:k<s.size) hb,ih (k+1) (by omega) (by omega) fun j v hj hv=>?_⟩;by_cases il:j=k
   ·rw[il,JO]at hv;cases hv;exact AXK (by omega)
   ·exact h1 j v (by omega) hv
  ·exact AXC (by omega)
  ·exact AXC (by omega)
theorem XB {s:ByteArray}(hb:s.size≤4611686018427387904)(ht:F3 s=true)(h:R (.B true) σ):Spec prog 124 #[.string s] σ R:=by
 have hle:=No s;have h0:AV s≠0:=fun e=>by unfold F3 at ht;rw[AWl e]at ht;cases ht
 have h1:¬(1<AV s∧s.data[0]?=some 48):=fun e=>by unfold F3 at ht;rw[AWj h0,AWl e]at ht;cases ht
 obtain⟨u0,hu0,_⟩:=byte_at (show 0<s.size by omega);have Qu:=Iy (u:=u0) (k:=48) (by decide);have tail:Br ((AV s:Int)=(s.size:Int)) (R (.returned (.bool (decide ((AV s:Int)≤15)))) σ) (AM ((AV s:Int)+1)∧∃yk,YF prog (Instr.sliceAt 9 (.string s) (some (.I ((AV s:Int)+1))) none none) σ (.string yk)∧Spec prog 161 #[.string yk] σ (Ap R (CI .i64 fun Yz AE=>∃ym:UInt8,0≤(AV s:Int)∧(ByteArray.data s)[Int.toNat (AV s:Int)]?=some ym∧Br (((ym.toNat:Int):Int)=46) (Br (0<Yz) (AM ((AV s:Int)+1)∧AM (((AV s:Int)+1)+Yz)∧Br (((((AV s:Int)+1)+Yz):Int)=(s.size:Int)) (AM ((AV s:Int)+Yz)∧R (.returned (.bool (decide ((((AV s:Int)+Yz):Int)≤15)))) AE) (R (.B false) AE)) (R (.B false) AE)) (R (.B false) AE)))):=by
  unfold F3 at ht;rw[AWj h0,AWj h1]at ht;refine⟨fun he=>?_,fun he=>⟨by unfold AM;omega,s.extract (AV s+1) s.size,RR (l:=AV s+1) (by omega),?_⟩⟩
  ·rw[AWl (by omega)]at ht;rw[AXK (by have:=AWr ht;omega)];exact h
  ·rw[AWj (by omega)]at ht;have ht:=AWr ht;have AOP:(s.extract (AV s+1) s.size).size=s.size-(AV s+1):=by rw[AX2];omega
   have hm:=No (s.extract (AV s+1) s.size);refine Nq (by omega) ?_;obtain⟨u,hu,_⟩:=byte_at (show AV s<s.size by omega);rw[hu]at ht;have b46:=Iy (u:=u) (k:=46) (by decide);generalize AV (s.extract (AV s+1) s.size)=m at *;refine⟨_,rfl,u,by omega,by simpa using hu,fun aP=>⟨fun h0m=>⟨by unfold AM;omega,by unfold AM;omega,fun hs=>⟨by unfold AM;omega,?_⟩,fun hs=>absurd (by omega) hs⟩,fun h0m=>absurd (by omega) h0m⟩,fun aP=>absurd (b46.2 (by have:=ht.1;simpa using this)) aP⟩;rw[AXK (by omega)];exact h
 refine QV.start (Nq hb ⟨_,rfl,fun hh=>absurd hh (by omega),fun _=>⟨fun h1n=>⟨u0,by omega,by simpa using hu0,fun kD=>?_,fun _=>tail⟩,fun _=>tail⟩⟩);exact absurd ⟨by omega,by rw[hu0,Qu.1 kD];rfl⟩ h1
theorem eV {α:Type}{p:α→Bool}:∀{l:List α} {u:α},u∈l.takeWhile p→p u=true
 | [],u,h=>by cases h
 | a::l,u,h=>by
  unfold List.takeWhile at h;split at h
  ·rename_i ha;rcases AWo.1 h with rfl|h
   ·exact ha
   ·exact eV h
  ·cases h
theorem LM {s:ByteArray}(h:F3 s=true):0<s.size∧s.size≤16∧(∃u,s.data.toList[0]?=some u∧FW u=true)∧(∀u∈s.data.toList,FW u=true∨u=46)∧(s.data.toList.filter FW).length≤15∧(∀j k:Nat,s.data.toList[j]?=some 46→s.data.toList[k]?=some 46→j=k):=by
 have hlen:s.data.toList.length=s.size:=AXq (xs:=s.data);have hle:=No s;have h0:AV s≠0:=fun e=>by unfold F3 at h;rw[AWl e]at h;cases h
 have h1:¬(1<AV s∧s.data[0]?=some 48):=fun e=>by unfold F3 at h;rw[AWj h0,AWl e]at h;cases h
 unfold F3 at h;rw[AWj h0,AWj h1]at h;have hT:s.data.toList.takeWhile FW=s.data.toList.take (AV s):=by
  unfold AV;exact(List.prefix_iff_eq_take.1 (AZn _))
 have XC:∀u∈s.data.toList.take (AV s),FW u=true:=fun u hu=>by rw[←hT]at hu;exact eV hu
 have d46:FW 46=false:=by decide
 have ex0:∃u,s.data.toList[0]?=some u∧FW u=true:=by
  obtain⟨u,_,JO⟩:=byte_at (show 0<s.size by omega);refine⟨u,JO,XC u (AWn (i:=0) ?_)⟩;rw[AW4,AWl (by omega)];exact JO
 by_cases he:AV s=s.size
 ·rw[AWl he]at h;have h15:=AWr h;have JF:∀u∈s.data.toList,FW u=true:=fun u hu=>XC u (by rw[AWt (by omega)];exact hu);refine⟨by omega,by omega,ex0,fun u hu=>.inl (JF u hu),by have:=AXO FW s.data.toList;omega,fun j k hj _=>?_⟩;have:=JF 46 (AWn hj);rw[d46]at this;cases this
 ·rw[AWj he]at h;have hh:=AWr h;generalize hm:AV (s.extract (AV s+1) s.size)=m at hh;have yz:m≤15:=by omega
  have Mm:s.data.toList=s.data.toList.take (AV s)++46::s.data.toList.drop (AV s+1):=by
   obtain⟨u,hu,JO⟩:=byte_at (show AV s<s.size by omega);have e46:u=46:=by have:=hh.1;rw[hu]at this;simpa using this
   rw[←e46,←BH JO,AXr]
  have Ip:(s.extract (AV s+1) s.size).data.toList=s.data.toList.drop (AV s+1):=by
   rw[AZh,Array.toList_extract,AZZ];rw[AWt (by rw[AXS];omega)]
  have zA:∀u∈s.data.toList.drop (AV s+1),FW u=true:=fun u hu=>by
   rw[←Ip]at hu;have hp:=AZn (p:=FW) (l:=(s.extract (AV s+1) s.size).data.toList);have hl:((s.extract (AV s+1) s.size).data.toList.takeWhile FW).length=(s.extract (AV s+1) s.size).data.toList.length:=by
    rw[show((s.extract (AV s+1) s.size).data.toList.takeWhile FW).length=AV (s.extract (AV s+1) s.size) from rfl,hm,Ip,AXS];omega
   have:=hp.eq_of_length hl;rw[←this]at hu;exact eV hu
  refine⟨by omega,by omega,ex0,fun u hu=>?_,?_,fun j k hj hk=>?_⟩
  ·rw[Mm]at hu;rcases AW8.1 hu with hu|hu
   ·exact .inl (XC u hu)
   ·rcases AWo.1 hu with rfl|hu
    ·exact .inr rfl
    ·exact .inl (zA u hu)
  ·rw[Mm,AYK,List.filter_cons,d46];have a1:=AXO FW (s.data.toList.take (AV s));have a2:=AXO FW (s.data.toList.drop (AV s+1));rw[AW0]at a1;rw[AXS]at a2;simp only[AWz];simp;omega
  ·have only:∀i:Nat,s.data.toList[i]?=some 46→i=AV s:=fun i hi=>by
    rw[Mm]at hi;have fS:(s.data.toList.take (AV s)).length=AV s:=by rw[AW0];omega
    rcases AY3 i (AV s) with Am|Am|Am
    ·rw[AXW (by omega)]at hi;have:=XC 46 (AWn hi);rw[d46]at this;cases this
    ·exact Am
    ·rw[AXV (by omega),fS]at hi;obtain⟨d,hd⟩:∃d,i-AV s=d+1:=⟨i-AV s-1,by omega⟩;rw[hd,AXU]at hi;have:=zA 46 (AWn hi);rw[d46]at this;cases this
   rw[only j hj,only k hk]
def eW (s:ByteArray)(k:Nat):Nat:=((s.data.toList.take k).filter FW).length
structure ROk (s:ByteArray)(k:Nat)(r:Rs):Prop where
 is:r=(s.data.toList.take k).foldl Cw ⟨0,false,0,0⟩
 nd:r.nd≤eW s k
 m:r.m<10^r.nd
 lo:(r.nd:Int)-r.dp≤eW s k
 hi:r.dp≤r.nd
 sw:r.dot=true→∃j,j<k∧s.data.toList[j]?=some 46
theorem GF {u:UInt8}(h:FW u=true):48≤u.toNat∧u.toNat≤57:=AWr h
theorem ROk.zero {s:ByteArray}:ROk s 0 ⟨0,false,0,0⟩:=⟨rfl,AWx _,by decide,by simp,by simp,fun h=>by cases h⟩
theorem kN {s:ByteArray}{k:Nat}{u:UInt8}(hu:s.data.toList[k]?=some u):eW s (k+1)=eW s k+if FW u then 1 else 0:=by
 unfold eW;rw[Ag hu,AYK,AWz]
 congr 1
 by_cases h:FW u=true<;>simp[h]
theorem ROk.step {s:ByteArray}{k:Nat}{r:Rs}{u:UInt8}(h:ROk s k r)(hu:s.data.toList[k]?=some u)(hd:FW u=true∨u=46):ROk s (k+1) (Cw r u):=by
 have hc:=kN hu;have his:Cw r u=(s.data.toList.take (k+1)).foldl Cw ⟨0,false,0,0⟩:=by rw[Ag hu,AYN,←h.is];rfl
 have h1:=h.nd;have h2:=h.m;have h3:=h.lo;have h4:=h.hi;by_cases aP:u=46
 ·subst aP;have e:Cw r 46={ r with dot:=true,dp:=r.nd }:=by unfold Cw;rw[AWl rfl]
  rw[show FW 46=false from by decide]at hc;simp only[AYZ,AX9,AX1]at hc;rw[e]at his ⊢;exact⟨his,by rw[hc];exact h1,h2,by dsimp only;omega,Int.le_refl _,fun _=>⟨k,by omega,hu⟩⟩
 have hdg:=hd.resolve_right aP;have hn:=GF hdg;rw[hdg]at hc;simp only[AYY]at hc;by_cases kD:u=48∧r.nd=0
 ·have e:Cw r u={ r with dp:=r.dp-1 }:=by unfold Cw;rw[AWj aP,AWl kD]
  rw[e]at his ⊢;exact⟨his,by dsimp only;omega,h2,by dsimp only;omega,by dsimp only;omega,fun hh=>let ⟨j,h5,h6⟩:=h.sw hh;⟨j,by omega,h6⟩⟩
 ·have e:Cw r u={ r with m:=r.m*10+(u.toNat-48),nd:=r.nd+1 }:=by unfold Cw;rw[AWj aP,AWj kD]
  rw[e]at his ⊢;exact⟨his,by dsimp only;omega,by dsimp only;rw[AZx];omega,by dsimp only;omega,by dsimp only;omega,fun hh=>let ⟨j,h5,h6⟩:=h.sw hh;⟨j,by omega,h6⟩⟩
theorem ql {x:Int}(h0:0≤x)(h1:x<18446744073709551616):IntKind.u64.wrap x=x:=by simp[IntKind.wrap,IntKind.bits,IntKind.signed];omega
theorem AJV {x:Int}(h0:0≤x)(h1:x<256):IntKind.u8.wrap x=x:=by simp[IntKind.wrap,IntKind.bits,IntKind.signed];omega
theorem ad {n:Nat}(h:n≤15):10^n≤1000000000000000:=AXD (Nat.pow_le_pow_right (by decide) h) (by decide)
theorem kO {s:ByteArray}(ht:F3 s=true)(h:R (.T #[.U ((HE s).m:Nat),.I (T7 (HE s)),.bool false,.bool false,.bool false,.I (s.size:Nat),.bool true]) σ):Spec prog 214 #[.string s] σ R:=by
 obtain⟨hs0,ACF,⟨u0,hu0,hd0⟩,hby,vf,AJY⟩:=LM ht;have hlen:s.data.toList.length=s.size:=AXq (xs:=s.data);have hn0:=GF hd0;have hg0:s.data[0]?=some u0:=by rw[←AXh];exact hu0
 have AJZ:∀k,eW s k≤15:=fun k=>AXD (AY6 ((List.take_sublist _ _).filter _)) vf;have XD:AD.pe R s 0 0 false false false 0 false false 10 19 101 false false 0 0 0 σ:=by
  suffices H:∀g k:Nat,∀r:Rs,s.size-k=g→k≤s.size→ROk s k r→AD.pe R s (r.m:Nat) 0 false false false (k:Nat) false false 10 19 101 r.dot (decide (0<k)) (r.nd:Nat) (r.nd:Nat) r.dp σ from H s.size 0 ⟨0,false,0,0⟩ rfl (AWx _) .zero
  intro g
  induction g with
  | zero=>
   intro k r hg hk hr;have iq:k=s.size:=by omega
   have er:r=HE s:=by rw[hr.is,AWt (by omega)];rfl
   have hc:=AJZ k;have h1:=hr.nd;have h3:=hr.lo;have h4:=hr.hi;refine AD.gh ⟨fun Am=>by omega,fun _=>?_⟩;rw[show decide (0<k)=true from AXK (by omega)];have fin:∀x17:Int,(r.m≠0→x17-r.nd=T7 r)→-100≤x17→x17≤100→AD.gb R s (r.m:Nat) 0 false false false (k:Nat) false false 10 101 (r.nd:Nat) x17 σ:=fun x17 hx hlo hhi=>by
    refine AD.po ⟨fun hh=>absurd hh (by decide),fun _=>AD.pq ⟨fun Am=>by omega,fun _=>⟨fun hh=>absurd hh (by decide),fun _=>AD.pz ⟨fun hm=>⟨by unfold AM;omega,AD.Y1 ⟨fun hh=>(by cases hh),fun _=>?_⟩⟩,fun hm=>AD.Y1 ⟨fun hh=>(by cases hh),fun _=>?_⟩⟩⟩⟩⟩
    ·rw[hx (by omega),iq,er];exact h
    ·have hm0:r.m=0:=by omega
     have:T7 (HE s)=0:=by rw[←er];unfold T7;rw[AWl hm0]
     rw[this,←iq,←er]at h;exact h
   refine AD.pn ⟨fun hh=>(by cases hh),fun _=>⟨fun hf=>fin _ (fun hm=>?_) (by omega) (by omega),fun hf=>fin _ (fun hm=>?_) (by omega) (by omega)⟩⟩
   ·unfold T7;rw[AWj hm,hf];rfl
   ·unfold T7;rw[AWj hm,hf];rfl
  | succ g ih=>
   intro k r hg hk hr;obtain⟨u,hu,JO⟩:=byte_at (show k<s.size by omega);have cz:=hby u (AWn JO);have IH:=hr.step JO cz;have MQ:=fun h64=>AD.qA (R:=R) (σ:=σ) (s0:=s) (x2:=((Cw r u).m:Nat)) (x3:=0) (t4:=false) (t5:=false) (t6:=false) (x7:=(k:Nat)) (t8:=false) (t9:=false) (x10:=10) (x11:=19) (x12:=101) (t13:=(Cw r u).dot) (t14:=true) (x15:=((Cw r u).nd:Nat)) (x16:=((Cw r u).nd:Nat)) (x17:=(Cw r u).dp) ⟨h64,by
    have:=ih (k+1) (Cw r u) (by omega) (by omega) IH;rw[show decide (0<k+1)=true from AXK (by omega)]at this
    exact_mod_cast this⟩
   have MQ:=MQ (by unfold AM;omega);have hc:=AJZ k;have h1:=hr.nd;have h3:=hr.lo;have h4:=hr.hi;refine AD.gh ⟨fun _=>⟨u,by omega,by simpa using hu,fun h95=>?_,fun h95=>⟨fun aP=>⟨fun AJa=>?_,fun AJa=>?_⟩,fun aP=>?_⟩⟩,fun hh=>by omega⟩
   ·exfalso;rcases cz with hd|rfl
    ·have:=GF hd;omega
    ·exact absurd h95 (by decide)
   ·exfalso;obtain⟨j,hj,iy⟩:=hr.sw AJa;have e:u=46:=(Iy (k:=46) (by decide)).1 aP;rw[e]at JO;have:=AJY j k iy JO;omega
   ·have e:u=46:=(Iy (k:=46) (by decide)).1 aP;have hk0:0<k:=by
     rcases AZP k with h0|h0
     ·subst h0;rw[hu0]at JO;cases JO;rw[e]at hd0;exact absurd hd0 (by decide)
     ·exact h0
    rw[show decide (0<k)=true from AXK hk0];rw[show Cw r u={ r with dot:=true,dp:=r.nd } by unfold Cw;rw[AWl e]]at MQ;exact MQ
   have hd:=cz.resolve_right fun e=>aP ((Iy (k:=46) (by decide)).2 e);have hn:=GF hd;have zB:u≠46:=fun e=>aP ((Iy (k:=46) (by decide)).2 e);have Qu:=Iy (u:=u) (k:=48) (by decide);refine⟨fun _=>⟨fun _=>?_,fun hh=>by omega⟩,fun hh=>by omega⟩;have AUB:=Nat.lt_of_lt_of_le hr.m (ad (show r.nd≤15 by omega));have digit:¬(u=48∧r.nd=0)→AM ((r.nd:Int)+1)∧Br ((r.nd:Int)<19) (Df (IntKind.u64.wrap ((r.m:Int)*10)) fun x99=>Df (IntKind.u8.wrap ((u.toNat:Int)-48)) fun jw=>Df (IntKind.u64.wrap jw) fun jx=>Df (IntKind.u64.wrap (x99+jx)) fun dn=>AM ((r.nd:Int)+1)∧AD.FQ R s dn 0 false false false (k:Nat) false false 10 19 101 r.dot true ((r.nd:Int)+1) ((r.nd:Int)+1) r.dp σ) (Br (((u.toNat:Int):Int)≠48) (AD.FQ R s (r.m:Nat) 0 false true false (k:Nat) false false 10 19 101 r.dot true ((r.nd:Int)+1) (r.nd:Nat) r.dp σ) (AD.FQ R s (r.m:Nat) 0 false false false (k:Nat) false false 10 19 101 r.dot true ((r.nd:Int)+1) (r.nd:Nat) r.dp σ)):=fun DS=>by
    refine⟨by unfold AM;omega,fun _=>fun x99 e99 jw AOZ jx AOa dn AOb=>⟨by unfold AM;omega,?_⟩,fun hh=>absurd (by omega) hh⟩;rw[ql (by omega) (by omega)]at e99;rw[AJV (by omega) (by omega)]at AOZ;rw[ql (by omega) (by omega)]at AOa;rw[ql (by omega) (by omega)]at AOb;rw[show Cw r u={ r with m:=r.m*10+(u.toNat-48),nd:=r.nd+1 } by unfold Cw;rw[AWj zB,AWj DS]]at MQ;have:dn=((r.m*10+(u.toNat-48):Nat):Int):=by omega
    rw[this]
    exact_mod_cast MQ
   refine⟨fun kD=>⟨fun hz=>⟨by unfold AM;omega,?_⟩,fun hz=>digit fun hh=>hz (by omega)⟩,fun kD=>digit fun hh=>kD (Qu.2 hh.1)⟩;rw[show Cw r u={ r with dp:=r.dp-1 } by unfold Cw;rw[AWj zB,AWl ⟨Qu.1 kD,by omega⟩]]at MQ;exact MQ
 have AOc:AD.Hn R s 0 0 false false false 0 false false σ:=by
  refine AD.G7 ⟨by unfold AM;omega,fun Am=>⟨u0,by omega,by simpa using hg0,fun kD=>⟨by unfold AM;omega,?_⟩,fun _=>AD.IV XD⟩,fun _=>AD.IV XD⟩;obtain⟨u1,hu1,AOd⟩:=byte_at (show 1<s.size by omega);refine⟨u1,by decide,by simpa using hu1,EZ.start fun x4 e4=>⟨_,rfl,fun AOe=>?_,fun _=>AD.IV XD⟩⟩;exfalso;have low:∀i:Fin 12,Go.bits .or .u8 (((46+i.1:Nat)):Int) 32≠120:=by decide
  have Gi:46≤u1.toNat∧u1.toNat<58:=by
   rcases hby u1 (AWn AOd) with hd|rfl
   ·have:=GF hd;omega
   ·decide
  have:=low ⟨u1.toNat-46,by omega⟩;rw[show 46+(u1.toNat-46)=u1.toNat by omega]at this;exact this (by rw[←e4];exact AOe)
 refine AD.start ⟨fun hh=>by omega,fun _=>⟨u0,by decide,by simpa using hg0,fun hh=>by omega,fun _=>⟨fun hh=>by omega,fun _=>AOc⟩⟩⟩
theorem XE {s:ByteArray}(ht:F3 s=true)(h:R (.T #[.float .f64 0,.I 0,.bool false]) σ):Spec prog 213 #[.string s] σ R:=by
 obtain⟨hs0,ACF,⟨u0,hu0,hd0⟩,hby,vf,AJY⟩:=LM ht;have hn0:=GF hd0;have hg0:s.data[0]?=some u0:=by rw[←AXh];exact hu0
 refine Ak.start ⟨fun hh=>by omega,fun _=>⟨u0,by decide,by simpa using hg0,fun hh=>by omega,fun _=>Ak.vF ⟨fun hh=>?_,fun _=>⟨fun hh=>by omega,fun _=>Ak.vG ⟨fun hh=>?_,fun _=>⟨fun hh=>by omega,fun _=>Ak.Ws ⟨fun hh=>?_,fun _=>Ak.vH h⟩⟩⟩⟩⟩⟩⟩
 ·have:=AWr hh;omega
 ·have:=AWr hh;omega
 ·have:=AWr hh;omega
theorem vg {x:Int}:YN prog 223 #[.U x] σ (.float .f64 x.toNat):=fun w _=>by
 rw[run_callFunc_extern Go.Proofs.Tryz.func223 (by kernel_rfl) (by kernel_rfl) (by kernel_rfl) (e:=Extern.MathFloatBits.float64frombits) (by kernel_rfl)];rfl
theorem vh {s:ByteArray}(ht:F3 s=true):-15≤T7 (HE s)∧T7 (HE s)≤0∧(HE s).m<1000000000000000:=by
 obtain⟨hs0,ACF,_,hby,vf,_⟩:=LM ht;have hlen:s.data.toList.length=s.size:=AXq (xs:=s.data);have H:∀k,k≤s.size→ROk s k ((s.data.toList.take k).foldl Cw ⟨0,false,0,0⟩):=fun k=>by
  induction k with
  | zero=>intro _;exact .zero
  | succ k ih=>
   intro hk;obtain⟨u,hu,JO⟩:=byte_at (show k<s.size by omega);have:=(ih (by omega)).step JO (hby u (AWn JO));rwa[Ag JO,AYN]
 have hr:=H s.size (AWu _);rw[AWt (by omega)]at hr;have hc:eW s s.size≤15:=AXD (AY6 ((List.take_sublist _ _).filter _)) vf;have h1:=hr.nd;have h3:=hr.lo;have h4:=hr.hi;have hm:=Nat.lt_of_lt_of_le hr.m (ad (show _≤15 by omega))
 change (HE s).m<_ at hm
 change (HE s).nd≤_ at h1
 change ((HE s).nd:Int)-(HE s).dp≤_ at h3
 change (HE s).dp≤(HE s).nd at h4
 unfold T7;split
 ·exact⟨by decide,by decide,hm⟩
 ·split<;>omega
theorem eX {m:Nat}{e:Int}(hg:Gl σ)(hm:m<1000000000000000)(h1:-15≤e)(h2:e≤0)(h:∀x:Nat,(toF x:Nat)=(if e=0 then toF (FloatKind.f64.nearest m) else W6 4 (FloatKind.f64.nearest m) (T5.getD (-e).toNat 0))→R (.T #[.float .f64 x,.bool true]) σ):
  Spec prog 224 #[.U (m:Nat),.I e,.bool false] σ R:=by
 refine BL.start ⟨52,hg.bits,by decide,fun x11 e11=>⟨fun hh=>?_,fun _=>?_⟩⟩
 ·exfalso;apply hh
  rw[e11];exact Int.ediv_eq_zero_of_lt (by omega) (by show(m:Int)<4503599627370496;omega)
 refine Tq (v:=.float .f64 (FloatKind.f64.nearest m)) (fun w=>by kernel_rfl) ⟨_,rfl,fun hh=>(by cases hh),fun _=>BL.vA ⟨fun h0=>h _ (by rw[AWl h0]),fun h0=>⟨fun hh=>by omega,fun _=>⟨fun _=>⟨fun _=>?_,fun hh=>absurd (by omega) hh⟩,fun hh=>absurd (by omega) hh⟩⟩⟩⟩;obtain⟨b,o,n,c,hp,hn,hl⟩:=hg.pow;refine⟨_,n,c,hp,fun vB e60=>?_⟩;have AOf:vB=-e:=by rw[e60];simp[IntKind.wrap,IntKind.bits,IntKind.signed];omega
 have Am:(-e).toNat<T5.length:=by show _<16;omega
 refine⟨b,o,rfl,by omega,T5.getD (-e).toNat 0,?_,gq fun y hy=>⟨_,rfl,h y (by rw[AWj h0];exact hy)⟩⟩;rw[AOf];exact hl _ _ (by rw[AZU,AWm Am];rfl)
theorem kP {s:ByteArray}(hg:Gl σ)(ht:F3 s=true)(h:∀x:Nat,((toF x:Nat):Int)=aZ s→R (.T #[.float .f64 x,.I (s.size:Nat),.nilIface]) σ):Spec prog 199 #[.string s] σ R:=by
 obtain⟨h1,h2,hm⟩:=vh ht;refine D8.start (XE ht ⟨_,_,_,rfl,fun hh=>(by cases hh),fun _=>kO ht ⟨_,_,_,_,_,_,_,rfl,fun hh=>(by cases hh),fun _=>⟨fun hh=>(by cases hh),fun _=>⟨true,hg.opt,fun _=>CP.start ⟨fun hh=>(by cases hh),fun _=>⟨_,rfl,by decide,fun dZ e67=>?_⟩⟩,fun hh=>(by cases hh)⟩⟩⟩⟩);have AOg:dZ=0:=by rw[e67];rfl
 subst AOg;refine⟨fun h0=>fun x71 e71=>.y vg ⟨_,rfl,h _ ?_⟩,fun h0=>⟨fun hh=>by omega,fun _=>⟨fun hh=>by omega,fun _=>⟨fun _=>eX hg hm h1 h2 fun x hx=>⟨_,_,rfl,fun _=>h x ?_,fun hh=>(by cases hh)⟩,fun hh=>(by cases hh)⟩⟩⟩⟩
 ·have:x71=0:=by rw[e71];decide
  rw[this];unfold aZ;rw[AWl (by omega)];rfl
 ·unfold aZ;dsimp only;rw[AWj (by omega),hx];split<;>rfl
theorem ae {s:ByteArray}(hg:Gl σ)(ht:F3 s=true)(h:R (.T #[.U (aZ s),.bool true]) σ):Spec prog 98 #[.string s] σ R:=by
 obtain⟨_,ACF,_⟩:=LM ht;refine QP.start (XB (by omega) ht ⟨_,rfl,fun hh=>(by cases hh),fun _=>Gb.start (Ct.start (Bf.start ⟨fun hh=>absurd hh (by decide),fun _=>kP hg ht fun x hx=>⟨_,_,_,rfl,_,_,_,rfl,fun hh=>absurd rfl hh,fun _=>⟨_,_,rfl,false,fun w _=>by kernel_rfl,fun hh=>(by cases hh),fun _=>⟨_,_,rfl,F1 ⟨_,rfl,by rw[hx];exact h⟩⟩⟩⟩⟩))⟩)
end
def Aa {α:Type}(s:Nat)(E:Hp→List Value→α→Prop)(σ0 σ:Hp)(p:Option Addr)(n c:Nat)(xs:List α):Prop:=Ej s E σ p n c xs∧Ext σ0 (σ.del p)
section
variable {α:Type}{s bs:Nat}{E:Hp→List Value→α→Prop}{σ0 σ σ':Hp}{p:Option Addr}{n c:Nat}{xs:List α}
theorem Aa.nil (hx:Ext σ0 σ):Aa s E σ0 σ none 0 0 []:=⟨Ej.nil,hx⟩
theorem Aa.mono (hE:Gs E)(h:Aa s E σ0 σ p n c xs)(hx:Ext σ σ'):Aa s E σ0 σ' p n c xs:=⟨h.1.mono hE hx,h.2.trans (hx.del p)⟩
theorem Aa.up (h:Aa s E σ0 σ p n c xs):Ext σ0 σ:=h.2.trans (Ext.JR _ _)
theorem Aa.rd (hE:Gs E)(h:Aa s E σ0 σ p n c xs):Ac s E σ p n xs:=h.1.rd hE
theorem Aa.new (h:Aa s E σ0 σ p n c xs)(hx:Ext σ σ'):Ext (σ.new σ') (σ'.del p):=Ext.tV (fun a ha=>h.1.block a ha)
theorem Aa.LZ {P:Program}{T Et ty:TypeId}{vs:List Value}{x:α}{Φ:Value→Hp→Prop}(hE:Gs E)[I3 P T Et s bs](h:Aa s E σ0 σ p n c xs)(hl:vs.length=s)(h1:Ey vs)(hx:E (σ.del p) vs x)(hb:(n+1)*bs≤140737488355328)
  (hΦ:∀p' c' σ',Aa s E σ0 σ' p' (n+1) c' (xs++[x])→Ext (σ.del p) (σ'.del p')→Φ (.slice p' (n+1) c') σ') {b:Nat} (hn:σ b=none) :
  AH P (Builtin.append_ #[T,T] ty #[.slice p n c,.slice (some ⟨b,0,none⟩) 1 1]) (σ.set b (.cells vs.toArray Et (0,0))) Φ:=by
 obtain⟨⟨hlen,cs,ho,hc⟩,qm⟩:=h;refine CE (ho.mono (.set hn)) ⟨by rw[hl,AZf],by omega,.inr ⟨b,0,rfl,Av.of fun j v hj=>?_⟩⟩ h1 hb fun p' c' σ' Qp Tk=>?_
 ·simp[Hp.ld,Hp.AA,hj]
 ·have e:Ext (σ.del p) (σ'.del p'):=((Ext.set hn).del p).trans Tk;exact hΦ p' c' σ' ⟨⟨by simp[hlen],_,Qp,(hc.snoc hl hx).mono hE e⟩,qm.trans e⟩ e
end
theorem By.one (σ:Hp)(vs:List Value)(x:El)(h:By σ vs x):Ey vs:=by
 obtain⟨p,n,c,rfl,_⟩:=h;intro u hu;simp only[AWo,AXA,AXk]at hu;rcases hu with rfl|rfl<;>rfl
theorem By.at {σ:Hp}{p:Option Addr}{n i:Nat}{l:List El}{x:El}(hr:Ac 2 By σ p n l)(hx:l[i]?=some x):∃b o q m d,p=some ⟨b,o,none⟩∧Av σ b (o+i*2) [.slice q m d,.U x.v]∧Dz σ q m x.ls:=by
 obtain⟨b,o,vs,hp,⟨q,m,d,rfl,h⟩,hl⟩:=Ac.idx hr hx;exact⟨b,o,q,m,d,hp,hl,h⟩
section
variable {σ σ' σ0:Hp}{R:Rr}
theorem qn {p:Option Addr}{n c:Nat}{xs:List Int}{Φ:Value→Hp→Prop}(hr:Ev .u8 σ p n xs)(h:Φ (.string (strOfNums xs)) σ):AH prog (convert 90 9 (.slice p n c)) σ Φ:=by
 refine AH.pu (fun w hs=>?_) h;have h1:=underlying90;have h2:=underlying9;by_cases hn:n=0
 ·subst hn;have hx:xs=[]:=AXo hr.1;subst hx;rw[run_convert_bytes_string w 90 9 _ p 0 c h1 underlying5 h2];cases p<;>simp[Conv.bytesToString,loadCells]<;>rfl
 ·obtain⟨x0,qm⟩:=hr.ex (k:=0) (by omega);obtain⟨b,o,rfl,_⟩:=hr.at qm;refine run_convert_bytes_arg w 90 _ h1 underlying5 b o n c xs hr.1 (fun i hi=>?_) 9 h2;obtain⟨x,hx⟩:=hr.ex hi;obtain⟨b',o',he,hl⟩:=hr.at hx;cases he;have:=cell_of hs hl;simpa[Bl,hx] using this
theorem E9 {p:Option Addr}{n c:Nat}{ls:List Lb}(hr:Dz σ p n ls)(hs:Ai ls)(h:∀σ',Ext σ σ'→R (.returned (.string (EE ls))) σ'):Spec prog 19 #[.slice p n c] σ R:=
 Ye.start (Wz hr hs fun p' n' c' σ' ho hx=>⟨_,_,_,rfl,qn (DT.rd (Ao.mono (Ext.CW _ _) ho)) ⟨_,rfl,h σ' hx⟩⟩)
theorem FA {p:Option Addr}{n c:Nat}{ls:List Lb}(hr:Dz σ p n ls)(hn:n≤1000000)(h:∀p' n' c' σ',Dz (σ.new σ') p' n' (DB ls)→Ext σ σ'→R (.returned (.slice p' n' c')) σ'):Spec prog 104 #[.slice p n c] σ R:=by
 refine Vr.start fun b hb=>?_;have hx:=Ext.set (o:=.cells #[(.string (ByteArray.mk #[95,95,110,97,109,101,95,95]))] 9 (0,0)) hb;refine Iq (ns:=[V0]) (hr.mono BM.mono hx) hn (W0 (Hp.AA _ _ _)) fun p' n' c' σ' ho Tk=>⟨_,_,_,rfl,h p' n' c' σ' ((ho.rd BM.mono).mono BM.mono (Ext.DD hx)) (hx.trans Tk)⟩
theorem V9 {p q:Option Addr}{n c m d:Nat}{ls:List Lb}{ns:List ByteArray}(hr:Dz σ p n ls)(hn:n≤1000000)(hs:Gq 1 σ q m (ns.map .string))
  (h:∀p' n' c' σ',Dz (σ.new σ') p' n' (Y8 ns ls)→Ext σ σ'→R (.returned (.slice p' n' c')) σ'):Spec prog 107 #[.slice p n c,.slice q m d] σ R:=by
 refine SK.start fun b3 hb3=>?_;have CG:Ext σ (σ.set b3 (.cells #[.slice q m d] 49 (0,0))):=.set hb3;refine QX (f:=150) (g:=fun x=>Q3 x.1 ns) Fz.en (hr.mono BM.mono CG) hn (fun σ' x R' hx Mx=>?_) fun p' n' c' σ' ho hx=>⟨_,_,_,rfl,h p' n' c' σ' ?_ (CG.trans hx)⟩
 ·refine Fz.start fun _=>⟨q,m,d,Af (hx _ _ (Hp.AA _ _ _)) rfl,KX (hs.mono (CG.trans hx)) ⟨_,rfl,Mx⟩⟩
 ·exact(ho.rd BM.mono).mono BM.mono (Ext.DD CG)
theorem kQ {p q:Option Addr}{n c m d:Nat}{ls:List Lb}{ns:List ByteArray}(hr:Dz σ p n ls)(hn:n≤1000000)(hs:Gq 1 σ q m (ns.map .string))
  (h:∀p' n' c' σ',Dz (σ.new σ') p' n' (DB (Y9 ns ls))→Ext σ σ'→R (.returned (.slice p' n' c')) σ') {R':Rr} (hR:∀p' n' c' σ',R (.returned (.slice p' n' c')) σ'→R' (.returned (.slice p' n' c')) σ') :
  Spec prog 108 #[.slice p n c,.slice q m d] σ (Ap R' (CS fun SD n15 QM y=>Spec prog 104 #[.slice SD n15 QM] y (Ap R' (CS fun Mv n16 Ln AE=>R' (.returned (.slice Mv n16 Ln)) AE)))):=by
 refine Iq hr hn hs fun p' n' c' σ1 ho hx=>⟨_,_,_,rfl,?_⟩;have hl:n'≤n:=by
  have h1:=ho.1;have h2:=AXO (fun x:Lb=>!Q3 x.1 ns) ls;have h3:ls.length=n:=hr.1;omega
 refine FA ((ho.rd BM.mono).mono BM.mono (Ext.CW _ _)) (by omega) fun p2 n2 c2 σ2 HR A4=>⟨_,_,_,rfl,hR _ _ _ _ (h p2 n2 c2 σ2 (HR.mono BM.mono (Ext.DD hx)) (hx.trans A4))⟩
theorem RS {n:Nd}{p q r:Option Addr}{k c m d j e:Nat}{ls:List Lb}(hr:Dz σ r j ls)(hj:j≤1000000)(hs:Gq 1 σ q m (n.names.map .string))
  (h:∀p' n' c' σ',Dz (σ.new σ') p' n' (My n ls)→Ext σ σ'→R (.returned (.slice p' n' c')) σ'):Spec prog 159 #[M0 n p k c q m d,.slice r j e] σ R:=by
 refine gY.start fun _=>⟨fun h3=>V9 hr hj hs fun p' n' c' σ' RZ hx=>⟨_,_,_,rfl,h p' n' c' σ' ?_ hx⟩,fun h3=>kQ hr hj hs (fun p' n' c' σ' RZ hx=>h p' n' c' σ' ?_ hx) fun _ _ _ _ hh=>hh⟩
 ·unfold My;rw[AWl h3];exact RZ
 ·unfold My;rw[AWj h3];exact RZ
theorem Ai.filter {ls:List Lb}(g:Lb→Bool)(h:Ai ls):Ai (ls.filter g):=⟨AXD (AXO _ _) h.1,fun x hx=>h.2 x (AYA.1 hx).1⟩
theorem Ai.bare {ls:List Lb}(h:Ai ls):Ai (DB ls):=h.filter _
theorem Ai.My {n:Nd}{ls:List Lb}(h:Ai ls):Ai (TwW.My n ls):=by
 unfold TwW.My Y8 DB Y9;split
 ·exact h.filter _
 ·exact(h.filter _).filter _
structure IA (R:Rr)(σ:Hp)(X:Option Vv):Prop where
 ok:∀x σ' p n c q m d,X=some x→Ext σ σ'→Ac 2 By σ' p n x.vec→Ac 2 To σ' q m x.MX→n≤c→m≤d→R (.T #[.agg #[.I x.kind,.U x.v,.slice p n c,.slice q m d],.I 0]) σ'
 no:X=none→∀σ',Ext σ σ'→R (.T #[.agg #[.I 0,.U 0,.N,.N],.I 223]) σ'
theorem IA.kR {X:Option Vv}(h:IA R σ X)(hx:Ext σ σ'):IA R σ' X:=⟨fun x σ2 p n c q m d h0 h1 h2 h3=>h.ok x σ2 p n c q m d h0 (hx.trans h1) h2 h3,fun h0 σ2 h1=>h.no h0 σ2 (hx.trans h1)⟩
theorem IA.U7 {X:Option Vv}(h:IA R σ X):IA (Ap R (fun z y=>∃Yj Yk Yl Ym Yn Yo Yp Yq ov,z=(.tuple #[.agg #[.I Yj,.U Yk,.slice Yl Ym Yn,.slice Yo Yp Yq],.I ov])∧R (.T #[.agg #[.I Yj,.U Yk,.slice Yl Ym Yn,.slice Yo Yp Yq],.I ov]) y)) σ X:=
 ⟨fun x σ' p n c q m d h0 h1 h2 h3 h4 h5=>⟨_,_,_,_,_,_,_,_,_,rfl,h.ok x σ' p n c q m d h0 h1 h2 h3 h4 h5⟩,fun h0 σ' h1=>⟨_,_,_,_,_,_,_,_,_,rfl,h.no h0 σ' h1⟩⟩
theorem kS [Ei]{p q:Option Addr}{n c m d:Nat}{v u:Int}{ls ms:List Lb}(hr:Dz σ p n ls)(hs:Dz σ q m ms)(h:∀σ',Ext σ σ'→R (.returned (.I (AX ls ms))) σ'):Spec prog 148 #[.agg #[.slice p n c,.U v],.agg #[.slice q m d,.U u]] σ R:=
 MB.start fun _ _=>GB hr hs fun σ' hx=>⟨_,rfl,h σ' hx⟩
end
def IB (op:Int)(vs:List Int)(w:Int):Option Int:=
 if op=4 then some (U4 vs) else if op=5 then some (RP 4 (U4 vs) (BN vs.length)) else if op=6 then some (Kd 7 vs) else if op=7 then some (Kd 9 vs) else if op=8 then some (BN vs.length)
 else if op=9 then some (eF (vs.getLast?.getD 0)) else if op=10 then some (RQ vs) else if vs.length<2 then none
 else if op=3 then some (RP 2 (vs.getLast?.getD 0) (vs.head?.getD 0)) else if op=2 then some (Kf vs) else some (RP 4 (Kf vs) w)
def foldI (op:Int)(vs:List Int):Int:=if op=1 then U4 vs else if op=2 then Kd 7 vs else if op=3 then Kd 9 vs else if op=4 then RP 4 (U4 vs) (BN vs.length) else BN vs.length
def IC (op a b:Int):Int×Bool:=if 1≤op∧op≤4 then(RP op a b,true) else(if aG op a b then BN 1 else BN 0,aG op a b)
def FF:Fl:={ num:=aZ,abs:=W7,floor:=Mk,whole:=BN,qN:=qW,over:=IB,fold:=foldI,Ng:=IC,Y7:=ML,cmpL:=AX }
structure Qf (σ:Hp)(ab:Nat)(ss:List Sr)(t:Int):Prop where
 ser:∃p n c,σ.ld ⟨ab,0,none⟩=some (.slice p n c)∧Ac 2 CA σ p n ss
 at_:σ.ld ⟨ab,1,none⟩=some (.I t)
theorem Qf.mono {σ σ':Hp}{ab:Nat}{ss:List Sr}{t:Int}(h:Qf σ ab ss t)(hx:Ext σ σ'):Qf σ' ab ss t:=⟨let ⟨p,n,c,h1,h2⟩:=h.ser;⟨p,n,c,hx.ld h1,h2.mono CA.mono hx⟩,hx.ld h.at_⟩
structure vi (ss:List Sr):Prop where
 ris:∀s∈ss,aM s.ps
 sm:∀s∈ss,Ai s.ls
 len:ss.length≤10000000
structure ACG (n:Nd):Prop where
 mki:∀x∈n.mt,1≤x.kind∧x.kind≤4
 mv:∀x∈n.mt,x.val.size≤1000000
 back:0≤n.back∧n.back<2147483648
 width:0≤n.width∧n.width<2147483648
section
variable {σ σ' σ0:Hp}{R:Rr}
theorem Nr {n:Nd}{a p q l:Option Addr}{k c m d j e:Nat}(hg:Gl σ)(ht:F3 n.text=true)(h:IA R σ (some ⟨1,aZ n.text,[],[]⟩)):Spec prog 75 #[.pointer a,M0 n p k c q m d,.slice l j e] σ R:=
 Bt.start fun _ _=>ae hg ht ⟨_,_,rfl,h.ok _ σ none 0 0 none 0 0 rfl (.refl _) Ac.nil Ac.nil (AWu _) (AWu _)⟩
theorem HF {n:Nd}{p q:Option Addr}{k c m d:Nat}{a b:Int}(h:R (.T #[.U (IC n.op a b).1,.bool (IC n.op a b).2]) σ):Spec prog 114 #[M0 n p k c q m d,.U a,.U b] σ R:=by
 refine QK.start fun _=>Iu ?_;unfold IC at h;by_cases h1:1≤n.op∧n.op≤4
 ·rw[AWl h1]at h ⊢;exact⟨_,_,rfl,fun _=>h,fun hh=>(by cases hh)⟩
 ·rw[AWj h1]at h ⊢;exact⟨_,_,rfl,fun hh=>(by cases hh),fun _=>Iw ⟨_,_,rfl,eI ⟨_,rfl,h⟩⟩⟩
theorem GG {α β:Type}{f:α→Option β}{xs:List α}{k:Nat}{x:α}(hx:xs[k]?=some x):(xs.take (k+1)).filterMap f=(xs.take k).filterMap f++(f x).toList:=by
 rw[Ag hx,List.filterMap_append];cases h:f x<;>simp[List.filterMap_cons,h]
theorem af {n:Nd}{p q l:Option Addr}{k c m d j e ab:Nat}{ss:List Sr}{t:Int}(hA:Qf σ ab ss t)(hg:Gl σ)(hm:Ac 3 Ni σ p k n.mt)(hS:vi ss)(hN:ACG n)(ht:-4611686018427387904≤t∧t≤4611686018427387904)
  (h:IA R σ (some ⟨2,0,RN FF n ss t,[]⟩)):Spec prog 76 #[.pointer (some ⟨ab,0,none⟩),M0 n p k c q m d,.slice l j e] σ R:=by
 obtain⟨pss,Q4,vj,Ee,hr⟩:=hA.ser;have hl:ss.length=Q4:=hr.1;have hlen:=hS.len;have hb:=hN.back
 let f:Sr→Option El:=fun s=>match (FU s.ps (t-n.back-300) (t-n.back)).getLast? with
  | none=>none
  | some p=>if p.2=Hv∨FF.Y7 n.mt s.ls=false then none else some ⟨s.ls,p.2⟩
 have hf:RN FF n ss t=ss.filterMap f:=rfl;rw[hf]at h;refine Ah.start fun _ _ _=>⟨ab,0,rfl,pss,Q4,vj,Ee,?_⟩
 suffices H:∀g i:Nat,∀p8 n8 c8 σ',Q4-i=g→i≤Q4→Aa 2 By σ σ' p8 n8 c8 ((ss.take i).filterMap f)→Ah.Aw R (aD ab 0) n.kind n.op n.text p k c n.width n.back n.EH q m d n.bool n.parts 0 0 none 0 0 none 0 0 2 0 p8 n8 c8 none 0 0 pss Q4 vj Q4 i σ' from H Q4 0 none 0 0 σ rfl (AWx _) (Aa.nil (.refl _))
 intro g
 induction g with
 | zero=>
  intro i p8 n8 c8 σ' hgi hi ho;rw[AWt (by omega)]at ho;exact Ah.AY ⟨fun Am=>by omega,fun _=>h.ok _ σ' p8 n8 c8 none 0 0 rfl ho.up (ho.rd By.mono) Ac.nil (by obtain⟨cs,Ui,_⟩:=ho.1.2;exact Ao.cap Ui) (AWu _)⟩
 | succ g ih=>
  intro i p8 n8 c8 σ' hgi hi ho;have Bj:i<Q4:=by omega
  obtain⟨s,hs⟩:=hr.ex Bj;obtain⟨b,o,p1,n1,c1,q1,m1,d1,rfl,gp,h1,h2,h3⟩:=CA.at hr hs;have YG:=hS.sm s (AWn hs);have ACI:=hS.ris s (AWn hs);have hx:=ho.up;have Mo:n8≤i:=by
   have:=ho.1.1;have h9:=AXP f (ss.take i);rw[AW0]at h9;omega
  have next:∀p9 n9 c9 σ2,Aa 2 By σ σ2 p9 n9 c9 ((ss.take i).filterMap f++(f s).toList)→Ah.Lp R (aD ab 0) n.kind n.op n.text p k c n.width n.back n.EH q m d n.bool n.parts 0 0 none 0 0 none 0 0 2 0 p9 n9 c9 none 0 0 (aD b o) Q4 vj Q4 i σ2:=fun p9 n9 c9 σ2 Bp=>
   Ah.LG ⟨AN Bj hr.big,ih (i+1) _ _ _ _ (by omega) (by omega) (by rw[GG hs];exact Bp)⟩
  refine Ah.AY ⟨fun _=>⟨b,o,rfl,by omega,p1,n1,c1,q1,m1,d1,by simpa using gp.mono hx,fun _=>⟨ab,0,rfl,t,hx.ld hA.at_,by unfold AM;omega,by unfold AM;omega,t,hx.ld hA.at_,by unfold AM;omega,Qd (h2.mono C1.mono hx) h3 ACI fun q2 m2 d2 HR bU=>⟨q2,m2,d2,rfl,fun h0=>?_,fun h0=>?_⟩⟩⟩,fun hh=>by omega⟩
  ·refine next _ _ _ _ ?_
   have e:f s=none:=by
    show(match (FU s.ps (t-n.back-300) (t-n.back)).getLast? with | none=>none | some p=>_)=none
    have lW:(FU s.ps (t-n.back-300) (t-n.back)).length=m2:=HR.1;rw[AXE.1 (show(FU s.ps (t-n.back-300) (t-n.back)).length=0 by omega)];rfl
   rw[e];simpa using ho
  have lW:(FU s.ps (t-n.back-300) (t-n.back)).length=m2:=HR.1;obtain⟨y,hy⟩:=HR.ex (k:=m2-1) (by omega);obtain⟨b2,o2,rfl,Xl⟩:=C1.at HR hy;have e1:Int.toNat ((m2:Int)-1)=m2-1:=by omega
  have Tj:=HR.big;have AJc:(FU s.ps (t-n.back-300) (t-n.back)).getLast?=some y:=by rw[AX8,lW,hy]
  have ef:f s=if y.2=Hv∨ML n.mt s.ls=false then none else some ⟨s.ls,y.2⟩:=by
   show(match (FU s.ps (t-n.back-300) (t-n.back)).getLast? with | none=>none | some p=>_)=_
   rw[AJc];rfl
  refine⟨by unfold AM;omega,b2,o2,rfl,by omega,y.2,by rw[e1];exact Xl.2.1,fun IH=>?_,fun IH=>V8 ((hg.mono hx)) (hm.mono Ni.mono hx) (h1.mono BM.mono hx) hN.mv (fun x hx=>by have:=(YG.2 x hx).2;omega) hN.mki fun σ2 A4=>⟨_,rfl,fun hf=>?_,fun htr=>?_⟩⟩
  ·refine next _ _ _ _ ?_
   rw[ef,AWl (.inl IH)];simpa using ho
  ·refine next _ _ _ _ ?_
   rw[ef,AWl (.inr hf)];simpa using ho.mono By.mono A4
  ·refine⟨by unfold AM;omega,by omega,y.2,by rw[e1];exact A4.ld Xl.2.1,fun b73 ACJ=>?_⟩;have Bp:=ho.mono By.mono A4;have he:By (σ2.del p8) [.slice p1 n1 c1,.U y.2] ⟨s.ls,y.2⟩:=⟨p1,n1,c1,rfl,h1.mono BM.mono Bp.2⟩;refine Aa.LZ By.mono Bp rfl (By.one _ _ _ he) he (by omega) (fun p' c' σ3 Db _=>⟨_,_,_,rfl,next _ _ _ _ ?_⟩) ACJ;rw[ef,AWj (by
     rintro(h5|h5)
     ·exact IH h5
     ·rw[htr]at h5;cases h5)]
   exact Db
theorem Ao.qo {s:Nat}{p q:Option Addr}{n c:Nat}{cs:List Value}(ho:Ao s σ q n c cs)(h:∀a,q=some a→∀a',p=some a'→a.block≠a'.block):Ao s (σ.del p) q n c cs:=
 ⟨ho.1,ho.2.1,ho.2.2.imp id fun⟨b',o',arr,T,hp,hb,r⟩=>⟨b',o',arr,T,hp,AR.2 ⟨fun a' Hb=>h _ hp a' Hb,hb⟩,r⟩⟩
theorem Aa.sep {α:Type}{s:Nat}{E:Hp→List Value→α→Prop}{p q:Option Addr}{n c m d:Nat}{xs:List α}{ys:List Int}(h:Aa s E σ0 σ p n c xs)(g:Aa 1 (Qm .u64) σ σ' q m d ys):Ev .u64 (σ'.del p) q m ys∧m≤d:=by
 obtain⟨⟨_,cs,ho,hc⟩,hx⟩:=g;have hp:=h.1.block;refine⟨?_,Ao.cap ho⟩;have Lu:=bp.1 hc;subst Lu;refine Ev.lz (Ao.rd (Ao.qo ho fun a ha a' Hb e=>?_));cases hh:σ a'.block with
 | none=>exact hp a' Hb hh
 | some u=>exact(AR.1 (hx _ _ hh)).1 a ha e.symm
theorem To.one (σ:Hp)(vs:List Value)(x:Rg)(h:To σ vs x):Ey vs:=by
 obtain⟨p,n,c,q,m,d,rfl,_⟩:=h;intro u hu;simp only[AWo,AXA,AXk]at hu;rcases hu with rfl|rfl<;>rfl
theorem eY {n:Nd}{p q l:Option Addr}{k c m d j e ab:Nat}{ss:List Sr}{t:Int}(hA:Qf σ ab ss t)(hg:Gl σ)(hm:Ac 3 Ni σ p k n.mt)(hS:vi ss)(hN:ACG n)(ht:-4611686018427387904≤t∧t≤4611686018427387904)(hpl:∀s∈ss,s.ps.length≤1000000000)
  (h:IA R σ (some ⟨3,BN n.width,[],W2 FF n ss t⟩)):Spec prog 77 #[.pointer (some ⟨ab,0,none⟩),M0 n p k c q m d,.slice l j e] σ R:=by
 obtain⟨pss,Q4,vj,Ee,hr⟩:=hA.ser;have hl:ss.length=Q4:=hr.1;have hlen:=hS.len;have hb:=hN.back;have hw:=hN.width
 let fv:Sr→List Int:=fun s=>((FU s.ps (t-n.back-n.width) (t-n.back)).filter fun p=>decide (p.2≠Hv)).map Prod.snd
 let f:Sr→Option Rg:=fun s=>bif !(fv s).isEmpty&&FF.Y7 n.mt s.ls then some ⟨s.ls,fv s⟩ else none
 have hf:W2 FF n ss t=ss.filterMap f:=rfl;rw[hf]at h;refine AT.start fun _ _=>Ix ⟨_,rfl,fun _=>⟨ab,0,rfl,pss,Q4,vj,Ee,?_⟩⟩
 suffices H:∀g i:Nat,∀p8 n8 c8 σ',Q4-i=g→i≤Q4→Aa 2 To σ σ' p8 n8 c8 ((ss.take i).filterMap f)→AT.Aw R (aD ab 0) n.kind n.op n.text p k c n.width n.back n.EH q m d n.bool n.parts 0 0 none 0 0 none 0 0 3 (BN n.width) none 0 0 p8 n8 c8 pss Q4 vj Q4 i σ' from H Q4 0 none 0 0 σ rfl (AWx _) (Aa.nil (.refl _))
 intro g
 induction g with
 | zero=>
  intro i p8 n8 c8 σ' hgi hi ho;rw[AWt (by omega)]at ho;exact AT.AY ⟨fun Am=>by omega,fun _=>h.ok _ σ' none 0 0 p8 n8 c8 rfl ho.up Ac.nil (ho.rd To.mono) (AWu _) (by obtain⟨cs,Ui,_⟩:=ho.1.2;exact Ao.cap Ui)⟩
 | succ g ih=>
  intro i p8 n8 c8 σ' hgi hi ho;have Bj:i<Q4:=by omega
  obtain⟨s,hs⟩:=hr.ex Bj;obtain⟨b,o,p1,n1,c1,q1,m1,d1,rfl,gp,h1,h2,h3⟩:=CA.at hr hs;have YG:=hS.sm s (AWn hs);have ACI:=hS.ris s (AWn hs);have AUH:=hpl s (AWn hs);have hx:=ho.up;have Mo:n8≤i:=by
   have:=ho.1.1;have h9:=AXP f (ss.take i);rw[AW0]at h9;omega
  have next:∀p9 n9 c9 σ2,Aa 2 To σ σ2 p9 n9 c9 ((ss.take i).filterMap f++(f s).toList)→AT.Ll R (aD ab 0) n.kind n.op n.text p k c n.width n.back n.EH q m d n.bool n.parts 0 0 none 0 0 none 0 0 3 (BN n.width) none 0 0 p9 n9 c9 (aD b o) Q4 vj Q4 i σ2:=fun p9 n9 c9 σ2 Bp=>
   AT.IV ⟨AN Bj hr.big,ih (i+1) _ _ _ _ (by omega) (by omega) (by rw[GG hs];exact Bp)⟩
  refine AT.AY ⟨fun _=>⟨b,o,rfl,by omega,p1,n1,c1,q1,m1,d1,by simpa using gp.mono hx,fun _=>⟨ab,0,rfl,t,hx.ld hA.at_,by unfold AM;omega,by unfold AM;omega,t,hx.ld hA.at_,by unfold AM;omega,Qd (h2.mono C1.mono hx) h3 ACI fun q2 m2 d2 HR bU=>⟨q2,m2,d2,rfl,?_⟩⟩⟩,fun hh=>by omega⟩;have lW:(FU s.ps (t-n.back-n.width) (t-n.back)).length=m2:=HR.1;have yz:m2≤1000000000:=by
   have:=AXO (fun p:Int×Int=>decide (t-n.back-n.width<p.1)&&decide (p.1≤t-n.back)) s.ps;rw[←lW];unfold FU;omega
  have hfv:fv s=((FU s.ps (t-n.back-n.width) (t-n.back)).filter fun p=>decide (p.2≠Hv)).map Prod.snd:=rfl;generalize FU s.ps (t-n.back-n.width) (t-n.back)=ps at *
  let gv:Pt→Option Int:=fun p=>if p.2≠Hv then some p.2 else none
  have hgv:∀l:List Pt,((l.filter fun p=>decide (p.2≠Hv)).map Prod.snd)=l.filterMap gv:=fun l=>by
   induction l with
   | nil=>rfl
   | cons a l ih=>
    by_cases ha:a.2≠Hv
    ·rw[List.filter_cons_of_pos (by simpa using ha),AXa,ih,List.filterMap_cons_some (by show(if a.2≠Hv then some a.2 else none)=some a.2;rw[AWl ha])]
    ·rw[List.filter_cons_of_neg (by simpa using ha),ih,List.filterMap_cons_none (by show(if a.2≠Hv then some a.2 else none)=none;rw[AWj ha])]
  rw[hgv]at hfv
  suffices H2:∀g2 i2:Nat,∀q2' Kz n11 LA σ2,(0<m2→q2'=q2)→m2-i2=g2→i2≤m2→Aa 1 (Qm .u64) σ' σ2 Kz n11 LA ((ps.take i2).filterMap gv)→AT.Hn R (aD ab 0) n.kind n.op n.text p k c n.width n.back n.EH q m d n.bool n.parts 0 0 none 0 0 none 0 0 3 (BN n.width) none 0 0 p8 n8 c8 p1 n1 c1 q1 m1 d1 Kz n11 LA (aD b o) Q4 vj Q4 i q2' m2 d2 m2 i2 σ2 from H2 m2 0 q2 none 0 0 σ' (fun _=>rfl) rfl (AWx _) (Aa.nil (.refl _))
  intro g2
  induction g2 with
  | zero=>
   intro i2 q2' Kz n11 LA σ2 hq kT hi2 Bp;rw[AWt (by omega),←hfv]at Bp;have hlv:(fv s).length=n11:=Bp.1.1;have Ui:=ho.mono To.mono Bp.up;refine AT.G7 ⟨fun Am=>by omega,fun _=>⟨fun Rc=>V8 (hg.mono (hx.trans Bp.up)) (hm.mono Ni.mono (hx.trans Bp.up)) (h1.mono BM.mono (hx.trans Bp.up)) hN.mv (fun x hx=>by have:=(YG.2 x hx).2;omega) hN.mki fun σ3 CG=>⟨_,rfl,fun htr=>?_,fun hfa=>?_⟩,fun Rc=>?_⟩⟩
   ·intro b77 AOk;obtain⟨hv1,hv2⟩:=ho.sep (Bp.mono (Qm.mono _) CG);have Db:=Ui.mono To.mono CG;have he:To (σ3.del p8) [.slice p1 n1 c1,.slice Kz n11 LA] ⟨s.ls,fv s⟩:=⟨p1,n1,c1,Kz,n11,LA,rfl,h1.mono BM.mono Db.2,hv1,hv2⟩;refine Aa.LZ To.mono Db rfl (To.one _ _ _ he) he (by omega) (fun p' c' σ4 KW _=>⟨_,_,_,rfl,next _ _ _ _ ?_⟩) AOk;have ef:f s=some ⟨s.ls,fv s⟩:=by
     show(bif !(fv s).isEmpty&&ML n.mt s.ls then some _ else none)=_
     rw[htr];cases hfe:fv s with
     | nil=>rw[hfe]at hlv;simp at hlv;omega
     | cons a l=>rfl
    rw[ef];exact KW
   ·refine next _ _ _ _ ?_
    have ef:f s=none:=by
     show(bif !(fv s).isEmpty&&ML n.mt s.ls then some _ else none)=_
     rw[hfa,AZo];rfl
    rw[ef];simpa using Ui.mono To.mono CG
   ·refine next _ _ _ _ ?_
    have ef:f s=none:=by
     show(bif !(fv s).isEmpty&&ML n.mt s.ls then some _ else none)=_
     rw[AXE.1 (show(fv s).length=0 by omega)];rfl
    rw[ef];simpa using Ui
  | succ g2 ih2=>
   intro i2 q2' Kz n11 LA σ2 hq kT hi2 Bp;have AJd:i2<m2:=by omega
   obtain⟨y,hy⟩:=HR.ex AJd;obtain⟨b2,o2,tF,Xl⟩:=C1.at HR hy;have vk:n11≤i2:=by
    have:=Bp.1.1;have h9:=AXP gv (ps.take i2);rw[AW0]at h9;omega
   rw[hq (by omega),tF];have nx:∀p9 n9 c9 σ3,Aa 1 (Qm .u64) σ' σ3 p9 n9 c9 ((ps.take i2).filterMap gv++(gv y).toList)→AT.ua R (aD ab 0) n.kind n.op n.text p k c n.width n.back n.EH q m d n.bool n.parts 0 0 none 0 0 none 0 0 3 (BN n.width) none 0 0 p8 n8 c8 p1 n1 c1 q1 m1 d1 p9 n9 c9 (aD b o) Q4 vj Q4 i (aD b2 o2) m2 d2 m2 i2 σ3:=fun p9 n9 c9 σ3 Db=>
    AT.ub ⟨AN AJd HR.big,ih2 (i2+1) _ _ _ _ _ (fun _=>tF.symm) (by omega) (by omega) (by rw[GG hy];exact Db)⟩
   refine AT.G7 ⟨fun _=>⟨b2,o2,rfl,by omega,y.1,y.2,by simpa using Xl.mono Bp.up,fun _=>⟨fun Ay=>fun b58 AOm=>?_,fun heq=>nx _ _ _ _ ?_⟩⟩,fun hh=>by omega⟩
   ·refine Aa.LZ (Qm.mono _) Bp (vs:=[.U y.2]) (x:=y.2) rfl (fun u hu=>by rw[AWs]at hu;subst hu;rfl) rfl (by omega) (fun p' c' σ4 KW _=>⟨_,_,_,rfl,nx _ _ _ _ ?_⟩) AOm;rw[show gv y=some y.2 from AWl Ay];exact KW
   ·rw[show gv y=none from AWj (by simpa using heq)];simpa using Bp
end
def fnT:List (Nat×Nat):=[(175,145),(175,143),(175,141),(173,109),(173,112),(173,110),(173,111),(173,113),(173,137),(173,139)]
def T8 (σ:Hp)(fb:Nat):Prop:=∀i g f,fnT[i]?=some (g,f)→∃b T,σ.ld ⟨fb,i+1,none⟩=some (.func (.func g) #[] #[.pointer (aD b 0)])∧σ b=some (.cells #[.func (.func f) #[] #[]] T (0,0))
theorem T8.mono {σ σ':Hp}{fb:Nat}(h:T8 σ fb)(hx:Ext σ σ'):T8 σ' fb:=fun i g f hi=>let ⟨b,T,h1,h2⟩:=h i g f hi;⟨b,T,hx.ld h1,hx _ _ h2⟩
section
variable {σ σ' σ0:Hp}{R:Rr}
theorem T9 (h:∀fb σ',T8 (σ.new σ') fb→Ext σ σ'→R (.returned (.slice (aD fb 0) 11 11)) σ'):Spec prog 105 #[] σ R:=by
 refine KS.start ?_;refine CR.start fun b1 h1=>⟨_,_,_,rfl,?_⟩;refine CR.start fun b2 h2=>⟨_,_,_,rfl,?_⟩;refine CR.start fun b3 h3=>⟨_,_,_,rfl,?_⟩;refine CR.start fun b4 h4=>⟨_,_,_,rfl,?_⟩;refine CR.start fun b5 h5=>⟨_,_,_,rfl,?_⟩;refine CR.start fun b6 h6=>⟨_,_,_,rfl,?_⟩;refine CR.start fun b7 h7=>⟨_,_,_,rfl,?_⟩;refine NH.start fun b8 h8=>⟨_,_,_,rfl,?_⟩;refine NH.start fun b9 h9=>⟨_,_,_,rfl,?_⟩;refine NH.start fun CC Y6=>⟨_,_,_,rfl,?_⟩;intro fb hfb;have x10:=Ext.set (o:=.cells #[.nilFunc,.func (.func 175) #[] #[.pointer (aD CC 0)],.func (.func 175) #[] #[.pointer (aD b9 0)],.func (.func 175) #[] #[.pointer (aD b8 0)],.func (.func 173) #[] #[.pointer (aD b1 0)],.func (.func 173) #[] #[.pointer (aD b2 0)],.func (.func 173) #[] #[.pointer (aD b3 0)],.func (.func 173) #[] #[.pointer (aD b4 0)],.func (.func 173) #[] #[.pointer (aD b5 0)],.func (.func 173) #[] #[.pointer (aD b6 0)],.func (.func 173) #[] #[.pointer (aD b7 0)]] 174 (0,0)) hfb;have NI:=x10 _ _ (Hp.AA _ CC _);have x9:=(Ext.set Y6).trans x10;have c9:=x9 _ _ (Hp.AA _ b9 _);have x8:=(Ext.set h9).trans x9;have c8:=x8 _ _ (Hp.AA _ b8 _);have x7:=(Ext.set h8).trans x8;have c7:=x7 _ _ (Hp.AA _ b7 _);have x6:=(Ext.set h7).trans x7;have c6:=x6 _ _ (Hp.AA _ b6 _);have x5:=(Ext.set h6).trans x6;have c5:=x5 _ _ (Hp.AA _ b5 _);have x4:=(Ext.set h5).trans x5;have c4:=x4 _ _ (Hp.AA _ b4 _);have x3:=(Ext.set h4).trans x4;have c3:=x3 _ _ (Hp.AA _ b3 _);have x2:=(Ext.set h3).trans x3;have c2:=x2 _ _ (Hp.AA _ b2 _);have x1:=(Ext.set h2).trans x2;have c1:=x1 _ _ (Hp.AA _ b1 _);have x0:=(Ext.set h1).trans x1;have n1:σ b1=none:=h1;have z1:=Ext.set (o:=.cells #[.func (.func 109) #[] #[]] 180 (0,0)) h1;have n2:σ b2=none:=Ae z1 h2;have z2:=z1.trans (Ext.set (o:=.cells #[.func (.func 112) #[] #[]] 180 (0,0)) h2);have n3:σ b3=none:=Ae z2 h3;have z3:=z2.trans (Ext.set (o:=.cells #[.func (.func 110) #[] #[]] 180 (0,0)) h3);have n4:σ b4=none:=Ae z3 h4;have z4:=z3.trans (Ext.set (o:=.cells #[.func (.func 111) #[] #[]] 180 (0,0)) h4);have n5:σ b5=none:=Ae z4 h5;have z5:=z4.trans (Ext.set (o:=.cells #[.func (.func 113) #[] #[]] 180 (0,0)) h5);have n6:σ b6=none:=Ae z5 h6;have z6:=z5.trans (Ext.set (o:=.cells #[.func (.func 137) #[] #[]] 180 (0,0)) h6);have n7:σ b7=none:=Ae z6 h7;have z7:=z6.trans (Ext.set (o:=.cells #[.func (.func 139) #[] #[]] 180 (0,0)) h7);have n8:σ b8=none:=Ae z7 h8;have z8:=z7.trans (Ext.set (o:=.cells #[.func (.func 141) #[] #[]] 211 (0,0)) h8);have n9:σ b9=none:=Ae z8 h9;have z9:=z8.trans (Ext.set (o:=.cells #[.func (.func 143) #[] #[]] 211 (0,0)) h9);have n10:σ CC=none:=Ae z9 Y6;have z10:=z9.trans (Ext.set (o:=.cells #[.func (.func 145) #[] #[]] 211 (0,0)) Y6);have nf:σ fb=none:=Ae z10 hfb;refine h fb _ (fun i g f hi=>?_) x0;clear x0 x1 x2 x3 x4 x5 x6 x7 x8 x9 x10 z1 z2 z3 z4 z5 z6 z7 z8 z9 z10
 match i,hi with
 | 0,hi=>cases hi;exact⟨CC,_,Af (AQ.2 ⟨nf,Hp.AA _ _ _⟩) rfl,AQ.2 ⟨n10,NI⟩⟩
 | 1,hi=>cases hi;exact⟨b9,_,Af (AQ.2 ⟨nf,Hp.AA _ _ _⟩) rfl,AQ.2 ⟨n9,c9⟩⟩
 | 2,hi=>cases hi;exact⟨b8,_,Af (AQ.2 ⟨nf,Hp.AA _ _ _⟩) rfl,AQ.2 ⟨n8,c8⟩⟩
 | 3,hi=>cases hi;exact⟨b1,_,Af (AQ.2 ⟨nf,Hp.AA _ _ _⟩) rfl,AQ.2 ⟨n1,c1⟩⟩
 | 4,hi=>cases hi;exact⟨b2,_,Af (AQ.2 ⟨nf,Hp.AA _ _ _⟩) rfl,AQ.2 ⟨n2,c2⟩⟩
 | 5,hi=>cases hi;exact⟨b3,_,Af (AQ.2 ⟨nf,Hp.AA _ _ _⟩) rfl,AQ.2 ⟨n3,c3⟩⟩
 | 6,hi=>cases hi;exact⟨b4,_,Af (AQ.2 ⟨nf,Hp.AA _ _ _⟩) rfl,AQ.2 ⟨n4,c4⟩⟩
 | 7,hi=>cases hi;exact⟨b5,_,Af (AQ.2 ⟨nf,Hp.AA _ _ _⟩) rfl,AQ.2 ⟨n5,c5⟩⟩
 | 8,hi=>cases hi;exact⟨b6,_,Af (AQ.2 ⟨nf,Hp.AA _ _ _⟩) rfl,AQ.2 ⟨n6,c6⟩⟩
 | 9,hi=>cases hi;exact⟨b7,_,Af (AQ.2 ⟨nf,Hp.AA _ _ _⟩) rfl,AQ.2 ⟨n7,c7⟩⟩
theorem qp {p:Option Addr}{m c:Nat}{vs:List Int}(hr:Ev .u64 σ p m vs)(h0:0<m)(h:R (.returned (.U (eF (vs.getLast?.getD 0)))) σ):Spec prog 137 #[.slice p m c] σ R:=by
 have hl:vs.length=m:=hr.1;have Tj:=hr.big;obtain⟨z,hz⟩:=hr.ex (k:=m-1) (by omega);obtain⟨b,o,rfl,yp⟩:=Ev.at hr hz;rw[AX8,hl,hz]at h;exact DF.start ⟨by unfold AM;omega,b,o,rfl,by omega,z,by rw[show Int.toNat ((m:Int)-1)=m-1 by omega];exact yp,FX ⟨_,rfl,h⟩⟩
theorem qq {p q:Option Addr}{m c j e:Nat}{vs:List Int}(hr:Ev .u64 σ p m vs)(h0:0<m)(h:R (.returned (.U (RP 2 (vs.getLast?.getD 0) (vs.head?.getD 0)))) σ):Spec prog 141 #[.slice p m c,.slice q j e] σ R:=by
 have hl:vs.length=m:=hr.1;have Tj:=hr.big;obtain⟨z,hz⟩:=hr.ex (k:=m-1) (by omega);obtain⟨y,hy⟩:=hr.ex (k:=0) (by omega);obtain⟨b,o,rfl,yp⟩:=Ev.at hr hz;obtain⟨_,_,he,Xl⟩:=Ev.at hr hy;cases he;rw[AX8,hl,hz,AYd,hy]at h;exact DK.start ⟨by unfold AM;omega,b,o,rfl,by omega,z,by rw[show Int.toNat ((m:Int)-1)=m-1 by omega];exact yp,by omega,y,by simpa using Xl,aI ⟨_,rfl,h⟩⟩
theorem kU {n:Nd}{p q r:Option Addr}{k c m d lb lo j e fb u v:Nat}{vs:List Int}{w:Int}(ho:1≤n.op∧n.op≤10)(hF:T8 σ fb)(hr:Ev .u64 σ r u vs)(h0:0<u)(hc:u≤v)(hj:0<j)(hw:σ.ld ⟨lb,lo+1,none⟩=some (.U w))
  (h:∀x ok σ',(IB n.op vs w=some x∧ok=true∨IB n.op vs w=none∧ok=false)→Ext σ σ'→R (.T #[.U x,.bool ok]) σ') :
  ∃v58,Hp.ld σ ⟨fb,(0+Int.toNat n.op*1),none⟩=some v58∧∃(f63:Nat) (KG KH:Array Value),v58=.func (.func f63) KG KH∧Enters prog f63∧Spec prog f63 (KG++#[.slice r u v,M0 n p k c q m d,.slice (some ⟨lb,lo,none⟩) j e]++KH) σ R:=by
 have hl:vs.length=u:=hr.1;have always:∀(i f:Nat) (x:Int),n.op=i+1→fnT[i]?=some (173,f)→IB n.op vs w=some x→Enters prog f→(∀R':Rr,(∀σ',Ext σ σ'→R' (.returned (.U x)) σ')→Spec prog f #[.slice r u v] σ R')→
   ∃v58,Hp.ld σ ⟨fb,(0+Int.toNat n.op*1),none⟩=some v58∧∃(f63:Nat) (KG KH:Array Value),v58=.func (.func f63) KG KH∧Enters prog f63∧Spec prog f63 (KG++#[.slice r u v,M0 n p k c q m d,.slice (some ⟨lb,lo,none⟩) j e]++KH) σ R:=fun i f x hi hf hx JG hs=>by
  obtain⟨b,T,h1,h2⟩:=hF i _ _ hf;refine⟨_,by rw[show 0+Int.toNat n.op*1=i+1 by omega];exact h1,173,#[],#[.pointer (aD b 0)],rfl,FD.en,FD.start fun _=>⟨_,Af h2 rfl,f,#[],#[],rfl,JG,hs _ fun σ' Tk=>⟨_,rfl,h x true σ' (.inl ⟨hx,rfl⟩) Tk⟩⟩⟩
 have two:∀(i f:Nat) (x:Int),n.op=i+1→fnT[i]?=some (175,f)→(IB n.op vs w=if vs.length<2 then none else some x)→Enters prog f→(2≤u→∀R':Rr,R' (.returned (.U x)) σ→Spec prog f #[.slice r u v,.slice (some ⟨lb,lo,none⟩) j e] σ R')→
   ∃v58,Hp.ld σ ⟨fb,(0+Int.toNat n.op*1),none⟩=some v58∧∃(f63:Nat) (KG KH:Array Value),v58=.func (.func f63) KG KH∧Enters prog f63∧Spec prog f63 (KG++#[.slice r u v,M0 n p k c q m d,.slice (some ⟨lb,lo,none⟩) j e]++KH) σ R:=fun i f x hi hf hx JG hs=>by
  obtain⟨b,T,h1,h2⟩:=hF i _ _ hf;refine⟨_,by rw[show 0+Int.toNat n.op*1=i+1 by omega];exact h1,175,#[],#[.pointer (aD b 0)],rfl,IW.en,IW.start fun _=>⟨fun Am=>h 0 false σ (.inr ⟨by rw[hx,AWl (by omega)],rfl⟩) (.refl _),fun Vu=>⟨_,Af h2 rfl,f,#[],#[],rfl,JG,hs (by omega) _ ⟨_,rfl,h x true σ (.inl ⟨by rw[hx,AWj (by omega)],rfl⟩) (.refl _)⟩⟩⟩⟩
 have qj:n.op=1∨n.op=2∨n.op=3∨n.op=4∨n.op=5∨n.op=6∨n.op=7∨n.op=8∨n.op=9∨n.op=10:=by omega
 rcases qj with e1|e1|e1|e1|e1|e1|e1|e1|e1|e1
 ·exact two 0 _ (RP 4 (Kf vs) w) e1 rfl (by rw[e1];rfl) DM.en fun h2 R' Mx=>DM.start ⟨lb,lo,rfl,by omega,w,hw,Tu hr h0 ⟨_,rfl,Kp.HI (.refl _),aJ ⟨_,rfl,Mx⟩⟩⟩
 ·exact two 1 _ (Kf vs) e1 rfl (by rw[e1];rfl) DH.en fun h2 R' Mx=>DH.start (Tu hr h0 ⟨_,rfl,Mx⟩)
 ·exact two 2 _ (RP 2 (vs.getLast?.getD 0) (vs.head?.getD 0)) e1 rfl (by rw[e1];rfl) DK.en fun h2 R' Mx=>qq hr h0 Mx
 ·exact always 3 _ (U4 vs) e1 rfl (by rw[e1];rfl) FP.en fun R' Mx=>Ts hr h0 hc (Mx σ (.refl _))
 ·exact always 4 _ (RP 4 (U4 vs) (BN vs.length)) e1 rfl (by rw[e1];rfl) EW.en fun R' Mx=>Nn hr h0 hc (by rw[←hl];exact Mx σ (.refl _))
 ·exact always 5 _ (Kd 7 vs) e1 rfl (by rw[e1];rfl) Gc.en fun R' Mx=>Tt hr h0 hc (Mx σ (.refl _))
 ·exact always 6 _ (Kd 9 vs) e1 rfl (by rw[e1];rfl) DV.en fun R' Mx=>MP hr h0 hc (Mx σ (.refl _))
 ·exact always 7 _ (BN vs.length) e1 rfl (by rw[e1];rfl) Gd.en fun R' Mx=>Ml (by rw[←hl];exact Mx σ (.refl _))
 ·exact always 8 _ (eF (vs.getLast?.getD 0)) e1 rfl (by rw[e1];rfl) DF.en fun R' Mx=>qp hr h0 (Mx σ (.refl _))
 ·exact always 9 _ (RQ vs) e1 rfl (by rw[e1];rfl) BU.en fun R' Mx=>U6 hr h0 hc Mx
end
theorem Spec.qt {P:Program}{f:FuncId}{args:Array Value}{R:Ending→Prop}{σ0:Hp}(h:@Spec ⟨True⟩ P f args σ0 (fun e σ'=>R e∧Ext σ0 σ')){w:World}(hs:Sat σ0 w):
  Calls P f args w (fun e w'=>R e∧∃q os,w'={ w with heap:=w.heap++os,drawn:=w.drawn+q }):=by
 refine(h w (fun b=>b<w.heap.size∧σ0 b=none) hs (fun b hb=>hb)).mono ?_
 rintro e w' ⟨σ,⟨hr,hx⟩,hf⟩
 refine⟨hr,?_⟩;obtain⟨h1,h2,h30⟩:=@Fin.os ⟨True⟩ _ _ _ _ hf;have hfp:=@Fin.CV ⟨True⟩ _ _ _ _ hf;have hfs:=@Fin.sat ⟨True⟩ _ _ _ _ hf;have hfg:=@Fin.grow ⟨True⟩ _ _ _ _ hf;have hfo:=@Fin.out ⟨True⟩ _ _ _ _ hf;obtain⟨q,h3⟩:=h30 trivial;refine⟨q,w'.heap.extract w.heap.size w'.heap.size,?_⟩;have hh:w'.heap=w.heap++w'.heap.extract w.heap.size w'.heap.size:=by
  apply Array.ext_getElem?
  intro i;rw[AYM];split
  ·rename_i hi;cases hσ:σ0 i with
   | none=>exact(hfp i ⟨hi,hσ⟩).2
   | some o=>exact(hfs i o (hx i o hσ)).trans (hs i o hσ).symm
  ·rename_i hi;rw[AZi];have:=hfg;split
   ·congr 1;omega
   ·rename_i h2;exact AY4 (by omega)
 cases w with
 | mk heap tape drawn os output=>
  cases w' with
  | mk ARm ARn AOo os' ALi=>
   have h4:=hfo;simp only at h1 h2 h3 h4 hh ⊢;subst h1 h2 h3 h4;rw[←hh]
theorem UA {α:Type}{enc:α→List Value}{k:Nat}(hk:∀x,(enc x).length=k)(h0:0<k):∀(xs:List α) (j:Nat),(xs.flatMap enc)[j]?=(xs[j/k]?).bind fun x=>(enc x)[j%k]?
 | [],j=>by simp
 | x::xs,j=>by
  rw[AX4,AXt,hk];by_cases hj:j<k
  ·rw[AWl hj,Nat.div_eq_of_lt hj,Nat.mod_eq_of_lt hj];simp
  ·rw[AWj hj,UA hk h0 xs,show j/k=(j-k)/k+1 by rw[←Nat.add_div_right _ h0];congr 1;omega,show(j-k)%k=j%k by rw[Nat.mod_eq_sub_mod (by omega:j≥k)]];simp
theorem LN {α:Type}{enc:α→List Value}{k:Nat}(hk:∀x,(enc x).length=k):∀(xs:List α),(xs.flatMap enc).length=xs.length*k
 | []=>by simp
 | x::xs=>by rw[AX4,AWz,LN hk xs,hk,AWw,AXs];omega
theorem WA {α:Type}[Inhabited α]{enc:α→List Value}(hk:∀x,(enc x).length=2)(d:List α)(j:Nat)(hj:j<d.length*2):(d.flatMap enc)[j]?=some (Sort.flatK enc 2 d.toArray)[j]! := by
 rw[UA (k:=2) hk (by decide),Sort.get_flatK _ _ _ _ (by simpa using hj)];have Am:j/2<d.length:=by omega
 rw[AWm Am];have h2:j%2<(enc d[j/2]).length:=by rw[hk];exact AYy _ (by decide)
 simp only[AYj];rw[AWm h2];have e1:d.toArray[j/2]! = d[j/2]:=by simp[Am]
 rw[e1,AZ0 (enc d[j/2]) (j%2) h2]
theorem XF (F arr:Array Value)(o j:Nat):(Sort.putCells id o F arr)[j]?=if o≤j∧j<o+F.size then(arr[j]?).map fun _=>F[j-o]! else arr[j]?:=by
 simp only[Sort.putCells,Array.getElem?_mapIdx,id];by_cases h:o≤j∧j<o+F.size
 ·rw[AWl h];simp[h]
 ·rw[AWj h];cases arr[j]? with
  | none=>rfl
  | some v=>simp only[AXT];rw[AWj h]
section
variable {σ:Hp}{R:Rr}
theorem iB {ρ:Go.Shelf.Ren}(L:Go.Proofs.SlLaysF0.n6 prog ρ)(aE:∀w,(isAgg (ρ.t 24)).run prog w=.ok true w)(zE:∀w,(Go.sizeOf (ρ.t 24)).run prog w=.ok 2 w){α:Type}[Inhabited α]{enc:α→List Value}(hk:∀x,(enc x).length=2)(h1:∀x,∀v∈enc x,v.oneCell'=true){cf:α→α→Int}(hO:Sort.SWO (Proofs.ltOf cf)){g:Nat}
  (eg:∀args w,(callFunc g args).run prog w=.ok (.enter g args) w) {b o m d:Nat} {ds:List α} (ho:Ao 2 σ (some ⟨b,o,none⟩) m d (ds.flatMap enc)) (hm:ds.length=m) (hm0:m≠0) (Qo:m<4611686018427387904)
  (vQ:∀w,Sat (σ.del (some ⟨b,o,none⟩)) w→∀x y,Calls prog g #[.agg (enc x).toArray,.agg (enc y).toArray] w fun e w'=>e=.returned (.I (cf x y))∧∃n os,w'=Sort.grow (w.drewN n) os)
  (h:∀(σ':Hp) (ds':List α),ds'.Perm ds→ds'.Pairwise (fun x y=>Proofs.ltOf cf y x=false)→Ao 2 σ' (some ⟨b,o,none⟩) m d (ds'.flatMap enc)→Ext (σ.del (some ⟨b,o,none⟩)) (σ'.del (some ⟨b,o,none⟩))→R (.T #[]) σ') :
  Spec prog (ρ.f 6) #[.slice (some ⟨b,o,none⟩) m d,.func (.func g) #[] #[]] σ R:=by
 intro w F hs hF;obtain⟨arr,T,hb,hw,bU,tR,Lu⟩:∃arr T,σ b=some (.cells arr T (0,0))∧w.heap[b]?=some (.cells arr T (0,0))∧m≤d∧o+d*2≤arr.size∧(arr.toList.drop o).take (m*2)=ds.flatMap enc:=by
  rcases ho.2.2 with ⟨h1,h2,_⟩|⟨b',o',arr,T,hp,hb,bU,Qo,Lu⟩
  ·exact absurd h2 hm0
  ·cases hp;exact⟨arr,T,hb,hs _ _ hb,bU,Qo,Lu⟩
 have AJe:∀j,j<m*2→arr[o+j]?=some (Sort.flatK enc 2 ds.toArray)[j]! := fun j hj=>by
  rw[←WA hk ds j (by omega),←Lu,AW4,AWl hj,AXQ,AXh]
 have hH:Sort.HoldsK enc 2 w b o ds.toArray:=fun j hj=>by
  have iy:j<m*2:=by simpa[hm] using hj
  refine⟨?_,by simp[World.frozen?,hw]⟩;simp only[World.cell?,hw,id];simpa using AJe j iy
 have hblk:b<w.heap.size:=(AW3.1 hw).1;have M4:∀(n:Nat) (dk:Array α) (os:Array Obj) k,(Proofs.sortWorldK enc 2 w b o n dk os).heap[k]?=if k<w.heap.size then(if b=k then(w.heap[k]?).map (Sort.onCells (Sort.putCells id o (Sort.flatK enc 2 dk))) else w.heap[k]?) else os[k-w.heap.size]?:=fun n dk os k=>by
  simp only[Proofs.sortWorldK,Sort.grow,Sort.putRowK,Sort.putRow,Sort.mapBlock,Sort.ahead,AYM,Array.size_modify,AZA]
 have hcm:Proofs.CmpLays prog g #[] enc 2 cf b o ds.toArray.size w:=fun n os dk _ x y=>vQ _ (fun k u hk=>by
  obtain⟨Gn,hku⟩:=AR.1 hk;have AOq:b≠k:=fun e=>Gn _ rfl e.symm;have:=hs k u hku;rw[M4,AWl (AW3.1 this).1,AWj AOq];exact this) x y
 have AJf:=Proofs.AnyQ.slices_SortFunc L 2 aE zE enc hk h1 cf hO g #[] b o d ds.toArray w eg hcm hH hblk (by simpa[hm] using Qo);rw[show ds.toArray.size=m by simpa using hm]at AJf;refine AJf.mono ?_
 rintro e w' ⟨rfl,d',n,os,qu,AJg,rfl⟩
 obtain⟨hp1,_,hp3⟩:=qu;have hd':d'.size=m:=by rw[hp1];simpa using hm
 have hP:d'.toList.Perm ds:=by
  rw[show m=d'.size from hd'.symm]at hp3;rw[AZO]at hp3;rw[show d'.size=ds.toArray.size from hp1,AZO]at hp3;exact hp3
 have fp:d'.toList.length=m:=by simpa using hd'
 have hF2:(Sort.flatK enc 2 d').size=m*2:=by simp[hd']
 have j5:d'.toList.Pairwise (fun x y=>Proofs.ltOf cf y x=false):=AXX.2 fun i j hi hj I2=>by
  have iy:j<d'.size:=by simpa using hj
  have Bj:i<d'.size:=by simpa using hi
  have:=AJg i j (AWx _) I2 (by omega);rw[AZ0 d' j iy,AZ0 d' i Bj]at this;simpa using this
 have cz:((Sort.putCells id o (Sort.flatK enc 2 d') arr).toList.drop o).take (m*2)=d'.toList.flatMap enc:=by
  refine AXm fun j=>?_;rw[AW4];by_cases hj:j<m*2
  ·have:=WA hk d'.toList j (by omega);rw[AWl hj,AXQ,AXh,XF,AWl (by omega),this,AJe j hj];simp
  ·rw[AWj hj,AX6 (by rw[LN (k:=2) hk,fp];omega)]
 refine⟨σ.set b (.cells (Sort.putCells id o (Sort.flatK enc 2 d') arr) T (0,0)),h _ d'.toList hP j5 ⟨by rw[LN (k:=2) hk,fp],by have:=ho.2.1;omega,.inr ⟨b,o,_,T,rfl,Hp.AA _ _ _,bU,by simpa[Sort.putCells] using tR,cz⟩⟩ (by rw[Hp.IM];exact Ext.refl _),?_⟩
 ·refine⟨fun k u hk=>?_,fun k hk=>?_,⟨rfl,rfl,fun _=>⟨n,rfl⟩⟩,rfl,by simp[Proofs.sortWorldK,Sort.grow,Sort.putRowK,Sort.putRow,Sort.mapBlock,Sort.ahead]⟩
  ·rw[M4];by_cases Gn:k=b
   ·subst Gn;rw[Hp.AA]at hk;cases hk;rw[AWl hblk,AWl rfl,hw];rfl
   ·rw[Hp.AF Gn]at hk;have:=hs k u hk;rw[AWl (AW3.1 this).1,AWj (AXn Gn)];exact this
  ·have Gn:k≠b:=fun e=>by have:=(hF k hk).2;rw[e,hb]at this;cases this
   refine⟨by rw[Hp.AF Gn];exact(hF k hk).2,?_⟩;rw[M4,AWl (hF k hk).1,AWj (AXn Gn)]
end
end TwW
end
section
namespace Go.Proofs
open Go.Shelf
def Tryz.UB:Go.Shelf.Ren:=⟨fun|6=>147|15=>38|14=>176|28=>61|29=>62|20=>190|21=>191|22=>192|23=>193|24=>194|25=>195|26=>196|27=>197|46=>210|47=>83|48=>84|49=>211|50=>212|57=>235|n=>n,fun|22=>60|24=>64|25=>213|3=>3|39=>94|0=>0|53=>132|55=>38|4=>4|46=>126|45=>125|50=>65|5=>5|9=>9|66=>150|70=>154|76=>186|77=>187|n=>n,fun|n=>n⟩
theorem Tryz.qw:Go.Proofs.SlLaysF0.n6 Tryz.prog Tryz.UB:={
 mixed:=by kernel_rfl
 f6:=⟨Tryz.f147.name,by decide,Tryz.func147.trans (AWy some (by kernel_rfl))⟩
 f14:=⟨Tryz.f176.name,by decide,Tryz.func176.trans (AWy some (by kernel_rfl))⟩
 f15:=Tryz.func38.trans (AWy some (by kernel_rfl))
 f20:=⟨Tryz.f190.name,by decide,Tryz.func190.trans (AWy some (by kernel_rfl))⟩
 f21:=⟨Tryz.f191.name,by decide,Tryz.func191.trans (AWy some (by kernel_rfl))⟩
 f22:=⟨Tryz.f192.name,by decide,Tryz.func192.trans (AWy some (by kernel_rfl))⟩
 f23:=⟨Tryz.f193.name,by decide,Tryz.func193.trans (AWy some (by kernel_rfl))⟩
 f24:=⟨Tryz.f194.name,by decide,Tryz.func194.trans (AWy some (by kernel_rfl))⟩
 f25:=⟨Tryz.f195.name,by decide,Tryz.func195.trans (AWy some (by kernel_rfl))⟩
 f26:=⟨Tryz.f196.name,by decide,Tryz.func196.trans (AWy some (by kernel_rfl))⟩
 f27:=⟨Tryz.f197.name,by decide,Tryz.func197.trans (AWy some (by kernel_rfl))⟩
 f28:=Tryz.func61.trans (AWy some (by kernel_rfl))
 f29:=Tryz.func62.trans (AWy some (by kernel_rfl))
 f46:=⟨Tryz.f210.name,by decide,Tryz.func210.trans (AWy some (by kernel_rfl))⟩
 f47:=Tryz.func83.trans (AWy some (by kernel_rfl))
 f48:=Tryz.func84.trans (AWy some (by kernel_rfl))
 f49:=⟨Tryz.f211.name,by decide,Tryz.func211.trans (AWy some (by kernel_rfl))⟩
 f50:=⟨Tryz.f212.name,by decide,Tryz.func212.trans (AWy some (by kernel_rfl))⟩
 f57:=⟨Tryz.f235.name,by decide,Tryz.func235.trans (AWy some (by kernel_rfl))⟩
 t0:=Tryz.underlying0
 a0:=Tryz.isAgg0
 z0:=Tryz.sizeOf0
 v0:=Tryz.zeroValue0
 t3:=Tryz.underlying3
 a3:=Tryz.isAgg3
 z3:=Tryz.sizeOf3
 v3:=Tryz.zeroValue3
 t4:=Tryz.underlying4
 a4:=Tryz.isAgg4
 z4:=Tryz.sizeOf4
 v4:=Tryz.zeroValue4
 t5:=Tryz.underlying5
 a5:=Tryz.isAgg5
 z5:=Tryz.sizeOf5
 v5:=Tryz.zeroValue5
 t9:=Tryz.underlying9
 a9:=Tryz.isAgg9
 z9:=Tryz.sizeOf9
 v9:=Tryz.zeroValue9
 t22:=Tryz.underlying60
 a22:=Tryz.isAgg60
 z22:=Tryz.sizeOf60
 v22:=Tryz.zeroValue60
 t25:=Tryz.underlying213
 a25:=Tryz.isAgg213
 z25:=Tryz.sizeOf213
 v25:=Tryz.zeroValue213
 t39:=Tryz.underlying94
 a39:=Tryz.isAgg94
 z39:=Tryz.sizeOf94
 v39:=Tryz.zeroValue94
 t45:=Tryz.underlying125
 a45:=Tryz.isAgg125
 z45:=Tryz.sizeOf125
 v45:=Tryz.zeroValue125
 t46:=Tryz.underlying126
 a46:=Tryz.isAgg126
 z46:=Tryz.sizeOf126
 v46:=Tryz.zeroValue126
 t50:=Tryz.underlying65
 a50:=Tryz.isAgg65
 z50:=Tryz.sizeOf65
 v50:=Tryz.zeroValue65
 t53:=Tryz.underlying132
 a53:=Tryz.isAgg132
 z53:=Tryz.sizeOf132
 v53:=Tryz.zeroValue132
 t55:=Tryz.underlying38
 a55:=Tryz.isAgg38
 z55:=Tryz.sizeOf38
 v55:=Tryz.zeroValue38
 t66:=Tryz.underlying150
 a66:=Tryz.isAgg150
 z66:=Tryz.sizeOf150
 v66:=Tryz.zeroValue150
 t70:=Tryz.underlying154
 a70:=Tryz.isAgg154
 z70:=Tryz.sizeOf154
 v70:=Tryz.zeroValue154
 t76:=Tryz.underlying186
 a76:=Tryz.isAgg186
 z76:=Tryz.sizeOf186
 v76:=Tryz.zeroValue186
 t77:=Tryz.underlying187
 a77:=Tryz.isAgg187
 z77:=Tryz.sizeOf187
 v77:=Tryz.zeroValue187 }
def Tryz.UC:Go.Shelf.Ren:=⟨fun|6=>20|15=>38|14=>37|28=>61|29=>62|20=>53|21=>54|22=>55|23=>56|24=>57|25=>58|26=>59|27=>60|46=>82|47=>83|48=>84|49=>85|50=>86|57=>121|n=>n,fun|22=>23|24=>45|25=>69|3=>3|39=>94|0=>0|53=>132|55=>38|4=>4|46=>126|45=>125|50=>65|5=>5|9=>9|66=>150|70=>154|76=>186|77=>187|n=>n,fun|n=>n⟩
theorem Tryz.qz:Go.Proofs.SlLaysF0.n6 Tryz.prog Tryz.UC:={
 mixed:=by kernel_rfl
 f6:=⟨Tryz.f20.name,by decide,Tryz.func20.trans (AWy some (by kernel_rfl))⟩
 f14:=⟨Tryz.f37.name,by decide,Tryz.func37.trans (AWy some (by kernel_rfl))⟩
 f15:=Tryz.func38.trans (AWy some (by kernel_rfl))
 f20:=⟨Tryz.f53.name,by decide,Tryz.func53.trans (AWy some (by kernel_rfl))⟩
 f21:=⟨Tryz.f54.name,by decide,Tryz.func54.trans (AWy some (by kernel_rfl))⟩
 f22:=⟨Tryz.f55.name,by decide,Tryz.func55.trans (AWy some (by kernel_rfl))⟩
 f23:=⟨Tryz.f56.name,by decide,Tryz.func56.trans (AWy some (by kernel_rfl))⟩
 f24:=⟨Tryz.f57.name,by decide,Tryz.func57.trans (AWy some (by kernel_rfl))⟩
 f25:=⟨Tryz.f58.name,by decide,Tryz.func58.trans (AWy some (by kernel_rfl))⟩
 f26:=⟨Tryz.f59.name,by decide,Tryz.func59.trans (AWy some (by kernel_rfl))⟩
 f27:=⟨Tryz.f60.name,by decide,Tryz.func60.trans (AWy some (by kernel_rfl))⟩
 f28:=Tryz.func61.trans (AWy some (by kernel_rfl))
 f29:=Tryz.func62.trans (AWy some (by kernel_rfl))
 f46:=⟨Tryz.f82.name,by decide,Tryz.func82.trans (AWy some (by kernel_rfl))⟩
 f47:=Tryz.func83.trans (AWy some (by kernel_rfl))
 f48:=Tryz.func84.trans (AWy some (by kernel_rfl))
 f49:=⟨Tryz.f85.name,by decide,Tryz.func85.trans (AWy some (by kernel_rfl))⟩
 f50:=⟨Tryz.f86.name,by decide,Tryz.func86.trans (AWy some (by kernel_rfl))⟩
 f57:=⟨Tryz.f121.name,by decide,Tryz.func121.trans (AWy some (by kernel_rfl))⟩
 t0:=Tryz.underlying0
 a0:=Tryz.isAgg0
 z0:=Tryz.sizeOf0
 v0:=Tryz.zeroValue0
 t3:=Tryz.underlying3
 a3:=Tryz.isAgg3
 z3:=Tryz.sizeOf3
 v3:=Tryz.zeroValue3
 t4:=Tryz.underlying4
 a4:=Tryz.isAgg4
 z4:=Tryz.sizeOf4
 v4:=Tryz.zeroValue4
 t5:=Tryz.underlying5
 a5:=Tryz.isAgg5
 z5:=Tryz.sizeOf5
 v5:=Tryz.zeroValue5
 t9:=Tryz.underlying9
 a9:=Tryz.isAgg9
 z9:=Tryz.sizeOf9
 v9:=Tryz.zeroValue9
 t22:=Tryz.underlying23
 a22:=Tryz.isAgg23
 z22:=Tryz.sizeOf23
 v22:=Tryz.zeroValue23
 t25:=Tryz.underlying69
 a25:=Tryz.isAgg69
 z25:=Tryz.sizeOf69
 v25:=Tryz.zeroValue69
 t39:=Tryz.underlying94
 a39:=Tryz.isAgg94
 z39:=Tryz.sizeOf94
 v39:=Tryz.zeroValue94
 t45:=Tryz.underlying125
 a45:=Tryz.isAgg125
 z45:=Tryz.sizeOf125
 v45:=Tryz.zeroValue125
 t46:=Tryz.underlying126
 a46:=Tryz.isAgg126
 z46:=Tryz.sizeOf126
 v46:=Tryz.zeroValue126
 t50:=Tryz.underlying65
 a50:=Tryz.isAgg65
 z50:=Tryz.sizeOf65
 v50:=Tryz.zeroValue65
 t53:=Tryz.underlying132
 a53:=Tryz.isAgg132
 z53:=Tryz.sizeOf132
 v53:=Tryz.zeroValue132
 t55:=Tryz.underlying38
 a55:=Tryz.isAgg38
 z55:=Tryz.sizeOf38
 v55:=Tryz.zeroValue38
 t66:=Tryz.underlying150
 a66:=Tryz.isAgg150
 z66:=Tryz.sizeOf150
 v66:=Tryz.zeroValue150
 t70:=Tryz.underlying154
 a70:=Tryz.isAgg154
 z70:=Tryz.sizeOf154
 v70:=Tryz.zeroValue154
 t76:=Tryz.underlying186
 a76:=Tryz.isAgg186
 z76:=Tryz.sizeOf186
 v76:=Tryz.zeroValue186
 t77:=Tryz.underlying187
 a77:=Tryz.isAgg187
 z77:=Tryz.sizeOf187
 v77:=Tryz.zeroValue187 }
end Go.Proofs
end
section
namespace TwW
open Go Tw Go.RowKit Go.Proofs.Tryz
section
variable {σ σ' σ0:Hp}{R:Rr}
theorem AJh {α:Type}{f:α→List Lb}:Sort.SWO (Proofs.ltOf fun x y=>AX (f x) (f y)) where
 irrefl x:=by
  have h1:AX (f x) (f x)=0:=(AO.eq _ _).2 rfl;exact AXC (by show ¬AX (f x) (f x)<0;omega)
 trans x y z h1 h2:=by
  unfold Proofs.ltOf at *;exact AXK (AO.trans _ _ _ (AWr h1) (AWr h2))
 ntrans x y z h1 h2:=by
  unfold Proofs.ltOf at *;have h1:=AW2 h1;have h2:=AW2 h2;dsimp only at h1 h2;refine AXC fun h3=>?_;dsimp only at h3;rcases Int.lt_trichotomy (AX (f x) (f y)) 0 with h|h|h
  ·exact h1 h
  ·rw[(AO.eq _ _).1 h]at h3;exact h2 h3
  ·have h4:=(AO.KY _ _).2 h;exact h2 (AO.trans _ _ _ h4 h3)
theorem ah {cs:List Value}{m:Nat}(h:cs.length=m*2):(List.finRange m).flatMap (fun i=>(cs.drop (i.1*2)).take 2)=cs:=by
 have hk:∀i:Fin m,((cs.drop (i.1*2)).take 2).length=2:=fun i=>by
  have:=i.2;rw[AW0,AXS];omega
 refine AXm fun j=>?_;rw[UA hk (by decide)];by_cases hj:j<m*2
 ·have Am:j/2<m:=by omega
  rw[AWm (by rw[AYk];exact Am)];simp only[List.getElem_finRange,AYj,Fin.val_cast];rw[AW4,AWl (AYy _ (by decide)),AXQ]
  congr 1
  omega
 ·rw[AX6 (by rw[AYk];omega),AX6 (by omega)];rfl
theorem XG {α:Type}{enc:α→List Value}(hk:∀x,(enc x).length=2):∀(xs:List α) (i:Nat) (x:α),xs[i]?=some x→((xs.flatMap enc).drop (i*2)).take 2=enc x
 | [],i,x,h=>by simp at h
 | a::xs,0,x,h=>by
  simp only[AXI,AWp]at h;subst h;rw[AX4,AYL,AZN,←hk a,AZm]
 | a::xs,i+1,x,h=>by
  rw[AX4,show(i+1)*2=(enc a).length+i*2 by rw[hk];omega,List.drop_append];simp only[AZc,AXH (AY8 _ _),AXi];exact XG hk xs i x (by simpa using h)
theorem iC {α:Type}(l:List α){n:Nat}(hn:l.length=n):(List.finRange n).map (fun i=>l[i.1]'(by rw[hn];exact i.2))=l:=by
 subst hn;refine List.ext_getElem (by simp) fun i h1 h2=>?_;simp
theorem kV {l:List El}(h:∀i a b,l[i]?=some a→l[i+1]?=some b→AX a.ls b.ls<0):l.Pairwise fun a b=>AX a.ls b.ls<0:=by
 rw[AXX];intro i j hi hj I2
 induction j with
 | zero=>omega
 | succ j ih=>
  have hs:=h j l[j] l[j+1] (AWm _) (AWm _);by_cases he:i=j
  ·subst he;exact hs
  ·exact AO.trans _ _ _ (ih (by omega) (by omega)) hs
theorem q6:DN FF []=some []:=by unfold DN;rw[AWl List.Pairwise.nil];rfl
theorem ED {p:Option Addr}{n c:Nat}{l:List El}(ho:Aa 2 By σ0 σ p n c l)(hn:n≤1000000000000)(h:IA R σ0 ((DN FF l).map fun l=>⟨2,0,l,[]⟩)):Spec prog 106 #[.slice p n c] σ R:=by
 have qm:=ho.up;obtain⟨⟨hl,cs,Ui,hc⟩,hx⟩:=ho;refine EB.start fun _=>?_;by_cases h0:n=0
 ·subst h0;have j0:l=[]:=AXE.1 hl;subst j0;rw[q6]at h;refine Spec.same (v:=.tuple #[]) (fun w _=>Go.Proofs.AnyF.slices_SortFunc_none Go.Proofs.Tryz.qw p c _ w) ⟨rfl,EB.BE ⟨fun Am=>by omega,fun _=>?_⟩⟩;exact h.ok _ σ p 0 c none 0 0 rfl qm Ac.nil Ac.nil (AWx _) (AWu _)
 obtain⟨b,o,rfl⟩:∃b o,p=some ⟨b,o,none⟩:=by
  rcases Ui.2.2 with ⟨_,h2,_⟩|⟨b,o,_,_,hp,_⟩
  ·exact absurd h2 h0
  ·exact⟨b,o,hp⟩
 have cz:cs.length=n*2:=Ui.1
 let enc:Fin n→List Value:=fun i=>(cs.drop (i.1*2)).take 2
 let at_:Fin n→El:=fun i=>l[i.1]'(by rw[hl];exact i.2)
 have hE:∀i:Fin n,By (σ.del (some ⟨b,o,none⟩)) (enc i) (at_ i):=fun i=>hc.2 i.1 (at_ i) (AWm _);have hk:∀i,(enc i).length=2:=fun i=>by
  have:=i.2;show((cs.drop (i.1*2)).take 2).length=2
  rw[AW0,AXS];omega
 have iD:(List.finRange n).flatMap enc=cs:=ah cz;haveI:Inhabited (Fin n):=⟨⟨0,by omega⟩⟩;refine iB (ρ:=Go.Proofs.Tryz.UB) Go.Proofs.Tryz.qw (fun w=>by kernel_rfl) (fun w=>by kernel_rfl) (α:=Fin n) (enc:=enc) hk (fun i=>By.one _ _ _ (hE i)) (cf:=fun i j=>AX (at_ i).ls (at_ j).ls) AJh (g:=148) (fun args w=>call148 args w) (b:=b) (o:=o) (ds:=List.finRange n) (by rw[iD];exact Ui) AYk h0 (by omega) (fun w hw i j=>?_) fun σ1 ds hp j5 BS Ip=>⟨rfl,?_⟩
 ·obtain⟨q1,m1,d1,hv1,Gi⟩:=hE i;obtain⟨q2,m2,d2,hv2,HR⟩:=hE j;rw[hv1,hv2];exact Spec.qt (R:=fun e=>e=.returned (.I (AX (at_ i).ls (at_ j).ls))) (@kS _ _ ⟨True⟩ _ _ _ _ _ _ _ _ _ _ Gi HR fun σ' Tk=>⟨rfl,Tk⟩) hw
 let l2:List El:=ds.map at_
 have hp2:l2.Perm l:=by
  have:=hp.map at_;rwa[iC l hl]at this
 have lW:l2.length=n:=hp2.length_eq.trans hl;have hdl:ds.length=n:=by have h9:(ds.map at_).length=n:=lW;rwa[AW9]at h9
 have hO:Aa 2 By σ0 σ1 (some ⟨b,o,none⟩) n c l2:=by
  refine⟨⟨lW,_,BS,?_,fun i x hi=>?_⟩,hx.trans Ip⟩
  ·rw[BS.1,lW]
  ·have Bj:(ds.map at_)[i]?=some x:=hi;rw[AXM]at Bj;cases hd:ds[i]? with
   | none=>rw[hd]at Bj;cases Bj
   | some k=>
    rw[hd]at Bj;simp only[AXT,AWp]at Bj;rw[XG hk ds i k hd,←Bj];exact By.mono _ _ _ _ Ip (hE k)
 have hle:∀i a b',l2[i]?=some a→l2[i+1]?=some b'→¬AX b'.ls a.ls<0:=fun i a b' ha hb=>by
  have hq:l2.Pairwise (fun a b'=>¬AX b'.ls a.ls<0):=by
   refine AYE.2 (j5.imp fun {x y} Mz=>?_);exact AW2 Mz
  obtain⟨h1,rfl⟩:=AWk.1 ha;obtain⟨h2,rfl⟩:=AWk.1 hb;exact AXX.1 hq i (i+1) h1 h2 (by omega)
 clear_value l2
 clear BS j5 hp iD hE hk hdl
 suffices H:∀g k:Nat,∀σ',n-k=g→1≤k→k≤n→Aa 2 By σ0 σ' (some ⟨b,o,none⟩) n c l2→(∀i a b',i+1<k→l2[i]?=some a→l2[i+1]?=some b'→AX a.ls b'.ls<0)→EB.CZ R (some ⟨b,o,none⟩) n c 0 0 none 0 0 none 0 0 k σ' from H (n-1) 1 σ1 rfl (AWu _) (by omega) hO (fun i a b' hi=>by omega)
 intro g
 induction g with
 | zero=>
  intro k σ' hg h1 iq hO' Am;have hr:DN FF l=some l2:=j4 rfl hp2 (kV fun i a b' ha hb=>Am i a b' (by have:=(AWk.1 hb).1;omega) ha hb);rw[hr]at h;exact EB.BE ⟨fun Am=>by omega,fun _=>h.ok _ σ' _ n c none 0 0 rfl hO'.up (hO'.rd By.mono) Ac.nil (by obtain⟨cs',AOr,_⟩:=hO'.1.2;exact Ao.cap AOr) (AWu _)⟩
 | succ g ih=>
  intro k σ' hg h1 iq hO' Am;have hr:=hO'.rd By.mono;obtain⟨y,hy⟩:=hr.ex (k:=k) (by omega);obtain⟨x,Tk⟩:=hr.ex (k:=k-1) (by omega);obtain⟨_,_,q1,m1,d1,Xm,N8,Gi⟩:=By.at hr Tk;cases Xm;obtain⟨_,_,q2,m2,d2,tF,AOs,HR⟩:=By.at hr hy;cases tF;have e1:Int.toNat ((k:Int)-1)=k-1:=by omega
  refine EB.BE ⟨fun _=>⟨by unfold AM;omega,b,o,rfl,by omega,q1,m1,d1,by rw[e1];exact N8.1,by omega,q2,m2,d2,by simpa using AOs.1,GB Gi HR fun σ2 A4=>⟨_,rfl,fun hz=>?_,fun hnz=>⟨by unfold AM;omega,?_⟩⟩⟩,fun hh=>by omega⟩
  ·refine h.no ?_ σ2 (hO'.up.trans A4);have:DN FF l=none:=j6 rfl hp2 fun j5=>by
    obtain⟨h3,rfl⟩:=AWk.1 Tk;obtain⟨h4,rfl⟩:=AWk.1 hy;exact AXX.1 j5 (k-1) k h3 h4 (by omega) hz
   rw[this];rfl
  ·have:=ih (k+1) σ2 (by omega) (by omega) (by omega) (hO'.mono By.mono A4) fun i a b' hi ha hb=>by
    by_cases xC:i+1=k
    ·rw[xC,hy]at hb;cases hb;rw[show i=k-1 by omega,Tk]at ha;cases ha;have h5:=hle (k-1) _ _ Tk (by rw[show k-1+1=k by omega];exact hy);have h6:=(AO.KY x.ls y.ls);have h7:=(AO.KY y.ls x.ls);omega
    ·exact Am i a b' (by omega) ha hb
   exact_mod_cast this
end
structure kW (x:Vv):Prop where
 el:∀e∈x.vec,Ai e.ls∧0≤e.v
 rg:∀r∈x.MX,Ai r.ls∧0<r.vs.length
 len:x.vec.length+x.MX.length≤100000000000
theorem Ai.rd {σ:Hp}{p:Option Addr}{n:Nat}{ls:List Lb}(h:Ai ls)(hr:Dz σ p n ls):n≤1000000:=by
 have h1:=h.1;have h2:ls.length=n:=hr.1;omega
theorem vm:∀w,(zeroValue 169).run prog w=.ok .nilFunc w:=fun w=>by
 have h:prog.info? 169=some t169:=by kernel_rfl
 simp[zeroValue,typeInfo,h];rfl
section
variable {σ σ' σ0:Hp}{R:Rr}
theorem Mj.at {p2:Option Addr}{n2 i:Nat}{l:List Vv}{x:Vv}(hr:Ac 4 Mj σ p2 n2 l)(hx:l[i]?=some x):∃b o p n c q m d,p2=some ⟨b,o,none⟩∧σ.ld ⟨b,o+i*4,none⟩=some (.I x.kind)∧σ.ld ⟨b,o+i*4+1,none⟩=some (.U x.v)∧σ.ld ⟨b,o+i*4+2,none⟩=some (.slice p n c)∧σ.ld ⟨b,o+i*4+3,none⟩=some (.slice q m d)∧Ac 2 By σ p n x.vec∧Ac 2 To σ q m x.MX:=by
 obtain⟨b,o,vs,hp,⟨p,n,c,q,m,d,rfl,h1,h2⟩,hl⟩:=Ac.idx hr hx;exact⟨b,o,p,n,c,q,m,d,hp,hl.1,hl.2.1,hl.2.2.1,hl.2.2.2.1,h1,h2⟩
theorem To.at {p:Option Addr}{n i:Nat}{l:List Rg}{x:Rg}(hr:Ac 2 To σ p n l)(hx:l[i]?=some x):∃b o q m d q2 m2 d2,p=some ⟨b,o,none⟩∧Av σ b (o+i*2) [.slice q m d,.slice q2 m2 d2]∧Dz σ q m x.ls∧Ev .u64 σ q2 m2 x.vs∧m2≤d2:=by
 obtain⟨b,o,vs,hp,⟨q,m,d,q2,m2,d2,rfl,h1,h2,h3⟩,hl⟩:=Ac.idx hr hx;exact⟨b,o,q,m,d,q2,m2,d2,hp,hl,h1,h2,h3⟩
theorem Aa.el {p:Option Addr}{n c:Nat}{xs:List El}{q:Option Addr}{m d:Nat}{ls:List Lb}{v:Int}{ty:TypeId}{Φ:Value→Hp→Prop}(ho:Aa 2 By σ0 σ p n c xs)(hr:Dz (σ.del p) q m ls)(hn:n≤1000000000000)
  (hΦ:∀p' c' σ',Aa 2 By σ0 σ' p' (n+1) c' (xs++[⟨ls,v⟩])→Ext (σ.del p) (σ'.del p')→Φ (.slice p' (n+1) c') σ') {b:Nat} (hb:σ b=none) :
  AH prog (Builtin.append_ #[60,60] ty #[.slice p n c,.slice (some ⟨b,0,none⟩) 1 1]) (σ.set b (.cells #[.slice q m d,.U v] 64 (0,0))) Φ:=by
 have he:By (σ.del p) [.slice q m d,.U v] ⟨ls,v⟩:=⟨q,m,d,rfl,hr⟩;exact Aa.LZ By.mono ho rfl (By.one _ _ _ he) he (by omega) hΦ hb
theorem q7 {n:Nd}{p q a l:Option Addr}{k c m d j e:Nat}{L:List Vv}{x:Vv}(hr:Ac 4 Mj σ l j L)(hx:L[0]?=some x)(hV:kW x)(h:IA R σ (j3 FF x)):Spec prog 81 #[.pointer a,M0 n p k c q m d,.slice l j e] σ R:=by
 have hj:0<j:=by have h1:L.length=j:=hr.1;have:=(AWk.1 hx).1;omega
 obtain⟨b,o,pv,nv,cv,qv,mv,dv,rfl,h1,h2,h3,h4,h5,h6⟩:=Mj.at hr hx;simp only[AYL,AX1]at h1 h2 h3 h4;refine BG.start fun _ _=>⟨b,o,rfl,by omega,x.kind,h1,fun hk=>⟨by omega,x.v,h2,Qc ⟨_,rfl,?_⟩⟩,fun hk=>⟨by omega,pv,nv,cv,h3,?_⟩⟩
 ·unfold j3 at h;rw[AWl hk]at h;exact h.ok _ σ none 0 0 none 0 0 rfl (.refl _) Ac.nil Ac.nil (AWu _) (AWu _)
 unfold j3 at h;rw[AWj hk]at h;have hl:x.vec.length=nv:=h5.1;have hlen:=hV.len
 suffices H:∀g i:Nat,∀p8 n8 c8 σ',nv-i=g→i≤nv→Aa 2 By σ σ' p8 n8 c8 ((x.vec.take i).map fun x=>⟨DB x.ls,FF.qN x.v⟩)→BG.ui R 0 0 none 0 0 none 0 0 p8 n8 c8 pv nv cv nv i σ' from H nv 0 none 0 0 σ rfl (AWx _) (Aa.nil (.refl _))
 intro g
 induction g with
 | zero=>
  intro i p8 n8 c8 σ' hg hi ho;rw[AWt (by omega)]at ho;have Mo:=ho.1.1;rw[AW9]at Mo;exact BG.gQ ⟨fun Am=>by omega,fun _=>ED ho (by omega) h.U7⟩
 | succ g ih=>
  intro i p8 n8 c8 σ' hg hi ho;have Bj:i<nv:=by omega
  obtain⟨y,hy⟩:=h5.ex Bj;obtain⟨b1,o1,q1,m1,d1,rfl,N8,Gi⟩:=By.at h5 hy;have Io:=hV.el y (AWn hy);have Mo:=ho.1.1;rw[AW9,AW0]at Mo;refine BG.gQ ⟨fun _=>⟨b1,o1,rfl,by omega,q1,m1,d1,y.v,by simpa using N8.mono ho.up,fun _=>FA (Gi.mono BM.mono ho.up) (Io.1.rd Gi) fun p' n' c' σ2 HR A4=>⟨_,_,_,rfl,Qc ⟨_,rfl,fun tA AOt=>?_⟩⟩⟩,fun hh=>by omega⟩;refine Aa.el (ho.mono By.mono A4) (HR.mono BM.mono (ho.new A4)) (by omega) (fun p9 c9 σ3 Db _=>⟨_,_,_,rfl,AN Bj h5.big,ih (i+1) _ _ _ _ (by omega) (by omega) ?_⟩) AOt;rw[Ag hy,AXG];exact Db
theorem kX {n:Nd}{p q a l:Option Addr}{k c m d j e:Nat}{L:List Vv}{x:Vv}(hr:Ac 4 Mj σ l j L)(hx:L[0]?=some x)(hV:kW x)(hv:x.vec≠[]→n.op=11∨n.op=12)(hw:x.MX≠[]→1≤n.op∧n.op≤10)
  (h:IA R σ ((DN FF (Tl FF n x)).map fun l=>⟨2,0,l,[]⟩)):Spec prog 78 #[.pointer a,M0 n p k c q m d,.slice l j e] σ R:=by
 have hj:0<j:=by have h1:L.length=j:=hr.1;have:=(AWk.1 hx).1;omega
 obtain⟨b,o,pv,nv,cv,qv,mv,dv,rfl,h1,h2,h3,h4,h5,h6⟩:=Mj.at hr hx;simp only[AYL,AX1]at h1 h2 h3 h4;have hl:x.vec.length=nv:=h5.1;have hlr:x.MX.length=mv:=h6.1;have hlen:=hV.len;refine AW.start fun _ _=>EC fun mb vV=>⟨mb,rfl,?_⟩;have s0:=qe.fresh vV;refine s0.put (by simp) fun σ1 s1=>s1.put (by simp) fun σ2 s2=>?_;have A4:=s2.1;have hml:=s2.2.2;have cont:∀v21,(n.op=11→v21=.func (.func 102) #[] #[])→(n.op=12→v21=.func (.func 103) #[] #[])→∃v,v=v21∧Pq (some ⟨b,o,none⟩) fun PC fz=>In 0 (j:Int)∧LS σ2 PC (fz+2) fun dJ n25 dK=>AW.Eu R (aD PC fz) j e n.kind n.op n.text p k c n.width n.back n.EH q m d n.bool n.parts 0 0 none 0 0 none 0 0 none 0 0 v dJ n25 dK (n25:Int) 0 σ2:=fun v21 ha hf=>by
  refine⟨v21,rfl,b,o,rfl,by omega,pv,nv,cv,A4.ld h3,?_⟩
  let g1:El→El:=fun x=>⟨DB x.ls,if n.op=11 then FF.abs x.v else FF.floor x.v⟩
  let g2:Rg→Option El:=fun s=>(FF.over n.op s.vs x.v).map fun v=>⟨DB s.ls,v⟩
  have hc:Tl FF n x=x.vec.map g1++x.MX.filterMap g2:=rfl;rw[hc]at h;have second:∀g i:Nat,∀fb p8 n8 c8 σ',mv-i=g→i≤mv→T8 (σ'.del p8) fb→Aa 2 By σ σ' p8 n8 c8 (x.vec.map g1++(x.MX.take i).filterMap g2)→AW.Qy R (aD b o) j e n.kind n.op n.text p k c n.width n.back n.EH q m d n.bool n.parts 0 0 none 0 0 none 0 0 p8 n8 c8 (aD fb 0) 11 11 qv mv dv mv i σ':=by
   intro g
   induction g with
   | zero=>
    intro i fb p8 n8 c8 σ' hg hi hF ho;rw[AWt (by omega)]at ho;have Mo:=ho.1.1;rw[AWz,AW9]at Mo;have h9:=AXP g2 x.MX;exact AW.RJ ⟨fun Am=>by omega,fun _=>ED ho (by omega) h.U7⟩
   | succ g ih=>
    intro i fb p8 n8 c8 σ' hg hi hF ho;have Bj:i<mv:=by omega
    obtain⟨y,hy⟩:=h6.ex Bj;obtain⟨b1,o1,q1,m1,d1,q2,m2,d2,rfl,N8,Gi,HR,bU⟩:=To.at h6 hy;have Io:=hV.rg y (AWn hy);have Kq:=hw fun e=>by rw[e]at hlr;simp at hlr;omega
    have hlv:y.vs.length=m2:=HR.1;have Mo:=ho.1.1;rw[AWz,AW9]at Mo;have h9:=AXP g2 (x.MX.take i);rw[AW0]at h9;have next:∀p9 n9 c9 σ3,T8 (σ3.del p9) fb→Aa 2 By σ σ3 p9 n9 c9 (x.vec.map g1++(x.MX.take i).filterMap g2++(g2 y).toList)→AW.Ll R (aD b o) j e n.kind n.op n.text p k c n.width n.back n.EH q m d n.bool n.parts 0 0 none 0 0 none 0 0 p9 n9 c9 (aD fb 0) 11 11 (aD b1 o1) mv dv mv i σ3:=fun p9 n9 c9 σ3 hF3 Db=>
     AW.IV ⟨AN Bj h6.big,ih (i+1) _ _ _ _ _ (by omega) (by omega) hF3 (by rw[GG hy,←AXf];exact Db)⟩
    refine AW.RJ ⟨fun _=>⟨b1,o1,rfl,by omega,q1,m1,d1,q2,m2,d2,by simpa using N8.mono ho.up,fun _=>⟨fb,0,rfl,by omega,kU (w:=x.v) Kq (hF.mono (Ext.JR _ _)) (HR.mono ho.up) (by omega) bU hj (ho.up.ld h2) fun z ok σ3 hz CG=>⟨z,ok,rfl,fun CH=>?_,fun CH=>next _ _ _ _ (hF.mono (CG.del _)) ?_⟩⟩⟩,fun hh=>by omega⟩
    ·have hz':FF.over n.op y.vs x.v=some z:=by
      rcases hz with ⟨h7,_⟩|⟨_,h8⟩
      ·exact h7
      ·rw[CH]at h8;cases h8
     refine FA (Gi.mono BM.mono (ho.up.trans CG)) (Io.1.rd Gi) fun p' n' c' σ4 hr4 MH=>⟨_,_,_,rfl,fun b73 ACJ=>?_⟩;have Db:=ho.mono By.mono CG;refine Aa.el (Db.mono By.mono MH) (hr4.mono BM.mono (Db.new MH)) (by omega) (fun p9 c9 σ5 Mw du=>⟨_,_,_,rfl,next _ _ _ _ (hF.mono (((CG.trans MH).del _).trans du)) ?_⟩) ACJ;rw[show g2 y=some ⟨DB y.ls,z⟩ by show(FF.over n.op y.vs x.v).map _=_;rw[hz'];rfl];exact Mw
    ·have hz':FF.over n.op y.vs x.v=none:=by
      rcases hz with ⟨_,h8⟩|⟨h7,_⟩
      ·rw[CH]at h8;cases h8
      ·exact h7
     rw[show g2 y=none by show(FF.over n.op y.vs x.v).map _=_;rw[hz'];rfl];simpa using ho.mono By.mono CG
  suffices H:∀g i:Nat,∀p8 n8 c8 σ',nv-i=g→i≤nv→Aa 2 By σ σ' p8 n8 c8 ((x.vec.take i).map g1)→AW.Eu R (aD b o) j e n.kind n.op n.text p k c n.width n.back n.EH q m d n.bool n.parts 0 0 none 0 0 none 0 0 p8 n8 c8 v21 pv nv cv nv i σ' from H nv 0 none 0 0 σ2 rfl (AWx _) (Aa.nil A4)
  intro g
  induction g with
  | zero=>
   intro i p8 n8 c8 σ' hg hi ho;rw[AWt (by omega)]at ho;refine AW.FE ⟨fun Am=>by omega,fun _=>T9 fun fb σ3 hF CG=>⟨_,_,_,rfl,b,o,rfl,by omega,qv,mv,dv,(ho.up.trans CG).ld h4,second mv 0 fb p8 n8 c8 σ3 rfl (AWx _) (hF.mono (ho.new CG)) (by simpa using ho.mono By.mono CG)⟩⟩
  | succ g ih=>
   intro i p8 n8 c8 σ' hg hi ho;have Bj:i<nv:=by omega
   obtain⟨y,hy⟩:=h5.ex Bj;obtain⟨b1,o1,q1,m1,d1,rfl,N8,Gi⟩:=By.at h5 hy;have Io:=hV.el y (AWn hy);have Mo:=ho.1.1;rw[AW9,AW0]at Mo;have Kq:=hv fun e=>by rw[e]at hl;simp at hl;omega
   refine AW.FE ⟨fun _=>⟨b1,o1,rfl,by omega,q1,m1,d1,y.v,by simpa using N8.mono ho.up,fun _=>FA (Gi.mono BM.mono ho.up) (Io.1.rd Gi) fun p' n' c' σ3 U8 CG=>⟨_,_,_,rfl,?_⟩⟩,fun hh=>by omega⟩;have app:∀z,(g1 y).v=z→Ap R (CI .u64 fun bM AE=>Al AE fun Xg=>AH prog (Builtin.append_ #[60,60] 60 #[.slice p8 n8 c8,(.slice (aD Xg 0) 1 1)]) (Hp.set AE Xg (.cells #[.slice p' n' c',.U bM] 64 (0,0))) (CS fun ja n41 bN AJ=>AM ((i:Int)+1)∧AW.Eu R (aD b o) j e n.kind n.op n.text p k c n.width n.back n.EH q m d n.bool n.parts 0 0 none 0 0 none 0 0 ja n41 bN v21 (aD b1 o1) nv cv nv ((i:Int)+1) AJ)) (.returned (.U z)) σ3:=fun z hz=>by
    refine⟨z,rfl,fun Xg kY=>Aa.el (ho.mono By.mono CG) (U8.mono BM.mono (ho.new CG)) (by omega) (fun p9 c9 σ5 Mw du=>⟨_,_,_,rfl,AN Bj h5.big,ih (i+1) _ _ _ _ (by omega) (by omega) ?_⟩) kY⟩;rw[Ag hy,AXG];have:g1 y=⟨DB y.ls,z⟩:=by rw[←hz]
    simpa[this] using Mw
   rcases Kq with Kq|Kq
   ·exact⟨102,#[],#[],ha Kq,NJ.en,qT Io.2 (app _ (by show(if n.op=11 then W7 y.v else _)=_;rw[AWl Kq]))⟩
   ·exact⟨103,#[],#[],hf Kq,Im.en,eH (app _ (by show(if n.op=11 then W7 y.v else Mk y.v)=_;rw[AWj (by omega)]))⟩
 refine hml.look vm (fun DS=>cont _ (fun h9=>?_) fun h9=>?_) fun v hv=>?_
 ·exact absurd h9.symm (DS (11,.func (.func 102) #[] #[]) (by simp))
 ·exact absurd h9.symm (DS (12,.func (.func 103) #[] #[]) (by simp))
 ·simp only[AXi,AXb,AWo,AXA,AXk,AYG]at hv;rcases hv with ⟨h9,rfl⟩|⟨h9,rfl⟩
  ·exact cont _ (fun _=>rfl) fun h8=>by omega
  ·exact cont _ (fun h8=>by omega) fun _=>rfl
end
theorem eZ:∀w,(zeroValue 64).run prog w=.ok (.agg #[.N,.U 0]) w:=fun w=>by
 have h:prog.info? 64=some t64:=by kernel_rfl
 simp[zeroValue,typeInfo,h];rfl
def E0 (σ0:Hp)(v:Value)(x:El):Prop:=∃p n c,v=.agg #[.slice p n c,.U x.v]∧Dz σ0 p n x.ls
theorem WB {α:Type}{f:α→Bool}{xs:List α}{k:Nat}{x:α}(hx:xs[k]?=some x):(xs.take (k+1)).filter f=(xs.take k).filter f++if f x then[x] else[]:=by
 rw[Ag hx,AYK];by_cases h:f x=true<;>simp[h]
section
variable {σ σ' σ0:Hp}{R:Rr}
theorem Ext.put {m:Nat}{o:Obj}(hx:Ext σ0 σ)(hm:σ0 m=none):Ext σ0 (σ.set m o):=fun k u hk=>by rw[Hp.AF (fun e=>by rw[e,hm]at hk;cases hk)];exact hx _ _ hk
theorem Iz {n:Nd}{p q pv:Option Addr}{k c m d nv cv:Nat}{vec:List El}(hs:Gq 1 σ q m (n.names.map .string))(hr:Ac 2 By σ pv nv vec)(YG:∀e∈vec,Ai e.ls)
  (h:∀mb σ',MS (E0 σ) σ' mb (W3 n vec)→Ext σ σ'→R (.T #[.map (some mb),.bool (j1 n vec)]) σ'):Spec prog 158 #[M0 n p k c q m d,.slice pv nv cv] σ R:=by
 have hl:vec.length=nv:=hr.1;refine Ge.start fun _=>EC fun mb vV=>⟨mb,rfl,?_⟩
 let st:List (ByteArray×El)→El→List (ByteArray×El):=fun m x=>W1 m (EE (My n x.ls)) x
 have hk:W3 n vec=vec.foldl st []:=rfl
 suffices H:∀g i:Nat,∀σ',nv-i=g→i≤nv→MS (E0 σ) σ' mb ((vec.take i).foldl st [])→Ext σ σ'→Ge.Aw R pv nv cv n.kind n.op n.text p k c n.width n.back n.EH q m d n.bool n.parts (some mb) pv nv cv nv i σ' from H nv 0 _ rfl (AWx _) MS.fresh (.set vV)
 intro g
 induction g with
 | zero=>
  intro i σ' hg hi hM hx;rw[AWt (by omega)]at hM;refine Ge.AY ⟨fun Am=>by omega,fun _=>⟨_,hM.len,?_⟩⟩;have:=h mb σ' hM hx;unfold j1 at this;rw[hk,hl]at this;rw[show decide ((((vec.foldl st []).length:Nat):Int)=(nv:Int))=decide ((vec.foldl st []).length=nv) from AX0.2 (by omega)];exact this
 | succ g ih=>
  intro i σ' hg hi hM hx;have Bj:i<nv:=by omega
  obtain⟨y,hy⟩:=hr.ex Bj;obtain⟨b1,o1,q1,m1,d1,rfl,N8,Gi⟩:=By.at hr hy;have Io:=YG y (AWn hy);refine Ge.AY ⟨fun _=>⟨b1,o1,rfl,by omega,q1,m1,d1,y.v,by simpa using N8.mono hx,fun _=>RS (Gi.mono BM.mono hx) (Io.rd Gi) (hs.mono hx) fun p' n' c' σ2 HR A4=>⟨_,_,_,rfl,E9 (HR.mono BM.mono (Ext.CW _ _)) Io.My fun σ3 CG=>⟨_,rfl,?_⟩⟩⟩,fun hh=>by omega⟩;refine(hM.mono (A4.trans CG)).put (x:=y) ⟨q1,m1,d1,rfl,Gi⟩ fun o hM'=>⟨AN Bj hr.big,ih (i+1) _ (by omega) (by omega) ?_ (Ext.put (hx.trans (A4.trans CG)) vV)⟩;rw[Ag hy,AYN];exact hM'
theorem kZ {n:Nd}{p q a px py:Option Addr}{k c m d nx cx ny cy:Nat}{x y:List El}(hs:Gq 1 σ q m (n.names.map .string))(XH:Ac 2 By σ px nx x)(zC:Ac 2 By σ py ny y)(q8:∀e∈x,Ai e.ls)(lU:∀e∈y,Ai e.ls)(hlen:x.length+y.length≤1000000000000)
  (h:IA R σ ((DN FF (MJ n x y)).map fun l=>⟨2,0,l,[]⟩)):Spec prog 118 #[.pointer a,M0 n p k c q m d,.slice px nx cx,.slice py ny cy] σ R:=by
 have W5:x.length=nx:=XH.1;have Xl:y.length=ny:=zC.1;refine AZ.start fun _ _=>Iz hs XH q8 fun mx σ1 ai Bi=>⟨_,_,rfl,Iz (hs.mono Bi) (zC.mono By.mono Bi) lU fun my σ2 hM2 A4=>⟨_,_,rfl,?_⟩⟩;have hX:=Bi.trans A4;have hMx:=ai.mono A4
 replace h:=h.kR hX
 let f1:El→Bool:=fun e=>decide (n.op=12)||((V1 n y (My n e.ls)).isSome==decide (n.op=11))
 let f2:El→Bool:=fun e=>(V1 n x (My n e.ls)).isNone&&decide (n.op=12)
 have hf:MJ n x y=x.filter f1++y.filter f2:=rfl;rw[hf]at h;have second:∀g i:Nat,∀p8 n8 c8 σ',ny-i=g→i≤ny→Aa 2 By σ2 σ' p8 n8 c8 (x.filter f1++(y.take i).filter f2)→AZ.JV R n.kind n.op n.text p k c n.width n.back n.EH q m d n.bool n.parts 0 0 none 0 0 none 0 0 (some mx) p8 n8 c8 py ny cy ny i σ':=by
  intro g
  induction g with
  | zero=>
   intro i p8 n8 c8 σ' hg hi ho;rw[AWt (by omega)]at ho;have Mo:=ho.1.1;rw[AWz]at Mo;have h9:=AXO f1 x;have Y6:=AXO f2 y;exact AZ.Kx ⟨fun Am=>by omega,fun _=>ED ho (by omega) h.U7⟩
  | succ g ih=>
   intro i p8 n8 c8 σ' hg hi ho;have Bj:i<ny:=by omega
   obtain⟨z,hz⟩:=zC.ex Bj;obtain⟨b1,o1,q1,m1,d1,rfl,N8,Gi⟩:=By.at zC hz;have Io:=lU z (AWn hz);have Mo:=ho.1.1;rw[AWz]at Mo;have h9:=AXO f1 x;have Y6:=AXO f2 (y.take i);rw[AW0]at Y6;have next:∀p9 n9 c9 σ3,Aa 2 By σ2 σ3 p9 n9 c9 (x.filter f1++(y.take i).filter f2++if f2 z then[z] else[])→AZ.NQ R n.kind n.op n.text p k c n.width n.back n.EH q m d n.bool n.parts 0 0 none 0 0 none 0 0 (some mx) p9 n9 c9 (aD b1 o1) ny cy ny i σ3:=fun p9 n9 c9 σ3 Db=>
    AZ.Wx ⟨AN Bj zC.big,ih (i+1) _ _ _ _ (by omega) (by omega) (by rw[WB hz,←AXf];exact Db)⟩
   have dq:=hX.trans ho.up;refine AZ.Kx ⟨fun _=>⟨b1,o1,rfl,by omega,q1,m1,d1,z.v,by simpa using N8.mono dq,fun _=>RS (Gi.mono BM.mono dq) (Io.rd Gi) (hs.mono dq) fun p' n' c' σ3 U8 CG=>⟨_,_,_,rfl,E9 (U8.mono BM.mono (Ext.CW _ _)) Io.My fun σ4 MH=>⟨_,rfl,?_⟩⟩⟩,fun hh=>by omega⟩;have KW:=ho.mono By.mono (CG.trans MH);refine MS.hZ (hMx.mono (ho.up.trans (CG.trans MH))) eZ (fun HC=>⟨_,_,_,_,_,rfl,fun _=>⟨fun _=>⟨fun Y5=>fun fy AOv=>?_,fun Y5=>next _ _ _ _ ?_⟩,fun hh=>(by cases hh)⟩⟩) fun v e he hE=>?_
   ·refine Aa.el KW (Gi.mono BM.mono (hX.trans KW.2)) (by omega) (fun p9 c9 σ5 Mw _=>⟨_,_,_,rfl,next _ _ _ _ ?_⟩) AOv;have:f2 z=true:=by
     show((Ck (W3 n x) (EE (My n z.ls))).isNone&&decide (n.op=12))=true
     rw[HC,AXK Y5];rfl
    rw[this];exact Mw
   ·have:f2 z=false:=by
     show((Ck (W3 n x) (EE (My n z.ls))).isNone&&decide (n.op=12))=false
     rw[AXC Y5,AZo]
    rw[this];simpa using KW
   ·obtain⟨p5,n5,c5,rfl,_⟩:=hE;refine⟨_,_,_,_,_,rfl,fun _=>⟨fun hh=>(by cases hh),fun _=>next _ _ _ _ ?_⟩⟩;have:f2 z=false:=by
     show((Ck (W3 n x) (EE (My n z.ls))).isNone&&decide (n.op=12))=false
     rw[he];rfl
    rw[this];simpa using KW
 suffices H:∀g i:Nat,∀p8 n8 c8 σ',nx-i=g→i≤nx→Aa 2 By σ2 σ' p8 n8 c8 ((x.take i).filter f1)→AZ.uy R py ny cy n.kind n.op n.text p k c n.width n.back n.EH q m d n.bool n.parts 0 0 none 0 0 none 0 0 (some mx) (some my) p8 n8 c8 px nx cx nx i σ' from H nx 0 none 0 0 σ2 rfl (AWx _) (Aa.nil (.refl _))
 intro g
 induction g with
 | zero=>
  intro i p8 n8 c8 σ' hg hi ho;rw[AWt (by omega)]at ho;exact AZ.gU ⟨fun Am=>by omega,fun _=>second ny 0 p8 n8 c8 σ' rfl (AWx _) (by simpa using ho)⟩
 | succ g ih=>
  intro i p8 n8 c8 σ' hg hi ho;have Bj:i<nx:=by omega
  obtain⟨z,hz⟩:=XH.ex Bj;obtain⟨b1,o1,q1,m1,d1,rfl,N8,Gi⟩:=By.at XH hz;have Io:=q8 z (AWn hz);have Mo:=ho.1.1;have h9:=AXO f1 (x.take i);rw[AW0]at h9;have next:∀p9 n9 c9 σ3,Aa 2 By σ2 σ3 p9 n9 c9 ((x.take i).filter f1++if f1 z then[z] else[])→AZ.Wv R py ny cy n.kind n.op n.text p k c n.width n.back n.EH q m d n.bool n.parts 0 0 none 0 0 none 0 0 (some mx) (some my) p9 n9 c9 (aD b1 o1) nx cx nx i σ3:=fun p9 n9 c9 σ3 Db=>
   AZ.uz ⟨AN Bj XH.big,ih (i+1) _ _ _ _ (by omega) (by omega) (by rw[WB hz];exact Db)⟩
  have dq:=hX.trans ho.up;refine AZ.gU ⟨fun _=>⟨b1,o1,rfl,by omega,q1,m1,d1,z.v,by simpa using N8.mono dq,fun _=>RS (Gi.mono BM.mono dq) (Io.rd Gi) (hs.mono dq) fun p' n' c' σ3 U8 CG=>⟨_,_,_,rfl,E9 (U8.mono BM.mono (Ext.CW _ _)) Io.My fun σ4 MH=>⟨_,rfl,?_⟩⟩⟩,fun hh=>by omega⟩;have KW:=ho.mono By.mono (CG.trans MH);have app:f1 z=true→∀jn,σ4 jn=none→AH prog (Builtin.append_ #[60,60] 60 #[.slice p8 n8 c8,(.slice (aD jn 0) 1 1)]) (Hp.set σ4 jn (.cells #[.slice q1 m1 d1,.U z.v] 64 (0,0))) (CS fun tB oz tC As=>AZ.Wv R py ny cy n.kind n.op n.text p k c n.width n.back n.EH q m d n.bool n.parts 0 0 none 0 0 none 0 0 (some mx) (some my) tB oz tC (aD b1 o1) nx cx nx i As):=fun ht jn AOw=>by
   refine Aa.el KW (Gi.mono BM.mono (hX.trans KW.2)) (by omega) (fun p9 c9 σ5 Mw _=>⟨_,_,_,rfl,next _ _ _ _ ?_⟩) AOw;rw[ht];exact Mw
  have skip:f1 z=false→AZ.Wv R py ny cy n.kind n.op n.text p k c n.width n.back n.EH q m d n.bool n.parts 0 0 none 0 0 none 0 0 (some mx) (some my) p8 n8 c8 (aD b1 o1) nx cx nx i σ4:=fun ht=>next _ _ _ _ (by rw[ht];simpa using KW)
  have e1:f1 z=(decide (n.op=12)||((Ck (W3 n y) (EE (My n z.ls))).isSome==decide (n.op=11))):=rfl;refine MS.hZ ((hM2.imp fun v x hE=>hE).mono (ho.up.trans (CG.trans MH))) eZ (fun HC=>⟨_,_,_,_,_,rfl,fun _=>⟨fun Y5=>app ?_,fun Y5=>⟨fun hh=>(by cases hh),fun _=>⟨fun iE=>skip ?_,fun iE=>app ?_⟩⟩⟩⟩) fun v e he hE=>?_
  ·rw[e1,AXK Y5];rfl
  ·rw[e1,AXC Y5,HC,AXK iE];rfl
  ·rw[e1,AXC Y5,HC,AXC iE];rfl
  ·obtain⟨p5,n5,c5,rfl,_⟩:=hE;refine⟨_,_,_,_,_,rfl,fun _=>⟨fun Y5=>app ?_,fun Y5=>⟨fun _=>⟨fun iE=>app ?_,fun iE=>skip ?_⟩,fun hh=>(by cases hh)⟩⟩⟩
   ·rw[e1,AXK Y5];rfl
   ·rw[e1,AXC Y5,he,AXK iE];rfl
   ·rw[e1,AXC Y5,he,AXC iE];rfl
end
section
variable {σ σ' σ0:Hp}{R:Rr}
theorem UD {n:Nd}{p q a px:Option Addr}{k c m d nx cx f:Nat}{cap:Array Value}{x:List El}{g:Int→Int×Bool}(XH:Ac 2 By σ px nx x)(q8:∀e∈x,Ai e.ls)(hlen:x.length≤1000000000000)(JG:Enters prog f)
  (hC:∀(σ2:Hp) (v:Int) (R':Rr),Ext σ σ2→R' (.T #[.U (g v).1,.bool (g v).2]) σ2→Spec prog f (#[]++#[.U v]++cap) σ2 R')
  (h:IA R σ ((DN FF (Tm n x g)).map fun l=>⟨2,0,l,[]⟩)):Spec prog 115 #[.pointer a,M0 n p k c q m d,.slice px nx cx,.func (.func f) #[] cap] σ R:=by
 have W5:x.length=nx:=XH.1
 let f1:El→Option El:=fun x=>if FV n.op=false∨n.bool=true then some ⟨DB x.ls,(g x.v).1⟩ else if(g x.v).2 then some x else none
 have hf:Tm n x g=x.filterMap f1:=rfl;rw[hf]at h;refine A5.start fun _ _=>?_
 suffices H:∀gg i:Nat,∀p8 n8 c8 σ',nx-i=gg→i≤nx→Aa 2 By σ σ' p8 n8 c8 ((x.take i).filterMap f1)→A5.Aw R (.func (.func f) #[] cap) n.kind n.op n.text p k c n.width n.back n.EH q m d n.bool n.parts 0 0 none 0 0 none 0 0 p8 n8 c8 px nx cx nx i σ' from H nx 0 none 0 0 σ rfl (AWx _) (Aa.nil (.refl _))
 intro gg
 induction gg with
 | zero=>
  intro i p8 n8 c8 σ' hg hi ho;rw[AWt (by omega)]at ho;have Mo:=ho.1.1;have h9:=AXP f1 x;exact A5.AY ⟨fun Am=>by omega,fun _=>ED ho (by omega) h.U7⟩
 | succ gg ih=>
  intro i p8 n8 c8 σ' hg hi ho;have Bj:i<nx:=by omega
  obtain⟨z,hz⟩:=XH.ex Bj;obtain⟨b1,o1,q1,m1,d1,rfl,N8,Gi⟩:=By.at XH hz;have Io:=q8 z (AWn hz);have Mo:=ho.1.1;have h9:=AXP f1 (x.take i);rw[AW0]at h9;have next:∀tb p9 n9 c9 σ3,tb=n.bool→Aa 2 By σ σ3 p9 n9 c9 ((x.take i).filterMap f1++(f1 z).toList)→A5.Qy R (.func (.func f) #[] cap) n.kind n.op n.text p k c n.width n.back n.EH q m d tb n.parts 0 0 none 0 0 none 0 0 p9 n9 c9 (aD b1 o1) nx cx nx i σ3:=fun tb p9 n9 c9 σ3 tX Db=>by
   subst tX;exact A5.RJ ⟨AN Bj XH.big,ih (i+1) _ _ _ _ (by omega) (by omega) (by rw[GG hz];exact Db)⟩
  have e1:f1 z=if FV n.op=false∨n.bool=true then some ⟨DB z.ls,(g z.v).1⟩ else if(g z.v).2 then some z else none:=rfl
  refine A5.AY ⟨fun _=>⟨b1,o1,rfl,by omega,q1,m1,d1,z.v,by simpa using N8.mono ho.up,fun _=>⟨f,#[],cap,rfl,JG,hC σ' z.v _ ho.up ⟨_,_,rfl,Cq ⟨_,rfl,?_⟩⟩⟩⟩,fun hh=>by omega⟩;have bare:(FV n.op=false∨n.bool=true)→∀tb,tb=n.bool→Spec prog 104 #[.slice q1 m1 d1] σ' (Ap R (CS fun p40 n40 c40 AJ=>Al AJ fun gN=>AH prog (Builtin.append_ #[60,60] 60 #[.slice p8 n8 c8,(.slice (aD gN 0) 1 1)]) (Hp.set AJ gN (.cells #[.slice p40 n40 c40,.U (g z.v).1] 64 (0,0))) (CS fun lO n44 nH As=>A5.Qy R (.func (.func f) #[] cap) n.kind n.op n.text p k c n.width n.back n.EH q m d tb n.parts 0 0 none 0 0 none 0 0 lO n44 nH (aD b1 o1) nx cx nx i As))):=fun hc tb tX=>
   FA (Gi.mono BM.mono ho.up) (Io.rd Gi) fun p' n' c' σ3 U8 CG=>⟨_,_,_,rfl,fun gN ACN=>Aa.el (ho.mono By.mono CG) (U8.mono BM.mono (ho.new CG)) (by omega) (fun p9 c9 σ5 Mw _=>⟨_,_,_,rfl,next _ _ _ _ _ tX (by rw[e1,AWl hc];exact Mw)⟩) ACN⟩
  refine⟨fun hcf=>bare (.inl hcf) _ rfl,fun hct=>⟨fun hb=>bare (.inr hb) _ hb.symm,fun hb=>⟨fun kT=>fun Vo rC=>?_,fun kT=>next _ _ _ _ _ hb.symm ?_⟩⟩⟩
  ·refine Aa.el ho (Gi.mono BM.mono ho.2) (by omega) (fun p9 c9 σ5 Mw _=>⟨_,_,_,rfl,next _ _ _ _ _ hb.symm ?_⟩) rC;rw[e1,AWj (by rw[hct,hb];simp),AWl kT];exact Mw
  ·rw[e1,AWj (by rw[hct,hb];simp),AWj (by rw[kT];simp)];simpa using ho
theorem XI {n:Nd}{p q a px py:Option Addr}{k c m d nx cx ny cy:Nat}{x y:List El}(hs:Gq 1 σ q m (n.names.map .string))(XH:Ac 2 By σ px nx x)(zC:Ac 2 By σ py ny y)(q8:∀e∈x,Ai e.ls)(lU:∀e∈y,Ai e.ls)(hlen:x.length+y.length≤1000000000000)
  (h:IA R σ (((Nh FF n x y).bind (DN FF)).map fun l=>⟨2,0,l,[]⟩)):Spec prog 119 #[.pointer a,M0 n p k c q m d,.slice px nx cx,.slice py ny cy] σ R:=by
 have W5:x.length=nx:=XH.1;have Xl:y.length=ny:=zC.1
 let f1:El→Option El:=fun e=>match V1 n y (My n e.ls) with
  | none=>none
  | some o=>if FV n.op=false∨n.bool=true then some ⟨My n e.ls,(FF.Ng n.op e.v o.v).1⟩ else if(FF.Ng n.op e.v o.v).2 then some e else none
 have hf:Nh FF n x y=if j1 n x&&j1 n y then some (x.filterMap f1) else none:=rfl
 rw[hf]at h;refine Au.start fun _ _=>Iz hs XH q8 fun mx σ1 ai Bi=>⟨_,_,rfl,Iz (hs.mono Bi) (zC.mono By.mono Bi) lU fun my σ2 hM2 A4=>⟨_,_,rfl,fun h1=>?_,fun h1=>⟨fun h2=>?_,fun h2=>?_⟩⟩⟩
 ·rw[h1]at h;exact h.no rfl _ (Bi.trans A4)
 ·rw[h2,AZo]at h;exact h.no rfl _ (Bi.trans A4)
 rw[h1,h2]at h;have hX:=Bi.trans A4
 replace h:IA R σ2 ((DN FF (x.filterMap f1)).map fun l=>⟨2,0,l,[]⟩):=h.kR hX
 suffices H:∀gg i:Nat,∀p8 n8 c8 σ',nx-i=gg→i≤nx→Aa 2 By σ2 σ' p8 n8 c8 ((x.take i).filterMap f1)→Au.Yu R n.kind n.op n.text p k c n.width n.back n.EH q m d n.bool n.parts 0 0 none 0 0 none 0 0 (some my) p8 n8 c8 px nx cx nx i σ' from H nx 0 none 0 0 σ2 rfl (AWx _) (Aa.nil (.refl _))
 intro gg
 induction gg with
 | zero=>
  intro i p8 n8 c8 σ' hg hi ho;rw[AWt (by omega)]at ho;have Mo:=ho.1.1;have h9:=AXP f1 x;exact Au.FG ⟨fun Am=>by omega,fun _=>ED ho (by omega) h.U7⟩
 | succ gg ih=>
  intro i p8 n8 c8 σ' hg hi ho;have Bj:i<nx:=by omega
  obtain⟨z,hz⟩:=XH.ex Bj;obtain⟨b1,o1,q1,m1,d1,rfl,N8,Gi⟩:=By.at XH hz;have Io:=q8 z (AWn hz);have Mo:=ho.1.1;have h9:=AXP f1 (x.take i);rw[AW0]at h9;have next:∀tb p9 n9 c9 σ3,tb=n.bool→Aa 2 By σ2 σ3 p9 n9 c9 ((x.take i).filterMap f1++(f1 z).toList)→Au.NQ R n.kind n.op n.text p k c n.width n.back n.EH q m d tb n.parts 0 0 none 0 0 none 0 0 (some my) p9 n9 c9 (aD b1 o1) nx cx nx i σ3:=fun tb p9 n9 c9 σ3 tX Db=>by
   subst tX;exact Au.Wx ⟨AN Bj XH.big,ih (i+1) _ _ _ _ (by omega) (by omega) (by rw[GG hz];exact Db)⟩
  have dq:=hX.trans ho.up;refine Au.FG ⟨fun _=>⟨b1,o1,rfl,by omega,q1,m1,d1,z.v,by simpa using N8.mono dq,fun _=>RS (Gi.mono BM.mono dq) (Io.rd Gi) (hs.mono dq) fun p' n' c' σ3 U8 CG=>⟨_,_,_,rfl,E9 (U8.mono BM.mono (Ext.CW _ _)) Io.My fun σ4 MH=>⟨_,rfl,?_⟩⟩⟩,fun hh=>by omega⟩;have KW:=ho.mono By.mono (CG.trans MH);have zD:Dz (σ4.del p8) p' n' (My n z.ls):=U8.mono BM.mono ((Ext.GQ MH).trans (ho.new (CG.trans MH)));have e1:f1 z=match Ck (W3 n y) (EE (My n z.ls)) with
   | none=>none
   | some o=>if FV n.op=false∨n.bool=true then some ⟨My n z.ls,(IC n.op z.v o.v).1⟩ else if(IC n.op z.v o.v).2 then some z else none:=rfl
  refine MS.hZ (hM2.mono (ho.up.trans (CG.trans MH))) eZ (fun HC=>⟨_,_,_,_,_,rfl,fun _=>⟨fun _=>next _ _ _ _ _ rfl ?_,fun hh=>(by cases hh)⟩⟩) fun v e he hE=>?_
  ·rw[e1,HC];simpa using KW
  obtain⟨p5,n5,c5,rfl,_⟩:=hE;rw[he]at e1;dsimp only at e1;refine⟨_,_,_,_,_,rfl,fun _=>⟨fun hh=>(by cases hh),fun _=>HF ⟨_,_,rfl,Cq ⟨_,rfl,?_⟩⟩⟩⟩;have bare:(FV n.op=false∨n.bool=true)→∀tb,tb=n.bool→Al σ4 fun yJ=>AH prog (Builtin.append_ #[60,60] 60 #[.slice p8 n8 c8,(.slice (aD yJ 0) 1 1)]) (Hp.set σ4 yJ (.cells #[.slice p' n' c',.U (IC n.op z.v e.v).1] 64 (0,0))) (CS fun uK YY uL Uw=>Au.NQ R n.kind n.op n.text p k c n.width n.back n.EH q m d tb n.parts 0 0 none 0 0 none 0 0 (some my) uK YY uL (aD b1 o1) nx cx nx i Uw):=fun hc tb tX=>
   fun gN ACN=>Aa.el KW zD (by omega) (fun p9 c9 σ5 Mw _=>⟨_,_,_,rfl,next _ _ _ _ _ tX (by rw[e1,AWl hc];exact Mw)⟩) ACN
  refine⟨fun hcf=>bare (.inl hcf) _ rfl,fun hct=>⟨fun hb=>bare (.inr hb) _ hb.symm,fun hb=>⟨fun kT=>fun Vo rC=>?_,fun kT=>next _ _ _ _ _ hb.symm ?_⟩⟩⟩
  ·refine Aa.el KW (Gi.mono BM.mono (hX.trans KW.2)) (by omega) (fun p9 c9 σ5 Mw _=>⟨_,_,_,rfl,next _ _ _ _ _ hb.symm ?_⟩) rC;rw[e1,AWj (by rw[hct,hb];simp),AWl kT];exact Mw
  ·rw[e1,AWj (by rw[hct,hb];simp),AWj (by rw[kT];simp)];simpa using KW
end
theorem ACO:∀w,(Go.sizeOf 84).run prog w=.ok 4 w:=fun w=>by kernel_rfl
abbrev Xn (x:Vv)(p:Option Addr)(n c:Nat)(q:Option Addr)(m d:Nat):Array Value:=#[.I x.kind,.U x.v,.slice p n c,.slice q m d]
abbrev ndC (n:Nd)(p:Option Addr)(k c:Nat)(q:Option Addr)(m d:Nat):Array Value:=#[.I n.kind,.I n.op,.string n.text,.slice p k c,.I n.width,.I n.back,.I n.EH,.slice q m d,.bool n.bool,.I n.parts]
section
variable {σ σ' σ0:Hp}{R:Rr}
theorem UE {b:Nat}{c:Array Value}{v0 v1 v2 v3:Value}{Φ:Unit→Hp→Prop}(hc:c.size=4)(hb:σ b=some (.cells c 84 (0,0)))(h1:∀u∈[v0,v1,v2,v3],u.oneCell'=true)(hv:(Value.agg #[v0,v1,v2,v3]).cells=#[v0,v1,v2,v3])
  (h:Φ () (σ.set b (.cells #[v0,v1,v2,v3] 84 (0,0)))):AH prog (Instr.storeAt 84 (.pointer (some ⟨b,0,none⟩)) (.agg #[v0,v1,v2,v3])) σ Φ:=by
 refine AH.store ACO hb (by rw[hv];rfl) (by omega) (by rw[hv];simpa using h1) ?_;rw[hv,aN (by rw[hc];rfl)];exact h
theorem Av.Cm {b:Nat}{c:List Value}{T:TypeId}(h:σ b=some (.cells c.toArray T (0,0))):Av σ b 0 c:=Av.of fun j v hj=>by
 rw[AXl];exact Af h (by simpa using hj)
theorem rD {n:Nd}{p q a l:Option Addr}{k c m d j e:Nat}{L:List Vv}{x y:Vv}(hs:Gq 1 σ q m (n.names.map .string))(hr:Ac 4 Mj σ l j L)(hx:L[0]?=some x)(hy:L[1]?=some y)(hVx:kW x)(hVy:kW y)(h:IA R σ (j2 FF n x y)):
  Spec prog 80 #[.pointer a,M0 n p k c q m d,.slice l j e] σ R:=by
 have hj:1<j:=by have h1:L.length=j:=hr.1;have:=(AWk.1 hy).1;omega
 obtain⟨b,o,px,nx,cx,qx,mx,dx,rfl,h1,h2,h3,h4,h5,h6⟩:=Mj.at hr hx;obtain⟨_,_,py,ny,cy,qy,my,dy,he,g1,g2,g3,g4,g5,g6⟩:=Mj.at hr hy;cases he;simp only[AYL,AX1,AZf]at h1 h2 h3 h4 g1 g2 g3 g4;have W5:=hVx.len;have Xl:=hVy.len;have q8:=fun z hz=>(hVx.el z hz).1;have lU:=fun z hz=>(hVy.el z hz).1;refine C9.start fun b4 hb4 _=>?_;have x4:=Ext.set (o:=.cells (ndC n p k c q m d) 51 (0,0)) hb4;have c4:=Hp.AA σ b4 (.cells (ndC n p k c q m d) 51 (0,0));generalize AUW:σ.set b4 (.cells (ndC n p k c q m d) 51 (0,0))=σ4 at *;refine⟨b,o,rfl,by omega,x.kind,x.v,px,nx,cx,qx,mx,dx,⟨x4.ld h1,x4.ld h2,x4.ld h3,x4.ld h4,trivial⟩,by omega,y.kind,y.v,py,ny,cy,qy,my,dy,⟨x4.ld g1,x4.ld g2,x4.ld g3,x4.ld g4,trivial⟩,fun b8 hb8 b9 hb9=>?_,fun b9 hb9 b8 hb8=>?_⟩
 focus
  have n8:b8≠b9:=fun e=>by rw[e,Hp.AA]at hb9;cases hb9
  have n9:=(Hp.Bu hb9).2;have nb:∀k o,σ4 k=some o→k≠b8∧k≠b9:=fun k o hk=>⟨fun e=>(by rw[e,hb8]at hk;cases hk),fun e=>(by rw[e,n9]at hk;cases hk)⟩;refine UE rfl (by rw[Hp.AF n8];exact Hp.AA _ _ _) (by simp[Value.oneCell']) rfl ?_;refine⟨fun kb Gn u hu=>?_,UE rfl (by rw[Hp.AF (AXn n8)];exact Hp.AA _ _ _) (by simp[Value.oneCell']) rfl ?_⟩
  ·rw[AWs]at Gn;subst Gn;have bc:∃u,σ4 kb=some u:=by
    have:=x4.ld h1;unfold Hp.ld at this;cases hq:σ4 kb with
    | none=>rw[hq]at this;cases this
    | some u=>exact⟨u,rfl⟩
   obtain⟨u',JO⟩:=bc;rw[Hp.AF (nb _ _ JO).1];exact hu
  have F8:((((σ4.set b8 (.cells #[.I 0,.U 0,.N,.N] 84 (0,0))).set b9 (.cells #[.I 0,.U 0,.N,.N] 84 (0,0))).set b8 (.cells (Xn x px nx cx qx mx dx) 84 (0,0))).set b9 (.cells (Xn y py ny cy qy my dy) 84 (0,0))) b8=some (.cells (Xn x px nx cx qx mx dx) 84 (0,0)):=by rw[Hp.AF n8,Hp.AA]
  have F9:=Hp.AA (((σ4.set b8 (.cells #[.I 0,.U 0,.N,.N] 84 (0,0))).set b9 (.cells #[.I 0,.U 0,.N,.N] 84 (0,0))).set b8 (.cells (Xn x px nx cx qx mx dx) 84 (0,0))) b9 (.cells (Xn y py ny cy qy my dy) 84 (0,0));have X2:Ext σ4 ((((σ4.set b8 (.cells #[.I 0,.U 0,.N,.N] 84 (0,0))).set b9 (.cells #[.I 0,.U 0,.N,.N] 84 (0,0))).set b8 (.cells (Xn x px nx cx qx mx dx) 84 (0,0))).set b9 (.cells (Xn y py ny cy qy my dy) 84 (0,0))):=fun k o hk=>by
   obtain⟨a1,a2⟩:=nb k o hk;rw[Hp.AF a2,Hp.AF a1,Hp.AF a2,Hp.AF a1];exact hk
  generalize ((((σ4.set b8 (.cells #[.I 0,.U 0,.N,.N] 84 (0,0))).set b9 (.cells #[.I 0,.U 0,.N,.N] 84 (0,0))).set b8 (.cells (Xn x px nx cx qx mx dx) 84 (0,0))).set b9 (.cells (Xn y py ny cy qy my dy) 84 (0,0)))=y2 at *
 rotate_left
 focus
  have n8:b9≠b8:=fun e=>by rw[e,Hp.AA]at hb8;cases hb8
  have n9:=(Hp.Bu hb8).2;have nb:∀k o,σ4 k=some o→k≠b8∧k≠b9:=fun k o hk=>⟨fun e=>(by rw[e,n9]at hk;cases hk),fun e=>(by rw[e,hb9]at hk;cases hk)⟩;refine UE rfl (Hp.AA _ _ _) (by simp[Value.oneCell']) rfl ?_;refine⟨fun kb Gn u hu=>?_,UE rfl (by rw[Hp.AF n8,Hp.AF n8];exact Hp.AA _ _ _) (by simp[Value.oneCell']) rfl ?_⟩
  ·rw[AWs]at Gn;subst Gn;have bc:∃u,σ4 kb=some u:=by
    have:=x4.ld h1;unfold Hp.ld at this;cases hq:σ4 kb with
    | none=>rw[hq]at this;cases this
    | some u=>exact⟨u,rfl⟩
   obtain⟨u',JO⟩:=bc;rw[Hp.AF (nb _ _ JO).1];exact hu
  have F8:((((σ4.set b9 (.cells #[.I 0,.U 0,.N,.N] 84 (0,0))).set b8 (.cells #[.I 0,.U 0,.N,.N] 84 (0,0))).set b8 (.cells (Xn x px nx cx qx mx dx) 84 (0,0))).set b9 (.cells (Xn y py ny cy qy my dy) 84 (0,0))) b8=some (.cells (Xn x px nx cx qx mx dx) 84 (0,0)):=by rw[Hp.AF (AXn n8),Hp.AA]
  have F9:=Hp.AA (((σ4.set b9 (.cells #[.I 0,.U 0,.N,.N] 84 (0,0))).set b8 (.cells #[.I 0,.U 0,.N,.N] 84 (0,0))).set b8 (.cells (Xn x px nx cx qx mx dx) 84 (0,0))) b9 (.cells (Xn y py ny cy qy my dy) 84 (0,0));have X2:Ext σ4 ((((σ4.set b9 (.cells #[.I 0,.U 0,.N,.N] 84 (0,0))).set b8 (.cells #[.I 0,.U 0,.N,.N] 84 (0,0))).set b8 (.cells (Xn x px nx cx qx mx dx) 84 (0,0))).set b9 (.cells (Xn y py ny cy qy my dy) 84 (0,0))):=fun k o hk=>by
   obtain⟨a1,a2⟩:=nb k o hk;rw[Hp.AF a2,Hp.AF a1,Hp.AF a1,Hp.AF a2];exact hk
  generalize ((((σ4.set b9 (.cells #[.I 0,.U 0,.N,.N] 84 (0,0))).set b8 (.cells #[.I 0,.U 0,.N,.N] 84 (0,0))).set b8 (.cells (Xn x px nx cx qx mx dx) 84 (0,0))).set b9 (.cells (Xn y py ny cy qy my dy) 84 (0,0)))=y2 at *
 all_goals
  have F4:=X2 _ _ c4;have X:=x4.trans X2;have F4':=Av.Cm (c:=[.I n.kind,.I n.op,.string n.text,.slice p k c,.I n.width,.I n.back,.I n.EH,.slice q m d,.bool n.bool,.I n.parts]) F4;have hn:=h.kR X;unfold j2 at hn;refine⟨x.kind,Af F8 rfl,fun vo=>⟨y.kind,Af F9 rfl,fun zF=>?_,fun zF=>?_⟩,fun vo=>?_⟩
  ·rw[AWl ⟨vo,zF⟩]at hn;exact⟨_,_,_,_,_,_,_,_,_,_,_,_,_,_,F4',x.v,Af F8 rfl,y.v,Af F9 rfl,HF ⟨_,_,rfl,hn.ok _ y2 none 0 0 none 0 0 rfl (.refl _) Ac.nil Ac.nil (AWu _) (AWu _)⟩⟩
  ·rw[AWj (fun hh=>zF hh.2),AWl vo]at hn;refine⟨x.kind,Af F8 rfl,fun _=>⟨_,_,_,_,_,_,_,_,_,_,_,_,_,_,F4',py,ny,cy,Af F9 rfl,UD (g:=fun v=>IC n.op x.v v) (g5.mono By.mono X) lU (by omega) DG.en (fun σ2 v R' A4 Mx=>?_) hn.U7⟩,fun hh=>absurd vo hh⟩;exact DG.start ⟨_,_,_,_,_,_,_,_,_,_,_,_,_,_,F4'.mono A4,x.v,Af (A4 _ _ F8) rfl,HF ⟨_,_,rfl,Mx⟩⟩
  ·rw[AWj (fun hh=>vo hh.1),AWj vo]at hn;refine⟨x.kind,Af F8 rfl,fun hh=>absurd hh vo,fun _=>⟨y.kind,Af F9 rfl,fun zF=>?_,fun zF=>⟨n.op,Af F4 rfl,Qe ⟨_,rfl,fun IH=>?_,fun IH=>?_⟩⟩⟩⟩
   ·rw[AWl zF]at hn;refine⟨_,_,_,_,_,_,_,_,_,_,_,_,_,_,F4',px,nx,cx,Af F8 rfl,UD (g:=fun v=>IC n.op v y.v) (h5.mono By.mono X) q8 (by omega) DL.en (fun σ2 v R' A4 Mx=>?_) hn.U7⟩;exact DL.start ⟨_,_,_,_,_,_,_,_,_,_,_,_,_,_,F4'.mono A4,y.v,Af (A4 _ _ F9) rfl,HF ⟨_,_,rfl,Mx⟩⟩
   ·rw[AWj zF,AWl (AWr IH)]at hn;exact⟨_,_,_,_,_,_,_,_,_,_,_,_,_,_,F4',px,nx,cx,Af F8 rfl,py,ny,cy,Af F9 rfl,kZ (hs.mono X) (h5.mono By.mono X) (g5.mono By.mono X) q8 lU (by omega) hn.U7⟩
   ·rw[AWj zF,AWj (AW2 IH)]at hn;exact⟨_,_,_,_,_,_,_,_,_,_,_,_,_,_,F4',px,nx,cx,Af F8 rfl,py,ny,cy,Af F9 rfl,XI (hs.mono X) (h5.mono By.mono X) (g5.mono By.mono X) q8 lU (by omega) hn.U7⟩
end
structure GR where
 b:Nat
 lp:Option Addr
 ln:Nat
 lc:Nat
 vp:Option Addr
 vn:Nat
 vc:Nat
def GR.cl (r:GR):List Nat:=r.b::Ri r.vp
def GR.cell (r:GR):Obj:=.cells #[.slice r.lp r.ln r.lc,.slice r.vp r.vn r.vc] 168 (0,0)
def Ex:List Rg→List GR→List (ByteArray×Nat)
 | g::gs,r::rs=>(EE g.ls,r.b)::Ex gs rs
 | _,_=>[]
structure GS (τ σ:Hp)(m:Nat)(op:Option Addr)(on oc:Nat)(rs:List GR)(gs:List Rg):Prop where
 len:rs.length=gs.length
 map:MS (fun v b=>v=.pointer (aD b 0)) σ m (Ex gs rs)
 ord:Ao 1 σ op on oc (rs.map fun r=>.pointer (aD r.b 0))
 box:∀(i:Nat) (r:GR) (g:Rg),rs[i]?=some r→gs[i]?=some g→σ r.b=some r.cell∧Dz τ r.lp r.ln g.ls∧DT .u64 σ r.vp r.vn r.vc g.vs
 om:∀a,op=some a→a.block≠m∧τ a.block=none
 dm:∀(i:Nat) (r:GR),rs[i]?=some r→∀k∈r.cl,k≠m∧(∀a,op=some a→k≠a.block)∧τ k=none
 vb:∀(i:Nat) (r:GR),rs[i]?=some r→∀a,r.vp=some a→a.block≠r.b
 dr:∀(i j:Nat) (r r':GR),i≠j→rs[i]?=some r→rs[j]?=some r'→∀k∈r.cl,k ∉ r'.cl
 tm:τ m=none
 ext:Ext τ σ
theorem vq:∀w,(Go.sizeOf 166).run prog w=.ok 1 w:=fun w=>by kernel_rfl
theorem vr {p:Option Addr}{k:Nat}:k∈Ri p↔∃a,p=some a∧k=a.block:=by
 cases p with
 | none=>simp[Ri]
 | some a=>simp[Ri]
theorem I0 {r:GR}{k:Nat}:k∈r.cl↔k=r.b∨∃a,r.vp=some a∧k=a.block:=by
 unfold GR.cl;rw[AWo,vr]
theorem Ao.of_eq {s:Nat}{σ σ':Hp}{p:Option Addr}{n c:Nat}{cs:List Value}(ho:Ao s σ p n c cs)(h:∀a,p=some a→σ' a.block=σ a.block):Ao s σ' p n c cs:=
 ⟨ho.1,ho.2.1,ho.2.2.imp id fun⟨b',o',arr,T,hp,hb,r⟩=>⟨b',o',arr,T,hp,by rw[h _ hp];exact hb,r⟩⟩
theorem WC:∀{gs:List Rg} {rs:List GR} {i:Nat} {g g':Rg} {r r':GR},gs[i]?=some g→rs[i]?=some r→g'.ls=g.ls→r'.b=r.b→Ex (gs.set i g') (rs.set i r')=Ex gs rs
 | [],_,i,_,_,_,_,hg,_,_,_=>by simp at hg
 | _::_,[],i,_,_,_,_,_,hr,_,_=>by simp at hr
 | a::gs,b::rs,0,g,g',r,r',hg,hr,h1,h2=>by
  simp only[AXI,AWp]at hg hr;subst hg;subst hr;simp only[List.set_cons_zero,Ex,h1,h2]
 | a::gs,b::rs,i+1,g,g',r,r',hg,hr,h1,h2=>by
  simp only[AYv,Ex];rw[WC (by simpa using hg) (by simpa using hr) h1 h2]
theorem WD:∀{gs:List Rg} {rs:List GR} {g:Rg} {r:GR},rs.length=gs.length→Ex (gs++[g]) (rs++[r])=Ex gs rs++[(EE g.ls,r.b)]
 | [],[],g,r,_=>rfl
 | [],_::_,g,r,h=>by simp at h
 | _::_,[],g,r,h=>by simp at h
 | a::gs,b::rs,g,r,h=>by
  simp only[AXb,Ex];rw[WD (by simpa using h)]
theorem UF:∀{gs:List Rg} {rs:List GR} {ls:List Lb} {v:Int} {b:Nat},rs.length=gs.length→Ck (Ex gs rs) (EE ls)=some b→∃(i:Nat) (g:Rg) (r:GR),gs[i]?=some g∧rs[i]?=some r∧r.b=b∧Hw ls v gs=gs.set i ⟨g.ls,g.vs++[v]⟩
 | [],_,ls,v,b,_,h=>by simp[Ex,Ck]at h
 | _::_,[],ls,v,b,hl,h=>by simp at hl
 | g::gs,r::rs,ls,v,b,hl,h=>by
  unfold Ex Ck at h;by_cases hk:EE g.ls=EE ls
  ·rw[AWl hk]at h;exact⟨0,g,r,rfl,rfl,by simpa using h,by unfold Hw;rw[AWl hk];rfl⟩
  ·rw[AWj hk]at h;obtain⟨i,g',r',h1,h2,h3,h4⟩:=UF (v:=v) (by simpa using hl) h;exact⟨i+1,g',r',by simpa using h1,by simpa using h2,h3,by unfold Hw;rw[AWj hk,h4];rfl⟩
theorem UG:∀{gs:List Rg} {rs:List GR} {ls:List Lb} {v:Int},rs.length=gs.length→Ck (Ex gs rs) (EE ls)=none→Hw ls v gs=gs++[⟨ls,[v]⟩]∧∀a∈Ex gs rs,a.1≠EE ls
 | [],_,ls,v,_,h=>⟨rfl,fun a ha=>by simp[Ex]at ha⟩
 | _::_,[],ls,v,hl,h=>by simp at hl
 | g::gs,r::rs,ls,v,hl,h=>by
  unfold Ex Ck at h;by_cases hk:EE g.ls=EE ls
  ·rw[AWl hk]at h;cases h
  ·rw[AWj hk]at h;obtain⟨h1,h2⟩:=UG (v:=v) (by simpa using hl) h;refine⟨by unfold Hw;rw[AWj hk,h1];rfl,fun a ha=>?_⟩;unfold Ex at ha;rcases AWo.1 ha with rfl|ha
   ·exact hk
   ·exact h2 a ha
section
variable {τ σ σ' σ0:Hp}{R:Rr}{m on oc:Nat}{op:Option Addr}{rs:List GR}{gs:List Rg}
theorem GS.known (h:GS τ σ m op on oc rs gs){i:Nat}{r:GR}(hr:rs[i]?=some r):∀k∈r.cl,∃u,σ k=some u:=fun k hk=>by
 have Am:=(AWk.1 hr).1;obtain⟨g,hg⟩:∃g,gs[i]?=some g:=⟨_,AWm (by rw[←h.len];exact Am)⟩;obtain⟨h1,_,h3⟩:=h.box i r g hr hg;rcases I0.1 hk with rfl|⟨a,ha,rfl⟩
 ·exact⟨_,h1⟩
 ·have:=Ao.block h3 a ha;cases hh:σ a.block with
  | none=>exact absurd hh this
  | some u=>exact⟨u,rfl⟩
theorem GS.grow (h:GS τ σ m op on oc rs gs)(hx:Ext σ σ'):∃τ',GS τ' σ' m op on oc rs gs∧Ext τ τ'∧Ext (σ.new σ') τ':=by
 have ht:Ext τ (τ.or (σ.new σ')):=Ext.U2 _ _;have kn:∀k,(∃u,σ k=some u)→τ k=none→(τ.or (σ.new σ')) k=none:=fun k ⟨u,hu⟩ hk=>by
  rw[Hp.Mh hk];cases hh:(σ.new σ') k with
  | none=>rfl
  | some v=>rw[(AQ.1 hh).1]at hu;cases hu
 have ne:∀k,σ k≠none→∃u,σ k=some u:=fun k hk=>by
  cases hh:σ k with
  | none=>exact absurd hh hk
  | some u=>exact⟨u,rfl⟩
 refine⟨τ.or (σ.new σ'),⟨h.len,h.map.mono hx,h.ord.mono hx,fun i r g hr hg=>?_,fun a ha=>⟨(h.om a ha).1,kn _ (ne _ (h.ord.block a ha)) (h.om a ha).2⟩,fun i r hr k hk=>?_,h.vb,h.dr,kn _ (ne _ h.map.known) h.tm,?_⟩,ht,?_⟩
 ·obtain⟨h1,h2,h3⟩:=h.box i r g hr hg;exact⟨hx _ _ h1,h2.mono BM.mono ht,h3.mono hx⟩
 ·obtain⟨h1,h2,h3⟩:=h.dm i r hr k hk;exact⟨h1,h2,kn k (h.known hr k hk) h3⟩
 ·exact Ext.Y3 (h.ext.trans hx) (Ext.CW _ _)
 ·refine Ext.Mh fun k hk=>?_;cases hh:τ k with
  | none=>rfl
  | some u=>
   have h1:=h.ext _ _ hh;cases h2:(σ.new σ') k with
   | none=>exact absurd h2 hk
   | some v=>rw[(AQ.1 h2).1]at h1;cases h1
theorem GS.push {i:Nat}{r:GR}{g:Rg}{v:Int}(h:GS τ σ m op on oc rs gs)(hr:rs[i]?=some r)(hg:gs[i]?=some g)(hb:r.vn≤1000000000000){Φ:Hp→Prop}
  (hΦ:∀σ' r',GS τ σ' m op on oc (rs.set i r') (gs.set i ⟨g.ls,g.vs++[v]⟩)→Φ σ') :
  Al σ fun b69=>AH prog (Builtin.append_ #[166,166] 166 #[.slice r.vp r.vn r.vc,(.slice (aD b69 0) 1 1)]) (Hp.set σ b69 (.cells #[.U v] 38 (0,0))) (CS fun p70 n70 c70 y=>AH prog (Instr.storeAt 166 (.pointer (aD r.b 1)) (.slice p70 n70 c70)) y (fun _ AE=>Φ AE)):=fun b69 AOz=>by
 obtain⟨h1,h2,h3⟩:=h.box i r g hr hg;have tH:=(AWk.1 hr).1;have hig:=(AWk.1 hg).1;have x1:=Ext.set (o:=.cells #[.U v] 38 (0,0)) AOz;refine CE (Ao.mono x1 h3) (W0 (f:=.int .u64) (x:=v) (Hp.AA _ _ _)) Ey.Q9 (by omega) fun vp' vc' σ2 Bp A4=>⟨_,_,_,rfl,?_⟩;have hvb:=h.vb i r hr;have keep:∀k u,σ k=some u→(∀a,r.vp=some a→k≠a.block)→σ2 k=some u∧∀a,vp'=some a→k≠a.block:=fun k u hk Ay=>by
  obtain⟨a1,a2⟩:=AR.1 (A4 k u (AR.2 ⟨Ay,x1 _ _ hk⟩));exact⟨a2,a1⟩
 obtain⟨c1,c2⟩:=keep r.b _ h1 fun a ha e=>hvb a ha e.symm;refine AH.store vq c1 rfl (by simp) (by simp[Value.cells,Value.oneCell']) ?_
 let r':GR:=⟨r.b,r.lp,r.ln,r.lc,vp',r.vn+1,vc'⟩
 have VC:(Obj.cells (Lt #[.slice r.lp r.ln r.lc,.slice r.vp r.vn r.vc] 1 (Value.slice vp' (r.vn+1) vc').cells.toList) 168 (0,0))=r'.cell:=by simp[Lt,Value.cells,GR.cell,r']
 rw[VC];have T:∀k u,σ k=some u→k ∉ r.cl→(σ2.set r.b r'.cell) k=some u∧k ∉ r'.cl:=fun k u hk fT=>by
  have hnb:k≠r.b:=fun e=>fT (I0.2 (.inl e));obtain⟨a1,a2⟩:=keep k u hk fun a ha e=>fT (I0.2 (.inr ⟨a,ha,e⟩));exact⟨by rw[Hp.AF hnb];exact a1,fun hc=>by
   rcases I0.1 hc with e|⟨a,ha,e⟩
   ·exact hnb e
   ·exact a2 a ha e⟩
 have TK:∀k,(∃u,σ k=some u)→k ∉ r.cl→(σ2.set r.b r'.cell) k=σ k∧k ∉ r'.cl:=fun k ⟨u,hu⟩ fT=>⟨by rw[(T k u hu fT).1,hu],(T k u hu fT).2⟩;have ne:∀k,σ k≠none→∃u,σ k=some u:=fun k hk=>by
  cases hh:σ k with
  | none=>exact absurd hh hk
  | some u=>exact⟨u,rfl⟩
 have mk:=TK m (ne _ h.map.known) fun hc=>(h.dm i r hr m hc).1 rfl;have ok:∀a,op=some a→(σ2.set r.b r'.cell) a.block=σ a.block∧a.block ∉ r'.cl:=fun a ha=>TK _ (ne _ (h.ord.block a ha)) fun hc=>(h.dm i r hr _ hc).2.1 a ha rfl;have jk:∀j s,j≠i→rs[j]?=some s→∀k∈s.cl,(σ2.set r.b r'.cell) k=σ k∧k ∉ r'.cl:=fun j s hj hs k hk=>TK k (h.known hs k hk) (h.dr j i s r hj hs hr k hk);have bV:∀j s,(rs.set i r')[j]?=some s→(j=i∧s=r')∨(j≠i∧rs[j]?=some s):=fun j s hs=>by
  by_cases hj:j=i
  ·subst hj;rw[AXe tH]at hs;exact .inl ⟨rfl,by simpa using hs.symm⟩
  ·rw[AXp (AXn hj)]at hs;exact .inr ⟨hj,hs⟩
 refine hΦ _ r' ⟨by simp[h.len],?_,?_,fun j s t hs ht=>?_,fun a ha=>h.om a ha,fun j s hs k hk=>?_,fun j s hs a ha=>?_,fun j l s s' zG hs Re k hk=>?_,h.tm,fun k u hk=>?_⟩
 ·rw[WC (g':=⟨g.ls,g.vs++[v]⟩) (r':=r') hg hr rfl rfl];exact h.map.loc mk.1
 ·have:(rs.set i r').map (fun r=>Value.pointer (aD r.b 0))=rs.map fun r=>Value.pointer (aD r.b 0):=by
   rw[AZu];obtain⟨_,e⟩:=AWk.1 hr;have:Value.pointer (aD r'.b 0)=(rs.map fun r=>Value.pointer (aD r.b 0))[i]'(by simpa using tH):=by simp[e,r']
   rw[this,AZj]
  rw[this];exact Ao.of_eq h.ord fun a ha=>(ok a ha).1
 ·rcases bV j s hs with ⟨rfl,rfl⟩|⟨hj,Re⟩
  ·rw[AXe hig]at ht;cases ht;refine⟨Hp.AA _ _ _,h2,?_⟩;have:=Ao.AF (b:=r.b) (o:=r'.cell) Bp (fun a ha e=>c2 a ha e.symm);unfold DT;rw[AXG];exact this
  ·rw[AXp (AXn hj)]at ht;obtain⟨a1,a2,a3⟩:=h.box j s t Re ht;refine⟨?_,a2,Ao.of_eq a3 fun a ha=>(jk j s hj Re _ (I0.2 (.inr ⟨a,ha,rfl⟩))).1⟩;rw[(jk j s hj Re _ (I0.2 (.inl rfl))).1];exact a1
 ·rcases bV j s hs with ⟨rfl,rfl⟩|⟨hj,Re⟩
  ·refine⟨fun e=>mk.2 (e▸hk),fun a ha e=>(ok a ha).2 (e▸hk),?_⟩;cases hq:τ k with
   | none=>rfl
   | some u=>exact absurd hk (T k u (h.ext _ _ hq) fun hc=>by rw[(h.dm j r hr k hc).2.2]at hq;cases hq).2
  ·exact h.dm j s Re k hk
 ·rcases bV j s hs with ⟨rfl,rfl⟩|⟨hj,Re⟩
  ·exact fun e=>c2 a ha e.symm
  ·exact h.vb j s Re a ha
 ·rcases bV j s hs with ⟨rfl,rfl⟩|⟨hj,Io⟩
  ·rcases bV l s' Re with ⟨rfl,rfl⟩|⟨hl,hs2⟩
   ·exact absurd rfl zG
   ·exact fun hc=>(jk l s' hl hs2 k hc).2 hk
  ·rcases bV l s' Re with ⟨rfl,rfl⟩|⟨hl,hs2⟩
   ·exact(jk j s hj Io k hk).2
   ·exact h.dr j l s s' zG Io hs2 k hk
 ·exact(T k u (h.ext _ _ hk) fun hc=>by rw[(h.dm i r hr k hc).2.2]at hk;cases hk).1
end
theorem vt:∀w,(zeroValue 179).run prog w=.ok (.pointer none) w:=fun w=>by
 have h:prog.info? 179=some t179:=by kernel_rfl
 simp[zeroValue,typeInfo,h];rfl
theorem vu:∀w,(zeroValue 180).run prog w=.ok .nilFunc w:=fun w=>by
 have h:prog.info? 180=some t180:=by kernel_rfl
 simp[zeroValue,typeInfo,h];rfl
section
variable {τ σ σ' σ0:Hp}{R:Rr}{m on oc:Nat}{op:Option Addr}{rs:List GR}{gs:List Rg}
theorem GS.mono (h:GS τ σ m op on oc rs gs)(hx:Ext σ σ'):GS τ σ' m op on oc rs gs:=
 ⟨h.len,h.map.mono hx,h.ord.mono hx,fun i r g hr hg=>let ⟨h1,h2,h3⟩:=h.box i r g hr hg;⟨hx _ _ h1,h2,h3.mono hx⟩,h.om,h.dm,h.vb,h.dr,h.tm,h.ext.trans hx⟩
theorem GS.add {ls:List Lb}{lp:Option Addr}{ln lc:Nat}(h:GS τ σ m op on oc rs gs)(DS:∀a∈Ex gs rs,a.1≠EE ls)(hr:Dz τ lp ln ls)(YG:Ai ls)(hon:on≤1000000000000){Φ:Nat→Option Addr→Nat→Nat→Hp→Prop}
  (hΦ:∀b vv oc' σ',GS τ σ' m vv (on+1) oc' (rs++[⟨b,lp,ln,lc,none,0,0⟩]) (gs++[⟨ls,[]⟩])→Φ b vv (on+1) oc' σ') :
  Al σ fun LC=>Spec prog 19 #[.slice lp ln lc] (Hp.set σ LC (.cells #[.slice lp ln lc,.N] 168 (0,0))) (Ap R (CT fun s56 AJ=>AH prog (Instr.mapUpdate 176 (.map (some m)) (.string s56) (.pointer (aD LC 0))) AJ (fun _ As=>Al As fun b60=>AH prog (Builtin.append_ #[177,177] 177 #[.slice op on oc,(.slice (aD b60 0) 1 1)]) (Hp.set As b60 (.cells #[(.pointer (aD LC 0))] 179 (0,0))) (CS fun p61 n61 c61 JY=>Φ LC p61 n61 c61 JY)))):=fun LC rE=>by
 have x1:=Ext.set (o:=.cells #[.slice lp ln lc,.N] 168 (0,0)) rE;have tb:τ LC=none:=Ae h.ext rE;have ne:∀k,σ k≠none→∃u,σ k=some u:=fun k hk=>by
  cases hh:σ k with
  | none=>exact absurd hh hk
  | some u=>exact⟨u,rfl⟩
 have nem:LC≠m:=fun e=>h.map.known (by rw[←e];exact rE);have neo:∀a,op=some a→LC≠a.block:=fun a ha e=>h.ord.block a ha (by rw[←e];exact rE);have ncl:∀(i:Nat) (r:GR),rs[i]?=some r→LC ∉ r.cl:=fun i r hr hc=>by obtain⟨u,hu⟩:=h.known hr _ hc;rw[rE]at hu;cases hu
 refine E9 (hr.mono BM.mono (h.ext.trans x1)) YG fun σ2 A4=>⟨_,rfl,?_⟩;have h2:=h.mono (x1.trans A4);have c2:=A4 _ _ (Hp.AA σ LC (.cells #[.slice lp ln lc,.N] 168 (0,0)));refine h2.map.put (x:=LC) rfl fun o hM=>fun b60 AJm=>?_;rw[LL DS]at hM;have AO2:Ao 1 (σ2.set m o) op on oc (rs.map fun r=>.pointer (aD r.b 0)):=Ao.of_eq h2.ord fun a ha=>Hp.AF (h.om a ha).1;refine CE (AO2.mono (.set AJm)) (W0 (f:=fun v=>v) (x:=.pointer (aD LC 0)) (Hp.AA _ _ _)) (fun u hu=>by simp at hu;subst hu;rfl) (by omega) fun vv oc' σ5 Mw du=>⟨_,_,_,rfl,?_⟩;have T:∀k u,(σ2.set m o) k=some u→(∀a,op=some a→k≠a.block)→σ5 k=some u∧∀a,vv=some a→k≠a.block:=fun k u hk Ay=>by
  obtain⟨a1,a2⟩:=AR.1 (du k u (AR.2 ⟨Ay,(Ext.set AJm) _ _ hk⟩));exact⟨a2,a1⟩
 have T2:∀k u,σ2 k=some u→k≠m→(∀a,op=some a→k≠a.block)→σ5 k=some u∧∀a,vv=some a→k≠a.block:=fun k u hk yn=>T k u (by rw[Hp.AF yn];exact hk);have Tr:∀(i:Nat) (r:GR),rs[i]?=some r→∀k∈r.cl,σ5 k=σ2 k∧∀a,vv=some a→k≠a.block:=fun i r hr k hk=>by
  obtain⟨u,hu⟩:=h2.known hr k hk;obtain⟨d1,d2,_⟩:=h.dm i r hr k hk;obtain⟨a1,a2⟩:=T2 k u hu d1 d2;exact⟨by rw[a1,hu],a2⟩
 have yz:∃u,(σ2.set m o) m=some u:=⟨_,Hp.AA _ _ _⟩;obtain⟨um,hum⟩:=yz;obtain⟨m1,m2⟩:=T m um hum fun a ha e=>(h.om a ha).1 e.symm;have bV:∀(i:Nat) (r:GR),(rs++[(⟨LC,lp,ln,lc,none,0,0⟩:GR)])[i]?=some r→rs[i]?=some r∨(i=rs.length∧r=⟨LC,lp,ln,lc,none,0,0⟩):=fun i r hr=>by
  rw[AXt]at hr;split at hr
  ·exact .inl hr
  ·rename_i Am;have AO3:=(AWk.1 hr).1;simp only[AXc]at AO3;have:i-rs.length=0:=by omega
   rw[this]at hr;exact .inr ⟨by omega,by simpa using hr.symm⟩
 have cn:∀k,k∈(⟨LC,lp,ln,lc,none,0,0⟩:GR).cl→k=LC:=fun k hk=>by
  rcases I0.1 hk with e|⟨a,ha,_⟩
  ·exact e
  ·cases ha
 obtain⟨b1,b2⟩:=T2 LC _ c2 nem neo;refine hΦ LC vv oc' σ5 ⟨by simp[h.len],?_,?_,fun i r g hi hg=>?_,fun a ha=>⟨fun e=>m2 a ha e.symm,?_⟩,fun i r hi k hk=>?_,fun i r hi a ha=>?_,fun i j r r' I2 hi hj k hk=>?_,h.tm,fun k u hk=>?_⟩
 ·rw[WD h.len];exact hM.loc (by rw[m1,hum])
 ·rw[AXG];exact Mw
 ·rcases bV i r hi with Bj|⟨rfl,rfl⟩
  ·have Am:=(AWk.1 Bj).1;rw[AXW (by rw[←h.len];exact Am)]at hg;obtain⟨a1,a2,a3⟩:=h2.box i r g Bj hg;refine⟨?_,a2,Ao.of_eq a3 fun a ha=>(Tr i r Bj _ (I0.2 (.inr ⟨a,ha,rfl⟩))).1⟩;rw[(Tr i r Bj _ (I0.2 (.inl rfl))).1];exact a1
  ·rw[h.len,AXV (AWu _),AX5]at hg;simp only[AXI,AWp]at hg;subst hg;exact⟨b1,hr,DT.nil⟩
 ·cases hq:τ a.block with
  | none=>rfl
  | some u=>
   obtain⟨_,e2⟩:=T2 a.block u (h2.ext _ _ hq) (fun e=>by rw[e,h.tm]at hq;cases hq) (fun a' Hb e=>by rw[e,(h.om a' Hb).2]at hq;cases hq);exact absurd rfl (e2 a ha)
 ·rcases bV i r hi with Bj|⟨rfl,rfl⟩
  ·exact⟨(h.dm i r Bj k hk).1,(Tr i r Bj k hk).2,(h.dm i r Bj k hk).2.2⟩
  ·rw[cn k hk];exact⟨nem,b2,tb⟩
 ·rcases bV i r hi with Bj|⟨rfl,rfl⟩
  ·exact h.vb i r Bj a ha
  ·cases ha
 ·rcases bV i r hi with Bj|⟨rfl,rfl⟩
  ·rcases bV j r' hj with iy|⟨rfl,rfl⟩
   ·exact h.dr i j r r' I2 Bj iy k hk
   ·exact fun hc=>ncl i r Bj (by rw[←cn k hc];exact hk)
  ·rcases bV j r' hj with iy|⟨rfl,rfl⟩
   ·exact fun hc=>ncl j r' iy (by rw[←cn k hk];exact hc)
   ·exact absurd rfl I2
 ·exact(T2 k u (h2.ext _ _ hk) (fun e=>by rw[e,h.tm]at hk;cases hk) (fun a ha e=>by rw[e,(h.om a ha).2]at hk;cases hk)).1
end
def PG (B:Nat)(gs:List Rg):Prop:=∀g∈gs,0<g.vs.length∧g.vs.length≤B∧Ai g.ls
theorem iF {B:Nat}{ls:List Lb}{v:Int}(hs:Ai ls):∀{gs:List Rg},PG B gs→PG (B+1) (Hw ls v gs)
 | [],_=>fun g hg=>by
  unfold Hw at hg;rw[AWs]at hg;subst hg;exact⟨by simp,by simp,hs⟩
 | a::gs,h=>fun g hg=>by
  have ha:=h a (by simp);unfold Hw at hg;split at hg
  ·rcases AWo.1 hg with rfl|hg
   ·exact⟨by simp,by simp;omega,ha.2.2⟩
   ·have:=h g (AWq _ hg);exact⟨this.1,by omega,this.2.2⟩
  ·rcases AWo.1 hg with rfl|hg
   ·exact⟨ha.1,by omega,ha.2.2⟩
   ·exact iF hs (fun g hg=>h g (AWq _ hg)) g hg
theorem aj {ls:List Lb}{v:Int}:∀{gs:List Rg},(Hw ls v gs).length≤gs.length+1
 | []=>by simp[Hw]
 | a::gs=>by
  unfold Hw;split
  ·simp
  ·have:=aj (ls:=ls) (v:=v) (gs:=gs);simp only[AWw];omega
def XJ (n:Nd)(l:List El):List Rg:=l.foldl (fun gs x=>Hw (D0 n x.ls) x.v gs) []
theorem Ai.group {n:Nd}{ls:List Lb}(h:Ai ls):Ai (D0 n ls):=by
 unfold D0 Y8 DB Y9;split
 ·exact h.filter _
 ·split
  ·exact(h.filter _).filter _
  ·exact⟨by decide,fun x hx=>by cases hx⟩
theorem rF {n:Nd}{l:List El}(hs:∀e∈l,Ai e.ls):∀k,k≤l.length→PG k (XJ n (l.take k))∧(XJ n (l.take k)).length≤k:=fun k=>by
 induction k with
 | zero=>intro _;exact⟨fun g hg=>by simp[XJ]at hg,by simp[XJ]⟩
 | succ k ih=>
  intro hk;obtain⟨h1,h2⟩:=ih (by omega);have hx:l[k]?=some l[k]:=AWm _;have e:XJ n (l.take (k+1))=Hw (D0 n l[k].ls) l[k].v (XJ n (l.take k)):=by unfold XJ;rw[Ag hx,AYN];rfl
  rw[e];exact⟨iF (hs _ (AYV _)).group h1,by have:=aj (ls:=D0 n l[k].ls) (v:=l[k].v) (gs:=XJ n (l.take k));omega⟩
section
variable {τ σ σ' σ0:Hp}{R:Rr}
theorem GS.empty {mb:Nat}(h:σ mb=none):GS σ (σ.set mb (.map #[] 0)) mb none 0 0 [] []:=
 ⟨rfl,MS.fresh,Ao.nil,fun i r g hi=>(by simp at hi),fun a ha=>(by cases ha),fun i r hi=>(by simp at hi),fun i r hi=>(by simp at hi),fun i j r r' _ hi=>(by simp at hi),h,.set h⟩
theorem ka {op:Int}{f:Nat}{p:Option Addr}{n c:Nat}{vs:List Int}{jb:Value}(Kq:(op=1∧jb=.func (.func 109) #[] #[])∨(op=2∧jb=.func (.func 110) #[] #[])∨(op=3∧jb=.func (.func 111) #[] #[])∨(op=4∧jb=.func (.func 112) #[] #[])∨(op=5∧jb=.func (.func 113) #[] #[]))
  (hr:Ev .u64 σ p n vs) (h0:0<n) (hc:n≤c) (h:R (.returned (.U (foldI op vs))) σ):∃(f95:Nat) (Yf Yg:Array Value),jb=.func (.func f95) Yf Yg∧Enters prog f95∧Spec prog f95 (Yf++#[.slice p n c]++Yg) σ R:=by
 have hl:vs.length=n:=hr.1;unfold foldI at h;rcases Kq with ⟨rfl,rfl⟩|⟨rfl,rfl⟩|⟨rfl,rfl⟩|⟨rfl,rfl⟩|⟨rfl,rfl⟩
 ·exact⟨_,#[],#[],rfl,FP.en,Ts hr h0 hc h⟩
 ·exact⟨_,#[],#[],rfl,Gc.en,Tt hr h0 hc h⟩
 ·exact⟨_,#[],#[],rfl,DV.en,MP hr h0 hc h⟩
 ·exact⟨_,#[],#[],rfl,EW.en,Nn hr h0 hc (by rw[←hl];exact h)⟩
 ·exact⟨_,#[],#[],rfl,Gd.en,Ml (by rw[←hl];exact h)⟩
theorem rG {n:Nd}{p q a l:Option Addr}{k c m d j e:Nat}{L:List Vv}{x:Vv}(hs:Gq 1 σ q m (n.names.map .string))(hr:Ac 4 Mj σ l j L)(hx:L[0]?=some x)(hV:kW x)(Kq:1≤n.op∧n.op≤5)
  (h:IA R σ ((DN FF (dz FF n x)).map fun l=>⟨2,0,l,[]⟩)):Spec prog 79 #[.pointer a,M0 n p k c q m d,.slice l j e] σ R:=by
 have hj:0<j:=by have h1:L.length=j:=hr.1;have:=(AWk.1 hx).1;omega
 obtain⟨b,o,pv,nv,cv,qv,mv,dv,rfl,h1,h2,h3,h4,h5,h6⟩:=Mj.at hr hx;simp only[AYL,AX1]at h1 h2 h3 h4;have hl:x.vec.length=nv:=h5.1;have hlen:=hV.len;have YG:=fun z hz=>(hV.el z hz).1;have CH:=rF (n:=n) YG;have hA:dz FF n x=(XJ n x.vec).map fun g=>⟨g.ls,foldI n.op g.vs⟩:=rfl;rw[hA]at h;refine AS.start fun _ _=>EC fun mb vV=>⟨mb,rfl,b,o,rfl,by omega,pv,nv,cv,(Ext.set vV).ld h3,?_⟩;have last:∀τ σ' op on oc rs,GS τ σ' mb op on oc rs (XJ n x.vec)→Ext σ τ→AS.Eu R n.kind n.op n.text p k c n.width n.back n.EH q m d n.bool n.parts 0 0 none 0 0 none 0 0 (some mb) op on oc pv nv cv nv nv σ':=fun τ σ' op on oc rs hG Bi=>by
  obtain⟨hPG,vw⟩:=CH nv (by omega);rw[AWt (by omega)]at hPG vw;refine AS.FE ⟨fun Am=>by omega,fun _=>EC fun mf hmf=>⟨mf,rfl,?_⟩⟩;refine(qe.fresh hmf).put (by simp) fun s1 t1=>t1.put (by simp) fun s2 t2=>t2.put (by simp) fun s3 t3=>t3.put (by simp) fun s4 t4=>t4.put (by simp) fun s5 t5=>?_;have zH:=hG.mono t5.1;have hml:=t5.2.2;simp only[AXi,AXb]at hml;refine hml.look vu (fun DS=>?_) fun v hv=>⟨v,rfl,?_⟩
  ·exfalso;simp only[AWo,AXA,AXk,forall_eq_or_imp,forall_eq]at DS;obtain⟨a1,a2,a3,a4,a5⟩:=DS;omega
  have za:(n.op=1∧v=.func (.func 109) #[] #[])∨(n.op=2∧v=.func (.func 110) #[] #[])∨(n.op=3∧v=.func (.func 111) #[] #[])∨(n.op=4∧v=.func (.func 112) #[] #[])∨(n.op=5∧v=.func (.func 113) #[] #[]):=by
   simpa only[AWo,AXA,AXk,AYG] using hv
  replace h:=h.kR (Bi.trans zH.ext)
  have hon:rs.length=on:=by have:=zH.ord.1;simpa using this
  have hgn:=zH.len;generalize XJ n x.vec=gs at *;clear hml t1 t2 t3 t4 t5 hv hG
  suffices H:∀g i:Nat,∀p8 n8 c8 σ2 oq,(0<on→oq=op)→on-i=g→i≤on→Aa 2 By s5 σ2 p8 n8 c8 ((gs.take i).map fun g=>⟨g.ls,foldI n.op g.vs⟩)→AS.uf R 0 0 none 0 0 none 0 0 v p8 n8 c8 oq on oc on i σ2 from H on 0 none 0 0 s5 op (fun _=>rfl) rfl (AWx _) (Aa.nil (.refl _))
  intro g
  induction g with
  | zero=>
   intro i p8 n8 c8 σ2 oq hoq hg hi ho;rw[AWt (by omega)]at ho;have Mo:=ho.1.1;rw[AW9]at Mo;exact AS.gO ⟨fun Am=>by omega,fun _=>ED ho (by omega) h.U7⟩
  | succ g ih=>
   intro i p8 n8 c8 σ2 oq hoq hg hi ho;have Bj:i<on:=by omega
   obtain⟨r,hri⟩:∃r,rs[i]?=some r:=⟨_,AWm (by omega)⟩;obtain⟨y,hy⟩:∃y,gs[i]?=some y:=⟨_,AWm (by omega)⟩;obtain⟨b1,o1,AJn,N8⟩:=Gq.at1 zH.ord.rd (k:=i) (v:=.pointer (aD r.b 0)) (by rw[AXM,hri];rfl);obtain⟨c1,c2,c3⟩:=zH.box i r y hri hy;have hP:=hPG y (AWn hy);have hvl:y.vs.length=r.vn:=by have:=c3.1;simpa using this
   have Mo:=ho.1.1;rw[AW9,AW0]at Mo;rw[hoq (by omega),AJn];refine AS.gO ⟨fun _=>⟨b1,o1,rfl,by omega,aD r.b 0,by simpa using ho.up.ld N8,r.b,0,rfl,r.lp,r.ln,r.lc,Af (ho.up _ _ c1) rfl,r.vp,r.vn,r.vc,Af (ho.up _ _ c1) rfl,ka (f:=0) za (Ev.mono ho.up (DT.rd c3)) (by omega) (Ao.cap c3) ⟨_,rfl,Kp.HI (.refl _),fun b97 AO4=>?_⟩⟩,fun hh=>by omega⟩;refine Aa.el ho ((c2.mono BM.mono zH.ext).mono BM.mono ho.2) (by omega) (fun p9 c9 σ3 Db _=>⟨_,_,_,rfl,by unfold AM;omega,ih (i+1) _ _ _ _ _ (fun _=>AJn.symm) (by omega) (by omega) ?_⟩) AO4;rw[Ag hy,AXG];exact Db
 suffices H:∀g i:Nat,∀τ σ' op on oc rs,nv-i=g→i≤nv→GS τ σ' mb op on oc rs (XJ n (x.vec.take i))→Ext σ τ→AS.Eu R n.kind n.op n.text p k c n.width n.back n.EH q m d n.bool n.parts 0 0 none 0 0 none 0 0 (some mb) op on oc pv nv cv nv i σ' from
  H nv 0 σ _ none 0 0 [] rfl (AWx _) (GS.empty vV) (.refl _)
 intro g
 induction g with
 | zero=>
  intro i τ σ' op on oc rs hg hi hG Bi;have Q7:i=nv:=by omega
  subst Q7;rw[AWt (by omega)]at hG;exact last τ σ' op on oc rs hG Bi
 | succ g ih=>
  intro i τ σ' op on oc rs hg hi hG Bi;have Bj:i<nv:=by omega
  obtain⟨y,hy⟩:=h5.ex Bj;obtain⟨b1,o1,q1,m1,d1,rfl,N8,Gi⟩:=By.at h5 hy;have Io:=YG y (AWn hy);have hX:=Bi.trans hG.ext;obtain⟨hPG,vw⟩:=CH i (by omega);have U9:=hG.len;have eN:XJ n (x.vec.take (i+1))=Hw (D0 n y.ls) y.v (XJ n (x.vec.take i)):=by unfold XJ;rw[Ag hy,AYN];rfl
  have AJo:∀τ4 σ4 op4 on4 oc4 rs4 gs4 (i4:Nat) (r:GR) (t:Rg),GS τ4 σ4 mb op4 on4 oc4 rs4 gs4→rs4[i4]?=some r→gs4[i4]?=some t→gs4.set i4 ⟨t.ls,t.vs++[y.v]⟩=XJ n (x.vec.take (i+1))→t.vs.length≤i→Ext σ τ4→AS.oM R n.kind n.op n.text p k c n.width n.back n.EH q m d n.bool n.parts 0 0 none 0 0 none 0 0 (some mb) op4 on4 oc4 q1 m1 d1 y.v (aD r.b 0) (aD b1 o1) nv cv nv i σ4:=fun τ4 σ4 op4 on4 oc4 rs4 gs4 i4 r t hG4 hr4 ht4 he hti MH=>by
   obtain⟨c1,c2,c3⟩:=hG4.box i4 r t hr4 ht4;have hvl:t.vs.length=r.vn:=by have:=c3.1;simpa using this
   refine AS.uh ⟨r.b,0,rfl,r.vp,r.vn,r.vc,Af c1 rfl,GS.push (v:=y.v) hG4 hr4 ht4 (by omega) (Φ:=fun y2=>AM ((i:Int)+1)∧AS.Eu R n.kind n.op n.text p k c n.width n.back n.EH q m d n.bool n.parts 0 0 none 0 0 none 0 0 (some mb) op4 on4 oc4 (aD b1 o1) nv cv nv ((i:Int)+1) y2) fun σ5 r' zH=>⟨AN Bj h5.big,ih (i+1) τ4 σ5 op4 on4 oc4 (rs4.set i4 r') (by omega) (by omega) ?_ MH⟩⟩;rw[←he];exact zH
  have ACQ:∀τ2 σ2 p' n' c',GS τ2 σ2 mb op on oc rs (XJ n (x.vec.take i))→Ext σ τ2→Dz τ2 p' n' (D0 n y.ls)→AS.JV R n.kind n.op n.text p k c n.width n.back n.EH q m d n.bool n.parts 0 0 none 0 0 none 0 0 (some mb) op on oc q1 m1 d1 y.v p' n' c' (aD b1 o1) nv cv nv i σ2:=fun τ2 σ2 p' n' c' zI A4 HR=>by
   refine AS.Kx (E9 (HR.mono BM.mono zI.ext) Io.group fun σ3 CG=>⟨_,rfl,?_⟩);have zJ:=zI.mono CG;have hon:rs.length=on:=by have:=zJ.ord.1;simpa using this
   refine zJ.map.look vt (fun HC=>⟨none,rfl,fun _=>?_,fun hh=>(by cases hh)⟩) fun v bb AJs hv=>⟨aD bb 0,hv,fun hh=>(by cases hh),fun _=>?_⟩
   ·obtain⟨e1,e2⟩:=UG (v:=y.v) zJ.len HC;refine GS.add zJ e2 HR Io.group (by omega) (Φ:=fun LC p61 n61 c61 JY=>AS.oM R n.kind n.op n.text p k c n.width n.back n.EH q m d n.bool n.parts 0 0 none 0 0 none 0 0 (some mb) p61 n61 c61 q1 m1 d1 y.v (aD LC 0) (aD b1 o1) nv cv nv i JY) fun bb vv oc' σ4 hG4=>?_;refine AJo τ2 σ4 vv (on+1) oc' _ _ (XJ n (x.vec.take i)).length ⟨bb,p',n',c',none,0,0⟩ ⟨D0 n y.ls,[]⟩ hG4 ?_ ?_ ?_ (AWx _) A4
    ·rw[←U9,AXV (AWu _),AX5];rfl
    ·rw[AXV (AWu _),AX5];rfl
    ·rw[eN,e1,AYh _ _ (AWu _),AX5];rfl
   ·obtain⟨i4,t,r,a1,a2,a3,a4⟩:=UF (v:=y.v) zJ.len AJs;subst a3;exact AJo τ2 σ3 op on oc rs _ i4 r t zJ a2 a1 (by rw[eN,a4]) (hPG t (AWn a1)).2.1 A4
  refine AS.FE ⟨fun _=>⟨b1,o1,rfl,by omega,q1,m1,d1,y.v,by simpa using N8.mono hX,fun _=>⟨fun hg1=>V9 (Gi.mono BM.mono hX) (Io.rd Gi) (hs.mono hX) fun p' n' c' σ2 HR A4=>⟨_,_,_,rfl,?_⟩,fun hg1=>⟨fun kT=>?_,fun kT=>ACQ τ σ' none 0 0 hG Bi ?_⟩⟩⟩,fun hh=>by omega⟩
  ·obtain⟨τ2,zI,e1,e2⟩:=hG.grow A4;exact ACQ τ2 σ2 p' n' c' zI (Bi.trans e1) (by unfold D0;rw[AWl hg1];exact HR.mono BM.mono e2)
  ·refine Iq (Gi.mono BM.mono hX) (Io.rd Gi) (hs.mono hX) fun p' n' c' σ2 Bp A4=>⟨_,_,_,rfl,?_⟩;have fp:n'≤1000000:=by
    have h7:=Bp.1;have h8:=AXO (fun x:Lb=>!Q3 x.1 n.names) y.ls;have h9:=Io.1;omega
   refine FA ((Bp.rd BM.mono).mono BM.mono (Ext.CW _ _)) fp fun p3 n3 c3 σ3 U8 CG=>⟨_,_,_,rfl,?_⟩;obtain⟨τ2,zI,e1,e2⟩:=hG.grow (A4.trans CG);exact ACQ τ2 σ3 p3 n3 c3 zI (Bi.trans e1) (by unfold D0;rw[AWj hg1,AWl kT];exact(U8.mono BM.mono (Ext.DD A4)).mono BM.mono e2)
  ·unfold D0;rw[AWj hg1,AWj kT];exact Ac.nil
end
end TwW
end
