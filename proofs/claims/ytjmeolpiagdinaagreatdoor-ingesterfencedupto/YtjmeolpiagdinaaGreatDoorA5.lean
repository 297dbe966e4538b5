/-
  Part 5 of the proof that the law IngesterFencedUptoCardSaid of the given program answers true for every input of the given statement; the input reads behind the call as it did. (The texts: packed from 48 texts. Names are shortened by the packing program, for the bound on size.)
-/
import Derived.Test.YtjmeolpiagdinaaGreatDoorA4
import Derived.Lib.Zigzag
import Derived.WideKeyRuns
import Derived.Laws.StructEq
import Derived.Shelf.SlGeneric
import Derived.Ground.SlsfProg
set_option linter.all false
section
namespace TwW
open Go Tw Go.RowKit Go.Proofs.Tryz
theorem GV (s:ByteArray):(ByteArray.toList s==ByteArray.toList s)=true:=beq_self_eq_true _
theorem Qv {Z22:Hp}{p q:Option Addr}{n c m d:Nat}{xs:List Int}{R:Rr}(G:Be .u8 Z22 p n xs)(hs:Be .u8 Z22 q m xs)(A:R (.B true) Z22):Spec prog 157 #[.slice p n c,.slice q m d] Z22 R:=
 bytes_Equal.start (Ed G ⟨_,rfl,Ed hs ⟨_,rfl,by
  show R (.returned (.bool (_==_))) Z22
  rw[GV];exact A⟩⟩)
abbrev bxR (p:Option Addr)(n c j:Nat):Obj:=.cells #[.slice p n c,.I (8*(n:Int)),.I (j:Int),.bool false] 311 (0,0)
structure Po (O2 Z22:Hp)(b:Nat)(p:Option Addr)(n c:Nat)(l:List Bool)(j:Nat)(p6:Option Addr)(n6 c6:Nat)(xs:List Pt):Prop where
 new:O2 b=none
 rd:Be .u8 O2 p n (JP l)
 out:Aa 2 Bp (O2.set b (bxR p n c j)) Z22 p6 n6 c6 xs
section
variable {O2 Z22:Hp}{b:Nat}{p p6:Option Addr}{n c j n6 c6:Nat}{l pre post:List Bool}{R:Rr}{xs ps:List Pt}
theorem Po.g (h:Po O2 Z22 b p n c l j p6 n6 c6 xs):Z22 b=some (bxR p n c j):=h.out.up _ _ (Hp.AA _ _ _)
theorem Po.ext (h:Po O2 Z22 b p n c l j p6 n6 c6 xs):Ext O2 (Z22.del (aD b 0)):=λk v A=>by
 have G:k≠b:=λe=>by rw[e,h.new]at A;cases A
 exact AF.2 ⟨λa ha=>by cases ha;exact G,h.out.up _ _ (by rw[Hp.AB G];exact A)⟩
theorem Po.rdr (h:Po O2 Z22 b p n c l j p6 n6 c6 xs):Fu (Z22.del (aD b 0)) Z22 b p n c l j:=
 ⟨h.g,Ext.B5 _ _,by
  cases e:(Z22.del (aD b 0)) b with
  | none=>rfl
  | some v=>exact absurd rfl ((AF.1 e).1 _ rfl),Be.mono h.ext h.rd⟩
theorem Po.step {Z'2:Hp}{k:Nat}(h:Po O2 Z22 b p n c l j p6 n6 c6 xs)(h':Fu (Z22.del (aD b 0)) Z'2 b p n c l k):Po O2 Z'2 b p n c l k p6 n6 c6 xs:=by
 obtain⟨hn,JW,⟨⟨hl,cs,ho,hc⟩,hx⟩⟩:=h;have AR:∀a,p6=some a->a.block≠b:=λa A e=>(AF.1 (hx b _ (Hp.AA _ _ _))).1 a A e.symm;have keep:∀k v,k≠b->Z22 k=some v->Z'2 k=some v:=λk v G hv=>h'.ext _ _ (AF.2 ⟨λa A=>by cases A;exact G,hv⟩);refine⟨hn,JW,⟨⟨hl,cs,Own.here ho λa A=>?_,hc⟩,λk v G=>?_⟩⟩
 .cases e:Z22 a.block with
  | none=>exact absurd e (ho.block a A)
  | some v=>exact keep _ _ (AR a A) e
 .by_cases e:k=b
  .subst e;rw[Hp.AA]at G;cases G;exact AF.2 ⟨λa A e2=>AR a A e2.symm,h'.g⟩
  .rw[Hp.AB e]at G;obtain⟨k1,k2⟩:=AF.1 (hx k v (by rw[Hp.AB e];exact G));exact AF.2 ⟨k1,keep _ _ e k2⟩
theorem Po.push {x:Pt}{G:Option Addr->Nat->Nat->Hp->Prop}(h:Po O2 Z22 b p n c l j p6 n6 c6 xs)(hb:n6<=100000)(hG:∀p' c' Z'2,Po O2 Z'2 b p n c l j p' (n6+1) c' (xs++[x])->G p' (n6+1) c' Z'2):
  Al Z22 λA=>AH prog (Builtin.append_ #[61,61] 61 #[.slice p6 n6 c6,(.slice (aD A 0) 1 1)]) (Hp.set Z22 A (.cells #[.I x.1,.U x.2] 66 (0,0))) (CS G):=λA h39=>
 Aa.G8 (vs:=[.I x.1,.U x.2]) (x:=x) Bp.mono h.out rfl (Bp.one Z22 _ x rfl) rfl (by omega) (λp' c' O'2 Cq _=>⟨_,_,_,rfl,hG p' c' O'2 ⟨h.new,h.rd,Cq⟩⟩) h39
theorem Aa.base {α:Type}{s:Nat}{E:Hp->List Value->α->Prop}{Z0 A Z22:Hp}{p:Option Addr}{n c:Nat}{xs:List α}(h:Aa s E Z0 Z22 p n c xs)(G:Ext A Z0):Aa s E A Z22 p n c xs:=⟨h.1,G.trans h.2⟩
theorem mV (hm:jZ ps)(hl:l=E5 ps)(h:Po O2 Z22 b p n c l j p6 ps.length c6 ps)(hR:∀p' c' Z'2,Aa 2 Bp O2 Z'2 p' ps.length c' ps->R (.T #[.slice p' ps.length c',.I 0]) Z'2):Dp.QO R p n c (aD b 0) p6 ps.length c6 Z22:=by
 refine Dp.QQ ⟨b,0,rfl,false,AD h.g rfl,λA=>absurd A (by decide),λ_=>Sm (h.out.rd Bp.mono) hm λp' c' Z'2 JW hc G=>⟨p',_,c',0,rfl,λA=>absurd rfl A,λ_=>?_⟩⟩;refine Qv JW (Be.mono ((h.ext.trans (Ext.B5 _ _)).trans G) (by rw[hl]at h;exact h.rd)) ⟨true,rfl,λA=>absurd A (by decide),λ_=>hR p6 c6 Z'2 ((h.out.base (Ext.set h.new)).mono Bp.mono G)⟩
theorem vJ (hm:jZ ps)(hl:l=E5 ps)(hR:∀p' c' Z'2,Aa 2 Bp O2 Z'2 p' ps.length c' ps->R (.T #[.slice p' ps.length c',.I 0]) Z'2):
  ∀(g i:Nat) (Z22:Hp) (pre:List Bool) (d:Int) (w:qp) (x:Pt) (p6:Option Addr) (c6:Nat),ps.length-(i+1)=g->ps[i]?=some x->l=pre++gS x d w (ps.drop (i+1))->(-4398046511104<=d/\d<=4398046511104)->Xh w->Po O2 Z22 b p n c l pre.length p6 i c6 (ps.take i)->
   Dp.Pa R p n c (aD b 0) (ps.length:Int) p6 i c6 d (w.a:Int) (w.b:Int) w.has x.1 x.2 Z22:=by
 have h8:=hm.n;have A:l.length<=1000000000000:=by rw[hl];exact AfU (Jz ps) (by omega)
 intro g
 induction g with
 | zero=>
  intro i Z22 pre d w x p6 c6 hg hx hp hd hw h;have hi:i<ps.length:=(Ae0.1 hx).1;refine Dp.Kc ⟨b,0,rfl,false,AD h.g rfl,λG=>absurd G (by decide),λ_=>h.push (x:=x) (by omega) λp' c' Z'2 h'=>⟨λ_=>?_,λG=>absurd (by omega) G⟩⟩;have e1:i+1=ps.length:=by omega
  have e2:ps.take i++[x]=ps:=by rw[<-AL hx,e1,Ag2]
  rw[e2,e1] at h';rw[e1];exact mV hm hl h' hR
 | succ g ih=>
  intro i Z22 pre d w x p6 c6 hg hx hp hd hw h;have hi:i<ps.length:=(Ae0.1 hx).1;obtain⟨y,hy⟩:∃y,ps[i+1]?=some y:=⟨_,Ae3 (by omega)⟩;rw[GN hy]at hp;rw[gS]at hp;obtain⟨t1,t2⟩:=hm.t x (Ae2 hx);obtain⟨t3,t4⟩:=hm.t y (Ae2 hy);have vx:=hm.v x (Ae2 hx);have vy:=hm.v y (Ae2 hy);refine Dp.Kc ⟨b,0,rfl,false,AD h.g rfl,λG=>absurd G (by decide),λ_=>h.push (x:=x) (by omega) λp' c' Z12 h1=>⟨λG=>absurd G (by omega),λ_=>?_⟩⟩;have e2:ps.take i++[x]=ps.take (i+1):=(AL hx).symm;rw[e2]at h1;refine pP (z:=y.1-x.1-d) (pre:=pre) (post:=(Gx w (y.2.toNat ^^^ x.2.toNat)).1++gS y (y.1-x.1) (Gx w (y.2.toNat ^^^ x.2.toNat)).2 (ps.drop (i+1+1))) (by omega) h1.rdr (by rw[hp];simp only[Aew]) A λZ222 g2=>⟨_,rfl,by unfold AK;omega,by unfold AK;omega,?_⟩;have h2:=h1.step g2;have e3:d+(y.1-x.1-d)=y.1-x.1:=by omega
  have e4:x.1+(y.1-x.1)=y.1:=by omega
  rw[e3,e4];obtain⟨-,Aq⟩:=uQ vy vx;refine eY (x:=y.2.toNat ^^^ x.2.toNat) (pre:=pre++TP (y.1-x.1-d)) (post:=gS y (y.1-x.1) (Gx w (y.2.toNat ^^^ x.2.toNat)).2 (ps.drop (i+1+1))) hw Aq h2.rdr (by rw[hp];simp only[Aew]) A λZ3 g3=>⟨_,_,_,_,rfl,λsS e63=>?_⟩;have h3:=h2.step g3;obtain⟨e5,-⟩:=uQ vx (b:=((y.2.toNat ^^^ x.2.toNat:Nat):Int)) ⟨by omega,by omega⟩;rw[e5,AfR,Nat.xor_comm y.2.toNat,<-Nat.xor_assoc,Nat.xor_self,Nat.zero_xor]at e63;have e6:sS=y.2:=by omega
  subst e6;exact ih (i+1) Z3 _ (y.1-x.1) _ y p' c' (by omega) hy (by rw[hp];simp only[Aew]) (by omega) (uP hw Aq) h3
theorem eh (hr:Be .u8 Z22 p n (JP (E5 ps)))(hm:jZ ps)(hR:∀p' c' Z'2,Aa 2 Bp Z22 Z'2 p' ps.length c' ps->R (.T #[.slice p' ps.length c',.I 0]) Z'2):Spec prog 156 #[.slice p n c] Z22 R:=by
 have h8:=hm.n;have nz:=Jz ps;have hnl:(JP (E5 ps)).length=n:=hr.1;rw[FM]at hnl;have G:(E5 ps).length<=1000000000000:=AfU nz (by omega);refine Dp.start ⟨by unfold AK;omega,λE1 uS=>?_⟩;have h0:Po Z22 (Z22.set E1 (bxR p n c 0)) E1 p n c (E5 ps) 0 none 0 0 []:=⟨uS,hr,Aa.nil (.refl _)⟩;have U6:∃r,E5 ps=[]++Du ps.length 13++r:=⟨_,rfl⟩;obtain⟨r,hr0⟩:=U6;refine takeN (v:=ps.length) (w:=13) (pre:=[]) (post:=r) h0.rdr hr0 G (by decide) λZ12 g1=>⟨_,rfl,λIr e22 b8 b9=>?_⟩;have h1:=h0.step g1;rw[AfY (by omega),pQ (by omega)]at e22;subst e22;refine⟨λhz=>?_,λhz=>?_⟩
 .have e:ps=[]:=Ae6 (by omega);subst e;exact mV hm rfl h1 hR
 .obtain⟨x,A,rfl⟩:∃x A,ps=x::A:=by
   cases ps with
   | nil=>exact absurd rfl hz
   | cons x A=>exact⟨x,A,rfl⟩
  have vx:=hm.v x (AfB ..);have tx:=hm.t x (AfB ..);have hl:E5 (x::A)=[]++Du (x::A).length 13++(Du (Gd x.1) 64++Du x.2.toNat 64++gS x 0 ⟨0,0,false⟩ A):=rfl;refine takeN (v:=Gd x.1) (w:=64) (pre:=[]++Du (x::A).length 13) (post:=Du x.2.toNat 64++gS x 0 ⟨0,0,false⟩ A) h1.rdr (by rw[hl];simp only[Aew]) G (by decide) λZ222 g2=>⟨_,rfl,λSa e29=>?_⟩;have h2:=h1.step g2;have e1:IntKind.i64.wrap ((Gd x.1%2^64:Nat):Int)=x.1:=by
   rw[show(2:Nat)^64=18446744073709551616 from rfl];unfold Gd;simp[IntKind.wrap,IntKind.bits,IntKind.signed];omega
  rw[e1]at e29;subst e29;refine takeN (v:=x.2.toNat) (w:=64) (pre:=[]++Du (x::A).length 13++Du (Gd x.1) 64) (post:=gS x 0 ⟨0,0,false⟩ A) h2.rdr (by rw[hl];simp only[Aew]) G (by decide) λZ3 g3=>⟨_,rfl,?_⟩;have h3:=h2.step g3;have e2:((x.2.toNat%2^64:Nat):Int)=x.2:=by
   rw[show(2:Nat)^64=18446744073709551616 from rfl];omega
  rw[e2];exact vJ hm rfl hR A.length 0 Z3 _ 0 ⟨0,0,false⟩ x none 0 (by rw[Aez];omega) rfl (by rw[hl];simp only[Aew];rfl) (by decide) ⟨by decide⟩ h3
end
abbrev Lk (p:Option Addr)(n c j:Nat):Obj:=.cells #[.slice p n c,.I (j:Int)] 306 (0,0)
structure Src (Z22:Hp)(p:Option Addr)(n c:Nat)(bs:List Int):Prop where
 rd:Be .u8 Z22 p n bs
 h8:Ft bs
 cap:n<=c
 big:n<=1099511627776
theorem Src.mono {Z22 Z'2:Hp}{p:Option Addr}{n c:Nat}{bs:List Int}(h:Src Z22 p n c bs)(A:Ext Z22 Z'2):Src Z'2 p n c bs:=⟨Be.mono A h.rd,h.h8,h.cap,h.big⟩
section
variable {Z22:Hp}{br:Nat}{p:Option Addr}{n c j:Nat}{bs:List Int}{R:Rr}
theorem Rx (A:Z22 br=some (Lk p n c j))(hs:Src Z22 p n c bs)(hj:j<=n)(Pn:(∀v,¬DU bs j v)->R (.panicked NM) Z22)
  (A4:∀v:Nat,DU bs j v->R (.returned (.U (v:Int))) (Z22.set br (Lk p n c (j+(uv v).length)))):Spec prog 154 #[.pointer (aD br 0)] Z22 R:=
 He.start ⟨br,0,rfl,p,n,c,AD A rfl,(j:Int),AD A rfl,Rs hs.rd hs.h8 hj ⟨λA9 G hc=>⟨_,_,_,rfl,CK.start ⟨λ_=>Pn A9,λht=>absurd (AfS ht) hc⟩⟩,
  λv hv=>⟨_,_,_,rfl,CK.start ⟨λhf=>absurd hf (by decide),λ_=>⟨rfl,AH.store (P:=prog) lu A rfl (by simp) (λu hu=>by rw[Aev.1 (show u∈[Value.int .i64 ((j+(uv v).length:Nat):Int)] from hu)];rfl) (A4 v hv)⟩⟩⟩⟩⟩
theorem VS (G:Z22 br=some (Lk p n c j))(A:Src Z22 p n c bs)(hj:j<=n)(Pn:(∀s,¬J1 bs j s)->R (.panicked NM) Z22)
  (A4:∀s:ByteArray,J1 bs j s->R (.returned (.string s)) (Z22.set br (Lk p n c (j+(EG s).length)))):Spec prog 151 #[.pointer (aD br 0)] Z22 R:=
 I0.start ⟨br,0,rfl,p,n,c,AD G rfl,(j:Int),AD G rfl,pR A.rd A.h8 hj A.cap A.big
  (λA9 code hc=>⟨_,_,_,rfl,CK.start ⟨λ_=>Pn A9,λht=>absurd (AfS ht) hc⟩⟩)
  λs A=>⟨_,_,_,rfl,CK.start ⟨λhf=>absurd hf (by decide),λ_=>⟨rfl,AH.store (P:=prog) lu G rfl (by simp) (λu hu=>by rw[Aev.1 (show u∈[Value.int .i64 ((j+(EG s).length:Nat):Int)] from hu)];rfl) (A4 s A)⟩⟩⟩⟩
theorem pY {f:Nat}{cap:Array Value}(Ga:Enters prog f)(I:Nat->Hp->Prop)(m:Nat)(hm:m<18446744073709551616)
  (step:∀k Z22,k<m->I k Z22->Spec prog f cap Z22 (BI R (λz y=>z=(.tuple #[])/\I (k+1) y))) (fin:∀Z22,I m Z22->R (.T #[]) Z22) :
  ∀(d k:Nat) (Z22:Hp),m-k=d->k<=m->I k Z22->Cy.HA R (.func (.func f) #[] cap) ((m-k:Nat):Int) Z22:=by
 intro d
 induction d with
 | zero=>
  intro k Z22 hd hk h;obtain rfl:k=m:=by omega
  exact Cy.Bi ⟨λA=>by omega,λ_=>fin Z22 h⟩
 | succ d ih=>
  intro k Z22 hd hk h;refine Cy.Bi ⟨λ_=>⟨f,#[],cap,rfl,Ga,?_⟩,λA=>by omega⟩;have e0:#[]++#[]++cap=cap:=by simp
  rw[e0];refine(step k Z22 (by omega) h).mono λe Z'2 A=>?_;cases e with
  | returned v=>
   obtain⟨h1,h2⟩:=A;refine⟨h1,λEl G=>?_⟩;have e1:El=((m-(k+1):Nat):Int):=by
    rw[G,show((m-k:Nat):Int)-1=((m-(k+1):Nat):Int) by omega,U5,AfY (by omega)]
   subst e1;exact ih (k+1) Z'2 (by omega) (by omega) h2
  | panicked ch=>exact A
  | outgrown=>exact A
theorem Ry {f most:Nat}{cap:Array Value}(G:Enters prog f)(hg:Z22 br=some (Lk p n c j))(hs:Src Z22 p n c bs)(hj:j<=n)(I:Nat->Nat->Hp->Prop)
  (Pn:(∀v,¬DU bs j v)->R (.panicked NM) Z22)
  (A:∀v,DU bs j v->¬v<=most->R (.panicked NM) (Z22.set br (Lk p n c (j+(uv v).length))))
  (start:∀v,DU bs j v->I v 0 (Z22.set br (Lk p n c (j+(uv v).length))))
  (step:∀v k Z22,DU bs j v->k<v->I v k Z22->Spec prog f cap Z22 (BI R (λz y=>z=(.tuple #[])/\I v (k+1) y)))
  (fin:∀v Z22,DU bs j v->I v v Z22->R (.T #[]) Z22):Spec prog 149 #[.pointer (aD br 0),.U (most:Int),.func (.func f) #[] cap] Z22 R:=
 Cy.start (Rx hg hs hj Pn λv hv=>⟨_,rfl,CK.start ⟨λhf=>A v hv (λhle=>Aff hf (by omega)),λ_=>⟨rfl,pY G (I v) v hv.1 (λk Z22 hk h=>step v k Z22 hv hk h) (λZ22 h=>fin v Z22 hv h) v 0 _ (by omega) (AfI _) (start v hv)⟩⟩⟩)
end
theorem Aa.put {α:Type}{s:Nat}{E:List Value->α->Prop}{N Z22:Hp}{p:Option Addr}{n c b:Nat}{xs:List α}{o o':Obj}(h:Aa s (λ_=>E) N Z22 p n c xs)(hb:N b=some o):Aa s (λ_=>E) (N.set b o') (Z22.set b o') p n c xs:=by
 obtain⟨⟨hl,cs,ho,hc⟩,hx⟩:=h;have AR:∀a,p=some a->a.block≠b:=λa A e=>(AF.1 (hx b _ hb)).1 a A e.symm;refine⟨⟨hl,cs,Own.here ho λa A=>Hp.AB (AR a A),hc⟩,λk v G=>?_⟩;by_cases e:k=b
 .subst e;rw[Hp.AA]at G;exact AF.2 ⟨λa A e2=>AR a A e2.symm,by rw[Hp.AA];exact G⟩
 .rw[Hp.AB e]at G;obtain⟨k1,k2⟩:=AF.1 (hx k v G);exact AF.2 ⟨k1,by rw[Hp.AB e];exact k2⟩
section
variable {O2 Z22:Hp}{b m:Nat}{L:List Int}{R:Rr}{p:Option Addr}{n c:Nat}{ss:List Sr}
theorem pZ {q:Option Addr}{k d:Nat}{ls:List Lb}{G:Option Addr}{i:Nat}(hm:MS EIv O2 m (noF (CN ss)))(hr:I1 O2 q k ls)(hk:k<=16)(hw:∀l∈ls,l.1∈JV ss/\l.2∈JV ss)(hT:(CN ss).length<=40000)(hn:n<=1024)(hi:i<n)
  (hR:∀Z'2,EB O2 Z'2 b (L++ls.flatMap (pN ss))->Aj.GA R p n c (some m) (aD b 0) G n c (n:Int) ((i:Int)+1) Z'2) (hL:L.length<=500000000000) :
  ∀(g j:Nat) (Z22:Hp),k-j=g->j<=k->EB O2 Z22 b (L++(ls.take j).flatMap (pN ss))->Aj.zh R p n c (some m) (aD b 0) G n c (n:Int) (i:Int) q k d (k:Int) (j:Int) Z22:=by
 have hlen:ls.length=k:=hr.1;have fl:∀l:List Lb,(l.flatMap (pN ss)).length<=20*l.length\/True:=λ_=>.inr trivial;intro g
 induction g with
 | zero=>
  intro j Z22 hg hj h;rw[Ae7 (by omega:ls.length<=j)]at h;exact Aj.lX ⟨λhh=>by omega,λ_=>⟨by unfold AK;omega,hR Z22 h⟩⟩
 | succ g ih=>
  intro j Z22 hg hj h;have YL:j<k:=by omega
  obtain⟨x,hx⟩:=hr.ex YL;obtain⟨b2,o2,rfl,Dt⟩:=I1.at hr hx;obtain⟨w1,w2⟩:=hw x (Ae2 hx);obtain⟨l1,i1,e1,g1⟩:=Pm w1;obtain⟨l2,i2,e2,g2⟩:=Pm w2;have b1:=(Ae0.1 g1).1;have b2':=(Ae0.1 g2).1;have hms:=hm.mono h.ext;have ub:∀y∈ls.take j,(pN ss y).length<=20:=λy hy=>by
   obtain⟨v1,v2⟩:=hw y (AgF hy);obtain⟨_,a1,f1,f2⟩:=Pm v1;obtain⟨_,a2,f3,f4⟩:=Pm v2;have t1:=(Ae0.1 f2).1;have t2:=(Ae0.1 f4).1;exact mB (xs:=[jg ss y.1,jg ss y.2]) λz hz=>by
    simp only[Ae5,Afj,Agd]at hz;rcases hz with rfl|rfl<;>omega
  have tot:∀l:List Lb,(∀y∈l,(pN ss y).length<=20)->(l.flatMap (pN ss)).length<=20*l.length:=λl=>by
   induction l with
   | nil=>intro _;exact Ae1 _
   | cons y l ihl=>
    intro hy;have:=ihl λz hz=>hy z (Aey _ hz);have:=hy y (AfB ..);rw[Afy,Aet,Aez];omega
  have Aq:=tot _ ub;rw[AfE]at Aq;refine Aj.lX ⟨λ_=>⟨b2,o2,rfl,by unfold In;omega,x.1,x.2,by simpa using Dt.mono h.ext,λ_=>MS.look hms u7 (λA=>by rw[l1]at A;cases A) λv y hv hE=>?_⟩,λhh=>by omega⟩;rw[l1]at hv;cases hv;rw[show v=.I (jg ss x.1) from hE];refine⟨_,rfl,MS.look hms u7 (λA=>by rw[l2]at A;cases A) λv2 y2 mA hE2=>?_⟩;rw[l2]at mA;cases mA;rw[show v2=.I (jg ss x.2) from hE2];refine⟨_,rfl,λb80 h80=>jk h h80 (by omega) (by omega) (by rw[Aet];omega) λZ'2 h'=>⟨rfl,by unfold AK;omega,?_⟩⟩;have:=ih (j+1) Z'2 (by omega) (by omega) (by
   rw[AL hx,Af9,AhN,<-Aew];exact h')
  rw[show((j+1:Nat):Int)=(j:Int)+1 by omega]at this;exact this
theorem Ex {α:Type}{f:α->List Int}{B:Nat}:∀{l:List α},(∀y∈l,(f y).length<=B)->(l.flatMap f).length<=B*l.length
 | [],_=>Ae1 _
 | y::l,h=>by
  have G:=Ex λz A=>h z (Aey _ A);have h2:=h y (AfB ..);rw[Afy,Aet,Aez,AiR];omega
theorem vK {w:ByteArray}(h:w∈JV ss):0<=jg ss w/\jg ss w<(CN ss).length:=by
 obtain⟨_,i,e,g⟩:=Pm h;have:=(Ae0.1 g).1;omega
theorem aX {l:Lb}(G:l.1∈JV ss)(h2:l.2∈JV ss)(hT:(CN ss).length<=40000):(pN ss l).length<=20:=
 mB (xs:=[jg ss l.1,jg ss l.2]) λz A=>by
  have g1:=vK G;have g2:=vK h2;simp only[Ae5,Afj,Agd]at A;rcases A with rfl|rfl<;>omega
theorem ML {s:Sr}{l:Lb}(G:s∈ss)(A:l∈s.ls):l.1∈JV ss/\l.2∈JV ss:=by
 have h:∀w,w∈[l.1,l.2]->w∈JV ss:=λw hw=>Age.2 ⟨s,G,Age.2 ⟨l,A,hw⟩⟩;exact⟨h _ (by simp),h _ (by simp)⟩
theorem pd (hr:BB 2 CW O2 p n ss)(hb:I4 ss)(hL:L.length<=400000000)
  (hR:∀p' c' Z'2,A2 .u8 Z'2 p' ((L++ss.flatMap λs=>PA s.ps)++Qr (TR (L++ss.flatMap λs=>PA s.ps))).length c' ((L++ss.flatMap λs=>PA s.ps)++Qr (TR (L++ss.flatMap λs=>PA s.ps)))->Ext O2 Z'2->R (.T #[.slice p' ((L++ss.flatMap λs=>PA s.ps)++Qr (TR (L++ss.flatMap λs=>PA s.ps))).length c',.I 0]) Z'2) :
  ∀(g i:Nat) (Z22:Hp),n-i=g->i<=n->EB O2 Z22 b (L++(ss.take i).flatMap λs=>PA s.ps)->Aj.tP R (aD b 0) p n c (n:Int) (i:Int) Z22:=by
 have hlen:ss.length=n:=hr.1;have ei:=hb.n;have bd:∀l:List Sr,(∀s∈l,s∈ss)->(l.flatMap λs=>PA s.ps).length<=300000*l.length:=λl hl=>Ex λs A=>by
  have h1:=Jz s.ps;have h2:=(hb.ps s (hl s A)).2.n;unfold PA;have h3:(JP (E5 s.ps)).length<=299000:=by rw[FM];omega
  have:=Ai (x:=(JP (E5 s.ps)).length) (by omega);rw[Aet];omega
 intro g
 induction g with
 | zero=>
  intro i Z22 hg hi h;have e5:ss.take i=ss:=Ae7 (by omega);rw[e5]at h;have G6:=bd ss λs A=>A;refine Aj.lW ⟨λhh=>by omega,λ_=>?_⟩;obtain⟨p1,c1,k1,k2,k3⟩:=h.at_;refine⟨b,0,rfl,p1,_,c1,AD k1 rfl,S4 k2 (by rw[Aet];omega) λp' c' Z'2 ho hx=>⟨p',_,c',rfl,?_⟩⟩;have e4:(L++ss.flatMap λs=>PA s.ps).length+4=((L++ss.flatMap λs=>PA s.ps)++Qr (TR (L++ss.flatMap λs=>PA s.ps))).length:=by rw[Aet (bs:=Qr _)];rfl
  rw[e4]at ho ⊢;refine hR p' c' Z'2 ho λk v hk=>?_;exact(JK.keep hx (h.ext _ _ hk) λa ha e=>by rw[e,(k3 a ha).2]at hk;cases hk).1
 | succ g ih=>
  intro i Z22 hg hi h;have IN:i<n:=by omega
  obtain⟨s,A⟩:=hr.ex IN;have KJ:=Ae2 A;obtain⟨b2,o2,p1,n1,c1,q1,m1,d1,rfl,Dt,I2,U6,Xf⟩:=CW.at hr A;have Ru:=bd (ss.take i) λs A=>AgF A;rw[AfE]at Ru;have h3:(JP (E5 s.ps)).length<=299000:=by
   have h1:=Jz s.ps;have h2:=(hb.ps s KJ).2.n;rw[FM];omega
  refine Aj.lW ⟨λ_=>⟨b2,o2,rfl,by unfold In;omega,p1,n1,c1,q1,m1,d1,by simpa using Dt.mono h.ext,λ_=>Sm (U6.mono Bp.mono h.ext) (hb.ps s KJ).2 λp' c' Z12 hr1 pM Ct=>⟨p',_,c',_,rfl,Ed hr1 ⟨_,rfl,?_⟩⟩⟩,λhh=>by omega⟩;have G:=Fm (mQ (E5 s.ps));have Dz:(strOfNums (JP (E5 s.ps))).size=(JP (E5 s.ps)).length:=by rw[<-Bb,G]
  refine U7 (h.grow Ct) (by omega) (by omega) (by rw[Aet];omega) λZ222 h2=>⟨rfl,by unfold AK;omega,?_⟩;have:=ih (i+1) Z222 (by omega) (by omega) (by
   rw[Dz,G]at h2;rw[AL A,Af9,AhN,<-Aew];unfold PA;rw[<-Aew (L++_)];exact h2)
  rw[show((i+1:Nat):Int)=(i:Int)+1 by omega]at this;exact this
theorem pe (hm:MS EIv O2 m (noF (CN ss)))(hr:BB 2 CW O2 p n ss)(hb:I4 ss)(hT:(CN ss).length<=40000)(hL:L.length<=300000000)(hR:∀Z'2,EB O2 Z'2 b (L++ss.flatMap λs=>Tp ss s.ls)->Aj.tP R (aD b 0) p n c (n:Int) 0 Z'2):
  ∀(g i:Nat) (Z22:Hp),n-i=g->i<=n->EB O2 Z22 b (L++(ss.take i).flatMap λs=>Tp ss s.ls)->Aj.GA R p n c (some m) (aD b 0) p n c (n:Int) (i:Int) Z22:=by
 have hlen:ss.length=n:=hr.1;have ei:=hb.n;have l16:∀s∈ss,s.ls.length<=16:=λs A=>(BE.of (hb.ls s A)).1;have bd:∀l:List Sr,(∀s∈l,s∈ss)->(l.flatMap λs=>Tp ss s.ls).length<=400*l.length:=λl hl=>Ex λs A=>by
  have h1:=l16 s (hl s A);have h2:=Ex (f:=pN ss) (B:=20) (l:=s.ls) λy hy=>aX (ML (hl s A) hy).1 (ML (hl s A) hy).2 hT;have:=Ai (x:=s.ls.length) (by omega);unfold Tp;rw[Aet];omega
 intro g
 induction g with
 | zero=>
  intro i Z22 hg hi h;have e5:ss.take i=ss:=Ae7 (by omega);rw[e5]at h;exact Aj.FP ⟨λhh=>by omega,λ_=>hR Z22 h⟩
 | succ g ih=>
  intro i Z22 hg hi h;have IN:i<n:=by omega
  obtain⟨s,A⟩:=hr.ex IN;have KJ:=Ae2 A;obtain⟨b2,o2,p1,n1,c1,q1,m1,d1,rfl,Dt,I2,U6,Xf⟩:=CW.at hr A;have Xo:s.ls.length=n1:=I2.1;have og:=l16 s KJ;have Ru:=bd (ss.take i) λs A=>AgF A;rw[AfE]at Ru;have hu:=Ai (x:=n1) (by omega);refine Aj.FP ⟨λ_=>⟨b2,o2,rfl,by unfold In;omega,p1,n1,c1,q1,m1,d1,by simpa using Dt.mono h.ext,λ_ b62 h62=>Pj h h62 (by omega) (by rw[Aet];omega) λG h1=>⟨rfl,?_⟩⟩,λhh=>by omega⟩;refine pZ (L:=L++((ss.take i).flatMap λs=>Tp ss s.ls)++uv n1) hm I2 (by omega) (λl hl=>ML KJ hl) hT (by omega) IN (λZ222 h2=>?_) (by rw[Aet,Aet];omega) n1 0 G rfl (AfI _) (by rw[Af6];show EB O2 G b (_++[]);rw[AfG];exact h1);have:=ih (i+1) Z222 (by omega) (by omega) (by
   rw[AL A,Af9,AhN,<-Aew];unfold Tp;rw[Xo,<-Aew (L++_)];exact h2)
  rw[show((i+1:Nat):Int)=(i:Int)+1 by omega]at this;exact this
end
section
variable {O2 Z22:Hp}{b m:Nat}{L:List Int}{R:Rr}{p:Option Addr}{n c:Nat}{ss:List Sr}
theorem vL {q:Option Addr}{k d:Nat}{ws:List ByteArray}(hrw:Kt 1 O2 q k (ws.map .string))(hws:ws.length=k)(hk:k<=40000)(Dz:∀w∈ws,w.size<=256)(hn:n<=1024)(hL:L.length<=1000000)
  (hR:∀Z'2,EB O2 Z'2 b (L++ws.flatMap EG++uv n)->Aj.GA R p n c (some m) (aD b 0) p n c (n:Int) 0 Z'2) :
  ∀(g i:Nat) (Z22:Hp),k-i=g->i<=k->EB O2 Z22 b (L++(ws.take i).flatMap EG)->Aj.db R p n c (some m) (aD b 0) q k d (k:Int) (i:Int) Z22:=by
 have bd:∀l:List ByteArray,(∀w∈l,w∈ws)->(l.flatMap EG).length<=300*l.length:=λl hl=>Ex λw G=>by
  have h1:=Dz w (hl w G);have:=Ai (x:=w.size) (by omega);unfold EG;rw[Aet,Bb];omega
 intro g
 induction g with
 | zero=>
  intro i Z22 hg hi h;have e5:ws.take i=ws:=Ae7 (by omega);rw[e5]at h;have G6:=bd ws λw G=>G;exact Aj.lV ⟨λhh=>by omega,λ_ LU h50=>Pj h h50 (by omega) (by rw[Aet];omega) λA h1=>⟨rfl,hR A h1⟩⟩
 | succ g ih=>
  intro i Z22 hg hi h;have IN:i<k:=by omega
  have hx:ws[i]?=some ws[i]:=Ae3 (by omega);have G:=Dz ws[i] (AiO _);have Ru:=bd (ws.take i) λw G=>AgF G;rw[AfE]at Ru;obtain⟨b1,o1,e1,hl⟩:=Kt.at1 hrw (k:=i) (v:=.string ws[i]) (by rw[AfZ,hx];rfl);refine Aj.lV ⟨λ_=>⟨b1,o1,e1,by unfold In;omega,ws[i],by rw[AfR];exact h.ext.ld hl,U7 h (by omega) (by omega) (by rw[Aet];omega) λA h1=>⟨rfl,by unfold AK;omega,?_⟩⟩,λhh=>by omega⟩;rw[NW e1];have:=ih (i+1) A (by omega) (by omega) (by
   rw[AL hx,Af9,AhN,<-Aew];unfold EG;rw[<-Aew (L++_)];exact h1)
  rw[show((i+1:Nat):Int)=(i:Int)+1 by omega]at this;exact this
theorem AAn {T:TypeId}{q:Option Addr}{k:Nat}(hb:Z22 b=some (.cells #[.slice q k k] T (0,0)))(hq:Be .u8 Z22 q k L)(hk:k<=1000000)(hx:Ext O2 Z22)(hn:O2 b=none)(x:Int)(G:Hp->Prop)(hG:∀Z'2,JK O2 Z'2 b [] T (L++[x])->G Z'2):
  LS Z22 b 0 λXQ n24 c24=>Al Z22 λPU=>AH prog (Builtin.append_ #[79,79] 79 #[.slice XQ n24 c24,(.slice (aD PU 0) 1 1)]) (Hp.set Z22 PU (.cells #[.int .u8 x] 5 (0,0))) (CS λP3 n28 c28 y=>AH prog (Instr.storeAt 79 (.pointer (aD b 0)) (.slice P3 n28 c28)) y (λ_ AG=>G AG)):=by
 have hl:L.length=k:=hq.1;refine⟨q,k,k,AD hb rfl,λPU h27=>?_⟩;have Lz:=Ext.set (o:=.cells #[.int .u8 x] 5 (0,0)) h27;refine uz (d:=1) (m:=1) (cs:=L.map (.int .u8)) (ys:=[.int .u8 x]) ((Kt.of_map hq).mono Lz) (by omega) ⟨rfl,by decide,.inr ⟨PU,0,rfl,Bm.of_cells (c:=[.int .u8 x]) (Hp.AA _ _ _)⟩⟩ (by omega) λp' c' y ho hy ej=>⟨p',k+1,c',rfl,?_⟩;have hyb:=hy _ _ (Lz _ _ hb);have AR:∀a,p'=some a->a.block≠b:=λa A e=>by
  have:=ej a A;rw[e,Lz _ _ hb]at this;cases this
 have e1:(L++[x]).length=k+1:=by rw[Aet,hl];rfl
 refine AH.store (P:=prog) jV hyb rfl (by simp) Mp (hG _ ⟨⟨p',c',?_,?_,λa A=>⟨AR a A,AT (hx.trans Lz) (ej a A)⟩⟩,λj v hj=>?_,hn⟩)
 .rw[Hp.AA,e1];exact Ae4 (λx=>some (Obj.cells x T (0,0))) (ALY _ _ _)
 .rw[e1];have:Own 1 y p' (k+1) c' ((L++[x]).map (.int .u8)):=by rw[AfF];exact ho
  exact Own.here this λa A=>Hp.AB (AR a A)
 .rw[Hp.AB (λe=>by rw[e,hn]at hj;cases hj)];exact hy _ _ (Lz _ _ (hx _ _ hj))
theorem MM (hr:BB 2 CW Z22 p n ss)(hb:I4 ss)(hR:∀p' c' Z'2,Be .u8 Z'2 p' (EL ss).length (EL ss)->(EL ss).length<=c'->Ext Z22 Z'2->R (.T #[.slice p' (EL ss).length c',.I 0]) Z'2):Spec prog 57 #[.slice p n c] Z22 R:=by
 have hlen:ss.length=n:=hr.1;have ei:=hb.n;have small:∀s∈ss,BE s.ls:=λs hs=>BE.of (hb.ls s hs);have wl:∀l:List Lb,(WZ l).length=2*l.length:=λl=>by
  induction l with
  | nil=>rfl
  | cons x l ih=>show([x.1,x.2]++WZ l).length=_;rw[Aet,ih,Aez];simp;omega
 have wf:(JV ss).length<=32*ss.length:=by
  suffices H:∀l:List Sr,(∀s∈l,BE s.ls)->(JV l).length<=32*l.length from H ss small
  intro l
  induction l with
  | nil=>intro _;exact Ae1 _
  | cons x l ih=>
   intro hl;have h1:=ih λs hs=>hl s (Aey _ hs);have h2:=(hl x (AfB ..)).1;have h3:=wl x.ls;show(WZ x.ls++JV l).length<=_
   rw[Aet,Aez];omega
 have hT:(CN ss).length<=40000:=AfU (aU ss) (by omega);have Dz:∀w∈CN ss,w.size<=256:=λw hw=>by
  obtain⟨s,hs,h2⟩:=Age.1 (mO hw);obtain⟨l,hl,h4⟩:=Age.1 h2;have:=(small s hs).2 l hl;simp only[Ae5,Afj,Agd]at h4;rcases h4 with rfl|rfl
  .exact this.1
  .exact this.2
 refine Aj.start (dz hr hb λZ12 Ct=>⟨0,rfl,λhh=>absurd rfl hh,λ_=>jh (hr.mono CW.mono Ct) (by omega) (λs hs=>(small s hs).1) λZ222 m p5 c5 hX hc5=>⟨_,_,_,_,rfl,λMm h28=>?_⟩⟩);refine u0 (Hp.AA _ _ _) ⟨_,_,_,rfl,?_⟩;rw[Hp.set_set];show Al (Z222.set Mm (.cells #[.int .u8 84,.int .u8 87,.int .u8 66,.int .u8 1] 5 (4,5))) _
 intro A qu QZ yJ;have Hv:=Ext.set (o:=.cells #[.int .u8 84,.int .u8 87,.int .u8 66,.int .u8 1] 5 (4,5)) h28;have g28:(Z222.set Mm (.cells #[.int .u8 84,.int .u8 87,.int .u8 66,.int .u8 1] 5 (4,5))) Mm=some (.cells #[.int .u8 84,.int .u8 87,.int .u8 66,.int .u8 1] 5 (4,5)):=Hp.AA _ _ _;generalize Z222.set Mm (.cells #[.int .u8 84,.int .u8 87,.int .u8 66,.int .u8 1] 5 (4,5))=Z3 at *;have LN:=Ext.set (o:=.cells #[.slice (aD Mm 0) 4 4] 199 (0,0)) qu;have g31:(Z3.set A (.cells #[.slice (aD Mm 0) 4 4] 199 (0,0))) A=some (.cells #[.slice (aD Mm 0) 4 4] 199 (0,0)):=Hp.AA _ _ _;generalize AbY:Z3.set A (.cells #[.slice (aD Mm 0) 4 4] 199 (0,0))=Z4 at *;have t31:Z222 A=none:=AT Hv qu;have X4:Ext Z222 Z4:=Hv.trans LN;have hE:Ext Z22 Z222:=Ct.trans hX.ext;have hms:=hX.mp;have lit:Be .u8 Z4 (aD Mm 0) 4 [84,87,66,1]:=.KO ⟨rfl,by decide,.inr ⟨Mm,0,rfl,Bm.of λj v hj=>AD (LN _ _ g28) (by
  rw[AfW,<-Afc];exact hj)⟩⟩
 have xl:=Ext.set (o:=.cells #[.I ((CN ss).length:Int)] 3 (0,0)) yJ;have t35:Z222 QZ=none:=AT X4 yJ;have AR:A≠QZ:=λe=>by rw[<-e,g31]at yJ;cases yJ
 have first:∀Z'2,EB (Z222.set QZ (.cells #[.I ((CN ss).length:Int)] 3 (0,0))) Z'2 A ([84,87,66,1]++uv (CN ss).length)->Aj.db R p n c (some m) (aD A 0) p5 (CN ss).length c5 ((CN ss).length:Int) 0 Z'2:=λZ'2 h'=>by
  have h2:=h'.JL (Ext.set t35);have hu:=Ai (x:=(CN ss).length) (by omega);refine vL (L:=[84,87,66,1]++uv (CN ss).length) (ws:=CN ss) hX.own.rd rfl hT Dz (by omega) (by rw[Aet];simp;omega) (λZ5 h5=>?_) _ 0 Z'2 rfl (AfI _) (by rw[Af6];show EB Z222 Z'2 A (_++[]);rw[AfG];exact h2);have bd:((CN ss).flatMap EG).length<=300*(CN ss).length:=Ex λw hw=>by
   have h1:=Dz w hw;have:=Ai (x:=w.size) (by omega);unfold EG;rw[Aet,Bb];omega
  have TY:=Ai (x:=n) (by omega);have Ta:=hr.mono CW.mono hE;have l5:([84,87,66,1]++uv (CN ss).length++(CN ss).flatMap EG++uv n).length<=13000000:=by
   rw[Aet,Aet,Aet];simp only[Aez,Afw];omega
  refine pe (L:=[84,87,66,1]++uv (CN ss).length++(CN ss).flatMap EG++uv n) hms Ta hb hT (by omega) (λZ6 h6=>?_) n 0 Z5 rfl (AfI _) (by rw[Af6];show EB Z222 Z5 A (_++[]);rw[AfG];exact h5);have l6:(ss.flatMap λs=>Tp ss s.ls).length<=400*ss.length:=Ex λs hs=>by
   have h1:=(small s hs).1;have h2:=Ex (f:=pN ss) (B:=20) (l:=s.ls) λy hy=>aX (ML hs hy).1 (ML hs hy).2 hT;have:=Ai (x:=s.ls.length) (by omega);unfold Tp;rw[Aet];omega
  have eB:C1 ss=[84,87,66,1]++uv (CN ss).length++(CN ss).flatMap EG++uv n++(ss.flatMap λs=>Tp ss s.ls)++ss.flatMap λs=>PA s.ps:=by unfold C1;rw[hlen]
  refine pd (L:=[84,87,66,1]++uv (CN ss).length++(CN ss).flatMap EG++uv n++ss.flatMap λs=>Tp ss s.ls) Ta hb (by rw[Aet];omega) (λp' c' Z72 ho hx7=>?_) n 0 Z6 rfl (AfI _) (by rw[Af6];show EB Z222 Z6 A (_++[]);rw[AfG];exact h6);rw[<-eB]at ho ⊢;exact hR p' c' Z72 ho.rd (Own.cap ho) (hE.trans hx7)
 refine A7.start (A7.Y6 ⟨λ_=>⟨QZ,0,rfl,by decide,((CN ss).length:Int),AD (Hp.AA _ _ _) rfl,λDY du=>?_⟩,λhh=>absurd (by decide) hh⟩);rw[U5,AfY (by omega)]at du;subst du;have ATA:(Z4.set QZ (.cells #[.I ((CN ss).length:Int)] 3 (0,0))) A=some (.cells #[.slice (aD Mm 0) 4 4] 199 (0,0)):=by rw[Hp.AB AR];exact g31
 have xx:Ext (Z222.set QZ (.cells #[.I ((CN ss).length:Int)] 3 (0,0))) (Z4.set QZ (.cells #[.I ((CN ss).length:Int)] 3 (0,0))):=λk v hk=>by
  by_cases e:k=QZ
  .subst e;rw[Hp.AA]at hk ⊢;exact hk
  .rw[Hp.AB e]at hk ⊢;exact X4 _ _ hk
 refine dy (O2:=Z222.set QZ (.cells #[.I ((CN ss).length:Int)] 3 (0,0))) (L:=[84,87,66,1]) (λx G hG=>AAn ATA (lit.mono xl) (by decide) xx (by rw[Hp.AB AR];exact t31) x G hG) (by omega) (by decide) λZ'2 h'=>⟨rfl,by unfold AK;omega,A7.Y6 ⟨λhh=>absurd hh (by decide),λ_=>⟨rfl,first Z'2 h'⟩⟩⟩
end
def ETx (vs:List Value)(x:ByteArray):Prop:=vs=[.string x]
section
variable {bs body t Y:List Int}{j v w:Nat}{s u:ByteArray}
theorem DU.more (hp:body=bs++t)(A:j<=bs.length)(h:DU bs j v):DU body j v:=by
 obtain⟨hv,rest,G⟩:=h;exact⟨hv,rest++t,by rw[hp,Agy A,G,Aew]⟩
theorem DU.here (h:DU bs j v)(hp:body=bs++t)(A:j<=bs.length)(G:w<18446744073709551616)(hb:body.drop j=uv w++Y):v=w:=DU.uniq (h.more hp A) ⟨G,Y,hb⟩
theorem DU.Wc (A:∀v,¬DU bs j v)(G:w<18446744073709551616)(hb:body.drop j=uv w++Y):bs≠body:=λe=>A w ⟨G,Y,by rw[e];exact hb⟩
theorem DU.len (h:DU bs j v)(hj:j<=bs.length):j+(uv v).length<=bs.length:=by
 obtain⟨_,rest,G⟩:=h;have A:=Ae4 List.length G;rw[AfV,Aet]at A;omega
theorem J1.more (hp:body=bs++t)(A:j<=bs.length)(h:J1 bs j s):J1 body j s:=by
 obtain⟨rest,G⟩:=h;exact⟨rest++t,by rw[hp,Agy A,G,Aew]⟩
theorem J1.here (h:J1 bs j s)(hp:body=bs++t)(hj:j<=bs.length)(G:body.length<18446744073709551616)(hb:body.drop j=EG u++Y):s=u:=by
 have h1:=h.more hp hj;have h2:J1 body j u:=⟨Y,hb⟩;have e:=DU.uniq (h1.uv G) (h2.uv G);obtain⟨r1,A⟩:=h1;rw[hb]at A;unfold EG at A;rw[<-e,Aew,Aew,AhT]at A;have e2:=List.append_inj_left A (by rw[Bb,Bb,e]);exact lj e2.symm
theorem J1.Wc (A:∀v,¬J1 bs j v)(hb:body.drop j=EG u++Y):bs≠body:=λe=>A u ⟨Y,by rw[e];exact hb⟩
end
abbrev vM (br:Nat):Obj:=.cells #[.pointer (aD br 0)] 224 (0,0)
abbrev TT (T:TypeId)(p:Option Addr)(n c:Nat):Obj:=.cells #[.slice p n c] T (0,0)
structure T1 (O2:Hp)(br b3 b4:Nat)(p:Option Addr)(n c j:Nat)(xs:List ByteArray)(Z22:Hp):Prop where
 nr:O2 br=none
 n3:O2 b3=none
 n4:O2 b4=none
 l9:b3≠b4
 e3:b3≠br
 e4:b4≠br
 out:∃pa ca,Aa 1 (λ_=>ETx) (((O2.set b3 (vM br)).set b4 (TT 81 pa xs.length ca)).set br (Lk p n c j)) Z22 pa xs.length ca xs
theorem AF1:∀w,(Go.sizeOf 81).run prog w=.ok 1 w:=λw=>by kernel_rfl
section
variable {O2 Z22:Hp}{br b3 b4:Nat}{p:Option Addr}{n c j:Nat}{bs:List Int}{R:Rr}{xs:List ByteArray}
theorem T1.ext (h:T1 O2 br b3 b4 p n c j xs Z22):Ext O2 Z22:=λk v A=>by
 obtain⟨pa,ca,G⟩:=h.out;refine G.up _ _ ?_;rw[Hp.AB (λe=>by rw[e,h.nr]at A;cases A),Hp.AB (λe=>by rw[e,h.n4]at A;cases A),Hp.AB (λe=>by rw[e,h.n3]at A;cases A)];exact A
theorem Wd (h:T1 O2 br b3 b4 p n c j xs Z22)(hs:Src O2 p n c bs)(hj:j<=n)(hx:xs.length<=1000000)(Pn:(∀s,¬J1 bs j s)->R (.panicked NM) Z22)
  (A4:∀s Z'2,J1 bs j s->T1 O2 br b3 b4 p n c (j+(EG s).length) (xs++[s]) Z'2->R (.T #[]) Z'2):Spec prog 150 #[.pointer (aD b4 0),.pointer (aD b3 0)] Z22 R:=by
 have Hm:=h.ext;obtain⟨nr,n3,n4,l9,e3,e4,pa,G,A⟩:=h;have g4:Z22 b4=some (TT 81 pa xs.length G):=A.up _ _ (by rw[Hp.AB e4,Hp.AA]);have g3:Z22 b3=some (vM br):=A.up _ _ (by rw[Hp.AB e3,Hp.AB l9,Hp.AA]);have gr:Z22 br=some (Lk p n c j):=A.up _ _ (Hp.AA _ _ _);refine Hl.start ⟨pa,xs.length,G,AD g4 rfl,aD br 0,AD g3 rfl,VS gr (hs.mono Hm) hj Pn λs MY=>⟨s,rfl,λk hk o A=>?_,λb5 h5=>?_⟩⟩
 .rw[Aev.1 hk]at A ⊢;rw[Hp.AB e4];exact A
 .have h1:=A.put (b:=br) (o':=Lk p n c (j+(EG s).length)) (Hp.AA _ _ _);rw[Hp.set_set]at h1;refine Aa.G8 (vs:=[.string s]) (x:=s) (λ_ _ _ _ _ h=>h) h1 rfl (λu hu=>by rw[Aev.1 hu];rfl) rfl (by omega) (λp' c' O'2 Cq _=>⟨p',_,c',rfl,?_⟩) h5;have pF:(((O2.set b3 (vM br)).set b4 (TT 81 pa xs.length G)).set br (Lk p n c (j+(EG s).length))) b4=some (TT 81 pa xs.length G):=by rw[Hp.AB e4,Hp.AA]
  refine AH.store (P:=prog) AF1 (Cq.up _ _ pF) rfl (by simp) Mp (A4 s _ MY ⟨nr,n3,n4,l9,e3,e4,p',c',?_⟩);have h2:=Cq.put (b:=b4) (o':=TT 81 p' (xs.length+1) c') pF;rw[Hp.GI (AfT e4),Hp.set_set]at h2;have e:(xs++[s]).length=xs.length+1:=by rw[Aet,AfD]
  rw[e];exact h2
end
def ATB (vs:List Value)(x:Lb):Prop:=vs=[.string x.1,.string x.2]
abbrev sO (p:Option Addr)(n c:Nat):Obj:=.cells #[.slice p n c,.N] 63 (0,0)
structure FxR (O2:Hp)(br b3 b4:Nat)(p:Option Addr)(n c:Nat)(bs:List Int)(ws:List ByteArray):Prop where
 nr:O2 br=none
 g3:O2 b3=some (vM br)
 g4:∃pa ca,O2 b4=some (TT 81 pa ws.length ca)/\BB 1 (λ_=>ETx) O2 pa ws.length ws
 src:Src O2 p n c bs
 few:ws.length<=1000000
theorem FxR.mono {O2 O'2:Hp}{br b3 b4:Nat}{p:Option Addr}{n c:Nat}{bs:List Int}{ws:List ByteArray}(h:FxR O2 br b3 b4 p n c bs ws)(A:Ext O2 O'2)(hn:O'2 br=none):FxR O'2 br b3 b4 p n c bs ws:=by
 obtain⟨_,g3,⟨pa,G,g4,hr⟩,hs,hf⟩:=h;exact⟨hn,A _ _ g3,⟨pa,G,A _ _ g4,hr.mono (λ_ _ _ _ _ h=>h) A⟩,hs.mono A,hf⟩
structure T2 (O2:Hp)(br b2:Nat)(p:Option Addr)(n c j:Nat)(ls:List Lb)(Z22:Hp):Prop where
 n2:O2 b2=none
 e2:b2≠br
 out:∃pl cl,Aa 2 (λ_=>ATB) ((O2.set b2 (sO pl ls.length cl)).set br (Lk p n c j)) Z22 pl ls.length cl ls
theorem AF2:∀w,(Go.sizeOf 51).run prog w=.ok 1 w:=λw=>by kernel_rfl
section
variable {O2 Z22:Hp}{br b2 b3 b4:Nat}{p:Option Addr}{n c j:Nat}{bs body t Y:List Int}{R:Rr}{ws:List ByteArray}{ls:List Lb}
theorem T2.ext (h:T2 O2 br b2 p n c j ls Z22)(G:O2 br=none):Ext O2 Z22:=λk v A=>by
 obtain⟨n2,e2,pl,cl,ho⟩:=h;refine ho.up _ _ ?_;rw[Hp.AB (λe=>by rw[e,G]at A;cases A),Hp.AB (λe=>by rw[e,n2]at A;cases A)];exact A
theorem T2.g (h:T2 O2 br b2 p n c j ls Z22):Z22 br=some (Lk p n c j):=by
 obtain⟨n2,e2,pl,cl,A⟩:=h;exact A.up _ _ (Hp.AA _ _ _)
theorem T2.move (h:T2 O2 br b2 p n c j ls Z22)(k:Nat):T2 O2 br b2 p n c k ls (Z22.set br (Lk p n c k)):=by
 obtain⟨n2,e2,pl,cl,G⟩:=h;have A:=G.put (b:=br) (o':=Lk p n c k) (Hp.AA _ _ _);rw[Hp.set_set]at A;exact⟨n2,e2,pl,cl,A⟩
theorem BB.tx {G:Option Addr}{m i:Nat}{w:ByteArray}(hr:BB 1 (λ_=>ETx) O2 G m ws)(hw:ws[i]?=some w):∃b o,G=some ⟨b,o,none⟩/\Hp.ld O2 ⟨b,o+i*1,none⟩=some (.string w):=by
 obtain⟨b,o,vs,hp,hv,A⟩:=BB.idx hr hw;rw[show vs=[.string w] from hv]at A;exact⟨b,o,hp,A.1⟩
theorem VT {i1 i2:Nat}{l:Lb}(A:FxR O2 br b3 b4 p n c bs ws)(h:T2 O2 br b2 p n c j ls Z22)(hj:j<=n)(hp:body=bs++t)(hb:body.drop j=uv i1++(uv i2++Y))(Uv:ws[i1]?=some l.1)(hw2:ws[i2]?=some l.2)(I2:ls.length<=1000)
  (bad:bs≠body->∀Z'2,Ext O2 Z'2->R (.panicked NM) Z'2) (A4:∀Z'2,T2 O2 br b2 p n c (j+(uv i1).length+(uv i2).length) (ls++[l]) Z'2->j+(uv i1).length+(uv i2).length<=n->R (.T #[]) Z'2) :
  Spec prog 153 #[.pointer (aD b3 0),.pointer (aD b4 0),.pointer (aD b2 0)] Z22 R:=by
 have TQ:bs.length=n:=A.src.rd.1;have IS:=A.few;have l1:i1<ws.length:=(Ae0.1 Uv).1;have l2:i2<ws.length:=(Ae0.1 hw2).1;have hx:=h.ext A.nr;have g3:∀Z'2,Ext O2 Z'2->Hp.ld Z'2 ⟨b3,0,none⟩=some (.pointer (aD br 0)):=λZ'2 hx=>AD (hx _ _ A.g3) rfl;refine L4.start ⟨aD br 0,g3 Z22 hx,aD br 0,g3 Z22 hx,Rx h.g (A.src.mono hx) hj (λA9=>bad (DU.Wc A9 (by omega) hb) Z22 hx) λv hv=>⟨_,rfl,λk hk o ho=>?_,?_⟩⟩
 .rw[Aev.1 hk]at ho ⊢;have e3:b3≠br:=λe=>by have:=A.g3;rw[e,A.nr]at this;cases this
  rw[Hp.AB e3];exact ho
 obtain rfl:v=i1:=hv.here hp (by omega) (by omega) hb;have yZ:=hv.len (by omega);have h1:=h.move (j+(uv v).length);have Ct:=h1.ext A.nr;have KL:body.drop (j+(uv v).length)=uv i2++Y:=by rw[<-Afx,hb,Afr]
 refine Rx h1.g (A.src.mono Ct) (by omega) (λA9=>bad (DU.Wc A9 (by omega) KL) _ Ct) λv2 mA=>⟨_,rfl,?_⟩;obtain rfl:v2=i2:=mA.here hp (by omega) (by omega) KL;have hj2:=mA.len (by omega);have h2:=h1.move (j+(uv v).length+(uv v2).length);have BD:=h2.ext A.nr;generalize (Z22.set br (Lk p n c (j+(uv v).length))).set br (Lk p n c (j+(uv v).length+(uv v2).length))=Z222 at h2 BD;obtain⟨pa,ca,g4,hr⟩:=A.g4;have G:Hp.ld Z222 ⟨b4,0,none⟩=some (.slice pa ws.length ca):=AD (BD _ _ g4) rfl;refine⟨pa,ws.length,ca,G,λCR e12=>?_⟩;rw[U5,AfY (by omega)]at e12;subst e12;refine⟨λ_=>⟨pa,ws.length,ca,G,λTI e18=>?_⟩,λhh=>absurd (by omega) hh⟩;rw[U5,AfY (by omega)]at e18;subst e18;obtain⟨n2,e2,pl,cl,ho⟩:=h2;have g2:Z222 b2=some (sO pl ls.length cl):=ho.up _ _ (by rw[Hp.AB e2,Hp.AA]);obtain⟨ba,oa,rfl,t1⟩:=BB.tx hr Uv;obtain⟨ba2,oa2,ea,t2⟩:=BB.tx hr hw2;cases ea;refine CK.start ⟨λhh=>absurd (Aff hh) (by omega),λ_=>⟨rfl,pl,ls.length,cl,AD g2 rfl,some ⟨ba,oa,none⟩,ws.length,ca,G,ba,oa,rfl,by unfold In;omega,l.1,by rw[AfR];exact BD.ld t1,some ⟨ba,oa,none⟩,ws.length,ca,G,ba,oa,rfl,by unfold In;omega,l.2,by rw[AfR];exact BD.ld t2,λHi h33=>?_⟩⟩;refine Aa.G8 (vs:=[.string l.1,.string l.2]) (x:=l) (λ_ _ _ _ _ h=>h) ho rfl (Eh.one Z222 _ l rfl) rfl (by omega) (λp' c' O'2 Cq _=>⟨p',_,c',rfl,?_⟩) h33;have AMF:(((O2.set b2 (sO pl ls.length cl)).set br (Lk p n c (j+(uv v).length+(uv v2).length)))) b2=some (sO pl ls.length cl):=by rw[Hp.AB e2,Hp.AA]
 refine AH.store (P:=prog) AF2 (Cq.up _ _ AMF) rfl (by simp) Mp (A4 _ ⟨n2,e2,p',c',?_⟩ (by omega));have h3:=Cq.put (b:=b2) (o':=sO p' (ls.length+1) c') AMF;rw[Hp.GI (AfT e2),Hp.set_set]at h3;have e:(ls++[l]).length=ls.length+1:=by rw[Aet,AfD]
 rw[e];exact h3
end
theorem AMG:Enters prog 153:=λargs w=>call153 args w
def lbI (ix:ByteArray->Nat)(l:Lb):List Int:=uv (ix l.1)++uv (ix l.2)
def jo (ix:ByteArray->Nat)(ls:List Lb):List Int:=uv ls.length++ls.flatMap (lbI ix)
def Ixs (ix:ByteArray->Nat)(ws:List ByteArray)(ls:List Lb):Prop:=∀l∈ls,ws[ix l.1]?=some l.1/\ws[ix l.2]?=some l.2
section
variable {O2 Z22:Hp}{br b2 b3 b4 b5:Nat}{p:Option Addr}{n c j:Nat}{bs body t Y:List Int}{R:Rr}{ws:List ByteArray}{ls:List Lb}{ix:ByteArray->Nat}
theorem Tt {α:Type}{f:α->List Int}{l:List α}{k:Nat}{x:α}(hb:body.drop j=l.flatMap f++Y)(A:l[k]?=some x):body.drop (j+((l.take k).flatMap f).length)=f x++((l.drop (k+1)).flatMap f++Y):=by
 rw[<-Afx,hb];have e:l=l.take k++x::l.drop (k+1):=by rw[<-GN A,Afi]
 have e2:l.flatMap f++Y=(l.take k).flatMap f++(f x++((l.drop (k+1)).flatMap f++Y)):=by
  conv=>lhs;rw[e]
  rw[Af9,Afy,Aew,Aew]
 rw[e2,Afr]
theorem Mx {α:Type}{f:α->List Int}{l:List α}{k:Nat}{x:α}(A:l[k]?=some x):((l.take (k+1)).flatMap f).length=((l.take k).flatMap f).length+(f x).length:=by
 rw[AL A,Af9,Aet,Afy,List.flatMap_nil,AfG]
theorem VU (hf:FxR O2 br b3 b4 p n c bs ws)(h:T2 O2 br b2 p n c j [] Z22)(hj:j<=n)(hp:body=bs++t)(hb:body.drop j=jo ix ls++Y)(og:ls.length<=16)(hix:Ixs ix ws ls)
  (bad:bs≠body->∀Z'2,Ext O2 Z'2->R (.panicked NM) Z'2) (A4:∀Z'2,T2 O2 br b2 p n c (j+(jo ix ls).length) ls Z'2->j+(jo ix ls).length<=n->R (.T #[]) Z'2) :
  Spec prog 149 #[.pointer (aD br 0),.U 16,.func (.func 153) #[] #[.pointer (aD b3 0),.pointer (aD b4 0),.pointer (aD b2 0)]] Z22 R:=by
 have TQ:bs.length=n:=hf.src.rd.1;unfold jo at hb A4;rw[Aew]at hb;have hx:=h.ext hf.nr;have one:∀v,DU bs j v->v=ls.length:=λv hv=>hv.here hp (by omega) (by omega) hb;have KL:body.drop (j+(uv ls.length).length)=ls.flatMap (lbI ix)++Y:=by rw[<-Afx,hb,Afr]
 refine Ry (most:=16) AMG h.g (hf.src.mono hx) hj (λv k Z'2=>T2 O2 br b2 p n c (j+(uv v).length+((ls.take k).flatMap (lbI ix)).length) (ls.take k) Z'2/\j+(uv v).length+((ls.take k).flatMap (lbI ix)).length<=n) (λA9=>bad (DU.Wc A9 (by omega) hb) Z22 hx) (λv hv A9=>absurd (by rw[one v hv];exact og) A9) (λv hv=>?_) (λv k Z'2 hv hk G=>?_) λv Z'2 hv G=>?_
 .have hl:=hv.len (by omega);refine⟨?_,by simpa using(show j+(uv v).length<=n by omega)⟩;simpa using h.move (j+(uv v).length)
 .obtain rfl:=one v hv;obtain⟨l,hl⟩:∃l,ls[k]?=some l:=⟨_,Ae3 hk⟩;obtain⟨G,A⟩:=G;obtain⟨i1,i2⟩:=hix l (Ae2 hl);have To:=Tt KL hl;unfold lbI at To;rw[Aew]at To;refine VT hf G A hp To i1 i2 (by rw[AfE];omega) bad λZ222 h2 ek=>⟨rfl,?_⟩;have e1:=Mx (f:=lbI ix) hl;have e2:(lbI ix l).length=(uv (ix l.1)).length+(uv (ix l.2)).length:=by unfold lbI;rw[Aet]
  rw[e1,e2,AL hl,<-AgJ,<-AgJ];exact⟨h2,ek⟩
 .obtain rfl:=one v hv;obtain⟨G,A⟩:=G;rw[Ag2]at G A;rw[Aet,<-AgJ]at A4;exact A4 Z'2 G A
end
theorem Aa.carry {α:Type}{s:Nat}{E:List Value->α->Prop}{N0 Z22 Z'2:Hp}{A:Option Addr}{k co br b5:Nat}{Ag:List α}{h5 o o':Obj}(h:Aa s (λ_=>E) ((N0.set b5 h5).set br o) Z22 A k co Ag)(hn:N0 br=none)(We:N0 b5=none)(e5:b5≠br)(hx:Ext (Z22.del (aD br 0)) Z'2)(YE:Z'2 br=some o'):
  ∃G,Ext N0 G/\G br=none/\G b5=none/\(∀i,i≠br->i≠b5->(∀a,A=some a->i≠a.block)->G i=Z'2 i)/\Aa s (λ_=>E) ((G.set b5 h5).set br o') Z'2 A k co Ag:=by
 obtain⟨⟨hl,cs,ho,hc⟩,LX⟩:=h;have kb:=AF.1 (LX br o (Hp.AA _ _ _));have k5:=AF.1 (LX b5 h5 (by rw[Hp.AB e5,Hp.AA]));have keep:∀i v,i≠br->Z22 i=some v->Z'2 i=some v:=λi v hi hv=>hx i v (AF.2 ⟨λa ha=>by cases ha;exact hi,hv⟩);refine⟨λi=>if i=br\/i=b5 then none else(Z'2.del A) i,λi v hi=>?_,Aex (.inl rfl),Aex (.inr rfl),λi a1 a2 a3=>?_,⟨⟨hl,cs,Own.here ho λa ha=>?_,hc⟩,λi v hi=>?_⟩⟩
 .have n1:i≠br:=λe=>by rw[e,hn]at hi;cases hi
  have n2:i≠b5:=λe=>by rw[e,We]at hi;cases hi
  obtain⟨q1,q2⟩:=AF.1 (LX i v (by rw[Hp.AB n1,Hp.AB n2];exact hi));show(if i=br\/i=b5 then none else(Z'2.del A) i)=some v
  rw[Aeu (λh=>h.elim n1 n2)];exact AF.2 ⟨q1,keep _ _ n1 q2⟩
 .show(if i=br\/i=b5 then none else(Z'2.del A) i)=Z'2 i
  rw[Aeu (λh=>h.elim a1 a2)];cases e:Z'2 i with
  | some v=>exact AF.2 ⟨a3,e⟩
  | none=>
   cases e2:(Z'2.del A) i with
   | none=>rfl
   | some v=>rw[(AF.1 e2).2]at e;cases e
 .have n1:a.block≠br:=λe=>kb.1 a ha e.symm;cases e:Z22 a.block with
  | none=>exact absurd e (ho.block a ha)
  | some v=>exact keep _ _ n1 e
 .by_cases n1:i=br
  .subst n1;rw[Hp.AA]at hi;cases hi;exact AF.2 ⟨kb.1,YE⟩
  .rw[Hp.AB n1]at hi;by_cases n2:i=b5
   .subst n2;rw[Hp.AA]at hi;cases hi;exact AF.2 ⟨k5.1,keep _ _ n1 k5.2⟩
   .rw[Hp.AB n2]at hi;have hi:(if i=br\/i=b5 then none else(Z'2.del A) i)=some v:=hi;rw[Aeu (λh=>h.elim n1 n2)]at hi;exact hi
def EV0 (vs:List Value)(x:Option Addr×Nat×Nat):Prop:=vs=[.slice x.1 x.2.1 x.2.2,.N]
theorem vN:∀w,(Go.sizeOf 44).run prog w=.ok 1 w:=λw=>by kernel_rfl
structure T3 (O2:Hp)(br b5:Nat)(p:Option Addr)(n c j:Nat)(lss:List (List Lb))(Z22:Hp):Prop where
 e5:b5≠br
 out:∃N0 po co Ag,Ext O2 N0/\N0 br=none/\N0 b5=none/\Ag.length=lss.length/\(∀(i:Nat) (x:Option Addr×Nat×Nat) l,Ag[i]?=some x->lss[i]?=some l->I1 N0 x.1 x.2.1 l)/\Aa 2 (λ_=>EV0) ((N0.set b5 (TT 44 po Ag.length co)).set br (Lk p n c j)) Z22 po Ag.length co Ag
section
variable {O2 Z22:Hp}{br b2 b3 b4 b5:Nat}{p:Option Addr}{n c j:Nat}{bs body t Y:List Int}{R:Rr}{ws:List ByteArray}{ls:List Lb}{ix:ByteArray->Nat}{lss:List (List Lb)}
theorem T3.ext (h:T3 O2 br b5 p n c j lss Z22):Ext O2 (Z22.del (aD br 0)):=λk v hk=>by
 obtain⟨e5,N0,po,co,Ag,hx,hn,G,-,-,ho⟩:=h;have A:=hx k v hk;have n1:k≠br:=λe=>by rw[e,hn]at A;cases A
 have n2:k≠b5:=λe=>by rw[e,G]at A;cases A
 exact AF.2 ⟨λa ha=>by cases ha;exact n1,ho.up _ _ (by rw[Hp.AB n1,Hp.AB n2];exact A)⟩
theorem T3.g (h:T3 O2 br b5 p n c j lss Z22):Z22 br=some (Lk p n c j):=by
 obtain⟨e5,N0,po,co,Ag,hx,hn,G,-,-,A⟩:=h;exact A.up _ _ (Hp.AA _ _ _)
theorem T3.move (h:T3 O2 br b5 p n c j lss Z22)(k:Nat):T3 O2 br b5 p n c k lss (Z22.set br (Lk p n c k)):=by
 obtain⟨e5,N0,po,co,Ag,hx,hn,G,h1,h2,ho⟩:=h;have A:=ho.put (b:=br) (o':=Lk p n c k) (Hp.AA _ _ _);rw[Hp.set_set]at A;exact⟨e5,N0,po,co,Ag,hx,hn,G,h1,h2,A⟩
theorem TU (hf:FxR O2 br b3 b4 p n c bs ws)(h:T3 O2 br b5 p n c j lss Z22)(hj:j<=n)(hp:body=bs++t)(hb:body.drop j=jo ix ls++Y)(og:ls.length<=16)(hix:Ixs ix ws ls)(I2:lss.length<=10000)
  (bad:bs≠body->∀Z'2,Ext O2 Z'2->R (.panicked NM) Z'2) (A4:∀Z'2,T3 O2 br b5 p n c (j+(jo ix ls).length) (lss++[ls]) Z'2->j+(jo ix ls).length<=n->R (.T #[]) Z'2) :
  Spec prog 152 #[.pointer (aD b3 0),.pointer (aD b4 0),.pointer (aD b5 0)] Z22 R:=by
 have hx:=h.ext;have gr:=h.g;have nd:∀b,b≠br->∀v,Z22 b=some v->(Z22.del (aD br 0)) b=some v:=λb hb v hv=>AF.2 ⟨λa G=>by cases G;exact hb,hv⟩;have nbr:(Z22.del (aD br 0)) br=none:=by
  cases e:(Z22.del (aD br 0)) br with
  | none=>rfl
  | some v=>exact absurd rfl ((AF.1 e).1 _ rfl)
 have RM:=hf.mono hx nbr;refine Hk.start λb2 h2=>?_;have e2:b2≠br:=λe=>by rw[e,gr]at h2;cases h2
 have n2:(Z22.del (aD br 0)) b2=none:=by
  cases e:(Z22.del (aD br 0)) b2 with
  | none=>rfl
  | some v=>rw[(AF.1 e).2]at h2;cases h2
 have x1:Ext Z22 (Z22.set b2 (sO none 0 0)):=Ext.set h2;have hT2:T2 (Z22.del (aD br 0)) br b2 p n c j [] (Z22.set b2 (sO none 0 0)):=⟨n2,e2,none,0,Aa.nil λk v A=>by
  by_cases a1:k=br
  .subst a1;rw[Hp.AA]at A;cases A;exact x1 _ _ gr
  .rw[Hp.AB a1]at A;by_cases a2:k=b2
   .subst a2;rw[Hp.AA]at A ⊢;exact A
   .rw[Hp.AB a2]at A;exact x1 _ _ (AF.1 A).2⟩
 refine⟨aD br 0,AD (x1 _ _ (AF.1 (hx _ _ hf.g3)).2) rfl,VU RM hT2 hj hp hb og hix (λAR Z'2 E4=>bad AR Z'2 (hx.trans E4)) λZ'2 hT hle=>⟨rfl,?_⟩⟩;have E4:=hT.ext nbr;have gr':=hT.g;obtain⟨e5,N0,po,co,Ag,LX,hn,We,hvl,JW,ho⟩:=h;obtain⟨-,-,pl,cl,hol⟩:=hT;have g5:Z22 b5=some (TT 44 po Ag.length co):=ho.up _ _ (by rw[Hp.AB e5,Hp.AA]);have g5':=E4 _ _ (nd b5 e5 _ g5);have g2':Z'2 b2=some (sO pl ls.length cl):=hol.up _ _ (by rw[Hp.AB e2,Hp.AA]);obtain⟨N1,xn,m1,m5,Ku,QG⟩:=ho.carry hn We e5 E4 gr';have apart:∀k v,(Z22.del (aD br 0)) k=some v->∀a,pl=some a->k≠a.block:=λk v A a G=>by
  have a1:k≠br:=λe=>by rw[e,nbr]at A;cases A
  have a2:k≠b2:=λe=>by rw[e,n2]at A;cases A
  exact(AF.1 (hol.2 k v (by rw[Hp.AB a1,Hp.AB a2];exact A))).1 a G
 have lab:I1 N1 pl ls.length ls:=by
  obtain⟨⟨hl,cs,TV,hc⟩,Y9⟩:=hol;have vO:Own 2 N1 pl ls.length cl cs:=Own.here TV λa G=>Ku _ (λe=>(AF.1 (Y9 br _ (Hp.AA _ _ _))).1 a G e.symm) (λe=>apart b5 _ (nd b5 e5 _ g5) a G e.symm) λa' Xp e=>by
   have hpo:Z22 a'.block≠none:=ho.1.block a' Xp;have hpb:a'.block≠br:=λe=>(AF.1 (ho.2 br _ (Hp.AA _ _ _))).1 a' Xp e.symm;cases e3:Z22 a'.block with
   | none=>exact hpo e3
   | some v=>exact apart a'.block v (nd _ hpb v e3) a G e.symm
  have hw:B6 2 Eh N1 pl ls.length cl ls:=⟨hl,cs,vO,hc⟩;exact hw.rd Eh.mono
 have big:=Ag.length;refine⟨po,Ag.length,co,AD g5' rfl,pl,ls.length,cl,none,0,0,Bm.of_cells (c:=[.slice pl ls.length cl,.N]) g2',λb9 h9=>?_⟩;refine Aa.G8 (vs:=[.slice pl ls.length cl,.N]) (x:=(pl,ls.length,cl)) (λ_ _ _ _ _ h=>h) QG rfl (λu hu=>by
  rcases Ae5.1 hu with rfl|hu
  .rfl
  .rw[Aev.1 hu];rfl) rfl (by omega) (λp' c' O'2 Cq _=>⟨p',_,c',rfl,?_⟩) h9
 have mF:((N1.set b5 (TT 44 po Ag.length co)).set br (Lk p n c (j+(jo ix ls).length))) b5=some (TT 44 po Ag.length co):=by rw[Hp.AB e5,Hp.AA]
 refine AH.store (P:=prog) vN (Cq.up _ _ mF) rfl (by simp) Mp (A4 _ ⟨e5,N1,p',c',Ag++[(pl,ls.length,cl)],LX.trans xn,m1,m5,by rw[Aet,Aet,hvl,AfD,AfD],λi x l hi hl=>?_,?_⟩ hle)
 .by_cases Aq:i<Ag.length
  .rw[Ae8 Aq]at hi;rw[Ae8 (by omega)]at hl;exact(JW i x l hi hl).mono Eh.mono xn
  .have pK:=(Ae0.1 hi).1;rw[Aet,AfD]at pK;obtain rfl:i=Ag.length:=by omega
   rw[AfJ (Ae1 _),AgB]at hi;rw[hvl,AfJ (Ae1 _),AgB]at hl;cases hi;cases hl;exact lab
 .have h3:=Cq.put (b:=b5) (o':=TT 44 p' (Ag.length+1) c') mF;rw[Hp.GI (AfT e5),Hp.set_set]at h3;have e:(Ag++[(pl,ls.length,cl)]).length=Ag.length+1:=by rw[Aet,AfD]
  rw[e];exact h3
end
theorem bytesRow_at {s:ByteArray}{k i:Nat}{v:Value}(h:((Rh s).map (.int .u8))[i]?=some v):(bytesRow s k)[i]?=some v:=by
 have hi:i<s.size:=by
  have:=(Ae0.1 h).1;rw[AfO,Bb]at this;exact this
 unfold bytesRow;rw[Array.getElem?_append_left (by simpa using hi),<-Afc,<-h];unfold Rh;simp;rfl
theorem vP {Z22:Hp}{s:ByteArray}{Φ:Value->Hp->Prop}(hs:s.size<=1099511627776)(h:∀p' c' Z'2,Be .u8 Z'2 p' s.size (Rh s)->Ext Z22 Z'2->Φ (.slice p' s.size c') Z'2):AH prog (convert 9 79 (.string s)) Z22 Φ:=λw F A hF=>by
 have G:=run_bytes_of_string w 9 79 5 s underlying9 underlying79 underlying5;refine⟨_,_,Z22.set w.heap.size (.cells (bytesRow s (grownCap w s.size 0 5)) 5 ((bytesRow s (grownCap w s.size 0 5)).size,(bytesRow s (grownCap w s.size 0 5)).size+1)),G,h _ _ _ (.KO ⟨by rw[AfO,Bb,Afa],by omega,.inr ⟨w.heap.size,0,rfl,Bm.of λj v hj=>AD (Hp.AA _ _ _) (by rw[AfW];exact bytesRow_at hj)⟩⟩) (Ext.set (DI A)),Fin.alloc A hF _ rfl ⟨rfl,rfl,λ_=>⟨1,rfl⟩⟩ rfl⟩
theorem Own.AMH {T:TypeId}{s:Nat}{Z22:Hp}{p:Option Addr}{n c k:Nat}{cs:List Value}{v:Value}{Ψ:Hp->Prop}(ho:Own s Z22 p n c cs)(hk:k<n*s)(h1:Ej [v])(hv:v.cells=#[v])(hz:∀w,(Go.sizeOf T).run prog w=.ok 1 w)
  (h:∀Z'2,Own s Z'2 p n c (cs.set k v)->(∀i,(∀a,p=some a->i≠a.block)->Z'2 i=Z22 i)->Ψ Z'2) :
  ∃b o,p=some ⟨b,o,none⟩/\AH prog (Instr.storeAt T (.pointer (some ⟨b,o+k,none⟩)) v) Z22 (λ_=>Ψ):=by
 obtain⟨h2,h0,h3⟩:=ho;rcases h3 with ⟨_,hn,_⟩|⟨b,o,arr,T',rfl,A,Wp,Dz,KI⟩
 .subst hn;omega
 .have G:o+n*s<=arr.size:=AfU (Nat.add_le_add_left (AfK s Wp) o) Dz;refine⟨b,o,rfl,AH.store hz A (by rw[hv];rfl) (by omega) (by rw[hv];exact h1) (h _ ⟨by rw[Af2];exact h2,h0,.inr ⟨b,o,_,T',rfl,Hp.AA _ _ _,Wp,by rw[G7];exact Dz,?_⟩⟩ λi hi=>Hp.AB (hi _ rfl))⟩;rw[hv];show((F0 arr (o+k) [v]).toList.drop o).take (n*s)=_
  rw[UF (by simp;omega) G,KI];unfold over;rw[Ahd,Aex (by omega)];simp
abbrev V3:=Option Addr×Nat×Nat
def EV2 (vs:List Value)(x:V3×V3):Prop:=vs=[.slice x.1.1 x.1.2.1 x.1.2.2,.slice x.2.1 x.2.2.1 x.2.2.2]
theorem Ch.ATJ {Z22 Z'2:Hp}{cs:List Value}{Ag:List (V3×V3)}{i m d:Nat}{q:Option Addr}{x:V3×V3}(hc:Ch 2 (λ_=>EV2) Z22 cs Ag)(hx:Ag[i]?=some x):Ch 2 (λ_=>EV2) Z'2 (cs.set (i*2+1) (.slice q m d)) (Ag.set i (x.1,(q,m,d))):=by
 refine⟨by rw[Af2,Af2];exact hc.1,λk y A=>?_⟩;rw[AgN]at A;rw[List.drop_set];by_cases e:i=k
 .subst e;rw[Aex rfl]at A;split at A
  .cases A;have G:(cs.drop (i*2)).take 2=[.slice x.1.1 x.1.2.1 x.1.2.2,.slice x.2.1 x.2.2.1 x.2.2.2]:=hc.2 i x hx;rw[Aeu (by omega),show i*2+1-i*2=1 by omega,AiB,G];rfl
  .cases A
 .rw[Aeu e]at A;have G:=hc.2 k y A;by_cases Aq:i*2+1<k*2
  .rw[Aex Aq];exact G
  .rw[Aeu Aq,AiB,AiU (by rw[AfE];omega)];exact G
theorem AF3 (ps:List Pt):PA ps=EG (strOfNums (JP (E5 ps))):=by
 have h:=Fm (mQ (E5 ps));unfold PA EG;rw[h,<-Bb,h]
structure T4 (O2:Hp)(br b5:Nat)(p:Option Addr)(n c j:Nat)(ss:List Sr)(k:Nat)(Z22:Hp):Prop where
 e5:b5≠br
 out:∃N0 po co Ag,Ext O2 N0/\N0 br=none/\N0 b5=none/\Ag.length=ss.length/\(∀(i:Nat) (x:V3×V3) s,Ag[i]?=some x->ss[i]?=some s->I1 N0 x.1.1 x.1.2.1 s.ls/\(i<k->BB 2 Bp N0 x.2.1 x.2.2.1 s.ps/\x.2.2.1<=x.2.2.2))/\Aa 2 (λ_=>EV2) ((N0.set b5 (TT 44 po Ag.length co)).set br (Lk p n c j)) Z22 po Ag.length co Ag
section
variable {O2 Z22:Hp}{br b2 b3 b4 b5:Nat}{p p0:Option Addr}{n c j n0 c0:Nat}{bs body t:List Int}{R:Rr}{ws:List ByteArray}{ss:List Sr}{k:Nat}
theorem T3.toT4 (h:T3 O2 br b5 p n c j (ss.map (·.ls)) Z22):T4 O2 br b5 p n c j ss 0 Z22:=by
 obtain⟨e5,N0,po,co,Ag,hx,hn,We,h1,h2,⟨⟨hl,cs,TV,G⟩,LX⟩⟩:=h;have e:(Ag.map λx=>(x,((none,0,0):V3))).length=Ag.length:=AfO ..;refine⟨e5,N0,po,co,Ag.map λx=>(x,(none,0,0)),hx,hn,We,by rw[e,h1,AfO],λi x s hi hs=>?_,?_⟩
 .rw[AfZ]at hi;obtain⟨y,A,rfl⟩:=Ahg.1 hi;exact⟨h2 i y s.ls A (by rw[AfZ,hs];rfl),λhh=>absurd hh (Ahr _)⟩
 .rw[e];refine⟨⟨e,cs,TV,by rw[e];exact G.1,λi x hi=>?_⟩,LX⟩;rw[AfZ]at hi;obtain⟨y,A,rfl⟩:=Ahg.1 hi;exact G.2 i y A
theorem T4.ext (h:T4 O2 br b5 p n c j ss k Z22):Ext O2 (Z22.del (aD br 0)):=λk v hk=>by
 obtain⟨e5,N0,po,co,Ag,hx,hn,G,-,-,ho⟩:=h;have A:=hx k v hk;have n1:k≠br:=λe=>by rw[e,hn]at A;cases A
 have n2:k≠b5:=λe=>by rw[e,G]at A;cases A
 exact AF.2 ⟨λa ha=>by cases ha;exact n1,ho.up _ _ (by rw[Hp.AB n1,Hp.AB n2];exact A)⟩
theorem T4.up (h:T4 O2 br b5 p n c j ss k Z22):Ext O2 Z22:=h.ext.trans (Ext.B5 _ _)
theorem T4.g (h:T4 O2 br b5 p n c j ss k Z22):Z22 br=some (Lk p n c j):=by
 obtain⟨e5,N0,po,co,Ag,hx,hn,G,-,-,A⟩:=h;exact A.up _ _ (Hp.AA _ _ _)
theorem T4.move (h:T4 O2 br b5 p n c j ss k Z22)(i:Nat):T4 O2 br b5 p n c i ss k (Z22.set br (Lk p n c i)):=by
 obtain⟨e5,N0,po,co,Ag,hx,hn,G,h1,h2,ho⟩:=h;have A:=ho.put (b:=br) (o':=Lk p n c i) (Hp.AA _ _ _);rw[Hp.set_set]at A;exact⟨e5,N0,po,co,Ag,hx,hn,G,h1,h2,A⟩
theorem T4.next {Z3:Hp}{q:Option Addr}{d:Nat}{s:Sr}{Ψ:Hp->Prop}(h:T4 O2 br b5 p n c j ss k Z22)(hs:ss[k]?=some s){Z222:Hp}(BD:Ext Z22 Z222)(DG:Aa 2 Bp Z222 Z3 q s.ps.length d s.ps)(hΨ:∀Z4,T4 O2 br b5 p n c j ss (k+1) Z4->Ψ Z4):
  ∃G co b o,Z3 b5=some (TT 44 G ss.length co)/\G=some ⟨b,o,none⟩/\AH prog (Instr.storeAt 61 (.pointer (some ⟨b,o+(k*2+1),none⟩)) (.slice q s.ps.length d)) Z3 (λ_=>Ψ):=by
 have gr:=h.g;obtain⟨e5,N0,G,co,Ag,hx,hn,We,h1,h2,ho⟩:=h;have x3:Ext Z22 Z3:=BD.trans DG.up;have g5:Z22 b5=some (TT 44 G Ag.length co):=ho.up _ _ (by rw[Hp.AB e5,Hp.AA]);have hpo:∀a,G=some a->∃v,Z22 a.block=some v:=λa A=>by
  have:=ho.1.block a A;cases e:Z22 a.block with
  | none=>exact absurd e this
  | some v=>exact⟨v,rfl⟩
 obtain⟨N1,xn,m1,m5,Ku,QG⟩:=ho.carry hn We e5 ((Ext.B5 _ _).trans x3) (x3 _ _ gr);have hk:=(Ae0.1 hs).1;obtain⟨x,Ri⟩:∃x,Ag[k]?=some x:=⟨_,Ae3 (by omega)⟩;have apart:∀i v,Z22 i=some v->∀a,q=some a->i≠a.block:=λi v hi a A=>(AF.1 (DG.2 i v (BD _ _ hi))).1 a A;have pts:BB 2 Bp N1 q s.ps.length s.ps/\s.ps.length<=d:=by
  obtain⟨⟨hl,cs,TV,hc⟩,Y9⟩:=DG;have vO:Own 2 N1 q s.ps.length d cs:=Own.here TV λa A=>Ku _ (λe=>apart br _ gr a A e.symm) (λe=>apart b5 _ g5 a A e.symm) λa' Xp e=>by
   obtain⟨v,hv⟩:=hpo a' Xp;exact apart _ v hv a A e.symm
  exact⟨B6.rd Bp.mono (⟨hl,cs,vO,hc⟩:B6 2 Bp N1 q s.ps.length d s.ps),Own.cap TV⟩
 obtain⟨⟨hl,cs,TV,hc⟩,aY⟩:=QG;have val:∀(i:Nat) (y:V3×V3) s',(Ag.set k (x.1,(q,s.ps.length,d)))[i]?=some y->ss[i]?=some s'->I1 N1 y.1.1 y.1.2.1 s'.ls/\(i<k+1->BB 2 Bp N1 y.2.1 y.2.2.1 s'.ps/\y.2.2.1<=y.2.2.2):=λi y s' hi PL=>by
  rw[AgN]at hi;by_cases e:k=i
  .subst e;rw[Aex rfl]at hi;split at hi
   .cases hi;rw[hs]at PL;cases PL;exact⟨((h2 k x s Ri hs).1).mono Eh.mono xn,λ_=>pts⟩
   .cases hi
  .rw[Aeu e]at hi;obtain⟨q1,q2⟩:=h2 i y s' hi PL;exact⟨q1.mono Eh.mono xn,λhh=>⟨(q2 (by omega)).1.mono Bp.mono xn,(q2 (by omega)).2⟩⟩
 obtain⟨b,o,hb,jW⟩:=Own.AMH (T:=61) (k:=k*2+1) (v:=.slice q s.ps.length d) (Ψ:=Ψ) TV (by omega) (λu hu=>by rw[Aev.1 hu];rfl) rfl aH λZ4 ATK hot=>hΨ Z4 ⟨e5,N1,G,co,Ag.set k (x.1,(q,s.ps.length,d)),hx.trans xn,m1,m5,by rw[Af2];exact h1,val,by
   rw[Af2];refine⟨⟨by rw[Af2],_,ATK,Ch.ATJ (Z22:=Z3.del G) hc Ri⟩,λi v hi=>?_⟩;obtain⟨k1,k2⟩:=AF.1 (aY i v hi);exact AF.2 ⟨k1,by rw[hot i k1];exact k2⟩⟩
 exact⟨_,co,b,o,by rw[<-h1];exact x3 _ _ g5,hb,jW⟩
theorem T4.done (h:T4 O2 br b5 p n c j ss ss.length Z22):∃A co,Z22 b5=some (TT 44 A ss.length co)/\BB 2 CW Z22 A ss.length ss/\ss.length<=co:=by
 obtain⟨e5,N0,A,co,Ag,hx,hn,We,h1,h2,ho⟩:=h;have xN:Ext N0 Z22:=λi v hi=>ho.up _ _ (by
  rw[Hp.AB (λe=>by rw[e,hn]at hi;cases hi),Hp.AB (λe=>by rw[e,We]at hi;cases hi)];exact hi)
 have g5:Z22 b5=some (TT 44 A Ag.length co):=ho.up _ _ (by rw[Hp.AB e5,Hp.AA]);obtain⟨⟨hl,cs,G,hc⟩,-⟩:=ho;rw[h1]at g5 G;refine⟨A,co,g5,⟨rfl,cs,G.rd,by rw[<-h1];exact hc.1,λi s hs=>?_⟩,Own.cap G⟩;have hi:=(Ae0.1 hs).1;obtain⟨x,Ri⟩:∃x,Ag[i]?=some x:=⟨_,Ae3 (by omega)⟩;obtain⟨q1,q2⟩:=h2 i x s Ri hs;exact⟨_,_,_,_,_,_,hc.2 i x Ri,q1.mono Eh.mono xN,(q2 hi).1.mono Bp.mono xN,(q2 hi).2⟩
end
section
variable {O2 Z22:Hp}{br b2 b3 b4 b5:Nat}{p p0:Option Addr}{n c j n0 c0:Nat}{bs body t:List Int}{R:Rr}{ws:List ByteArray}{ss:List Sr}
theorem ph {J0:Nat}(hb:I4 ss)(hf:FxR O2 br b3 b4 p n c bs ws)(hp:body=bs++t)(AC9:body.drop J0=ss.flatMap λs=>PA s.ps)(hJ0:J0<=body.length)(U4:body.length<=1099511627776)
  (bad:bs≠body->∀Z'2,Ext O2 Z'2->R (.panicked NM) Z'2) (whole:bs=body->Be .u8 O2 p0 n0 (EL ss))
  (hR:∀po co Z'2,BB 2 CW Z'2 po ss.length ss->ss.length<=co->Ext O2 Z'2->R (.returned (.slice po ss.length co)) Z'2) :
  ∀(d i:Nat) (Z22:Hp),ss.length-i=d->i<=ss.length->T4 O2 br b5 p n c (J0+((ss.take i).flatMap λs=>PA s.ps).length) ss i Z22->J0+((ss.take i).flatMap λs=>PA s.ps).length<=n->
   Gt.Ep R p0 n0 c0 b3 b5 (ss.length:Int) (i:Int) Z22:=by
 have TQ:bs.length=n:=hf.src.rd.1;have Xo:=hb.n;intro d
 induction d with
 | zero=>
  intro i Z22 hd hi h A;obtain rfl:i=ss.length:=by omega
  rw[Ag2]at h A;have hwh:bs=body:=by
   have h1:=Ae4 List.length AC9;rw[AfV]at h1;have h2:t=[]:=Ae6 (by have:=Ae4 List.length hp;rw[Aet]at this;omega);rw[hp,h2,AfG]
  obtain⟨po,co,g5,JW,hco⟩:=h.done;have hx:=h.up;refine Gt.FQ ⟨λhh=>by omega,λ_=>⟨po,_,co,AD g5 rfl,MM JW hb λp' c' Z'2 hrb hcb E4=>⟨p',_,c',0,rfl,λ_=>?_,λhh=>absurd rfl hh⟩⟩⟩;refine Qv hrb (Be.mono (hx.trans E4) (whole hwh)) ⟨true,rfl,CK.start ⟨λhh=>(by cases hh),λ_=>⟨rfl,po,_,co,AD (E4 _ _ g5) rfl,hR po co Z'2 (JW.mono CW.mono E4) hco (hx.trans E4)⟩⟩⟩
 | succ d ih=>
  intro i Z22 hd hi h A;obtain⟨s,hs⟩:∃s,ss[i]?=some s:=⟨_,Ae3 (by omega)⟩;have KJ:s∈ss:=Ae2 hs;have hx:=h.up;have KL:=Tt (Y:=[]) (by rw[AfG];exact AC9) hs;have G:=Mx (f:=λs:Sr=>PA s.ps) hs;rw[AF3]at KL G;generalize hJ:J0+((ss.take i).flatMap λs=>PA s.ps).length=J at h A KL;have hbt:Rh (strOfNums (JP (E5 s.ps)))=JP (E5 s.ps):=Fm (mQ _);have hm:=(hb.ps s KJ).2;have nz:=Jz s.ps;have h8:=hm.n;have Dz:(strOfNums (JP (E5 s.ps))).size<=1099511627776:=by rw[<-Bb,hbt,FM];omega
  generalize hw:strOfNums (JP (E5 s.ps))=w at KL G hbt Dz;refine Gt.FQ ⟨λ_=>⟨aD br 0,AD (hx _ _ hf.g3) rfl,VS h.g (hf.src.mono hx) A (λA9=>bad (J1.Wc A9 KL) Z22 hx) λw' MY=>⟨w',rfl,?_⟩⟩,λhh=>by omega⟩;obtain rfl:w'=w:=MY.here hp (by omega) (by omega) KL;have ek:=MY.len (by omega);have h1:=h.move (J+(EG w').length);generalize Z22.set br (Lk p n c (J+(EG w').length))=Z12 at h1;refine vP Dz λp' c' Z222 JW BD=>⟨p',_,c',rfl,?_⟩;rw[hbt]at JW;refine eh JW hm λq dd Z3 DG=>⟨q,_,dd,0,rfl,CK.start ⟨λhh=>(by cases hh),λ_=>⟨rfl,?_⟩⟩⟩;obtain⟨po,co,bo,oo,g5,rfl,jW⟩:=h1.next hs BD DG (Ψ:=λZ4=>AK ((i:Int)+1)/\Gt.Ep R p0 n0 c0 b3 b5 (ss.length:Int) ((i:Int)+1) Z4) λZ4 h4=>⟨by unfold AK;omega,by
   rw[show(i:Int)+1=((i+1:Nat):Int) by omega];refine ih (i+1) Z4 (by omega) (by omega) ?_ ?_
   .rw[G,<-AgJ,hJ];exact h4
   .rw[G,<-AgJ,hJ];omega⟩
  refine⟨_,_,co,AD g5 rfl,bo,oo,rfl,by unfold In;omega,?_⟩;rw[AfR,AgJ];exact jW
end
theorem AAq (x:Int):(Qr x).length=4:=rfl
theorem VV (ss:List Sr):(EL ss).length=(C1 ss).length+4:=by unfold EL;rw[Aet,AAq]
theorem mW (ss:List Sr):∃r,C1 ss=[84,87,66,1]++uv (CN ss).length++r:=⟨(CN ss).flatMap EG++uv ss.length++(ss.flatMap λs=>Tp ss s.ls)++ss.flatMap λs=>PA s.ps,by unfold C1;simp only[Aew]⟩
theorem vQ (ss:List Sr):5<=(C1 ss).length:=by
 obtain⟨r,A⟩:=mW ss;have:=Rq (CN ss).length;rw[A,Aet,Aet];simp only[Aez,Afw];omega
section
variable {Z22:Hp}{p0:Option Addr}{n0 c0:Nat}{full t0:List Int}{R:Rr}{ss:List Sr}
theorem jq (hr:Be .u8 Z22 p0 n0 full)(hc:n0<=c0)(hn:n0<=1000000000)(NL:EL ss=full++t0)(bad:full≠EL ss->∀Z'2,Ext Z22 Z'2->R (.panicked NM) Z'2)
  (A4:∀A br,Ext Z22 A->A br=none->8<=n0->R (.returned (.pointer (aD br 0))) (A.set br (Lk p0 (n0-4) c0 4))):Spec prog 148 #[.slice p0 n0 c0,.string (ByteArray.mk #[84,87,66,1])] Z22 R:=by
 have hl:full.length=n0:=hr.1;have TQ:=VV ss;have Ib:=vQ ss;have e4:((ByteArray.size (ByteArray.mk #[84,87,66,1]):Nat):Int)=4:=rfl;refine Uq.start ?_;rw[e4];refine⟨by unfold AK;omega,λh8=>?_,λh8=>CK.start ⟨λ_=>bad (λe=>by rw[<-e]at TQ;omega) Z22 (.refl _),λhh=>(by cases hh)⟩⟩;have e5:Int.toNat ((n0:Int)-4)=n0-4:=by omega
 have e6:Int.toNat (4:Int)=4:=rfl;rw[e5,e6];refine⟨⟨by decide,by omega⟩,Ed (BB.take hr (by omega:4<=n0)) ⟨_,rfl,λhT=>?_,λG=>CK.start ⟨λ_=>bad (λe=>?_) Z22 (.refl _),λhh=>(by cases hh)⟩⟩⟩
 .intro Ra h23;refine⟨⟨by omega,by omega⟩,CF (T:=79) Own.empty ((Kt.of_map (BB.take hr (by omega:n0-4<=n0))).mono (.set h23)) Ej.Gz (by omega) λp' c' Z222 By BD=>⟨p',_,c',rfl,?_⟩⟩;have x2:Ext Z22 (Z222.del p'):=by
   refine Ext.trans (λk v hk=>?_) BD;have AR:k≠Ra:=λe=>by rw[e,h23]at hk;cases hk
   exact AF.2 ⟨λa ha=>by cases ha;exact AR,by rw[Hp.AB AR];exact hk⟩
  rw[AfW]at By ⊢;refine S4 (xs:=full.take (n0-4)) By (by omega) λp2 c2 Z3 DG Ev=>⟨p2,_,c2,rfl,?_⟩;have x3:Ext Z22 Z3:=(x2.trans Ev).trans (Ext.B5 _ _);refine bytes_Equal.start (Ed DG.rd ⟨_,rfl,Ed (Be.mono x3 hr) ⟨_,rfl,_,rfl,CK.start ⟨λG=>bad (λe=>?_) Z3 x3,λhT=>⟨rfl,⟨by omega,by omega⟩,λUn h39=>A4 Z3 Un x3 h39 (by omega)⟩⟩⟩⟩);have e1:full.take (n0-4)=C1 ss:=by
   rw[e];unfold EL;rw[AgE (by rw[e]at hl;omega),Ae7 (by rw[e]at hl;omega)]
  have e2:full.take (n0-4)++Qr (TR (full.take (n0-4)))=full:=by rw[e1,e];rfl
  rw[e2,GV]at G;cases G
 .have e1:full.take 4=[84,87,66,1]:=by
   obtain⟨r,Ta⟩:=mW ss;rw[e];unfold EL;rw[Ta];simp
  rw[e1]at G;have:strOfNums [84,87,66,1]=ByteArray.mk #[84,87,66,1]:=rfl;rw[this,GV]at G;cases G
theorem mX:∀l:List Lb,(WZ l).length=2*l.length
 | []=>rfl
 | x::l=>by show([x.1,x.2]++WZ l).length=_;rw[Aet,mX l,Aez];simp;omega
theorem mY:∀l:List Sr,(∀s∈l,BE s.ls)->(JV l).length<=32*l.length
 | [],_=>Ae1 _
 | x::l,A=>by
  have h1:=mY l λs G=>A s (Aey _ G);have h2:=(A x (AfB ..)).1;have h3:=mX x.ls;show(WZ x.ls++JV l).length<=_
  rw[Aet,Aez];omega
structure ADA (ss:List Sr):Prop where
 t:(CN ss).length<=40000
 w:∀w∈CN ss,w.size<=256
 b:(C1 ss).length<=400000000
 c:(C1 ss).length<=310100*ss.length
theorem I4.sm (hb:I4 ss):ADA ss:=by
 have Xo:=hb.n;have small:∀s∈ss,BE s.ls:=λs A=>BE.of (hb.ls s A);have wf:=mY ss small;have hT:(CN ss).length<=40000:=AfU (aU ss) (by omega);have Dz:∀w∈CN ss,w.size<=256:=λw hw=>by
  obtain⟨s,A,G⟩:=Age.1 (mO hw);obtain⟨l,hl,h4⟩:=Age.1 G;have:=(small s A).2 l hl;simp only[Ae5,Afj,Agd]at h4;rcases h4 with rfl|rfl
  .exact this.1
  .exact this.2
 have gA:(CN ss).length<=32*ss.length:=AfU (aU ss) wf;have hp:0<ss.length:=AhG.2 hb.ne;refine(λhc=>⟨hT,Dz,by omega,hc⟩:(C1 ss).length<=310100*ss.length->ADA ss) ?_;have b1:((CN ss).flatMap EG).length<=300*(CN ss).length:=Ex λw hw=>by
  have h1:=Dz w hw;have:=Ai (x:=w.size) (by omega);unfold EG;rw[Aet,Bb];omega
 have b2:(ss.flatMap λs=>Tp ss s.ls).length<=400*ss.length:=Ex λs A=>by
  have h1:=(small s A).1;have G:=Ex (f:=pN ss) (B:=20) (l:=s.ls) λy hy=>aX (ML A hy).1 (ML A hy).2 hT;have:=Ai (x:=s.ls.length) (by omega);unfold Tp;rw[Aet];omega
 have b3:(ss.flatMap λs=>PA s.ps).length<=300000*ss.length:=Ex λs A=>by
  have h1:=Jz s.ps;have G:=(hb.ps s A).2.n;have h3:(JP (E5 s.ps)).length<=299000:=by rw[FM];omega
  have:=Ai (x:=(JP (E5 s.ps)).length) (by omega);unfold PA;rw[Aet];omega
 have b4:=Ai (x:=(CN ss).length) (by omega);have b5:=Ai (x:=ss.length) (by omega);unfold C1;simp only[Aet,Aez,Afw];omega
end
def ixN (ss:List Sr)(w:ByteArray):Nat:=(jg ss w).toNat
theorem AMJ (ss:List Sr)(ls:List Lb):Tp ss ls=jo (ixN ss) ls:=by
 unfold Tp jo
 congr 1
 refine Ae4 (λf=>ls.flatMap f) (funext λl=>?_);unfold pN qq lbI ixN;simp
theorem AF5 {ss:List Sr}{s:Sr}(hs:s∈ss):Ixs (ixN ss) (CN ss) s.ls:=λl hl=>by
 obtain⟨h1,h2⟩:=ML hs hl;obtain⟨_,i,A,G⟩:=Pm h1;obtain⟨_,k,e2,g2⟩:=Pm h2;unfold ixN;rw[A,e2,AfR,AfR];exact⟨G,g2⟩
section
variable {O2 Z22:Hp}{br b3 b4 b5:Nat}{p:Option Addr}{n c j:Nat}{bs:List Int}{R:Rr}{ws:List ByteArray}{ss:List Sr}
theorem T1.AMK (h:T1 O2 br b3 b4 p n c j ws Z22):Ext O2 (Z22.del (aD br 0)):=λk v A=>by
 have G:k≠br:=λe=>by rw[e,h.nr]at A;cases A
 exact AF.2 ⟨λa ha=>by cases ha;exact G,h.ext k v A⟩
theorem T1.g (h:T1 O2 br b3 b4 p n c j ws Z22):Z22 br=some (Lk p n c j):=by
 obtain⟨_,_,_,_,_,_,pa,G,A⟩:=h;exact A.up _ _ (Hp.AA _ _ _)
theorem vR {Z22:Hp}{br:Nat}:(Z22.del (aD br 0)) br=none:=by
 cases e:(Z22.del (aD br 0)) br with
 | none=>rfl
 | some v=>exact absurd rfl ((AF.1 e).1 _ rfl)
theorem T1.fx (h:T1 O2 br b3 b4 p n c j ws Z22)(hs:Src O2 p n c bs)(hf:ws.length<=1000000):FxR (Z22.del (aD br 0)) br b3 b4 p n c bs ws:=by
 have hx:=h.AMK;obtain⟨nr,n3,n4,l9,e3,e4,pa,G,ho⟩:=h;have g4:Z22 b4=some (TT 81 pa ws.length G):=ho.up _ _ (by rw[Hp.AB e4,Hp.AA]);have g3:Z22 b3=some (vM br):=ho.up _ _ (by rw[Hp.AB e3,Hp.AB l9,Hp.AA]);refine⟨vR,AF.2 ⟨λa A=>by cases A;exact e3,g3⟩,⟨pa,G,AF.2 ⟨λa A=>by cases A;exact e4,g4⟩,?_⟩,hs.mono hx,hf⟩;obtain⟨⟨hl,cs,TV,hc⟩,LX⟩:=ho;have vO:Own 1 (Z22.del (aD br 0)) pa ws.length G cs:=Own.here TV λa A=>by
  have AR:a.block≠br:=λe=>(AF.1 (LX br _ (Hp.AA _ _ _))).1 a A e.symm;cases e:Z22 a.block with
  | none=>exact absurd e (TV.block a A)
  | some v=>exact AF.2 ⟨λa' Xp=>by cases Xp;exact AR,e⟩
 exact B6.rd (E:=λ_=>ETx) (λ_ _ _ _ _ h=>h) (⟨hl,cs,vO,hc⟩:B6 1 (λ_=>ETx) (Z22.del (aD br 0)) pa ws.length G ws)
theorem T3.init (h:Z22 br=some (Lk p n c j))(G:Z22 b5=none):T3 (Z22.del (aD br 0)) br b5 p n c j [] (Z22.set b5 (TT 44 none 0 0)):=by
 have e5:b5≠br:=λe=>by rw[e,h]at G;cases G
 have n5:(Z22.del (aD br 0)) b5=none:=by
  cases e:(Z22.del (aD br 0)) b5 with
  | none=>rfl
  | some v=>rw[(AF.1 e).2]at G;cases G
 refine⟨e5,_,none,0,[],.refl _,vR,n5,rfl,λi x l hi=>by simp at hi,Aa.nil λk v A=>?_⟩;by_cases a1:k=br
 .subst a1;rw[Hp.AA]at A;cases A;rw[Hp.AB (AfT e5)];exact h
 .rw[Hp.AB a1]at A;by_cases a2:k=b5
  .subst a2;rw[Hp.AA]at A ⊢;exact A
  .rw[Hp.AB a2]at A ⊢;exact(AF.1 A).2
theorem T4.len (h:T4 O2 br b5 p n c j ss 0 Z22):∃A co,Z22 b5=some (TT 44 A ss.length co):=by
 obtain⟨e5,N0,A,co,Ag,hx,hn,We,G,h2,ho⟩:=h;exact⟨A,co,by rw[<-G];exact ho.up _ _ (by rw[Hp.AB e5,Hp.AA])⟩
end
theorem aZ {α:Type}{f:α->List Int}(A:∀x,1<=(f x).length):∀{l:List α},l.length<=(l.flatMap f).length
 | []=>Ae1 _
 | x::l=>by
  have G:=A x;have h2:=aZ A (l:=l);rw[Afy,Aet,Aez];omega
theorem T1.move {O2 Z22:Hp}{br b3 b4:Nat}{p:Option Addr}{n c j:Nat}{xs:List ByteArray}(h:T1 O2 br b3 b4 p n c j xs Z22)(k:Nat):T1 O2 br b3 b4 p n c k xs (Z22.set br (Lk p n c k)):=by
 obtain⟨nr,n3,n4,l9,e3,e4,pa,G,ho⟩:=h;have A:=ho.put (b:=br) (o':=Lk p n c k) (Hp.AA _ _ _);rw[Hp.set_set]at A;exact⟨nr,n3,n4,l9,e3,e4,pa,G,A⟩
theorem AAs:∀w,(Go.sizeOf 224).run prog w=.ok 1 w:=λw=>by kernel_rfl
section
variable {Z22:Hp}{p0:Option Addr}{n0 c0:Nat}{full t0:List Int}{R:Rr}{ss:List Sr}
theorem jr (hb:I4 ss)(hr:Be .u8 Z22 p0 n0 full)(h8:Ft full)(hc:n0<=c0)(NL:EL ss=full++t0)(bad:full≠EL ss->∀Z'2,Ext Z22 Z'2->R (.panicked NM) Z'2)
  (hR:∀po co Z'2,BB 2 CW Z'2 po ss.length ss->ss.length<=co->Ext Z22 Z'2->R (.returned (.slice po ss.length co)) Z'2):Spec prog 89 #[.slice p0 n0 c0] Z22 R:=by
 have hl:full.length=n0:=hr.1;have TQ:=VV ss;have sm:=hb.sm;have smb:=sm.b;have smt:=sm.t;have Xo:=hb.n;have hpl:=Ae4 List.length NL;rw[Aet,TQ,hl]at hpl;refine Gt.start (jq hr hc (by omega) NL bad λA br Ct YE Abh=>⟨_,rfl,λb3 h3=>?_⟩);have etk:full.take (n0-4)=(C1 ss).take (n0-4):=by
  have e1:full=(EL ss).take n0:=by rw[NL,<-hl,AhD]
  rw[e1,Agf,AgS (by omega)];unfold EL;rw[AgE (by omega)]
 have hp:C1 ss=full.take (n0-4)++(C1 ss).drop (n0-4):=by rw[etk,Afi]
 have vS:Src A p0 (n0-4) c0 (full.take (n0-4)):=⟨BB.take (Be.mono Ct hr) (by omega),λx hx=>h8 x (AgF hx),by omega,by omega⟩;have vT:full.take (n0-4)≠C1 ss->∀Z'2,Ext A Z'2->R (.panicked NM) Z'2:=λAR Z'2 E4=>bad (λe=>AR (by
  rw[etk];have:n0=(C1 ss).length+4:=by rw[<-hl,e,TQ]
  rw[Ae7 (by omega)])) Z'2 (Ct.trans E4)
 have whole:full.take (n0-4)=C1 ss->Be .u8 A p0 n0 (EL ss):=λe=>by
  have h1:=Ae4 List.length e;rw[AfE,hl]at h1;have h2:t0=[]:=Ae6 (by omega);rw[NL,h2,AfG];exact Be.mono Ct hr
 have hRB:∀po co Z'2,BB 2 CW Z'2 po ss.length ss->ss.length<=co->Ext A Z'2->R (.returned (.slice po ss.length co)) Z'2:=λpo co Z'2 a1 a2 a3=>hR po co Z'2 a1 a2 (Ct.trans a3);have AML:(full.take (n0-4)).length=n0-4:=vS.rd.1;generalize full.take (n0-4)=bs at hp vS vT whole AML;have e3:b3≠br:=λe=>by rw[e,Hp.AA]at h3;cases h3
 have n3:A b3=none:=by rw[Hp.AB e3]at h3;exact h3
 refine AH.store (P:=prog) (c:=#[.pointer none]) AAs (Hp.AA _ _ _) rfl (by simp) (λu hu=>by rw[Aev.1 (show u∈[Value.pointer (aD br 0)] from hu)];rfl) ?_;have ew:Obj.cells (F0 #[Value.pointer none] 0 (Value.pointer (aD br 0)).cells.toList) 224 (0,0)=vM br:=rfl;rw[Hp.set_set,ew];intro b4 h4;have l9:b3≠b4:=λe=>by rw[<-e,Hp.AA]at h4;cases h4
 rw[Hp.AB (AfT l9)]at h4;have e4:b4≠br:=λe=>by rw[e,Hp.AA]at h4;cases h4
 have n4:A b4=none:=by rw[Hp.AB e4]at h4;exact h4
 have hT1:T1 A br b3 b4 p0 (n0-4) c0 4 [] (((A.set br (Lk p0 (n0-4) c0 4)).set b3 (vM br)).set b4 (TT 81 none 0 0)):=⟨YE,n3,n4,l9,e3,e4,none,0,by
  rw[Hp.GI (AfT e3),Hp.GI (AfT e4)];exact Aa.nil (.refl _)⟩
 have hg3:(((A.set br (Lk p0 (n0-4) c0 4)).set b3 (vM br)).set b4 (TT 81 none 0 0)) b3=some (vM br):=by rw[Hp.AB l9,Hp.AA]
 generalize ((A.set br (Lk p0 (n0-4) c0 4)).set b3 (vM br)).set b4 (TT 81 none 0 0)=ZA at hT1 hg3 ⊢;refine⟨aD br 0,AD hg3 rfl,λEl e16=>?_⟩;rw[U5,AfY (by omega)]at e16;subst e16;have hB:C1 ss=[84,87,66,1]++(uv (CN ss).length++((CN ss).flatMap EG++(uv ss.length++((ss.flatMap λs=>Tp ss s.ls)++ss.flatMap λs=>PA s.ps)))):=by unfold C1;simp only[Aew]
 have hd4:(C1 ss).drop 4=uv (CN ss).length++((CN ss).flatMap EG++(uv ss.length++((ss.flatMap λs=>Tp ss s.ls)++ss.flatMap λs=>PA s.ps))):=by
  rw[hB];exact Afr (l₁:=[84,87,66,1])
 have ei:ss.length<18446744073709551616:=by omega
 have AMO:(CN ss).length<18446744073709551616:=by omega
 have one:∀v,DU bs 4 v->v=(CN ss).length:=λv hv=>hv.here hp (by omega) AMO hd4;have hd5:(C1 ss).drop (4+(uv (CN ss).length).length)=(CN ss).flatMap EG++(uv ss.length++((ss.flatMap λs=>Tp ss s.ls)++ss.flatMap λs=>PA s.ps)):=by rw[<-Afx,hd4,Afr]
 have hd6:(C1 ss).drop (4+(uv (CN ss).length).length+((CN ss).flatMap EG).length)=uv ss.length++((ss.flatMap λs=>Tp ss s.ls)++ss.flatMap λs=>PA s.ps):=by rw[<-Afx,hd5,Afr]
 have hd7:(C1 ss).drop (4+(uv (CN ss).length).length+((CN ss).flatMap EG).length+(uv ss.length).length)=(ss.flatMap λs=>Tp ss s.ls)++ss.flatMap λs=>PA s.ps:=by rw[<-Afx,hd6,Afr]
 have hd8:(C1 ss).drop (4+(uv (CN ss).length).length+((CN ss).flatMap EG).length+(uv ss.length).length+(ss.flatMap λs=>Tp ss s.ls).length)=ss.flatMap λs=>PA s.ps:=by rw[<-Afx,hd7,Afr]
 have efl:(ss.flatMap λs=>Tp ss s.ls)=(ss.map (·.ls)).flatMap (jo (ixN ss)):=by
  rw[List.flatMap_map];exact Ae4 (λf=>ss.flatMap f) (funext λs=>AMJ ss s.ls)
 have hxA:=hT1.ext;refine Ry (most:=n0) Hl.en hT1.g (vS.mono hxA) (by omega) (λv k Z'2=>T1 A br b3 b4 p0 (n0-4) c0 (4+(uv v).length+(((CN ss).take k).flatMap EG).length) ((CN ss).take k) Z'2/\4+(uv v).length+(((CN ss).take k).flatMap EG).length<=n0-4) (λA9=>vT (DU.Wc A9 AMO hd4) ZA hxA) (λv hv A9=>vT (λe=>A9 ?_) _ ?_) (λv hv=>?_) (λv k Z'2 hv hk hI=>?_) λv ZB hv hI=>?_
 ·
  obtain rfl:=one v hv;have h1:=Ae4 List.length hd5;rw[AfV,Aet]at h1;have h2:(CN ss).length<=((CN ss).flatMap EG).length:=aZ λw=>by
   have:=Rq w.size;unfold EG;rw[Aet];omega
  have h3:=hv.len (by omega);rw[e]at AML;omega
 .exact(hT1.move _).ext
 .obtain rfl:=one v hv;have h3:=hv.len (by omega);refine⟨?_,by simpa using(show 4+(uv (CN ss).length).length<=n0-4 by omega)⟩;simpa using hT1.move (4+(uv (CN ss).length).length)
 .obtain rfl:=one v hv;obtain⟨w,hw⟩:∃w,(CN ss)[k]?=some w:=⟨_,Ae3 hk⟩;obtain⟨hI,hle⟩:=hI;have To:=Tt hd5 hw;refine Wd hI vS hle (by rw[AfE];omega) (λA9=>vT (J1.Wc A9 To) Z'2 hI.ext) λs Z222 MY h2=>⟨rfl,?_⟩;obtain rfl:s=w:=MY.here hp (by omega) (by omega) To;have h3:=MY.len (by omega);have e1:=Mx (f:=EG) hw;rw[e1,AL hw,<-AgJ];exact⟨h2,by omega⟩
 obtain rfl:=one v hv;obtain⟨hI,hle⟩:=hI;rw[Ag2]at hI hle;refine⟨rfl,?_⟩;intro b5 h5;have hfx:=hI.fx vS (by omega);have hxB:=hI.AMK;have hT3:=T3.init hI.g h5;have hgb:(ZB.set b5 (TT 44 none 0 0)) b3=some (vM br):=Ext.set h5 _ _ (AF.1 hfx.g3).2;have hxC:Ext (ZB.del (aD br 0)) (ZB.set b5 (TT 44 none 0 0)):=(Ext.B5 _ _).trans (Ext.set h5);have AF6:bs≠C1 ss->∀Z'2,Ext (ZB.del (aD br 0)) Z'2->R (.panicked NM) Z'2:=λAR Z'2 E4=>vT AR Z'2 (hxB.trans E4);generalize ZB.set b5 (TT 44 none 0 0)=ZC at hT3 hgb hxC ⊢;refine⟨aD br 0,AD hgb rfl,?_⟩;have AAt:∀v,DU bs (4+(uv (CN ss).length).length+((CN ss).flatMap EG).length) v->v=ss.length:=λv hv=>hv.here hp (by omega) ei hd6;refine Ry (most:=1024) Hk.en hT3.g (hfx.src.mono hxC) hle (λv k Z'2=>T3 (ZB.del (aD br 0)) br b5 p0 (n0-4) c0 (4+(uv (CN ss).length).length+((CN ss).flatMap EG).length+(uv v).length+(((ss.map (·.ls)).take k).flatMap (jo (ixN ss))).length) ((ss.map (·.ls)).take k) Z'2/\4+(uv (CN ss).length).length+((CN ss).flatMap EG).length+(uv v).length+(((ss.map (·.ls)).take k).flatMap (jo (ixN ss))).length<=n0-4) (λA9=>AF6 (DU.Wc A9 ei hd6) ZC hxC) (λv hv A9=>absurd (by rw[AAt v hv];exact Xo) A9) (λv hv=>?_) (λv k Z'2 hv hk G=>?_) λv ZD hv G=>?_
 .obtain rfl:=AAt v hv;have h3:=hv.len (by omega);refine⟨?_,by simpa using(show 4+(uv (CN ss).length).length+((CN ss).flatMap EG).length+(uv ss.length).length<=n0-4 by omega)⟩;simpa using hT3.move (4+(uv (CN ss).length).length+((CN ss).flatMap EG).length+(uv ss.length).length)
 .obtain rfl:=AAt v hv;obtain⟨s,hs⟩:∃s,ss[k]?=some s:=⟨_,Ae3 hk⟩;have I2:(ss.map (·.ls))[k]?=some s.ls:=by rw[AfZ,hs];rfl
  obtain⟨G,ek⟩:=G;have KJ:=Ae2 hs;have To:=Tt (f:=jo (ixN ss)) (l:=ss.map (·.ls)) (by rw[hd7,efl]) I2;refine TU (ls:=s.ls) hfx G ek hp To (BE.of (hb.ls s KJ)).1 (AF5 KJ) (by rw[AfE,AfO];omega) AF6 λZ222 h2 ATT=>⟨rfl,?_⟩;have e1:=Mx (f:=jo (ixN ss)) I2;rw[e1,AL I2,<-AgJ];exact⟨h2,ATT⟩
 .obtain rfl:=AAt v hv;obtain⟨G,ek⟩:=G;have et:(ss.map (·.ls)).take ss.length=ss.map (·.ls):=Ae7 (by rw[AfO];exact Ae1 _);rw[et,<-efl]at G;rw[et,<-efl]at ek;have hT4:=G.toT4;obtain⟨po,co,g5⟩:=hT4.len;refine⟨rfl,po,ss.length,co,AD g5 rfl,?_⟩;exact ph hb hfx hp hd8 (by have:=Ae4 List.length hd8;rw[AfV]at this;omega) (by omega) AF6 (λe=>Be.mono hxB (whole e)) (λpo co Z'2 a1 a2 a3=>hRB po co Z'2 a1 a2 (hxB.trans a3)) ss.length 0 ZD (by omega) (AfI _) (by simpa using hT4) (by simpa using ek)
end
section
variable {Z22:Hp}{p0:Option Addr}{n0 c0:Nat}{full t0:List Int}{R:Rr}{ss:List Sr}
theorem Qw (hb:I4 ss)(hr:Be .u8 Z22 p0 n0 full)(h8:Ft full)(hc:n0<=c0)(NL:EL ss=full++t0)(bad:full≠EL ss->∀Z'2,Ext Z22 Z'2->R (.T #[.N,.I 91]) Z'2)
  (hR:∀A co Z'2,BB 2 CW Z'2 A ss.length ss->ss.length<=co->Ext Z22 Z'2->R (.T #[.slice A ss.length co,.I 0]) Z'2):Spec prog 30 #[.slice p0 n0 c0] Z22 R:=by
 refine QL.start λb1 h1 b4 h4=>aW GG.en ?_;have x1:Ext Z22 (Z22.set b1 (.cells #[.slice p0 n0 c0] 79 (0,0))):=Ext.set h1;have ne:b1≠b4:=λe=>by rw[<-e,Hp.AA]at h4;cases h4
 have g1:((Z22.set b1 (.cells #[.slice p0 n0 c0] 79 (0,0))).set b4 (.cells #[.N] 44 (0,0))) b1=some (.cells #[.slice p0 n0 c0] 79 (0,0)):=by rw[Hp.AB ne,Hp.AA]
 refine GG.start ⟨p0,n0,c0,AD g1 rfl,?_⟩;refine Spec.UG h4 (jr hb (Be.mono x1 hr) h8 hc NL (λAR Z'2 hx G=>.inr ⟨rfl,_,rfl,λ_=>bad AR _ ((x1.trans hx).trans (Ext.set G)),λhh=>(by cases hh)⟩) λA co Z'2 JW hco hx G=>⟨A,_,co,rfl,?_⟩);refine AH.store (P:=prog) (c:=#[.N]) vN (Hp.AA _ _ _) rfl (by simp) Mp (.inl ⟨rfl,true,rfl,λhh=>(by cases hh),λ_=>⟨A,ss.length,co,AD (Hp.AA _ _ _) rfl,?_⟩⟩);rw[Hp.set_set];exact hR A co _ (JW.mono CW.mono (Ext.set G)) hco ((x1.trans hx).trans (Ext.set G))
end
end TwW
end
section
namespace TwW
open Go Tw
theorem Own.AF7 {s:Nat}{Z22 Z'2:Hp}{p:Option Addr}{n c:Nat}{cs:List Value}(A:Own s Z22 p n c cs)(h:∀a,p=some a->Z'2 a.block=Z22 a.block):Own s Z'2 p n c cs:=
 ⟨A.1,A.2.1,A.2.2.imp id λ⟨G,o',arr,T,hp,hb,r⟩=>⟨G,o',arr,T,hp,by rw[h _ hp];exact hb,r⟩⟩
theorem Hp.vU {Z22 Z'2:Hp}{p:Option Addr}(hx:Ext Z22 (Z'2.del p)):∀a,p=some a->(Z22.new Z'2) a.block=Z'2 a.block:=λa G=>by
 subst G;cases A:Z22 a.block with
 | none=>simp only[Hp.new,A]
 | some u=>
  have:=hx _ _ A;simp[Hp.del]at this
theorem Aa.Qy {α:Type}{s:Nat}{E:Hp->List Value->α->Prop}{Z0 Z22:Hp}{p:Option Addr}{n c:Nat}{xs:List α}(hE:∀Z22 Z'2 vs x,E Z22 vs x->E Z'2 vs x)(h:Aa s E Z0 Z22 p n c xs):BB s E (Z0.new Z22) p n xs:=by
 obtain⟨⟨G,cs,h2,A⟩,h4⟩:=h;exact⟨G,cs,(Own.AF7 h2 (Hp.vU h4)).rd,A.1,λi x hi=>hE _ _ _ _ (A.2 i x hi)⟩
end TwW
end
section
namespace TwW
open Go Tw Go.RowKit Go.Proofs.Tryz
def CZ (a z:Int)(ps:List Pt):List Pt:=ps.filter λx=>decide (a<=x.1/\x.1<=z)
def CD (a z:Int)(ss:List Sr):List Sr:=(ss.map λs=>Sr.mk s.ls (CZ a z s.ps)).filter λs=>decide (s.ps≠[])
section
variable {Z22:Hp}{R:Rr}
theorem VW {p q:Option Addr}{n c d:Nat}(h:∀Z'2,Ext Z22 Z'2->R (.B true) Z'2):Spec prog 115 #[.slice p 0 d,.slice q n c] Z22 R:=
 Pc.start (SZ.start λb hb=>⟨_,_,_,rfl,Pc.AY ⟨λA=>absurd A (by decide),λ_=>h _ (Ext.set hb)⟩⟩)
theorem ad {p0 p1:Option Addr}{n0 c0 c1:Nat}{lo hi:Int}{ss:List Sr}(hb:I4 ss)(hr:Be .u8 Z22 p0 n0 (EL ss))(h8:Ft (EL ss))(hc:n0<=c0)
  (h:∀p' n' c' Z'2,BB 2 CW Z'2 p' n' (CD lo hi ss)->n'<=ss.length->n'<=c'->Ext Z22 Z'2->R (.T #[.slice p' n' c',.I 0]) Z'2):Spec prog 53 #[.slice p0 n0 c0,.slice p1 0 c1,.I lo,.I hi] Z22 R:=by
 have Xo:=hb.n;refine BL.start (Qw hb hr h8 hc (t0:=[]) (by rw[AfG]) (λAR=>absurd rfl AR) λp c Zd xZ hco hxd=>⟨p,_,c,0,rfl,λA=>absurd rfl A,λ_=>?_⟩);have hn:ss.length=ss.length:=rfl;generalize hnn:ss.length=n at xZ Xo h
 suffices H:∀(g i:Nat) (O2:Hp) (p9:Option Addr) (n9 c9:Nat),n-i=g->i<=n->n9<=i->Aa 2 CW Zd O2 p9 n9 c9 (CD lo hi (ss.take i))->BL.H8 R p1 0 c1 lo hi p9 n9 c9 p n c (n:Int) (i:Int) O2 from H n 0 Zd none 0 0 rfl (AfI _) (Ae1 _) (Aa.nil (.refl _))
 intro g
 induction g with
 | zero=>
  intro i O2 p9 n9 c9 hg hib h9 ho;rw[Ae7 (by have:=xZ.1;omega)]at ho;exact BL.G0 ⟨λA=>by omega,λ_=>h p9 n9 c9 O2 (ho.rd CW.mono) (by omega) (by obtain⟨cs,WD,_⟩:=ho.1.2;exact Own.cap WD) (hxd.trans ho.up)⟩
 | succ g ih=>
  intro i O2 p9 n9 c9 hg hib h9 ho;have IN:i<n:=by omega
  obtain⟨s,hs⟩:=xZ.ex IN;obtain⟨b,o,p1',n1,oz,q1,G,d1,rfl,Dt,h1,h2,h3⟩:=CW.at xZ hs;have hm:=(hb.ps s (Ae2 hs)).2.n;have eA:s.ps.length=G:=h2.1;have step:CD lo hi (ss.take (i+1))=CD lo hi (ss.take i)++[Sr.mk s.ls (CZ lo hi s.ps)].filter λs=>decide (s.ps≠[]):=by
   unfold CD;rw[AL hs,AfF,AgL];rfl
  have next:∀(ρ:Hp) (p':Option Addr) (n' c':Nat),n'<=i+1->Aa 2 CW Zd ρ p' n' c' (CD lo hi (ss.take (i+1)))->BL.tA R p1 0 c1 lo hi p' n' c' (aD b o) n c (n:Int) (i:Int) ρ:=λρ p' n' c' h' Cq=>by
   have:=ih (i+1) ρ p' n' c' (by omega) (by omega) h' Cq;rw[show((i+1:Nat):Int)=(i:Int)+1 by omega]at this;exact BL.zM ⟨by unfold AK;omega,this⟩
  have CA:=ho.up;refine BL.G0 ⟨λ_=>⟨b,o,rfl,by unfold In;omega,p1',n1,oz,q1,G,d1,by simpa using Dt.mono CA,λIp=>VW λO22 x2=>⟨true,rfl,λA=>(by cases A),λ_=>?_⟩⟩,λA=>by omega⟩;have By:=ho.mono CW.mono x2;have ATV:=CA.trans x2
  suffices loop:∀(g k:Nat) (ρ:Hp) (pp q2:Option Addr) (kk cc:Nat),q2=q1->G-k=g->k<=G->kk<=k->Aa 2 Bp O22 ρ pp kk cc (CZ lo hi (s.ps.take k))->BL.GA R p1 0 c1 lo hi p9 n9 c9 p1' n1 oz q1 G d1 pp kk cc (aD b o) n c (n:Int) (i:Int) q2 G d1 (G:Int) (k:Int) ρ from loop G 0 O22 none q1 0 0 rfl rfl (AfI _) (Ae1 _) (Aa.nil (.refl _))
  intro g
  induction g with
  | zero=>
   intro k ρ pp q2 kk cc e2 hgk hk hkk Ii;rw[Ae7 (by omega)]at Ii;have hlen:(CZ lo hi s.ps).length=kk:=Ii.1.1;refine BL.FP ⟨λA=>by omega,λ_=>⟨λGb=>λb67 h67=>?_,λhz=>?_⟩⟩
   .have AR:CZ lo hi s.ps≠[]:=λe=>by rw[e]at hlen;have:0=kk:=hlen;omega
    have DG:=By.mono CW.mono Ii.up;have eN:=By.new Ii.up;have U8:kk<=cc:=by obtain⟨cs,WD,_⟩:=Ii.1.2;exact Own.cap WD
    have rl:I1 (ρ.del p9) p1' n1 s.ls:=h1.mono Eh.mono DG.2;have rp:BB 2 Bp (ρ.del p9) pp kk (CZ lo hi s.ps):=(Aa.Qy (λ_ _ _ _ h=>h) Ii).mono Bp.mono eN;have he:CW (ρ.del p9) [.slice p1' n1 oz,.slice pp kk cc] ⟨s.ls,CZ lo hi s.ps⟩:=⟨p1',n1,oz,pp,kk,cc,rfl,rl,rp,U8⟩;refine Aa.G8 CW.mono DG rfl (CW.one _ _ _ he) he (by omega) (λp' c' ρ' Cq _=>⟨_,_,_,rfl,next ρ' p' (n9+1) c' (by omega) ?_⟩) h67;rw[step,AgX (by simpa using AR),AgU];exact Cq
   .have he:CZ lo hi s.ps=[]:=Ae6 (by omega);refine next ρ p9 n9 c9 (by omega) ?_
    rw[step,AgI (by simpa using he),AgU,AfG];exact By.mono CW.mono Ii.up
  | succ g ihp=>
   intro k ρ pp q2 kk cc e2 hgk hk hkk Ii;subst e2;have JO:k<G:=by omega
   obtain⟨x,hx⟩:=h2.ex JO;obtain⟨b2,o2,hq,Rl⟩:=Bp.at h2 hx;have ATY:=ATV.trans Ii.up;have nx:∀ρ' p' k' c',k'<=k+1->Aa 2 Bp O22 ρ' p' k' c' (CZ lo hi (s.ps.take (k+1)))->BL.oT R p1 0 c1 lo hi p9 n9 c9 p1' n1 oz q2 G d1 p' k' c' (aD b o) n c (n:Int) (i:Int) q2 G d1 (G:Int) (k:Int) ρ':=λρ' p' k' c' qx AF8=>by
    have:=ihp (k+1) ρ' p' q2 k' c' rfl (by omega) (by omega) qx AF8;rw[show((k+1:Nat):Int)=(k:Int)+1 by omega]at this;exact BL.zO ⟨by unfold AK;omega,this⟩
   have A9:¬(lo<=x.1/\x.1<=hi)->CZ lo hi (s.ps.take (k+1))=CZ lo hi (s.ps.take k):=λA=>by
    unfold CZ;rw[AL hx,AgL,AgI (by simpa using A),AgU,AfG]
   have AF9:(lo<=x.1/\x.1<=hi)->CZ lo hi (s.ps.take (k+1))=CZ lo hi (s.ps.take k)++[x]:=λA=>by
    unfold CZ;rw[AL hx,AgL,AgX (by simpa using A),AgU]
   have skip:¬(lo<=x.1/\x.1<=hi)->BL.oT R p1 0 c1 lo hi p9 n9 c9 p1' n1 oz q2 G d1 pp kk cc (aD b o) n c (n:Int) (i:Int) q2 G d1 (G:Int) (k:Int) ρ:=λA=>nx ρ pp kk cc (by omega) (by rw[A9 A];exact Ii);subst hq;refine BL.FP ⟨λ_=>⟨b2,o2,rfl,by unfold In;omega,x.1,x.2,by simpa using Rl.mono ATY,λ_=>⟨λa1=>⟨λa2=>λP4 h56=>?_,λa2=>skip λA=>a2 A.2⟩,λa1=>skip λA=>a1 A.1⟩⟩,λA=>by omega⟩;refine Aa.G8 (vs:=[.I x.1,.U x.2]) (x:=x) Bp.mono Ii rfl (Bp.one ρ _ x rfl) rfl (by omega) (λp' c' ρ' Cq _=>⟨_,_,_,rfl,nx ρ' p' (kk+1) c' (by omega) ?_⟩) h56;rw[AF9 ⟨a1,a2⟩];exact Cq
end
open Go.Lib (zigzag zigzag_lt zigzag_nonneg xor_ones64)
def R64 (z:Int):Prop:=-9223372036854775808<=z/\z<=9223372036854775807
section
variable {Z22:Hp}{R:Rr}
theorem pj {z:Int}(hz:R64 z)(hR:R (.returned (.U ((zigzag z:Nat):Int))) Z22):Spec prog 232 #[.I z] Z22 R:=by
 obtain⟨h0,h1⟩:=hz;refine Ut.start λx4 e4=>⟨by decide,λx5 e5=>⟨by decide,λx7 e7 x8 e8 x9 e9=>?_⟩⟩;have e:x9=((zigzag z:Nat):Int):=by
  rw[show(2:Int)^Int.toNat 1=2 from rfl,e4]at e5;rw[show(2:Int)^Int.toNat 63=9223372036854775808 from rfl]at e7;by_cases hn:0<=z
  .have G:x7=0:=by omega
   have A:x5=((zigzag z:Nat):Int):=by
    rw[e5,IntKind.wrap_u64,IntKind.wrap_u64,zigzag_nonneg hn];omega
   have a8:x8=((0:Nat):Int):=by rw[e8,G];decide
   rw[e9,A,a8,bits_xor_u64_nat _ _ (zigzag_lt h0 h1) (by decide),Nat.xor_zero]
  .have G:x7=-1:=by omega
   have a8:x8=((2^64-1:Nat):Int):=by rw[e8,G];decide
   have A:x5=(((2*z+18446744073709551616).toNat:Nat):Int):=by
    rw[e5,IntKind.wrap_u64,IntKind.wrap_u64];omega
   rw[e9,A,a8,bits_xor_u64_nat _ _ (by omega) (by decide),Nat.xor_comm,xor_ones64 _ (by omega)];unfold zigzag;rw[Aeu hn];omega
 rw[e];exact hR
theorem eo {p:Option Addr}{n c:Nat}{z:Int}{xs:List Int}(hr:Be .u8 Z22 p n xs)(hn:n<=70368744177664)(G:R64 z)
  (h:∀p' A c' Z'2,A2 .u8 (Z22.new Z'2) p' A c' (xs++uv (zigzag z))->Ext Z22 Z'2->R (.returned (.slice p' A c')) Z'2):Spec prog 176 #[.slice p n c,.I z] Z22 R:=
 Qa.start (pj G ⟨_,rfl,GM hr hn (zigzag_lt G.1 G.2) λp' A c' Z'2 ho hx=>⟨p',A,c',rfl,h p' A c' Z'2 ho hx⟩⟩)
end
theorem er (x:Lb):Ec x=EG x.1++EG x.2:=rfl
section
variable {Z22:Hp}{R:Rr}
end
open Go.Lib (zigzag zigzag_lt)
structure Hf where
 ls:List Lb
 t:Int
 v:Int
def HV (s:Hf):List Int:=Gc s.ls++uv (zigzag s.t)++uv s.v.toNat
structure eu (s:Hf):Prop where
 ls:BE s.ls
 t:R64 s.t
 v:0<=s.v/\s.v<18446744073709551616
theorem ey {ls:List Lb}(h:BE ls):(Gc ls).length<=8522:=by
 have A:=dn h.2;have G:=Ai (x:=ls.length) (by have:=h.1;omega);have h3:=h.1;unfold Gc;rw[Aet];omega
theorem VX {s:Hf}(h:eu s):(HV s).length<=8542:=by
 have A:=ey h.ls;have G:=Ai (zigzag_lt h.t.1 h.t.2);have h3:=Ai (x:=s.v.toNat) (by have:=h.v;omega);unfold HV;rw[Aet,Aet];omega
section
variable {Z22:Hp}{R:Rr}
theorem ez {p:Option Addr}{n c:Nat}{s:Hf}(hr:I1 Z22 p n s.ls)(A:eu s)(h:∀p' c' Z'2,A2 .u8 (Z22.new Z'2) p' (HV s).length c' (HV s)->Ext Z22 Z'2->R (.returned (.slice p' (HV s).length c')) Z'2):Spec prog 104 #[.agg #[.slice p n c,.I s.t,.U s.v]] Z22 R:=by
 have h1:=ey A.ls;have h2:=Ai (zigzag_lt A.t.1 A.t.2);have h3:=Ai (x:=s.v.toNat) (by have:=A.v;omega);refine LF.start λb1=>Ki hr A.ls λp1 n1 c1 Z12 QG Ct=>⟨p1,n1,c1,rfl,?_⟩;have l1:(Gc s.ls).length=n1:=(A2.rd QG).1;refine eo (Be.mono (Ext.Cp _ _) (A2.rd QG)) (by omega) A.t λp2 n2 c2 Z222 By G=>⟨p2,n2,c2,rfl,?_⟩;have l2:(Gc s.ls++uv (zigzag s.t)).length=n2:=(A2.rd By).1;rw[Aet]at l2;have e:s.v=((s.v.toNat:Nat):Int):=by have:=A.v;omega
 rw[e];refine GM (Be.mono (Ext.Cp _ _) (A2.rd By)) (by omega) (by have:=A.v;omega) λp3 n3 c3 Z3 DG Ev=>⟨p3,n3,c3,rfl,?_⟩;have l3:(Gc s.ls++uv (zigzag s.t)++uv s.v.toNat).length=n3:=(A2.rd DG).1;subst l3;exact h p3 c3 Z3 (Own.mono (Ext.Hq (Ct.trans G)) DG) ((Ct.trans G).trans Ev)
end
def pk (vs:List Value)(x:V3):Prop:=vs=[.slice x.1 x.2.1 x.2.2]
structure RcU (Z0 Z22:Hp)(p5:Option Addr)(n5 c5:Nat)(init:List (List Int))(last:List Int)(Ag:List V3)(pl:Option Addr)(cl:Nat):Prop where
 len:n5=init.length+1
 vl:Ag.length=init.length
 out:B6 1 (λ_=>pk) Z22 p5 n5 c5 (Ag++[(pl,last.length,cl)])
 lst:A2 .u8 Z22 pl last.length cl last
 ne:∀a b,p5=some a->pl=some b->a.block≠b.block
 rest:∀(i:Nat) (x:V3) b,Ag[i]?=some x->init[i]?=some b->Be .u8 ((Z22.del p5).del pl) x.1 x.2.1 b/\x.2.1<=x.2.2
 ext:Ext Z0 ((Z22.del p5).del pl)
section
variable {Z0 Z22:Hp}{p5 pl:Option Addr}{n5 c5 cl:Nat}{init:List (List Int)}{last:List Int}{Ag:List V3}{R:Rr}
theorem RcU.mono {Z'2:Hp}(h:RcU Z0 Z22 p5 n5 c5 init last Ag pl cl)(A:Ext Z22 Z'2):RcU Z0 Z'2 p5 n5 c5 init last Ag pl cl:=
 ⟨h.len,h.vl,h.out.mono (λ_ _ _ _ _ h=>h) A,Own.mono A h.lst,h.ne,λi x b hi hb=>⟨Be.mono ((A.del _).del _) (h.rest i x b hi hb).1,(h.rest i x b hi hb).2⟩,h.ext.trans ((A.del _).del _)⟩
theorem mZ {Z22:Hp}{p q:Option Addr}{k:Nat}{v:Obj}:(Z22.del p).del q k=some v↔(∀a,q=some a->k≠a.block)/\(∀a,p=some a->k≠a.block)/\Z22 k=some v:=by
 rw[AF,AF]
theorem RcU.ld (h:RcU Z0 Z22 p5 n5 c5 init last Ag pl cl):∃b o,p5=some ⟨b,o,none⟩/\Hp.ld Z22 ⟨b,o+init.length*1,none⟩=some (.slice pl last.length cl):=by
 have G:(Ag++[(pl,last.length,cl)])[init.length]?=some (pl,last.length,cl):=by rw[<-h.vl,AfJ (Ae1 _),AgB];rfl
 obtain⟨b,o,vs,hp,hv,A⟩:=BB.idx (h.out.rd (λ_ _ _ _ _ h=>h)) G;rw[show vs=[.slice pl last.length cl] from hv]at A;exact⟨b,o,hp,A.1⟩
theorem Ch.ATZ {Z22 Z'2:Hp}{cs:List Value}{x y:V3}(G:Ch 1 (λ_=>pk) Z22 cs (Ag++[x])):Ch 1 (λ_=>pk) Z'2 (cs.set Ag.length (.slice y.1 y.2.1 y.2.2)) (Ag++[y]):=by
 have hl:=G.1;rw[Aet,AfD,Afa]at hl;refine⟨by rw[Af2,Aet,AfD,Afa];exact hl,λk z A=>?_⟩;rw[Afa,List.drop_set];by_cases e:k<Ag.length
 .rw[Ae8 e]at A;have h1:=G.2 k z (by rw[Ae8 e];exact A);rw[Afa]at h1;rw[Aeu (by omega),AiB,AiU (by rw[AfE];omega)];exact h1
 .have hk:=(Ae0.1 A).1;rw[Aet,AfD]at hk;obtain rfl:k=Ag.length:=by omega
  rw[AfJ (Ae1 _),AgB]at A;cases A;rw[Aeu (by omega),AgB,AiB];have h2:=G.2 Ag.length x (by rw[AfJ (Ae1 _),AgB];rfl);rw[Afa]at h2;have h3:(cs.drop Ag.length).take 1=[.slice x.1 x.2.1 x.2.2]:=h2;rw[h3];rfl
theorem Xz {s0:ByteArray}{p8 JQ:Option Addr}{n8 c8 n10 IU:Nat}{Gp CR:Int}{b:List Int}(h:RcU Z0 Z22 p5 n5 c5 init last Ag pl cl)(hb:Be .u8 Z22 p8 n8 b)(hlen:last.length+n8<=1000000)(hx:-9223372036854775808<=CR/\CR<9223372036854775807)(We:n5<=1000000000000)
  (hR:∀Z'2 pl' cl',RcU Z0 Z'2 p5 n5 c5 init (last++b) Ag pl' cl'->Av.A3 R s0 p5 n5 c5 JQ n10 IU Gp (CR+1) Z'2):Av.TH R s0 p5 n5 c5 p8 n8 c8 JQ n10 IU Gp CR Z22:=by
 have TQ:b.length=n8:=hb.1;obtain⟨dD,gD,e5,Dt⟩:=h.ld;have c1:Int.toNat ((n5:Int)-1)=init.length:=by have:=h.len;omega
 have hn:=h.len;refine Av.Tg ⟨by unfold AK;omega,by unfold AK;omega,dD,gD,e5,by unfold In;omega,pl,last.length,cl,by rw[c1];exact Dt,?_⟩;subst TQ;refine CF (T:=79) h.lst (Kt.of_map hb) Ej.Gz (by omega) λp' c' Z12 QG Ct=>⟨p',_,c',rfl,by unfold In;omega,?_⟩;rw[<-AfF]at QG;have keep:∀k v,Z22 k=some v->(∀a,pl=some a->k≠a.block)->Z12 k=some v/\∀a,p'=some a->k≠a.block:=λk v hk AR=>by
  obtain⟨k1,k2⟩:=AF.1 (Ct k v (AF.2 ⟨AR,hk⟩));exact⟨k2,k1⟩
 obtain⟨hl5,cs,TV,hc⟩:=h.out;have k5:∀a,p5=some a->∃v,Z22 a.block=some v:=λa G=>by
  cases e:Z22 a.block with
  | none=>exact absurd e (TV.block a G)
  | some v=>exact⟨v,rfl⟩
 have ATa:Own 1 Z12 p5 n5 c5 cs:=Own.here TV λa G=>by
  obtain⟨v,hv⟩:=k5 a G;rw[(keep _ v hv λa' Xp=>h.ne a a' G Xp).1,hv]
 have ne':∀a a',p5=some a->p'=some a'->a.block≠a'.block:=λa a' G Xp=>by
  obtain⟨v,hv⟩:=k5 a G;exact(keep _ v hv λa' Xp=>h.ne a a' G Xp).2 a' Xp
 have e6:last.length+b.length=(last++b).length:=by rw[Aet]
 rw[e6]at QG ⊢;have carry:∀Z222:Hp,(∀i,(∀a,p5=some a->i≠a.block)->Z222 i=Z12 i)->Ext ((Z22.del p5).del pl) ((Z222.del p5).del p'):=λZ222 A k v hk=>by
  obtain⟨q1,q2,q3⟩:=mZ.1 hk;obtain⟨r1,r2⟩:=keep k v q3 q1;exact mZ.2 ⟨r2,q2,by rw[A k q2];exact r1⟩
 obtain⟨b2,o2,e52,jW⟩:=Own.AMH (T:=79) (k:=init.length) (v:=.slice p' (last++b).length c') (Ψ:=λy=>AK (CR+1)/\Av.A3 R s0 p5 n5 c5 JQ n10 IU Gp (CR+1) y) ATa (by omega) (λu hu=>by rw[Aev.1 hu];rfl) rfl jV λZ222 By A=>⟨by unfold AK;omega,hR Z222 p' c' ⟨hn,h.vl,⟨by rw[Aet,AfD,h.vl,hn],_,By,by rw[<-h.vl];exact Ch.ATZ (Z22:=Z22.del p5) (y:=(p',(last++b).length,c')) hc⟩,Own.here QG λa G=>A a.block λa' Xp e=>ne' a' a Xp G e.symm,ne',λi x b' hi Ll=>⟨Be.mono (carry Z222 A) (h.rest i x b' hi Ll).1,(h.rest i x b' hi Ll).2⟩,h.ext.trans (carry Z222 A)⟩⟩;rw[e5]at e52;cases e52;rw[c1,e5]at *;simpa using jW
end
def Ef (Z22:Hp)(vs:List Value)(s:Hf):Prop:=∃p n c,vs=[.slice p n c,.I s.t,.U s.v]/\I1 Z22 p n s.ls
theorem Ef.mono:Lq Ef:=λ_ _ _ _ G ⟨p,n,c,hv,A⟩=>⟨p,n,c,hv,A.mono Eh.mono G⟩
abbrev Pp:=Option (List (List Int)×List Int)
def Eg (tb b:List Int):Pp->Pp
 | none=>some ([],tb++b)
 | some (i,l)=>if 65536<l.length+b.length then some (i++[l],tb++b) else some (i,l++b)
def Lc:Pp->List (List Int)
 | none=>[]
 | some (i,l)=>i++[l]
def MN (tb:List Int)(ss:List Hf):Pp:=ss.foldl (λst s=>Eg tb (HV s) st) none
def pn (t:ByteArray)(ss:List Hf):List (List Int):=Lc (MN (EG t) ss)
def AGB:Pp->Prop
 | none=>True
 | some (_,l)=>l.length<=65536
theorem pw {tb b:List Int}{st:Pp}(h:AGB st)(hb:tb.length+b.length<=65536):AGB (Eg tb b st):=by
 cases st with
 | none=>show(tb++b).length<=_;rw[Aet];exact hb
 | some x=>
  obtain⟨i,l⟩:=x;unfold Eg;dsimp only;split
  .show(tb++b).length<=_;rw[Aet];exact hb
  .show(l++b).length<=_;rw[Aet];omega
section
variable {Z0 Z22:Hp}{R:Rr}
def gV (Z0 Z22:Hp)(p5:Option Addr)(n5 c5:Nat):Pp->Prop
 | none=>p5=none/\n5=0/\c5=0/\Ext Z0 Z22
 | some (i,l)=>∃Ag pl cl,RcU Z0 Z22 p5 n5 c5 i l Ag pl cl
theorem gV.mono {Z'2:Hp}{p5:Option Addr}{n5 c5:Nat}{st:Pp}(h:gV Z0 Z22 p5 n5 c5 st)(A:Ext Z22 Z'2):gV Z0 Z'2 p5 n5 c5 st:=by
 cases st with
 | none=>exact⟨h.1,h.2.1,h.2.2.1,h.2.2.2.trans A⟩
 | some x=>
  obtain⟨Ag,pl,cl,h⟩:=h;exact⟨Ag,pl,cl,h.mono A⟩
theorem gV.ext {p5:Option Addr}{n5 c5:Nat}{st:Pp}(h:gV Z0 Z22 p5 n5 c5 st):Ext Z0 Z22:=by
 cases st with
 | none=>exact h.2.2.2
 | some x=>
  obtain⟨Ag,pl,cl,h⟩:=h;exact h.ext.trans ((Ext.B5 _ _).trans (Ext.B5 _ _))
theorem vV {Z222:Hp}{p5 Mg:Option Addr}{n5 c5 NZ:Nat}{vals0:List V3}{tb:List Int}{G:Option Addr->Nat->Nat->Hp->Prop}(ho:B6 1 (λ_=>pk) Z22 p5 n5 c5 vals0)(hx:Ext Z22 Z222)(ht:A2 .u8 (Z22.new Z222) Mg tb.length NZ tb)(hn:n5<=1000000000000)
  (hG:∀p' c' Z3,B6 1 (λ_=>pk) Z3 p' (n5+1) c' (vals0++[(Mg,tb.length,NZ)])->A2 .u8 Z3 Mg tb.length NZ tb->(∀a b,p'=some a->Mg=some b->a.block≠b.block)->Ext (Z22.del p5) ((Z3.del p').del Mg)->Ext (Z222.del p5) Z3->G p' (n5+1) c' Z3) :
  Al Z222 λRF=>AH prog (Builtin.append_ #[72,72] 72 #[.slice p5 n5 c5,(.slice (aD RF 0) 1 1)]) (Hp.set Z222 RF (.cells #[.slice Mg tb.length NZ] 79 (0,0))) (CS G):=by
 intro RF h37;have Fv:=Own.Lr ht;have ht2:A2 .u8 Z222 Mg tb.length NZ tb:=Own.mono (Ext.Cp _ _) ht;have h0:Aa 1 (λ_=>pk) (Z222.del p5) Z222 p5 n5 c5 vals0:=⟨ho.mono (λ_ _ _ _ _ h=>h) hx,.refl _⟩;have b36:∀a,Mg=some a->∃v,Z222 a.block=some v:=λa A=>by
  cases e:Z222 a.block with
  | none=>exact absurd e (ht2.block a A)
  | some v=>exact⟨v,rfl⟩
 have b5:∀a,p5=some a->Z22 a.block≠none:=λa A=>ho.block a A;refine Aa.G8 (vs:=[.slice Mg tb.length NZ]) (x:=(Mg,tb.length,NZ)) (λ_ _ _ _ _ h=>h) h0 rfl (λu hu=>by rw[Aev.1 hu];rfl) rfl (by omega) (λp' c' Z3 Cq Ev=>⟨p',_,c',rfl,?_⟩) h37;have AMS:∀a,Mg=some a->∀v,Z222 a.block=some v->(Z3.del p') a.block=some v:=λa A v hv=>Ev _ _ (AF.2 ⟨λa' Xp e=>b5 a' Xp (by rw[<-e];exact Fv a A),hv⟩);refine hG p' c' Z3 Cq.1 (Own.here ht2 λa A=>?_) (λa b A hb e=>?_) (λk v hk=>?_) (Ev.trans (Ext.B5 _ _))
 .obtain⟨v,hv⟩:=b36 a A;rw[(AF.1 (AMS a A v hv)).2,hv]
 .obtain⟨v,hv⟩:=b36 b hb;exact(AF.1 (AMS b hb v hv)).1 a A e.symm
 .obtain⟨k1,k2⟩:=AF.1 hk;refine AF.2 ⟨λa A e=>?_,Ev _ _ (AF.2 ⟨k1,hx _ _ k2⟩)⟩;rw[e,Fv a A]at k2;cases k2
theorem AMT {Z222:Hp}{p5 Mg:Option Addr}{n5 c5 NZ:Nat}{st:Pp}{tb:List Int}{G:Option Addr->Nat->Nat->Hp->Prop}(h:gV Z0 Z22 p5 n5 c5 st)(hx:Ext Z22 Z222)(ht:A2 .u8 (Z22.new Z222) Mg tb.length NZ tb)(hn:n5<=1000000000000)
  (hG:∀p' c' A,gV Z0 A p' (n5+1) c' (some (Lc st,tb))->Ext (Z222.del p5) A->G p' (n5+1) c' A) :
  Al Z222 λRF=>AH prog (Builtin.append_ #[72,72] 72 #[.slice p5 n5 c5,(.slice (aD RF 0) 1 1)]) (Hp.set Z222 RF (.cells #[.slice Mg tb.length NZ] 79 (0,0))) (CS G):=by
 cases st with
 | none=>
  obtain⟨rfl,rfl,rfl,h0⟩:=h;exact vV (vals0:=[]) B6.nil hx ht hn λp' c' A a1 a2 a3 a4 a5=>hG p' c' A ⟨[],Mg,NZ,rfl,rfl,a1,a2,a3,λi x b hi=>by simp at hi,h0.trans a4⟩ a5
 | some y=>
  obtain⟨i,l⟩:=y;obtain⟨Ag,pl,cl,h⟩:=h;refine vV h.out hx ht hn λp' c' A a1 a2 a3 a4 a5=>hG p' c' A ⟨Ag++[(pl,l.length,cl)],Mg,NZ,?_,?_,a1,a2,a3,λk x b hi hb=>?_,h.ext.trans ((Ext.B5 _ _).trans a4)⟩ a5
  .show n5+1=(i++[l]).length+1
   rw[Aet,AfD,h.len]
  .show(Ag++[(pl,l.length,cl)]).length=(i++[l]).length
   rw[Aet,Aet,h.vl];rfl
  .have hb:(i++[l])[k]?=some b:=hb;by_cases Aq:k<Ag.length
   .rw[Ae8 Aq]at hi;rw[Ae8 (by have:=h.vl;omega)]at hb;obtain⟨q1,q2⟩:=h.rest k x b hi hb;exact⟨Be.mono ((Ext.B5 _ _).trans a4) q1,q2⟩
   .have hk:=(Ae0.1 hi).1;rw[Aet,AfD]at hk;obtain rfl:k=Ag.length:=by omega
    rw[AfJ (Ae1 _),AgB]at hi;rw[h.vl,AfJ (Ae1 _),AgB]at hb;cases hi;cases hb;refine⟨Be.mono a4 (A2.rd (Own.here h.lst λa ha=>?_)),Own.cap h.lst⟩;cases e:Z22 a.block with
    | none=>exact absurd e (h.lst.block a ha)
    | some v=>exact AF.2 ⟨λa' Xp e2=>h.ne a' a Xp ha e2.symm,e⟩
end
theorem VY (tb:List Int)(ss:List Hf)(s:Hf):MN tb (ss++[s])=Eg tb (HV s) (MN tb ss):=by unfold MN;rw[Agi];rfl
theorem js {tb b:List Int}{st:Pp}:(Lc (Eg tb b st)).length<=(Lc st).length+1:=by
 cases st with
 | none=>exact Ae1 _
 | some x=>
  obtain⟨i,l⟩:=x;unfold Eg;dsimp only;split
  .show(i++[l]++[tb++b]).length<=(i++[l]).length+1;rw[Aet (bs:=[tb++b])];simp
  .show(i++[l++b]).length<=(i++[l]).length+1;rw[Aet,Aet];simp
section
variable {Z0 Z22:Hp}{R:Rr}
theorem gV.len {p5:Option Addr}{n5 c5:Nat}{st:Pp}(h:gV Z0 Z22 p5 n5 c5 st):n5=(Lc st).length:=by
 cases st with
 | none=>exact h.2.1
 | some x=>
  obtain⟨i,l⟩:=x;obtain⟨Ag,pl,cl,h⟩:=h;show n5=(i++[l]).length
  rw[h.len,Aet,AfD]
theorem gV.del {p5:Option Addr}{n5 c5:Nat}{st:Pp}{A:Hp}(h:gV Z0 Z22 p5 n5 c5 st):Ext (Z22.new A) (A.del p5):=by
 cases st with
 | none=>obtain⟨rfl,-,-,-⟩:=h;exact Ext.Cp _ _
 | some x=>
  obtain⟨Ag,pl,cl,h⟩:=h;exact Ext.kf λa G=>h.out.block a G
theorem gV.rd {p5:Option Addr}{n5 c5:Nat}{st:Pp}(h:gV Z0 Z22 p5 n5 c5 st):BB 1 Xw Z22 p5 n5 (Lc st):=by
 cases st with
 | none=>obtain⟨rfl,rfl,rfl,-⟩:=h;exact BB.nil
 | some x=>
  obtain⟨i,l⟩:=x;obtain⟨Ag,pl,cl,h⟩:=h;obtain⟨hl,cs,TV,hc⟩:=h.out;have e:(i++[l]).length=(Ag++[(pl,l.length,cl)]).length:=by rw[Aet,Aet,h.vl];rfl
  refine⟨by show(i++[l]).length=n5;rw[e];exact hl,cs,TV.rd,by show cs.length=(i++[l]).length*1;rw[e];exact hc.1,λk b hb=>?_⟩;have hb:(i++[l])[k]?=some b:=hb;have hk:=(Ae0.1 hb).1;obtain⟨x,A⟩:∃x,(Ag++[(pl,l.length,cl)])[k]?=some x:=⟨_,Ae3 (by omega)⟩;have G:=hc.2 k x A;by_cases Aq:k<Ag.length
  .rw[Ae8 Aq]at A;rw[Ae8 (by have:=h.vl;omega)]at hb;obtain⟨q1,q2⟩:=h.rest k x b A hb;exact⟨_,_,_,G,q2,Be.mono ((Ext.B5 _ _).trans (Ext.B5 _ _)) q1⟩
  .rw[e,Aet,AfD]at hk;obtain rfl:k=Ag.length:=by omega
   rw[AfJ (Ae1 _),AgB]at A;rw[h.vl,AfJ (Ae1 _),AgB]at hb;cases A;cases hb;exact⟨_,_,_,G,Own.cap h.lst,A2.rd h.lst⟩
theorem Qz {t:ByteArray}{p:Option Addr}{n c:Nat}{ss:List Hf}(hr:BB 3 Ef Z22 p n ss)(hss:∀s∈ss,eu s)(ht:t.size<=256)(hn:n<=100000000000)
  (h:∀p' G c' Z'2,BB 1 Xw Z'2 p' G (pn t ss)->Ext Z22 Z'2->R (.returned (.slice p' G c')) Z'2):Spec prog 45 #[.string t,.slice p n c] Z22 R:=by
 have hl:ss.length=n:=hr.1;have htb:(EG t).length<=266:=by
  have:=Ai (x:=t.size) (by omega);unfold EG;rw[Aet,Bb];omega
 have le:∀k,AGB (MN (EG t) (ss.take k))/\(Lc (MN (EG t) (ss.take k))).length<=k:=λk=>by
  induction k with
  | zero=>exact⟨trivial,Ae1 _⟩
  | succ k ih=>
   cases e:ss[k]? with
   | none=>rw[Ae7 (by have:=Ag9.1 e;omega)];rw[Ae7 (Ag9.1 e)]at ih;exact⟨ih.1,by omega⟩
   | some s=>
    rw[AL e,VY];have h1:=VX (hss s (Ae2 e));have h2:=js (tb:=EG t) (b:=HV s) (st:=MN (EG t) (ss.take k));exact⟨pw ih.1 (by omega),by omega⟩
 suffices H:∀(d k:Nat) (ρ:Hp) (p5:Option Addr) (n5 c5:Nat),n-k=d->k<=n->gV Z22 ρ p5 n5 c5 (MN (EG t) (ss.take k))->Av.A3 R t p5 n5 c5 p n c (n:Int) (k:Int) ρ from Av.start (H n 0 Z22 none 0 0 rfl (AfI _) ⟨rfl,rfl,rfl,.refl _⟩)
 intro d
 induction d with
 | zero=>
  intro k ρ p5 n5 c5 hd hk Ei;rw[Ae7 (by omega)]at Ei;exact Av.AY ⟨λhh=>by omega,λ_=>h p5 n5 c5 ρ Ei.rd Ei.ext⟩
 | succ d ih=>
  intro k ρ p5 n5 c5 hd hk Ei;obtain⟨s,hs⟩:=hr.ex (show k<n by omega);have A4:=hss s (Ae2 hs);have qt:=VX A4;obtain⟨b,o,vs,rfl,⟨q,m,dd,rfl,I2⟩,Dt⟩:=BB.idx hr hs;have hx:=Ei.ext;have A:=Ei.len;obtain⟨le1,le2⟩:=le k;have nx:∀(ρ':Hp) (p':Option Addr) (G c':Nat),gV Z22 ρ' p' G c' (Eg (EG t) (HV s) (MN (EG t) (ss.take k)))->Av.A3 R t p' G c' (aD b o) n c (n:Int) ((k:Int)+1) ρ':=λρ' p' G c' h'=>by
   rw[<-VY,<-AL hs] at h';have:=ih (k+1) ρ' p' G c' (by omega) (by omega) h';rw[show((k+1:Nat):Int)=(k:Int)+1 by omega]at this;exact this
  refine Av.AY ⟨λ_=>⟨b,o,rfl,by unfold In;omega,q,m,dd,s.t,s.v,by simpa using Dt.mono hx,λb7=>ez (I2.mono Eh.mono hx) A4 λp8 c8 ρ1 QG Ct=>⟨p8,_,c8,rfl,?_⟩⟩,λhh=>by omega⟩;have Ru:Be .u8 (ρ1.del p5) p8 (HV s).length (HV s):=Be.mono Ei.del (A2.rd QG);have AAu:=Ei.mono Ct;have fresh:(∀p' G c' ρ',gV Z22 ρ' p' G c' (some (Lc (MN (EG t) (ss.take k)),EG t++HV s))->Av.A3 R t p' G c' (aD b o) n c (n:Int) ((k:Int)+1) ρ')->Spec prog 105 #[.N,.string t] ρ1 (BI R (CS λMg n36 NZ AG=>Al AG λRF=>AH prog (Builtin.append_ #[72,72] 72 #[.slice p5 n5 c5,(.slice (aD RF 0) 1 1)]) (Hp.set AG RF (.cells #[.slice Mg n36 NZ] 79 (0,0))) (CS λgC n38 bA AQ=>Av.TH R t gC n38 bA p8 (HV s).length c8 (aD b o) n c (n:Int) (k:Int) AQ))):=λhg=>by
   refine Kh (xs:=[]) (BB.nil) (by decide) (by omega) λMg n36 NZ ρ2 By BD=>⟨Mg,n36,NZ,rfl,?_⟩;have e36:(EG t).length=n36:=(A2.rd By).1;subst e36;refine AMT AAu BD By (by omega) λp' c' ρ3 ATd Ev=>?_;obtain⟨Ag,pl,cl,hU⟩:=ATd;refine Xz hU (Be.mono ((BD.del p5).trans Ev) Ru) (by omega) (by omega) (by omega) λρ4 pl' cl' hU4=>hg _ _ _ _ ⟨Ag,pl',cl',hU4⟩
  cases AMU:MN (EG t) (ss.take k) with
  | none=>
   rw[AMU]at fresh nx AAu A;have e5:n5=0:=A;exact⟨λ_=>fresh λp' G c' ρ' h'=>nx ρ' p' G c' h',λhh=>absurd (by omega) hh⟩
  | some x=>
   obtain⟨i,l⟩:=x;rw[AMU]at fresh nx AAu A le1 le2;have e5:n5=(i++[l]).length:=A;have le2:(i++[l]).length<=k:=le2;rw[Aet,AfD]at e5 le2;have le1:l.length<=65536:=le1;obtain⟨Ag,pl,cl,hU⟩:=AAu;obtain⟨HP,P1,uU,AMV⟩:=hU.ld;have c1:Int.toNat ((n5:Int)-1)=i.length:=by omega
   have e27:aD HP P1=p5:=uU.symm;refine⟨λhh=>by omega,λ_=>⟨by unfold AK;omega,HP,P1,uU,by unfold In;omega,pl,l.length,cl,by rw[c1];exact AMV,by unfold AK;omega,λEW=>?_,λKJ=>?_⟩⟩
   .rw[e27];refine fresh λp' G c' ρ' h'=>nx ρ' p' G c' ?_;have:Eg (EG t) (HV s) (some (i,l))=some (i++[l],EG t++HV s):=by unfold Eg;dsimp only;rw[Aex (by omega)]
    rw[this];exact h'
   .rw[e27];refine Xz hU (Be.mono (Ext.B5 _ _) Ru) (by omega) (by omega) (by omega) λρ4 pl' cl' hU4=>nx _ _ _ _ ?_;have:Eg (EG t) (HV s) (some (i,l))=some (i,l++HV s):=by unfold Eg;dsimp only;rw[Aeu (by omega)]
    rw[this];exact⟨Ag,pl',cl',hU4⟩
end
end TwW
end
section
namespace TwW
open Go Go.MapKept Tw Go.RowKit Go.Proofs.Tryz
abbrev Ld (x:Lb):Value:=.agg #[.string x.1,.string x.2]
theorem AAv (e:Bool)(n:Nat)(x:Lb)(w:World):(Instr.checkKey e (n+2) 95 (Ld x)).run prog w=.ok () w:=by
 cases e<;>kernel_rfl
theorem ae (x:Lb)(w:World):(part 9 #[.string x.1,.string x.2] 0).run prog w=.ok (.string x.1) w/\(part 9 #[.string x.1,.string x.2] 1).run prog w=.ok (.string x.2) w:=⟨by kernel_rfl,by kernel_rfl⟩
noncomputable def jt:Array Field:=prog.fieldsOf 95
theorem AMW : ∃ f g,jt.toList = [f,g] ∧ f.name ≠ "_" ∧ f.offset = 0 ∧ f.type = 9 ∧ g.name ≠ "_" ∧ g.offset = 1 ∧ g.type = 9 := by
 have h0 : jt[0]?.isSome = true := by kernel_rfl
 have h1 : jt[1]?.isSome = true := by kernel_rfl
 have hs : jt.size = 2 := by kernel_rfl
 refine ⟨jt[0]?.get h0,jt[1]?.get h1,?_,?_,by kernel_rfl,by kernel_rfl,?_,by kernel_rfl,by kernel_rfl⟩
 · refine Afo λi => ?_
   rw [Afc]
   match i with
   | 0 => simp
   | 1 => simp
   | i + 2 => rw [Ahb (by omega)]; simp
 · exact ne_of_beq_false (by kernel_rfl)
 · exact ne_of_beq_false (by kernel_rfl)
theorem AGC (x y:Lb)(w:World):(Op.equal 95 (Ld x) (Ld y)).run prog w=.ok (decide (x=y)) w:=by
 obtain⟨f,g,hf,f1,f2,f3,g1,g2,g3⟩:=AMW;have hu:prog.underlying 95=some (.struct (prog.fieldsOf 95)):=by kernel_rfl
 have Ei:prog.stoodInHeld 95=false:=by kernel_rfl
 have hm:Op.maxDepth=9998+2:=rfl;unfold Op.equal;rw[hm,run_equalIn_struct w (9998+1) 95 _ _ hu Ei];show(Op.eqFields (9998+1) _ _ jt.toList).run prog w=_
 rw[hf];have e1:=run_equalIn_string (P:=prog) w 9998 9 x.1 y.1 underlying9;have e2:=run_equalIn_string (P:=prog) w 9998 9 x.2 y.2 underlying9;simp only[Op.eqFields,f1,f2,f3,g1,g2,g3,ne_eq,not_false_eq_true,AhY,Sem.run_bind,(ae x w).1,(ae y w).1,Result.andThen_ok,e1];have no:∀{a b:ByteArray},a≠b->(ByteArray.toList a==ByteArray.toList b)=false:=fun {a b} uN=>by
  rw[ByteArray.toList_eq,ByteArray.toList_eq];exact Ag1.2 λh=>uN (Agx (AfM.1 h))
 by_cases A:x.1=y.1
 .have hb:(ByteArray.toList x.1==ByteArray.toList y.1)=true:=by rw[A,GV]
  rw[hb];simp only[Bool.not_true,AgV,AgO,Sem.run_bind,(ae x w).2,(ae y w).2,Result.andThen_ok,e2];by_cases G:x.2=y.2
  .have KL:(ByteArray.toList x.2==ByteArray.toList y.2)=true:=by rw[G,GV]
   rw[KL];have e:x=y:=Prod.ext A G;simp[e]
  .rw[no G];have e:x≠y:=λe=>G (by rw[e]);simp[e]
 .rw[no A];have e:x≠y:=λe=>A (by rw[e]);simp[e]
theorem ask_cases (s:Lb):∀(l:List MapEntry) (i:Nat),(∀x∈l,∃y,x.key=Ld y)->
  ((∀w,(Instr.findAsking 95 (Ld s) l i).run prog w=.ok none w)/\∀x∈l,x.key≠Ld s)\/∃l1 e l2,l=l1++e::l2/\e.key=Ld s/\∀w,(Instr.findAsking 95 (Ld s) l i).run prog w=.ok (some (i+l1.length,e.val)) w:=by
 intro l
 induction l with
 | nil=>exact λi _=>.inl ⟨λw=>rfl,λx G=>by simp at G⟩
 | cons e l ih=>
  intro i hk;obtain⟨y,hy⟩:=hk e (AfB ..);by_cases hs:s=y
  .subst hs;refine .inr ⟨[],e,l,rfl,hy,λw=>?_⟩;simp[Instr.findAsking,hy,AGC,Result.andThen]
  .have AR:Ld y≠Ld s:=λh=>hs (by
    simp only[Ld,Value.agg.injEq]at h;have A:=Ae4 Array.toList h;simp only[Agt,Value.string.injEq,and_true]at A;exact(Prod.ext A.1 A.2).symm)
   rcases ih (i+1) λx G=>hk x (Aey _ G) with ⟨A,h2⟩|⟨l1,e',l2,A,h2,h3⟩
   .refine .inl ⟨λw=>?_,λx G=>?_⟩
    .simp[Instr.findAsking,hy,AGC,hs,Result.andThen,A]
    .rcases Ae5.1 G with rfl|G
     .rw[hy];exact AR
     .exact h2 x G
   .refine .inr ⟨e::l1,e',l2,by rw[A];rfl,h2,λw=>?_⟩;simp[Instr.findAsking,hy,AGC,hs,Result.andThen,h3];omega
theorem fA (w:World)(x:Value)(es:List MapEntry):(Instr.findKey 95 x es).run prog w=(Instr.findAsking 95 x es).run prog w:=run_findKey_eq w (by kernel_rfl) x es
theorem MO {s:Lb}{l:List MapEntry}(hk:∀x∈l,∃y,x.key=Ld y):
  ((∀w,(Instr.findKey 95 (Ld s) l).run prog w=.ok none w)/\∀x∈l,x.key≠Ld s)\/∃A e l2,l=A++e::l2/\e.key=Ld s/\∀w,(Instr.findKey 95 (Ld s) l).run prog w=.ok (some (A.length,e.val)) w:=by
 rcases ask_cases s l 0 hk with ⟨G,h2⟩|⟨A,e,l2,G,h2,h3⟩
 .exact .inl ⟨λw=>by rw[fA,G],h2⟩
 .exact .inr ⟨A,e,l2,G,h2,λw=>by rw[fA,h3,AfW]⟩
end TwW
end
section
namespace TwW
open Go Go.MapKept Tw Go.RowKit Go.Proofs.Tryz
def NN (Z22:Hp)(b:Nat)(l:List MapEntry)(clock:Nat):Prop:=Z22 b=some (.map l.toArray clock)/\Stamped l.toArray clock/\∀x∈l,∃y,x.key=Ld y
theorem NN.mono {Z22 Z'2:Hp}{b:Nat}{l:List MapEntry}{clock:Nat}(h:NN Z22 b l clock)(A:Ext Z22 Z'2):NN Z'2 b l clock:=⟨A _ _ h.1,h.2⟩
theorem NN.loc {Z22 Z'2:Hp}{b:Nat}{l:List MapEntry}{clock:Nat}(h:NN Z22 b l clock)(A:Z'2 b=Z22 b):NN Z'2 b l clock:=⟨A.trans h.1,h.2⟩
theorem Rz:prog.underlying 171=some (.map 95 194):=by kernel_rfl
abbrev Wf (s:Lb)(v:Value)(n:Nat):MapEntry:={ key:=Ld s,val:=v,born:=n }
theorem Hw (e:Bool)(x:Lb)(w:World):(Instr.checkKey e 10000 95 (Ld x)).run prog w=.ok () w:=AAv e 9998 x w
theorem vW (x:Lb)(w:World):(Instr.keyThatStays (Ld x) (Ld x)).run prog w=.ok (Ld x) w:=by
 have e:Instr.sameBits 10000 (Ld x) (Ld x)=true:=by
  show Instr.sameBits (9999+1) (Ld x) (Ld x)=true
  unfold Instr.sameBits;simp[Instr.sameBits];exact⟨by rw[beq_toListBytes];exact GV _,by rw[beq_toListBytes];exact GV _⟩
 unfold Instr.keyThatStays;rw[e];simp
section
variable {Z22:Hp}{b clock:Nat}{l:List MapEntry}{s:Lb}{ty:TypeId}
theorem I6 (G:NN Z22 b l clock){Φ:Value->Hp->Prop}
  (h0:(∀x∈l,x.key≠Ld s)->Φ (.map none) Z22) (h1:∀l1 e l2,l=l1++e::l2->e.key=Ld s->Φ e.val Z22):AH prog (Instr.lookup 171 (.map (some b)) (Ld s) false) Z22 Φ:=by
 have hz:∀w,(zeroValue 194).run prog w=.ok (.map none) w:=λw=>by kernel_rfl
 rcases MO (s:=s) G.2.2 with ⟨A,hn⟩|⟨l1,e,l2,hl,he,A⟩
 .refine AH.pu (λw hs=>?_) (h0 hn);have:=hs _ _ G.1;simp[Instr.lookup,run_underlying Rz,run_getObj_map this,Hw,A,hz,Result.andThen]
 .refine AH.pu (λw hs=>?_) (h1 l1 e l2 hl he);have:=hs _ _ G.1;simp[Instr.lookup,run_underlying Rz,run_getObj_map this,Hw,A,Result.andThen]
theorem fB (hm:NN Z22 b l clock){v:Value}{Φ:Unit->Hp->Prop}
  (h0:(∀x∈l,x.key≠Ld s)->∀Z'2,Z'2=Z22.set b (.map (l++[Wf s v clock]).toArray (clock+1))->NN Z'2 b (l++[Wf s v clock]) (clock+1)->Φ () Z'2)
  (h1:∀A e l2,l=A++e::l2->e.key=Ld s->∀Z'2,Z'2=Z22.set b (.map (A++Wf s v e.born::l2).toArray clock)->NN Z'2 b (A++Wf s v e.born::l2) clock->Φ () Z'2) :
  AH prog (Instr.mapUpdate 171 (.map (some b)) (Ld s) v) Z22 Φ:=by
 obtain⟨hb,Ei,hk⟩:=hm;rcases MO (s:=s) hk with ⟨hf,hn⟩|⟨A,e,l2,hl,he,hf⟩
 .have MD:(l++[Wf s v clock]).toArray=l.toArray.push (Wf s v clock):=by simp
  refine AH.obj (v:=()) (o':=.map (l++[Wf s v clock]).toArray (clock+1)) hb (λw hs=>⟨w,.inl rfl,?_⟩) (h0 hn _ rfl ⟨Hp.AA _ _ _,?_,?_⟩)
  .have:=hs _ _ hb;rw[MD];simp only[Instr.mapUpdate,Sem.run_bind,run_underlying Rz,run_getObj_map this,Hw,hf,Result.andThen_ok];simp[setObj,Sem.run,this,ChangeMaps.setBlock]
  .rw[MD];exact stamped_push Ei (by simpa using hn)
  .intro x G;rcases Ae9.1 G with G|G
   .exact hk x G
   .rw[Aev]at G;subst G;exact⟨s,rfl⟩
 .subst hl;have IL:(A++Wf s v e.born::l2).toArray=(A++e::l2).toArray.modify A.length (λe=>{ e with key:=Ld s,val:=v }):=by
   rw[<-AfM];apply Afo
   intro j;simp only[Afc,Af5,AgQ];by_cases hj:A.length=j
   .subst hj;simp
   .rw[Aeu hj];rcases Afp j A.length with h|h
    .rw[Ae8 h,Ae8 h]
    .have:∃k,j=A.length+(k+1):=⟨j-A.length-1,by omega⟩;obtain⟨k,rfl⟩:=this;simp[AfJ]
  have Ib:(A++e::l2).toArray[A.length]?=some e:=by simp
  refine AH.obj (v:=()) (o':=.map (A++Wf s v e.born::l2).toArray clock) hb (λw hs=>⟨w,.inl rfl,?_⟩) (h1 A e l2 rfl he _ rfl ⟨Hp.AA _ _ _,?_,?_⟩)
  .have:=hs _ _ hb;rw[IL];simp only[Instr.mapUpdate,Sem.run_bind,run_underlying Rz,run_getObj_map this,Hw,hf,Result.andThen_ok,Ib,Afv,AhQ,he,vW];simp[setObj,Sem.run,this,ChangeMaps.setBlock]
  .rw[IL];exact stamped_modify Ei _ _ (λ_ _=>rfl) (λe' _ oe=>by rw[Ib]at oe;cases oe;exact he.symm)
  .intro x G;rcases Ae9.1 G with G|G
   .exact hk x (Afk _ G)
   .rcases Ae5.1 G with rfl|G
    .exact⟨s,rfl⟩
    .exact hk x (Afs _ (Aey _ G))
theorem fC (hm:NN Z22 b l clock){Φ:Value->Hp->Prop}
  (h0:(∀x∈l,x.key≠Ld s)->∀Z'2,Z'2=Z22.set b (.map l.toArray clock)->NN Z'2 b l clock->Φ (.tuple #[]) Z'2)
  (h1:∀G e l2,l=G++e::l2->e.key=Ld s->∀Z'2,Z'2=Z22.set b (.map (G++l2).toArray clock)->NN Z'2 b (G++l2) clock->Φ (.tuple #[]) Z'2) {A:Array TypeId} (hA:A[0]?=some 171) :
  AH prog (Builtin.delete_ A ty #[.map (some b),Ld s]) Z22 Φ:=by
 obtain⟨hb,Ei,hk⟩:=hm;rcases MO (s:=s) hk with ⟨hf,hn⟩|⟨G,e,l2,hl,he,hf⟩
 .refine AH.obj (v:=.tuple #[]) (o':=.map l.toArray clock) hb (λw hs=>⟨w,.inl rfl,?_⟩) (h0 hn _ rfl ⟨Hp.AA _ _ _,Ei,hk⟩);have:=hs _ _ hb;simp[Builtin.delete_,hA,run_underlying Rz,run_getObj_map this,Hw,hf,Result.andThen,setObj,Sem.run,this,ChangeMaps.setBlock]
 .subst hl;have IL:(G++l2).toArray=(G++e::l2).toArray.eraseIdxIfInBounds G.length:=by
   rw[<-AfM];simp[Array.eraseIdxIfInBounds,Agm]
  refine AH.obj (v:=.tuple #[]) (o':=.map (G++l2).toArray clock) hb (λw hs=>⟨w,.inl rfl,?_⟩) (h1 G e l2 rfl he _ rfl ⟨Hp.AA _ _ _,?_,?_⟩)
  .have:=hs _ _ hb;rw[IL];simp only[Builtin.delete_,hA,AgQ,Af0,Afd,Sem.run_bind,run_underlying Rz,run_getObj_map this,Hw,hf,Result.andThen_ok];simp[setObj,Sem.run,this,ChangeMaps.setBlock,Result.andThen]
  .rw[IL];exact stamped_erase Ei _
  .intro x hx;rcases Ae9.1 hx with hx|hx
   .exact hk x (Afk _ hx)
   .exact hk x (Afs _ (Aey _ hx))
end
end TwW
end
section
namespace TwW
open Go Tw Go.RowKit Go.Proofs.Tryz
def tS:ByteArray:=ByteArray.mk #[116]
section
variable {Z22:Hp}{R:Rr}
theorem S7 (h:R (.B true) Z22):Spec prog 42 #[.string tS] Z22 R:=by
 have e0:(ByteArray.toList tS==ByteArray.toList (ByteArray.mk #[]))=false:=by
  rw[ByteArray.toList_eq,ByteArray.toList_eq];rfl
 have G:(tS.size:Int)=1:=rfl;refine G3.start ?_;rw[e0,G];refine⟨λA=>(by cases A),λ_=>⟨λA=>by omega,λ_=>G3.Bg ?_⟩⟩;rw[G];refine⟨λ_=>⟨116,by decide,rfl,?_⟩,λA=>by omega⟩;have e2:(((116:UInt8).toNat:Nat):Int)=116:=rfl;rw[e2];refine⟨λA=>by omega,λ_=>⟨λA=>by omega,λ_=>⟨by unfold AK;omega,G3.Bg ?_⟩⟩⟩;rw[G];exact⟨λA=>by omega,λ_=>h⟩
theorem VZ {t:Int}(ht:-4611686018427387904<=t/\t<=4611686018427387904)(h:R (.returned (.I (t/7200*7200))) Z22):Spec prog 56 #[.I t] Z22 R:=by
 refine GF.start ⟨by decide,λx5 e5=>⟨by decide,λx7 e7=>?_⟩⟩;have A:Int.tdiv t 7200=if 0<=t then t/7200 else -((-t)/7200):=by
  split
  .rename_i G;exact AiC G
  .rename_i G;have:Int.tdiv (-t) 7200=(-t)/7200:=AiC (by omega);rw[Int.neg_tdiv]at this;omega
 have hm:Int.tmod t 7200=t-7200*Int.tdiv t 7200:=by have:=Int.tmod_add_mul_tdiv t 7200;omega
 have e5':x5=Int.tdiv t 7200:=by
  rw[e5,IntKind.wrap_i64];split at A<;>omega
 rw[hm]at e7;refine⟨λAbm=>⟨?_,GF.DB ?_⟩,λGb=>GF.DB ?_⟩
 .unfold AK;split at A<;>omega
 .have e:x5-1=t/7200:=by split at A<;>omega
  rw[e];exact⟨by unfold AK;omega,h⟩
 .have e:x5=t/7200:=by split at A<;>omega
  rw[e];exact⟨by unfold AK;omega,h⟩
end
def DW (u:Nat):List UInt8:=List.replicate (10-(Lib.decDigits u).length) 48++Lib.decDigits u
theorem My {u:Nat}(h:u<100000000):(DW u).length=10:=by
 have:=Tr h;simp[DW];omega
theorem px (u:Nat):(DW u).all DV=true:=by
 rw[DW,Agb,(Tq u).1,Ahi];rw[Afu];intro x A;rw[AiS A];rfl
def BX (t:ByteArray)(u:Nat):ByteArray:=(((ByteArray.mk #[98,47])++t)++(ByteArray.mk #[47]))++⟨(DW u).toArray⟩
section
variable {Z22:Hp}{R:Rr}
theorem ju {u:Nat}(hu:u<100000000)(G:Tb Z22)(h:∀Z'2,Ext Z22 Z'2->R (.returned (.string ⟨(DW u).toArray⟩)) Z'2):Spec prog 114 #[.U u,.I 10] Z22 R:=by
 have hl:=Tr hu;refine Pb.start (Xy (by omega) G λZ'2 hx=>⟨_,rfl,L9.start ⟨?_,?_⟩⟩)
 .have:(ByteArray.size ⟨(Lib.decDigits u).toArray⟩)=(Lib.decDigits u).length:=by simp[ByteArray.size]
  rw[this];unfold AK;omega
 .have A:(ByteArray.size ⟨(Lib.decDigits u).toArray⟩)=(Lib.decDigits u).length:=by simp[ByteArray.size]
  rw[A];have e2:(if(10-((Lib.decDigits u).length:Int))<0 then(0:Int) else 10-((Lib.decDigits u).length:Int))=((10-(Lib.decDigits u).length:Nat):Int):=by split<;>omega
  rw[e2];refine Spec.below (λw _=>Go.Proofs.Tryz.strings_Repeat ⟨#[48]⟩ (10-(Lib.decDigits u).length) w (by omega) ?_) ⟨_,rfl,?_,_,rfl,?_⟩
  .have:ByteArray.size ⟨#[48]⟩=1:=rfl;rw[this];omega
  .have:ByteArray.size ⟨(Lib.repeatL (ByteArray.mk #[48]).data.toList (10-(Lib.decDigits u).length)).toArray⟩=10-(Lib.decDigits u).length:=by
    show(List.toArray (Lib.repeatL [48] _)).size=_
    rw[Ts];simp
   rw[this];omega
  .have:(⟨(Lib.repeatL (ByteArray.mk #[48]).data.toList (10-(Lib.decDigits u).length)).toArray⟩++⟨(Lib.decDigits u).toArray⟩:ByteArray)=⟨(DW u).toArray⟩:=by
    apply Agx
    show _=(DW u).toArray
    rw[Ag8];show(List.toArray (Lib.repeatL [48] _))++_=_
    rw[Ts,DW];simp
   rw[this];exact h Z'2 hx
theorem J8 {t:ByteArray}{u:Nat}(A:u<100000000)(hs:t.size<=1000)(ht:Tb Z22)(h:∀Z'2,Ext Z22 Z'2->R (.returned (.string (BX t u))) Z'2):Spec prog 52 #[.string t,.U u] Z22 R:=by
 have e2:ByteArray.size (ByteArray.mk #[98,47])=2:=rfl;have e1:ByteArray.size (ByteArray.mk #[47])=1:=rfl;have G:ByteArray.size ⟨(DW u).toArray⟩=10:=by
  show(DW u).toArray.size=10
  rw[Agh,My A]
 refine Nk.start ⟨by omega,by rw[Af7];omega,ju A ht λZ'2 hx=>⟨_,rfl,by rw[Af7,Af7];omega,h Z'2 hx⟩⟩
end
section
variable {Z22:Hp}{R:Rr}
theorem JM {p:Option Addr}{n c:Nat}{xs:List Int}{x:Int}(G:Be .u64 Z22 p n xs)(h:R (.returned (.bool (decide (x∈xs)))) Z22):Spec prog 59 #[.slice p n c,.U x] Z22 R:=by
 have hl:xs.length=n:=G.1;have EW:=G.big
 suffices H:∀(d i:Nat),n-i=d->i<=n->(∀k y,k<i->xs[k]?=some y->y≠x)->CU.HA (BI R (CI .i64 λx7 y=>R (.returned (.bool (decide (0<=x7)))) y)) p n c x (n:Int) (i:Int) Z22 from GB.start (CU.start (H n 0 rfl (AfI _) λk y A=>absurd A (Ahr _)))
 intro d
 induction d with
 | zero=>
  intro i hd hi A9;obtain rfl:i=n:=by omega
  refine CU.Bi ⟨λhh=>by omega,λ_=>⟨_,rfl,?_⟩⟩;have:¬x∈xs:=λhm=>by
   obtain⟨k,A,e⟩:=AhU hm;exact A9 k xs[k] (by omega) (Ae3 A) e
  rw[Aga this]at h;exact h
 | succ d ih=>
  intro i hd hi A9;obtain⟨y,hy⟩:=G.ex (show i<n by omega);obtain⟨b,o,rfl,Dt⟩:=Be.at G hy;refine CU.Bi ⟨λ_=>⟨b,o,rfl,by unfold In;omega,y,by rw[AfR];exact Dt,λhe=>⟨_,rfl,?_⟩,λAR=>⟨by unfold AK;omega,?_⟩⟩,λhh=>by omega⟩
  .have:x∈xs:=by rw[he];exact Ae2 hy
   rw[Afz this]at h;have e:decide ((0:Int)<=(i:Int))=true:=Afz (by omega);show R (.returned (.bool (decide ((0:Int)<=(i:Int))))) Z22
   rw[e];exact h
  .rw[show(i:Int)+1=((i+1:Nat):Int) by omega];refine ih (i+1) (by omega) (by omega) λk z A hz=>?_;by_cases e:k=i
   .subst e;rw[hy]at hz;cases hz;exact λe=>AR e.symm
   .exact A9 k z (by omega) hz
end
theorem fD {a b:Nat}{X Y:List Int}(A:a<18446744073709551616)(hb:b<18446744073709551616)(h:uv a++X=uv b++Y):a=b/\X=Y:=by
 have e:=DU.uniq (bs:=uv a++X) (i:=0) ⟨A,X,rfl⟩ ⟨hb,Y,h⟩;subst e;exact⟨rfl,List.append_cancel_left h⟩
theorem fE {a b:ByteArray}{X Y:List Int}(ha:a.size<18446744073709551616)(hb:b.size<18446744073709551616)(h:EG a++X=EG b++Y):a=b/\X=Y:=by
 unfold EG at h;rw[Aew,Aew]at h;obtain⟨e,G⟩:=fD ha hb h;have A:=List.append_inj G (by rw[Bb,Bb,e]);exact⟨lj A.1,A.2⟩
def TW (ls:List Lb):Prop:=ls.length<18446744073709551616/\∀x∈ls,x.1.size<18446744073709551616/\x.2.size<18446744073709551616
theorem BE.big {ls:List Lb}(h:BE ls):TW ls:=⟨by have:=h.1;omega,λx A=>by have:=h.2 x A;omega⟩
theorem fF:∀{a b:List Lb},(∀x∈a,x.1.size<18446744073709551616/\x.2.size<18446744073709551616)->(∀x∈b,x.1.size<18446744073709551616/\x.2.size<18446744073709551616)->a.length=b.length->a.flatMap Ec=b.flatMap Ec->a=b
 | [],[],_,_,_,_=>rfl
 | x::a,y::b,G,hb,hl,h=>by
  rw[Afy,Afy,er,er,Aew,Aew]at h;obtain⟨x1,x2⟩:=G x (AfB ..);obtain⟨y1,y2⟩:=hb y (AfB ..);obtain⟨e1,h2⟩:=fE x1 y1 h;obtain⟨e2,h3⟩:=fE x2 y2 h2;rw[Prod.ext e1 e2,fF (λz A=>G z (Aey _ A)) (λz A=>hb z (Aey _ A)) (by simpa using hl) h3]
theorem fG {a b:List Lb}(A:TW a)(hb:TW b)(h:Gc a=Gc b):a=b:=by
 unfold Gc at h;obtain⟨e,G⟩:=fD A.1 hb.1 h;exact fF A.2 hb.2 e G
theorem vX {a b:List Lb}(A:BE a)(hb:BE b)(h:Gc a=Gc b):a=b:=fG A.big hb.big h
theorem AMX (s:ByteArray):Ft (Rh s):=λx A=>by
 unfold Rh at A;obtain⟨u,_,rfl⟩:=AfC.1 A;have:=u.toNat_lt;omega
theorem af (n:Nat):Ft (uv n):=by
 induction n using Nat.strongRecOn with
 | _ n G=>
  intro x A;by_cases h:n<128
  .rw[Ci (by omega)]at A;rw[Aev.1 A];omega
  .rw[GL (by omega)]at A;rcases Ae5.1 A with rfl|A
   .omega
   .exact G (n/128) (by omega) x A
theorem Ft.app {a b:List Int}(A:Ft a)(hb:Ft b):Ft (a++b):=λx G=>(Ae9.1 G).elim (A x) (hb x)
theorem ma (s:ByteArray):Ft (EG s):=(af _).app (AMX _)
theorem R0 {α:Type}{f:α->List Int}(h:∀x,Ft (f x))(l:List α):Ft (l.flatMap f):=λx A=>by
 obtain⟨y,_,G⟩:=Age.1 A;exact h y x G
theorem Va (ls:List Lb):Ft (Gc ls):=(af _).app (R0 (f:=Ec) (λx=>(ma x.1).app (ma x.2)) ls)
def Bf (ls:List Lb):ByteArray:=strOfNums (Gc ls)
theorem Q0 {a b:List Lb}(A:BE a)(hb:BE b)(h:Bf a=Bf b):a=b:=by
 refine vX A hb ?_;have e:=Ae4 Rh h;unfold Bf at e;rw[Fm (Va a),Fm (Va b)]at e;exact e
theorem vY {a b:List Lb}(A:TW a)(hb:TW b)(h:Bf a=Bf b):a=b:=by
 refine fG A hb ?_;have e:=Ae4 Rh h;unfold Bf at e;rw[Fm (Va a),Fm (Va b)]at e;exact e
theorem vZ (s:Hf):Ft (HV s):=((Va _).app (af _)).app (af _)
def GX (H:List Sr)(ls:List Lb):Option Sr:=H.find? λs=>decide (s.ls=ls)
def LG (s:Sr):Pt:=s.ps.getLastD (0,0)
def HG (lim:Int)(H:List Sr)(s:Hf):Int:=
 if Pe s.ls≠0\/s.t < -1099511627776\/1099511627776<s.t then 3
 else match GX H s.ls with
  | none=>if lim<=(H.length:Int) then 5 else 1
  | some e=>if(LG e).1<s.t then 1 else if s.t<(LG e).1 then 3 else if s.v=(LG e).2 then 2 else 4
def R1 (lim:Int)(H:List Sr)(s:Hf):List Sr:=
 if HG lim H s≠1 then H
 else match GX H s.ls with
  | none=>H++[⟨s.ls,[(s.t,s.v)]⟩]
  | some _=>H.map λe=>if e.ls=s.ls then⟨e.ls,e.ps++[(s.t,s.v)]⟩ else e
end TwW
end
section
namespace TwW
open Go Tw Go.MapKept Go.RowKit Go.Proofs.Tryz
theorem AMY (x:Int):Ft (Qr x):=λy A=>by
 unfold Qr at A;simp only[Ae5,Afj,Agd]at A;rcases A with rfl|rfl|rfl|rfl<;>omega
theorem AAw (ss:List Sr):Ft (C1 ss):=by
 have G:Ft ([84,87,66,1]:List Int):=λx A=>by
  simp only[Ae5,Afj,Agd]at A;rcases A with rfl|rfl|rfl|rfl<;>decide
 have hu:∀xs:List Int,Ft (qq xs):=λxs=>R0 (f:=λx:Int=>uv x.toNat) (λx=>af _) xs;unfold C1;exact((((G.app (af _)).app (R0 ma _)).app (af _)).app (R0 (f:=λs:Sr=>Tp ss s.ls) (λs=>(af _).app (R0 (f:=pN ss) (λl=>hu _) _)) _)).app (R0 (f:=λs:Sr=>PA s.ps) (λs=>(af _).app (mQ _)) _)
theorem va (ss:List Sr):Ft (EL ss):=(AAw ss).app (AMY _)
def FK (x:Int):Int:=if(1024:Int)<(if x<0 then 0 else x) then 1024 else(if x<0 then 0 else x)
section
variable {Z22:Hp}{R:Rr}
theorem mb {x:Int}(h:∀m3 m4 b,Z22 m3=none->m4≠m3->Z22 m4=none->b≠m3->b≠m4->Z22 b=none->R (.returned (.pointer (aD b 0))) (((Z22.set m3 (.map #[] 0)).set m4 (.map #[] 0)).set b (.cells #[.map (some m3),.map (some m4),.I (FK x)] 175 (0,0)))):Spec prog 43 #[.I x] Z22 R:=
 dT.start (Db λm3 h3=>⟨m3,rfl,Db λm4 G=>⟨m4,rfl,λb hb=>by
  have A:m4≠m3:=λe=>by rw[e,Hp.AA]at G;cases G
  have e4:b≠m4:=λe=>by rw[e,Hp.AA]at hb;cases hb
  rw[Hp.AB e4]at hb;have e3:b≠m3:=λe=>by rw[e,Hp.AA]at hb;cases hb
  rw[Hp.AB e3]at hb;rw[Hp.AB A]at G;exact h m3 m4 b h3 A G e3 e4 hb⟩⟩)
end
end TwW
end
section
namespace TwW
open Go Tw Go.MapKept Go.RowKit Go.Proofs.Tryz
def yK (v:Value)(e:Nat):Prop:=v=.pointer (some ⟨e,0,none⟩)
def MP:List Sr->List Nat->List (ByteArray×Nat)
 | s::H,e::es=>(Bf s.ls,e)::MP H es
 | _,_=>[]
structure yL (Z22:Hp)(hb m3 m4:Nat)(lim:Int)(H:List Sr)(es:List Nat):Prop where
 box:Z22 hb=some (.cells #[.map (some m3),.map (some m4),.I lim] 175 (0,0))
 P5:MS yK Z22 m3 (MP H es)
 len:es.length=H.length
 CP:∀(i:Nat) s e,H[i]?=some s->es[i]?=some e->∃p n c q m d,Z22 e=some (.cells #[.slice p n c,.slice q m d] 185 (0,0))/\I1 Z22 p n s.ls/\BB 2 Bp Z22 q m s.ps/\m<=d
 ok:∀s∈H,BE s.ls/\s.ps≠[]/\s.ps.length<=1000000000000
theorem yL.mono {Z22 Z'2:Hp}{hb m3 m4:Nat}{lim:Int}{H:List Sr}{es:List Nat}(h:yL Z22 hb m3 m4 lim H es)(A:Ext Z22 Z'2):yL Z'2 hb m3 m4 lim H es:=
 ⟨A _ _ h.box,h.P5.mono A,h.len,λi s e hs he=>by
  obtain⟨p,n,c,q,m,d,g,G,a2,a3⟩:=h.CP i s e hs he;exact⟨p,n,c,q,m,d,A _ _ g,G.mono Eh.mono A,a2.mono Bp.mono A,a3⟩,h.ok⟩
theorem R3:∀{H:List Sr} {es:List Nat},es.length=H.length->(MP H es).length=H.length
 | [],[],_=>rfl
 | s::H,e::es,h=>by rw[MP,Aez,Aez,R3 (by simpa using h)]
 | [],_::_,h=>by simp at h
 | _::_,[],h=>by simp at h
theorem Pr:∀{H:List Sr} {es:List Nat} {ls:List Lb},es.length=H.length->(∀s∈H,BE s.ls)->TW ls->BQ (MP H es) (Bf ls)=none->GX H ls=none
 | [],[],_,_,_,_,_=>rfl
 | s::H,e::es,ls,h,hs,hl,A=>by
  rw[MP,BQ]at A;split at A
  .cases A
  .rename_i hk;have G:¬s.ls=ls:=λe=>hk (by rw[e]);have:=Pr (H:=H) (es:=es) (by simpa using h) (λx hx=>hs x (Aey _ hx)) hl A;unfold GX at this ⊢;rw[Ahq,Aga G];exact this
 | [],_::_,_,h,_,_,_=>by simp at h
 | _::_,[],_,h,_,_,_=>by simp at h
theorem Ps:∀{H:List Sr} {es:List Nat} {ls:List Lb} {e:Nat},es.length=H.length->(∀s∈H,BE s.ls)->TW ls->BQ (MP H es) (Bf ls)=some e->∃(i:Nat) (s:Sr),H[i]?=some s/\es[i]?=some e/\s.ls=ls/\GX H ls=some s
 | [],[],_,_,_,_,_,h=>by cases h
 | s::H,e'::es,ls,e,h,hs,hl,A=>by
  rw[MP,BQ]at A;split at A
  .rename_i G;cases A;have he:s.ls=ls:=vY (hs s (AfB ..)).big hl G;refine⟨0,s,rfl,rfl,he,?_⟩;unfold GX;rw[Ahq,Afz he]
  .rename_i G;have AR:¬s.ls=ls:=λe=>G (by rw[e]);obtain⟨i,s',h1,h2,h3,h4⟩:=Ps (H:=H) (es:=es) (by simpa using h) (λx hx=>hs x (Aey _ hx)) hl A;refine⟨i+1,s',h1,h2,h3,?_⟩;unfold GX at h4 ⊢;rw[Ahq,Aga AR];exact h4
 | [],_::_,_,_,h,_,_,_=>by simp at h
 | _::_,[],_,_,h,_,_,_=>by simp at h
section
variable {Z22:Hp}{R:Rr}
theorem Mz {e:Nat}{p q:Option Addr}{n c m d:Nat}{ps:List Pt}(hg:Z22 e=some (.cells #[.slice p n c,.slice q m d] 185 (0,0)))(A:BB 2 Bp Z22 q m ps)(G:ps≠[])(h:R (.returned (.agg #[.I (ps.getLastD (0,0)).1,.U (ps.getLastD (0,0)).2])) Z22):Spec prog 119 #[.pointer (aD e 0)] Z22 R:=by
 have hl:ps.length=m:=A.1;have EW:=A.big;have h0:0<m:=by
  rw[<-hl];exact AhG.2 G
 have hx:ps[m-1]?=some (ps.getLastD (0,0)):=by
  rw[<-hl,<-AiM,List.getLastD_eq_getLast?];cases hh:ps.getLast? with
  | none=>exact absurd (List.getLast?_eq_none_iff.1 hh) G
  | some x=>rfl
 obtain⟨b,o,rfl,Dt⟩:=Bp.at A hx;have c1:Int.toNat ((m:Int)-1)=m-1:=by omega
 exact Kw.start λb2=>⟨e,0,rfl,_,m,d,AD hg rfl,_,m,d,AD hg rfl,by unfold AK;omega,b,o,rfl,by unfold In;omega,_,_,by rw[c1];exact Dt,h⟩
end
end TwW
end
section
namespace TwW
open Go Tw Go.MapKept Go.RowKit Go.Proofs.Tryz
section
variable {Z22:Hp}{R:Rr}
theorem R4 {hb m3 m4:Nat}{lim:Int}{H:List Sr}{es:List Nat}{p:Option Addr}{n c:Nat}{s:Hf}(hh:yL Z22 hb m3 m4 lim H es)(hr:I1 Z22 p n s.ls)
  (h:∀Z'2,Ext Z22 Z'2->R (.returned (.I (HG lim H s))) Z'2):Spec prog 103 #[.pointer (aD hb 0),.agg #[.slice p n c,.I s.t,.U s.v]] Z22 R:=by
 refine L3.start λb3=>FR hr ⟨_,rfl,λhk=>?_,λhk=>⟨λh1=>?_,λh1=>⟨λh2=>?_,λh2=>?_⟩⟩⟩
 .have:=h Z22 (.refl _);unfold HG at this;rw[Aex (.inl hk)]at this;exact this
 .have:=h Z22 (.refl _);unfold HG at this;rw[Aex (.inr (.inl h1))]at this;exact this
 .have:=h Z22 (.refl _);unfold HG at this;rw[Aex (.inr (.inr h2))]at this;exact this
 have WY:Pe s.ls=0:=Agj.1 hk;have KJ:=BE.of WY;unfold HG at h;rw[Aeu (λhc=>hc.elim (λe=>hk e) (λe=>e.elim h1 h2))]at h;refine⟨hb,0,rfl,some m3,AD hh.box rfl,Ki hr KJ λp' n' c' A ho hx=>⟨p',n',c',rfl,Kp.CV hx,Ed (Be.mono (Ext.Cp _ _) (A2.rd ho)) ⟨_,rfl,Kp.CV (.refl _),?_⟩⟩⟩;have Pf:=hh.mono hx;have hsH:∀s∈H,BE s.ls:=λs hs=>(hh.ok s hs).1;have hz:∀w,(zeroValue 179).run prog w=.ok (.pointer none) w:=λw=>by kernel_rfl
 refine MS.look (s:=Bf s.ls) Pf.P5 hz (λA9=>⟨none,rfl,λ_=>?_,λhf=>(by cases hf)⟩) λv e hf hv=>?_
 .have Nu:=Pr Pf.len hsH KJ.big A9;rw[Nu]at h;have hlen:=R3 (H:=H) (es:=es) Pf.len;refine⟨some m3,AD Pf.box rfl,_,MS.len Pf.P5,lim,AD Pf.box rfl,λG=>?_,λG=>⟨λ_=>?_,λhf=>(by cases hf)⟩⟩
  .have:=h A hx;rw[hlen]at G;dsimp only at this;rw[Aex G]at this;exact this
  .have:=h A hx;rw[hlen]at G;dsimp only at this;rw[Aeu G]at this;exact this
 .rw[show v=.pointer (some ⟨e,0,none⟩) from hv];obtain⟨i,s',a1,a2,a3,a4⟩:=Ps Pf.len hsH KJ.big hf;rw[a4]at h;dsimp only at h;obtain⟨p1,n1,c1,q,m,d,g,b1,b2,b3⟩:=Pf.CP i s' e a1 a2;have AR:=(hh.ok s' (Ae2 a1)).2.1;refine⟨aD e 0,rfl,λhf=>(by cases hf),λ_=>⟨λhf=>(by cases hf),λ_=>Mz g b2 AR ⟨_,_,rfl,λAq=>?_,λIb=>Mz g b2 AR ⟨_,_,rfl,λAq=>?_,λAMa=>Mz g b2 AR ⟨_,_,rfl,λhe=>?_,λATf=>?_⟩⟩⟩⟩⟩
  .have:=h A hx;rw[Aex (show(LG s').1<s.t from Aq)]at this;exact this
  .have:=h A hx;rw[Aeu (show ¬(LG s').1<s.t from Ib),Aex (show s.t<(LG s').1 from Aq)]at this;exact this
  .have:=h A hx;rw[Aeu (show ¬(LG s').1<s.t from Ib),Aeu (show ¬s.t<(LG s').1 from AMa),Aex (show s.v=(LG s').2 from he)]at this;exact this
  .have:=h A hx;rw[Aeu (show ¬(LG s').1<s.t from Ib),Aeu (show ¬s.t<(LG s').1 from AMa),Aeu (show ¬s.v=(LG s').2 from ATf)]at this;exact this
end
end TwW
end
section
namespace TwW
open Go Tw Go.MapKept Go.RowKit Go.Proofs.Tryz
def jv (s:Hf):Prop:=Pe s.ls≠0\/s.t < -1099511627776\/1099511627776<s.t
instance (s:Hf):Decidable (jv s):=by unfold jv;infer_instance
def MQ (lim:Int)(H:List Sr)(L:List (ByteArray×Pt))(fresh:Nat)(s:Hf):Int:=
 match BQ L (Bf s.ls) with
 | none=>if HG lim H s=1/\GX H s.ls=none/\lim<=(H.length:Int)+fresh then 5 else HG lim H s
 | some p=>if jv s then HG lim H s else if p.1<s.t then 1 else if s.t<p.1 then 3 else if s.v=p.2 then 2 else 4
def Dr (lim:Int)(H:List Sr)(st:List (ByteArray×Pt)×Nat×List Int)(s:Hf):List (ByteArray×Pt)×Nat×List Int:=
 if MQ lim H st.1 st.2.1 s=1 then(Jt st.1 (Bf s.ls) (s.t,s.v),st.2.1+(if BQ st.1 (Bf s.ls)=none/\GX H s.ls=none then 1 else 0),st.2.2++[1])
 else(st.1,st.2.1,st.2.2++[MQ lim H st.1 st.2.1 s])
def C8 (lim:Int)(H:List Sr)(ss:List Hf):List (ByteArray×Pt)×Nat×List Int:=ss.foldl (Dr lim H) ([],0,[])
theorem fH (lim:Int)(H:List Sr)(ss:List Hf)(s:Hf):C8 lim H (ss++[s])=Dr lim H (C8 lim H ss) s:=by unfold C8;rw[Agi];rfl
def EPv (v:Value)(x:Pt):Prop:=v=.agg #[.I x.1,.U x.2]
def EI0 (vs:List Value)(x:Int):Prop:=vs=[.I x]
structure bW (O2 Z22:Hp)(m5:Nat)(L:List (ByteArray×Pt))(p7:Option Addr)(n7 c7:Nat)(out:List Int):Prop where
 new:O2 m5=none
 st:∃o,(∀O'2:Hp,O'2 m5=some o->MS EPv O'2 m5 L)/\Aa 1 (λ_=>EI0) (O2.set m5 o) Z22 p7 n7 c7 out
section
variable {O2 Z22:Hp}{R:Rr}{m5:Nat}{L:List (ByteArray×Pt)}{p7:Option Addr}{n7 c7:Nat}{out:List Int}
theorem bW.mono {Z'2:Hp}(h:bW O2 Z22 m5 L p7 n7 c7 out)(hx:Ext Z22 Z'2):bW O2 Z'2 m5 L p7 n7 c7 out:=by
 obtain⟨hn,o,A,G⟩:=h;exact⟨hn,o,A,G.mono (λ_ _ _ _ _ h=>h) hx⟩
theorem bW.ext (h:bW O2 Z22 m5 L p7 n7 c7 out):Ext O2 Z22:=by
 obtain⟨G,o,h1,A⟩:=h;exact(Ext.set G).trans A.up
theorem bW.ms (h:bW O2 Z22 m5 L p7 n7 c7 out):MS EPv Z22 m5 L:=by
 obtain⟨hn,o,A,G⟩:=h;exact A Z22 (G.up _ _ (Hp.AA _ _ _))
theorem bW.push {x:Int}{G:Option Addr->Nat->Nat->Hp->Prop}(h:bW O2 Z22 m5 L p7 n7 c7 out)(hn:n7<=1000000000000)(hG:∀p' c' Z'2,bW O2 Z'2 m5 L p' (n7+1) c' (out++[x])->G p' (n7+1) c' Z'2):
  Al Z22 λb=>AH prog (Builtin.append_ #[40,40] 40 #[.slice p7 n7 c7,(.slice (aD b 0) 1 1)]) (Hp.set Z22 b (.cells #[.I x] 3 (0,0))) (CS G):=λb hb=>by
 obtain⟨hm,o,h1,h2⟩:=h;exact Aa.G8 (vs:=[.I x]) (x:=x) (λ_ _ _ _ _ h=>h) h2 rfl (λu hu=>by rw[Aev.1 hu];rfl) rfl (by omega) (λp' c' O'2 A _=>⟨_,_,_,rfl,hG p' c' O'2 ⟨hm,o,h1,A⟩⟩) hb
theorem bW.put {k:ByteArray}{x:Pt}{G:Unit->Hp->Prop}(h:bW O2 Z22 m5 L p7 n7 c7 out)(hG:∀Z'2,bW O2 Z'2 m5 (Jt L k x) p7 n7 c7 out->G () Z'2):AH prog (Instr.mapUpdate 176 (.map (some m5)) (.string k) (.agg #[.I x.1,.U x.2])) Z22 G:=by
 have A:=h.ms;obtain⟨hm,o,h1,h2⟩:=h;exact MS.put A (x:=x) rfl λo' Cq=>hG _ ⟨hm,o',λO'2 hτ=>Cq.loc (by rw[hτ,Hp.AA]),by
  have:=h2.put (b:=m5) (o':=o') (Hp.AA _ _ _);rw[Hp.set_set]at this;exact this⟩
end
end TwW
end
section
namespace TwW
open Go Tw Go.MapKept Go.RowKit Go.Proofs.Tryz
theorem TW.of {ls:List Lb}(h:(Gc ls).length<=35184372088832):TW ls:=by
 unfold Gc at h;rw[Aet]at h;have h1:ls.length<=(ls.flatMap Ec).length:=aZ λx=>by
  have:=Rq x.1.size;simp only[Ec,Aet];omega
 refine⟨by omega,λx hx=>?_⟩;obtain⟨k,G,e⟩:=AhU hx;have A:=Xb (k:=k) (y:=x) (by rw[Ae3 G,e]);simp only[Ec,Aet,Bb]at A;omega
section
variable {Z22:Hp}{R:Rr}{hb m3 m4:Nat}{lim:Int}{H:List Sr}{es:List Nat}{p:Option Addr}{n c:Nat}{ss:List Hf}
theorem yL.look (G:yL Z22 hb m3 m4 lim H es){ls:List Lb}(hl:TW ls){K:Option Addr->Hp->Prop}(h0:GX H ls=none->K none Z22)(h1:∀e,GX H ls≠none->K (aD e 0) Z22):AH prog (Instr.lookup 170 (.map (some m3)) (.string (Bf ls)) false) Z22 (CQ K):=by
 have A:∀s∈H,BE s.ls:=λs hs=>(G.ok s hs).1;have hz:∀w,(zeroValue 179).run prog w=.ok (.pointer none) w:=λw=>by kernel_rfl
 refine MS.look (s:=Bf ls) G.P5 hz (λA9=>⟨none,rfl,h0 (Pr G.len A hl A9)⟩) λv e hf hv=>⟨aD e 0,hv,h1 e ?_⟩;obtain⟨i,s',a1,a2,a3,a4⟩:=Ps G.len A hl hf;rw[a4];exact λh=>by cases h
theorem vb {O2:Hp}{m5 n7 c7 i fresh:Nat}{p7 q:Option Addr}{k9 c9:Nat}{L:List (ByteArray×Pt)}{out:List Int}{s:Hf}{G:Bool}{x:Int}(hn7:n7<=100000000000)(hi:i<=100000000000)(RP:fresh<=100000000000)
  (hh:yL O2 hb m3 m4 lim H es) (hF:bW O2 Z22 m5 L p7 n7 c7 out) (hl:TW s.ls)
  (hR:∀Z'2 p' c' fr L',fr<=fresh+1->(x=1->L'=Jt L (Bf s.ls) (s.t,s.v)/\fr=fresh+if G=false/\GX H s.ls=none then 1 else 0)->(x≠1->L'=L/\fr=fresh)->bW O2 Z'2 m5 L' p' (n7+1) c' (out++[x])->Aw.tF R (aD hb 0) (some m5) (fr:Int) p' (n7+1) c' p n c (n:Int) ((i:Int)+1) Z'2) :
  Aw.QW R (aD hb 0) (some m5) (fresh:Int) p7 n7 c7 q k9 c9 s.t s.v (Bf s.ls) G x p n c (n:Int) (i:Int) Z22:=by
 have hh':=hh.mono hF.ext;have add:∀fr:Nat,fr<=fresh+1->x=1->(fr=fresh+if G=false/\GX H s.ls=none then 1 else 0)->Aw.Yo R (aD hb 0) (some m5) (fr:Int) p7 n7 c7 q k9 c9 s.t s.v (Bf s.ls) x p n c (n:Int) (i:Int) Z22:=λfr ATg A hf=>
  Aw.Yp (bW.put (x:=(s.t,s.v)) hF λZ'2 hF'=>Aw.Ix (hF'.push (by omega) λp' c' Z222 h2=>⟨by unfold AK;omega,hR Z222 p' c' fr _ ATg (λ_=>⟨rfl,hf⟩) (λAR=>absurd A AR) h2⟩))
 refine Aw.zX ⟨λA=>⟨λhm=>⟨hb,0,rfl,some m3,AD hh'.box rfl,hh'.look hl (λA9=>⟨λ_=>⟨by unfold AK;omega,?_⟩,λhf=>(by cases hf)⟩) λe yI=>⟨λhf=>(by cases hf),λ_=>?_⟩⟩,λhm=>?_⟩,λA=>?_⟩
 .rw[show(fresh:Int)+1=((fresh+1:Nat):Int) by omega];exact add (fresh+1) (Ae1 _) A (by rw[Aex ⟨hm,A9⟩])
 .exact add fresh (by omega) A (by rw[Aeu (λh=>yI h.2)];rfl)
 .exact add fresh (by omega) A (by rw[Aeu (λh=>by rw[hm]at h;cases h.1)];rfl)
 .exact Aw.Ix (hF.push (by omega) λp' c' Z222 h2=>⟨by unfold AK;omega,hR Z222 p' c' fresh _ (by omega) (λh=>absurd h A) (λ_=>⟨rfl,rfl⟩) h2⟩)
end
end TwW
end
section
namespace TwW
open Go Tw Go.MapKept Go.RowKit Go.Proofs.Tryz
section
variable {Z22:Hp}{R:Rr}{hb m3 m4:Nat}{lim:Int}{H:List Sr}{es:List Nat}{p:Option Addr}{n c:Nat}{ss:List Hf}
theorem fI (lim:Int)(H:List Sr):∀(l:List Hf) (st:List (ByteArray×Pt)×Nat×List Int),(l.foldl (Dr lim H) st).2.2.length=st.2.2.length+l.length/\(l.foldl (Dr lim H) st).2.1<=st.2.1+l.length:=by
 intro l
 induction l with
 | nil=>exact λst=>⟨rfl,Ae1 _⟩
 | cons s l A=>
  intro st;obtain⟨G,i2⟩:=A (Dr lim H st s);have e:(Dr lim H st s).2.2.length=st.2.2.length+1/\(Dr lim H st s).2.1<=st.2.1+1:=by
   unfold Dr;split
   .refine⟨by rw[Aet,AfD],?_⟩;dsimp only;split<;>omega
   .exact⟨by rw[Aet,AfD],by dsimp only;omega⟩
  rw[AgT,Aez];omega
theorem Vb (lim:Int)(H:List Sr)(ss:List Hf):(C8 lim H ss).2.2.length=ss.length/\(C8 lim H ss).2.1<=ss.length:=by
 have:=fI lim H ss ([],0,[]);unfold C8;simp only[Afw,AfW]at this;exact this
theorem Vc (hh:yL Z22 hb m3 m4 lim H es)(hr:BB 3 Ef Z22 p n ss)(EW:∀s∈ss,(Gc s.ls).length<=35184372088832)(hH:H.length<=100000000000)(hn:n<=100000000000)
  (h:∀p' n' c' Z'2,Be .i64 (Z22.new Z'2) p' n' (C8 lim H ss).2.2->Ext Z22 Z'2->R (.returned (.slice p' n' c')) Z'2):Spec prog 44 #[.pointer (aD hb 0),.slice p n c] Z22 R:=by
 have hl:ss.length=n:=hr.1;refine Aw.start (Db λm5 h5=>⟨m5,rfl,?_⟩)
 suffices HH:∀(d i:Nat) (ρ:Hp) (p7:Option Addr) (c7:Nat) (fr:Nat),n-i=d->i<=n->fr=(C8 lim H (ss.take i)).2.1->bW Z22 ρ m5 (C8 lim H (ss.take i)).1 p7 i c7 (C8 lim H (ss.take i)).2.2->Aw.tF R (aD hb 0) (some m5) (fr:Int) p7 i c7 p n c (n:Int) (i:Int) ρ from
  HH n 0 _ none 0 0 rfl (AfI _) rfl ⟨h5,.map #[] 0,λO'2 hτ=>(MS.fresh (Z22:=O'2) (m:=m5)).loc (by rw[hτ,Hp.AA]),Aa.nil (.refl _)⟩
 intro d
 induction d with
 | zero=>
  intro i ρ p7 c7 fr hd hi RP hF;obtain rfl:i=n:=by omega
  rw[Ae7 (by omega)]at hF;refine Aw.lS ⟨λhh=>by omega,λ_=>h p7 i c7 ρ ?_ hF.ext⟩;obtain⟨o,_,ho⟩:=hF.st;refine BB.mono (λ_ _ _ _ _ h=>h) (λx u hx=>?_) (Aa.Qy (λ_ _ _ _ h=>h) ho);obtain⟨a1,a2⟩:=AW.1 hx;exact AW.2 ⟨(Hp.HD a1).2,a2⟩
 | succ d ih=>
  intro i ρ p7 c7 fr hd hi RP hF;obtain⟨s,hs⟩:=hr.ex (show i<n by omega);have KJ:=Ae2 hs;have Ru:=EW s KJ;have AMb:=TW.of Ru;obtain⟨b,o,vs,rfl,⟨q,k,dd,rfl,I2⟩,Dt⟩:=BB.idx hr hs;have hx:=hF.ext;have gT:=(Vb lim H (ss.take i)).2;rw[AfE]at gT;have HZ:C8 lim H (ss.take (i+1))=Dr lim H (C8 lim H (ss.take i)) s:=by rw[AL hs,fH]
  generalize C8 lim H (ss.take i)=st at hF RP gT HZ;obtain⟨L,fresh,out⟩:=st;dsimp only at hF RP gT;subst RP;have fin:∀(ρ':Hp) (met:Bool),bW Z22 ρ' m5 L p7 i c7 out->(met=(BQ L (Bf s.ls)).isSome)->Aw.QW R (aD hb 0) (some m5) (fr:Int) p7 i c7 q k dd s.t s.v (Bf s.ls) met (MQ lim H L fr s) (aD b o) n c (n:Int) (i:Int) ρ':=λρ' met hF' ATi=>by
   refine vb (by omega) (by omega) (by omega) hh hF' AMb λZ'2 p' c' fr' L' hle h1 h2 uI=>?_;have Xo:=ih (i+1) Z'2 p' c' fr' (by omega) (by omega);rw[HZ]at Xo;rw[show(i:Int)+1=((i+1:Nat):Int) by omega];unfold Dr at Xo;dsimp only at Xo;by_cases Ct:MQ lim H L fr s=1
   .obtain⟨rfl,e2⟩:=h1 Ct;rw[Aex Ct]at Xo;have e3:met=false↔BQ L (Bf s.ls)=none:=by
     rw[ATi];cases BQ L (Bf s.ls)<;>simp
    simp only[e3]at e2;rw[Ct]at uI;exact Xo e2 uI
   .obtain⟨rfl,rfl⟩:=h2 Ct;rw[Aeu Ct]at Xo;exact Xo rfl uI
  refine Aw.lS ⟨λ_=>⟨b,o,rfl,by unfold In;omega,q,k,dd,s.t,s.v,by simpa using Dt.mono hx,λb9=>Qi (I2.mono Eh.mono hx) Ru λp1 n1 c1 Z12 QG Ct=>⟨p1,n1,c1,rfl,Ed (Be.mono (Ext.Cp _ _) (A2.rd QG)) ⟨_,rfl,?_⟩⟩⟩,λhh=>by omega⟩;have A:=hF.mono Ct;have hz:∀w,(zeroValue 66).run prog w=.ok (.agg #[.I 0,.U 0]) w:=λw=>by kernel_rfl
  refine MS.ALW (s:=Bf s.ls) A.ms hz (λA9=>⟨0,0,false,rfl,λFN=>R4 (hh.mono A.ext) (I2.mono Eh.mono A.ext) λZ222 BD=>⟨_,rfl,λ_=>?_,λhf=>(by cases hf)⟩⟩) λv pt S9 hv=>?_
  .have uI:=A.mono BD;have G:=hh.mono uI.ext;have hnn:GX H s.ls=none->(MP H es).length=H.length:=λ_=>R3 G.len;have e1:MQ lim H L fr s=if HG lim H s=1/\GX H s.ls=none/\lim<=(H.length:Int)+fr then 5 else HG lim H s:=by unfold MQ;rw[A9]
   have f2:=fin Z222 false uI (by rw[A9];rfl);refine⟨λh1=>⟨hb,0,rfl,some m3,AD G.box rfl,G.look AMb (λNu=>⟨.refl _,λ_=>⟨some m3,AD G.box rfl,_,MS.len G.P5,?_⟩,λhf=>(by cases hf)⟩) λe S9=>⟨.refl _,λhf=>(by cases hf),λ_=>?_⟩⟩,λh1=>?_⟩
   .rw[hnn Nu];refine⟨by unfold AK;omega,lim,AD G.box rfl,λhle=>?_,λhle=>?_⟩
    .rw[e1,Aex ⟨h1,Nu,hle⟩]at f2;exact f2
    .rw[e1,Aeu (λh=>hle h.2.2)]at f2;exact f2
   .rw[e1,Aeu (λh=>S9 h.2.1)]at f2;exact f2
   .rw[e1,Aeu (λh=>h1 h.1)]at f2;exact f2
  .rw[show v=.agg #[.I pt.1,.U pt.2] from hv];have e1:MQ lim H L fr s=if jv s then HG lim H s else if pt.1<s.t then 1 else if s.t<pt.1 then 3 else if s.v=pt.2 then 2 else 4:=by unfold MQ;rw[S9]
   refine⟨pt.1,pt.2,true,rfl,λFN=>R4 (hh.mono A.ext) (I2.mono Eh.mono A.ext) λZ222 BD=>⟨_,rfl,λhf=>(by cases hf),λ_=>?_⟩⟩;have uI:=A.mono BD;have f2:=fin Z222 true uI (by rw[S9];rfl);rw[e1]at f2;refine FR (I2.mono Eh.mono uI.ext) ⟨_,rfl,λa1=>?_,λa1=>⟨λa2=>?_,λa2=>⟨λa3=>?_,λa3=>?_⟩⟩⟩
   .rw[Aex (.inl a1)]at f2;exact f2
   .rw[Aex (.inr (.inl a2))]at f2;exact f2
   .rw[Aex (.inr (.inr a3))]at f2;exact f2
   .rw[Aeu (λhc=>hc.elim a1 λhc=>hc.elim a2 a3)]at f2;refine⟨λa4=>?_,λa4=>⟨λa5=>?_,λa5=>⟨λa6=>?_,λa6=>?_⟩⟩⟩
    .rw[Aex a4]at f2;exact f2
    .rw[Aeu a4,Aex a5]at f2;exact f2
    .rw[Aeu a4,Aeu a5,Aex a6]at f2;exact f2
    .rw[Aeu a4,Aeu a5,Aeu a6]at f2;exact f2
end
end TwW
end
section
namespace TwW
open Go Tw Go.RowKit Go.Proofs.Tryz
theorem AMc:Enters prog 171:=λargs w=>call171 args w
section
variable {Z22:Hp}{R:Rr}{b o c:Nat}{pt:Option Addr}{ct:Nat}{st ep:Int}
theorem fJ (hm:Bm Z22 b o [.I 0,.I st,.slice pt 1 ct])(hs:1<=st/\st<=3)(h:∀Z'2,Ext Z22 Z'2->R (.returned (.I st)) Z'2):Spec prog 41 #[.agg #[.U ep,.slice (aD b o) 1 c],.I 0] Z22 R:=by
 refine Uh.start λb2=>SX.start λb2'=>?_;intro b3 h3;have x3:Ext Z22 (Z22.set b3 (.cells #[.I 0] 3 (0,0))):=Ext.set h3;have g3:(Z22.set b3 (.cells #[.I 0] 3 (0,0))) b3=some (.cells #[.I 0] 3 (0,0)):=Hp.AA _ _ _;generalize hσ:Z22.set b3 (.cells #[.I 0] 3 (0,0))=Z12 at x3 g3 ⊢;have gR:Bm Z12 b (o+Int.toNat 0*3) [.I 0,.I st,.slice pt 1 ct]:=by simpa using hm.mono x3
 refine DL.start (DL.Bi ⟨λ_=>⟨b,o,rfl,by unfold In;omega,0,st,pt,1,ct,gR,171,#[],#[.pointer (aD b3 0)],rfl,AMc,?_⟩,λA=>absurd (by decide) A⟩);refine Ns.start λAbn=>⟨0,AD g3 rfl,_,rfl,λ_=>⟨_,rfl,_,rfl,?_⟩,λG=>absurd G (by decide)⟩;refine Kd.start λb1=>Kd.AY ⟨λ_=>⟨b,o,rfl,by unfold In;omega,0,st,pt,1,ct,gR,λb5 sn og=>?_⟩,λA=>absurd (by decide) A⟩;refine Aa.G8 (E:=λ_=>EI0) (vs:=[.I 0]) (x:=0) (λ_ _ _ _ _ h=>h) (Aa.nil (.refl Z12)) rfl (λu hu=>by rw[Aev.1 hu];rfl) rfl (by omega) (λp' c' Z222 By _=>⟨p',1,c',rfl,?_⟩) og;have x2:=By.up;refine lf.start ⟨λ_=>⟨_,rfl,λG=>absurd G (by decide),λ_=>⟨λA=>by omega,λ_=>⟨λA=>by omega,λ_=>⟨λA=>absurd A (by decide),λ_=>⟨λA=>absurd A (by decide),λ_=>?_⟩⟩⟩⟩⟩,λA=>absurd (by decide) A⟩;refine FV.start (FV.CJ ⟨λA=>absurd A (by decide),λ_=>⟨_,rfl,λG=>absurd G (by decide),λ_=>⟨by unfold AK;omega,?_⟩⟩⟩);refine Kd.AY ⟨λA=>absurd A (by decide),λ_=>?_⟩;refine HS.start (HS.CJ ⟨λA=>absurd A (by decide),λ_=>⟨_,rfl,λG=>absurd G (by decide),λ_=>⟨_,rfl,λA=>absurd rfl A,λ_=>⟨λA=>absurd A (by decide),λ_=>⟨b,o,rfl,by unfold In;omega,st,?_,h Z222 (x3.trans x2)⟩⟩⟩⟩⟩);exact(gR.mono x2).2.1
end
abbrev mc (w d hd lc:Value)(lim ep:Int)(act:Bool)(T:TypeId):Obj:=.cells #[w,.I 0,d,.I lim,.U ep,.bool act,hd,lc] T (0,0)
section
variable {Z22:Hp}{R:Rr}{g b o c:Nat}{pt:Option Addr}{ct:Nat}{st ep ep0 lim:Int}{w d hd lc:Value}{act:Bool}{T:TypeId}
theorem Vd (hg:Z22 g=some (mc w d hd lc lim ep0 act T))(hm:Bm Z22 b o [.I 0,.I st,.slice pt 1 ct])(hs:1<=st/\st<=3)(G:b≠g)
  (h0:¬ep0<=ep->R (.T #[]) Z22) (h1:ep0<=ep->∀Z'2,Z'2 g=some (mc w d hd lc lim ep (decide (st=2)) T)->Ext (Z22.del (aD g 0)) (Z'2.del (aD g 0))->R (.T #[]) Z'2) :
  Spec prog 11 #[.pointer (aD g 0),.agg #[.U ep,.slice (aD b o) 1 c]] Z22 R:=by
 refine Fj.start λb3=>⟨g,0,rfl,ep0,AD hg rfl,λA=>?_,λA=>h0 A⟩;refine AH.store (P:=prog) uZ hg rfl (by simp) (λu hu=>by rw[Aev.1 (show u∈[Value.int .u64 ep] from hu)];rfl) ?_;have ew:Obj.cells (F0 #[w,.I 0,d,.I lim,.U ep0,.bool act,hd,lc] (0+4) (Value.int .u64 ep).cells.toList) T (0,0)=mc w d hd lc lim ep act T:=rfl;rw[ew];have g1:(Z22.set g (mc w d hd lc lim ep act T)) g=some (mc w d hd lc lim ep act T):=Hp.AA _ _ _;have keep:∀k v,k≠g->Z22 k=some v->(Z22.set g (mc w d hd lc lim ep act T)) k=some v:=λk v hk hv=>by rw[Hp.AB hk];exact hv
 have eA:Bm (Z22.set g (mc w d hd lc lim ep act T)) b o [.I 0,.I st,.slice pt 1 ct]:=Bm.of λj v hj=>by
  have:=hm.get hj;simp only[Hp.ld,Hp.AB G]at this ⊢;exact this
 refine⟨0,AD g1 rfl,fJ eA hs λZ'2 hx=>⟨st,rfl,?_⟩⟩;refine AH.store (P:=prog) AC5 (hx _ _ g1) rfl (by simp) (λu hu=>by rw[Aev.1 (show u∈[Value.bool (decide (st=2))] from hu)];rfl) (h1 A _ ?_ λk v hk=>?_)
 .rw[Hp.AA];rfl
 .obtain⟨k1,k2⟩:=AF.1 hk;have AR:k≠g:=k1 _ rfl;exact AF.2 ⟨k1,by rw[Hp.AB AR];exact hx _ _ (keep k v AR k2)⟩
end
end TwW
end
section
namespace Tw
open Go
inductive Tag where
 | k | b | p | i | e (ls:List TwW.Lb) | q (ls:List TwW.Lb) | g | h | l | s
def Tag.hd:Tag->Bool
 | .g | .h | .l | .s=>false
 | _=>true
def Tag.fx:Tag->Bool
 | .b | .p | .i | .e _ | .q _=>false
 | _=>true
abbrev JX:=Nat->Option Tag
def Ho (T:JX)(b:Nat)(t:Tag):JX:=λx=>if x=b then some t else T x
theorem EH (T:JX)(b:Nat)(t:Tag):Ho T b t b=some t:=Aex rfl
theorem CH {T:JX}{b x:Nat}{t:Tag}(h:x≠b):Ho T b t x=T x:=Aeu h
def Hp.kp (Z22:Hp)(T:JX):Hp:=λx=>match T x with | some .k=>Z22 x | _=>none
def Hp.rest (Z22:Hp)(T:JX):Hp:=λx=>match T x with | none=>Z22 x | _=>none
def Hp.on (Z22:Hp)(T:JX):Hp:=λx=>match T x with | none=>none | some _=>Z22 x
end Tw
end
section
namespace TwW
open Go Tw
section
def Bq:List (Int×Int)->List (Int×Int)->List (Int×Int)
 | [],b=>b
 | a,[]=>a
 | x::a,y::b=>if x.1<y.1 then x::Bq a (y::b) else if y.1<x.1 then y::Bq (x::a) b else(x.1,if x.2<y.2 then y.2 else x.2)::Bq a b
termination_by a b=>a.length+b.length
def IT:List Sr->List Sr->List Sr
 | [],b=>b
 | a,[]=>a
 | x::a,y::b=>if BN x.ls y.ls<0 then x::IT a (y::b) else if 0<BN x.ls y.ls then y::IT (x::a) b else⟨x.ls,Bq x.ps y.ps⟩::IT a b
termination_by a b=>a.length+b.length
theorem Tu (b:List Sr):IT [] b=b:=by rw[IT]
end
end TwW
end
section
namespace TwW
open Go Tw Go.RowKit Go.Proofs.Tryz
theorem GY (a:List Pt):Bq a []=a:=by cases a<;>rw[Bq];intro h;cases h
theorem Ey (b:List Pt):Bq [] b=b:=by rw[Bq]
theorem Fp {x y:Pt}{a b:List Pt}:Bq (x::a) (y::b)=if x.1<y.1 then x::Bq a (y::b) else if y.1<x.1 then y::Bq (x::a) b else(x.1,if x.2<y.2 then y.2 else x.2)::Bq a b:=by rw[Bq]
theorem Q1 (a:List Sr):IT a []=a:=by cases a<;>rw[IT];intro h;cases h
theorem M0 {x y:Sr}{a b:List Sr}:IT (x::a) (y::b)=if BN x.ls y.ls<0 then x::IT a (y::b) else if 0<BN x.ls y.ls then y::IT (x::a) b else⟨x.ls,Bq x.ps y.ps⟩::IT a b:=by rw[IT]
theorem Q2:∀(a b:List Pt),(Bq a b).length<=a.length+b.length
 | [],b=>by rw[Ey];simp
 | x::a,[]=>by rw[GY];simp
 | x::a,y::b=>by
  rw[Fp];have A:=Q2 a (y::b);have G:=Q2 (x::a) b;have h3:=Q2 a b;simp only[Aez]at *;split
  .simp only[Aez];omega
  .split
   .simp only[Aez];omega
   .simp only[Aez];omega
termination_by a b=>a.length+b.length
abbrev NO (x y:Sr):Prop:=BN x.ls y.ls<0
end TwW
end
section
namespace TwW
open Go Tw
theorem J9:∀(a b:List Sr),∀s∈IT a b,s∈a\/s∈b\/∃x∈a,∃y∈b,s=⟨x.ls,Bq x.ps y.ps⟩/\x.ls=y.ls
 | [],b=>λs A=>by rw[Tu]at A;exact .inr (.inl A)
 | x::a,[]=>λs A=>by rw[Q1]at A;exact .inl A
 | x::a,y::b=>λs A=>by
  rw[M0]at A;split at A
  .rcases Ae5.1 A with rfl|A
   .exact .inl (AfB ..)
   .rcases J9 a (y::b) s A with G|G|⟨w,G,v,h2,h3⟩
    .exact .inl (Aey _ G)
    .exact .inr (.inl G)
    .exact .inr (.inr ⟨w,Aey _ G,v,h2,h3⟩)
  .rename_i h;split at A
   .rcases Ae5.1 A with rfl|A
    .exact .inr (.inl (AfB ..))
    .rcases J9 (x::a) b s A with G|G|⟨w,G,v,h2,h3⟩
     .exact .inl G
     .exact .inr (.inl (Aey _ G))
     .exact .inr (.inr ⟨w,G,v,Aey _ h2,h3⟩)
   .rename_i h';rcases Ae5.1 A with rfl|A
    .exact .inr (.inr ⟨x,AfB ..,y,AfB ..,rfl,(Ax.eq _ _).1 (by omega)⟩)
    .rcases J9 a b s A with G|G|⟨w,G,v,h2,h3⟩
     .exact .inl (Aey _ G)
     .exact .inr (.inl (Aey _ G))
     .exact .inr (.inr ⟨w,Aey _ G,v,Aey _ h2,h3⟩)
termination_by a b=>a.length+b.length
theorem M4:∀(a b:List Sr),a.Pairwise NO->b.Pairwise NO->(IT a b).Pairwise NO
 | [],b,_,hb=>by rw[Tu];exact hb
 | x::a,[],ha,_=>by rw[Q1];exact ha
 | x::a,y::b,ha,hb=>by
  obtain⟨G,a2⟩:=Afb.1 ha;obtain⟨b1,b2⟩:=Afb.1 hb;rw[M0];split
  .rename_i h;refine Afb.2 ⟨λz hz=>?_,M4 a (y::b) a2 hb⟩;rcases J9 a (y::b) z hz with A|A|⟨w,A,v,h2,h3,_⟩
   .exact G z A
   .rcases Ae5.1 A with rfl|A
    .exact h
    .exact Ax.trans _ _ _ h (b1 z A)
   .subst h3;exact G w A
  .rename_i h;split
   .rename_i h';have h4:NO y x:=(Ax.TN _ _).2 h';refine Afb.2 ⟨λz hz=>?_,M4 (x::a) b ha b2⟩;rcases J9 (x::a) b z hz with A|A|⟨w,A,v,h2,h3,h5⟩
    .rcases Ae5.1 A with rfl|A
     .exact h4
     .exact Ax.trans _ _ _ h4 (G z A)
    .exact b1 z A
    .subst h3;show BN y.ls w.ls<0
     rw[h5];exact b1 v h2
   .rename_i h';have Ic:x.ls=y.ls:=(Ax.eq _ _).1 (by omega);refine Afb.2 ⟨λz hz=>?_,M4 a b a2 b2⟩;rcases J9 a b z hz with A|A|⟨w,A,v,h2,h3,h5⟩
    .exact G z A
    .show BN x.ls z.ls<0
     rw[Ic];exact b1 z A
    .subst h3;exact G w A
termination_by a b=>a.length+b.length
def Ez:List Sr->List Lb->Option (List Pt)
 | [],_=>none
 | s::M,k=>if s.ls=k then some s.ps else Ez M k
abbrev AMe (M:List Sr):Prop:=(M.map (·.ls)).Nodup
theorem I7:∀{M:List Sr} {k:List Lb},(∀s∈M,s.ls≠k)->Ez M k=none
 | [],_,_=>rfl
 | s::M,k,h=>by rw[Ez,Aeu (h s (by simp))];exact I7 λu A=>h u (Aey _ A)
theorem Ve:∀{M:List Sr} {k:List Lb} {p:List Pt},Ez M k=some p->(⟨k,p⟩:Sr)∈M
 | s::M,k,p,h=>by
  rw[Ez]at h;split at h
  .rename_i e;cases h;subst e;exact AfB ..
  .exact Aey _ (Ve h)
theorem vd:∀{M:List Sr} {s:Sr},AMe M->s∈M->Ez M s.ls=some s.ps
 | u::M,s,hn,A=>by
  obtain⟨G,h2⟩:=Afe.1 (show(u.ls::M.map (·.ls)).Nodup from hn);rw[Ez];rcases Ae5.1 A with rfl|A
  .rw[Aex rfl]
  .rw[Aeu λe=>G (by rw[e];exact AfC.2 ⟨s,A,rfl⟩)];exact vd h2 A
theorem PD {x y:Sr}(h:NO x y):x.ls≠y.ls:=λe=>by
 have:=(Ax.eq _ _).2 e;omega
theorem ve {M:List Sr}(h:M.Pairwise NO):AMe M:=AgD.2 (h.imp λh=>PD h)
theorem vf:∀{M N:List Sr},M.Pairwise NO->N.Pairwise NO->(∀k,Ez M k=Ez N k)->M=N
 | [],[],_,_,_=>rfl
 | [],s::N,_,_,h=>by have:=h s.ls;rw[Ez,Ez,Aex rfl]at this;cases this
 | s::M,[],_,_,h=>by have:=h s.ls;rw[Ez,Ez,Aex rfl]at this;cases this
 | x::M,y::N,hm,hn,h=>by
  obtain⟨m1,m2⟩:=Afb.1 hm;obtain⟨n1,n2⟩:=Afb.1 hn;have hx:Ez (y::N) x.ls=some x.ps:=by rw[<-h,Ez,Aex rfl]
  have hy:Ez (x::M) y.ls=some y.ps:=by rw[h,Ez,Aex rfl]
  have e:x.ls=y.ls:=by
   rcases Ae5.1 (Ve hx) with e|e
   .exact Ae4 Sr.ls e
   .rcases Ae5.1 (Ve hy) with A|A
    .exact(Ae4 Sr.ls A).symm
    .have h1:BN y.ls x.ls<0:=n1 _ e;have h2:BN x.ls y.ls<0:=m1 _ A;have:=(Ax.TN _ _).1 h1;omega
  have hp:x.ps=y.ps:=by
   rw[e,Ez,Aex rfl]at hx;exact(Option.some.inj hx).symm
  have Ic:x=y:=by cases x;cases y;simp only at e hp;rw[e,hp]
  subst Ic;rw[vf m2 n2 λk=>by
   by_cases G:x.ls=k
   .subst G;rw[I7 λs hs=>(PD (m1 s hs)).symm,I7 λs hs=>(PD (n1 s hs)).symm]
   .have:=h k;rw[Ez,Ez,Aeu G,Aeu G]at this;exact this]
theorem ag:∀(a b:List Sr),a.Pairwise NO->b.Pairwise NO->∀k,Ez (IT a b) k=match Ez a k,Ez b k with
  | none,o=>o
  | some p,none=>some p
  | some p,some q=>some (Bq p q)
 | [],b,_,_,k=>by rw[Tu];rfl
 | x::a,[],_,_,k=>by rw[Q1,show Ez [] k=none from rfl];cases Ez (x::a) k<;>rfl
 | x::a,y::b,ha,hb,k=>by
  obtain⟨a1,a2⟩:=Afb.1 ha;obtain⟨b1,b2⟩:=Afb.1 hb;rw[M0];split
  .rename_i h;rw[Ez,ag a (y::b) a2 hb k];by_cases A:x.ls=k
   .have e:Ez (y::b) k=none:=I7 λs G e=>by
     subst A;rcases Ae5.1 G with rfl|G
     .exact PD h e.symm
     .exact PD (Ax.trans _ _ _ h (b1 s G)) e.symm
    rw[Aex A,e,Ez,Aex A]
   .rw[Aeu A,show Ez (x::a) k=Ez a k by rw[Ez,Aeu A]]
  .rename_i h;split
   .rename_i h';have h4:NO y x:=(Ax.TN _ _).2 h';rw[Ez,ag (x::a) b ha b2 k];by_cases A:y.ls=k
    .have e:Ez (x::a) k=none:=I7 λs G e=>by
      subst A;rcases Ae5.1 G with rfl|G
      .exact PD h4 e.symm
      .exact PD (Ax.trans _ _ _ h4 (a1 s G)) e.symm
     rw[Aex A,e,Ez,Aex A]
    .rw[Aeu A,show Ez (y::b) k=Ez b k by rw[Ez,Aeu A]]
   .have Ic:x.ls=y.ls:=(Ax.eq _ _).1 (by omega);rw[Ez,ag a b a2 b2 k,Ez,Ez];by_cases A:x.ls=k
    .rw[Aex A,Aex A,Aex (Ic▸A)]
    .rw[Aeu A,Aeu A,Aeu (Ic▸A)]
termination_by a b=>a.length+b.length
theorem Q3:∀(a b:List Sr),(IT a b).length<=a.length+b.length
 | [],b=>by rw[Tu];simp
 | x::a,[]=>by rw[Q1];simp
 | x::a,y::b=>by
  rw[M0];have A:=Q3 a (y::b);have G:=Q3 (x::a) b;have h3:=Q3 a b;simp only[Aez]at A G h3 ⊢;split
  .simp only[Aez];omega
  .split<;>(simp only[Aez];omega)
termination_by a b=>a.length+b.length
end TwW
end
section
namespace TwW
open Go Tw Go.RowKit Go.Proofs.Tryz
theorem AGE:∀w,(Go.sizeOf 66).run prog w=.ok 2 w:=λw=>by kernel_rfl
theorem AGF {α:Type}{s:Nat}{E:Hp->List Value->α->Prop}{Z22:Hp}{p:Option Addr}{n c:Nat}{x:α}{xs:List α}(h:BB s E Z22 p n (x::xs))(hs:0<s)(A:n<=c):BB s E Z22 (ET p 1 c s) (n-1) xs:=by
 have G:(x::xs).length=n:=h.1;rw[Aez]at G;have:=BB.sub h (i:=1) (m:=n-1) hs (by omega) A;rwa[List.drop_succ_cons,Ago,Ae7 (by omega)]at this
section
variable {α:Type}{s bs:Nat}{E:Hp->List Value->α->Prop}{Z0 Z22:Hp}{p q:Option Addr}{n c m d:Nat}{xs zs:List α}
theorem Aa.AAx {T Et ty:TypeId}[MZ prog T Et s bs]{Φ:Value->Hp->Prop}(hE:Lq E)(h1:∀Z22 vs x,E Z22 vs x->Ej vs)(hs:0<s)(h:Aa s E Z0 Z22 p n c xs)(hy:BB s E Z0 q m zs)(hb:(n+m)*bs<=140737488355328)
  (hΦ:∀p' c' Z'2,Aa s E Z0 Z'2 p' (n+m) c' (xs++zs)->Φ (.slice p' (n+m) c') Z'2):AH prog (Builtin.append_ #[T,T] ty #[.slice p n c,.slice q m d]) Z22 Φ:=by
 obtain⟨⟨hl,cs,ho,hc⟩,G⟩:=h;obtain⟨hz,ys,hy1,oE,hy3⟩:=hy;have A:Ch s E Z0 ys zs:=⟨oE,hy3⟩;exact CF ho (hy1.mono (G.trans (Ext.B5 _ _))) (Ch.bn h1 A hs) hb λp' c' Z'2 Cq E4=>hΦ p' c' Z'2 ⟨⟨by rw[Aet,hl,hz],_,Cq,(hc.append (A.mono hE G)).mono hE E4⟩,G.trans E4⟩
end
section
variable {Z22:Hp}{R:Rr}
theorem ah {p q:Option Addr}{n c m d:Nat}{a b:List Pt}(hr:BB 2 Bp Z22 p n a)(hs:BB 2 Bp Z22 q m b)(Wp:n<=c)(Xf:m<=d)(Xo:n<=1000000000)(eA:m<=1000000000)
  (h:∀p' n' c' Z'2,Aa 2 Bp Z22 Z'2 p' n' c' (Bq a b)->R (.returned (.slice p' n' c')) Z'2):Spec prog 117 #[.slice p n c,.slice q m d] Z22 R:=by
 refine BU.start ?_
 suffices H:∀(g:Nat) (a' b':List Pt) (pa pb:Option Addr) (G ca nb cb:Nat) (O2:Hp) (p5:Option Addr) (n5 c5:Nat) (out:List Pt),a'.length+b'.length<=g->BB 2 Bp Z22 pa G a'->G<=ca->BB 2 Bp Z22 pb nb b'->nb<=cb->Aa 2 Bp Z22 O2 p5 n5 c5 out->n5+G+nb<=2000000000->out++Bq a' b'=Bq a b->BU.HT R pa G ca pb nb cb p5 n5 c5 O2 from
  H (a.length+b.length) a b p q n c m d Z22 none 0 0 [] (Ae1 _) hr Wp hs Xf (Aa.nil (.refl _)) (by omega) rfl
 intro g
 induction g with
 | zero=>
  intro a' b' pa pb G ca nb cb O2 p5 n5 c5 out hg ha hca hb hcb ho h5 he;have e1:a'=[]:=Ag0.1 (by omega);have e2:b'=[]:=Ag0.1 (by omega);subst e1;subst e2;have hna:0=G:=ha.1;subst hna;refine BU.CJ ⟨λhh=>absurd hh (by decide),λ_=>?_⟩;refine Aa.AAx Bp.mono Bp.one (by decide) ho ha (by omega) λp' c' Z'2 Cq=>⟨_,_,_,rfl,Aa.AAx Bp.mono Bp.one (by decide) Cq hb (by omega) λp2 c2 Z222 By=>⟨_,_,_,rfl,?_⟩⟩;rw[GY,AfG]at he;rw[AfG,AfG,he]at By;exact h _ _ _ _ By
 | succ g ih=>
  intro a' b' pa pb G ca nb cb O2 p5 n5 c5 out hg ha hca hb hcb ho h5 he;have CA:=ho.up;have hla:a'.length=G:=ha.1;have hlb:b'.length=nb:=hb.1;have tail:(a'=[]\/b'=[])->AH prog (Builtin.append_ #[61,61] 61 #[.slice p5 n5 c5,.slice pa G ca]) O2 (CS λY0 Y3 Y4 y=>AH prog (Builtin.append_ #[61,61] 61 #[.slice Y0 Y3 Y4,.slice pb nb cb]) y (CS λxu tK xv AG=>R (.returned (.slice xu tK xv)) AG)):=λuN=>by
   refine Aa.AAx Bp.mono Bp.one (by decide) ho ha (by omega) λp' c' Z'2 Cq=>⟨_,_,_,rfl,Aa.AAx Bp.mono Bp.one (by decide) Cq hb (by omega) λp2 c2 Z222 By=>⟨_,_,_,rfl,?_⟩⟩;have e:out++a'++b'=Bq a b:=by
    rw[<-he,Aew];rcases uN with rfl|rfl
    .rw[Ey];rfl
    .rw[GY,AfG]
   rw[e]at By;exact h _ _ _ _ By
  cases a' with
  | nil=>exact BU.CJ ⟨λhh=>by simp only[Afw]at hla;omega,λ_=>tail (.inl rfl)⟩
  | cons x a'=>
   cases b' with
   | nil=>exact BU.CJ ⟨λ_=>⟨λhh=>by simp only[Afw]at hlb;omega,λ_=>tail (.inr rfl)⟩,λ_=>tail (.inr rfl)⟩
   | cons y b'=>
    rw[Aez]at hla hlb;simp only[Aez]at hg;obtain⟨bx,ox,rfl,ov⟩:=Bp.at ha (i:=0) (x:=x) rfl;obtain⟨P5,oy,rfl,hly⟩:=Bp.at hb (i:=0) (x:=y) rfl;rw[AgZ,AgY]at ov hly;have lx:=ov.mono CA;have ly:=hly.mono CA;rw[Fp]at he;have ta:=AGF ha (by decide) hca;have tb:=AGF hb (by decide) hcb;have one:In 0 (G:Int):=by unfold In;omega
    have two:In 0 (nb:Int):=by unfold In;omega
    have push:∀(z:Pt) (O1:Hp) (a2 b2:List Pt) (pa2 pb2:Option Addr) (na2 ca2 nb2 cb2:Nat),Ext O2 O1->a2.length+b2.length<=g->BB 2 Bp Z22 pa2 na2 a2->na2<=ca2->BB 2 Bp Z22 pb2 nb2 b2->nb2<=cb2->na2+nb2+1<=G+nb->(out++[z])++Bq a2 b2=Bq a b->
      Al O1 λbb=>AH prog (Builtin.append_ #[61,61] 61 #[.slice p5 n5 c5,(.slice (aD bb 0) 1 1)]) (Hp.set O1 bb (.cells #[.I z.1,.U z.2] 66 (0,0))) (CS λp' n' c' AG=>BU.HT R pa2 na2 ca2 pb2 nb2 cb2 p' n' c' AG):=λz O1 a2 b2 pa2 pb2 na2 ca2 nb2 cb2 hx h1 h2 h3 h4 h6 h7 h8 bb hbb=>
     Aa.G8 (vs:=[.I z.1,.U z.2]) (x:=z) Bp.mono (ho.mono Bp.mono hx) rfl (Bp.one O1 _ z rfl) rfl (by omega) (λp' c' O'2 Cq _=>⟨_,_,_,rfl,ih a2 b2 pa2 pb2 na2 ca2 nb2 cb2 O'2 p' (n5+1) c' (out++[z]) h1 h2 h3 h4 h6 Cq (by omega) h8⟩) hbb
    have body:∀A:Nat,O2 A=none->AH prog (Instr.storeAt 66 (.pointer (aD A 0)) (.agg #[.I x.1,.U x.2])) (Hp.set O2 A (.cells #[.I 0,.U 0] 66 (0,0))) (λ_ yy=>Kp [P5] (Hp.set O2 A (.cells #[.I 0,.U 0] 66 (0,0))) yy/\LI .i64 yy A 0 λNG=>Br (NG<y.1) (∃dY dZ,Bm yy A 0 [.I dY,.U dZ]/\((0:Int)<=1/\1<=(G:Int))/\Al yy λgI=>AH prog (Builtin.append_ #[61,61] 61 #[.slice p5 n5 c5,(.slice (aD gI 0) 1 1)]) (Hp.set yy gI (.cells #[.I dY,.U dZ] 66 (0,0))) (CS λYw n46 c46 AG=>BU.HT R (ET (aD bx ox) 1 ca 2) (G-1) (ca-1) (aD P5 oy) nb cb Yw n46 c46 AG)) (LI .i64 yy A 0 λJH=>Br (y.1<JH) (((0:Int)<=1/\1<=(nb:Int))/\Al yy λHK=>AH prog (Builtin.append_ #[61,61] 61 #[.slice p5 n5 c5,(.slice (aD HK 0) 1 1)]) (Hp.set yy HK (.cells #[.I y.1,.U y.2] 66 (0,0))) (CS λbC bD bE AG=>BU.HT R (aD bx ox) G ca (ET (aD P5 oy) 1 cb 2) (nb-1) (cb-1) bC bD bE AG)) (LI .i64 yy A 0 λEJ=>LI .u64 yy A 1 λJj=>((0:Int)<=1/\1<=(G:Int))/\((0:Int)<=1/\1<=(nb:Int))/\Al yy λF8=>AH prog (Builtin.append_ #[61,61] 61 #[.slice p5 n5 c5,(.slice (aD F8 0) 1 1)]) (Hp.set yy F8 (.cells #[.I EJ,(.U (if Jj<y.2 then y.2 else Jj))] 66 (0,0))) (CS λp32 n32 c32 AG=>BU.HT R (ET (aD bx ox) 1 ca 2) (G-1) (ca-1) (ET (aD P5 oy) 1 cb 2) (nb-1) (cb-1) p32 n32 c32 AG)))):=λA h6=>by
     refine AH.jQ (O2:=O2) (L:=[(A,.cells #[.I 0,.U 0] 66 (0,0))]) (i:=0) (c:=#[.I 0,.U 0]) (c':=#[.I x.1,.U x.2]) AGE (by simp[names]) rfl rfl rfl rfl rfl ?_;have x6:Ext O2 (CE O2 (([(A,Obj.cells #[.I 0,.U 0] 66 (0,0))]:List (Nat×Obj)).set 0 (A,Obj.cells #[.I x.1,.U x.2] 66 (0,0)))):=Ext.set h6;have g6:(CE O2 (([(A,Obj.cells #[.I 0,.U 0] 66 (0,0))]:List (Nat×Obj)).set 0 (A,Obj.cells #[.I x.1,.U x.2] 66 (0,0)))) A=some (.cells #[.I x.1,.U x.2] 66 (0,0)):=Hp.AA _ _ _;generalize hy1:CE O2 (([(A,Obj.cells #[.I 0,.U 0] 66 (0,0))]:List (Nat×Obj)).set 0 (A,Obj.cells #[.I x.1,.U x.2] 66 (0,0)))=y1 at *;have l0:Hp.ld y1 ⟨A,0,none⟩=some (.I x.1):=AD g6 rfl;have l1:Hp.ld y1 ⟨A,1,none⟩=some (.U x.2):=AD g6 rfl;refine⟨λk hk u hu=>?_,x.1,l0,λAq=>?_,λIb=>⟨x.1,l0,λhgt=>?_,λhle=>⟨x.1,l0,x.2,l1,?_⟩⟩⟩
     .rw[Aev]at hk;subst hk;have AR:k≠A:=λe=>by
       have:=ly.1;rw[e]at this;simp[Hp.ld,h6]at this
      rw[Hp.AB AR]at hu;exact x6 _ _ hu
     .rw[Aex Aq]at he;refine⟨x.1,x.2,Bm.of_cells (c:=[.I x.1,.U x.2]) g6,⟨by decide,by omega⟩,?_⟩;exact push x y1 a' (y::b') _ _ _ _ _ _ x6 (by rw[Aez];omega) ta (by omega) hb hcb (by omega) (by rw[Aew];exact he)
     .rw[Aeu Ib,Aex hgt]at he;exact⟨⟨by decide,by omega⟩,push y y1 (x::a') b' _ _ _ _ _ _ x6 (by rw[Aez];omega) ha hca tb (by omega) (by omega) (by rw[Aew];exact he)⟩
     .rw[Aeu Ib,Aeu hle]at he;exact⟨⟨by decide,by omega⟩,⟨by decide,by omega⟩,push (x.1,if x.2<y.2 then y.2 else x.2) y1 a' b' _ _ _ _ _ _ x6 (by omega) ta (by omega) tb (by omega) (by omega) (by rw[Aew];exact he)⟩
    exact BU.CJ ⟨λ_=>⟨λ_=>⟨bx,ox,rfl,one,x.1,x.2,lx,P5,oy,rfl,two,y.1,y.2,ly,λA h6 _=>body A h6,λ_ A h6=>body A h6⟩,λhh=>by omega⟩,λhh=>by omega⟩
theorem TA {p q:Option Addr}{n c m d b3 b7:Nat}{ls:List Lb}{ps:List Pt}{G:Option Addr->Nat->Nat->Option Addr->Nat->Nat->Hp->Prop}(hl:I1 Z22 p n ls)(hp:BB 2 Bp Z22 q m ps)(hn:n<=1000000000)(hm:m<=1000000000)
  (h:∀p' c' q' d' Z'2,I1 (Z22.new Z'2) p' n ls->BB 2 Bp (Z22.new Z'2) q' m ps->m<=d'->Ext Z22 Z'2->G p' n c' q' m d' Z'2) (h7:Z22 b7=none) (h3:(Z22.set b7 (.cells #[] 66 (0,0))) b3=none) :
  AH prog (Builtin.append_ #[51,51] 51 #[(.slice (aD b3 0) 0 0),.slice p n c]) ((Z22.set b7 (.cells #[] 66 (0,0))).set b3 (.cells #[] 95 (0,0))) (CS λp6 n6 c6 y=>AH prog (Builtin.append_ #[61,61] 61 #[(.slice (aD b7 0) 0 0),.slice q m d]) y (CS λJQ n10 IU AG=>G p6 n6 c6 JQ n10 IU AG)):=by
 have x7:=Ext.set (o:=.cells #[] 66 (0,0)) h7;obtain⟨eA,cs,WJ,bV⟩:=hp;refine Gw (hl.mono Eh.mono x7) hn (λp' c' Z222 By BD=>⟨_,_,_,rfl,?_⟩) h3;have jw:=x7.trans BD;refine CF (Own.mono BD Own.empty) (WJ.mono jw) (Ch.bn Bp.one bV (by decide)) (by omega) λq' d' Z3 A Ev=>?_;have hq:∀a:Addr,(some (⟨b7,0,none⟩:Addr))=some a->Z22 a.block=none:=λa ha=>by cases ha;exact h7
 rw[AfW]at A ⊢;rw[AgG]at A;refine⟨_,_,_,rfl,h p' c' q' d' Z3 ?_ ⟨eA,cs,Own.rd (Own.HL A (EC hq Ev jw)),bV.1,λi x hx=>bV.2 i x hx⟩ (Own.cap A) (Ek hq Ev jw)⟩;refine(By.rd Eh.mono).mono Eh.mono λk u hk=>?_;obtain⟨k1,k2⟩:=AW.1 hk;obtain⟨k3,k4⟩:=Hp.HD k1;have:=Ev k u (AF.2 ⟨λa ha=>by cases ha;exact k3,k2⟩);exact AW.2 ⟨k4,(AF.1 this).2⟩
theorem AAy {p q:Option Addr}{n c m d:Nat}{ls:List Lb}{ps:List Pt}{G:Option Addr->Nat->Nat->Option Addr->Nat->Nat->Hp->Prop}(hl:I1 Z22 p n ls)(hp:BB 2 Bp Z22 q m ps)(hn:n<=1000000000)(hm:m<=1000000000)
  (h:∀p' c' q' d' Z'2,I1 (Z22.new Z'2) p' n ls->BB 2 Bp (Z22.new Z'2) q' m ps->m<=d'->Ext Z22 Z'2->G p' n c' q' m d' Z'2) :
  (Al Z22 λHR=>(AH prog (Builtin.append_ #[51,51] 51 #[(.slice (aD HR 0) 0 0),.slice p n c]) (Hp.set Z22 HR (.cells #[] 95 (0,0))) (CS λbJ A bK y=>Al y λHj=>AH prog (Builtin.append_ #[61,61] 61 #[(.slice (aD Hj 0) 0 0),.slice q m d]) (Hp.set y Hj (.cells #[] 66 (0,0))) (CS λIA n20 c20 AG=>G bJ A bK IA n20 c20 AG)))/\(Al (Hp.set Z22 HR (.cells #[] 95 (0,0))) λHj=>AH prog (Builtin.append_ #[51,51] 51 #[(.slice (aD HR 0) 0 0),.slice p n c]) (Hp.set (Hp.set Z22 HR (.cells #[] 95 (0,0))) Hj (.cells #[] 66 (0,0))) (CS λbJ A bK y=>AH prog (Builtin.append_ #[61,61] 61 #[(.slice (aD Hj 0) 0 0),.slice q m d]) y (CS λIA n20 c20 AG=>G bJ A bK IA n20 c20 AG))))/\
  (Al Z22 λHj=>Al (Hp.set Z22 Hj (.cells #[] 66 (0,0))) λHR=>AH prog (Builtin.append_ #[51,51] 51 #[(.slice (aD HR 0) 0 0),.slice p n c]) (Hp.set (Hp.set Z22 Hj (.cells #[] 66 (0,0))) HR (.cells #[] 95 (0,0))) (CS λbJ A bK y=>AH prog (Builtin.append_ #[61,61] 61 #[(.slice (aD Hj 0) 0 0),.slice q m d]) y (CS λIA n20 c20 AG=>G bJ A bK IA n20 c20 AG))):=by
 refine⟨λb3 h3=>⟨?_,λb7 h7=>?_⟩,λb7 h7 b3 h3=>TA hl hp hn hm h h7 h3⟩
 .refine Gw hl hn (λp' c' Z222 By BD=>⟨_,_,_,rfl,λb7 h7=>?_⟩) h3;obtain⟨eA,cs,WJ,bV⟩:=hp;refine Xg (WJ.mono BD) (Ch.bn Bp.one bV (by decide)) (by omega) (λq' d' Z3 DG Ev=>⟨_,_,_,rfl,?_⟩) h7;exact h p' c' q' d' Z3 ((By.rd Eh.mono).mono Eh.mono (Ext.E7 Ev)) ⟨eA,cs,(Own.rd DG).mono (Ext.Hq BD),bV.1,λi x hx=>bV.2 i x hx⟩ (Own.cap DG) (BD.trans Ev)
 .obtain⟨e1,e2⟩:=Hp.HD h7;rw[Hp.GI (AfT e1)];exact TA hl hp hn hm h e2 (by rw[Hp.AB (AfT e1)];exact h3)
theorem jx {p:Option Addr}{n c:Nat}{ss:List Sr}(hr:BB 2 CW Z22 p n ss)(hn:n<=2900000000000)(hS:∀s∈ss,s.ls.length<=1000000000/\s.ps.length<=1000000000)(h:∀p' c' Z'2,BB 2 CW Z'2 p' n ss->n<=c'->Ext Z22 Z'2->R (.returned (.slice p' n c')) Z'2):Spec prog 118 #[.slice p n c] Z22 R:=by
 have hl:ss.length=n:=hr.1;refine Ff.start ?_
 suffices H:∀g i:Nat,∀p3 n3 c3 Z'2,n-i=g->i<=n->Aa 2 CW Z22 Z'2 p3 n3 c3 (ss.take i)->Ff.A3 R p3 n3 c3 p n c n i Z'2 from H n 0 none 0 0 Z22 rfl (AfI _) (Aa.nil (.refl _))
 intro g
 induction g with
 | zero=>
  intro i p3 n3 c3 Z'2 hg hi A;rw[Ae7 (by omega)]at A;have hn3:n=n3:=hl.symm.trans A.1.1;subst hn3;exact Ff.AY ⟨λAq=>by omega,λ_=>h p3 c3 Z'2 (A.rd CW.mono) (by obtain⟨cs,WD,_⟩:=A.1.2;exact Own.cap WD) A.up⟩
 | succ g ih=>
  intro i p3 n3 c3 Z'2 hg hi A;have IN:i<n:=by omega
  obtain⟨x,hx⟩:=hr.ex IN;obtain⟨b,o,p1,k1,c1,q1,m1,d1,rfl,Dt,I2,U6,Xf⟩:=CW.at hr hx;obtain⟨a1,a2⟩:=hS x (Ae2 hx);have a3:x.ls.length=k1:=I2.1;have a4:x.ps.length=m1:=U6.1;have hn3:n3=i:=by have:=A.1.1;rw[AfE]at this;omega
  refine Ff.AY ⟨λ_=>⟨b,o,rfl,by unfold In;omega,p1,k1,c1,q1,m1,d1,by simpa using Dt.mono A.up,λ_=>AAy (G:=λbJ n16 bK IA n20 c20 AG=>Al AG λUf=>AH prog (Builtin.append_ #[44,44] 44 #[.slice p3 n3 c3,(.slice (aD Uf 0) 1 1)]) (Hp.set AG Uf (.cells #[.slice bJ n16 bK,.slice IA n20 c20] 63 (0,0))) (CS λUg n23 SP AQ=>AK ((i:Int)+1)/\Ff.A3 R Ug n23 SP (aD b o) n c n ((i:Int)+1) AQ)) (I2.mono Eh.mono A.up) (U6.mono Bp.mono A.up) (by omega) (by omega) λp4 c4 p5 c5 Z3 Ta hr3 hd3 Ev Uf ATl=>?_⟩,λhh=>by omega⟩;have DG:=A.mono CW.mono Ev;have he:CW (Z3.del p3) [.slice p4 k1 c4,.slice p5 m1 c5] x:=⟨p4,k1,c4,p5,m1,c5,rfl,Ta.mono Eh.mono (A.new Ev),hr3.mono Bp.mono (A.new Ev),hd3⟩;refine Aa.G8 CW.mono DG rfl (CW.one _ _ _ he) he (by omega) (λp' c' Z4 Tn _=>⟨_,_,_,rfl,E8 IN hr.big,?_⟩) ATl;have:=ih (i+1) p' (n3+1) c' Z4 (by omega) (by omega) (by rw[AL hx];exact Tn);rw[show((i+1:Nat):Int)=(i:Int)+1 by omega]at this;exact this
end
end TwW
end
section
namespace TwW
open Go Tw Go.MapKept Go.RowKit Go.Proofs.Tryz
section
variable {Z22 Z'2 Z222:Hp}{T T' T2:JX}{hb m3 m4 x b q q' e:Nat}{lim:Int}{Z:List (Sr×Nat)}{o:Obj}{t:Tag}{ls:List Lb}{s:Sr}
theorem Az:Z22.kp T x=some o↔T x=some .k/\Z22 x=some o:=by
 unfold Hp.kp
 constructor
 .intro h;split at h
  .exact⟨by assumption,h⟩
  .cases h
 .rintro⟨A,G⟩
  rw[A];exact G
theorem AZ:Z22.rest T x=some o↔T x=none/\Z22 x=some o:=by
 unfold Hp.rest
 constructor
 .intro h;split at h
  .exact⟨by assumption,h⟩
  .cases h
 .rintro⟨A,G⟩
  rw[A];exact G
theorem Ext.DF:Ext (Z22.rest T) Z22:=λ_ _ h=>(AZ.1 h).2
theorem AGG (A:∀x t,T x=some t->t.fx=true->Z'2 x=Z22 x)(G:∀x t,T x=some t->t.fx=true->T' x=some t):Ext (Z22.kp T) (Z'2.kp T'):=λx o h=>by
 obtain⟨a,b⟩:=Az.1 h;exact Az.2 ⟨G x _ a rfl,by rw[A x _ a rfl];exact b⟩
structure Mv (Z22:Hp)(T:JX)(Z'2:Hp)(T':JX):Prop where
 rest:Ext (Z22.rest T) (Z'2.rest T')
 tag:∀x t,T x=some t->t.fx=true->T' x=some t
 fix:∀x t,T x=some t->t.fx=true->Z'2 x=Z22 x
theorem Mv.refl:Mv Z22 T Z22 T:=⟨.refl _,λ_ _ h _=>h,λ_ _ _ _=>rfl⟩
theorem Mv.trans (h:Mv Z22 T Z'2 T')(h2:Mv Z'2 T' Z222 T2):Mv Z22 T Z222 T2:=⟨h.rest.trans h2.rest,λx t G A=>h2.tag x t (h.tag x t G A) A,λx t G A=>(h2.fix x t (h.tag x t G A) A).trans (h.fix x t G A)⟩
theorem Mv.kp (h:Mv Z22 T Z'2 T'):Ext (Z22.kp T) (Z'2.kp T'):=AGG h.fix h.tag
theorem Mv.ext (kn:∀x,T x≠none->Z22 x≠none)(h:Ext Z22 Z'2):Mv Z22 T Z'2 T:=⟨λx o A=>AZ.2 ⟨(AZ.1 A).1,h _ _ (AZ.1 A).2⟩,λ_ _ h _=>h,λx t A _=>by
 cases G:Z22 x with
 | none=>exact absurd G (kn x (by rw[A];simp))
 | some o=>exact h _ _ G⟩
theorem Mv.set (hb:T b=some t)(ht:t.fx=false):Mv Z22 T (Z22.set b o) T:=⟨λx u A=>by
 obtain⟨G,h2⟩:=AZ.1 A;exact AZ.2 ⟨G,by rw[Hp.AB (λe=>by rw[e,hb]at G;cases G)];exact h2⟩,λ_ _ h _=>h,λx u A hu=>Hp.AB λe=>by
  rw[e,hb]at A;cases A;rw[ht]at hu;cases hu⟩
theorem Mv.new (hn:Z22 b=none)(hT:T b=none):Mv Z22 T (Z22.set b o) (Ho T b t):=by
 have AR:∀x u,T x=some u->x≠b:=λx u A e=>by rw[e,hT]at A;cases A
 refine⟨λx u A=>?_,λx u A _=>(CH (AR x u A)).trans A,λx u A _=>Hp.AB (AR x u A)⟩;obtain⟨h1,G⟩:=AZ.1 A;have e:x≠b:=λe=>by rw[e,hn]at G;cases G
 exact AZ.2 ⟨(CH e).trans h1,by rw[Hp.AB e];exact G⟩
def vg (Z22:Hp)(T:JX)(s:Sr)(e:Nat):Prop:=∃p n c r m d,Z22 e=some (.cells #[.slice p n c,.slice r m d] 185 (0,0))/\I1 (Z22.kp T) p n s.ls/\B6 2 Bp Z22 r m d s.ps/\∀a,r=some a->T a.block=some (.q s.ls)
theorem ADD {p:Option Addr}{n c:Nat}{ps:List Pt}(h:B6 2 Bp Z22 p n c ps)(hs:∀a,p=some a->Z'2 a.block=Z22 a.block):B6 2 Bp Z'2 p n c ps:=by
 obtain⟨G,cs,h2,A⟩:=h;exact⟨G,cs,Own.here h2 hs,A.1,λk x hx=>A.2 k x hx⟩
theorem vg.step (h:vg Z22 T s e)(hk:Ext (Z22.kp T) (Z'2.kp T'))(he:Z'2 e=Z22 e)(hq:∀x,T x=some (.q s.ls)->Z'2 x=Z22 x/\T' x=some (.q s.ls)):vg Z'2 T' s e:=by
 obtain⟨p,n,c,r,m,d,h1,h2,h3,G⟩:=h;exact⟨p,n,c,r,m,d,he.trans h1,h2.mono Eh.mono hk,ADD h3 λa A=>(hq _ (G a A)).1,λa A=>(hq _ (G a A)).2⟩
def Inn (Z22:Hp)(q j:Nat):Prop:=∃L,MS (λv (n:Int)=>v=.I n/\0<=n/\n<=q) Z22 j L
theorem Inn.loc {j:Nat}(h:Inn Z22 q j)(A:Z'2 j=Z22 j):Inn Z'2 q j:=let ⟨L,hL⟩:=h;⟨L,hL.loc A⟩
theorem Inn.up {j:Nat}(h:Inn Z22 q j)(A:q<=q'):Inn Z22 q' j:=let ⟨L,hL⟩:=h;⟨L,hL.imp λv x ⟨a,b,c⟩=>⟨a,b,by omega⟩⟩
structure DZ (Z22:Hp)(T:JX)(hb m3 m4:Nat)(lim:Int)(Z:List (Sr×Nat))(q:Nat):Prop where
 kn:∀x,T x≠none->Z22 x≠none
 box:(Z22.kp T) hb=some (.cells #[.map (some m3),.map (some m4),.I lim] 175 (0,0))
 tb:T m3=some .b
 tp:T m4=some .p
 P5:MS yK Z22 m3 (Z.map λz=>(Bf z.1.ls,z.2))
 post:∃l clock,NN Z22 m4 l clock/\∀x∈l,∃j,x.val=.map (some j)/\T j=some .i
 yM:∀j,T j=some .i->Inn Z22 q j
 CP:∀z∈Z,T z.2=some (.e z.1.ls)/\vg Z22 T z.1 z.2
 ok:∀z∈Z,BE z.1.ls/\z.1.ps.length<=q
 nd:(Z.map (·.1.ls)).Nodup
theorem DZ.ADF (h:DZ Z22 T hb m3 m4 lim Z q)(A:∀x t,T x=some t->t.hd=true->Z'2 x=Z22 x)(G:∀x t,T x=some t->t.hd=true->T' x=some t)(hi:∀x,T' x=some .i->T x=some .i)(kn:∀x,T' x≠none->Z'2 x≠none):DZ Z'2 T' hb m3 m4 lim Z q:=by
 have hk:Ext (Z22.kp T) (Z'2.kp T'):=λx o hx=>by
  obtain⟨a,b⟩:=Az.1 hx;exact Az.2 ⟨G x _ a rfl,by rw[A x _ a rfl];exact b⟩
 refine⟨kn,hk _ _ h.box,G _ _ h.tb rfl,G _ _ h.tp rfl,h.P5.loc (A _ _ h.tb rfl),?_,λj hj=>(h.yM j (hi j hj)).loc (A _ _ (hi j hj) rfl),λz hz=>?_,h.ok,h.nd⟩
 .obtain⟨l,c,h1,h2⟩:=h.post;exact⟨l,c,h1.loc (A _ _ h.tp rfl),λx hx=>let ⟨j,a,b⟩:=h2 x hx;⟨j,a,G _ _ b rfl⟩⟩
 .obtain⟨h1,h2⟩:=h.CP z hz;exact⟨G _ _ h1 rfl,h2.step hk (A _ _ h1 rfl) λx hx=>⟨A _ _ hx rfl,G _ _ hx rfl⟩⟩
theorem DZ.step (h:DZ Z22 T hb m3 m4 lim Z q)(A:∀x t,T x=some t->t.hd=true->Z'2 x=Z22 x)(G:∀x t,T x=some t->T' x=some t)(hi:∀x,T' x=some .i->T x=some .i)(kn:∀x,T' x≠none->Z'2 x≠none):DZ Z'2 T' hb m3 m4 lim Z q:=
 h.ADF A (λx t hx _=>G x t hx) hi kn
theorem DZ.ext (h:DZ Z22 T hb m3 m4 lim Z q)(hx:Ext Z22 Z'2):DZ Z'2 T hb m3 m4 lim Z q:=by
 have e:∀x,T x≠none->Z'2 x=Z22 x:=λx A=>by
  cases G:Z22 x with
  | none=>exact absurd G (h.kn x A)
  | some o=>exact hx _ _ G
 exact h.step (λx t ht _=>e x (by rw[ht];simp)) (λ_ _ h=>h) (λ_ h=>h) λx A=>by rw[e x A];exact h.kn x A
theorem DZ.mv (h:DZ Z22 T hb m3 m4 lim Z q)(A:Ext Z22 Z'2):Mv Z22 T Z'2 T:=.ext h.kn A
theorem DZ.off (h:DZ Z22 T hb m3 m4 lim Z q)(G:Z22 b=none):T b=none:=by
 cases A:T b with
 | none=>rfl
 | some t=>exact absurd G (h.kn b (by rw[A];simp))
theorem DZ.new (h:DZ Z22 T hb m3 m4 lim Z q)(hn:Z22 b=none)(ht:t≠.i):DZ (Z22.set b o) (Ho T b t) hb m3 m4 lim Z q:=by
 have G:∀x u,T x=some u->x≠b:=λx u A e=>by rw[e,h.off hn]at A;cases A
 refine h.step (λx u A _=>Hp.AB (G x u A)) (λx u A=>(CH (G x u A)).trans A) (λx A=>?_) λx A=>?_
 .by_cases e:x=b
  .rw[e,EH]at A;cases A;exact absurd rfl ht
  .rwa[CH e]at A
 .by_cases e:x=b
  .rw[e,Hp.AA];simp
  .rw[CH e]at A;rw[Hp.AB e];exact h.kn x A
theorem DZ.up (h:DZ Z22 T hb m3 m4 lim Z q)(A:q<=q'):DZ Z22 T hb m3 m4 lim Z q':=
 ⟨h.kn,h.box,h.tb,h.tp,h.P5,h.post,λj hj=>(h.yM j hj).up A,h.CP,λz G=>⟨(h.ok z G).1,AfU (h.ok z G).2 A⟩,h.nd⟩
theorem DZ.knS (h:DZ Z22 T hb m3 m4 lim Z q){b:Nat}:∀x,T x≠none->(Z22.set b o) x≠none:=λx A=>by
 by_cases e:x=b
 .rw[e,Hp.AA];simp
 .rw[Hp.AB e];exact h.kn x A
theorem C9 {x y:Nat}{a c:Tag}(A:T x=some a)(G:T y=some c)(h:a≠c):x≠y:=λe=>by rw[e,G]at A;cases A;exact h rfl
theorem R5 (hb:T b=some t)(A:t.fx=false):Ext (Z22.kp T) ((Z22.set b o).kp T):=(Mv.set hb A).kp
theorem DZ.AGH (h:DZ Z22 T hb m3 m4 lim Z q){l:List MapEntry}{clock:Nat}(hm:NN (Z22.set m4 o) m4 l clock)(hv:∀x∈l,∃j,x.val=.map (some j)/\T j=some .i):DZ (Z22.set m4 o) T hb m3 m4 lim Z q:=by
 have ne:∀x t,T x=some t->t≠.p->(Z22.set m4 o) x=Z22 x:=λx t A ht=>Hp.AB (C9 A h.tp ht);refine⟨h.knS,R5 h.tp rfl _ _ h.box,h.tb,h.tp,h.P5.loc (ne _ _ h.tb (by simp)),⟨l,clock,hm,hv⟩,λj hj=>(h.yM j hj).loc (ne _ _ hj (by simp)),λz hz=>?_,h.ok,h.nd⟩;obtain⟨G,h2⟩:=h.CP z hz;exact⟨G,h2.step (R5 h.tp rfl) (ne _ _ G (by simp)) λx A=>⟨ne _ _ A (by simp),A⟩⟩
theorem DZ.AGI (h:DZ Z22 T hb m3 m4 lim Z q){j:Nat}(hj:T j=some .i)(ho:Inn (Z22.set j o) q j):DZ (Z22.set j o) T hb m3 m4 lim Z q:=by
 have ne:∀x t,T x=some t->t≠.i->(Z22.set j o) x=Z22 x:=λx t G ht=>Hp.AB (C9 G hj ht);refine⟨h.knS,R5 hj rfl _ _ h.box,h.tb,h.tp,h.P5.loc (ne _ _ h.tb (by simp)),?_,λy hy=>?_,λz hz=>?_,h.ok,h.nd⟩
 .obtain⟨l,c,A,h2⟩:=h.post;exact⟨l,c,A.loc (ne _ _ h.tp (by simp)),h2⟩
 .by_cases e:y=j
  .rw[e];exact ho
  .exact(h.yM y hy).loc (Hp.AB e)
 .obtain⟨A,h2⟩:=h.CP z hz;exact⟨A,h2.step (R5 hj rfl) (ne _ _ A (by simp)) λx G=>⟨ne _ _ G (by simp),G⟩⟩
theorem DZ.ATm (h:DZ Z22 T hb m3 m4 lim Z q){j:Nat}(hn:Z22 j=none):DZ (Z22.set j (.map #[] 0)) (Ho T j .i) hb m3 m4 lim Z q:=by
 have G:DZ (Z22.set j (.map #[] 0)) (Ho T j .s) hb m3 m4 lim Z q:=h.new hn (by simp);have AR:∀x,x≠j->Ho T j .i x=Ho T j .s x:=λx A=>by rw[CH A,CH A]
 have tag:∀x t,Ho T j .s x=some t->t≠.s->Ho T j .i x=some t:=λx t A ht=>by
  by_cases e:x=j
  .rw[e,EH]at A;cases A;exact absurd rfl ht
  .rw[AR x e];exact A
 have hk:Ext ((Z22.set j (.map #[] 0)).kp (Ho T j .s)) ((Z22.set j (.map #[] 0)).kp (Ho T j .i)):=λx o A=>by
  obtain⟨a,b⟩:=Az.1 A;exact Az.2 ⟨tag x _ a (by simp),b⟩
 refine⟨λx A=>?_,hk _ _ G.box,tag _ _ G.tb (by simp),tag _ _ G.tp (by simp),G.P5,?_,λy hy=>?_,λz hz=>?_,h.ok,h.nd⟩
 .by_cases e:x=j
  .rw[e,Hp.AA];simp
  .rw[AR x e]at A;exact G.kn x A
 .obtain⟨l,c,a,b⟩:=G.post;exact⟨l,c,a,λx A=>let ⟨y,u,v⟩:=b x A;⟨y,u,tag _ _ v (by simp)⟩⟩
 .by_cases e:y=j
  .rw[e];exact⟨[],MS.fresh⟩
  .rw[AR y e]at hy;exact G.yM y hy
 .obtain⟨a,b⟩:=G.CP z hz;exact⟨tag _ _ a (by simp),b.step hk rfl λx A=>⟨rfl,tag _ _ A (by simp)⟩⟩
theorem DZ.YY (h:DZ Z22 T hb m3 m4 lim Z q){Y:List (Sr×Nat)}(ho:MS yK (Z22.set m3 o) m3 (Y.map λz=>(Bf z.1.ls,z.2)))(hY:∀z∈Y,z∈Z\/(T z.2=some (.e z.1.ls)/\vg Z22 T z.1 z.2/\BE z.1.ls/\z.1.ps.length<=q))(hn:(Y.map (·.1.ls)).Nodup):DZ (Z22.set m3 o) T hb m3 m4 lim Y q:=by
 have ne:∀x t,T x=some t->t≠.b->(Z22.set m3 o) x=Z22 x:=λx t G ht=>Hp.AB (C9 G h.tb ht);refine⟨h.knS,R5 h.tb rfl _ _ h.box,h.tb,h.tp,ho,?_,λj hj=>(h.yM j hj).loc (ne _ _ hj (by simp)),λz hz=>?_,λz hz=>(hY z hz).elim (h.ok z) (·.2.2),hn⟩
 .obtain⟨l,c,A,h2⟩:=h.post;exact⟨l,c,A.loc (ne _ _ h.tp (by simp)),h2⟩
 .obtain⟨A,h2⟩:T z.2=some (.e z.1.ls)/\vg Z22 T z.1 z.2:=(hY z hz).elim (h.CP z) λh=>⟨h.1,h.2.1⟩;exact⟨A,h2.step (R5 h.tb rfl) (ne _ _ A (by simp)) λx G=>⟨ne _ _ G (by simp),G⟩⟩
theorem Vf {α β:Type}{f:α->β}:∀{l:List α},(l.map f).Nodup->∀a∈l,∀b∈l,f a=f b->a=b
 | [],_,a,ha,_,_,_=>by cases ha
 | x::l,h,a,ha,b,hb,e=>by
  rw[AfN,Afe]at h;rcases Ae5.1 ha with ea|A
  .rcases Ae5.1 hb with eb|G
   .rw[ea,eb]
   .exact absurd (AfC.2 ⟨b,G,by rw[<-e,ea]⟩) h.1
  .rcases Ae5.1 hb with eb|G
   .exact absurd (AfC.2 ⟨a,A,by rw[e,eb]⟩) h.1
   .exact Vf h.2 a A b G e
def Q4 (Z:List (Sr×Nat))(ls:List Lb)(ps:List Pt):List (Sr×Nat):=Z.map λz=>if z.1.ls=ls then(⟨ls,ps⟩,z.2) else z
theorem DZ.pts (h:DZ Z22 T hb m3 m4 lim Z q){z:Sr×Nat}{ps:List Pt}(hz:z∈Z)(hσ:∀x t,T x=some t->t.hd=true->x≠z.2->t≠.q z.1.ls->Z'2 x=Z22 x)(hT:∀x t,T x=some t->t≠.q z.1.ls->T' x=some t)(hi:∀x,T' x=some .i->T x=some .i)(kn:∀x,T' x≠none->Z'2 x≠none)
  (hE:vg Z'2 T' ⟨z.1.ls,ps⟩ z.2) (hp:ps.length<=q):DZ Z'2 T' hb m3 m4 lim (Q4 Z z.1.ls ps) q:=by
 have te:=(h.CP z hz).1;have ne:∀x t,T x=some t->t.hd=true->t≠.e z.1.ls->t≠.q z.1.ls->Z'2 x=Z22 x:=λx t G hd h1 h2=>hσ x t G hd (C9 G te h1) h2;have hk:Ext (Z22.kp T) (Z'2.kp T'):=λx o G=>by
  obtain⟨a,b⟩:=Az.1 G;exact Az.2 ⟨hT x _ a (by simp),by rw[ne x _ a rfl (by simp) (by simp)];exact b⟩
 have I2:(Q4 Z z.1.ls ps).map (·.1.ls)=Z.map (·.1.ls):=by
  unfold Q4;rw[Afg];refine Af8 λy _=>?_;simp only[Function.comp];split<;>simp_all
 have ATn:(Q4 Z z.1.ls ps).map (λz=>(Bf z.1.ls,z.2))=Z.map λz=>(Bf z.1.ls,z.2):=by
  unfold Q4;rw[Afg];refine Af8 λy _=>?_;simp only[Function.comp];split<;>simp_all
 have each:∀y∈Q4 Z z.1.ls ps,(y=(⟨z.1.ls,ps⟩,z.2))\/(y∈Z/\y.1.ls≠z.1.ls):=λy A=>by
  unfold Q4 at A;obtain⟨u,hu,rfl⟩:=AfC.1 A;split
  .rename_i e
   left;rw[Vf h.nd u hu z hz e]
  .rename_i e;exact .inr ⟨hu,e⟩
 refine⟨kn,hk _ _ h.box,hT _ _ h.tb (by simp),hT _ _ h.tp (by simp),by rw[ATn];exact h.P5.loc (ne _ _ h.tb rfl (by simp) (by simp)),?_,λj hj=>(h.yM j (hi j hj)).loc (ne _ _ (hi j hj) rfl (by simp) (by simp)),λy A=>?_,λy A=>?_,by rw[I2];exact h.nd⟩
 .obtain⟨l,c,h1,h2⟩:=h.post;exact⟨l,c,h1.loc (ne _ _ h.tp rfl (by simp) (by simp)),λx G=>let ⟨j,a,b⟩:=h2 x G;⟨j,a,hT _ _ b (by simp)⟩⟩
 .rcases each y A with rfl|⟨A,e⟩
  .exact⟨hT _ _ te (by simp),hE⟩
  .obtain⟨h1,h2⟩:=h.CP y A;exact⟨hT _ _ h1 (by simp),h2.step hk (ne _ _ h1 rfl (λe'=>e (Tag.e.inj e')) (by simp)) λx G=>⟨ne _ _ G rfl (by simp) (λe'=>e (Tag.q.inj e')),hT _ _ G (λe'=>e (Tag.q.inj e'))⟩⟩
 .rcases each y A with rfl|⟨A,e⟩
  .exact⟨(h.ok z hz).1,hp⟩
  .exact h.ok y A
theorem py (Z:List (Sr×Nat)):MP (Z.map (·.1)) (Z.map (·.2))=Z.map λz=>(Bf z.1.ls,z.2):=by
 induction Z with
 | nil=>rfl
 | cons z Z A=>rw[AfN,AfN,AfN,MP,A]
theorem DZ.rd (h:DZ Z22 T hb m3 m4 lim Z q)(ne:∀z∈Z,z.1.ps≠[])(hq:q<=1000000000000):yL Z22 hb m3 m4 lim (Z.map (·.1)) (Z.map (·.2)) where
 box:=(Az.1 h.box).2
 P5:=by rw[py];exact h.P5
 len:=by simp
 CP:=λi s e hs he=>by
  rw[AfZ]at hs he;obtain⟨z,hz,rfl⟩:=Ahg.1 hs;rw[hz]at he;cases he;obtain⟨p,n,c,r,m,d,h1,h2,h3,h4⟩:=(h.CP z (Ae2 hz)).2;exact⟨p,n,c,r,m,d,h1,h2.mono Eh.mono (λx o hx=>(Az.1 hx).2),h3.rd Bp.mono,by obtain⟨cs,ho,_⟩:=h3.2;exact Own.cap ho⟩
 ok:=λs hs=>by
  obtain⟨z,hz,rfl⟩:=AfC.1 hs;exact⟨(h.ok z hz).1,ne z hz,AfU (h.ok z hz).2 hq⟩
theorem Es (hs:∀z∈Z,BE z.1.ls)(hl:BE ls)(h:∀z∈Z,z.1.ls≠ls):∀a∈Z.map (λz=>(Bf z.1.ls,z.2)),a.1≠Bf ls:=λa G e=>by
 obtain⟨z,A,rfl⟩:=AfC.1 G;exact h z A (Q0 (hs z A) hl e)
theorem X0 {H:List Sr}:GX H ls=none↔∀s∈H,s.ls≠ls:=by
 unfold GX;rw[AhK];simp
end
end TwW
end
section
namespace TwW
open Go Tw Go.MapKept Go.RowKit Go.Proofs.Tryz
section
variable {Z22 Z'2:Hp}{T T':JX}{hb m3 m4 b q q' e:Nat}{lim:Int}{Z:List (Sr×Nat)}{ls:List Lb}{R:Rr}
theorem ADG {m:Option Nat}:YF prog (do eqGuard .eql 194 (.tmp 28) (.const (.map none)) (.map m) (.map none);binOp .eql 194 (.map m) (.map none)) Z22 (.bool m.isNone):=λw _=>by cases m<;>kernel_rfl
theorem pz (h:DZ Z22 T hb m3 m4 lim Z q)(hs:BE ls)(A9:∀z∈Z,z.1.ls≠ls)(he:T e=some (.e ls))(hE:vg Z22 T ⟨ls,[]⟩ e)(hq:q<=1000000000000)
  (K:∀Z'2 T',DZ Z'2 T' hb m3 m4 lim (Z++[(⟨ls,[]⟩,e)]) (q+ls.length)->Mv Z22 T Z'2 T'->R (.T #[]) Z'2):Spec prog 111 #[.pointer (aD hb 0),.string (Bf ls),.pointer (aD e 0)] Z22 R:=by
 refine B9.start ⟨hb,0,rfl,some m3,AD (Az.1 h.box).2 rfl,MS.put h.P5 (x:=e) rfl λo ho=>?_⟩;rw[Rj (Es (λz hz=>(h.ok z hz).1) hs A9)]at ho;have h1:DZ (Z22.set m3 o) T hb m3 m4 lim (Z++[(⟨ls,[]⟩,e)]) q:=h.YY (by rw[AfF];exact ho) (λz hz=>(Ae9.1 hz).imp id λhz=>by
  rw[Aev]at hz;subst hz;exact⟨he,hE,hs,AfI _⟩) (by
  rw[AfF,AgC];refine⟨h.nd,by simp,λa ha b hb e=>?_⟩;obtain⟨z,hz,rfl⟩:=AfC.1 ha;simp only[AfN,AhF,Aev]at hb;exact A9 z hz (e.trans hb))
 have v1:Mv Z22 T (Z22.set m3 o) T:=.set h.tb rfl;have hE1:vg (Z22.set m3 o) T ⟨ls,[]⟩ e:=hE.step v1.kp (Hp.AB (C9 he h.tb (by simp))) λx A=>⟨Hp.AB (C9 A h.tb (by simp)),A⟩;generalize Z22.set m3 o=Z12 at h1 v1 hE1 ⊢;generalize Z++[(⟨ls,[]⟩,e)]=Y at h1 K;obtain⟨p,n,c,r,m,d,g,hl,_,_⟩:=hE1;refine⟨e,0,rfl,p,n,c,AD g rfl,?_⟩;have hn:ls.length=n:=hl.1;have ATo:=hs.1
 suffices H:∀(d k:Nat) (ρ:Hp) (T':JX),n-k=d->k<=n->DZ ρ T' hb m3 m4 lim Y (q+k)->Mv Z12 T ρ T'->B9.pt7 R (aD hb 0) (Bf ls) p n c (n:Int) (k:Int) ρ from H n 0 Z12 T rfl (AfI _) h1 .refl
 intro d
 induction d with
 | zero=>
  intro k ρ T' hd hk G hv;obtain rfl:k=n:=by omega
  exact B9.tH ⟨λG=>by omega,λ_=>K ρ T' (by rw[hn];exact G) (v1.trans hv)⟩
 | succ d ih=>
  intro k ρ T' hd hk G hv;obtain⟨lb,hlb⟩:=hl.ex (show k<n by omega);obtain⟨b,o,vs,rfl,az,Dt⟩:=BB.idx hl hlb;rw[show vs=[.string lb.1,.string lb.2] from az]at Dt;have Wb:=(Dt.mono hv.kp).mono (λx o A=>(Az.1 A).2:Ext (ρ.kp T') ρ);have fin:∀(ρ':Hp) (T2:JX),DZ ρ' T2 hb m3 m4 lim Y (q+k)->Mv ρ T' ρ' T2->(∃l clock,NN ρ' m4 l clock/\(∀x∈l,∃j,x.val=.map (some j)/\T2 j=some .i)/\∃x∈l,x.key=Ld lb)->B9.IZ R (aD hb 0) (Bf ls) lb.1 lb.2 (aD b o) n c (n:Int) (k:Int) ρ':=λρ' T2 h2 v2 ⟨l,clock,hm,MR,y,hy,hky⟩=>by
   refine B9.KZ ⟨hb,0,rfl,some m4,AD (Az.1 h2.box).2 rfl,I6 hm (λhn=>absurd hky (hn y hy)) λl1 x l2 hl A=>?_⟩;obtain⟨j,hj,tj⟩:=MR x (by rw[hl];simp);rw[hj];obtain⟨L,hL⟩:=h2.yM j tj;have go:∀x0:Int,0<=x0->x0<=((q+k:Nat):Int)->AK (x0+1)/\AH prog (Instr.mapUpdate 194 (.map (some j)) (.string (Bf ls)) (.I (x0+1))) ρ' (λ_ AQ=>AK ((k:Int)+1)/\B9.pt7 R (aD hb 0) (Bf ls) (aD b o) n c (n:Int) ((k:Int)+1) AQ):=λx0 h0 LX=>by
    have hL':MS (λv (n:Int)=>v=.I n/\0<=n/\n<=((q+(k+1):Nat):Int)) ρ' j L:=hL.imp λv x ⟨a,b,c⟩=>⟨a,b,by omega⟩;refine⟨by unfold AK;omega,MS.put hL' (x:=x0+1) ⟨rfl,by omega,by omega⟩ λo ho=>⟨by unfold AK;omega,?_⟩⟩;have:=ih (k+1) (ρ'.set j o) T2 (by omega) (by omega) ((h2.up (q':=q+(k+1)) (by omega)).AGI tj ⟨_,ho⟩) ((hv.trans v2).trans (.set tj rfl));rw[show((k+1:Nat):Int)=(k:Int)+1 by omega]at this;exact this
   exact⟨some j,rfl,MS.look hL (z:=.I 0) (λw=>by kernel_rfl) (λ_=>⟨0,rfl,go 0 (by omega) (by omega)⟩) λv x0 hf ⟨hv0,a,b⟩=>by rw[hv0];exact⟨x0,rfl,go x0 a b⟩⟩
  obtain⟨l,clock,hm,MR⟩:=G.post;refine B9.tH ⟨λ_=>⟨b,o,rfl,by unfold In;omega,lb.1,lb.2,by simpa using Wb,λb7=>⟨hb,0,rfl,some m4,AD (Az.1 G.box).2 rfl,I6 hm (λhn=>⟨none,rfl,.refl _,true,ADG,λ_=>⟨some m4,AD (Az.1 G.box).2 rfl,Db λj hj=>⟨j,rfl,Kp.CV (Ext.set hj),?_⟩⟩,λhf=>(by cases hf)⟩) λl1 x l2 hl A=>?_⟩⟩,λG=>by omega⟩
  .have h2:=G.ATm hj;have v2:Mv ρ T' (ρ.set j (.map #[] 0)) (Ho T' j .i):=.new hj (G.off hj);have WJ:=hm.mono (Ext.set hj (o:=.map #[] 0));have mA:∀x∈l,∃y,x.val=.map (some y)/\Ho T' j .i y=some .i:=λx A=>let ⟨y,a,b⟩:=MR x A;⟨y,a,(CH (λe=>by rw[e,G.off hj]at b;cases b)).trans b⟩;refine fB WJ (λ_ Z'2 hσ bQ=>?_) λl1 x l2 hl A=>absurd A (hn x (by rw[hl];simp));subst hσ;have hv3:∀x∈l++[Wf lb (.map (some j)) clock],∃y,x.val=.map (some y)/\Ho T' j .i y=some .i:=λx A=>(Ae9.1 A).elim (mA x) λA=>by
    rw[Aev]at A;subst A;exact⟨j,rfl,EH _ _ _⟩
   exact fin _ _ (h2.AGH bQ hv3) (v2.trans (.set h2.tp rfl)) ⟨_,_,bQ,hv3,_,Afs _ (Aev.2 rfl),rfl⟩
  .obtain⟨j,hj,tj⟩:=MR x (by rw[hl];simp);rw[hj];exact⟨some j,rfl,.refl _,false,ADG,λhf=>(by cases hf),λ_=>fin ρ T' G .refl ⟨l,clock,hm,MR,x,by rw[hl];simp,A⟩⟩
end
end TwW
end
section
namespace TwW
open Go Tw Go.MapKept Go.RowKit Go.Proofs.Tryz
def Pu (T:JX)(Z22 Z'2:Hp):JX:=λx=>match Z22 x,Z'2 x with | none,some _=>some .k | _,_=>T x
def tq (T:JX)(b:Nat)(ls:List Lb):JX:=λx=>if x=b then some (.q ls) else match T x with | some (.q l)=>if l=ls then none else some (.q l) | o=>o
section
variable {Z22 Z'2:Hp}{T T':JX}{hb m3 m4 b q q' e:Nat}{lim:Int}{Z:List (Sr×Nat)}{ls:List Lb}{R:Rr}
theorem Vg {x:Nat}(h:Z22 x≠none):Pu T Z22 Z'2 x=T x:=by
 unfold Pu;cases A:Z22 x with
 | none=>exact absurd A h
 | some o=>rfl
theorem fK {x:Nat}{o:Obj}(h:Z22 x=none)(A:Z'2 x=some o):Pu T Z22 Z'2 x=some .k:=by
 unfold Pu;rw[h,A]
theorem Vh (T:JX)(Z22 Z'2:Hp)(x:Nat):Pu T Z22 Z'2 x=T x\/(Z22 x=none/\Z'2 x≠none/\Pu T Z22 Z'2 x=some .k):=by
 cases A:Z22 x with
 | some o=>exact .inl (Vg (by rw[A];simp))
 | none=>
  cases G:Z'2 x with
  | some o=>exact .inr ⟨rfl,by simp,fK A G⟩
  | none=>
   left
   unfold Pu;rw[A,G]
theorem me (T:JX)(b:Nat)(ls:List Lb):tq T b ls b=some (.q ls):=Aex rfl
theorem AMg {x:Nat}{t:Tag}(h:T x=some t)(A:t≠.q ls)(G:x≠b):tq T b ls x=some t:=by
 unfold tq;rw[Aeu G,h];split
 .rename_i l e;cases e;rw[Aeu λe=>A (by rw[e])]
 .rfl
theorem AAz {x:Nat}(h:T x=none)(A:x≠b):tq T b ls x=none:=by
 unfold tq;rw[Aeu A,h]
theorem vh {x:Nat}{t:Tag}(h:tq T b ls x=some t)(hx:x≠b):T x=some t/\t≠.q ls:=by
 unfold tq at h;rw[Aeu hx]at h;split at h
 .rename_i l e;split at h
  .cases h
  .rename_i hl;cases h;exact⟨e,λG=>hl (by cases G;rfl)⟩
 .rename_i A;exact⟨h,λe=>by subst e;exact A _ h⟩
theorem DZ.keep (h:DZ Z22 T hb m3 m4 lim Z q)(hx:Ext Z22 Z'2):DZ Z'2 (Pu T Z22 Z'2) hb m3 m4 lim Z q/\Mv Z22 T Z'2 (Pu T Z22 Z'2)/\Ext (Z22.new Z'2) (Z'2.kp (Pu T Z22 Z'2)):=by
 have hT:∀x t,T x=some t->Pu T Z22 Z'2 x=some t:=λx t A=>(Vg (h.kn x (by rw[A];simp))).trans A;have same:∀x,T x≠none->Z'2 x=Z22 x:=λx G=>by
  cases hs:Z22 x with
  | none=>exact absurd hs (h.kn x G)
  | some o=>exact hx _ _ hs
 refine⟨h.step (λx t A _=>same x (by rw[A];simp)) hT (λx hi=>?_) λx G=>?_,⟨λx o ho=>?_,λx t A _=>hT x t A,λx t A _=>same x (by rw[A];simp)⟩,λx o ho=>?_⟩
 .rcases Vh T Z22 Z'2 x with e|⟨_,_,e⟩
  .rwa[e]at hi
  .rw[e]at hi;cases hi
 .rcases Vh T Z22 Z'2 x with e|⟨_,e,_⟩
  .rw[e]at G;rw[same x G];exact h.kn x G
  .exact e
 .obtain⟨a,b⟩:=AZ.1 ho;exact AZ.2 ⟨(Vg (by rw[b];simp)).trans a,hx _ _ b⟩
 .obtain⟨a,b⟩:=AW.1 ho;exact Az.2 ⟨fK a b,b⟩
theorem Vi (h:DZ Z22 T hb m3 m4 lim Z q){z:Sr×Nat}(hz:z∈Z)(hq:q<=1000000000000){p:Option Addr}{n c:Nat}{x:Pt}
  (K:∀Z'2 T',DZ Z'2 T' hb m3 m4 lim (Q4 Z z.1.ls (z.1.ps++[x])) (q+1)->Mv Z22 T Z'2 T'->R (.returned (.I 1)) Z'2):EE.H8 R p n c x.1 x.2 1 (aD z.2 0) Z22:=by
 obtain⟨te,p1,n1,c1,r,m,d,g,hl,ho,ht⟩:=h.CP z hz;have hm:z.1.ps.length=m:=ho.1;have A4:=(h.ok z hz).2;refine EE.G0 ⟨z.2,0,rfl,r,m,d,AD g rfl,λb48 h48=>?_⟩;refine Aa.G8 (Z0:=Z22.del r) (vs:=[.I x.1,.U x.2]) (x:=x) Bp.mono ⟨ho,.refl _⟩ rfl (Bp.one Z22 _ x rfl) rfl (by omega) (λp' c' Z'2 Cq E4=>⟨p',m+1,c',rfl,?_⟩) h48;have G:∀y o,Z22 y=some o->(∀a,r=some a->y≠a.block)->Z'2 y=some o/\∀a,p'=some a->y≠a.block:=λy o A hn=>let ⟨a,b⟩:=AF.1 (E4 y o (AF.2 ⟨hn,A⟩));⟨b,a⟩;obtain⟨a,rfl⟩:∃a,p'=some a:=by
  obtain⟨_,cs,WD,_⟩:=Cq.1;rcases WD.2.2 with ⟨_,h0,_⟩|⟨b,o,_,_,rfl,_⟩
  .omega
  .exact⟨_,rfl⟩
 have AR:∀y t,T y=some t->t≠.q z.1.ls->∀a,r=some a->y≠a.block:=λy t A hn a ha=>C9 A (ht a ha) hn;have same:∀y t,T y=some t->t≠.q z.1.ls->Z'2 y=Z22 y/\y≠a.block:=λy t A hn=>by
  cases hs:Z22 y with
  | none=>exact absurd hs (h.kn y (by rw[A];simp))
  | some o=>obtain⟨u,v⟩:=G y o hs (AR y t A hn);exact⟨u,v _ rfl⟩
 have hT:∀y t,T y=some t->t≠.q z.1.ls->tq T a.block z.1.ls y=some t:=λy t A hn=>AMg A hn (same y t A hn).2;have ge:Z'2 z.2=some (.cells #[.slice p1 n1 c1,.slice r m d] 185 (0,0)):=(same _ _ te (by simp)).1.trans g;refine AH.store (P:=prog) aH ge rfl (by simp) (λu hu=>by rw[Aev.1 (show u∈[Value.slice (some a) (m+1) c'] from hu)];rfl) ?_;rw[show F0 #[Value.slice p1 n1 c1,.slice r m d] (0+1) (Value.slice (some a) (m+1) c').cells.toList=#[.slice p1 n1 c1,.slice (some a) (m+1) c'] from rfl];have nee:∀y t,T y=some t->t≠.e z.1.ls->y≠z.2:=λy t A hn=>C9 A te hn;have Io:Ext (Z22.kp T) ((Z'2.set z.2 (.cells #[.slice p1 n1 c1,.slice (some a) (m+1) c'] 185 (0,0))).kp (tq T a.block z.1.ls)):=λy o A=>by
  obtain⟨u,v⟩:=Az.1 A;exact Az.2 ⟨hT _ _ u (by simp),by rw[Hp.AB (nee _ _ u (by simp)),(same _ _ u (by simp)).1];exact v⟩
 have hae:a.block≠z.2:=λe=>(same _ _ te (by simp)).2 e.symm;refine EE.Mi (K _ (tq T a.block z.1.ls) ((h.up (Nat.le_succ q)).pts hz (λy t A hd h1 h2=>by rw[Hp.AB h1];exact(same y t A h2).1) hT (λy A=>?_) (λy A=>?_) ⟨p1,n1,c1,some a,m+1,c',Hp.AA _ _ _,hl.mono Eh.mono Io,ADD Cq.1 λb hb=>by cases hb;exact Hp.AB hae,λb hb=>by cases hb;exact me _ _ _⟩ (by rw[Aet,AfD];omega)) ⟨λy o A=>?_,λy t A hf=>hT y t A (λe=>by rw[e]at hf;cases hf),λy t A hf=>?_⟩)
 .by_cases e:y=a.block
  .rw[e,me]at A;cases A
  .exact(vh A e).1
 .by_cases e:y=z.2
  .rw[e,Hp.AA];simp
  .rw[Hp.AB e];by_cases e2:y=a.block
   .rw[e2];exact Cq.1.block a rfl
   .cases hty:tq T a.block z.1.ls y with
    | none=>exact absurd hty A
    | some t=>
     obtain⟨u,v⟩:=vh hty e2;rw[(same y t u v).1];exact h.kn y (by rw[u];simp)
 .obtain⟨u,v⟩:=AZ.1 A;obtain⟨w1,w2⟩:=G y o v λb hb e=>by rw[e,ht b hb]at u;cases u
  exact AZ.2 ⟨AAz u (w2 a rfl),by rw[Hp.AB (λe=>by rw[e,te]at u;cases u)];exact w1⟩
 .rw[Hp.AB (nee y t A (λe=>by rw[e]at hf;cases hf)),(same y t A (λe=>by rw[e]at hf;cases hf)).1]
theorem vi {H:List Sr}{s:Hf}(h:HG lim H s=1):Pe s.ls=0:=by
 unfold HG at h;split at h
 .cases h
 .rename_i A;exact Agj.1 λe=>A (.inl e)
theorem Q5 {α:Type}:∀{l:List (ByteArray×α)} {k:ByteArray},BQ l k=none->∀a∈l,a.1≠k
 | [],_,_,a,A=>by cases A
 | x::l,k,h,a,A=>by
  rw[BQ]at h;split at h
  .cases h
  .rename_i G;rcases Ae5.1 A with rfl|A
   .exact G
   .exact Q5 h a A
theorem X1 {α:Type}{l:List (ByteArray×α)}{k:ByteArray}{x:α}(h:BQ l k=some x):(k,x)∈l:=by
 induction l with
 | nil=>cases h
 | cons y l A=>
  rw[BQ]at h;split at h
  .rename_i e;cases h;subst e;exact AfB ..
  .exact Aey _ (A h)
theorem mf {x:Pt}{ps:List Pt}(h:∀z∈Z,z.1.ls≠ls->z.1.ps≠[]):∀z∈Q4 Z ls (ps++[x]),z.1.ps≠[]:=λz A=>by
 unfold Q4 at A;obtain⟨y,G,rfl⟩:=AfC.1 A;split
 .simp
 .rename_i e;exact h y G e
theorem qA (h:DZ Z22 T hb m3 m4 lim Z q)(ne:∀z∈Z,z.1.ps≠[]){p:Option Addr}{n c:Nat}{s:Hf}(hr:I1 (Z22.rest T) p n s.ls)(hq:q<=100000000000)
  (K:∀Z'2 T' Z',DZ Z'2 T' hb m3 m4 lim Z' (q+17)->(∀z∈Z',z.1.ps≠[])->Z'.map (·.1)=R1 lim (Z.map (·.1)) s->Mv Z22 T Z'2 T'->R (.returned (.I (HG lim (Z.map (·.1)) s))) Z'2) :
  Spec prog 49 #[.pointer (aD hb 0),.agg #[.slice p n c,.I s.t,.U s.v]] Z22 R:=by
 have xZ:=hr.mono Eh.mono Ext.DF;refine EE.start λb3=>R4 (h.rd ne (by omega)) xZ λZ12 x1=>⟨_,rfl,λG=>?_,λG=>EE.Mi (K Z12 T Z ((h.ext x1).up (by omega)) ne (by unfold R1;rw[Aex G]) (h.mv x1))⟩;have WY:=vi G;have KJ:=BE.of WY;refine Ki (xZ.mono Eh.mono x1) KJ λp' n' c' Z222 ho x2=>⟨p',n',c',rfl,Ed (Be.mono (Ext.Cp _ _) (A2.rd ho)) ⟨_,rfl,?_⟩⟩;have CR:=x1.trans x2;have h2:=h.ext CR;have v2:=h.mv CR;have Ta:=xZ.mono Eh.mono CR;have A:∀w,(zeroValue 179).run prog w=.ok (.pointer none) w:=λw=>by kernel_rfl
 have hs:∀z∈Z,BE z.1.ls:=λz A=>(h.ok z A).1;unfold R1 at K;rw[Aeu (by rw[G];simp),G]at K;refine⟨hb,0,rfl,some m3,AD (Az.1 h2.box).2 rfl,MS.look (s:=Bf s.ls) h2.P5 A (λA9=>⟨none,rfl,λ_=>?_,λG=>(by cases G)⟩) λv e S9 hv=>⟨aD e 0,hv,λG=>(by cases G),λ_=>?_⟩⟩
 .have jy:∀z∈Z,z.1.ls≠s.ls:=λz A e=>Q5 A9 _ (AfC.2 ⟨z,A,rfl⟩) (by rw[e]);rw[X0.2 λy hy=>by obtain⟨z,A,rfl⟩:=AfC.1 hy;exact jy z A]at K;intro HP h26;refine Gw Ta (by have:=KJ.1;have:=Ta.1;omega) (λp' c' Z3 DG x3=>⟨p',n,c',rfl,λF8 qu=>?_⟩) h26;obtain⟨h3,v3,k3⟩:=h2.keep x3;have h4:DZ (Z3.set F8 (.cells #[.slice p' n c',.N] 185 (0,0))) (Ho (Pu T Z222 Z3) F8 (.e s.ls)) hb m3 m4 lim Z q:=h3.new qu (by simp);have v4:Mv Z3 (Pu T Z222 Z3) (Z3.set F8 (.cells #[.slice p' n c',.N] 185 (0,0))) (Ho (Pu T Z222 Z3) F8 (.e s.ls)):=.new qu (h3.off qu);have hE:vg (Z3.set F8 (.cells #[.slice p' n c',.N] 185 (0,0))) (Ho (Pu T Z222 Z3) F8 (.e s.ls)) ⟨s.ls,[]⟩ F8:=⟨p',n,c',none,0,0,Hp.AA _ _ _,((DG.rd Eh.mono).mono Eh.mono k3).mono Eh.mono v4.kp,B6.nil,λa ha=>by cases ha⟩;refine pz h4 KJ jy (EH _ _ _) hE (by omega) λZ5 T5 h5 v5=>⟨rfl,?_⟩;have hl:=KJ.1;have:=Vi (R:=R) (p:=p) (n:=n) (c:=c) (x:=(s.t,s.v)) (h5.up (q':=q+16) (by omega)) (z:=(⟨s.ls,[]⟩,F8)) (by simp) (by omega) λZ6 T6 h6 v6=>K Z6 T6 _ h6 (mf λz A hn=>?_) ?_ (v2.trans (v3.trans (v4.trans (v5.trans v6))))
  .rw[G];exact this
  .rcases Ae9.1 A with A|A
   .exact ne z A
   .rw[Aev]at A;subst A;exact absurd rfl hn
  .unfold Q4;rw[AfF,AfF]
   congr 1
   .rw[Afg];exact Af8 λz A=>by simp only[Function.comp];rw[Aeu (jy z A)]
   .simp
 .obtain⟨z,A,he⟩:=AfC.1 (X1 S9);cases(Ah1 he).2;have I2:z.1.ls=s.ls:=Q0 (hs z A) KJ (Ah1 he).1;have:=Vi (R:=R) (p:=p) (n:=n) (c:=c) (x:=(s.t,s.v)) h2 A (by omega) λZ6 T6 h6 v6=>K Z6 T6 _ (h6.up (by omega)) (mf λy hy _=>ne y hy) ?_ (v2.trans v6)
  .rw[G];exact this
  .have qe:GX (Z.map (·.1)) s.ls≠none:=λe=>X0.1 e z.1 (AfC.2 ⟨z,A,rfl⟩) I2;cases I3:GX (Z.map (·.1)) s.ls with
   | none=>exact absurd I3 qe
   | some y=>
    unfold Q4;rw[Afg,Afg];refine Af8 λy hy=>?_;simp only[Function.comp];rw[I2];by_cases e:y.1.ls=s.ls
    .rw[Aex e,Aex e,Vf h.nd y hy z A (e.trans I2.symm),I2]
    .rw[Aeu e,Aeu e]
end
end TwW
end
section
namespace TwW
open Go Tw Go.MapKept Go.RowKit Go.Proofs.Tryz
section
variable {α:Type}{P:Program}{Z22 Z'2:Hp}{E:Value->α->Prop}{i m:Nat}
def Mt (E:Value->α->Prop):List MapEntry->List (ByteArray×α)->Prop
 | [],[]=>True
 | e::M,x::W=>e.key=.string x.1/\E e.val x.2/\Mt E M W
 | _,_=>False
theorem Mt.of:∀{M:List MapEntry} {W:List (ByteArray×α)},M.length=W.length->(∀(k:Nat) (e:MapEntry) (x:ByteArray×α),M[k]?=some e->W[k]?=some x->e.key=.string x.1/\E e.val x.2)->Mt E M W
 | [],[],_,_=>trivial
 | e::M,x::W,h,A=>⟨(A 0 e x rfl rfl).1,(A 0 e x rfl rfl).2,Mt.of (by simpa using h) λk=>A (k+1)⟩
 | [],_::_,h,_=>by simp at h
 | _::_,[],h,_=>by simp at h
theorem Mt.split {e:MapEntry}{M2:List MapEntry}:∀{M1:List MapEntry} {W:List (ByteArray×α)},Mt E (M1++e::M2) W->∃A x G,W=A++x::G/\e.key=.string x.1/\E e.val x.2/\Mt E (M1++M2) (A++G)
 | [],x::W,h=>⟨[],x,W,rfl,h.1,h.2.1,h.2.2⟩
 | a::M1,x::W,h=>by
  obtain⟨A,y,G,h1,h2,h3,h4⟩:=Mt.split (M1:=M1) h.2.2;exact⟨x::A,y,G,by rw[h1];rfl,h2,h3,h.1,h.2.1,h4⟩
 | [],[],h=>h.elim
 | _::_,[],h=>h.elim
theorem vj {M1 A:List MapEntry}{e:MapEntry}(hn:((M1++e::A).map (·.born)).Nodup):(M1++e::A).filter (λx=>x.born != e.born)=M1++A:=by
 rw[AfF,AfN,AgC]at hn;obtain⟨_,h2,h3⟩:=hn;rw[Afe]at h2;rw[AgL,AgI (by simp),AgM.2,AgM.2]
 .intro x G;simp only[bne_iff_ne];exact λh=>h2.1 (h▸AfC.2 ⟨x,G,rfl⟩)
 .intro x G;simp only[bne_iff_ne];exact h3 _ (AfC.2 ⟨x,G,rfl⟩) _ (AfB ..)
def PE (E:Value->α->Prop)(Z22:Hp)(i m:Nat)(W:List (ByteArray×α)):Prop:=∃l M clock,Ak Z22 m l clock/\Cs Z22 i m l M clock/\Mt E M W
theorem PE.mono {W:List (ByteArray×α)}(h:PE E Z22 i m W)(A:Ext Z22 Z'2):PE E Z'2 i m W:=let ⟨l,M,c,h1,h2,h3⟩:=h;⟨l,M,c,h1.mono A,h2.mono A,h3⟩
theorem MS.range {T K V:TypeId}[bN P T K V]{L:List (ByteArray×α)}{Φ:Value->Hp->Prop}(h:MS E Z22 m L)(A:∀i o,Z22 i=none->PE E (Z22.set i o) i m L->Φ (.pointer (some ⟨i,0,none⟩)) (Z22.set i o)):AH P (Instr.range T (.map (some m))) Z22 Φ:=by
 obtain⟨l,c,G,h2,h3⟩:=h;exact Js G λi o hi hit=>A i o hi ⟨l,l,c,G.mono (Ext.set hi),hit,.of h2 h3⟩
theorem PE.next {ty:TypeId}{W:List (ByteArray×α)}{Φ:Value->Hp->Prop}(h:PE E Z22 i m W)(h0:W=[]->Φ (.tuple #[.bool false]) Z22)
  (h1:∀A x G v o,W=A++x::G->E v x.2->(∀O2,O2 i=some o->O2 m=Z22 m->PE E O2 i m (A++G))->(∀O2,O2 i=some o->O2 m=Z22 m->∀{Ψ:Value->Hp->Prop},Ψ (.tuple #[.string x.1,v]) O2->AH P (Instr.entry (.pointer (some ⟨i,0,none⟩))) O2 Ψ)->Φ (.tuple #[.bool true,.string x.1,v]) (Z22.set i o)) :
  AH P (Instr.next (.pointer (some ⟨i,0,none⟩)) false ty) Z22 Φ:=by
 obtain⟨l,M,c,hm,hi,ht⟩:=h;refine ME hm hi (λe=>h0 ?_) λe he _ o hit Ga=>?_
 .subst e;cases W with
  | nil=>rfl
  | cons _ _=>exact ht.elim
 .obtain⟨M1,M2,rfl⟩:=Ag5 he;have hb:=hm.tz.sublist ((Cs.sub hi).map _);obtain⟨A,x,G,h2,h3,h4,h5⟩:=ht.split;rw[vj hb]at hit;rw[h3]at Ga ⊢;exact h1 A x G e.val o h2 h4 (λO2 a b=>⟨l,_,c,hm.loc b,hit O2 a,h5⟩) λO2 a b=>Ga O2 a b
end
section
variable {Z22 Z'2:Hp}{T T':JX}{hb m3 m4 q:Nat}{lim:Int}{Z:List (Sr×Nat)}{R:Rr}
def Wg (vs:List Value)(x:ByteArray):Prop:=vs=[.string x]
theorem Vj {c1:Nat}(h:DZ Z22 T hb m3 m4 lim Z q)(hq:Z.length<=1000000000000)
  (K:∀(Y:List (Sr×Nat)) p n c Z'2,Y.Perm Z->Aa 1 (λ_=>Wg) Z22 Z'2 p n c (Y.map λz=>Bf z.1.ls)->R (.returned (.slice p n c)) Z'2):Spec prog 127 #[.pointer (aD hb 0),.slice none 0 c1] Z22 R:=by
 refine DQ.start ⟨hb,0,rfl,some m3,AD (Az.1 h.box).2 rfl,MS.range h.P5 λi o hi hit=>⟨_,rfl,?_⟩⟩
 suffices H:∀(g:Nat) (W Y:List (Sr×Nat)) (N ρ:Hp) (p:Option Addr) (n c:Nat),W.length=g->Ext Z22 N->PE yK N i m3 (W.map λz=>(Bf z.1.ls,z.2))->(Y++W).Perm Z->Aa 1 (λ_=>Wg) N ρ p n c (Y.map λz=>Bf z.1.ls)->DQ.A3 R none 0 c1 p n c (.pointer (some ⟨i,0,none⟩)) ρ from
  H _ Z [] _ _ none 0 0 rfl (Ext.set hi) hit (.refl _) (Aa.nil (.refl _))
 intro g
 induction g with
 | zero=>
  intro W Y N ρ p n c G hx hit hp A;obtain rfl:W=[]:=Ae6 G;refine DQ.AY (PE.next (hit.mono A.up) (λ_=>.inl ⟨rfl,K Y p n c ρ (by simpa using hp) (A.base hx)⟩) λW1 x W2 v o hw=>?_);cases W1<;>cases hw
 | succ g ih=>
  intro W Y N ρ p n c G hx hit hp A;refine DQ.AY (PE.next (hit.mono A.up) (λe=>?_) λW1 x W2 v o hw hv eR Ga=>.inr ?_)
  .rw[Ahv.1 e]at G;cases G
  obtain⟨V1,V2',rfl,rfl,e2⟩:=Ag3.1 hw;obtain⟨z,V2,rfl,rfl,rfl⟩:=AhB.1 e2;obtain⟨l,M,clock,hm,⟨seen,c0,pD,_⟩,_⟩:=hit;have RJ:m3≠i:=λe=>by
   have h9:=hm.1;rw[e,pD]at h9;cases h9
  have bV:ρ m3=N m3:=by rw[hm.1];exact A.up _ _ hm.1
  have By:=A.put (o':=o) pD;have BD:Ext Z22 (N.set i o):=λy u hy=>by
   rw[Hp.AB λe=>?_]
   .exact hx y u hy
   .subst e;rw[hi]at hy;cases hy
  have Vk:=eR (N.set i o) (Hp.AA _ _ _) (by rw[Hp.AB RJ,bV]);obtain rfl:v=.pointer (some ⟨z.2,0,none⟩):=hv;have hz:z∈Z:=hp.subset (by simp);obtain⟨p1,n1,c',r,m,d,g1,hl,_,_⟩:=(h.CP z hz).2;have Ev:Ext Z22 (ρ.set i o):=BD.trans By.up;have hlen:=hp.length_eq;simp only[Aet,Aez]at hlen;have hY:(Y.map λz=>Bf z.1.ls).length=n:=A.1.1;rw[AfO]at hY;refine⟨_,aD z.2 0,rfl,Ga (ρ.set i o) (Hp.AA _ _ _) (Hp.AB RJ) ⟨_,aD z.2 0,rfl,z.2,0,rfl,p1,n1,c',AD (Ev _ _ g1) rfl,VW λZ4 x4=>⟨true,rfl,λ_=>λHP h26=>?_,λhf=>(by cases hf)⟩⟩⟩;have Tn:=By.mono (λ_ _ _ _ _ h=>h) x4;refine Aa.G8 (vs:=[.string (Bf z.1.ls)]) (x:=Bf z.1.ls) (λ_ _ _ _ _ h=>h) Tn rfl (λu hu=>by rw[Aev.1 hu];rfl) rfl (by omega) (λp' c' Z5 oq _=>⟨_,_,_,rfl,?_⟩) h26;refine ih (V1++V2) (Y++[z]) _ _ p' (n+1) c' (by simp at G ⊢;omega) BD (by rw[AfF];exact Vk) ?_ (by rw[AfF];exact oq);refine List.Perm.trans ?_ hp;rw[Aew];exact Ahk _ (AhR (a:=z) (l₁:=V1) (l₂:=V2)).symm
theorem fL {c1:Nat}(h:DZ Z22 T hb m3 m4 lim Z q)(hq:Z.length<=1000000000000)
  (K:∀(Y:List (Sr×Nat)) p n c Z'2,Y.Perm Z->Aa 1 (λ_=>Wg) Z22 Z'2 p n c (Y.map λz=>Bf z.1.ls)->R (.returned (.slice p n c)) Z'2):Spec prog 112 #[.pointer (aD hb 0),.slice none 0 c1] Z22 R:=
 Iz.start ⟨λ_=>Vj h hq λY p n c Z'2 hp G=>⟨p,n,c,rfl,K Y p n c Z'2 hp G⟩,λA=>absurd rfl A⟩
end
end TwW
end
section
namespace Go.Proofs
open Go.Shelf
def Tryz.Vm:Go.Shelf.Ren:=⟨λ|6=>182|15=>95|14=>234|28=>167|29=>168|20=>263|21=>264|22=>265|23=>266|24=>267|25=>268|26=>269|27=>270|46=>293|47=>227|48=>228|49=>294|50=>295|57=>308|n=>n,λ|22=>44|24=>63|25=>256|3=>3|39=>163|0=>0|53=>70|55=>23|4=>4|46=>234|45=>233|50=>239|5=>5|9=>9|66=>316|70=>319|76=>348|77=>164|n=>n,λ|n=>n⟩
theorem Tryz.vk:Go.Proofs.SlLaysF0.n6 Tryz.prog Tryz.Vm:={
 mixed:=by kernel_rfl
 f6:=⟨Tryz.f182.name,by decide,Tryz.func182.trans (Ae4 some (by kernel_rfl))⟩
 f14:=⟨Tryz.f234.name,by decide,Tryz.func234.trans (Ae4 some (by kernel_rfl))⟩
 f15:=Tryz.func95.trans (Ae4 some (by kernel_rfl))
 f20:=⟨Tryz.f263.name,by decide,Tryz.func263.trans (Ae4 some (by kernel_rfl))⟩
 f21:=⟨Tryz.f264.name,by decide,Tryz.func264.trans (Ae4 some (by kernel_rfl))⟩
 f22:=⟨Tryz.f265.name,by decide,Tryz.func265.trans (Ae4 some (by kernel_rfl))⟩
 f23:=⟨Tryz.f266.name,by decide,Tryz.func266.trans (Ae4 some (by kernel_rfl))⟩
 f24:=⟨Tryz.f267.name,by decide,Tryz.func267.trans (Ae4 some (by kernel_rfl))⟩
 f25:=⟨Tryz.f268.name,by decide,Tryz.func268.trans (Ae4 some (by kernel_rfl))⟩
 f26:=⟨Tryz.f269.name,by decide,Tryz.func269.trans (Ae4 some (by kernel_rfl))⟩
 f27:=⟨Tryz.f270.name,by decide,Tryz.func270.trans (Ae4 some (by kernel_rfl))⟩
 f28:=Tryz.func167.trans (Ae4 some (by kernel_rfl))
 f29:=Tryz.func168.trans (Ae4 some (by kernel_rfl))
 f46:=⟨Tryz.f293.name,by decide,Tryz.func293.trans (Ae4 some (by kernel_rfl))⟩
 f47:=Tryz.func227.trans (Ae4 some (by kernel_rfl))
 f48:=Tryz.func228.trans (Ae4 some (by kernel_rfl))
 f49:=⟨Tryz.f294.name,by decide,Tryz.func294.trans (Ae4 some (by kernel_rfl))⟩
 f50:=⟨Tryz.f295.name,by decide,Tryz.func295.trans (Ae4 some (by kernel_rfl))⟩
 f57:=⟨Tryz.f308.name,by decide,Tryz.func308.trans (Ae4 some (by kernel_rfl))⟩
 t0:=Tryz.underlying0
 a0:=Tryz.isAgg0
 z0:=Tryz.sizeOf0
 v0:=Tryz.zeroValue0
 t3:=Tryz.underlying3
 a3:=Tryz.isAgg3
 z3:=Tryz.sizeOf3
 v3:=Tryz.zeroValue3
 t4:=Tryz.underlying4
 a4:=Tryz.isAgg4
 z4:=Tryz.sizeOf4
 v4:=Tryz.zeroValue4
 t5:=Tryz.underlying5
 a5:=Tryz.isAgg5
 z5:=Tryz.sizeOf5
 v5:=Tryz.zeroValue5
 t9:=Tryz.underlying9
 a9:=Tryz.isAgg9
 z9:=Tryz.sizeOf9
 v9:=Tryz.zeroValue9
 t22:=Tryz.underlying44
 a22:=Tryz.isAgg44
 z22:=Tryz.sizeOf44
 v22:=Tryz.zeroValue44
 t25:=Tryz.underlying256
 a25:=Tryz.isAgg256
 z25:=Tryz.sizeOf256
 v25:=Tryz.zeroValue256
 t39:=Tryz.underlying163
 a39:=Tryz.isAgg163
 z39:=Tryz.sizeOf163
 v39:=Tryz.zeroValue163
 t45:=Tryz.underlying233
 a45:=Tryz.isAgg233
 z45:=Tryz.sizeOf233
 v45:=Tryz.zeroValue233
 t46:=Tryz.underlying234
 a46:=Tryz.isAgg234
 z46:=Tryz.sizeOf234
 v46:=Tryz.zeroValue234
 t50:=Tryz.underlying239
 a50:=Tryz.isAgg239
 z50:=Tryz.sizeOf239
 v50:=Tryz.zeroValue239
 t53:=Tryz.underlying70
 a53:=Tryz.isAgg70
 z53:=Tryz.sizeOf70
 v53:=Tryz.zeroValue70
 t55:=Tryz.underlying23
 a55:=Tryz.isAgg23
 z55:=Tryz.sizeOf23
 v55:=Tryz.zeroValue23
 t66:=Tryz.underlying316
 a66:=Tryz.isAgg316
 z66:=Tryz.sizeOf316
 v66:=Tryz.zeroValue316
 t70:=Tryz.underlying319
 a70:=Tryz.isAgg319
 z70:=Tryz.sizeOf319
 v70:=Tryz.zeroValue319
 t76:=Tryz.underlying348
 a76:=Tryz.isAgg348
 z76:=Tryz.sizeOf348
 v76:=Tryz.zeroValue348
 t77:=Tryz.underlying164
 a77:=Tryz.isAgg164
 z77:=Tryz.sizeOf164
 v77:=Tryz.zeroValue164 }
end Go.Proofs
end
section
namespace TwW
open Go Tw Go.MapKept Go.RowKit Go.Proofs.Tryz
section
variable {Z22 Z'2 Z0:Hp}{R:Rr}
theorem ATp {α:Type}{f:α->List Lb}:Sort.SWO (Proofs.ltOf λx y=>BN (f x) (f y)) where
 irrefl x:=by
  have h1:BN (f x) (f x)=0:=(Ax.eq _ _).2 rfl;exact Aga (by show ¬BN (f x) (f x)<0;omega)
 trans x y z h1 h2:=by
  unfold Proofs.ltOf at *;exact Afz (Ax.trans _ _ _ (AfS h1) (AfS h2))
 ntrans x y z h1 h2:=by
  unfold Proofs.ltOf at *;have h1:=Aff h1;have h2:=Aff h2;dsimp only at h1 h2;refine Aga λh3=>?_;dsimp only at h3;rcases Agv (BN (f x) (f y)) 0 with h|h|h
  .exact h1 h
  .rw[(Ax.eq _ _).1 h]at h3;exact h2 h3
  .have h4:=(Ax.TN _ _).2 h;exact h2 (Ax.trans _ _ _ h4 h3)
theorem vm {cs:List Value}{m:Nat}(h:cs.length=m*2):(List.finRange m).flatMap (λi=>(cs.drop (i.1*2)).take 2)=cs:=by
 have G:∀i:Fin m,((cs.drop (i.1*2)).take 2).length=2:=λi=>by
  have:=i.2;rw[AfE,AfV];omega
 refine Afo λj=>?_;rw[U3 G (by decide)];by_cases hj:j<m*2
 .have A:j/2<m:=by omega
  rw[Ae3 (by rw[Ahs];exact A)];simp only[List.getElem_finRange,Ahj,Fin.val_cast];rw[AfP,Aex (AhA _ (by decide)),AfX]
  congr 1
  omega
 .rw[Afq (by rw[Ahs];omega),Afq (by omega)];rfl
theorem fM {α:Type}{enc:α->List Value}(A:∀x,(enc x).length=2):∀(xs:List α) (i:Nat) (x:α),xs[i]?=some x->((xs.flatMap enc).drop (i*2)).take 2=enc x
 | [],i,x,h=>by simp at h
 | a::xs,0,x,h=>by
  simp only[Af0,AfL]at h;subst h;rw[Afy,AgZ,Ago,<-A a,AhD]
 | a::xs,i+1,x,h=>by
  rw[Afy,show(i+1)*2=(enc a).length+i*2 by rw[A];omega,List.drop_append];simp only[AiW,Aft (Nat.le_add_right _ _),AgG];exact fM A xs i x (by simpa using h)
theorem AA0 {α:Type}(l:List α){n:Nat}(A:l.length=n):(List.finRange n).map (λi=>l[i.1]'(by rw[A];exact i.2))=l:=by
 subst A;refine List.ext_getElem (by simp) λi G h2=>?_;simp
theorem vn [I9]{p q p1 q1:Option Addr}{n m c d n1 c1 m1 d1:Nat}{ls ms:List Lb}(A:I1 Z22 p n ls)(G:I1 Z22 q m ms)(h:∀Z'2,Ext Z22 Z'2->R (.returned (.I (BN ls ms))) Z'2):Spec prog 183 #[.agg #[.slice p n c,.slice p1 n1 c1],.agg #[.slice q m d,.slice q1 m1 d1]] Z22 R:=
 G1.start λ_ _=>Jv A G λZ'2 hx=>⟨_,rfl,h Z'2 hx⟩
theorem TB {p:Option Addr}{n c:Nat}{l:List Sr}(ho:Aa 2 CW Z0 Z22 p n c l)(hn:n<=1000000000000)(hd:(l.map (·.ls)).Nodup)
  (h:∀O Z'2,O.Perm l->O.Pairwise NO->Aa 2 CW Z0 Z'2 p n c O->R (.returned (.slice p n c)) Z'2):Spec prog 113 #[.slice p n c] Z22 R:=by
 obtain⟨⟨hl,cs,WD,hc⟩,hx⟩:=ho;refine Sc.start ?_;by_cases h0:n=0
 .subst h0;have hl0:l=[]:=Ag0.1 hl;subst hl0;exact Spec.same (v:=.tuple #[]) (λw _=>Go.Proofs.AnyF.slices_SortFunc_none Go.Proofs.Tryz.vk p c _ w) ⟨rfl,h [] Z22 (.refl _) .nil ⟨⟨hl,cs,WD,hc⟩,hx⟩⟩
 obtain⟨b,o,rfl⟩:∃b o,p=some ⟨b,o,none⟩:=by
  rcases WD.2.2 with ⟨_,h2,_⟩|⟨b,o,_,_,hp,_⟩
  .exact absurd h2 h0
  .exact⟨b,o,hp⟩
 have nz:cs.length=n*2:=WD.1
 let enc:Fin n->List Value:=λi=>(cs.drop (i.1*2)).take 2
 let at_:Fin n->Sr:=λi=>l[i.1]'(by rw[hl];exact i.2)
 have hE:∀i:Fin n,CW (Z22.del (some ⟨b,o,none⟩)) (enc i) (at_ i):=λi=>hc.2 i.1 (at_ i) (Ae3 _);have hk:∀i,(enc i).length=2:=λi=>by
  have:=i.2;show((cs.drop (i.1*2)).take 2).length=2
  rw[AfE,AfV];omega
 have AMh:(List.finRange n).flatMap enc=cs:=vm nz;haveI:Inhabited (Fin n):=⟨⟨0,by omega⟩⟩;refine AAH (ρ:=Go.Proofs.Tryz.Vm) Go.Proofs.Tryz.vk (λw=>by kernel_rfl) (λw=>by kernel_rfl) (α:=Fin n) (enc:=enc) hk (λi=>CW.one _ _ _ (hE i)) (cf:=λi j=>BN (at_ i).ls (at_ j).ls) ATp (g:=183) G1.en (b:=b) (o:=o) (ds:=List.finRange n) (by rw[AMh];exact WD) Ahs h0 (by omega) (λw hw i j=>?_) λZ12 ds hp hpw Bu Hm=>⟨rfl,?_⟩
 .obtain⟨q1,m1,d1,q1',m1',d1',hv1,hr1,_⟩:=hE i;obtain⟨q2,m2,d2,q2',m2',d2',mA,Ta,_⟩:=hE j;rw[hv1,mA];exact Spec.AFV (R:=λe=>e=.returned (.I (BN (at_ i).ls (at_ j).ls))) (@vn _ _ ⟨True⟩ _ _ _ _ _ _ _ _ _ _ _ _ _ _ hr1 Ta λZ'2 E4=>⟨rfl,E4⟩) hw
 let l2:List Sr:=ds.map at_
 have A:l2.Perm l:=by
  have:=hp.map at_;rwa[AA0 l hl]at this
 have Rl:l2.length=n:=A.length_eq.trans hl;have hdl:ds.length=n:=by have h9:(ds.map at_).length=n:=Rl;rwa[AfO]at h9
 refine h l2 Z12 A ?_ ⟨⟨Rl,_,Bu,?_,λi x hi=>?_⟩,hx.trans Hm⟩
 .have hq:l2.Pairwise (λa b'=>¬BN b'.ls a.ls<0):=AgD.2 (hpw.imp fun {x y} Ic=>Aff Ic);have LZ:(l2.map (·.ls)).Nodup:=(A.map _).nodup_iff.2 hd;rw[List.Nodup,AgD]at LZ;refine(hq.and LZ).imp fun {x y} ⟨h1,h2⟩=>?_;rcases Agv (BN x.ls y.ls) 0 with h|h|h
  .exact h
  .exact absurd ((Ax.eq _ _).1 h) h2
  .exact absurd ((Ax.TN _ _).2 h) h1
 .rw[Bu.1,Rl]
 .have G:(ds.map at_)[i]?=some x:=hi;rw[AfZ]at G;cases hd:ds[i]? with
  | none=>rw[hd]at G;cases G
  | some k=>
   rw[hd]at G;simp only[Afv,AfL]at G;rw[fM hk ds i k hd,<-G];exact CW.mono _ _ _ _ Hm (hE k)
end
end TwW
end
section
namespace TwW
open Go Tw Go.MapKept Go.RowKit Go.Proofs.Tryz
section
variable {Z22 Z'2:Hp}{T T':JX}{hb m3 m4 q:Nat}{lim:Int}{Z:List (Sr×Nat)}{R:Rr}
theorem DZ.find (h:DZ Z22 T hb m3 m4 lim Z q){z:Sr×Nat}(A:z∈Z){K:Option Addr->Hp->Prop}(hK:K (aD z.2 0) Z22):AH prog (Instr.lookup 170 (.map (some m3)) (.string (Bf z.1.ls)) false) Z22 (CQ K):=by
 refine MS.look (s:=Bf z.1.ls) (z:=.pointer none) h.P5 (λw=>by kernel_rfl) (λA9=>absurd rfl (Q5 A9 _ (AfC.2 ⟨z,A,rfl⟩))) λv e S9 hv=>⟨aD z.2 0,?_,hK⟩;obtain⟨y,hy,G⟩:=AfC.1 (X1 S9);cases(Ah1 G).2;have I2:y.1.ls=z.1.ls:=Q0 (h.ok y hy).1 (h.ok z A).1 (Ah1 G).1;rw[show v=.pointer (some ⟨y.2,0,none⟩) from hv,Vf h.nd y hy z A I2]
theorem Wg.at {p:Option Addr}{n i:Nat}{xs:List ByteArray}{x:ByteArray}(G:BB 1 (λ_=>Wg) Z22 p n xs)(hx:xs[i]?=some x):∃b o,p=some ⟨b,o,none⟩/\Bm Z22 b (o+i*1) [.string x]:=by
 obtain⟨b,o,vs,rfl,hv,A⟩:=BB.idx G hx;rw[show vs=[.string x] from hv]at A;exact⟨b,o,rfl,A⟩
theorem jz {lo hi:Int}{l:List Sr}{s:Sr}:CD lo hi (l++[s])=CD lo hi l++[Sr.mk s.ls (CZ lo hi s.ps)].filter λs=>decide (s.ps≠[]):=by
 unfold CD;rw[AfF,AgL];rfl
theorem vo {p1 p9 IA q9:Option Addr}{n9 c9 n20 c20 A d1:Nat}{lo hi En Ir:Int}{s:Sr}{e:Nat}{Zd O2:Hp}{O:List Sr}{n1 c1:Nat}(hg:O2 e=some (.cells #[.slice p1 n1 c1,.slice q9 A d1] 185 (0,0)))(hl:I1 O2 p1 n1 s.ls)(h2:BB 2 Bp O2 q9 A s.ps)(KJ:BE s.ls)(hq:A<=1000000000000)(h9:n9<=1000000000)(LX:Ext Zd O2)(ho:B6 2 CW (Zd.new O2) p9 n9 c9 O)
  (K:∀ρ p' n' c',n'<=n9+1->Ext Zd ρ->B6 2 CW (Zd.new ρ) p' n' c' (O++[Sr.mk s.ls (CZ lo hi s.ps)].filter λs=>decide (s.ps≠[]))->Ae.E2 R (aD hb 0) lo hi p' n' c' IA n20 c20 En Ir ρ) :
  Ae.TH R (aD hb 0) lo hi p9 n9 c9 (aD e 0) none 0 0 IA n20 c20 En Ir q9 A d1 (A:Int) 0 O2:=by
 have eA:s.ps.length=A:=h2.1
 suffices loop:∀(g k:Nat) (ρ:Hp) (pp q2:Option Addr) (G cc:Nat),q2=q9->A-k=g->k<=A->G<=k->Aa 2 Bp O2 ρ pp G cc (CZ lo hi (s.ps.take k))->Ae.TH R (aD hb 0) lo hi p9 n9 c9 (aD e 0) pp G cc IA n20 c20 En Ir q2 A d1 (A:Int) (k:Int) ρ from loop A 0 O2 none q9 0 0 rfl rfl (AfI _) (Ae1 _) (Aa.nil (.refl _))
 intro g
 induction g with
 | zero=>
  intro k ρ pp q2 G cc e2 hgk hk hkk Ii;rw[Ae7 (by omega)]at Ii;have hlen:(CZ lo hi s.ps).length=G:=Ii.1.1;have CA:=Ii.up;refine Ae.Tg ⟨λhh=>by omega,λ_=>⟨λGb=>λb61 h61=>⟨e,0,rfl,p1,n1,c1,AD ((CA.trans (Ext.set h61)) _ _ hg) rfl,?_⟩,λhz=>?_⟩⟩
  .have AR:CZ lo hi s.ps≠[]:=λe=>by rw[e]at hlen;have:0=G:=hlen;omega
   refine Gw (hl.mono Eh.mono CA) (by have:=KJ.1;have:=hl.1;omega) (λp' c' Z3 DG x3=>⟨p',n1,c',rfl,λxw h69=>?_⟩) h61;have AGJ:=Ii.mono Bp.mono x3;have Tn:=B6.mono CW.mono (Ext.E7 AGJ.up) ho;have U8:G<=cc:=by obtain⟨cs,WD,_⟩:=Ii.1.2;exact Own.cap WD
   have hp9:∀a,p9=some a->O2 a.block≠none:=λa ha e=>by
    have:=ho.block a ha;cases hn:(Zd.new O2) a.block with
    | none=>exact this hn
    | some u=>rw[(AW.1 hn).2]at e;cases e
   have rl:I1 ((Zd.new Z3).del p9) p' n1 s.ls:=(DG.rd Eh.mono).mono Eh.mono (Ext.UE (LX.trans CA) λa ha e=>hp9 a ha (AT CA e));have rp:BB 2 Bp ((Zd.new Z3).del p9) pp G (CZ lo hi s.ps):=(Aa.Qy (λ_ _ _ _ h=>h) AGJ).mono Bp.mono (Ext.UE LX hp9);have he:CW ((Zd.new Z3).del p9) [.slice p' n1 c',.slice pp G cc] ⟨s.ls,CZ lo hi s.ps⟩:=⟨p',n1,c',pp,G,cc,rfl,rl,rp,U8⟩;refine B6.G8 CW.mono (LX.trans AGJ.up) Tn rfl (CW.one _ _ _ he) he (by omega) (λp2 c2 ρ' Cq E4=>⟨_,_,_,rfl,K ρ' p2 (n9+1) c2 (Ae1 _) E4 ?_⟩) h69;rw[AgX (by simpa using AR),AgU];exact Cq
  .have he:CZ lo hi s.ps=[]:=Ae6 (by omega);refine K ρ p9 n9 c9 (by omega) (LX.trans CA) ?_;rw[AgI (by simpa using he),AgU,AfG];exact B6.mono CW.mono (Ext.E7 CA) ho
 | succ g ihp=>
  intro k ρ pp q2 G cc e2 hgk hk hkk Ii;subst e2;have JO:k<A:=by omega
  obtain⟨x,hx⟩:=h2.ex JO;obtain⟨b2,o2,hq,Rl⟩:=Bp.at h2 hx;have nx:∀ρ' p' k' c',k'<=k+1->Aa 2 Bp O2 ρ' p' k' c' (CZ lo hi (s.ps.take (k+1)))->Ae.GA R (aD hb 0) lo hi p9 n9 c9 (aD e 0) p' k' c' IA n20 c20 En Ir q2 A d1 (A:Int) (k:Int) ρ':=λρ' p' k' c' qx AF8=>by
   have:=ihp (k+1) ρ' p' q2 k' c' rfl (by omega) (by omega) qx AF8;rw[show((k+1:Nat):Int)=(k:Int)+1 by omega]at this;exact Ae.FP ⟨by unfold AK;omega,this⟩
  have A9:¬(lo<=x.1/\x.1<=hi)->CZ lo hi (s.ps.take (k+1))=CZ lo hi (s.ps.take k):=λhh=>by
   unfold CZ;rw[AL hx,AgL,AgI (by simpa using hh),AgU,AfG]
  have AF9:(lo<=x.1/\x.1<=hi)->CZ lo hi (s.ps.take (k+1))=CZ lo hi (s.ps.take k)++[x]:=λhh=>by
   unfold CZ;rw[AL hx,AgL,AgX (by simpa using hh),AgU]
  have skip:¬(lo<=x.1/\x.1<=hi)->Ae.GA R (aD hb 0) lo hi p9 n9 c9 (aD e 0) pp G cc IA n20 c20 En Ir q2 A d1 (A:Int) (k:Int) ρ:=λhh=>nx ρ pp G cc (by omega) (by rw[A9 hh];exact Ii);subst hq;refine Ae.Tg ⟨λ_=>⟨b2,o2,rfl,by unfold In;omega,x.1,x.2,by simpa using Rl.mono Ii.up,λ_=>⟨λa1=>⟨λa2=>λb54 h54=>?_,λa2=>skip λhh=>a2 hh.2⟩,λa1=>skip λhh=>a1 hh.1⟩⟩,λhh=>by omega⟩;refine Aa.G8 (vs:=[.I x.1,.U x.2]) (x:=x) Bp.mono Ii rfl (Bp.one ρ _ x rfl) rfl (by omega) (λp' c' ρ' Cq _=>⟨_,_,_,rfl,nx ρ' p' (G+1) c' (by omega) ?_⟩) h54;rw[AF9 ⟨a1,a2⟩];exact Cq
theorem vp {lo hi:Int}{l:List Sr}(h:(l.map (·.ls)).Nodup):((CD lo hi l).map (·.ls)).Nodup:=by
 unfold CD;refine List.Nodup.sublist (List.Sublist.map _ List.filter_sublist) ?_;rw[Afg];exact h
theorem ai {c1:Nat}{lo hi:Int}(h:DZ Z22 T hb m3 m4 lim Z q)(hZ:Z.length<=1000000000)(hq:q<=1000000000000)
  (K:∀O p n c Z'2,O.Perm (CD lo hi (Z.map (·.1)))->O.Pairwise NO->BB 2 CW (Z22.new Z'2) p n O->Ext Z22 Z'2->n<=Z.length->n<=c->R (.returned (.slice p n c)) Z'2):Spec prog 51 #[.pointer (aD hb 0),.slice none 0 c1,.I lo,.I hi] Z22 R:=by
 refine Ae.start ⟨hb,0,rfl,fL h (by omega) λY IA n20 c20 A hY AGK=>⟨IA,n20,c20,rfl,?_⟩⟩;have x1:=AGK.up;have h1:=h.ext x1;have hr:=AGK.rd (λ_ _ _ _ _ h=>h);have hYn:Y.length=n20:=by have:=AGK.1.1;rwa[AfO]at this
 have hYZ:=hY.length_eq
 suffices H:∀(g i:Nat) (O2:Hp) (p9:Option Addr) (n9 c9:Nat),n20-i=g->i<=n20->n9<=i->Ext A O2->B6 2 CW (A.new O2) p9 n9 c9 (CD lo hi ((Y.take i).map (·.1)))->Ae.A3 R (aD hb 0) lo hi p9 n9 c9 IA n20 c20 (n20:Int) (i:Int) O2 from H n20 0 A none 0 0 rfl (AfI _) (Ae1 _) (.refl _) B6.nil
 intro g
 induction g with
 | zero=>
  intro i O2 p9 n9 c9 hg hib h9 G ho;rw[Ae7 (by omega)]at ho;have LZ:((Y.map (·.1)).map (·.ls)).Nodup:=by
   rw[Afg];exact((hY.map _).nodup_iff).2 h.nd
  have ATr:WU (A.new O2) A:=λx hx=>by
   cases hn:(A.new O2) x with
   | none=>rfl
   | some u=>exact absurd (AW.1 hn).1 hx
  refine Ae.AY ⟨λhh=>by omega,λ_=>Spec.Gv (Ext.Cp A O2) G ATr (TB (Z0:=λ_=>none) ⟨ho,λx o hx=>by cases hx⟩ (by omega) (vp LZ) λO N' hO hp Cq hd=>⟨p9,n9,c9,rfl,K O p9 n9 c9 _ (hO.trans (((hY.map _).map _).filter _)) hp ?_ (x1.trans (Ext.NH hd)) (by omega) ?_⟩)⟩
  .refine(Cq.rd CW.mono).mono CW.mono λx o hx=>AW.2 ⟨?_,Hp.Uy hx⟩;cases hs:Z22 x with
   | none=>rfl
   | some u=>rw[hd x (by rw[x1 _ _ hs];simp)]at hx;cases hx
  .obtain⟨cs,WD,_⟩:=Cq.1.2;exact Own.cap WD
 | succ g ih=>
  intro i O2 p9 n9 c9 hg hib h9 G ho;have IN:i<n20:=by omega
  obtain⟨z,hz⟩:∃z,Y[i]?=some z:=⟨_,Ae3 (by omega)⟩;obtain⟨b,o,rfl,Dt⟩:=Wg.at hr (i:=i) (x:=Bf z.1.ls) (by rw[AfZ,hz];rfl);have hzm:z∈Z:=hY.subset (Ae2 hz);have ht:=h1.ext G;obtain⟨p1,n1,oz,q1,m1,d1,g1,g2,g3,g4⟩:=(h1.CP z hzm).2;have kpx:Ext (A.kp T) A:=λx o hx=>(Az.1 hx).2;have A4:=h.ok z hzm;have eA:z.1.ps.length=m1:=g3.1;refine Ae.AY ⟨λ_=>⟨b,o,rfl,by unfold In;omega,_,by simpa using(Dt.mono G).1,hb,0,rfl,some m3,AD (Az.1 ht.box).2 rfl,ht.find hzm ⟨z.2,0,rfl,q1,m1,d1,AD (G _ _ g1) rfl,?_⟩⟩,λhh=>by omega⟩;refine vo (s:=z.1) (G _ _ g1) ((g2.mono Eh.mono kpx).mono Eh.mono G) ((g3.rd Bp.mono).mono Bp.mono G) A4.1 (by omega) (by omega) G ho λρ p' n' c' rG E4 Cq=>?_;have:=ih (i+1) ρ p' n' c' (by omega) (by omega) (by omega) E4 (by rw[AL hz,AfF];exact(jz (s:=z.1)).symm▸Cq);rw[show((i+1:Nat):Int)=(i:Int)+1 by omega]at this;exact Ae.Qb ⟨by unfold AK;omega,this⟩
end
end TwW
end
