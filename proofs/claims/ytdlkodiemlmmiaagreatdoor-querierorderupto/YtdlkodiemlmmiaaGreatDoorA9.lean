/-
  Part 9 of the proof that the law QuerierOrderUptoCardSaid of the given program answers true for every input of the given statement; the input reads behind the call as it did. (The texts: packed from 7 texts. Names are shortened by the packing program, for the bound on size.)
-/
import Derived.Test.YtdlkodiemlmmiaaGreatDoorA8
set_option linter.all false
section
namespace TwW
open Go Tw Go.RowKit Go.Proofs.Tryz
theorem AGg (w:List UInt8):(bA w).size=w.length:=by simp[bA,ByteArray.size]
theorem AGh:∀(n:Nat) (l a:List UInt8) (x:List UInt8×List UInt8),l.length<=n->IK l a=some x->x.1.length+x.2.length<=a.length+l.length:=by
 intro n
 induction n with
 | zero=>
  intro l a x G h;cases l with
  | nil=>rw[IK.eq_def]at h;cases h
  | cons c l=>rw[Ajk]at G;omega
 | succ n ih=>
  intro l a x G h;cases l with
  | nil=>rw[IK.eq_def]at h;cases h
  | cons c l=>
   rw[Ajk]at G;rw[IK.eq_def]at h;dsimp only at h;split at h
   .cases h
   split at h
   .cases h;simp
   split at h
   .cases l with
    | nil=>cases h
    | cons u l'=>
     rw[Ajk]at G;dsimp only at h;split at h
     .have:=ih _ _ _ (by omega) h;simp only[Ajr,Ajk,Aka]at this ⊢;omega
     split at h
     .have:=ih _ _ _ (by omega) h;simp only[Ajr,Ajk,Aka]at this ⊢;omega
     .cases h
   .have:=ih _ _ _ (by omega) h;simp only[Ajr,Ajk,Aka]at this ⊢;omega
theorem xi {t c:Cl}{x:Int×List Cl}(h:c∈(JN t x).2):c=t\/c∈x.2:=by
 unfold JN at h;split at h
 .exact Ajo.1 h
 .cases h
theorem AGi:∀(f:Nat) (l:List UInt8),∀c∈(HA f l).2,c.text.size<=l.length:=by
 intro f
 induction f with
 | zero=>intro l c G;cases G
 | succ f ih=>
  intro l c G;cases l with
  | nil=>rw[HA]at G;rw[Ajp.1 G];exact Ajt _
  | cons u l=>
   have d1:(l.dropWhile DF).length<=l.length:=(AlL _).length_le;have d2:(l.dropWhile JL).length<=l.length:=(AlL _).length_le;have d3:(l.takeWhile DF).length<=l.length:=(AlZ _).length_le;have d4:(l.takeWhile JL).length<=l.length:=(AlZ _).length_le;have go:∀(r:List UInt8) (k v:Int) (w:List UInt8),r.length<=l.length+1->w.length<=l.length+1->c∈(JN (Ut k (bA w) v) (HA f r)).2->c.text.size<=(u::l).length:=λr k v w hr hw hm=>by
    rw[Ajk];rcases xi hm with rfl|hm
    .show(bA w).size<=_
     rw[AGg];exact hw
    .have:=ih r c hm;omega
   rw[HA]at G;split at G
   .have:=ih l c G;rw[Ajk];omega
   split at G
   .split at G
    .exact go _ _ _ _ (by omega) (by rw[Ajk];omega) G
    split at G
    .exact go _ _ _ _ (by omega) (by rw[Ajk];omega) G
    .cases G
   split at G
   .exact go _ _ _ _ (by omega) (by rw[Ajk];omega) G
   split at G
   .split at G
    .rename_i a r ht;have:=AGh _ _ _ _ (Ajt _) ht;simp at this;exact go _ _ _ _ (by omega) (by omega) G
    .cases G
   split at G
   .exact go _ _ _ _ (by rw[Aj6];omega) (by rw[Ajk,AkA];omega) G
   split at G
   .exact go _ _ _ _ (by omega) (by simp) G
   .cases G
theorem dn {s:ByteArray}(h:(Cp s).1=0):∀x∈(Cp s).2,x.text.size<=4611686018427387904:=λx hx=>by
 rcases(Po h).2 x hx with h1|⟨c,hc,h1⟩
 .rw[h1];exact Ajy _
 .rw[h1];unfold aB at hc;split at hc
  .cases hc
  .have:=AGi _ _ c hc;have G:s.data.toList.length=s.size:=AkP (xs:=s.data);omega
section
variable {Z22 ρ M:Hp}{R:Rr}
theorem aG {t:Int}(h:R (.returned (.bool (decide (-1099511627776<=t)&&decide (t<=1099511627776)))) Z22):Spec prog 25 #[.I t] Z22 R:=
 Lm.start ⟨λG=>by rw[Aj0 G,Ak1]at h;exact h,λhh=>by rw[Aj1 hh,Aku]at h;exact h⟩
theorem qu {T:List Nd}{t:Int}{p pt:Option Addr}{n c nt ct b m fm:Nat}{e rf w:Int}{ms:List Mem}(hr:RdM ρ p n ms)(hid:∀(i:Nat) (x:Mem),ms[i]?=some x->x.id=i)(vE:1<=rf/\rf<=5)(hw:IntKind.i64.wrap (Int.tdiv (rf-1) 2)=w)(hw2:0<=w/\w<=2)(hn:n<=1000)(G:b≠m)(gw:b≠fm)(hmf:m≠fm)(rT:Ae 10 Ia ρ pt nt T)(tr:TrQ T t)
  (hR:∀M',QV ⟨T,t,Mc n w,false,0,0,[],E3 n λ_=>0,[],[]⟩ ρ M' b m fm->R (.T #[.pointer (aD b 0),.I 0]) (ρ.or M')) :
  ∀(d k:Nat) (M:Hp),n-k=d->k<=n->FI ρ M->M b=some (.cells (qLg pt nt ct t m 0 false 0 0 none 0 0 fm none 0 0 .nilFunc) 72 (0,0))->MZ .i64 M m (E3 k λ_=>0)->MZ .u64 M fm []->
   CP.jY R rf e p n c (aD b 0) p n c (n:Int) (k:Int) (ρ.or M):=by
 intro d
 induction d with
 | zero=>
  intro k M hd hk D hM hm hf;obtain rfl:k=n:=by omega
  have nb:ρ b=none:=D b (by rw[hM];simp);refine CP.Ve ⟨λhh=>by omega,λ_=>⟨by unfold AL;omega,by decide,λx hx=>⟨by rw[hx,hw];unfold AL;omega,b,0,rfl,?_⟩⟩⟩;rw[hx,hw];refine AI.tZ ACl (BT D hM) rfl rfl rfl AIv ?_;rw[BZ nb];have D3:=H5 (o:=.cells (qLg pt nt ct t m (Mc k w) false 0 0 none 0 0 fm none 0 0 .nilFunc) 72 (0,0)) D nb;refine AI.tZ Vs (BT D3 (Hp.AA _ _ _)) rfl rfl rfl gP ?_;rw[BZ nb,Hp.set_set];exact hR _ ⟨H5 D nb,G,gw,hmf,⟨pt,nt,ct,none,0,0,none,0,0,Hp.AA _ _ _,rT,Ae.nil,Ae.nil,Ajt _⟩,hm.loc (Hp.AB (Aj4 G)),hf.loc (Hp.AB (Aj4 gw)),tr,Ajy _⟩
 | succ d ih=>
  intro k M hd hk D hM hm hf;have Cs:k<n:=by omega
  obtain⟨x,hx⟩:=hr.ex Cs;obtain⟨b1,o1,q,j,c',rfl,hl,ht⟩:=hr.at' hx;refine CP.Ve ⟨λ_=>⟨b1,o1,rfl,by unfold In;omega,x.id,x.state,q,j,c',by simpa using hl.mono (Ext.Cf ρ M),λ_=>⟨b,0,rfl,some m,AJ (BT D hM) rfl,MZ.put (Gy D hm) λo ho=>⟨AO Cs hr.big,?_⟩⟩⟩,λhh=>by omega⟩;have nm:ρ m=none:=D m hm.known;rw[BZ nm];have:=ih (k+1) (M.set m o) (by omega) (by omega) (H5 D nm) ((Hp.AB G).trans hM) (by
   have:=ho (M.set m o) (Hp.AA _ _ _);rw[hid k x hx]at this;rw[<-S4 (f:=λ_=>0)];exact this) (hf.loc (Hp.AB (Aj4 hmf)))
  rw[show((k+1:Nat):Int)=(k:Int)+1 by omega]at this;exact this
theorem Rl {s:ByteArray}{t:Int}{p:Option Addr}{n c:Nat}{e rf w:Int}{ms:List Mem}(hr:RdM Z22 p n ms)(hs:gJ ms)(Aa:OkR ms)(hid:∀(i:Nat) (x:Mem),ms[i]?=some x->x.id=i)(vE:1<=rf/\rf<=5)(hw:IntKind.i64.wrap (Int.tdiv (rf-1) 2)=w)(hw2:0<=w/\w<=2)(hn:n<=1000)
  (hE:aF s t≠0->∀Z',Ext Z22 Z'->R (.T #[.pointer none,.I (aF s t)]) Z')
  (hR:aF s t=0->∀ρ' M' b m fm,QV ⟨(Cp s).2,t,Mc n w,false,0,0,[],E3 n λ_=>0,[],[]⟩ ρ' M' b m fm->Ext Z22 ρ'->R (.T #[.pointer (aD b 0),.I 0]) (ρ'.or M')) :
  Spec prog 6 #[.string s,.I t,.I t,.I 0,.agg #[.U e,.slice p n c],.I rf] Z22 R:=by
 refine CP.start λDk=>mR (λh0 Z1 p1 n1 c1 EB BC=>⟨p1,n1,c1,0,0,rfl,λG=>absurd rfl G,λ_=>?_⟩) λAv a Z1 BC=>⟨none,0,0,a,_,rfl,λ_=>?_,λG=>absurd Av G⟩
 rotate_left
 .have e1:aF s t=(Cp s).1:=by unfold aF;rw[Ajl Av]
  rw[e1]at hE;exact hE Av Z1 BC
 have eO:aF s t=if Hd (Cp s).2=none then gM (Cp s).2 else if Hd (Cp s).2=some 3 then 220 else if t < -1099511627776\/1099511627776<t then 221 else 0:=by unfold aF;rw[Ajj (by rw[h0];simp)]
 rw[eO]at hE hR;have Jw:n1<=1000000000:=by have:=EB.1;have:=(Po h0).1;omega
 refine lq EB Jw (dn h0) (λk Z2 hk Ao=>⟨k,0,0,rfl,λG=>absurd rfl G,λ_=>?_⟩) λj Z2 hk Ao=>⟨0,j,_,rfl,λ_=>?_,λG=>absurd (dP hk) G⟩
 rotate_left
 .rw[Ajl hk]at hE;exact hE (dP hk) Z2 (BC.trans Ao)
 rw[Ajj (by rw[hk];simp),hk]at hE hR;have X2:=BC.trans Ao;refine⟨λh3=>?_,λh3=>?_⟩
 .rw[Ajl (by rw[h3])]at hE;exact hE (by decide) Z2 X2
 rw[Ajj (by simpa using h3)]at hE hR;have bad:¬(-1099511627776<=t/\t<=1099511627776)->R (.T #[.pointer none,.I 221]) Z2:=λhb=>by
  rw[Ajl (by omega)]at hE;exact hE (by decide) Z2 X2
 refine aG ⟨_,rfl,λhf=>bad λG=>?_,λht=>?_⟩
 .rw[Aj0 G.1,Aj0 G.2]at hf;cases hf
 rw[Ajz,Aj3,Aj3]at ht;rw[Ajj (by omega)]at hR;refine aG ⟨_,rfl,λhf=>bad λG=>?_,λ_=>?_⟩
 .rw[Aj0 G.1,Aj0 G.2]at hf;cases hf
 refine⟨λG=>absurd G (by decide),λ_=>⟨λG=>absurd G (by decide),λ_=>⟨λG=>absurd G (by decide),λ_=>?_⟩⟩⟩;refine Pf (hr.mono Qh.mono X2) hs ⟨_,rfl,λAv=>absurd (by simp[ACe,Aa]) Av,λ_=>⟨λG=>by omega,λ_=>⟨λG=>by omega,λ_=>?_⟩⟩⟩;refine C7 λm hm=>⟨m,rfl,C7 λfm hf=>⟨fm,rfl,λb hb=>?_⟩⟩;obtain⟨f1,f2⟩:=Hp.AM hf;obtain⟨b1,b2⟩:=Hp.AM hb;obtain⟨b3,b4⟩:=Hp.AM b2;have D0:=uG Z2;have e0:Z2=Z2.or vw:=(ADB Z2).symm;rw[e0,BZ hm,BZ f2,BZ b4];have D1:FI Z2 (vw.set m (.map #[] 0)):=H5 D0 hm;have D2:FI Z2 ((vw.set m (.map #[] 0)).set fm (.map #[] 0)):=H5 D1 f2;refine qu (hr.mono Qh.mono X2) hid vE hw hw2 hn b3 b1 (Aj4 f1) (EB.mono Ia.mono Ao) ⟨⟨k,hk⟩,(Po h0).1,dn h0,ht⟩ (λM' hQ=>hR rfl Z2 M' b m fm hQ X2) n 0 _ rfl (Ajy _) (H5 D2 b4) (Hp.AA _ _ _) ?_ ?_
 .exact MZ.loc (MZ.fresh (Z22:=vw)) ((Hp.AB (Aj4 b3)).trans (Hp.AB (Aj4 f1)))
 .exact MZ.loc (MZ.fresh (Z22:=vw.set m (.map #[] 0))) (Hp.AB (Aj4 b1))
end
end TwW
end
section
namespace TwW
open Go Tw
section
variable {x y z:Pt}{a b c:List Pt}
theorem uP (h:x.1<y.1):Bk (x::a) (y::b)=x::Bk a (y::b):=by rw[GJ,Ajl h]
theorem iO (h:y.1<x.1):Bk (x::a) (y::b)=y::Bk (x::a) b:=by rw[GJ,Ajj (by omega),Ajl h]
theorem qw (h:x.1=y.1):Bk (x::a) (y::b)=(x.1,if x.2<y.2 then y.2 else x.2)::Bk a b:=by rw[GJ,Ajj (by omega),Ajj (by omega)]
theorem qM1 {t v:Int}(h:t<y.1):Bk ((t,v)::a) (y::b)=(t,v)::Bk a (y::b):=uP h
theorem qM2 {t v:Int}(h:y.1<t):Bk ((t,v)::a) (y::b)=y::Bk ((t,v)::a) b:=iO h
theorem qM3 {t v:Int}(h:t=y.1):Bk ((t,v)::a) (y::b)=(t,if v<y.2 then y.2 else v)::Bk a b:=qw h
theorem rM1 {t v:Int}(h:x.1<t):Bk (x::a) ((t,v)::b)=x::Bk a ((t,v)::b):=uP h
theorem rM2 {t v:Int}(h:t<x.1):Bk (x::a) ((t,v)::b)=(t,v)::Bk (x::a) b:=iO h
theorem rM3 {t v:Int}(h:x.1=t):Bk (x::a) ((t,v)::b)=(x.1,if x.2<v then v else x.2)::Bk a b:=qw h
end
theorem dq:∀a:List Pt,Bk a a=a
 | []=>Dx []
 | x::a=>by
  rw[qw rfl,dq a,Ajj (by omega)]
theorem qz:∀(n:Nat) (a b c:List Pt),a.length+b.length+c.length<=n->Bk (Bk a b) c=Bk a (Bk b c):=by
 intro n
 induction n with
 | zero=>
  intro a b c h;obtain rfl:a=[]:=Aj8 (by omega);rw[CW,CW]
 | succ n ih=>
  intro a b c h;cases a with
  | nil=>rw[CW,CW]
  | cons x a=>
   cases b with
   | nil=>rw[Dx,CW]
   | cons y b=>
    cases c with
    | nil=>rw[Dx,Dx]
    | cons z c=>
     simp only[Ajk]at h;have i1:=ih a (y::b) (z::c) (by simp only[Ajk];omega);have i2:=ih (x::a) b (z::c) (by simp only[Ajk];omega);have i3:=ih (x::a) (y::b) c (by simp only[Ajk];omega);have i4:=ih a (y::b) c (by simp only[Ajk];omega);have i5:=ih (x::a) b c (by simp only[Ajk];omega);have i6:=ih a b (z::c) (by simp only[Ajk];omega);have i7:=ih a b c (by omega);rcases AlH x.1 y.1 with G|G|G
     .rcases AlH x.1 z.1 with q6|q6|q6
      .rw[uP G,uP q6,i1];rcases AlH y.1 z.1 with Rq|Rq|Rq
       .rw[uP Rq,uP G]
       .rw[qw Rq,rM1 G]
       .rw[iO Rq,uP q6]
      .rw[uP G,qw q6,i4,iO (x:=y) (y:=z) (by omega),qw q6]
      .rw[iO (x:=y) (y:=z) (by omega),iO q6,<-i3,uP G,iO q6]
     .rcases AlH x.1 z.1 with q6|q6|q6
      .rw[qw G,qM1 q6,i6,uP (x:=y) (y:=z) (by omega),qw G]
      .rw[qw G,qM3 q6,i7,qw (x:=y) (y:=z) (by omega),rM3 G]
       congr 2
       try dsimp only
       (repeat' split)<;>omega
      .rw[iO (x:=y) (y:=z) (by omega),iO q6,<-i3,qw G,qM2 q6]
     .rcases AlH y.1 z.1 with Rq|Rq|Rq
      .rw[iO G,uP Rq,i2,uP Rq,iO G]
      .rw[iO G,qw Rq,i5,qw Rq,rM2 G]
      .rw[iO (x:=y) (y:=z) Rq,iO (x:=x) (y:=z) (by omega),<-i3,iO G,iO Rq]
def xj:Option (List Pt)->Option (List Pt)->Option (List Pt)
 | some x,some y=>some (Bk x y)
 | some x,none=>some x
 | none,o=>o
theorem aH {a b:List Sr}(G:a.Pairwise QF)(hb:b.Pairwise QF)(k:List Lb):IP (BE a b) k=xj (IP a k) (IP b k):=by
 rw[T6 a b G hb k];cases IP a k<;>cases IP b k<;>rfl
theorem xk (x y z:Option (List Pt)):xj (xj x y) z=xj x (xj y z):=by
 cases x<;>cases y<;>cases z<;>simp only[xj];exact Ajw some (qz _ _ _ _ (Ajt _))
theorem aI {a b c:List Sr}(G:a.Pairwise QF)(hb:b.Pairwise QF)(hc:c.Pairwise QF):BE (BE a b) c=BE a (BE b c):=
 gS (CX _ _ (CX _ _ G hb) hc) (CX _ _ G (CX _ _ hb hc)) λk=>by
  rw[aH (CX _ _ G hb) hc,aH G hb,aH G (CX _ _ hb hc),aH hb hc,xk]
theorem dt {a:List Sr}(G:a.Pairwise QF):BE a a=a:=
 gS (CX _ _ G G) G λk=>by
  rw[aH G G];cases IP a k with
  | none=>rfl
  | some x=>exact Ajw some (dq x)
end TwW
end
section
namespace TwW
open Go Tw Go.RowKit Go.Proofs.Tryz
theorem okX:DU none [mG]=true:=by kernel_rfl
theorem psX:∀s∈[mG],S0 s:=λs G=>by
 rw[Ajp]at G;subst G;exact⟨by decide,by decide⟩
theorem clX:E7 (-9) VU [mG]=[mG]:=by kernel_rfl
theorem AcU:Modest TX [mG]:=by
 refine⟨by decide,txX,by decide,λs G=>?_,λs G p hp=>?_⟩
 .rw[Ajp]at G;subst G;decide
 .rw[Ajp]at G;subst G;simp only[mG,Ajp]at hp;subst hp;decide
theorem instX:instF TX [mG] 60=(0,[⟨[(Eb,sX)],5⟩]):=by kernel_rfl
section
variable {Z22:Hp}{R:Rr}
theorem mS {p q:Option Addr}{c d:Nat}(h1:DB .u64 Z22 p 1 [4])(h2:DB .u64 Z22 q 1 [4])(hR:R (.B true) Z22):Spec prog 22 #[.slice p 1 c,.slice q 1 d] Z22 R:=by
 obtain⟨b,o,rfl,l1⟩:=DB.at h1 (i:=0) (x:=4) rfl;obtain⟨b',o',rfl,l2⟩:=DB.at h2 (i:=0) (x:=4) rfl;exact C0.start ⟨λG=>absurd rfl G,λ_=>C0.DH ⟨λ_=>⟨b,o,rfl,by decide,4,by simpa using l1,b',o',rfl,by decide,4,by simpa using l2,λG=>absurd rfl G,λ_=>⟨iK (by decide),C0.DH ⟨λG=>absurd G (by decide),λ_=>hR⟩⟩⟩,λG=>absurd (by decide) G⟩⟩
theorem AVM {b:Nat}{ρ:Hp}(h:ρ b=some (.cells #[.U 4] 27 (0,0))):DB .u64 ρ (aD b 0) 1 [4]:=DB.eD ⟨rfl,by omega,.inr ⟨b,0,rfl,AJ h rfl,trivial⟩⟩
theorem q8:∀(Z22:Hp) (R:Rr),Gl Z22->(∀Z',Ext Z22 Z'->R (.B true) Z')->Spec prog 9 #[] Z22 R:=λZ22 R hg h=>by
 refine UN.start (ME λZ1 p1 c1 EB BC=>⟨0,p1,3,c1,rfl,qk (w:=1) EB gm ok3 id3 (by decide) (by decide) (by decide) (by decide) λρ2 M2 b m fm hQ2 Ao=>⟨_,_,rfl,λG=>absurd rfl G,λ_=>⟨λG=>(by cases G),λ_=>?_⟩⟩⟩);refine L8 hQ2 λρ3 CE D3=>⟨_,_,rfl,?_⟩;have hQ3:=hQ2.up CE D3;refine Dd D3 (da λρ4 p4 c4 yS hc4 KK D4=>⟨_,_,_,rfl,?_⟩);have hQ4:=hQ3.up KK D4;refine dW (k:=0) hQ4 (dZ (i:=0) (n:=3) (by decide)) (by decide) yS hc4 rfl okX (λs hs=>by cases hs) psX (by decide) λρ5 M5 hQ5 Rp _=>⟨0,rfl,?_⟩;have hQ5:QU ⟨Mc (3:Nat) 1,false,0,false,E1 (E3 3 λ_=>0) ((0:Nat):Int) (0+1),[],BE [] [mG]⟩ ρ5 M5 b m fm:=hQ5;rw[mF (n:=3) (i:=0) (by decide),Ig]at hQ5;have e5:Pe (E3 3 (gj (λ_=>0) 0 (0+1)))=1:=by decide
 refine Yw (one:=false) (fl:=-9) hQ5 (by decide) ⟨rfl,rfl,rfl⟩ (by decide) ⟨λ_ ρ6 hx6 D6=>⟨271,rfl,?_⟩,λRU=>absurd RU (by dsimp only;rw[e5];decide)⟩;have hQ6:=hQ5.up hx6 D6;refine dW (k:=0) (B:=[]) hQ6 (dZ (i:=1) (n:=3) (by decide)) (by decide) Ae.nil (Ajt _) okX rfl psX (λs hs=>by cases hs) (by decide) λρ7 M7 hQ7 hx7 _=>⟨0,rfl,λb44 h44=>?_⟩;have hQ7:QU ⟨Mc (3:Nat) 1,false,0,false,E1 (E3 3 (gj (λ_=>0) 0 (0+1))) ((1:Nat):Int) (0+1),[],BE [mG] []⟩ ρ7 M7 b m fm:=hQ7;rw[mF (n:=3) (i:=1) (by decide),dV]at hQ7;have e7:Pe (E3 3 (gj (gj (λ_=>0) 0 (0+1)) 1 (0+1)))=2:=by decide
 obtain⟨r44,m44⟩:=or_none h44;show Spec prog _ _ _ _
 rw[Gw];have x44:=Ext.set (o:=.cells #[.U 4,.I 0,.I 60,.I 0,.N,.I 0,.I 0,.bool false,.I 0] 91 (0,0)) r44;have hQ8:=hQ7.up x44 (VT hQ7.L6 m44);refine Yw (one:=true) (fl:=-9) hQ8 (by decide) ⟨rfl,b44,0,none,0,rfl,?_⟩ (by decide) ⟨λAx=>absurd Ax (by dsimp only;rw[show Pe _=2 from e7];decide),λ_ ρ9 M9 hQ9 hx9 _=>⟨0,rfl,?_⟩⟩
 .have g:=Hp.AA ρ7 b44 (.cells #[.U 4,.I 0,.I 60,.I 0,.N,.I 0,.I 0,.bool false,.I 0] 91 (0,0));exact⟨AJ g rfl,AJ g rfl,AJ g rfl,AJ g rfl,AJ g rfl,AJ g rfl,AJ g rfl,AJ g rfl,AJ g rfl,trivial⟩
 refine Ph hQ9 rfl rfl (by decide) (λ_ ANC Ro MK xl D10 AcW _=>⟨_,_,_,rfl,?_⟩) λG=>absurd rfl G;have AVQ:=hQ9.up xl D10;refine gZ AVQ rfl rfl (by decide) rfl λAVR xm D11=>⟨_,_,_,_,_,rfl,λb56 h56=>?_⟩;obtain⟨r56,m56⟩:=or_none h56;show Spec prog _ _ _ _
 rw[Gw];have x56:=Ext.set (o:=.cells #[.U 4] 27 (0,0)) r56;have AcX:=AVQ.up (xm.trans x56) (VT D11 m56);refine xR (B:=[]) AcX rfl (AVM (Hp.AA _ _ _)) (by decide) Ae.nil (Ajt _) okX rfl psX (λs hs=>by cases hs) (by decide) λADP M13 AGk AGl _=>⟨0,rfl,?_⟩;have AGk:QU ⟨Mc (3:Nat) 1,true,-9,true,E3 3 (gj (gj (λ_=>0) 0 (0+1)) 1 (0+1)),E1 [] 4 (0+1),BE [mG] []⟩ ADP M13 b m fm:=AGk;rw[dV]at AGk;have X3:Ext Z22 ρ3:=BC.trans (Ao.trans CE);have X7:Ext Z22 ρ7:=X3.trans (KK.trans (Rp.trans (hx6.trans hx7)));have X10:Ext ANC ADP:=xm.trans (x56.trans AGl);have X13:Ext Z22 ADP:=X7.trans (x44.trans (hx9.trans (xl.trans X10)));refine l9 AGk (hg.mono X13) rfl (.inr ⟨rfl,by decide,by decide⟩) okX psX (by decide) (by show Modest TX (E7 (-9) VU [mG]);rw[clX];exact AcU) (by show(instF TX (E7 (-9) VU [mG]) 60).1=0;rw[clX,instX]) λADQ Ka n14 JR mT D14 rD=>?_;have rD:Ae 2 BX (ADQ.or M13) Ka n14 ((instF TX (E7 (-9) VU [mG]) 60).2.map λe=>⟨e.ls,[(60,e.v)]⟩):=rD;rw[clX,instX]at rD;have rD:Ae 2 BX (ADQ.or M13) Ka n14 [mG]:=rD;refine⟨_,_,_,_,_,rfl,λ_=>⟨λ_=>⟨λ_=>⟨λ_=>⟨λ_=>⟨λ_=>λb88 h88=>?_,λG=>absurd rfl G⟩,λG=>absurd rfl G⟩,λG=>absurd rfl G⟩,λG=>absurd rfl G⟩,λG=>absurd rfl G⟩,λG=>absurd rfl G⟩;have x88:=Ext.set (o:=.cells #[.U 4] 27 (0,0)) h88;have Y:Ext ADQ ((ADQ.or M13).set b88 (.cells #[.U 4] 27 (0,0))):=(Ext.Cf _ _).trans x88;refine mS (((AcW.mono (X10.trans mT))).mono Y) (AVM (Hp.AA _ _ _)) ⟨true,rfl,λ_=>⟨λ_=>⟨λ_=>⟨λ_=>⟨λ_=>?_,λG=>absurd rfl G⟩,λG=>absurd rfl G⟩,λG=>absurd rfl G⟩,λG=>absurd rfl G⟩,λG=>by cases G⟩;refine da λAiY Vc Ta AcY _ aw=>⟨_,_,_,rfl,?_⟩;obtain rfl:1=n14:=rD.1;refine Yp ((rD.mono BX.mono x88).mono BX.mono aw) AcY ⟨true,rfl,h _ ?_⟩;exact X13.trans (mT.trans (Y.trans aw))
end
theorem uQ:∀(n:Nat) (a b:List Pt),a.length+b.length<=n->∀p∈Bk a b,(∃q∈a,q.1=p.1/\(q.2=p.2\/∃r∈b,r.2=p.2))\/∃q∈b,q.1=p.1/\q.2=p.2:=by
 intro n
 induction n with
 | zero=>
  intro a b h p hp;obtain rfl:a=[]:=Aj8 (by omega);rw[CW]at hp;exact .inr ⟨p,hp,rfl,rfl⟩
 | succ n ih=>
  intro a b h p hp;cases a with
  | nil=>rw[CW]at hp;exact .inr ⟨p,hp,rfl,rfl⟩
  | cons x a=>
   cases b with
   | nil=>rw[Dx]at hp;exact .inl ⟨p,hp,rfl,.inl rfl⟩
   | cons y b=>
    simp only[Ajk]at h;have G:∀(a' b':List Pt),(∀u∈a',u∈x::a)->(∀u∈b',u∈y::b)->((∃q∈a',q.1=p.1/\(q.2=p.2\/∃r∈b',r.2=p.2))\/∃q∈b',q.1=p.1/\q.2=p.2)->((∃q∈x::a,q.1=p.1/\(q.2=p.2\/∃r∈y::b,r.2=p.2))\/∃q∈y::b,q.1=p.1/\q.2=p.2):=λa' b' ha hb hh=>by
     rcases hh with ⟨q,h1,h2,h3⟩|⟨q,h1,h2⟩
     .exact .inl ⟨q,ha q h1,h2,h3.imp id λ⟨r,h4,h5⟩=>⟨r,hb r h4,h5⟩⟩
     .exact .inr ⟨q,hb q h1,h2⟩
    have ca:∀u∈a,u∈x::a:=λu hu=>Ajm _ hu;have cb:∀u∈b,u∈y::b:=λu hu=>Ajm _ hu;rcases AlH x.1 y.1 with G9|G9|G9
    .rw[uP G9]at hp;rcases Ajo.1 hp with rfl|hp
     .exact .inl ⟨p,Aj5 ..,rfl,.inl rfl⟩
     .exact G a (y::b) ca (λu hu=>hu) (ih a (y::b) (by simp only[Ajk];omega) p hp)
    .rw[qw G9]at hp;rcases Ajo.1 hp with rfl|hp
     .refine .inl ⟨x,Aj5 ..,rfl,?_⟩;by_cases hh:x.2<y.2
      .exact .inr ⟨y,Aj5 ..,by dsimp only;rw[Ajl hh]⟩
      .exact .inl (by dsimp only;rw[Ajj hh])
     .exact G a b ca cb (ih a b (by omega) p hp)
    .rw[iO G9]at hp;rcases Ajo.1 hp with rfl|hp
     .exact .inr ⟨p,Aj5 ..,rfl,rfl⟩
     .exact G (x::a) b (λu hu=>hu) cb (ih (x::a) b (by simp only[Ajk];omega) p hp)
theorem AGm:∀(n:Nat) (a b:List Pt),a.length+b.length<=n->a.Pairwise ltP->b.Pairwise ltP->(Bk a b).Pairwise ltP:=by
 intro n
 induction n with
 | zero=>
  intro a b h _ hb;obtain rfl:a=[]:=Aj8 (by omega);rw[CW];exact hb
 | succ n ih=>
  intro a b h ha hb;cases a with
  | nil=>rw[CW];exact hb
  | cons x a=>
   cases b with
   | nil=>rw[Dx];exact ha
   | cons y b=>
    simp only[Ajk]at h;obtain⟨a1,a2⟩:=AkN.1 ha;obtain⟨b1,b2⟩:=AkN.1 hb;have a1:∀u∈a,x.1<u.1:=a1;have b1:∀u∈b,y.1<u.1:=b1;have low:∀(a' b':List Pt) (t:Int),(∀u∈a',t<u.1)->(∀u∈b',t<u.1)->∀p∈Bk a' b',t<p.1:=λa' b' t h1 h2 p hp=>by
     rcases uQ _ a' b' (Ajt _) p hp with ⟨q,g1,g2,_⟩|⟨q,g1,g2,_⟩
     .rw[<-g2];exact h1 q g1
     .rw[<-g2];exact h2 q g1
    rcases AlH x.1 y.1 with G9|G9|G9
    .rw[uP G9];exact AkN.2 ⟨low a (y::b) x.1 a1 λu G=>by
      rcases Ajo.1 G with rfl|G
      .exact G9
      .have:=b1 u G;omega,ih a (y::b) (by simp only[Ajk];omega) a2 hb⟩
    .rw[qw G9];exact AkN.2 ⟨low a b x.1 a1 λu G=>by have:=b1 u G;omega,ih a b (by omega) a2 b2⟩
    .rw[iO G9];exact AkN.2 ⟨low (x::a) b y.1 (λu G=>by
      rcases Ajo.1 G with rfl|G
      .exact G9
      .have:=a1 u G;omega) b1,ih (x::a) b (by simp only[Ajk];omega) ha b2⟩
structure Gs (k:Nat)(ss:List Sr):Prop where
 ok:DU none ss=true
 s:ss.length<=k
 ls:∀s∈ss,s.ls.length<=1000000000
 ps:∀s∈ss,s.ps.length<=k
 nn:∀s∈ss,∀p∈s.ps,0<=p.2
theorem Gs.nil:Gs 0 []:=⟨rfl,Ajt _,λs G=>(by cases G),λs G=>(by cases G),λs G=>(by cases G)⟩
theorem Gs.yV {k:Nat}{ss:List Sr}(h:Gs k ss):ss.Pairwise QF:=(QE h.ok).2
theorem Gs.mU {k:Nat}{ss:List Sr}(h:Gs k ss)(hk:k<=100000000):∀s∈ss,S0 s:=λs G=>⟨h.ls s G,by have:=h.ps s G;omega⟩
theorem Gs.two {i j:Nat}{a b:List Sr}(G:Gs i a)(hb:Gs j b):Gs (i+j) (BE a b):=by
 refine⟨ACn (λs hs=>?_) (CX _ _ G.yV hb.yV) (λk hk=>by cases hk),Ake (Ku a b) (by have:=G.s;have:=hb.s;omega),λs hs=>?_,λs hs=>?_,λs hs p hp=>?_⟩
 .rcases Ed a b s hs with h|h|⟨x,hx,y,hy,rfl,e⟩
  .exact JF G.ok s h
  .exact JF hb.ok s h
  .have h1:=JF G.ok x hx;have h2:=JF hb.ok y hy;refine⟨h1.1,AMT (λe0=>?_) (AGm _ _ _ (Ajt _) (qU h1.2).2 (qU h2.2).2)⟩;have:=Sz x.ps y.ps;dsimp only at e0;rw[e0]at this;exact(qU h1.2).1 (Aj8 (by simpa using this))
 .rcases Ed a b s hs with h|h|⟨x,hx,y,hy,rfl,e⟩
  .exact G.ls s h
  .exact hb.ls s h
  .exact G.ls x hx
 .rcases Ed a b s hs with h|h|⟨x,hx,y,hy,rfl,e⟩
  .have:=G.ps s h;omega
  .have:=hb.ps s h;omega
  .have h1:=G.ps x hx;have h2:=hb.ps y hy;have:=Pj x.ps y.ps;dsimp only;omega
 .rcases Ed a b s hs with h|h|⟨x,hx,y,hy,rfl,e⟩
  .exact G.nn s h p hp
  .exact hb.nn s h p hp
  .rcases uQ _ x.ps y.ps (Ajt _) p hp with ⟨q,g1,g2,g3|⟨r,g3,g4⟩⟩|⟨q,g1,g2,g3⟩
   .rw[<-g3];exact G.nn x hx q g1
   .rw[<-g4];exact hb.nn y hy r g3
   .rw[<-g3];exact hb.nn y hy q g1
theorem Gs.mod {k:Nat}{ss:List Sr}{T:List Nd}{t fl z:Int}(h:Gs k ss)(hk:k<=10000000)(ht:TrQ T t):Modest T (E7 fl z ss):=by
 have mem:∀s∈E7 fl z ss,∃u∈ss,s.ps=JI fl z u.ps:=λs G=>by
  unfold E7 at G;obtain⟨u,hu,rfl⟩:=AkT.1 (AlC.1 G).1;exact⟨u,hu,rfl⟩
 refine⟨Ake ht.tl (by decide),ht.tx,?_,λs G=>?_,λs G p hp=>?_⟩
 .unfold E7;refine Ake (AkG _ _) ?_;rw[Akb];have:=h.s;omega
 .obtain⟨u,hu,e⟩:=mem s G;rw[e];refine Ake (AkG _ _) ?_;have:=h.ps u hu;omega
 .obtain⟨u,hu,e⟩:=mem s G;rw[e]at hp;exact h.nn u hu p (AlC.1 hp).1
theorem AcZ {i j:Nat}{a b:List Sr}(G:Gs i a)(hb:Gs j b):BE (BE (BE [] b) a) b=BE (BE [] a) b:=by
 rw[Ig,Ig,dS G.yV hb.yV,aI G.yV hb.yV hb.yV,dt hb.yV]
theorem Aca {i j:Nat}{a c:List Sr}(ha:Gs i a)(G:Gs j c):BE (BE a c) c=BE a c:=by
 rw[aI ha.yV G.yV G.yV,dt G.yV]
theorem rE:∀(ids:List Int) (f:List (Int×Int)) (K:Int),(∀j,0<=(A3 f j).getD 0/\(A3 f j).getD 0<=K)->∀j,(A3 f j).getD 0<=(A3 (Fh f ids) j).getD 0/\(A3 (Fh f ids) j).getD 0<=K+ids.length
 | [],f,K,h,j=>⟨AmC _,by have:=(h j).2;simp[Fh];omega⟩
 | i::ids,f,K,h,j=>by
  have G:=rE ids (E1 f i ((A3 f i).getD 0+1)) (K+1) (λj=>by
   rw[Kx];have:=h j;have:=h i;split
   .rw[Ak6];omega
   .omega) j
  have e:Fh f (i::ids)=Fh (E1 f i ((A3 f i).getD 0+1)) ids:=rfl;rw[e,Ajk];rw[Kx]at G;refine⟨?_,by omega⟩;by_cases hj:j=i
  .subst hj;rw[Ajl rfl,Ak6]at G;omega
  .rw[Ajj hj]at G;exact G.1
theorem rF:∀(ids:List Int) (f:List (Int×Int)) (K:Int),(∀j,0<=(A3 f j).getD 0/\(A3 f j).getD 0<=K)->∀j∈ids,0<(A3 (Fh f ids) j).getD 0
 | i::ids,f,K,h,j,G=>by
  have hp:∀j,0<=(A3 (E1 f i ((A3 f i).getD 0+1)) j).getD 0/\(A3 (E1 f i ((A3 f i).getD 0+1)) j).getD 0<=K+1:=λj=>by
   rw[Kx];have:=h j;have:=h i;split
   .rw[Ak6];omega
   .omega
  have e:Fh f (i::ids)=Fh (E1 f i ((A3 f i).getD 0+1)) ids:=rfl;rw[e];rcases Ajo.1 G with rfl|G
  .have h1:=(rE ids _ _ hp j).1;rw[Kx,Ajl rfl,Ak6]at h1;have:=(h j).1;omega
  .exact rF ids _ _ hp j G
theorem S6:∀j,0<=(A3 [] j).getD 0/\(A3 [] j).getD 0<=0:=λj=>by simp[A3]
theorem mV {Q:Qg}{all Acb:List Sr}{mem Acd:List (Int×Int)}{TB:List (Int×Int)}(h:∀j∈GK { Q with TB:=[],all:=all,mem:=mem },0<(A3 TB j).getD 0):GK { Q with TB:=TB,all:=Acb,mem:=Acd }=[]:=by
 unfold GK;rw[List.map_eq_nil_iff,Al9];intro x hx G;have h0:HK { Q with TB:=[],all:=all,mem:=mem } x=true:=by
  unfold HK at G ⊢;simp only[Ajz,Aj3]at G ⊢;exact⟨G.1,G.2.1,G.2.2.1,G.2.2.2.1,by simp[A3]⟩
 have h1:=h x.id (AkT.2 ⟨x,AlC.2 ⟨hx,h0⟩,rfl⟩);unfold HK at G;simp only[Ajz,Aj3]at G;have h2:=G.2.2.2.2;omega
structure TC (Q Q':Qg)(ρ M:Hp)(b m f b' m' f':Nat):Prop where
 l:QV Q ρ M b m f
 r:QV Q' ρ M b' m' f'
 d:(b≠b'/\b≠m'/\b≠f')/\(m≠b'/\m≠m'/\m≠f')/\f≠b'/\f≠m'/\f≠f'
section
variable {Q Q' Q1:Qg}{ρ ρ' M M':Hp}{b m f b' m' f':Nat}
theorem TC.up (h:TC Q Q' ρ M b m f b' m' f')(G:Ext ρ ρ')(hd:FI ρ' M):TC Q Q' ρ' M b m f b' m' f':=⟨h.l.up G hd,h.r.up G hd,h.d⟩
theorem TC.left (h:TC Q Q' ρ M b m f b' m' f')(G:QV Q1 ρ' M' b m f)(hx:Ext ρ ρ')(e:∀j,j≠b->j≠m->j≠f->M' j=M j):TC Q1 Q' ρ' M' b m f b' m' f':=by
 obtain⟨⟨d1,d2,d3⟩,⟨d4,d5,d6⟩,d7,d8,d9⟩:=h.d;exact⟨G,h.r.grow hx G.L6 (e b' d1.symm d4.symm d7.symm) (e m' d2.symm d5.symm d8.symm) (e f' d3.symm d6.symm d9.symm),h.d⟩
theorem TC.right (h:TC Q Q' ρ M b m f b' m' f')(G:QV Q1 ρ' M' b' m' f')(hx:Ext ρ ρ')(e:∀j,j≠b'->j≠m'->j≠f'->M' j=M j):TC Q Q1 ρ' M' b m f b' m' f':=by
 obtain⟨⟨d1,d2,d3⟩,⟨d4,d5,d6⟩,d7,d8,d9⟩:=h.d;exact⟨h.l.grow hx G.L6 (e b d1 d2 d3) (e m d4 d5 d6) (e f d7 d8 d9),G,h.d⟩
theorem xo {A B C:Hp}:(A.or B).or C=A.or (B.or C):=by
 funext k
 cases G:A k with
 | some u=>rw[Hp.Cf (Hp.Cf G),Hp.Cf G]
 | none=>
  rw[Hp.Cn G];cases hb:B k with
  | some u=>rw[Hp.Cf ((Hp.Cn G).trans hb),Hp.Cf hb]
  | none=>rw[Hp.Cn ((Hp.Cn G).trans hb),Hp.Cn hb]
theorem TC.mk2 {ρ0:Hp}(h:QV Q ρ0 M b m f)(h':QV Q' ρ M' b' m' f')(hx:Ext ρ0 ρ)(hd:FI (ρ.or M') M):TC Q Q' ρ (M'.or M) b m f b' m' f':=by
 have n0:∀k,M k≠none->ρ k=none/\M' k=none:=λk hk=>or_none (hd k hk);have hD:FI ρ (M'.or M):=λk hk=>by
  cases hm:M' k with
  | some u=>exact h'.L6 k (by rw[hm];simp)
  | none=>rw[Hp.Cn hm]at hk;exact(n0 k hk).1
 obtain⟨pt,nt,ct,pi,ni,ci,pa,na,ca,k1,_⟩:=h.q;obtain⟨pt',nt',ct',pi',ni',ci',pa',na',ca',k1',_⟩:=h'.q;have nb:=(n0 b (by rw[k1];simp)).2;have nm:=(n0 m h.mm.known).2;have nf:=(n0 f h.ff.known).2;have sb:M' b'≠none:=by rw[k1'];simp
 have sm:=h'.mm.known;have sf:=h'.ff.known;have ne:∀x y,M' x=none->M' y≠none->x≠y:=λx y hx hy e=>hy (e▸hx);have G:∀k,M' k≠none->(M'.or M) k=M' k:=λk hk=>by
  cases hm:M' k with
  | some u=>exact Hp.Cf hm
  | none=>exact absurd hm hk
 exact⟨h.grow hx hD (Hp.Cn nb) (Hp.Cn nm) (Hp.Cn nf),h'.grow (.refl _) hD (G _ sb) (G _ sm) (G _ sf),⟨ne _ _ nb sb,ne _ _ nb sm,ne _ _ nb sf⟩,⟨ne _ _ nm sb,ne _ _ nm sm,ne _ _ nm sf⟩,ne _ _ nf sb,ne _ _ nf sm,ne _ _ nf sf⟩
end
section
variable {Z22 ρ M:Hp}{R:Rr}{s:ByteArray}{t ver fl:Int}{A B C:List Sr}{es:List En}{pa pb pc pi:Option Addr}{na ca nb cb nc cc ni ci:Nat}{b m f b' m' f':Nat}{kA kB kC:Nat}
abbrev Qk (s:ByteArray)(t:Int)(rd:Bool)(ver fl:Int)(es:List En)(mem TB:List (Int×Int))(all:List Sr):Qg:=⟨(Cp s).2,t,Mc (3:Nat) 1,rd,ver,fl,es,mem,TB,all⟩
abbrev MG:List (Int×Int):=E1 (E1 (E3 3 λ_=>0) 0 (0+1)) 1 (0+1)
abbrev UB:List (Int×Int):=E1 (E1 (E1 (E3 3 λ_=>0) 1 (0+1)) 0 (0+1)) 1 (1+1)
theorem AI8 {F:List Sr}{k:Nat}{fp fq:List (Int×Int)}(hP:TC (Qk s t true ver fl es MG fp F) (Qk s t true ver fl es UB fq F) ρ M b m f b' m' f')(hg:Gl ρ)(hF:Gs k F)(hk:k<=10000000)
  (np:GK (Qk s t true ver fl es MG fp F)=[]) (nq:GK (Qk s t true ver fl es UB fq F)=[]) (hR:∀Z',Ext ρ Z'->R (.B true) Z'):Bf.AE3 R (aD b 0) (aD b' 0) (ρ.or M):=by
 have nd:∀{G:Hp} {AVS AVT:Option Addr} {n147 Acf n153 Acg:Nat} {ss:List Sr},Ext ρ G->FI G M->Ae 2 BX (G.or M) AVS n147 ss->Ae 2 BX (G.or M) AVT n153 ss->Spec prog 17 #[.slice AVS n147 Acf,.slice AVT n153 Acg] (G.or M) (AY R (CB λt168 AK=>Bo t168 (Spec prog 21 #[.pointer (aD b 0)] AK (AY R (CS λAZZ n172 AZa Ai=>Br ((n172:Int)=0) (Spec prog 9 #[] Ai (AY R (CB λt177 CC=>R (.B t177) CC))) (R (.B false) Ai)))) (R (.B false) AK))):=λhx hd r1 r2=>by
  obtain rfl:=r1.1.symm.trans r2.1;refine Yp r1 r2 ⟨true,rfl,λ_=>Jy (hP.l.up hx hd) λρ2 p n c Ao D2 Ff _=>⟨_,_,_,rfl,λ_=>?_,λAv=>?_⟩,λhh=>by cases hh⟩
  .refine Dd D2 (q8 _ _ (hg.mono (hx.trans Ao)) λρ3 CE D3=>⟨true,rfl,?_⟩);exact hR _ (hx.trans (Ao.trans (CE.trans (Ext.Cf _ _))))
  .have:=Ff.1;rw[np]at this;have:(0:Nat)=n:=this;exact absurd (by omega) Av
 refine Bf.AE6 (MF hP.l hg rfl hF.ok (hF.mU (by omega)) (by have:=hF.s;dsimp only;omega) (hF.mod hk hP.l.tr) ⟨λh0=>absurd np h0,λ_ he G BC D1=>?_,λ_ he G p1 n1 c1 BC D1 EB=>?_⟩)
 .refine⟨_,_,_,_,_,rfl,MF (hP.r.up BC D1) (hg.mono BC) rfl hF.ok (hF.mU (by omega)) (by have:=hF.s;dsimp only;omega) (hF.mod hk hP.l.tr) ⟨λh0=>absurd nq h0,λ_ _ ρ2 Ao D2=>?_,λ_ si=>absurd si he⟩⟩;exact⟨_,_,_,_,_,rfl,λ_=>⟨λ_=>nd (BC.trans Ao) D2 Ae.nil Ae.nil,λhh=>absurd rfl hh⟩,λhh=>absurd rfl hh⟩
 .refine⟨_,_,_,_,_,rfl,MF (hP.r.up BC D1) (hg.mono BC) rfl hF.ok (hF.mU (by omega)) (by have:=hF.s;dsimp only;omega) (hF.mod hk hP.l.tr) ⟨λh0=>absurd nq h0,λ_ si=>absurd he si,λ_ _ ρ2 p2 n2 c2 Ao D2 Ff=>?_⟩⟩;have Ach:Ae 2 BX (ρ2.or M) p1 n1 _:=EB.mono BX.mono (Ext.kX (Ao.trans (Ext.Cf _ _)) (Ext.Cn D2));exact⟨_,_,_,_,_,rfl,λ_=>⟨λ_=>nd (BC.trans Ao) D2 Ach Ff,λhh=>absurd rfl hh⟩,λhh=>absurd rfl hh⟩
theorem AVU {F G:List Sr}{kF kG:Nat}{ids:List Int}{pI:Option Addr}{n cI:Nat}{fp:List (Int×Int)}(hF:F=BE G C)(gA:Gs kF G)(gC:Gs kG C)(hk:kF+kG+kG<=10000000)(hn:n<=4000000)(hc:n<=cI)(hcc:nc<=cc)(np:GK (Qk s t true ver fl es MG fp F)=[])
  (nq:GK (Qk s t true ver fl es UB (Fh [] ids.reverse) F)=[]) (hg0:Gl Z22) (rI:DB .u64 Z22 pI n ids) (rC:Ae 2 BX Z22 pc nc C) (hR:∀Z',Ext Z22 Z'->R (.B true) Z') :
  ∀(k:Nat) (ρ M:Hp),k<=n->Ext Z22 ρ->TC (Qk s t true ver fl es MG fp F) (Qk s t true ver fl es UB (Fh [] (ids.drop k).reverse) (if k=n then G else F)) ρ M b m f b' m' f'->Bf.AE2 R pc nc cc (aD b 0) (aD b' 0) pI n cI ((k:Int)-1) (ρ.or M):=by
 have hl:ids.length=n:=rI.1;have gF:Gs (kF+kG) F:=by rw[hF];exact gA.two gC
 have eF:BE F C=F:=by rw[hF];exact Aca gA gC
 have eX:∀k:Nat,BE (if k=n then G else F) C=F:=λk=>by
  split
  .exact hF.symm
  .exact eF
 have gX:∀k:Nat,DU none (if k=n then G else F)=true/\(∀s∈(if k=n then G else F),S0 s)/\(if k=n then G else F).length<=10000000:=λk=>by
  split
  .exact⟨gA.ok,gA.mU (by omega),by have:=gA.s;omega⟩
  .exact⟨gF.ok,gF.mU (by omega),by have:=gF.s;omega⟩
 have lC:C.length<=10000000:=by have:=gC.s;omega
 intro k
 induction k with
 | zero=>
  intro ρ M hk0 hx hP;refine Bf.sU ⟨λhh=>absurd hh (by decide),λ_=>⟨λhn0=>?_,λhn0=>?_⟩⟩
  .have n0:n=0:=by omega
   subst n0;obtain rfl:=Aj8 hl;have:=gX 0;refine Rk (K:=0) (ids:=[]) hP.r rfl Ae.nil (by decide) (by decide) (λj=>S6 j) (rC.mono BX.mono hx) hcc this.1 gC.ok this.2.1 (gC.mU (by omega)) (by have:=this.2.2;dsimp only;omega) λρ1 M1 tj BC e1=>⟨0,rfl,?_⟩;have rG:=hP.right tj BC λj h1 _ h3=>e1 j h1 h3;have rG:TC (Qk s t true ver fl es MG fp F) (Qk s t true ver fl es UB (Fh [] []) (BE (if(0:Nat)=0 then G else F) C)) ρ1 M1 b m f b' m' f':=rG;rw[eX 0]at rG;exact AI8 rG (hg0.mono (hx.trans BC)) gF (by omega) np nq λZ' h'=>hR Z' (hx.trans (BC.trans h'))
  .rw[Ajj (by omega),Alr]at hP;exact AI8 hP (hg0.mono hx) gF (by omega) np nq λZ' h'=>hR Z' (hx.trans h')
 | succ k ih=>
  intro ρ M lO hx hP;have iP:k<n:=by omega
  obtain⟨i,hi⟩:=rI.ex iP;have e0:(((k+1:Nat):Int)-1)=(k:Int):=by omega
  rw[e0];have Pa:DB .u64 ρ (Ee pI (Int.toNat (k:Int)) cI 1) (Int.toNat ((k:Int)+1)-Int.toNat (k:Int)) [i]:=by
   have:=Ae.sub (i:=k) (m:=1) (rI.mono hx) (by decide) (by omega) hc;rw[show Int.toNat ((k:Int)+1)-Int.toNat (k:Int)=1 by omega,Aj9];rw[BR hi]at this;exact this
  have gx:=gX (k+1);have hb:=λj=>rE (ids.drop (k+1)).reverse [] 0 S6 j;have hlen:((ids.drop (k+1)).reverse.length:Int)<=4000000:=by rw[List.length_reverse,Aj6];omega
  refine Bf.sU ⟨λ_=>⟨by unfold AL;omega,by omega,?_⟩,λhh=>by omega⟩;refine Rk (K:=4000000) hP.r rfl Pa (by omega) (by omega) (λj=>⟨?_,?_⟩) (rC.mono BX.mono hx) hcc gx.1 gC.ok gx.2.1 (gC.mU (by omega)) (by have:=gx.2.2;dsimp only;omega) λρ1 M1 tj BC e1=>⟨0,rfl,by unfold AL;omega,?_⟩
  .have:=(hb j).1;simpa[A3] using this
  .have:=(hb j).2;show(A3 (Fh [] (ids.drop (k+1)).reverse) j).getD 0<=4000000
   omega
  have rG:=hP.right tj BC λj h1 _ h3=>e1 j h1 h3;have rG:TC (Qk s t true ver fl es MG fp F) (Qk s t true ver fl es UB (Fh (Fh [] (ids.drop (k+1)).reverse) [i]) (BE (if k+1=n then G else F) C)) ρ1 M1 b m f b' m' f':=rG;have ef:Fh (Fh [] (ids.drop (k+1)).reverse) [i]=Fh [] (ids.drop k).reverse:=by
   rw[BR hi,List.reverse_cons];unfold Fh;rw[AlB]
  rw[eX (k+1),ef]at rG;exact ih ρ1 M1 (by omega) (hx.trans BC) (by rw[Ajj (by omega)];exact rG)
theorem Aci:MG.length<=4000000:=by decide
theorem Acj:UB.length<=4000000:=by decide
theorem Ack:¬((Pe MG:Int)<Mc (3:Nat) 1):=by decide
theorem Acl:¬((Pe UB:Int)<Mc (3:Nat) 1):=by decide
theorem AVV {Z:Int->Hp->Prop}{Q1:Qg}(hP:TC Q1 (Qk s t false 0 0 [] (E3 3 λ_=>0) [] []) ρ M b m f b' m' f')(rA:Ae 2 BX ρ pa na A)(rB:Ae 2 BX ρ pb nb B)(rI:Ae 9 F3 ρ pi ni es)(hca:na<=ca)(yT:nb<=cb)(yW:ni<=4000000)(gA:Gs kA A)(G:Gs kB B)(hk:kA+kB+kB<=10000000)
  (bad:IJ fl es=false->∀ρ' M',Ext ρ ρ'->FI ρ' M'->Z 140 (ρ'.or M'))
  (ok:IJ fl es=true->∀ρ' M',Ext ρ ρ'->TC Q1 (Qk s t true ver fl es UB [] (BE (BE (BE [] B) A) B)) ρ' M' b m f b' m' f'->Z 0 (ρ'.or M')) :
  Spec prog 11 #[.pointer (aD b' 0),.I 1,.slice pb nb cb] (ρ.or M) (AY R (CI .i64 λ_ y=>Spec prog 11 #[.pointer (aD b' 0),.I 0,.slice pa na ca] y (AY R (CI .i64 λ_ y=>Spec prog 11 #[.pointer (aD b' 0),.I 1,.slice pb nb cb] y (AY R (CI .i64 λ_ y=>Spec prog 20 #[.agg #[.U ver,.I fl,.slice pi ni ci]] y (AY R (λz y=>∃v l p n c,z=(.agg #[.U v,.I l,.slice p n c])/\Spec prog 13 #[.pointer (aD b' 0),.agg #[.U v,.I l,.slice p n c]] y (AY R (CI .i64 λx y=>Z x y)))))))))):=by
 have g1:=Gs.nil.two G;have g2:=g1.two gA;have g3:=g2.two G;refine JM (k:=0) hP.r rfl (by decide) rB yT rfl G.ok (λs hs=>by cases hs) (G.mU (by omega)) (by have:=G.s;dsimp only;simp only[Aka];omega) λρ1 M1 tj BC e1=>⟨0,rfl,?_⟩;have rG:TC Q1 (Qk s t false 0 0 [] (E1 (E3 3 λ_=>0) 1 (0+1)) [] (BE [] B)) ρ1 M1 b m f b' m' f':=hP.right tj BC λj h1 h2 _=>e1 j h1 h2;refine JM (k:=0) rG.r rfl (by decide) (rA.mono BX.mono BC) hca g1.ok gA.ok (g1.mU (by omega)) (gA.mU (by omega)) (by have:=g1.s;have:=gA.s;dsimp only;omega) λρ2 M2 hQ2 Ao e2=>⟨0,rfl,?_⟩;have hP2:TC Q1 (Qk s t false 0 0 [] (E1 (E1 (E3 3 λ_=>0) 1 (0+1)) 0 (0+1)) [] (BE (BE [] B) A)) ρ2 M2 b m f b' m' f':=rG.right hQ2 Ao λj h1 h2 _=>e2 j h1 h2;refine JM (k:=1) hP2.r rfl (by decide) (rB.mono BX.mono (BC.trans Ao)) yT g2.ok G.ok (g2.mU (by omega)) (G.mU (by omega)) (by have:=g2.s;have:=G.s;dsimp only;omega) λρ3 M3 hQ3 CE e3=>⟨0,rfl,?_⟩;have hP3:TC Q1 (Qk s t false 0 0 [] UB [] (BE (BE (BE [] B) A) B)) ρ3 M3 b m f b' m' f':=hP2.right hQ3 CE λj h1 h2 _=>e3 j h1 h2;have X3:=BC.trans (Ao.trans CE);refine Dd hP3.l.L6 (Ur (rI.mono F3.mono X3) yW λp' c' ρ4 Hy D4=>⟨ver,fl,p',ni,c',rfl,?_⟩);have hP4:=hP3.up Hy.up D4;have X4:=X3.trans Hy.up;exact aC hP4.r (Hy.rd F3.mono) yW Acj ⟨λh0 ρ5 Rp D5=>⟨140,rfl,bad h0 ρ5 M3 (X4.trans Rp) D5⟩,λ_ Ax=>absurd Ax Acl,λh0 _ ρ5 M5 hQ5 Rp e5=>⟨0,rfl,ok h0 ρ5 M5 (X4.trans Rp) (hP4.right hQ5 Rp λj h1 _ _=>e5 j h1)⟩⟩
theorem Acm {Z:Int->Hp->Prop}{Q1:Qg}(hP:TC (Qk s t false 0 0 [] (E3 3 λ_=>0) [] []) Q1 ρ M b m f b' m' f')(rA:Ae 2 BX ρ pa na A)(rB:Ae 2 BX ρ pb nb B)(rI:Ae 9 F3 ρ pi ni es)(hca:na<=ca)(yT:nb<=cb)(yW:ni<=4000000)(gA:Gs kA A)(gB:Gs kB B)(hk:kA+kB+kB<=10000000)
  (bad:IJ fl es=false->∀ρ' M' Q2,Ext ρ ρ'->TC Q2 Q1 ρ' M' b m f b' m' f'->Z 140 (ρ'.or M'))
  (ok:IJ fl es=true->∀ρ' M',Ext ρ ρ'->TC (Qk s t true ver fl es MG [] (BE (BE [] A) B)) Q1 ρ' M' b m f b' m' f'->Z 0 (ρ'.or M')) :
  Spec prog 11 #[.pointer (aD b 0),.I 0,.slice pa na ca] (ρ.or M) (AY R (CI .i64 λ_ y=>Spec prog 11 #[.pointer (aD b 0),.I 1,.slice pb nb cb] y (AY R (CI .i64 λ_ y=>Spec prog 20 #[.agg #[.U ver,.I fl,.slice pi ni ci]] y (AY R (λz y=>∃v l p n c,z=(.agg #[.U v,.I l,.slice p n c])/\Spec prog 13 #[.pointer (aD b 0),.agg #[.U v,.I l,.slice p n c]] y (AY R (CI .i64 λx y=>Z x y)))))))):=by
 have g1:=Gs.nil.two gA;have g2:=g1.two gB;refine JM (k:=0) hP.l rfl (by decide) rA hca rfl gA.ok (λs hs=>by cases hs) (gA.mU (by omega)) (by have:=gA.s;dsimp only;simp only[Aka];omega) λρ1 M1 tj BC e1=>⟨0,rfl,?_⟩;have rG:TC (Qk s t false 0 0 [] (E1 (E3 3 λ_=>0) 0 (0+1)) [] (BE [] A)) Q1 ρ1 M1 b m f b' m' f':=hP.left tj BC λj h1 h2 _=>e1 j h1 h2;refine JM (k:=0) rG.l rfl (by decide) (rB.mono BX.mono BC) yT g1.ok gB.ok (g1.mU (by omega)) (gB.mU (by omega)) (by have:=g1.s;have:=gB.s;dsimp only;omega) λρ2 M2 hQ2 Ao e2=>⟨0,rfl,?_⟩;have hP2:TC (Qk s t false 0 0 [] MG [] (BE (BE [] A) B)) Q1 ρ2 M2 b m f b' m' f':=rG.left hQ2 Ao λj h1 h2 _=>e2 j h1 h2;have X2:=BC.trans Ao;refine Dd hP2.l.L6 (Ur (rI.mono F3.mono X2) yW λp' c' ρ4 Hy D4=>⟨ver,fl,p',ni,c',rfl,?_⟩);have G:=hP2.up Hy.up D4;have X4:=X2.trans Hy.up;exact aC G.l (Hy.rd F3.mono) yW Aci ⟨λh0 ρ5 Rp D5=>⟨140,rfl,bad h0 ρ5 M2 _ (X4.trans Rp) (G.up Rp D5)⟩,λ_ Ax=>absurd Ax Ack,λh0 _ ρ5 M5 hQ5 Rp e5=>⟨0,rfl,ok h0 ρ5 M5 (X4.trans Rp) (G.left hQ5 Rp λj h1 _ _=>e5 j h1)⟩⟩
theorem xp (fl:Int)(es:List En):(Kr fl es).length<=es.length:=by
 unfold Kr;split
 .exact AkG _ _
 .exact Ajy _
structure Bdq (k:Nat)(ss:List Sr):Prop where
 s:ss.length<=k
 ls:∀s∈ss,s.ls.length<=1000000000
 ps:∀s∈ss,s.ps.length<=k
 nn:∀s∈ss,∀p∈s.ps,0<=p.2
theorem Bdq.gs {k:Nat}{ss:List Sr}(h:Bdq k ss)(G:DU none ss=true):Gs k ss:=⟨G,h.s,h.ls,h.ps,h.nn⟩
theorem Bdq.sok {k:Nat}{ss:List Sr}(h:Bdq k ss)(hk:k<=1000000000):SOk ss:=⟨by have:=h.s;omega,h.ls,λs G=>by have:=h.ps s G;omega⟩
theorem mW (hg:Gl Z22)(rA:Ae 2 BX Z22 pa na A)(rB:Ae 2 BX Z22 pb nb B)(rC:Ae 2 BX Z22 pc nc C)(rI:Ae 9 F3 Z22 pi ni es)(hca:na<=ca)(yT:nb<=cb)(hcc:nc<=cc)(yW:ni<=4000000)(bA:Bdq 1100000 A)(bB:Bdq 1100000 B)(bC:Bdq 1100000 C)(hR:∀Z',Ext Z22 Z'->R (.B true) Z'):
  Spec prog 5 #[.string s,.I t,.slice pa na ca,.slice pb nb cb,.slice pc nc cc,.agg #[.U ver,.I fl,.slice pi ni ci]] Z22 R:=by
 refine Bf.start λE4=>ME λZ1 p1 c1 EB BC=>⟨0,p1,3,c1,rfl,Rl (w:=1) EB gm ok3 id3 (by decide) (by decide) (by decide) (by decide) (λAv Z2 Ao=>?_) λh0 ρ2 M2 b m f hQ Ao=>?_⟩
 .refine⟨none,_,rfl,ME λZ3 p3 c3 Up CE=>⟨0,p3,3,c3,rfl,Rl (w:=1) Up gm ok3 id3 (by decide) (by decide) (by decide) (by decide) (λ_ Z4 KK=>⟨none,_,rfl,λ_=>⟨λ_=>?_,λG=>absurd rfl G⟩,λG=>absurd Av G⟩) λh0=>absurd h0 Av⟩⟩;have X4:=BC.trans (Ao.trans (CE.trans KK));exact q8 _ _ (hg.mono X4) λZ5 Rp=>⟨true,rfl,hR _ (X4.trans Rp)⟩
 refine⟨_,_,rfl,Dd hQ.L6 (ME λρ3 p3 c3 Up CE D3=>⟨0,p3,3,c3,rfl,Dd D3 (Rl (w:=1) Up gm ok3 id3 (by decide) (by decide) (by decide) (by decide) (λAv=>absurd h0 Av) λ_ ρ4 M4 b' m' f' hQ' KK D4=>⟨_,_,rfl,?_⟩)⟩)⟩;refine⟨λG=>absurd rfl G,λ_=>⟨λG=>absurd rfl G,λ_=>⟨λG=>(by cases G),λ_=>⟨λG=>(by cases G),λ_=>?_⟩⟩⟩⟩;rw[xo];have hP:=TC.mk2 hQ hQ' (CE.trans KK) D4;have hP:TC (Qk s t false 0 0 [] (E3 3 λ_=>0) [] []) (Qk s t false 0 0 [] (E3 3 λ_=>0) [] []) ρ4 (M4.or M2) b m f b' m' f':=hP;generalize M4.or M2=M at hP ⊢;have X4:Ext Z22 ρ4:=BC.trans (Ao.trans (CE.trans KK));clear hQ hQ' D3 D4 EB Up;have awk:∀(ρ:Hp) (N:Hp),Ext Z22 ρ->FI ρ N->Spec prog 9 #[] (ρ.or N) (AY R (CB λt y=>R (.B t) y)):=λρ N hx hd=>Dd hd (q8 _ _ (hg.mono hx) λρ' Sc hd'=>⟨true,rfl,hR _ (hx.trans (Sc.trans (Ext.Cf _ _)))⟩);have chk:∀{ss:List Sr},(if DU none ss=true then(0:Int) else 100)≠0\/DU none ss=true:=fun {ss}=>by
  cases DU none ss with
  | true=>exact .inr rfl
  | false=>exact .inl (by decide)
 have okk:∀{ss:List Sr},¬(if DU none ss=true then(0:Int) else 100)≠0->DU none ss=true:=fun {ss} h=>by
  cases h0:DU none ss with
  | true=>rfl
  | false=>rw[h0]at h;exact absurd (by decide) h
 refine Dd hP.l.L6 (L4 (rA.mono BX.mono X4) (bA.sok (by decide)) λp5 c5 ρ5 hr5 Rp D5=>⟨_,_,_,rfl,Dd D5 (Ec hr5 λρ6 hx6 D6=>⟨_,rfl,λ_=>awk ρ6 M (X4.trans (Rp.trans hx6)) D6,λhA=>?_⟩)⟩);have X6:=X4.trans (Rp.trans hx6);refine Dd D6 (L4 (rB.mono BX.mono X6) (bB.sok (by decide)) λp7 c7 ρ7 hr7 hx7 D7=>⟨_,_,_,rfl,Dd D7 (Ec hr7 λρ8 hx8 D8=>⟨_,rfl,λ_=>awk ρ8 M (X6.trans (hx7.trans hx8)) D8,λhB=>?_⟩)⟩);have X8:=X6.trans (hx7.trans hx8);refine Dd D8 (L4 (rC.mono BX.mono X8) (bC.sok (by decide)) λp9 c9 ρ9 hr9 hx9 D9=>⟨_,_,_,rfl,Dd D9 (Ec hr9 λANC xl D10=>⟨_,rfl,λ_=>awk ANC M (X8.trans (hx9.trans xl)) D10,λhC=>?_⟩)⟩);have X10:=X8.trans (hx9.trans xl);have Acq:=hP.up ((Rp.trans hx6).trans ((hx7.trans hx8).trans (hx9.trans xl))) D10;have gA:=bA.gs (okk hA);have gB:=bB.gs (okk hB);have gC:=bC.gs (okk hC);clear hr5 hr7 hr9 hA hB hC;refine Acm (ver:=ver) (fl:=fl) (es:=es) Acq (rA.mono BX.mono X10) (rB.mono BX.mono X10) (rI.mono F3.mono X10) hca yT yW gA gB (by decide) (λhb AVR M11 Q2 xm AND=>?_) λho AVR M11 xm AND=>?_
 .have X11:=X10.trans xm;refine AVV (ver:=ver) (fl:=fl) (es:=es) AND (rA.mono BX.mono X11) (rB.mono BX.mono X11) (rI.mono F3.mono X11) hca yT yW gA gB (by decide) (λ_ AVX M12 ABk D12=>?_) λho=>by rw[hb]at ho;cases ho
  exact⟨λG=>absurd rfl G,λ_=>⟨λ_=>⟨λ_=>awk AVX M12 (X11.trans ABk) D12,λG=>absurd rfl G⟩,λG=>absurd (by decide) G⟩⟩
 have X11:=X10.trans xm;refine AVV (ver:=ver) (fl:=fl) (es:=es) AND (rA.mono BX.mono X11) (rB.mono BX.mono X11) (rI.mono F3.mono X11) hca yT yW gA gB (by decide) (λhb=>by rw[ho]at hb;cases hb) λ_ AVX M12 ABk ADR=>?_;have X12:=X11.trans ABk;rw[AcZ gA gB]at ADR;have g1:Gs 2200000 (BE (BE [] A) B):=((Gs.nil.two gA).two gB);generalize hA1:BE (BE [] A) B=A1 at ADR g1;refine⟨λG=>absurd rfl G,λ_=>⟨λG=>absurd rfl G,λ_=>?_⟩⟩;refine Jy ADR.l λADP pI n cI AGl D13 hrI hcI=>⟨_,_,_,rfl,?_⟩;have AVY:=ADR.up AGl D13;refine Jy AVY.r λADQ pJ n' cJ mT D14 hrJ _=>⟨_,_,_,rfl,?_⟩;have AVZ:=AVY.up mT D14;have eN:GK (Qk s t true ver fl es UB [] A1)=GK (Qk s t true ver fl es MG [] A1):=rfl;rw[eN]at hrJ;have hrI:DB .u64 ADP pI n (GK (Qk s t true ver fl es MG [] A1)):=hrI;generalize ANE:GK (Qk s t true ver fl es MG [] A1)=ids at hrI hrJ;have X13:=X12.trans AGl;have X14:=X13.trans mT;refine gL ((hrI.mono mT).mono (Ext.Cf _ _)) (hrJ.mono (Ext.Cf _ _)) ⟨_,rfl,λG=>?_,λ_=>?_⟩
 .rw[Aj0 rfl]at G;cases G
 have hn:n<=4000000:=by
  have h1:=hrI.1;have h2:=ADR.l.ne;rw[<-h1,<-ANE];unfold GK;rw[Akb];exact Ake (AkG _ _) (Ake (xp _ _) h2)
 refine Rk (K:=0) (ids:=ids) AVZ.l rfl (hrI.mono mT) (by omega) (by omega) (λj=>S6 j) (rC.mono BX.mono X14) hcc g1.ok gC.ok (g1.mU (by decide)) (gC.mU (by decide)) (by have:=g1.s;have:=gC.s;dsimp only;omega) λANF M15 Acs aw e15=>⟨0,rfl,by unfold AL;omega,?_⟩;have Acu:TC (Qk s t true ver fl es MG (Fh [] ids) (BE A1 C)) (Qk s t true ver fl es UB [] A1) ANF M15 b m f b' m' f':=AVZ.left Acs aw λj h1 _ h3=>e15 j h1 h3;have np:GK (Qk s t true ver fl es MG (Fh [] ids) (BE A1 C))=[]:=mV (Q:=Qk s t true ver fl es MG (Fh [] ids) (BE A1 C)) (all:=A1) (mem:=MG) λj hj=>rF ids [] 0 S6 j (by rw[<-ANE];exact hj);have nq:GK (Qk s t true ver fl es UB (Fh [] ids.reverse) (BE A1 C))=[]:=mV (Q:=Qk s t true ver fl es MG (Fh [] ids) (BE A1 C)) (all:=A1) (mem:=MG) λj hj=>rF ids.reverse [] 0 S6 j (List.mem_reverse.2 (by rw[<-ANE];exact hj));have iM:ids.length=n:=hrI.1;refine AVU (Z22:=ANF) (m:=m) (f:=f) (m':=m') (f':=f') (kF:=2200000) (kG:=1100000) (ids:=ids) rfl g1 gC (by decide) hn hcI hcc np nq (hg.mono (X14.trans aw)) (hrI.mono (mT.trans aw)) (rC.mono BX.mono (X14.trans aw)) (λZ' h'=>hR _ (X14.trans (aw.trans h'))) n ANF M15 (Ajt _) (.refl _) ?_;rw[AkF (by omega),Ajl rfl];exact Acu
end
end TwW
end
section
namespace TwW.Rw
open Go Tw TwW Go.RowKit Go.ChangeShapes Go.WideShapes Go.ChangeAt Go.Deep Go.Proofs.Tryz Go.Proofs.YtdlkodiemlmmiaaGreatDoor
set_option maxRecDepth 100000
set_option linter.unusedSimpArgs false
theorem AGo:II 60 (ESc 1 (FK .u64)) (AFz λx=>(Lit.int .u64 x).wf=true) (λ_=>1):=II.len (s:=1) underlying60 (by kernel_rfl) (by decide) (II.int underlying27)
theorem ANG:II 89 qQ (λ_=>True) (λ_=>1):=by
 intro H enc w base sp held fuel cs x h hw;obtain⟨xs,n,_,rfl,G,sk,hg⟩:=DataW.trod_struct underlying89 h;rw[show prog.cellsOf 89=7 by kernel_rfl]at G
 match cs,G,xs,sk with
 | [c0,c1,c2,c3,c4,c5,c6],_,[y0,y1,y2,y3,y4,y5,y6],_=>
  have h0:=hg 0 _ rfl;have h1:=hg 1 _ rfl;have h2:=hg 2 _ rfl;have h3:=hg 3 _ rfl;have h4:=hg 4 _ rfl;have h5:=hg 5 _ rfl;have h6:=hg 6 _ rfl;simp only[show prog.cellsOf 27=1 by kernel_rfl,show prog.cellsOf 2=1 by kernel_rfl,show prog.cellsOf 3=1 by kernel_rfl,show prog.cellsOf 60=1 by kernel_rfl,List.drop,List.take,AkO,AkU]at h0 h1 h2 h3 h4 h5 h6;obtain⟨a0,e0,_,_⟩:=DataW.trod_int underlying27 h0;obtain⟨a1,e1,_,_⟩:=DataW.trod_int underlying2 h1;obtain⟨a2,e2,_,_⟩:=DataW.trod_int underlying2 h2;obtain⟨a3,e3,_,_⟩:=DataW.trod_int underlying3 h3;obtain⟨a4,⟨q,m,d,e4,_,r4⟩,⟨_,l4⟩,_⟩:=AGo h4 (Su hw (by simp));obtain⟨a5,e5,_,_⟩:=DataW.trod_int underlying3 h5;obtain⟨a6,e6,_,_⟩:=DataW.trod_int underlying3 h6;cases e0;cases e1;cases e2;cases e3;cases e4;cases e5;cases e6;exact⟨⟨a0,a1,a2,a3,a4,a5,a6,false,0⟩,⟨q,m,d,rfl,r4,by have:=r4.1;omega⟩,trivial,H3 _⟩
theorem ANH:II 91 F3 (λ_=>True) (λ_=>1):=by
 intro H enc w base sp held fuel cs x h hw;obtain⟨xs,n,_,rfl,G,sk,hg⟩:=DataW.trod_struct underlying91 h;rw[show prog.cellsOf 91=9 by kernel_rfl]at G
 match cs,G,xs,sk with
 | [c0,c1,c2,c3,c4,c5,c6,c7,c8],_,[y0,y1,y2],_=>
  have h0:=hg 0 _ rfl;have h1:=hg 1 _ rfl;have h2:=hg 2 _ rfl;simp only[show prog.cellsOf 89=7 by kernel_rfl,show prog.cellsOf 4=1 by kernel_rfl,show prog.cellsOf 2=1 by kernel_rfl,List.drop,List.take,AkO,AkU]at h0 h1 h2;obtain⟨a0,⟨q,m,d,e0,r0,hm⟩,_,_⟩:=ANG h0 (Su hw (by simp));obtain⟨a1,e1,_⟩:=DataW.trod_bool underlying4 h1;obtain⟨a2,e2,_,_⟩:=DataW.trod_int underlying2 h2;cases e0;cases e1;cases e2;exact⟨⟨a0.id,a0.min,a0.max,a0.lvl,a0.src,a0.YV,a0.Yi,a1,a2⟩,⟨q,m,d,rfl,r0,hm⟩,trivial,H3 _⟩
theorem AGp:II 41 (ESc 9 F3) (AFz λ_=>True) (λ_=>1):=II.len (s:=9) underlying41 (by kernel_rfl) (by decide) ANH
def EIx (Z22:Hp)(vs:List Value)(x:Int×Int×List En):Prop:=∃p n c,vs=[.int .u64 x.1,.int .i64 x.2.1,.slice p n c]/\Ae 9 F3 Z22 p n x.2.2/\n<=1048576
theorem ANI:II 43 EIx (λ_=>True) (λ_=>1):=by
 intro H enc w base sp held fuel cs x h hw;obtain⟨xs,n,_,rfl,G,sk,hg⟩:=DataW.trod_struct underlying43 h;rw[show prog.cellsOf 43=3 by kernel_rfl]at G
 match cs,G,xs,sk with
 | [c0,c1,c2],_,[y0,y1,y2],_=>
  have h0:=hg 0 _ rfl;have h1:=hg 1 _ rfl;have h2:=hg 2 _ rfl;simp only[show prog.cellsOf 27=1 by kernel_rfl,show prog.cellsOf 2=1 by kernel_rfl,show prog.cellsOf 41=1 by kernel_rfl,List.drop,List.take,AkO,AkU]at h0 h1 h2;obtain⟨a0,e0,_,_⟩:=DataW.trod_int underlying27 h0;obtain⟨a1,e1,_,_⟩:=DataW.trod_int underlying2 h1;obtain⟨a2,⟨q,m,d,e2,_,r2⟩,⟨_,l2⟩,_⟩:=AGp h2 (Su hw (by simp));cases e0;cases e1;cases e2;exact⟨(a0,a1,a2),⟨q,m,d,rfl,r2,by have:=r2.1;omega⟩,trivial,H3 _⟩
section
variable {H:Type}{enc:TypeId×Value->H}{W:World}{base:Nat}{v:Value}{d:DataW H}{ps:List MemPlace}{r:Reach}
theorem AGq (hv:Value.okWide prog W r base 43 v)(h:DataW.Trod enc prog W 0 (λ_=>true) true 43 v d ps)(hw:Rows.uptoBulk d<=1048576):∃ver fl p n c es,v=.agg #[.int .u64 ver,.int .i64 fl,.slice p n c]/\Ae 9 F3 (full W) p n es/\n<=1048576:=by
 obtain⟨cs,rfl,RD⟩:=okWide_struct underlying43 hv;obtain⟨fuel,hf⟩:=h;obtain⟨⟨ver,fl,es⟩,⟨p,n,c,e,hr,hn⟩,_,_⟩:=ANI hf hw;have G:cs.toList=[.int .u64 ver,.int .i64 fl,.slice p n c]:=by simpa[Value.cells] using e
 have e2:cs=#[.int .u64 ver,.int .i64 fl,.slice p n c]:=AkD.1 G;subst e2;exact⟨ver,fl,p,n,c,es,rfl,hr,hn⟩
theorem aJ (hv:Value.okWide prog W r base 22 v)(h:DataW.Trod enc prog W 0 (λ_=>true) true 22 v d ps)(hw:Rows.uptoBulk d<=1048576):∃p n c ss,v=.slice p n c/\Ae 2 BX (full W) p n ss/\n<=c/\Bdq 1100000 ss:=by
 obtain⟨a,l,c,rfl⟩:=okWide_slice underlying22 hv;obtain⟨fuel,hf⟩:=h;obtain⟨xs,⟨p,n,c',e,hc,hr⟩,⟨hI,hl⟩,_⟩:=II.len (s:=2) underlying22 (by kernel_rfl) (by decide) AMK hf hw;have e':[Value.slice a l c]=[.slice p n c']:=by simpa[Value.cells] using e
 cases e';exact⟨a,l,c,xs,rfl,hr,hc,⟨by omega,λs G=>by have:=(hI s G).1;omega,λs G=>by have:=(hI s G).2.1;omega,λs G p hp=>((hI s G).2.2 p hp).1⟩⟩
end
end TwW.Rw
end
section
namespace Go.Proofs.YtdlkodiemlmmiaaGreatDoor.querierOrder
open Go Tw TwW TwW.Rw Go.ChangeShapes Go.WideShapes Go.ChangeAt Go.RowKit Go.Deep
open Go.Proofs.Tryz (f5 func5 params5)
abbrev mX:Array Value:=#[.string ⟨#[]⟩,.int .i64 0,.slice none 0 0,.slice none 0 0,.slice none 0 0,.agg #[.int .u64 0,.int .i64 0,.slice none 0 0]]
noncomputable abbrev wW (os:Os):World:=(QC os).forCall (λ_ _=>0) ⟨#[],mX,[]⟩
set_option maxRecDepth 1000000
theorem wHr (os:Os):((wW os).heap.toList.drop prog.globals.size).take ((begin prog (λ_ _=>0) default).world.heap.size-prog.globals.size)=(begin prog (λ_ _=>0) default).world.heap.toList.drop prog.globals.size:=by kernel_rfl
theorem Acv (os:Os):Input.okWideB prog (wW os) 5 ⟨#[],mX,[]⟩=true:=by kernel_rfl
theorem wHv (os:Os):(wW os).variablesRefB prog=true:=AbQ os (args:=mX)
theorem reads (os:Os){H:Type}(enc:TypeId×Value->H):∃G,DataW.whole enc prog (wW os).memory f5.params.toList Rows.querierOrderSpec.vars false mX.toList 8=some ([.lit (.string []),.lit (.int .i64 0),.nil,.nil,.nil,.agg [.lit (.int .u64 0),.lit (.int .i64 0),.nil]],[],G):=
 ⟨[],by kernel_rfl⟩
theorem ADS (H:Type)(enc:TypeId×Value->H)(W:World)(base:Nat)(args:Array Value)(ds gs:List (DataW H))(G:List MemPlace)
  (rH:∀(j:Nat) t v,f5.params[j]?=some t->args[j]?=some v->Value.okWide prog W .any base t v)
  (hW:DataW.Whole enc prog f5.params.toList Rows.querierOrderSpec.vars false W args.toList ds gs G) (hk:Rows.uptoBulkAll (ds++gs)<=1048576) (hL:laidMetH prog Laid W) (hsh:W.ShapedOpen prog) :
  Calls prog 5 args W λe W'=>∃v,e=.returned v/\Rows.querierOrderSpec.post enc prog f5 false true false false W args v W':=by
 have hW':=hW;obtain⟨p,q,hA0,hV,rfl,hfz,Gz⟩:=hW;have hA:DataW.TrodAll enc prog W 0 (λ_=>true) true f5.params.toList args.toList ds p:=hA0;rw[params5]at hA rH;obtain⟨v0,vs0,d0,ds0,p0,q0,IL,rfl,rfl,h0,r0⟩:=trodAll_cons hA;obtain⟨v1,vs1,d1,ds1,p1,q1,rfl,rfl,rfl,h1,r1⟩:=trodAll_cons r0;obtain⟨v2,vs2,d2,ds2,p2,q2,rfl,rfl,rfl,h2,r2⟩:=trodAll_cons r1;obtain⟨v3,vs3,d3,ds3,p3,q3,rfl,rfl,rfl,h3,r3⟩:=trodAll_cons r2;obtain⟨v4,vs4,d4,ds4,p4,q4,rfl,rfl,rfl,h4,r4⟩:=trodAll_cons r3;obtain⟨v5,vs5,d5,ds5,p5,q5,rfl,rfl,rfl,h5,r5⟩:=trodAll_cons r4;obtain⟨rfl,rfl,rfl⟩:=trodAll_nil r5;obtain rfl:args=#[v0,v1,v2,v3,v4,v5]:=by cases args;simp_all
 obtain⟨rfl,rfl⟩:=trodVars_none hV;simp only[Akq,Rows.uptoBulkAll]at hk;obtain⟨s0,rfl,rfl,rfl,w0⟩:=Go.ChangeMaps.open_string Go.Proofs.Tryz.underlying9 (rH 0 9 v0 rfl rfl) h0;obtain⟨x1,rfl,rfl,_,w1⟩:=open_int Go.Proofs.Tryz.underlying2 (rH 1 2 v1 rfl rfl) h1;obtain⟨a2,n2,c2,ss2,rfl,Ff,aK,Fi⟩:=aJ (rH 2 22 v2 rfl rfl) h2 (by omega);obtain⟨a3,n3,c3,ss3,rfl,Up,hc3,Uh⟩:=aJ (rH 3 22 v3 rfl rfl) h3 (by omega);obtain⟨a4,n4,c4,ss4,rfl,yS,hc4,hb4⟩:=aJ (rH 4 22 v4 rfl rfl) h4 (by omega);obtain⟨ver,fl,a5,n5,c5,es,rfl,hr5,hn5⟩:=AGq (rH 5 43 v5 rfl rfl) h5 (by omega);exact AML (by kernel_rfl) rfl rfl ⟨rfl,rfl,rfl⟩ hW' (mW (AUZ hL hsh) Ff Up yS hr5 aK hc3 hc4 (by omega) Fi Uh hb4 λZ' hx=>⟨rfl,hx⟩)
theorem ANJ:Go.Proofs.Tryz.checked.prog.inits.idxOf? 5=none:=by kernel_rfl
theorem witness (os:Os)(started:os.Started)(H:Type)(enc:TypeId×Value->H):∃(w:World) (G:Tape) (i:Input),w.os=os/\(w.forCall G i).Shaped Go.Proofs.Tryz.checked.prog/\i.vars=[]/\Input.okWide Go.Proofs.Tryz.checked.prog (w.forCall G i) .any w.heap.size 5 i/\
  (Rows.OpenSpec.upto Rows.querierOrderSpec).preRow enc Go.Proofs.Tryz.checked.prog f5 Rows.querierOrderUptoRow.domain false Rows.querierOrderUptoRow.laid (w.forCall G i).memory i.args/\({}:Assume).holds Go.Proofs.Tryz.checked.prog (lone (Frame.enter Go.Proofs.Tryz.checked.prog 5 i.args .normal) [] (w.forCall G i)):=by
 obtain⟨places,hx⟩:=reads os enc;exact witness_row_atRef (enc:=enc) (C:=Go.Proofs.Tryz.checked) false (QC os) mX rfl (wHv os) (wHr os) (Acv os)
  (OpenSpec.preRow_of_cond 8 hx (by as_aux_lemma=>kernel_rfl) (λk hk=>by cases hk;as_aux_lemma=>kernel_rfl) (by as_aux_lemma=>kernel_rfl) (ACY os _))
theorem lifted (os:Os)(G:os.Started)(H:Type)(enc:TypeId×Value->H)(F:Stop.Interp):
  ReturnsInHanded {} Go.Proofs.Tryz.checked os 5 .any ((Rows.OpenSpec.upto Rows.querierOrderSpec).preRow enc prog f5 Rows.querierOrderUptoRow.domain false Rows.querierOrderUptoRow.laid) (((Rows.OpenSpec.upto Rows.querierOrderSpec).at F).post enc prog f5 false true false false):=by
 refine returnsInHanded_of_row (C:=Go.Proofs.Tryz.checked) (s:=Rows.OpenSpec.upto Rows.querierOrderSpec) own G ANJ func5 (witness os G H enc) ?_;intro W base args ds gs before AVa hW _ AVb _ hL hsh _;exact ADS H enc W base args ds gs before AVa hW (Ajx (AVb _ rfl)) hL hsh
end Go.Proofs.YtdlkodiemlmmiaaGreatDoor.querierOrder
end
