/-
  Part 7 of the proof that the law IngesterFencedUptoCardSaid of the given program answers true for every input of the given statement; the input reads behind the call as it did. (The texts: packed from 23 texts. Names are shortened by the packing program, for the bound on size.)
-/
import Derived.Test.YtjmeolpiagdinaaGreatDoorA6
import Derived.Test.YtjmeolpiagdinaaGreatDoorCards
import Derived.Test.YtjmeolpiagdinaaGreatDoorTie
import Derived.OpenShut
import Derived.Deep.DeepHandedRow
import Derived.Stop.LaidErr
import Derived.Shelf.Vars
import Derived.LaidLaws
set_option linter.all false
section
namespace TwW
open Go Tw Go.MapKept Go.RowKit Go.Proofs.Tryz
def bS:ByteArray:=ByteArray.mk #[98,47]
def fh (us:List Nat):List Int:=us.map λ(u:Nat)=>(u:Int)
section
variable {Z22 Z'2 N ρ:Hp}{d b g:Nat}{hp:Option Nat}{S:Vu}{R:Rr}
theorem qU {br o cr ct:Nat}{pt:Option Addr}{e st:Int}{pl:Option Addr}{G cl:Nat}{us:List Nat}{N0:Hp}(hr:BB 1 (λ_=>Wg) N0 pl G (us.map (BX tS)))(hb:AGd S.D us)(hu1:us.length<=1)(CA:S.D.up=true)(ht:Tb N0)(hgm:Gm N0)(hm:Bm N0 br o [.I 0,.I st,.slice pt 1 ct])(hs:1<=st/\st<=3)(he:S.ep<=e)(h:Bd Z22 N d b g hp { S with ids:=[],loc:=(none,0,0) })(A:Ext N0 N)
  (K:∀Z'2 N' l,Bd Z'2 N' d b g hp { S with ids:=fh us,loc:=l,ep:=e,act:=decide (st=2) }->Ext N0 N'->R (.T #[.pointer (aD g 0),.I 0]) Z'2) :
  A6.GA R (aD d 0) e (aD br o) 1 cr (aD g 0) pl G cl (G:Int) 0 Z22:=by
 have hl:us.length=G:=by have:=hr.1;simpa using this
 suffices H:∀(m i:Nat) (Z22 N:Hp) (l:Option Addr×Nat×Nat),G-i=m->i<=G->Bd Z22 N d b g hp { S with ids:=fh (us.take i),loc:=l }->Ext N0 N->A6.GA R (aD d 0) e (aD br o) 1 cr (aD g 0) pl G cl (G:Int) (i:Int) Z22 from H G 0 Z22 N (none,0,0) rfl (AfI _) h A
 intro m
 induction m with
 | zero=>
  intro i Z22 N l bQ hi h A;rw[Ae7 (by omega)]at h;refine A6.FP ⟨λhh=>by omega,λ_=>qS h (hm.mono A) hs he ?_ λZ'2 N' h' x'=>K Z'2 N' l h' (A.trans x')⟩;show(fh us).length<=1
  unfold fh;rw[AfO];exact hu1
 | succ m ih=>
  intro i Z22 N l bQ hi h A;obtain⟨u,hu⟩:∃u,us[i]?=some u:=⟨_,Ae3 (by omega)⟩;obtain⟨Mj,RG,rfl,Dt⟩:=Wg.at hr (i:=i) (x:=BX tS u) (by rw[AfZ,hu];rfl);obtain⟨WB,ss,f,Wn,hf,qz⟩:=hb u (Ae2 hu);refine A6.FP ⟨λ_=>⟨Mj,RG,rfl,by unfold In;omega,_,by simpa using(Dt.mono (A.trans h.ext)).1,h.spec (kD WB (hgm.mono A) (ht.mono A) λN2 x2=>λZ222 h2=>⟨_,_,_,rfl,λ_=>?_,λhh=>(by cases hh)⟩)⟩,λhh=>by omega⟩;refine h2.read CA (RA WB.lt) hf λZ3 N3 p3 c3 h3 x3 r3 hc3=>⟨p3,_,c3,0,rfl,λhh=>absurd rfl hh,λ_=>?_⟩;rw[qz]at r3 hc3 ⊢;refine h3.spec (Qw Wn (r3.mono (Ext.Cp _ _)) (va ss) hc3 (t0:=[]) (by rw[AfG]) (λAR=>absurd rfl AR) λpo co N4 _ _ x4=>λZ4 h4=>⟨po,_,co,0,rfl,?_⟩);have hg:=h4.gb;refine A6.zw ⟨λ_=>⟨g,0,rfl,some S.ml,AD hg rfl,some S.ml,AD hg rfl,Bd.note (S:={ S with ids:=fh (us.take i),loc:=l }) h4 (by show(fh _).length<=_;unfold fh;rw[AfO,AfE];omega) λZ5 N5 l5 h5 x5=>A6.zx ⟨by unfold AK;omega,?_⟩⟩,λhf=>absurd hf (by decide)⟩;have:=ih (i+1) Z5 N5 l5 (by omega) (by omega) (by rw[AL hu];unfold fh at h5 ⊢;rw[AfF];exact h5) (A.trans (x2.trans (x3.trans (x4.trans x5))));rw[show((i+1:Nat):Int)=(i:Int)+1 by omega]at this;exact this
theorem qV {fs:Fs}{pre:ByteArray}{L us:List ByteArray}(hn:Names fs pre L)(hu:us.length<=1)(h:∀s,Am s pre=true->((fs s).isSome=true↔s∈us))(hb:∀s∈us,Am s pre=true):L=us:=by
 have mem:∀s,s∈L↔s∈us:=λs=>by
  rw[hn.mem];exact⟨λ⟨a,c⟩=>(h s c).1 a,λa=>⟨(h s (hb s a)).2 a,hb s a⟩⟩
 have nd:=hn.nodup
 match us,hu with
 | [],_=>exact List.eq_nil_iff_forall_not_mem.2 λs hs=>by cases(mem s).1 hs
 | [u],_=>
  match L with
  | []=>have:=(mem u).2 (by simp);cases this
  | [x]=>have:=(mem x).1 (by simp);rw[Aev]at this;rw[this]
  | x::y::L=>
   have A:=(mem x).1 (by simp);have G:=(mem y).1 (by simp);rw[Aev]at A G;rw[A,G]at nd;simp at nd
theorem SA (u:Nat):Am (BX tS u) bS=true:=by
 unfold Am;refine Afz ⟨[116,47]++DW u,?_⟩;unfold BX;rw[Ag8,Agl];show[98,47]++([116,47]++DW u)=_++DW u
 rw[<-Aew];exact Ae4 (·++DW u) (by kernel_rfl)
theorem M6 {s:ByteArray}(h:Am s bS=true):Am s (wS++CG)=false:=by
 unfold Am at h ⊢;refine Aga λ⟨t2,A⟩=>?_;obtain⟨t1,G⟩:=AfS h;have e1:bS.data.toList=[98,47]:=rfl;have e2:(wS++CG).data.toList=[119,47]:=by kernel_rfl
 rw[e1]at G;rw[e2]at A;rw[<-G]at A;simp at A
theorem Py {D:Dk}{br o cr ct:Nat}{pt:Option Addr}{e st lim:Int}{us:List Nat}{w:Bool}(h:Ac Z22 d D N)(ht:Tb N)(hgm:Gm N)(CA:D.up=true)(Vr:D.armed=false)(hc:D.cnt<1000000)(ho:X3 D.files wS D.cnt [] w)(hm:Bm N br o [.I 0,.I st,.slice pt 1 ct])(A:1<=st/\st<=3)(he:0<=e)(G:us.length<=1)(hb:AGd D us)(qw:∀s,Am s bS=true->((D.files s).isSome=true↔s∈us.map (BX tS)))
  (K:∀Z'2 N' b g D' W' l mh ml,Bd Z'2 N' d b g none ⟨D',W',lim,e,decide (st=2),[],0,fh us,l,mh,ml⟩->Ext N N'->Lg D' W' [] 0->Out wS D.files D'.files->Sub D.files D'.files->D'.cnt<=D.cnt+1->R (.T #[.pointer (aD g 0),.I 0]) Z'2) :
  Spec prog 8 #[.I 0,.pointer (aD d 0),.I lim,.agg #[.U e,.slice (aD br o) 1 cr]] Z22 R:=by
 refine A6.start λb7=>qM h ht CA Vr my (by omega) ho (by simp) λbl=>λZ12 W rc sg ρ p n c IW cnt' hl hx JW R7 A4 TF Hh je Fv pM PM _=>?_;refine⟨_,p,n,c,0,rfl,λhh=>absurd rfl hh,λ_=>Db λmh h1=>⟨mh,rfl,Db λml h2=>⟨ml,rfl,λg h3=>?_⟩⟩⟩;have hn0:0=n:=JW.1;subst hn0;obtain⟨N1,hi,x1⟩:=Bd.make (lim:=lim) hl h1 h2 h3;have xN:=hx.trans x1;refine A6.G0 ⟨λhh=>absurd hh (by decide),λ_=>hi.list rfl (by dsimp only;omega) λZ222 N2 pl nl cl L h4 x4 hrL hL=>⟨pl,nl,cl,rfl,?_⟩⟩;have I3:∀s,Am s bS=true->IW s=D.files s:=λs A=>Hh.out s (M6 A);have eL:=qV (us:=us.map (BX tS)) hL (by rw[AfO];exact G) (λs A=>by show(IW s).isSome=true↔_;rw[I3 s A];exact qw s A) (λs A=>by
  obtain⟨u,_,rfl⟩:=AfC.1 A;exact SA u)
 subst eL;have Ll:AGd ⟨IW,true,false,cnt'⟩ us:=λu hu=>let ⟨a1,ss,f,a2,a3,a4⟩:=hb u hu;⟨a1,ss,f,a2,(I3 _ (SA u)).trans a3,a4⟩;exact qU (S:=⟨⟨IW,true,false,cnt'⟩,W,lim,0,false,[],0,[],(none,0,0),mh,ml⟩) hrL Ll G rfl (ht.mono (xN.trans x4)) (hgm.mono (xN.trans x4)) (hm.mono (xN.trans x4)) A he h4 (.refl _) λZ'2 N' l h' x'=>K Z'2 N' bl g _ W l mh ml h' (xN.trans (x4.trans x')) ⟨rfl,rfl,R7,⟨rc,sg,A4,TF⟩,Fv⟩ Hh je PM
end
end TwW
end
section
namespace TwW
open Go Tw
theorem M7:∀(a b:List Pt),Bq a b=Bq b a
 | [],b=>by rw[Ey,GY]
 | x::a,[]=>by rw[Ey,GY]
 | x::a,y::b=>by
  rw[Fp,Fp];by_cases A:x.1<y.1
  .rw[Aex A,Aeu (by omega),Aex A,M7 a (y::b)]
  .rw[Aeu A];by_cases G:y.1<x.1
   .rw[Aex G,Aex G,M7 (x::a) b]
   .rw[Aeu G,Aeu G,Aeu A,M7 a b];have e1:x.1=y.1:=by omega
    have e2:(if x.2<y.2 then y.2 else x.2)=(if y.2<x.2 then x.2 else y.2):=by
     by_cases h3:x.2<y.2
     .rw[Aex h3,Aeu (by omega)]
     .rw[Aeu h3];by_cases h4:y.2<x.2
      .rw[Aex h4]
      .rw[Aeu h4];omega
    rw[e1,e2]
termination_by a b=>a.length+b.length
def Vy (O:List Sr)(s:Sr):List Sr:=match O.getLast? with
 | some u=>if u.ls=s.ls then O.dropLast++[⟨u.ls,Bq u.ps s.ps⟩] else O++[s]
 | none=>O++[s]
theorem fi {O:List Sr}{u s:Sr}(h:u.ls=s.ls):Vy (O++[u]) s=O++[⟨u.ls,Bq u.ps s.ps⟩]:=by
 unfold Vy;rw[Ahp];simp[h]
theorem ABJ {O:List Sr}{s:Sr}(h:∀u∈O,u.ls≠s.ls):Vy O s=O++[s]:=by
 unfold Vy;cases A:O.getLast? with
 | none=>rfl
 | some u=>dsimp only;rw[Aeu (h u (List.mem_of_getLast? A))]
end TwW
end
section
namespace TwW
open Go Tw
section
variable {x y z:Pt}{a b c:List Pt}
theorem rA (h:x.1<y.1):Bq (x::a) (y::b)=x::Bq a (y::b):=by rw[Fp,Aex h]
theorem gY (h:y.1<x.1):Bq (x::a) (y::b)=y::Bq (x::a) b:=by rw[Fp,Aeu (by omega),Aex h]
theorem rB (h:x.1=y.1):Bq (x::a) (y::b)=(x.1,if x.2<y.2 then y.2 else x.2)::Bq a b:=by rw[Fp,Aeu (by omega),Aeu (by omega)]
theorem qM1 {t v:Int}(h:t<y.1):Bq ((t,v)::a) (y::b)=(t,v)::Bq a (y::b):=rA h
theorem qM2 {t v:Int}(h:y.1<t):Bq ((t,v)::a) (y::b)=y::Bq ((t,v)::a) b:=gY h
theorem qM3 {t v:Int}(h:t=y.1):Bq ((t,v)::a) (y::b)=(t,if v<y.2 then y.2 else v)::Bq a b:=rB h
theorem rM1 {t v:Int}(h:x.1<t):Bq (x::a) ((t,v)::b)=x::Bq a ((t,v)::b):=rA h
theorem rM2 {t v:Int}(h:t<x.1):Bq (x::a) ((t,v)::b)=(t,v)::Bq (x::a) b:=gY h
theorem rM3 {t v:Int}(h:x.1=t):Bq (x::a) ((t,v)::b)=(x.1,if x.2<v then v else x.2)::Bq a b:=rB h
end
theorem kF:∀(n:Nat) (a b c:List Pt),a.length+b.length+c.length<=n->Bq (Bq a b) c=Bq a (Bq b c):=by
 intro n
 induction n with
 | zero=>
  intro a b c h;obtain rfl:a=[]:=Ae6 (by omega);rw[Ey,Ey]
 | succ n ih=>
  intro a b c h;cases a with
  | nil=>rw[Ey,Ey]
  | cons x a=>
   cases b with
   | nil=>rw[GY,Ey]
   | cons y b=>
    cases c with
    | nil=>rw[GY,GY]
    | cons z c=>
     simp only[Aez]at h;have i1:=ih a (y::b) (z::c) (by simp only[Aez];omega);have i2:=ih (x::a) b (z::c) (by simp only[Aez];omega);have i3:=ih (x::a) (y::b) c (by simp only[Aez];omega);have i4:=ih a (y::b) c (by simp only[Aez];omega);have i5:=ih (x::a) b c (by simp only[Aez];omega);have i6:=ih a b (z::c) (by simp only[Aez];omega);have i7:=ih a b c (by omega);rcases Agv x.1 y.1 with A|A|A
     .rcases Agv x.1 z.1 with G|G|G
      .rw[rA A,rA G,i1];rcases Agv y.1 z.1 with NI|NI|NI
       .rw[rA NI,rA A]
       .rw[rB NI,rM1 A]
       .rw[gY NI,rA G]
      .rw[rA A,rB G,i4,gY (x:=y) (y:=z) (by omega),rB G]
      .rw[gY (x:=y) (y:=z) (by omega),gY G,<-i3,rA A,gY G]
     .rcases Agv x.1 z.1 with G|G|G
      .rw[rB A,qM1 G,i6,rA (x:=y) (y:=z) (by omega),rB A]
      .rw[rB A,qM3 G,i7,rB (x:=y) (y:=z) (by omega),rM3 A]
       congr 2
       try dsimp only
       (repeat' split)<;>omega
      .rw[gY (x:=y) (y:=z) (by omega),gY G,<-i3,rB A,qM2 G]
     .rcases Agv y.1 z.1 with NI|NI|NI
      .rw[gY A,rA NI,i2,rA NI,gY A]
      .rw[gY A,rB NI,i5,rB NI,rM2 A]
      .rw[gY (x:=y) (y:=z) NI,gY (x:=x) (y:=z) (by omega),<-i3,gY A,gY NI]
def Ih:Option (List Pt)->Option (List Pt)->Option (List Pt)
 | some x,some y=>some (Bq x y)
 | some x,none=>some x
 | none,o=>o
theorem AGe {a b:List Sr}(A:a.Pairwise NO)(hb:b.Pairwise NO)(k:List Lb):Ez (IT a b) k=Ih (Ez a k) (Ez b k):=by
 rw[ag a b A hb k];cases Ez a k<;>cases Ez b k<;>rfl
theorem Hx (x y z:Option (List Pt)):Ih (Ih x y) z=Ih x (Ih y z):=by
 cases x<;>cases y<;>cases z<;>simp only[Ih];exact Ae4 some (kF _ _ _ _ (Ae1 _))
end TwW
end
section
namespace TwW
open Go Tw
def P6 (a b:List Lb):Prop:=¬BN b a<0
theorem P6.tr {a b c:List Lb}(G:P6 a b)(A:P6 b c):P6 a c:=λh=>by
 by_cases h3:BN a b<0
 .exact A (Ax.trans _ _ _ h h3)
 .have h4:¬0<BN a b:=λhh=>G ((Ax.TN _ _).2 hh);obtain rfl:=(Ax.eq a b).1 (by omega);exact A h
theorem P6.lt {a b:List Lb}(h:BN a b<0):P6 a b:=λA=>by have:=(Ax.TN _ _).1 A;omega
theorem P6.re (a:List Lb):P6 a a:=λh=>by have:=(Ax.eq a a).2 rfl;omega
theorem P6.ne {a b:List Lb}(h:P6 a b)(G:a≠b):BN a b<0:=by
 have h1:¬0<BN a b:=λA=>h ((Ax.TN _ _).2 A);have h2:BN a b≠0:=λe=>G ((Ax.eq _ _).1 e);omega
abbrev gZ (a c:Nat):Prop:=c=2*a+1\/c=2*a+2
def YA (f:Nat->List Lb)(n:Nat):Prop:=∀a c,gZ a c->c<n->P6 (f a) (f c)
def swF (f:Nat->List Lb)(i j k:Nat):List Lb:=if k=i then f j else if k=j then f i else f k
section
variable {f g:Nat->List Lb}{n i j k:Nat}
theorem YB:swF f i j i=f j:=Aex rfl
theorem fj:swF f i j j=f i:=by
 unfold swF;by_cases h:j=i
 .rw[Aex h,h]
 .rw[Aeu h,Aex rfl]
theorem MT (A:k≠i)(G:k≠j):swF f i j k=f k:=by unfold swF;rw[Aeu A,Aeu G]
structure rC (f:Nat->List Lb)(n i:Nat):Prop where
 o:∀a c,gZ a c->c<n->a≠i->P6 (f a) (f c)
 g:∀a c,gZ a i->gZ i c->c<n->P6 (f a) (f c)
theorem rC.fin (h:rC f n i)(hc:∀c,gZ i c->c<n->P6 (f i) (f c)):YA f n:=λa c A G=>by
 by_cases e:a=i
 .subst e;exact hc c A G
 .exact h.o a c A G e
theorem rC.step (h:rC f n i)(hj:gZ i j)(hn:j<n)(Aq:BN (f j) (f i)<0)(ho:∀c,gZ i c->c<n->P6 (f j) (f c)):rC (swF f i j) n j:=by
 refine⟨λa c A G AR=>?_,λa c A G uf=>?_⟩
 .by_cases e:a=i
  .subst e;rw[YB];by_cases e2:c=j
   .subst e2;rw[fj];exact .lt Aq
   .rw[MT (by omega) e2];exact ho c A G
  .rw[MT e AR];by_cases e2:c=i
   .subst e2;rw[YB];exact h.g a j A hj hn
   .rw[MT e2 (by omega)];exact h.o a c A G e
 .obtain rfl:a=i:=by omega
  rw[YB,MT (by omega) (by omega)];exact h.o j c G uf (by omega)
structure yP (f:Nat->List Lb)(n j:Nat):Prop where
 o:∀a c,gZ a c->c<n->c≠j->P6 (f a) (f c)
 g:∀a c,gZ a j->gZ j c->c<n->P6 (f a) (f c)
theorem yP.fin (h:yP f n j)(G:∀a,gZ a j->P6 (f a) (f j)):YA f n:=λa c A hn=>by
 by_cases e:c=j
 .subst e;exact G a A
 .exact h.o a c A hn e
theorem yP.step (h:yP f n j)(hj:gZ i j)(hn:j<n)(Aq:BN (f j) (f i)<0):yP (swF f i j) n i:=by
 have hi:∀a,gZ a i->P6 (f a) (f i):=λa A=>h.o a i A (by omega) (by omega);refine⟨λa c A G AR=>?_,λa c A G uf=>?_⟩
 .by_cases e:c=j
  .subst e;obtain rfl:a=i:=by omega
   rw[YB,fj];exact .lt Aq
  .rw[MT AR e];by_cases e1:a=i
   .subst e1;rw[YB];exact(P6.lt Aq).tr (h.o a c A G e)
   .by_cases e2:a=j
    .subst e2;rw[fj];exact h.g i c hj A G
    .rw[MT e1 e2];exact h.o a c A G e
 .rw[MT (by omega) (by omega)];by_cases e:c=j
  .subst e;rw[fj];exact hi a A
  .rw[MT (by omega) e];exact(hi a A).tr (h.o i c G uf e)
theorem YA.up (h:YA f n)(A:∀i<n,g i=f i):yP g (n+1) n:=⟨λa c G hc AR=>by rw[A a (by omega),A c (by omega)];exact h a c G (by omega),λa c _ hc hn=>by omega⟩
theorem YA.down (h:YA f n)(G:∀i<n,i≠0->g i=f i):rC g n 0:=⟨λa c A hc AR=>by rw[G a (by omega) AR,G c (by omega) (by omega)];exact h a c A hc,λa c A=>by omega⟩
theorem YA.congr (h:YA f n)(G:∀i<n,g i=f i):YA g n:=λa c ha A=>by rw[G a (by omega),G c A];exact h a c ha A
theorem rC.congr (h:rC f n i)(G:∀k<n,g k=f k):rC g n i:=⟨λa c ha A AR=>by rw[G a (by omega),G c A];exact h.o a c ha A AR,λa c ha A hn=>by rw[G a (by omega),G c hn];exact h.g a c ha A hn⟩
theorem yP.congr (h:yP f n i)(G:∀k<n,g k=f k):yP g n i:=⟨λa c ha A AR=>by rw[G a (by omega),G c A];exact h.o a c ha A AR,λa c ha A hn=>by rw[G a (by omega),G c hn];exact h.g a c ha A hn⟩
theorem YA.min (h:YA f n):∀(m i:Nat),i<=m->i<n->P6 (f 0) (f i):=by
 intro m
 induction m with
 | zero=>
  intro i hi _;have e:i=0:=by omega
  subst e;exact .re _
 | succ m ih=>
  intro i hi G;by_cases A:i=0
  .subst A;exact .re _
  .exact(ih ((i-1)/2) (by omega) (by omega)).tr (h _ i (by omega) G)
end
theorem wi (x y:Option (List Pt)):Ih x y=Ih y x:=by
 cases x<;>cases y<;>simp only[Ih];exact Ae4 some (M7 _ _)
theorem MU (x:Option (List Pt)):Ih x none=x:=by cases x<;>rfl
theorem wj (x y z:Option (List Pt)):Ih x (Ih y z)=Ih y (Ih x z):=by rw[<-Hx,wi x y,Hx]
def YC (A:List (List Sr))(k:List Lb):Option (List Pt):=A.foldr (λX o=>Ih (Ez X k) o) none
theorem ES (X:List Sr)(A:List (List Sr))(k:List Lb):YC (X::A) k=Ih (Ez X k) (YC A k):=rfl
theorem nB {A G:List (List Sr)}(h:A.Perm G)(k:List Lb):YC A k=YC G k:=by
 induction h with
 | nil=>rfl
 | cons _ _ ih=>rw[ES,ES,ih]
 | swap _ _ _=>rw[ES,ES,ES,ES,wj]
 | trans _ _ h1 h2=>rw[h1,h2]
def sgO (s:Sr)(k:List Lb):Option (List Pt):=if s.ls=k then some s.ps else none
theorem ABK {s:Sr}{X:List Sr}(h:(s::X).Pairwise NO)(k:List Lb):Ez (s::X) k=Ih (sgO s k) (Ez X k):=by
 rw[Ez];unfold sgO;by_cases e:s.ls=k
 .rw[Aex e,Aex e,I7 λu A=>by rw[<-e];exact(PD ((Afb.1 h).1 u A)).symm];rfl
 .rw[Aeu e,Aeu e];rfl
theorem kH (A B:List Sr)(k:List Lb):Ez (A++B) k=(Ez A k).or (Ez B k):=by
 induction A with
 | nil=>rfl
 | cons s A G=>
  rw[Af3,Ez,Ez,G];split<;>rfl
theorem AGg {O:List Sr}{s:Sr}(ho:O.Pairwise NO)(hs:∀u∈O,P6 u.ls s.ls):(∀k,Ez (Vy O s) k=Ih (Ez O k) (sgO s k))/\(Vy O s).Pairwise NO/\∀u∈Vy O s,P6 u.ls s.ls:=by
 by_cases G:∀u∈O,u.ls≠s.ls
 .have Aq:∀u∈O,NO u s:=λu A=>(hs u A).ne (G u A);rw[ABJ G];refine⟨λk=>?_,Afl.2 ⟨ho,by simp,λa ha b hb=>by rw[Aev]at hb;subst hb;exact Aq a ha⟩,λu A=>?_⟩
  .rw[kH];show(Ez O k).or (sgO s k)=_
   unfold sgO;by_cases e:s.ls=k
   .rw[I7 λu A=>by rw[<-e];exact G u A];rfl
   .rw[Aeu e,MU];cases Ez O k<;>rfl
  .rcases Ae9.1 A with A|A
   .exact hs u A
   .rw[Aev]at A;subst A;exact .re _
 .rcases Agq O with rfl|⟨O',u,rfl⟩
  .exact absurd (λu A=>by cases A) G
  rw[Aij]at ho hs G ⊢;obtain⟨o1,_,o3⟩:=Afl.1 ho;have o3:∀a∈O',NO a u:=λa ha=>o3 a ha u (by simp);have hus:=hs u (by simp);have e:u.ls=s.ls:=AiL λAR=>G λv hv=>by
   rcases Ae9.1 hv with hv|hv
   .exact PD (Ax.trans _ _ _ (o3 v hv) (hus.ne AR))
   .rw[Aev]at hv;subst hv;exact AR
  rw[fi e];refine⟨λk=>?_,Afl.2 ⟨o1,by simp,λa ha b hb=>by rw[Aev]at hb;subst hb;exact o3 a ha⟩,λv hv=>?_⟩
  .rw[kH,kH];show(Ez O' k).or (if u.ls=k then some (Bq u.ps s.ps) else none)=Ih ((Ez O' k).or (if u.ls=k then some u.ps else none)) (sgO s k)
   unfold sgO;by_cases e2:u.ls=k
   .rw[Aex e2,Aex e2,Aex (e▸e2),I7 λv hv=>by rw[<-e2];exact PD (o3 v hv)];rfl
   .rw[Aeu e2,Aeu e2,Aeu (e▸e2),MU]
  .rcases Ae9.1 hv with hv|hv
   .exact hs v (Afk _ hv)
   .rw[Aev]at hv;subst hv;exact hus
def wk (A:List (List Sr)):List Sr:=A.foldl IT []
theorem wm:∀(A:List (List Sr)) (Z:List Sr),Z.Pairwise NO->(∀X∈A,X.Pairwise NO)->(A.foldl IT Z).Pairwise NO/\∀k,Ez (A.foldl IT Z) k=Ih (Ez Z k) (YC A k)
 | [],Z,G,_=>⟨G,λk=>(MU _).symm⟩
 | X::A,Z,G,hx=>by
  have hX:=hx X (by simp);obtain⟨h1,h2⟩:=wm A (IT Z X) (M4 _ _ G hX) λY hY=>hx Y (Aey _ hY);refine⟨h1,λk=>?_⟩;rw[AgT,h2,AGe G hX,ES,Hx]
theorem ANM {A:List (List Sr)}{O:List Sr}(hx:∀X∈A,X.Pairwise NO)(ho:O.Pairwise NO)(h:∀k,Ez O k=YC A k):O=wk A:=by
 obtain⟨G,h2⟩:=wm A [] List.Pairwise.nil hx;exact vf ho G λk=>by rw[h];exact(h2 k).symm
end TwW
end
section
namespace TwW
open Go Tw Go.RowKit Go.Proofs.Tryz
structure Cu where
 b:Nat
 p:Option Addr
 n:Nat
 c:Nat
 X:List Sr
def Cu.ptr (u:Cu):Value:=.pointer (aD u.b 0)
structure HM (O2 N:Hp)(hb:Nat)(w:Option Addr)(e:Nat)(H:List Cu):Prop where
 hv:N hb=some (.cells #[.slice w H.length e] 269 (0,0))
 arr:Own 1 N w H.length e (H.map Cu.ptr)
 cur:∀u∈H,N u.b=some (.cells #[.slice u.p u.n u.c] 274 (0,0))/\BB 2 CW O2 u.p u.n u.X/\u.n<=u.c
 ext:Ext O2 N
 hτ:O2 hb=none
 cτ:∀u∈H,O2 u.b=none/\u.b≠hb
 aτ:∀a,w=some a->O2 a.block=none/\a.block≠hb/\∀u∈H,u.b≠a.block
 nd:(H.map (·.b)).Nodup
section
variable {Z22 O2 N N':Hp}{R:Rr}{hb e:Nat}{w:Option Addr}{H:List Cu}
theorem HM.mono (h:HM O2 N hb w e H)(A:Ext N N'):HM O2 N' hb w e H:=⟨A _ _ h.hv,h.arr.mono A,λu G=>let ⟨a,b,c⟩:=h.cur u G;⟨A _ _ a,b,c⟩,h.ext.trans A,h.hτ,h.cτ,h.aτ,h.nd⟩
theorem HM.at (h:HM O2 N hb w e H){i:Nat}{u:Cu}(hi:H[i]?=some u):∃b o,w=some ⟨b,o,none⟩/\i<H.length/\Hp.ld N ⟨b,o+i,none⟩=some u.ptr:=by
 have G:=(Ae0.1 hi).1;obtain⟨_,_,A⟩:=h.arr.rd;rcases A with A|⟨b,o,hp,hl⟩
 .omega
 .exact⟨b,o,hp,G,hl.get (by rw[AfZ,hi];rfl)⟩
theorem HM.ldh (h:HM O2 N hb w e H):Hp.ld N ⟨hb,0,none⟩=some (.slice w H.length e):=AD h.hv rfl
theorem qW {i j:Nat}{u v:Cu}{x y:Sr}(h:HM O2 N hb w e H)(hi:H[i]?=some u)(hj:H[j]?=some v)(hu:u.X[0]?=some x)(hv:v.X[0]?=some y)(hR:∀N',Ext N N'->R (.returned (.bool (decide (BN x.ls y.ls<0)))) N'):
  Spec prog 333 #[.slice w H.length e,.I (i:Int),.I (j:Int)] N R:=by
 obtain⟨b,o,hw,yD,h1⟩:=h.at hi;obtain⟨b',o',A,yO,h2⟩:=h.at hj;rw[hw] at A;cases A;obtain⟨c1,c2,c3⟩:=h.cur u (Ae2 hi);obtain⟨d1,d2,d3⟩:=h.cur v (Ae2 hj);obtain⟨bx,ox,p1,n1,e1,p2,n2,e2,G,l1,r1,_,_⟩:=CW.at (c2.mono CW.mono h.ext) hu;obtain⟨P5,oy,q1,m1,f1,q2,m2,f2,hpv,l2,r2,_,_⟩:=CW.at (d2.mono CW.mono h.ext) hv;have TY:0<u.n:=by have:=(Ae0.1 hu).1;have h9:u.X.length=u.n:=c2.1;omega
 have hvn:0<v.n:=by have:=(Ae0.1 hv).1;have h9:v.X.length=v.n:=d2.1;omega
 rw[AgZ,AgY]at l1 l2;refine DD.start ⟨b,o,hw,by unfold In;omega,aD u.b 0,by rw[AfR,Afa];exact h1,u.b,0,rfl,u.p,u.n,u.c,AD c1 rfl,bx,ox,G,by unfold In;omega,p1,n1,e1,l1.1,by unfold In;omega,aD v.b 0,by rw[AfR,Afa];exact h2,v.b,0,rfl,v.p,v.n,v.c,AD d1 rfl,P5,oy,hpv,by unfold In;omega,q1,m1,f1,l2.1,?_⟩;exact Jv r1 r2 λN' hx=>⟨_,rfl,hR N' hx⟩
theorem nC:∀w,(Go.sizeOf 272).run prog w=.ok 1 w:=λw=>by kernel_rfl
instance:MZ prog 269 272 1 8:=⟨underlying269,⟨Go.Proofs.Tryz.t272,_,by kernel_rfl,rfl,rfl,rfl,rfl⟩,by decide,by decide⟩
theorem kI {p:Option Addr}{n c:Nat}:∀u∈(Value.slice p n c).cells.toList,u.oneCell'=true:=λu A=>by
 have A:u∈[Value.slice p n c]:=A;rw[Aev.1 A];rfl
theorem nE:∀w,(Go.sizeOf 269).run prog w=.ok 1 w:=λw=>by kernel_rfl
theorem HM.ya {b o:Nat}{obj:Obj}{H':List Cu}(h:HM O2 N hb (some ⟨b,o,none⟩) e H)(hl:H'.length=H.length)(G:∀u∈H',u∈H)(hn:(H'.map (·.b)).Nodup)(ho:Own 1 (N.set b obj) (some ⟨b,o,none⟩) H.length e (H'.map Cu.ptr)):HM O2 (N.set b obj) hb (some ⟨b,o,none⟩) e H':=by
 obtain⟨a1,a2,a3⟩:=h.aτ _ rfl;refine⟨by rw[Hp.AB (λe=>a2 e.symm),hl];exact h.hv,by rw[hl];exact ho,λu A=>?_,λk v hk=>?_,h.hτ,λu A=>h.cτ u (G u A),λa ha=>by cases ha;exact⟨a1,a2,λu A=>a3 u (G u A)⟩,hn⟩
 .obtain⟨c1,c2⟩:=h.cur u (G u A);exact⟨by rw[Hp.AB (a3 u (G u A))];exact c1,c2⟩
 .rw[Hp.AB (λe=>by rw[e,a1]at hk;cases hk)];exact h.ext _ _ hk
theorem AGh {v:Value}{Φ:Value->Hp->Prop}(h:Φ v Z22):AH prog (Instr.typeAssert (.iface 272 v) 20 272 false) Z22 Φ:=
 AH.pu (λw G=>by
  have A:prog.underlying 272=some (.pointer 274):=by kernel_rfl
  simp[Instr.typeAssert,run_underlying A]) h
theorem kJ {u:Cu}(h:HM O2 N hb w e H)(hl:H.length<=1000)(hN:N u.b=some (.cells #[.slice u.p u.n u.c] 274 (0,0)))(hr:BB 2 CW O2 u.p u.n u.X)(hc:u.n<=u.c)(hτ:O2 u.b=none)(AR:u.b≠hb)(hnw:∀a,w=some a->u.b≠a.block)(LZ:∀v∈H,v.b≠u.b)
  (hR:∀N' w' e',HM O2 N' hb w' e' (H++[u])->R (.T #[]) N'):Spec prog 336 #[.pointer (aD hb 0),.iface 272 (.pointer (aD u.b 0))] N R:=by
 refine DE.start ⟨hb,0,rfl,w,H.length,e,h.ldh,AGh ⟨aD u.b 0,rfl,λk _ v hv=>hv,λIV h10=>?_⟩⟩;have FE:=Ext.set (o:=.cells #[.pointer (aD u.b 0)] 272 (0,0)) h10;have h9:=h.mono FE;refine CF h9.arr (q:=aD IV 0) (ys:=[u.ptr]) ⟨rfl,by decide,.inr ⟨IV,0,rfl,Bm.of_cells (c:=[u.ptr]) (Hp.AA _ _ _)⟩⟩ (λv hv=>by rw[Aev.1 hv];rfl) (by omega) λp' c' y Cq E4=>⟨_,_,_,rfl,?_⟩;have K:∀k v,N k=some v->(∀a,w=some a->k≠a.block)->y k=some v/\∀a,p'=some a->k≠a.block:=λk v G AR=>by
  obtain⟨a1,a2⟩:=AF.1 (E4 k v (AF.2 ⟨AR,FE _ _ G⟩));exact⟨a2,a1⟩
 obtain⟨k1,k2⟩:=K hb _ h.hv λa A e=>(h.aτ a A).2.1 e.symm;have kτ:∀k v,O2 k=some v->y k=some v/\∀a,p'=some a->k≠a.block:=λk v G=>K k v (h.ext _ _ G) λa A e=>by rw[e,(h.aτ a A).1]at G;cases G
 have kc:∀v∈H,y v.b=some (.cells #[.slice v.p v.n v.c] 274 (0,0))/\∀a,p'=some a->v.b≠a.block:=λv hv=>K _ _ (h.cur v hv).1 λa A=>(h.aτ a A).2.2 v hv;obtain⟨ku1,ku2⟩:=K _ _ hN hnw;refine AH.store (P:=prog) nE k1 rfl (Ae1 _) kI (hR _ p' c' ?_);have e1:F0 #[Value.slice w H.length e] 0 (Value.slice p' (H.length+1) c').cells.toList=#[.slice p' (H.length+1) c']:=rfl;rw[e1];refine⟨by rw[Hp.AA,Aet,AfD],?_,λv hv=>?_,λk v G=>?_,h.hτ,λv hv=>?_,λa A=>⟨?_,λe=>k2 a A e.symm,λv hv=>?_⟩,?_⟩
 .rw[Aet,AfD,AfF,Ah5];exact Own.here Cq λa A=>Hp.AB λe=>k2 a A e.symm
 .rcases Ae9.1 hv with hv|hv
  .exact⟨by rw[Hp.AB (h.cτ v hv).2];exact(kc v hv).1,(h.cur v hv).2⟩
  .rw[Aev]at hv;subst hv;exact⟨by rw[Hp.AB AR];exact ku1,hr,hc⟩
 .rw[Hp.AB (λe=>by rw[e,h.hτ]at G;cases G)];exact(kτ k v G).1
 .rcases Ae9.1 hv with hv|hv
  .exact h.cτ v hv
  .rw[Aev]at hv;subst hv;exact⟨hτ,AR⟩
 .cases hh:O2 a.block with
  | none=>rfl
  | some v=>exact absurd rfl ((kτ _ _ hh).2 a A)
 .rcases Ae9.1 hv with hv|hv
  .exact(kc v hv).2 a A
  .rw[Aev]at hv;subst hv;exact ku2 a A
 .rw[AfF,AgC];exact⟨h.nd,by simp,λa A b hb e=>by
   rw[Ah5,Aev]at hb;obtain⟨v,hv,rfl⟩:=AfC.1 A;exact LZ v hv (e.trans hb)⟩
theorem qX {u:Cu}(h:HM O2 N hb w e (H++[u]))(hl:H.length<=1000)(hR:∀N' v,HM O2 N' hb w e H->R (.returned v) N'):Spec prog 335 #[.pointer (aD hb 0)] N R:=by
 have A:(H++[u]).length=H.length+1:=by simp
 obtain⟨b,o,rfl,_,h1⟩:=h.at (i:=H.length) (u:=u) (by rw[AfJ (Ae1 _),AgB];rfl);have hh:=h.ldh;have U8:=Own.cap h.arr;rw[A]at hh U8;have t1:Int.toNat (((H.length+1:Nat):Int)-1)=H.length:=by omega
 refine Dj.start ⟨hb,0,rfl,some ⟨b,o,none⟩,H.length+1,e,hh,some ⟨b,o,none⟩,H.length+1,e,hh,by unfold AK;omega,b,o,rfl,by unfold In;omega,aD u.b 0,by rw[t1,Afa];exact h1,some ⟨b,o,none⟩,H.length+1,e,hh,some ⟨b,o,none⟩,H.length+1,e,hh,by unfold AK;omega,⟨by omega,by omega⟩,?_⟩;rw[t1];refine AH.store (P:=prog) nE h.hv rfl (Ae1 _) kI (hR _ _ ?_);have e1:F0 #[Value.slice (some ⟨b,o,none⟩) (H++[u]).length e] 0 (Value.slice (some ⟨b,o,none⟩) H.length e).cells.toList=#[.slice (some ⟨b,o,none⟩) H.length e]:=rfl;rw[e1];obtain⟨a1,a2,a3⟩:=h.aτ _ rfl;have G:∀v∈H,v∈H++[u]:=λv hv=>Afk _ hv;refine⟨Hp.AA _ _ _,?_,λv hv=>?_,λk v hk=>?_,h.hτ,λv hv=>h.cτ v (G v hv),λa ha=>by cases ha;exact⟨a1,a2,λv hv=>a3 v (G v hv)⟩,?_⟩
 .have:=Own.take h.arr (m:=H.length) (by rw[A];omega);rw[AfF,Afa,List.take_left' (by simp)]at this;exact Own.here this λa ha=>Hp.AB (by cases ha;exact a2)
 .exact⟨by rw[Hp.AB (h.cτ v (G v hv)).2];exact(h.cur v (G v hv)).1,(h.cur v (G v hv)).2⟩
 .rw[Hp.AB (λe=>by rw[e,h.hτ]at hk;cases hk)];exact h.ext _ _ hk
 .have:=h.nd;rw[AfF,AgC]at this;exact this.1
end
section
variable {Z22 O2 N N':Hp}{R:Rr}{hb e:Nat}{w:Option Addr}{H:List Cu}
theorem AUj {x:Int}(h:-1000<=x/\x<=1000):AK x:=by unfold AK;omega
def MV (P:Program)(T:TypeId)(name:String):Option (Bool×Option (FuncId×Bool)):=match P.info? T with
 | none=>none
 | some i=>match i.methods.find? (λm=>m.name==name) with
  | none=>none
  | some m=>some (m.path.isEmpty,m.func)
theorem wo {P:Program}{T:TypeId}{name:String}{f:FuncId}{A:Bool}(h:MV P T name=some (true,some (f,A))):∃i m,P.info? T=some i/\i.methods.find? (λm=>m.name==name)=some m/\m.path=#[]/\m.func=some (f,A):=by
 unfold MV at h;split at h
 .cases h
 .rename_i i hi;split at h
  .cases h
  .rename_i m G;simp only[AfL,Ahh]at h;exact⟨i,m,hi,G,Array.isEmpty_iff.1 h.1,h.2⟩
theorem ABL {P:Program}{T:TypeId}{a:Addr}{s A:ByteArray}{w:World}:(Builtin.ssaWrapNilChk_ #[T] T #[.pointer (some a),.string s,.string A]).run P w=.ok (.pointer (some a)) w:=rfl
theorem fuel {P:Program}:∃k,P.types.size+Made.depth=k+1:=Nat.exists_eq_add_one_of_ne_zero (by
 have:Made.depth≠0:=by decide
 omega)
variable {P:Program}{T E:TypeId}
theorem ANN {w : World} {nm : String} {sl : Value} (hu : P.underlying T = some (.pointer E)) (qs : ∀ w,(isAgg E).run P w = .ok false w) (hs : Sat Z22 w) (Dt : Hp.ld Z22 ⟨hb,0,none⟩ = some sl) : (receiverAt T (.val (.pointer (aD hb 0))) false (some nm)).run P w = .ok sl w := by
 have hl := hs.ld Dt
 unfold receiverAt
 simp only [Sem.run_bind,run_underlying hu,Result.andThen_ok,Place.get]
 show ((Builtin.ssaWrapNilChk_ #[T] T #[.pointer (aD hb 0),strVal "",strVal nm]).run P w).andThen _ = _
 have e : (Builtin.ssaWrapNilChk_ #[T] T #[.pointer (aD hb 0),strVal "",strVal nm]).run P w = .ok (.pointer (aD hb 0)) w := ABL
 simp only [e,Result.andThen_ok]
 have e2 : (asAddr (.pointer (aD hb 0))).run P w = .ok ⟨hb,0,none⟩ w := rfl
 simp only [e2,Result.andThen_ok]
 simp [loadVar,qs,load,Sem.run,hl]
theorem ANO {w:World}{nm:Option String}{v:Value}(A:P.underlying T=some (.pointer E)):(receiverAt T (.val v) true nm).run P w=.ok v w:=by
 unfold receiverAt;simp only[Sem.run_bind,run_underlying A,Result.andThen_ok,Place.get];rfl
theorem ADV {w : World} {k : Nat} {name : String} {v r : Value} {f : FuncId} {pr : Bool} {i : TypeInfo} {m : Method} (hi : P.info? T = some i) (hm : i.methods.find? (λm => m.name == name) = some m) (hp : m.path = #[]) (hf : m.func = some (f,pr)) (hr : ∀ nm,(receiverAt T (.val v) pr (some nm)).run P w = .ok r w) : (method (k + 1) T v name).run P w = .ok (f,r) w := by
 unfold method
 have ht : (typeInfo T).run P w = .ok i w := by simp [typeInfo,hi]
 simp only [Sem.run_bind,ht,Result.andThen_ok,hm,hp,hf,follow]
 show ((receiverAt T (.val v) pr _).run P w).andThen _ = _
 rw [show (if (#[] : Array FieldStep).isEmpty = true then some ((name.splitOn ".").getLastD name) else none) = some ((name.splitOn ".").getLastD name) from rfl,hr]; rfl
theorem inv1 {w:World}{name:String}{v r:Value}{f:FuncId}{args:Array Value}(hm:∀k,(method (k+1) T v name).run P w=.ok (f,r) w)(G:Enters P f):(invoke (.fn (.method name) #[]) (#[.iface T v]++args)).run P w=.ok (.enter f (#[r]++args)) w:=by
 obtain⟨k,hk⟩:=fuel (P:=P);have e1:(#[Value.iface T v]++args).extract 1 (#[Value.iface T v]++args).size=args:=by
  apply AfM.1
  rw[Array.toList_extract,Agl,Aha];simp only[List.extract,Agh,Aez,Afw,AfW,AiW];show List.take args.size args.toList=args.toList
  exact Ae7 (Nat.le_of_eq Ahw)
 have e0:(#[Value.iface T v]++args)[0]?=some (.iface T v):=by rw[Agn];rfl
 simp only[invoke,e0,e1,callMethod];simp only[Sem.run_bind];have A:(program:Sem Program).run P w=.ok P w:=rfl;rw[A];simp only[Result.andThen_ok,hk,hm];exact G _ w
theorem ABM {name:String}{f:FuncId}{args:Array Value}{G:Value}(A:MV P T name=some (true,some (f,false)))(hu:P.underlying T=some (.pointer E))(qs:∀w,(isAgg E).run P w=.ok false w)(Ga:Enters P f)(Dt:Hp.ld Z22 ⟨hb,0,none⟩=some G)(h:Spec P f (#[G]++args) Z22 R):MC P (.iface T (.pointer (aD hb 0))) name args Z22 R:=by
 obtain⟨i,m,hi,A,hp,hf⟩:=wo A;exact⟨f,#[G]++args,λw hs=>inv1 (λk=>ADV hi A hp hf λnm=>ANN hu qs hs Dt) Ga,h⟩
theorem ABN {name:String}{f:FuncId}{args:Array Value}(A:MV P T name=some (true,some (f,true)))(hu:P.underlying T=some (.pointer E))(G:Enters P f)(h:Spec P f (#[.pointer (aD hb 0)]++args) Z22 R):MC P (.iface T (.pointer (aD hb 0))) name args Z22 R:=by
 obtain⟨i,m,hi,A,hp,hf⟩:=wo A;have hr:∀(w:World) (k:Nat),(method (k+1) T (.pointer (aD hb 0)) name).run P w=.ok (f,.pointer (aD hb 0)) w:=λw k=>ADV (r:=.pointer (aD hb 0)) hi A hp hf λnm=>ANO (v:=.pointer (aD hb 0)) (nm:=some nm) hu;have IN:∀w:World,(invoke (.fn (.method name) #[]) (#[.iface T (.pointer (aD hb 0))]++args)).run P w=.ok (.enter f (#[.pointer (aD hb 0)]++args)) w:=λw=>inv1 (v:=.pointer (aD hb 0)) (r:=.pointer (aD hb 0)) (args:=args) (hr w) G;exact⟨f,_,λw _=>IN w,h⟩
theorem wq:prog.underlying 271=some (.pointer 269):=by kernel_rfl
theorem AGj:∀w,(isAgg 269).run prog w=.ok false w:=λw=>by kernel_rfl
theorem AGk:MV prog 271 ri=some (true,some (332,false)):=by kernel_rfl
theorem ABO:MV prog 271 SI=some (true,some (333,false)):=by kernel_rfl
theorem ABP:MV prog 271 SJ=some (true,some (334,false)):=by kernel_rfl
theorem ABQ:MV prog 271 ABl=some (true,some (336,true)):=by kernel_rfl
theorem AGl:MV prog 271 AIN=some (true,some (335,true)):=by kernel_rfl
theorem kK {name:String}{f:FuncId}{args:Array Value}{p:Option Addr}{n c:Nat}(hm:MV prog 271 name=some (true,some (f,false)))(G:Enters prog f)(A:Hp.ld Z22 ⟨hb,0,none⟩=some (.slice p n c))(h:Spec prog f (#[.slice p n c]++args) Z22 R):MC prog (.iface 271 (.pointer (aD hb 0))) name args Z22 R:=ABM hm wq AGj G A h
theorem wu {name:String}{f:FuncId}{args:Array Value}(G:MV prog 271 name=some (true,some (f,true)))(A:Enters prog f)(h:Spec prog f (#[.pointer (aD hb 0)]++args) Z22 R):MC prog (.iface 271 (.pointer (aD hb 0))) name args Z22 R:=ABN G wq A h
abbrev hV (hb:Nat):Value:=.iface 271 (.pointer (aD hb 0))
theorem AGm (h:HM O2 N hb w e H)(A:R (.returned (.I (H.length:Int))) N):MC prog (hV hb) ri #[] N R:=
 kK AGk Dh.en h.ldh (Dh.start A)
theorem wv {i j:Nat}{u v:Cu}{x y:Sr}(h:HM O2 N hb w e H)(hi:H[i]?=some u)(G:H[j]?=some v)(hu:u.X[0]?=some x)(hv:v.X[0]?=some y)(A:∀N',Ext N N'->R (.returned (.bool (decide (BN x.ls y.ls<0)))) N'):
 MC prog (hV hb) SI #[.I (i:Int),.I (j:Int)] N R:=kK ABO DD.en h.ldh (qW h hi G hu hv A)
theorem wx {v:Value}(G:R (.T #[]) N):Spec prog 241 #[v,.I 0] N R:=
 Bj.start ⟨AUj (by decide),by decide,λx7 A=>⟨λ_=>G,λhn=>absurd (A.trans (by decide)) hn⟩⟩
structure ANP (O2 N:Hp)(hb:Nat)(w:Option Addr)(H:List Cu)(u:Cu):Prop where
 at_:N u.b=some (.cells #[.slice u.p u.n u.c] 274 (0,0))
 rd:BB 2 CW O2 u.p u.n u.X
 cap:u.n<=u.c
 new:O2 u.b=none
 ne:u.b≠hb
 nw:∀a,w=some a->u.b≠a.block
 nd:∀v∈H,v.b≠u.b
end
def kL (u:Cu):List Lb:=match u.X with
 | []=>[]
 | x::_=>x.ls
def kA (H:List Cu)(i:Nat):List Lb:=match H[i]? with
 | some u=>kL u
 | none=>[]
def gg (H:List Cu)(n:Nat):Prop:=∀(i:Nat) (v:Cu),i<n->H[i]?=some v->∃x X,v.X=x::X
def yQ (H:List Cu)(i j:Nat)(u v:Cu):List Cu:=(H.set i v).set j u
section
variable {H H':List Cu}{i j n:Nat}{u v:Cu}
theorem fk (hi:H[i]?=some u):kA H i=kL u:=by unfold kA;rw[hi]
theorem Kr {x:Sr}{X:List Sr}(hi:H[i]?=some u)(A:u.X=x::X):kA H i=x.ls:=by rw[fk hi];unfold kL;rw[A]
theorem Vz (h:H'[i]?=H[i]?):kA H' i=kA H i:=by unfold kA;rw[h]
theorem RB (hi:H[i]?=some u)(hj:H[j]?=some v):(yQ H i j u v).Perm H:=by
 obtain⟨A,rfl⟩:=Ae0.1 hi;obtain⟨G,rfl⟩:=Ae0.1 hj;exact List.set_set_perm A G
theorem V0 (hi:H[i]?=some u)(hj:H[j]?=some v)(k:Nat):(yQ H i j u v)[k]?=if k=j then some u else if k=i then some v else H[k]?:=by
 have G:=(Ae0.1 hi).1;have h2:=(Ae0.1 hj).1;unfold yQ;rw[AgN,Af2,AgN];by_cases A:j=k
 .rw[Aex A,Aex A.symm,Aex (A▸h2)]
 .rw[Aeu A,Aeu (AfT A)];by_cases e2:i=k
  .rw[Aex e2,Aex e2.symm,Aex (e2▸G)]
  .rw[Aeu e2,Aeu (AfT e2)]
theorem nF (hi:H[i]?=some u)(G:H[j]?=some v)(k:Nat):kA (yQ H i j u v) k=swF (kA H) i j k:=by
 have h:=V0 hi G k;by_cases A:k=j
 .subst A;rw[Aex rfl]at h;rw[fk h,fj,fk hi]
 .rw[Aeu A]at h;by_cases e2:k=i
  .subst e2;rw[Aex rfl]at h;rw[fk h,YB,fk G]
  .rw[Aeu e2]at h;rw[Vz h,MT e2 A]
theorem gg.sw (h:gg H n)(hi:H[i]?=some u)(hj:H[j]?=some v)(h1:i<n)(h2:j<n):gg (yQ H i j u v) n:=λk x hk A=>by
 rw[V0 hi hj]at A;by_cases G:k=j
 .rw[Aex G]at A;cases A;exact h i _ h1 hi
 .rw[Aeu G]at A;by_cases e2:k=i
  .rw[Aex e2]at A;cases A;exact h j _ h2 hj
  .rw[Aeu e2]at A;exact h k x hk A
end
theorem ABR:(List.range 1001).all (λj=>decide (IntKind.i64.wrap (Int.tdiv ((j:Int)-1) 2)=(((j-1)/2:Nat):Int)))=true:=by kernel_rfl
theorem wy {j:Nat}(h:j<=1000):IntKind.i64.wrap (Int.tdiv ((j:Int)-1) 2)=(((j-1)/2:Nat):Int):=AfS (Afu.1 ABR j (Aik.2 (by omega)))
section
variable {O2 N:Hp}{R:Rr}{hb e i j n:Nat}{w:Option Addr}{H Hs:List Cu}{u v:Cu}
theorem qY (h:HM O2 N hb w e H)(hi:H[i]?=some u)(hj:H[j]?=some v)(hR:∀N',HM O2 N' hb w e (yQ H i j u v)->R (.T #[]) N'):
  Spec prog 334 #[.slice w H.length e,.I (i:Int),.I (j:Int)] N R:=by
 obtain⟨b,o,rfl,yD,h1⟩:=h.at hi;obtain⟨b',o',A,yO,h2⟩:=h.at hj;cases A;have ti:o+Int.toNat (i:Int)*1=o+i:=by omega
 have tj:o+Int.toNat (j:Int)*1=o+j:=by omega
 refine DC.start ⟨b,o,rfl,by unfold In;omega,aD v.b 0,by rw[tj];exact h2,by unfold In;omega,aD u.b 0,by rw[ti];exact h1,by unfold In;omega,?_⟩;rw[ti,tj];have hp:=RB hi hj;refine Own.aG (j:=i) h.arr (by omega) nC rfl rfl λobj g1=>⟨by unfold In;omega,Own.aG (j:=j) g1 (by omega) nC rfl rfl λAck G=>?_⟩;rw[Hp.set_set]at G ⊢;have e9:((H.map Cu.ptr).set i (.pointer (aD v.b 0))).set j (.pointer (aD u.b 0))=(yQ H i j u v).map Cu.ptr:=by
  unfold yQ;rw[Ahm,Ahm];rfl
 exact hR _ (h.ya hp.length_eq (λx hx=>hp.mem_iff.1 hx) ((hp.map _).nodup_iff.2 h.nd) (by rw[<-e9];exact G))
theorem wz (h:HM O2 N hb w e H)(hi:H[i]?=some u)(G:H[j]?=some v)(A:∀N',HM O2 N' hb w e (yQ H i j u v)->R (.T #[]) N'):MC prog (hV hb) SJ #[.I (i:Int),.I (j:Int)] N R:=kK ABP DC.en h.ldh (qY h hi G A)
theorem w5:∀(m j:Nat) (H:List Cu) (N:Hp),j<=m->HM O2 N hb w e H->H.length<=1000->j<H.length->gg H H.length->yP (kA H) H.length j->(∀N' H',HM O2 N' hb w e H'->H'.Perm H->YA (kA H') H'.length->gg H' H'.length->R (.T #[]) N')->
  Bj.pt4 R (hV hb) (j:Int) N/\Spec prog 241 #[hV hb,.I (j:Int)] N R:=by
 intro m
 induction m with
 | zero=>
  intro j H N hj h hl yO A hU hR
  suffices hF:_ from⟨Bj.sr hF,Bj.start hF⟩
  refine⟨by unfold AK;omega,by decide,λx7 e7=>?_⟩;rw[wy (by omega)]at e7;exact⟨λ_=>hR N H h (.refl _) (hU.fin λa ha=>by omega) A,λhn=>absurd (by omega) hn⟩
 | succ m ih=>
  intro j H N hj h hl yO A hU hR;by_cases h0:j=0
  .exact ih j H N (by omega) h hl yO A hU hR
  suffices hF:_ from⟨Bj.sr hF,Bj.start hF⟩
  refine⟨by unfold AK;omega,by decide,λx7 e7=>?_⟩;rw[wy (by omega)]at e7;generalize hi:(j-1)/2=i at e7;subst e7;have ke:gZ i j:=by omega
  obtain⟨u,G⟩:∃u,H[i]?=some u:=⟨_,Ae3 (by omega)⟩;obtain⟨v,hv⟩:∃v,H[j]?=some v:=⟨_,Ae3 yO⟩;obtain⟨x,X,hx⟩:=A i u (by omega) G;obtain⟨y,Y,hy⟩:=A j v yO hv;have kx:=Kr G hx;have ky:=Kr hv hy;refine⟨λhh=>by omega,λ_=>wv (i:=j) (j:=i) h hv G (by rw[hy];rfl) (by rw[hx];rfl) λN' jb=>⟨_,rfl,λhf=>?_,λht=>?_⟩⟩
  .refine hR N' H (h.mono jb) (.refl _) (hU.fin λa ha=>?_) A;obtain rfl:a=i:=by omega
   rw[kx,ky];exact Aff hf
  .have hp:=RB G hv;have Aq:BN (kA H j) (kA H i)<0:=by rw[kx,ky];exact AfS ht
   refine wz (h.mono jb) G hv λN2 h2=>⟨rfl,(ih i _ N2 (by omega) h2 (by rw[hp.length_eq];exact hl) (by rw[hp.length_eq];omega) (by rw[hp.length_eq];exact A.sw G hv (by omega) yO) ?_ λN3 H3 h3 yE=>hR N3 H3 h3 (yE.trans hp)).1⟩;rw[hp.length_eq];exact(hU.step ke yO Aq).congr λk _=>nF G hv k
theorem V4 {i0:Int}{n:Nat}:∀(m i:Nat) (H:List Cu) (N:Hp),n-i<=m->i<=1000->HM O2 N hb w e H->H.length<=1000->n<=H.length->gg H n->rC (kA H) n i->(∀N' H' r,HM O2 N' hb w e H'->H'.Perm H->(∀k,n<=k->H'[k]?=H[k]?)->YA (kA H') n->gg H' n->R (.B r) N')->
  Af.HT R (hV hb) i0 (n:Int) (i:Int) N:=by
 intro m
 induction m with
 | zero=>
  intro i H N hm hi h hl hn A hD hR;exact Af.CJ ⟨by unfold AK;omega,by unfold AK;omega,λ_=>Af.Yt (hR N H _ h (.refl _) (λ_ _=>rfl) (hD.fin λc G uf=>by omega) A),λhh=>by omega⟩
 | succ m ih=>
  intro i H N hm hi h hl hn A hD hR;have c1:((2*i+1:Nat):Int)=2*(i:Int)+1:=by omega
  have c2:((2*i+2:Nat):Int)=2*(i:Int)+1+1:=by omega
  have go:∀(N':Hp) (j:Nat),HM O2 N' hb w e H->gZ i j->j<n->(∀c,gZ i c->c<n->P6 (kA H j) (kA H c))->Af.JI R (hV hb) i0 (n:Int) (i:Int) (j:Int) N':=λN' j h' ke xU kM=>by
   obtain⟨u,hu⟩:∃u,H[i]?=some u:=⟨_,Ae3 (by omega)⟩;obtain⟨v,hv⟩:∃v,H[j]?=some v:=⟨_,Ae3 (by omega)⟩;obtain⟨x,X,hx⟩:=A i u (by omega) hu;obtain⟨y,Y,hy⟩:=A j v xU hv;have kx:=Kr hu hx;have ky:=Kr hv hy;refine Af.G2 (wv (i:=j) (j:=i) h' hv hu (by rw[hy];rfl) (by rw[hx];rfl) λN2 jb=>⟨_,rfl,λhf=>?_,λht=>?_⟩)
   .refine Af.Yt (hR N2 H _ (h'.mono jb) (.refl _) (λ_ _=>rfl) (hD.fin λc G uf=>?_) A);have h9:P6 (kA H i) (kA H j):=by rw[kx,ky];exact Aff hf
    exact h9.tr (kM c G uf)
   .have hp:=RB hu hv;have Aq:BN (kA H j) (kA H i)<0:=by rw[kx,ky];exact AfS ht
    refine wz (h'.mono jb) hu hv λN3 h3=>⟨rfl,ih j _ N3 (by omega) (by omega) h3 (by rw[hp.length_eq];exact hl) (by rw[hp.length_eq];exact hn) (A.sw hu hv (by omega) xU) ((hD.step ke xU Aq kM).congr λk _=>nF hu hv k) λN4 H4 r h4 hp4 hk4=>hR N4 H4 r h4 (hp4.trans hp) λk hk=>?_⟩;rw[hk4 k hk,V0 hu hv,Aeu (by omega),Aeu (by omega)]
  have key:∀j,j<n->∃v y Y,H[j]?=some v/\v.X=y::Y/\kA H j=y.ls:=λj hj=>by
   obtain⟨v,hv⟩:∃v,H[j]?=some v:=⟨_,Ae3 (by omega)⟩;obtain⟨y,Y,hy⟩:=A j v hj hv;exact⟨v,y,Y,hv,hy,Kr hv hy⟩
  refine Af.CJ ⟨by unfold AK;omega,by unfold AK;omega,λ_=>Af.Yt (hR N H _ h (.refl _) (λ_ _=>rfl) (hD.fin λc G uf=>by omega) A),λh1=>⟨λhh=>by omega,λ_=>⟨by unfold AK;omega,λh2=>?_,λh2=>?_⟩⟩⟩
  .rw[<-c2,<-c1];obtain⟨v1,y1,Y1,hv1,hy1,k1⟩:=key (2*i+1) (by omega);obtain⟨v2,y2,Y2,mA,oE,k2⟩:=key (2*i+2) (by omega);refine wv (i:=2*i+2) (j:=2*i+1) h mA hv1 (by rw[oE];rfl) (by rw[hy1];rfl) λN' jb=>⟨_,rfl,λht=>?_,λhf=>?_⟩
   .refine go N' (2*i+2) (h.mono jb) (by omega) (by omega) λc G uf=>?_;have h9:P6 (kA H (2*i+2)) (kA H (2*i+1)):=by rw[k1,k2];exact .lt (AfS ht)
    rcases G with rfl|rfl
    .exact h9
    .exact .re _
   .refine go N' (2*i+1) (h.mono jb) (by omega) (by omega) λc G uf=>?_;have h9:P6 (kA H (2*i+1)) (kA H (2*i+2)):=by rw[k1,k2];exact Aff hf
    rcases G with rfl|rfl
    .exact .re _
    .exact h9
  .rw[<-c1];refine go N (2*i+1) h (by omega) (by omega) λc G uf=>?_;obtain rfl:c=2*i+1:=by omega
   exact .re _
theorem w6 (h:HM O2 N hb w e H)(hl:H.length<=1000)(AR:gg H H.length)(hD:rC (kA H) H.length 0)(hR:∀N' H',HM O2 N' hb w e H'->H'.Perm H->YA (kA H') H'.length->gg H' H'.length->R (.T #[]) N'):Spec prog 193 #[hV hb,.I 0] N R:=
 II.start (AGm h ⟨_,rfl,Af.start (V4 _ 0 H N (Ae1 _) (by decide) h hl (Ae1 _) AR hD λN' H' r A hp hk G hn=>⟨r,rfl,λ_=>wx ⟨rfl,hR N' H' A hp (by rw[hp.length_eq];exact G) (by rw[hp.length_eq];exact hn)⟩,λ_=>hR N' H' A hp (by rw[hp.length_eq];exact G) (by rw[hp.length_eq];exact hn)⟩)⟩)
theorem w9 (h:HM O2 N hb w e (u::Hs))(hl:Hs.length+1<=1000)(AR:gg Hs Hs.length)(hD:rC (kA (u::Hs)) (Hs.length+1) 0)(hR:∀N' z H',HM O2 N' hb w e H'->H'.Perm Hs->YA (kA H') H'.length->gg H' H'.length->R (.returned z) N'):Spec prog 192 #[hV hb] N R:=by
 have c:(((u::Hs).length:Nat):Int)-1=(Hs.length:Int):=by rw[Aez];omega
 obtain⟨v,hv⟩:∃v,(u::Hs)[Hs.length]?=some v:=⟨_,Ae3 (Nat.lt_succ_self _)⟩;have hu:(u::Hs)[0]?=some u:=rfl;have hp:=RB hu hv;have hlen:(yQ (u::Hs) 0 Hs.length u v).length=Hs.length+1:=hp.length_eq;refine IC.start (AGm h ⟨_,rfl,by rw[c];unfold AK;omega,?_⟩);rw[c];refine wz (i:=0) h hu hv λN1 h1=>⟨rfl,Af.start (V4 (n:=Hs.length) _ 0 _ N1 (Ae1 _) (by decide) h1 (by omega) (by omega) (λk x G A=>?_) ⟨λa c ha hc h0=>?_,λa c ha=>by omega⟩ λN2 H2 r h2 hp2 G hO hn=>⟨r,rfl,?_⟩)⟩
 .rw[V0 hu hv,Aeu (by omega)]at A;by_cases h0:k=0
  .rw[Aex h0]at A;cases A;obtain⟨k',JO⟩:∃k',Hs.length=k'+1:=⟨Hs.length-1,by omega⟩;refine AR k' v (by omega) ?_;rw[JO]at hv;exact hv
  .rw[Aeu h0]at A;obtain⟨k',rfl⟩:∃k',k=k'+1:=⟨k-1,by omega⟩;exact AR k' x (by omega) A
 .rw[nF hu hv,nF hu hv,MT h0 (by omega),MT (by omega) (by omega)];exact hD.o a c ha (by omega) h0
 .have Rl:H2.length=Hs.length+1:=hp2.length_eq.trans hlen;have hu2:H2[Hs.length]?=some u:=by rw[G _ (Ae1 _),V0 hu hv,Aex rfl]
  have e2:H2=H2.take Hs.length++[u]:=by
   rw[<-AL hu2,Ae7 (by omega)]
  have yE:(H2.take Hs.length).Perm Hs:=by
   have:=hp2.trans hp;rw[e2]at this;exact List.Perm.cons_inv ((AiA u _).symm.trans this)
  have lt:(H2.take Hs.length).length=Hs.length:=by rw[AfE];omega
  rw[e2]at h2;refine wu AGl Dj.en (qX h2 (by omega) λN3 z h3=>⟨z,rfl,hR N3 z _ h3 yE ?_ ?_⟩)
  .rw[lt];exact hO.congr λk G=>Vz (by rw[AfP,Aex G])
  .rw[lt];intro k x G A;rw[AfP,Aex G]at A;exact hn k x G A
theorem qZ (h:HM O2 N hb w e H)(hl:H.length+1<=1000)(G:ANP O2 N hb w H u)(AR:gg H H.length)(hux:∃x X,u.X=x::X)(hO:YA (kA H) H.length)(hR:∀N' w' e' H',HM O2 N' hb w' e' H'->H'.Perm (H++[u])->YA (kA H') H'.length->gg H' H'.length->R (.T #[]) N'):
  Spec prog 191 #[hV hb,.iface 272 (.pointer (aD u.b 0))] N R:=by
 have A:(H++[u]).length=H.length+1:=by simp
 have c:(((H++[u]).length:Nat):Int)-1=(H.length:Int):=by rw[A];omega
 have hat:∀i,i<H.length->(H++[u])[i]?=H[i]?:=λi hi=>Ae8 hi;refine Hb.start (wu ABQ DE.en (kJ h (by omega) G.at_ G.rd G.cap G.new G.ne G.nw G.nd λN1 w1 e1 h1=>⟨rfl,AGm h1 ⟨_,rfl,by rw[c];unfold AK;omega,?_⟩⟩));rw[c];refine(w5 H.length H.length (H++[u]) N1 (Ae1 _) h1 (by omega) (by omega) (λi x hi hx=>?_) ?_ λN2 H2 h2 hp hO2 mS=>⟨rfl,hR N2 w1 e1 H2 h2 hp hO2 mS⟩).2
 .by_cases Aq:i<H.length
  .rw[hat i Aq]at hx;exact AR i x Aq hx
  .obtain rfl:i=H.length:=by omega
   rw[AfJ (Ae1 _),AgB]at hx;cases hx;exact hux
 .rw[A];exact hO.up λi hi=>Vz (hat i hi)
end
section
variable {Z22 O2 N N':Hp}{R:Rr}{hb e:Nat}{w:Option Addr}{H:List Cu}
theorem HM.xT {u:Cu}{Hs:List Cu}{p':Option Addr}{G c':Nat}{X':List Sr}(h:HM O2 N hb w e (u::Hs))(hr:BB 2 CW O2 p' G X')(hc:G<=c'):HM O2 (N.set u.b (.cells #[.slice p' G c'] 274 (0,0))) hb w e (⟨u.b,p',G,c',X'⟩::Hs):=by
 obtain⟨c1,c2⟩:=h.cτ u (by simp);have LZ:=h.nd;rw[AfN]at LZ;obtain⟨d1,d2⟩:=Afe.1 LZ;refine⟨by rw[Hp.AB (λe=>c2 e.symm)];exact h.hv,Own.here h.arr λa A=>Hp.AB λe=>(h.aτ a A).2.2 u (by simp) e.symm,λv hv=>?_,λk v hk=>?_,h.hτ,λv hv=>?_,λa A=>⟨(h.aτ a A).1,(h.aτ a A).2.1,λv hv=>?_⟩,LZ⟩
 .rcases Ae5.1 hv with rfl|hv
  .exact⟨Hp.AA _ _ _,hr,hc⟩
  .have AR:v.b≠u.b:=λe=>d1 (by rw[<-e];exact AfC.2 ⟨v,hv,rfl⟩);exact⟨by rw[Hp.AB AR];exact(h.cur v (Aey _ hv)).1,(h.cur v (Aey _ hv)).2⟩
 .rw[Hp.AB (λe=>by rw[e,c1]at hk;cases hk)];exact h.ext _ _ hk
 .rcases Ae5.1 hv with rfl|hv
  .exact⟨c1,c2⟩
  .exact h.cτ v (Aey _ hv)
 .rcases Ae5.1 hv with rfl|hv
  .exact(h.aτ a A).2.2 u (by simp)
  .exact(h.aτ a A).2.2 v (Aey _ hv)
theorem Tx:∀(a b:List Pt),a.length<=(Bq a b).length
 | [],b=>AfI _
 | x::a,[]=>by rw[GY];exact Ae1 _
 | x::a,y::b=>by
  rw[Fp];have G:=Tx a (y::b);have A:=Tx (x::a) b;have h3:=Tx a b;simp only[Aez]at A ⊢;split
  .simp only[Aez];omega
  .split<;>(simp only[Aez];omega)
termination_by a b=>a.length+b.length
abbrev PsK (s:Sr):Prop:=s.ls.length<=1000000000/\s.ps.length<=100000000
abbrev BdO (O:List Sr):Prop:=(∀u∈O,u.ps.length<=200000000)/\O.length<=2900000000000
structure Cli (O2:Hp)(l:Nat)(J:Hp->List Sr->Hp->Prop):Prop where
 st:∀N N' O Z22 Z'2,J N O Z22->Ext N' Z'2->Ext O2 N'->(∀k v,N k=none->Z22 k=some v->Z'2 k=some v/\N' k=none)->J N' O Z'2
 ext:∀N O Z22,J N O Z22->Ext N Z22
 y:∀N O Z22 s p n c q m d,J N O Z22->BdO O->PsK s->Ext O2 N->I1 O2 p n s.ls->BB 2 Bp O2 q m s.ps->m<=d->Ls prog l #[.agg #[.slice p n c,.slice q m d]] Z22 (λe Z'2=>e=.B true/\J N (Vy O s) Z'2)
variable {l:Nat}{J:Hp->List Sr->Hp->Prop}
theorem Cli.call (A:Cli O2 l J){f:FuncId}{args:Array Value}{O:List Sr}(G:J N O Z22)(h:Spec prog f args N (λe N'=>Ext O2 N'/\∀Z'2,J N' O Z'2->R e Z'2)):Spec prog f args Z22 R:=
 Spec.Gv (N:=N) (M:=Z22.minus N) (A.ext _ _ _ G) (Ext.Qg _ _) (WU.minus _ _) (h.mono λe N' ⟨hx,hr⟩ hd=>hr _ (A.st N N' O Z22 _ G (Ext.Uy _ _) hx λk v hk hv=>by
  have hm:=Hp.Gu.2 ⟨hk,hv⟩;have hn:=hd k (by rw[hm];simp);exact⟨by rw[Hp.NH hn];exact hm,hn⟩))
theorem Cli.set (hC:Cli O2 l J){O:List Sr}{b:Nat}{o:Obj}(hJ:J N O Z22)(hb:N b≠none\/Z22 b=none)(hx:Ext O2 (N.set b o)):J (N.set b o) O (Z22.set b o):=by
 have hN:=hC.ext _ _ _ hJ;refine hC.st N _ O Z22 _ hJ (λk v A=>?_) hx λk v A hv=>?_
 .by_cases h:k=b
  .subst h;rw[Hp.AA]at A ⊢;exact A
  .rw[Hp.AB h]at A ⊢;exact hN _ _ A
 .have G:k≠b:=λe=>by
   rcases hb with hb|hb
   .exact hb (by rw[<-e];exact A)
   .rw[<-e,hv]at hb;cases hb
  rw[Hp.AB G,Hp.AB G];exact⟨hv,A⟩
theorem nG:∀w,(Go.sizeOf 44).run prog w=.ok 1 w:=λw=>by kernel_rfl
end
def Wi (Z22:Hp)(vs:List Value)(X:List Sr):Prop:=∃p n c,vs=[.slice p n c]/\BB 2 CW Z22 p n X/\n<=c
theorem Wi.mono:Lq Wi:=λZ22 Z'2 vs X hx ⟨p,n,c,A,G,h3⟩=>⟨p,n,c,A,G.mono CW.mono hx,h3⟩
theorem Wi.at {Z22:Hp}{p:Option Addr}{n i:Nat}{A:List (List Sr)}{X:List Sr}(hr:BB 1 Wi Z22 p n A)(hx:A[i]?=some X):∃b o q m d,p=some ⟨b,o,none⟩/\Hp.ld Z22 ⟨b,o+i,none⟩=some (.slice q m d)/\BB 2 CW Z22 q m X/\m<=d:=by
 obtain⟨b,o,vs,rfl,⟨q,m,d,rfl,h2,h3⟩,G⟩:=BB.idx hr hx;rw[Afa]at G;exact⟨b,o,q,m,d,rfl,G.1,h2,h3⟩
def kN (H:List Cu):Nat:=(H.map λu=>u.X.length).sum
structure RI (F:List Lb->Option (List Pt))(O:List Sr)(H:List Cu)(g:Nat):Prop where
 f:∀k,Ih (Ez O k) (YC (H.map Cu.X) k)=F k
 o:O.Pairwise NO
 le:∀u∈O,∀v∈H,∀x∈v.X,P6 u.ls x.ls
 ok:∀v∈H,v.X.Pairwise NO/\∀s∈v.X,PsK s
 sz:kN H<=g
 tot:O.length+g<=2900000000000
theorem ABS (O:List Sr)(s:Sr):(Vy O s).length<=O.length+1:=by
 unfold Vy;cases A:O.getLast? with
 | none=>simp
 | some u=>
  dsimp only;split
  .rw[Aet,List.length_dropLast,AfD];omega
  .simp
section
variable {F:List Lb->Option (List Pt)}{O:List Sr}{H H' Hs:List Cu}{g:Nat}{u u':Cu}{s:Sr}{X':List Sr}
theorem RI.bd (h:RI F O H g)(hF:∀k ps,F k=some ps->ps.length<=200000000):BdO O:=by
 refine⟨λu hu=>?_,by have:=h.tot;omega⟩;have A:=h.f u.ls;rw[vd (ve h.o) hu]at A;cases G:YC (H.map Cu.X) u.ls with
 | none=>rw[G]at A;exact hF _ _ A.symm
 | some q=>rw[G]at A;exact AfU (Tx _ _) (hF _ _ A.symm)
theorem RI.perm (h:RI F O H g)(hp:H'.Perm H):RI F O H' g:=
 ⟨λk=>by rw[nB (hp.map _)];exact h.f k,h.o,λu A v hv=>h.le u A v (hp.mem_iff.1 hv),λv hv=>h.ok v (hp.mem_iff.1 hv),by
  unfold kN;rw[(hp.map _).sum_nat];exact h.sz,h.tot⟩
theorem RI.drop (h:RI F O (u::Hs) g)(A:u.X=[]):RI F O Hs g:=
 ⟨λk=>by
  have:=h.f k;rw[AfN,A,ES]at this;exact this,h.o,λx G v hv=>h.le x G v (Aey _ hv),λv hv=>h.ok v (Aey _ hv),by
  have:=h.sz;unfold kN at this ⊢;rw[AfN,AhJ]at this;omega,h.tot⟩
theorem RI.step (h:RI F O (u::Hs) (g+1))(A:u.X=s::X')(kM:∀v∈u::Hs,∀x∈v.X,P6 s.ls x.ls)(G:u'.X=X'):RI F (Vy O s) (u'::Hs) g:=by
 have hs:s∈u.X:=by rw[A];exact AfB ..
 obtain⟨g1,g2,g3⟩:=AGg h.o λx hx=>h.le x hx u (AfB ..) s hs;obtain⟨k1,k2⟩:=h.ok u (AfB ..);rw[A]at k1;refine⟨λk=>?_,g2,λx hx v hv y hy=>(g3 x hx).tr ?_,λv hv=>?_,?_,?_⟩
 .have:=h.f k;rw[AfN,A,ES,ABK k1,Hx]at this;rw[g1,AfN,G,ES,Hx];exact this
 .rcases Ae5.1 hv with rfl|hv
  .exact kM u (AfB ..) y (by rw[A];exact Aey _ (G▸hy))
  .exact kM v (Aey _ hv) y hy
 .rcases Ae5.1 hv with rfl|hv
  .rw[G];exact⟨(Afb.1 k1).2,λy hy=>k2 y (by rw[A];exact Aey _ hy)⟩
  .exact h.ok v (Aey _ hv)
 .have:=h.sz;unfold kN at this ⊢;rw[AfN,AhJ,A,Aez]at this;rw[AfN,AhJ,G];omega
 .have:=h.tot;have:=ABS O s;omega
end
section
variable {Z22 O2 N N':Hp}{R:Rr}{l hb e:Nat}{w:Option Addr}{J:Hp->List Sr->Hp->Prop}
theorem kO {F:List Lb->Option (List Pt)}{b3:Nat}(hC:Cli O2 l J)(hF:∀k ps,F k=some ps->ps.length<=200000000)(gx:∀N O Z22,O.Pairwise NO->(∀k,Ez O k=F k)->J N O Z22->R (.T #[]) Z22):
  ∀(g:Nat) (H:List Cu) (N Z22:Hp) (O:List Sr) (w:Option Addr) (e:Nat),RI F O H g->H.length<=1000->gg H H.length->YA (kA H) H.length->HM O2 N b3 w e H->J N O Z22->BA.Pa R (.func (.yield l) #[] #[]) b3 Z22:=by
 have stop:∀(g:Nat) (N Z22:Hp) (O:List Sr) (w:Option Addr) (e:Nat),RI F O [] g->HM O2 N b3 w e []->J N O Z22->BA.Pa R (.func (.yield l) #[] #[]) b3 Z22:=λg N Z22 O w e hI G hJ=>by
  refine BA.Kc ⟨w,0,e,(hC.ext _ _ _ hJ).ld G.ldh,λhh=>absurd hh (by decide),λ_=>gx N O Z22 hI.o (λk=>?_) hJ⟩;rw[<-hI.f k];exact(MU _).symm
 intro g
 induction g with
 | zero=>
  intro H N Z22 O w e hI hl AR hO G hJ;cases H with
  | nil=>exact stop _ N Z22 O w e hI G hJ
  | cons u Hs=>
   obtain⟨s,X',A⟩:=AR 0 u (Nat.zero_lt_succ _) rfl;have:=hI.sz;unfold kN at this;rw[AfN,AhJ,A,Aez]at this;omega
 | succ g ih=>
  intro H N Z22 O w e hI hl AR hO G hJ;cases H with
  | nil=>exact stop _ N Z22 O w e hI G hJ
  | cons u Hs=>
   have hN:=hC.ext _ _ _ hJ;obtain⟨s,X',A⟩:=AR 0 u (Nat.zero_lt_succ _) rfl;have kM:∀v∈u::Hs,∀x∈v.X,P6 s.ls x.ls:=λv hv x hx=>by
    obtain⟨i,hi,rfl⟩:=AhU hv;obtain⟨y,Y,hY⟩:=AR i _ hi (Ae3 hi);have h1:=hO.min i i (Ae1 _) hi;rw[Kr (H:=u::Hs) (i:=0) rfl A,Kr (Ae3 hi) hY]at h1;rw[hY]at hx;rcases Ae5.1 hx with rfl|hx
    .exact h1
    .have h2:=(hI.ok _ hv).1;rw[hY]at h2;exact h1.tr (.lt ((Afb.1 h2).1 x hx))
   have hPs:=(hI.ok u (by simp)).2 s (by rw[A];simp);obtain⟨b,o,rfl,Aq,hl0⟩:=G.at (i:=0) (u:=u) rfl;obtain⟨c1,c2,c3⟩:=G.cur u (by simp);rw[A]at c2;have TY:(s::X').length=u.n:=c2.1;rw[Aez]at TY;obtain⟨bx,ox,p1,n1,e1,q1,m1,d1,hpu,l1,r1,r2,r3⟩:=CW.at c2 (i:=0) (s:=s) rfl;rw[AgZ,AgY]at l1;have ANR:=G.ext.trans hN;have hlen:(0:Int)<(((u::Hs).length:Nat):Int):=by rw[Aez];omega
   refine BA.Kc ⟨_,_,e,hN.ld G.ldh,λ_=>⟨_,_,e,hN.ld G.ldh,b,o,rfl,⟨by decide,hlen⟩,aD u.b 0,hN.ld hl0,u.b,0,rfl,u.p,u.n,u.c,AD (hN _ _ c1) rfl,bx,ox,hpu,by unfold In;omega,p1,n1,e1,q1,m1,d1,l1.mono ANR,l,rfl,?_⟩,λhh=>absurd hlen hh⟩;refine(hC.y N O Z22 s p1 n1 e1 q1 m1 d1 hJ (hI.bd hF) hPs G.ext r1 r2 r3).mono λen Z12 ⟨he,xA⟩=>?_;subst he;have hN1:=hC.ext _ _ _ xA;refine⟨true,rfl,λhh=>(by cases hh),λ_=>⟨u.p,u.n,u.c,AD (hN1 _ _ c1) rfl,⟨by decide,by omega⟩,?_⟩⟩;have hM1:=G.xT (AGF c2 (by decide) c3) (by omega:u.n-1<=u.c-1);refine AH.store (P:=prog) nG (hN1 _ _ c1) rfl (Ae1 _) kI ?_;have e1:F0 #[Value.slice u.p u.n u.c] 0 (Value.slice (ET u.p 1 u.c 2) (u.n-1) (u.c-1)).cells.toList=#[.slice (ET u.p 1 u.c 2) (u.n-1) (u.c-1)]:=rfl;rw[e1];refine⟨_,_,_,AD (Hp.AA _ _ _) rfl,?_⟩;have hJ2:=hC.set xA (.inl (by rw[c1];simp)) hM1.ext;have hI1:=hI.step (u':=⟨u.b,ET u.p 1 u.c 2,u.n-1,u.c-1,X'⟩) A kM rfl;have qs:∀i<(u::Hs).length,i≠0->kA (⟨u.b,ET u.p 1 u.c 2,u.n-1,u.c-1,X'⟩::Hs) i=kA (u::Hs) i:=λi _ h0=>by
    cases i with
    | zero=>exact absurd rfl h0
    | succ i=>rfl
   have ALi:∀(i:Nat) (v:Cu),0<i->i<(u::Hs).length->(u::Hs)[i]?=some v->∃x X,v.X=x::X:=λi v _ hi hv=>AR i v hi hv;have VM:∀(i:Nat) (v:Cu),i<Hs.length->Hs[i]?=some v->∃x X,v.X=x::X:=λi v hi hv=>AR (i+1) v (Nat.succ_lt_succ hi) hv;rw[Aez]at hl;refine⟨λh0=>?_,λh0=>?_⟩
   .have hX':X'=[]:=Ag0.1 (by omega);subst hX';exact hC.call hJ2 (w9 hM1 hl VM (hO.down qs) λN2 z H2 h2 hp hO2 mS=>⟨h2.ext,λZ222 hJ3=>⟨z,rfl,ih H2 N2 Z222 _ _ e ((hI1.drop rfl).perm hp) (by rw[hp.length_eq];omega) mS hO2 h2 hJ3⟩⟩)
   .cases hX:X' with
    | nil=>subst hX;exact absurd (by simp only[Afw]at TY;omega) h0
    | cons t X2=>
     subst hX;refine hC.call hJ2 (w6 hM1 (by simp only[Aez];omega) (λi v hi hv=>?_) (hO.down qs) λN2 H2 h2 hp hO2 mS=>⟨h2.ext,λZ222 hJ3=>⟨rfl,ih H2 N2 Z222 _ _ e (hI1.perm hp) (by rw[hp.length_eq,Aez];omega) mS hO2 h2 hJ3⟩⟩);cases i with
     | zero=>cases hv;exact⟨t,X2,rfl⟩
     | succ i=>exact VM i v (by simp only[Aez]at hi;omega) hv
structure HH (Ys:List (List Sr))(H:List Cu):Prop where
 rs:∀k,YC (H.map Cu.X) k=YC Ys k
 sz:kN H<=(Ys.map List.length).sum
 len:H.length<=Ys.length
 ok:∀v∈H,v.X.Pairwise NO/\∀s∈v.X,PsK s
theorem kP (G Bs:List (List Sr))(k:List Lb):YC (G++Bs) k=Ih (YC G k) (YC Bs k):=by
 induction G with
 | nil=>rfl
 | cons A G ih=>rw[Af3,ES,ES,ih,Hx]
theorem AUo {a i k n:Nat}(A:a<=min i n)(G:i<k)(h3:k<=1000):a+1<=1000:=by omega
theorem kQ {Xs:List (List Sr)}{b1 G cl:Nat}{pl:Option Addr}{Z0:Hp}(hC:Cli O2 l J)(Ru:Hp.ld O2 ⟨b1,0,none⟩=some (.slice pl G cl))(hL:BB 1 Wi O2 pl G Xs)(hk:G<=1000)(hS:∀X∈Xs,X.Pairwise NO/\∀s∈X,PsK s)(hF:∀k ps,YC Xs k=some ps->ps.length<=200000000)(hl:(Xs.map List.length).sum<=2900000000000)
  (h0:J O2 [] Z0) (gx:∀N Z22,J N (wk Xs) Z22->R (.T #[]) Z22):Spec prog 190 #[.func (.yield l) #[] #[],.pointer (aD b1 0)] Z0 R:=by
 have hlen:Xs.length=G:=hL.1;have LX:=hC.ext _ _ _ h0;refine BA.start λb3 h3=>?_;have t3:O2 b3=none:=AT LX h3;have x3:=Ext.set (o:=.cells #[.N] 269 (0,0)) t3;have J3:=hC.set (o:=.cells #[.N] 269 (0,0)) h0 (.inr h3) x3;have M3:HM O2 (O2.set b3 (.cells #[.N] 269 (0,0))) b3 none 0 []:=⟨Hp.AA _ _ _,Own.nil,λu hu=>(by cases hu),x3,t3,λu hu=>(by cases hu),λa ha=>(by cases ha),AhZ⟩;have Ev:=M3.ext.trans (hC.ext _ _ _ J3)
 suffices H:∀(d i:Nat) (H:List Cu) (N Z22:Hp) (w:Option Addr) (e:Nat),G-i=d->i<=G->HH (Xs.take i) H->gg H H.length->YA (kA H) H.length->HM O2 N b3 w e H->J N [] Z22->BA.HA R (.func (.yield l) #[] #[]) b3 pl G cl (G:Int) (i:Int) Z22 from
  ⟨_,_,_,Ev.ld Ru,H G 0 [] _ _ none 0 rfl (AfI _) ⟨λk=>rfl,Ae1 _,Ae1 _,λv hv=>by cases hv⟩ (λi v hi=>absurd hi (Ahr _)) (λa c _ hc=>absurd hc (Ahr _)) M3 J3⟩
 intro d
 induction d with
 | zero=>
  intro i H N Z22 w e hd hi A AR hO hM hJ;obtain rfl:i=G:=by omega
  rw[Ae7 (by omega)]at A;have:=A.len;exact BA.Bi ⟨λhh=>by omega,λ_=>kO hC hF (λN O Z22 h1 h2 h4=>gx N Z22 (by rw[<-ANM (λX hX=>(hS X hX).1) h1 h2];exact h4)) _ H N Z22 [] w e ⟨λk=>A.rs k,List.Pairwise.nil,λu hu=>(by cases hu),A.ok,A.sz,by rw[Afw];omega⟩ (by omega) AR hO hM hJ⟩
 | succ d ih=>
  intro i H N Z22 w e hd hi A AR hO hM hJ;have hN:=hC.ext _ _ _ hJ;have hik:i<G:=by omega
  obtain⟨X,hX⟩:=hL.ex hik;obtain⟨lb,ob,q,m,dd,rfl,Dt,rX,kX⟩:=Wi.at hL hX;have hlX:X.length=m:=rX.1;have eT:=AL hX;have hHl:=A.len;rw[AfE]at hHl;have next:∀(H':List Cu) (N' Z'2:Hp) (w':Option Addr) (e':Nat),HH (Xs.take (i+1)) H'->gg H' H'.length->YA (kA H') H'.length->HM O2 N' b3 w' e' H'->J N' [] Z'2->BA.IZ R (.func (.yield l) #[] #[]) b3 (aD lb ob) G cl (G:Int) (i:Int) Z'2:=λH' N' Z'2 w' e' h1 h2 h4 h5 h6=>by
   have:=ih (i+1) H' N' Z'2 w' e' (by omega) (by omega) h1 h2 h4 h5 h6;rw[show((i+1:Nat):Int)=(i:Int)+1 by omega]at this;exact BA.KZ ⟨by unfold AK;omega,this⟩
  refine BA.Bi ⟨λ_=>⟨lb,ob,rfl,by unfold In;omega,q,m,dd,by rw[AfR,Afa];exact(hM.ext.trans hN).ld Dt,λGb=>λE1 uS=>?_,λhz=>?_⟩,λhh=>by omega⟩
  .obtain⟨x,X',hxX⟩:∃x X',X=x::X':=by
    cases X with
    | nil=>simp only[Afw]at hlX;omega
    | cons x X'=>exact⟨x,X',rfl⟩
   have n19:N E1=none:=AT hN uS;have NF:=Ext.set (o:=.cells #[.slice q m dd] 274 (0,0)) n19;have hu:ANP O2 (N.set E1 (.cells #[.slice q m dd] 274 (0,0))) b3 w H ⟨E1,q,m,dd,X⟩:=by
    refine⟨Hp.AA _ _ _,rX,kX,AT hM.ext n19,λe=>?_,λa ha e=>?_,λv hv e=>?_⟩
    .have:=hM.hv;rw[<-e]at this;simp only at this;rw[n19]at this;cases this
    .exact hM.arr.block a ha (by rw[<-e];exact n19)
    .have:=(hM.cur v hv).1;rw[e]at this;simp only at this;rw[n19]at this;cases this
   have AGo:=hM.mono NF;have ANT:=hC.set (o:=.cells #[.slice q m dd] 274 (0,0)) hJ (.inr uS) AGo.ext;generalize N.set E1 (.cells #[.slice q m dd] 274 (0,0))=N19 at AGo ANT hu;refine hC.call ANT (qZ (u:=⟨E1,q,m,dd,X⟩) AGo (AUo hHl hik hk) hu AR ⟨x,X',hxX⟩ hO λN4 w4 e4 H4 h4 hp hO4 hn4=>⟨h4.ext,λZ4 J4=>⟨rfl,next H4 N4 Z4 w4 e4 ⟨λk=>?_,?_,?_,λv hv=>?_⟩ hn4 hO4 h4 J4⟩⟩)
   .rw[nB (hp.map _),AfF,kP,A.rs,eT,kP];rfl
   .have:=A.sz;unfold kN at this ⊢;rw[(hp.map _).sum_nat,eT,AfF,Ahu,AfF,Ahu];exact Nat.add_le_add_right this _
   .rw[hp.length_eq,Aet,AfD,AfE];omega
   .rcases Ae9.1 (hp.mem_iff.1 hv) with hv|hv
    .exact A.ok v hv
    .rw[Aev]at hv;subst hv;exact hS X (Ae2 hX)
  .have hX0:X=[]:=Ae6 (by omega);subst hX0;refine next H N Z22 w e ⟨λk=>?_,?_,?_,A.ok⟩ AR hO hM hJ
   .rw[A.rs,eT,kP];exact(MU _).symm
   .rw[eT,AfF,Ahu];have:=A.sz;omega
   .rw[AfE];omega
end
abbrev mL (l D b7:Nat)(w:Option Addr)(j e:Nat)(lo:Loop):List (Nat×Obj):=[(l,.loop lo),(D,.deferred (some [])),(b7,.cells #[.slice w j e] 44 (0,0))]
structure OM (C B:Hp)(w:Option Addr)(j e:Nat)(O:List Sr):Prop where
 own:∃cs,Own 2 B w j e cs/\Ch 2 CW C cs O
 ext:Ext C B
 nw:∀a,w=some a->C a.block=none
structure JmB (O2 N:Hp)(l D b7:Nat)(O:List Sr)(B C:Hp)(w:Option Addr)(e:Nat):Prop where
 off:∀b∈[l,D,b7],B b=none
 nb:Ext N B
 om:OM C B w O.length e O
 tc:Ext O2 C
 cn:∀k,C k≠none->O2 k≠none\/N k=none
 wn:∀a,w=some a->N a.block=none
def Jm (O2:Hp)(l D b7:Nat)(r0:Loop)(N:Hp)(O:List Sr)(Z22:Hp):Prop:=∃B C w e,Z22=CE B (mL l D b7 w O.length e (lp r0 .ready none))/\JmB O2 N l D b7 O B C w e
section
variable {Z22 Z'2 O2 N N' B C:Hp}{R:Rr}{l D b7 e:Nat}{r0:Loop}{O:List Sr}{w:Option Addr}
theorem Jm.ext (G:[l,D,b7].Nodup)(h:Jm O2 l D b7 r0 N O Z22):Ext N Z22:=by
 obtain⟨B,C,w,e,rfl,A⟩:=h;exact A.nb.trans (WS.ext (L:=mL l D b7 w O.length e (lp r0 .ready none)) G A.off)
theorem Jm.st (LZ:[l,D,b7].Nodup)(h:Jm O2 l D b7 r0 N O Z22)(hx:Ext N' Z'2)(hτ:Ext O2 N')(hk:∀k v,N k=none->Z22 k=some v->Z'2 k=some v/\N' k=none):Jm O2 l D b7 r0 N' O Z'2:=by
 obtain⟨B,C,w,e,rfl,hJ⟩:=h
 let L:=mL l D b7 w O.length e (lp r0 .ready none)
 have hL:(names L).Nodup:=LZ;have boxed:∀(i b:Nat) (o:Obj),L[i]?=some (b,o)->b∈[l,D,b7]->Z'2 b=some o/\N' b=none:=λi b o hi hb=>hk b o (AT hJ.nb (hJ.off b hb)) (Eb hL hi);have keep:∀k v,B k=some v->N k=none->Z'2 k=some v/\N' k=none:=λk v hb hn=>hk k v hn (WS.ext (L:=L) hL hJ.off k v hb)
 let B':Hp:=λk=>if k=l\/k=D\/k=b7 then none else Z'2 k
 have G:∀k,B k≠none\/N' k≠none->B' k=Z'2 k:=λk JO=>by
  have hn:¬(k=l\/k=D\/k=b7):=λA=>by
   have hm:k∈[l,D,b7]:=by simpa using A
   rcases JO with hb|hb
   .exact hb (hJ.off k hm)
   .rcases A with rfl|rfl|rfl
    .exact hb (boxed 0 _ _ rfl hm).2
    .exact hb (boxed 1 _ _ rfl hm).2
    .exact hb (boxed 2 _ _ rfl hm).2
  show(if k=l\/k=D\/k=b7 then none else Z'2 k)=Z'2 k
  rw[Aeu hn]
 have nH:∀k v,B k=some v->N k=none->B' k=some v/\N' k=none:=λk v hb hn=>by
  obtain⟨k1,k2⟩:=keep k v hb hn;exact⟨by rw[G k (.inl (by rw[hb];simp))];exact k1,k2⟩
 have hB':Z'2=CE B' L:=funext λk=>by
  show Z'2 k=(((B'.set b7 (.cells #[.slice w O.length e] 44 (0,0))).set D (.deferred (some []))).set l (.loop (lp r0 .ready none))) k
  by_cases h1:k=l
  .subst h1;rw[Hp.AA];exact(boxed 0 _ _ rfl (by simp)).1
  .rw[Hp.AB h1];by_cases h2:k=D
   .subst h2;rw[Hp.AA];exact(boxed 1 _ _ rfl (by simp)).1
   .rw[Hp.AB h2];by_cases h3:k=b7
    .subst h3;rw[Hp.AA];exact(boxed 2 _ _ rfl (by simp)).1
    .rw[Hp.AB h3];show Z'2 k=if k=l\/k=D\/k=b7 then none else Z'2 k
     rw[Aeu (by rintro(h|h|h);exact h1 h;exact h2 h;exact h3 h)]
 obtain⟨⟨cs,ho,hc⟩,nI,hnw⟩:=hJ.om;refine⟨B',C,w,e,hB',λb hb=>?_,λk v JO=>?_,⟨⟨cs,Own.here ho λa ha=>?_,hc⟩,λk v JO=>?_,hnw⟩,hJ.tc,λk JO=>?_,λa ha=>?_⟩
 .show(if b=l\/b=D\/b=b7 then none else Z'2 b)=none
  rw[Aex (by simpa using hb)]
 .rw[G k (.inr (by rw[JO];simp))];exact hx _ _ JO
 .cases A:B a.block with
  | none=>exact absurd A (ho.block a ha)
  | some v=>exact(nH _ _ A (hJ.wn a ha)).1
 .have hb:=nI _ _ JO;rcases hJ.cn k (by rw[JO];simp) with h1|h1
  .rw[G k (.inl (by rw[hb];simp))];cases A:O2 k with
   | none=>exact absurd A h1
   | some u=>
    have:=hJ.tc _ _ A;rw[JO]at this;rw[hx _ _ (hτ _ _ A),<-this]
  .exact(nH k v hb h1).1
 .rcases hJ.cn k JO with h1|h1
  .exact .inl h1
  .cases A:C k with
   | none=>exact absurd A JO
   | some v=>exact .inr (nH k v (nI _ _ A) h1).2
 .cases A:B a.block with
  | none=>exact absurd A (ho.block a ha)
  | some v=>exact(nH _ _ A (hJ.wn a ha)).2
theorem AGp:∀w,(Go.sizeOf 63).run prog w=.ok 2 w:=λw=>by kernel_rfl
theorem JmB.mono {A:Hp}(h:JmB O2 N l D b7 O B C w e)(G:Ext B A)(ho:∀b∈[l,D,b7],A b=none):JmB O2 N l D b7 O A C w e:=
 ⟨ho,h.nb.trans G,⟨let ⟨cs,h1,h2⟩:=h.om.own;⟨cs,h1.mono G,h2⟩,h.om.ext.trans G,h.om.nw⟩,h.tc,h.cn,h.wn⟩
theorem qa {s:Sr}{p q:Option Addr}{n c m d:Nat}(LZ:[l,D,b7].Nodup)(hJ:JmB O2 N l D b7 O B C w e)(hbd:BdO O)(hs:PsK s)(r1:I1 O2 p n s.ls)(r2:BB 2 Bp O2 q m s.ps)(Xf:m<=d):
  Dg.LK (λen Z'2=>en=.B true/\Jm O2 l D b7 r0 N (Vy O s) Z'2) l r0 b7 (.agg #[.slice p n c,.slice q m d]) (CE B (mL l D b7 w O.length e (lp r0 .ready none))):=by
 refine Dg.Mh λb8 h8=>?_;obtain⟨n8,hB8⟩:=Mo (L:=mL l D b7 w O.length e (lp r0 .ready none)) h8;have hn8:(b8::[l,D,b7]).Nodup:=Afe.2 ⟨n8,LZ⟩
 let o8:Obj:=.cells #[.slice p n c,.slice q m d] 63 (0,0)
 let Lo:Option Addr->Nat->Nat->Loop->List (Nat×Obj):=λw j e lo=>(b8,o8)::mL l D b7 w j e lo
 let L:List (Nat×Obj):=(b8,o8)::mL l D b7 w O.length e (lp r0 .busy none)
 have hL:(names L).Nodup:=hn8;have AGr:∀{B' w' j' e' lo},(∀b∈[l,D,b7],B' b=none)->B' b8=none->WS (Lo w' j' e' lo) B':=λho h9 x hx=>by
  rcases Ae5.1 hx with rfl|hx
  .exact h9
  .exact ho x hx
 have xB:∀{B' w' j' e' lo},WS (Lo w' j' e' lo) B'->(∀b∈[l,D,b7],B' b=none)/\B' b8=none:=λho=>⟨λx hx=>ho x (Aey _ hx),ho b8 (AfB ..)⟩;show AH prog (Instr.storeAt 63 (.pointer (some ⟨b8,0,none⟩)) (.agg #[.slice p n c,.slice q m d])) (CE B ((b8,.cells #[.N,.N] 63 (0,0))::mL l D b7 w O.length e (lp r0 .ready none))) _
 refine AH.jQ (L:=(b8,.cells #[.N,.N] 63 (0,0))::mL l D b7 w O.length e (lp r0 .ready none)) (i:=0) (c:=#[.N,.N]) (c':=#[.slice p n c,.slice q m d]) AGp hn8 rfl rfl rfl rfl rfl ?_;refine⟨Eb (L:=Lo w O.length e (lp r0 .ready none)) (i:=1) hn8 rfl,?_⟩;have eb:(CE B (((b8,Obj.cells #[.N,.N] 63 (0,0))::mL l D b7 w O.length e (lp r0 .ready none)).set 0 (b8,Obj.cells #[.slice p n c,.slice q m d] 63 (0,0)))).set l (.loop (lp r0 .busy none))=CE B L:=MA (L:=Lo w O.length e (lp r0 .ready none)) (i:=1) hn8 rfl;rw[eb];have fin:∀(B' C':Hp) (w':Option Addr) (e':Nat) (O':List Sr),O'=Vy O s->JmB O2 N l D b7 O' B' C' w' e'->B' b8=none->CE B' (Lo w' O'.length e' (lp r0 .busy none)) l=some (.loop (lp r0 .busy none))/\((Ending.B true:Ending)=.B true/\Jm O2 l D b7 r0 N (Vy O s) ((CE B' (Lo w' O'.length e' (lp r0 .busy none))).set l (.loop (lp r0 .ready none)))):=λB' C' w' e' O' hO hJ' h8'=>by
  subst hO;have e1:(CE B' (Lo w' (Vy O s).length e' (lp r0 .busy none))).set l (.loop (lp r0 .ready none))=CE (B'.set b8 o8) (mL l D b7 w' (Vy O s).length e' (lp r0 .ready none)):=by
   rw[MA (L:=Lo w' (Vy O s).length e' (lp r0 .busy none)) (i:=1) hn8 rfl];exact Pd (L:=mL l D b7 w' (Vy O s).length e' (lp r0 .ready none)) n8
  refine⟨Eb (L:=Lo w' (Vy O s).length e' (lp r0 .busy none)) (i:=1) hn8 rfl,rfl,?_⟩;rw[e1];exact⟨_,C',w',e',rfl,hJ'.mono (Ext.set h8') λb hb=>by rw[Hp.AB (show b≠b8 from λe=>n8 (e▸hb))];exact hJ'.off b hb⟩
 have es:CW C [.slice p n c,.slice q m d] s:=⟨p,n,c,q,m,d,rfl,r1.mono Eh.mono hJ.tc,r2.mono Bp.mono hJ.tc,Xf⟩;have app:Vy O s=O++[s]->∀(G:Hp),Ext B G->(∀b∈[l,D,b7],G b=none)->G b8=none->∃Jg:Option Addr,∃Iq:Nat,∃JS:Nat,Hp.ld (CE G L) ⟨b7,0,none⟩=some (.slice Jg Iq JS)/\∃NB:Option Addr,∃NC:Nat,∃ND:Nat,∃KU:Option Addr,∃KV:Nat,∃KW:Nat,Bm (CE G L) b8 0 [.slice NB NC ND,.slice KU KV KW]/\∀HK:Nat,(CE G L) HK=none->AH prog (Builtin.append_ #[44,44] 44 #[.slice Jg Iq JS,.slice (some ⟨HK,0,none⟩) 1 1]) (Hp.set (CE G L) HK (.cells #[.slice NB NC ND,.slice KU KV KW] 63 (0,0))) (λbB E0=>∃bC:Option Addr,∃bD:Nat,∃bE:Nat,bB=.slice bC bD bE/\AH prog (Instr.storeAt 44 (.pointer (some ⟨b7,0,none⟩)) (.slice bC bD bE)) E0 (λ_ Ha=>Ha l=some (.loop (lp r0 .busy none))/\((Ending.B true:Ending)=.B true/\Jm O2 l D b7 r0 N (Vy O s) (Hp.set Ha l (.loop (lp r0 .ready none)))))):=λhap G Ct QG h81=>by
  refine⟨w,O.length,e,ldL (L:=L) (i:=3) hL rfl rfl,p,n,c,q,m,d,Bm.of_cells (c:=[.slice p n c,.slice q m d]) (Eb (L:=L) (i:=0) hL rfl),λHK h57=>?_⟩;obtain⟨n57,AUq⟩:=Mo (L:=L) h57;rw[Pd n57];have xA:=hJ.mono Ct QG;obtain⟨⟨cs,ho,hc⟩,nI,hnw⟩:=xA.om;have Uo:=Ext.set (o:=.cells #[.slice p n c,.slice q m d] 63 (0,0)) AUq;refine AH.Ke hL (WS.set (AGr QG h81) n57) (CF (ho.mono Uo) (q:=aD HK 0) (ys:=[.slice p n c,.slice q m d]) ⟨rfl,by decide,.inr ⟨HK,0,rfl,Bm.of_cells (c:=[.slice p n c,.slice q m d]) (Hp.AA _ _ _)⟩⟩ (λu hu=>by
   simp only[Ae5,Afj,Agd]at hu;rcases hu with rfl|rfl<;>rfl) (by have:=hbd.2;omega) λp' c' B2 By BD nJ=>⟨p',O.length+1,c',rfl,?_⟩)
  obtain⟨AGs,h82⟩:=xB nJ;refine AH.jQ (L:=L) (i:=3) (c:=#[.slice w O.length e]) (c':=#[.slice p' (O.length+1) c']) nG hL rfl rfl rfl rfl rfl ?_;have K:∀k v,G k=some v->(∀a,w=some a->k≠a.block)->B2 k=some v/\∀a,p'=some a->k≠a.block:=λk v A AR=>by
   obtain⟨a1,a2⟩:=AF.1 (BD k v (AF.2 ⟨AR,Uo _ _ A⟩));exact⟨a2,a1⟩
  have KC:∀k v,C k=some v->B2 k=some v/\∀a,p'=some a->k≠a.block:=λk v A=>K k v (nI _ _ A) λa ha e=>by rw[e,hnw a ha]at A;cases A
  have KN:∀k v,N k=some v->B2 k=some v/\∀a,p'=some a->k≠a.block:=λk v A=>K k v (xA.nb _ _ A) λa ha e=>by rw[e,xA.wn a ha]at A;cases A
  have:=fin B2 C p' c' (O++[s]) hap.symm ⟨AGs,λk v A=>(KN k v A).1,⟨⟨_,by rw[Aet,AfD];exact By,hc.snoc rfl es⟩,λk v A=>(KC k v A).1,λa ha=>?_⟩,xA.tc,xA.cn,λa ha=>?_⟩ h82
  .rw[Aet,AfD]at this;exact this
  .cases hh:C a.block with
   | none=>rfl
   | some v=>exact absurd rfl ((KC _ _ hh).2 a ha)
  .cases hh:N a.block with
   | none=>rfl
   | some v=>exact absurd rfl ((KN _ _ hh).2 a ha)
 have du:Hp.ld (CE B L) ⟨b7,0,none⟩=some (.slice w O.length e):=ldL (L:=L) (i:=3) hL rfl rfl;refine⟨w,O.length,e,du,λGb=>?_,λhz=>?_⟩
 .obtain⟨O',u,hO⟩:∃O' u,O=O'++[u]:=by
   rcases Agq O with h|⟨O',u,h⟩
   .subst h;exact absurd Gb (by decide)
   .exact⟨O',u,by rw[h,Aij]⟩
  have hlen:O.length=O'.length+1:=by rw[hO];simp
  have LH:O[O'.length]?=some u:=by rw[hO,AfJ (Ae1 _),AgB];rfl
  have t1:Int.toNat ((O.length:Int)-1)=O'.length:=by omega
  obtain⟨⟨cs,ho,hc⟩,nI,hnw⟩:=hJ.om;have hxB:Ext B (CE B L):=WS.ext hL (AGr hJ.off hB8);have hr:BB 2 (λ_ vs x=>CW C vs x) B w O.length O:=⟨rfl,cs,ho.rd,hc.1,λi x hx=>hc.2 i x hx⟩;obtain⟨bw,ow,vs,hw,az,hl⟩:=BB.idx hr LH;obtain⟨p1,n1,c1,q1,m1,d1,rfl,s1,s2,s3⟩:=az;subst hw;have l0:∀{B':Hp},Ext B B'->Hp.ld B' ⟨bw,ow+Int.toNat ((O.length:Int)-1)*2,none⟩=some (.slice p1 n1 c1):=λhx=>by rw[t1];exact(hl.mono hx).1
  have l1:∀{B':Hp},Ext B B'->Hp.ld B' ⟨bw,(ow+Int.toNat ((O.length:Int)-1)*2)+1,none⟩=some (.slice q1 m1 d1):=λhx=>by rw[t1];exact(hl.mono hx).2.1
  have i64:AK ((O.length:Int)-1):=by have:=hbd.2;unfold AK;omega
  have yo:(0:Int)<=(O.length:Int)-1/\(O.length:Int)-1<(O.length:Int):=⟨by omega,by omega⟩;refine⟨_,O.length,e,du,i64,bw,ow,rfl,yo,p1,n1,c1,l0 hxB,p,n,c,ldL (L:=L) (i:=0) hL rfl rfl,?_⟩;refine Spec.Ke hL (AGr hJ.off hB8) (Jv (s1.mono Eh.mono nI) (r1.mono Eh.mono (hJ.tc.trans nI)) λG Ct nK=>⟨_,rfl,λh0=>?_,λAR=>?_⟩)
  .obtain⟨AGt,h81⟩:=xB nK;have hul:u.ls=s.ls:=(Ax.eq _ _).1 h0;have hap:Vy O s=O'++[⟨u.ls,Bq u.ps s.ps⟩]:=by rw[hO];exact fi hul
   have AUr:Ext G (CE G L):=WS.ext hL nK;have yF:Hp.ld (CE G L) ⟨b7,0,none⟩=some (.slice (some ⟨bw,ow,none⟩) O.length e):=ldL (L:=L) (i:=3) hL rfl rfl;have xA:=hJ.mono Ct AGt;have eA:u.ps.length=m1:=s2.1;have WJ:s.ps.length=m:=r2.1;have Ru:=hbd.1 u (Ae2 LH);have KL:=hs.2;refine⟨_,O.length,e,yF,i64,_,O.length,e,yF,i64,bw,ow,rfl,yo,q1,m1,d1,l1 (Ct.trans AUr),q,m,d,ldL (L:=L) (i:=0) hL rfl rfl,?_⟩;refine Spec.Ke hL nK (ah (s2.mono Bp.mono (nI.trans Ct)) (r2.mono Bp.mono (hJ.tc.trans (nI.trans Ct))) s3 Xf (by omega) (by omega) λp5 n5 c5 B2 oq nJ=>⟨p5,n5,c5,rfl,ASK (L:=L) (i:=3) hL rfl,bw,ow,rfl,yo,?_⟩);obtain⟨AGs,h82⟩:=xB nJ;have BD:=oq.up;have hJ2:=xA.mono BD AGs;obtain⟨⟨cs2,By,PM⟩,Acy,_⟩:=hJ2.om;have U8:n5<=c5:=by obtain⟨ds,WD,_⟩:=oq.1.2;exact Own.cap WD
   rw[t1,AgJ];refine AH.Ke hL nJ (Own.aG By (j:=O'.length*2+1) (by omega) aH rfl rfl λobj DG fm=>?_);obtain⟨ABC,h83⟩:=xB fm
   let C':=C.or (G.new B2)
   have hCC:Ext C C':=Ext.Uy _ _;have hNC:Ext (G.new B2) C':=Ext.NH λk A=>by
    cases hh:C k with
    | none=>rfl
    | some v=>
     cases h4:(G.new B2) k with
     | none=>exact absurd h4 A
     | some v'=>have:=Ct _ _ (nI _ _ hh);rw[(AW.1 h4).1]at this;cases this
   have hC2:Ext C' B2:=Ext.ALO (nI.trans (Ct.trans BD)) (Ext.Cp _ _);have hbw:G bw≠none:=λhh=>ho.block ⟨bw,ow,none⟩ rfl (AT Ct hh);have ANU:C' bw=none:=by
    show(C.or (G.new B2)) bw=none
    rw[Hp.NH (show C bw=none from hnw ⟨bw,ow,none⟩ rfl)];cases hh:(G.new B2) bw with
    | none=>rfl
    | some v=>exact absurd (AW.1 hh).1 hbw
   have e9:O'++[⟨u.ls,Bq u.ps s.ps⟩]=O.set O'.length ⟨u.ls,Bq u.ps s.ps⟩:=by rw[hO,List.set_append_right _ _ (Ae1 _),AgB];rfl
   have ADW:(O'++[(⟨u.ls,Bq u.ps s.ps⟩:Sr)]).length=O.length:=by rw[e9,Af2]
   have:=fin (B2.set bw obj) C' (some ⟨bw,ow,none⟩) e (O'++[⟨u.ls,Bq u.ps s.ps⟩]) hap.symm ⟨ABC,λk v A=>?_,⟨⟨_,by rw[ADW];exact DG,?_⟩,λk v A=>?_,λa ha=>by cases ha;exact ANU⟩,hJ.tc.trans hCC,λk A=>?_,hJ.wn⟩ h83
   .rw[ADW]at this;exact this
   .rw[Hp.AB (λe=>by rw[e,hJ.wn ⟨bw,ow,none⟩ rfl]at A;cases A)];exact hJ2.nb _ _ A
   .rw[e9];refine⟨by rw[Af2,Af2];exact PM.1,λi y hy=>?_⟩;rw[o0 (by decide)];by_cases hi:O'.length=i
    .subst hi;rw[Aex rfl];rw[Ahc (by omega)]at hy;cases hy;obtain⟨p9,n9,c9,q9,m9,d9,hv9,t4,t5,t6⟩:=PM.2 O'.length u LH;rw[hv9];exact⟨p9,n9,c9,p5,n5,c5,rfl,t4.mono Eh.mono hCC,(Aa.Qy (λ_ _ _ _ h=>h) oq).mono Bp.mono hNC,U8⟩
    .rw[Aeu hi];rw[List.getElem?_set_ne hi]at hy;exact CW.mono _ _ _ _ hCC (PM.2 i y hy)
   .rw[Hp.AB (λe=>by rw[e,ANU]at A;cases A)];exact hC2 _ _ A
   .by_cases hck:C k=none
    .right
     have A:C' k≠none:=A;have e1:C' k=(G.new B2) k:=Hp.NH hck;rw[e1]at A;cases hh:(G.new B2) k with
     | none=>exact absurd hh A
     | some v=>exact AT (xA.nb) (AW.1 hh).1
    .exact hJ.cn k hck
  .obtain⟨AGt,h81⟩:=xB nK;exact app (by rw[hO,Vy];rw[Ahp];simp only[List.getLast?_singleton,Option.some_or];rw[Aeu λe=>AR ((Ax.eq _ _).2 e)]) G Ct AGt h81
 .have hO:O=[]:=Ag0.1 (by omega);exact app (by rw[hO];rfl) B (.refl _) hJ.off hB8
end
theorem xC:∀{A:List (List Sr)} {k:List Lb} {ps:List Pt},YC A k=some ps->∃X∈A,∃s∈X,s.ls=k
 | [],k,ps,h=>by cases h
 | X::A,k,ps,h=>by
  rw[ES]at h;cases G:Ez X k with
  | some q=>exact⟨X,AfB ..,_,Ve G,rfl⟩
  | none=>
   rw[G]at h;obtain⟨Y,hY,s,hs⟩:=xC h;exact⟨Y,Aey _ hY,s,hs⟩
theorem xD {K:Nat}:∀{A:List (List Sr)} {k:List Lb} {ps:List Pt},(∀X∈A,∀s∈X,s.ps.length<=K)->YC A k=some ps->ps.length<=A.length*K
 | [],k,ps,_,h=>by cases h
 | X::A,k,ps,hX,h=>by
  have ih:=λq (hq:YC A k=some q)=>xD (λY hY=>hX Y (Aey _ hY)) hq;have h0:=λq (hq:Ez X k=some q)=>hX X (AfB ..) _ (Ve hq);rw[ES]at h;rw[Aez,AhE];cases G:Ez X k with
  | none=>rw[G]at h;have:=ih ps h;omega
  | some q=>
   rw[G]at h;have:=h0 q G;cases h2:YC A k with
   | none=>rw[h2]at h;cases h;dsimp only at this;omega
   | some r=>
    rw[h2]at h;cases h;have h3:=ih r h2;have h4:=Q2 q r;dsimp only at this;omega
theorem xE:∀(A:List (List Sr)) (Z:List Sr),(A.foldl IT Z).length<=Z.length+(A.map List.length).sum
 | [],Z=>Ae1 _
 | X::A,Z=>by
  have G:=xE A (IT Z X);have h2:=Q3 Z X;rw[AgT,AfN,AhJ];omega
section
variable {Z22:Hp}{R:Rr}
theorem fp {A:List (List Sr)}{pl:Option Addr}{kl cl:Nat}(hL:BB 1 Wi Z22 pl kl A)(hk:kl<=1000)(hB:∀X∈A,∀s∈X,PsK s)(hF:∀k ps,YC A k=some ps->ps.length<=200000000)(hl:(A.map List.length).sum<=2900000000000)
  (hE:(∃X∈A,MF none X=false)->∀Z'2,Ext Z22 Z'2->R (.T #[.N,.I 100]) Z'2)
  (h:(∀X∈A,MF none X=true)->∀p' n' c' Z'2,BB 2 CW Z'2 p' n' (wk A)->n'<=c'->Ext Z22 Z'2->R (.T #[.slice p' n' c',.I 0]) Z'2):Spec prog 54 #[.slice pl kl cl] Z22 R:=by
 have hlen:A.length=kl:=hL.1
 suffices H:∀(d i:Nat) (Z222:Hp),kl-i=d->i<=kl->Ext Z22 Z222->(∀X∈A.take i,MF none X=true)->Dg.HA R pl kl cl pl kl cl (kl:Int) (i:Int) Z222 from
  Dg.start (H kl 0 Z22 rfl (AfI _) (.refl _) λX hX=>by cases hX)
 intro d
 induction d with
 | succ d ih=>
  intro i Z222 hd hi X2 A4;obtain⟨X,hX⟩:=hL.ex (show i<kl by omega);obtain⟨lb,ob,q,m,dd,rfl,Dt,rX,kX⟩:=Wi.at hL hX;refine Dg.Bi ⟨λ_=>⟨lb,ob,rfl,⟨by omega,by omega⟩,q,m,dd,by rw[AfR,Afa];exact X2.ld Dt,dq (rX.mono CW.mono X2) λZ3 Ev=>⟨_,rfl,λAR=>?_,λh0=>?_⟩⟩,λhh=>by omega⟩
  .have hX0:MF none X=false:=by
    cases h1:MF none X with
    | false=>rfl
    | true=>rw[h1]at AR;exact absurd rfl AR
   rw[hX0];exact hE ⟨X,Ae2 hX,hX0⟩ Z3 (X2.trans Ev)
  .have hX0:MF none X=true:=by
    cases h1:MF none X with
    | true=>rfl
    | false=>rw[h1]at h0;exact absurd (by decide) h0
   have:=ih (i+1) Z3 (by omega) (by omega) (X2.trans Ev) λY hY=>by
    rw[AL hX]at hY;rcases Ae9.1 hY with hY|hY
    .exact A4 Y hY
    .rw[Aev]at hY;subst hY;exact hX0
   rw[show((i+1:Nat):Int)=(i:Int)+1 by omega]at this;exact⟨by unfold AK;omega,this⟩
 | zero=>
 intro i Z222 hd hi X2 A4;rw[Ae7 (by omega)]at A4;obtain rfl:i=kl:=by omega
 refine Dg.Bi ⟨λhh=>by omega,λ_ b7 h7=>?_⟩;have hS:∀X∈A,X.Pairwise NO/\∀s∈X,PsK s:=λX hX=>⟨(Xu (A4 X hX)).2,hB X hX⟩
 let L7:List (Nat×Obj):=[(b7,.cells #[.N] 44 (0,0))]
 have hn7:(names L7).Nodup:=by simp[L7,names]
 have ho7:WS L7 Z222:=λb hb=>by
  have hb:b∈[b7]:=hb;rw[Aev]at hb;subst hb;exact h7
 show Spec prog 116 #[.slice pl i cl] (CE Z222 L7) _
 refine Spec.Ke hn7 ho7 (SY.start λb1 Ru xF=>⟨_,_,_,rfl,_,_,rfl,BA.en,λD l r0 hDl hD lC hy=>?_⟩);have xF:WS L7 (Z222.set b1 (.cells #[.slice pl i cl] 115 (0,0))):=xF;have x1:=Ext.set (o:=.cells #[.slice pl i cl] 115 (0,0)) Ru;have g1:(Z222.set b1 (.cells #[.slice pl i cl] 115 (0,0))) b1=some (.cells #[.slice pl i cl] 115 (0,0)):=Hp.AA _ _ _;generalize hτ:Z222.set b1 (.cells #[.slice pl i cl] 115 (0,0))=O2 at *;have Xτ:=X2.trans x1;obtain⟨nD,hDB⟩:=Mo (L:=L7) hD;obtain⟨nl,hlB⟩:=Mo (L:=L7) lC;have e7:names L7=[b7]:=rfl;rw[e7,Aev]at nD nl;have LZ:[l,D,b7].Nodup:=by
  simp only[Afe,Ae5,Afj,Agd,AhZ,and_true,not_false_eq_true];exact⟨λhh=>hh.elim (λe=>hDl e.symm) nl,nD⟩
 have tu:∀b∈[l,D,b7],O2 b=none:=λb hb=>by
  simp only[Ae5,Afj,Agd]at hb;rcases hb with rfl|rfl|rfl
  .exact hlB
  .exact hDB
  .exact xF b (Aev.2 rfl)
 show Spec prog 190 #[.func (.yield l) #[] #[],.pointer (aD b1 0)] (CE O2 (mL l D b7 none 0 0 (lp r0 .ready none))) _
 refine kQ (O2:=O2) (J:=λN O Z22=>Jm O2 l D b7 r0 N O Z22) ⟨λN N' O Z22 Z'2 h1 h2 h3 h4=>h1.st LZ h2 h3 h4,λN O Z22 h1=>h1.ext LZ,λN O Z22 s p n c q m d hJ hbd hs _ r1 r2 Xf=>?_⟩ (AD g1 rfl) (hL.mono Wi.mono Xτ) hk hS hF hl
  ⟨O2,O2,none,0,rfl,⟨tu,.refl _,⟨⟨[],Own.nil,by simp[Ch]⟩,.refl _,λa ha=>(by cases ha)⟩,.refl _,λk hk=>.inl hk,λa ha=>(by cases ha)⟩⟩ λN Z9 hJ=>?_
 .obtain⟨B',C',G,e',rfl,hJ⟩:=hJ;exact hy _ _ p n c q m d (Eb (L:=mL l D b7 G O.length e' (lp r0 .ready none)) (i:=0) LZ rfl) (qa LZ hJ hbd hs r1 r2 Xf)
 .have hbd:(wk A).length<=2900000000000:=AfU (xE A []) (by rw[Afw];omega);obtain⟨m1,m2⟩:=wm A [] List.Pairwise.nil λX hX=>(hS X hX).1;have Dz:∀s∈wk A,s.ls.length<=1000000000/\s.ps.length<=1000000000:=λs hs=>by
   have h1:YC A s.ls=some s.ps:=(m2 s.ls).symm.trans (vd (ve m1) hs);obtain⟨X,hX,u,hu,e⟩:=xC h1;have:=hF _ _ h1;exact⟨by rw[<-e];exact(hB X hX u hu).1,by omega⟩
  obtain⟨B',C',G,e',rfl,hJ⟩:=hJ;generalize wk A=O at *;obtain⟨⟨cs,ho,hc⟩,nI,_⟩:=hJ.om;have hrO:BB 2 CW B' G O.length O:=⟨rfl,cs,ho.rd,hc.1,λi x hx=>CW.mono _ _ _ _ nI (hc.2 i x hx)⟩;have el:(CE B' (mL l D b7 G O.length e' (lp r0 .ready none))).set l (.loop (lp r0 .exhausted none))=CE B' (mL l D b7 G O.length e' (lp r0 .exhausted none)):=Hp.set_set;refine⟨_,.ready,none,rfl,Eb (L:=mL l D b7 G O.length e' (lp r0 .ready none)) (i:=0) LZ rfl,by decide,rfl,?_⟩;rw[el];refine⟨G,O.length,e',ldL (L:=mL l D b7 G O.length e' (lp r0 .exhausted none)) (i:=2) LZ rfl rfl,?_⟩;refine Spec.Ke (L:=mL l D b7 G O.length e' (lp r0 .exhausted none)) LZ hJ.off (jx hrO hbd Dz λp' c' B3 hr3 U8 Ev fm=>⟨p',O.length,c',rfl,Eb (L:=mL l D b7 G O.length e' (lp r0 .exhausted none)) (i:=1) LZ rfl,?_⟩);have fm:WS (mL l D b7 G O.length e' (lp r0 .exhausted none)) B3:=fm;rw[MA (L:=mL l D b7 G O.length e' (lp r0 .exhausted none)) (i:=1) LZ rfl];have x9:Ext B3 (CE B3 ((mL l D b7 G O.length e' (lp r0 .exhausted none)).set 1 (D,.deferred none))):=WS.ext (L:=(mL l D b7 G O.length e' (lp r0 .exhausted none)).set 1 (D,.deferred none)) LZ fm;exact h A4 p' O.length c' _ (hr3.mono CW.mono x9) U8 (Xτ.trans (hJ.tc.trans (nI.trans (Ev.trans x9))))
end
end TwW
end
section
namespace TwW
open Go Tw Go.MapKept Go.RowKit Go.Proofs.Tryz
section
variable {Z22 Z'2 N N0:Hp}{d b g:Nat}{hp:Option Nat}{S:Vu}{R:Rr}
theorem Bd.ok (h:Bd Z22 N d b g hp S):(∀s∈S.H,BE s.ls/\s.ps.length<=S.q/\s.ps≠[])/\(S.H.map (·.ls)).Nodup/\(hp=none->S.H=[]):=by
 obtain⟨ρ,T,h1,h2,h3,_⟩:=h;cases hp with
 | none=>have:=h3.1;rw[this];simp
 | some hb=>
  obtain⟨m3,m4,Z,A,ne,hZ⟩:=h3;rw[<-hZ];refine⟨λs hs=>?_,?_,λh=>by cases h⟩
  .obtain⟨z,G,rfl⟩:=AfC.1 hs;exact⟨(A.ok z G).1,(A.ok z G).2,ne z G⟩
  .rw[Afg];exact A.nd
theorem Bd.up (h:Bd Z22 N d b g hp S)(G:R (.returned (.bool S.D.up)) Z22):Spec prog 16 #[.pointer (aD d 0)] Z22 R:=by
 obtain⟨ρ,T,A,_⟩:=h;exact A.vq.upS G
theorem Bd.tb (h:Bd Z22 N d b g hp S)(A:Tb N):Tb Z22:=A.mono h.ext
theorem Aa.aside {α:Type}{P:Program}{s:Nat}{E:Hp->List Value->α->Prop}{p:Option Addr}{n c:Nat}{xs:List α}{f:FuncId}{args:Array Value}(hE:Lq E)(h:Aa s E N0 N p n c xs)
  (hm:Spec P f args (N.del p) λe N'=>Ext (N.del p) N'/\∀N2,Aa s E N0 N2 p n c xs->Ext N' (N2.del p)->R e N2):Spec P f args N R:=by
 have hM:∀x o,(N.minus (N.del p)) x=some o->(∃a,p=some a/\x=a.block)/\N x=some o:=λx o hx=>by
  obtain⟨a1,a2⟩:=Hp.Gu.1 hx;refine⟨?_,a2⟩;cases p with
  | none=>rw[show N.del none=N from rfl,a2]at a1;cases a1
  | some a=>
   refine⟨a,rfl,?_⟩;by_cases e:x=a.block
   .exact e
   .have:(N.del (some a)) x=some o:=AF.2 ⟨λu hu=>by cases hu;exact e,a2⟩;rw[this]at a1;cases a1
 refine Spec.Gv (Ext.B5 N p) (Ext.Qg N (N.del p)) (WU.minus _ _) (hm.mono λe N' ⟨hx,hR⟩ hd=>hR _ ?_ λx o E4=>?_)
 .obtain⟨⟨hl,cs,ho,hc⟩,LX⟩:=h;have hxd:Ext (N.del p) ((N'.or (N.minus (N.del p))).del p):=λx o aY=>AF.2 ⟨(AF.1 aY).1,Hp.Uy (hx _ _ aY)⟩;refine⟨⟨hl,cs,Own.here ho λa G=>?_,hc.mono hE hxd⟩,LX.trans hxd⟩;cases hb:N a.block with
  | none=>exact absurd hb (ho.block a G)
  | some u=>
   have A:(N.minus (N.del p)) a.block=some u:=Hp.Gu.2 ⟨by subst G;simp[Hp.del],hb⟩;rw[Hp.NH (hd _ (by rw[A];simp)),A]
 .refine AF.2 ⟨λa G e=>?_,Hp.Uy E4⟩;subst e;have hk:=h.1.block a G;cases hb:N a.block with
  | none=>exact hk hb
  | some u=>
   have A:(N.minus (N.del p)) a.block=some u:=Hp.Gu.2 ⟨by subst G;simp[Hp.del],hb⟩;rw[hd _ (by rw[A];simp)]at E4;cases E4
theorem Bd.NV {K:Option Addr->Hp->Prop}(h:Bd Z22 N d b g hp S)(G:K (hp.bind λx=>aD x 0) Z22):AH prog (Instr.lookup 75 (.map (some S.mh)) (.string tS) false) Z22 (CQ K):=by
 have hz:∀w,(zeroValue 105).run prog w=.ok (.pointer none) w:=λw=>by kernel_rfl
 obtain⟨ρ,T,h1,h2,_,_⟩:=h;have hh:=h2.KG.mono h1.ext;cases hp with
 | none=>exact MS.look (z:=.pointer none) hh hz (λ_=>⟨none,rfl,G⟩) λv x A _=>by cases A
 | some hb=>
  refine MS.look (z:=.pointer none) hh hz (λA9=>by simp[BQ]at A9) λv x A hv=>⟨aD hb 0,?_,G⟩;simp[BQ]at A;rw[A];exact hv
def ANV (D:Dk)(bl:Nat->List Sr)(us:List Nat):Prop:=∀u∈us,u<100000000/\I4 (bl u)/\∃f,D.files (BX tS u)=some f/\f.data=EL (bl u)
def HdL (hp:Option Nat)(H:List Sr)(lo hi:Int)(Hd:List (List Sr)):Prop:=(hp=none->Hd=[])/\(hp≠none->∃O,Hd=[O]/\O.Perm (CD lo hi H)/\O.Pairwise NO)
theorem YD (lo hi:Int)(l:List Sr):(CD lo hi l).length<=l.length:=by
 unfold CD;exact AfU (AgR _ _) (by rw[AfO];exact Ae1 _)
theorem fq {lo hi:Int}{l:List Sr}{s:Sr}(h:s∈CD lo hi l):∃y∈l,s.ls=y.ls/\s.ps=CZ lo hi y.ps:=by
 unfold CD at h;obtain⟨A,_⟩:=Agk.1 h;obtain⟨y,G,rfl⟩:=AfC.1 A;exact⟨y,G,rfl,rfl⟩
theorem qb {c1:Nat}{lo hi:Int}{us:List Nat}{bl:Nat->List Sr}{Hd:List (List Sr)}(CA:S.D.up=true)(ht:Tb N0)(NS:S.ids=fh us)(hus:us.length<=100)(TQ:ANV S.D bl us)(nL:Hd.length<=1)
  (K:∀Z'2 N' p n c,Bd Z'2 N' d b g hp S->Ext N0 N'->BB 1 Wi N' p n (Hd++us.map λu=>CD lo hi (bl u))->Spec prog 54 #[.slice p n c] Z'2 (BI R (λz y=>∃sb sd se AEr,z=(.tuple #[.slice sb sd se,.I AEr])/\R (.T #[.slice sb sd se,.I 0]) y))) :
  ∀(m i:Nat) (Z22 N:Hp) (Ge:Option Addr) (n12 c12:Nat),us.length-i=m->i<=us.length->Bd Z22 N d b g hp S->Aa 1 Wi N0 N Ge n12 c12 (Hd++(us.take i).map λu=>CD lo hi (bl u))->Ay.Rc R (aD g 0) tS none 0 c1 lo hi Ge n12 c12 S.loc.1 S.loc.2.1 S.loc.2.2 (S.loc.2.1:Int) (i:Int) Z22:=by
 intro m
 induction m with
 | zero=>
  intro i Z22 N Ge n12 c12 hm hle h A;have G:=h.kE.1;rw[NS]at G;unfold fh at G;rw[AfO]at G;rw[Ae7 (by omega)]at A;exact Ay.Iu ⟨λhh=>by omega,λ_=>K Z22 N Ge n12 c12 h A.up (A.rd Wi.mono)⟩
 | succ m ih=>
  intro i Z22 N Ge n12 c12 hm hle h A;have hr:=h.kE;have G:=hr.1;rw[NS]at G;unfold fh at G;rw[AfO]at G;obtain⟨u,hu⟩:∃u,us[i]?=some u:=⟨_,Ae3 (by omega)⟩;obtain⟨hu8,Wn,f,hf,qz⟩:=TQ u (Ae2 hu);obtain⟨sK,sL,ANW,AA3⟩:=Be.at hr (show S.ids[i]?=some (u:Int) by rw[NS];unfold fh;rw[AfZ,hu];rfl);have hg:=h.gb;have LX:=A.up;refine Ay.Iu ⟨λ_=>⟨sK,sL,ANW,by unfold In;omega,_,by simpa using AA3,g,0,rfl,aD d 0,AD hg rfl,J8 hu8 (by decide) ((ht.mono LX).mono h.ext) λZ12 x1=>⟨_,rfl,Kp.CV x1,?_⟩⟩,λhh=>by omega⟩;obtain⟨N1,h1,yR,_⟩:=h.grow x1;refine h1.read CA (RA hu8) hf λZ222 N2 p2 c2 h2 x2 r2 PM=>⟨p2,_,c2,0,rfl,λhh=>absurd rfl hh,λ_=>?_⟩;rw[qz]at r2 PM ⊢;have By:=A.mono Wi.mono (yR.trans x2);have AUt:(Hd++(us.take i).map λu=>CD lo hi (bl u)).length=n12:=A.1.1;rw[Aet,AfO,AfE]at AUt;have r2':Be .u8 (N2.del Ge) p2 (EL (bl u)).length (EL (bl u)):=r2.mono λx o aY=>by
   obtain⟨a1,a2⟩:=AW.1 aY;exact AF.2 ⟨λa ha e=>absurd (AT yR (e▸a1)) (A.1.block a ha),a2⟩
  refine h2.spec (Aa.aside Wi.mono By (ad (lo:=lo) (hi:=hi) Wn r2' (va _) PM λp3 n3 c3 N3 r3 hn3 hc3 x3=>⟨x3,λN4 Tn x4=>λZ3 h3=>⟨p3,n3,c3,0,rfl,λsZ h78=>?_⟩⟩));refine(h3.box (o:=.cells #[.slice p3 n3 c3] 44 (0,0)) h78).PJ ?_;have he:Wi (N4.del Ge) [.slice p3 n3 c3] (CD lo hi (bl u)):=⟨p3,n3,c3,rfl,r3.mono CW.mono x4,hc3⟩;refine Aa.G8 Wi.mono Tn rfl (λv hv=>by rw[Aev.1 hv];rfl) he (by omega) (λp' c' N' Cq _=>λZ'2 h'=>⟨p',n12+1,c',rfl,by unfold AK;omega,?_⟩) (AT h3.ext h78);have:=ih (i+1) Z'2 N' p' (n12+1) c' (by omega) (by omega) h' (by rw[AL hu,AfF,<-Aew];exact Cq);rw[show((i+1:Nat):Int)=(i:Int)+1 by omega,ANW]at this;exact this
end
end TwW
end
section
namespace TwW
open Go Tw Go.MapKept Go.RowKit Go.Proofs.Tryz
section
variable {Z22 Z'2 N N0:Hp}{d b g:Nat}{hp:Option Nat}{S:Vu}{R:Rr}
theorem Bd.select {c1:Nat}{lo hi:Int}{us:List Nat}{bl:Nat->List Sr}(h:Bd Z22 N d b g hp S)(CA:S.D.up=true)(ht:Tb N)(NS:S.ids=fh us)(hus:us.length<=100)(TQ:ANV S.D bl us)(hH:S.H.length<=100000000)(hq:(us.length+1)*(S.q+8191)<=200000000)(hq1:S.q<=90000000)
  (K:∀Z'2 N' Hd p n c,Bd Z'2 N' d b g hp S->Ext N N'->HdL hp S.H lo hi Hd->((∀X∈Hd++us.map (λu=>CD lo hi (bl u)),MF none X=true)->BB 2 CW N' p n (wk (Hd++us.map λu=>CD lo hi (bl u))))->((∃X∈Hd++us.map (λu=>CD lo hi (bl u)),MF none X=false)->n=0)->R (.T #[.slice p n c,.I 0]) Z'2) :
  Spec prog 14 #[.pointer (aD g 0),.string tS,.slice none 0 c1,.I lo,.I hi] Z22 R:=by
 have hg:=h.gb;have A4:=h.ok;refine Ay.start ⟨g,0,rfl,aD d 0,AD hg rfl,h.up ⟨S.D.up,rfl,λhf=>(by rw[CA]at hf;cases hf),λ_=>⟨some S.mh,AD hg rfl,h.NV ?_⟩⟩⟩;have fin:∀(Z12 N1:Hp) (Hd:List (List Sr)) (p:Option Addr) (n c:Nat),Bd Z12 N1 d b g hp S->Ext N N1->HdL hp S.H lo hi Hd->Aa 1 Wi N1 N1 p n c Hd\/Aa 1 Wi N N1 p n c Hd->Ay.IZ R (aD g 0) tS none 0 c1 lo hi p n c Z12:=λZ12 N1 Hd p n c h1 x1 nL ho=>by
  have fz:Hd.length<=1:=by
   by_cases e:hp=none
   .rw[nL.1 e];simp
   .obtain⟨O,e1,_⟩:=nL.2 e;rw[e1];simp
  have Cq:Aa 1 Wi N N1 p n c Hd:=ho.elim (λho=>ho.base x1) id;refine Ay.KZ ⟨g,0,rfl,some S.ml,AD h1.gb rfl,h1.ids (.refl _) ?_⟩;refine qb (N0:=N) (Hd:=Hd) CA ht NS hus TQ fz (λZ222 N2 p2 n2 c2 h2 x2 r2=>?_) us.length 0 Z12 N1 p n c rfl (AfI _) h1 (by rw[Af6];simpa using Cq);have hlen:(Hd++us.map λu=>CD lo hi (bl u)).length=n2:=r2.1;rw[Aet,AfO]at hlen;have G:∀X∈Hd++us.map (λu=>CD lo hi (bl u)),(∀s∈X,s.ls.length<=1000000000/\s.ps.length<=S.q+8191)/\X.length<=100000000:=λX A=>by
   rcases Ae9.1 A with A|A
   .by_cases e:hp=none
    .rw[nL.1 e]at A;cases A
    .obtain⟨O,e1,e2,_⟩:=nL.2 e;rw[e1,Aev]at A;subst A;refine⟨λs hs=>?_,?_⟩
     .obtain⟨y,hy,e3,e4⟩:=fq (e2.subset hs);have:=A4.1 y hy;have h9:=this.1.1;rw[e3,e4];refine⟨by omega,AfU (AgR _ _) (by omega)⟩
     .rw[e2.length_eq];exact AfU (YD _ _ _) hH
   .obtain⟨u,hu,rfl⟩:=AfC.1 A;obtain⟨_,Wn,_⟩:=TQ u hu;refine⟨λs hs=>?_,AfU (YD _ _ _) (by have:=Wn.n;omega)⟩;obtain⟨y,hy,e3,e4⟩:=fq hs;have h9:=(BE.of (Wn.ls y hy)).1;have h8:=(Wn.ps y hy).2.n;rw[e3,e4];exact⟨by omega,AfU (AgR _ _) (by omega)⟩
  refine h2.spec (fp r2 (by omega) (λX A s hs=>⟨((G X A).1 s hs).1,by have:=((G X A).1 s hs).2;omega⟩) (λk ps hk=>?_) ?_ (λhe N3 x3=>λZ3 h3=>⟨none,0,0,100,rfl,K Z3 N3 Hd none 0 0 h3 (x2.trans x3) nL (λhh=>?_) λ_=>rfl⟩) λAUu p3 n3 c3 N3 r3 _ x3=>λZ3 h3=>⟨p3,n3,c3,0,rfl,K Z3 N3 Hd p3 n3 c3 h3 (x2.trans x3) nL (λ_=>r3) λ⟨X,A,e⟩=>?_⟩)
  .have:=xD (K:=S.q+8191) (λX A s hs=>((G X A).1 s hs).2) hk;rw[Aet,AfO]at this;have h9:(Hd.length+us.length)*(S.q+8191)<=(us.length+1)*(S.q+8191):=AfK _ (by omega);omega
  .have sum:∀(Xs:List (List Sr)),(∀X∈Xs,X.length<=100000000)->(Xs.map List.length).sum<=Xs.length*100000000:=λXs=>by
    induction Xs with
    | nil=>intro _;simp
    | cons X Xs ih=>
     intro A;have h1:=A X (AfB ..);have h2:=ih λY hY=>A Y (Aey _ hY);rw[AfN,AhJ,Aez];omega
   have:=sum _ λX A=>(G X A).2;rw[Aet,AfO]at this;omega
  .obtain⟨X,A,e⟩:=he;rw[hh X A]at e;cases e
  .rw[AUu X A]at e;cases e
 cases hp with
 | none=>exact⟨λhh=>(by cases hh),λ_=>fin Z22 N [] none 0 0 h (.refl _) ⟨λ_=>rfl,λhh=>absurd rfl hh⟩ (.inr (Aa.nil (.refl _)))⟩
 | some hb=>
  refine⟨λ_=>h.sel (by omega) (by omega) λZ12 N1 O p n c h1 x1 hO hP hr hn hc=>⟨p,n,c,rfl,λgH h42=>?_⟩,λhh=>(by cases hh)⟩;refine(h1.box (o:=.cells #[.slice p n c] 44 (0,0)) h42).PJ ?_;have he:Wi (N1.del none) [.slice p n c] O:=⟨p,n,c,rfl,hr,hc⟩;refine Aa.G8 Wi.mono (Aa.nil x1) rfl (λv hv=>by rw[Aev.1 hv];rfl) he (by omega) (λp' c' N' Cq _=>λZ'2 h'=>⟨p',0+1,c',rfl,fin Z'2 N' [O] p' (0+1) c' h' Cq.up ⟨λhh=>(by cases hh),λ_=>⟨O,rfl,hO,hP⟩⟩ (.inr Cq)⟩) (AT h1.ext h42)
theorem Bd.locals (h:Bd Z22 N d b g hp S)(hn:S.ids.length<=1000000)(K:∀Z'2 N' p n c,Bd Z'2 N' d b g hp S->Ext N N'->Be .u64 N' p n S.ids->R (.returned (.slice p n c)) Z'2):Spec prog 36 #[.pointer (aD g 0),.string tS] Z22 R:=by
 have hr:=h.kE;have hl:=hr.1;obtain⟨h1,cs,h2,h3⟩:=hr;refine FD.start λb5 G=>⟨g,0,rfl,some S.ml,AD (Ext.set G _ _ h.gb) rfl,h.ids (Ext.set G) ?_⟩;refine CF (bs:=8) Own.empty (h2.mono (.set G)) (Ch.bn (λ_ vs x hv=>by rw[show vs=[Value.int .u64 x] from hv];intro u hu;rw[Aev.1 hu];rfl) h3 (by decide)) (by omega) λp' c' Z'2 ho hx=>⟨p',_,c',rfl,?_⟩;have hq:∀a:Addr,(some (⟨b5,0,none⟩:Addr))=some a->Z22 a.block=none:=λa ha=>by cases ha;exact G
 have LX:=Ek hq hx (.set G);have A:=Own.HL ho (EC hq hx (.set G));obtain⟨N',a1,a2,a3⟩:=h.grow LX;rw[AfW]at A ⊢;rw[AgG]at A;exact K Z'2 N' p' _ c' a1 a2 ⟨h1,cs,(Own.rd A).mono a3,h3.1,h3.2⟩
theorem Bd.block {u:Nat}{ss:List Sr}{f:Fl}(h:Bd Z22 N d b g hp S)(CA:S.D.up=true)(ht:Tb N)(hu:u<100000000)(hm:(u:Int)∈S.ids)(A:S.D.files (BX tS u)=some f)
  (K:∀Z'2 N' p c,Bd Z'2 N' d b g hp S->Ext N N'->Be .u8 N' p f.data.length f.data->R (.T #[.slice p f.data.length c,.I 0]) Z'2):Spec prog 33 #[.pointer (aD g 0),.string tS,.U (u:Int)] Z22 R:=by
 have G:=h.gb;refine Fi.start ⟨g,0,rfl,aD d 0,AD G rfl,h.up ⟨S.D.up,rfl,λA=>(by rw[CA]at A;cases A),λ_=>⟨some S.ml,AD G rfl,h.ids (.refl _) (JM h.kE ⟨_,rfl,λA=>(by rw[Afz hm]at A;cases A),λ_=>⟨aD d 0,AD G rfl,J8 hu (by decide) (h.tb ht) λZ12 x1=>⟨_,rfl,Kp.CV x1,?_⟩⟩⟩)⟩⟩⟩;obtain⟨N1,h1,yR,_⟩:=h.grow x1;exact h1.read CA (RA hu) A λZ222 N2 p c h2 x2 r2 _=>⟨p,_,c,0,rfl,λhh=>absurd rfl hh,λ_=>K Z222 N2 p c h2 (yR.trans x2) (r2.mono (Ext.Cp _ _))⟩
end
end TwW
end
section
namespace TwW
open Go Tw Go.MapKept Go.RowKit Go.Proofs.Tryz
section
variable {Z22 Z'2 N N0 O2:Hp}{d b g:Nat}{hp:Option Nat}{S:Vu}{R:Rr}
def V5 (S:Vu):List ByteArray:=(if S.H=[] then[] else[tS])++if S.ids=[] then[] else[tS]
theorem PE.loc {α:Type}{E:Value->α->Prop}{i m:Nat}{W:List (ByteArray×α)}(h:PE E Z22 i m W)(A:Z'2 i=Z22 i)(G:Z'2 m=Z22 m):PE E Z'2 i m W:=let ⟨l,M,c,a,b,e⟩:=h;⟨l,M,c,a.loc G,b.loc A,e⟩
theorem ABT {α:Type}{E:Value->α->Prop}{Z22 O2 O'2:Hp}{i m n c:Nat}{A:Obj}{p p':Option Addr}{L:List ByteArray}{W:List (ByteArray×α)}(hx:Ext Z22 O2)(pK:(O2.set i A) i=some A)(hi:O2 i=none)(ho:Rp (Z22.new O2) p n c L)(hd:Ext ((Z22.new (O2.set i A)).del p) ((Z22.new O'2).del p'))(E4:Ext Z22 O'2)(hm:Z22 m≠none)(h:PE E (O2.set i A) i m W):PE E O'2 i m W:=by
 have G:=AT hx hi;refine h.loc ?_ ?_
 .have:((Z22.new (O2.set i A)).del p) i=some A:=AF.2 ⟨λa ha e=>(by
   have hk:=Own.block ho a ha;cases hn:(Z22.new O2) a.block with
   | none=>exact hk hn
   | some u=>
    have h9:=(AW.1 hn).2;rw[<-e,hi]at h9;cases h9),AW.2 ⟨G,pK⟩⟩
  rw[pK,(AW.1 (AF.1 (hd _ _ this)).2).2]
 .cases hs:Z22 m with
  | none=>exact absurd hs hm
  | some u=>
   rw[E4 _ _ hs,Hp.AB (λe=>by rw[e,G]at hs;cases hs),hx _ _ hs]
theorem xG {p:Option Addr}{n c:Nat}{L:List ByteArray}(h:Bd Z22 N d b g hp S)(hx:Ext Z22 O2)(ho:Rp (Z22.new O2) p n c L)(hn:n<=1)
  (K:∀O'2 p' n' c',Ext Z22 O'2->Rp (Z22.new O'2) p' n' c' (L++if S.ids=[] then[] else[tS])->n'<=2->Spec prog 83 #[.slice p' n' c'] O'2 (BI R (λz AG=>z=(.tuple #[])/\Spec prog 97 #[.slice p' n' c'] AG (BI R (CS λYw n46 c46 AQ=>R (.returned (.slice Yw n46 c46)) AQ))))) :
  AH prog (Instr.range 76 (.map (some S.ml))) O2 (λz AG=>∃gJ,gJ=z/\AP.oN R p n c gJ AG):=by
 obtain⟨ρ,T,h1,h2,h3,_⟩:=h;have Rg:=h1.ext.trans hx;have hml:Z22 S.ml≠none:=by
  have:=h3.kn S.ml (by rw[h2.tl];simp);cases hs:ρ S.ml with
  | none=>exact absurd hs this
  | some o=>rw[h1.ext _ _ hs];simp
 have go:∀(M:List (ByteArray×Option Addr×Nat×Nat)),MS ELo O2 S.ml M->(M=[]/\S.ids=[])\/(M=[(tS,S.loc)]/\S.ids≠[])->AH prog (Instr.range 76 (.map (some S.ml))) O2 (λz AG=>∃gJ,gJ=z/\AP.oN R p n c gJ AG):=λM hM hc=>by
  refine MS.range hM λi o9 hi hit=>⟨_,rfl,?_⟩;have AGu:=AT hx hi;have xi:∀o,Ext Z22 (O2.set i o):=λo=>hx.trans (Ext.set hi);have oi:∀o,Rp (Z22.new (O2.set i o)) p n c L:=λo=>Own.mono (Ext.E7 (Ext.set hi)) ho;rcases hc with ⟨rfl,e⟩|⟨rfl,e⟩
  .refine AP.Yv (PE.next hit (λ_=>.inl ⟨rfl,K _ p n c (xi _) (by rw[Aex e,AfG];exact oi _) (by omega)⟩) λG x W2 v o A=>?_);cases G<;>cases A
  .refine AP.Yv (PE.next hit (λA=>by cases A) λG x W2 v o2 A hv Vk Ga=>.inr ?_);obtain⟨rfl,rfl,rfl⟩:G=[]/\x=(tS,S.loc)/\W2=[]:=by
    cases G with
    | nil=>cases A;exact⟨rfl,rfl,rfl⟩
    | cons y G=>
     have:=Ae4 List.length A;simp at this
   obtain rfl:v=.slice S.loc.1 S.loc.2.1 S.loc.2.2:=hv;have RJ:S.ml≠i:=λe=>by
    obtain⟨l,c,hm9,_⟩:=hM;have:=hm9.1;rw[e,hi]at this;cases this
   rw[Hp.set_set]at *;have qT:=Vk (O2.set i o2) (Hp.AA _ _ _) (by rw[Hp.AB RJ,Hp.AB RJ]);refine⟨_,_,_,_,rfl,Ga (O2.set i o2) (Hp.AA _ _ _) (by rw[Hp.AB RJ,Hp.AB RJ]) ⟨_,_,_,_,rfl,λb41 h41=>?_⟩⟩;refine Ma (T:=81) (ys:=[.string tS]) (m:=1) (xi o2) (oi o2) rfl (λu hu=>by rw[Aev.1 hu];rfl) (by omega) (λp' c' O'2 Cq E4 dj=>⟨p',n+1,c',rfl,?_⟩) h41;refine AP.Yv (PE.next (ABT hx (Hp.AA _ _ _) hi ho dj E4 hml qT) (λ_=>.inl ⟨rfl,K O'2 p' (n+1) c' E4 ?_ (by omega)⟩) λG x W2 v o A=>?_)
   .rw[Aeu e];have e9:(L++[tS]).map Value.string=L.map .string++[.string tS]:=by rw[AfF];rfl
    unfold Rp;rw[e9];exact Cq
   .cases G<;>cases A
 rcases h2.Vv with ⟨e,m⟩|⟨e,m⟩
 .exact go [] (m.mono Rg) (.inl ⟨rfl,e⟩)
 .exact go _ (m.mono Rg) (.inr ⟨rfl,e⟩)
theorem xH {p:Option Addr}{n c:Nat}(ho:Rp (Z22.new O2) p n c (V5 S))(hx:Ext Z22 O2)(hn:n<=2)
  (K:∀O'2 p' n' c',Ext Z22 O'2->BB 1 (λ_=>Wg) (Z22.new O'2) p' n' (if S.H=[]/\S.ids=[] then[] else[tS])->R (.returned (.slice p' n' c')) O'2):Spec prog 83 #[.slice p n c] O2 (BI R (λz AG=>z=(.tuple #[])/\Spec prog 97 #[.slice p n c] AG (BI R (CS λYw n46 c46 AQ=>R (.returned (.slice Yw n46 c46)) AQ)))):=by
 have hl:(V5 S).length=n:=by have:=ho.1;simpa using this
 have By:Own 1 O2 p n c (((V5 S).map (·.data.toList)).map VE):=by rw[Afg];exact Own.mono (Ext.Cp _ _) ho
 refine Km By (by rw[AfO];exact hl) (by omega) λO1 h1 x1=>⟨rfl,?_⟩;have hs:(Eu ((V5 S).map (·.data.toList))).map VE=(V5 S).map .string:=by
  have e:Eu ((V5 S).map (·.data.toList))=(V5 S).map (·.data.toList):=by
   refine List.mergeSort_of_pairwise ?_;have all:∀x∈(V5 S).map (·.data.toList),x=tS.data.toList:=λx hx=>by
    obtain⟨y,G,rfl⟩:=AfC.1 hx;unfold V5 at G;rcases Ae9.1 G with G|G<;>(split at G<;>simp at G;rw[G])
   refine List.pairwise_iff_forall_sublist.2 fun {a b} uN=>?_;rw[all a (uN.subset (by simp)),all b (uN.subset (by simp))];exact Afz (List.le_refl _)
  rw[e,Afg];rfl
 rw[hs]at h1;refine Nx h1 hl (by omega) λO22 m h2 hm hmn x2=>⟨p,m,c,rfl,?_⟩;have hp:=Own.Lr ho;have x01:=Ek hp x1 hx;have BD:=Ek hp x2 x01;have hdd:mC (V5 S)=if S.H=[]/\S.ids=[] then[] else[tS]:=by
  unfold V5;by_cases A:S.H=[]<;>by_cases e2:S.ids=[]
  .rw[Aex A,Aex e2,Aex ⟨A,e2⟩];rfl
  .rw[Aex A,Aeu e2,Aeu (λh=>e2 h.2)];kernel_rfl
  .rw[Aeu A,Aex e2,Aeu (λh=>A h.1)];kernel_rfl
  .rw[Aeu A,Aeu e2,Aeu (λh=>A h.1)];kernel_rfl
 rw[hdd]at h2 hm;have mS:=Own.HL h2 hp;refine K O22 p m c BD ⟨hm,_,Own.rd mS,by simp,λi x hi=>?_⟩;have e:((if S.H=[]/\S.ids=[] then[] else[tS]).map Value.string)[i]?=some (.string x):=by rw[AfZ,hi];rfl
 show(((if S.H=[]/\S.ids=[] then[] else[tS]).map Value.string).drop (i*1)).take 1=[.string x]
 rw[Afa,Agr (Ae0.1 e).1,AhH,Af6,(Ae0.1 e).2]
theorem Bd.ao (h:Bd Z22 N d b g hp S)(hH:S.H.length<=1000000000)(hq:S.q<=1000000000)
  (K:∀Z'2 N' p n c,Bd Z'2 N' d b g hp S->Ext N N'->Ext Z22 Z'2->BB 1 (λ_=>Wg) N' p n (if S.H=[]/\S.ids=[] then[] else[tS])->R (.returned (.slice p n c)) Z'2):Spec prog 38 #[.pointer (aD g 0)] Z22 R:=by
 have hg:=h.gb;have h0:=h;obtain⟨ρ,T,h1,h2,h3,_⟩:=h0;have fin:∀(O2:Hp) (p:Option Addr) (n c:Nat),Ext Z22 O2->Rp (Z22.new O2) p n c (if S.H=[] then[] else[tS])->n<=1->Pq (aD g 0) λF8 lR=>LM O2 F8 (lR+7) λm33=>AH prog (Instr.range 76 (.map m33)) O2 (λz AG=>∃gJ,gJ=z/\AP.oN R p n c gJ AG):=λO2 p n c hx ho hn=>⟨g,0,rfl,some S.ml,AD (hx _ _ hg) rfl,xG h hx ho hn λO'2 p' n' c' x' o' rG=>xH o' x' rG λO22 p2 n2 c2 x2 r2=>by
  obtain⟨N',a1,a2,a3⟩:=h.grow x2;exact K O22 N' p2 n2 c2 a1 a2 x2 (r2.mono (λ_ _ _ _ _ h=>h) a3)⟩
 refine AP.start ⟨g,0,rfl,some S.mh,AD hg rfl,?_⟩;have hmh:Z22 S.mh≠none:=by
  have:=h3.kn S.mh (by rw[h2.th];simp);cases hs:ρ S.mh with
  | none=>exact absurd hs this
  | some o=>rw[h1.ext _ _ hs];simp
 have Vw:=h2.KG.mono h1.ext;cases hp with
 | none=>
  have hH0:=h3.1;refine MS.range Vw λi o9 hi hit=>⟨_,rfl,?_⟩;refine AP.AY (PE.next hit (λ_=>.inl ⟨rfl,fin _ none 0 0 (Ext.set hi) (by rw[Aex hH0];exact Own.nil) (by omega)⟩) λW1 x W2 v o G=>?_);cases W1<;>cases G
 | some hb=>
  obtain⟨m3,m4,Z,h4,ne,hZ⟩:=h3;refine MS.range Vw λi o9 hi hit=>⟨_,rfl,?_⟩;refine AP.AY (PE.next hit (λG=>by cases G) λW1 x W2 v o2 G hv Vk Ga=>.inr ?_);obtain⟨rfl,rfl,rfl⟩:W1=[]/\x=(tS,hb)/\W2=[]:=by
   cases W1 with
   | nil=>cases G;exact⟨rfl,rfl,rfl⟩
   | cons y W1=>
    have:=Ae4 List.length G;simp at this
  obtain rfl:v=.pointer (some ⟨hb,0,none⟩):=hv;have RJ:S.mh≠i:=λe=>by rw[e]at hmh;exact hmh hi
  rw[Hp.set_set]at *;have qT:=Vk (Z22.set i o2) (Hp.AA _ _ _) (by rw[Hp.AB RJ,Hp.AB RJ]);have xi:Ext Z22 (Z22.set i o2):=Ext.set hi;have A:Z.length=S.H.length:=by rw[<-hZ,AfO]
  refine⟨_,aD hb 0,rfl,Ga (Z22.set i o2) (Hp.AA _ _ _) (by rw[Hp.AB RJ,Hp.AB RJ]) ⟨_,aD hb 0,rfl,fN (h4.ext (h1.ext.trans xi)) (by omega) (by omega) λnn Z3 x3=>⟨_,_,rfl,λGb=>λMm h28=>?_,λhz=>?_⟩⟩⟩
  .have Ev:=xi.trans x3;have AR:S.H≠[]:=λe=>by rw[e]at A;simp at A;rw[A]at Gb;simp at Gb
   refine Ma (T:=81) (ys:=[.string tS]) (cs:=[]) (m:=1) Ev (p:=none) (n:=0) (c:=0) Own.nil rfl (λu hu=>by rw[Aev.1 hu];rfl) (by omega) (λp' c' O'2 Cq E4 dj=>⟨p',0+1,c',rfl,?_⟩) h28;have AUx:PE yK O'2 i S.mh []:=by
    refine qT.loc ?_ ?_
    .have:(Z22.new Z3) i=some o2:=AW.2 ⟨hi,x3 _ _ (Hp.AA _ _ _)⟩;rw[Hp.AA,(AW.1 (AF.1 (dj _ _ this)).2).2]
    .cases hs:Z22 S.mh with
     | none=>exact absurd hs hmh
     | some u=>rw[E4 _ _ hs,xi _ _ hs]
   refine AP.AY (PE.next AUx (λ_=>.inl ⟨rfl,fin O'2 p' (0+1) c' E4 (by rw[Aeu AR];exact Cq) (by omega)⟩) λW1 x W2 v o G=>?_);cases W1<;>cases G
  .have hH0:S.H=[]:=Ae6 (by omega);refine AP.AY (PE.next (qT.mono x3) (λ_=>.inl ⟨rfl,fin Z3 none 0 0 (xi.trans x3) (by rw[Aex hH0];exact Own.nil) (by omega)⟩) λW1 x W2 v o G=>?_);cases W1<;>cases G
theorem Bd.empty (h:Bd Z22 N d b g hp S)(hH:S.H.length<=1000000000)(hq:S.q<=1000000000)(K:∀Z'2 N',Bd Z'2 N' d b g hp S->Ext N N'->R (.returned (.bool (decide (S.H=[]/\S.ids=[])))) Z'2):Spec prog 39 #[.pointer (aD g 0)] Z22 R:=by
 refine Fg.start (h.ao hH hq λZ'2 N' p n c h' x' _ r'=>⟨p,n,c,rfl,?_⟩);have A:=r'.1;have:=K Z'2 N' h' x';by_cases e:S.H=[]/\S.ids=[]
 .rw[Aex e]at A;rw[Afz e]at this;have G:0=n:=A;subst G;exact this
 .rw[Aeu e]at A;rw[Aga e]at this;have G:1=n:=A;subst G;exact this
end
end TwW
end
section
namespace TwW
open Go Tw Go.MapKept Go.RowKit Go.Proofs.Tryz
section
variable {Z22 Z'2 N:Hp}{d b g:Nat}{hp:Option Nat}{S:Vu}{R:Rr}{told:Bk}{safe:Nat}
theorem ft {D:Dk}{Sd:List Nat}{s:ByteArray}(hd:A1 Z22 d D Sd)(CA:D.up=true)(hn:Ab s=true)(A:D.files s=none)(hR:∀Z'2,Ext Z22 Z'2->R (.returned (.I 62)) Z'2):Spec prog 31 #[.pointer (some ⟨d,0,none⟩),.string s] Z22 R:=by
 refine Gq.start λb3 To b4 pF=>?_;have x1:=(Ext.set To (o:=.cells #[.pointer (some ⟨d,0,none⟩)] 36 (0,0))).trans (Ext.set pF (o:=.cells #[.string s] 9 (0,0)));have q3:((Z22.set b3 (.cells #[.pointer (some ⟨d,0,none⟩)] 36 (0,0))).set b4 (.cells #[.string s] 9 (0,0))) b3=some (.cells #[.pointer (some ⟨d,0,none⟩)] 36 (0,0)):=Ext.set pF _ _ (Hp.AA _ _ _);have q4:=Hp.AA (Z22.set b3 (.cells #[.pointer (some ⟨d,0,none⟩)] 36 (0,0))) b4 (.cells #[.string s] 9 (0,0));have WC:=hd.mono x1;have hd3:=WC;obtain⟨m,cl,rows,T,a,c,e,hdi⟩:=hd3;refine⟨_,AD q3 rfl,HQ.start ⟨d,0,rfl,D.up,AD hdi.obj rfl,λA=>(by rw[CA]at A;cases A),λ_=>⟨91,#[],_,rfl,Cg.en,?_⟩⟩⟩;refine Cg.start ⟨_,AD q3 rfl,s,AD q4 rfl,IP WC (λG=>by rw[hn]at G;cases G) (λ_ _=>⟨62,rfl,62,rfl,λ_=>⟨62,rfl,hR _ x1⟩,λG=>absurd (by decide) G⟩) λf _ h2=>by rw[A]at h2;cases h2⟩
theorem Lg.side {D D':Dk}{W:Wl}(A:Lg D W told safe)(CA:D'.up=true)(Vr:D'.armed=false)(hc:D.cnt<=D'.cnt)(hf:∀s,Am s (wS++CG)=true->D'.files s=D.files s)(hn:∀s,(D'.files s).isSome=true->(D.files s).isSome=true\/Am s (wS++CG)=false):Lg D' W told safe:=by
 obtain⟨rc,sg,A4,e⟩:=A.ok;refine⟨CA,Vr,A.dir,⟨rc,sg,A4.congr hc (λ_=>hf _ (by rw[<-A.dir];exact Ca)) (λx _=>hf _ (by rw[<-A.dir];exact Ca)) λs hs=>(hn s hs).imp id λhb=>?_,e⟩,(hf _ ?_).trans A.nw⟩
 .have z:∀kind,numOf W.dir kind s=0:=λkind=>by
   rcases Af4 (numOf W.dir kind s) with G|G
   .exact G
   .have:=Px G;rw[A.dir,hb]at this;cases this
  exact⟨z _,z _⟩
 .kernel_rfl
theorem Bd.lay {u:Nat}{p:Option Addr}{n c:Nat}{xs:List Int}(h:Bd Z22 N d b g hp S)(lg:Lg S.D S.W told safe)(hu:u<100000000)(A9:S.D.files (BX tS u)=none)(hx:Be .u8 N p n xs)(hn:n<=4194304)(hc:S.D.cnt<1048576)
  (K:∀Z'2 N' D',Bd Z'2 N' d b g hp { S with D:=D' }->Ext N N'->Lg D' S.W told safe->D'.files=A8 S.D.files (BX tS u) (some ⟨xs,xs.length⟩)->D'.cnt=S.D.cnt+1->R (.B true) Z'2):Spec prog 58 #[.pointer (aD d 0),.string (BX tS u),.slice p n c] Z22 R:=by
 have Ie:=RA hu;have hb0:=SA u;have hbw:=M6 hb0;have Y9:xs.length=n:=hx.1;have h0:=h;obtain⟨ρ,T,⟨Sd,_,_,_,_,hd,_⟩,_,_,_⟩:=h0;refine Qd.start (ft hd lg.up Ie A9 λZ12 x1=>⟨62,rfl,λ_=>⟨λhh=>absurd rfl hh,λ_=>?_⟩,λhh=>absurd (by decide) hh⟩);obtain⟨N1,h1,yR,_⟩:=h.grow x1;obtain⟨A,T1,l1,i1,d1,rfl⟩:=h1;have arm:∀{P:Prop},S.D.armed=true->P:=λG=>by rw[lg.arm]at G;cases G
 have e1:E6 S.D.files (BX tS u) xs=A8 S.D.files (BX tS u) (some ⟨xs,0⟩):=by unfold E6;rw[A9];rfl
 refine mq l1 lg.up Ie (.inl (by omega)) ((hx.mono yR).mono Ext.DF) (by rw[A9];simp;omega) ⟨λZ222 l2=>⟨0,rfl,λ_=>?_,λhh=>absurd rfl hh⟩,λG=>arm G⟩;rw[e1]at l2;refine vv (f:=⟨xs,0⟩) l2 rfl Ie Cb ⟨λZ3 l3=>⟨0,rfl,?_⟩,λG=>arm G⟩;have e2:A8 (A8 S.D.files (BX tS u) (some ⟨xs,0⟩)) (BX tS u) (some ⟨xs,xs.length⟩)=A8 S.D.files (BX tS u) (some ⟨xs,xs.length⟩):=by
  funext s
  unfold A8;split<;>rfl
 have l3':Ad Z3 d b ⟨A8 S.D.files (BX tS u) (some ⟨xs,xs.length⟩),true,S.D.armed,S.D.cnt+1⟩ S.W A:=by
  have:=l3;dsimp only at this;rw[e2]at this;exact this
 have AR:∀s,Am s (wS++CG)=true->s≠BX tS u:=λs hs e=>by rw[e,hbw]at hs;cases hs
 refine K Z3 (A.rest T1) ⟨A8 S.D.files (BX tS u) (some ⟨xs,xs.length⟩),true,S.D.armed,S.D.cnt+1⟩ ⟨A,T1,l3',i1.log,d1,rfl⟩ yR (lg.side rfl lg.arm (by dsimp only;omega) (λs hs=>Ap (AR s hs)) λs hs=>?_) rfl rfl;by_cases e:s=BX tS u
 .right;rw[e];exact hbw
 .left
  have bR:(A8 S.D.files (BX tS u) (some ⟨xs,xs.length⟩) s).isSome=true:=hs;rwa[Ap e]at bR
end
end TwW
end
section
namespace TwW
open Go Tw Go.MapKept Go.RowKit Go.Proofs.Tryz
section
variable {Z22 Z'2 N:Hp}{d b g hb:Nat}{hp:Option Nat}{S:Vu}{R:Rr}{told:Bk}{safe:Nat}
theorem kR (h:Bd Z22 N d b g (some hb) S)(hH:S.H=[])(NS:S.ids≠[])(hq:S.q<=1000000000)(K:∀Z'2 N' p c,Bd Z'2 N' d b g (some hb) S->Ext N N'->Kn N' p 0 []->R (.returned (.slice p 0 c)) Z'2):Spec prog 62 #[.pointer (aD g 0)] Z22 R:=by
 refine BJ.start (h.ao (by rw[hH];simp) hq λZ12 N1 p n c G x1 _ r1=>⟨p,n,c,rfl,?_⟩);rw[Aeu (λe=>NS e.2)]at r1;have hn:1=n:=r1.1;subst hn;obtain⟨bt,ot,rfl,Dt⟩:=Wg.at r1 (i:=0) (x:=tS) rfl;have Aq:=(Dt.mono G.ext).1;refine BJ.AY ⟨λ_=>⟨bt,ot,rfl,by unfold In;omega,tS,by simpa using Aq,g,0,rfl,some S.mh,AD G.gb rfl,G.NV ⟨λA=>(by cases A),λ_=>?_⟩⟩,λA=>by omega⟩;refine G.sel (by rw[hH];simp) (by omega) λZ222 N2 O p2 n2 c2 h2 x2 hO _ r2 _ _=>⟨p2,n2,c2,rfl,?_⟩;have e0:O=[]:=by
  rw[hH]at hO;exact hO.eq_nil
 subst e0;have mS:0=n2:=r2.1;subst mS;refine BJ.Ti ⟨λA=>absurd A (by decide),λ_=>h2.spec (Qz (t:=tS) (ss:=[]) BB.nil (λs hs=>by cases hs) (by decide) (by omega) λp3 n3 c3 N3 r3 x3=>λZ3 h3=>⟨p3,n3,c3,rfl,?_⟩)⟩;have hn3:0=n3:=r3.1;subst hn3;refine h3.PJ (CF (T:=72) (s:=1) (ys:=[]) (cs:=[]) Own.nil (q:=p3) ⟨rfl,by decide,.inl rfl⟩ (λv hv=>by cases hv) (by decide) λp4 c4 N4 Tn x4=>λZ4 h4=>⟨p4,0+0,c4,rfl,BJ.Yp ⟨by unfold AK;omega,BJ.AY ⟨λA=>by omega,λ_=>K Z4 N4 p4 c4 h4 (x1.trans (x2.trans (x3.trans ((x4:Ext (N3.del none) _).trans (Ext.B5 _ _))))) BB.nil⟩⟩⟩)
theorem Bd.AUy {s:Sr}{u:Nat}{now:Int}(h:Bd Z22 N d b g (some hb) S)(lg:Lg S.D S.W told safe)(ht:Tb N)(hH:S.H=[s])(NS:S.ids=[])(Wn:I4 [s])(hlen:(EL [s]).length<=4194304)(hu:u<100000000)(A9:S.D.files (BX tS u)=none)(hc:S.D.cnt<1000000)(hq:S.q<=1000000000)(AUz:-4611686018427387904<=now/\now<=4611686018427387904)(Aq:(KA s).1<now/7200*7200)(Fy:∀x∈s.ps,(KA s).1/7200*7200<=x.1/\x.1<=(KA s).1/7200*7200+7199)
  (K:∀Z'2 N' D' W' q' l,Bd Z'2 N' d b g (some hb) { S with D:=D',W:=W',H:=[],q:=q',ids:=[(u:Int)],loc:=l }->Ext N N'->Lg D' W' [] 0->D'.cnt<=S.D.cnt+2->q'=S.q->(∀x,Am x (wS++CG)=false->D'.files x=A8 S.D.files (BX tS u) (some ⟨EL [s],(EL [s]).length⟩) x)->R (.T #[.bool true,.I 0]) Z'2) :
  Spec prog 17 #[.pointer (aD g 0),.string tS,.I now,.U (u:Int)] Z22 R:=by
 have U6:=(Wn.ps s (Aev.2 rfl));have ht0:=U6.2.t _ (show KA s∈s.ps by
  unfold KA;cases e:s.ps with
  | nil=>exact absurd e U6.1
  | cons a l=>simp)
 have hg:=h.gb;have h0:=h;obtain⟨ρ,T,h1,_,⟨m3,m4,Z,h4,ne,hZ⟩,_⟩:=h0;have hZ1:Z≠[]:=λe=>by rw[e,hH]at hZ;cases hZ
 refine BS.start ⟨g,0,rfl,aD d 0,AD hg rfl,h.up ⟨S.D.up,rfl,λhf=>(by rw[lg.up]at hf;cases hf),λ_=>⟨some S.mh,AD hg rfl,h.NV ⟨λhh=>(by cases hh),λ_=>j0 (h4.ext h1.ext) ne (by omega) λlo hi Z12 x1 hlo=>⟨lo,hi,_,rfl,λhf=>?_,λ_=>VZ AUz ⟨_,rfl,λhle=>?_,λhgt=>?_⟩⟩⟩⟩⟩⟩
 .cases Z with
  | nil=>exact absurd rfl hZ1
  | cons _ _=>cases hf
 all_goals
  have elo:lo=(KA s).1:=by
   obtain⟨⟨z,hz,e⟩,_⟩:=hlo hZ1;have:z.1∈S.H:=by rw[<-hZ];exact AfC.2 ⟨z,hz,rfl⟩
   rw[hH,Aev]at this;rw[e,this]
  subst elo
 .omega
 refine VZ (by omega) ⟨_,rfl,?_⟩;obtain⟨N1,g1,yR,_⟩:=h.grow x1;have ANX:CD ((KA s).1/7200*7200) ((KA s).1/7200*7200+7200-1) S.H=[s]:=by
  rw[hH];have e:CZ ((KA s).1/7200*7200) ((KA s).1/7200*7200+7200-1) s.ps=s.ps:=AgM.2 λx hx=>Afz (by have:=Fy x hx;omega);unfold CD;simp only[AfN,AhF];rw[e,AgX (by simpa using U6.1),AgU]
 refine BS.Tm ⟨by unfold AK;omega,by unfold AK;omega,g1.sel (by rw[hH];simp) (by omega) λZ222 N2 O p2 n2 c2 g2 x2 hO _ r2 _ _=>⟨p2,n2,c2,rfl,?_⟩⟩;rw[ANX]at hO;obtain rfl:O=[s]:=List.perm_singleton.1 hO;refine g2.spec (MM r2 Wn λp3 c3 N3 r3 _ x3=>λZ3 g3=>⟨p3,_,c3,0,rfl,?_⟩);refine BS.zy ⟨g,0,rfl,aD d 0,AD g3.gb rfl,J8 hu (by decide) ((ht.mono (yR.trans (x2.trans x3))).mono g3.ext) λZ4 x4=>⟨_,rfl,Kp.CV x4,?_⟩⟩;obtain⟨N4,g4,xN4,_⟩:=g3.grow x4;refine g4.lay lg hu A9 (r3.mono xN4) hlen (by omega) λZ5 N5 A g5 x5 G f5 c5=>⟨true,rfl,λhf=>(by cases hf),λ_=>⟨some S.ml,AD g5.gb rfl,g5.ids (.refl _) (JM g5.kE ⟨_,rfl,λ_=>?_,λhf=>absurd (AfS hf) (by rw[show({ S with D:=A }:Vu).ids=[] from NS];simp)⟩)⟩⟩;refine⟨some S.ml,AD g5.gb rfl,some S.ml,AD g5.gb rfl,Bd.note (S:={ S with D:=A }) g5 (by show S.ids.length<=_;rw[NS];simp) λZ6 N6 l6 g6 x6=>?_⟩;have e6:S.ids++[(u:Int)]=[(u:Int)]:=by rw[NS];rfl
 rw[show({ S with D:=A }:Vu).ids++[(u:Int)]=[(u:Int)] from e6]at g6;have hl6:l6.2.1=1:=by
  have:=g6.kE.1;exact this.symm
 refine BS.QQ ⟨g,0,rfl,some S.ml,AD g6.gb rfl,g6.ids (.refl _) (Vx (by show l6.2.1<=1;omega) ⟨rfl,BS.z8 ⟨by unfold AK;omega,?_⟩⟩)⟩;obtain⟨ρ6,T6,l1,i1,⟨m3',m4',Z',w4,ne',hZ'⟩,rfl⟩:=g6;have hZl:Z'.length=1:=by
  have:=Ae4 List.length hZ';rw[AfO]at this;rw[this];show S.H.length=1
  rw[hH];rfl
 refine l1.spec (qP w4 ne' (by omega) (by show S.q<=_;omega) λp7 n7 c7 ρ7 Z7 hp7 w7 v7=>λZ72 l7=>⟨p7,n7,c7,rfl,?_⟩);have hZ7:Z7=[]:=by
  have e:Wh ((KA s).1/7200*7200+7200) Z'=[]:=by
   unfold Wh;refine List.filterMap_eq_nil_iff.2 λz hz=>Aex ?_;have:z.1∈S.H:=by
    rw[show S.H=Z'.map (·.1) from hZ'.symm];exact AfC.2 ⟨z,hz,rfl⟩
   rw[hH,Aev]at this;rw[this];have dw:∀l:List Pt,(∀x∈l,x.1<(KA s).1/7200*7200+7200)->KF ((KA s).1/7200*7200+7200) l=[]:=λl=>by
    induction l with
    | nil=>exact λ_=>rfl
    | cons x l ih=>
     intro hx;unfold KF;rw[List.dropWhile_cons,Aex (Afz (hx x (AfB ..)))];exact ih λy hy=>hx y (Aey _ hy)
   exact dw s.ps λx hx=>by have:=Fy x hx;omega
  rw[e]at hp7;exact hp7.eq_nil
 subst hZ7;have i7:wP ρ7 T6 d b g (some hb) { S with D:=A,H:=[],ids:=[(u:Int)],loc:=l6 }:=by
  have:=i1.mv v7.fix v7.tag;exact⟨this.box,this.tg,this.th,this.tl,this.KG,this.Vv,this.own,this.ts,this.nil⟩
 have g7:Bd Z72 (ρ7.rest T6) d b g (some hb) { S with D:=A,H:=[],ids:=[(u:Int)],loc:=l6 }:=⟨ρ7,T6,l7,i7,⟨m3',m4',[],w7,by simp,rfl⟩,rfl⟩;have xN:Ext N (ρ7.rest T6):=yR.trans (x2.trans (x3.trans (xN4.trans (x5.trans (x6.trans v7.rest)))));refine⟨g,0,rfl,aD b 0,AD g7.gb rfl,kR g7 rfl (by simp) hq λZ8 N8 p8 c8 g8 x8 r8=>⟨p8,0,c8,rfl,?_,?_⟩⟩
 .intro k hk o ho;rw[Aev]at hk;subst hk;rw[g7.gb]at ho;cases ho;exact g8.gb
 obtain⟨ρ8,T8,l8,i8,d8,rfl⟩:=g8;obtain⟨rc,sg,AU1,_⟩:=G.ok;refine qO (keep:=[]) l8 ((ht.mono (xN.trans x8)).mono Ext.DF) (r8.mono Ext.DF) (λr hr=>by cases hr) G.up (by show A.cnt<_;omega) (by show Co S.W.dir=true;rw[G.dir];exact my) AU1 (by show A.files (BO S.W.dir)=none;rw[G.dir];exact G.nw) (λhh=>absurd (λr hr=>by cases hr) hh) (λ_=>⟨by simp[AU],⟨λZ9 D9 W9 a1 a2 a3 a4 a5 a6 a7 a8 a9=>⟨0,rfl,λhh=>absurd rfl hh,λ_=>?_⟩,λha=>by rw[show A.armed=false from G.arm]at ha;cases ha⟩⟩) (.inl (by show A.cnt<_;omega));refine K Z9 (ρ8.rest T8) D9 W9 S.q l6 ⟨ρ8,T8,a1,i8.log,d8,rfl⟩ (xN.trans x8) ⟨a2,a3.trans G.arm,a5.trans G.dir,⟨[],[],a7,rfl⟩,by rw[<-G.dir];exact a9⟩ (by rw[a4];show A.cnt+1<=_;omega) rfl λx hx=>?_;rw[<-f5];exact a8.out x (by rw[show S.W.dir=wS from G.dir];exact hx)
end
end TwW
end
section
namespace TwW
open Go Tw Go.MapKept Go.RowKit Go.Proofs.Tryz
theorem AGv:∀z w,(zeroValue 23).run prog w=.ok z w->Ej z.cells.toList:=λz w h=>by
 rw[show(zeroValue 23).run prog w=_ from Go.Proofs.Tryz.zeroValue23 w]at h;cases h;intro u A;simp[Value.cells]at A;subst A;rfl
section
variable {Z22 Z'2 N ρ:Hp}{d b g:Nat}{hp:Option Nat}{S:Vu}{R:Rr}{told:Bk}{safe:Nat}
theorem qc {p:Option Addr}{n c b5:Nat}{u:Int}(ho:A2 .u64 ρ p n c [u])(hb:ρ b5=some (.cells #[.U u] 23 (0,0)))
  (h:∀ρ',Ext (ρ.del p) (ρ'.del p)->(∀a,p=some a->ρ' a.block≠none)->R (.returned (.slice p 0 c)) ρ'):Spec prog 98 #[.slice p n c,.func (.func 99) #[] #[.pointer (aD b5 0)]] ρ R:=by
 have hn:1=n:=by have:=ho.1;simpa using this
 subst hn;obtain⟨b,o,hp,Dt⟩:=Be.at (A2.rd ho) (show([u]:List Int)[0]?=some u from rfl);subst hp;refine C5.start (DN.start (DN.Bi ⟨λ_=>⟨b,o,rfl,by unfold In;omega,u,by simpa using Dt,99,#[],_,rfl,B0.en,B0.start ⟨u,AD hb rfl,_,rfl,λ_=>⟨0,rfl,λA=>absurd A (by decide),λ_=>⟨by unfold AK;omega,?_⟩⟩,λhf=>absurd rfl (Aff hf)⟩⟩,λA=>absurd (by decide) A⟩));refine C5.Mk ⟨λA=>absurd A (by decide),λ_=>⟨by omega,?_⟩⟩;obtain⟨hc,L,hC,_⟩:=Own.room ho;refine Wt (T:=88) (s:=1) (j:=0) (n:=1-0) (L:=L) hC (by omega) AGv λρ' zs _ G hx=>⟨by omega,h ρ' hx λa ha=>?_⟩;cases ha;rcases G.2 with ⟨e,_⟩|⟨b',o',arr,T,e,Ll,_⟩
 .cases e
 .cases e;rw[Ll];simp
theorem Bd.ANY {u:Nat}{f:Fl}(h:Bd Z22 N d b g hp S)(lg:Lg S.D S.W told safe)(ht:Tb N)(hu:u<100000000)(NS:S.ids=[(u:Int)])(hf:S.D.files (BX tS u)=some f)
  (K:∀Z'2 N' D' l,Bd Z'2 N' d b g hp { S with D:=D',ids:=[],loc:=l }->Ext N N'->R (.returned (.I 0)) Z'2):Spec prog 40 #[.pointer (aD g 0),.string tS,.U (u:Int)] Z22 R:=by
 refine Dl.start ?_;intro b5 h5;have h1:=h.box (o:=.cells #[.U (u:Int)] 23 (0,0)) h5;have xN:=Ext.set (AT h.ext h5) (o:=.cells #[.U (u:Int)] 23 (0,0));have gN:=Hp.AA N b5 (.cells #[.U (u:Int)] 23 (0,0));generalize Z22.set b5 (.cells #[.U (u:Int)] 23 (0,0))=Z12 at h1 ⊢;generalize N.set b5 (.cells #[.U (u:Int)] 23 (0,0))=N1 at h1 xN gN;have hm:(u:Int)∈S.ids:=by rw[NS];simp
 refine⟨g,0,rfl,aD d 0,AD h1.gb rfl,h1.up ⟨S.D.up,rfl,λhf=>(by rw[lg.up]at hf;cases hf),λ_=>⟨some S.ml,AD h1.gb rfl,(u:Int),AD (h1.ext _ _ gN) rfl,h1.ids (.refl _) ⟨Kp.CV (.refl _),JM h1.kE ⟨_,rfl,λhf=>(by rw[Afz hm]at hf;cases hf),λ_=>⟨aD d 0,AD h1.gb rfl,(u:Int),AD (h1.ext _ _ gN) rfl,J8 hu (by decide) (h1.tb (ht.mono xN)) λZ222 x2=>⟨_,rfl,Kp.CV x2,?_⟩⟩⟩⟩⟩⟩⟩;obtain⟨N2,h2,xN2,_⟩:=h1.grow x2;obtain⟨ρ,T,l2,A,d2,rfl⟩:=h2;refine Q7 l2 lg.up (RA hu) hf ⟨λZ3 l3=>⟨0,rfl,λhh=>absurd rfl hh,λ_=>?_⟩,λha=>by rw[lg.arm]at ha;cases ha⟩;have h3:Bd Z3 (ρ.rest T) d b g hp { S with D:=⟨A8 S.D.files (BX tS u) none,true,S.D.armed,S.D.cnt⟩ }:=⟨ρ,T,l3,A.log,d2,rfl⟩;refine⟨some S.ml,AD h3.gb rfl,h3.ids (.refl _) (l3.spec (qc (by rw[<-NS];exact A.own) (AZ.1 (xN2 _ _ gN)).2 λρ4 x4 hk4=>λZ4 l4=>⟨S.loc.1,0,S.loc.2.2,rfl,?_⟩))⟩;have R6:∀x o,ρ x=some o->(∀a,S.loc.1=some a->x≠a.block)->ρ4 x=some o:=λx o G hn=>(AF.1 (x4 x o (AF.2 ⟨hn,G⟩))).2;have same:∀x t,T x=some t->t≠.s->ρ4 x=ρ x:=λx t G hn=>by
  cases hs:ρ x with
  | none=>exact absurd hs (d2.kn x (by rw[G];simp))
  | some o=>exact R6 x o hs λa ha=>C9 G (A.ts a ha) hn
 have g4:ρ4 g=_:=(same _ _ A.tg (by simp)).trans A.box;have AR:S.ids≠[]:=by rw[NS];simp
 have m4:MS ELo ρ4 S.ml [(tS,S.loc)]:=by
  rcases A.Vv with ⟨e,_⟩|⟨_,m⟩
  .exact absurd e AR
  .exact m.loc (same _ _ A.tl (by simp))
 have hgl:g≠S.ml:=C9 A.tg A.tl (by simp);refine⟨some S.ml,AD (l4.ext _ _ g4) rfl,l4.PJ (MS.put (T:=76) (x:=(S.loc.1,0,S.loc.2.2)) m4 rfl λo ho=>λZ5 l5=>⟨λ_=>?_,λhh=>absurd rfl hh⟩)⟩;have e5:Jt [(tS,S.loc)] tS (S.loc.1,0,S.loc.2.2)=[(tS,(S.loc.1,0,S.loc.2.2))]:=by simp[Jt]
 rw[e5]at ho;refine⟨some S.ml,AD (l5.ext _ _ ((Hp.AB hgl).trans g4)) rfl,l5.PJ (MS.del (T:=76) rfl ho (λA9=>by simp[BQ]at A9) λL1 x L2 o2 hL By=>λZ6 l6=>Dl.Mh ?_)⟩;obtain⟨rfl,rfl⟩:L1=[]/\L2=[]:=by
  cases L1 with
  | nil=>cases hL;exact⟨rfl,rfl⟩
  | cons y L1=>
   have:=Ae4 List.length hL;simp at this
 rw[Hp.set_set]at By l6;have kp:∀x t,T x=some t->t≠.s->x≠S.ml->(ρ4.set S.ml o2) x=ρ x:=λx t G hn AR=>by rw[Hp.AB AR];exact same x t G hn
 refine K Z6 ((ρ4.set S.ml o2).rest T) ⟨A8 S.D.files (BX tS u) none,true,S.D.armed,S.D.cnt⟩ (none,0,0) ⟨_,T,l6,⟨(kp _ _ A.tg (by simp) hgl).trans A.box,A.tg,A.th,A.tl,A.KG.loc (kp _ _ A.th (by simp) (C9 A.th A.tl (by simp))),.inl ⟨rfl,By⟩,Own.nil,λa ha=>(by cases ha),λ_=>rfl⟩,d2.loc (λx t G hd=>kp x t G (λe=>by rw[e]at hd;cases hd) (C9 G A.tl (λe=>by rw[e]at hd;cases hd))) (λx G=>?_),rfl⟩ (xN.trans (xN2.trans λx o G=>?_))
 .by_cases e:x=S.ml
  .rw[e,Hp.AA];simp
  rw[Hp.AB e];cases hT:T x with
  | none=>exact absurd hT G
  | some t=>
   by_cases e2:∃a,S.loc.1=some a/\x=a.block
   .obtain⟨a,ha,rfl⟩:=e2;exact hk4 a ha
   .cases hs:ρ x with
    | none=>exact absurd hs (d2.kn x G)
    | some v=>rw[R6 x v hs λa ha e3=>e2 ⟨a,ha,e3⟩];simp
 .obtain⟨a1,a2⟩:=AZ.1 G;exact AZ.2 ⟨a1,by rw[Hp.AB (λe=>by rw[e,A.tl]at a1;cases a1)];exact R6 x o a2 λa ha e=>by rw[e,A.ts a ha]at a1;cases a1⟩
end
end TwW
end
section
namespace TwW
open Go Tw Go.MapKept Go.RowKit Go.Proofs.Tryz
section
variable {Z22 Z'2 N:Hp}{d b g:Nat}{D:Dk}{R:Rr}
theorem Ac.spec {P:Program}{f:FuncId}{args:Array Value}(h:Ac Z22 d D N)(hm:Spec P f args N λe N'=>∀Z'2,Ac Z'2 d D N'->R e Z'2):Spec P f args Z22 R:=by
 obtain⟨S,h1,h2⟩:=h;have G:∀x∈S,N x=none:=λx A=>by
  cases hr:N x with
  | none=>rfl
  | some o=>exact absurd A (Hp.AI.1 (h2 _ _ hr)).1
 refine Spec.Gv (h2.trans (Ext.FW _ _)) (.Qg Z22 N) (.minus _ _) (hm.mono λe N' hR hd=>hR _ ?_);have key:∀x∈S,N' x=none/\(N'.or (Z22.minus N)) x=Z22 x:=λx A=>by
  have e:(Z22.minus N) x=Z22 x:=by unfold Hp.minus;rw[G x A]
  have hn:=hd x (by rw[e];exact h1.known x A);exact⟨hn,by rw[Hp.NH hn,e]⟩
 refine⟨S,h1.loc λx A=>(key x A).2,λx o A=>Hp.AI.2 ⟨λhs=>?_,Hp.Uy A⟩⟩;rw[(key x hs).1]at A;cases A
theorem HI {e:Int}(h:∀Z'2 b o ct,Bm Z'2 b 0 [.I 0,.I 2,.slice o 1 ct]->Ext Z22 Z'2->Z22 b=none->Z'2 b=some (.cells #[.I 0,.I 2,.slice o 1 ct] 31 (0,0))->R (.returned (.agg #[.U e,.slice (aD b 0) 1 1])) Z'2):Spec prog 6 #[.U e] Z22 R:=
 QN.start λb2 b4 h4 G A=>by
  have x4:=Ext.set h4 (o:=.cells #[.int .u32 7] 70 (0,0));refine h _ G (aD b4 0) 1 ?_ (x4.trans (Ext.set A)) (AT x4 A) (Hp.AA _ _ _);exact Bm.of_cells (c:=[.I 0,.I 2,.slice (aD b4 0) 1 1]) (Hp.AA _ _ _)
theorem Wj {p q:Option Addr}{n c m e:Nat}{xs:List Int}(G:Be .i64 Z22 p n xs)(hy:Be .i64 Z22 q m xs)(hR:R (.B true) Z22):Spec prog 34 #[.slice p n c,.slice q m e] Z22 R:=by
 have l1:xs.length=n:=G.1;have l2:xs.length=m:=hy.1;have hb:=G.big;have:n=m:=l1.symm.trans l2;subst this
 suffices H:∀(k i:Nat),n-i=k->i<=n->FG.BM R p n c q n e (i:Int) Z22 from FG.start ⟨λA=>absurd rfl A,λ_=>H n 0 rfl (AfI _)⟩
 intro k
 induction k with
 | zero=>intro i hk hi;exact FG.Bg ⟨λA=>by omega,λ_=>hR⟩
 | succ k ih=>
  intro i hk hi;obtain⟨x,Rg⟩:=G.ex (show i<n by omega);obtain⟨b1,o1,rfl,h1⟩:=Be.at G Rg;obtain⟨b2,o2,rfl,h2⟩:=Be.at hy Rg;have:=ih (i+1) (by omega) (by omega);rw[show((i+1:Nat):Int)=(i:Int)+1 by omega]at this;exact FG.Bg ⟨λ_=>⟨b1,o1,rfl,by unfold In;omega,x,by simpa using h1,b2,o2,rfl,by unfold In;omega,x,by simpa using h2,λA=>absurd rfl A,λ_=>⟨by unfold AK;omega,this⟩⟩,λA=>by omega⟩
theorem aq {p q:Option Addr}{n c m e:Nat}{xs:List Int}(G:Be .u64 Z22 p n xs)(hy:Be .u64 Z22 q m xs)(hR:R (.B true) Z22):Spec prog 35 #[.slice p n c,.slice q m e] Z22 R:=by
 have l1:xs.length=n:=G.1;have l2:xs.length=m:=hy.1;have hb:=G.big;have:n=m:=l1.symm.trans l2;subst this
 suffices H:∀(k i:Nat),n-i=k->i<=n->F6.BM R p n c q n e (i:Int) Z22 from F6.start ⟨λA=>absurd rfl A,λ_=>H n 0 rfl (AfI _)⟩
 intro k
 induction k with
 | zero=>intro i hk hi;exact F6.Bg ⟨λA=>by omega,λ_=>hR⟩
 | succ k ih=>
  intro i hk hi;obtain⟨x,Rg⟩:=G.ex (show i<n by omega);obtain⟨b1,o1,rfl,h1⟩:=Be.at G Rg;obtain⟨b2,o2,rfl,h2⟩:=Be.at hy Rg;have:=ih (i+1) (by omega) (by omega);rw[show((i+1:Nat):Int)=(i:Int)+1 by omega]at this;exact F6.Bg ⟨λ_=>⟨b1,o1,rfl,by unfold In;omega,x,by simpa using h1,b2,o2,rfl,by unfold In;omega,x,by simpa using h2,λA=>absurd rfl A,λ_=>⟨by unfold AK;omega,this⟩⟩,λA=>by omega⟩
theorem fu {p q:Option Addr}{n c m e:Nat}{s:ByteArray}(hx:BB 1 (λ_=>Wg) Z22 p n [s])(hy:BB 1 (λ_=>Wg) Z22 q m [s])(hR:R (.B true) Z22):Spec prog 37 #[.slice p n c,.slice q m e] Z22 R:=by
 have l1:1=n:=hx.1;have l2:1=m:=hy.1;subst l1;subst l2;obtain⟨b1,o1,rfl,h1⟩:=Wg.at hx (i:=0) (x:=s) rfl;obtain⟨b2,o2,rfl,h2⟩:=Wg.at hy (i:=0) (x:=s) rfl;refine GD.start ⟨λA=>absurd rfl A,λ_=>GD.Bg ⟨λ_=>⟨b1,o1,rfl,by unfold In;omega,s,by simpa using h1.1,b2,o2,rfl,by unfold In;omega,s,by simpa using h2.1,λG=>?_,λ_=>⟨by unfold AK;omega,GD.Bg ⟨λA=>absurd A (by decide),λ_=>hR⟩⟩⟩,λA=>absurd (by decide) A⟩⟩;rw[GV]at G;cases G
theorem kS {q:Option Addr}{j c:Nat}{ls:List Lb}(ht:I1 Z22 q j ls)(hb:j<=1000000000)(h:∀p' c' Z'2,B6 2 Eh (Z22.new Z'2) p' j c' ls->Ext Z22 Z'2->R (.returned (.slice p' j c')) Z'2):Spec prog 50 #[.slice q j c] Z22 R:=
 LC.start λb A=>Gw ht hb (λp' c' Z'2 G hx=>⟨_,_,_,rfl,h p' c' Z'2 G hx⟩) A
theorem kT {p:Option Addr}{n c:Nat}{ss:List Hf}(hr:BB 3 Ef Z22 p n ss)(hn:n<=1000000000)(hl:∀s∈ss,s.ls.length<=1000000000)
  (hR:∀p' c' Z'2,BB 3 Ef Z'2 p' n ss->Ext Z22 Z'2->R (.returned (.slice p' n c')) Z'2):Spec prog 13 #[.slice p n c] Z22 R:=by
 have Lh:ss.length=n:=hr.1
 suffices H:∀(e i:Nat) (ρ:Hp) (p3:Option Addr) (c3:Nat),n-i=e->i<=n->Aa 3 Ef Z22 ρ p3 i c3 (ss.take i)->DM.EK R p n c p3 i c3 (i:Int) ρ from DM.start (H n 0 Z22 none 0 rfl (AfI _) (Aa.nil (.refl _)))
 intro e
 induction e with
 | zero=>
  intro i ρ p3 c3 he hi A;obtain rfl:i=n:=by omega
  rw[Ae7 (by omega)]at A;exact DM.DB ⟨λhh=>by omega,λ_=>hR p3 c3 ρ (A.rd Ef.mono) A.up⟩
 | succ e ih=>
  intro i ρ p3 c3 he hi A;obtain⟨s,hs⟩:=hr.ex (show i<n by omega);obtain⟨b,o,vs,rfl,⟨q,m,dd,rfl,I2⟩,Dt⟩:=BB.idx hr hs;have CA:=A.up;have h3:=Dt.mono CA;have hm:s.ls.length=m:=I2.1;have qt:=hl s (Ae2 hs);refine DM.DB ⟨λ_=>⟨b,o,rfl,by unfold In;omega,q,m,dd,by simpa using h3.1,by unfold In;omega,s.t,by simpa using h3.2.1,by unfold In;omega,s.v,by simpa[AgJ] using h3.2.2.1,kS (I2.mono Eh.mono CA) (by omega) λp' c' ρ1 QG x1=>⟨p',m,c',rfl,Kp.CV x1,λiz G=>?_⟩⟩,λhh=>by omega⟩;have By:=A.mono Ef.mono x1;have he:Ef (ρ1.del p3) [.slice p' m c',.I s.t,.U s.v] s:=⟨p',m,c',rfl,(QG.rd Eh.mono).mono Eh.mono (A.new x1)⟩;refine Aa.G8 Ef.mono By rfl (λu hu=>by simp only[Ae5,Afj,Agd]at hu;rcases hu with rfl|rfl|rfl<;>rfl) he (by omega) (λp4 c4 ρ2 Tn _=>⟨p4,i+1,c4,rfl,by unfold AK;omega,?_⟩) G;have:=ih (i+1) ρ2 p4 c4 (by omega) (by omega) (by rw[AL hs];exact Tn);rw[show((i+1:Nat):Int)=(i:Int)+1 by omega]at this;exact this
end
end TwW
end
section
namespace TwW
open Go Tw Go.MapKept Go.RowKit Go.Proofs.Tryz
def aS:ByteArray:=ByteArray.mk #[97]
def xS:ByteArray:=ByteArray.mk #[120]
def RC:Hf:=⟨[(aS,xS)],5,1⟩
def Wk:Sr:=⟨[(aS,xS)],[(5,1)]⟩
theorem AU2:Pe [(aS,xS)]=0:=by kernel_rfl
theorem ABU:I4 [Wk] where
 ne:=by simp
 n:=by decide
 ls:=λs hs=>by rw[Aev.1 hs];exact AU2
 ps:=λs hs=>by
  rw[Aev.1 hs];refine⟨by simp[Wk],⟨λx hx=>?_,λx hx=>?_,λi x y hi hj=>?_,by decide⟩⟩
  .rw[Aev.1 (show x∈[((5:Int),(1:Int))] from hx)];decide
  .rw[Aev.1 (show x∈[((5:Int),(1:Int))] from hx)];decide
  .have:([((5:Int),(1:Int))])[i+1]?=some y:=hj;simp at this
 up:=λi a b ha hb=>by simp at hb
theorem ANZ:(EL [Wk]).length<=4194304/\0<(EL [Wk]).length:=by
 have h:=ABU.sm.c;have A:=VV [Wk];rw[AfD]at h;omega
theorem ADX:C8 (FK 9) [] [RC]=([(Bf [(aS,xS)],(5,1))],1,[1]):=by kernel_rfl
theorem AU3:R1 (FK 9) [] RC=[Wk]:=by kernel_rfl
theorem okA:MF none (CD 0 9 [Wk])=true:=by kernel_rfl
theorem mgA:(wk [CD 0 9 [Wk]]).length=1:=by kernel_rfl
section
variable {Z22 Z'2 N:Hp}{d b g:Nat}{D:Dk}{S:List Nat}{R:Rr}
theorem ABV (hd:A1 Z22 d D S)(h:∀Z'2,A1 Z'2 d { D with up:=true } S->Ext (Z22.off S) (Z'2.off S)->R (.T #[]) Z'2):Spec prog 19 #[.pointer (some ⟨d,0,none⟩)] Z22 R:=by
 obtain⟨m,cl,rows,T,a,b,e,hd⟩:=hd;refine QV.start ⟨d,0,rfl,?_⟩;exact hd.st (i:=0+1) (up:=true) (armed:=D.armed) uY rfl (by omega) (by simp[Value.cells,Value.oneCell']) rfl λA h1 G _=>h A ⟨_,_,_,_,_,_,_,h1⟩ G
theorem xI {x:Int}(hd:A1 Z22 d D S)(h0:D.up=false->R (.T #[]) Z22)
  (h1:D.up=true->∀Z'2 S' gs,Gg D.files gs->(x=0->jd D.files gs)->A1 Z'2 d ⟨gs,false,false,D.cnt⟩ S'->Ext (Z22.off S) (Z'2.off S')->R (.T #[]) Z'2):Spec prog 18 #[.pointer (some ⟨d,0,none⟩),.I x] Z22 R:=by
 have G:=hd;obtain⟨m,cl,rows,T,a,b,e,A⟩:=G;exact Nr.start ⟨d,0,rfl,_,AD A.obj rfl,λht=>eJ hd λZ'2 S' gs hg hz hD hE=>⟨rfl,h1 ht Z'2 S' gs hg hz hD hE⟩,h0⟩
theorem Ac.onS (h:Ac Z22 d D N)(G:∀Z'2,Ac Z'2 d { D with up:=true } N->R (.T #[]) Z'2):Spec prog 19 #[.pointer (some ⟨d,0,none⟩)] Z22 R:=let ⟨S,g,x⟩:=h;ABV g λZ'2 A x'=>G Z'2 ⟨S,A,x.trans x'⟩
theorem Ac.AU4 {x:Int}(h:Ac Z22 d D N)(G:D.up=true)(h1:∀Z'2 gs,Gg D.files gs->Ac Z'2 d ⟨gs,false,false,D.cnt⟩ N->R (.T #[]) Z'2):Spec prog 18 #[.pointer (some ⟨d,0,none⟩),.I x] Z22 R:=let ⟨S,g,e⟩:=h;xI g (λA=>by rw[G]at A;cases A) λ_ Z'2 S' gs hg _ g' x'=>h1 Z'2 gs hg ⟨S',g',e.trans x'⟩
end
end TwW
end
section
namespace TwW
open Go Tw Go.MapKept Go.RowKit Go.Proofs.Tryz
section
variable {Z22 Z'2 N:Hp}{d b g:Nat}{D:Dk}{R:Rr}
theorem xJ {fs:Fs}(h:∀s,fs s=none):X3 fs wS 0 [] true:=Kq.AM9 λs A=>by rw[h s]at A;cases A
theorem kU (ht:Tb Z22)(hgm:Gm Z22)(hR:∀Z'2,Ext Z22 Z'2->R (.B true) Z'2):Spec prog 10 #[] Z22 R:=by
 refine Se.start (Ny λd Z12 S1 bU Ct=>⟨aD d 0,rfl,?_⟩);have hD1:Ac Z12 d ⟨λ_=>none,true,false,0⟩ Z22:=⟨S1,bU,Ct⟩;clear bU Ct;refine hD1.spec (HI λN2 br _ ct hm xN2 _ _=>λZ222 hD2=>⟨2,aD br 0,1,1,rfl,?_⟩);refine Py (us:=[]) hD2 (ht.mono xN2) (hgm.mono xN2) rfl rfl (by show 0<_;decide) (xJ λ_=>rfl) hm (by decide) (by decide) (by simp) (λu hu=>by cases hu) (λs _=>by simp) λZ3 N3 bl g D3 W3 l mh ml h3 x3 lg3 o3 s3 c3=>⟨aD g 0,0,rfl,λA=>absurd rfl A,λ_=>⟨λhf=>(by cases hf),λ_=>?_⟩⟩;intro G h33 QZ yJ;have h4:=(h3.box (o:=.cells #[.string aS,.string xS] 95 (0,0)) h33).box (o:=.cells #[(.slice (aD G 0) 1 1),.I 5,.U 1] 53 (0,0)) yJ;have y33:=AT h3.ext h33;have AR:QZ≠G:=λe=>by rw[e,Hp.AA]at yJ;cases yJ
 have y35:(N3.set G (.cells #[.string aS,.string xS] 95 (0,0))) QZ=none:=by
  rw[Hp.AB AR]at yJ ⊢;exact AT h3.ext yJ
 have x4:Ext N3 ((N3.set G (.cells #[.string aS,.string xS] 95 (0,0))).set QZ (.cells #[(.slice (aD G 0) 1 1),.I 5,.U 1] 53 (0,0))):=(Ext.set y33).trans (Ext.set y35);have hl:I1 ((N3.set G (.cells #[.string aS,.string xS] 95 (0,0))).set QZ (.cells #[(.slice (aD G 0) 1 1),.I 5,.U 1] 53 (0,0))) (aD G 0) 1 [(aS,xS)]:=
  ⟨rfl,[.string aS,.string xS],⟨rfl,by decide,.inr ⟨G,0,rfl,Bm.of_cells (c:=[.string aS,.string xS]) ((Hp.AB (AfT AR)).trans (Hp.AA _ _ _))⟩⟩,rfl,λi x hi=>by
   cases i with
   | zero=>simp at hi;subst hi;rfl
   | succ i=>simp at hi⟩
 have hs:BB 3 Ef ((N3.set G (.cells #[.string aS,.string xS] 95 (0,0))).set QZ (.cells #[(.slice (aD G 0) 1 1),.I 5,.U 1] 53 (0,0))) (aD QZ 0) 1 [RC]:=
  ⟨rfl,[.slice (aD G 0) 1 1,.I 5,.U 1],⟨rfl,by decide,.inr ⟨QZ,0,rfl,Bm.of_cells (c:=[.slice (aD G 0) 1 1,.I 5,.U 1]) (Hp.AA _ _ _)⟩⟩,rfl,λi x hi=>by
   cases i with
   | zero=>simp at hi;subst hi;exact⟨aD G 0,1,1,rfl,hl⟩
   | succ i=>simp at hi⟩
 show Spec prog 12 #[.pointer (aD g 0),.string tS,.slice (aD QZ 0) 1 1,.U 2] ((Z3.set G (.cells #[.string aS,.string xS] 95 (0,0))).set QZ (.cells #[(.slice (aD G 0) 1 1),.I 5,.U 1] 53 (0,0))) _
 generalize (Z3.set G (.cells #[.string aS,.string xS] 95 (0,0))).set QZ (.cells #[(.slice (aD G 0) 1 1),.I 5,.U 1] 53 (0,0))=Z4 at h4 ⊢;generalize (N3.set G (.cells #[.string aS,.string xS] 95 (0,0))).set QZ (.cells #[(.slice (aD G 0) 1 1),.I 5,.U 1] 53 (0,0))=N4 at h4 x4 hl hs;have x04:Ext Z22 N4:=xN2.trans (x3.trans x4);have EW:∀s∈[RC],(Gc s.ls).length<=35184372088832:=λs hs=>by rw[Aev.1 hs];exact Afh (by kernel_rfl)
 have hv:∀s∈[RC],0<=s.v/\s.v<18446744073709551616:=λs hs=>by rw[Aev.1 hs];decide
 have c3':D3.cnt<=1:=c3;refine h4.push (ss:=[RC]) (e:=2) lg3 (ht.mono x04) hs EW hv (by dsimp only;omega) (by simp) (by dsimp only;omega) (λA=>absurd A (by (dsimp only;decide))) (λ_ hf=>absurd hf (by (dsimp only;decide))) λ_ _ Z5 N5 hp5 D5 W5 q5 AYS pf nf cf h5 x5 nM _ _ c5 o5 hq5 hp hf5=>⟨pf,nf,cf,0,rfl,?_⟩;have eg:DX ⟨D3,W3,9,2,decide ((2:Int)=2),[],0,fh [],l,mh,ml⟩ [RC]=[RC]:=by
  show HW (C8 (FK 9) [] [RC]).2.2 [RC]=_
  rw[ADX];rfl
 rw[eg]at h5 nM hp;rw[show(C8 (FK (9:Int)) [] [RC]).2.2=[1] from by rw[ADX]]at hf5;have eH:([RC].foldl (R1 (FK 9)) []:List Sr)=[Wk]:=AU3;obtain⟨hb,rfl⟩:∃hb,hp5=some hb:=by
  cases hp5 with
  | none=>exact absurd rfl (hp (by simp))
  | some hb=>exact⟨hb,rfl⟩
 dsimp only at h5 c5 o5 hq5;rw[eH]at h5;refine h5.push (ss:=[RC]) (e:=1) nM (ht.mono (x04.trans x5)) (hs.mono Ef.mono x5) EW hv (by dsimp only;omega) (by simp) (by dsimp only;omega) (λ_=>⟨none,0,0,231,rfl,?_⟩) (λA=>absurd A (by (dsimp only;decide))) (λA=>absurd A (by (dsimp only;decide)));have nof:∀s,Am s bS=true->D5.files s=none:=λs hs=>by
  rw[o5.out s (M6 hs),o3.out s (M6 hs)]
 refine h5.AUy (s:=Wk) (u:=9) (now:=7200) nM (ht.mono (x04.trans x5)) rfl rfl ABU ANZ.1 (by decide) (nof _ (SA 9)) (by dsimp only;omega) (by dsimp only;omega) (by decide) (by decide) (λx hx=>by rw[Aev.1 (show x∈[((5:Int),(1:Int))] from hx)];decide) λZ6 N6 D6 W6 q6 l6 h6 x6 lg6 c6 hq6 f6=>⟨true,0,rfl,?_⟩;dsimp only at h6 c6 hq6 f6;have x06:=x04.trans (x5.trans x6);have hD6:Ac Z6 d D6 N6:=by
  obtain⟨ρ,T,l1,_,_,rfl⟩:=h6;exact l1.vq.JL Ext.DF
 have hs6:=hs.mono Ef.mono (x5.trans x6);have hf6:=hf5.mono x6;obtain⟨rc6,sg6,ok6,ANa⟩:=lg6.ok;have up6:=lg6.up;have AU6:=lg6.dir;clear h6 h5 h4 h3;refine hD6.AU4 up6 λZ72 gs hcr hD7=>⟨rfl,hD7.onS λZ8 hD8=>⟨rfl,?_⟩⟩;obtain⟨ANb,ow8,ANc,_⟩:=ok6.fQ hcr;rw[ANa]at ANc;obtain rfl:ANb=[]:=List.prefix_nil.1 ANc;rw[AU6]at ow8;refine hD8.spec (HI λN9 br9 _ ct9 hm9 xN9 _ _=>λZ9 hD9=>⟨2,aD br9 0,1,1,rfl,?_⟩);have x09:=x06.trans xN9;have ADY:∀s,Am s bS=true->D6.files s=A8 D5.files (BX tS 9) (some ⟨EL [Wk],(EL [Wk]).length⟩) s:=λs hs=>f6 s (M6 hs);have gsb:gs (BX tS 9)=some ⟨EL [Wk],(EL [Wk]).length⟩:=by
  have e1:=(ADY _ (SA 9)).trans Cb;obtain⟨k,k1,k2,k3⟩:=(hcr (BX tS 9)).2 _ e1;dsimp only at k1 k2 k3;obtain rfl:k=(EL [Wk]).length:=by omega
  rw[k3,Ag2]
 have qw:∀s,Am s bS=true->((gs s).isSome=true↔s∈[9].map (BX tS)):=λs hs=>by
  rw[AfN,AhF,Aev];refine⟨λA=>?_,λe=>by rw[e,gsb];rfl⟩;by_cases e:s=BX tS 9
  .exact e
  .have e1:=ADY s hs;rw[Ap e,nof s hs]at e1;rw[(hcr s).1 e1]at A;cases A
 refine Py (us:=[9]) hD9 (ht.mono x09) (hgm.mono x09) rfl rfl (by show D6.cnt<_;omega) ow8 hm9 (by decide) (by decide) (by simp) (λu hu=>by
  rw[Aev]at hu;subst hu;exact⟨nm9,[Wk],_,ABU,gsb,rfl⟩) qw λZa Na ba ga Da Wa la mha mla ha xa lga oa sa ca=>⟨aD ga 0,0,rfl,λA=>absurd rfl A,λ_=>⟨λhf=>(by cases hf),λ_=>?_⟩⟩
 have P2:=x09.trans xa;have fa:Da.files (BX tS 9)=some ⟨EL [Wk],(EL [Wk]).length⟩:=(oa.out _ (M6 (SA 9))).trans gsb;refine ha.select (us:=[9]) (bl:=λ_=>[Wk]) lga.up (ht.mono P2) rfl (by simp) (λu hu=>by
  rw[Aev]at hu;subst hu;exact⟨by decide,ABU,_,fa,rfl⟩) (by simp) (by (dsimp only;decide)) (by (dsimp only;decide)) λZb Nb Hd pb nb cb Ll xb nL hrb _=>⟨pb,nb,cb,0,rfl,?_⟩
 have AU9:Hd=[]:=nL.1 rfl;subst AU9;have nb1:nb=1:=by
  have:=(hrb λX hX=>by
   rw[Aev.1 (show X∈[CD 0 9 [Wk]] from hX)];exact okA).1
  rw[<-this];exact mgA
 refine Ll.block (u:=9) (ss:=[Wk]) lga.up (ht.mono (P2.trans xb)) (by decide) (by (dsimp only;decide)) fa λZc Nc pc cc hc xc _=>⟨pc,_,cc,0,rfl,?_⟩;refine hc.spec (HI λNd brd _ ctd Xf xNd _ _=>λZd hd=>⟨3,aD brd 0,1,1,rfl,?_⟩);refine hd.learn Xf (by decide) (λhn=>absurd (show(2:Int)<=3 by decide) hn) λ_ Ze Ne he xe=>⟨rfl,?_⟩;have x6e:Ext N6 Ne:=xN9.trans (xa.trans (xb.trans (xc.trans (xNd.trans xe))));refine he.push (ss:=[RC]) (e:=2) (told:=[]) (safe:=0) lga (ht.mono (x06.trans x6e)) (hs6.mono Ef.mono x6e) EW hv (by show Da.cnt+1<_;dsimp only at ca;omega) (by simp) (by (dsimp only;decide)) (λ_=>⟨none,0,0,231,rfl,?_⟩) (λA=>absurd A (by (dsimp only;decide))) (λA=>absurd A (by (dsimp only;decide)));refine⟨λ_=>λze h92=>?_,λA=>absurd rfl A⟩;have one:Be .i64 ((Ne.set ze (.cells #[.I 1] 3 (0,0)))) (aD ze 0) 1 [1]:=.KO ⟨rfl,by decide,.inr ⟨ze,0,rfl,Bm.of_cells (c:=[.I 1]) (Hp.AA _ _ _)⟩⟩;have x92:=Ext.set (AT he.ext h92) (o:=.cells #[.I 1] 3 (0,0));have hf:=he.box (o:=.cells #[.I 1] 3 (0,0)) h92;refine Wj (((hf6.mono x6e).mono x92).mono hf.ext) (one.mono hf.ext) ⟨true,rfl,λ_=>⟨λ_=>⟨λ_=>⟨λ_=>?_,λA=>absurd rfl A⟩,λhf=>(by cases hf)⟩,λA=>absurd rfl A⟩,λhf=>(by cases hf)⟩;refine hf.locals (by show 1<=_;decide) λZf Nf pf2 nf2 cf2 qe xf rf2=>⟨pf2,nf2,cf2,rfl,λWN ANe=>?_⟩;have nine:Be .u64 ((Nf.set WN (.cells #[.U 9] 23 (0,0)))) (aD WN 0) 1 [9]:=.KO ⟨rfl,by decide,.inr ⟨WN,0,rfl,Bm.of_cells (c:=[.U 9]) (Hp.AA _ _ _)⟩⟩;have AEy:=Ext.set (AT qe.ext ANe) (o:=.cells #[.U 9] 23 (0,0));have hg2:=qe.box (o:=.cells #[.U 9] 23 (0,0)) ANe;refine aq ((rf2.mono AEy).mono hg2.ext) (nine.mono hg2.ext) ⟨true,rfl,λ_=>⟨λ_=>⟨λ_=>⟨λ_=>⟨λ_=>⟨λ_=>?_,λA=>absurd rfl A⟩,λA=>absurd rfl A⟩,λA=>absurd (by have:=ANZ.2;dsimp only;omega) A⟩,λA=>absurd (by rw[nb1];rfl) A⟩,λA=>absurd rfl A⟩,λhf=>(by cases hf)⟩;refine hg2.ao (by simp) (by (dsimp only;decide)) λZg Ng pg ng cg hg3 xg _ rg=>⟨pg,ng,cg,rfl,λoc ANf=>?_⟩;rw[Aeu (λe=>absurd e.2 (by (dsimp only;decide)))]at rg;have tt:BB 1 (λ_=>Wg) ((Ng.set oc (.cells #[.string tS] 9 (0,0)))) (aD oc 0) 1 [tS]:=⟨rfl,[.string tS],⟨rfl,by decide,.inr ⟨oc,0,rfl,Bm.of_cells (c:=[.string tS]) (Hp.AA _ _ _)⟩⟩,rfl,λi x hi=>by
  cases i with
  | zero=>simp at hi;subst hi;rfl
  | succ i=>simp at hi⟩
 have ANg:=Ext.set (AT hg3.ext ANf) (o:=.cells #[.string tS] 9 (0,0));have hg4:=hg3.box (o:=.cells #[.string tS] 9 (0,0)) ANf;have em:∀{O2 O'2:Hp} {p:Option Addr} {n:Nat} {xs:List ByteArray},BB 1 (λ_=>Wg) O2 p n xs->Ext O2 O'2->BB 1 (λ_=>Wg) O'2 p n xs:=λh x=>BB.mono (λ_ _ _ _ _ h=>h) x h;refine fu (em (em rg ANg) hg4.ext) (em tt hg4.ext) ⟨true,rfl,λ_=>?_,λhf=>(by cases hf)⟩;refine hg4.empty (by simp) (by (dsimp only;decide)) λZh Nh A xh=>⟨false,rfl,λ_=>?_,λhf=>(by cases hf)⟩;have x6h:Ext Ne Nh:=x92.trans (xf.trans (AEy.trans (xg.trans (ANg.trans xh))));refine A.ANY (u:=9) (told:=[]) (safe:=0) lga (ht.mono (x06.trans (x6e.trans x6h))) (by decide) rfl fa λZi Ni Di li hi xi=>⟨0,rfl,λ_=>?_,λA=>absurd rfl A⟩;refine hi.empty (by simp) (by (dsimp only;decide)) λZj Nj hj xj=>⟨true,rfl,hR Zj ?_⟩;exact(x06.trans (x6e.trans (x6h.trans (xi.trans xj)))).trans hj.ext
end
end TwW
end
section
namespace TwW
open Go Tw Go.MapKept Go.RowKit Go.Proofs.Tryz
section
variable {Z22 Z'2 N:Hp}{d b g:Nat}{D:Dk}{R:Rr}
theorem ABW (lim:Int)(H:List Sr)(s:Hf):(R1 lim H s).length<=H.length+1:=by
 unfold R1;split
 .omega
 .split
  .rw[Aet];exact Ae1 _
  .rw[AfO];omega
theorem fv (lim:Int):∀(ss:List Hf) (H:List Sr),(ss.foldl (R1 lim) H).length<=H.length+ss.length
 | [],H=>Ae1 _
 | s::ss,H=>by
  have A:=fv lim ss (R1 lim H s);have G:=ABW lim H s;rw[AgT,Aez];omega
theorem xK (S:Vu)(ss:List Hf):(DX S ss).length<=ss.length:=by
 unfold DX HW;rw[AfO];refine AfU (AgR _ _) ?_;rw[List.length_zip];exact Nat.min_le_left _ _
theorem xL {z:Int}(h:0<=z/\z<=2000):IntKind.u64.wrap z=z:=by
 simp[IntKind.wrap,IntKind.bits,IntKind.signed];omega
theorem nN:(wk []).length=0:=by kernel_rfl
theorem fw {p0:Option Addr}{n0 c0:Nat}{x1 x2 x3:Int}{ss:List Hf}(ht:Tb Z22)(hgm:Gm Z22)(hr:BB 3 Ef Z22 p0 n0 ss)(hn:n0<=1000000)(hl:∀s∈ss,s.ls.length<=1000000000)
  (EW:∀s∈ss,(Gc s.ls).length<=35184372088832) (hv:∀s∈ss,0<=s.v/\s.v<18446744073709551616) (h1:0<=x1) (h2:0<=x2)
  (hR:∀Z'2,Ext Z22 Z'2->R (.B true) Z'2):Spec prog 3 #[.slice p0 n0 c0,.U x1,.U x2,.I x3] Z22 R:=by
 refine HC.start ⟨by decide,λQH e20 En e21=>?_⟩;have t1:=Ms (n:=999) h1 (by decide);rw[show(999:Int)+1=1000 from rfl]at t1;have w1:En=1+Int.tmod x1 1000:=by rw[e21,e20];exact xL (by constructor<;>omega)
 have r1:1<=En/\En<=1000:=by omega
 refine HI λZ12 br o ct hm x1' hb hc=>⟨En,aD br 0,1,1,rfl,λIV=>wK λy hy0 hy1=>⟨y,rfl,by decide,λHv e28=>?_⟩⟩;have t2:=Ms (n:=2) hy0 (by decide);rw[show(2:Int)+1=3 from rfl,<-e28]at t2;refine⟨⟨by omega,by omega⟩,br,0,rfl,by decide,AH.stq (n:=1) (c':=#[.I 0,.I (1+Hv),.slice o 1 ct]) Ss hc rfl rfl rfl rfl ?_⟩;have G:Ext Z22 (Z12.set br (.cells #[.I 0,.I (1+Hv),.slice o 1 ct] 31 (0,0))):=λk v hk=>by
  have AR:k≠br:=λe=>by rw[e,hb]at hk;cases hk
  rw[Hp.AB AR];exact x1' _ _ hk
 have WJ:Bm (Z12.set br (.cells #[.I 0,.I (1+Hv),.slice o 1 ct] 31 (0,0))) br 0 [.I 0,.I (1+Hv),.slice o 1 ct]:=Bm.of_cells (c:=[.I 0,.I (1+Hv),.slice o 1 ct]) (Hp.AA _ _ _);generalize Z12.set br (.cells #[.I 0,.I (1+Hv),.slice o 1 ct] 31 (0,0))=Z222 at G WJ ⊢;have Ta:=hr.mono Ef.mono G;refine Ny λd Z3 S3 hd3 Ev=>⟨aD d 0,rfl,?_⟩;have hD3:Ac Z3 d ⟨λ_=>none,true,false,0⟩ Z222:=⟨S3,hd3,Ev⟩;refine Py (us:=[]) hD3 (ht.mono G) (hgm.mono G) rfl rfl (by show 0<_;decide) (xJ λ_=>rfl) WJ (by omega) (by omega) (by simp) (λu hu=>by cases hu) (λs _=>by simp) λZ4 N4 bl g D4 W4 l mh ml h4 x4 lg4 o4 s4 c4=>⟨aD g 0,0,rfl,λA=>absurd rfl A,λ_=>⟨λhf=>(by cases hf),λ_=>?_⟩⟩;have aw:∀{Z'2},Ext Z222 Z'2->Spec prog 10 #[] Z'2 (BI R (CB λt52 EU=>R (.B t52) EU)):=λhx=>kU (ht.mono (G.trans hx)) (hgm.mono (G.trans hx)) λrK AVC=>⟨true,rfl,hR _ (G.trans (hx.trans AVC))⟩;refine⟨λ_=>⟨λ_=>aw (x4.trans h4.ext),λhf=>(by cases hf)⟩,λhn0 Mn e55=>?_⟩;have w55:Mn=En-1:=by rw[e55];exact xL (by constructor<;>omega)
 refine h4.spec (HI λN5 br5 _ ct5 hm5 x5 _ _=>λZ5 h5=>⟨Mn,aD br5 0,1,1,rfl,λHR=>?_⟩);refine h5.learn hm5 (by decide) (λ_=>⟨rfl,λx61 e61=>⟨by decide,λsS e63 x64 e64=>?_⟩⟩) (λA=>absurd A (by dsimp only;omega));have t3:=Ms (n:=2) h2 (by decide);rw[show(2:Int)+1=3 from rfl,<-e63]at t3;have w61:x61=En-1:=e61.trans (e55.symm.trans w55);have w64:x64=x61+sS:=by rw[e64];exact xL (by constructor<;>omega)
 have Ue:=x4.trans x5;refine h5.spec (kT (Ta.mono Ef.mono Ue) (by omega) hl λp6 c6 N6 hr6 x6=>λZ6 h6=>⟨p6,n0,c6,rfl,?_⟩);have Jj:=Ue.trans x6;have hln:ss.length=n0:=hr.1;refine h6.push lg4 (ht.mono (G.trans Jj)) hr6 EW hv (by dsimp only;dsimp only at c4;omega) (by simp) (by dsimp only;omega) (λAq=>⟨none,0,0,231,rfl,?_⟩) (λIb hna=>⟨none,0,0,232,rfl,?_⟩) λIb ha Z72 N7 hp7 D7 W7 q7 AYa pf nf cf h7 x7 lg7 _ _ c7 o7 hq7 hp _=>⟨pf,nf,cf,0,rfl,?_⟩
 .dsimp only at Aq;refine h6.select (us:=[]) (bl:=λ_=>[]) lg4.up (ht.mono (G.trans Jj)) rfl (by decide) (λu hu=>by cases hu) (by simp) (by simp) (by simp) λZ8 N8 Hd p8 n8 c8 h8 x8 nL JW _=>⟨p8,n8,c8,0,rfl,λA=>absurd rfl A,λ_=>⟨λ_=>⟨λ_=>⟨λ_=>aw (Jj.trans (x8.trans h8.ext)),λA=>?_⟩,λA=>absurd rfl A⟩,λA=>absurd Aq A⟩⟩;obtain rfl:Hd=[]:=nL.1 rfl;have:=(JW λX hX=>by cases hX).1;rw[show(wk (([]:List (List Sr))++([]:List Nat).map λu=>CD _ _ ((λ_=>[]) u))).length=0 from nN]at this;omega
 .dsimp only at Ib hna;have Ei:1+Hv≠2:=Aff hna;refine h6.select (us:=[]) (bl:=λ_=>[]) lg4.up (ht.mono (G.trans Jj)) rfl (by decide) (λu hu=>by cases hu) (by simp) (by simp) (by simp) λZ8 N8 Hd p8 n8 c8 h8 x8 nL JW _=>⟨p8,n8,c8,0,rfl,λA=>absurd rfl A,λ_=>⟨λA=>absurd A (by omega),λ_=>⟨by decide,1+Hv,((WJ.mono (Jj.trans (x8.trans h8.ext))).2).1,λ_=>⟨λ_=>⟨λ_=>aw (Jj.trans (x8.trans h8.ext)),λA=>?_⟩,λA=>absurd rfl A⟩,λA=>absurd Ei A⟩⟩⟩;obtain rfl:Hd=[]:=nL.1 rfl;have:=(JW λX hX=>by cases hX).1;rw[show(wk (([]:List (List Sr))++([]:List Nat).map λu=>CD _ _ ((λ_=>[]) u))).length=0 from nN]at this;omega
 .dsimp only at Ib ha;have Ei:1+Hv=2:=AfS ha;have Lz:=Jj.trans x7;dsimp only at hq7 c7;refine h7.select (us:=[]) (bl:=λ_=>[]) lg7.up (ht.mono (G.trans Lz)) rfl (by decide) (λu hu=>by cases hu) (by
   dsimp only;have e1:=fv (FK 100) (DX ⟨D4,W4,100,En,decide (1+Hv=2),[],0,fh [],l,mh,ml⟩ ss) [];have e2:=xK ⟨D4,W4,100,En,decide (1+Hv=2),[],0,fh [],l,mh,ml⟩ ss;rw[Afw]at e1;omega) (by show(0+1)*(q7+8191)<=_;omega) (by dsimp only;omega) λZ8 N8 Hd p8 n8 c8 h8 x8 nL JW _=>⟨p8,n8,c8,0,rfl,λA=>absurd rfl A,λ_=>⟨λA=>absurd A (by omega),λ_=>⟨by decide,1+Hv,((WJ.mono (Lz.trans (x8.trans h8.ext))).2).1,λA=>absurd Ei A,λ_=>⟨λ_=>aw (Lz.trans (x8.trans h8.ext)),λA=>absurd rfl A⟩⟩⟩⟩
end
end TwW
end
section
namespace TwW.Rw
open Go Tw Go.RowKit Go.ChangeShapes Go.WideShapes Go.ChangeAt Go.Deep Go.Proofs.Tryz Go.Proofs.YtjmeolpiagdinaaGreatDoor
theorem own:ownKnob prog.godebug=none:=by kernel_rfl
theorem laidOut:laidOutB prog=true:=by kernel_rfl
theorem RD {H:Type}(d:DataW H):1<=Rows.uptoBulk d:=by
 cases d with
 | lit l=>cases l<;>simp[Rows.uptoBulk]
 | _=>simp[Rows.uptoBulk]
theorem SB {H:Type}{d:DataW H}:∀{l:List (DataW H)},d∈l->Rows.uptoBulk d<=Rows.uptoBulkAll l
 | x::l,h=>by
  simp only[Rows.uptoBulkAll];rcases Ae5.1 h with rfl|h
  .omega
  .have:=SB h;omega
theorem fy {H:Type}(l r:List (DataW H)):Rows.uptoBulkAll (l++r)=Rows.uptoBulkAll l+Rows.uptoBulkAll r:=by
 induction l with
 | nil=>simp[Rows.uptoBulkAll]
 | cons x l A=>simp only[Af3,Rows.uptoBulkAll,A];omega
theorem xM {H:Type}(l:List (DataW H)):l.length<=Rows.uptoBulkAll l:=by
 induction l with
 | nil=>simp
 | cons x l A=>have:=RD x;simp only[Rows.uptoBulkAll,Aez];omega
def NT {α:Type}(t:TypeId)(E:Hp->List Value->α->Prop)(I:α->Prop)(sz:α->Nat):Prop:=
 ∀{H:Type} {enc:TypeId×Value->H} {w:World} {base:Nat} {G:Nat->Bool} {A:Bool} {fuel:Nat} {cs:List Value} {x:DataW H×List MemPlace},
  DataW.trod enc prog w base G A fuel t cs=some x->Rows.uptoBulk x.1<=1048576->∃y,E (full w) cs y/\I y/\sz y<=Rows.uptoBulk x.1
theorem mkB {α:Type}{s:Nat}{E:Hp->List Value->α->Prop}{I:α->Prop}{sz:α->Nat}{Z22:Hp}{b o:Nat}{H:Type}{D:Nat->DataW H}:∀{n:Nat},n<=4611686018427387904->(∀i,i<n->∃vs x,vs.length=s/\Bm Z22 b (o+i*s) vs/\E Z22 vs x/\I x/\sz x<=Rows.uptoBulk (D i))->
  ∃xs,BB s E Z22 (some ⟨b,o,none⟩) n xs/\(∀x∈xs,I x)/\(xs.map sz).sum<=Rows.uptoBulkAll ((List.range n).map D)
 | 0,_,_=>⟨[],BB.nil,by simp,by simp⟩
 | n+1,hn,h=>by
  obtain⟨xs,⟨h1,cs,⟨G,_,h2⟩,h3⟩,hI,hs⟩:=mkB (n:=n) (D:=D) (by omega) (λi hi=>h i (by omega));obtain⟨vs,x,hv,Dt,hE,hx,hz⟩:=h n (by omega);have KI:Bm Z22 b o cs:=by
   rcases h2 with rfl|⟨b',o',hp,lC⟩
   .have:cs=[]:=Ae6 (by simpa using G);subst this;trivial
   .cases hp;exact lC
  refine⟨xs++[x],⟨by simp[h1],cs++vs,⟨by rw[Aet,G,hv,Afn];omega,hn,.inr ⟨b,o,rfl,KI.snoc (by rw[G];exact Dt)⟩⟩,h3.snoc hv hE⟩,λy A=>?_,?_⟩
  .rcases Ae9.1 A with A|A
   .exact hI y A
   .simp at A;subst A;exact hx
  .rw[List.range_succ,AfF,AfF,fy,Ahu];simp only[AfN,AhF,AhJ,List.sum_nil,Rows.uptoBulkAll];omega
def ESc {α:Type}(s:Nat)(E:Hp->List Value->α->Prop)(Z22:Hp)(vs:List Value)(xs:List α):Prop:=∃p n c,vs=[.slice p n c]/\n<=c/\BB s E Z22 p n xs
theorem NT.slice {α:Type}{t e:TypeId}{s:Nat}{E:Hp->List Value->α->Prop}{I:α->Prop}{sz:α->Nat}(ht:prog.underlying t=some (.slice e))(hs:prog.cellsOf e=s)(ua:0<s)(he:NT e E I sz):
  NT t (ESc s E) (λxs=>∀x∈xs,I x) (λxs=>(xs.map sz).sum+1):=by
 intro H enc w base sp held fuel cs x h hw;subst hs;rcases open_slice ht h with ⟨rfl,rfl⟩|⟨a,len,cap,m,n,D,Pl,rfl,hb,hl,hm,hmm,rfl,hi⟩
 .exact⟨[],⟨none,0,0,rfl,Ae1 _,BB.nil⟩,by simp,by simp[Rows.uptoBulk]⟩
 .have hlm:len<=m:=by rw[hmm];split<;>omega
  have Wn:Rows.uptoBulkAll ((List.range len).map D)+1<=Rows.uptoBulk (DataW.slice ((List.range len).map D) ((List.range (m-len)).map λj=>D (len+j))):=by
   simp only[Rows.uptoBulk];omega
  have hlen:=xM ((List.range len).map D);rw[AfO,List.length_range]at hlen;have hwD:∀i,i<len->Rows.uptoBulk (D i)<=1048576:=λi IN=>by
   have:=SB (AfC.2 ⟨i,Aik.2 IN,rfl⟩:D i∈(List.range len).map D);simp only at hw;omega
  by_cases h0:len=0
  .subst h0;exact⟨[],⟨some a,0,cap,rfl,AfI _,BB.nil⟩,by simp,by simp only[Rows.uptoBulk,AhF,List.sum_nil];omega⟩
  .have G:a.spot=none:=by
    obtain⟨cs',hc,_⟩:=hi 0 (by omega);obtain⟨_,nz,A⟩:=World.cells?_some hc;have h1:=A 0 ua;rw[Ae3 (by omega)]at h1;have:=oF h1;simpa[Addr.add] using this
   obtain⟨b,o,sp'⟩:=a;simp only at G;subst G;obtain⟨xs,hr,hI,hz⟩:=mkB (s:=prog.cellsOf e) (E:=E) (I:=I) (sz:=sz) (Z22:=full w) (b:=b) (o:=o) (D:=D) (n:=len) (by simp only at hw;omega) (λi IN=>by
    obtain⟨cs',hc,ht'⟩:=hi i (by omega);obtain⟨_,nz,A⟩:=World.cells?_some hc;obtain⟨y,hE,hy,NI⟩:=he ht' (hwD i IN);refine⟨cs',y,nz,Bm.of λj v hj=>?_,hE,hy,NI⟩;have YL:j<prog.cellsOf e:=by have:=(Ae0.1 hj).1;omega
    have h1:=A j YL;rw[hj,Cm,Cm]at h1;exact lG h1)
   exact⟨xs,⟨some ⟨b,o,none⟩,len,cap,rfl,hl,hr⟩,hI,by simp only at hz Wn ⊢;omega⟩
def AVE (_:Hp)(vs:List Value)(s:ByteArray):Prop:=vs=[.string s]
theorem NT.str {t:TypeId}(G:prog.underlying t=some .string):NT t AVE (λs=>s.size<=1048576) (λs=>s.size+1):=λh A=>by
 obtain⟨n,rfl,rfl,_⟩:=DataW.trod_string G h;have e:n.data.toList.length=n.size:=Ahw;have A:n.data.toList.length+1<=1048576:=A;rw[e]at A;exact⟨n,rfl,by omega,show n.size+1<=n.data.toList.length+1 by rw[e];exact Ae1 _⟩
theorem au {H:Type}{l:List (DataW H)}{d:DataW H}(h:Rows.uptoBulk (DataW.agg l)<=1048576)(hd:d∈l):Rows.uptoBulk d<=1048576:=by
 have:=SB hd;simp only[Rows.uptoBulk]at h;omega
theorem ABX {α:Type}:∀l:List α,(l.map λ_=>1).sum=l.length:=λl=>by induction l with
 | nil=>rfl
 | cons a l A=>simp;omega
theorem NT.len {α:Type}{t e:TypeId}{s:Nat}{E:Hp->List Value->α->Prop}{I:α->Prop}(ht:prog.underlying t=some (.slice e))(hs:prog.cellsOf e=s)(ua:0<s)(he:NT e E I (λ_=>1)):
  NT t (ESc s E) (λxs=>(∀x∈xs,I x)/\xs.length<=1048576) (λ_=>1):=λh hw=>by
 obtain⟨xs,G,h2,A⟩:=NT.slice ht hs ua he h hw;dsimp only at A;rw[ABX]at A;exact⟨xs,G,⟨h2,by omega⟩,RD _⟩
set_option maxRecDepth 100000
set_option linter.unusedSimpArgs false
theorem AGw:NT 95 Eh (λl=>l.1.size<=1048576/\l.2.size<=1048576) (λ_=>1):=by
 intro H enc w base sp held fuel cs x h hw;obtain⟨xs,n,_,rfl,A,Y9,hg⟩:=DataW.trod_struct underlying95 h;rw[show prog.cellsOf 95=2 by kernel_rfl]at A
 match cs,A,xs,Y9 with
 | [c0,c1],_,[y0,y1],_=>
  have h0:=hg 0 _ rfl;have h1:=hg 1 _ rfl;simp only[show prog.cellsOf 9=1 by kernel_rfl,List.drop,List.take,Af0,Afd]at h0 h1;obtain⟨a,G,wa,_⟩:=NT.str underlying9 h0 (au hw (by simp));obtain⟨b,e1,wb,_⟩:=NT.str underlying9 h1 (au hw (by simp));have G:[c0]=[.string a]:=G;have e1:[c1]=[.string b]:=e1;cases G;cases e1;exact⟨(a,b),rfl,⟨wa,wb⟩,RD _⟩
abbrev LsI (ls:List Lb):Prop:=(∀l∈ls,l.1.size<=1048576/\l.2.size<=1048576)/\ls.length<=1048576
theorem AGx:NT 51 (ESc 2 Eh) LsI (λ_=>1):=NT.len (s:=2) underlying51 (by kernel_rfl) (by decide) AGw
theorem AGy {ls:List Lb}(h:LsI ls):(Gc ls).length<=35184372088832:=by
 have G:=Ex (f:=Ec) (B:=2097172) (l:=ls) λy A=>by
  obtain⟨a,b⟩:=h.1 y A;have u1:=Ai (x:=y.1.size) (by omega);have u2:=Ai (x:=y.2.size) (by omega);unfold Ec;simp only[Aet,Bb];omega
 have h2:=Ai (x:=ls.length) (by have:=h.2;omega);have:=h.2;unfold Gc;rw[Aet];omega
abbrev SmI (s:Hf):Prop:=LsI s.ls/\0<=s.v/\s.v<18446744073709551616
theorem AGz:NT 53 Ef SmI (λ_=>2):=by
 intro H enc w base sp held fuel cs x h hw;obtain⟨xs,n,_,rfl,A,Y9,G⟩:=DataW.trod_struct underlying53 h;rw[show prog.cellsOf 53=3 by kernel_rfl]at A
 match cs,A,xs,Y9 with
 | [c0,c1,c2],_,[y0,y1,y2],_=>
  have h0:=G 0 _ rfl;have h1:=G 1 _ rfl;have h2:=G 2 _ rfl;simp only[show prog.cellsOf 51=1 by kernel_rfl,show prog.cellsOf 2=1 by kernel_rfl,show prog.cellsOf 23=1 by kernel_rfl,List.drop,List.take,Af0,Afd]at h0 h1 h2;obtain⟨ls,⟨p,k,c,e0,hc0,r0⟩,i0,_⟩:=AGx h0 (au hw (by simp));obtain⟨a,e1,_,_⟩:=DataW.trod_int underlying2 h1;obtain⟨b,e2,_,wb⟩:=DataW.trod_int underlying23 h2;cases e0;cases e1;cases e2;refine⟨⟨ls,a,b⟩,⟨p,k,c,rfl,r0⟩,⟨i0,?_⟩,?_⟩
  .simp[Lit.wf,IntKind.min,IntKind.max,IntKind.signed,IntKind.bits]at wb;exact⟨wb.1,by show b<_;omega⟩
  .simp only[Rows.uptoBulk,AfN,AhF,Rows.uptoBulkAll];have:=RD y0.1;omega
theorem ABY {α:Type}:∀l:List α,(l.map λ_=>2).sum=2*l.length:=λl=>by induction l with
 | nil=>rfl
 | cons a l A=>simp;omega
section
variable {H:Type}{enc:TypeId×Value->H}{W:World}{base:Nat}{v:Value}{d:DataW H}{ps:List MemPlace}{r:Reach}
theorem xO (hv:Value.okWide prog W r base 22 v)(h:DataW.Trod enc prog W 0 (λ_=>true) true 22 v d ps)(G:Rows.uptoBulk d<=1048576):∃p n c ss,v=.slice p n c/\BB 3 Ef (full W) p n ss/\(∀s∈ss,SmI s)/\ss.length<=600000:=by
 obtain⟨a,l,c,rfl⟩:=okWide_slice underlying22 hv;obtain⟨fuel,hf⟩:=h;obtain⟨xs,⟨p,n,c',e,_,hr⟩,hI,A⟩:=NT.slice (s:=3) underlying22 (by kernel_rfl) (by decide) AGz hf G;have e':[Value.slice a l c]=[.slice p n c']:=by simpa[Value.cells] using e
 cases e';dsimp only at A G;rw[ABY]at A;exact⟨a,l,c,xs,rfl,hr,hI,by omega⟩
end
theorem AG0 {f:FuncId}{fn:Func}{s:ChangeSpec}{H:Type}{enc:TypeId×Value->H}{W:World}{args:Array Value}{ds gs:List (DataW H)}{A:List MemPlace}(hr:(fn.params.toList.all λt=>prog.readableRec t&&Nat.blt t prog.types.size)=true)
  (G:fn.resultTypes=#[4]) (hv:s.vars=[]) (Tz:(s.fn H (ds++gs)).results=[.lit (.bool true)]/\(s.fn H (ds++gs)).args=ds/\(s.fn H (ds++gs)).vars=[])
  (hW:DataW.Whole enc prog fn.params.toList s.vars false W args.toList ds gs A) (h:Lawful prog f args W) :
  Calls prog f args W λe W'=>∃v,e=.returned v/\s.post enc prog fn false true false false W args v W':=
 h.calls.mono λe W' ⟨he,hb⟩=>⟨_,he,sH laidOut hr G underlying4 hv Tz hW hb⟩
end TwW.Rw
end
section
namespace TwW
open Go
def rowsOf (L:List (Nat×Nat)):List MemPlace:=L.flatMap λx=>MemPlace.row ⟨x.1,0,none⟩ x.2
theorem av {b n:Nat}{p:MemPlace}:p∈MemPlace.row ⟨b,0,none⟩ n↔∃i,i<n/\p=.cell b i:=by
 unfold MemPlace.row;simp only[AfC,Aik,AfW];exact⟨λ⟨i,h,e⟩=>⟨i,h,e.symm⟩,λ⟨i,h,e⟩=>⟨i,h,e.symm⟩⟩
theorem qd (b n:Nat):(MemPlace.row ⟨b,0,none⟩ n).Nodup:=by
 unfold MemPlace.row;refine AgD.2 ((List.nodup_range (n:=n)).imp fun {i j} A e=>A ?_);simpa using e
theorem V6:∀{L:List (Nat×Nat)},(L.map Prod.fst).Nodup->(rowsOf L).Nodup
 | [],_=>AhZ
 | x::L,h=>by
  have h:=Afe.1 (show(x.1::L.map Prod.fst).Nodup from h);unfold rowsOf;rw[Afy,AgC];refine⟨qd _ _,V6 h.2,λp hp q A e=>?_⟩;subst e;obtain⟨i,_,rfl⟩:=av.1 hp;obtain⟨y,G,A⟩:=Age.1 A;obtain⟨j,_,e⟩:=av.1 A;simp only[MemPlace.cell.injEq]at e;exact h.1 (AfC.2 ⟨y,G,e.1.symm⟩)
def laidB (P:Program)(w:World)(b:Nat):Bool:=
 match w.heap[b]? with
 | some (.cells c _ (0,0))=>c.toList.all fun | .iface u v=>Value.okWideB P w u v | _=>true
 | _=>false
theorem ax {P:Program}{w:World}{l:List (String×DataW Unit)}(fuel:Nat)(L:List (Nat×Nat))(A:(DataW.laidRun P w fuel (l.map (·.1))).map (·.1)=some l)(G:(DataW.laidRun P w fuel (l.map (·.1))).map (·.2)=some (rowsOf L))
  (hn:(L.map Prod.fst).Nodup) (hb:∀x∈L,laidB P w x.1=true):laidMet P l w:=by
 cases hx:DataW.laidRun P w fuel (l.map (·.1)) with
 | none=>rw[hx]at A;cases A
 | some x=>
  obtain⟨l',ps⟩:=x;rw[hx]at A G;simp only[Afv,AfL]at A G;subst A;subst G;refine⟨_,DataW.LaidVars_of_laidRun hx,V6 hn,λb off hp=>?_⟩;obtain⟨y,hy,hp⟩:=Age.1 hp;obtain⟨i,hi,e⟩:=av.1 hp;simp only[MemPlace.cell.injEq]at e;obtain⟨rfl,rfl⟩:=e;have:=hb y hy;unfold laidB at this;split at this
  .rename_i c t hh;refine⟨⟨c,t,hh⟩,λu v hc=>?_⟩;have hc':c[off]?=some (.iface u v):=by simpa[World.cell?,hh] using hc
   have hm:Value.iface u v∈c.toList:=Array.mem_toList_iff.2 (Array.mem_of_getElem? hc');exact Value.okWide_of_okWideB (Afu.1 this _ hm)
  .cases this
end TwW
end
