/-
  Part 8 of the proof that the law QuerierOrderUptoCardSaid of the given program answers true for every input of the given statement; the input reads behind the call as it did. (The texts: packed from 16 texts. Names are shortened by the packing program, for the bound on size.)
-/
import Derived.Test.YtdlkodiemlmmiaaGreatDoorA7
import Derived.Defers
import Derived.Recover
import Derived.StillTailTactics
set_option linter.all false
section
namespace TwW
open Go Tw Go.RowKit Go.Proofs.Tryz
set_option maxRecDepth 100000
def Mp:Nat->Nat
 | 0=>30
 | 1=>64
 | 2=>101
 | 3=>123
 | 4=>139
 | 5=>175
 | 6=>218
 | _=>241
def JK (l:Nat)(R:Rr)(pb:Nat)(Z22:Hp):Prop:=
 if 10<=l then AZ.eh R (aD pb 0) (.func (.func (Mp (l-9))) #[.pointer (aD pb 0)] #[]) (H4 (l-10)).1 (H4 (l-10)).2 Z22
 else Spec prog (Mp l) #[.pointer (aD pb 0)] Z22 R
theorem enP:∀l,1<=l->l<=5->Enters prog (Mp l)
 | 1,_,_=>Ex.en
 | 2,_,_=>Ey.en
 | 3,_,_=>Es.en
 | 4,_,_=>EG.en
 | 5,_,_=>Be.en
 | 0,h,_=>absurd h (by decide)
 | _+6,_,h=>absurd h (by omega)
theorem Y4 {Z22:Hp}{pb:Nat}{R:Rr}(l:Nat)(G:l<5)(h:Spec prog 63 #[.pointer (aD pb 0),.func (.func (Mp (l+1))) #[.pointer (aD pb 0)] #[],.I (H4 l).1,.I (H4 l).2] Z22 (AY R (λz y=>z=.tuple #[]/\R (.T #[]) y))):Spec prog (Mp l) #[.pointer (aD pb 0)] Z22 R:=by
 have:l=0\/l=1\/l=2\/l=3\/l=4:=by omega
 rcases this with rfl|rfl|rfl|rfl|rfl
 .exact MV.start h
 .exact Ex.start h
 .exact Ey.start h
 .exact Es.start h
 .exact EG.start h
def goR (R:Rr)(q0:Option Addr)(v1:Value)(x2 x3 x16:Int)(CC:Hp):Prop:=
 Spec prog 97 #[.pointer q0] CC (AY R (λz G2=>∃J9 KA ej ek,z=(.agg #[.I J9,.I KA,.string ej,.I ek])/\Al G2 λb9=>AI prog (Instr.storeAt 127 (.pointer (aD b9 0)) (.agg #[.I 6,.I x16,(.string (ByteArray.mk #[])),.N,.I 0,.I 0,.I 0,.N,.bool false,.I 2])) (Hp.set G2 b9 (.cells #[.I 0,.I 0,(.string (ByteArray.mk #[])),.N,.I 0,.I 0,.I 0,.N,.bool false,.I 0] 127 (0,0))) (λ_ G=>Br (5<=x16) (Br (x16<=10) (Spec prog 98 #[.pointer q0,.I 3,(.string (ByteArray.mk #[98,111,111,108]))] G (AY R (CB λt55 R7=>Bo t55 (Spec prog 97 #[.pointer q0] R7 (AY R (λz TW=>∃eo et eu ew,z=(.agg #[.I eo,.I et,.string eu,.I ew])/\AI prog (Instr.storeAt 4 (.pointer (aD b9 8)) (.bool true)) TW (λ_ H7=>AZ.Gh R q0 v1 x2 x3 b9 H7)))) (AZ.Gh R q0 v1 x2 x3 b9 R7)))) (AZ.Gh R q0 v1 x2 x3 b9 G)) (AZ.Gh R q0 v1 x2 x3 b9 G))))
def tsR (R:Rr)(q0:Option Addr)(v1:Value)(x2 x3 x16:Int)(y:Hp):Prop:=
 Br (x16<x2) (R (.T #[]) y) (Br (x3<x16) (R (.T #[]) y) (Br (x2=11) (Br (x16=12) (R (.T #[]) y) (goR R q0 v1 x2 x3 x16 y)) (goR R q0 v1 x2 x3 x16 y)))
section
variable {O2 ρ:Hp}{pb n c m e:Nat}{p q:Option Addr}{ts:List Cl}{out:List Nd}{d:Int}{R:Rr}
theorem gh {cl:Cl}{v1:Value}{x2 x3:Int}(h:B4 O2 ρ pb p n c q m e (cl::ts) out)
  (Ab:cl.kind≠5/\cl.kind≠3->∀ρ',B4 O2 ρ' pb p n c q m e (cl::ts) out->R (.T #[]) (ρ'.set pb (pO p n c d q m e)))
  (iA:¬(cl.kind≠5/\cl.kind≠3)->∀ρ',B4 O2 ρ' pb p n c q m e (cl::ts) out->tsR R (aD pb 0) v1 x2 x3 (cl.op:Int) (ρ'.set pb (pO p n c d q m e))) :
  AZ.eh R (aD pb 0) v1 x2 x3 (ρ.set pb (pO p n c d q m e)):=by
 have Mr:cl.op=Ja opW cl.text:=Ajw Cl.op h.tok.1;refine AZ.LU (AC6 h λG b1 h1 x1 EB=>⟨_,_,_,rfl,BJ h1 λa=>⟨_,_,_,_,rfl,DA EB ⟨_,rfl,BJ h1 λa'=>⟨_,_,_,_,rfl,?_⟩⟩⟩⟩);rw[<-Mr];exact⟨λh5=>BJ h1 λa2=>⟨_,_,_,_,rfl,λh3=>Ab ⟨h5,h3⟩ G h1,λh3=>iA (λhh=>h3 hh.2) G h1⟩,λh5=>iA (λhh=>h5 hh.1) G h1⟩
theorem Kv {α β:Type}{o:Option α}{f:α->β}{y:β}(h:o.map f=some y):∃x,o=some x/\f x=y:=by
 cases o with
 | none=>cases h
 | some x=>exact⟨x,rfl,Akj h⟩
theorem MA {α β:Type}{o:Option α}{f:α->Option β}{y:β}(h:o.bind f=some y):∃x,o=some x/\f x=some y:=by
 cases o with
 | none=>cases h
 | some x=>exact⟨x,rfl,h⟩
end
theorem AUw:∀(f l:Nat) (d:Int) (ts r:List Cl) (ns:List Nd),pz f l d ts=some (r,ns)->l<=14->(l<=7\/10<=l)->0<=d->d<=64->∀{O2 ρ:Hp} {pb:Nat} {p q:Option Addr} {n c m e:Nat} {out:List Nd} {R:Rr},
  B4 O2 ρ pb p n c q m e ts out->m+ns.length<=1000000->(∀(ρ':Hp) (p' q':Option Addr) (n' c' m' e':Nat),B4 O2 ρ' pb p' n' c' q' m' e' r (out++ns)->R (.T #[]) (ρ'.set pb (pO p' n' c' d q' m' e')))->JK l R pb (ρ.set pb (pO p n c d q m e)):=by
 intro f
 induction f with
 | zero=>intro l d ts r ns h;cases h
 | succ f ih=>
  intro l d ts r ns h AUx hl VQ hd O2 ρ pb p q n c m e out R hu hb hR;have hom:out.length=m:=hu.out.1.1;unfold pz at h;by_cases h5:l<5
  .rw[Ajl h5]at h;obtain⟨x,hx,h⟩:=MA h;obtain⟨y,hy,h⟩:=Kv h;obtain⟨r1,n1⟩:=x;obtain⟨r2,n2⟩:=y;simp only[Akh]at h;obtain⟨rfl,rfl⟩:=h;rw[Ajr]at hb;rw[JK,Ajj (by omega)];refine Y4 l h5 (AZ.start ⟨Mp (l+1),#[.pointer (aD pb 0)],#[],rfl,enP (l+1) (by omega) (by omega),?_⟩);have h1:=ih (l+1) d ts r1 n1 hx (by omega) (by omega) VQ hd (R:=AY (AY R (λz y=>z=.tuple #[]/\R (.T #[]) y)) (λz y=>z=.tuple #[]/\AZ.eh (AY R (λz y=>z=.tuple #[]/\R (.T #[]) y)) (aD pb 0) (.func (.func (Mp (l+1))) #[.pointer (aD pb 0)] #[]) (H4 l).1 (H4 l).2 y)) hu (by omega) λρ' p' q' n' c' m' e' Bt=>⟨rfl,?_⟩
   .rw[JK,Ajj (by omega)]at h1;exact h1
   .have AMp:(out++n1).length=m':=Bt.out.1.1;rw[Ajr]at AMp;have h2:=ih (l+10) d r1 r2 n2 hy (by omega) (by omega) VQ hd (R:=AY R (λz y=>z=.tuple #[]/\R (.T #[]) y)) Bt (by omega) λρ2 p2 q2 n2 c2 m2 e2 Rh=>⟨rfl,hR ρ2 p2 q2 n2 c2 m2 e2 (by rw[<-AkC];exact Rh)⟩;rw[JK,Ajl (by omega),show l+10-9=l+1 by omega,Amh]at h2;exact h2
  rw[Ajj h5]at h;by_cases MX:10<=l
  .rw[Ajl MX]at h;rw[JK,Ajl MX];cases ts with
   | nil=>cases h
   | cons cl rr=>
    dsimp only at h;by_cases CA:(cl.kind≠5/\cl.kind≠3)\/(cl.op:Int)<(H4 (l-10)).1\/(H4 (l-10)).2<(cl.op:Int)\/(l=11/\cl.op=12)
    .rw[Ajl CA]at h;simp only[Ajv,Akh]at h;obtain⟨rfl,rfl⟩:=h;have fin:∀ρ',B4 O2 ρ' pb p n c q m e (cl::rr) out->R (.T #[]) (ρ'.set pb (pO p n c d q m e)):=λρ' h'=>hR ρ' p q n c m e (by rw[Akq];exact h');refine gh hu (λ_=>fin) λhk G h1=>⟨λ_=>fin G h1,λn1=>⟨λ_=>fin G h1,λn2=>⟨λwO=>⟨λ_=>fin G h1,λn12=>?_⟩,λn11=>?_⟩⟩⟩
     .exfalso;rcases CA with CA|CA|CA|CA
      .exact hk CA
      .exact n1 CA
      .exact n2 CA
      .exact n12 (by omega)
     .exfalso;rcases CA with CA|CA|CA|CA
      .exact hk CA
      .exact n1 CA
      .exact n2 CA
      .exact n11 (by rw[CA.1];rfl)
    .rw[Ajj CA]at h;cases rr with
     | nil=>cases h
     | cons b r'=>
      dsimp only at h;generalize hbl:(decide (5<=cl.op)&&decide (cl.op<=10)&&b.bool)=bl at h;obtain⟨g,r'',hg,hgg⟩:∃g r'',(bif bl then r' else b::r')=g::r''/\(g.on||g.ign)=false:=by
       cases hq:(bif bl then r' else b::r') with
       | nil=>rw[hq]at h;cases h
       | cons g r''=>
        rw[hq]at h;dsimp only at h;refine⟨g,r'',rfl,?_⟩;cases hgg:(g.on||g.ign) with
        | false=>rfl
        | true=>rw[hgg,Ajl rfl]at h;cases h
      rw[hg]at h;dsimp only at h;rw[hgg,Ajj (by decide)]at h;obtain⟨x,hx,h⟩:=MA h;obtain⟨y,hy,h⟩:=Kv h;obtain⟨r1,n1⟩:=x;obtain⟨r2,n2⟩:=y;simp only[Akh]at h;obtain⟨rfl,rfl⟩:=h;rw[Ajr,Ajk]at hb;rw[Akz]at hgg;have P32:∀(G:Hp) (p1:Option Addr) (k1 c1 nb:Nat),B4 O2 G pb p1 k1 c1 q m e (g::r'') out->(G.set pb (pO p1 k1 c1 d q m e)) nb=none->
        AZ.Gh R (aD pb 0) (.func (.func (Mp (l-9))) #[.pointer (aD pb 0)] #[]) (H4 (l-10)).1 (H4 (l-10)).2 nb ((G.set pb (pO p1 k1 c1 d q m e)).set nb (Y1 6 cl.op none 0 0 0 0 none 0 0 bl 2)):=λG p1 k1 c1 nb Qy Jw=>by
       have e1:g.on=GN g.kind g.text 3 ⟨#[111,110]⟩:=Ajw Cl.on Qy.tok.1;have e2:g.ign=GN g.kind g.text 3 ⟨#[105,103,110,111,114,105,110,103]⟩:=Ajw Cl.ign Qy.tok.1;refine AZ.Vg (Rf Qy Jw (by rw[<-e1];exact hgg.1) (by rw[<-e2];exact hgg.2) λρ2 Rh x2 Jv=>⟨rfl,Mp (l-9),#[.pointer (aD pb 0)],#[],rfl,enP (l-9) (by omega) (by omega),Spec.AR Jv ?_⟩);have h1:=ih (l-9) d (g::r'') r1 n1 hx (by omega) (by omega) VQ hd (R:=λen O'2=>O'2 nb=none->AY R (λz AE=>z=(.tuple #[])/\∃NC ND NF NG NH NI NJ NK NL NM NN NO NQ NR,A2 AE nb 0 [.I NC,.I ND,.string NF,.slice NG NH NI,.I NJ,.I NK,.I NL,.slice NM NN NO,.bool NQ,.I NR]/\Spec prog 100 #[.pointer (aD pb 0),.agg #[.I NC,.I ND,.string NF,.slice NG NH NI,.I NJ,.I NK,.I NL,.slice NM NN NO,.bool NQ,.I NR]] AE (AY R (λz AK=>z=(.tuple #[])/\AZ.eh R (aD pb 0) (.func (.func (Mp (l-9))) #[.pointer (aD pb 0)] #[]) (H4 (l-10)).1 (H4 (l-10)).2 AK))) en (O'2.set nb (Y1 6 cl.op none 0 0 0 0 none 0 0 bl 2))) Rh (by omega) λρ3 p3 q3 k3 c3 m3 e3 qf Qe=>⟨rfl,_,_,_,_,_,_,_,_,_,_,_,_,_,_,JJ (Hp.AA _ _ _),?_⟩
       .rw[JK,Ajj (by omega)]at h1;exact h1
       .have Ri:(out++n1).length=m3:=qf.out.1.1;rw[Ajr]at Ri;refine Spec.AR Qe (CJ (x:=AMR cl.op bl) qf (by omega) ⟨rfl,[],⟨rfl,by omega,.inl rfl⟩,rfl,λi x hi=>by simp[AMR]at hi⟩ ⟨rfl,by omega,.inl rfl⟩ λρ4 q4 e4 gi tz=>⟨rfl,?_⟩);obtain⟨k1,k2⟩:=gi.box (u:=Y1 6 cl.op none 0 0 0 0 none 0 0 bl 2) tz;rw[k2];have h2:=ih l d r1 r2 n2 hy (by omega) (by omega) VQ hd (R:=R) k1 (by omega) λρ' p' q' n' c' m' e' Bt=>hR ρ' p' q' n' c' m' e' (by rw[AkC,AkC]at Bt;exact Bt);rw[JK,Ajl MX]at h2;exact h2
      have go:∀G,B4 O2 G pb p n c q m e (cl::b::r') out->goR R (aD pb 0) (.func (.func (Mp (l-9))) #[.pointer (aD pb 0)] #[]) (H4 (l-10)).1 (H4 (l-10)).2 (cl.op:Int) (G.set pb (pO p n c d q m e)):=λG h1=>by
       have h2:=h1.step;have e3:b.bool=GN b.kind b.text 3 ⟨#[98,111,111,108]⟩:=Ajw Cl.bool h2.tok.1;have nob:bl=false->∀nb,(G.set pb (pO (Ee p 1 c 4) (n-1) (c-1) d q m e)) nb=none->AZ.Gh R (aD pb 0) (.func (.func (Mp (l-9))) #[.pointer (aD pb 0)] #[]) (H4 (l-10)).1 (H4 (l-10)).2 nb ((G.set pb (pO (Ee p 1 c 4) (n-1) (c-1) d q m e)).set nb (Y1 6 cl.op none 0 0 0 0 none 0 0 false 2)):=λxq nb hn=>by
        rw[xq,AlN]at hg;have:=P32 G _ _ _ nb (by rw[<-hg];exact h2) hn;rw[xq]at this;exact this
       refine BF h1 λa=>⟨_,_,_,_,rfl,λnb Hc=>T7 ⟨λg5=>⟨λg10=>Spec.AR Hc (BS h2 λhn=>⟨_,rfl,λtb=>?_,λfb=>nob ?_ nb hn⟩),λg10=>nob ?_ nb Hc⟩,λg5=>nob ?_ nb Hc⟩⟩
       .have JE:bl=true:=by
         rw[<-hbl,e3,tb,Aj0 (show 5<=cl.op by omega),Aj0 (show cl.op<=10 by omega)];rfl
        rw[JE,AlS]at hg;refine Spec.AR hn (BF h2 λa2 Jv=>⟨_,_,_,_,rfl,?_⟩);refine st1 ABz (Hp.AA _ _ _) rfl rfl (by simp) rfl ?_;rw[Hp.set_set];have:=P32 G _ _ _ nb (by rw[<-hg];exact h2.step) Jv;rw[JE]at this;exact this
       .rw[<-hbl,e3,fb,Akx]
       .rw[<-hbl,Aj1 (show ¬cl.op<=10 by omega),Akx,Aku]
       .rw[<-hbl,Aj1 (show ¬5<=cl.op by omega),Aku,Aku]
      refine gh hu (λhk=>absurd (.inl hk) CA) λhk G h1=>⟨λhh=>absurd (.inr (.inl hh)) CA,λn1=>⟨λhh=>absurd (.inr (.inr (.inl hh))) CA,λn2=>⟨λwO=>⟨λTo=>?_,λn12=>go G h1⟩,λn11=>go G h1⟩⟩⟩;exfalso;refine CA (.inr (.inr (.inr ⟨?_,by omega⟩)));have:l=10\/l=11\/l=12\/l=13\/l=14:=by omega
      rcases this with rfl|rfl|rfl|rfl|rfl
      .exact absurd wO (by decide)
      .rfl
      .exact absurd wO (by decide)
      .exact absurd wO (by decide)
      .exact absurd wO (by decide)
  rw[Ajj MX]at h;rw[JK,Ajj MX];cases ts with
  | nil=>cases h
  | cons cl rr=>
   dsimp only at h;have ht:=hu.tok.1;have fin:∀{ρ':Hp} {p' q':Option Addr} {n' c' m' e':Nat} {ns':List Nd} {x:Nd},ns=ns'++[x]->B4 O2 ρ' pb p' n' c' q' m' e' r (out++ns'++[x])->R (.T #[]) (ρ'.set pb (pO p' n' c' d q' m' e')):=λhns h'=>hR _ _ _ _ _ _ _ (by rw[hns,<-AkC];exact h');by_cases e5:l=5
   .subst e5;rw[Ajl rfl]at h;have em:cl.minus=GN cl.kind cl.text 5 ⟨#[45]⟩:=Ajw Cl.minus ht;refine Be.start (BS hu ⟨_,rfl,λhf=>?_,λhtr=>?_⟩)
    .rw[em,hf,Ajj (by decide)]at h;have h1:=ih 6 d (cl::rr) r ns h (by omega) (by omega) VQ hd (R:=AY R (λz AE=>z=(.tuple #[])/\R (.T #[]) AE)) hu hb λρ' p' q' n' c' m' e' Bt=>⟨rfl,hR ρ' p' q' n' c' m' e' Bt⟩;rw[JK,Ajj (by decide)]at h1;exact h1
    .rw[em,htr,Ajl rfl]at h;by_cases mr:d=64
     .rw[Ajl mr]at h;cases h
     rw[Ajj mr]at h;obtain⟨x,hx,h⟩:=Kv h;obtain⟨r1,n1⟩:=x;simp only[Akh]at h;obtain⟨rfl,rfl⟩:=h;rw[Ajr,AkS]at hb;refine T8 Be.en hu ⟨VQ,by omega⟩ ?_;have h1:=ih 5 (d+1) rr r1 n1 hx (by omega) (by omega) (by omega) (by omega) (R:=AY (AY R λz AE=>z=.tuple #[]/\Spec prog 100 #[.pointer (aD pb 0),Qd lu none 0 0 none 0 0] AE (AY R (λz AK=>z=(.tuple #[])/\R (.T #[]) AK))) λz y=>z=.tuple #[]/\∃(ρ':Hp) (p' q':Option Addr) (n' c' m' e':Nat),y=ρ'.set pb (pO p' n' c' (d+1) q' m' e')/\AY R (λz AE=>z=.tuple #[]/\Spec prog 100 #[.pointer (aD pb 0),Qd lu none 0 0 none 0 0] AE (AY R (λz AK=>z=(.tuple #[])/\R (.T #[]) AK))) (.T #[]) (ρ'.set pb (pO p' n' c' d q' m' e'))) hu.step (by omega) λρ' p' q' n' c' m' e' Bt=>⟨rfl,ρ',p',q',n',c',m',e',rfl,rfl,?_⟩
     .rw[JK,Ajj (by decide)]at h1;exact h1
     .have Ri:(out++n1).length=m':=Bt.out.1.1;rw[Ajr]at Ri;exact CJ (x:=lu) Bt (by omega) ⟨rfl,[],⟨rfl,by omega,.inl rfl⟩,rfl,λi x hi=>by simp[lu]at hi⟩ ⟨rfl,by omega,.inl rfl⟩ λρ4 q4 e4 gi=>⟨rfl,fin rfl gi⟩
   rw[Ajj e5]at h;have elp:cl.lp=GN cl.kind cl.text 5 ⟨#[40]⟩:=Ajw Cl.lp ht;have brk:∀{O1 G:Hp} {p1 q1:Option Addr} {k1 c1 m1 e1:Nat} {AMr n1:List Nd} {uD r1:List Cl} {R1:Rr},pz f 7 d uD=some (r1,n1)->B4 O1 G pb p1 k1 c1 q1 m1 e1 uD AMr->m1+n1.length<=1000000->(∀(ρ':Hp) (p' q':Option Addr) (n' c' m' e':Nat),B4 O1 ρ' pb p' n' c' q' m' e' r1 (AMr++n1)->R1 (.T #[]) (ρ'.set pb (pO p' n' c' d q' m' e')))->Spec prog 241 #[.pointer (aD pb 0)] (G.set pb (pO p1 k1 c1 d q1 m1 e1)) R1:=fun {O1 G p1 q1 k1 c1 m1 e1 AMr n1 uD r1 R1} hz h1 JE hR1=>by
    have:=ih 7 d uD r1 n1 hz (by omega) (by omega) VQ hd h1 JE hR1;rw[JK,Ajj (by decide)]at this;exact this
   by_cases e6:l=6
   .subst e6;rw[Ajl rfl]at h;refine HW.start (BJ hu λa=>⟨_,_,_,_,rfl,λ_=>Yz hu λG b1 h1 x1 EB=>⟨_,_,_,rfl,DA EB ⟨_,rfl,Y0 h1 λρ2 b2 h2 x2 Ff=>⟨_,_,_,rfl,DA Ff ⟨_,rfl,?_⟩⟩⟩⟩⟩);have efn:cl.fn=Ja fnW cl.text:=Ajw Cl.fn ht;have eag:cl.ag=Ja agW cl.text:=Ajw Cl.ag ht;rw[<-efn,<-eag];by_cases k1:cl.kind=1
    .rw[Ajl k1]at h;simp only[Ajv,Akh]at h;obtain⟨rfl,rfl⟩:=h;refine⟨λ_=>BF h2 λa=>⟨_,_,_,_,rfl,?_⟩,λAv=>absurd k1 Av⟩;exact CJ (x:=xD cl.text) h2.step (by rw[AkS]at hb;omega) ⟨rfl,[],⟨rfl,by omega,.inl rfl⟩,rfl,λi x hi=>by simp[xD]at hi⟩ ⟨rfl,by omega,.inl rfl⟩ λρ4 q4 e4 gi=>⟨rfl,fin (ns':=[]) rfl (by rw[Akq];exact gi)⟩
    rw[Ajj k1]at h;refine⟨λhh=>absurd hh k1,λ_=>BS h2 ⟨_,rfl,λmC=>?_,λmC=>?_⟩⟩
    .rw[<-elp]at mC;rw[Ajl mC]at h;exact brk h h2 hb λρ' p' q' n' c' m' e' Bt=>⟨rfl,hR ρ' p' q' n' c' m' e' Bt⟩
    rw[<-elp]at mC;rw[Ajj (by rw[mC];decide)]at h;by_cases k3':cl.kind≠3
    .rw[Ajl k3']at h;cases h
    have k3:cl.kind=3:=AkK.1 k3';rw[Ajj k3']at h;by_cases kf:0<cl.fn
    .rw[Ajl kf]at h;obtain⟨x,hx,h⟩:=Kv h;obtain⟨r1,n1⟩:=x;simp only[Akh]at h;obtain⟨rfl,rfl⟩:=h;rw[Ajr,AkS]at hb;refine⟨λ_=>⟨λ_=>BF h2 λa=>⟨_,_,_,_,rfl,brk hx h2.step (by omega) λρ' p' q' n' c' m' e' Bt=>⟨rfl,?_⟩⟩,λhh=>absurd (by omega) hh⟩,λhh=>absurd k3 hh⟩;have Ri:(out++n1).length=m':=Bt.out.1.1;rw[Ajr]at Ri;exact CJ (x:=dQ cl.fn) Bt (by omega) ⟨rfl,[],⟨rfl,by omega,.inl rfl⟩,rfl,λi x hi=>by simp[dQ]at hi⟩ ⟨rfl,by omega,.inl rfl⟩ λρ4 q4 e4 gi=>⟨rfl,fin rfl gi⟩
    rw[Ajj kf]at h;refine⟨λ_=>⟨λhh=>absurd (by omega) kf,λ_=>⟨λ_=>⟨λhag=>?_,λhag=>?_⟩,λhh=>absurd k3 hh⟩⟩,λhh=>absurd k3 hh⟩
    .rw[Ajl (show 0<cl.ag by omega)]at h;obtain⟨g,hg,h⟩:=MA h;obtain⟨x,hx,h⟩:=Kv h;obtain⟨r1,n1⟩:=x;simp only[Akh]at h;obtain⟨rfl,rfl⟩:=h;rw[Ajr,AkS]at hb;refine BF h2 λa=>⟨_,_,_,_,rfl,λnb Hc=>T7 ?_⟩;refine qe h2.step Hc hg λρ3 p3 pn k3 c3 kn cn qf x3 Qe TE=>⟨rfl,Spec.AR Qe ?_⟩;have AC7:Fo 1 (ρ3.del q) pn kn (g.2.1.map .string):=TE.mono (h2.out.new x3);refine brk hx qf.Yy (by omega) λρ' p' q' n' c' m' e' Bt Mh=>⟨rfl,_,_,_,_,_,_,_,_,_,_,_,_,_,_,JJ (Hp.AA _ _ _),?_⟩;have Ri:(out++n1).length=m':=Bt.out.1.1;rw[Ajr]at Ri;have AC8:=Bt.base qf.out.2;refine Spec.AR Mh (CJ (x:=xE cl.ag g.1 g.2.1) AC8 (by omega) ⟨rfl,[],⟨rfl,by omega,.inl rfl⟩,rfl,λi x hi=>by simp[xE]at hi⟩ (AC7.mono Bt.out.2) λρ4 q4 e4 gi tz=>⟨rfl,?_⟩);obtain⟨k1,k2⟩:=gi.box (u:=Y1 5 cl.ag none 0 0 0 g.1 pn kn cn false 1) tz;rw[k2];exact fin rfl k1
    .rw[Ajj (show ¬0<cl.ag by omega)]at h;have Ab4:cl.big=decide (256<cl.text.size):=Ajw Cl.big ht;by_cases hke:(cl.kept||cl.big)=true
     .rw[Ajl hke]at h;cases h
     rw[Ajj hke]at h;rw[Bool.not_eq_true,Akz,Ab4,AkY]at hke;obtain⟨x,hx⟩:∃x,ns=[x]:=by
      unfold AGA at h;cases rr with
      | nil=>cases h
      | cons a r'=>
       dsimp only at h;split at h
       .cases h
       split at h
       .split at h
        .split at h
         .simp only[Ajv,Akh]at h;exact⟨_,h.2.symm⟩
         .cases h
        .cases h
       .split at h
        .cases h
        .simp only[Ajv,Akh]at h;exact⟨_,h.2.symm⟩
     subst hx;rw[AkS]at hb;exact choose_spec h2 k3 hke.1 (by omega) (by omega) h λρ' p' q' n' c' e' Bt=>⟨rfl,hR ρ' p' q' n' c' _ e' Bt⟩
   rw[Ajj e6]at h;have e7:l=7:=by omega
   subst e7;by_cases hc':¬(cl.lp=true/\d≠64)
   .rw[Ajj hc']at h;cases h
   have hc:=AkK.1 hc';rw[Ajl hc]at h;obtain⟨x,hx,h⟩:=MA h;obtain⟨r1,n1⟩:=x;dsimp only at h;cases r1 with
   | nil=>cases h
   | cons ee r'=>
    dsimp only at h;by_cases AUz:¬ee.rp=true
    .rw[Ajj AUz]at h;cases h
    have cH:=AkK.1 AUz;rw[Ajl cH]at h;simp only[Ajv,Akh]at h;obtain⟨rfl,rfl⟩:=h;refine B7.start λb1 JE=>?_;obtain⟨Av,Hc⟩:=Hp.AM JE;obtain⟨h1,h2⟩:=hu.box (u:=.cells #[.pointer (aD pb 0)] 76 (0,0)) JE;rw[h2];have lO:∀(ρ':Hp) (o:Obj),Ext (ρ.set b1 (.cells #[.pointer (aD pb 0)] 76 (0,0))) ρ'->ρ' pb=none->(ρ'.set pb o).ld ⟨b1,0,none⟩=some (.pointer (aD pb 0)):=λρ' o hx hn=>AJ ((Ext.set hn) _ _ (hx _ _ (Hp.AA _ _ _))) rfl;refine⟨aD pb 0,lO _ _ (.refl _) h1.pb,BS h1 ⟨_,rfl,λhf=>absurd ((elp.symm.trans hc.1).symm.trans hf) (by decide),λ_=>B7.A0 ⟨aD pb 0,lO _ _ (.refl _) h1.pb,?_⟩⟩⟩;refine T8 (fst:=#[]) (cap:=#[.pointer (aD b1 0)]) BU.en h1 ⟨VQ,by omega⟩ ?_;refine BU.start ⟨aD pb 0,lO _ _ (.refl _) h1.pb,?_⟩;have hqb:∀ao,q=some ao->ao.block≠b1:=λao ha e=>by
     have:=hu.out.1.2;obtain⟨cs,ho,_⟩:=this;exact ho.block ao ha (by rw[e];exact Hc)
    have BC:∀{ρ':Hp},Ext ((ρ.set b1 (.cells #[.pointer (aD pb 0)] 76 (0,0))).del q) ρ'->∀o,ρ' pb=none->(ρ'.set pb o).ld ⟨b1,0,none⟩=some (.pointer (aD pb 0)):=fun {ρ'} hx o hn=>by
     refine AJ ((Ext.set hn) _ _ (hx b1 (.cells #[.pointer (aD pb 0)] 76 (0,0)) ?_)) rfl;unfold Hp.del;cases q with
     | none=>exact Hp.AA _ _ _
     | some ao=>dsimp only;rw[Ajj (Aj4 (hqb ao rfl))];exact Hp.AA _ _ _
    have hor:JK 0 _ pb _:=ih 0 (d+1) rr (ee::r') n1 hx (by omega) (by omega) (by omega) (by omega) (R:=AY (AY (AY R (λz y=>z=(.tuple #[])/\R (.T #[]) y)) (λz y=>z=.tuple #[]/\∃(ρ':Hp) (p' q':Option Addr) (n' c' m' e':Nat),y=ρ'.set pb (pO p' n' c' (d+1) q' m' e')/\AY R (λz y=>z=(.tuple #[])/\R (.T #[]) y) (.T #[]) (ρ'.set pb (pO p' n' c' d q' m' e')))) (λz y=>z=(.tuple #[])/\LQ y b1 0 λq3=>Spec prog 137 #[.pointer q3,(.string (ByteArray.mk #[41]))] y (AY (AY (AY R (λz y=>z=(.tuple #[])/\R (.T #[]) y)) (λz y=>z=.tuple #[]/\∃(ρ':Hp) (p' q':Option Addr) (n' c' m' e':Nat),y=ρ'.set pb (pO p' n' c' (d+1) q' m' e')/\AY R (λz y=>z=(.tuple #[])/\R (.T #[]) y) (.T #[]) (ρ'.set pb (pO p' n' c' d q' m' e')))) (λz AE=>z=(.tuple #[])/\(AY (AY R (λz y=>z=(.tuple #[])/\R (.T #[]) y)) (λz y=>z=.tuple #[]/\∃(ρ':Hp) (p' q':Option Addr) (n' c' m' e':Nat),y=ρ'.set pb (pO p' n' c' (d+1) q' m' e')/\AY R (λz y=>z=(.tuple #[])/\R (.T #[]) y) (.T #[]) (ρ'.set pb (pO p' n' c' d q' m' e')))) (.T #[]) AE)))) h1.step.Yy (by omega) λρ2 p2 q2 n2 c2 m2 e2 Rh=>⟨rfl,aD pb 0,BC Rh.out.up _ Rh.pb,?_⟩
    .rw[JK,Ajj (by decide)]at hor;exact hor
    .have erp:GN ee.kind ee.text 5 ⟨#[41]⟩=true:=by rw[<-cH];exact(Ajw Cl.rp Rh.tok.1).symm
     exact QH Rh erp ⟨rfl,rfl,ρ2,_,q2,_,_,m2,e2,rfl,rfl,hR _ _ _ _ _ _ _ (Rh.step.base (h1.out.2))⟩
def T9 (u:UInt8):Bool:=decide ((97<=u.toNat/\u.toNat<=122)\/(65<=u.toNat/\u.toNat<=90)\/u.toNat=95\/u.toNat=58)
def JL (u:UInt8):Bool:=T9 u||C8 u
def DF (u:UInt8):Bool:=C8 u||(T9 u&&decide (u≠58))||decide (u=46)
def S1 (l:List UInt8):Int:=l.foldl (λv u=>10*v+((u.toNat:Int)-48)) 0
def Q7 (u:UInt8):Int:=if u=115 then 1 else if u=109 then 60 else if u=104 then 3600 else if u=100 then 86400 else 0
def MB (s:ByteArray):Int:=
 if AV s=0\/10<AV s\/s.data.toList[0]?=some 48\/AV s+1≠s.size then 0
 else let v:=S1 (s.data.toList.take (AV s))*Q7 (s.data.toList[AV s]?.getD 0);if 2147483648<=v then 0 else v
def Mq:List ByteArray:=[⟨#[61,61]⟩,⟨#[33,61]⟩,⟨#[60,61]⟩,⟨#[62,61]⟩,⟨#[61,126]⟩,⟨#[33,126]⟩]
def qg:List UInt8:=[60,62,61,43,45,42,47,40,41,123,125,91,93,44]
section
variable {Z22:Hp}{R:Rr}
theorem Qj {u:UInt8}{k:Nat}(G:k<256):((u.toNat:Nat):Int)=(k:Int)↔u=UInt8.ofNat k:=by
 constructor
 .intro h;apply Amx.1
  rw[Al3];omega
 .rintro rfl
  rw[Al3];omega
theorem CK {u:UInt8}(h:R (.returned (.bool (C8 u))) Z22):Spec prog 58 #[.int .u8 ((u.toNat:Nat):Int)] Z22 R:=by
 refine Ti.start ⟨λG=>?_,λG=>?_⟩
 .rw[show C8 u=decide (((u.toNat:Nat):Int)<=57) from Akr.2 ⟨λhh=>by omega,λhh=>by omega⟩]at h;exact h
 .rw[show C8 u=false from Aj1 (by omega)]at h;exact h
theorem CU {u:UInt8}(h:R (.returned (.bool (T9 u))) Z22):Spec prog 59 #[.int .u8 ((u.toNat:Nat):Int)] Z22 R:=by
 have yes:T9 u=true->R (.B true) Z22:=λe=>by rw[e]at h;exact h
 have no:¬(97<=u.toNat/\u.toNat<=122)->¬(65<=u.toNat/\u.toNat<=90)->Br (((u.toNat:Nat):Int)=95) (R (.B true) Z22) (R (.returned (.bool (decide (((u.toNat:Nat):Int)=58)))) Z22):=λn1 n2=>
  ⟨λe=>yes (Aj0 (by omega)),λe=>by
   rw[show T9 u=decide (((u.toNat:Nat):Int)=58) from Akr.2 ⟨λhh=>by omega,λhh=>by omega⟩]at h;exact h⟩
 exact Xj.start ⟨λh1=>⟨λh2=>yes (Aj0 (by omega)),λh2=>⟨λG=>⟨λh4=>yes (Aj0 (by omega)),λh4=>no (by omega) (by omega)⟩,λG=>no (by omega) (by omega)⟩⟩,
  λh1=>⟨λG=>⟨λh4=>yes (Aj0 (by omega)),λh4=>no (by omega) (by omega)⟩,λG=>no (by omega) (by omega)⟩⟩
theorem mD {s:ByteArray}{k:Nat}(G:k<AV s):∃u,s.data.toList[k]?=some u/\C8 u=true/\s.data[k]?=some u:=by
 unfold AV at G;obtain⟨t,ht⟩:(s.data.toList.takeWhile C8) <+: s.data.toList:=AlZ _;have e:=AkJ (l₂:=t) G;rw[ht]at e;have h2:=e.trans (Ajs G);refine⟨_,h2,?_,by rw[<-AkQ];exact h2⟩;have:=List.all_takeWhile (p:=C8) (l:=s.data.toList);exact Akk.1 this _ (AmH G)
theorem xV {l:List UInt8}{u:UInt8}:S1 (l++[u])=10*S1 l+((u.toNat:Int)-48):=by unfold S1;rw[AlB];rfl
theorem S2 {s:ByteArray}(hb:s.size<=4611686018427387904)(h:R (.returned (.I (MB s))) Z22):Spec prog 61 #[.string s] Z22 R:=by
 have hlen:s.data.toList.length=s.size:=AkP (xs:=s.data);have hle:=P7 s;have z:AV s=0\/10<AV s\/s.data.toList[0]?=some 48\/AV s+1≠s.size->R (.returned (.I 0)) Z22:=λhz=>by rw[show MB s=0 by unfold MB;rw[Ajl hz]]at h;exact h
 refine I0.start (JA hb ⟨_,rfl,λh0=>z (by omega),λh0=>⟨λMX=>z (by omega),λMX=>?_⟩⟩);obtain⟨u0,g1,g2,g3⟩:=mD (s:=s) (k:=0) (by omega);refine⟨u0,by omega,g3,λky=>z (.inr (.inr (.inl ?_))),λky=>⟨by unfold AL;omega,λKD=>z (by omega),λKD=>?_⟩⟩
 .rw[g1,(Qj (k:=48) (by decide)).1 ky];rfl
 have Av:¬(AV s=0\/10<AV s\/s.data.toList[0]?=some 48\/AV s+1≠s.size):=by
  rintro(G|G|G|G)
  .omega
  .omega
  .rw[g1]at G;exact ky ((Qj (k:=48) (by decide)).2 (Akj G))
  .omega
 have hs:MB s=if 2147483648<=S1 (s.data.toList.take (AV s))*Q7 (s.data.toList[AV s]?.getD 0) then 0 else S1 (s.data.toList.take (AV s))*Q7 (s.data.toList[AV s]?.getD 0):=by unfold MB;rw[Ajj Av]
 have fin:∀v:Int,v=S1 (s.data.toList.take (AV s))*Q7 (s.data.toList[AV s]?.getD 0)->I0.vP R v Z22:=λv hv=>by
  rw[hs,<-hv]at h;refine I0.AEj ⟨λG=>?_,λG=>?_⟩
  .rw[Ajl G]at h;exact h
  .rw[Ajj G]at h;exact h
 suffices H:∀g i:Nat,AV s-i=g->i<=AV s->0<=S1 (s.data.toList.take i)->S1 (s.data.toList.take i)<10^i->I0.AEi R s (AV s) (S1 (s.data.toList.take i)) i Z22 from H (AV s) 0 rfl (Ajy _) (by simp[S1]) (by simp[S1])
 intro g
 induction g with
 | zero=>
  intro i hg hi hv0 hv1;have hid:i=AV s:=by omega
  subst hid;obtain⟨u,Qy,Rh⟩:=byte_at (s:=s) (k:=AV s) (by omega);have hp:(10:Int)^AV s<=10^10:=by exact_mod_cast AmP (by decide) (show AV s<=10 by omega)
  have TF:s.data.toList[AV s]?.getD 0=u:=by rw[Rh];rfl
  rw[TF]at fin;refine I0.sJ ⟨λG=>by omega,λ_=>⟨u,by omega,by simpa using Qy,λe=>fin _ ?_,λn1=>⟨λe=>⟨by unfold AL;omega,fin _ ?_⟩,λn2=>⟨λe=>⟨by unfold AL;omega,fin _ ?_⟩,λn3=>⟨λe=>⟨by unfold AL;omega,fin _ ?_⟩,λn4=>?_⟩⟩⟩⟩⟩
  .rw[(Qj (k:=115) (by decide)).1 e];simp[Q7]
  .rw[(Qj (k:=109) (by decide)).1 e];simp[Q7]
  .rw[(Qj (k:=104) (by decide)).1 e];simp[Q7]
  .rw[(Qj (k:=100) (by decide)).1 e];simp[Q7]
  .have hz:Q7 u=0:=by
    unfold Q7;rw[Ajj (show ¬u=115 from λe=>n1 ((Qj (k:=115) (by decide)).2 e)),Ajj (show ¬u=109 from λe=>n2 ((Qj (k:=109) (by decide)).2 e)),Ajj (show ¬u=104 from λe=>n3 ((Qj (k:=104) (by decide)).2 e)),Ajj (show ¬u=100 from λe=>n4 ((Qj (k:=100) (by decide)).2 e))]
   rw[hs,TF,hz,Int.mul_zero,Ajj (by decide)]at h;exact h
 | succ g ih=>
  intro i hg hi hv0 hv1;have CO:i<AV s:=by omega
  obtain⟨u,Qy,Rh,qf⟩:=mD CO;have hp:(10:Int)^i<=10^9:=by exact_mod_cast AmP (by decide) (show i<=9 by omega)
  have hu:48<=u.toNat/\u.toNat<=57:=Ajx Rh;refine I0.sJ ⟨λ_=>⟨by unfold AL;omega,u,by omega,by simpa using qf,λfC e36 VA e37=>?_⟩,λG=>by omega⟩;have e1:fC=(u.toNat:Int)-48:=by
   rw[e36];simp[IntKind.wrap,IntKind.bits,IntKind.signed];omega
  have e2:VA=(u.toNat:Int)-48:=by
   rw[e37,e1];exact AL.wrap (by unfold AL;omega)
  subst e2;have ht:S1 (s.data.toList.take (i+1))=10*S1 (s.data.toList.take i)+((u.toNat:Int)-48):=by rw[AU Qy,xV]
  have Ah0:(10:Int)^(i+1)=10*10^i:=by rw[Int.pow_succ,Int.mul_comm]
  refine⟨by unfold AL;omega,AO CO (by omega),?_⟩;rw[<-ht];exact ih (i+1) (by omega) (by omega) (by omega) (by omega)
theorem AGS {p:Nat->Bool}{n:Nat}:(0:Int)<=(match (List.range n).find? p with | some i=>(i:Int) | none=>-1)↔∃i,i<n/\p i=true:=by
 cases h:(List.range n).find? p with
 | none=>
  rw[Amg]at h
  constructor
  .intro hh;simp at hh
  .rintro⟨i,hi,hp⟩;exact absurd hp (h i (AlK.2 hi))
 | some i=>
  have G:=List.find?_some h;have h2:=AlK.1 (List.mem_of_find?_eq_some h);exact⟨λ_=>⟨i,h2,G⟩,λ_=>AlU i⟩
theorem uE {s:ByteArray}{c:UInt8}:∃i:Int,(0<=i↔c∈s.data.toList)/\∀Z22:Hp,YN prog 136 #[.string s,.int .u8 ((c.toNat:Nat):Int)] Z22 (.I i):=by
 refine⟨match (List.range s.size).find? (λi=>s[i]! == c) with | some i=>(i:Int) | none=>-1,?_,λZ22 w _=>?_⟩
 .rw[AGS];have G:s.data.toList.length=s.size:=AkP (xs:=s.data)
  constructor
  .rintro⟨i,hi,hp⟩
   rw[AmL]at hp;rw[<-hp,AkW];refine⟨i,?_⟩;rw[AkQ,AlD hi]
   congr 1
   exact(AmQ s i hi).symm
  .intro hm;obtain⟨i,hi⟩:=AkW.1 hm;have Ax:=(Ajn.1 hi).1;refine⟨i,by omega,?_⟩;rw[AmL];rw[AkQ,AlD (by omega)]at hi;rw[<-Akj hi];exact AmQ s i (by omega)
 .rw[run_callFunc_extern Go.Proofs.Tryz.func136 (by kernel_rfl) (by kernel_rfl) (by kernel_rfl) (e:=Extern.BytealgIndexByte.indexByte) (by kernel_rfl)];have e:((c.toNat:Nat):Int).toNat.toUInt8=c:=by simp
  have hx:Extern.BytealgIndexByte.indexByte #[.string s,.int .u8 ((c.toNat:Nat):Int)]=(match (List.range s.size).find? (λi=>s[i]! == ((c.toNat:Nat):Int).toNat.toUInt8) with
   | some i=>pure (Value.int .i64 (i:Int))
   | none=>pure (Value.int .i64 (-1))):=rfl
  rw[hx,e];cases(List.range s.size).find? (λi=>s[i]! == c)<;>rfl
theorem AMs {s:ByteArray}:(decide (s=⟨#[61,61]⟩)||(decide (s=⟨#[33,61]⟩)||(decide (s=⟨#[60,61]⟩)||(decide (s=⟨#[62,61]⟩)||(decide (s=⟨#[61,126]⟩)||decide (s=⟨#[33,126]⟩))))))=Fa s Mq:=by
 unfold Fa Mq;simp only[AnE,List.any_nil,Bool.or_false]
theorem Uv {s:ByteArray}(hs:1<s.size)(G:Fa (s.extract 0 2) Mq=true)(h:R (.returned (.string (s.extract 0 2))) Z22):Spec prog 60 #[.string s] Z22 R:=by
 have tl:∀b,Fa (s.extract 0 2) Mq=b->C4.Fv R s b Z22:=λb hb=>by
  rw[G]at hb;subst hb;exact C4.Fm ⟨λ_=>⟨_,YL (h:=2) hs,h⟩,λhh=>by cases hh⟩
 refine C4.start ⟨λ_=>⟨_,YL (h:=2) hs,λh1=>tl _ ?_,λh1=>⟨λG=>tl _ ?_,λG=>⟨λh3=>tl _ ?_,λh3=>⟨λh4=>tl _ ?_,λh4=>⟨λh5=>tl _ ?_,λh5=>tl _ ?_⟩⟩⟩⟩⟩,λhh=>by omega⟩ <;>
 .simp only[iH]at *;rw[<-AMs];simp only[*,Amv,AmV,Ak8]
theorem Uw {s:ByteArray}{c:UInt8}(hc:s.data.toList[0]?=some c)(h2:1<s.size->Fa (s.extract 0 2) Mq=false)(hc1:c∈qg)(h:R (.returned (.string (s.extract 0 1))) Z22):Spec prog 60 #[.string s] Z22 R:=by
 have KD:0<s.size:=(Ajn.1 hc).1;have G:C4.AAz R s Z22:=by
  obtain⟨i,hi,hy⟩:=uE (s:=⟨#[60,62,61,43,45,42,47,40,41,123,125,91,93,44]⟩) (c:=c);refine C4.sV ⟨c,by omega,by simpa using hc,Gr.start (B0.start (.y (hy Z22) ⟨_,rfl,_,rfl,_,rfl,λ_=>⟨_,YL (h:=1) KD,h⟩,λhh=>absurd (hi.2 hc1) hh⟩))⟩
 have tl:∀b,Fa (s.extract 0 2) Mq=b->1<s.size->C4.Fv R s b Z22:=λb hb h1=>by
  rw[h2 h1]at hb;subst hb;exact C4.Fm ⟨λhh=>by (cases hh),λ_=>G⟩
 refine C4.start ⟨λhg=>⟨_,YL (h:=2) (show 2<=s.size by omega),λh1=>tl _ ?_ (by omega),λh1=>⟨λh2=>tl _ ?_ (by omega),λh2=>⟨λh3=>tl _ ?_ (by omega),λh3=>⟨λh4=>tl _ ?_ (by omega),λh4=>⟨λh5=>tl _ ?_ (by omega),λh5=>tl _ ?_ (by omega)⟩⟩⟩⟩⟩,λ_=>G⟩ <;>
 .simp only[iH]at *;rw[<-AMs];simp only[*,Amv,AmV,Ak8]
end
def bA (l:List UInt8):ByteArray:=⟨l.toArray⟩
inductive Lx:List UInt8->List Cl->Prop
 | fin:Lx [] [Ut 0 ⟨#[]⟩ 0]
 | sp {l:List UInt8} {ts:List Cl}:Lx l ts->Lx (32::l) ts
 | word {c:UInt8} {w l:List UInt8} {ts:List Cl}:T9 c=true->C8 c=false->(∀u∈w,JL u=true)->(∀u,l.head?=some u->JL u=false)->Lx l ts->Lx (c::w++l) (Ut 3 (bA (c::w)) 0::ts)
 | num {c:UInt8} {w l:List UInt8} {ts:List Cl}:C8 c=true->(∀u∈w,DF u=true)->(∀u,l.head?=some u->DF u=false)->MB (bA (c::w))=0->Gv (bA (c::w))=true->Lx l ts->Lx (c::w++l) (Ut 1 (bA (c::w)) 0::ts)
 | span {c:UInt8} {w l:List UInt8} {ts:List Cl}:C8 c=true->(∀u∈w,DF u=true)->(∀u,l.head?=some u->DF u=false)->0<MB (bA (c::w))->Lx l ts->Lx (c::w++l) (Ut 2 (bA (c::w)) (MB (bA (c::w)))::ts)
 | one {c:UInt8} {l:List UInt8} {ts:List Cl}:c∈qg->(∀u,l.head?=some u->Fa (bA [c,u]) Mq=false)->Lx l ts->Lx (c::l) (Ut 5 (bA [c]) 0::ts)
 | two {c u:UInt8} {l:List UInt8} {ts:List Cl}:Fa (bA [c,u]) Mq=true->Lx l ts->Lx (c::u::l) (Ut 5 (bA [c,u]) 0::ts)
theorem S3 (s:ByteArray)(i j:Nat):(s.extract i j).data.toList=(s.data.toList.drop i).take (j-i):=by
 rw[AmB,AmO,List.extract_eq_drop_take]
theorem MD {s:ByteArray}{i:Nat}{a l:List UInt8}(h:s.data.toList.drop i=a++l):s.extract i (i+a.length)=bA a:=by
 apply AmE
 apply AkD.1
 rw[S3,h,Al6,List.take_left']
 .rfl
 .rfl
theorem B5 {α:Type}{x:List α}{i:Nat}{a l:List α}(h:x.drop i=a++l):x.drop (i+a.length)=l:=by
 rw[<-Am4,h,List.drop_left]
theorem E2 {s:ByteArray}{i:Nat}{c:UInt8}{l:List UInt8}(h:s.data.toList.drop i=c::l):i<s.size/\s.data[i]?=some c:=by
 have G:s.data.toList[i]?=some c:=by
  have:=Ajw (·[0]?) h;simpa[AkL] using this
 have:=(Ajn.1 G).1;exact⟨this,by rw[<-AkQ];exact G⟩
section
variable {Z22 Z0:Hp}{R:Rr}{s:ByteArray}
theorem Yx.one {Z22:Hp}{vs:List Value}{x:Cl}(h:Yx Z22 vs x):FL vs:=by
 obtain⟨_,a,rfl⟩:=h;intro u G;simp only[Ajo,Aj7,Akc]at G;rcases G with rfl|rfl|rfl|rfl<;>rfl
theorem Hh {p:Option Addr}{n c:Nat}{C9:List Cl}{k a v:Int}{t:ByteArray}{G:Option Addr->Nat->Nat->Hp->Prop}(h:AN 4 Yx Z0 Z22 p n c C9)(hb:n<=1000000)
  (hG:∀(p':Option Addr) (c':Nat) (y:Hp),AN 4 Yx Z0 y p' (n+1) c' (C9++[Ut k t v])->G p' (n+1) c' y) :
  Al Z22 λb=>AI prog (Builtin.append_ #[73,73] 73 #[.slice p n c,(.slice (aD b 0) 1 1)]) (Hp.set Z22 b (.cells #[.I k,.I a,.string t,.I v] 83 (0,0))) (CS λp' n' c' y=>G p' n' c' y):=λb LD=>by
 have he:Yx (Z22.del p) [.I k,.I a,.string t,.I v] (Ut k t v):=⟨rfl,a,rfl⟩;exact AN.FN Yx.mono h rfl he.one he (by omega) (λp' c' Z' ho hx=>⟨_,_,_,rfl,hG p' c' Z' ho⟩) LD
theorem dY {p:Option Addr}{n c i:Nat}{x7a x7b x7d:Int}{s7c:ByteArray}{w l:List UInt8}(hb:s.size<=1000000)(hl:∀u,l.head?=some u->JL u=false)(hw:∀u∈w,JL u=true)
  (h:Al Z22 λb=>AI prog (Builtin.append_ #[73,73] 73 #[.slice p n c,(.slice (aD b 0) 1 1)]) (Hp.set Z22 b (.cells #[.I 3,.I (i:Int),.string (bA w),.I 0] 83 (0,0))) (CS λp' n' c' y=>AS.JY R s p' n' c' x7a x7b s7c x7d ((i+w.length:Nat):Int) y))
  (hd:s.data.toList.drop i=w++l) (hi:i<=s.size):∀g j:Nat,w.length-j=g->j<=w.length->AS.Xq R s p n c x7a x7b s7c x7d ((i+j:Nat):Int) (i:Int) Z22:=by
 have hlen:s.data.toList.length=s.size:=AkP (xs:=s.data);have KD:i+w.length+l.length=s.size:=by
  have:=Ajw List.length hd;rw[Aj6,Ajr]at this;omega
 have fin:∃kR,YF prog (Instr.sliceAt 9 (.string s) (some (.I (i:Int))) (some (.I ((i+w.length:Nat):Int))) none) Z22 (.string kR)/\Al Z22 λkS=>AI prog (Builtin.append_ #[73,73] 73 #[.slice p n c,(.slice (aD kS 0) 1 1)]) (Hp.set Z22 kS (.cells #[.I 3,.I (i:Int),.string kR,.I 0] 83 (0,0))) (CS λABE n154 ABF y=>AS.JY R s ABE n154 ABF x7a x7b s7c x7d ((i+w.length:Nat):Int) y):=
  ⟨_,fY (by omega) (by omega),by rw[MD hd];exact h⟩
 intro g
 induction g with
 | zero=>
  intro j hg hj;have S7:j=w.length:=by omega
  subst S7;refine AS.kQ ⟨λAx=>?_,λ_=>fin⟩;cases l with
  | nil=>simp at KD;omega
  | cons u l=>
   obtain⟨h1,h2⟩:=E2 (B5 hd);have G:JL u=false:=hl u rfl;unfold JL at G;rw[Akz]at G;exact⟨u,by omega,by rw[Aj9];exact h2,CU ⟨_,rfl,λtt=>absurd (G.1.symm.trans tt) (by decide),λ_=>⟨u,by omega,by rw[Aj9];exact h2,CK ⟨_,rfl,λtt=>absurd (G.2.symm.trans tt) (by decide),λ_=>fin⟩⟩⟩⟩
 | succ g ih=>
  intro j hg hj;have S7:j<w.length:=by omega
  obtain⟨u,hu⟩:∃u,w[j]?=some u:=⟨_,Ajs S7⟩;have h2:s.data[i+j]?=some u:=by
   rw[<-AkQ];have:=Ajw (·[j]?) hd;simp only[AkL]at this;rw[this,AkJ S7,hu]
  have G:=hw u (Aju hu);have next:AL (((i+j:Nat):Int)+1)/\AS.Xq R s p n c x7a x7b s7c x7d (((i+j:Nat):Int)+1) (i:Int) Z22:=⟨by unfold AL;omega,by
   have:=ih (j+1) (by omega) (by omega);rw[show((i+(j+1):Nat):Int)=((i+j:Nat):Int)+1 by omega]at this;exact this⟩
  refine AS.kQ ⟨λ_=>⟨u,by omega,by rw[Aj9];exact h2,CU ⟨_,rfl,λ_=>next,λfl=>⟨u,by omega,by rw[Aj9];exact h2,CK ⟨_,rfl,λ_=>next,λfd=>?_⟩⟩⟩⟩,λhh=>by omega⟩;unfold JL at G;rw[fl,fd]at G;cases G
theorem mE {p:Option Addr}{n c i:Nat}{x7a x7b x7d:Int}{s7c:ByteArray}{w l:List UInt8}(hb:s.size<=1000000)(hl:∀u,l.head?=some u->DF u=false)(hw:∀u∈w,DF u=true)
  (h:if 0<MB (bA w) then AS.IN R s p n c 2 (i:Int) (bA w) (MB (bA w)) ((i+w.length:Nat):Int) Z22 else Gv (bA w)=true/\AS.IN R s p n c 1 (i:Int) (bA w) (MB (bA w)) ((i+w.length:Nat):Int) Z22)
  (hd:s.data.toList.drop i=w++l) (hi:i<=s.size):∀g j:Nat,w.length-j=g->j<=w.length->AS.Xp R s p n c x7a x7b s7c x7d ((i+j:Nat):Int) (i:Int) Z22:=by
 have hlen:s.data.toList.length=s.size:=AkP (xs:=s.data);have KD:i+w.length+l.length=s.size:=by
  have:=Ajw List.length hd;rw[Aj6,Ajr]at this;omega
 have hbw:(bA w).size<=1000000:=by
  have:(bA w).size=w.length:=by simp[bA,ByteArray.size]
  omega
 have fin:∃Gt,YF prog (Instr.sliceAt 9 (.string s) (some (.I (i:Int))) (some (.I ((i+w.length:Nat):Int))) none) Z22 (.string Gt)/\Spec prog 61 #[.string Gt] Z22 (AY R (CI .i64 λLp y=>Br (0<Lp) (AS.IN R s p n c 2 (i:Int) Gt Lp ((i+w.length:Nat):Int) y) (Spec prog 62 #[.string Gt] y (AY R (CB λt121 AE=>Bn t121 (R (.T #[.N,.I (i:Int),.I 172]) AE) (AS.IN R s p n c 1 (i:Int) Gt Lp ((i+w.length:Nat):Int) AE)))))):=by
  refine⟨_,fY (by omega) (by omega),?_⟩;rw[MD hd];refine S2 (by omega) ⟨_,rfl,λhp=>?_,λhp=>JC (by omega) ?_⟩
  .rw[Ajl hp]at h;exact h
  .rw[Ajj hp]at h;exact⟨_,rfl,λhf=>absurd (h.1.symm.trans hf) (by decide),λ_=>h.2⟩
 intro g
 induction g with
 | zero=>
  intro j hg hj;have S7:j=w.length:=by omega
  subst S7;refine AS.Vk ⟨λAx=>?_,λ_=>fin⟩;cases l with
  | nil=>simp at KD;omega
  | cons u l=>
   obtain⟨h1,h2⟩:=E2 (B5 hd);have G:DF u=false:=hl u rfl;unfold DF at G;rw[Akz,Akz,AkY]at G;have YO:¬((u.toNat:Nat):Int)=46:=λe=>G.2 ((Qj (k:=46) (by decide)).1 e);refine⟨u,by omega,by rw[Aj9];exact h2,CK ⟨_,rfl,λtt=>absurd (G.1.1.symm.trans tt) (by decide),λ_=>⟨u,by omega,by rw[Aj9];exact h2,CU ⟨_,rfl,λtl=>⟨u,by omega,by rw[Aj9];exact h2,λh58=>?_,λ_=>⟨u,by omega,by rw[Aj9];exact h2,λe=>absurd e YO,λ_=>fin⟩⟩,λ_=>⟨u,by omega,by rw[Aj9];exact h2,λe=>absurd e YO,λ_=>fin⟩⟩⟩⟩⟩;have:=G.1.2;rw[tl,Ak1,AkY]at this;exact absurd (λe=>h58 ((Qj (k:=58) (by decide)).2 e)) this
 | succ g ih=>
  intro j hg hj;have S7:j<w.length:=by omega
  obtain⟨u,hu⟩:∃u,w[j]?=some u:=⟨_,Ajs S7⟩;have h2:s.data[i+j]?=some u:=by
   rw[<-AkQ];have:=Ajw (·[j]?) hd;simp only[AkL]at this;rw[this,AkJ S7,hu]
  have G:=hw u (Aju hu);have next:AL (((i+j:Nat):Int)+1)/\AS.Xp R s p n c x7a x7b s7c x7d (((i+j:Nat):Int)+1) (i:Int) Z22:=⟨by unfold AL;omega,by
   have:=ih (j+1) (by omega) (by omega);rw[show((i+(j+1):Nat):Int)=((i+j:Nat):Int)+1 by omega]at this;exact this⟩
  refine AS.Vk ⟨λ_=>⟨u,by omega,by rw[Aj9];exact h2,CK ⟨_,rfl,λ_=>next,λfd=>⟨u,by omega,by rw[Aj9];exact h2,CU ⟨_,rfl,λtl=>⟨u,by omega,by rw[Aj9];exact h2,λ_=>next,λUQ=>⟨u,by omega,by rw[Aj9];exact h2,λ_=>next,λn46=>?_⟩⟩,λfl=>⟨u,by omega,by rw[Aj9];exact h2,λ_=>next,λn46=>?_⟩⟩⟩⟩⟩,λhh=>by omega⟩
  .exfalso;unfold DF at G;rw[fd,Ak8,Alh,Ajz,Aj3,Aj3]at G;rcases G with G|G
   .exact UQ λe=>G.2 ((Qj (k:=58) (by decide)).1 e)
   .exact n46 ((Qj (k:=46) (by decide)).2 G)
  .exfalso;unfold DF at G;rw[fd,fl,Ak8,Aku,Ak8,Aj3]at G;exact n46 ((Qj (k:=46) (by decide)).2 G)
theorem AMt {c:UInt8}(h:c∈qg):c.toNat≠32/\c.toNat≠9/\c.toNat≠13/\c.toNat≠10/\c.toNat≠34/\C8 c=false/\T9 c=false:=by
 have:∀c∈qg,c.toNat≠32/\c.toNat≠9/\c.toNat≠13/\c.toNat≠10/\c.toNat≠34/\C8 c=false/\T9 c=false:=by decide
 exact this c h
theorem AMu {c u:UInt8}(h:Fa (bA [c,u]) Mq=true):c.toNat≠32/\c.toNat≠9/\c.toNat≠13/\c.toNat≠10/\c.toNat≠34/\C8 c=false/\T9 c=false:=by
 rw[kZ]at h;have:∀x∈Mq,∀c,x.data.toList[0]?=some c->c.toNat≠32/\c.toNat≠9/\c.toNat≠13/\c.toNat≠10/\c.toNat≠34/\C8 c=false/\T9 c=false:=by
  intro x hx c G;simp only[Mq,Ajo,Aj7,Akc]at hx;rcases hx with rfl|rfl|rfl|rfl|rfl|rfl<;>(simp at G;subst G;decide)
 exact this _ h c rfl
theorem AMv {l:List UInt8}{ts:List Cl}(h:Lx l ts)(hb:s.size<=1000000):∀{i n c:Nat} {Z22:Hp} {p:Option Addr} {C9:List Cl} {x7a x7b x7d:Int} {s7c:ByteArray},s.data.toList.drop i=l->i<=s.size->AN 4 Yx Z0 Z22 p n c C9->n+ts.length<=1000000->
  (∀(Z':Hp) (p':Option Addr) (n' c':Nat),AN 4 Yx Z0 Z' p' n' c' (C9++ts)->R (.T #[.slice p' n' c',.I 0,.I 0]) Z')->AS.JY R s p n c x7a x7b s7c x7d (i:Int) Z22:=by
 have hlen:s.data.toList.length=s.size:=AkP (xs:=s.data);have sgn:∀{i n c:Nat} {Z22:Hp} {p:Option Addr} {C9:List Cl} {x7a x7b x7d:Int} {s7c:ByteArray} {c0:UInt8} {l:List UInt8} (w:List UInt8),s.data.toList.drop i=c0::l->(c0.toNat≠32/\c0.toNat≠9/\c0.toNat≠13/\c0.toNat≠10/\c0.toNat≠34/\C8 c0=false/\T9 c0=false)->w≠[]->i+w.length<=s.size->
   (∀R':Rr,R' (.returned (.string (bA w))) Z22->Spec prog 60 #[.string (s.extract i s.size)] Z22 R')->AN 4 Yx Z0 Z22 p n c C9->n<=1000000->(∀(p':Option Addr) (c':Nat) (y:Hp),AN 4 Yx Z0 y p' (n+1) c' (C9++[Ut 5 (bA w) 0])->AS.JY R s p' (n+1) c' x7a x7b s7c x7d ((i+w.length:Nat):Int) y)->
   AS.JY R s p n c x7a x7b s7c x7d (i:Int) Z22:=fun {i n c Z22 p C9 x7a x7b x7d s7c c0 l} w hd G hw hle hsg ho hn hG=>by
  obtain⟨h1,h2⟩:=E2 hd;obtain⟨k1,k2,k3,k4,k5,k6,k7⟩:=G;have hws:(bA w).size=w.length:=by simp[bA,ByteArray.size]
  have hwp:0<w.length:=Amc.2 hw;refine AS.IY ⟨λhh=>by omega,λ_=>⟨c0,by omega,by rw[Aj9];exact h2,λe=>absurd e (by omega),λ_=>⟨λe=>absurd e (by omega),λ_=>⟨λe=>absurd e (by omega),λ_=>⟨λe=>absurd e (by omega),λ_=>CK ⟨_,rfl,λtt=>absurd (k6.symm.trans tt) (by decide),λ_=>CU ⟨_,rfl,λtt=>absurd (k7.symm.trans tt) (by decide),λ_=>⟨λe=>absurd e (by omega),λ_=>⟨_,P8 (by omega),hsg _ ⟨_,rfl,λ_=>Hh ho hn λp' c' y EM=>⟨by unfold AL;omega,?_⟩,λhe=>?_⟩⟩⟩⟩⟩⟩⟩⟩⟩⟩
  .have:=hG p' c' y EM;rw[hws,show((i+w.length:Nat):Int)=(i:Int)+(w.length:Int) by omega]at *;exact this
  .rw[kY,Aj3]at he;omega
 induction h with
 | fin=>
  intro i n c Z22 p C9 x7a x7b x7d s7c hd hi ho hn hR;have:s.size<=i:=by
   have:=Ajw List.length hd;rw[Aj6]at this;simp at this;omega
  refine AS.IY ⟨λ_=>Hh ho (by simp at hn;omega) λp' c' y EM=>hR y p' _ c' EM,λhh=>by omega⟩
 | @sp l ts h ih=>
  intro i n c Z22 p C9 x7a x7b x7d s7c hd hi ho hn hR;obtain⟨h1,h2⟩:=E2 hd;have hd':s.data.toList.drop (i+1)=l:=B5 (a:=[32]) hd;exact AS.IY ⟨λhh=>by omega,λ_=>⟨32,by omega,by rw[Aj9];exact h2,λ_=>⟨by unfold AL;omega,ih hd' h1 ho hn hR⟩,λhh=>absurd (by decide) hh⟩⟩
 | @word c0 w l ts G aK hw hl h ih=>
  intro i n c Z22 p C9 x7a x7b x7d s7c hd hi ho hn hR;obtain⟨h1,h2⟩:=E2 (l:=w++l) hd;have hlc:=Ajx G;rw[Ajk]at hn;have hlw:i+(w.length+1)<=s.size:=by
   have:=Ajw List.length hd;rw[Aj6,Ajr,Ajk]at this;omega
  refine AS.IY ⟨λhh=>by omega,λ_=>⟨c0,by omega,by rw[Aj9];exact h2,λe=>absurd e (by omega),λ_=>⟨λe=>absurd e (by omega),λ_=>⟨λe=>absurd e (by omega),λ_=>⟨λe=>absurd e (by omega),λ_=>CK ⟨_,rfl,λtt=>absurd (aK.symm.trans tt) (by decide),λ_=>CU ⟨_,rfl,λ_=>?_,λff=>absurd (G.symm.trans ff) (by decide)⟩⟩⟩⟩⟩⟩⟩;refine dY (w:=c0::w) hb hl (λu hu=>?_) (Hh ho (by omega) λp' c' y EM=>ih (B5 hd) (by rw[Ajk];omega) EM (by omega) λZ' p2 n2 c2 B6=>hR Z' p2 n2 c2 (by rw[AkC]at B6;exact B6)) hd hi (w.length+1) 0 rfl (Ajy _);rcases Ajo.1 hu with rfl|hu
  .unfold JL;rw[G];rfl
  .exact hw u hu
 | @num c0 w l ts G hw hl hs ht h ih=>
  intro i n c Z22 p C9 x7a x7b x7d s7c hd hi ho hn hR;obtain⟨h1,h2⟩:=E2 (l:=w++l) hd;have hlc:=Ajx G;rw[Ajk]at hn;have hlw:i+(w.length+1)<=s.size:=by
   have:=Ajw List.length hd;rw[Aj6,Ajr,Ajk]at this;omega
  refine AS.IY ⟨λhh=>by omega,λ_=>⟨c0,by omega,by rw[Aj9];exact h2,λe=>absurd e (by omega),λ_=>⟨λe=>absurd e (by omega),λ_=>⟨λe=>absurd e (by omega),λ_=>⟨λe=>absurd e (by omega),λ_=>CK ⟨_,rfl,λ_=>?_,λff=>absurd (G.symm.trans ff) (by decide)⟩⟩⟩⟩⟩⟩;refine mE (w:=c0::w) hb hl (λu hu=>?_) ?_ hd hi (w.length+1) 0 rfl (Ajy _)
  .rcases Ajo.1 hu with rfl|hu
   .unfold DF;rw[G];rfl
   .exact hw u hu
  .rw[hs,Ajj (by decide)];exact⟨ht,AS.Xs (Hh ho (by omega) λp' c' y EM=>ih (B5 hd) (by rw[Ajk];omega) EM (by omega) λZ' p2 n2 c2 B6=>hR Z' p2 n2 c2 (by rw[AkC]at B6;exact B6))⟩
 | @span c0 w l ts G hw hl hs h ih=>
  intro i n c Z22 p C9 x7a x7b x7d s7c hd hi ho hn hR;obtain⟨h1,h2⟩:=E2 (l:=w++l) hd;have hlc:=Ajx G;rw[Ajk]at hn;have hlw:i+(w.length+1)<=s.size:=by
   have:=Ajw List.length hd;rw[Aj6,Ajr,Ajk]at this;omega
  refine AS.IY ⟨λhh=>by omega,λ_=>⟨c0,by omega,by rw[Aj9];exact h2,λe=>absurd e (by omega),λ_=>⟨λe=>absurd e (by omega),λ_=>⟨λe=>absurd e (by omega),λ_=>⟨λe=>absurd e (by omega),λ_=>CK ⟨_,rfl,λ_=>?_,λff=>absurd (G.symm.trans ff) (by decide)⟩⟩⟩⟩⟩⟩;refine mE (w:=c0::w) hb hl (λu hu=>?_) ?_ hd hi (w.length+1) 0 rfl (Ajy _)
  .rcases Ajo.1 hu with rfl|hu
   .unfold DF;rw[G];rfl
   .exact hw u hu
  .rw[Ajl hs];exact AS.Xs (Hh ho (by omega) λp' c' y EM=>ih (B5 hd) (by rw[Ajk];omega) EM (by omega) λZ' p2 n2 c2 B6=>hR Z' p2 n2 c2 (by rw[AkC]at B6;exact B6))
 | @one c0 l ts G h2 h ih=>
  intro i n c Z22 p C9 x7a x7b x7d s7c hd hi ho hn hR;obtain⟨k1,k2⟩:=E2 hd;rw[Ajk]at hn;have hex:(s.extract i s.size).data.toList=c0::l:=by rw[S3,hd];exact Ajq (by have:=Ajw List.length hd;rw[Aj6]at this;omega)
  have e1:(s.extract i s.size).extract 0 1=bA [c0]:=MD (i:=0) (a:=[c0]) (l:=l) hex;refine sgn [c0] hd (AMt G) (by simp) (by rw[AkS];omega) (λR' Mx=>Uw (c:=c0) (by rw[hex];rfl) (λhg=>?_) G (by rw[e1];exact Mx)) ho (by omega) λp' c' y EM=>ih (B5 (a:=[c0]) hd) (by rw[AkS];omega) EM (by omega) λZ' p2 n2 c2 B6=>hR Z' p2 n2 c2 (by rw[AkC]at B6;exact B6);cases l with
  | nil=>
   have:(s.extract i s.size).size=1:=by
    have:=Ajw List.length hex;exact this
   omega
  | cons u l=>
   have e2:(s.extract i s.size).extract 0 2=bA [c0,u]:=MD (i:=0) (a:=[c0,u]) (l:=l) hex;rw[e2];exact h2 u rfl
 | @two c0 u l ts h2 h ih=>
  intro i n c Z22 p C9 x7a x7b x7d s7c hd hi ho hn hR;obtain⟨k1,k2⟩:=E2 hd;rw[Ajk]at hn;have hex:(s.extract i s.size).data.toList=c0::u::l:=by rw[S3,hd];exact Ajq (by have:=Ajw List.length hd;rw[Aj6]at this;omega)
  have e2:(s.extract i s.size).extract 0 2=bA [c0,u]:=MD (i:=0) (a:=[c0,u]) (l:=l) hex;have KD:i+2<=s.size:=by
   have:=Ajw List.length hd;rw[Aj6,Ajk,Ajk]at this;omega
  have hes:1<(s.extract i s.size).size:=by
   have:=Ajw List.length hex;rw[Ajk,Ajk]at this;have:(s.extract i s.size).size=l.length+2:=this;omega
  exact sgn [c0,u] hd (AMu h2) (by simp) (by simpa using KD) (λR' Mx=>Uv hes (by rw[e2];exact h2) (by rw[e2];exact Mx)) ho (by omega) λp' c' y EM=>ih (B5 (a:=[c0,u]) hd) (by simpa using KD) EM (by omega) λZ' p2 n2 c2 B6=>hR Z' p2 n2 c2 (by rw[AkC]at B6;exact B6)
theorem AC9 {ts:List Cl}(h:Lx s.data.toList ts)(hb:s.size<=4096)(hn:ts.length<=100000)
  (hR:∀(Z':Hp) (p':Option Addr) (G c':Nat),AN 4 Yx Z22 Z' p' G c' ts->R (.T #[.slice p' G c',.I 0,.I 0]) Z'):Spec prog 28 #[.string s] Z22 R:=
 AS.start λ_=>⟨λhh=>by omega,λ_=>AMv h (by omega) (i:=0) rfl (Ajy _) (AN.nil (.refl _)) (by omega) hR⟩
end
theorem xW (w:World):(binOp BinOp.neq 20 .nilIface .nilIface).run prog w=.ok (.bool false) w:=by kernel_rfl
theorem Y5 (p q r:Value)(w:World):CallsD prog 29 #[p,q,r] .returning w λe u' w'=>e=.T #[]/\u'=.returning/\w'=w:=by
 refine callsD_of_wpS func29 rfl λG cs hu=>?_;apply wpS_seq
 apply wpS_region
 simp[wpOpsS,go_sem,recoverD,hu,Exit.thenS];apply wpS_seq
 apply wpS_region
 simp[wpOpsS,go_sem,Exit.thenS,xW];refine wpS_cond (t:=false) (by simp[Act.eval,Array.replicate,ntmps29]) ?_;simp only[AlF,AlE];refine wpS_of_wp (wp_skip ?_);cases G
 simp_all [bodyPostS,results,results29,Exit.thenS]
theorem BA {w:World}{b:Nat}{x v:Value}{T:TypeId}(h:w.heap[b]?=some (.cells #[x] T (0,0))):(w.setCell ⟨b,0,none⟩ v).heap[b]?=some (.cells #[v] T (0,0))/\(∀k,k≠b->(w.setCell ⟨b,0,none⟩ v).heap[k]?=w.heap[k]?)/\(w.setCell ⟨b,0,none⟩ v).heap.size=w.heap.size:=by
 have Ax:b<w.heap.size:=(Aj2.1 h).1;refine⟨?_,λk G=>?_,by simp[World.setCell]⟩
 .simp only[World.setCell,AlJ,AlG,h];rfl
 .simp only[World.setCell,AlJ,Ajj (Aj4 G)]
theorem Du {w:World}{b:Nat}{x:Value}{T:TypeId}(h:w.heap[b]?=some (.cells #[x] T (0,0))):w.cell? ⟨b,0,none⟩=some x/\w.frozen? ⟨b,0,none⟩=false:=by
 simp only[World.cell?,World.frozen?,h];exact⟨rfl,rfl⟩
theorem AI4 {w:World}{b i:Nat}{c:Array Value}{v:Value}{T:TypeId}(h:w.heap[b]?=some (.cells c T (0,0)))(hv:c[i]?=some v):w.cell? ⟨b,i,none⟩=some v:=by
 simp only[World.cell?,h];exact hv
set_option maxRecDepth 100000 in
theorem ADA (s:ByteArray)(w w1:World)(av:w1=((w.alloc (.cells #[.N] 32)).alloc (.cells #[.I 0] 3)).alloc (.cells #[.I 0] 24)){R:Ending->World->Prop}
  (h:Calls prog 28 #[.string s] w1 λe G=>∃p n c,e=.T #[.slice p n c,.I 0,.I 0]/\G.heap[w.heap.size]?=some (.cells #[.N] 32 (0,0))/\G.heap[w.heap.size+1]?=some (.cells #[.I 0] 3 (0,0))/\G.heap[w.heap.size+1+1]?=some (.cells #[.I 0] 24 (0,0))/\
   Calls prog 30 #[.pointer (aD G.heap.size 0)] (((G.setCell ⟨w.heap.size+1,0,none⟩ (.I 0)).setCell ⟨w.heap.size+1+1,0,none⟩ (.I 0)).alloc (.cells #[.slice p n c,.I 0,.N] 78)) λe w4=>e=.T #[]/\
   Calls prog 31 #[.pointer (aD G.heap.size 0)] w4 λe w5=>∃(a v:Int) (t:ByteArray) (p:Option Addr) (n c:Nat) (q:Option Addr) (m k:Nat),e=.returned (.agg #[.I 0,.I a,.string t,.I v])/\w5.heap[w.heap.size]?=some (.cells #[.N] 32 (0,0))/\w5.heap[w.heap.size+1]?=some (.cells #[.I 0] 3 (0,0))/\w5.heap[w.heap.size+1+1]?=some (.cells #[.I 0] 24 (0,0))/\
    w5.heap[G.heap.size]?=some (.cells #[.slice p n c,.I 0,.slice q m k] 78 (0,0))/\R (.T #[.slice q m k,.I 0,.I 0]) (((w5.setCell ⟨w.heap.size,0,none⟩ (.slice q m k)).setCell ⟨w.heap.size+1,0,none⟩ (.I 0)).setCell ⟨w.heap.size+1+1,0,none⟩ (.I 0))):Calls prog 8 #[.string s] w R:=by
 have hmf:∀(fn:Fn) (first cap:Array Value) (w:World),(Instr.makeFunc fn first cap).run prog w=.ok (.func fn first cap) w:=λ_ _ _ _=>rfl
 go_enter_defers func8,ntmps8
 go_wp2
 rename_i K1 ha1 K2 ha2;rw[<-av];refine h.mono ?_
 rintro e G ⟨p,n,c,rfl,xq,JE,Fi,h⟩
 obtain⟨c1,f1⟩:=Du JE;obtain⟨s1,s2,s3⟩:=BA (v:=.I 0) JE;have Y6:=Fi;rw[<-s2 _ (by omega)]at Y6;obtain⟨c2,f2⟩:=Du Y6;obtain⟨t1,t2,t3⟩:=BA (v:=.I 0) Y6;have c3:=Du t1;apply ha2
 go_wp2
 refine h.mono ?_
 rintro e w4 ⟨rfl,h⟩
 rename_i K3 ha3 K4 ha4;apply ha4
 go_wp2
 refine h.mono ?_
 rintro e w5 ⟨a,v,t,p5,n5,c5,q,m,k,rfl,g0,g1,g2,gp,hR⟩
 rename_i K6 ha6;have cq:w5.cell? ⟨G.heap.size,2,none⟩=some (.slice q m k):=AI4 gp rfl;obtain⟨d0,e0⟩:=Du g0;obtain⟨u1,u2,u3⟩:=BA (v:=.slice q m k) g0;have g1':=g1;rw[<-u2 _ (by omega)] at g1';obtain⟨d1,e1⟩:=Du g1';obtain⟨v1,v2,v3⟩:=BA (v:=.I 0) g1';have g2':=g2;rw[<-u2 _ (by omega),<-v2 _ (by omega)] at g2';obtain⟨d2,e2⟩:=Du g2';obtain⟨x1,x2,x3⟩:=BA (v:=.I 0) g2';have r2:=(Du x1).1;rw[<-x2 _ (by omega)]at v1;have r1:=(Du v1).1;rw[<-v2 _ (by omega),<-x2 _ (by omega)]at u1;have r0:=(Du u1).1;have hfl:∀w:World,(Instr.field 83 (.agg #[.I 0,.I a,.string t,.I v]) 0).run prog w=.ok (.I 0) w:=λw=>by kernel_rfl
 apply ha6
 go_wp2
 simp only[bodyPostD];refine leaves_cons (f:=29) (args:=#[.pointer (aD w.heap.size 0),.pointer (aD (w.heap.size+1) 0),.pointer (aD (w.heap.size+1+1) 0)]) (by simp) (by simp[go_sem]) ?_;refine(Y5 _ _ _ _).mono ?_
 rintro e u' w'' ⟨rfl,rfl,rfl⟩
 simp[Leaves,settle,results,results8,go_sem,r0,r1,r2];exact hR
theorem qh {s:ByteArray}{ts r:List Cl}{T:List Nd}{Z22:Hp}{R:Rr}{f:Nat}{cl:Cl}(hl:Lx s.data.toList ts)(hs:s.size<=4096)(hn:ts.length<=100000)(hT:T.length<=1000000)(hz:pz f 0 0 ts=some (cl::r,T))(G:cl.kind=0)
  (hR:∀(Z':Hp) (p:Option Addr) (n c:Nat),Ae 10 Ia Z' p n T->Ext Z22 Z'->R (.T #[.slice p n c,.I 0,.I 0]) Z'):Spec prog 8 #[.string s] Z22 R:=λw F V0 hF=>by
 have e1:(((w.alloc (.cells #[.N] 32)).alloc (.cells #[.I 0] 3)).alloc (.cells #[.I 0] 24)).heap=((w.heap.push (.cells #[.N] 32)).push (.cells #[.I 0] 3)).push (.cells #[.I 0] 24):=rfl;generalize av:((w.alloc (.cells #[.N] 32)).alloc (.cells #[.I 0] 3)).alloc (.cells #[.I 0] 24)=w1 at e1;have R6:w1.os=w.os/\w1.tape=w.tape/\w1.drawn=w.drawn/\w1.output=w.output:=by subst av;exact⟨rfl,rfl,rfl,rfl⟩
 have KD:w1.heap.size=w.heap.size+3:=by rw[e1];simp
 have hold:∀k:Nat,k<w.heap.size->w1.heap[k]?=w.heap[k]?:=λk G=>by
  rw[e1,AkB,Ajj (by simp;omega),AkB,Ajj (by simp;omega),AkB,Ajj (by omega)]
 have n0:w1.heap[w.heap.size]?=some (.cells #[.N] 32 (0,0)):=by
  rw[e1,AkB,Ajj (by simp;omega),AkB,Ajj (by simp),AkB,Ajl rfl]
 have n1:w1.heap[w.heap.size+1]?=some (.cells #[.I 0] 3 (0,0)):=by
  rw[e1,AkB,Ajj (by simp),AkB,Ajl (by simp)]
 have n2:w1.heap[w.heap.size+1+1]?=some (.cells #[.I 0] 24 (0,0)):=by
  rw[e1,AkB,Ajl (by simp)]
 have Ax:∀b o,Z22 b=some o->b<w.heap.size:=λb o hb=>(Aj2.1 (V0 b o hb)).1;have HF:∀b,w.heap.size<=b->Z22 b=none:=λb hb=>by
  cases h:Z22 b with
  | none=>rfl
  | some o=>have:=Ax b o h;omega
 let F1:Nat->Prop:=λk=>F k\/(w.heap.size<=k/\k<w.heap.size+3)
 refine ADA s w w1 av.symm ((AC9 (Z22:=Z22) (R:=λe Z'=>∃(p':Option Addr) (n' c':Nat),e=.T #[.slice p' n' c',.I 0,.I 0]/\AN 4 Yx Z22 Z' p' n' c' ts) hl hs hn (λZ' p' n' c' ho=>⟨p',n',c',rfl,ho⟩) w1 F1 (λb o hb=>by rw[hold b (Ax b o hb)];exact V0 b o hb) (λk G=>?_)).mono ?_)
 .rcases G with G|G
  .exact⟨by have:=(hF k G).1;omega,(hF k G).2⟩
  .exact⟨by omega,HF k G.1⟩
 rintro e w2 ⟨Z2,⟨p,n,c,rfl,ho⟩,hf⟩
 have m0:=((hf.BM w.heap.size (.inr ⟨by omega,by omega⟩)).2).trans n0;have m1:=((hf.BM (w.heap.size+1) (.inr ⟨by omega,by omega⟩)).2).trans n1;have m2:=((hf.BM (w.heap.size+1+1) (.inr ⟨by omega,by omega⟩)).2).trans n2;have hz2:w.heap.size+3<=w2.heap.size:=by have:=hf.grow;omega
 refine⟨p,n,c,rfl,m0,m1,m2,?_⟩;obtain⟨a1,a2,a3⟩:=BA (v:=.I 0) m1;have m2':=m2;rw[<-a2 _ (by omega)] at m2';obtain⟨b1,b2,b3⟩:=BA (v:=.I 0) m2';have e3:(((w2.setCell ⟨w.heap.size+1,0,none⟩ (.I 0)).setCell ⟨w.heap.size+1+1,0,none⟩ (.I 0)).alloc (.cells #[.slice p n c,.I 0,.N] 78)).heap=(((w2.setCell ⟨w.heap.size+1,0,none⟩ (.I 0)).setCell ⟨w.heap.size+1+1,0,none⟩ (.I 0)).heap).push (.cells #[.slice p n c,.I 0,.N] 78):=rfl;generalize hw3:((w2.setCell ⟨w.heap.size+1,0,none⟩ (.I 0)).setCell ⟨w.heap.size+1+1,0,none⟩ (.I 0)).alloc (.cells #[.slice p n c,.I 0,.N] 78)=w3 at e3;have Di:w3.os=w2.os/\w3.tape=w2.tape/\w3.drawn=w2.drawn/\w3.output=w2.output:=by subst hw3;exact⟨rfl,rfl,rfl,rfl⟩
 have AcA:w3.heap.size=w2.heap.size+1:=by rw[e3];simp[b3,a3]
 have Y7:∀k:Nat,k<w2.heap.size->k≠w.heap.size+1->k≠w.heap.size+1+1->w3.heap[k]?=w2.heap[k]?:=λk G h1 h2=>by
  rw[e3,AkB,Ajj (by rw[b3,a3];omega),b2 k h2,a2 k h1]
 have q0:w3.heap[w.heap.size]?=some (.cells #[.N] 32 (0,0)):=by rw[Y7 _ (by omega) (by omega) (by omega)];exact m0
 have q1:w3.heap[w.heap.size+1]?=some (.cells #[.I 0] 3 (0,0)):=by
  rw[e3,AkB,Ajj (by rw[b3,a3];omega),b2 _ (by omega)];exact a1
 have q2:w3.heap[w.heap.size+1+1]?=some (.cells #[.I 0] 24 (0,0)):=by
  rw[e3,AkB,Ajj (by rw[b3,a3];omega)];exact b1
 have q3:w3.heap[w2.heap.size]?=some (.cells #[.slice p n c,.I 0,.N] 78 (0,0)):=by
  rw[e3,AkB,Ajl (by rw[b3,a3])]
 have qG:∀b o,Z2 b=some o->b<w2.heap.size:=λb o hb=>(Aj2.1 (hf.sat b o hb)).1;have qE:Z2 w2.heap.size=none:=by
  cases h:Z2 w2.heap.size with
  | none=>rfl
  | some o=>have:=qG _ o h;omega
 have hF1:∀k,F1 k->k<w2.heap.size/\Z2 k=none:=λk G=>⟨by
  rcases G with G|G
  .have:=(hF k G).1;omega
  .omega,(hf.BM k G).1⟩
 have Yg:n<=c:=by
  obtain⟨⟨_,cs,h1,_⟩,_⟩:=ho;exact BL.cap h1
 have hu:B4 Z2 Z2 w2.heap.size p n c none 0 0 ts []:=⟨qE,(ho.rd Yx.mono),Yg,AN.nil (.refl _)⟩;have hpz:=AUw f 0 0 ts (cl::r) T hz (by decide) (by decide) (by decide) (by decide) hu (by omega) (R:=λe y=>e=.T #[]/\∃(ρ':Hp) (p' q':Option Addr) (n' c' m' e':Nat),y=ρ'.set w2.heap.size (pO p' n' c' 0 q' m' e')/\B4 Z2 ρ' w2.heap.size p' n' c' q' m' e' (cl::r) T) (λρ' p' q' n' c' m' e' Bt=>⟨rfl,ρ',p',q',n',c',m',e',rfl,by rw[Akp]at Bt;exact Bt⟩);rw[JK,Ajj (by decide)]at hpz;refine(hpz w3 F1 (λb o hb=>?_) (λk G=>?_)).mono ?_
 .by_cases xG:b=w2.heap.size
  .subst xG;rw[Hp.AA]at hb;cases hb;exact q3
  .rw[Hp.AB xG]at hb;have Fi:=qG b o hb;have hF':¬(w.heap.size<=b/\b<w.heap.size+3):=λhh=>by
    have:=(hf.BM b (.inr hh)).1;rw[this]at hb;cases hb
   rw[Y7 b Fi (by omega) (by omega)];exact hf.sat b o hb
 .have:=hF1 k G;exact⟨by omega,by rw[Hp.AB (by omega)];exact this.2⟩
 rintro e w4 ⟨Z4,⟨rfl,ρ',p',q',n',c',m',e',rfl,Bt⟩,Pv⟩
 refine⟨rfl,?_⟩;refine((BJ (d:=0) (R:=λe y=>y=ρ'.set w2.heap.size (pO p' n' c' 0 q' m' e')/\∃a:Int,e=.returned (.agg #[.I 0,.I a,.string cl.text,.I cl.span])) Bt (λa=>⟨rfl,a,by rw[G]⟩)) w4 F1 Pv.sat (λk G=>⟨by have:=hF1 k G;have:=Pv.grow;omega,(Pv.BM k G).1⟩)).mono ?_
 rintro e w5 ⟨Z5,⟨rfl,a,rfl⟩,Yh⟩
 have hg:∀k,F1 k->w5.heap[k]?=w3.heap[k]?:=λk G=>((Yh.BM k G).2).trans (Pv.BM k G).2;have x0:=(hg _ (.inr ⟨by omega,by omega⟩)).trans q0;have x1:=(hg _ (.inr ⟨by omega,by omega⟩)).trans q1;have x2:=(hg _ (.inr ⟨by omega,by omega⟩)).trans q2;have x3:=Yh.sat w2.heap.size _ (Hp.AA _ _ _);refine⟨a,cl.span,cl.text,p',n',c',q',m',e',rfl,x0,x1,x2,x3,ρ',hR ρ' q' m' e' (Bt.out.rd Ia.mono) ?_,?_⟩
 .exact(ho.up).trans Bt.out.up
 .obtain⟨y1,y2,y3⟩:=BA (v:=.slice q' m' e') x0;have x1':=x1;rw[<-y2 _ (by omega)] at x1';obtain⟨z1,z2,z3⟩:=BA (v:=.I 0) x1';have x2':=x2;rw[<-y2 _ (by omega),<-z2 _ (by omega)] at x2';obtain⟨v1,v2,v3⟩:=BA (v:=.I 0) x2';have same:∀k,k≠w.heap.size->k≠w.heap.size+1->k≠w.heap.size+1+1->(((w5.setCell ⟨w.heap.size,0,none⟩ (.slice q' m' e')).setCell ⟨w.heap.size+1,0,none⟩ (.I 0)).setCell ⟨w.heap.size+1+1,0,none⟩ (.I 0)).heap[k]?=w5.heap[k]?:=λk h1 h2 h3=>by
   rw[v2 k h3,z2 k h2,y2 k h1]
  refine⟨λb o hb=>?_,λk G=>?_,?_,?_,?_⟩
  .have Av:∀j,F1 j->b≠j:=λj hj e=>by
    have:=(Pv.BM j hj).1;have h5:(ρ'.set w2.heap.size (pO p' n' c' 0 q' m' e')) b=some o:=by rw[Hp.AB (λe'=>by rw[e',Bt.pb]at hb;cases hb)];exact hb
    rw[e,this]at h5;cases h5
   rw[same b (Av _ (.inr ⟨by omega,by omega⟩)) (Av _ (.inr ⟨by omega,by omega⟩)) (Av _ (.inr ⟨by omega,by omega⟩))];exact Yh.sat b o (by rw[Hp.AB (λe'=>by rw[e',Bt.pb]at hb;cases hb)];exact hb)
  .have Cs:=hF k G;have h5:=(Yh.BM k (.inl G)).1;refine⟨?_,?_⟩
   .by_cases Mj:k=w2.heap.size
    .omega
    .rw[Hp.AB Mj]at h5;exact h5
   .rw[same k (by omega) (by omega) (by omega),hg k (.inl G),Y7 k (by omega) (by omega) (by omega),(hf.BM k (.inl G)).2,hold k Cs.1]
  .exact(Bl.same R6.1 R6.2.1 R6.2.2.1).trans (hf.os.trans ((Bl.same Di.1 Di.2.1 Di.2.2.1).trans (Pv.os.trans (Yh.os.trans (Bl.same rfl rfl rfl)))))
  .exact Yh.out.trans (Pv.out.trans (Di.2.2.2.trans (hf.out.trans R6.2.2.2)))
  .rw[v3,z3,y3];have:=Yh.grow;have:=Pv.grow;omega
def E3 (n:Nat)(f:Nat->Int):List (Int×Int):=(List.range n).map λ(i:Nat)=>((i:Int),f i)
theorem Kw (n:Nat)(f:Nat->Int):E3 (n+1) f=E3 n f++[((n:Int),f n)]:=by simp[E3,List.range_succ]
theorem uF {n i:Nat}{f:Nat->Int}(h:n<=i):∀a∈E3 n f,a.1≠(i:Int):=λa G=>by
 obtain⟨j,hj,rfl⟩:=AkT.1 G;have:=AlK.1 hj;show((j:Int))≠_
 omega
theorem qi {n:Nat}{f g:Nat->Int}(h:∀j,j<n->g j=f j):E3 n g=E3 n f:=List.map_congr_left λj G=>by rw[h j (AlK.1 G)]
theorem Rj {i:Nat}{f:Nat->Int}:∀{n:Nat},i<n->∃G L2,E3 n f=G++((i:Int),f i)::L2/\(∀a∈G,a.1≠(i:Int))/\∀g:Nat->Int,(∀j,j≠i->g j=f j)->E3 n g=G++((i:Int),g i)::L2
 | n+1,h=>by
  by_cases e:i=n
  .subst e;refine⟨E3 i f,[],Kw i f,uF (Ajt _),λg hg=>?_⟩;rw[Kw,qi λj hj=>hg j (by omega)]
  .obtain⟨G,L2,h1,h2,h3⟩:=Rj (n:=n) (f:=f) (show i<n by omega);refine⟨G,L2++[((n:Int),f n)],by rw[Kw,h1,AkC];rfl,h2,λg hg=>?_⟩;rw[Kw,h3 g hg,hg n (Aj4 e),AkC];rfl
def gj (f:Nat->Int)(i:Nat)(v:Int):Nat->Int:=λj=>if j=i then v else f j
theorem AGT {f:Nat->Int}{i:Nat}{v:Int}:∀j,j≠i->gj f i v j=f j:=λj h=>Ajj h
theorem AGU {f:Nat->Int}{i:Nat}{v:Int}:gj f i v i=v:=Ajl rfl
theorem dZ {n i:Nat}{f:Nat->Int}(h:i<n):A3 (E3 n f) i=some (f i):=by
 obtain⟨L1,L2,G,h2,_⟩:=Rj (f:=f) h;rw[G,dO h2]
theorem mF {n i:Nat}{f:Nat->Int}{v:Int}(h:i<n):E1 (E3 n f) i v=E3 n (gj f i v):=by
 obtain⟨L1,L2,G,h2,h3⟩:=Rj (f:=f) h;rw[G,lZ h2,h3 _ AGT,AGU]
theorem S4 {n:Nat}{f:Nat->Int}:E1 (E3 n f) n (f n)=E3 (n+1) f:=by
 rw[dM (uF (Ajt _)),Kw]
def tsX:List Cl:=[Ut 3 (bA [120]) 0,Ut 0 ⟨#[]⟩ 0]
theorem lxX:Lx sX.data.toList tsX:=Lx.word (c:=120) (w:=[]) (l:=[]) (by decide) (by decide) (λu G=>by cases G) (λu G=>by cases G) Lx.fin
theorem pzX:pz 40 0 0 tsX=some ([Ut 0 ⟨#[]⟩ 0],TX):=by kernel_rfl
def vw:Hp:=λ_=>none
theorem ADB (Z22:Hp):Z22.or vw=Z22:=by
 funext k
 cases G:Z22 k with
 | some u=>rw[Hp.Cf G]
 | none=>rw[Hp.Cn G];rfl
theorem uG (Z22:Hp):FI Z22 vw:=λk G=>absurd rfl G
def Mc (n w:Int):Int:=if n-w<0 then 0 else n-w
section
variable {Z22 ρ M:Hp}{R:Rr}
theorem Y8 {t:Int}(G:-1099511627776<=t/\t<=1099511627776)(h:R (.B true) Z22):Spec prog 25 #[.I t] Z22 R:=
 Lm.start ⟨λ_=>by rw[Aj0 G.2];exact h,λhh=>absurd G.1 hh⟩
theorem qj {p pt:Option Addr}{n c ct b m fm:Nat}{e rf w:Int}{ms:List Mem}(hr:RdM ρ p n ms)(hid:∀(i:Nat) (x:Mem),ms[i]?=some x->x.id=i)(vE:1<=rf/\rf<=5)(hw:IntKind.i64.wrap (Int.tdiv (rf-1) 2)=w)(hw2:0<=w/\w<=2)(hn:n<=1000)(G:b≠m)(gw:b≠fm)(hmf:m≠fm)(rT:Ae 10 Ia ρ pt 1 TX)
  (hR:∀M',QU ⟨Mc n w,false,0,false,E3 n λ_=>0,[],[]⟩ ρ M' b m fm->R (.T #[.pointer (aD b 0),.I 0]) (ρ.or M')) :
  ∀(d k:Nat) (M:Hp),n-k=d->k<=n->FI ρ M->M b=some (.cells (qL pt ct m 0 false 0 none 0 0 fm none 0 0 .nilFunc) 72 (0,0))->MZ .i64 M m (E3 k λ_=>0)->MZ .u64 M fm []->
   CP.jY R rf e p n c (aD b 0) p n c (n:Int) (k:Int) (ρ.or M):=by
 intro d
 induction d with
 | zero=>
  intro k M hd hk D hM hm hf;obtain rfl:k=n:=by omega
  have nb:ρ b=none:=D b (by rw[hM];simp);refine CP.Ve ⟨λhh=>by omega,λ_=>⟨by unfold AL;omega,by decide,λx hx=>⟨by rw[hx,hw];unfold AL;omega,b,0,rfl,?_⟩⟩⟩;rw[hx,hw];refine AI.tZ ACl (BT D hM) rfl rfl rfl AIv ?_;rw[BZ nb];have D3:FI ρ (M.set b (.cells (qL pt ct m (Mc k w) false 0 none 0 0 fm none 0 0 .nilFunc) 72 (0,0))):=H5 D nb;refine AI.tZ Vs (BT D3 (Hp.AA _ _ _)) rfl rfl rfl gP ?_;rw[BZ nb,Hp.set_set];exact hR _ ⟨H5 D nb,G,gw,hmf,⟨pt,ct,none,0,0,none,0,0,Hp.AA _ _ _,rT,⟨rfl,rfl,rfl⟩,Ae.nil,Ajt _⟩,hm.loc (Hp.AB (Aj4 G)),hf.loc (Hp.AB (Aj4 gw)),by dsimp only;decide⟩
 | succ d ih=>
  intro k M hd hk D hM hm hf;have Cs:k<n:=by omega
  obtain⟨x,hx⟩:=hr.ex Cs;obtain⟨b1,o1,q,j,c',rfl,hl,ht⟩:=hr.at' hx;refine CP.Ve ⟨λ_=>⟨b1,o1,rfl,by unfold In;omega,x.id,x.state,q,j,c',by simpa using hl.mono (Ext.Cf ρ M),λ_=>⟨b,0,rfl,some m,AJ (BT D hM) rfl,MZ.put (Gy D hm) λo ho=>⟨AO Cs hr.big,?_⟩⟩⟩,λhh=>by omega⟩;have nm:ρ m=none:=D m hm.known;rw[BZ nm];have:=ih (k+1) (M.set m o) (by omega) (by omega) (H5 D nm) ((Hp.AB G).trans hM) (by
   have:=ho (M.set m o) (Hp.AA _ _ _);rw[hid k x hx]at this;rw[<-S4 (f:=λ_=>0)];exact this) (hf.loc (Hp.AB (Aj4 hmf)))
  rw[show((k+1:Nat):Int)=(k:Int)+1 by omega]at this;exact this
theorem qk {p:Option Addr}{n c:Nat}{e rf w:Int}{ms:List Mem}(hr:RdM Z22 p n ms)(hs:gJ ms)(Aa:OkR ms)(hid:∀(i:Nat) (x:Mem),ms[i]?=some x->x.id=i)(vE:1<=rf/\rf<=5)(hw:IntKind.i64.wrap (Int.tdiv (rf-1) 2)=w)(hw2:0<=w/\w<=2)(hn:n<=1000)
  (hR:∀ρ' M' b m fm,QU ⟨Mc n w,false,0,false,E3 n λ_=>0,[],[]⟩ ρ' M' b m fm->Ext Z22 ρ'->R (.T #[.pointer (aD b 0),.I 0]) (ρ'.or M')) :
  Spec prog 6 #[.string sX,.I 60,.I 60,.I 0,.agg #[.U e,.slice p n c],.I rf] Z22 R:=by
 refine CP.start λDk=>qh (ts:=tsX) (f:=40) lxX (by decide) (by decide) (by decide) pzX rfl λZ1 p1 n1 c1 EB BC=>⟨p1,n1,c1,0,0,rfl,λG=>absurd rfl G,λ_=>?_⟩;obtain rfl:1=n1:=EB.1;refine Lz EB (by decide) txX (λk Z2 hk Ao=>⟨k,0,0,rfl,λG=>absurd rfl G,λ_=>⟨λh3=>?_,λ_=>?_⟩⟩) λk j e Z' hk=>by rw[tyX]at hk;cases hk
 .rw[tyX]at hk;cases hk;exact absurd h3 (by decide)
 have X2:=BC.trans Ao;refine Y8 (by decide) ⟨true,rfl,λG=>(by cases G),λ_=>Y8 (by decide) ⟨true,rfl,λG=>(by cases G),λ_=>?_⟩⟩;refine⟨λG=>absurd G (by decide),λ_=>⟨λG=>absurd G (by decide),λ_=>⟨λG=>absurd G (by decide),λ_=>?_⟩⟩⟩;refine Pf (hr.mono Qh.mono X2) hs ⟨_,rfl,λAv=>absurd (by simp[ACe,Aa]) Av,λ_=>⟨λG=>by omega,λ_=>⟨λG=>by omega,λ_=>?_⟩⟩⟩;refine C7 λm hm=>⟨m,rfl,C7 λfm hf=>⟨fm,rfl,λb hb=>?_⟩⟩;obtain⟨f1,f2⟩:=Hp.AM hf;obtain⟨b1,b2⟩:=Hp.AM hb;obtain⟨b3,b4⟩:=Hp.AM b2;have D0:=uG Z2;have e0:Z2=Z2.or vw:=(ADB Z2).symm;rw[e0,BZ hm,BZ f2,BZ b4];have D1:FI Z2 (vw.set m (.map #[] 0)):=H5 D0 hm;have D2:FI Z2 ((vw.set m (.map #[] 0)).set fm (.map #[] 0)):=H5 D1 f2;refine qj (hr.mono Qh.mono X2) hid vE hw hw2 hn b3 b1 (Aj4 f1) (EB.mono Ia.mono Ao) (λM' hQ=>hR Z2 M' b m fm hQ X2) n 0 _ rfl (Ajy _) (H5 D2 b4) (Hp.AA _ _ _) ?_ ?_
 .exact MZ.loc (MZ.fresh (Z22:=vw)) ((Hp.AB (Aj4 b3)).trans (Hp.AB (Aj4 f1)))
 .exact MZ.loc (MZ.fresh (Z22:=vw.set m (.map #[] 0))) (Hp.AB (Aj4 b1))
theorem Qh.one (Z22:Hp)(vs:List Value)(x:Mem)(h:Qh Z22 vs x):FL vs:=by
 obtain⟨p,n,c,rfl,_⟩:=h;exact ACd
theorem gk {Z0:Hp}{p:Option Addr}{n c Dk HV:Nat}{ms:List Mem}{id st:Int}{G:Option Addr->Nat->Nat->Hp->Prop}(ho:AN 3 Qh Z0 Z22 p n c ms)(hn:n<=1000)(MX:Z22 Dk=none)(To:(Z22.set Dk (.cells #[.int .u32 7] 52 (0,0))) HV=none)
  (h:∀p' c' Z',AN 3 Qh Z0 Z' p' (n+1) c' (ms++[⟨id,st,[7]⟩])->G p' (n+1) c' Z') :
  AI prog (Builtin.append_ #[28,28] 28 #[.slice p n c,.slice (aD HV 0) 1 1]) ((Z22.set Dk (.cells #[.int .u32 7] 52 (0,0))).set HV (.cells #[.I id,.I st,.slice (aD Dk 0) 1 1] 55 (0,0))) (CS G):=by
 have x10:=Ext.set (o:=.cells #[.int .u32 7] 52 (0,0)) MX;have R6:=ho.mono Qh.mono x10;have hk:(Z22.new (Z22.set Dk (.cells #[.int .u32 7] 52 (0,0)))) Dk=some (.cells #[.int .u32 7] 52 (0,0)):=Af.2 ⟨MX,Hp.AA _ _ _⟩;have hE:Qh ((Z22.set Dk (.cells #[.int .u32 7] 52 (0,0))).del p) [.I id,.I st,.slice (aD Dk 0) 1 1] ⟨id,st,[7]⟩:=⟨_,_,_,rfl,DB.eD ⟨rfl,by omega,.inr ⟨Dk,0,rfl,AJ (ho.new x10 _ _ hk) rfl,trivial⟩⟩⟩;exact AN.FN Qh.mono R6 rfl (Qh.one _ _ _ hE) hE (by omega) (λp' c' Z' EM _=>⟨_,_,_,rfl,h p' c' Z' EM⟩) To
def ms3:List Mem:=[⟨0,2,[7]⟩,⟨1,2,[7]⟩,⟨2,2,[7]⟩]
theorem ME (h:∀Z' p c,RdM Z' p 3 ms3->Ext Z22 Z'->R (.returned (.agg #[.U 0,.slice p 3 c])) Z'):Spec prog 7 #[] Z22 R:=by
 refine GG.start λ_ _=>GG.A5 ⟨λ_ Dk MX HV To=>gk (AN.nil (.refl Z22)) (by decide) MX To λp1 c1 Z1 R6=>⟨iK (by decide),?_⟩,λG=>absurd (by decide) G⟩;refine GG.A5 ⟨λ_ Dk MX HV To=>gk R6 (by decide) MX To λp2 c2 Z2 B6=>⟨iK (by decide),?_⟩,λG=>absurd (by decide) G⟩;refine GG.A5 ⟨λ_ Dk MX HV To=>gk B6 (by decide) MX To λp3 c3 Z3 Di=>⟨iK (by decide),?_⟩,λG=>absurd (by decide) G⟩;exact GG.A5 ⟨λG=>absurd G (by decide),λ_=>h Z3 p3 c3 (Di.rd Qh.mono) Di.up⟩
theorem ok3:OkR ms3:=by decide
theorem gm:gJ ms3:=⟨by decide,λm hm=>by
 simp only[ms3,Ajo,Aj7,Akc]at hm;rcases hm with rfl|rfl|rfl<;>decide⟩
theorem id3:∀(i:Nat) (x:Mem),ms3[i]?=some x->x.id=i
 | 0,x,h=>by cases h;rfl
 | 1,x,h=>by cases h;rfl
 | 2,x,h=>by cases h;rfl
 | i+3,x,h=>by simp[ms3]at h
def mG:Sr:=⟨[(Eb,sX)],[(60,5)]⟩
theorem da (h:∀Z' p c,Ae 2 BX Z' p 1 [mG]->1<=c->Ext Z22 Z'->R (.returned (.slice p 1 c)) Z'):Spec prog 34 #[] Z22 R:=by
 refine Xi.start λb2 h2 b4 h4 b6 h6=>?_;have x2:=Ext.set (o:=.cells #[(.string (ByteArray.mk #[95,95,110,97,109,101,95,95])),(.string (ByteArray.mk #[120]))] 144 (0,0)) h2;have x4:=Ext.set (o:=.cells #[.I 60,.U 5] 111 (0,0)) h4;have x6:=Ext.set (o:=.cells #[(.slice (aD b2 0) 1 1),(.slice (aD b4 0) 1 1)] 98 (0,0)) h6;have g2:=(x4.trans x6) b2 _ (Hp.AA _ _ _);have g4:=x6 b4 _ (Hp.AA _ _ _);refine h _ _ _ (qI (cs:=[(.slice (aD b2 0) 1 1),(.slice (aD b4 0) 1 1)]) (Hp.AA _ _ _) rfl rfl (by decide) λi x hx=>?_) (Ajt _) (x2.trans (x4.trans x6))
 match i,hx with
 | 0,hx=>
  cases hx;refine⟨_,_,_,_,_,_,rfl,qI (cs:=[(.string Eb),(.string sX)]) g2 rfl rfl (by decide) λj y G=>?_,qI (cs:=[.I 60,.U 5]) g4 rfl rfl (by decide) λj y G=>?_,Ajt _⟩
  .match j,G with
   | 0,G=>cases G;rfl
   | j+1,G=>simp[mG]at G
  .match j,G with
   | 0,G=>cases G;rfl
   | j+1,G=>simp[mG]at G
 | i+1,hx=>simp at hx
end
structure Qg where
 T:List Nd
 at_:Int
 Gx:Int
 rd:Bool
 ver:Int
 fl:Int
 es:List En
 mem:List (Int×Int)
 TB:List (Int×Int)
 all:List Sr
abbrev qLg (pt:Option Addr)(nt G:Nat)(t:Int)(m:Nat)(Gx:Int)(rd:Bool)(ver fl:Int)(pi:Option Addr)(ni ci fm:Nat)(pa:Option Addr)(na ca:Nat)(f:Value):Array Value:=
 #[.slice pt nt G,.I t,.I t,.I 0,.map (some m),.I Gx,.bool rd,.U ver,.I fl,.slice pi ni ci,.map (some fm),.slice pa na ca,f]
abbrev qOg (pt:Option Addr)(nt G:Nat)(t:Int)(m:Nat)(Gx:Int)(rd:Bool)(ver fl:Int)(pi:Option Addr)(ni ci fm:Nat)(pa:Option Addr)(na ca b:Nat)(f:Nat):Obj:=
 .cells (qLg pt nt G t m Gx rd ver fl pi ni ci fm pa na ca (.func (.func f) #[.pointer (aD b 0)] #[])) 72 (0,0)
structure TrQ (T:List Nd)(t:Int):Prop where
 ty:∃k,Hd T=some k
 tl:T.length<=700000
 tx:∀x∈T,x.text.size<=4611686018427387904
 t:-1099511627776<=t/\t<=1099511627776
structure QV (Q:Qg)(ρ M:Hp)(b m fm:Nat):Prop where
 L6:FI ρ M
 bm:b≠m
 bf:b≠fm
 mf:m≠fm
 q:∃pt nt ct pi ni ci pa na ca,M b=some (qOg pt nt ct Q.at_ m Q.Gx Q.rd Q.ver Q.fl pi ni ci fm pa na ca b (bG Q.rd))/\Ae 10 Ia ρ pt nt Q.T/\Ae 9 F3 ρ pi ni Q.es/\Ae 2 BX ρ pa na Q.all/\na<=ca
 mm:MZ .i64 M m Q.mem
 ff:MZ .u64 M fm Q.TB
 tr:TrQ Q.T Q.at_
 ne:Q.es.length<=4000000
theorem QV.grow {Q:Qg}{ρ ρ' M M':Hp}{b m fm:Nat}(h:QV Q ρ M b m fm)(G:Ext ρ ρ')(hd:FI ρ' M')(h1:M' b=M b)(h2:M' m=M m)(h3:M' fm=M fm):QV Q ρ' M' b m fm:=by
 obtain⟨pt,nt,ct,pi,ni,ci,pa,na,ca,k1,k2,k3,k4,k5⟩:=h.q;exact⟨hd,h.bm,h.bf,h.mf,⟨pt,nt,ct,pi,ni,ci,pa,na,ca,h1.trans k1,k2.mono Ia.mono G,k3.mono F3.mono G,k4.mono BX.mono G,k5⟩,h.mm.loc h2,h.ff.loc h3,h.tr,h.ne⟩
theorem QV.up {Q:Qg}{ρ ρ' M:Hp}{b m fm:Nat}(h:QV Q ρ M b m fm)(G:Ext ρ ρ')(hd:FI ρ' M):QV Q ρ' M b m fm:=h.grow G hd rfl rfl rfl
theorem MZ.up {ik:IntKind}{Z22 Z':Hp}{m:Nat}{L:List (Int×Int)}(h:MZ ik Z22 m L)(hx:Ext Z22 Z'):MZ ik Z' m L:=by
 cases G:Z22 m with
 | none=>exact absurd G h.known
 | some o=>exact h.loc ((hx m o G).trans G.symm)
def ADC (Q:Qg):Int:=if(Q.at_-Mo Q.T)<(-1099511627776) then(-1099511627776) else(Q.at_-Mo Q.T)
def HK (Q:Qg)(x:En):Bool:=Q.rd&&(decide (x.min<=Q.at_)&&(decide (ADC Q<=x.max)&&(decide (Q.fl<=x.max)&&decide ((A3 Q.TB x.id).getD 0=0))))
def GK (Q:Qg):List Int:=((Kr Q.fl Q.es).filter (HK Q)).map En.id
theorem Kx (L:List (Int×Int))(k v j:Int):A3 (E1 L k v) j=if j=k then some v else A3 L j:=by
 induction L with
 | nil=>
  unfold A3 E1;by_cases h:j=k
  .subst h;simp
  .rw[Ajj h,Alp (by simpa using λe=>h e.symm)]
 | cons p L ih=>
  rw[E1];by_cases hp:p.1=k
  .rw[Ajl hp];by_cases h:j=k
   .subst h;unfold A3;simp
   .unfold A3;rw[Ajj h,Alp (by simpa using λe=>h e.symm),Alp (by simpa using λe=>h (by rw[<-hp];exact e.symm))]
  .rw[Ajj hp];by_cases G:p.1=j
   .have:j≠k:=λe=>hp (G.trans e);rw[Ajj this];unfold A3;rw[Amz (by simpa using G),Amz (by simpa using G)]
   .have e1:∀X:List (Int×Int),A3 (p::X) j=A3 X j:=λX=>by
     unfold A3;rw[Alp (by simpa using G)]
    rw[e1,e1,ih]
section
variable {Q:Qg}{ρ M:Hp}{b m fm:Nat}{R:Rr}
theorem bI (h:QV Q ρ M b m fm)(hR:∀ρ',Ext ρ ρ'->FI ρ' M->R (.T #[.I (ADC Q),.I Q.at_]) (ρ'.or M)):Spec prog 33 #[.pointer (aD b 0)] (ρ.or M) R:=by
 obtain⟨pt,nt,ct,pi,ni,ci,pa,na,ca,k1,k2,k3,k4,k5⟩:=h.q;obtain⟨⟨kk,hty⟩,gy,htx,ht0,ht1⟩:=h.tr;have hb:=BT h.L6 k1;have hnt:nt<=1000000000:=by have:=k2.1;omega
 refine Bu.start ⟨b,0,rfl,pt,nt,ct,AJ hb rfl,gN (k2.mono Ia.mono (Ext.Cf ρ M)) hnt htx hty λxn Z1 f0 f1 BC=>⟨_,_,rfl,Q.at_,AJ (BC _ _ hb) rfl,λb6 h6=>?_⟩⟩;obtain⟨G,X1,D1,rfl,_⟩:=Ext.parts h.L6 BC;have JE:=BT D1 k1;obtain⟨r6,m6⟩:=or_none h6;have n6:b≠b6:=λe=>by rw[<-e,k1]at m6;cases m6
 show AI prog _ (BW (G.or M) [(b6,.cells #[.I 0] 2 (0,0))]) _
 refine AI.RT (L:=[(b6,.cells #[.I 0] 2 (0,0))]) (i:=0) (c:=#[.I 0]) (c':=#[.I Q.at_]) gQ (by simp[names]) rfl rfl rfl rfl rfl ?_;intro D l r0 hDl hD hl hY;have hD:(G.or M).set b6 (.cells #[.I Q.at_] 2 (0,0)) D=none:=hD;have hl:(G.or M).set b6 (.cells #[.I Q.at_] 2 (0,0)) l=none:=hl;obtain⟨d6,hD⟩:=Hp.AM hD;obtain⟨l6,hl⟩:=Hp.AM hl;have nD:b≠D:=λe=>by rw[<-e,JE]at hD;cases hD
 have nl:b≠l:=λe=>by rw[<-e,JE]at hl;cases hl
 have Gz:([l,D,b6]:List Nat).Nodup:=by
  simp only[Ako,Ajo,Aj7,Akc,Ak9,Amu,Al7,Alw];exact⟨⟨λe=>hDl e.symm,l6⟩,d6⟩
 let L:Loop->Obj->List (Nat×Obj):=λlo d=>[(l,.loop lo),(D,d),(b6,.cells #[.I Q.at_] 2 (0,0))]
 have hbS:∀lo d,BW (G.or M) (L lo d) b=some _:=λlo d=>(FY (by simp only[L,names,AkR,AlO,Ajo,Aj7,Akc,Alw];exact⟨nl,nD,n6⟩)).trans JE;show Spec prog _ #[.pointer (aD b 0),.func (.yield l) #[] #[]] (BW (G.or M) (L (lp r0 .ready none) (.deferred (some [])))) _
 refine By.start ⟨b,0,rfl,Q.at_,AJ (hbS _ _) rfl,By.LU ⟨l,rfl,hY _ _ Q.at_ (Bd (L:=L (lp r0 .ready none) (.deferred (some []))) (i:=0) Gz rfl) (Bu.A5 ⟨Bd (L:=L (lp r0 .ready none) (.deferred (some []))) (i:=0) Gz rfl,?_⟩)⟩⟩;rw[DQ (L:=L (lp r0 .ready none) (.deferred (some []))) (i:=0) Gz rfl];refine AI.RT (L:=L (lp r0 .busy none) (.deferred (some []))) (i:=2) (c:=#[.I Q.at_]) (c':=#[.I Q.at_]) gQ Gz rfl rfl rfl rfl rfl ⟨Bd (L:=L (lp r0 .busy none) (.deferred (some []))) (i:=0) Gz rfl,?_⟩;show AY _ _ _ ((BW (G.or M) (L (lp r0 .busy none) (.deferred (some [])))).set l _)
 rw[DQ (L:=L (lp r0 .busy none) (.deferred (some []))) (i:=0) Gz rfl];refine⟨true,rfl,λ_=>⟨b,0,rfl,0,AJ (hbS (lp r0 .ready none) (.deferred (some []))) rfl,λhh=>absurd hh (by decide),λ_=>?_⟩,λhh=>by cases hh⟩;refine⟨_,.ready,none,rfl,Bd (L:=L (lp r0 .ready none) (.deferred (some []))) (i:=0) Gz rfl,by decide,rfl,?_⟩;have e1:(BW (G.or M) ((L (lp r0 .busy none) (.deferred (some []))).set 0 (l,.loop (lp r0 .ready none)))).set l (.loop (lp r0 .exhausted none))=BW (G.or M) (L (lp r0 .exhausted none) (.deferred (some []))):=DQ (L:=L (lp r0 .ready none) (.deferred (some []))) (i:=0) Gz rfl;rw[e1];refine⟨Q.at_,AJ (hbS (lp r0 .exhausted none) (.deferred (some []))) rfl,by unfold AL;omega,Q.at_,ldL (L:=L (lp r0 .exhausted none) (.deferred (some []))) (i:=2) Gz rfl rfl,Bd (L:=L (lp r0 .exhausted none) (.deferred (some []))) (i:=1) Gz rfl,?_⟩;rw[DQ (L:=L (lp r0 .exhausted none) (.deferred (some []))) (i:=1) Gz rfl,gR];have fN:VI (L (lp r0 .exhausted none) (.deferred none)) G:=λk hk=>by
  simp only[L,names,AkR,AlO,Ajo,Aj7,Akc]at hk;rcases hk with rfl|rfl|rfl
  .exact(or_none hl).1
  .exact(or_none hD).1
  .exact r6
 refine hR (BW G (L (lp r0 .exhausted none) (.deferred none))) (X1.trans (VI.ext Gz fN)) λk hk=>?_;rw[FY]
 .exact D1 k hk
 .simp only[L,names,AkR,AlO,Ajo,Aj7,Akc,Alw];refine⟨λe=>hk ?_,λe=>hk ?_,λe=>hk ?_⟩
  .rw[e];exact(or_none hl).2
  .rw[e];exact(or_none hD).2
  .rw[e];exact m6
theorem Jy (h:QV Q ρ M b m fm)(hR:∀ρ' p n c,Ext ρ ρ'->FI ρ' M->DB .u64 ρ' p n (GK Q)->n<=c->R (.returned (.slice p n c)) (ρ'.or M)):Spec prog 21 #[.pointer (aD b 0)] (ρ.or M) R:=by
 refine AT.start (bI h λρ1 BC bH=>⟨_,_,rfl,b,0,rfl,?_⟩);obtain⟨pt,nt,ct,pi,ni,ci,pa,na,ca,k1,k2,k3,k4,k5⟩:=(h.up BC bH).q;have hb:=BT bH k1;refine⟨Q.ver,Q.fl,pi,ni,ci,⟨AJ hb rfl,AJ hb rfl,AJ hb rfl,trivial⟩,ll (k3.mono F3.mono (Ext.Cf _ _)) (by have:=k3.1;have:=h.ne;omega) λpl G cl Z2 lQ Ao=>⟨_,_,_,rfl,?_⟩⟩;obtain⟨ρ2,X2,D2,rfl,_⟩:=Ext.parts bH Ao;have Fi:=BT D2 k1;have hf2:=Gy D2 h.ff;have hll:(Kr Q.fl Q.es).length=G:=lQ.1;have hnl:G<=4000000:=by
  have h1:=h.ne;have h2:(Kr Q.fl Q.es).length<=Q.es.length:=by
   unfold Kr;split
   .exact AkG _ _
   .simp
  omega
 suffices H:∀d k:Nat,∀Z3 p3 n3 c3,AN 1 (FK .u64) (ρ2.or M) Z3 p3 n3 c3 ((((Kr Q.fl Q.es).take k).filter (HK Q)).map En.id)->n3<=k->G-k=d->k<=G->AT.Dp R (aD b 0) (ADC Q) Q.at_ p3 n3 c3 pl G cl (G:Int) (k:Int) Z3 from H G 0 _ none 0 0 (AN.nil (.refl _)) (Ajt _) rfl (Ajy _)
 intro d
 induction d with
 | zero=>
  intro k Z3 p3 n3 c3 ho Qe hd hk;rw[Ajq (by omega)]at ho;refine AT.Bp ⟨λhh=>by omega,λ_=>?_⟩;obtain⟨ρ3,X3,D3,rfl,X4⟩:=Ext.parts D2 ho.up;have hc:n3<=c3:=by obtain⟨cs,TA,_⟩:=ho.1.2;exact BL.cap TA
  exact hR ρ3 p3 n3 c3 (BC.trans (X2.trans X3)) D3 ((ho.gY λ_ _ _ _ h=>h).mono (FK.mono _) X4) hc
 | succ d ih=>
  intro k Z3 p3 n3 c3 ho Qe hd hk;have Cs:k<G:=by omega
  obtain⟨x,hx⟩:=lQ.ex Cs;obtain⟨b3,o3,q,j,c',rfl,Dy,hs,hj⟩:=qQ.at (lQ.mono qQ.mono ho.up) hx;have Uh:=ho.up _ _ Fi;have hf3:=hf2.up ho.up;have next:∀Z4 p4 n4 c4,AN 1 (FK .u64) (ρ2.or M) Z4 p4 n4 c4 ((((Kr Q.fl Q.es).take (k+1)).filter (HK Q)).map En.id)->n4<=k+1->AT.RR R (aD b 0) (ADC Q) Q.at_ p4 n4 c4 (aD b3 o3) G cl (G:Int) (k:Int) Z4:=λZ4 p4 n4 c4 h4 h5=>by
   have:=ih (k+1) Z4 p4 n4 c4 h4 h5 (by omega) (by omega);rw[show((k+1:Nat):Int)=(k:Int)+1 by omega]at this;exact AT.SD ⟨by unfold AL;omega,this⟩
  have eT:((((Kr Q.fl Q.es).take (k+1)).filter (HK Q)).map En.id)=((((Kr Q.fl Q.es).take k).filter (HK Q)).map En.id)++(if HK Q x then[x.id] else[]):=by
   rw[AU hx,Ak0,AkI];by_cases hn:HK Q x=true
   .rw[Ak3 hn,Ajl hn];rfl
   .rw[Ak4 hn,Ajj hn];rfl
  have skip:HK Q x=false->AT.RR R (aD b 0) (ADC Q) Q.at_ p3 n3 c3 (aD b3 o3) G cl (G:Int) (k:Int) Z3:=λhn=>next Z3 p3 n3 c3 (by rw[eT,hn,Ajj (by decide),Akq];exact ho) (by omega)
  refine AT.Bp ⟨λ_=>⟨b3,o3,rfl,by unfold In;omega,_,_,_,_,_,_,_,_,_,by simpa using Dy,λ_=>⟨b,0,rfl,Q.rd,AJ Uh rfl,λg1=>⟨λg2=>⟨λg3=>⟨Q.fl,AJ Uh rfl,λg4=>⟨some fm,AJ Uh rfl,hf3.dR Pg ⟨_,rfl,λg5 b62 h62=>?_,λg5=>?_⟩⟩,λg4=>?_⟩,λg3=>?_⟩,λg2=>?_⟩,λg1=>?_⟩⟩,λhh=>by omega⟩
  .have hn:HK Q x=true:=by unfold HK;rw[g1,Aj0 g2,Aj0 g3,Aj0 g4,Aj0 g5];rfl
   have hE:FK .u64 (Z3.del p3) [.U x.id] x.id:=rfl;exact AN.FN (FK.mono _) ho rfl (FK.AUe _ _ _ hE) hE (by omega) (λp4 c4 Z4 Hy _=>⟨_,_,_,rfl,next Z4 p4 (n3+1) c4 (by rw[eT,hn,Ajl rfl];exact Hy) (by omega)⟩) h62
  .exact skip (by unfold HK;rw[Aj1 g5];simp)
  .exact skip (by unfold HK;rw[Aj1 g4];simp)
  .exact skip (by unfold HK;rw[Aj1 g3];simp)
  .exact skip (by unfold HK;rw[Aj1 g2];simp)
  .exact skip (by unfold HK;rw[g1];rfl)
theorem JM {x k:Int}{p:Option Addr}{n c:Nat}{B:List Sr}(h:QV Q ρ M b m fm)(hk:A3 Q.mem x=some k)(hk0:0<=k/\k<=4611686018427387903)(rB:Ae 2 BX ρ p n B)(hc:n<=c)(oA:DU none Q.all=true)(oB:DU none B=true)(hA:∀s∈Q.all,S0 s)(hB:∀s∈B,S0 s)(hl:Q.all.length+B.length<=2900000000000)
  (hR:∀ρ' M',QV { Q with mem:=E1 Q.mem x (k+1),all:=BE Q.all B } ρ' M' b m fm->Ext ρ ρ'->(∀j,j≠b->j≠m->M' j=M j)->R (.returned (.I 0)) (ρ'.or M')) :
  Spec prog 11 #[.pointer (aD b 0),.I x,.slice p n c] (ρ.or M) R:=by
 obtain⟨pt,nt,ct,pi,ni,ci,pa,na,ca,k1,k2,k3,k4,k5⟩:=h.q;have hb:=BT h.L6 k1;refine F0.start ⟨b,0,rfl,some m,AJ hb rfl,MZ.look (two:=true) (Gy h.L6 h.mm) Pg (λhv=>by rw[hk]at hv;cases hv) λv hv=>?_⟩;rw[hk]at hv;cases hv;refine⟨k,true,rfl,λhh=>(by cases hh),λ_=>⟨pa,na,ca,AJ hb rfl,λb28 h28=>?_⟩⟩;obtain⟨r28,m28⟩:=or_none h28;rw[Gw];have MP:=Ext.set (o:=.cells #[.slice pa na ca,.slice p n c] 22 (0,0)) r28;refine Dd (VT h.L6 m28) (Jx (Hp.AA _ _ _) (k4.mono BX.mono MP) k5 (rB.mono BX.mono MP) hc oA oB hA hB hl λp' n' c' ρ2 Ff aK Ao G=>?_);have Fi:=BT G k1;refine⟨p',n',c',0,rfl,λhh=>absurd rfl hh,λ_=>⟨some m,AJ Fi rfl,(Gy G h.mm).dR Pg ⟨_,rfl,?_⟩⟩⟩;rw[hk,Ak6];refine⟨by unfold AL;omega,MZ.put (Gy G h.mm) λo ho=>?_⟩;have D3:FI ρ2 (M.set m o):=H5 G (G m h.mm.known);have hM:=(Hp.AB (Z22:=M) (o:=o) h.bm).trans k1;rw[BZ (G m h.mm.known)];refine AI.tZ Vr (BT D3 hM) rfl rfl rfl gO ?_;rw[BZ (D3 b (by rw[hM];simp))];have X:=MP.trans Ao;refine hR ρ2 _ ⟨H5 D3 (D3 b (by rw[hM];simp)),h.bm,h.bf,h.mf,⟨pt,nt,ct,pi,ni,ci,p',n',c',Hp.AA _ _ _,k2.mono Ia.mono X,k3.mono F3.mono X,Ff,aK⟩,ho _ ((Hp.AB (Aj4 h.bm)).trans (Hp.AA _ _ _)),h.ff.loc ((Hp.AB (Aj4 h.bf)).trans (Hp.AB (Aj4 h.mf))),h.tr,h.ne⟩ X λj hj hjm=>(Hp.AB hj).trans (Hp.AB hjm)
def Fh (f:List (Int×Int))(ids:List Int):List (Int×Int):=ids.foldl (λf i=>E1 f i ((A3 f i).getD 0+1)) f
theorem ql {q:Option Addr}{n d:Nat}{ids:List Int}{pt:Option Addr}{nt ct:Nat}{t:Int}{Gx:Int}{rd:Bool}{ver fl:Int}{pi:Option Addr}{ni ci:Nat}{pa:Option Addr}{na ca:Nat}{f:Value}{K:Int}(rI:DB .u64 ρ q n ids)(hK:0<=K/\K+n<=4611686018427387903)(gw:b≠fm)(hn:n<=1000000000)(qm:List (Int×Int))(M0:Hp)
  (hR:∀M',FI ρ M'->M' b=M0 b->MZ .u64 M' fm (Fh qm ids)->(∀j,j≠fm->M' j=M0 j)->R (.returned (.I 0)) (ρ.or M')) :
  ∀(g k:Nat) (M:Hp),n-k=g->k<=n->FI ρ M->M b=some (.cells (qLg pt nt ct t m Gx rd ver fl pi ni ci fm pa na ca f) 72 (0,0))->M b=M0 b->(∀j,j≠fm->M j=M0 j)->MZ .u64 M fm (Fh qm (ids.take k))->(∀i,0<=(A3 (Fh qm (ids.take k)) i).getD 0/\(A3 (Fh qm (ids.take k)) i).getD 0<=K+k)->
   BO.HQ R (aD b 0) q n d (n:Int) (k:Int) (ρ.or M):=by
 have hl:ids.length=n:=rI.1;intro g
 induction g with
 | zero=>
  intro k M hg hk D hM G hMj hf hb;rw[Ajq (by omega)]at hf;exact BO.DZ ⟨λhh=>by omega,λ_=>hR M D G hf hMj⟩
 | succ g ih=>
  intro k M hg hk D hM G hMj hf hb;have Cs:k<n:=by omega
  obtain⟨i,hi⟩:=rI.ex Cs;obtain⟨za,zb,rfl,AMj⟩:=rI.at hi;obtain⟨h0,h1⟩:=hb i;refine BO.DZ ⟨λ_=>⟨za,zb,rfl,by unfold In;omega,i,by simpa using(Ext.Cf ρ M).ld AMj,b,0,rfl,some fm,AJ (BT D hM) rfl,(Gy D hf).dR Pg ⟨_,rfl,by unfold AL;omega,MZ.put (Gy D hf) λo ho=>⟨by unfold AL;omega,?_⟩⟩⟩,λhh=>by omega⟩;rw[BZ (D fm hf.known)];have eF:Fh qm (ids.take (k+1))=E1 (Fh qm (ids.take k)) i ((A3 (Fh qm (ids.take k)) i).getD 0+1):=by
   unfold Fh;rw[AU hi,AlB];rfl
  have:=ih (k+1) (M.set fm o) (by omega) (by omega) (H5 D (D fm hf.known)) ((Hp.AB gw).trans hM) ((Hp.AB gw).trans G) (λj hj=>(Hp.AB hj).trans (hMj j hj)) (by rw[eF];exact ho _ (Hp.AA _ _ _)) (λj=>by
   rw[eF,Kx];by_cases e:j=i
   .rw[Ajl e,Ak6];omega
   .rw[Ajj e];have:=hb j;omega)
  rw[show((k+1:Nat):Int)=(k:Int)+1 by omega]at this;exact this
theorem Rk {p q:Option Addr}{n c j d:Nat}{B:List Sr}{ids:List Int}{K:Int}(h:QV Q ρ M b m fm)(h2:Q.rd=true)(rI:DB .u64 ρ q j ids)(hj:j<=1000000000)(hK:0<=K/\K+j<=4611686018427387903)(hk:∀i,0<=(A3 Q.TB i).getD 0/\(A3 Q.TB i).getD 0<=K)(rB:Ae 2 BX ρ p n B)(hc:n<=c)(oA:DU none Q.all=true)(oB:DU none B=true)(hA:∀s∈Q.all,S0 s)(hB:∀s∈B,S0 s)(hl:Q.all.length+B.length<=2900000000000)
  (hR:∀ρ' M',QV { Q with TB:=Fh Q.TB ids,all:=BE Q.all B } ρ' M' b m fm->Ext ρ ρ'->(∀j,j≠b->j≠fm->M' j=M j)->R (.returned (.I 0)) (ρ'.or M')) :
  Spec prog 23 #[.pointer (aD b 0),.slice q j d,.slice p n c] (ρ.or M) R:=by
 obtain⟨pt,nt,ct,pi,ni,ci,pa,na,ca,k1,k2,k3,k4,k5⟩:=h.q;have hb:=BT h.L6 k1;refine BO.start ⟨b,0,rfl,pa,na,ca,AJ hb rfl,λb28 h28=>?_⟩;obtain⟨r28,m28⟩:=or_none h28;rw[Gw];have MP:=Ext.set (o:=.cells #[.slice pa na ca,.slice p n c] 22 (0,0)) r28;refine Dd (VT h.L6 m28) (Jx (Hp.AA _ _ _) (k4.mono BX.mono MP) k5 (rB.mono BX.mono MP) hc oA oB hA hB hl λp' n' c' G Ff aK Ao D2=>?_);have Fi:=BT D2 k1;refine⟨p',n',c',0,rfl,λhh=>absurd rfl hh,λ_=>⟨Q.rd,AJ Fi rfl,λhh=>(by rw[h2]at hh;cases hh),λ_=>?_⟩⟩;have X:=MP.trans Ao;have nb:G b=none:=D2 b (by rw[k1];simp);refine AI.tZ Vr Fi rfl rfl rfl gO ?_;rw[BZ nb];have D3:=H5 (o:=qOg pt nt ct Q.at_ m Q.Gx Q.rd Q.ver Q.fl pi ni ci fm p' n' c' b (bG Q.rd)) D2 nb;refine ql (K:=K) (rI.mono X) hK h.bf hj Q.TB _ (λM' D4 e1 hf e2=>?_) j 0 _ rfl (Ajy _) D3 (Hp.AA _ _ _) rfl (λ_ _=>rfl) (h.ff.loc (Hp.AB (Aj4 h.bf))) λi=>⟨(hk i).1,by have:=(hk i).2;show(A3 Q.TB i).getD 0<=_;omega⟩;exact hR G M' ⟨D4,h.bm,h.bf,h.mf,⟨pt,nt,ct,pi,ni,ci,p',n',c',e1.trans (Hp.AA _ _ _),k2.mono Ia.mono X,k3.mono F3.mono X,Ff,aK⟩,h.mm.loc ((e2 m h.mf).trans (Hp.AB (Aj4 h.bm))),hf,h.tr,h.ne⟩ X λi hi him=>(e2 i him).trans (Hp.AB hi)
end
def AU7 (u:UInt8):Bool:=decide (u.toNat=32\/u.toNat=9\/u.toNat=13\/u.toNat=10)
def IK:List UInt8->List UInt8->Option (List UInt8×List UInt8)
 | [],_=>none
 | c::l,a=>if c.toNat<32 then none else if c=34 then some (a,l) else if c=92 then(match l with
  | []=>none
  | u::G=>if u=34\/u=92 then IK G (a++[u]) else if u=110 then IK G (a++[10]) else none) else IK l (a++[c])
def JN (t:Cl)(x:Int×List Cl):Int×List Cl:=if x.1=0 then(0,t::x.2) else(x.1,[])
def HA:Nat->List UInt8->Int×List Cl
 | 0,_=>(1,[])
 | _+1,[]=>(0,[Ut 0 ⟨#[]⟩ 0])
 | f+1,c::l=>
  if AU7 c then HA f l
  else if C8 c then
   (if 0<MB (bA (c::l.takeWhile DF)) then JN (Ut 2 (bA (c::l.takeWhile DF)) (MB (bA (c::l.takeWhile DF)))) (HA f (l.dropWhile DF))
   else if Gv (bA (c::l.takeWhile DF)) then JN (Ut 1 (bA (c::l.takeWhile DF)) (MB (bA (c::l.takeWhile DF)))) (HA f (l.dropWhile DF)) else(172,[]))
  else if T9 c then JN (Ut 3 (bA (c::l.takeWhile JL)) 0) (HA f (l.dropWhile JL))
  else if c=34 then(match IK l [] with
   | some (a,r)=>JN (Ut 4 (bA a) 0) (HA f r)
   | none=>(173,[]))
  else if l.head?.any (λu=>Fa (bA [c,u]) Mq) then JN (Ut 5 (bA (c::l.take 1)) 0) (HA f (l.drop 1))
  else if c∈qg then JN (Ut 5 (bA [c]) 0) (HA f l) else(171,[])
structure qo (R:Rr)(Z0:Hp)(C9:List Cl)(x:Int×List Cl):Prop where
 ok:x.1=0->∀(Z':Hp) (p':Option Addr) (n' c':Nat),AN 4 Yx Z0 Z' p' n' c' (C9++x.2)->R (.T #[.slice p' n' c',.I 0,.I 0]) Z'
 er:x.1≠0->∀(Z':Hp) (a:Int),Ext Z0 Z'->R (.T #[.N,.I a,.I x.1]) Z'
theorem qo.cons {R:Rr}{Z0:Hp}{C9:List Cl}{t:Cl}{x:Int×List Cl}(h:qo R Z0 C9 (JN t x)):qo R Z0 (C9++[t]) x:=by
 unfold JN at h;by_cases G:x.1=0
 .rw[Ajl G]at h;exact⟨λ_ Z' p' n' c' ho=>h.ok rfl Z' p' n' c' (by rw[AkC]at ho;exact ho),λhn=>absurd G hn⟩
 .rw[Ajj G]at h;exact⟨λhh=>absurd hh G,λ_ Z' a hx=>h.er G Z' a hx⟩
theorem head_drop {p:UInt8->Bool}:∀l:List UInt8,∀u,(l.dropWhile p).head?=some u->p u=false
 | [],u,h=>by cases h
 | x::l,u,h=>by
  rw[List.dropWhile_cons]at h;cases hp:p x with
  | true=>rw[hp,Ajl rfl]at h;exact head_drop l u h
  | false=>
   rw[hp,Ajj (by decide)]at h;cases h;exact hp
theorem mH {p:UInt8->Bool}(l:List UInt8):∀u∈l.takeWhile p,p u=true:=Akk.1 List.all_takeWhile
section
variable {Z22 Z0:Hp}{R:Rr}{s:ByteArray}
theorem qp {s:ByteArray}{c:UInt8}(hc:s.data.toList[0]?=some c)(h2:1<s.size->Fa (s.extract 0 2) Mq=false)(hc1:¬c∈qg)(h:R (.returned (.string ⟨#[]⟩)) Z22):Spec prog 60 #[.string s] Z22 R:=by
 have G:C4.AAz R s Z22:=by
  obtain⟨i,hi,hy⟩:=uE (s:=⟨#[60,62,61,43,45,42,47,40,41,123,125,91,93,44]⟩) (c:=c);exact C4.sV ⟨c,by omega,by simpa using hc,Gr.start (B0.start (.y (hy Z22) ⟨_,rfl,_,rfl,_,rfl,λhh=>absurd (hi.1 hh) hc1,λ_=>h⟩))⟩
 have tl:∀b,Fa (s.extract 0 2) Mq=b->1<s.size->C4.Fv R s b Z22:=λb hb h1=>by
  rw[h2 h1]at hb;subst hb;exact C4.Fm ⟨λhh=>by (cases hh),λ_=>G⟩
 refine C4.start ⟨λhg=>⟨_,YL (h:=2) (show 2<=s.size by omega),λh1=>tl _ ?_ (by omega),λh1=>⟨λh2=>tl _ ?_ (by omega),λh2=>⟨λh3=>tl _ ?_ (by omega),λh3=>⟨λh4=>tl _ ?_ (by omega),λh4=>⟨λh5=>tl _ ?_ (by omega),λh5=>tl _ ?_ (by omega)⟩⟩⟩⟩⟩,λ_=>G⟩ <;>
 .simp only[iH]at *;rw[<-AMs];simp only[*,Amv,AmV,Ak8]
theorem xX {p:Option Addr}{n c i:Nat}{x7a x7b x7d:Int}{s7c:ByteArray}{w l:List UInt8}(hb:s.size<=1000000)(hl:∀u,l.head?=some u->DF u=false)(hw:∀u∈w,DF u=true)
  (h1:0<MB (bA w)->AS.IN R s p n c 2 (i:Int) (bA w) (MB (bA w)) ((i+w.length:Nat):Int) Z22) (h2:¬0<MB (bA w)->Gv (bA w)=true->AS.IN R s p n c 1 (i:Int) (bA w) (MB (bA w)) ((i+w.length:Nat):Int) Z22) (h3:¬0<MB (bA w)->Gv (bA w)=false->R (.T #[.N,.I (i:Int),.I 172]) Z22)
  (hd:s.data.toList.drop i=w++l) (hi:i<=s.size):∀g j:Nat,w.length-j=g->j<=w.length->AS.Xp R s p n c x7a x7b s7c x7d ((i+j:Nat):Int) (i:Int) Z22:=by
 have hlen:s.data.toList.length=s.size:=AkP (xs:=s.data);have KD:i+w.length+l.length=s.size:=by
  have:=Ajw List.length hd;rw[Aj6,Ajr]at this;omega
 have hbw:(bA w).size<=1000000:=by
  have:(bA w).size=w.length:=by simp[bA,ByteArray.size]
  omega
 have fin:∃Gt,YF prog (Instr.sliceAt 9 (.string s) (some (.I (i:Int))) (some (.I ((i+w.length:Nat):Int))) none) Z22 (.string Gt)/\Spec prog 61 #[.string Gt] Z22 (AY R (CI .i64 λLp y=>Br (0<Lp) (AS.IN R s p n c 2 (i:Int) Gt Lp ((i+w.length:Nat):Int) y) (Spec prog 62 #[.string Gt] y (AY R (CB λt121 AE=>Bn t121 (R (.T #[.N,.I (i:Int),.I 172]) AE) (AS.IN R s p n c 1 (i:Int) Gt Lp ((i+w.length:Nat):Int) AE)))))):=by
  refine⟨_,fY (by omega) (by omega),?_⟩;rw[MD hd];exact S2 (by omega) ⟨_,rfl,h1,λhp=>JC (by omega) ⟨_,rfl,h3 hp,h2 hp⟩⟩
 intro g
 induction g with
 | zero=>
  intro j hg hj;have S7:j=w.length:=by omega
  subst S7;refine AS.Vk ⟨λAx=>?_,λ_=>fin⟩;cases l with
  | nil=>simp at KD;omega
  | cons u l=>
   obtain⟨h1,h2⟩:=E2 (B5 hd);have G:DF u=false:=hl u rfl;unfold DF at G;rw[Akz,Akz,AkY]at G;have YO:¬((u.toNat:Nat):Int)=46:=λe=>G.2 ((Qj (k:=46) (by decide)).1 e);refine⟨u,by omega,by rw[Aj9];exact h2,CK ⟨_,rfl,λtt=>absurd (G.1.1.symm.trans tt) (by decide),λ_=>⟨u,by omega,by rw[Aj9];exact h2,CU ⟨_,rfl,λtl=>⟨u,by omega,by rw[Aj9];exact h2,λh58=>?_,λ_=>⟨u,by omega,by rw[Aj9];exact h2,λe=>absurd e YO,λ_=>fin⟩⟩,λ_=>⟨u,by omega,by rw[Aj9];exact h2,λe=>absurd e YO,λ_=>fin⟩⟩⟩⟩⟩;have:=G.1.2;rw[tl,Ak1,AkY]at this;exact absurd (λe=>h58 ((Qj (k:=58) (by decide)).2 e)) this
 | succ g ih=>
  intro j hg hj;have S7:j<w.length:=by omega
  obtain⟨u,hu⟩:∃u,w[j]?=some u:=⟨_,Ajs S7⟩;have h2:s.data[i+j]?=some u:=by
   rw[<-AkQ];have:=Ajw (·[j]?) hd;simp only[AkL]at this;rw[this,AkJ S7,hu]
  have G:=hw u (Aju hu);have next:AL (((i+j:Nat):Int)+1)/\AS.Xp R s p n c x7a x7b s7c x7d (((i+j:Nat):Int)+1) (i:Int) Z22:=⟨by unfold AL;omega,by
   have:=ih (j+1) (by omega) (by omega);rw[show((i+(j+1):Nat):Int)=((i+j:Nat):Int)+1 by omega]at this;exact this⟩
  refine AS.Vk ⟨λ_=>⟨u,by omega,by rw[Aj9];exact h2,CK ⟨_,rfl,λ_=>next,λfd=>⟨u,by omega,by rw[Aj9];exact h2,CU ⟨_,rfl,λtl=>⟨u,by omega,by rw[Aj9];exact h2,λ_=>next,λUQ=>⟨u,by omega,by rw[Aj9];exact h2,λ_=>next,λn46=>?_⟩⟩,λfl=>⟨u,by omega,by rw[Aj9];exact h2,λ_=>next,λn46=>?_⟩⟩⟩⟩⟩,λhh=>by omega⟩
  .exfalso;unfold DF at G;rw[fd,Ak8,Alh,Ajz,Aj3,Aj3]at G;rcases G with G|G
   .exact UQ λe=>G.2 ((Qj (k:=58) (by decide)).1 e)
   .exact n46 ((Qj (k:=46) (by decide)).2 G)
  .exfalso;unfold DF at G;rw[fd,fl,Ak8,Aku,Ak8,Aj3]at G;exact n46 ((Qj (k:=46) (by decide)).2 G)
def mI (a:List UInt8):List Int:=a.map λu=>((u.toNat:Nat):Int)
theorem Y9 (a:List UInt8)(u:UInt8):mI (a++[u])=mI a++[((u.toNat:Nat):Int)]:=by simp[mI]
def TxG (R:Rr)(s:ByteArray)(p:Option Addr)(n c:Nat)(x7a x7b x7d f0:Int)(s7c:ByteArray)(a:List UInt8)(k:Nat)(y:Hp):Prop:=
 Al y λb=>AI prog (Builtin.append_ #[73,73] 73 #[.slice p n c,(.slice (aD b 0) 1 1)]) (Hp.set y b (.cells #[.I 4,.I f0,.string (bA a),.I 0] 83 (0,0))) (CS λp' G c' y'=>AL ((k:Int)+1)/\AS.JY R s p' G c' x7a x7b s7c x7d ((k:Int)+1) y')
theorem AGV (hb:s.size<=1000000){Zt:Hp}{p:Option Addr}{n c:Nat}{x7a x7b x7d f0:Int}{s7c:ByteArray}:
  ∀(g:Nat) (l a:List UInt8) (k n6 c6:Nat) (p6:Option Addr) (Z22:Hp),l.length<=g->s.data.toList.drop k=l->k<=s.size->AN 1 (FK .u8) Zt Z22 p6 n6 c6 (mI a)->n6<=k->
   (IK l a=none->∀(Z':Hp) (a:Int),Ext Zt Z'->R (.T #[.N,.I a,.I 173]) Z')->
   (∀(a' r:List UInt8) (Z':Hp) (k':Nat),IK l a=some (a',r)->k<=k'->Ext Zt Z'->s.data.toList.drop (k'+1)=r->k'+1<=s.size->TxG R s p n c x7a x7b x7d f0 s7c a' k' Z')->AS.cZ R s p n c p6 n6 c6 x7a x7b s7c x7d (k:Int) f0 Z22:=by
 have hlen:s.data.toList.length=s.size:=AkP (xs:=s.data);intro g
 induction g with
 | zero=>
  intro l a k n6 c6 p6 Z22 hg hd hk ho hn hE hG;have:s.size<=k:=by
   have:=Ajw List.length hd;rw[Aj6]at this;omega
  obtain rfl:l=[]:=Aj8 (by omega);exact AS.Xr ⟨λ_=>hE rfl Z22 f0 ho.up,λhh=>absurd (show(k:Int)=(s.size:Int) by omega) hh⟩
 | succ g ih=>
  intro l a k n6 c6 p6 Z22 hg hd hk ho hn hE hG;cases l with
  | nil=>
   have:s.size<=k:=by
    have:=Ajw List.length hd;rw[Aj6]at this;simp at this;omega
   exact AS.Xr ⟨λ_=>hE rfl Z22 f0 ho.up,λhh=>absurd (show(k:Int)=(s.size:Int) by omega) hh⟩
  | cons u l=>
   rw[Ajk]at hg;obtain⟨h1,h2⟩:=E2 hd;have bH:s.data.toList.drop (k+1)=l:=B5 (a:=[u]) hd;have mu:s.data[Int.toNat (k:Int)]?=some u:=by rw[Aj9];exact h2
   refine AS.Xr ⟨λhh=>by omega,λ_=>⟨u,by omega,mu,λh32=>hE (by rw[IK.eq_def];dsimp only;rw[Ajl (by omega)]) Z22 f0 ho.up,λn32=>⟨u,by omega,mu,λh34=>?_,λn34=>⟨λh92=>?_,λn92=>λALQ AU8=>?_⟩⟩⟩⟩
   .have e:u=34:=(Qj (k:=34) (by decide)).1 h34;subst e;refine lK (ho.rd (FK.mono .u8)) ⟨_,rfl,?_⟩;have e2:strOfNums (mI a)=bA a:=ABm a;rw[e2];exact hG a l Z22 k (by rw[IK.eq_def];dsimp only;rw[Ajj (by decide),Ajl rfl]) (Ajt _) ho.up bH (by omega)
   .have e:u=92:=(Qj (k:=92) (by decide)).1 h92;subst e;refine⟨by unfold AL;omega,λhe=>?_,λAv=>⟨by unfold AL;omega,?_⟩⟩
    .obtain rfl:l=[]:=Aj8 (by
      have:=Ajw List.length bH;rw[Aj6]at this;omega)
     exact hE rfl Z22 f0 ho.up
    cases l with
    | nil=>
     exfalso;have:=Ajw List.length bH;rw[Aj6]at this;simp at this;omega
    | cons v l=>
     rw[Ajk]at hg;obtain⟨h3,h4⟩:=E2 bH;have hd2:s.data.toList.drop (k+2)=l:=B5 (a:=[v]) bH;have go:∀z:UInt8,IK (92::v::l) a=IK l (a++[z])->(Al Z22 λb=>AI prog (Builtin.append_ #[134,134] 134 #[.slice p6 n6 c6,(.slice (aD b 0) 1 1)]) (Hp.set Z22 b (.cells #[.int .u8 ((z.toNat:Nat):Int)] 5 (0,0))) (CS λp' n' c' y=>AS.sY R s p n c p' n' c' x7a x7b s7c x7d (k:Int) f0 y)):=λz hz b LD=>by
      refine AN.FN (FK.mono .u8) ho rfl (λw hw=>by rw[Ajp]at hw;subst hw;rfl) rfl (by omega) (λp' c' Z4 Hy _=>⟨_,_,_,rfl,AS.ABG ⟨by unfold AL;omega,?_⟩⟩) LD;rw[<-Y9]at Hy;have:=ih l (a++[z]) (k+2) (n6+1) c' p' Z4 (by omega) hd2 (by omega) Hy (by omega) (λhz'=>hE (hz.trans hz')) λa' r Z' k' ht hkk=>hG a' r Z' k' (hz.trans ht) (by omega);rw[show((k+2:Nat):Int)=(k:Int)+2 by omega]at this;exact this
     have hv2:s.data[Int.toNat ((k:Int)+1)]?=some v:=by rw[show(k:Int)+1=((k+1:Nat):Int) by omega,Aj9];exact h4
     have t92:IK (92::v::l) a=if v=34\/v=92 then IK l (a++[v]) else if v=110 then IK l (a++[10]) else none:=by
      rw[IK,Ajj (by decide),Ajj (by decide),Ajl rfl]
     refine⟨v,by omega,hv2,λq34=>AS.kT ⟨λ_=>go v ?_,λhh=>by cases hh⟩,λq34=>AS.kT ⟨λq92=>go v ?_,λq92=>⟨λAMy=>go 10 ?_,λAMy=>hE ?_ Z22 f0 ho.up⟩⟩⟩
     .rw[t92,Ajl (.inl ((Qj (k:=34) (by decide)).1 q34))]
     .rw[t92,Ajl (.inr ((Qj (k:=92) (by decide)).1 (Ajx q92)))]
     .have G:¬(v=34\/v=92):=λhh=>hh.elim (λe=>q34 ((Qj (k:=34) (by decide)).2 e)) λe=>AkM q92 ((Qj (k:=92) (by decide)).2 e);rw[t92,Ajj G,Ajl (show v=110 from(Qj (k:=110) (by decide)).1 AMy)]
     .have G:¬(v=34\/v=92):=λhh=>hh.elim (λe=>q34 ((Qj (k:=34) (by decide)).2 e)) λe=>AkM q92 ((Qj (k:=92) (by decide)).2 e);rw[t92,Ajj G,Ajj (λe:v=110=>AMy ((Qj (k:=110) (by decide)).2 e))]
   .have G:¬u=34:=λe=>n34 ((Qj (k:=34) (by decide)).2 e);have e92:¬u=92:=λe=>n92 ((Qj (k:=92) (by decide)).2 e);have hz:IK (u::l) a=IK l (a++[u]):=by rw[IK.eq_def];dsimp only;rw[Ajj (by omega),Ajj G,Ajj e92]
    refine AN.FN (FK.mono .u8) ho rfl (λw hw=>by rw[Ajp]at hw;subst hw;rfl) rfl (by omega) (λp' c' Z4 Hy _=>⟨_,_,_,rfl,by unfold AL;omega,?_⟩) AU8;rw[<-Y9]at Hy;have:=ih l (a++[u]) (k+1) (n6+1) c' p' Z4 (by omega) bH (by omega) Hy (by omega) (λhz'=>hE (hz.trans hz')) λa' r Z' k' ht hkk=>hG a' r Z' k' (hz.trans ht) (by omega);rw[show((k+1:Nat):Int)=(k:Int)+1 by omega]at this;exact this
theorem Md {p:UInt8->Bool}(l:List UInt8):l.takeWhile p++l.dropWhile p=l:=List.takeWhile_append_dropWhile
theorem AGW (hb:s.size<=1000000):∀(f:Nat) (l:List UInt8),l.length<f->∀{i n c:Nat} {Z22:Hp} {p:Option Addr} {C9:List Cl} {x7a x7b x7d:Int} {s7c:ByteArray},s.data.toList.drop i=l->i<=s.size->AN 4 Yx Z0 Z22 p n c C9->n+l.length+1<=1000000->
  qo R Z0 C9 (HA f l)->AS.JY R s p n c x7a x7b s7c x7d (i:Int) Z22:=by
 have hlen:s.data.toList.length=s.size:=AkP (xs:=s.data);intro f
 induction f with
 | zero=>intro l hl;omega
 | succ f ih=>
  intro l hl i n c Z22 p C9 x7a x7b x7d s7c hd hi ho hn G;cases l with
  | nil=>
   have:s.size<=i:=by
    have:=Ajw List.length hd;rw[Aj6]at this;simp at this;omega
   exact AS.IY ⟨λ_=>Hh ho (by simp at hn;omega) λp' c' y EM=>G.ok rfl y p' _ c' EM,λhh=>by omega⟩
  | cons c0 l=>
   obtain⟨h1,h2⟩:=E2 hd;have bH:s.data.toList.drop (i+1)=l:=B5 (a:=[c0]) hd;have aK:s.data[Int.toNat (i:Int)]?=some c0:=by rw[Aj9];exact h2
   rw[Ajk]at hl hn;have Ax:s.data.toList.length-i=l.length+1:=by
    have:=Ajw List.length hd;rw[Aj6,Ajk]at this;exact this
   rw[HA]at G;by_cases hs:AU7 c0=true
   .rw[Ajl hs]at G;have:=ih l (by omega) (x7a:=x7a) (x7b:=x7b) (x7d:=x7d) (s7c:=s7c) bH (by omega) ho (by omega) G;have go:AL ((i:Int)+1)/\AS.JY R s p n c x7a x7b s7c x7d ((i:Int)+1) Z22:=⟨by unfold AL;omega,by rw[show((i+1:Nat):Int)=(i:Int)+1 by omega]at this;exact this⟩;have Ms:=Ajx hs;exact AS.IY ⟨λhh=>by omega,λ_=>⟨c0,by omega,aK,λ_=>go,λn1=>⟨λ_=>go,λn2=>⟨λ_=>go,λn3=>⟨λ_=>go,λn4=>by omega⟩⟩⟩⟩⟩
   rw[Ajj hs]at G;have Ms:¬(c0.toNat=32\/c0.toNat=9\/c0.toNat=13\/c0.toNat=10):=λhh=>hs (Aj0 hh);have pre:(Spec prog 58 #[(.int .u8 ((c0.toNat:Nat):Int))] Z22 (AY R (CB λt49 y=>Bo t49 (AS.Xp R s p n c x7a x7b s7c x7d (i:Int) (i:Int) y) (Spec prog 59 #[(.int .u8 ((c0.toNat:Nat):Int))] y (AY R (CB λt52 AE=>Bo t52 (AS.Xq R s p n c x7a x7b s7c x7d (i:Int) (i:Int) AE) (Br (((c0.toNat:Nat):Int)=34) (AL ((i:Int)+1)/\AS.cZ R s p n c none 0 0 x7a x7b s7c x7d ((i:Int)+1) (i:Int) AE) (∃s60,YF prog (Instr.sliceAt 9 (.string s) (some (.I (i:Int))) none none) AE (.string s60)/\Spec prog 60 #[.string s60] AE (AY R (CT λsZ AK=>Bn ((ByteArray.toList sZ==ByteArray.toList (ByteArray.mk #[]))) (Al AK λb68=>AI prog (Builtin.append_ #[73,73] 73 #[.slice p n c,(.slice (aD b68 0) 1 1)]) (Hp.set AK b68 (.cells #[.I 5,.I (i:Int),.string sZ,.I 0] 83 (0,0))) (CS λpD n69 pE Ai=>AL ((i:Int)+(sZ.size:Int))/\AS.JY R s pD n69 pE x7a x7b s7c x7d (((i:Int)+(sZ.size:Int))) Ai)) (R (.T #[.N,.I (i:Int),.I 171]) AK)))))))))))->AS.JY R s p n c x7a x7b s7c x7d (i:Int) Z22:=λh=>
    AS.IY ⟨λhh=>by omega,λ_=>⟨c0,by omega,aK,λe=>absurd e (by omega),λ_=>⟨λe=>absurd e (by omega),λ_=>⟨λe=>absurd e (by omega),λ_=>⟨λe=>absurd e (by omega),λ_=>h⟩⟩⟩⟩⟩
   refine pre ?_;clear pre;by_cases hdg:C8 c0=true
   .rw[Ajl hdg]at G;have hsp:s.data.toList.drop i=(c0::l.takeWhile DF)++l.dropWhile DF:=by rw[Akl,Md];exact hd
    have hdr:s.data.toList.drop (i+(c0::l.takeWhile DF).length)=l.dropWhile DF:=B5 hsp;have hle:(l.dropWhile DF).length<=l.length:=(AlL _).length_le;have AcG:(c0::l.takeWhile DF).length+(l.dropWhile DF).length=l.length+1:=by
     have:=Ajw List.length (hsp.symm.trans hd);rw[Ajr]at this;exact this
    have go:∀(k v:Int),qo R Z0 C9 (JN (Ut k (bA (c0::l.takeWhile DF)) v) (HA f (l.dropWhile DF)))->AS.IN R s p n c k (i:Int) (bA (c0::l.takeWhile DF)) v ((i+(c0::l.takeWhile DF).length:Nat):Int) Z22:=λk v hK=>
     AS.Xs (Hh ho (by omega) λp' c' y EM=>ih (l.dropWhile DF) (by omega) hdr (by omega) EM (by omega) hK.cons)
    refine CK ⟨_,rfl,λ_=>?_,λff=>absurd (hdg.symm.trans ff) (by decide)⟩;refine xX (w:=c0::l.takeWhile DF) hb (head_drop l) (λu hu=>?_) (λhp=>?_) (λhp hq=>?_) (λhp hq=>?_) hsp hi _ 0 rfl (Ajy _)
    .rcases Ajo.1 hu with rfl|hu
     .unfold DF;rw[hdg];rfl
     .exact mH l u hu
    .rw[Ajl hp]at G;exact go 2 _ G
    .rw[Ajj hp,Ajl hq]at G;exact go 1 _ G
    .rw[Ajj hp,Ajj (by rw[hq];decide)]at G;exact G.er (by decide) Z22 _ ho.up
   rw[Ajj hdg]at G;refine CK ⟨_,rfl,λtt=>absurd tt hdg,λ_=>?_⟩;by_cases ADD:T9 c0=true
   .rw[Ajl ADD]at G;have hsp:s.data.toList.drop i=(c0::l.takeWhile JL)++l.dropWhile JL:=by rw[Akl,Md];exact hd
    have hdr:s.data.toList.drop (i+(c0::l.takeWhile JL).length)=l.dropWhile JL:=B5 hsp;have hle:(l.dropWhile JL).length<=l.length:=(AlL _).length_le;have AcG:(c0::l.takeWhile JL).length+(l.dropWhile JL).length=l.length+1:=by
     have:=Ajw List.length (hsp.symm.trans hd);rw[Ajr]at this;exact this
    refine CU ⟨_,rfl,λ_=>?_,λff=>absurd (ADD.symm.trans ff) (by decide)⟩;refine dY (w:=c0::l.takeWhile JL) hb (head_drop l) (λu hu=>?_) (Hh ho (by omega) λp' c' y EM=>ih (l.dropWhile JL) (by omega) hdr (by omega) EM (by omega) G.cons) hsp hi _ 0 rfl (Ajy _);rcases Ajo.1 hu with rfl|hu
    .unfold JL;rw[ADD];rfl
    .exact mH l u hu
   rw[Ajj ADD]at G;refine CU ⟨_,rfl,λtt=>absurd tt ADD,λ_=>?_⟩;by_cases h34:c0=34
   .rw[Ajl h34]at G;refine⟨λ_=>⟨by unfold AL;omega,?_⟩,λhh=>absurd (by rw[h34];rfl) hh⟩;have:=AGV (R:=R) (s:=s) hb (Zt:=Z22) (p:=p) (n:=n) (c:=c) (x7a:=x7a) (x7b:=x7b) (x7d:=x7d) (s7c:=s7c) (f0:=(i:Int)) l.length l [] (i+1) 0 0 none Z22 (Ajt _) bH (by omega) (AN.nil (.refl _)) (Ajy _) (λhz Z' a hx=>?_) λa r Z' k ht hkk hx hdk hk=>?_
    .rw[show((i+1:Nat):Int)=(i:Int)+1 by omega]at this;exact this
    .rw[hz]at G;dsimp only at G;exact G.er (by decide) Z' a (ho.up.trans hx)
    .rw[ht]at G;dsimp only at G;have lQ:r.length<l.length:=by
      have:=Ajw List.length hdk;rw[Aj6]at this;omega
     unfold TxG;refine Hh (ho.mono Yx.mono hx) (by omega) λp' c' y EM=>⟨by unfold AL;omega,?_⟩;have:=ih r (by omega) (x7a:=x7a) (x7b:=x7b) (x7d:=x7d) (s7c:=s7c) hdk hk EM (by omega) G.cons;rw[show((k+1:Nat):Int)=(k:Int)+1 by omega]at this;exact this
   rw[Ajj h34]at G;refine⟨λe=>absurd ((Qj (k:=34) (by decide)).1 e) h34,λ_=>⟨_,P8 (by omega),?_⟩⟩;have hex:(s.extract i s.size).data.toList=c0::l:=by rw[S3,hd];exact Ajq (by rw[Ajk];omega)
   have e1:(s.extract i s.size).extract 0 1=bA [c0]:=MD (i:=0) (a:=[c0]) (l:=l) hex;have AVA:(s.extract i s.size).size=l.length+1:=Ajw List.length hex;have sgn:∀(w r:List UInt8),w++r=c0::l->w≠[]->qo R Z0 C9 (JN (Ut 5 (bA w) 0) (HA f r))->(CT λsZ AK=>Bn ((ByteArray.toList sZ==ByteArray.toList (ByteArray.mk #[]))) (Al AK λb68=>AI prog (Builtin.append_ #[73,73] 73 #[.slice p n c,(.slice (aD b68 0) 1 1)]) (Hp.set AK b68 (.cells #[.I 5,.I (i:Int),.string sZ,.I 0] 83 (0,0))) (CS λpD n69 pE Ai=>AL ((i:Int)+(sZ.size:Int))/\AS.JY R s pD n69 pE x7a x7b s7c x7d (((i:Int)+(sZ.size:Int))) Ai)) (R (.T #[.N,.I (i:Int),.I 171]) AK)) (.string (bA w)) Z22:=λw r hwr hw hK=>by
    have hws:(bA w).size=w.length:=by simp[bA,ByteArray.size]
    have hwp:0<w.length:=Amc.2 hw;have hdw:s.data.toList.drop (i+w.length)=r:=B5 (hd.trans hwr.symm);have hll:w.length+r.length=l.length+1:=by
     have:=Ajw List.length hwr;rw[Ajr,Ajk]at this;exact this
    refine⟨_,rfl,λ_=>Hh ho (by omega) λp' c' y EM=>⟨by rw[hws];unfold AL;omega,?_⟩,λhe=>?_⟩
    .have:=ih r (by omega) (x7a:=x7a) (x7b:=x7b) (x7d:=x7d) (s7c:=s7c) hdw (by omega) EM (by omega) hK.cons;rw[hws];rw[show((i+w.length:Nat):Int)=(i:Int)+(w.length:Int) by omega]at this;exact this
    .rw[kY,Aj3]at he;omega
   by_cases h2':(l.head?.any λu=>Fa (bA [c0,u]) Mq)=true
   .rw[Ajl h2']at G;cases l with
    | nil=>cases h2'
    | cons u l=>
     have h2':Fa (bA [c0,u]) Mq=true:=h2';have e2:(s.extract i s.size).extract 0 2=bA [c0,u]:=MD (i:=0) (a:=[c0,u]) (l:=l) hex;rw[Ajk]at AVA;refine Uv (by omega) (by rw[e2];exact h2') ?_;rw[e2];exact sgn [c0,u] l rfl (by simp) G
   rw[Ajj h2']at G;have Ab:1<(s.extract i s.size).size->Fa ((s.extract i s.size).extract 0 2) Mq=false:=λhg=>by
    cases l with
    | nil=>rw[AVA]at hg;simp at hg
    | cons u l=>
     have e2:(s.extract i s.size).extract 0 2=bA [c0,u]:=MD (i:=0) (a:=[c0,u]) (l:=l) hex;rw[e2];have h2':¬Fa (bA [c0,u]) Mq=true:=h2';simpa using h2'
   by_cases h1':c0∈qg
   .rw[Ajl h1']at G;refine Uw (c:=c0) (by rw[hex];rfl) Ab h1' ?_;rw[e1];exact sgn [c0] l rfl (by simp) G
   .rw[Ajj h1']at G;refine qp (c:=c0) (by rw[hex];rfl) Ab h1' ⟨_,rfl,λhe=>?_,λ_=>G.er (by decide) Z22 _ ho.up⟩;simp at he
end
inductive Rz (α:Type) where
 | ok (x:α)
 | er (e:Int)
 | out
def Rz.bind {α β:Type}:Rz α->(α->Rz β)->Rz β
 | .ok x,g=>g x
 | .er e,_=>.er e
 | .out,_=>.out
def Q8 (G a:Int):Value:=.iface 80 (.agg #[.I G,.I a])
def Fz (R:Rr)(O2:Hp)(G:Int):Prop:=∀(a:Int) (y:Hp),Ext O2 y->R (.panicked [{ v:=Q8 G a,recovered:=false }]) y
theorem Fz.base {R:Rr}{O2 G:Hp}{Ef:Int}(h:Fz R O2 Ef)(hx:Ext O2 G):Fz R G Ef:=λa y hy=>h a y (hx.trans hy)
theorem Fz.box {R:Rr}{O2:Hp}{Ef:Int}{b:Nat}{o:Obj}(h:Fz R O2 Ef):Fz (λe G=>G b=none->R e (G.set b o)) O2 Ef:=λa y hy hn=>h a _ (hy.trans (.set hn))
theorem Fz.cont {R:Rr}{O2:Hp}{G:Int}{Φ:Value->Hp->Prop}(h:Fz R O2 G):Fz (AY R Φ) O2 G:=λa y hy=>h a y hy
def Ux (c:Cl):Int:=if c.kind=0 then 180 else 181
def uH:Nat->List Cl->List ByteArray->Rz (List ByteArray×List Cl)
 | 0,_,_=>.out
 | _+1,[],_=>.out
 | f+1,c::r,ns=>if c.rp then .ok (ns,r) else if ns.length=0 then(if c.name then uH f r (ns++[c.text]) else .er (Ux c)) else if c.comma then(match r with
  | []=>.out
  | w::r'=>if w.name then uH f r' (ns++[w.text]) else .er (Ux w)) else .er (Ux c)
def UA (k:Int):List Cl->Rz (Int×List ByteArray×List Cl)
 | []=>.out
 | l::r=>if l.lp then(uH (r.length+1) r []).bind λx=>.ok (k,x.1,x.2) else .er (Ux l)
def bJ (s0 s1:ByteArray)(G k1:Int):List Cl->Rz (Int×List ByteArray×List Cl)
 | []=>.out
 | c::r=>if GN c.kind c.text 3 s0 then UA G r else if GN c.kind c.text 3 s1 then UA k1 r else .ok (0,[],c::r)
section
variable {O2 ρ ρ':Hp}{pb nb n c m e:Nat}{p q:Option Addr}{ts:List Cl}{out:List Nd}{d:Int}{t:Cl}{R:Rr}
theorem B4.xt (h:B4 O2 ρ pb p n c q m e ts out)(o:Obj):Ext O2 (ρ.set pb o):=h.out.up.trans (h.ext o)
theorem DG (h:B4 O2 ρ pb p n c q m e (t::ts) out)(hE:Fz R O2 (Ux t)):Spec prog 32 #[.pointer (aD pb 0)] (ρ.set pb (pO p n c d q m e)) R:=by
 refine Fq.start (BJ h λa=>⟨_,_,_,_,rfl,λG=>BJ h λa'=>⟨_,_,_,_,rfl,C6.start λ_=>?_⟩,λG=>Fq.LU (BJ h λa'=>⟨_,_,_,_,rfl,C6.start λ_=>?_⟩)⟩)
 .have:=hE a' _ (h.xt (pO p n c d q m e));rw[Ux,Ajl G]at this;exact this
 .have:=hE a' _ (h.xt (pO p n c d q m e));rw[Ux,Ajj G]at this;exact this
theorem JO {s:ByteArray}(h:B4 O2 ρ pb p n c q m e (t::ts) out)(G:GN t.kind t.text 5 s=true->R (.T #[]) (ρ.set pb (pO (Ee p 1 c 4) (n-1) (c-1) d q m e)))(hE:GN t.kind t.text 5 s=false->Fz R O2 (Ux t)):
  Spec prog 137 #[.pointer (aD pb 0),.string s] (ρ.set pb (pO p n c d q m e)) R:=
 C3.start (BS h ⟨_,rfl,λhf=>DG h (hE hf).cont,λht=>C3.LU (BF h λa=>⟨_,_,_,_,rfl,G ht⟩)⟩)
theorem Uy (h:B4 O2 ρ pb p n c q m e (t::ts) out)(Aa:t.name=true->R (.returned (.string t.text)) (ρ.set pb (pO (Ee p 1 c 4) (n-1) (c-1) d q m e)))(hE:t.name=false->Fz R O2 (Ux t)):Spec prog 138 #[.pointer (aD pb 0)] (ρ.set pb (pO p n c d q m e)) R:=by
 have hk:t.name=(decide (t.kind=3)&&Dt t.text):=Ajw Cl.name h.tok.1;refine C5.start (BJ h λa=>⟨_,_,_,_,rfl,λAv=>DG h (hE ?_).cont,λG=>BJ h λa=>⟨_,_,_,_,rfl,P9 ⟨_,rfl,λhf=>DG h (hE ?_).cont,λht=>C5.BI (BF h λa=>⟨_,_,_,_,rfl,Aa ?_⟩)⟩⟩⟩)
 .rw[hk,Aj1 Av];rfl
 .rw[hk,hf,Akx]
 .rw[hk,ht,Aj0 (AkK.1 G)];rfl
theorem Uz (h:B4 O2 ρ pb p n c q m e (t::ts) out)(Aa:t.kind=2->R (.returned (.I t.span)) (ρ.set pb (pO (Ee p 1 c 4) (n-1) (c-1) d q m e)))(hE:t.kind≠2->Fz R O2 (Ux t)):Spec prog 266 #[.pointer (aD pb 0)] (ρ.set pb (pO p n c d q m e)) R:=
 Cy.start (BJ h λa=>⟨_,_,_,_,rfl,λAv=>DG h (hE Av).cont,λG=>Cy.BI (BF h λa=>⟨_,_,_,_,rfl,Aa (AkK.1 G)⟩)⟩)
theorem mJ {ρ0:Hp}:∀(f:Nat) (ts:List Cl) (ns:List ByteArray),ns.length+f<=1000000->∀{ρ:Hp} {p pn:Option Addr} {n c kn cn:Nat},B4 O2 ρ0 pb p n c q m e ts out->ρ pb=none->AN 1 VV ρ0 ρ pn kn cn ns->
  (∀x,uH f ts ns=.ok x->∀(ρ':Hp) (p' pn':Option Addr) (n' c' kn' cn':Nat),B4 O2 ρ0 pb p' n' c' q m e x.2 out->ρ' pb=none->AN 1 VV ρ0 ρ' pn' kn' cn' x.1->R (.returned (.slice pn' kn' cn')) (ρ'.set pb (pO p' n' c' d q m e)))->
  (∀e',uH f ts ns=.er e'->Fz R O2 e')->uH f ts ns≠.out->Au.CD R (aD pb 0) pn kn cn (ρ.set pb (pO p n c d q m e)):=by
 intro f
 induction f with
 | zero=>intro ts ns _ ρ p pn n c kn cn _ _ _ _ _ Ab;exact absurd rfl Ab
 | succ f ih=>
  intro ts ns hb ρ p pn n c kn cn h0 hn ho Aa A9 Ab;cases ts with
  | nil=>exact absurd rfl Ab
  | cons c0 r=>
   have hu:=h0.grow ho.up hn;have ht:=hu.tok.1;have iP:ns.length=kn:=ho.1.1;have cH:c0.rp=GN c0.kind c0.text 5 ⟨#[41]⟩:=Ajw Cl.rp ht;have hcm:c0.comma=GN c0.kind c0.text 5 ⟨#[44]⟩:=Ajw Cl.comma ht;rw[uH.eq_def]at Aa A9 Ab;dsimp only at Aa A9 Ab;have app:∀(w:Cl) (r':List Cl) (p1:Option Addr) (n1 c1:Nat),(w.name=true->∀x,uH f r' (ns++[w.text])=.ok x->∀(ρ':Hp) (p' pn':Option Addr) (n' c' kn' cn':Nat),B4 O2 ρ0 pb p' n' c' q m e x.2 out->ρ' pb=none->AN 1 VV ρ0 ρ' pn' kn' cn' x.1->R (.returned (.slice pn' kn' cn')) (ρ'.set pb (pO p' n' c' d q m e)))->(w.name=true->∀e',uH f r' (ns++[w.text])=.er e'->Fz R O2 e')->(w.name=true->uH f r' (ns++[w.text])≠.out)->(w.name=false->Fz R O2 (Ux w))->B4 O2 ρ0 pb p1 n1 c1 q m e (w::r') out->Au.SH R (aD pb 0) pn kn cn (ρ.set pb (pO p1 n1 c1 d q m e)):=λw r' p1 n1 c1 k1 k2 k3 k4 Qy=>
    Au.Eu (Uy (Qy.grow ho.up hn) (λG=>⟨_,rfl,λb LD=>by
     obtain⟨e1,e2⟩:=Hp.AM LD;rw[Hp.BD (Aj4 e1)];refine AI.AR (by rw[Hp.AB (Aj4 e1)];exact hn) ?_;refine AN.FN VV.mono ho rfl (λu hu=>by rw[Ajp]at hu;subst hu;rfl) rfl (by omega) (λpn' cn' ρ' EM Sc Mh=>⟨_,_,_,rfl,?_⟩) e2;exact ih r' _ (by rw[Ajr,AkS];omega) Qy.step Mh EM (k1 G) (k2 G) (k3 G)⟩) λhf=>(k4 hf).cont)
   refine Au.A5 (BS hu ⟨_,rfl,λuR=>?_,λpU=>BF hu λa=>⟨_,_,_,_,rfl,?_⟩⟩)
   .rw[<-cH]at uR;rw[Ajj (by rw[uR];decide)]at Ab;simp only[Ajj (show ¬c0.rp=true by rw[uR];decide)]at Aa A9;refine⟨λIs=>?_,λIs=>?_⟩
    .rw[Ajj (by omega)]at Ab;simp only[Ajj (show ¬ns.length=0 by omega)]at Aa A9;refine JO hu (λhc=>⟨rfl,?_⟩) λhc=>(A9 _ (by rw[Ajj (by rw[hcm,hc];decide)])).cont;rw[<-hcm]at hc;simp only[Ajl hc]at Aa A9 Ab;cases r with
     | nil=>exact absurd rfl Ab
     | cons w r'=>
      dsimp only at Aa A9 Ab;refine app w r' _ _ _ (λG x hx=>Aa x (by rw[Ajl G];exact hx)) (λG e' he=>A9 e' (by rw[Ajl G];exact he)) (λG he=>Ab (by rw[Ajl G];exact he)) (λG=>A9 _ (by rw[Ajj (by rw[G];decide)])) h0.step
    .rw[Ajl (by omega)]at Ab;simp only[Ajl (show ns.length=0 by omega)]at Aa A9;exact app c0 r p n c (λG x hx=>Aa x (by rw[Ajl G];exact hx)) (λG e' he=>A9 e' (by rw[Ajl G];exact he)) (λG he=>Ab (by rw[Ajl G];exact he)) (λG=>A9 _ (by rw[Ajj (by rw[G];decide)])) h0
   .rw[<-cH]at pU;exact Aa (ns,r) (by rw[Ajl pU]) ρ _ pn _ _ kn cn h0.step hn ho
theorem gn {k:Int}(h:B4 O2 ρ pb p n c q m e (t::ts) out)(hl:ts.length<=900000)
  (Aa:∀x,UA k (t::ts)=.ok x->∀(ρ':Hp) (p' pn:Option Addr) (n' c' kn cn:Nat),B4 O2 ρ' pb p' n' c' q m e x.2.2 out->Ext ρ ρ'->Fo 1 (ρ.new ρ') pn kn (x.2.1.map .string)->x.1=k->R (.returned (.slice pn kn cn)) (ρ'.set pb (pO p' n' c' d q m e)))
  (G:∀e',UA k (t::ts)=.er e'->Fz R O2 e') (Ab:UA k (t::ts)≠.out) :
  Spec prog 122 #[.pointer (aD pb 0)] (ρ.set pb (pO p n c d q m e)) R:=by
 have mC:t.lp=GN t.kind t.text 5 ⟨#[40]⟩:=Ajw Cl.lp h.tok.1;rw[UA.eq_def]at Aa G Ab;dsimp only at Aa G Ab;refine Au.start (JO h (λRI=>⟨rfl,?_⟩) λRI=>(G _ (by rw[Ajj (by rw[mC,RI];decide)])).cont);rw[<-mC]at RI;simp only[Ajl RI]at Aa G Ab;refine mJ (ts.length+1) ts [] (by rw[Aka];omega) h.step h.pb (AN.nil (.refl _)) (λx hx ρ' p2 pn n2 c2 kn cn hu hn ho=>Aa (k,x.1,x.2) (by rw[hx];rfl) ρ' p2 pn n2 c2 kn cn (hu.grow ho.up hn) ho.up (uA (ho.gb λ_ _ _ _ h=>h)) rfl) (λe' he=>G e' (by rw[he];rfl)) λhe=>Ab (by rw[he];rfl)
theorem db {k op x0 x1 v ps:Int}{b:Bool}{i b7:Nat}{s0 s1 s:ByteArray}{l:Cl}{r:List Cl}(h:B4 O2 ρ pb p n c q m e (t::l::r) out)(Hc:(ρ.set pb (pO p n c d q m e)) nb=none)(hb7:ρ b7=some (.cells #[.I x0,.I x1] 189 (0,0)))
  (hi:i<2) (hs:[s0,s1][i]?=some s) (hv:(#[Value.int .i64 x0,.I x1])[i]?=some (.I v)) (ht:GN t.kind t.text 3 s=true) (hl:r.length<=900000)
  (Aa:∀x,UA v (l::r)=.ok x->∀(ρ':Hp) (p' pn:Option Addr) (n' c' kn cn:Nat),B4 O2 ρ' pb p' n' c' q m e x.2.2 out->Ext ρ ρ'->(ρ'.set pb (pO p' n' c' d q m e)) nb=none->Fo 1 (ρ.new ρ') pn kn (x.2.1.map .string)->R (.T #[]) ((ρ'.set pb (pO p' n' c' d q m e)).set nb (Y1 k op none 0 0 0 x.1 pn kn cn b ps)))
  (A9:∀e',UA v (l::r)=.er e'->Fz R O2 e') (Ab:UA v (l::r)≠.out) :
  Am.jo R (aD pb 0) (aD nb 0) b7 s0 s1 (i:Int) ((ρ.set pb (pO p n c d q m e)).set nb (Y1 k op none 0 0 0 0 none 0 0 b ps)):=by
 have kn7:∀{G:Hp} {o u:Obj},Ext ρ G->G pb=none->(G.set pb o) nb=none->((G.set pb o).set nb u) b7=some (.cells #[.I x0,.I x1] 189 (0,0)):=λhx h1 h2=>(Ext.set h2) _ _ ((Ext.set h1) _ _ (hx _ _ hb7));refine Am.NS ⟨λ_=>⟨by omega,s,by simpa using hs,Spec.AR Hc (BS h λhn=>⟨_,rfl,λ_=>Spec.AR hn (BF h λa Jw=>⟨_,_,_,_,rfl,by omega,v,?_,Spec.AR Jw (gn (k:=v) h.step hl (λx hx G p2 pn n2 c2 kn cn hu Xz hr Ug Jv=>⟨_,_,_,rfl,?_,nb,0,rfl,?_⟩) (λe' he=>(A9 e' he).cont.box) Ab)⟩),λhf=>absurd (ht.symm.trans hf) (by decide)⟩)⟩,λhh=>by omega⟩
 .exact AJ (kn7 (.refl _) h.pb Jw) (by simpa using hv)
 .intro j hj o ho;rw[Ajp]at hj;subst hj;rw[kn7 (.refl _) h.pb Jw]at ho;rw[kn7 Xz hu.pb Jv];exact ho
 .refine st1 JB (Hp.AA _ _ _) rfl rfl (by simp) rfl ?_;rw[Hp.set_set];refine st1 uC (Hp.AA _ _ _) rfl rfl (by simp) rfl ?_;rw[Hp.set_set];have:=Aa x hx G p2 pn n2 c2 kn cn hu Xz Jv hr;rw[Ug]at this;exact this
theorem U0 {k op x0 x1 ps:Int}{b:Bool}{s0 s1:ByteArray}(h:B4 O2 ρ pb p n c q m e ts out)(Hc:(ρ.set pb (pO p n c d q m e)) nb=none)(hl:ts.length<=900000)
  (Aa:∀g,bJ s0 s1 x0 x1 ts=.ok g->∀(ρ':Hp) (p' pn:Option Addr) (n' c' kn cn:Nat),B4 O2 ρ' pb p' n' c' q m e g.2.2 out->Ext ρ ρ'->(ρ'.set pb (pO p' n' c' d q m e)) nb=none->Fo 1 (ρ.new ρ') pn kn (g.2.1.map .string)->R (.T #[]) ((ρ'.set pb (pO p' n' c' d q m e)).set nb (Y1 k op none 0 0 0 g.1 pn kn cn b ps)))
  (A9:∀e',bJ s0 s1 x0 x1 ts=.er e'->Fz R O2 e') (G:bJ s0 s1 x0 x1 ts≠.out) :
  Spec prog 99 #[.pointer (aD pb 0),.pointer (aD nb 0),.agg #[.string s0,.string s1],.agg #[.I x0,.I x1]] ((ρ.set pb (pO p n c d q m e)).set nb (Y1 k op none 0 0 0 0 none 0 0 b ps)) R:=by
 cases ts with
 | nil=>exact absurd rfl G
 | cons t r=>
  rw[bJ.eq_def]at Aa A9 G;dsimp only at Aa A9 G;by_cases h0:GN t.kind t.text 3 s0=true\/GN t.kind t.text 3 s1=true
  .cases r with
   | nil=>
    exfalso;rcases h0 with h0|h0
    .rw[Ajl h0]at G;exact G rfl
    .by_cases h1:GN t.kind t.text 3 s0=true
     .rw[Ajl h1]at G;exact G rfl
     .rw[Ajj h1,Ajl h0]at G;exact G rfl
   | cons l r=>
    rw[Ajk,Ajk]at hl;refine Am.start λ_ b7 hb=>?_;obtain⟨n1,Fi⟩:=Hp.AM hb;obtain⟨n2,Uh⟩:=Hp.AM Fi;rw[Hp.BD (Aj4 n1),Hp.BD (Aj4 n2)];have xx:=Ext.set (o:=.cells #[.I x0,.I x1] 189 (0,0)) Uh;have hu:=h.grow xx (by rw[Hp.AB (Aj4 n2)];exact h.pb);have Mh:((ρ.set b7 (.cells #[.I x0,.I x1] 189 (0,0))).set pb (pO p n c d q m e)) nb=none:=by
     rw[Hp.BD n2,Hp.AB (Aj4 n1)];exact Hc
    by_cases h1:GN t.kind t.text 3 s0=true
    .simp only[Ajl h1]at Aa A9 G;exact db (i:=0) (v:=x0) hu Mh (Hp.AA _ _ _) (by decide) rfl rfl h1 (by omega) (λx hx ρ' p' pn n' c' kn cn Bt Sc Jv hr=>Aa x hx ρ' p' pn n' c' kn cn Bt (xx.trans Sc) Jv (hr.mono (Ext.Cq xx))) A9 G
    .simp only[Ajj h1]at Aa A9 G;have h2:=h0.resolve_left h1;simp only[Ajl h2]at Aa A9 G;refine L9 (i:=0) hu Mh (by decide) rfl (by simpa using h1) ?_;exact db (i:=1) (v:=x1) hu Mh (Hp.AA _ _ _) (by decide) rfl rfl h2 (by omega) (λx hx ρ' p' pn n' c' kn cn Bt Sc Jv hr=>Aa x hx ρ' p' pn n' c' kn cn Bt (xx.trans Sc) Jv (hr.mono (Ext.Cq xx))) A9 G
  .rw[Alw]at h0;simp only[Ajj h0.1,Ajj h0.2]at Aa;exact Rf h Hc (by simpa using h0.1) (by simpa using h0.2) λρ' hu hx hn=>Aa _ rfl ρ' p none n c 0 0 hu hx hn ⟨rfl,by omega,.inl rfl⟩
theorem aA {g:Nat}{fst cap:Array Value}(KQ:Enters prog g)(h:B4 O2 ρ pb p n c q m e (t::ts) out)(hd:0<=d/\d<=64)(hE:d=64->Fz R O2 182)
  (hR:d≠64->Spec prog g (fst++#[]++cap) (ρ.set pb (pO (Ee p 1 c 4) (n-1) (c-1) (d+1) q m e)) (AY R λz y=>z=.tuple #[]/\∃(ρ':Hp) (p' q':Option Addr) (n' c' m' e':Nat),y=ρ'.set pb (pO p' n' c' (d+1) q' m' e')/\R (.T #[]) (ρ'.set pb (pO p' n' c' d q' m' e')))) :
  Spec prog 219 #[.pointer (aD pb 0),.func (.func g) fst cap] (ρ.set pb (pO p n c d q m e)) R:=by
 by_cases G:d=64
 .refine EF.start ⟨pb,0,rfl,d,by simp[Hp.ld,Hp.AA],λ_=>BJ h λa=>⟨_,_,_,_,rfl,C6.start λ_=>hE G a _ (h.xt _)⟩,λhh=>absurd G hh⟩
 .exact T8 KQ h ⟨hd.1,by omega⟩ (hR G)
end
def mkW:List ByteArray:=[⟨#[]⟩,⟨#[61]⟩,⟨#[33,61]⟩,⟨#[61,126]⟩,⟨#[33,126]⟩]
def AGY (c:Cl):Bool:=GN c.kind c.text 5 ⟨#[125]⟩
def xY (ms:List Mt):List Cl->Rz (List Mt×List Cl)
 | []=>.out
 | w::G=>if w.name then(match G with
  | []=>.out
  | o::r2=>if o.kind≠5\/Ja mkW o.text=0 then .er (Ux o) else(match r2 with
   | []=>.out
   | v::r3=>if v.kind≠4 then .er (Ux v) else if GH Dt (ms++[⟨(Ja mkW o.text:Nat),w.text,v.text⟩])≠0 then .er 183 else .ok (ms++[⟨(Ja mkW o.text:Nat),w.text,v.text⟩],r3))) else .er (Ux w)
def S5:Nat->List Cl->List Mt->Bool->Rz (List Mt×List Cl)
 | 0,_,_,_=>.out
 | _+1,[],_,_=>.out
 | f+1,c::r,ms,G=>if AGY c then .ok (ms,r) else if G then(xY ms (c::r)).bind λx=>S5 f x.2 x.1 false else if c.comma then(xY ms r).bind λx=>S5 f x.2 x.1 false else .er (Ux c)
def AGZ (k w bk:Int)(ms:List Mt):Nd:=⟨k,0,⟨#[]⟩,ms,w,bk,0,[],false,0⟩
def bK (k w:Int)(ms:List Mt):List Cl->Rz (List Cl×Nd)
 | []=>.out
 | a::r=>if a.off then(match r with
  | []=>.out
  | s::G=>if s.kind=2 then .ok (G,AGZ k w s.span ms) else .er (Ux s)) else .ok (a::r,AGZ k w 0 ms)
def bL (ms:List Mt):List Cl->Rz (List Cl×Nd)
 | []=>.out
 | a::r=>if a.lsq then(match r with
  | []=>.out
  | s::G=>if s.kind=2 then(match G with
   | []=>.out
   | e::r2=>if e.rsq then bK 3 s.span ms r2 else .er (Ux e)) else .er (Ux s)) else bK 2 0 ms (a::r)
def bM (word:Bool)(ms:List Mt):List Cl->Rz (List Cl×Nd)
 | []=>.out
 | a::r=>if a.lbr then(S5 (r.length+1) r ms true).bind λx=>bL x.1 x.2 else if word then bL ms (a::r) else .er (Ux a)
def gq:List Cl->Rz (List Cl×Nd)
 | []=>.out
 | t::r=>if t.kind=3/\t.kept=false then(if GH Dt [⟨1,Eb,t.text⟩]≠0 then .er 183 else bM true [⟨1,Eb,t.text⟩] r) else bM false [] (t::r)
abbrev mw (k:Int)(pm:Option Addr)(km cm:Nat)(w bk:Int):Obj:=.cells #[.I k,.I 0,.string (ByteArray.mk #[]),.slice pm km cm,.I w,.I bk,.I 0,.N,.bool false,.I 0] 127 (0,0)
theorem AcH {ρ:Hp}{pb nb b:Nat}{o u v:Obj}(hb:((ρ.set pb o).set nb u) b=none):ρ b=none/\b≠pb/\b≠nb/\((ρ.set pb o).set nb u).set b v=((ρ.set b v).set pb o).set nb u:=by
 obtain⟨G,Fi⟩:=Hp.AM hb;obtain⟨e2,Uh⟩:=Hp.AM Fi;exact⟨Uh,e2,G,by rw[Hp.BD (Aj4 G),Hp.BD (Aj4 e2)]⟩
section
variable {O2 ρ ρ0:Hp}{pb nb n c m e km cm:Nat}{p q pm:Option Addr}{ts:List Cl}{out:List Nd}{d:Int}{t:Cl}{R:Rr}{ms:List Mt}
theorem dc {k a v mk kk w bk:Int}{mn mv s':ByteArray}(h0:B4 O2 ρ0 pb p n c q m e ts out)(hn:ρ pb=none)(ho:AN 3 Js ρ0 ρ pm km cm ms)(Hc:(ρ.set pb (pO p n c d q m e)) nb=none)(hb:km<=1000000)
  (Aa:GH Dt (ms++[⟨mk,mn,mv⟩])=0->∀(ρ':Hp) (G:Option Addr) (df:Nat),ρ' pb=none->AN 3 Js ρ0 ρ' G (km+1) df (ms++[⟨mk,mn,mv⟩])->(ρ'.set pb (pO p n c d q m e)) nb=none->R (.T #[]) ((ρ'.set pb (pO p n c d q m e)).set nb (mw kk G (km+1) df w bk)))
  (A9:GH Dt (ms++[⟨mk,mn,mv⟩])≠0->Fz R O2 183) :
  Spec prog 264 #[.pointer (aD pb 0),.pointer (aD nb 0),.agg #[.I mk,.string mn,.string mv],.agg #[.I k,.I a,.string s',.I v]] ((ρ.set pb (pO p n c d q m e)).set nb (mw kk pm km cm w bk)) R:=by
 refine HX.start λ_ _=>⟨nb,0,rfl,pm,km,cm,by simp[Hp.ld,Hp.AA],λb LD=>?_⟩;obtain⟨e1,Fi⟩:=Hp.AM LD;obtain⟨e2,Uh⟩:=Hp.AM Fi;rw[Hp.BD (Aj4 e1)];refine AI.AR (by rw[Hp.AB (Aj4 e1)];exact Hc) ?_;rw[Hp.BD (Aj4 e2)];refine AI.AR (by rw[Hp.AB (Aj4 e2)];exact hn) ?_;refine AN.FN (vs:=[.I mk,.string mn,.string mv]) (x:=(⟨mk,mn,mv⟩:Mt)) Js.mono ho rfl (λu hu=>?_) rfl (by omega) (λG df ρ' EM hx yR Jw=>⟨_,_,_,rfl,?_⟩) Uh
 .simp only[Ajo,Aj7,Akc]at hu;rcases hu with rfl|rfl|rfl<;>rfl
 .refine st1 uB (Hp.AA _ _ _) rfl rfl (by simp) rfl ?_;rw[Hp.set_set];have X:Ext ρ' ((ρ'.set pb (pO p n c d q m e)).set nb (mw kk G (km+1) df w bk)):=(Ext.set yR).trans (Ext.set Jw);refine⟨G,km+1,df,by simp[Hp.ld,Hp.AA],Pb ((EM.rd Js.mono).mono Js.mono X) ⟨_,rfl,λAv=>C6.start λ_=>?_,λheq=>Aa (AkK.1 heq) ρ' G df yR EM Jw⟩⟩;exact A9 Av a _ (h0.out.up.trans (EM.up.trans X))
theorem ADF {w bk:Int}(h0:B4 O2 ρ0 pb p n c q m e ts out)(hn:ρ pb=none)(ho:AN 3 Js ρ0 ρ pm km cm ms)(Hc:(ρ.set pb (pO p n c d q m e)) nb=none)(hb:km<=1000000)
  (Aa:∀x,xY ms ts=.ok x->∀(ρ':Hp) (p' de:Option Addr) (n' c' df:Nat),B4 O2 ρ0 pb p' n' c' q m e x.2 out->ρ' pb=none->AN 3 Js ρ0 ρ' de (km+1) df x.1->(ρ'.set pb (pO p' n' c' d q m e)) nb=none->Aj.jo R (aD pb 0) (aD nb 0) false ((ρ'.set pb (pO p' n' c' d q m e)).set nb (mw 2 de (km+1) df w bk)))
  (G:∀e',xY ms ts=.er e'->Fz R O2 e') (Ab:xY ms ts≠.out) :
  Aj.HR R (aD pb 0) (aD nb 0) ((ρ.set pb (pO p n c d q m e)).set nb (mw 2 pm km cm w bk)):=by
 cases ts with
 | nil=>exact absurd rfl Ab
 | cons u r1=>
  have hu:=h0.grow ho.up hn;rw[xY.eq_def]at Aa G Ab;dsimp only at Aa G Ab;refine Aj.CF (Spec.AR Hc (Uy hu (λhw Jw=>⟨_,rfl,λ_ H9 AcI=>?_⟩) λhw=>(G _ (by rw[Ajj (by rw[hw];decide)])).cont.box));simp only[Ajl hw]at Aa G Ab;cases r1 with
  | nil=>exact absurd rfl Ab
  | cons o r2=>
   dsimp only at Aa G Ab;obtain⟨g1,g2,g3,g4⟩:=AcH (v:=.cells (mkW.map Value.string).toArray 9 (0,0)) AcI;show Spec prog 31 #[.pointer (aD pb 0)] (Hp.set _ H9 (.cells (mkW.map Value.string).toArray 9 (0,0))) _
   rw[g4];have x17:=Ext.set (o:=.cells (mkW.map Value.string).toArray 9 (0,0)) g1;generalize AM0:ρ.set H9 (.cells (mkW.map Value.string).toArray 9 (0,0))=ρ1 at *;have AM1:ρ1 pb=none:=by rw[<-AM0,Hp.AB (Aj4 g2)];exact hn
   have R6:=ho.mono Js.mono x17;have Qy:=h0.step.grow R6.up AM1;have xZ:(ρ1.set pb (pO (Ee p 1 c 4) (n-1) (c-1) d q m e)) nb=none:=by
    rw[<-AM0,Hp.BD g2,Hp.AB (Aj4 g3)];exact Jw
   have AcJ:ρ1 H9=some (.cells (mkW.map Value.string).toArray 9 (0,0)):=by rw[<-AM0];exact Hp.AA _ _ _
   have AcK:Fo 1 ((ρ1.set pb (pO (Ee p 1 c 4) (n-1) (c-1) d q m e)).set nb (mw 2 pm km cm w bk)) (aD H9 0) 5 (mkW.map .string):=ga (l:=mkW) ((Ext.set xZ) _ _ ((Ext.set AM1) _ _ AcJ)) (by decide);refine Spec.AR xZ (BJ Qy λa Jv=>⟨_,_,_,_,rfl,DA AcK ⟨_,rfl,Spec.AR Jv (BJ Qy λa2 Qe=>⟨_,_,_,_,rfl,λh5=>?_,λh5=>⟨λhz=>?_,λhz=>?_⟩⟩)⟩⟩)
   .exact Spec.AR Qe (DG Qy (G _ (by rw[Ajl (.inl h5)])).cont.box)
   .exact Spec.AR Qe (DG Qy (G _ (by rw[Ajl (.inr (by omega))])).cont.box)
   have AcL:¬(o.kind≠5\/Ja mkW o.text=0):=λhh=>hh.elim h5 λh=>hz (by omega);simp only[Ajj AcL]at Aa G Ab;cases r2 with
   | nil=>exact absurd rfl Ab
   | cons v r3=>
    dsimp only at Aa G Ab;have Rh:=Qy.step;have h02:=h0.step.step;refine Aj.fL (Spec.AR Qe (BF Qy λa3 tz=>⟨_,_,_,_,rfl,Spec.AR tz (BJ Rh λa4 hn5=>⟨_,_,_,_,rfl,λh4=>?_,λh4=>?_⟩)⟩))
    .exact Spec.AR hn5 (DG Rh (G _ (by rw[Ajl h4])).cont.box)
    simp only[Ajj h4]at Aa G Ab;refine Aj.Ll (Spec.AR hn5 (BF Rh λa5 hn6=>⟨_,_,_,_,rfl,λ_=>?_⟩));refine dc (ms:=ms) h02.step AM1 R6 hn6 hb (λhz0 ρ' de df hp' EM Mh=>⟨rfl,?_⟩) λAv=>(G _ (by rw[Ajl Av])).cont;exact Aa _ (by rw[Ajj (by rw[hz0];decide)]) ρ' _ de _ _ df h02.step hp' EM Mh
theorem xd {w bk:Int}:∀(f:Nat) (ts:List Cl) (ms:List Mt) (fi:Bool),ms.length+f<=1000000->∀{ρ:Hp} {p pm:Option Addr} {n c km cm:Nat},B4 O2 ρ0 pb p n c q m e ts out->ρ pb=none->AN 3 Js ρ0 ρ pm km cm ms->(ρ.set pb (pO p n c d q m e)) nb=none->
  (∀x,S5 f ts ms fi=.ok x->∀(ρ':Hp) (p' de:Option Addr) (n' c' km' df:Nat),B4 O2 ρ0 pb p' n' c' q m e x.2 out->ρ' pb=none->AN 3 Js ρ0 ρ' de km' df x.1->(ρ'.set pb (pO p' n' c' d q m e)) nb=none->R (.T #[]) ((ρ'.set pb (pO p' n' c' d q m e)).set nb (mw 2 de km' df w bk)))->
  (∀e',S5 f ts ms fi=.er e'->Fz R O2 e')->S5 f ts ms fi≠.out->Aj.jo R (aD pb 0) (aD nb 0) fi ((ρ.set pb (pO p n c d q m e)).set nb (mw 2 pm km cm w bk)):=by
 intro f
 induction f with
 | zero=>intro ts ms fi _ ρ p pm n c km cm _ _ _ _ _ _ G;exact absurd rfl G
 | succ f ih=>
  intro ts ms fi hb ρ p pm n c km cm h0 hn ho Hc Aa A9 G;cases ts with
  | nil=>exact absurd rfl G
  | cons c0 r=>
   have hu:=h0.grow ho.up hn;have hkm:ms.length=km:=ho.1.1;have hcm:c0.comma=GN c0.kind c0.text 5 ⟨#[44]⟩:=Ajw Cl.comma hu.tok.1;rw[S5.eq_def]at Aa A9 G;dsimp only at Aa A9 G;have nx:∀{uD:List Cl} {p1:Option Addr} {n1 c1:Nat},B4 O2 ρ0 pb p1 n1 c1 q m e uD out->(ρ.set pb (pO p1 n1 c1 d q m e)) nb=none->
     (∀x,(xY ms uD).bind (λx=>S5 f x.2 x.1 false)=.ok x->∀(ρ':Hp) (p' de:Option Addr) (n' c' km' df:Nat),B4 O2 ρ0 pb p' n' c' q m e x.2 out->ρ' pb=none->AN 3 Js ρ0 ρ' de km' df x.1->(ρ'.set pb (pO p' n' c' d q m e)) nb=none->R (.T #[]) ((ρ'.set pb (pO p' n' c' d q m e)).set nb (mw 2 de km' df w bk)))->
     (∀e',(xY ms uD).bind (λx=>S5 f x.2 x.1 false)=.er e'->Fz R O2 e')->(xY ms uD).bind (λx=>S5 f x.2 x.1 false)≠.out->Aj.HR R (aD pb 0) (aD nb 0) ((ρ.set pb (pO p1 n1 c1 d q m e)).set nb (mw 2 pm km cm w bk)):=fun {uD p1 n1 c1} h1 xZ k1 k2 k3=>
    ADF h1 hn ho xZ (by omega) (λx hx ρ' p' de n' c' df Bt Mh EM AM2=>by
     rw[hx]at k1 k2 k3;have hl:x.1.length=km+1:=EM.1.1;exact ih x.2 x.1 false (by omega) Bt Mh EM AM2 k1 k2 k3) (λe' he=>k2 e' (by rw[he];rfl)) λhe=>k3 (by rw[he];rfl)
   refine Aj.NS (Spec.AR Hc (BS hu λJw=>⟨_,rfl,λhf=>?_,λht=>?_⟩))
   .have vE:¬AGY c0=true:=by unfold AGY;rw[hf];decide
    simp only[Ajj vE]at Aa A9 G;cases fi with
    | true=>
     simp only[AlG]at Aa A9 G;exact⟨λhh=>(by cases hh),λ_=>nx h0 Jw Aa A9 G⟩
    | false=>
     simp only[AlF,AlE]at Aa A9 G;refine⟨λ_=>Spec.AR Jw (JO hu (λhc Jv=>⟨rfl,?_⟩) λhc=>(A9 _ (by rw[Ajj (by rw[hcm,hc];decide)])).cont.box),λhh=>by cases hh⟩;rw[<-hcm]at hc;simp only[Ajl hc]at Aa A9 G;exact nx h0.step Jv Aa A9 G
   .have hrt:AGY c0=true:=ht;refine Spec.AR Jw (BF hu λa Jv=>⟨_,_,_,_,rfl,Aa _ (by rw[Ajl hrt]) ρ _ pm _ _ km cm h0.step hn ho Jv⟩)
theorem dg {k w:Int}(h0:B4 O2 ρ0 pb p n c q m e ts out)(hn:ρ pb=none)(ho:AN 3 Js ρ0 ρ pm km cm ms)(Hc:(ρ.set pb (pO p n c d q m e)) nb=none)(hb:m<=1000000)
  (Aa:∀x,bK k w ms ts=.ok x->∀(ρ':Hp) (p' q':Option Addr) (n' c' G:Nat),B4 O2 ρ' pb p' n' c' q' (m+1) G x.1 (out++[x.2])->R (.T #[]) (ρ'.set pb (pO p' n' c' d q' (m+1) G)))
  (A9:∀G,bK k w ms ts=.er G->Fz R O2 G) (Ab:bK k w ms ts≠.out) :
  AP.PF R (aD pb 0) nb ((ρ.set pb (pO p n c d q m e)).set nb (mw k pm km cm w 0)):=by
 cases ts with
 | nil=>exact absurd rfl Ab
 | cons a r=>
  have hu:=h0.grow ho.up hn;have hof:a.off=GN a.kind a.text 3 ⟨#[111,102,102,115,101,116]⟩:=Ajw Cl.off hu.tok.1;have hr:Ae 3 Js (ρ.del q) pm km ms:=(ho.gb λ_ _ _ _ h=>h).mono Js.mono (h0.out.new ho.up);rw[bK.eq_def]at Aa A9 Ab;dsimp only at Aa A9 Ab;have fin:∀{bk:Int} {uD:List Cl} {p1:Option Addr} {n1 c1:Nat},B4 O2 ρ pb p1 n1 c1 q m e uD out->(ρ.set pb (pO p1 n1 c1 d q m e)) nb=none->(∀(ρ':Hp) (q':Option Addr) (G:Nat),B4 O2 ρ' pb p1 n1 c1 q' (m+1) G uD (out++[AGZ k w bk ms])->R (.T #[]) (ρ'.set pb (pO p1 n1 c1 d q' (m+1) G)))->AP.Wg R (aD pb 0) nb ((ρ.set pb (pO p1 n1 c1 d q m e)).set nb (mw k pm km cm w bk)):=fun {bk uD p1 n1 c1} h1 xZ hR1=>by
   refine AP.SE ⟨_,_,_,_,_,_,_,_,_,_,_,_,_,_,JJ (Hp.AA _ _ _),?_⟩;refine Spec.AR xZ (CJ (x:=AGZ k w bk ms) h1 hb hr ⟨rfl,by omega,.inl rfl⟩ λρ' q' G Bt Mh=>⟨rfl,?_⟩);obtain⟨g1,g2⟩:=Bt.box (u:=mw k pm km cm w bk) Mh;rw[g2];exact hR1 _ q' G g1
  refine AP.Ll (Spec.AR Hc (BS hu λJw=>⟨_,rfl,λht=>?_,λhf=>?_⟩))
  .rw[<-hof]at ht;simp only[Ajl ht]at Aa A9 Ab;cases r with
   | nil=>exact absurd rfl Ab
   | cons s r1=>
    dsimp only at Aa A9 Ab;have Qy:=hu.step;refine Spec.AR Jw (BF hu λa1 Jv=>⟨_,_,_,_,rfl,Spec.AR Jv (Uz Qy (λhk Qe=>⟨_,rfl,?_⟩) λhk=>(A9 _ (by rw[Ajj hk])).cont.box)⟩);refine st1 qd (Hp.AA _ _ _) rfl rfl (by simp) rfl ?_;rw[Hp.set_set];exact fin (bk:=s.span) Qy.step Qe λρ' q' G Bt=>Aa _ (by rw[Ajl hk]) ρ' _ q' _ _ G Bt
  .rw[<-hof]at hf;simp only[Ajj (show ¬a.off=true by rw[hf];decide)]at Aa;exact fin (bk:=0) hu Jw λρ' q' G Bt=>Aa _ rfl ρ' _ q' _ _ G Bt
theorem dh (h0:B4 O2 ρ0 pb p n c q m e ts out)(hn:ρ pb=none)(ho:AN 3 Js ρ0 ρ pm km cm ms)(Hc:(ρ.set pb (pO p n c d q m e)) nb=none)(hb:m<=1000000)
  (Aa:∀x,bL ms ts=.ok x->∀(ρ':Hp) (p' q':Option Addr) (n' c' e':Nat),B4 O2 ρ' pb p' n' c' q' (m+1) e' x.1 (out++[x.2])->R (.T #[]) (ρ'.set pb (pO p' n' c' d q' (m+1) e')))
  (A9:∀e',bL ms ts=.er e'->Fz R O2 e') (G:bL ms ts≠.out) :
  AP.HQ R (aD pb 0) nb ((ρ.set pb (pO p n c d q m e)).set nb (mw 2 pm km cm 0 0)):=by
 cases ts with
 | nil=>exact absurd rfl G
 | cons a r=>
  have hu:=h0.grow ho.up hn;have Vn:a.lsq=GN a.kind a.text 5 ⟨#[91]⟩:=Ajw Cl.lsq hu.tok.1;rw[bL.eq_def]at Aa A9 G;dsimp only at Aa A9 G;refine AP.DZ (Spec.AR Hc (BS hu λJw=>⟨_,rfl,λht=>?_,λhf=>?_⟩))
  .rw[<-Vn]at ht;simp only[Ajl ht]at Aa A9 G;cases r with
   | nil=>exact absurd rfl G
   | cons s r1=>
    dsimp only at Aa A9 G;have Qy:=hu.step;refine Spec.AR Jw (BF hu λa1 Jv=>⟨_,_,_,_,rfl,Spec.AR Jv (Uz Qy (λhk Qe=>⟨_,rfl,?_⟩) λhk=>(A9 _ (by rw[Ajj hk])).cont.box)⟩);simp only[Ajl hk]at Aa A9 G;cases r1 with
    | nil=>exact absurd rfl G
    | cons ee r2=>
     dsimp only at Aa A9 G;have Rh:=Qy.step;have hrs:ee.rsq=GN ee.kind ee.text 5 ⟨#[93]⟩:=Ajw Cl.rsq Rh.tok.1;refine st1 JB (Hp.AA _ _ _) rfl rfl (by simp) rfl ?_;rw[Hp.set_set];refine st1 qd (Hp.AA _ _ _) rfl rfl (by simp) rfl ?_;rw[Hp.set_set];refine Spec.AR Qe (JO Rh (λhc tz=>⟨rfl,?_⟩) λhc=>(A9 _ (by rw[Ajj (by rw[hrs,hc];decide)])).cont.box);rw[<-hrs]at hc;simp only[Ajl hc]at Aa A9 G;exact dg (k:=3) (w:=s.span) h0.step.step.step hn ho tz hb Aa A9 G
  .rw[<-Vn]at hf;simp only[Ajj (show ¬a.lsq=true by rw[hf];decide)]at Aa A9 G;exact dg (k:=2) (w:=0) h0 hn ho Jw hb Aa A9 G
theorem di {word:Bool}(h0:B4 O2 ρ0 pb p n c q m e ts out)(hn:ρ pb=none)(ho:AN 3 Js ρ0 ρ pm km cm ms)(Hc:(ρ.set pb (pO p n c d q m e)) nb=none)(hb:m<=1000000)(hl:ms.length+ts.length<=900000)
  (Aa:∀x,bM word ms ts=.ok x->∀(ρ':Hp) (p' q':Option Addr) (n' c' e':Nat),B4 O2 ρ' pb p' n' c' q' (m+1) e' x.1 (out++[x.2])->R (.T #[]) (ρ'.set pb (pO p' n' c' d q' (m+1) e')))
  (G:∀e',bM word ms ts=.er e'->Fz R O2 e') (Ab:bM word ms ts≠.out) :
  AP.Gc R (aD pb 0) nb word ((ρ.set pb (pO p n c d q m e)).set nb (mw 2 pm km cm 0 0)):=by
 cases ts with
 | nil=>exact absurd rfl Ab
 | cons a r=>
  have hu:=h0.grow ho.up hn;have yN:a.lbr=GN a.kind a.text 5 ⟨#[123]⟩:=Ajw Cl.lbr hu.tok.1;rw[Ajk]at hl;rw[bM.eq_def]at Aa G Ab;dsimp only at Aa G Ab;refine AP.EE (Spec.AR Hc (BS hu λJw=>⟨_,rfl,λht=>?_,λhf=>?_⟩))
  .rw[<-yN]at ht;simp only[Ajl ht]at Aa G Ab;refine Spec.AR Jw (BF hu λa1 Jv=>⟨_,_,_,_,rfl,Aj.start ?_⟩);refine xd (r.length+1) r ms true (by omega) h0.step hn ho Jv (λx hx ρ' p' de n' c' km' df Bt Mh EM AM2=>⟨rfl,?_⟩) (λe' he=>(G e' (by rw[he];rfl)).cont) λhe=>Ab (by rw[he];rfl);rw[hx]at Aa G Ab;exact dh Bt Mh EM AM2 hb Aa G Ab
  .rw[<-yN]at hf;simp only[Ajj (show ¬a.lbr=true by rw[hf];decide)]at Aa G Ab;cases word with
   | true=>
    simp only[AlG]at Aa G Ab;exact⟨λhh=>(by cases hh),λ_=>dh h0 hn ho Jw hb Aa G Ab⟩
   | false=>
    simp only[AlF,AlE]at Aa G Ab;exact⟨λ_=>Spec.AR Jw (DG hu (G _ rfl).cont.box),λhh=>by cases hh⟩
theorem xe (h:B4 O2 ρ pb p n c q m e ts out)(hb:m<=1000000)(hl:ts.length<=800000)
  (Aa:∀x,gq ts=.ok x->∀(ρ':Hp) (p' q':Option Addr) (n' c' e':Nat),B4 O2 ρ' pb p' n' c' q' (m+1) e' x.1 (out++[x.2])->R (.T #[]) (ρ'.set pb (pO p' n' c' d q' (m+1) e')))
  (A9:∀e',gq ts=.er e'->Fz R O2 e') (Ab:gq ts≠.out) :
  Spec prog 242 #[.pointer (aD pb 0)] (ρ.set pb (pO p n c d q m e)) R:=by
 cases ts with
 | nil=>exact absurd rfl Ab
 | cons t r=>
  have Mj:t.kept=lr t.text:=Ajw Cl.kept h.tok.1;rw[Ajk]at hl;rw[gq.eq_def]at Aa A9 Ab;dsimp only at Aa A9 Ab;refine AP.start λnb Hc=>T7 ?_;have no:¬(t.kind=3/\t.kept=false)->∀G,B4 O2 G pb p n c q m e (t::r) out->(G.set pb (pO p n c d q m e)) nb=none->AP.Gc R (aD pb 0) nb false ((G.set pb (pO p n c d q m e)).set nb (mw 2 none 0 0 0 0)):=λhnw G h1 Jw=>by
   simp only[Ajj hnw]at Aa A9 Ab;exact di h1 h1.pb (AN.nil (.refl _)) Jw hb (by simp;omega) Aa A9 Ab
  refine Spec.AR Hc (BJ h λa Jw=>⟨_,_,_,_,rfl,λ_=>⟨λhk=>?_,λhk=>no (λhh=>hk hh.1) ρ h Jw⟩⟩);refine Spec.AR Jw (dX h λG h1 x1 Jv=>⟨_,rfl,λhf=>?_,λht=>no (λhh=>by rw[Mj,ht]at hh;cases hh.2) G h1 Jv⟩);have hw:t.kind=3/\t.kept=false:=⟨hk,Mj.trans hf⟩;simp only[Ajl hw]at Aa A9 Ab;refine Spec.AR Jv (BF h1 λa' Qe=>⟨_,_,_,_,rfl,?_⟩);refine dc (ms:=[]) (kk:=2) (w:=0) (bk:=0) h1.step h1.pb (AN.nil (.refl _)) Qe (by decide) (λhz0 ρ' de df hp' EM Mh=>⟨rfl,?_⟩) λAv=>(A9 _ (Ajl (show GH Dt [⟨1,Eb,t.text⟩]≠0 from Av))).cont;simp only[Ajj (show ¬GH Dt [⟨1,Eb,t.text⟩]≠0 by rw[AkK];exact hz0)]at Aa A9 Ab;exact di (word:=true) (ms:=[⟨1,Eb,t.text⟩]) h1.step hp' EM Mh hb (by simp;omega) Aa A9 Ab
end
set_option maxRecDepth 100000
abbrev sOn:ByteArray:=⟨#[111,110]⟩
abbrev AVB:ByteArray:=⟨#[105,103,110,111,114,105,110,103]⟩
abbrev sBy:ByteArray:=⟨#[98,121]⟩
abbrev sWo:ByteArray:=⟨#[119,105,116,104,111,117,116]⟩
def AM3 (op:Nat)(b:Bool)(g:Int)(ns:List ByteArray):Nd:=⟨6,op,⟨#[]⟩,[],0,0,g,ns,b,2⟩
def ADG (ns:List Nd):List Cl->Rz (List Cl×List Nd)
 | []=>.out
 | e::r=>if e.rp then .ok (r,ns) else .er (Ux e)
abbrev AI5 (l:Nat)(c:Cl):Prop:=(c.kind≠5/\c.kind≠3)\/(c.op:Int)<(H4 (l-10)).1\/(H4 (l-10)).2<(c.op:Int)\/(l=11/\c.op=12)
def blB (c b:Cl):Bool:=decide (5<=c.op)&&decide (c.op<=10)&&b.bool
def pe:Nat->Nat->Int->List Cl->Rz (List Cl×List Nd)
 | 0,_,_,_=>.out
 | f+1,l,d,ts=>
  if l<5 then(pe f (l+1) d ts).bind λx=>(pe f (l+10) d x.1).bind λy=>.ok (y.1,x.2++y.2)
  else match ts with
   | []=>.out
   | c::r=>
    if 10<=l then
     (if AI5 l c then .ok (c::r,[]) else match r with
      | []=>.out
      | b::r'=>(bJ sOn AVB 3 4 (bif blB c b then r' else b::r')).bind λg=>(pe f (l-9) d g.2.2).bind λx=>(pe f l d x.1).bind λy=>.ok (y.1,x.2++AM3 c.op (blB c b) g.1 g.2.1::y.2))
    else if l=5 then(if c.minus then(if d=64 then .er 182 else(pe f 5 (d+1) r).bind λx=>.ok (x.1,x.2++[lu])) else pe f 6 d (c::r))
    else if l=6 then
     (if c.kind=1 then .ok (r,[xD c.text])
     else if c.lp then pe f 7 d (c::r)
     else if c.kind=3/\0<c.fn then(pe f 7 d r).bind λx=>.ok (x.1,x.2++[dQ c.fn])
     else if c.kind=3/\0<c.ag then(bJ sBy sWo 1 2 r).bind λg=>(pe f 7 d g.2.2).bind λx=>.ok (x.1,x.2++[xE c.ag g.1 g.2.1])
     else(gq (c::r)).bind λx=>.ok (x.1,[x.2]))
    else if c.lp then(if d=64 then .er 182 else(pe f 0 (d+1) r).bind λx=>ADG x.2 x.1) else .er (Ux c)
theorem Rz.De {α β:Type}{x:Rz α}{g:α->Rz β}{y:β}(h:x.bind g=.ok y):∃a,x=.ok a/\g a=.ok y:=by
 cases x with
 | ok a=>exact⟨a,rfl,h⟩
 | er e=>cases h
 | out=>cases h
theorem AGa:∀(f:Nat) (ts:List Cl) (ns:List ByteArray) (x:List ByteArray×List Cl),uH f ts ns=.ok x->x.2.length<=ts.length/\∀c∈x.2,c∈ts:=by
 intro f
 induction f with
 | zero=>intro ts ns x h;cases h
 | succ f ih=>
  intro ts ns x h;cases ts with
  | nil=>cases h
  | cons c r=>
   rw[uH.eq_def]at h;dsimp only at h;split at h
   .cases h;exact⟨by simp,λu G=>Ajm _ G⟩
   split at h
   .split at h
    .obtain⟨h1,h2⟩:=ih _ _ _ h;exact⟨by rw[Ajk];(try dsimp only at *);omega,λu G=>Ajm _ (h2 u G)⟩
    .cases h
   split at h
   .split at h
    .cases h
    .split at h
     .obtain⟨h1,h2⟩:=ih _ _ _ h;exact⟨by rw[Ajk,Ajk];(try dsimp only at *);omega,λu G=>Ajm _ (Ajm _ (h2 u G))⟩
     .cases h
   .cases h
theorem mK {k:Int}{ts:List Cl}{g:Int×List ByteArray×List Cl}(h:UA k ts=.ok g):g.2.2.length<=ts.length/\∀c∈g.2.2,c∈ts:=by
 cases ts with
 | nil=>cases h
 | cons l r=>
  rw[UA.eq_def]at h;dsimp only at h;split at h
  .obtain⟨x,hx,h⟩:=Rz.De h;cases h;obtain⟨h1,G⟩:=AGa _ _ _ _ hx;exact⟨by rw[Ajk];(try dsimp only at *);omega,λu hu=>Ajm _ (G u hu)⟩
  .cases h
theorem Ky {s0 s1:ByteArray}{k0 k1:Int}{ts:List Cl}{g:Int×List ByteArray×List Cl}(h:bJ s0 s1 k0 k1 ts=.ok g):g.2.2.length<=ts.length/\∀c∈g.2.2,c∈ts:=by
 cases ts with
 | nil=>cases h
 | cons c r=>
  rw[bJ.eq_def]at h;dsimp only at h;split at h
  .obtain⟨h1,h2⟩:=mK h;exact⟨by rw[Ajk];(try dsimp only at *);omega,λu G=>Ajm _ (h2 u G)⟩
  split at h
  .obtain⟨h1,h2⟩:=mK h;exact⟨by rw[Ajk];(try dsimp only at *);omega,λu G=>Ajm _ (h2 u G)⟩
  .cases h;exact⟨Ajt _,λu G=>G⟩
theorem uI {ms:List Mt}{ts:List Cl}{x:List Mt×List Cl}(h:xY ms ts=.ok x):x.2.length<=ts.length/\∀c∈x.2,c∈ts:=by
 cases ts with
 | nil=>cases h
 | cons w r1=>
  rw[xY.eq_def]at h;dsimp only at h;split at h
  .cases r1 with
   | nil=>cases h
   | cons o r2=>
    dsimp only at h;split at h
    .cases h
    cases r2 with
    | nil=>cases h
    | cons v r3=>
     dsimp only at h;split at h
     .cases h
     split at h
     .cases h
     .cases h;exact⟨by simp;(try dsimp only at *);omega,λu G=>Ajm _ (Ajm _ (Ajm _ G))⟩
  .cases h
theorem ADI:∀(f:Nat) (ts:List Cl) (ms:List Mt) (fi:Bool) (x:List Mt×List Cl),S5 f ts ms fi=.ok x->x.2.length<=ts.length/\∀c∈x.2,c∈ts:=by
 intro f
 induction f with
 | zero=>intro ts ms fi x h;cases h
 | succ f ih=>
  intro ts ms fi x h;cases ts with
  | nil=>cases h
  | cons c r=>
   rw[S5.eq_def]at h;dsimp only at h;split at h
   .cases h;exact⟨by simp,λu G=>Ajm _ G⟩
   split at h
   .obtain⟨y,hy,h⟩:=Rz.De h;obtain⟨h1,h2⟩:=uI hy;obtain⟨h3,h4⟩:=ih _ _ _ _ h;exact⟨by (try dsimp only at *);omega,λu G=>h2 u (h4 u G)⟩
   split at h
   .obtain⟨y,hy,h⟩:=Rz.De h;obtain⟨h1,h2⟩:=uI hy;obtain⟨h3,h4⟩:=ih _ _ _ _ h;exact⟨by rw[Ajk];(try dsimp only at *);omega,λu G=>Ajm _ (h2 u (h4 u G))⟩
   .cases h
theorem mM {k w:Int}{ms:List Mt}{ts:List Cl}{x:List Cl×Nd}(h:bK k w ms ts=.ok x):x.1.length<=ts.length/\(∀c∈x.1,c∈ts)/\x.2.text=⟨#[]⟩:=by
 cases ts with
 | nil=>cases h
 | cons a r=>
  rw[bK.eq_def]at h;dsimp only at h;split at h
  .cases r with
   | nil=>cases h
   | cons s r1=>
    dsimp only at h;split at h
    .cases h;exact⟨by simp;(try dsimp only at *);omega,λu G=>Ajm _ (Ajm _ G),rfl⟩
    .cases h
  .cases h;exact⟨Ajt _,λu G=>G,rfl⟩
theorem mN {ms:List Mt}{ts:List Cl}{x:List Cl×Nd}(h:bL ms ts=.ok x):x.1.length<=ts.length/\(∀c∈x.1,c∈ts)/\x.2.text=⟨#[]⟩:=by
 cases ts with
 | nil=>cases h
 | cons a r=>
  rw[bL.eq_def]at h;dsimp only at h;split at h
  .cases r with
   | nil=>cases h
   | cons s r1=>
    dsimp only at h;split at h
    .cases r1 with
     | nil=>cases h
     | cons e r2=>
      dsimp only at h;split at h
      .obtain⟨h1,G,h3⟩:=mM h;exact⟨by simp;(try dsimp only at *);omega,λu hu=>Ajm _ (Ajm _ (Ajm _ (G u hu))),h3⟩
      .cases h
    .cases h
  .exact mM h
theorem mO {word:Bool}{ms:List Mt}{ts:List Cl}{x:List Cl×Nd}(h:bM word ms ts=.ok x):x.1.length<=ts.length/\(∀c∈x.1,c∈ts)/\x.2.text=⟨#[]⟩/\(word=false->x.1.length<ts.length):=by
 cases ts with
 | nil=>cases h
 | cons a r=>
  rw[bM.eq_def]at h;dsimp only at h;split at h
  .obtain⟨y,hy,h⟩:=Rz.De h;obtain⟨h1,h2⟩:=ADI _ _ _ _ _ hy;obtain⟨h3,G,h5⟩:=mN h;exact⟨by rw[Ajk];(try dsimp only at *);omega,λu hu=>Ajm _ (h2 u (G u hu)),h5,λ_=>by rw[Ajk];(try dsimp only at *);omega⟩
  split at h
  .rename_i hw;obtain⟨h3,G,h5⟩:=mN h;exact⟨h3,G,h5,λhf=>absurd (hw.symm.trans hf) (by decide)⟩
  .cases h
theorem ADJ {ts:List Cl}{x:List Cl×Nd}(h:gq ts=.ok x):x.1.length+1<=ts.length/\(∀c∈x.1,c∈ts)/\x.2.text=⟨#[]⟩:=by
 cases ts with
 | nil=>cases h
 | cons t r=>
  rw[gq.eq_def]at h;dsimp only at h;split at h
  .split at h
   .cases h
   .obtain⟨h1,G,h3,_⟩:=mO h;exact⟨by rw[Ajk];(try dsimp only at *);omega,λu hu=>Ajm _ (G u hu),h3⟩
  .obtain⟨h1,G,h3,h4⟩:=mO h;exact⟨h4 rfl,G,h3⟩
def TxI (ts:List Cl)(x:Nd):Prop:=x.text=⟨#[]⟩\/∃c∈ts,x.text=c.text
theorem TxI.sub {ts G:List Cl}{x:Nd}(h:TxI ts x)(hs:∀c∈ts,c∈G):TxI G x:=h.imp id λ⟨c,h1,h2⟩=>⟨c,hs c h1,h2⟩
theorem Pn:∀(f l:Nat) (d:Int) (ts:List Cl) (x:List Cl×List Nd),pe f l d ts=.ok x->x.2.length+x.1.length<=ts.length/\(∀c∈x.1,c∈ts)/\∀u∈x.2,TxI ts u:=by
 intro f
 induction f with
 | zero=>intro l d ts x h;cases h
 | succ f ih=>
  intro l d ts x h;rw[pe.eq_def]at h;dsimp only at h;split at h
  .obtain⟨y,hy,h⟩:=Rz.De h;obtain⟨z,hz,h⟩:=Rz.De h;cases h;obtain⟨a1,a2,a3⟩:=ih _ _ _ _ hy;obtain⟨b1,b2,b3⟩:=ih _ _ _ _ hz;refine⟨by rw[Ajr];(try dsimp only at *);omega,λc hc=>a2 c (b2 c hc),λu G=>?_⟩;rcases AkH.1 G with G|G
   .exact a3 u G
   .exact(b3 u G).sub a2
  cases ts with
  | nil=>cases h
  | cons c r=>
   have up:∀v∈r,v∈c::r:=λv hv=>Ajm _ hv;dsimp only at h;split at h
   .split at h
    .cases h;exact⟨by simp,λu G=>G,λu G=>by cases G⟩
    cases r with
    | nil=>cases h
    | cons b r'=>
     dsimp only at h;obtain⟨g,hg,h⟩:=Rz.De h;obtain⟨y,hy,h⟩:=Rz.De h;obtain⟨z,hz,h⟩:=Rz.De h;cases h;obtain⟨g1,g2⟩:=Ky hg;have g3:(bif blB c b then r' else b::r').length<=r'.length+1/\∀v∈(bif blB c b then r' else b::r'),v∈c::b::r':=by
      cases blB c b with
      | true=>exact⟨by rw[AlS];(try dsimp only at *);omega,λv hv=>Ajm _ (Ajm _ hv)⟩
      | false=>exact⟨by rw[AlN,Ajk];(try dsimp only at *);omega,λv hv=>Ajm _ hv⟩
     obtain⟨a1,a2,a3⟩:=ih _ _ _ _ hy;obtain⟨b1,b2,b3⟩:=ih _ _ _ _ hz;have up2:∀v∈g.2.2,v∈c::b::r':=λv hv=>g3.2 v (g2 v hv);refine⟨by rw[Ajr,Ajk,Ajk,Ajk];(try dsimp only at *);omega,λv hv=>up2 v (a2 v (b2 v hv)),λu G=>?_⟩;rcases AkH.1 G with G|G
     .exact(a3 u G).sub up2
     .rcases Ajo.1 G with rfl|G
      .exact .inl rfl
      .exact((b3 u G).sub a2).sub up2
   split at h
   .split at h
    .split at h
     .cases h
     .obtain⟨y,hy,h⟩:=Rz.De h;cases h;obtain⟨a1,a2,a3⟩:=ih _ _ _ _ hy;refine⟨by rw[Ajr,Ajk,Ajk,Aka];(try dsimp only at *);omega,λv hv=>up v (a2 v hv),λu G=>?_⟩;rcases AkH.1 G with G|G
      .exact(a3 u G).sub up
      .rw[Ajp.1 G];exact .inl rfl
    .exact ih _ _ _ _ h
   split at h
   .split at h
    .cases h;refine⟨by simp;(try dsimp only at *);omega,up,λu G=>?_⟩;rw[Ajp.1 G];exact .inr ⟨c,Aj5 ..,rfl⟩
    split at h
    .exact ih _ _ _ _ h
    split at h
    .obtain⟨y,hy,h⟩:=Rz.De h;cases h;obtain⟨a1,a2,a3⟩:=ih _ _ _ _ hy;refine⟨by rw[Ajr,Ajk,Ajk,Aka];(try dsimp only at *);omega,λv hv=>up v (a2 v hv),λu G=>?_⟩;rcases AkH.1 G with G|G
     .exact(a3 u G).sub up
     .rw[Ajp.1 G];exact .inl rfl
    split at h
    .obtain⟨g,hg,h⟩:=Rz.De h;obtain⟨y,hy,h⟩:=Rz.De h;cases h;obtain⟨g1,g2⟩:=Ky hg;obtain⟨a1,a2,a3⟩:=ih _ _ _ _ hy;refine⟨by rw[Ajr,Ajk,Ajk,Aka];(try dsimp only at *);omega,λv hv=>up v (g2 v (a2 v hv)),λu G=>?_⟩;rcases AkH.1 G with G|G
     .exact((a3 u G).sub g2).sub up
     .rw[Ajp.1 G];exact .inl rfl
    .obtain⟨y,hy,h⟩:=Rz.De h;cases h;obtain⟨a1,a2,a3⟩:=ADJ hy;refine⟨by rw[Ajk,Aka];(try dsimp only at *);omega,a2,λu G=>?_⟩;rw[Ajp.1 G];exact .inl a3
   split at h
   .split at h
    .cases h
    obtain⟨y,hy,h⟩:=Rz.De h;obtain⟨a1,a2,a3⟩:=ih _ _ _ _ hy;cases hy1:y.1 with
    | nil=>rw[hy1]at h;cases h
    | cons e r'=>
     rw[hy1]at h a1 a2;rw[ADG.eq_def]at h;dsimp only at h;split at h
     .cases h;rw[Ajk]at a1;exact⟨by rw[Ajk];(try dsimp only at *);omega,λv hv=>up v (a2 v (Ajm _ hv)),λu G=>(a3 u G).sub up⟩
     .cases h
   .cases h
set_option maxRecDepth 100000
theorem Jz {l pb:Nat}{R:Rr}{Z22:Hp}(G:l<10)(h:JK l R pb Z22):Spec prog (Mp l) #[.pointer (aD pb 0)] Z22 R:=by
 rw[JK,Ajj (by omega)]at h;exact h
theorem ADK {Z22:Hp}:Ae 3 Js Z22 none 0 []:=Ae.nil
theorem AM4 {Z22:Hp}:Fo 1 Z22 none 0 (([]:List ByteArray).map .string):=⟨rfl,by omega,.inl rfl⟩
theorem AVD:∀(f l:Nat) (d:Int) (ts:List Cl),l<=14->(l<=7\/10<=l)->0<=d->d<=64->∀{O2 ρ:Hp} {pb:Nat} {p q:Option Addr} {n c m e:Nat} {out:List Nd} {R:Rr},
  B4 O2 ρ pb p n c q m e ts out->m+ts.length<=700000->
  (∀r ns,pe f l d ts=.ok (r,ns)->∀(ρ':Hp) (p' q':Option Addr) (n' c' m' e':Nat),B4 O2 ρ' pb p' n' c' q' m' e' r (out++ns)->R (.T #[]) (ρ'.set pb (pO p' n' c' d q' m' e')))->
  (∀e',pe f l d ts=.er e'->Fz R O2 e')->pe f l d ts≠.out->JK l R pb (ρ.set pb (pO p n c d q m e)):=by
 intro f
 induction f with
 | zero=>intro l d ts _ _ _ _ O2 ρ pb p q n c m e out R _ _ _ _ Ab;exact absurd rfl Ab
 | succ f ih=>
  intro l d ts AUx hl VQ hd O2 ρ pb p q n c m e out R hu hb G A9 Ab;have hom:out.length=m:=hu.out.1.1;rw[pe.eq_def]at G A9 Ab;dsimp only at G A9 Ab;by_cases h5:l<5
  .simp only[Ajl h5]at G A9 Ab;rw[JK,Ajj (by omega)];refine Y4 l h5 (AZ.start ⟨Mp (l+1),#[.pointer (aD pb 0)],#[],rfl,enP (l+1) (by omega) (by omega),?_⟩);refine Jz (by omega) (ih (l+1) d ts (by omega) (by omega) VQ hd hu hb (λr1 n1 hx ρ' p' q' n' c' m' e' Bt=>⟨rfl,?_⟩) (λe' he=>(A9 e' (by rw[he];rfl)).cont.cont) λhe=>Ab (by rw[he];rfl));have AMp:(out++n1).length=m':=Bt.out.1.1;have iM:=(Pn _ _ _ _ _ hx).1;rw[Ajr]at AMp;rw[hx]at G A9 Ab;simp only[Rz.bind]at G A9 Ab;have h2:=ih (l+10) d r1 (by omega) (by omega) VQ hd (R:=AY R (λz y=>z=.tuple #[]/\R (.T #[]) y)) Bt (by dsimp only at iM;omega) (λr2 n2 hy ρ2 p2 q2 n2' c2 m2 e2 Rh=>⟨rfl,G r2 (n1++n2) (by rw[hy]) ρ2 p2 q2 n2' c2 m2 e2 (by rw[<-AkC];exact Rh)⟩) (λe' he=>(A9 e' (by rw[he])).cont) λhe=>Ab (by rw[he]);rw[JK,Ajl (by omega),show l+10-9=l+1 by omega,Amh]at h2;exact h2
  simp only[Ajj h5]at G A9 Ab;cases ts with
  | nil=>exact absurd rfl Ab
  | cons cl rr=>
  dsimp only at G A9 Ab;rw[Ajk]at hb;by_cases MX:10<=l
  .simp only[Ajl MX]at G A9 Ab;rw[JK,Ajl MX];by_cases CA:AI5 l cl
   .simp only[Ajl CA]at G;have fin:∀ρ',B4 O2 ρ' pb p n c q m e (cl::rr) out->R (.T #[]) (ρ'.set pb (pO p n c d q m e)):=λρ' h'=>G _ _ rfl ρ' p q n c m e (by rw[Akq];exact h');refine gh hu (λ_=>fin) λhk ρ1 h1=>⟨λ_=>fin ρ1 h1,λn1=>⟨λ_=>fin ρ1 h1,λn2=>⟨λwO=>⟨λ_=>fin ρ1 h1,λn12=>?_⟩,λn11=>?_⟩⟩⟩
    .exfalso;rcases CA with CA|CA|CA|CA
     .exact hk CA
     .exact n1 CA
     .exact n2 CA
     .exact n12 (by omega)
    .exfalso;rcases CA with CA|CA|CA|CA
     .exact hk CA
     .exact n1 CA
     .exact n2 CA
     .exact n11 (by rw[CA.1];rfl)
   .simp only[Ajj CA]at G A9 Ab;cases rr with
    | nil=>exact absurd rfl Ab
    | cons b r'=>
     dsimp only at G A9 Ab;rw[Ajk]at hb;generalize hbl:blB cl b=bl at G A9 Ab;have P32:∀(ρ1:Hp) (p1:Option Addr) (k1 c1 nb:Nat),B4 O2 ρ1 pb p1 k1 c1 q m e (bif bl then r' else b::r') out->(ρ1.set pb (pO p1 k1 c1 d q m e)) nb=none->
       AZ.Gh R (aD pb 0) (.func (.func (Mp (l-9))) #[.pointer (aD pb 0)] #[]) (H4 (l-10)).1 (H4 (l-10)).2 nb ((ρ1.set pb (pO p1 k1 c1 d q m e)).set nb (Y1 6 cl.op none 0 0 0 0 none 0 0 bl 2)):=λρ1 p1 k1 c1 nb Qy Jw=>by
      have hgl:(bif bl then r' else b::r').length<=r'.length+1:=by
       cases bl with
       | true=>rw[AlS];omega
       | false=>rw[AlN,Ajk];omega
      refine AZ.Vg (U0 (s0:=sOn) (s1:=AVB) (x0:=3) (x1:=4) Qy Jw (by omega) (λg hg ρ2 p2 pn n2 c2 kn cn Rh x2 Jv TE=>⟨rfl,Mp (l-9),#[.pointer (aD pb 0)],#[],rfl,enP (l-9) (by omega) (by omega),Spec.AR Jv ?_⟩) (λe' he=>(A9 e' (by rw[he];rfl)).cont) λhe=>Ab (by rw[he];rfl));rw[hg]at G A9 Ab;simp only[Rz.bind]at G A9 Ab;have AcN:=(Ky hg).1;have AC7:Fo 1 (ρ2.del q) pn kn (g.2.1.map .string):=TE.mono (Qy.out.new x2);refine Jz (by omega) (ih (l-9) d g.2.2 (by omega) (by omega) VQ hd Rh.Yy (by omega) (λr1 n1 hx ρ3 p3 q3 n3 c3 m3 e3 qf Qe=>⟨rfl,_,_,_,_,_,_,_,_,_,_,_,_,_,_,JJ (Hp.AA _ _ _),?_⟩) (λe' he=>((A9 e' (by rw[he])).base Rh.out.2).cont.box) λhe=>Ab (by rw[he]));rw[hx]at G A9 Ab;simp only at G A9 Ab;have Ri:(out++n1).length=m3:=qf.out.1.1;have iM:=(Pn _ _ _ _ _ hx).1;dsimp only at iM;rw[Ajr]at Ri;have AC8:=qf.base Rh.out.2;refine Spec.AR Qe (CJ (x:=AM3 cl.op bl g.1 g.2.1) AC8 (by omega) ADK (AC7.mono qf.out.2) λρ4 q4 e4 gi tz=>⟨rfl,?_⟩);obtain⟨k1,k2⟩:=gi.box (u:=Y1 6 cl.op none 0 0 0 g.1 pn kn cn bl 2) tz;rw[k2];have h2:=ih l d r1 AUx hl VQ hd (R:=R) k1 (by omega) (λr2 n2 hy ρ' p' q' n' c' m' e' Bt=>G r2 (n1++AM3 cl.op bl g.1 g.2.1::n2) (by rw[hy]) ρ' p' q' n' c' m' e' (by rw[AkC,AkC]at Bt;exact Bt)) (λe' he=>A9 e' (by rw[he])) λhe=>Ab (by rw[he]);rw[JK,Ajl MX]at h2;exact h2
     have go:∀ρ1,B4 O2 ρ1 pb p n c q m e (cl::b::r') out->goR R (aD pb 0) (.func (.func (Mp (l-9))) #[.pointer (aD pb 0)] #[]) (H4 (l-10)).1 (H4 (l-10)).2 (cl.op:Int) (ρ1.set pb (pO p n c d q m e)):=λρ1 h1=>by
      have h2:=h1.step;have e3:b.bool=GN b.kind b.text 3 ⟨#[98,111,111,108]⟩:=Ajw Cl.bool h2.tok.1;have nob:bl=false->∀nb,(ρ1.set pb (pO (Ee p 1 c 4) (n-1) (c-1) d q m e)) nb=none->AZ.Gh R (aD pb 0) (.func (.func (Mp (l-9))) #[.pointer (aD pb 0)] #[]) (H4 (l-10)).1 (H4 (l-10)).2 nb ((ρ1.set pb (pO (Ee p 1 c 4) (n-1) (c-1) d q m e)).set nb (Y1 6 cl.op none 0 0 0 0 none 0 0 false 2)):=λxq nb hn=>by
       have:=P32 ρ1 _ _ _ nb (by rw[xq,AlN];exact h2) hn;rw[xq]at this;exact this
      have AGb:blB cl b=(decide (5<=cl.op)&&decide (cl.op<=10)&&b.bool):=rfl;refine BF h1 λa=>⟨_,_,_,_,rfl,λnb Hc=>T7 ⟨λg5=>⟨λg10=>Spec.AR Hc (BS h2 λhn=>⟨_,rfl,λtb=>?_,λfb=>nob ?_ nb hn⟩),λg10=>nob ?_ nb Hc⟩,λg5=>nob ?_ nb Hc⟩⟩
      .have JE:bl=true:=by
        rw[<-hbl,AGb,e3,tb,Aj0 (show 5<=cl.op by omega),Aj0 (show cl.op<=10 by omega)];rfl
       refine Spec.AR hn (BF h2 λa2 Jv=>⟨_,_,_,_,rfl,?_⟩);refine st1 ABz (Hp.AA _ _ _) rfl rfl (by simp) rfl ?_;rw[Hp.set_set];have:=P32 ρ1 _ _ _ nb (by rw[JE,AlS];exact h2.step) Jv;rw[JE]at this;exact this
      .rw[<-hbl,AGb,e3,fb,Akx]
      .rw[<-hbl,AGb,Aj1 (show ¬cl.op<=10 by omega),Akx,Aku]
      .rw[<-hbl,AGb,Aj1 (show ¬5<=cl.op by omega),Aku,Aku]
     refine gh hu (λhk=>absurd (.inl hk) CA) λhk ρ1 h1=>⟨λhh=>absurd (.inr (.inl hh)) CA,λn1=>⟨λhh=>absurd (.inr (.inr (.inl hh))) CA,λn2=>⟨λwO=>⟨λTo=>?_,λn12=>go ρ1 h1⟩,λn11=>go ρ1 h1⟩⟩⟩;exfalso;refine CA (.inr (.inr (.inr ⟨?_,by omega⟩)));have:l=10\/l=11\/l=12\/l=13\/l=14:=by omega
     rcases this with rfl|rfl|rfl|rfl|rfl
     .exact absurd wO (by decide)
     .rfl
     .exact absurd wO (by decide)
     .exact absurd wO (by decide)
     .exact absurd wO (by decide)
  simp only[Ajj MX]at G A9 Ab;rw[JK,Ajj MX];have ht:=hu.tok.1;by_cases e5:l=5
  .subst e5;simp only[AlG]at G A9 Ab;have em:cl.minus=GN cl.kind cl.text 5 ⟨#[45]⟩:=Ajw Cl.minus ht;refine Be.start (BS hu ⟨_,rfl,λhf=>?_,λhtr=>?_⟩)
   .rw[<-em]at hf;simp only[Ajj (show ¬cl.minus=true by rw[hf];decide)]at G A9 Ab;exact Jz (l:=6) (by decide) (ih 6 d (cl::rr) (by omega) (by omega) VQ hd hu (by rw[Ajk];omega) (λr ns hx ρ' p' q' n' c' m' e' Bt=>⟨rfl,G r ns hx ρ' p' q' n' c' m' e' Bt⟩) (λe' he=>(A9 e' he).cont) Ab)
   .rw[<-em]at htr;simp only[Ajl htr]at G A9 Ab;refine aA Be.en hu ⟨VQ,hd⟩ (λmr=>(A9 _ (by rw[Ajl mr])).cont) λmr=>?_;simp only[Ajj mr]at G A9 Ab;refine Jz (l:=5) (by decide) (ih 5 (d+1) rr (by omega) (by omega) (by omega) (by omega) hu.step (by omega) (λr1 n1 hx ρ' p' q' n' c' m' e' Bt=>⟨rfl,ρ',p',q',n',c',m',e',rfl,rfl,?_⟩) (λe' he=>(A9 e' (by rw[he];rfl)).cont.cont) λhe=>Ab (by rw[he];rfl));rw[hx]at G;simp only[Rz.bind]at G;have Ri:(out++n1).length=m':=Bt.out.1.1;have iM:=(Pn _ _ _ _ _ hx).1;dsimp only at iM;rw[Ajr]at Ri;exact CJ (x:=lu) Bt (by omega) ADK AM4 λρ4 q4 e4 gi=>⟨rfl,G r1 (n1++[lu]) rfl _ _ _ _ _ _ _ (by rw[<-AkC];exact gi)⟩
  simp only[Ajj e5]at G A9 Ab;have elp:cl.lp=GN cl.kind cl.text 5 ⟨#[40]⟩:=Ajw Cl.lp ht;by_cases e6:l=6
  .subst e6;simp only[AlG]at G A9 Ab;refine HW.start (BJ hu λa=>⟨_,_,_,_,rfl,λ_=>Yz hu λρ1 b1 h1 x1 EB=>⟨_,_,_,rfl,DA EB ⟨_,rfl,Y0 h1 λρ2 b2 h2 x2 Ff=>⟨_,_,_,rfl,DA Ff ⟨_,rfl,?_⟩⟩⟩⟩⟩);have efn:cl.fn=Ja fnW cl.text:=Ajw Cl.fn ht;have eag:cl.ag=Ja agW cl.text:=Ajw Cl.ag ht;rw[<-efn,<-eag];by_cases k1:cl.kind=1
   .simp only[Ajl k1]at G;refine⟨λ_=>BF h2 λa=>⟨_,_,_,_,rfl,?_⟩,λAv=>absurd k1 Av⟩;exact CJ (x:=xD cl.text) h2.step (by omega) ADK AM4 λρ4 q4 e4 gi=>⟨rfl,G rr [xD cl.text] rfl _ _ _ _ _ _ _ gi⟩
   simp only[Ajj k1]at G A9 Ab;refine⟨λhh=>absurd hh k1,λ_=>BS h2 ⟨_,rfl,λmC=>?_,λmC=>?_⟩⟩
   .rw[<-elp]at mC;simp only[Ajl mC]at G A9 Ab;exact Jz (l:=7) (by decide) (ih 7 d (cl::rr) (by omega) (by omega) VQ hd h2 (by rw[Ajk];omega) (λr ns hx ρ' p' q' n' c' m' e' Bt=>⟨rfl,G r ns hx ρ' p' q' n' c' m' e' Bt⟩) (λe' he=>(A9 e' he).cont) Ab)
   rw[<-elp]at mC;simp only[Ajj (show ¬cl.lp=true by rw[mC];decide)]at G A9 Ab;have rest:¬(cl.kind=3/\0<cl.fn)->Br (cl.kind=3) (Br ((0:Int)<((cl.ag:Nat):Int)) (Spec prog 97 #[.pointer (aD pb 0)] (ρ2.set pb (pO p n c d q m e)) (AY R (λz ET=>∃Wi I2 AAE AAF,z=(.agg #[.I Wi,.I I2,.string AAE,.I AAF])/\Al ET λb5=>AI prog (Instr.storeAt 127 (.pointer (aD b5 0)) (.agg #[.I 5,.I ((cl.ag:Nat):Int),(.string (ByteArray.mk #[])),.N,.I 0,.I 0,.I 0,.N,.bool false,.I 1])) (Hp.set ET b5 (.cells #[.I 0,.I 0,(.string (ByteArray.mk #[])),.N,.I 0,.I 0,.I 0,.N,.bool false,.I 0] 127 (0,0))) (λ_ R7=>Spec prog 99 #[.pointer (aD pb 0),(.pointer (aD b5 0)),(.agg #[(.string (ByteArray.mk #[98,121])),(.string (ByteArray.mk #[119,105,116,104,111,117,116]))]),.agg #[.I 1,.I 2]] R7 (AY R (λz TW=>z=(.tuple #[])/\Spec prog 241 #[.pointer (aD pb 0)] TW (AY R (λz H7=>z=(.tuple #[])/\∃Wj Wk Wl Wm Wn Wo Wp Wq Wr Ws Wt Wu Wv Ww,A2 H7 b5 0 [.I Wj,.I Wk,.string Wl,.slice Wm Wn Wo,.I Wp,.I Wq,.I Wr,.slice Ws Wt Wu,.bool Wv,.I Ww]/\Spec prog 100 #[.pointer (aD pb 0),.agg #[.I Wj,.I Wk,.string Wl,.slice Wm Wn Wo,.I Wp,.I Wq,.I Wr,.slice Ws Wt Wu,.bool Wv,.I Ww]] H7 (AY R (λz TY=>z=(.tuple #[])/\R (.T #[]) TY)))))))))) (Spec prog 242 #[.pointer (aD pb 0)] (ρ2.set pb (pO p n c d q m e)) (AY R (λz ET=>z=(.tuple #[])/\R (.T #[]) ET)))) (Spec prog 242 #[.pointer (aD pb 0)] (ρ2.set pb (pO p n c d q m e)) (AY R (λz ET=>z=(.tuple #[])/\R (.T #[]) ET))):=λhnf=>by
    simp only[Ajj hnf]at G A9 Ab;have sel:¬(cl.kind=3/\0<cl.ag)->Spec prog 242 #[.pointer (aD pb 0)] (ρ2.set pb (pO p n c d q m e)) (AY R (λz ET=>z=(.tuple #[])/\R (.T #[]) ET)):=λhna=>by
     simp only[Ajj hna]at G A9 Ab;exact xe h2 (by omega) (by rw[Ajk];omega) (λx hx ρ' p' q' n' c' e' Bt=>⟨rfl,G x.1 [x.2] (by rw[hx];rfl) ρ' p' q' n' c' _ e' Bt⟩) (λe' he=>(A9 e' (by rw[he];rfl)).cont) λhe=>Ab (by rw[he];rfl)
    refine⟨λk3=>⟨λhag=>?_,λhag=>sel λhh=>hag (by omega)⟩,λk3=>sel λhh=>k3 hh.1⟩;simp only[Ajl (show cl.kind=3/\0<cl.ag from⟨k3,by omega⟩)]at G A9 Ab;refine BF h2 λa=>⟨_,_,_,_,rfl,λnb Hc=>T7 ?_⟩;refine U0 (s0:=sBy) (s1:=sWo) (x0:=1) (x1:=2) h2.step Hc (by omega) (λg hg ρ3 p3 pn k3' c3 kn cn qf x3 Qe TE=>⟨rfl,Spec.AR Qe ?_⟩) (λe' he=>(A9 e' (by rw[he];rfl)).cont) λhe=>Ab (by rw[he];rfl);rw[hg]at G A9 Ab;simp only[Rz.bind]at G A9 Ab;have AcN:=(Ky hg).1;have AC7:Fo 1 (ρ3.del q) pn kn (g.2.1.map .string):=TE.mono (h2.out.new x3);refine Jz (l:=7) (by decide) (ih 7 d g.2.2 (by omega) (by omega) VQ hd qf.Yy (by omega) (λr1 n1 hx ρ' p' q' n' c' m' e' Bt Mh=>⟨rfl,_,_,_,_,_,_,_,_,_,_,_,_,_,_,JJ (Hp.AA _ _ _),?_⟩) (λe' he=>((A9 e' (by rw[he])).base qf.out.2).cont.box) λhe=>Ab (by rw[he]));rw[hx]at G;simp only at G;have Ri:(out++n1).length=m':=Bt.out.1.1;have iM:=(Pn _ _ _ _ _ hx).1;dsimp only at iM;rw[Ajr]at Ri;have AC8:=Bt.base qf.out.2;refine Spec.AR Mh (CJ (x:=xE cl.ag g.1 g.2.1) AC8 (by omega) ADK (AC7.mono Bt.out.2) λρ4 q4 e4 gi tz=>⟨rfl,?_⟩);obtain⟨k1,k2⟩:=gi.box (u:=Y1 5 cl.ag none 0 0 0 g.1 pn kn cn false 1) tz;rw[k2];exact G r1 (n1++[xE cl.ag g.1 g.2.1]) rfl _ _ _ _ _ _ _ (by rw[<-AkC];exact k1)
   refine⟨λk3=>⟨λkf=>?_,λkf=>rest λhh=>kf (by omega)⟩,λk3=>rest λhh=>k3 hh.1⟩;simp only[Ajl (show cl.kind=3/\0<cl.fn from⟨k3,by omega⟩)]at G A9 Ab;refine BF h2 λa=>⟨_,_,_,_,rfl,Jz (l:=7) (by decide) (ih 7 d rr (by omega) (by omega) VQ hd h2.step (by omega) (λr1 n1 hx ρ' p' q' n' c' m' e' Bt=>⟨rfl,?_⟩) (λe' he=>(A9 e' (by rw[he];rfl)).cont) λhe=>Ab (by rw[he];rfl))⟩;rw[hx]at G;simp only[Rz.bind]at G;have Ri:(out++n1).length=m':=Bt.out.1.1;have iM:=(Pn _ _ _ _ _ hx).1;dsimp only at iM;rw[Ajr]at Ri;exact CJ (x:=dQ cl.fn) Bt (by omega) ADK AM4 λρ4 q4 e4 gi=>⟨rfl,G r1 (n1++[dQ cl.fn]) rfl _ _ _ _ _ _ _ (by rw[<-AkC];exact gi)⟩
  simp only[Ajj e6]at G A9 Ab;have e7:l=7:=by omega
  subst e7;refine B7.start λb1 JE=>?_;obtain⟨Av,Hc⟩:=Hp.AM JE;obtain⟨h1,h2⟩:=hu.box (u:=.cells #[.pointer (aD pb 0)] 76 (0,0)) JE;rw[h2];have lO:∀(ρ':Hp) (o:Obj),Ext (ρ.set b1 (.cells #[.pointer (aD pb 0)] 76 (0,0))) ρ'->ρ' pb=none->(ρ'.set pb o).ld ⟨b1,0,none⟩=some (.pointer (aD pb 0)):=λρ' o hx hn=>AJ ((Ext.set hn) _ _ (hx _ _ (Hp.AA _ _ _))) rfl;refine⟨aD pb 0,lO _ _ (.refl _) h1.pb,BS h1 ⟨_,rfl,λhf=>?_,λmC=>?_⟩⟩
  .rw[<-elp]at hf;exact⟨aD pb 0,lO _ _ (.refl _) h1.pb,DG h1 (A9 _ (by rw[Ajj (by rw[hf];decide)])).cont⟩
  rw[<-elp]at mC;simp only[Ajl mC]at G A9 Ab;refine B7.A0 ⟨aD pb 0,lO _ _ (.refl _) h1.pb,?_⟩;refine aA (fst:=#[]) (cap:=#[.pointer (aD b1 0)]) BU.en h1 ⟨VQ,hd⟩ (λmr=>(A9 _ (by rw[Ajl mr])).cont) λmr=>?_;simp only[Ajj mr]at G A9 Ab;refine BU.start ⟨aD pb 0,lO _ _ (.refl _) h1.pb,?_⟩;have hqb:∀ao,q=some ao->ao.block≠b1:=λao ha e=>by
   have:=hu.out.1.2;obtain⟨cs,ho,_⟩:=this;exact ho.block ao ha (by rw[e];exact Hc)
  have BC:∀{ρ':Hp},Ext ((ρ.set b1 (.cells #[.pointer (aD pb 0)] 76 (0,0))).del q) ρ'->∀o,ρ' pb=none->(ρ'.set pb o).ld ⟨b1,0,none⟩=some (.pointer (aD pb 0)):=fun {ρ'} hx o hn=>by
   refine AJ ((Ext.set hn) _ _ (hx b1 (.cells #[.pointer (aD pb 0)] 76 (0,0)) ?_)) rfl;unfold Hp.del;cases q with
   | none=>exact Hp.AA _ _ _
   | some ao=>dsimp only;rw[Ajj (Aj4 (hqb ao rfl))];exact Hp.AA _ _ _
  refine Jz (l:=0) (by decide) (ih 0 (d+1) rr (by omega) (by omega) (by omega) (by omega) h1.step.Yy (by omega) (λr1 n1 hx ρ2 p2 q2 n2 c2 m2 e2 Rh=>⟨rfl,aD pb 0,BC Rh.out.up _ Rh.pb,?_⟩) (λe' he=>((A9 e' (by rw[he];rfl)).base h1.out.2).cont.cont.cont) λhe=>Ab (by rw[he];rfl));rw[hx]at G A9 Ab;simp only[Rz.bind]at G A9 Ab;cases r1 with
  | nil=>exact absurd rfl Ab
  | cons ee r'=>
   rw[ADG.eq_def]at G A9;dsimp only at G A9;have erp:ee.rp=GN ee.kind ee.text 5 ⟨#[41]⟩:=Ajw Cl.rp Rh.tok.1;have hub:=Rh.base h1.out.2;refine JO hub (λhc=>⟨rfl,rfl,ρ2,_,q2,_,_,m2,e2,rfl,rfl,G _ _ (by rw[Ajl (by rw[erp];exact hc)]) _ _ _ _ _ _ _ hub.step⟩) λhc=>(A9 _ (by rw[Ajj (by rw[erp,hc];decide)])).cont.cont.cont
def mz (c:Cl):Prop:=c=Ut c.kind c.text c.span
structure Tk (ts:List Cl):Prop where
 all:∀c∈ts,mz c
 ne:ts≠[]
 fin:∀h,(ts.getLast h).kind=0
theorem mz.of (k:Int)(s:ByteArray)(v:Int):mz (Ut k s v):=rfl
theorem Tk.hd {c:Cl}{r:List Cl}(h:Tk (c::r)):mz c:=h.all c (Aj5 ..)
theorem Tk.tl {c:Cl}{r:List Cl}(h:Tk (c::r))(hk:c.kind≠0):Tk r:=by
 have G:r≠[]:=λe=>by
  subst e;exact hk (h.fin (by simp))
 exact⟨λu hu=>h.all u (Ajm _ hu),G,λ_=>by
  have:=h.fin (by simp);rwa[List.getLast_cons G]at this⟩
theorem Me {k j:Int}{s t:ByteArray}(h:GN k s j t=true):k=j:=by
 unfold GN at h;rw[Ajz,Aj3]at h;exact h.1
section
variable {c:Cl}(h:mz c)
include h
theorem mz.rp (G:c.rp=true):c.kind≠0:=by rw[h]at G;rw[Me G];decide
theorem mz.lp (G:c.lp=true):c.kind≠0:=by rw[h]at G;rw[Me G];decide
theorem mz.comma (G:c.comma=true):c.kind≠0:=by rw[h]at G;rw[Me G];decide
theorem mz.lsq (G:c.lsq=true):c.kind≠0:=by rw[h]at G;rw[Me G];decide
theorem mz.rsq (G:c.rsq=true):c.kind≠0:=by rw[h]at G;rw[Me G];decide
theorem mz.lbr (G:c.lbr=true):c.kind≠0:=by rw[h]at G;rw[Me G];decide
theorem mz.minus (G:c.minus=true):c.kind≠0:=by rw[h]at G;rw[Me G];decide
theorem mz.bool (G:c.bool=true):c.kind≠0:=by rw[h]at G;rw[Me G];decide
theorem mz.off (G:c.off=true):c.kind≠0:=by rw[h]at G;rw[Me G];decide
theorem mz.name (G:c.name=true):c.kind≠0:=by
 rw[h]at G;have G:(decide (c.kind=3)&&Dt c.text)=true:=G;rw[Ajz,Aj3]at G;rw[G.1];decide
end
def Gd {α:Type}(P:α->Prop):Rz α->Prop
 | .ok x=>P x
 | .er e=>0<e/\e<=200
 | .out=>False
theorem Gd.bind {α β:Type}{P:α->Prop}{Q:β->Prop}{x:Rz α}{g:α->Rz β}(h:Gd P x)(G:∀a,x=.ok a->P a->Gd Q (g a)):Gd Q (x.bind g):=by
 cases x with
 | ok a=>exact G a rfl h
 | er e=>exact h
 | out=>exact h.elim
theorem G0 {α:Type}{P:α->Prop}{c:Cl}:Gd P (.er (Ux c)):=by
 show 0<Ux c/\Ux c<=200
 unfold Ux;split<;>omega
theorem AM5:∀(f:Nat) (ts:List Cl) (ns:List ByteArray),Tk ts->ts.length<f->Gd (λx=>Tk x.2) (uH f ts ns):=by
 intro f
 induction f with
 | zero=>intro ts ns _ h;omega
 | succ f ih=>
  intro ts ns G hf;cases ts with
  | nil=>exact absurd rfl G.ne
  | cons c r=>
   rw[Ajk]at hf;rw[uH.eq_def];dsimp only;split
   .rename_i h;exact G.tl (G.hd.rp h)
   split
   .split
    .rename_i h;exact ih _ _ (G.tl (G.hd.name h)) (by omega)
    .exact G0
   split
   .rename_i h;have h2:=G.tl (G.hd.comma h);cases r with
    | nil=>exact absurd rfl h2.ne
    | cons w r'=>
     rw[Ajk]at hf;dsimp only;split
     .rename_i h3;exact ih _ _ (h2.tl (h2.hd.name h3)) (by omega)
     .exact G0
   .exact G0
theorem uJ {k:Int}{ts:List Cl}(G:Tk ts):Gd (λx=>Tk x.2.2) (UA k ts):=by
 cases ts with
 | nil=>exact absurd rfl G.ne
 | cons l r=>
  rw[UA.eq_def];dsimp only;split
  .rename_i h;exact(AM5 _ _ _ (G.tl (G.hd.lp h)) (by omega)).bind λa _ ha=>ha
  .exact G0
theorem uK {s0 s1:ByteArray}{k0 k1:Int}{ts:List Cl}(G:Tk ts):Gd (λx=>Tk x.2.2) (bJ s0 s1 k0 k1 ts):=by
 cases ts with
 | nil=>exact absurd rfl G.ne
 | cons c r=>
  rw[bJ.eq_def];dsimp only;split
  .rename_i h;exact uJ (G.tl (by rw[Me h];decide))
  split
  .rename_i h;exact uJ (G.tl (by rw[Me h];decide))
  .exact G
theorem ADL {ms:List Mt}{ts:List Cl}(G:Tk ts):Gd (λx=>Tk x.2/\x.2.length<ts.length) (xY ms ts):=by
 cases ts with
 | nil=>exact absurd rfl G.ne
 | cons w r1=>
  rw[xY.eq_def];dsimp only;split
  .rename_i h;have h1:=G.tl (G.hd.name h);cases r1 with
   | nil=>exact absurd rfl h1.ne
   | cons o r2=>
    dsimp only;split
    .exact G0
    rename_i ho;have h2:=h1.tl (λe=>ho (.inl (by rw[e];decide)));cases r2 with
    | nil=>exact absurd rfl h2.ne
    | cons v r3=>
     dsimp only;split
     .exact G0
     rename_i hv;split
     .exact⟨by decide,by decide⟩
     .exact⟨h2.tl (λe=>hv (by rw[e];decide)),by simp only[Ajk];omega⟩
  .exact G0
theorem AGc:∀(f:Nat) (ts:List Cl) (ms:List Mt) (fi:Bool),Tk ts->ts.length<f->Gd (λx=>Tk x.2) (S5 f ts ms fi):=by
 intro f
 induction f with
 | zero=>intro ts ms fi _ h;omega
 | succ f ih=>
  intro ts ms fi ht hf;cases ts with
  | nil=>exact absurd rfl ht.ne
  | cons c r=>
   rw[S5.eq_def];dsimp only;split
   .rename_i h;have h:GN c.kind c.text 5 ⟨#[125]⟩=true:=h;exact ht.tl (by rw[Me h];decide)
   split
   .exact(ADL ht).bind λa _ G=>ih _ _ _ G.1 (by have:=G.2;omega)
   split
   .rename_i h;refine(ADL (ht.tl (ht.hd.comma h))).bind λa _ G=>ih _ _ _ G.1 ?_;have:=G.2;rw[Ajk]at hf;omega
   .exact G0
theorem uL {k w:Int}{ms:List Mt}{ts:List Cl}(G:Tk ts):Gd (λx=>Tk x.1) (bK k w ms ts):=by
 cases ts with
 | nil=>exact absurd rfl G.ne
 | cons a r=>
  rw[bK.eq_def];dsimp only;split
  .rename_i h;have h1:=G.tl (G.hd.off h);cases r with
   | nil=>exact absurd rfl h1.ne
   | cons s r1=>
    dsimp only;split
    .rename_i h2;exact h1.tl (by rw[h2];decide)
    .exact G0
  .exact G
theorem uM {ms:List Mt}{ts:List Cl}(G:Tk ts):Gd (λx=>Tk x.1) (bL ms ts):=by
 cases ts with
 | nil=>exact absurd rfl G.ne
 | cons a r=>
  rw[bL.eq_def];dsimp only;split
  .rename_i h;have h1:=G.tl (G.hd.lsq h);cases r with
   | nil=>exact absurd rfl h1.ne
   | cons s r1=>
    dsimp only;split
    .rename_i h2;have h3:=h1.tl (by rw[h2];decide);cases r1 with
     | nil=>exact absurd rfl h3.ne
     | cons e r2=>
      dsimp only;split
      .rename_i h4;exact uL (h3.tl (h3.hd.rsq h4))
      .exact G0
    .exact G0
  .exact uL G
theorem uN {word:Bool}{ms:List Mt}{ts:List Cl}(G:Tk ts):Gd (λx=>Tk x.1) (bM word ms ts):=by
 cases ts with
 | nil=>exact absurd rfl G.ne
 | cons a r=>
  rw[bM.eq_def];dsimp only;split
  .rename_i h;exact(AGc _ _ _ _ (G.tl (G.hd.lbr h)) (by omega)).bind λx _ hx=>uM hx
  split
  .exact uM G
  .exact G0
theorem AGd {ts:List Cl}(G:Tk ts):Gd (λx=>Tk x.1) (gq ts):=by
 cases ts with
 | nil=>exact absurd rfl G.ne
 | cons t r=>
  rw[gq.eq_def];dsimp only;split
  .rename_i h;split
   .exact⟨by decide,by decide⟩
   .exact uN (G.tl (by rw[h.1];decide))
  .exact uN G
theorem AGe {ns:List Nd}{ts:List Cl}(G:Tk ts):Gd (λx=>Tk x.1) (ADG ns ts):=by
 cases ts with
 | nil=>exact absurd rfl G.ne
 | cons e r=>
  rw[ADG.eq_def];dsimp only;split
  .rename_i h;exact G.tl (G.hd.rp h)
  .exact G0
theorem AVE:∀(f l:Nat) (d:Int) (ts:List Cl),Tk ts->(l<=7\/10<=l)->l<=14->ts.length*16+(8-l)<f->Gd (λx=>Tk x.1) (pe f l d ts):=by
 intro f
 induction f with
 | zero=>intro l d ts _ _ _ h;omega
 | succ f ih=>
  intro l d ts ht hl iI hf;rw[pe.eq_def];dsimp only;split
  .refine(ih _ _ _ ht (by omega) (by omega) (by omega)).bind λx hx G=>(ih _ _ _ G (by omega) (by omega) ?_).bind λy hy h2=>h2;have:=(Pn _ _ _ _ _ hx).1;omega
  cases ts with
  | nil=>exact absurd rfl ht.ne
  | cons c r=>
   rw[Ajk]at hf;dsimp only;split
   .split
    .exact ht
    rename_i hs;have G:=ht.tl λe=>hs (.inl ⟨by rw[e];decide,by rw[e];decide⟩);cases r with
    | nil=>exact absurd rfl G.ne
    | cons b r'=>
     rw[Ajk]at hf;dsimp only;have h2:Tk (bif blB c b then r' else b::r')/\(bif blB c b then r' else b::r').length<=r'.length+1:=by
      cases hb:blB c b with
      | true=>
       unfold blB at hb;rw[Ajz]at hb;exact⟨G.tl (G.hd.bool hb.2),by rw[AlS];omega⟩
      | false=>exact⟨G,by rw[AlN,Ajk];omega⟩
     refine(uK h2.1).bind λg hg h3=>?_;have g1:=(Ky hg).1;refine(ih _ _ _ h3 (by omega) (by omega) (by omega)).bind λx hx h4=>?_;have g2:=(Pn _ _ _ _ _ hx).1;exact(ih _ _ _ h4 hl iI (by omega)).bind λy hy h5=>h5
   split
   .subst_vars
    split
    .rename_i h;split
     .exact⟨by decide,by decide⟩
     .exact(ih _ _ _ (ht.tl (ht.hd.minus h)) (by omega) (by omega) (by omega)).bind λx _ G=>G
    .exact ih _ _ _ ht (by omega) (by omega) (by rw[Ajk];omega)
   split
   .subst_vars
    split
    .rename_i h;exact ht.tl (by rw[h];decide)
    split
    .exact ih _ _ _ ht (by omega) (by omega) (by rw[Ajk];omega)
    split
    .rename_i h;exact(ih _ _ _ (ht.tl (by rw[h.1];decide)) (by omega) (by omega) (by omega)).bind λx _ G=>G
    split
    .rename_i h;refine(uK (ht.tl (by rw[h.1];decide))).bind λg hg h3=>?_;have g1:=(Ky hg).1;exact(ih _ _ _ h3 (by omega) (by omega) (by omega)).bind λx _ G=>G
    .exact(AGd ht).bind λx _ G=>G
   split
   .rename_i h;split
    .exact⟨by decide,by decide⟩
    .exact(ih _ _ _ (ht.tl (ht.hd.lp h)) (by omega) (by omega) (by omega)).bind λx _ G=>AGe G
   .exact G0
theorem ADM:∀(n:Nat) (l a:List UInt8) (x:List UInt8×List UInt8),l.length<=n->IK l a=some x->x.2.length<=l.length:=by
 intro n
 induction n with
 | zero=>
  intro l a x G h;cases l with
  | nil=>rw[IK.eq_def]at h;cases h
  | cons c l=>rw[Ajk]at G;omega
 | succ n ih=>
  intro l a x G h;cases l with
  | nil=>rw[IK.eq_def]at h;cases h
  | cons c l=>
   rw[Ajk]at G;rw[IK.eq_def]at h;dsimp only at h;split at h
   .cases h
   split at h
   .cases h;simp
   split at h
   .cases l with
    | nil=>cases h
    | cons u l'=>
     rw[Ajk]at G;dsimp only at h;split at h
     .have:=ih _ _ _ (by omega) h;simp only[Ajk];omega
     split at h
     .have:=ih _ _ _ (by omega) h;simp only[Ajk];omega
     .cases h
   .have:=ih _ _ _ (by omega) h;rw[Ajk];omega
structure LxG (n:Nat)(x:Int×List Cl):Prop where
 tk:x.1=0->Tk x.2/\x.2.length<=n+1
 lo:0<=x.1
 hi:x.1<=200
 ne:x.1≠1
theorem LxG.le {n m:Nat}{x:Int×List Cl}(h:LxG n x)(hm:n<=m):LxG m x:=⟨λG=>⟨(h.tk G).1,by have:=(h.tk G).2;omega⟩,h.lo,h.hi,h.ne⟩
theorem LxG.cons {n:Nat}{x:Int×List Cl}{t:Cl}(h:LxG n x)(ht:mz t):LxG (n+1) (JN t x):=by
 unfold JN;by_cases G:x.1=0
 .rw[Ajl G];obtain⟨h1,h2⟩:=h.tk G;refine⟨λ_=>⟨⟨λc hc=>?_,by simp,λ_=>?_⟩,by simp only[Ajk];omega⟩,by simp,by simp,by simp⟩
  .rcases Ajo.1 hc with rfl|hc
   .exact ht
   .exact h1.all c hc
  .rw[List.getLast_cons h1.ne];exact h1.fin h1.ne
 .rw[Ajj G];exact⟨λhh=>absurd hh G,h.lo,h.hi,h.ne⟩
theorem AGf:∀(f:Nat) (l:List UInt8),l.length<f->LxG l.length (HA f l):=by
 intro f
 induction f with
 | zero=>intro l h;omega
 | succ f G=>
  intro l hf;cases l with
  | nil=>exact⟨λ_=>⟨⟨λc hc=>by rw[Ajp.1 hc];rfl,by simp[HA],λ_=>rfl⟩,by simp[HA]⟩,by simp[HA],by simp[HA],by simp[HA]⟩
  | cons c l=>
   rw[Ajk]at hf;have d1:(l.dropWhile DF).length<=l.length:=(AlL _).length_le;have d2:(l.dropWhile JL).length<=l.length:=(AlL _).length_le;rw[HA,Ajk];split
   .exact(G _ (by omega)).le (by omega)
   split
   .split
    .exact((G _ (by omega)).cons (.of _ _ _)).le (by omega)
    split
    .exact((G _ (by omega)).cons (.of _ _ _)).le (by omega)
    .exact⟨λh=>absurd h (by decide),by decide,by decide,by decide⟩
   split
   .exact((G _ (by omega)).cons (.of _ _ _)).le (by omega)
   split
   .split
    .rename_i a r ht;have:=ADM _ _ _ _ (Ajt _) ht;dsimp only at this;exact((G _ (by omega)).cons (.of _ _ _)).le (by omega)
    .exact⟨λh=>absurd h (by decide),by decide,by decide,by decide⟩
   split
   .have:(l.drop 1).length<=l.length:=by rw[Aj6];omega
    exact((G _ (by omega)).cons (.of _ _ _)).le (by omega)
   split
   .exact((G _ (by omega)).cons (.of _ _ _)).le (by omega)
   .exact⟨λh=>absurd h (by decide),by decide,by decide,by decide⟩
def Cp (s:ByteArray):Int×List Nd:=
 if 4096<s.size then(170,[]) else if(HA (s.size+1) s.data.toList).1≠0 then((HA (s.size+1) s.data.toList).1,[]) else
  match pe ((HA (s.size+1) s.data.toList).2.length*16+9) 0 0 (HA (s.size+1) s.data.toList).2 with
  | .ok (c::_,ns)=>if c.kind=0 then(0,ns) else(181,[])
  | .ok ([],_)=>(1,[])
  | .er e=>(e,[])
  | .out=>(1,[])
section
variable {Z22:Hp}{R:Rr}{s:ByteArray}
theorem xf (G:∀x,(x=if 4096<s.size then(170,[]) else HA (s.size+1) s.data.toList)->qo R Z22 [] x):Spec prog 28 #[.string s] Z22 R:=by
 refine AS.start λ_=>⟨λhh=>?_,λhh=>?_⟩
 .have:=G _ rfl;rw[Ajl (by omega)]at this;exact this.er (by decide) Z22 _ (.refl Z22)
 .have:=G _ rfl;rw[Ajj (by omega)]at this;have hlen:s.data.toList.length=s.size:=AkP (xs:=s.data);exact AGW (by omega) (s.size+1) s.data.toList (by omega) (i:=0) rfl (Ajy _) (AN.nil (.refl _)) (by omega) this
end
theorem qq (t:TypeId)(v:Value)(w:World):(binOp BinOp.neq 20 (.iface t v) .nilIface).run prog w=.ok (.bool true) w:=by kernel_rfl
section
variable {g:Tw.Gl}{ops:Array Oper}{K:Env->Bx->Hp->Prop}
theorem mP {e:Env}{bx:Bx}{Z22:Hp}{id n:Nat}{q:KB}{plan:Tw.Ord}{tl:List Nat}(hr:g.IQ=none)(hm:g.P.follows .mixedOrders=true)(hp:R0 ops n plan tl=true)
  (h:Ba g ops plan q e bx Z22 (λe bx Z22=>Seq g ops tl e bx Z22 K)) {w0:World} {F:Nat->Prop} {a:Act} {w:World} (st:St g.n g.ds w0 F e bx Z22 a w):(Code.region id ops true).wp g.P (Qn g w0 F K) a w:=by
 simp only[R0,Ajz,Alh,Aj3]at hp;obtain⟨⟨⟨Mz,hn⟩,gy⟩,Aa⟩:=hp;have Mh:n<=ops.size:=by rcases hn with h|h<;>omega
 have Hj:∀G,HeadInv .any ops n G->∀i,i<n->G.getD i true=false->∀t,n<=t->t ∉ Region.ready .any ops G:=by
  intro G inv i hi TF t ht;rcases hn with h|⟨⟨h1,h2⟩,h3⟩
  .intro hr;obtain⟨_,o,ho,_⟩:=mem_ready.1 hr;have:=(Aj2.1 ho).1;omega
  .exact tail_waits h2 h3 h1 inv _ i rfl hi TF t ht
 have yZ:HeadInv .any ops n (Array.replicate ops.size false):=
  ⟨by simp,λj oj _ hl=>(by rw[getD_replicate_false]at hl;cases hl),λt _ ht=>getD_in (by simpa using ht) (getD_replicate_false _ _)⟩
 have e0:wd g.IQ=Fence.wide:=by rw[hr];rfl
 refine(wpIn_wide (n:=0)).1 ?_;rw[<-e0];refine wpIn_region_any hm ?_;have H:=Hm (K:=K) (tl:=tl) Mz Hj gy plan n [] q (Array.replicate ops.size false) e bx Z22 a { w with drawn:=w.drawn+1 } yZ Aa st.drew h (λj hj=>by cases hj);have:=GV (g:=ops.size-n) (λG a w hL=>Hf _ _ G a w hL.1 (gy▸hL.2)) _ _ _ _ H;rw[show n+(ops.size-n)=ops.size by omega]at this;exact this
end
noncomputable def AM6:Code:=match f29.body with
 | some (.seq _ (.seq _ (.cond _ (.seq _ (.seq _ c)) _)))=>c
 | _=>.skip
noncomputable def AM7:Array Oper:=match AM6 with
 | .region _ ops _=>ops
 | _=>#[]
noncomputable def g29:Tw.Gl:=⟨prog,29,21,λ_ _=>False,none,[],.inl ⟨rfl,rfl⟩⟩
def e29 (b0 b1 b2 n:Nat)(f:Nat->Value)(t:Nat):Value:=if t=0 then .pointer (aD b0 0) else if t=1 then .pointer (aD b1 0) else if t=2 then .pointer (aD b2 0) else if t=4 then .pointer (aD n 0) else f t
noncomputable def qs:Array Field:=match prog.underlying 80 with
 | some (.struct G)=>G
 | _=>#[]
theorem AVF:prog.underlying 80=some (.struct qs)/\(∃fd,qs[0]?=some fd/\fd.offset=0/\fd.type=24)/\∃fd,qs[1]?=some fd/\fd.offset=1/\fd.type=3:=by
 have G:qs[0]?.isSome=true:=by kernel_rfl
 have h1:qs[1]?.isSome=true:=by kernel_rfl
 refine⟨by kernel_rfl,⟨qs[0]?.get G,(Option.some_get G).symm,by kernel_rfl,by kernel_rfl⟩,⟨qs[1]?.get h1,(Option.some_get h1).symm,by kernel_rfl,by kernel_rfl⟩⟩
set_option maxRecDepth 100000 in
theorem mQ {b0 b1 b2 n:Nat}{Ef a:Int}{G:World}{A:Act}{Q:Exit->Act->World->Prop}(hs:A.tmps.size=21)(hd:A.defers=[])(t0:A.tmps.getD 0 undef=.pointer (aD b0 0))(t1:A.tmps.getD 1 undef=.pointer (aD b1 0))(t2:A.tmps.getD 2 undef=.pointer (aD b2 0))(t4:A.tmps.getD 4 undef=.pointer (aD n 0))
  (g0:G.heap[b0]?=some (.cells #[.N] 32 (0,0))) (g1:G.heap[b1]?=some (.cells #[.I 0] 3 (0,0))) (g2:G.heap[b2]?=some (.cells #[.I 0] 24 (0,0))) (JE:b1=b0+1) (Fi:b2=b0+2) (hn:b2<n)
  (n0:G.heap[n]?=some (.cells #[.I Ef,.I a] 80 (0,0)))
  (hQ:∀A' w',A'.defers=[]->w'.heap[b0]?=some (.cells #[.N] 32 (0,0))->w'.heap[b1]?=some (.cells #[.I a] 3 (0,0))->w'.heap[b2]?=some (.cells #[.I Ef] 24 (0,0))->
   (∀k,k<G.heap.size->k≠b0->k≠b1->k≠b2->w'.heap[k]?=G.heap[k]?)->G.heap.size<=w'.heap.size->Bl G w'->w'.output=G.output->Q .normal A' w') :
  Code.wp prog AM6 Q A G:=by
 have hm:prog.follows .mixedOrders=true:=by kernel_rfl
 have hc:AM6=.region 5 AM7 true:=by kernel_rfl
 let z0:Hp:=λ_=>none
 let Z1:Hp:=(((z0.set b0 (.cells #[.N] 32 (0,0))).set b1 (.cells #[.I 0] 3 (0,0))).set b2 (.cells #[.I 0] 24 (0,0))).set n (.cells #[.I Ef,.I a] 80 (0,0))
 have s0:Z1 b0=some (.cells #[.N] 32 (0,0)):=by
  show Hp.set _ _ _ _=_
  rw[Hp.AB (by omega),Hp.AB (by omega),Hp.AB (by omega),Hp.AA]
 have s1:Z1 b1=some (.cells #[.I 0] 3 (0,0)):=by
  show Hp.set _ _ _ _=_
  rw[Hp.AB (by omega),Hp.AB (by omega),Hp.AA]
 have s2:Z1 b2=some (.cells #[.I 0] 24 (0,0)):=by
  show Hp.set _ _ _ _=_
  rw[Hp.AB (by omega),Hp.AA]
 have s3:Z1 n=some (.cells #[.I Ef,.I a] 80 (0,0)):=Hp.AA _ _ _;have sn:∀k,k≠b0->k≠b1->k≠b2->k≠n->Z1 k=none:=λk h0 h1 h2 h3=>by
  show Hp.set _ _ _ _=_
  rw[Hp.AB h3,Hp.AB h2,Hp.AB h1,Hp.AB h0]
 have st:St g29.n g29.ds G (λk=>k<G.heap.size/\k≠b0/\k≠b1/\k≠b2/\k≠n) (e29 b0 b1 b2 n (λt=>A.tmps.getD t undef)) [] Z1 A G:=by
  refine⟨hs,λt=>?_,hd,λb o hb=>?_,λp hp=>by (cases hp),λp hp=>by (cases hp),Ak9,λb hb=>⟨hb.1,sn b hb.2.1 hb.2.2.1 hb.2.2.2.1 hb.2.2.2.2,rfl⟩,.same rfl rfl rfl,rfl,Ajt _⟩
  .unfold e29;split
   .rename_i h;rw[h];exact t0
   split
   .rename_i h;rw[h];exact t1
   split
   .rename_i h;rw[h];exact t2
   split
   .rename_i h;rw[h];exact t4
   .rfl
  .by_cases h0:b=b0
   .subst h0;rw[s0]at hb;cases hb;exact g0
   by_cases h1:b=b1
   .subst h1;rw[s1]at hb;cases hb;exact g1
   by_cases h2:b=b2
   .subst h2;rw[s2]at hb;cases hb;exact g2
   by_cases h3:b=n
   .subst h3;rw[s3]at hb;cases hb;exact n0
   .rw[sn b h0 h1 h2 h3]at hb;cases hb
 have hz:∀(w:World),(Go.sizeOf 32).run prog w=.ok 1 w/\(Go.sizeOf 3).run prog w=.ok 1 w/\(Go.sizeOf 24).run prog w=.ok 1 w:=λw=>⟨by kernel_rfl,by kernel_rfl,by kernel_rfl⟩;have RB:∀Z22:Hp,Z22 n=some (.cells #[.I Ef,.I a] 80 (0,0))->Hp.ld (λb=>if b=n then Z22 b else none) ⟨n,1,none⟩=some (.I a)/\Hp.ld (λb=>if b=n then Z22 b else none) ⟨n,0,none⟩=some (.I Ef):=λZ22 h=>by
  constructor<;>simp[Hp.ld,h]
 have H:Ba g29 AM7 (.yes 0 (.yes 1 (.yes 2 (.yes 3 (.alt 4 (.alt 5 (.alt 6 .done .no) .no) .no))))) (some []) (e29 b0 b1 b2 n (λt=>A.tmps.getD t undef)) [] Z1 (λe bx Z22=>Seq g29 AM7 [] e bx Z22 λ_ _ Z22=>Z22=((Z1.set b0 (.cells #[.N] 32 (0,0))).set b1 (.cells #[.I a] 3 (0,0))).set b2 (.cells #[.I Ef] 24 (0,0))):=by
  obtain⟨hT,⟨f0,e0,o0,y0⟩,f1,e1,o1,y1⟩:=AVF;refine Ba.z 17 (.fieldAddr 80 (.tmp 4) 1) 0 (.pointer (some ⟨n,1,none⟩)) (Y.fieldAddr (off:=0) hT e1 (λw=>by rw[y1];exact(hz w).2.1) rfl (by rw[o1])) ?_;refine Ba.yl n [] rfl rfl (d:=some 18) (op:=.load 3 (.tmp 17)) (ty:=3) (v:=.I a) (by kernel_rfl) rfl (Y.ld (λw=>by kernel_rfl) rfl (RB _ s3).1) ?_;refine Ba.z 19 (.fieldAddr 80 (.tmp 4) 0) 0 (.pointer (some ⟨n,0,none⟩)) (Y.fieldAddr (off:=0) hT e0 (λw=>by rw[y0];exact(hz w).2.2) rfl (by rw[o0])) ?_;refine Ba.yl n [] rfl rfl (d:=some 20) (op:=.load 24 (.tmp 19)) (ty:=24) (v:=.I Ef) (by kernel_rfl) rfl (Y.ld (λw=>by kernel_rfl) rfl (RB _ s3).2) ?_;have keep:∀(Z22:Hp) (b:Nat) (o:Obj),b≠n->Iq (some [(n,[]),(n,[])]) [] Z22 [] (Z22.set b o):=λZ22 b o hb=>⟨λp hp=>hp,λx hx o' EM=>by
   have hx:x.1=n:=by
    rcases Ajo.1 hx with rfl|hx
    .rfl
    .rw[Ajp.1 hx]
   rw[hx]at EM ⊢;rw[Hp.AB (λh=>hb h.symm)];exact EM⟩
  refine Ba.o (q':=some [(n,[]),(n,[])]) rfl (AW.store (T:=32) (x:=.tmp 0) (y:=.const (.N)) (ty:=0) (gd:=none) (by kernel_rfl) rfl rfl rfl (AI.store (λw=>(hz w).1) s0 rfl (by decide) (λu hu=>?_) ⟨keep _ _ _ (by omega),?_⟩))
  .rw[Ajp.1 hu];rfl
  refine Ba.o (q':=some [(n,[]),(n,[])]) rfl (AW.store (T:=3) (x:=.tmp 1) (y:=.tmp 18) (ty:=0) (gd:=none) (by kernel_rfl) rfl rfl rfl (AI.store (λw=>(hz w).2.1) (by rw[Hp.AB (by omega)];exact s1) rfl (by decide) (λu hu=>?_) ⟨keep _ _ _ (by omega),?_⟩))
  .rw[Ajp.1 hu];rfl
  refine Ba.o (q':=some [(n,[]),(n,[])]) rfl (AW.store (T:=24) (x:=.tmp 2) (y:=.tmp 20) (ty:=0) (gd:=none) (by kernel_rfl) rfl rfl rfl (AI.store (λw=>(hz w).2.2) (by rw[Hp.AB (by omega),Hp.AB (by omega)];exact s2) rfl (by decide) (λu hu=>?_) ⟨keep _ _ _ (by omega),?_⟩))
  .rw[Ajp.1 hu];rfl
  exact Ba.done rfl
 rw[hc];have W:=mP (id:=5) rfl hm (n:=7) (tl:=[]) (by kernel_rfl) H st;intro b k cs;obtain⟨e',A',w',hq,iQ⟩:=W b k cs;refine⟨e',A',w',?_,iQ⟩;cases e' with
 | normal=>
  obtain⟨_,_,Z',HC,rfl⟩:=hq;refine hQ A' w' HC.defers (HC.sat _ _ ?_) (HC.sat _ _ ?_) (HC.sat _ _ ?_) (λk hk h0 h1 h2=>?_) HC.grow HC.os HC.out
  .rw[Hp.AB (by omega),Hp.AB (by omega),Hp.AA]
  .rw[Hp.AB (by omega),Hp.AA]
  .rw[Hp.AA]
  .by_cases h3:k=n
   .subst h3;rw[n0];exact HC.sat _ _ (by rw[Hp.AB h2,Hp.AB h1,Hp.AB h0];exact s3)
   .exact(HC.BM k ⟨hk,h0,h1,h2,h3⟩).2.2
 | panic ch=>obtain⟨_,_,hf,_⟩:=hq;exact hf.elim
 | exit _=>exact hq.elim
 | goto _=>exact hq.elim
 | ret=>exact hq.elim
 | outgrown=>exact hq.elim
theorem AcP (x:Value)(w:World):(Instr.typeAssert (.iface 80 x) 20 80 true).run prog w=.ok (.tuple #[x,.bool true]) w:=by kernel_rfl
set_option maxRecDepth 100000 in
theorem gu (b0 b1 b2:Nat)(Ef a:Int)(w:World)(h0:w.heap[b0]?=some (.cells #[.N] 32 (0,0)))(h1:w.heap[b1]?=some (.cells #[.I 0] 3 (0,0)))(h2:w.heap[b2]?=some (.cells #[.I 0] 24 (0,0)))(JE:b1=b0+1)(Fi:b2=b0+2):
  CallsD prog 29 #[.pointer (aD b0 0),.pointer (aD b1 0),.pointer (aD b2 0)] (.panicking [{ v:=Q8 Ef a,recovered:=false }]) w λe u' w'=>e=.T #[]/\u'=.panicking [{ v:=Q8 Ef a,recovered:=true }]/\
   w'.heap[b0]?=some (.cells #[.N] 32 (0,0))/\w'.heap[b1]?=some (.cells #[.I a] 3 (0,0))/\w'.heap[b2]?=some (.cells #[.I Ef] 24 (0,0))/\(∀k,k<w.heap.size->k≠b0->k≠b1->k≠b2->w'.heap[k]?=w.heap[k]?)/\
   w.heap.size<=w'.heap.size/\Bl w w'/\w'.output=w.output:=by
 refine callsD_of_wpS func29 rfl λc₀ cs hu=>?_;apply wpS_seq
 apply wpS_region
 simp[wpOpsS,go_sem,recoverD,hu,Q8,Exit.thenS];apply wpS_seq
 apply wpS_region
 simp[wpOpsS,go_sem,Exit.thenS,qq];refine wpS_cond (t:=true) (by simp[Act.eval,Array.replicate]) ?_;simp only[AlG];apply wpS_seq
 apply wpS_region
 simp[wpOpsS,go_sem,Exit.thenS,AcP];have n0:(w.alloc (.cells #[.I Ef,.I a] 80)).heap[w.heap.size]?=some (.cells #[.I Ef,.I a] 80 (0,0)):=by rw[World.alloc];simp
 have G:∀k:Nat,k<w.heap.size->(w.alloc (.cells #[.I Ef,.I a] 80)).heap[k]?=w.heap[k]?:=λk hk=>by
  rw[World.alloc];simp[AkB,Nat.ne_of_lt hk]
 have KD:(w.alloc (.cells #[.I Ef,.I a] 80)).heap.size=w.heap.size+1:=by simp
 have hos:Bl w (w.alloc (.cells #[.I Ef,.I a] 80)):=.same rfl rfl rfl;have hou:(w.alloc (.cells #[.I Ef,.I a] 80)).output=w.output:=rfl;generalize w.alloc (.cells #[.I Ef,.I a] 80)=w1 at n0 G KD hos hou;apply wpS_seq
 apply wpS_seq
 apply wpS_region
 simp[wpOpsS,go_sem,Exit.thenS];refine wpS_cond (t:=false) (by simp[Act.eval,Array.replicate]) ?_;simp only[AlF,AlE];refine wpS_of_wp (wp_skip ?_);refine wpS_of_wp ?_;have Ax:∀b o,w.heap[b]?=some o->b<w.heap.size:=λb o hb=>(Aj2.1 hb).1;have l2:=Ax _ _ h2;have g0:=(G _ (Ax _ _ h0)).trans h0;have g1:=(G _ (Ax _ _ h1)).trans h1;have g2:=(G _ l2).trans h2;refine mQ (n:=w.heap.size) ?_ ?_ ?_ ?_ ?_ ?_ g0 g1 g2 JE Fi l2 n0 ?_
 .simp
 .rfl
 .simp
 .simp
 .simp
 .simp[Array.replicate,aD]
 .intro A' w' hd x0 x1 x2 x3 x4 x5 x6;have y3:∀k,k<w.heap.size->k≠b0->k≠b1->k≠b2->w'.heap[k]?=w.heap[k]?:=λk hk a1 a2 a3=>(x3 k (by omega) a1 a2 a3).trans (G k hk);have y4:w.heap.size<=w'.heap.size:=by omega
  have y5:=hos.trans x5;have y6:=x6.trans hou;cases c₀
  simp_all [bodyPostS,results,results29,Exit.thenS,Q8]
structure PBx (b:Nat)(w:World):Prop where
 b0:w.heap[b]?=some (.cells #[.N] 32 (0,0))
 b1:w.heap[b+1]?=some (.cells #[.I 0] 3 (0,0))
 b2:w.heap[b+1+1]?=some (.cells #[.I 0] 24 (0,0))
def ADN (b:Nat)(w:World)(a Ef:Int)(R:Ending->World->Prop):Prop:=
 ∀G,(∀k,k<w.heap.size->k≠b->k≠b+1->k≠b+1+1->G.heap[k]?=w.heap[k]?)->w.heap.size<=G.heap.size->Bl w G->G.output=w.output->R (.T #[.N,.I a,.I Ef]) G
noncomputable def AM8:Code:=match f8.body with
 | some (.seq _ (.seq _ (.seq (.seq _ (.cond _ (.seq c _) _)) _)))=>c
 | _=>.skip
noncomputable def AM9:Array Oper:=match AM8 with
 | .region _ ops _=>ops
 | _=>#[]
noncomputable def g8x:Tw.Gl:=⟨prog,8,33,λ_ _=>False,none,[],.inl ⟨rfl,rfl⟩⟩
def e8 (b:Nat)(f:Nat->Value)(t:Nat):Value:=if t=2 then .pointer (aD b 0) else if t=3 then .pointer (aD (b+1) 0) else if t=4 then .pointer (aD (b+1+1) 0) else f t
set_option maxRecDepth 100000 in
theorem ADO {b:Nat}{Ef a:Int}{G:World}{A:Act}{Q:Exit->Act->World->Prop}(hs:A.tmps.size=33)(hd:A.defers=[])(t2:A.tmps.getD 2 undef=.pointer (aD b 0))(t3:A.tmps.getD 3 undef=.pointer (aD (b+1) 0))(t4:A.tmps.getD 4 undef=.pointer (aD (b+1+1) 0))
  (g0:G.heap[b]?=some (.cells #[.N] 32 (0,0))) (g1:G.heap[b+1]?=some (.cells #[.I a] 3 (0,0))) (g2:G.heap[b+1+1]?=some (.cells #[.I Ef] 24 (0,0)))
  (hQ:∀A' w',A'.defers=[]->A'.tmps.getD 2 undef=.pointer (aD b 0)->A'.tmps.getD 3 undef=.pointer (aD (b+1) 0)->A'.tmps.getD 4 undef=.pointer (aD (b+1+1) 0)->w'.heap[b]?=some (.cells #[.N] 32 (0,0))->w'.heap[b+1]?=some (.cells #[.I a] 3 (0,0))->w'.heap[b+1+1]?=some (.cells #[.I Ef] 24 (0,0))->
   (∀k,k<G.heap.size->k≠b->k≠b+1->k≠b+1+1->w'.heap[k]?=G.heap[k]?)->G.heap.size<=w'.heap.size->Bl G w'->w'.output=G.output->Q .normal A' w') :
  Code.wp prog AM8 Q A G:=by
 have hm:prog.follows .mixedOrders=true:=by kernel_rfl
 have hc:AM8=.region 3 AM9 true:=by kernel_rfl
 let z0:Hp:=λ_=>none
 let Z1:Hp:=((z0.set b (.cells #[.N] 32 (0,0))).set (b+1) (.cells #[.I a] 3 (0,0))).set (b+1+1) (.cells #[.I Ef] 24 (0,0))
 have s0:Z1 b=some (.cells #[.N] 32 (0,0)):=by
  show Hp.set _ _ _ _=_
  rw[Hp.AB (by omega),Hp.AB (by omega),Hp.AA]
 have s1:Z1 (b+1)=some (.cells #[.I a] 3 (0,0)):=by
  show Hp.set _ _ _ _=_
  rw[Hp.AB (by omega),Hp.AA]
 have s2:Z1 (b+1+1)=some (.cells #[.I Ef] 24 (0,0)):=Hp.AA _ _ _;have sn:∀k,k≠b->k≠b+1->k≠b+1+1->Z1 k=none:=λk h0 h1 h2=>by
  show Hp.set _ _ _ _=_
  rw[Hp.AB h2,Hp.AB h1,Hp.AB h0]
 have st:St g8x.n g8x.ds G (λk=>k<G.heap.size/\k≠b/\k≠b+1/\k≠b+1+1) (e8 b (λt=>A.tmps.getD t undef)) [] Z1 A G:=by
  refine⟨hs,λt=>?_,hd,λk o hb=>?_,λp hp=>by (cases hp),λp hp=>by (cases hp),Ak9,λk hb=>⟨hb.1,sn k hb.2.1 hb.2.2.1 hb.2.2.2,rfl⟩,.same rfl rfl rfl,rfl,Ajt _⟩
  .unfold e8;split
   .rename_i h;rw[h];exact t2
   split
   .rename_i h;rw[h];exact t3
   split
   .rename_i h;rw[h];exact t4
   .rfl
  .by_cases h0:k=b
   .subst h0;rw[s0]at hb;cases hb;exact g0
   by_cases h1:k=b+1
   .subst h1;rw[s1]at hb;cases hb;exact g1
   by_cases h2:k=b+1+1
   .subst h2;rw[s2]at hb;cases hb;exact g2
   .rw[sn k h0 h1 h2]at hb;cases hb
 have hz:∀(w:World),(Go.sizeOf 32).run prog w=.ok 1 w/\(Go.sizeOf 3).run prog w=.ok 1 w/\(Go.sizeOf 24).run prog w=.ok 1 w:=λw=>⟨by kernel_rfl,by kernel_rfl,by kernel_rfl⟩;have H:Ba g8x AM9 (.yes 0 (.yes 1 (.alt 2 (.alt 3 (.alt 4 .done .no) .no) .no))) (some []) (e8 b (λt=>A.tmps.getD t undef)) [] Z1 (λe bx Z22=>Seq g8x AM9 [] e bx Z22 λe _ Z22=>(e 2=.pointer (aD b 0)/\e 3=.pointer (aD (b+1) 0)/\e 4=.pointer (aD (b+1+1) 0))/\Z22=((Z1.set b (.cells #[.N] 32 (0,0))).set (b+1) (.cells #[.I a] 3 (0,0))).set (b+1+1) (.cells #[.I Ef] 24 (0,0))):=by
  refine Ba.yl (b+1) [[3]] rfl (by kernel_rfl) (d:=some 15) (op:=.load 3 (.tmp 3)) (ty:=3) (v:=.I a) (by kernel_rfl) rfl (Y.ld (a:=⟨b+1,0,none⟩) (λw=>by kernel_rfl) rfl (by simp[KM,Hp.ld,s1])) ?_;refine Ba.yl (b+1+1) [[4]] rfl (by kernel_rfl) (d:=some 16) (op:=.load 24 (.tmp 4)) (ty:=24) (v:=.I Ef) (by kernel_rfl) rfl (Y.ld (a:=⟨b+1+1,0,none⟩) (λw=>by kernel_rfl) rfl (by simp[KM,Hp.ld,s2])) ?_;have keep:∀(L:List (Nat×List Nat)) (Z22:Hp) (k:Nat) (o:Obj),(∀x∈L,x.1≠k)->Iq (some L) [] Z22 [] (Z22.set k o):=λL Z22 k o hb=>⟨λp hp=>hp,λx hx o' EM=>by
   rw[Hp.AB (hb x hx)];exact EM⟩
  refine Ba.o (q':=some [(b+1+1,[4]),(b+1,[3])]) rfl (AW.store (T:=32) (x:=.tmp 2) (y:=.const (.N)) (ty:=0) (gd:=none) (by kernel_rfl) rfl rfl rfl (AI.store (λw=>(hz w).1) s0 rfl (by decide) (λu hu=>?_) ⟨keep _ _ _ _ (λx hx=>?_),?_⟩))
  .rw[Ajp.1 hu];rfl
  .simp only[Ajo,Aj7,Akc]at hx;rcases hx with rfl|rfl<;>simp<;>omega
  refine Ba.o (q':=some [(b+1+1,[4])]) rfl (AW.store (T:=3) (x:=.tmp 3) (y:=.tmp 15) (ty:=0) (gd:=none) (by kernel_rfl) rfl rfl rfl (AI.store (λw=>(hz w).2.1) (by rw[Hp.AB (by omega)];exact s1) rfl (by simp) (λu hu=>?_) ⟨keep _ _ _ _ (λx hx=>?_),?_⟩))
  .rw[Ajp.1 hu];rfl
  .simp only[Ajo,Aj7,Akc]at hx;subst hx;simp
  refine Ba.o (q':=some []) rfl (AW.store (T:=24) (x:=.tmp 4) (y:=.tmp 16) (ty:=0) (gd:=none) (by kernel_rfl) rfl rfl rfl (AI.store (λw=>(hz w).2.2) (by rw[Hp.AB (by omega),Hp.AB (by omega)];exact s2) rfl (by simp) (λu hu=>?_) ⟨keep _ _ _ _ (λx hx=>by cases hx),?_⟩))
  .rw[Ajp.1 hu];rfl
  exact Ba.done ⟨⟨rfl,rfl,rfl⟩,rfl⟩
 rw[hc];have W:=mP (id:=3) rfl hm (n:=5) (tl:=[]) (by kernel_rfl) H st;intro fr k cs;obtain⟨e',A',w',hq,iQ⟩:=W fr k cs;refine⟨e',A',w',?_,iQ⟩;cases e' with
 | normal=>
  obtain⟨e',_,Z',HC,⟨x2,x3,x4⟩,rfl⟩:=hq;refine hQ A' w' HC.defers ((HC.env 2).trans x2) ((HC.env 3).trans x3) ((HC.env 4).trans x4) (HC.sat _ _ ?_) (HC.sat _ _ ?_) (HC.sat _ _ ?_) (λk hk h0 h1 h2=>?_) HC.grow HC.os HC.out
  .rw[Hp.AB (by omega),Hp.AB (by omega),Hp.AA]
  .rw[Hp.AB (by omega),Hp.AA]
  .rw[Hp.AA]
  .exact(HC.BM k ⟨hk,h0,h1,h2⟩).2.2
 | panic ch=>obtain⟨_,_,hf,_⟩:=hq;exact hf.elim
 | exit _=>exact hq.elim
 | goto _=>exact hq.elim
 | ret=>exact hq.elim
 | outgrown=>exact hq.elim
theorem AVH {b:Nat}{v0 v1 v2:Value}{w:World}{tmps:Array Value}(G:tmps.getD 2 undef=.pointer (aD b 0))(h3:tmps.getD 3 undef=.pointer (aD (b+1) 0))(h4:tmps.getD 4 undef=.pointer (aD (b+1+1) 0))
  (g0:w.heap[b]?=some (.cells #[v0] 32 (0,0))) (g1:w.heap[b+1]?=some (.cells #[v1] 3 (0,0))) (g2:w.heap[b+1+1]?=some (.cells #[v2] 24 (0,0))):(results f8 tmps).run prog w=.ok (.tuple #[v0,v1,v2]) w:=by
 have r0:=(Du g0).1;have r1:=(Du g1).1;have r2:=(Du g2).1;simp[AlR]at G h3 h4;simp[results,results8,go_sem,G,h3,h4,r0,r1,r2]
set_option maxRecDepth 100000 in
theorem Q9 {b:Nat}{G a:Int}{w:World}{tmps:Array Value}{R:Ending->World->Prop}(hb:PBx b w)(h2:tmps.getD 2 undef=.pointer (aD b 0))(h3:tmps.getD 3 undef=.pointer (aD (b+1) 0))(h4:tmps.getD 4 undef=.pointer (aD (b+1+1) 0))(hR:ADN b w a G R):
  Leaves prog f8 tmps R [{ target:=.fn (.func 29) #[.pointer (aD b 0),.pointer (aD (b+1) 0),.pointer (aD (b+1+1) 0)],args:=#[] }] (.panicking [{ v:=Q8 G a,recovered:=false }]) w:=by
 refine leaves_cons (f:=29) (args:=#[.pointer (aD b 0),.pointer (aD (b+1) 0),.pointer (aD (b+1+1) 0)]) (by simp) (by simp[go_sem]) ?_;refine(gu b (b+1) (b+1+1) G a w hb.b0 hb.b1 hb.b2 rfl rfl).mono ?_
 rintro e u' w' ⟨rfl,rfl,x0,x1,x2,x3,x4,x5,x6⟩
 exact⟨_,AVH h2 h3 h4 x0 x1 x2,hR w' x3 x4 x5 x6⟩
set_option maxRecDepth 100000 in
theorem xg (s:ByteArray)(w w1:World)(av:w1=((w.alloc (.cells #[.N] 32)).alloc (.cells #[.I 0] 3)).alloc (.cells #[.I 0] 24)){R:Ending->World->Prop}
  (h:Calls prog 28 #[.string s] w1 λe w2=>PBx w.heap.size w2/\((∃a G:Int,e=.T #[.N,.I a,.I G]/\G≠0/\ADN w.heap.size w2 a G R)\/∃p n c,e=.T #[.slice p n c,.I 0,.I 0]/\
   Calls prog 30 #[.pointer (aD w2.heap.size 0)] (((w2.setCell ⟨w.heap.size+1,0,none⟩ (.I 0)).setCell ⟨w.heap.size+1+1,0,none⟩ (.I 0)).alloc (.cells #[.slice p n c,.I 0,.N] 78)) λe w4=>PBx w.heap.size w4/\((∃a G:Int,e=.panicked [{ v:=Q8 G a,recovered:=false }]/\ADN w.heap.size w4 a G R)\/e=.T #[]/\
   Calls prog 31 #[.pointer (aD w2.heap.size 0)] w4 λe w5=>PBx w.heap.size w5/\∃(k a v:Int) (t:ByteArray),e=.returned (.agg #[.I k,.I a,.string t,.I v])/\((k≠0/\Calls prog 32 #[.pointer (aD w2.heap.size 0)] w5 λe w6=>PBx w.heap.size w6/\∃a G:Int,e=.panicked [{ v:=Q8 G a,recovered:=false }]/\ADN w.heap.size w6 a G R)\/k=0/\
    ∃(p:Option Addr) (n c:Nat) (q:Option Addr) (m k:Nat),w5.heap[w2.heap.size]?=some (.cells #[.slice p n c,.I 0,.slice q m k] 78 (0,0))/\R (.T #[.slice q m k,.I 0,.I 0]) (((w5.setCell ⟨w.heap.size,0,none⟩ (.slice q m k)).setCell ⟨w.heap.size+1,0,none⟩ (.I 0)).setCell ⟨w.heap.size+1+1,0,none⟩ (.I 0)))))):Calls prog 8 #[.string s] w R:=by
 have hmf:∀(fn:Fn) (first cap:Array Value) (w:World),(Instr.makeFunc fn first cap).run prog w=.ok (.func fn first cap) w:=λ_ _ _ _=>rfl
 go_enter_defers func8,ntmps8
 go_wp2
 rename_i K1 ha1 K2 ha2;rw[<-av];refine h.mono ?_
 rintro e w2 ⟨⟨xq,JE,Fi⟩,⟨a,G,rfl,Av,hR⟩|⟨p,n,c,rfl,h⟩⟩
 .obtain⟨c1,f1⟩:=Du JE;obtain⟨s1,s2,s3⟩:=BA (v:=.I a) JE;have Y6:=Fi;rw[<-s2 _ (by omega)]at Y6;obtain⟨c2,f2⟩:=Du Y6;obtain⟨t1,t2,t3⟩:=BA (v:=.I G) Y6;have c3:=Du t1;apply ha2
  go_wp2
  rename_i K3 ha3;rw[<-t2 _ (by omega)]at s1;have s0:=xq;rw[<-s2 _ (by omega),<-t2 _ (by omega)]at s0;refine ADO rfl rfl rfl rfl rfl s0 s1 t1 λA' w' d0 d2 d3 d4 x0 x1 x2 x3 x4 x5 x6=>?_;apply ha3
  go_wp2
  simp only[bodyPostD,d0];refine⟨_,AVH d2 d3 d4 x0 x1 x2,hR w' (λk hk h0 h1 h2=>?_) ?_ ?_ ?_⟩
  .rw[x3 k (by rw[t3,s3];exact hk) h0 h1 h2,t2 k h2,s2 k h1]
  .rw[t3,s3]at x4;exact x4
  .exact(Bl.same rfl rfl rfl:Bl w2 _).trans x5
  .exact x6
 obtain⟨c1,f1⟩:=Du JE;obtain⟨s1,s2,s3⟩:=BA (v:=.I 0) JE;have Y6:=Fi;rw[<-s2 _ (by omega)]at Y6;obtain⟨c2,f2⟩:=Du Y6;obtain⟨t1,t2,t3⟩:=BA (v:=.I 0) Y6;have c3:=Du t1;apply ha2
 go_wp2
 refine h.mono ?_
 rintro e w4 ⟨g,⟨a,G,rfl,hR⟩|⟨rfl,h⟩⟩
 .simp only[bodyPostD];exact Q9 g rfl rfl rfl hR
 rename_i K3 ha3 K4 ha4;apply ha4
 go_wp2
 refine h.mono ?_
 rintro e w5 ⟨⟨g0,g1,g2⟩,k',a,v,t,rfl,⟨hk,h⟩|⟨rfl,p5,n5,c5,q,m,k,gp,hR⟩⟩
 .rename_i K6 ha6;have hfl:∀w:World,(Instr.field 83 (.agg #[.I k',.I a,.string t,.I v]) 0).run prog w=.ok (.I k') w:=λw=>by kernel_rfl
  apply ha6
  go_wp2
  refine h.mono ?_
  rintro e w6 ⟨g,a,G,rfl,hR⟩
  simp only[bodyPostD];exact Q9 g rfl rfl rfl hR
 rename_i K6 ha6;have cq:w5.cell? ⟨w2.heap.size,2,none⟩=some (.slice q m k):=AI4 gp rfl;obtain⟨d0,e0⟩:=Du g0;obtain⟨u1,u2,u3⟩:=BA (v:=.slice q m k) g0;have g1':=g1;rw[<-u2 _ (by omega)] at g1';obtain⟨d1,e1⟩:=Du g1';obtain⟨v1,v2,v3⟩:=BA (v:=.I 0) g1';have g2':=g2;rw[<-u2 _ (by omega),<-v2 _ (by omega)] at g2';obtain⟨d2,e2⟩:=Du g2';obtain⟨x1,x2,x3⟩:=BA (v:=.I 0) g2';have r2:=(Du x1).1;rw[<-x2 _ (by omega)]at v1;have r1:=(Du v1).1;rw[<-v2 _ (by omega),<-x2 _ (by omega)]at u1;have r0:=(Du u1).1;have hfl:∀w:World,(Instr.field 83 (.agg #[.I 0,.I a,.string t,.I v]) 0).run prog w=.ok (.I 0) w:=λw=>by kernel_rfl
 apply ha6
 go_wp2
 simp only[bodyPostD];refine leaves_cons (f:=29) (args:=#[.pointer (aD w.heap.size 0),.pointer (aD (w.heap.size+1) 0),.pointer (aD (w.heap.size+1+1) 0)]) (by simp) (by simp[go_sem]) ?_;refine(Y5 _ _ _ _).mono ?_
 rintro e u' w'' ⟨rfl,rfl,rfl⟩
 simp[Leaves,settle,results,results8,go_sem,r0,r1,r2];exact hR
def aB (s:ByteArray):Int×List Cl:=if 4096<s.size then(170,[]) else HA (s.size+1) s.data.toList
theorem dj (s:ByteArray):Cp s=if(aB s).1≠0 then((aB s).1,[]) else match pe ((aB s).2.length*16+9) 0 0 (aB s).2 with
  | .ok (c::_,ns)=>if c.kind=0 then(0,ns) else(181,[])
  | .ok ([],_)=>(1,[])
  | .er e=>(e,[])
  | .out=>(1,[]):=by
 unfold Cp aB;by_cases h:4096<s.size
 .simp only[Ajl h];rfl
 .first|(simp only[Ajj h];done)|(simp only[Ajj h];rfl)
theorem uO (s:ByteArray):LxG 4096 (aB s):=by
 unfold aB;split
 .exact⟨λh=>absurd h (by decide),by decide,by decide,by decide⟩
 .have G:s.data.toList.length=s.size:=AkP (xs:=s.data);exact(AGf (s.size+1) s.data.toList (by omega)).le (by omega)
theorem mR {s:ByteArray}{Z22:Hp}{R:Rr}(Aa:(Cp s).1=0->∀(Z':Hp) (p:Option Addr) (n c:Nat),Ae 10 Ia Z' p n (Cp s).2->Ext Z22 Z'->R (.T #[.slice p n c,.I 0,.I 0]) Z')
  (A9:(Cp s).1≠0->∀(a:Int) (Z':Hp),Ext Z22 Z'->R (.T #[.N,.I a,.I (Cp s).1]) Z'):Spec prog 8 #[.string s] Z22 R:=λw F V0 hF=>by
 rw[dj]at Aa A9;have hlg:=uO s;obtain⟨x,hx⟩:∃x,x=aB s:=⟨_,rfl⟩;rw[<-hx]at Aa A9 hlg;have e1:(((w.alloc (.cells #[.N] 32)).alloc (.cells #[.I 0] 3)).alloc (.cells #[.I 0] 24)).heap=((w.heap.push (.cells #[.N] 32)).push (.cells #[.I 0] 3)).push (.cells #[.I 0] 24):=rfl;generalize av:((w.alloc (.cells #[.N] 32)).alloc (.cells #[.I 0] 3)).alloc (.cells #[.I 0] 24)=w1 at e1;have R6:w1.os=w.os/\w1.tape=w.tape/\w1.drawn=w.drawn/\w1.output=w.output:=by subst av;exact⟨rfl,rfl,rfl,rfl⟩
 have AVJ:Bl w w1:=.same R6.1 R6.2.1 R6.2.2.1;have KD:w1.heap.size=w.heap.size+3:=by rw[e1];simp
 have hold:∀k:Nat,k<w.heap.size->w1.heap[k]?=w.heap[k]?:=λk G=>by
  rw[e1,AkB,Ajj (by simp;omega),AkB,Ajj (by simp;omega),AkB,Ajj (by omega)]
 have n0:w1.heap[w.heap.size]?=some (.cells #[.N] 32 (0,0)):=by
  rw[e1,AkB,Ajj (by simp;omega),AkB,Ajj (by simp),AkB,Ajl rfl]
 have n1:w1.heap[w.heap.size+1]?=some (.cells #[.I 0] 3 (0,0)):=by
  rw[e1,AkB,Ajj (by simp),AkB,Ajl (by simp)]
 have n2:w1.heap[w.heap.size+1+1]?=some (.cells #[.I 0] 24 (0,0)):=by
  rw[e1,AkB,Ajl (by simp)]
 have Ax:∀b o,Z22 b=some o->b<w.heap.size:=λb o hb=>(Aj2.1 (V0 b o hb)).1;have HF:∀b,w.heap.size<=b->Z22 b=none:=λb hb=>by
  cases h:Z22 b with
  | none=>rfl
  | some o=>have:=Ax b o h;omega
 let F1:Nat->Prop:=λk=>F k\/(w.heap.size<=k/\k<w.heap.size+3)
 have fin:∀(y:Hp) (wj:World) (a Ef:Int),Ext Z22 y->Sat y wj->(∀k,F1 k->y k=none)->(∀k,F k->wj.heap[k]?=w.heap[k]?)->Bl w wj->wj.output=w.output->w.heap.size+3<=wj.heap.size->R (.T #[.N,.I a,.I Ef]) y->
   ADN w.heap.size wj a Ef (λe w'=>∃Z',R e Z'/\Fin Z' F w w'):=λy wj a Ef G9 so hny hFy hoy AcQ hgy hR w' h1 h2 h3 h4=>by
  refine⟨y,hR,λb o hb=>?_,λk G=>⟨hny k (.inl G),?_⟩,hoy.trans h3,h4.trans AcQ,by omega⟩
  .have hbj:=so b o hb;have Av:∀j,F1 j->b≠j:=λj hj e=>by
    have:=hny j hj;rw[<-e,hb]at this;cases this
   rw[h1 b (Aj2.1 hbj).1 (Av _ (.inr ⟨by omega,by omega⟩)) (Av _ (.inr ⟨by omega,by omega⟩)) (Av _ (.inr ⟨by omega,by omega⟩))];exact hbj
  .have:=(hF k G).1;rw[h1 k (by omega) (by omega) (by omega) (by omega),hFy k G]
 refine xg s w w1 av.symm ((xf (Z22:=Z22) (s:=s) (R:=λe Z'=>(x.1=0/\∃(p':Option Addr) (n' c':Nat),e=.T #[.slice p' n' c',.I 0,.I 0]/\AN 4 Yx Z22 Z' p' n' c' x.2)\/(x.1≠0/\∃a:Int,e=.T #[.N,.I a,.I x.1]/\Ext Z22 Z')) (λx' Sc=>by
  have:x'=x:=by rw[Sc,hx];rfl
  subst this;exact⟨λh0 Z' p' n' c' ho=>.inl ⟨h0,p',n',c',rfl,ho⟩,λhn Z' a Xz=>.inr ⟨hn,a,rfl,Xz⟩⟩) w1 F1 (λb o hb=>by rw[hold b (Ax b o hb)];exact V0 b o hb) (λk G=>?_)).mono ?_)
 .rcases G with G|G
  .exact⟨by have:=(hF k G).1;omega,(hF k G).2⟩
  .exact⟨by omega,HF k G.1⟩
 rintro e w2 ⟨Z2,YA,hf⟩
 have m0:=((hf.BM w.heap.size (.inr ⟨by omega,by omega⟩)).2).trans n0;have m1:=((hf.BM (w.heap.size+1) (.inr ⟨by omega,by omega⟩)).2).trans n1;have m2:=((hf.BM (w.heap.size+1+1) (.inr ⟨by omega,by omega⟩)).2).trans n2;have hz2:w.heap.size+3<=w2.heap.size:=by have:=hf.grow;omega
 have hF2:∀k,F k->w2.heap[k]?=w.heap[k]?:=λk G=>by rw[(hf.BM k (.inl G)).2,hold k (hF k G).1]
 refine⟨⟨m0,m1,m2⟩,?_⟩;rcases YA with ⟨tI,p,n,c,rfl,ho⟩|⟨hxn,a,rfl,Xz⟩
 rotate_left
 .refine .inl ⟨a,x.1,rfl,hxn,fin Z2 w2 a x.1 Xz hf.sat (λk G=>(hf.BM k G).1) hF2 (AVJ.trans hf.os) (hf.out.trans R6.2.2.2) hz2 ?_⟩;rw[Ajl hxn]at A9;exact A9 hxn a Z2 Xz
 rw[Ajj (λh=>h tI)]at Aa A9;obtain⟨htk,iM⟩:=hlg.tk tI;have hgd:=AVE (x.2.length*16+9) 0 0 x.2 htk (.inl (by omega)) (by omega) (by omega);refine .inr ⟨p,n,c,rfl,?_⟩;obtain⟨a1,a2,a3⟩:=BA (v:=.I 0) m1;have m2':=m2;rw[<-a2 _ (by omega)] at m2';obtain⟨b1,b2,b3⟩:=BA (v:=.I 0) m2';have e3:(((w2.setCell ⟨w.heap.size+1,0,none⟩ (.I 0)).setCell ⟨w.heap.size+1+1,0,none⟩ (.I 0)).alloc (.cells #[.slice p n c,.I 0,.N] 78)).heap=(((w2.setCell ⟨w.heap.size+1,0,none⟩ (.I 0)).setCell ⟨w.heap.size+1+1,0,none⟩ (.I 0)).heap).push (.cells #[.slice p n c,.I 0,.N] 78):=rfl;generalize hw3:((w2.setCell ⟨w.heap.size+1,0,none⟩ (.I 0)).setCell ⟨w.heap.size+1+1,0,none⟩ (.I 0)).alloc (.cells #[.slice p n c,.I 0,.N] 78)=w3 at e3;have Di:w3.os=w2.os/\w3.tape=w2.tape/\w3.drawn=w2.drawn/\w3.output=w2.output:=by subst hw3;exact⟨rfl,rfl,rfl,rfl⟩
 have ANA:Bl w w3:=AVJ.trans (hf.os.trans (.same Di.1 Di.2.1 Di.2.2.1));have ANB:w3.output=w.output:=Di.2.2.2.trans (hf.out.trans R6.2.2.2);have AcA:w3.heap.size=w2.heap.size+1:=by rw[e3];simp[b3,a3]
 have Y7:∀k:Nat,k<w2.heap.size->k≠w.heap.size+1->k≠w.heap.size+1+1->w3.heap[k]?=w2.heap[k]?:=λk G h1 h2=>by
  rw[e3,AkB,Ajj (by rw[b3,a3];omega),b2 k h2,a2 k h1]
 have q0:w3.heap[w.heap.size]?=some (.cells #[.N] 32 (0,0)):=by rw[Y7 _ (by omega) (by omega) (by omega)];exact m0
 have q1:w3.heap[w.heap.size+1]?=some (.cells #[.I 0] 3 (0,0)):=by
  rw[e3,AkB,Ajj (by rw[b3,a3];omega),b2 _ (by omega)];exact a1
 have q2:w3.heap[w.heap.size+1+1]?=some (.cells #[.I 0] 24 (0,0)):=by
  rw[e3,AkB,Ajj (by rw[b3,a3];omega)];exact b1
 have q3:w3.heap[w2.heap.size]?=some (.cells #[.slice p n c,.I 0,.N] 78 (0,0)):=by
  rw[e3,AkB,Ajl (by rw[b3,a3])]
 have qG:∀b o,Z2 b=some o->b<w2.heap.size:=λb o hb=>(Aj2.1 (hf.sat b o hb)).1;have qE:Z2 w2.heap.size=none:=by
  cases h:Z2 w2.heap.size with
  | none=>rfl
  | some o=>have:=qG _ o h;omega
 have hF1:∀k,F1 k->k<w2.heap.size/\Z2 k=none:=λk G=>⟨by
  rcases G with G|G
  .have:=(hF k G).1;omega
  .omega,(hf.BM k G).1⟩
 have hF3:∀k,F k->w3.heap[k]?=w.heap[k]?:=λk G=>by
  have:=(hF k G).1;rw[Y7 k (by omega) (by omega) (by omega)];exact hF2 k G
 have Yg:n<=c:=by
  obtain⟨⟨_,cs,h1,_⟩,_⟩:=ho;exact BL.cap h1
 have hu:B4 Z2 Z2 w2.heap.size p n c none 0 0 x.2 []:=⟨qE,(ho.rd Yx.mono),Yg,AN.nil (.refl _)⟩;have hpz:=AVD (x.2.length*16+9) 0 0 x.2 (by decide) (by decide) (by decide) (by decide) hu (by omega) (R:=λe y=>(∃r ns,pe (x.2.length*16+9) 0 0 x.2=.ok (r,ns)/\e=.T #[]/\∃(ρ':Hp) (p' q':Option Addr) (n' c' m' e':Nat),y=ρ'.set w2.heap.size (pO p' n' c' 0 q' m' e')/\B4 Z2 ρ' w2.heap.size p' n' c' q' m' e' r ns) \/
   ∃Ef a:Int,pe (x.2.length*16+9) 0 0 x.2=.er Ef/\e=.panicked [{ v:=Q8 Ef a,recovered:=false }]/\Ext Z2 y) (λr ns h ρ' p' q' n' c' m' e' Bt=>.inl ⟨r,ns,h,rfl,ρ',p',q',n',c',m',e',rfl,by rw[Akp]at Bt;exact Bt⟩)
  (λe' he a y hy=>.inr ⟨e',a,he,rfl,hy⟩) (λh=>by rw[h]at hgd;exact hgd)
 rw[JK,Ajj (by decide)]at hpz;refine(hpz w3 F1 (λb o hb=>?_) (λk G=>?_)).mono ?_
 .by_cases xG:b=w2.heap.size
  .subst xG;rw[Hp.AA]at hb;cases hb;exact q3
  .rw[Hp.AB xG]at hb;have Fi:=qG b o hb;have hF':¬(w.heap.size<=b/\b<w.heap.size+3):=λhh=>by
    have:=(hf.BM b (.inr hh)).1;rw[this]at hb;cases hb
   rw[Y7 b Fi (by omega) (by omega)];exact hf.sat b o hb
 .have:=hF1 k G;exact⟨by omega,by rw[Hp.AB (by omega)];exact this.2⟩
 rintro e w4 ⟨Z4,hpe,Pv⟩
 have hg4:∀k,F1 k->w4.heap[k]?=w3.heap[k]?:=λk G=>(Pv.BM k G).2;refine⟨⟨(hg4 _ (.inr ⟨by omega,by omega⟩)).trans q0,(hg4 _ (.inr ⟨by omega,by omega⟩)).trans q1,(hg4 _ (.inr ⟨by omega,by omega⟩)).trans q2⟩,?_⟩;rcases hpe with ⟨r,ns,hpe,rfl,ρ',p',q',n',c',m',e',rfl,Bt⟩|⟨Ef,a,hpe,rfl,hy⟩
 rotate_left
 .rw[hpe]at A9 hgd;refine .inl ⟨a,Ef,rfl,fin Z4 w4 a Ef (ho.up.trans hy) Pv.sat (λk G=>(Pv.BM k G).1) (λk G=>(hg4 k (.inl G)).trans (hF3 k G)) (ANA.trans Pv.os) (Pv.out.trans ANB) (by have:=Pv.grow;omega) ?_⟩;have h0:0<Ef:=hgd.1;exact A9 (by dsimp only;omega) a Z4 (ho.up.trans hy)
 rw[hpe]at Aa A9 hgd;have htr:Tk r:=hgd;cases r with
 | nil=>exact absurd rfl htr.ne
 | cons cl r=>
 dsimp only at Aa A9;refine .inr ⟨rfl,?_⟩;refine((BJ (d:=0) (R:=λe y=>y=ρ'.set w2.heap.size (pO p' n' c' 0 q' m' e')/\∃a:Int,e=.returned (.agg #[.I cl.kind,.I a,.string cl.text,.I cl.span])) Bt (λa=>⟨rfl,a,rfl⟩)) w4 F1 Pv.sat (λk G=>⟨by have:=hF1 k G;have:=Pv.grow;omega,(Pv.BM k G).1⟩)).mono ?_
 rintro e w5 ⟨Z5,⟨rfl,a,rfl⟩,Yh⟩
 have hg:∀k,F1 k->w5.heap[k]?=w3.heap[k]?:=λk G=>((Yh.BM k G).2).trans (hg4 k G);have x0:=(hg _ (.inr ⟨by omega,by omega⟩)).trans q0;have x1:=(hg _ (.inr ⟨by omega,by omega⟩)).trans q1;have x2:=(hg _ (.inr ⟨by omega,by omega⟩)).trans q2;have x3:=Yh.sat w2.heap.size _ (Hp.AA _ _ _);refine⟨⟨x0,x1,x2⟩,cl.kind,a,cl.span,cl.text,rfl,?_⟩;by_cases G:cl.kind=0
 rotate_left
 .refine .inl ⟨G,?_⟩;rw[Ajj G]at A9;refine((DG (d:=0) (R:=λe y=>∃a:Int,e=.panicked [{ v:=Q8 181 a,recovered:=false }]/\Ext Z2 y) Bt (by
   rw[Ux,Ajj G];exact λa y hy=>⟨a,rfl,hy⟩)) w5 F1 Yh.sat (λk G=>⟨by have:=hF1 k G;have:=Pv.grow;have:=Yh.grow;omega,(Yh.BM k G).1⟩)).mono ?_
  rintro e w6 ⟨Z6,⟨a,rfl,hy⟩,hf6⟩
  have hg6:∀k,F1 k->w6.heap[k]?=w3.heap[k]?:=λk G=>((hf6.BM k G).2).trans (hg k G);refine⟨⟨(hg6 _ (.inr ⟨by omega,by omega⟩)).trans q0,(hg6 _ (.inr ⟨by omega,by omega⟩)).trans q1,(hg6 _ (.inr ⟨by omega,by omega⟩)).trans q2⟩,a,181,rfl,?_⟩;exact fin Z6 w6 a 181 (ho.up.trans hy) hf6.sat (λk G=>(hf6.BM k G).1) (λk G=>(hg6 k (.inl G)).trans (hF3 k G)) (ANA.trans (Pv.os.trans (Yh.os.trans hf6.os))) (hf6.out.trans (Yh.out.trans (Pv.out.trans ANB))) (by have:=Pv.grow;have:=Yh.grow;have:=hf6.grow;omega) (A9 (by decide) a Z6 (ho.up.trans hy))
 rw[Ajl G]at Aa;refine .inr ⟨G,p',n',c',q',m',e',x3,ρ',Aa rfl ρ' q' m' e' (Bt.out.rd Ia.mono) ?_,?_⟩
 .exact(ho.up).trans Bt.out.up
 .obtain⟨y1,y2,y3⟩:=BA (v:=.slice q' m' e') x0;have x1':=x1;rw[<-y2 _ (by omega)] at x1';obtain⟨z1,z2,z3⟩:=BA (v:=.I 0) x1';have x2':=x2;rw[<-y2 _ (by omega),<-z2 _ (by omega)] at x2';obtain⟨v1,v2,v3⟩:=BA (v:=.I 0) x2';have same:∀k,k≠w.heap.size->k≠w.heap.size+1->k≠w.heap.size+1+1->(((w5.setCell ⟨w.heap.size,0,none⟩ (.slice q' m' e')).setCell ⟨w.heap.size+1,0,none⟩ (.I 0)).setCell ⟨w.heap.size+1+1,0,none⟩ (.I 0)).heap[k]?=w5.heap[k]?:=λk h1 h2 h3=>by
   rw[v2 k h3,z2 k h2,y2 k h1]
  refine⟨λb o hb=>?_,λk G=>?_,?_,?_,?_⟩
  .have Av:∀j,F1 j->b≠j:=λj hj e=>by
    have:=(Pv.BM j hj).1;have h5:(ρ'.set w2.heap.size (pO p' n' c' 0 q' m' e')) b=some o:=by rw[Hp.AB (λe'=>by rw[e',Bt.pb]at hb;cases hb)];exact hb
    rw[e,this]at h5;cases h5
   rw[same b (Av _ (.inr ⟨by omega,by omega⟩)) (Av _ (.inr ⟨by omega,by omega⟩)) (Av _ (.inr ⟨by omega,by omega⟩))];exact Yh.sat b o (by rw[Hp.AB (λe'=>by rw[e',Bt.pb]at hb;cases hb)];exact hb)
  .have Cs:=hF k G;have h5:=(Yh.BM k (.inl G)).1;refine⟨?_,?_⟩
   .by_cases Mj:k=w2.heap.size
    .omega
    .rw[Hp.AB Mj]at h5;exact h5
   .rw[same k (by omega) (by omega) (by omega),hg k (.inl G),hF3 k G]
  .exact ANA.trans (Pv.os.trans (Yh.os.trans (Bl.same rfl rfl rfl)))
  .exact Yh.out.trans (Pv.out.trans ANB)
  .rw[v3,z3,y3];have:=Yh.grow;have:=Pv.grow;omega
section
variable {Q:Qg}{ρ M:Hp}{b m fm:Nat}{R:Rr}
structure RdV (Q:Qg)(M:Hp)(b m fm:Nat)(es:List En)(ver fl:Int)(R:Rr)(ρ:Hp):Prop where
 bad:IJ fl es=false->∀ρ',Ext ρ ρ'->FI ρ' M->R (.returned (.I 140)) (ρ'.or M)
 few:IJ fl es=true->(Pe Q.mem:Int)<Q.Gx->∀ρ',Ext ρ ρ'->FI ρ' M->R (.returned (.I 271)) (ρ'.or M)
 ok:IJ fl es=true->Q.Gx<=Pe Q.mem->∀ρ' M',QV { Q with rd:=true,ver:=ver,fl:=fl,es:=es } ρ' M' b m fm->Ext ρ ρ'->(∀j,j≠b->M' j=M j)->R (.returned (.I 0)) (ρ'.or M')
theorem xh {es:List En}{ver fl:Int}{pI:Option Addr}{G cI:Nat}(h:QV Q ρ M b m fm)(hix:IJ fl es=true)(hI:Ae 9 F3 ρ pI G es)(Av:G<=4000000)(hK:RdV Q M b m fm es ver fl R ρ):
  Br ((Pe Q.mem:Int)<Q.Gx) (R (.returned (.I 271)) (ρ.or M)) (Spec prog 42 #[.agg #[.U ver,.I fl,.slice pI G cI]] (ρ.or M) (AY R (λz AE=>∃jd je jf jg jh,z=(.agg #[.U jd,.I je,.slice jf jg jh])/\AI prog (Instr.storeAt 43 (.pointer (aD b (0+7))) (.agg #[.U jd,.I je,.slice jf jg jh])) AE (λ_ AK=>AI prog (Instr.storeAt 4 (.pointer (aD b (0+6))) (.bool true)) AK (λ_ Ai=>AI prog (Instr.storeAt 45 (.pointer (aD b (0+12))) (.func (.func 43) #[(.pointer (aD b 0))] #[])) Ai (λ_ CC=>R (.returned (.I 0)) CC)))))):=by
 refine⟨λAx=>hK.few hix Ax ρ (.refl _) h.L6,λRU=>Dd h.L6 (Uq hI Av λp' c' ρ2 hoI D2=>⟨ver,fl,p',G,c',rfl,?_⟩)⟩;have hI2:=hoI.rd F3.mono;have Ao:=hoI.up;obtain⟨pt,nt,ct,pi,ni,ci,pa,na,ca,k1,k2,k3,k4,k5⟩:=h.q;have nb:ρ2 b=none:=D2 b (by rw[k1];simp);refine AI.tZ te (BT D2 k1) rfl rfl rfl AIx ?_;rw[BZ nb];have D3:=H5 (o:=qOg pt nt ct Q.at_ m Q.Gx Q.rd ver fl p' G c' fm pa na ca b (bG Q.rd)) D2 nb;refine AI.tZ ACm (BT D3 (Hp.AA _ _ _)) rfl rfl rfl AIw ?_;rw[BZ nb,Hp.set_set];have D4:=H5 (o:=qOg pt nt ct Q.at_ m Q.Gx true ver fl p' G c' fm pa na ca b (bG Q.rd)) D2 nb;refine AI.tZ Vs (BT D4 (Hp.AA _ _ _)) rfl rfl rfl gP ?_;rw[BZ nb,Hp.set_set];exact hK.ok hix (by omega) ρ2 _ ⟨H5 D2 nb,h.bm,h.bf,h.mf,⟨pt,nt,ct,p',G,c',pa,na,ca,Hp.AA _ _ _,k2.mono Ia.mono Ao,hI2,k4.mono BX.mono Ao,k5⟩,h.mm.loc (Hp.AB (Aj4 h.bm)),h.ff.loc (Hp.AB (Aj4 h.bf)),h.tr,by have:=hI2.1;dsimp only;omega⟩ Ao λj hj=>Hp.AB hj
theorem RdV.up {es:List En}{ver fl:Int}{ρ':Hp}(h:RdV Q M b m fm es ver fl R ρ)(hx:Ext ρ ρ'):RdV Q M b m fm es ver fl R ρ':=⟨λG r x=>h.bad G r (hx.trans x),λG h2 r x=>h.few G h2 r (hx.trans x),λG h2 r M' hu x=>h.ok G h2 r M' hu (hx.trans x)⟩
theorem qt {es:List En}{ver fl:Int}{pI:Option Addr}{nI cI:Nat}{l:List MapEntry}{clock i:Nat}(hix:IJ fl es=true)(Av:nI<=4000000)(hm:iN.Az .i64 M m l clock)(jD:l.length<=4000000)(he:l.map qM=Q.mem.map (Rc .i64))(h:QV Q ρ M b m fm)(hI:Ae 9 F3 ρ pI nI es)(hK:RdV Q M b m fm es ver fl R ρ)(hi0:ρ i=none)(Mi:M i=none):
  ∀(k:Nat) (u:Obj) (L:List MapEntry) (n:Nat),L.length=k->I8 ((ρ.set i u).or M) i m l L clock->(∀e∈L,e∈l)->(L.map (·.born)).Nodup->n+L.countP Yl=Pe Q.mem->n+k<=l.length->
   BB.HR R (aD b 0) ver fl pI nI cI (n:Int) (.pointer (some ⟨i,0,none⟩)) ((ρ.set i u).or M):=by
 intro k
 induction k with
 | zero=>
  intro u L n hk hi Pa Gz hc hn;have D1:FI (ρ.set i u) M:=VT h.L6 Mi;have x1:=Ext.set (o:=u) hi0;obtain rfl:=Aj8 hk;have e:n=Pe Q.mem:=by simpa using hc
  subst e;obtain⟨pt,nt,ct,pi,ni,ci,pa,na,ca,k1,k2,k3,k4,k5⟩:=h.q;exact BB.CF (iN.Kh (hm.loc (Hp.Cn (D1 m h.mm.known))) hi (λ_=>.inl ⟨rfl,b,0,rfl,Q.Gx,AJ (BT D1 k1) rfl,xh (h.up x1 D1) hix (hI.mono F3.mono x1) Av (hK.up x1)⟩) λe VJ=>by cases VJ)
 | succ k ih=>
  intro u L n hk hi Pa Gz hc hn;have D1:FI (ρ.set i u) M:=VT h.L6 Mi;refine BB.CF (iN.Kh (hm.loc (Hp.Cn (D1 m h.mm.known))) hi (λh0=>by rw[h0]at hk;cases hk) λe heL yJ o ho AC2=>?_);rw[Gw,Hp.set_set];have D2:FI (ρ.set i o) M:=VT h.L6 Mi;obtain⟨p,yR,qE⟩:∃p:Int×Int,e.key=.I p.1/\e.val=.I p.2:=by
   have:qM e∈Q.mem.map (Rc .i64):=by rw[<-he];exact Alx yJ
   obtain⟨p,_,hp⟩:=AkT.1 this;exact⟨p,(Ajw Prod.fst hp).symm,(Ajw Prod.snd hp).symm⟩
  have hb:((ρ.set i o).or M) i=some o:=Hp.Cf (Hp.AA _ _ _);have hbm:((ρ.set i o).or M) m=((ρ.set i u).or M) m:=by rw[Hp.Cn (D2 m h.mm.known),Hp.Cn (D1 m h.mm.known)]
  rw[yR,qE]at AC2 ⊢;refine .inr ⟨_,_,rfl,AC2 _ hb hbm ⟨_,_,rfl,?_⟩⟩;have aV:=JG (p:=Yl) Gz heL;have hpv:Yl e=decide (0<p.2):=by unfold Yl;rw[qE]
  have G:(L.filter λx=>x.born != e.born).length=k:=by
   have:=JG (p:=λ_=>true) Gz heL;simp only[List.countP_true,AlG]at this;omega
  have l8:∀x∈L.filter λx=>x.born != e.born,x∈l:=λx hx=>Pa x ((AlC.1 hx).1);have AC4:((L.filter λx=>x.born != e.born).map (·.born)).Nodup:=Gz.sublist (List.filter_sublist.map _);refine⟨λIs=>⟨by unfold AL;omega,?_⟩,λAb=>?_⟩
  .rw[hpv,Aj0 Is,Ajl rfl]at aV;exact ih o _ (n+1) G (ho _ hb) l8 AC4 (by omega) (by omega)
  .rw[hpv,Aj1 Ab,Ajj (by decide)]at aV;exact ih o _ n G (ho _ hb) l8 AC4 (by omega) (by omega)
theorem aC {es:List En}{ver fl:Int}{pI:Option Addr}{nI cI:Nat}(h:QV Q ρ M b m fm)(hI:Ae 9 F3 ρ pI nI es)(Av:nI<=4000000)(jD:Q.mem.length<=4000000)(hK:RdV Q M b m fm es ver fl R ρ):
  Spec prog 13 #[.pointer (aD b 0),.agg #[.U ver,.I fl,.slice pI nI cI]] (ρ.or M) R:=by
 refine BB.start λb3=>Sv (hI.mono F3.mono (Ext.Cf _ _)) λZ1 BC=>⟨_,rfl,λhh=>?_,λhh=>?_⟩
 .obtain⟨ρ1,X1,G,rfl,_⟩:=Ext.parts h.L6 BC;have h0:IJ fl es=false:=by
   cases h1:IJ fl es with
   | false=>rfl
   | true=>rw[h1]at hh;exact absurd rfl hh
  rw[h0];exact hK.bad h0 ρ1 X1 G
 have hix:IJ fl es=true:=by
  cases h1:IJ fl es with
  | true=>rfl
  | false=>rw[h1]at hh;exact absurd (by decide) hh
 obtain⟨ρ1,X1,G,rfl,_⟩:=Ext.parts h.L6 BC;obtain⟨pt,nt,ct,pi,ni,ci,pa,na,ca,k1,k2,k3,k4,k5⟩:=h.q;obtain⟨l,clock,hm,he⟩:=h.mm;refine⟨b,0,rfl,some m,AJ (BT G k1) rfl,iN.P4 (hm.loc (Hp.Cn (G m h.mm.known))) λi o hi hit=>⟨_,rfl,?_⟩⟩;obtain⟨ri,mi⟩:=or_none hi;rw[Gw]at hit ⊢;have hl:l.length=Q.mem.length:=by
  have:=Ajw List.length he;simpa using this
 exact qt hix Av hm (by omega) he (h.up X1 G) (hI.mono F3.mono X1) (hK.up X1) ri mi l.length o l 0 rfl hit (λ_ h=>h) hm.AIr (by rw[Akn,pos_eq he]) (by omega)
structure AnV (Q:Qg)(M:Hp)(R:Rr)(ρ:Hp):Prop where
 AcS:GK Q≠[]->∀ρ',Ext ρ ρ'->FI ρ' M->R (.T #[.N,.I 0,.I 272]) (ρ'.or M)
 bad:GK Q=[]->(instF Q.T (E7 Q.fl VU Q.all) Q.at_).1≠0->∀ρ',Ext ρ ρ'->FI ρ' M->R (.T #[.N,.I 0,.I (instF Q.T (E7 Q.fl VU Q.all) Q.at_).1]) (ρ'.or M)
 ok:GK Q=[]->(instF Q.T (E7 Q.fl VU Q.all) Q.at_).1=0->∀ρ' p n c,Ext ρ ρ'->FI ρ' M->Ae 2 BX (ρ'.or M) p n ((instF Q.T (E7 Q.fl VU Q.all) Q.at_).2.map λe=>⟨e.ls,[(Q.at_,e.v)]⟩)->R (.T #[.slice p n c,.I Q.fl,.I 0]) (ρ'.or M)
theorem MF (h:QV Q ρ M b m fm)(hg:Gl ρ)(h2:Q.rd=true)(oA:DU none Q.all=true)(hA:∀s∈Q.all,S0 s)(hl:Q.all.length<=1000000000)(hM:Modest Q.T (E7 Q.fl VU Q.all))(hK:AnV Q M R ρ):Spec prog 14 #[.pointer (aD b 0)] (ρ.or M) R:=by
 obtain⟨pt,nt,ct,pi,ni,ci,pa,na,ca,k1,k2,k3,k4,k5⟩:=h.q;rw[h2]at k1;refine Cz.start ⟨b,0,rfl,_,AJ (BT h.L6 k1) rfl,_,_,_,rfl,An.en,?_⟩;show Spec prog 43 #[.pointer (aD b 0)] _ _
 refine An.start (Jy h λρ1 pn nn cn BC D1 TE _=>⟨_,_,_,rfl,λIs=>?_,λhz=>?_⟩)
 .have Av:GK Q≠[]:=λe=>by
   have:=TE.1;rw[e]at this;have:(0:Nat)=nn:=this;omega
  exact⟨_,_,_,_,_,rfl,hK.AcS Av ρ1 BC D1⟩
 have AVL:GK Q=[]:=Aj8 (by have:=TE.1;omega);have JE:=BT D1 k1;refine⟨b,0,rfl,pa,na,ca,AJ JE rfl,Q.fl,AJ JE rfl,Yv ((k4.mono BX.mono BC).mono BX.mono (Ext.Cf _ _)) oA (by have:=k4.1;omega) hA λp2 n2 c2 Z2 Ff aK Ao=>⟨_,_,_,_,rfl,?_⟩⟩;obtain⟨ρ2,X2,D2,rfl,_⟩:=Ext.parts D1 Ao;have Fi:=BT D2 k1;have Y2:=BC.trans X2;refine⟨0,AJ Fi rfl,λ_=>⟨pt,nt,ct,AJ Fi rfl,Q.at_,AJ Fi rfl,inst_spec ((hg.mono Y2).mono (Ext.Cf _ _)) ((k2.mono Ia.mono Y2).mono Ia.mono (Ext.Cf _ _)) Ff hM (λO2 p3 n3 c3 Z3 bs h0 AC5 CE=>⟨_,_,_,_,rfl,An.Em ⟨λhh=>absurd rfl hh,λ_=>?_⟩⟩) λZ3 Av CE=>⟨_,_,_,_,rfl,An.Em ⟨λ_=>?_,λhh=>absurd Av hh⟩⟩⟩,λhh=>absurd rfl hh⟩
 .obtain⟨G,X3,D3,rfl,_⟩:=Ext.parts D2 (CE.trans AC5.ext);exact⟨b,0,rfl,Q.fl,AJ (BT D3 k1) rfl,⟨_,_,_,_,_,rfl,hK.ok AVL h0 G p3 n3 c3 (Y2.trans X3) D3 AC5.rd⟩⟩
 .obtain⟨G,X3,D3,rfl,_⟩:=Ext.parts D2 CE;exact⟨_,_,_,_,_,rfl,hK.bad AVL Av G (Y2.trans X3) D3⟩
end
def aF (s:ByteArray)(t:Int):Int:=
 if(Cp s).1≠0 then(Cp s).1 else if Hd (Cp s).2=none then gM (Cp s).2 else if Hd (Cp s).2=some 3 then 220 else if t < -1099511627776\/1099511627776<t then 221 else 0
theorem Po {s:ByteArray}(h:(Cp s).1=0):(Cp s).2.length<=700000/\∀x∈(Cp s).2,TxI (aB s).2 x:=by
 rw[dj]at h ⊢;have hlg:=uO s;generalize aB s=y at h hlg ⊢;by_cases h0:y.1≠0
 .rw[Ajl h0]at h ⊢;exact⟨by simp,λx G=>by cases G⟩
 rw[Ajj h0]at h ⊢;obtain⟨htk,iM⟩:=hlg.tk (AkK.1 h0);cases hp:pe (y.2.length*16+9) 0 0 y.2 with
 | er e=>exact⟨by simp,λx G=>by cases G⟩
 | out=>exact⟨by simp,λx G=>by cases G⟩
 | ok z=>
  obtain⟨r,ns⟩:=z;obtain⟨g1,g2,g3⟩:=Pn _ _ _ _ _ hp;rw[hp]at h;cases r with
  | nil=>exact⟨by simp,λx G=>by cases G⟩
  | cons c r=>
   dsimp only at h g1 g3 ⊢;by_cases hk:c.kind=0
   .rw[Ajl hk];exact⟨by dsimp only;omega,g3⟩
   .rw[Ajj hk]at h;exact absurd h (by decide)
end TwW
end
