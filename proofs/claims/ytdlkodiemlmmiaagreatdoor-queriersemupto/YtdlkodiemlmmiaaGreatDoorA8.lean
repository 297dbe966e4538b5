/-
  Part 8 of the proof that the law QuerierSemUptoCardSaid of the given program answers true for every input of the given statement; the input reads behind the call as it did. (The texts: packed from 17 texts. Names are shortened by the packing program, for the bound on size.)
-/
import Derived.Test.YtdlkodiemlmmiaaGreatDoorA7
import Derived.Defers
import Derived.Recover
import Derived.StillTailTactics
set_option linter.all false
section
namespace TwW
open Go Tw Go.RowKit Go.Proofs.Tryz
section
variable {O22 ρ ρ':Hp}{pb nb n c m e:Nat}{p q:Option Addr}{ts:List Cl}{out:List Nd}{d:Int}{t:Cl}{R:Rr}
theorem lY {k op x0 x1 v ps:Int}{b:Bool}{i b7:Nat}{s0 s1 s:ByteArray}{r:List Cl}{l:Cl}{x:List ByteArray×List Cl}(h:B4 O22 ρ pb p n c q m e (t::l::r) out)(HS:(ρ.set pb (pO p n c d q m e)) nb=none)(hb7:ρ b7=some (.cells #[.I x0,.I x1] 189 (0,0)))
  (hi:i<2) (hs:[s0,s1][i]?=some s) (hv:(#[Value.int .i64 x0,.I x1])[i]?=some (.I v)) (ht:GC t.kind t.text 3 s=true) (hl:l.lp=true) (hz:nmZ 8 r []=some x)
  (hR:∀(ρ':Hp) (p' pn:Option Addr) (n' c' kn cn:Nat),B4 O22 ρ' pb p' n' c' q m e x.2 out->Ext ρ ρ'->(ρ'.set pb (pO p' n' c' d q m e)) nb=none->Fj 1 (ρ.new ρ') pn kn (x.1.map .string)->R (.T #[]) ((ρ'.set pb (pO p' n' c' d q m e)).set nb (Yu k op none 0 0 0 v pn kn cn b ps))) :
  Ak.jU R (aD pb 0) (aD nb 0) b7 s0 s1 (i:Int) ((ρ.set pb (pO p n c d q m e)).set nb (Yu k op none 0 0 0 0 none 0 0 b ps)):=by
 have kn7:∀{G:Hp} {o u:Obj},Ext ρ G->G pb=none->(G.set pb o) nb=none->((G.set pb o).set nb u) b7=some (.cells #[.I x0,.I x1] 189 (0,0)):=λhx h1 h2=>(Ext.set h2) _ _ ((Ext.set h1) _ _ (hx _ _ hb7));refine Ak.M4 ⟨λ_=>⟨by omega,s,by simpa using hs,Spec.AQ HS (BN h λhn=>⟨_,rfl,λ_=>Spec.AQ hn (BB h λa JR=>⟨_,_,_,_,rfl,by omega,v,?_,Spec.AQ JR (lX h.step hl hz λG p2 pn n2 c2 kn cn hu hx hr IF=>⟨_,_,_,rfl,?_,nb,0,rfl,?_⟩)⟩),λhf=>absurd (ht.symm.trans hf) (by decide)⟩)⟩,λhh=>by omega⟩
 .exact AJ (kn7 (.refl _) h.pb JR) (by simpa using hv)
 .intro j hj o ho;rw[Ai2]at hj;subst hj;rw[kn7 (.refl _) h.pb JR]at ho;rw[kn7 hx hu.pb IF];exact ho
 .refine st1 I1 (Hp.AA _ _ _) rfl rfl (by simp) rfl ?_;rw[Hp.set_set];refine st1 tP (Hp.AA _ _ _) rfl rfl (by simp) rfl ?_;rw[Hp.set_set];exact hR G p2 pn n2 c2 kn cn hu hx IF hr
theorem Ly {i b7:Nat}{s0 s1 s:ByteArray}{o:Obj}{qn:Option Addr}(h:B4 O22 ρ pb p n c q m e (t::ts) out)(HS:(ρ.set pb (pO p n c d q m e)) nb=none)
  (hi:i<2) (hs:[s0,s1][i]?=some s) (ht:GC t.kind t.text 3 s=false) (hR:Ak.jU R (aD pb 0) qn b7 s0 s1 ((i+1:Nat):Int) ((ρ.set pb (pO p n c d q m e)).set nb o)) :
  Ak.jU R (aD pb 0) qn b7 s0 s1 (i:Int) ((ρ.set pb (pO p n c d q m e)).set nb o):=
 Ak.M4 ⟨λ_=>⟨by omega,s,by simpa using hs,Spec.AQ HS (BN h λhn=>⟨_,rfl,λG=>absurd (ht.symm.trans G) (by decide),λ_=>⟨by unfold AL;omega,hR⟩⟩)⟩,λG=>by omega⟩
theorem RZ {x0 x1:Int}{s0 s1:ByteArray}{o:Obj}(h:B4 O22 ρ pb p n c q m e (t::ts) out)(HS:(ρ.set pb (pO p n c d q m e)) nb=none)(h0:GC t.kind t.text 3 s0=false)(h1:GC t.kind t.text 3 s1=false)
  (hR:∀ρ',B4 O22 ρ' pb p n c q m e (t::ts) out->Ext ρ ρ'->(ρ'.set pb (pO p n c d q m e)) nb=none->R (.T #[]) ((ρ'.set pb (pO p n c d q m e)).set nb o)) :
  Spec prog 99 #[.pointer (aD pb 0),.pointer (aD nb 0),.agg #[.string s0,.string s1],.agg #[.I x0,.I x1]] ((ρ.set pb (pO p n c d q m e)).set nb o) R:=by
 refine Ak.start λ_ b7 hb=>?_;obtain⟨e1,F7⟩:=Hp.AM hb;obtain⟨e2,UW⟩:=Hp.AM F7;rw[Hp.BA (AjI e1),Hp.BA (AjI e2)];have hu:=h.grow (.set (o:=.cells #[.I x0,.I x1] 189 (0,0)) UW) (by rw[Hp.AB (AjI e2)];exact h.pb);have G:((ρ.set b7 (.cells #[.I x0,.I x1] 189 (0,0))).set pb (pO p n c d q m e)) nb=none:=by
  rw[Hp.BA e2,Hp.AB (AjI e1)];exact HS
 refine Ly (i:=0) hu G (by decide) rfl h0 (Ly (i:=1) hu G (by decide) rfl h1 (Ak.M4 ⟨λhh=>by omega,λ_=>?_⟩));exact hR _ hu (.set UW) G
theorem qI {op:Int}{g:Int×List ByteArray×List Cl}(h:B4 O22 ρ pb p n c q m e ts out)(HS:(ρ.set pb (pO p n c d q m e)) nb=none)(G:pU ts=some g)
  (hR:∀(ρ':Hp) (p' pn:Option Addr) (n' c' kn cn:Nat),B4 O22 ρ' pb p' n' c' q m e g.2.2 out->Ext ρ ρ'->(ρ'.set pb (pO p' n' c' d q m e)) nb=none->Fj 1 (ρ.new ρ') pn kn (g.2.1.map .string)->R (.T #[]) ((ρ'.set pb (pO p' n' c' d q m e)).set nb (Yu 5 op none 0 0 0 g.1 pn kn cn false 1))) :
  Spec prog 99 #[.pointer (aD pb 0),.pointer (aD nb 0),(.agg #[(.string (ByteArray.mk #[98,121])),(.string (ByteArray.mk #[119,105,116,104,111,117,116]))]),.agg #[.I 1,.I 2]] ((ρ.set pb (pO p n c d q m e)).set nb (Yu 5 op none 0 0 0 0 none 0 0 false 1)) R:=by
 cases ts with
 | nil=>cases G
 | cons t r=>
  have ht:=h.tok.1;have e1:t.pT=GC t.kind t.text 3 ⟨#[98,121]⟩:=Ai8 Cl.pT ht;have e2:t.out=GC t.kind t.text 3 ⟨#[119,105,116,104,111,117,116]⟩:=Ai8 Cl.out ht;unfold pU at G;dsimp only at G;split at G
  .rename_i xV;cases r with
   | nil=>cases G
   | cons l r=>
    dsimp only at G;split at G
    .rename_i hl;cases hz:nmZ 8 r [] with
     | none=>rw[hz]at G;cases G
     | some x=>
      rw[hz]at G;simp only[Aju,Ai9]at G;subst G;refine Ak.start λ_ b7 hb=>?_;obtain⟨n1,F7⟩:=Hp.AM hb;obtain⟨n2,UW⟩:=Hp.AM F7;rw[Hp.BA (AjI n1),Hp.BA (AjI n2)];have x0:=Ext.set (o:=.cells #[.I 1,.I 2] 189 (0,0)) UW;have hu:=h.grow x0 (by rw[Hp.AB (AjI n2)];exact h.pb);have MQ:((ρ.set b7 (.cells #[.I 1,.I 2] 189 (0,0))).set pb (pO p n c d q m e)) nb=none:=by
       rw[Hp.BA n2,Hp.AB (AjI n1)];exact HS
      by_cases hb:t.pT=true
      .refine lY (i:=0) (v:=1) hu MQ (Hp.AA _ _ _) (by decide) rfl rfl (by rw[<-e1];exact hb) hl hz λρ' p' pn n' c' kn cn Bi hx IF hr=>?_;have:=hR ρ' p' pn n' c' kn cn Bi (x0.trans hx) IF (hr.mono (Ext.Ci x0));rw[Aiy hb]at this;exact this
      .have Kq:t.pT=false:=by simpa using hb
       have ho:t.out=true:=by rw[Kq,AkL]at xV;exact xV
       refine Ly (i:=0) hu MQ (by decide) rfl (by rw[<-e1];exact Kq) ?_;refine lY (i:=1) (v:=2) hu MQ (Hp.AA _ _ _) (by decide) rfl rfl (by rw[<-e2];exact ho) hl hz λρ' p' pn n' c' kn cn Bi hx IF hr=>?_;have:=hR ρ' p' pn n' c' kn cn Bi (x0.trans hx) IF (hr.mono (Ext.Ci x0));rw[Aiw hb]at this;exact this
    .cases G
  .rename_i xV;simp only[Ai9]at G;subst G;rw[Bool.not_eq_true,AkD]at xV;refine RZ h HS (by rw[<-e1];exact xV.1) (by rw[<-e2];exact xV.2) λρ' hu hx hn=>?_;exact hR ρ' p none n c 0 0 hu hx hn ⟨rfl,by omega,.inl rfl⟩
theorem Tu {g:Nat}{fst cap:Array Value}(KG:Enters prog g)(h:B4 O22 ρ pb p n c q m e (t::ts) out)(hd:0<=d/\d<64)
  (hR:Spec prog g (fst++#[]++cap) (ρ.set pb (pO (E4 p 1 c 4) (n-1) (c-1) (d+1) q m e)) (Ab R λz y=>z=.tuple #[]/\∃(ρ':Hp) (p' q':Option Addr) (n' c' m' G:Nat),y=ρ'.set pb (pO p' n' c' (d+1) q' m' G)/\R (.T #[]) (ρ'.set pb (pO p' n' c' d q' m' G)))) :
  Spec prog 219 #[.pointer (aD pb 0),.func (.func g) fst cap] (ρ.set pb (pO p n c d q m e)) R:=by
 refine EC.start ⟨pb,0,rfl,d,by simp[Hp.ld,Hp.AA],λhh=>by omega,λ_=>EC.M4 ⟨pb,0,rfl,d,by simp[Hp.ld,Hp.AA],by unfold AL;omega,?_⟩⟩;refine st1 I1 (Hp.AA _ _ _) rfl rfl (by simp) rfl ?_;rw[Hp.set_set];refine BB h λa=>⟨_,_,_,_,rfl,g,fst,cap,rfl,KG,hR.cont λz y hy=>?_⟩;obtain⟨rfl,ρ2,p2,q2,n2,c2,m2,e2,rfl,hr⟩:=hy;refine⟨rfl,d+1,by simp[Hp.ld,Hp.AA],by unfold AL;omega,?_⟩;refine st1 I1 (Hp.AA _ _ _) rfl rfl (by simp) rfl ?_;rw[Hp.set_set,show d+1-1=d by omega];exact hr
end
set_option maxRecDepth 100000
def MY:Nat->Nat
 | 0=>30
 | 1=>64
 | 2=>101
 | 3=>123
 | 4=>139
 | 5=>175
 | 6=>218
 | _=>241
def I9 (l:Nat)(R:Rr)(pb:Nat)(Z2:Hp):Prop:=
 if 10<=l then AY.eX R (aD pb 0) (.func (.func (MY (l-9))) #[.pointer (aD pb 0)] #[]) (Ho (l-10)).1 (Ho (l-10)).2 Z2
 else Spec prog (MY l) #[.pointer (aD pb 0)] Z2 R
theorem enP:∀l,1<=l->l<=5->Enters prog (MY l)
 | 1,_,_=>Ep.en
 | 2,_,_=>Er.en
 | 3,_,_=>Ek.en
 | 4,_,_=>ED.en
 | 5,_,_=>Bb.en
 | 0,h,_=>absurd h (by decide)
 | _+6,_,h=>absurd h (by omega)
theorem Yw {Z2:Hp}{pb:Nat}{R:Rr}(l:Nat)(G:l<5)(h:Spec prog 63 #[.pointer (aD pb 0),.func (.func (MY (l+1))) #[.pointer (aD pb 0)] #[],.I (Ho l).1,.I (Ho l).2] Z2 (Ab R (λz y=>z=.tuple #[]/\R (.T #[]) y))):Spec prog (MY l) #[.pointer (aD pb 0)] Z2 R:=by
 have:l=0\/l=1\/l=2\/l=3\/l=4:=by omega
 rcases this with rfl|rfl|rfl|rfl|rfl
 .exact MH.start h
 .exact Ep.start h
 .exact Er.start h
 .exact Ek.start h
 .exact ED.start h
def goR (R:Rr)(q0:Option Addr)(v1:Value)(x2 x3 x16:Int)(CL:Hp):Prop:=
 Spec prog 97 #[.pointer q0] CL (Ab R (λz Gu=>∃Jy Jz eZ ec,z=(.agg #[.I Jy,.I Jz,.string eZ,.I ec])/\Al Gu λb9=>AI prog (Instr.storeAt 127 (.pointer (aD b9 0)) (.agg #[.I 6,.I x16,(.string (ByteArray.mk #[])),.N,.I 0,.I 0,.I 0,.N,.bool false,.I 2])) (Hp.set Gu b9 (.cells #[.I 0,.I 0,(.string (ByteArray.mk #[])),.N,.I 0,.I 0,.I 0,.N,.bool false,.I 0] 127 (0,0))) (λ_ G=>Br (5<=x16) (Br (x16<=10) (Spec prog 98 #[.pointer q0,.I 3,(.string (ByteArray.mk #[98,111,111,108]))] G (Ab R (CB λt55 S0=>Bo t55 (Spec prog 97 #[.pointer q0] S0 (Ab R (λz UD=>∃ed eh ei ej,z=(.agg #[.I ed,.I eh,.string ei,.I ej])/\AI prog (Instr.storeAt 4 (.pointer (aD b9 8)) (.bool true)) UD (λ_ IJ=>AY.Ed R q0 v1 x2 x3 b9 IJ)))) (AY.Ed R q0 v1 x2 x3 b9 S0)))) (AY.Ed R q0 v1 x2 x3 b9 G)) (AY.Ed R q0 v1 x2 x3 b9 G))))
def tsR (R:Rr)(q0:Option Addr)(v1:Value)(x2 x3 x16:Int)(y:Hp):Prop:=
 Br (x16<x2) (R (.T #[]) y) (Br (x3<x16) (R (.T #[]) y) (Br (x2=11) (Br (x16=12) (R (.T #[]) y) (goR R q0 v1 x2 x3 x16 y)) (goR R q0 v1 x2 x3 x16 y)))
section
variable {O22 ρ:Hp}{pb n c m e:Nat}{p q:Option Addr}{ts:List Cl}{out:List Nd}{d:Int}{R:Rr}
theorem gO {cl:Cl}{v1:Value}{x2 x3:Int}(h:B4 O22 ρ pb p n c q m e (cl::ts) out)
  (AZ:cl.kind≠5/\cl.kind≠3->∀ρ',B4 O22 ρ' pb p n c q m e (cl::ts) out->R (.T #[]) (ρ'.set pb (pO p n c d q m e)))
  (gZ:¬(cl.kind≠5/\cl.kind≠3)->∀ρ',B4 O22 ρ' pb p n c q m e (cl::ts) out->tsR R (aD pb 0) v1 x2 x3 (cl.op:Int) (ρ'.set pb (pO p n c d q m e))) :
  AY.eX R (aD pb 0) v1 x2 x3 (ρ.set pb (pO p n c d q m e)):=by
 have Ht:cl.op=JT opW cl.text:=Ai8 Cl.op h.tok.1;refine AY.LD (ACf h λG b1 h1 x1 D7=>⟨_,_,_,rfl,BF h1 λa=>⟨_,_,_,_,rfl,C3 D7 ⟨_,rfl,BF h1 λa'=>⟨_,_,_,_,rfl,?_⟩⟩⟩⟩);rw[<-Ht];exact⟨λh5=>BF h1 λa2=>⟨_,_,_,_,rfl,λh3=>AZ ⟨h5,h3⟩ G h1,λh3=>gZ (λhh=>h3 hh.2) G h1⟩,λh5=>gZ (λhh=>h5 hh.1) G h1⟩
theorem Kj {α β:Type}{o:Option α}{f:α->β}{y:β}(h:o.map f=some y):∃x,o=some x/\f x=y:=by
 cases o with
 | none=>cases h
 | some x=>exact⟨x,rfl,Ajv h⟩
theorem Lz {α β:Type}{o:Option α}{f:α->Option β}{y:β}(h:o.bind f=some y):∃x,o=some x/\f x=some y:=by
 cases o with
 | none=>cases h
 | some x=>exact⟨x,rfl,h⟩
end
theorem AUR:∀(f l:Nat) (d:Int) (ts r:List Cl) (ns:List Nd),pz f l d ts=some (r,ns)->l<=14->(l<=7\/10<=l)->0<=d->d<=64->∀{O22 ρ:Hp} {pb:Nat} {p q:Option Addr} {n c m e:Nat} {out:List Nd} {R:Rr},
  B4 O22 ρ pb p n c q m e ts out->m+ns.length<=1000000->(∀(ρ':Hp) (p' q':Option Addr) (n' c' m' e':Nat),B4 O22 ρ' pb p' n' c' q' m' e' r (out++ns)->R (.T #[]) (ρ'.set pb (pO p' n' c' d q' m' e')))->I9 l R pb (ρ.set pb (pO p n c d q m e)):=by
 intro f
 induction f with
 | zero=>intro l d ts r ns h;cases h
 | succ f ih=>
  intro l d ts r ns h AUS hl VL hd O22 ρ pb p q n c m e out R hu hb hR;have hom:out.length=m:=hu.out.1.1;unfold pz at h;by_cases h5:l<5
  .rw[Aiy h5]at h;obtain⟨x,hx,h⟩:=Lz h;obtain⟨y,hy,h⟩:=Kj h;obtain⟨r1,n1⟩:=x;obtain⟨r2,n2⟩:=y;simp only[Ajs]at h;obtain⟨rfl,rfl⟩:=h;rw[Ai5]at hb;rw[I9,Aiw (by omega)];refine Yw l h5 (AY.start ⟨MY (l+1),#[.pointer (aD pb 0)],#[],rfl,enP (l+1) (by omega) (by omega),?_⟩);have h1:=ih (l+1) d ts r1 n1 hx (by omega) (by omega) VL hd (R:=Ab (Ab R (λz y=>z=.tuple #[]/\R (.T #[]) y)) (λz y=>z=.tuple #[]/\AY.eX (Ab R (λz y=>z=.tuple #[]/\R (.T #[]) y)) (aD pb 0) (.func (.func (MY (l+1))) #[.pointer (aD pb 0)] #[]) (Ho l).1 (Ho l).2 y)) hu (by omega) λρ' p' q' n' c' m' e' Bi=>⟨rfl,?_⟩
   .rw[I9,Aiw (by omega)]at h1;exact h1
   .have AMN:(out++n1).length=m':=Bi.out.1.1;rw[Ai5]at AMN;have h2:=ih (l+10) d r1 r2 n2 hy (by omega) (by omega) VL hd (R:=Ab R (λz y=>z=.tuple #[]/\R (.T #[]) y)) Bi (by omega) λρ2 p2 q2 n2 c2 m2 e2 QY=>⟨rfl,hR ρ2 p2 q2 n2 c2 m2 e2 (by rw[<-AjT];exact QY)⟩;rw[I9,Aiy (by omega),show l+10-9=l+1 by omega,Alr]at h2;exact h2
  rw[Aiw h5]at h;by_cases MK:10<=l
  .rw[Aiy MK]at h;rw[I9,Aiy MK];cases ts with
   | nil=>cases h
   | cons cl rr=>
    dsimp only at h;by_cases B9:(cl.kind≠5/\cl.kind≠3)\/(cl.op:Int)<(Ho (l-10)).1\/(Ho (l-10)).2<(cl.op:Int)\/(l=11/\cl.op=12)
    .rw[Aiy B9]at h;simp only[Ai9,Ajs]at h;obtain⟨rfl,rfl⟩:=h;have fin:∀ρ',B4 O22 ρ' pb p n c q m e (cl::rr) out->R (.T #[]) (ρ'.set pb (pO p n c d q m e)):=λρ' h'=>hR ρ' p q n c m e (by rw[Aj1];exact h');refine gO hu (λ_=>fin) λhk G h1=>⟨λ_=>fin G h1,λn1=>⟨λ_=>fin G h1,λn2=>⟨λvh=>⟨λ_=>fin G h1,λn12=>?_⟩,λn11=>?_⟩⟩⟩
     .exfalso;rcases B9 with B9|B9|B9|B9
      .exact hk B9
      .exact n1 B9
      .exact n2 B9
      .exact n12 (by omega)
     .exfalso;rcases B9 with B9|B9|B9|B9
      .exact hk B9
      .exact n1 B9
      .exact n2 B9
      .exact n11 (by rw[B9.1];rfl)
    .rw[Aiw B9]at h;cases rr with
     | nil=>cases h
     | cons b r'=>
      dsimp only at h;generalize hbl:(decide (5<=cl.op)&&decide (cl.op<=10)&&b.bool)=bl at h;obtain⟨g,r'',hg,hgg⟩:∃g r'',(bif bl then r' else b::r')=g::r''/\(g.on||g.ign)=false:=by
       cases hq:(bif bl then r' else b::r') with
       | nil=>rw[hq]at h;cases h
       | cons g r''=>
        rw[hq]at h;dsimp only at h;refine⟨g,r'',rfl,?_⟩;cases hgg:(g.on||g.ign) with
        | false=>rfl
        | true=>rw[hgg,Aiy rfl]at h;cases h
      rw[hg]at h;dsimp only at h;rw[hgg,Aiw (by decide)]at h;obtain⟨x,hx,h⟩:=Lz h;obtain⟨y,hy,h⟩:=Kj h;obtain⟨r1,n1⟩:=x;obtain⟨r2,n2⟩:=y;simp only[Ajs]at h;obtain⟨rfl,rfl⟩:=h;rw[Ai5,Aix]at hb;rw[AkD]at hgg;have P32:∀(G:Hp) (p1:Option Addr) (k1 c1 nb:Nat),B4 O22 G pb p1 k1 c1 q m e (g::r'') out->(G.set pb (pO p1 k1 c1 d q m e)) nb=none->
        AY.Ed R (aD pb 0) (.func (.func (MY (l-9))) #[.pointer (aD pb 0)] #[]) (Ho (l-10)).1 (Ho (l-10)).2 nb ((G.set pb (pO p1 k1 c1 d q m e)).set nb (Yu 6 cl.op none 0 0 0 0 none 0 0 bl 2)):=λG p1 k1 c1 nb Ql JR=>by
       have e1:g.on=GC g.kind g.text 3 ⟨#[111,110]⟩:=Ai8 Cl.on Ql.tok.1;have e2:g.ign=GC g.kind g.text 3 ⟨#[105,103,110,111,114,105,110,103]⟩:=Ai8 Cl.ign Ql.tok.1;refine AY.LF (RZ Ql JR (by rw[<-e1];exact hgg.1) (by rw[<-e2];exact hgg.2) λρ2 QY x2 IF=>⟨rfl,MY (l-9),#[.pointer (aD pb 0)],#[],rfl,enP (l-9) (by omega) (by omega),Spec.AQ IF ?_⟩);have h1:=ih (l-9) d (g::r'') r1 n1 hx (by omega) (by omega) VL hd (R:=λen O'2=>O'2 nb=none->Ab R (λz AE=>z=(.tuple #[])/\∃Mn Mo Mp Mq Mr Ms Mu Mv Mw Mx My Mz M0 M1,Az AE nb 0 [.I Mn,.I Mo,.string Mp,.slice Mq Mr Ms,.I Mu,.I Mv,.I Mw,.slice Mx My Mz,.bool M0,.I M1]/\Spec prog 100 #[.pointer (aD pb 0),.agg #[.I Mn,.I Mo,.string Mp,.slice Mq Mr Ms,.I Mu,.I Mv,.I Mw,.slice Mx My Mz,.bool M0,.I M1]] AE (Ab R (λz AK=>z=(.tuple #[])/\AY.eX R (aD pb 0) (.func (.func (MY (l-9))) #[.pointer (aD pb 0)] #[]) (Ho (l-10)).1 (Ho (l-10)).2 AK))) en (O'2.set nb (Yu 6 cl.op none 0 0 0 0 none 0 0 bl 2))) QY (by omega) λρ3 p3 q3 k3 c3 m3 e3 qJ QS=>⟨rfl,_,_,_,_,_,_,_,_,_,_,_,_,_,_,I8 (Hp.AA _ _ _),?_⟩
       .rw[I9,Aiw (by omega)]at h1;exact h1
       .have Ra:(out++n1).length=m3:=qJ.out.1.1;rw[Ai5]at Ra;refine Spec.AQ QS (CG (x:=ALs cl.op bl) qJ (by omega) ⟨rfl,[],⟨rfl,by omega,.inl rfl⟩,rfl,λi x hi=>by simp[ALs]at hi⟩ ⟨rfl,by omega,.inl rfl⟩ λρ4 q4 e4 gP mS=>⟨rfl,?_⟩);obtain⟨k1,k2⟩:=gP.box (u:=Yu 6 cl.op none 0 0 0 0 none 0 0 bl 2) mS;rw[k2];have h2:=ih l d r1 r2 n2 hy (by omega) (by omega) VL hd (R:=R) k1 (by omega) λρ' p' q' n' c' m' e' Bi=>hR ρ' p' q' n' c' m' e' (by rw[AjT,AjT]at Bi;exact Bi);rw[I9,Aiy MK]at h2;exact h2
      have go:∀G,B4 O22 G pb p n c q m e (cl::b::r') out->goR R (aD pb 0) (.func (.func (MY (l-9))) #[.pointer (aD pb 0)] #[]) (Ho (l-10)).1 (Ho (l-10)).2 (cl.op:Int) (G.set pb (pO p n c d q m e)):=λG h1=>by
       have h2:=h1.step;have e3:b.bool=GC b.kind b.text 3 ⟨#[98,111,111,108]⟩:=Ai8 Cl.bool h2.tok.1;have nob:bl=false->∀nb,(G.set pb (pO (E4 p 1 c 4) (n-1) (c-1) d q m e)) nb=none->AY.Ed R (aD pb 0) (.func (.func (MY (l-9))) #[.pointer (aD pb 0)] #[]) (Ho (l-10)).1 (Ho (l-10)).2 nb ((G.set pb (pO (E4 p 1 c 4) (n-1) (c-1) d q m e)).set nb (Yu 6 cl.op none 0 0 0 0 none 0 0 false 2)):=λxE nb hn=>by
        rw[xE,AkZ]at hg;have:=P32 G _ _ _ nb (by rw[<-hg];exact h2) hn;rw[xE]at this;exact this
       refine BB h1 λa=>⟨_,_,_,_,rfl,λnb HS=>Tt ⟨λg5=>⟨λg10=>Spec.AQ HS (BN h2 λhn=>⟨_,rfl,λtb=>?_,λfb=>nob ?_ nb hn⟩),λg10=>nob ?_ nb HS⟩,λg5=>nob ?_ nb HS⟩⟩
       .have I4:bl=true:=by
         rw[<-hbl,e3,tb,AjC (show 5<=cl.op by omega),AjC (show cl.op<=10 by omega)];rfl
        rw[I4,Akk]at hg;refine Spec.AQ hn (BB h2 λa2 IF=>⟨_,_,_,_,rfl,?_⟩);refine st1 ABL (Hp.AA _ _ _) rfl rfl (by simp) rfl ?_;rw[Hp.set_set];have:=P32 G _ _ _ nb (by rw[<-hg];exact h2.step) IF;rw[I4]at this;exact this
       .rw[<-hbl,e3,fb,AkC]
       .rw[<-hbl,AjE (show ¬cl.op<=10 by omega),AkC,Aj8]
       .rw[<-hbl,AjE (show ¬5<=cl.op by omega),Aj8,Aj8]
      refine gO hu (λhk=>absurd (.inl hk) B9) λhk G h1=>⟨λhh=>absurd (.inr (.inl hh)) B9,λn1=>⟨λhh=>absurd (.inr (.inr (.inl hh))) B9,λn2=>⟨λvh=>⟨λTZ=>?_,λn12=>go G h1⟩,λn11=>go G h1⟩⟩⟩;exfalso;refine B9 (.inr (.inr (.inr ⟨?_,by omega⟩)));have:l=10\/l=11\/l=12\/l=13\/l=14:=by omega
      rcases this with rfl|rfl|rfl|rfl|rfl
      .exact absurd vh (by decide)
      .rfl
      .exact absurd vh (by decide)
      .exact absurd vh (by decide)
      .exact absurd vh (by decide)
  rw[Aiw MK]at h;rw[I9,Aiw MK];cases ts with
  | nil=>cases h
  | cons cl rr=>
   dsimp only at h;have ht:=hu.tok.1;have fin:∀{ρ':Hp} {p' q':Option Addr} {n' c' m' e':Nat} {ns':List Nd} {x:Nd},ns=ns'++[x]->B4 O22 ρ' pb p' n' c' q' m' e' r (out++ns'++[x])->R (.T #[]) (ρ'.set pb (pO p' n' c' d q' m' e')):=λhns h'=>hR _ _ _ _ _ _ _ (by rw[hns,<-AjT];exact h');by_cases e5:l=5
   .subst e5;rw[Aiy rfl]at h;have em:cl.minus=GC cl.kind cl.text 5 ⟨#[45]⟩:=Ai8 Cl.minus ht;refine Bb.start (BN hu ⟨_,rfl,λhf=>?_,λhtr=>?_⟩)
    .rw[em,hf,Aiw (by decide)]at h;have h1:=ih 6 d (cl::rr) r ns h (by omega) (by omega) VL hd (R:=Ab R (λz AE=>z=(.tuple #[])/\R (.T #[]) AE)) hu hb λρ' p' q' n' c' m' e' Bi=>⟨rfl,hR ρ' p' q' n' c' m' e' Bi⟩;rw[I9,Aiw (by decide)]at h1;exact h1
    .rw[em,htr,Aiy rfl]at h;by_cases mK:d=64
     .rw[Aiy mK]at h;cases h
     rw[Aiw mK]at h;obtain⟨x,hx,h⟩:=Kj h;obtain⟨r1,n1⟩:=x;simp only[Ajs]at h;obtain⟨rfl,rfl⟩:=h;rw[Ai5,Ajc]at hb;refine Tu Bb.en hu ⟨VL,by omega⟩ ?_;have h1:=ih 5 (d+1) rr r1 n1 hx (by omega) (by omega) (by omega) (by omega) (R:=Ab (Ab R λz AE=>z=.tuple #[]/\Spec prog 100 #[.pointer (aD pb 0),QR lN none 0 0 none 0 0] AE (Ab R (λz AK=>z=(.tuple #[])/\R (.T #[]) AK))) λz y=>z=.tuple #[]/\∃(ρ':Hp) (p' q':Option Addr) (n' c' m' e':Nat),y=ρ'.set pb (pO p' n' c' (d+1) q' m' e')/\Ab R (λz AE=>z=.tuple #[]/\Spec prog 100 #[.pointer (aD pb 0),QR lN none 0 0 none 0 0] AE (Ab R (λz AK=>z=(.tuple #[])/\R (.T #[]) AK))) (.T #[]) (ρ'.set pb (pO p' n' c' d q' m' e'))) hu.step (by omega) λρ' p' q' n' c' m' e' Bi=>⟨rfl,ρ',p',q',n',c',m',e',rfl,rfl,?_⟩
     .rw[I9,Aiw (by decide)]at h1;exact h1
     .have Ra:(out++n1).length=m':=Bi.out.1.1;rw[Ai5]at Ra;exact CG (x:=lN) Bi (by omega) ⟨rfl,[],⟨rfl,by omega,.inl rfl⟩,rfl,λi x hi=>by simp[lN]at hi⟩ ⟨rfl,by omega,.inl rfl⟩ λρ4 q4 e4 gP=>⟨rfl,fin rfl gP⟩
   rw[Aiw e5]at h;have elp:cl.lp=GC cl.kind cl.text 5 ⟨#[40]⟩:=Ai8 Cl.lp ht;have brk:∀{O1 G:Hp} {p1 q1:Option Addr} {k1 c1 m1 e1:Nat} {AMP n1:List Nd} {tQ r1:List Cl} {R1:Rr},pz f 7 d tQ=some (r1,n1)->B4 O1 G pb p1 k1 c1 q1 m1 e1 tQ AMP->m1+n1.length<=1000000->(∀(ρ':Hp) (p' q':Option Addr) (n' c' m' e':Nat),B4 O1 ρ' pb p' n' c' q' m' e' r1 (AMP++n1)->R1 (.T #[]) (ρ'.set pb (pO p' n' c' d q' m' e')))->Spec prog 241 #[.pointer (aD pb 0)] (G.set pb (pO p1 k1 c1 d q1 m1 e1)) R1:=fun {O1 G p1 q1 k1 c1 m1 e1 AMP n1 tQ r1 R1} hz h1 I4 hR1=>by
    have:=ih 7 d tQ r1 n1 hz (by omega) (by omega) VL hd h1 I4 hR1;rw[I9,Aiw (by decide)]at this;exact this
   by_cases e6:l=6
   .subst e6;rw[Aiy rfl]at h;refine HN.start (BF hu λa=>⟨_,_,_,_,rfl,λ_=>Yr hu λG b1 h1 x1 D7=>⟨_,_,_,rfl,C3 D7 ⟨_,rfl,Yt h1 λρ2 b2 h2 x2 G0=>⟨_,_,_,rfl,C3 G0 ⟨_,rfl,?_⟩⟩⟩⟩⟩);have efn:cl.fn=JT fnW cl.text:=Ai8 Cl.fn ht;have eag:cl.ag=JT agW cl.text:=Ai8 Cl.ag ht;rw[<-efn,<-eag];by_cases k1:cl.kind=1
    .rw[Aiy k1]at h;simp only[Ai9,Ajs]at h;obtain⟨rfl,rfl⟩:=h;refine⟨λ_=>BB h2 λa=>⟨_,_,_,_,rfl,?_⟩,λAd=>absurd k1 Ad⟩;exact CG (x:=wP cl.text) h2.step (by rw[Ajc]at hb;omega) ⟨rfl,[],⟨rfl,by omega,.inl rfl⟩,rfl,λi x hi=>by simp[wP]at hi⟩ ⟨rfl,by omega,.inl rfl⟩ λρ4 q4 e4 gP=>⟨rfl,fin (ns':=[]) rfl (by rw[Aj1];exact gP)⟩
    rw[Aiw k1]at h;refine⟨λhh=>absurd hh k1,λ_=>BN h2 ⟨_,rfl,λlZ=>?_,λlZ=>?_⟩⟩
    .rw[<-elp]at lZ;rw[Aiy lZ]at h;exact brk h h2 hb λρ' p' q' n' c' m' e' Bi=>⟨rfl,hR ρ' p' q' n' c' m' e' Bi⟩
    rw[<-elp]at lZ;rw[Aiw (by rw[lZ];decide)]at h;by_cases k3':cl.kind≠3
    .rw[Aiy k3']at h;cases h
    have k3:cl.kind=3:=AjZ.1 k3';rw[Aiw k3']at h;by_cases kf:0<cl.fn
    .rw[Aiy kf]at h;obtain⟨x,hx,h⟩:=Kj h;obtain⟨r1,n1⟩:=x;simp only[Ajs]at h;obtain⟨rfl,rfl⟩:=h;rw[Ai5,Ajc]at hb;refine⟨λ_=>⟨λ_=>BB h2 λa=>⟨_,_,_,_,rfl,brk hx h2.step (by omega) λρ' p' q' n' c' m' e' Bi=>⟨rfl,?_⟩⟩,λhh=>absurd (by omega) hh⟩,λhh=>absurd k3 hh⟩;have Ra:(out++n1).length=m':=Bi.out.1.1;rw[Ai5]at Ra;exact CG (x:=dL cl.fn) Bi (by omega) ⟨rfl,[],⟨rfl,by omega,.inl rfl⟩,rfl,λi x hi=>by simp[dL]at hi⟩ ⟨rfl,by omega,.inl rfl⟩ λρ4 q4 e4 gP=>⟨rfl,fin rfl gP⟩
    rw[Aiw kf]at h;refine⟨λ_=>⟨λhh=>absurd (by omega) kf,λ_=>⟨λ_=>⟨λhag=>?_,λhag=>?_⟩,λhh=>absurd k3 hh⟩⟩,λhh=>absurd k3 hh⟩
    .rw[Aiy (show 0<cl.ag by omega)]at h;obtain⟨g,hg,h⟩:=Lz h;obtain⟨x,hx,h⟩:=Kj h;obtain⟨r1,n1⟩:=x;simp only[Ajs]at h;obtain⟨rfl,rfl⟩:=h;rw[Ai5,Ajc]at hb;refine BB h2 λa=>⟨_,_,_,_,rfl,λnb HS=>Tt ?_⟩;refine qI h2.step HS hg λρ3 p3 pn k3 c3 kn cn qJ x3 QS S4=>⟨rfl,Spec.AQ QS ?_⟩;have ACg:Fj 1 (ρ3.del q) pn kn (g.2.1.map .string):=S4.mono (h2.out.new x3);refine brk hx qJ.Yq (by omega) λρ' p' q' n' c' m' e' Bi MQ=>⟨rfl,_,_,_,_,_,_,_,_,_,_,_,_,_,_,I8 (Hp.AA _ _ _),?_⟩;have Ra:(out++n1).length=m':=Bi.out.1.1;rw[Ai5]at Ra;have ACh:=Bi.base qJ.out.2;refine Spec.AQ MQ (CG (x:=wR cl.ag g.1 g.2.1) ACh (by omega) ⟨rfl,[],⟨rfl,by omega,.inl rfl⟩,rfl,λi x hi=>by simp[wR]at hi⟩ (ACg.mono Bi.out.2) λρ4 q4 e4 gP mS=>⟨rfl,?_⟩);obtain⟨k1,k2⟩:=gP.box (u:=Yu 5 cl.ag none 0 0 0 g.1 pn kn cn false 1) mS;rw[k2];exact fin rfl k1
    .rw[Aiw (show ¬0<cl.ag by omega)]at h;have AbS:cl.big=decide (256<cl.text.size):=Ai8 Cl.big ht;by_cases hke:(cl.kept||cl.big)=true
     .rw[Aiy hke]at h;cases h
     rw[Aiw hke]at h;rw[Bool.not_eq_true,AkD,AbS,Aji]at hke;obtain⟨x,hx⟩:∃x,ns=[x]:=by
      unfold AFt at h;cases rr with
      | nil=>cases h
      | cons a r'=>
       dsimp only at h;split at h
       .cases h
       split at h
       .split at h
        .split at h
         .simp only[Ai9,Ajs]at h;exact⟨_,h.2.symm⟩
         .cases h
        .cases h
       .split at h
        .cases h
        .simp only[Ai9,Ajs]at h;exact⟨_,h.2.symm⟩
     subst hx;rw[Ajc]at hb;exact choose_spec h2 k3 hke.1 (by omega) (by omega) h λρ' p' q' n' c' e' Bi=>⟨rfl,hR ρ' p' q' n' c' _ e' Bi⟩
   rw[Aiw e6]at h;have e7:l=7:=by omega
   subst e7;by_cases hc':¬(cl.lp=true/\d≠64)
   .rw[Aiw hc']at h;cases h
   have hc:=AjZ.1 hc';rw[Aiy hc]at h;obtain⟨x,hx,h⟩:=Lz h;obtain⟨r1,n1⟩:=x;dsimp only at h;cases r1 with
   | nil=>cases h
   | cons ee r'=>
    dsimp only at h;by_cases AUU:¬ee.rp=true
    .rw[Aiw AUU]at h;cases h
    have cD:=AjZ.1 AUU;rw[Aiy cD]at h;simp only[Ai9,Ajs]at h;obtain⟨rfl,rfl⟩:=h;refine B6.start λb1 I4=>?_;obtain⟨Ad,HS⟩:=Hp.AM I4;obtain⟨h1,h2⟩:=hu.box (u:=.cells #[.pointer (aD pb 0)] 76 (0,0)) I4;rw[h2];have mO:∀(ρ':Hp) (o:Obj),Ext (ρ.set b1 (.cells #[.pointer (aD pb 0)] 76 (0,0))) ρ'->ρ' pb=none->(ρ'.set pb o).ld ⟨b1,0,none⟩=some (.pointer (aD pb 0)):=λρ' o hx hn=>AJ ((Ext.set hn) _ _ (hx _ _ (Hp.AA _ _ _))) rfl;refine⟨aD pb 0,mO _ _ (.refl _) h1.pb,BN h1 ⟨_,rfl,λhf=>absurd ((elp.symm.trans hc.1).symm.trans hf) (by decide),λ_=>B6.BG ⟨aD pb 0,mO _ _ (.refl _) h1.pb,?_⟩⟩⟩;refine Tu (fst:=#[]) (cap:=#[.pointer (aD b1 0)]) BO.en h1 ⟨VL,by omega⟩ ?_;refine BO.start ⟨aD pb 0,mO _ _ (.refl _) h1.pb,?_⟩;have hqb:∀ao,q=some ao->ao.block≠b1:=λao ha e=>by
     have:=hu.out.1.2;obtain⟨cs,ho,_⟩:=this;exact ho.block ao ha (by rw[e];exact HS)
    have BS:∀{ρ':Hp},Ext ((ρ.set b1 (.cells #[.pointer (aD pb 0)] 76 (0,0))).del q) ρ'->∀o,ρ' pb=none->(ρ'.set pb o).ld ⟨b1,0,none⟩=some (.pointer (aD pb 0)):=fun {ρ'} hx o hn=>by
     refine AJ ((Ext.set hn) _ _ (hx b1 (.cells #[.pointer (aD pb 0)] 76 (0,0)) ?_)) rfl;unfold Hp.del;cases q with
     | none=>exact Hp.AA _ _ _
     | some ao=>dsimp only;rw[Aiw (AjI (hqb ao rfl))];exact Hp.AA _ _ _
    have hor:I9 0 _ pb _:=ih 0 (d+1) rr (ee::r') n1 hx (by omega) (by omega) (by omega) (by omega) (R:=Ab (Ab (Ab R (λz y=>z=(.tuple #[])/\R (.T #[]) y)) (λz y=>z=.tuple #[]/\∃(ρ':Hp) (p' q':Option Addr) (n' c' m' e':Nat),y=ρ'.set pb (pO p' n' c' (d+1) q' m' e')/\Ab R (λz y=>z=(.tuple #[])/\R (.T #[]) y) (.T #[]) (ρ'.set pb (pO p' n' c' d q' m' e')))) (λz y=>z=(.tuple #[])/\LQ y b1 0 λq3=>Spec prog 137 #[.pointer q3,(.string (ByteArray.mk #[41]))] y (Ab (Ab (Ab R (λz y=>z=(.tuple #[])/\R (.T #[]) y)) (λz y=>z=.tuple #[]/\∃(ρ':Hp) (p' q':Option Addr) (n' c' m' e':Nat),y=ρ'.set pb (pO p' n' c' (d+1) q' m' e')/\Ab R (λz y=>z=(.tuple #[])/\R (.T #[]) y) (.T #[]) (ρ'.set pb (pO p' n' c' d q' m' e')))) (λz AE=>z=(.tuple #[])/\(Ab (Ab R (λz y=>z=(.tuple #[])/\R (.T #[]) y)) (λz y=>z=.tuple #[]/\∃(ρ':Hp) (p' q':Option Addr) (n' c' m' e':Nat),y=ρ'.set pb (pO p' n' c' (d+1) q' m' e')/\Ab R (λz y=>z=(.tuple #[])/\R (.T #[]) y) (.T #[]) (ρ'.set pb (pO p' n' c' d q' m' e')))) (.T #[]) AE)))) h1.step.Yq (by omega) λρ2 p2 q2 n2 c2 m2 e2 QY=>⟨rfl,aD pb 0,BS QY.out.up _ QY.pb,?_⟩
    .rw[I9,Aiw (by decide)]at hor;exact hor
    .have erp:GC ee.kind ee.text 5 ⟨#[41]⟩=true:=by rw[<-cD];exact(Ai8 Cl.rp QY.tok.1).symm
     exact P7 QY erp ⟨rfl,rfl,ρ2,_,q2,_,_,m2,e2,rfl,rfl,hR _ _ _ _ _ _ _ (QY.step.base (h1.out.2))⟩
def Tv (u:UInt8):Bool:=decide ((97<=u.toNat/\u.toNat<=122)\/(65<=u.toNat/\u.toNat<=90)\/u.toNat=95\/u.toNat=58)
def JA (u:UInt8):Bool:=Tv u||Cz u
def DA (u:UInt8):Bool:=Cz u||(Tv u&&decide (u≠58))||decide (u=46)
def Sk (l:List UInt8):Int:=l.foldl (λv u=>10*v+((u.toNat:Int)-48)) 0
def Qv (u:UInt8):Int:=if u=115 then 1 else if u=109 then 60 else if u=104 then 3600 else if u=100 then 86400 else 0
def L0 (s:ByteArray):Int:=
 if AU s=0\/10<AU s\/s.data.toList[0]?=some 48\/AU s+1≠s.size then 0
 else let v:=Sk (s.data.toList.take (AU s))*Qv (s.data.toList[AU s]?.getD 0);if 2147483648<=v then 0 else v
def Ma:List ByteArray:=[⟨#[61,61]⟩,⟨#[33,61]⟩,⟨#[60,61]⟩,⟨#[62,61]⟩,⟨#[61,126]⟩,⟨#[33,126]⟩]
def qK:List UInt8:=[60,62,61,43,45,42,47,40,41,123,125,91,93,44]
section
variable {Z2:Hp}{R:Rr}
theorem QZ {u:UInt8}{k:Nat}(G:k<256):((u.toNat:Nat):Int)=(k:Int)↔u=UInt8.ofNat k:=by
 constructor
 .intro h;apply AmA.1
  rw[AlH];omega
 .rintro rfl
  rw[AlH];omega
theorem CH {u:UInt8}(h:R (.returned (.bool (Cz u))) Z2):Spec prog 58 #[.int .u8 ((u.toNat:Nat):Int)] Z2 R:=by
 refine TS.start ⟨λG=>?_,λG=>?_⟩
 .rw[show Cz u=decide (((u.toNat:Nat):Int)<=57) from Aj2.2 ⟨λhh=>by omega,λhh=>by omega⟩]at h;exact h
 .rw[show Cz u=false from AjE (by omega)]at h;exact h
theorem CP {u:UInt8}(h:R (.returned (.bool (Tv u))) Z2):Spec prog 59 #[.int .u8 ((u.toNat:Nat):Int)] Z2 R:=by
 have yes:Tv u=true->R (.B true) Z2:=λe=>by rw[e]at h;exact h
 have no:¬(97<=u.toNat/\u.toNat<=122)->¬(65<=u.toNat/\u.toNat<=90)->Br (((u.toNat:Nat):Int)=95) (R (.B true) Z2) (R (.returned (.bool (decide (((u.toNat:Nat):Int)=58)))) Z2):=λn1 n2=>
  ⟨λe=>yes (AjC (by omega)),λe=>by
   rw[show Tv u=decide (((u.toNat:Nat):Int)=58) from Aj2.2 ⟨λhh=>by omega,λhh=>by omega⟩]at h;exact h⟩
 exact Xc.start ⟨λh1=>⟨λh2=>yes (AjC (by omega)),λh2=>⟨λG=>⟨λh4=>yes (AjC (by omega)),λh4=>no (by omega) (by omega)⟩,λG=>no (by omega) (by omega)⟩⟩,
  λh1=>⟨λG=>⟨λh4=>yes (AjC (by omega)),λh4=>no (by omega) (by omega)⟩,λG=>no (by omega) (by omega)⟩⟩
theorem la {s:ByteArray}{k:Nat}(G:k<AU s):∃u,s.data.toList[k]?=some u/\Cz u=true/\s.data[k]?=some u:=by
 unfold AU at G;obtain⟨t,ht⟩:(s.data.toList.takeWhile Cz) <+: s.data.toList:=Akq _;have e:=AjV (l₂:=t) G;rw[ht]at e;have h2:=e.trans (Ai3 G);refine⟨_,h2,?_,by rw[<-Aje];exact h2⟩;have:=List.all_takeWhile (p:=Cz) (l:=s.data.toList);exact Ajt.1 this _ (AlU G)
theorem wq {l:List UInt8}{u:UInt8}:Sk (l++[u])=10*Sk l+((u.toNat:Int)-48):=by unfold Sk;rw[Akd];rfl
theorem Sl {s:ByteArray}(hb:s.size<=4611686018427387904)(h:R (.returned (.I (L0 s))) Z2):Spec prog 61 #[.string s] Z2 R:=by
 have hlen:s.data.toList.length=s.size:=Ajd (xs:=s.data);have hle:=Pw s;have z:AU s=0\/10<AU s\/s.data.toList[0]?=some 48\/AU s+1≠s.size->R (.returned (.I 0)) Z2:=λhz=>by rw[show L0 s=0 by unfold L0;rw[Aiy hz]]at h;exact h
 refine Ik.start (I0 hb ⟨_,rfl,λh0=>z (by omega),λh0=>⟨λMK=>z (by omega),λMK=>?_⟩⟩);obtain⟨u0,g1,g2,g3⟩:=la (s:=s) (k:=0) (by omega);refine⟨u0,by omega,g3,λkR=>z (.inr (.inr (.inl ?_))),λkR=>⟨by unfold AL;omega,λJ1=>z (by omega),λJ1=>?_⟩⟩
 .rw[g1,(QZ (k:=48) (by decide)).1 kR];rfl
 have Ad:¬(AU s=0\/10<AU s\/s.data.toList[0]?=some 48\/AU s+1≠s.size):=by
  rintro(G|G|G|G)
  .omega
  .omega
  .rw[g1]at G;exact kR ((QZ (k:=48) (by decide)).2 (Ajv G))
  .omega
 have hs:L0 s=if 2147483648<=Sk (s.data.toList.take (AU s))*Qv (s.data.toList[AU s]?.getD 0) then 0 else Sk (s.data.toList.take (AU s))*Qv (s.data.toList[AU s]?.getD 0):=by unfold L0;rw[Aiw Ad]
 have fin:∀v:Int,v=Sk (s.data.toList.take (AU s))*Qv (s.data.toList[AU s]?.getD 0)->Ik.uo R v Z2:=λv hv=>by
  rw[hs,<-hv]at h;refine Ik.AEV ⟨λG=>?_,λG=>?_⟩
  .rw[Aiy G]at h;exact h
  .rw[Aiw G]at h;exact h
 suffices H:∀g i:Nat,AU s-i=g->i<=AU s->0<=Sk (s.data.toList.take i)->Sk (s.data.toList.take i)<10^i->Ik.AEU R s (AU s) (Sk (s.data.toList.take i)) i Z2 from H (AU s) 0 rfl (AjB _) (by simp[Sk]) (by simp[Sk])
 intro g
 induction g with
 | zero=>
  intro i hg hi hv0 hv1;have hid:i=AU s:=by omega
  subst hid;obtain⟨u,Ql,QY⟩:=byte_at (s:=s) (k:=AU s) (by omega);have hp:(10:Int)^AU s<=10^10:=by exact_mod_cast Alb (by decide) (show AU s<=10 by omega)
  have Sv:s.data.toList[AU s]?.getD 0=u:=by rw[QY];rfl
  rw[Sv]at fin;refine Ik.rh ⟨λG=>by omega,λ_=>⟨u,by omega,by simpa using Ql,λe=>fin _ ?_,λn1=>⟨λe=>⟨by unfold AL;omega,fin _ ?_⟩,λn2=>⟨λe=>⟨by unfold AL;omega,fin _ ?_⟩,λn3=>⟨λe=>⟨by unfold AL;omega,fin _ ?_⟩,λn4=>?_⟩⟩⟩⟩⟩
  .rw[(QZ (k:=115) (by decide)).1 e];simp[Qv]
  .rw[(QZ (k:=109) (by decide)).1 e];simp[Qv]
  .rw[(QZ (k:=104) (by decide)).1 e];simp[Qv]
  .rw[(QZ (k:=100) (by decide)).1 e];simp[Qv]
  .have hz:Qv u=0:=by
    unfold Qv;rw[Aiw (show ¬u=115 from λe=>n1 ((QZ (k:=115) (by decide)).2 e)),Aiw (show ¬u=109 from λe=>n2 ((QZ (k:=109) (by decide)).2 e)),Aiw (show ¬u=104 from λe=>n3 ((QZ (k:=104) (by decide)).2 e)),Aiw (show ¬u=100 from λe=>n4 ((QZ (k:=100) (by decide)).2 e))]
   rw[hs,Sv,hz,Int.mul_zero,Aiw (by decide)]at h;exact h
 | succ g ih=>
  intro i hg hi hv0 hv1;have CF:i<AU s:=by omega
  obtain⟨u,Ql,QY,qJ⟩:=la CF;have hp:(10:Int)^i<=10^9:=by exact_mod_cast Alb (by decide) (show i<=9 by omega)
  have hu:48<=u.toNat/\u.toNat<=57:=AjA QY;refine Ik.rh ⟨λ_=>⟨by unfold AL;omega,u,by omega,by simpa using qJ,λeu e36 U3 e37=>?_⟩,λG=>by omega⟩;have e1:eu=(u.toNat:Int)-48:=by
   rw[e36];simp[IntKind.wrap,IntKind.bits,IntKind.signed];omega
  have e2:U3=(u.toNat:Int)-48:=by
   rw[e37,e1];exact AL.wrap (by unfold AL;omega)
  subst e2;have ht:Sk (s.data.toList.take (i+1))=10*Sk (s.data.toList.take i)+((u.toNat:Int)-48):=by rw[AR Ql,wq]
  have AhO:(10:Int)^(i+1)=10*10^i:=by rw[Int.pow_succ,Int.mul_comm]
  refine⟨by unfold AL;omega,AO CF (by omega),?_⟩;rw[<-ht];exact ih (i+1) (by omega) (by omega) (by omega) (by omega)
theorem AGB {p:Nat->Bool}{n:Nat}:(0:Int)<=(match (List.range n).find? p with | some i=>(i:Int) | none=>-1)↔∃i,i<n/\p i=true:=by
 cases h:(List.range n).find? p with
 | none=>
  rw[Alq]at h
  constructor
  .intro hh;simp at hh
  .rintro⟨i,hi,hp⟩;exact absurd hp (h i (AkS.2 hi))
 | some i=>
  have G:=List.find?_some h;have h2:=AkS.1 (List.mem_of_find?_eq_some h);exact⟨λ_=>⟨i,h2,G⟩,λ_=>Akm i⟩
theorem tR {s:ByteArray}{c:UInt8}:∃i:Int,(0<=i↔c∈s.data.toList)/\∀Z2:Hp,YN prog 136 #[.string s,.int .u8 ((c.toNat:Nat):Int)] Z2 (.I i):=by
 refine⟨match (List.range s.size).find? (λi=>s[i]! == c) with | some i=>(i:Int) | none=>-1,?_,λZ2 w _=>?_⟩
 .rw[AGB];have G:s.data.toList.length=s.size:=Ajd (xs:=s.data)
  constructor
  .rintro⟨i,hi,hp⟩
   rw[AlX]at hp;rw[<-hp,Ajg];refine⟨i,?_⟩;rw[Aje,AkN hi]
   congr 1
   exact(Alc s i hi).symm
  .intro hm;obtain⟨i,hi⟩:=Ajg.1 hm;have Ax:=(Ai0.1 hi).1;refine⟨i,by omega,?_⟩;rw[AlX];rw[Aje,AkN (by omega)]at hi;rw[<-Ajv hi];exact Alc s i (by omega)
 .rw[run_callFunc_extern Go.Proofs.Tryz.func136 (by kernel_rfl) (by kernel_rfl) (by kernel_rfl) (e:=Extern.BytealgIndexByte.indexByte) (by kernel_rfl)];have e:((c.toNat:Nat):Int).toNat.toUInt8=c:=by simp
  have hx:Extern.BytealgIndexByte.indexByte #[.string s,.int .u8 ((c.toNat:Nat):Int)]=(match (List.range s.size).find? (λi=>s[i]! == ((c.toNat:Nat):Int).toNat.toUInt8) with
   | some i=>pure (Value.int .i64 (i:Int))
   | none=>pure (Value.int .i64 (-1))):=rfl
  rw[hx,e];cases(List.range s.size).find? (λi=>s[i]! == c)<;>rfl
theorem AMQ {s:ByteArray}:(decide (s=⟨#[61,61]⟩)||(decide (s=⟨#[33,61]⟩)||(decide (s=⟨#[60,61]⟩)||(decide (s=⟨#[62,61]⟩)||(decide (s=⟨#[61,126]⟩)||decide (s=⟨#[33,126]⟩))))))=FP s Ma:=by
 unfold FP Ma;simp only[AmT,List.any_nil,Bool.or_false]
theorem Ul {s:ByteArray}(hs:1<s.size)(G:FP (s.extract 0 2) Ma=true)(h:R (.returned (.string (s.extract 0 2))) Z2):Spec prog 60 #[.string s] Z2 R:=by
 have tl:∀b,FP (s.extract 0 2) Ma=b->Ct.Fg R s b Z2:=λb hb=>by
  rw[G]at hb;subst hb;exact Ct.FY ⟨λ_=>⟨_,YD (h:=2) hs,h⟩,λhh=>by cases hh⟩
 refine Ct.start ⟨λ_=>⟨_,YD (h:=2) hs,λh1=>tl _ ?_,λh1=>⟨λG=>tl _ ?_,λG=>⟨λh3=>tl _ ?_,λh3=>⟨λh4=>tl _ ?_,λh4=>⟨λh5=>tl _ ?_,λh5=>tl _ ?_⟩⟩⟩⟩⟩,λhh=>by omega⟩ <;>
 .simp only[gm]at *;rw[<-AMQ];simp only[*,Al8,Alg,AkL]
theorem Um {s:ByteArray}{c:UInt8}(hc:s.data.toList[0]?=some c)(h2:1<s.size->FP (s.extract 0 2) Ma=false)(hc1:c∈qK)(h:R (.returned (.string (s.extract 0 1))) Z2):Spec prog 60 #[.string s] Z2 R:=by
 have J1:0<s.size:=(Ai0.1 hc).1;have G:Ct.AAF R s Z2:=by
  obtain⟨i,hi,hy⟩:=tR (s:=⟨#[60,62,61,43,45,42,47,40,41,123,125,91,93,44]⟩) (c:=c);refine Ct.r9 ⟨c,by omega,by simpa using hc,Gf.start (Bz.start (.y (hy Z2) ⟨_,rfl,_,rfl,_,rfl,λ_=>⟨_,YD (h:=1) J1,h⟩,λhh=>absurd (hi.2 hc1) hh⟩))⟩
 have tl:∀b,FP (s.extract 0 2) Ma=b->1<s.size->Ct.Fg R s b Z2:=λb hb h1=>by
  rw[h2 h1]at hb;subst hb;exact Ct.FY ⟨λhh=>by (cases hh),λ_=>G⟩
 refine Ct.start ⟨λhg=>⟨_,YD (h:=2) (show 2<=s.size by omega),λh1=>tl _ ?_ (by omega),λh1=>⟨λh2=>tl _ ?_ (by omega),λh2=>⟨λh3=>tl _ ?_ (by omega),λh3=>⟨λh4=>tl _ ?_ (by omega),λh4=>⟨λh5=>tl _ ?_ (by omega),λh5=>tl _ ?_ (by omega)⟩⟩⟩⟩⟩,λ_=>G⟩ <;>
 .simp only[gm]at *;rw[<-AMQ];simp only[*,Al8,Alg,AkL]
end
def bA (l:List UInt8):ByteArray:=⟨l.toArray⟩
inductive Lx:List UInt8->List Cl->Prop
 | fin:Lx [] [Ui 0 ⟨#[]⟩ 0]
 | sp {l:List UInt8} {ts:List Cl}:Lx l ts->Lx (32::l) ts
 | word {c:UInt8} {w l:List UInt8} {ts:List Cl}:Tv c=true->Cz c=false->(∀u∈w,JA u=true)->(∀u,l.head?=some u->JA u=false)->Lx l ts->Lx (c::w++l) (Ui 3 (bA (c::w)) 0::ts)
 | num {c:UInt8} {w l:List UInt8} {ts:List Cl}:Cz c=true->(∀u∈w,DA u=true)->(∀u,l.head?=some u->DA u=false)->L0 (bA (c::w))=0->Gj (bA (c::w))=true->Lx l ts->Lx (c::w++l) (Ui 1 (bA (c::w)) 0::ts)
 | span {c:UInt8} {w l:List UInt8} {ts:List Cl}:Cz c=true->(∀u∈w,DA u=true)->(∀u,l.head?=some u->DA u=false)->0<L0 (bA (c::w))->Lx l ts->Lx (c::w++l) (Ui 2 (bA (c::w)) (L0 (bA (c::w)))::ts)
 | one {c:UInt8} {l:List UInt8} {ts:List Cl}:c∈qK->(∀u,l.head?=some u->FP (bA [c,u]) Ma=false)->Lx l ts->Lx (c::l) (Ui 5 (bA [c]) 0::ts)
 | two {c u:UInt8} {l:List UInt8} {ts:List Cl}:FP (bA [c,u]) Ma=true->Lx l ts->Lx (c::u::l) (Ui 5 (bA [c,u]) 0::ts)
theorem Sm (s:ByteArray)(i j:Nat):(s.extract i j).data.toList=(s.data.toList.drop i).take (j-i):=by
 rw[AlP,Ala,List.extract_eq_drop_take]
theorem L3 {s:ByteArray}{i:Nat}{a l:List UInt8}(h:s.data.toList.drop i=a++l):s.extract i (i+a.length)=bA a:=by
 apply AlR
 apply AjS.1
 rw[Sm,h,AlL,List.take_left']
 .rfl
 .rfl
theorem B5 {α:Type}{x:List α}{i:Nat}{a l:List α}(h:x.drop i=a++l):x.drop (i+a.length)=l:=by
 rw[<-AmH,h,List.drop_left]
theorem Ev {s:ByteArray}{i:Nat}{c:UInt8}{l:List UInt8}(h:s.data.toList.drop i=c::l):i<s.size/\s.data[i]?=some c:=by
 have G:s.data.toList[i]?=some c:=by
  have:=Ai8 (·[0]?) h;simpa[Aja] using this
 have:=(Ai0.1 G).1;exact⟨this,by rw[<-Aje];exact G⟩
section
variable {Z2 Z0:Hp}{R:Rr}{s:ByteArray}
theorem Yp.one {Z2:Hp}{vs:List Value}{x:Cl}(h:Yp Z2 vs x):FZ vs:=by
 obtain⟨_,a,rfl⟩:=h;intro u G;simp only[Ai1,AjK,Ajl]at G;rcases G with rfl|rfl|rfl|rfl<;>rfl
theorem HX {p:Option Addr}{n c:Nat}{C0:List Cl}{k a v:Int}{t:ByteArray}{G:Option Addr->Nat->Nat->Hp->Prop}(h:AN 4 Yp Z0 Z2 p n c C0)(hb:n<=1000000)
  (hG:∀(p':Option Addr) (c':Nat) (y:Hp),AN 4 Yp Z0 y p' (n+1) c' (C0++[Ui k t v])->G p' (n+1) c' y) :
  Al Z2 λb=>AI prog (Builtin.append_ #[73,73] 73 #[.slice p n c,(.slice (aD b 0) 1 1)]) (Hp.set Z2 b (.cells #[.I k,.I a,.string t,.I v] 83 (0,0))) (CS λp' n' c' y=>G p' n' c' y):=λb Kq=>by
 have he:Yp (Z2.del p) [.I k,.I a,.string t,.I v] (Ui k t v):=⟨rfl,a,rfl⟩;exact AN.Ey Yp.mono h rfl he.one he (by omega) (λp' c' Z' ho hx=>⟨_,_,_,rfl,hG p' c' Z' ho⟩) Kq
theorem dU {p:Option Addr}{n c i:Nat}{x7a x7b x7d:Int}{s7c:ByteArray}{w l:List UInt8}(hb:s.size<=1000000)(hl:∀u,l.head?=some u->JA u=false)(hw:∀u∈w,JA u=true)
  (h:Al Z2 λb=>AI prog (Builtin.append_ #[73,73] 73 #[.slice p n c,(.slice (aD b 0) 1 1)]) (Hp.set Z2 b (.cells #[.I 3,.I (i:Int),.string (bA w),.I 0] 83 (0,0))) (CS λp' n' c' y=>AS.JP R s p' n' c' x7a x7b s7c x7d ((i+w.length:Nat):Int) y))
  (hd:s.data.toList.drop i=w++l) (hi:i<=s.size):∀g j:Nat,w.length-j=g->j<=w.length->AS.Xi R s p n c x7a x7b s7c x7d ((i+j:Nat):Int) (i:Int) Z2:=by
 have hlen:s.data.toList.length=s.size:=Ajd (xs:=s.data);have J1:i+w.length+l.length=s.size:=by
  have:=Ai8 List.length hd;rw[AjN,Ai5]at this;omega
 have fin:∃j0,YF prog (Instr.sliceAt 9 (.string s) (some (.I (i:Int))) (some (.I ((i+w.length:Nat):Int))) none) Z2 (.string j0)/\Al Z2 λj1=>AI prog (Builtin.append_ #[73,73] 73 #[.slice p n c,(.slice (aD j1 0) 1 1)]) (Hp.set Z2 j1 (.cells #[.I 3,.I (i:Int),.string j0,.I 0] 83 (0,0))) (CS λAAZ n154 AAa y=>AS.JP R s AAZ n154 AAa x7a x7b s7c x7d ((i+w.length:Nat):Int) y):=
  ⟨_,fR (by omega) (by omega),by rw[L3 hd];exact h⟩
 intro g
 induction g with
 | zero=>
  intro j hg hj;have Sz:j=w.length:=by omega
  subst Sz;refine AS.jz ⟨λAx=>?_,λ_=>fin⟩;cases l with
  | nil=>simp at J1;omega
  | cons u l=>
   obtain⟨h1,h2⟩:=Ev (B5 hd);have G:JA u=false:=hl u rfl;unfold JA at G;rw[AkD]at G;exact⟨u,by omega,by rw[AjM];exact h2,CP ⟨_,rfl,λtt=>absurd (G.1.symm.trans tt) (by decide),λ_=>⟨u,by omega,by rw[AjM];exact h2,CH ⟨_,rfl,λtt=>absurd (G.2.symm.trans tt) (by decide),λ_=>fin⟩⟩⟩⟩
 | succ g ih=>
  intro j hg hj;have Sz:j<w.length:=by omega
  obtain⟨u,hu⟩:∃u,w[j]?=some u:=⟨_,Ai3 Sz⟩;have h2:s.data[i+j]?=some u:=by
   rw[<-Aje];have:=Ai8 (·[j]?) hd;simp only[Aja]at this;rw[this,AjV Sz,hu]
  have G:=hw u (Ai6 hu);have next:AL (((i+j:Nat):Int)+1)/\AS.Xi R s p n c x7a x7b s7c x7d (((i+j:Nat):Int)+1) (i:Int) Z2:=⟨by unfold AL;omega,by
   have:=ih (j+1) (by omega) (by omega);rw[show((i+(j+1):Nat):Int)=((i+j:Nat):Int)+1 by omega]at this;exact this⟩
  refine AS.jz ⟨λ_=>⟨u,by omega,by rw[AjM];exact h2,CP ⟨_,rfl,λ_=>next,λfl=>⟨u,by omega,by rw[AjM];exact h2,CH ⟨_,rfl,λ_=>next,λfd=>?_⟩⟩⟩⟩,λhh=>by omega⟩;unfold JA at G;rw[fl,fd]at G;cases G
theorem lf {p:Option Addr}{n c i:Nat}{x7a x7b x7d:Int}{s7c:ByteArray}{w l:List UInt8}(hb:s.size<=1000000)(hl:∀u,l.head?=some u->DA u=false)(hw:∀u∈w,DA u=true)
  (h:if 0<L0 (bA w) then AS.IE R s p n c 2 (i:Int) (bA w) (L0 (bA w)) ((i+w.length:Nat):Int) Z2 else Gj (bA w)=true/\AS.IE R s p n c 1 (i:Int) (bA w) (L0 (bA w)) ((i+w.length:Nat):Int) Z2)
  (hd:s.data.toList.drop i=w++l) (hi:i<=s.size):∀g j:Nat,w.length-j=g->j<=w.length->AS.Xh R s p n c x7a x7b s7c x7d ((i+j:Nat):Int) (i:Int) Z2:=by
 have hlen:s.data.toList.length=s.size:=Ajd (xs:=s.data);have J1:i+w.length+l.length=s.size:=by
  have:=Ai8 List.length hd;rw[AjN,Ai5]at this;omega
 have hbw:(bA w).size<=1000000:=by
  have:(bA w).size=w.length:=by simp[bA,ByteArray.size]
  omega
 have fin:∃Gg,YF prog (Instr.sliceAt 9 (.string s) (some (.I (i:Int))) (some (.I ((i+w.length:Nat):Int))) none) Z2 (.string Gg)/\Spec prog 61 #[.string Gg] Z2 (Ab R (CI .i64 λLg y=>Br (0<Lg) (AS.IE R s p n c 2 (i:Int) Gg Lg ((i+w.length:Nat):Int) y) (Spec prog 62 #[.string Gg] y (Ab R (CB λt121 AE=>Bn t121 (R (.T #[.N,.I (i:Int),.I 172]) AE) (AS.IE R s p n c 1 (i:Int) Gg Lg ((i+w.length:Nat):Int) AE)))))):=by
  refine⟨_,fR (by omega) (by omega),?_⟩;rw[L3 hd];refine Sl (by omega) ⟨_,rfl,λhp=>?_,λhp=>I2 (by omega) ?_⟩
  .rw[Aiy hp]at h;exact h
  .rw[Aiw hp]at h;exact⟨_,rfl,λhf=>absurd (h.1.symm.trans hf) (by decide),λ_=>h.2⟩
 intro g
 induction g with
 | zero=>
  intro j hg hj;have Sz:j=w.length:=by omega
  subst Sz;refine AS.Vb ⟨λAx=>?_,λ_=>fin⟩;cases l with
  | nil=>simp at J1;omega
  | cons u l=>
   obtain⟨h1,h2⟩:=Ev (B5 hd);have G:DA u=false:=hl u rfl;unfold DA at G;rw[AkD,AkD,Aji]at G;have YG:¬((u.toNat:Nat):Int)=46:=λe=>G.2 ((QZ (k:=46) (by decide)).1 e);refine⟨u,by omega,by rw[AjM];exact h2,CH ⟨_,rfl,λtt=>absurd (G.1.1.symm.trans tt) (by decide),λ_=>⟨u,by omega,by rw[AjM];exact h2,CP ⟨_,rfl,λtl=>⟨u,by omega,by rw[AjM];exact h2,λh58=>?_,λ_=>⟨u,by omega,by rw[AjM];exact h2,λe=>absurd e YG,λ_=>fin⟩⟩,λ_=>⟨u,by omega,by rw[AjM];exact h2,λe=>absurd e YG,λ_=>fin⟩⟩⟩⟩⟩;have:=G.1.2;rw[tl,AkE,Aji]at this;exact absurd (λe=>h58 ((QZ (k:=58) (by decide)).2 e)) this
 | succ g ih=>
  intro j hg hj;have Sz:j<w.length:=by omega
  obtain⟨u,hu⟩:∃u,w[j]?=some u:=⟨_,Ai3 Sz⟩;have h2:s.data[i+j]?=some u:=by
   rw[<-Aje];have:=Ai8 (·[j]?) hd;simp only[Aja]at this;rw[this,AjV Sz,hu]
  have G:=hw u (Ai6 hu);have next:AL (((i+j:Nat):Int)+1)/\AS.Xh R s p n c x7a x7b s7c x7d (((i+j:Nat):Int)+1) (i:Int) Z2:=⟨by unfold AL;omega,by
   have:=ih (j+1) (by omega) (by omega);rw[show((i+(j+1):Nat):Int)=((i+j:Nat):Int)+1 by omega]at this;exact this⟩
  refine AS.Vb ⟨λ_=>⟨u,by omega,by rw[AjM];exact h2,CH ⟨_,rfl,λ_=>next,λfd=>⟨u,by omega,by rw[AjM];exact h2,CP ⟨_,rfl,λtl=>⟨u,by omega,by rw[AjM];exact h2,λ_=>next,λUG=>⟨u,by omega,by rw[AjM];exact h2,λ_=>next,λn46=>?_⟩⟩,λfl=>⟨u,by omega,by rw[AjM];exact h2,λ_=>next,λn46=>?_⟩⟩⟩⟩⟩,λhh=>by omega⟩
  .exfalso;unfold DA at G;rw[fd,AkL,Akx,AjD,AjH,AjH]at G;rcases G with G|G
   .exact UG λe=>G.2 ((QZ (k:=58) (by decide)).1 e)
   .exact n46 ((QZ (k:=46) (by decide)).2 G)
  .exfalso;unfold DA at G;rw[fd,fl,AkL,Aj8,AkL,AjH]at G;exact n46 ((QZ (k:=46) (by decide)).2 G)
theorem AMR {c:UInt8}(h:c∈qK):c.toNat≠32/\c.toNat≠9/\c.toNat≠13/\c.toNat≠10/\c.toNat≠34/\Cz c=false/\Tv c=false:=by
 have:∀c∈qK,c.toNat≠32/\c.toNat≠9/\c.toNat≠13/\c.toNat≠10/\c.toNat≠34/\Cz c=false/\Tv c=false:=by decide
 exact this c h
theorem AMS {c u:UInt8}(h:FP (bA [c,u]) Ma=true):c.toNat≠32/\c.toNat≠9/\c.toNat≠13/\c.toNat≠10/\c.toNat≠34/\Cz c=false/\Tv c=false:=by
 rw[j8]at h;have:∀x∈Ma,∀c,x.data.toList[0]?=some c->c.toNat≠32/\c.toNat≠9/\c.toNat≠13/\c.toNat≠10/\c.toNat≠34/\Cz c=false/\Tv c=false:=by
  intro x hx c G;simp only[Ma,Ai1,AjK,Ajl]at hx;rcases hx with rfl|rfl|rfl|rfl|rfl|rfl<;>(simp at G;subst G;decide)
 exact this _ h c rfl
theorem AMT {l:List UInt8}{ts:List Cl}(h:Lx l ts)(hb:s.size<=1000000):∀{i n c:Nat} {Z2:Hp} {p:Option Addr} {C0:List Cl} {x7a x7b x7d:Int} {s7c:ByteArray},s.data.toList.drop i=l->i<=s.size->AN 4 Yp Z0 Z2 p n c C0->n+ts.length<=1000000->
  (∀(Z':Hp) (p':Option Addr) (n' c':Nat),AN 4 Yp Z0 Z' p' n' c' (C0++ts)->R (.T #[.slice p' n' c',.I 0,.I 0]) Z')->AS.JP R s p n c x7a x7b s7c x7d (i:Int) Z2:=by
 have hlen:s.data.toList.length=s.size:=Ajd (xs:=s.data);have sgn:∀{i n c:Nat} {Z2:Hp} {p:Option Addr} {C0:List Cl} {x7a x7b x7d:Int} {s7c:ByteArray} {c0:UInt8} {l:List UInt8} (w:List UInt8),s.data.toList.drop i=c0::l->(c0.toNat≠32/\c0.toNat≠9/\c0.toNat≠13/\c0.toNat≠10/\c0.toNat≠34/\Cz c0=false/\Tv c0=false)->w≠[]->i+w.length<=s.size->
   (∀R':Rr,R' (.returned (.string (bA w))) Z2->Spec prog 60 #[.string (s.extract i s.size)] Z2 R')->AN 4 Yp Z0 Z2 p n c C0->n<=1000000->(∀(p':Option Addr) (c':Nat) (y:Hp),AN 4 Yp Z0 y p' (n+1) c' (C0++[Ui 5 (bA w) 0])->AS.JP R s p' (n+1) c' x7a x7b s7c x7d ((i+w.length:Nat):Int) y)->
   AS.JP R s p n c x7a x7b s7c x7d (i:Int) Z2:=fun {i n c Z2 p C0 x7a x7b x7d s7c c0 l} w hd G hw hle hsg ho hn hG=>by
  obtain⟨h1,h2⟩:=Ev hd;obtain⟨k1,k2,k3,k4,k5,k6,k7⟩:=G;have hws:(bA w).size=w.length:=by simp[bA,ByteArray.size]
  have hwp:0<w.length:=All.2 hw;refine AS.IN ⟨λhh=>by omega,λ_=>⟨c0,by omega,by rw[AjM];exact h2,λe=>absurd e (by omega),λ_=>⟨λe=>absurd e (by omega),λ_=>⟨λe=>absurd e (by omega),λ_=>⟨λe=>absurd e (by omega),λ_=>CH ⟨_,rfl,λtt=>absurd (k6.symm.trans tt) (by decide),λ_=>CP ⟨_,rfl,λtt=>absurd (k7.symm.trans tt) (by decide),λ_=>⟨λe=>absurd e (by omega),λ_=>⟨_,Px (by omega),hsg _ ⟨_,rfl,λ_=>HX ho hn λp' c' y Di=>⟨by unfold AL;omega,?_⟩,λhe=>?_⟩⟩⟩⟩⟩⟩⟩⟩⟩⟩
  .have:=hG p' c' y Di;rw[hws,show((i+w.length:Nat):Int)=(i:Int)+(w.length:Int) by omega]at *;exact this
  .rw[j7,AjH]at he;omega
 induction h with
 | fin=>
  intro i n c Z2 p C0 x7a x7b x7d s7c hd hi ho hn hR;have:s.size<=i:=by
   have:=Ai8 List.length hd;rw[AjN]at this;simp at this;omega
  refine AS.IN ⟨λ_=>HX ho (by simp at hn;omega) λp' c' y Di=>hR y p' _ c' Di,λhh=>by omega⟩
 | @sp l ts h ih=>
  intro i n c Z2 p C0 x7a x7b x7d s7c hd hi ho hn hR;obtain⟨h1,h2⟩:=Ev hd;have hd':s.data.toList.drop (i+1)=l:=B5 (a:=[32]) hd;exact AS.IN ⟨λhh=>by omega,λ_=>⟨32,by omega,by rw[AjM];exact h2,λ_=>⟨by unfold AL;omega,ih hd' h1 ho hn hR⟩,λhh=>absurd (by decide) hh⟩⟩
 | @word c0 w l ts G bN hw hl h ih=>
  intro i n c Z2 p C0 x7a x7b x7d s7c hd hi ho hn hR;obtain⟨h1,h2⟩:=Ev (l:=w++l) hd;have hlc:=AjA G;rw[Aix]at hn;have hlw:i+(w.length+1)<=s.size:=by
   have:=Ai8 List.length hd;rw[AjN,Ai5,Aix]at this;omega
  refine AS.IN ⟨λhh=>by omega,λ_=>⟨c0,by omega,by rw[AjM];exact h2,λe=>absurd e (by omega),λ_=>⟨λe=>absurd e (by omega),λ_=>⟨λe=>absurd e (by omega),λ_=>⟨λe=>absurd e (by omega),λ_=>CH ⟨_,rfl,λtt=>absurd (bN.symm.trans tt) (by decide),λ_=>CP ⟨_,rfl,λ_=>?_,λff=>absurd (G.symm.trans ff) (by decide)⟩⟩⟩⟩⟩⟩⟩;refine dU (w:=c0::w) hb hl (λu hu=>?_) (HX ho (by omega) λp' c' y Di=>ih (B5 hd) (by rw[Aix];omega) Di (by omega) λZ' p2 n2 c2 Bq=>hR Z' p2 n2 c2 (by rw[AjT]at Bq;exact Bq)) hd hi (w.length+1) 0 rfl (AjB _);rcases Ai1.1 hu with rfl|hu
  .unfold JA;rw[G];rfl
  .exact hw u hu
 | @num c0 w l ts G hw hl hs ht h ih=>
  intro i n c Z2 p C0 x7a x7b x7d s7c hd hi ho hn hR;obtain⟨h1,h2⟩:=Ev (l:=w++l) hd;have hlc:=AjA G;rw[Aix]at hn;have hlw:i+(w.length+1)<=s.size:=by
   have:=Ai8 List.length hd;rw[AjN,Ai5,Aix]at this;omega
  refine AS.IN ⟨λhh=>by omega,λ_=>⟨c0,by omega,by rw[AjM];exact h2,λe=>absurd e (by omega),λ_=>⟨λe=>absurd e (by omega),λ_=>⟨λe=>absurd e (by omega),λ_=>⟨λe=>absurd e (by omega),λ_=>CH ⟨_,rfl,λ_=>?_,λff=>absurd (G.symm.trans ff) (by decide)⟩⟩⟩⟩⟩⟩;refine lf (w:=c0::w) hb hl (λu hu=>?_) ?_ hd hi (w.length+1) 0 rfl (AjB _)
  .rcases Ai1.1 hu with rfl|hu
   .unfold DA;rw[G];rfl
   .exact hw u hu
  .rw[hs,Aiw (by decide)];exact⟨ht,AS.Xk (HX ho (by omega) λp' c' y Di=>ih (B5 hd) (by rw[Aix];omega) Di (by omega) λZ' p2 n2 c2 Bq=>hR Z' p2 n2 c2 (by rw[AjT]at Bq;exact Bq))⟩
 | @span c0 w l ts G hw hl hs h ih=>
  intro i n c Z2 p C0 x7a x7b x7d s7c hd hi ho hn hR;obtain⟨h1,h2⟩:=Ev (l:=w++l) hd;have hlc:=AjA G;rw[Aix]at hn;have hlw:i+(w.length+1)<=s.size:=by
   have:=Ai8 List.length hd;rw[AjN,Ai5,Aix]at this;omega
  refine AS.IN ⟨λhh=>by omega,λ_=>⟨c0,by omega,by rw[AjM];exact h2,λe=>absurd e (by omega),λ_=>⟨λe=>absurd e (by omega),λ_=>⟨λe=>absurd e (by omega),λ_=>⟨λe=>absurd e (by omega),λ_=>CH ⟨_,rfl,λ_=>?_,λff=>absurd (G.symm.trans ff) (by decide)⟩⟩⟩⟩⟩⟩;refine lf (w:=c0::w) hb hl (λu hu=>?_) ?_ hd hi (w.length+1) 0 rfl (AjB _)
  .rcases Ai1.1 hu with rfl|hu
   .unfold DA;rw[G];rfl
   .exact hw u hu
  .rw[Aiy hs];exact AS.Xk (HX ho (by omega) λp' c' y Di=>ih (B5 hd) (by rw[Aix];omega) Di (by omega) λZ' p2 n2 c2 Bq=>hR Z' p2 n2 c2 (by rw[AjT]at Bq;exact Bq))
 | @one c0 l ts G h2 h ih=>
  intro i n c Z2 p C0 x7a x7b x7d s7c hd hi ho hn hR;obtain⟨k1,k2⟩:=Ev hd;rw[Aix]at hn;have hex:(s.extract i s.size).data.toList=c0::l:=by rw[Sm,hd];exact Ai4 (by have:=Ai8 List.length hd;rw[AjN]at this;omega)
  have e1:(s.extract i s.size).extract 0 1=bA [c0]:=L3 (i:=0) (a:=[c0]) (l:=l) hex;refine sgn [c0] hd (AMR G) (by simp) (by rw[Ajc];omega) (λR' Mf=>Um (c:=c0) (by rw[hex];rfl) (λhg=>?_) G (by rw[e1];exact Mf)) ho (by omega) λp' c' y Di=>ih (B5 (a:=[c0]) hd) (by rw[Ajc];omega) Di (by omega) λZ' p2 n2 c2 Bq=>hR Z' p2 n2 c2 (by rw[AjT]at Bq;exact Bq);cases l with
  | nil=>
   have:(s.extract i s.size).size=1:=by
    have:=Ai8 List.length hex;exact this
   omega
  | cons u l=>
   have e2:(s.extract i s.size).extract 0 2=bA [c0,u]:=L3 (i:=0) (a:=[c0,u]) (l:=l) hex;rw[e2];exact h2 u rfl
 | @two c0 u l ts h2 h ih=>
  intro i n c Z2 p C0 x7a x7b x7d s7c hd hi ho hn hR;obtain⟨k1,k2⟩:=Ev hd;rw[Aix]at hn;have hex:(s.extract i s.size).data.toList=c0::u::l:=by rw[Sm,hd];exact Ai4 (by have:=Ai8 List.length hd;rw[AjN]at this;omega)
  have e2:(s.extract i s.size).extract 0 2=bA [c0,u]:=L3 (i:=0) (a:=[c0,u]) (l:=l) hex;have J1:i+2<=s.size:=by
   have:=Ai8 List.length hd;rw[AjN,Aix,Aix]at this;omega
  have hes:1<(s.extract i s.size).size:=by
   have:=Ai8 List.length hex;rw[Aix,Aix]at this;have:(s.extract i s.size).size=l.length+2:=this;omega
  exact sgn [c0,u] hd (AMS h2) (by simp) (by simpa using J1) (λR' Mf=>Ul hes (by rw[e2];exact h2) (by rw[e2];exact Mf)) ho (by omega) λp' c' y Di=>ih (B5 (a:=[c0,u]) hd) (by simpa using J1) Di (by omega) λZ' p2 n2 c2 Bq=>hR Z' p2 n2 c2 (by rw[AjT]at Bq;exact Bq)
theorem ACi {ts:List Cl}(h:Lx s.data.toList ts)(hb:s.size<=4096)(hn:ts.length<=100000)
  (hR:∀(Z':Hp) (p':Option Addr) (G c':Nat),AN 4 Yp Z2 Z' p' G c' ts->R (.T #[.slice p' G c',.I 0,.I 0]) Z'):Spec prog 28 #[.string s] Z2 R:=
 AS.start λ_=>⟨λhh=>by omega,λ_=>AMT h (by omega) (i:=0) rfl (AjB _) (AN.nil (.refl _)) (by omega) hR⟩
end
theorem wu (w:World):(binOp BinOp.neq 20 .nilIface .nilIface).run prog w=.ok (.bool false) w:=by kernel_rfl
theorem Yx (p q r:Value)(w:World):CallsD prog 29 #[p,q,r] .returning w λe u' w'=>e=.T #[]/\u'=.returning/\w'=w:=by
 refine callsD_of_wpS func29 rfl λG cs hu=>?_;apply wpS_seq
 apply wpS_region
 simp[wpOpsS,go_sem,recoverD,hu,Exit.thenS];apply wpS_seq
 apply wpS_region
 simp[wpOpsS,go_sem,Exit.thenS,wu];refine wpS_cond (t:=false) (by simp[Act.eval,Array.replicate,ntmps29]) ?_;simp only[AkP,AkO];refine wpS_of_wp (wp_skip ?_);cases G
 simp_all [bodyPostS,results,results29,Exit.thenS]
theorem A7 {w:World}{b:Nat}{x v:Value}{T:TypeId}(h:w.heap[b]?=some (.cells #[x] T (0,0))):(w.setCell ⟨b,0,none⟩ v).heap[b]?=some (.cells #[v] T (0,0))/\(∀k,k≠b->(w.setCell ⟨b,0,none⟩ v).heap[k]?=w.heap[k]?)/\(w.setCell ⟨b,0,none⟩ v).heap.size=w.heap.size:=by
 have Ax:b<w.heap.size:=(AjF.1 h).1;refine⟨?_,λk G=>?_,by simp[World.setCell]⟩
 .simp only[World.setCell,AkW,AkQ,h];rfl
 .simp only[World.setCell,AkW,Aiw (AjI G)]
theorem Dx {w:World}{b:Nat}{x:Value}{T:TypeId}(h:w.heap[b]?=some (.cells #[x] T (0,0))):w.cell? ⟨b,0,none⟩=some x/\w.frozen? ⟨b,0,none⟩=false:=by
 simp only[World.cell?,World.frozen?,h];exact⟨rfl,rfl⟩
theorem AIc {w:World}{b i:Nat}{c:Array Value}{v:Value}{T:TypeId}(h:w.heap[b]?=some (.cells c T (0,0)))(hv:c[i]?=some v):w.cell? ⟨b,i,none⟩=some v:=by
 simp only[World.cell?,h];exact hv
set_option maxRecDepth 100000 in
theorem ACj (s:ByteArray)(w w1:World)(aj:w1=((w.alloc (.cells #[.N] 32)).alloc (.cells #[.I 0] 3)).alloc (.cells #[.I 0] 24)){R:Ending->World->Prop}
  (h:Calls prog 28 #[.string s] w1 λe G=>∃p n c,e=.T #[.slice p n c,.I 0,.I 0]/\G.heap[w.heap.size]?=some (.cells #[.N] 32 (0,0))/\G.heap[w.heap.size+1]?=some (.cells #[.I 0] 3 (0,0))/\G.heap[w.heap.size+1+1]?=some (.cells #[.I 0] 24 (0,0))/\
   Calls prog 30 #[.pointer (aD G.heap.size 0)] (((G.setCell ⟨w.heap.size+1,0,none⟩ (.I 0)).setCell ⟨w.heap.size+1+1,0,none⟩ (.I 0)).alloc (.cells #[.slice p n c,.I 0,.N] 78)) λe w4=>e=.T #[]/\
   Calls prog 31 #[.pointer (aD G.heap.size 0)] w4 λe w5=>∃(a v:Int) (t:ByteArray) (p:Option Addr) (n c:Nat) (q:Option Addr) (m k:Nat),e=.returned (.agg #[.I 0,.I a,.string t,.I v])/\w5.heap[w.heap.size]?=some (.cells #[.N] 32 (0,0))/\w5.heap[w.heap.size+1]?=some (.cells #[.I 0] 3 (0,0))/\w5.heap[w.heap.size+1+1]?=some (.cells #[.I 0] 24 (0,0))/\
    w5.heap[G.heap.size]?=some (.cells #[.slice p n c,.I 0,.slice q m k] 78 (0,0))/\R (.T #[.slice q m k,.I 0,.I 0]) (((w5.setCell ⟨w.heap.size,0,none⟩ (.slice q m k)).setCell ⟨w.heap.size+1,0,none⟩ (.I 0)).setCell ⟨w.heap.size+1+1,0,none⟩ (.I 0))):Calls prog 8 #[.string s] w R:=by
 have hmf:∀(fn:Fn) (first cap:Array Value) (w:World),(Instr.makeFunc fn first cap).run prog w=.ok (.func fn first cap) w:=λ_ _ _ _=>rfl
 go_enter_defers func8,ntmps8
 go_wp2
 rename_i K1 ha1 K2 ha2;rw[<-aj];refine h.mono ?_
 rintro e G ⟨p,n,c,rfl,xE,I4,F7,h⟩
 obtain⟨c1,f1⟩:=Dx I4;obtain⟨s1,s2,s3⟩:=A7 (v:=.I 0) I4;have Yy:=F7;rw[<-s2 _ (by omega)]at Yy;obtain⟨c2,f2⟩:=Dx Yy;obtain⟨t1,t2,t3⟩:=A7 (v:=.I 0) Yy;have c3:=Dx t1;apply ha2
 go_wp2
 refine h.mono ?_
 rintro e w4 ⟨rfl,h⟩
 rename_i K3 ha3 K4 ha4;apply ha4
 go_wp2
 refine h.mono ?_
 rintro e w5 ⟨a,v,t,p5,n5,c5,q,m,k,rfl,g0,g1,g2,gp,hR⟩
 rename_i K6 ha6;have cq:w5.cell? ⟨G.heap.size,2,none⟩=some (.slice q m k):=AIc gp rfl;obtain⟨d0,e0⟩:=Dx g0;obtain⟨u1,u2,u3⟩:=A7 (v:=.slice q m k) g0;have g1':=g1;rw[<-u2 _ (by omega)] at g1';obtain⟨d1,e1⟩:=Dx g1';obtain⟨v1,v2,v3⟩:=A7 (v:=.I 0) g1';have g2':=g2;rw[<-u2 _ (by omega),<-v2 _ (by omega)] at g2';obtain⟨d2,e2⟩:=Dx g2';obtain⟨x1,x2,x3⟩:=A7 (v:=.I 0) g2';have r2:=(Dx x1).1;rw[<-x2 _ (by omega)]at v1;have r1:=(Dx v1).1;rw[<-v2 _ (by omega),<-x2 _ (by omega)]at u1;have r0:=(Dx u1).1;have hfl:∀w:World,(Instr.field 83 (.agg #[.I 0,.I a,.string t,.I v]) 0).run prog w=.ok (.I 0) w:=λw=>by kernel_rfl
 apply ha6
 go_wp2
 simp only[bodyPostD];refine leaves_cons (f:=29) (args:=#[.pointer (aD w.heap.size 0),.pointer (aD (w.heap.size+1) 0),.pointer (aD (w.heap.size+1+1) 0)]) (by simp) (by simp[go_sem]) ?_;refine(Yx _ _ _ _).mono ?_
 rintro e u' w'' ⟨rfl,rfl,rfl⟩
 simp[Leaves,settle,results,results8,go_sem,r0,r1,r2];exact hR
theorem qM {s:ByteArray}{ts r:List Cl}{T:List Nd}{Z2:Hp}{R:Rr}{f:Nat}{cl:Cl}(hl:Lx s.data.toList ts)(hs:s.size<=4096)(hn:ts.length<=100000)(hT:T.length<=1000000)(hz:pz f 0 0 ts=some (cl::r,T))(G:cl.kind=0)
  (hR:∀(Z':Hp) (p:Option Addr) (n c:Nat),Af 10 H8 Z' p n T->Ext Z2 Z'->R (.T #[.slice p n c,.I 0,.I 0]) Z'):Spec prog 8 #[.string s] Z2 R:=λw F Vp hF=>by
 have e1:(((w.alloc (.cells #[.N] 32)).alloc (.cells #[.I 0] 3)).alloc (.cells #[.I 0] 24)).heap=((w.heap.push (.cells #[.N] 32)).push (.cells #[.I 0] 3)).push (.cells #[.I 0] 24):=rfl;generalize aj:((w.alloc (.cells #[.N] 32)).alloc (.cells #[.I 0] 3)).alloc (.cells #[.I 0] 24)=w1 at e1;have Rv:w1.os=w.os/\w1.tape=w.tape/\w1.drawn=w.drawn/\w1.output=w.output:=by subst aj;exact⟨rfl,rfl,rfl,rfl⟩
 have J1:w1.heap.size=w.heap.size+3:=by rw[e1];simp
 have hold:∀k:Nat,k<w.heap.size->w1.heap[k]?=w.heap[k]?:=λk G=>by
  rw[e1,AjO,Aiw (by simp;omega),AjO,Aiw (by simp;omega),AjO,Aiw (by omega)]
 have n0:w1.heap[w.heap.size]?=some (.cells #[.N] 32 (0,0)):=by
  rw[e1,AjO,Aiw (by simp;omega),AjO,Aiw (by simp),AjO,Aiy rfl]
 have n1:w1.heap[w.heap.size+1]?=some (.cells #[.I 0] 3 (0,0)):=by
  rw[e1,AjO,Aiw (by simp),AjO,Aiy (by simp)]
 have n2:w1.heap[w.heap.size+1+1]?=some (.cells #[.I 0] 24 (0,0)):=by
  rw[e1,AjO,Aiy (by simp)]
 have Ax:∀b o,Z2 b=some o->b<w.heap.size:=λb o hb=>(AjF.1 (Vp b o hb)).1;have G6:∀b,w.heap.size<=b->Z2 b=none:=λb hb=>by
  cases h:Z2 b with
  | none=>rfl
  | some o=>have:=Ax b o h;omega
 let F1:Nat->Prop:=λk=>F k\/(w.heap.size<=k/\k<w.heap.size+3)
 refine ACj s w w1 aj.symm ((ACi (Z2:=Z2) (R:=λe Z'=>∃(p':Option Addr) (n' c':Nat),e=.T #[.slice p' n' c',.I 0,.I 0]/\AN 4 Yp Z2 Z' p' n' c' ts) hl hs hn (λZ' p' n' c' ho=>⟨p',n',c',rfl,ho⟩) w1 F1 (λb o hb=>by rw[hold b (Ax b o hb)];exact Vp b o hb) (λk G=>?_)).mono ?_)
 .rcases G with G|G
  .exact⟨by have:=(hF k G).1;omega,(hF k G).2⟩
  .exact⟨by omega,G6 k G.1⟩
 rintro e w2 ⟨Z22,⟨p,n,c,rfl,ho⟩,hf⟩
 have m0:=((hf.BI w.heap.size (.inr ⟨by omega,by omega⟩)).2).trans n0;have m1:=((hf.BI (w.heap.size+1) (.inr ⟨by omega,by omega⟩)).2).trans n1;have m2:=((hf.BI (w.heap.size+1+1) (.inr ⟨by omega,by omega⟩)).2).trans n2;have hz2:w.heap.size+3<=w2.heap.size:=by have:=hf.grow;omega
 refine⟨p,n,c,rfl,m0,m1,m2,?_⟩;obtain⟨a1,a2,a3⟩:=A7 (v:=.I 0) m1;have m2':=m2;rw[<-a2 _ (by omega)] at m2';obtain⟨b1,b2,b3⟩:=A7 (v:=.I 0) m2';have e3:(((w2.setCell ⟨w.heap.size+1,0,none⟩ (.I 0)).setCell ⟨w.heap.size+1+1,0,none⟩ (.I 0)).alloc (.cells #[.slice p n c,.I 0,.N] 78)).heap=(((w2.setCell ⟨w.heap.size+1,0,none⟩ (.I 0)).setCell ⟨w.heap.size+1+1,0,none⟩ (.I 0)).heap).push (.cells #[.slice p n c,.I 0,.N] 78):=rfl;generalize hw3:((w2.setCell ⟨w.heap.size+1,0,none⟩ (.I 0)).setCell ⟨w.heap.size+1+1,0,none⟩ (.I 0)).alloc (.cells #[.slice p n c,.I 0,.N] 78)=w3 at e3;have Dh:w3.os=w2.os/\w3.tape=w2.tape/\w3.drawn=w2.drawn/\w3.output=w2.output:=by subst hw3;exact⟨rfl,rfl,rfl,rfl⟩
 have AbY:w3.heap.size=w2.heap.size+1:=by rw[e3];simp[b3,a3]
 have Yz:∀k:Nat,k<w2.heap.size->k≠w.heap.size+1->k≠w.heap.size+1+1->w3.heap[k]?=w2.heap[k]?:=λk G h1 h2=>by
  rw[e3,AjO,Aiw (by rw[b3,a3];omega),b2 k h2,a2 k h1]
 have q0:w3.heap[w.heap.size]?=some (.cells #[.N] 32 (0,0)):=by rw[Yz _ (by omega) (by omega) (by omega)];exact m0
 have q1:w3.heap[w.heap.size+1]?=some (.cells #[.I 0] 3 (0,0)):=by
  rw[e3,AjO,Aiw (by rw[b3,a3];omega),b2 _ (by omega)];exact a1
 have q2:w3.heap[w.heap.size+1+1]?=some (.cells #[.I 0] 24 (0,0)):=by
  rw[e3,AjO,Aiw (by rw[b3,a3];omega)];exact b1
 have q3:w3.heap[w2.heap.size]?=some (.cells #[.slice p n c,.I 0,.N] 78 (0,0)):=by
  rw[e3,AjO,Aiy (by rw[b3,a3])]
 have pJ:∀b o,Z22 b=some o->b<w2.heap.size:=λb o hb=>(AjF.1 (hf.sat b o hb)).1;have mN:Z22 w2.heap.size=none:=by
  cases h:Z22 w2.heap.size with
  | none=>rfl
  | some o=>have:=pJ _ o h;omega
 have hF1:∀k,F1 k->k<w2.heap.size/\Z22 k=none:=λk G=>⟨by
  rcases G with G|G
  .have:=(hF k G).1;omega
  .omega,(hf.BI k G).1⟩
 have Tm:n<=c:=by
  obtain⟨⟨_,cs,h1,_⟩,_⟩:=ho;exact BH.cap h1
 have hu:B4 Z22 Z22 w2.heap.size p n c none 0 0 ts []:=⟨mN,(ho.rd Yp.mono),Tm,AN.nil (.refl _)⟩;have hpz:=AUR f 0 0 ts (cl::r) T hz (by decide) (by decide) (by decide) (by decide) hu (by omega) (R:=λe y=>e=.T #[]/\∃(ρ':Hp) (p' q':Option Addr) (n' c' m' e':Nat),y=ρ'.set w2.heap.size (pO p' n' c' 0 q' m' e')/\B4 Z22 ρ' w2.heap.size p' n' c' q' m' e' (cl::r) T) (λρ' p' q' n' c' m' e' Bi=>⟨rfl,ρ',p',q',n',c',m',e',rfl,by rw[Aj9]at Bi;exact Bi⟩);rw[I9,Aiw (by decide)]at hpz;refine(hpz w3 F1 (λb o hb=>?_) (λk G=>?_)).mono ?_
 .by_cases hbb:b=w2.heap.size
  .subst hbb;rw[Hp.AA]at hb;cases hb;exact q3
  .rw[Hp.AB hbb]at hb;have F7:=pJ b o hb;have hF':¬(w.heap.size<=b/\b<w.heap.size+3):=λhh=>by
    have:=(hf.BI b (.inr hh)).1;rw[this]at hb;cases hb
   rw[Yz b F7 (by omega) (by omega)];exact hf.sat b o hb
 .have:=hF1 k G;exact⟨by omega,by rw[Hp.AB (by omega)];exact this.2⟩
 rintro e w4 ⟨Z4,⟨rfl,ρ',p',q',n',c',m',e',rfl,Bi⟩,Pd⟩
 refine⟨rfl,?_⟩;refine((BF (d:=0) (R:=λe y=>y=ρ'.set w2.heap.size (pO p' n' c' 0 q' m' e')/\∃a:Int,e=.returned (.agg #[.I 0,.I a,.string cl.text,.I cl.span])) Bi (λa=>⟨rfl,a,by rw[G]⟩)) w4 F1 Pd.sat (λk G=>⟨by have:=hF1 k G;have:=Pd.grow;omega,(Pd.BI k G).1⟩)).mono ?_
 rintro e w5 ⟨Z5,⟨rfl,a,rfl⟩,YX⟩
 have hg:∀k,F1 k->w5.heap[k]?=w3.heap[k]?:=λk G=>((YX.BI k G).2).trans (Pd.BI k G).2;have x0:=(hg _ (.inr ⟨by omega,by omega⟩)).trans q0;have x1:=(hg _ (.inr ⟨by omega,by omega⟩)).trans q1;have x2:=(hg _ (.inr ⟨by omega,by omega⟩)).trans q2;have x3:=YX.sat w2.heap.size _ (Hp.AA _ _ _);refine⟨a,cl.span,cl.text,p',n',c',q',m',e',rfl,x0,x1,x2,x3,ρ',hR ρ' q' m' e' (Bi.out.rd H8.mono) ?_,?_⟩
 .exact(ho.up).trans Bi.out.up
 .obtain⟨y1,y2,y3⟩:=A7 (v:=.slice q' m' e') x0;have x1':=x1;rw[<-y2 _ (by omega)] at x1';obtain⟨z1,z2,z3⟩:=A7 (v:=.I 0) x1';have x2':=x2;rw[<-y2 _ (by omega),<-z2 _ (by omega)] at x2';obtain⟨v1,v2,v3⟩:=A7 (v:=.I 0) x2';have same:∀k,k≠w.heap.size->k≠w.heap.size+1->k≠w.heap.size+1+1->(((w5.setCell ⟨w.heap.size,0,none⟩ (.slice q' m' e')).setCell ⟨w.heap.size+1,0,none⟩ (.I 0)).setCell ⟨w.heap.size+1+1,0,none⟩ (.I 0)).heap[k]?=w5.heap[k]?:=λk h1 h2 h3=>by
   rw[v2 k h3,z2 k h2,y2 k h1]
  refine⟨λb o hb=>?_,λk G=>?_,?_,?_,?_⟩
  .have Ad:∀j,F1 j->b≠j:=λj hj e=>by
    have:=(Pd.BI j hj).1;have h5:(ρ'.set w2.heap.size (pO p' n' c' 0 q' m' e')) b=some o:=by rw[Hp.AB (λe'=>by rw[e',Bi.pb]at hb;cases hb)];exact hb
    rw[e,this]at h5;cases h5
   rw[same b (Ad _ (.inr ⟨by omega,by omega⟩)) (Ad _ (.inr ⟨by omega,by omega⟩)) (Ad _ (.inr ⟨by omega,by omega⟩))];exact YX.sat b o (by rw[Hp.AB (λe'=>by rw[e',Bi.pb]at hb;cases hb)];exact hb)
  .have C8:=hF k G;have h5:=(YX.BI k (.inl G)).1;refine⟨?_,?_⟩
   .by_cases MR:k=w2.heap.size
    .omega
    .rw[Hp.AB MR]at h5;exact h5
   .rw[same k (by omega) (by omega) (by omega),hg k (.inl G),Yz k (by omega) (by omega) (by omega),(hf.BI k (.inl G)).2,hold k C8.1]
  .exact(Bj.same Rv.1 Rv.2.1 Rv.2.2.1).trans (hf.os.trans ((Bj.same Dh.1 Dh.2.1 Dh.2.2.1).trans (Pd.os.trans (YX.os.trans (Bj.same rfl rfl rfl)))))
  .exact YX.out.trans (Pd.out.trans (Dh.2.2.2.trans (hf.out.trans Rv.2.2.2)))
  .rw[v3,z3,y3];have:=YX.grow;have:=Pd.grow;omega
def G1 (n:Nat)(f:Nat->Int):List (Int×Int):=(List.range n).map λ(i:Nat)=>((i:Int),f i)
theorem Kk (n:Nat)(f:Nat->Int):G1 (n+1) f=G1 n f++[((n:Int),f n)]:=by simp[G1,List.range_succ]
theorem tS {n i:Nat}{f:Nat->Int}(h:n<=i):∀a∈G1 n f,a.1≠(i:Int):=λa G=>by
 obtain⟨j,hj,rfl⟩:=Ajf.1 G;have:=AkS.1 hj;show((j:Int))≠_
 omega
theorem qN {n:Nat}{f g:Nat->Int}(h:∀j,j<n->g j=f j):G1 n g=G1 n f:=List.map_congr_left λj G=>by rw[h j (AkS.1 G)]
theorem Rb {i:Nat}{f:Nat->Int}:∀{n:Nat},i<n->∃G L2,G1 n f=G++((i:Int),f i)::L2/\(∀a∈G,a.1≠(i:Int))/\∀g:Nat->Int,(∀j,j≠i->g j=f j)->G1 n g=G++((i:Int),g i)::L2
 | n+1,h=>by
  by_cases e:i=n
  .subst e;refine⟨G1 i f,[],Kk i f,tS (Ai7 _),λg hg=>?_⟩;rw[Kk,qN λj hj=>hg j (by omega)]
  .obtain⟨G,L2,h1,h2,h3⟩:=Rb (n:=n) (f:=f) (show i<n by omega);refine⟨G,L2++[((n:Int),f n)],by rw[Kk,h1,AjT];rfl,h2,λg hg=>?_⟩;rw[Kk,h3 g hg,hg n (AjI e),AjT];rfl
def gQ (f:Nat->Int)(i:Nat)(v:Int):Nat->Int:=λj=>if j=i then v else f j
theorem AGC {f:Nat->Int}{i:Nat}{v:Int}:∀j,j≠i->gQ f i v j=f j:=λj h=>Aiw h
theorem AGD {f:Nat->Int}{i:Nat}{v:Int}:gQ f i v i=v:=Aiy rfl
theorem dV {n i:Nat}{f:Nat->Int}(h:i<n):Gk (G1 n f) i=some (f i):=by
 obtain⟨L1,L2,G,h2,_⟩:=Rb (f:=f) h;rw[G,dJ h2]
theorem lg {n i:Nat}{f:Nat->Int}{v:Int}(h:i<n):JS (G1 n f) i v=G1 n (gQ f i v):=by
 obtain⟨L1,L2,G,h2,h3⟩:=Rb (f:=f) h;rw[G,lE h2,h3 _ AGC,AGD]
theorem Sn {n:Nat}{f:Nat->Int}:JS (G1 n f) n (f n)=G1 (n+1) f:=by
 rw[dI (tS (Ai7 _)),Kk]
def tsX:List Cl:=[Ui 3 (bA [120]) 0,Ui 0 ⟨#[]⟩ 0]
theorem lxX:Lx sX.data.toList tsX:=Lx.word (c:=120) (w:=[]) (l:=[]) (by decide) (by decide) (λu G=>by cases G) (λu G=>by cases G) Lx.fin
theorem pzX:pz 40 0 0 tsX=some ([Ui 0 ⟨#[]⟩ 0],TX):=by kernel_rfl
def oa:Hp:=λ_=>none
theorem ACk (Z2:Hp):Z2.or oa=Z2:=by
 funext k
 cases G:Z2 k with
 | some u=>rw[Hp.DZ G]
 | none=>rw[Hp.EH G];rfl
theorem tT (Z2:Hp):Gi Z2 oa:=λk G=>absurd rfl G
def PT (n w:Int):Int:=if n-w<0 then 0 else n-w
section
variable {Z2 ρ M:Hp}{R:Rr}
theorem Y0 {t:Int}(G:-1099511627776<=t/\t<=1099511627776)(h:R (.B true) Z2):Spec prog 25 #[.I t] Z2 R:=
 Ld.start ⟨λ_=>by rw[AjC G.2];exact h,λhh=>absurd G.1 hh⟩
theorem qP {p pt:Option Addr}{n c ct b m fm:Nat}{e rf w:Int}{ms:List Mem}(hr:RdM ρ p n ms)(hid:∀(i:Nat) (x:Mem),ms[i]?=some x->x.id=i)(uc:1<=rf/\rf<=5)(hw:IntKind.i64.wrap (Int.tdiv (rf-1) 2)=w)(hw2:0<=w/\w<=2)(hn:n<=1000)(G:b≠m)(mW:b≠fm)(hmf:m≠fm)(rT:Af 10 H8 ρ pt 1 TX)
  (hR:∀M',QU ⟨PT n w,false,0,false,G1 n λ_=>0,[],[]⟩ ρ M' b m fm->R (.T #[.pointer (aD b 0),.I 0]) (ρ.or M')) :
  ∀(d k:Nat) (M:Hp),n-k=d->k<=n->Gi ρ M->M b=some (.cells (qL pt ct m 0 false 0 none 0 0 fm none 0 0 .nilFunc) 72 (0,0))->MZ .i64 M m (G1 k λ_=>0)->MZ .u64 M fm []->
   CM.jI R rf e p n c (aD b 0) p n c (n:Int) (k:Int) (ρ.or M):=by
 intro d
 induction d with
 | zero=>
  intro k M hd hk D hM hm hf;obtain rfl:k=n:=by omega
  have nb:ρ b=none:=D b (by rw[hM];simp);refine CM.VY ⟨λhh=>by omega,λ_=>⟨by unfold AL;omega,by decide,λx hx=>⟨by rw[hx,hw];unfold AL;omega,b,0,rfl,?_⟩⟩⟩;rw[hx,hw];refine AI.wX AB8 (Ba D hM) rfl rfl rfl AIR ?_;rw[Bf nb];have D3:Gi ρ (M.set b (.cells (qL pt ct m (PT k w) false 0 none 0 0 fm none 0 0 .nilFunc) 72 (0,0))):=IU D nb;refine AI.wX Vh (Ba D3 (Hp.AA _ _ _)) rfl rfl rfl gD ?_;rw[Bf nb,Hp.set_set];exact hR _ ⟨IU D nb,G,mW,hmf,⟨pt,ct,none,0,0,none,0,0,Hp.AA _ _ _,rT,⟨rfl,rfl,rfl⟩,Af.nil,Ai7 _⟩,hm.loc (Hp.AB (AjI G)),hf.loc (Hp.AB (AjI mW)),by dsimp only;decide⟩
 | succ d ih=>
  intro k M hd hk D hM hm hf;have C8:k<n:=by omega
  obtain⟨x,hx⟩:=hr.ex C8;obtain⟨b1,o1,q,j,c',rfl,hl,ht⟩:=hr.at' hx;refine CM.VY ⟨λ_=>⟨b1,o1,rfl,by unfold In;omega,x.id,x.state,q,j,c',by simpa using hl.mono (Ext.DZ ρ M),λ_=>⟨b,0,rfl,some m,AJ (Ba D hM) rfl,MZ.put (H9 D hm) λo ho=>⟨AO C8 hr.big,?_⟩⟩⟩,λhh=>by omega⟩;have nm:ρ m=none:=D m hm.known;rw[Bf nm];have:=ih (k+1) (M.set m o) (by omega) (by omega) (IU D nm) ((Hp.AB G).trans hM) (by
   have:=ho (M.set m o) (Hp.AA _ _ _);rw[hid k x hx]at this;rw[<-Sn (f:=λ_=>0)];exact this) (hf.loc (Hp.AB (AjI hmf)))
  rw[show((k+1:Nat):Int)=(k:Int)+1 by omega]at this;exact this
theorem qQ {p:Option Addr}{n c:Nat}{e rf w:Int}{ms:List Mem}(hr:RdM Z2 p n ms)(hs:fx ms)(AW:OkR ms)(hid:∀(i:Nat) (x:Mem),ms[i]?=some x->x.id=i)(uc:1<=rf/\rf<=5)(hw:IntKind.i64.wrap (Int.tdiv (rf-1) 2)=w)(hw2:0<=w/\w<=2)(hn:n<=1000)
  (hR:∀ρ' M' b m fm,QU ⟨PT n w,false,0,false,G1 n λ_=>0,[],[]⟩ ρ' M' b m fm->Ext Z2 ρ'->R (.T #[.pointer (aD b 0),.I 0]) (ρ'.or M')) :
  Spec prog 6 #[.string sX,.I 60,.I 60,.I 0,.agg #[.U e,.slice p n c],.I rf] Z2 R:=by
 refine CM.start λDk=>qM (ts:=tsX) (f:=40) lxX (by decide) (by decide) (by decide) pzX rfl λZ1 p1 n1 c1 D7 BS=>⟨p1,n1,c1,0,0,rfl,λhh=>absurd rfl hh,λ_=>?_⟩;obtain rfl:1=n1:=D7.1;refine Lq D7 (by decide) txX (λk G hk Aw=>⟨k,0,0,rfl,λhh=>absurd rfl hh,λ_=>⟨λh3=>?_,λ_=>?_⟩⟩) λk j e Z' hk=>by rw[tyX]at hk;cases hk
 .rw[tyX]at hk;cases hk;exact absurd h3 (by decide)
 have X2:=BS.trans Aw;refine Y0 (by decide) ⟨true,rfl,λhh=>(by cases hh),λ_=>Y0 (by decide) ⟨true,rfl,λhh=>(by cases hh),λ_=>?_⟩⟩;refine⟨λhh=>absurd hh (by decide),λ_=>⟨λhh=>absurd hh (by decide),λ_=>⟨λhh=>absurd hh (by decide),λ_=>?_⟩⟩⟩;refine PK (hr.mono QX.mono X2) hs ⟨_,rfl,λAd=>absurd (by simp[AB0,AW]) Ad,λ_=>⟨λhh=>by omega,λ_=>⟨λhh=>by omega,λ_=>?_⟩⟩⟩;refine Cy λm hm=>⟨m,rfl,Cy λfm hf=>⟨fm,rfl,λb hb=>?_⟩⟩;obtain⟨f1,f2⟩:=Hp.AM hf;obtain⟨b1,b2⟩:=Hp.AM hb;obtain⟨b3,b4⟩:=Hp.AM b2;have D0:=tT G;have e0:G=G.or oa:=(ACk G).symm;rw[e0,Bf hm,Bf f2,Bf b4];have D1:Gi G (oa.set m (.map #[] 0)):=IU D0 hm;have D2:Gi G ((oa.set m (.map #[] 0)).set fm (.map #[] 0)):=IU D1 f2;refine qP (hr.mono QX.mono X2) hid uc hw hw2 hn b3 b1 (AjI f1) (D7.mono H8.mono Aw) (λM' hQ=>hR G M' b m fm hQ X2) n 0 _ rfl (AjB _) (IU D2 b4) (Hp.AA _ _ _) ?_ ?_
 .exact MZ.loc (MZ.fresh (Z2:=oa)) ((Hp.AB (AjI b3)).trans (Hp.AB (AjI f1)))
 .exact MZ.loc (MZ.fresh (Z2:=oa.set m (.map #[] 0))) (Hp.AB (AjI b1))
theorem QX.one (Z2:Hp)(vs:List Value)(x:Mem)(h:QX Z2 vs x):FZ vs:=by
 obtain⟨p,n,c,rfl,_⟩:=h;exact ABz
theorem gR {Z0:Hp}{p:Option Addr}{n c Dk HL:Nat}{ms:List Mem}{id st:Int}{G:Option Addr->Nat->Nat->Hp->Prop}(ho:AN 3 QX Z0 Z2 p n c ms)(hn:n<=1000)(MK:Z2 Dk=none)(TZ:(Z2.set Dk (.cells #[.int .u32 7] 52 (0,0))) HL=none)
  (h:∀p' c' Z',AN 3 QX Z0 Z' p' (n+1) c' (ms++[⟨id,st,[7]⟩])->G p' (n+1) c' Z') :
  AI prog (Builtin.append_ #[28,28] 28 #[.slice p n c,.slice (aD HL 0) 1 1]) ((Z2.set Dk (.cells #[.int .u32 7] 52 (0,0))).set HL (.cells #[.I id,.I st,.slice (aD Dk 0) 1 1] 55 (0,0))) (CS G):=by
 have x10:=Ext.set (o:=.cells #[.int .u32 7] 52 (0,0)) MK;have Rv:=ho.mono QX.mono x10;have hk:(Z2.new (Z2.set Dk (.cells #[.int .u32 7] 52 (0,0)))) Dk=some (.cells #[.int .u32 7] 52 (0,0)):=Ae.2 ⟨MK,Hp.AA _ _ _⟩;have hE:QX ((Z2.set Dk (.cells #[.int .u32 7] 52 (0,0))).del p) [.I id,.I st,.slice (aD Dk 0) 1 1] ⟨id,st,[7]⟩:=⟨_,_,_,rfl,Dc.du ⟨rfl,by omega,.inr ⟨Dk,0,rfl,AJ (ho.new x10 _ _ hk) rfl,trivial⟩⟩⟩;exact AN.Ey QX.mono Rv rfl (QX.one _ _ _ hE) hE (by omega) (λp' c' Z' Di _=>⟨_,_,_,rfl,h p' c' Z' Di⟩) TZ
def ms3:List Mem:=[⟨0,2,[7]⟩,⟨1,2,[7]⟩,⟨2,2,[7]⟩]
theorem Y4 (h:∀Z' p c,RdM Z' p 3 ms3->Ext Z2 Z'->R (.returned (.agg #[.U 0,.slice p 3 c])) Z'):Spec prog 7 #[] Z2 R:=by
 refine Fv.start λ_ _=>Fv.A1 ⟨λ_ Dk MK HL TZ=>gR (AN.nil (.refl Z2)) (by decide) MK TZ λp1 c1 Z1 Rv=>⟨iK (by decide),?_⟩,λG=>absurd (by decide) G⟩;refine Fv.A1 ⟨λ_ Dk MK HL TZ=>gR Rv (by decide) MK TZ λp2 c2 Z22 Bq=>⟨iK (by decide),?_⟩,λG=>absurd (by decide) G⟩;refine Fv.A1 ⟨λ_ Dk MK HL TZ=>gR Bq (by decide) MK TZ λp3 c3 Z3 Dh=>⟨iK (by decide),?_⟩,λG=>absurd (by decide) G⟩;exact Fv.A1 ⟨λG=>absurd G (by decide),λ_=>h Z3 p3 c3 (Dh.rd QX.mono) Dh.up⟩
theorem ok3:OkR ms3:=by decide
theorem ACl:fx ms3:=⟨by decide,λm hm=>by
 simp only[ms3,Ai1,AjK,Ajl]at hm;rcases hm with rfl|rfl|rfl<;>decide⟩
theorem id3:∀(i:Nat) (x:Mem),ms3[i]?=some x->x.id=i
 | 0,x,h=>by cases h;rfl
 | 1,x,h=>by cases h;rfl
 | 2,x,h=>by cases h;rfl
 | i+3,x,h=>by simp[ms3]at h
def lh:Sr:=⟨[(EV,sX)],[(60,5)]⟩
theorem dW (h:∀Z' p c,Af 2 BT Z' p 1 [lh]->1<=c->Ext Z2 Z'->R (.returned (.slice p 1 c)) Z'):Spec prog 34 #[] Z2 R:=by
 refine Xb.start λb2 h2 b4 h4 b6 h6=>?_;have x2:=Ext.set (o:=.cells #[(.string (ByteArray.mk #[95,95,110,97,109,101,95,95])),(.string (ByteArray.mk #[120]))] 144 (0,0)) h2;have x4:=Ext.set (o:=.cells #[.I 60,.U 5] 111 (0,0)) h4;have x6:=Ext.set (o:=.cells #[(.slice (aD b2 0) 1 1),(.slice (aD b4 0) 1 1)] 98 (0,0)) h6;have g2:=(x4.trans x6) b2 _ (Hp.AA _ _ _);have g4:=x6 b4 _ (Hp.AA _ _ _);refine h _ _ _ (pM (cs:=[(.slice (aD b2 0) 1 1),(.slice (aD b4 0) 1 1)]) (Hp.AA _ _ _) rfl rfl (by decide) λi x hx=>?_) (Ai7 _) (x2.trans (x4.trans x6))
 match i,hx with
 | 0,hx=>
  cases hx;refine⟨_,_,_,_,_,_,rfl,pM (cs:=[(.string EV),(.string sX)]) g2 rfl rfl (by decide) λj y G=>?_,pM (cs:=[.I 60,.U 5]) g4 rfl rfl (by decide) λj y G=>?_,Ai7 _⟩
  .match j,G with
   | 0,G=>cases G;rfl
   | j+1,G=>simp[lh]at G
  .match j,G with
   | 0,G=>cases G;rfl
   | j+1,G=>simp[lh]at G
 | i+1,hx=>simp at hx
end
structure Qg where
 T:List Nd
 at_:Int
 Hq:Int
 rd:Bool
 S2:Int
 fl:Int
 es:List En
 mem:List (Int×Int)
 mP:List (Int×Int)
 all:List Sr
abbrev qLg (pt:Option Addr)(nt G:Nat)(t:Int)(m:Nat)(Hq:Int)(rd:Bool)(S2 fl:Int)(pi:Option Addr)(ni ci fm:Nat)(pa:Option Addr)(na ca:Nat)(f:Value):Array Value:=
 #[.slice pt nt G,.I t,.I t,.I 0,.map (some m),.I Hq,.bool rd,.U S2,.I fl,.slice pi ni ci,.map (some fm),.slice pa na ca,f]
abbrev qOg (pt:Option Addr)(nt G:Nat)(t:Int)(m:Nat)(Hq:Int)(rd:Bool)(S2 fl:Int)(pi:Option Addr)(ni ci fm:Nat)(pa:Option Addr)(na ca b:Nat)(f:Nat):Obj:=
 .cells (qLg pt nt G t m Hq rd S2 fl pi ni ci fm pa na ca (.func (.func f) #[.pointer (aD b 0)] #[])) 72 (0,0)
structure TrQ (T:List Nd)(t:Int):Prop where
 ty:∃k,HT T=some k
 tl:T.length<=700000
 tx:∀x∈T,x.text.size<=4611686018427387904
 t:-1099511627776<=t/\t<=1099511627776
structure QV (Q:Qg)(ρ M:Hp)(b m fm:Nat):Prop where
 Qt:Gi ρ M
 bm:b≠m
 bf:b≠fm
 mf:m≠fm
 q:∃pt nt ct pi ni ci pa na ca,M b=some (qOg pt nt ct Q.at_ m Q.Hq Q.rd Q.S2 Q.fl pi ni ci fm pa na ca b (gG Q.rd))/\Af 10 H8 ρ pt nt Q.T/\Af 9 Lu ρ pi ni Q.es/\Af 2 BT ρ pa na Q.all/\na<=ca
 mm:MZ .i64 M m Q.mem
 ff:MZ .u64 M fm Q.mP
 tr:TrQ Q.T Q.at_
 ne:Q.es.length<=4000000
theorem QV.grow {Q:Qg}{ρ ρ' M M':Hp}{b m fm:Nat}(h:QV Q ρ M b m fm)(G:Ext ρ ρ')(hd:Gi ρ' M')(h1:M' b=M b)(h2:M' m=M m)(h3:M' fm=M fm):QV Q ρ' M' b m fm:=by
 obtain⟨pt,nt,ct,pi,ni,ci,pa,na,ca,k1,k2,k3,k4,k5⟩:=h.q;exact⟨hd,h.bm,h.bf,h.mf,⟨pt,nt,ct,pi,ni,ci,pa,na,ca,h1.trans k1,k2.mono H8.mono G,k3.mono Lu.mono G,k4.mono BT.mono G,k5⟩,h.mm.loc h2,h.ff.loc h3,h.tr,h.ne⟩
theorem QV.up {Q:Qg}{ρ ρ' M:Hp}{b m fm:Nat}(h:QV Q ρ M b m fm)(G:Ext ρ ρ')(hd:Gi ρ' M):QV Q ρ' M b m fm:=h.grow G hd rfl rfl rfl
theorem MZ.up {ik:IntKind}{Z2 Z':Hp}{m:Nat}{L:List (Int×Int)}(h:MZ ik Z2 m L)(hx:Ext Z2 Z'):MZ ik Z' m L:=by
 cases G:Z2 m with
 | none=>exact absurd G h.known
 | some o=>exact h.loc ((hx m o G).trans G.symm)
def ACm (Q:Qg):Int:=if(Q.at_-MX Q.T)<(-1099511627776) then(-1099511627776) else(Q.at_-MX Q.T)
def JB (Q:Qg)(x:En):Bool:=Q.rd&&(decide (x.min<=Q.at_)&&(decide (ACm Q<=x.max)&&(decide (Q.fl<=x.max)&&decide ((Gk Q.mP x.id).getD 0=0))))
def Un (Q:Qg):List Int:=((Kh Q.fl Q.es).filter (JB Q)).map En.id
section
variable {Q:Qg}{ρ M:Hp}{b m fm:Nat}{R:Rr}
theorem bF (h:QV Q ρ M b m fm)(hR:∀ρ',Ext ρ ρ'->Gi ρ' M->R (.T #[.I (ACm Q),.I Q.at_]) (ρ'.or M)):Spec prog 33 #[.pointer (aD b 0)] (ρ.or M) R:=by
 obtain⟨pt,nt,ct,pi,ni,ci,pa,na,ca,k1,k2,k3,k4,k5⟩:=h.q;obtain⟨⟨kk,hty⟩,gX,htx,ht0,ht1⟩:=h.tr;have hb:=Ba h.Qt k1;have hnt:nt<=1000000000:=by have:=k2.1;omega
 refine Bt.start ⟨b,0,rfl,pt,nt,ct,AJ hb rfl,fz (k2.mono H8.mono (Ext.DZ ρ M)) hnt htx hty λxn Z1 f0 f1 BS=>⟨_,_,rfl,Q.at_,AJ (BS _ _ hb) rfl,λb6 h6=>?_⟩⟩;obtain⟨G,X1,D1,rfl,_⟩:=Ext.parts h.Qt BS;have I4:=Ba D1 k1;obtain⟨r6,m6⟩:=or_none h6;have n6:b≠b6:=λe=>by rw[<-e,k1]at m6;cases m6
 show AI prog _ (BR (G.or M) [(b6,.cells #[.I 0] 2 (0,0))]) _
 refine AI.RN (L:=[(b6,.cells #[.I 0] 2 (0,0))]) (i:=0) (c:=#[.I 0]) (c':=#[.I Q.at_]) gE (by simp[names]) rfl rfl rfl rfl rfl ?_;intro D l r0 hDl hD hl hY;have hD:(G.or M).set b6 (.cells #[.I Q.at_] 2 (0,0)) D=none:=hD;have hl:(G.or M).set b6 (.cells #[.I Q.at_] 2 (0,0)) l=none:=hl;obtain⟨d6,hD⟩:=Hp.AM hD;obtain⟨l6,hl⟩:=Hp.AM hl;have nD:b≠D:=λe=>by rw[<-e,I4]at hD;cases hD
 have nl:b≠l:=λe=>by rw[<-e,I4]at hl;cases hl
 have Gn:([l,D,b6]:List Nat).Nodup:=by
  simp only[Aj0,Ai1,AjK,Ajl,AkR,AmO,Al0,Ak9];exact⟨⟨λe=>hDl e.symm,l6⟩,d6⟩
 let L:Loop->Obj->List (Nat×Obj):=λlo d=>[(l,.loop lo),(D,d),(b6,.cells #[.I Q.at_] 2 (0,0))]
 have hbS:∀lo d,BR (G.or M) (L lo d) b=some _:=λlo d=>(FN (by simp only[L,names,AjR,Akb,Ai1,AjK,Ajl,Ak9];exact⟨nl,nD,n6⟩)).trans I4;show Spec prog _ #[.pointer (aD b 0),.func (.yield l) #[] #[]] (BR (G.or M) (L (lp r0 .ready none) (.deferred (some [])))) _
 refine Bu.start ⟨b,0,rfl,Q.at_,AJ (hbS _ _) rfl,Bu.LD ⟨l,rfl,hY _ _ Q.at_ (BY (L:=L (lp r0 .ready none) (.deferred (some []))) (i:=0) Gn rfl) (Bt.A1 ⟨BY (L:=L (lp r0 .ready none) (.deferred (some []))) (i:=0) Gn rfl,?_⟩)⟩⟩;rw[DO (L:=L (lp r0 .ready none) (.deferred (some []))) (i:=0) Gn rfl];refine AI.RN (L:=L (lp r0 .busy none) (.deferred (some []))) (i:=2) (c:=#[.I Q.at_]) (c':=#[.I Q.at_]) gE Gn rfl rfl rfl rfl rfl ⟨BY (L:=L (lp r0 .busy none) (.deferred (some []))) (i:=0) Gn rfl,?_⟩;show Ab _ _ _ ((BR (G.or M) (L (lp r0 .busy none) (.deferred (some [])))).set l _)
 rw[DO (L:=L (lp r0 .busy none) (.deferred (some []))) (i:=0) Gn rfl];refine⟨true,rfl,λ_=>⟨b,0,rfl,0,AJ (hbS (lp r0 .ready none) (.deferred (some []))) rfl,λhh=>absurd hh (by decide),λ_=>?_⟩,λhh=>by cases hh⟩;refine⟨_,.ready,none,rfl,BY (L:=L (lp r0 .ready none) (.deferred (some []))) (i:=0) Gn rfl,by decide,rfl,?_⟩;have e1:(BR (G.or M) ((L (lp r0 .busy none) (.deferred (some []))).set 0 (l,.loop (lp r0 .ready none)))).set l (.loop (lp r0 .exhausted none))=BR (G.or M) (L (lp r0 .exhausted none) (.deferred (some []))):=DO (L:=L (lp r0 .ready none) (.deferred (some []))) (i:=0) Gn rfl;rw[e1];refine⟨Q.at_,AJ (hbS (lp r0 .exhausted none) (.deferred (some []))) rfl,by unfold AL;omega,Q.at_,ldL (L:=L (lp r0 .exhausted none) (.deferred (some []))) (i:=2) Gn rfl rfl,BY (L:=L (lp r0 .exhausted none) (.deferred (some []))) (i:=1) Gn rfl,?_⟩;rw[DO (L:=L (lp r0 .exhausted none) (.deferred (some []))) (i:=1) Gn rfl,gH];have fH:VB (L (lp r0 .exhausted none) (.deferred none)) G:=λk hk=>by
  simp only[L,names,AjR,Akb,Ai1,AjK,Ajl]at hk;rcases hk with rfl|rfl|rfl
  .exact(or_none hl).1
  .exact(or_none hD).1
  .exact r6
 refine hR (BR G (L (lp r0 .exhausted none) (.deferred none))) (X1.trans (VB.ext Gn fH)) λk hk=>?_;rw[FN]
 .exact D1 k hk
 .simp only[L,names,AjR,Akb,Ai1,AjK,Ajl,Ak9];refine⟨λe=>hk ?_,λe=>hk ?_,λe=>hk ?_⟩
  .rw[e];exact(or_none hl).2
  .rw[e];exact(or_none hD).2
  .rw[e];exact m6
theorem lj (h:QV Q ρ M b m fm)(hR:∀ρ' p n c,Ext ρ ρ'->Gi ρ' M->Dc .u64 ρ' p n (Un Q)->n<=c->R (.returned (.slice p n c)) (ρ'.or M)):Spec prog 21 #[.pointer (aD b 0)] (ρ.or M) R:=by
 refine AT.start (bF h λρ1 BS bE=>⟨_,_,rfl,b,0,rfl,?_⟩);obtain⟨pt,nt,ct,pi,ni,ci,pa,na,ca,k1,k2,k3,k4,k5⟩:=(h.up BS bE).q;have hb:=Ba bE k1;refine⟨Q.S2,Q.fl,pi,ni,ci,⟨AJ hb rfl,AJ hb rfl,AJ hb rfl,trivial⟩,lK (k3.mono Lu.mono (Ext.DZ _ _)) (by have:=k3.1;have:=h.ne;omega) λpl G cl Z22 kt Aw=>⟨_,_,_,rfl,?_⟩⟩;obtain⟨ρ2,X2,D2,rfl,_⟩:=Ext.parts bE Aw;have F7:=Ba D2 k1;have hf2:=H9 D2 h.ff;have hll:(Kh Q.fl Q.es).length=G:=kt.1;have hnl:G<=4000000:=by
  have h1:=h.ne;have h2:(Kh Q.fl Q.es).length<=Q.es.length:=by
   unfold Kh;split
   .exact Ajb _ _
   .simp
  omega
 suffices H:∀d k:Nat,∀Z3 p3 n3 c3,AN 1 (F6 .u64) (ρ2.or M) Z3 p3 n3 c3 ((((Kh Q.fl Q.es).take k).filter (JB Q)).map En.id)->n3<=k->G-k=d->k<=G->AT.Dq R (aD b 0) (ACm Q) Q.at_ p3 n3 c3 pl G cl (G:Int) (k:Int) Z3 from H G 0 _ none 0 0 (AN.nil (.refl _)) (Ai7 _) rfl (AjB _)
 intro d
 induction d with
 | zero=>
  intro k Z3 p3 n3 c3 ho QS hd hk;rw[Ai4 (by omega)]at ho;refine AT.Bk ⟨λhh=>by omega,λ_=>?_⟩;obtain⟨ρ3,X3,D3,rfl,X4⟩:=Ext.parts D2 ho.up;have hc:n3<=c3:=by obtain⟨cs,Qr,_⟩:=ho.1.2;exact BH.cap Qr
  exact hR ρ3 p3 n3 c3 (BS.trans (X2.trans X3)) D3 ((ho.Vi λ_ _ _ _ h=>h).mono (F6.mono _) X4) hc
 | succ d ih=>
  intro k Z3 p3 n3 c3 ho QS hd hk;have C8:k<G:=by omega
  obtain⟨x,hx⟩:=kt.ex C8;obtain⟨b3,o3,q,j,c',rfl,DD,hs,hj⟩:=sv.at (kt.mono sv.mono ho.up) hx;have UW:=ho.up _ _ F7;have hf3:=hf2.up ho.up;have next:∀Z4 p4 n4 c4,AN 1 (F6 .u64) (ρ2.or M) Z4 p4 n4 c4 ((((Kh Q.fl Q.es).take (k+1)).filter (JB Q)).map En.id)->n4<=k+1->AT.RH R (aD b 0) (ACm Q) Q.at_ p4 n4 c4 (aD b3 o3) G cl (G:Int) (k:Int) Z4:=λZ4 p4 n4 c4 h4 h5=>by
   have:=ih (k+1) Z4 p4 n4 c4 h4 h5 (by omega) (by omega);rw[show((k+1:Nat):Int)=(k:Int)+1 by omega]at this;exact AT.R4 ⟨by unfold AL;omega,this⟩
  have eT:((((Kh Q.fl Q.es).take (k+1)).filter (JB Q)).map En.id)=((((Kh Q.fl Q.es).take k).filter (JB Q)).map En.id)++(if JB Q x then[x.id] else[]):=by
   rw[AR hx,Ajy,AjP];by_cases hn:JB Q x=true
   .rw[Aj5 hn,Aiy hn];rfl
   .rw[Aj6 hn,Aiw hn];rfl
  have skip:JB Q x=false->AT.RH R (aD b 0) (ACm Q) Q.at_ p3 n3 c3 (aD b3 o3) G cl (G:Int) (k:Int) Z3:=λhn=>next Z3 p3 n3 c3 (by rw[eT,hn,Aiw (by decide),Aj1];exact ho) (by omega)
  refine AT.Bk ⟨λ_=>⟨b3,o3,rfl,by unfold In;omega,_,_,_,_,_,_,_,_,_,by simpa using DD,λ_=>⟨b,0,rfl,Q.rd,AJ UW rfl,λg1=>⟨λg2=>⟨λg3=>⟨Q.fl,AJ UW rfl,λg4=>⟨some fm,AJ UW rfl,hf3.lO RY ⟨_,rfl,λg5 b62 h62=>?_,λg5=>?_⟩⟩,λg4=>?_⟩,λg3=>?_⟩,λg2=>?_⟩,λg1=>?_⟩⟩,λhh=>by omega⟩
  .have hn:JB Q x=true:=by unfold JB;rw[g1,AjC g2,AjC g3,AjC g4,AjC g5];rfl
   have hE:F6 .u64 (Z3.del p3) [.U x.id] x.id:=rfl;exact AN.Ey (F6.mono _) ho rfl (F6.AT7 _ _ _ hE) hE (by omega) (λp4 c4 Z4 Iy _=>⟨_,_,_,rfl,next Z4 p4 (n3+1) c4 (by rw[eT,hn,Aiy rfl];exact Iy) (by omega)⟩) h62
  .exact skip (by unfold JB;rw[AjE g5];simp)
  .exact skip (by unfold JB;rw[AjE g4];simp)
  .exact skip (by unfold JB;rw[AjE g3];simp)
  .exact skip (by unfold JB;rw[AjE g2];simp)
  .exact skip (by unfold JB;rw[g1];rfl)
theorem qR {x k:Int}{p:Option Addr}{n c:Nat}{B:List Sr}(h:QV Q ρ M b m fm)(hk:Gk Q.mem x=some k)(hk0:0<=k/\k<=4611686018427387903)(rB:Af 2 BT ρ p n B)(hc:n<=c)(oA:Da none Q.all=true)(oB:Da none B=true)(hA:∀s∈Q.all,aK s)(hB:∀s∈B,aK s)(hl:Q.all.length+B.length<=2900000000000)
  (hR:∀ρ' M',QV { Q with mem:=JS Q.mem x (k+1),all:=CK Q.all B } ρ' M' b m fm->Ext ρ ρ'->(∀j,j≠b->j≠m->M' j=M j)->R (.returned (.I 0)) (ρ'.or M')) :
  Spec prog 11 #[.pointer (aD b 0),.I x,.slice p n c] (ρ.or M) R:=by
 obtain⟨pt,nt,ct,pi,ni,ci,pa,na,ca,k1,k2,k3,k4,k5⟩:=h.q;have hb:=Ba h.Qt k1;refine Fh.start ⟨b,0,rfl,some m,AJ hb rfl,MZ.look (two:=true) (H9 h.Qt h.mm) RY (λhv=>by rw[hk]at hv;cases hv) λv hv=>?_⟩;rw[hk]at hv;cases hv;refine⟨k,true,rfl,λhh=>(by cases hh),λ_=>⟨pa,na,ca,AJ hb rfl,λrm h28=>?_⟩⟩;obtain⟨r28,m28⟩:=or_none h28;rw[Gm];have Me:=Ext.set (o:=.cells #[.slice pa na ca,.slice p n c] 22 (0,0)) r28;refine E3 (VN h.Qt m28) (PS (Hp.AA _ _ _) (k4.mono BT.mono Me) k5 (rB.mono BT.mono Me) hc oA oB hA hB hl λp' n' c' ρ2 G0 bN Aw G=>?_);have F7:=Ba G k1;refine⟨p',n',c',0,rfl,λhh=>absurd rfl hh,λ_=>⟨some m,AJ F7 rfl,(H9 G h.mm).lO RY ⟨_,rfl,?_⟩⟩⟩;rw[hk,Ak6];refine⟨by unfold AL;omega,MZ.put (H9 G h.mm) λo ho=>?_⟩;have D3:Gi ρ2 (M.set m o):=IU G (G m h.mm.known);have hM:=(Hp.AB (Z2:=M) (o:=o) h.bm).trans k1;rw[Bf (G m h.mm.known)];refine AI.wX gF (Ba D3 hM) rfl rfl rfl pW ?_;rw[Bf (D3 b (by rw[hM];simp))];have X:=Me.trans Aw;refine hR ρ2 _ ⟨IU D3 (D3 b (by rw[hM];simp)),h.bm,h.bf,h.mf,⟨pt,nt,ct,pi,ni,ci,p',n',c',Hp.AA _ _ _,k2.mono H8.mono X,k3.mono Lu.mono X,G0,bN⟩,ho _ ((Hp.AB (AjI h.bm)).trans (Hp.AA _ _ _)),h.ff.loc ((Hp.AB (AjI h.bf)).trans (Hp.AB (AjI h.mf))),h.tr,h.ne⟩ X λj hj hjm=>(Hp.AB hj).trans (Hp.AB hjm)
end
def AUd (u:UInt8):Bool:=decide (u.toNat=32\/u.toNat=9\/u.toNat=13\/u.toNat=10)
def IA:List UInt8->List UInt8->Option (List UInt8×List UInt8)
 | [],_=>none
 | c::l,a=>if c.toNat<32 then none else if c=34 then some (a,l) else if c=92 then(match l with
  | []=>none
  | u::G=>if u=34\/u=92 then IA G (a++[u]) else if u=110 then IA G (a++[10]) else none) else IA l (a++[c])
def JC (t:Cl)(x:Int×List Cl):Int×List Cl:=if x.1=0 then(0,t::x.2) else(x.1,[])
def G2:Nat->List UInt8->Int×List Cl
 | 0,_=>(1,[])
 | _+1,[]=>(0,[Ui 0 ⟨#[]⟩ 0])
 | f+1,c::l=>
  if AUd c then G2 f l
  else if Cz c then
   (if 0<L0 (bA (c::l.takeWhile DA)) then JC (Ui 2 (bA (c::l.takeWhile DA)) (L0 (bA (c::l.takeWhile DA)))) (G2 f (l.dropWhile DA))
   else if Gj (bA (c::l.takeWhile DA)) then JC (Ui 1 (bA (c::l.takeWhile DA)) (L0 (bA (c::l.takeWhile DA)))) (G2 f (l.dropWhile DA)) else(172,[]))
  else if Tv c then JC (Ui 3 (bA (c::l.takeWhile JA)) 0) (G2 f (l.dropWhile JA))
  else if c=34 then(match IA l [] with
   | some (a,r)=>JC (Ui 4 (bA a) 0) (G2 f r)
   | none=>(173,[]))
  else if l.head?.any (λu=>FP (bA [c,u]) Ma) then JC (Ui 5 (bA (c::l.take 1)) 0) (G2 f (l.drop 1))
  else if c∈qK then JC (Ui 5 (bA [c]) 0) (G2 f l) else(171,[])
structure qS (R:Rr)(Z0:Hp)(C0:List Cl)(x:Int×List Cl):Prop where
 ok:x.1=0->∀(Z':Hp) (p':Option Addr) (n' c':Nat),AN 4 Yp Z0 Z' p' n' c' (C0++x.2)->R (.T #[.slice p' n' c',.I 0,.I 0]) Z'
 er:x.1≠0->∀(Z':Hp) (a:Int),Ext Z0 Z'->R (.T #[.N,.I a,.I x.1]) Z'
theorem qS.cons {R:Rr}{Z0:Hp}{C0:List Cl}{t:Cl}{x:Int×List Cl}(h:qS R Z0 C0 (JC t x)):qS R Z0 (C0++[t]) x:=by
 unfold JC at h;by_cases G:x.1=0
 .rw[Aiy G]at h;exact⟨λ_ Z' p' n' c' ho=>h.ok rfl Z' p' n' c' (by rw[AjT]at ho;exact ho),λhn=>absurd G hn⟩
 .rw[Aiw G]at h;exact⟨λhh=>absurd hh G,λ_ Z' a hx=>h.er G Z' a hx⟩
theorem head_drop {p:UInt8->Bool}:∀l:List UInt8,∀u,(l.dropWhile p).head?=some u->p u=false
 | [],u,h=>by cases h
 | x::l,u,h=>by
  rw[List.dropWhile_cons]at h;cases hp:p x with
  | true=>rw[hp,Aiy rfl]at h;exact head_drop l u h
  | false=>
   rw[hp,Aiw (by decide)]at h;cases h;exact hp
theorem ll {p:UInt8->Bool}(l:List UInt8):∀u∈l.takeWhile p,p u=true:=Ajt.1 List.all_takeWhile
section
variable {Z2 Z0:Hp}{R:Rr}{s:ByteArray}
theorem qT {s:ByteArray}{c:UInt8}(hc:s.data.toList[0]?=some c)(h2:1<s.size->FP (s.extract 0 2) Ma=false)(hc1:¬c∈qK)(h:R (.returned (.string ⟨#[]⟩)) Z2):Spec prog 60 #[.string s] Z2 R:=by
 have G:Ct.AAF R s Z2:=by
  obtain⟨i,hi,hy⟩:=tR (s:=⟨#[60,62,61,43,45,42,47,40,41,123,125,91,93,44]⟩) (c:=c);exact Ct.r9 ⟨c,by omega,by simpa using hc,Gf.start (Bz.start (.y (hy Z2) ⟨_,rfl,_,rfl,_,rfl,λhh=>absurd (hi.1 hh) hc1,λ_=>h⟩))⟩
 have tl:∀b,FP (s.extract 0 2) Ma=b->1<s.size->Ct.Fg R s b Z2:=λb hb h1=>by
  rw[h2 h1]at hb;subst hb;exact Ct.FY ⟨λhh=>by (cases hh),λ_=>G⟩
 refine Ct.start ⟨λhg=>⟨_,YD (h:=2) (show 2<=s.size by omega),λh1=>tl _ ?_ (by omega),λh1=>⟨λh2=>tl _ ?_ (by omega),λh2=>⟨λh3=>tl _ ?_ (by omega),λh3=>⟨λh4=>tl _ ?_ (by omega),λh4=>⟨λh5=>tl _ ?_ (by omega),λh5=>tl _ ?_ (by omega)⟩⟩⟩⟩⟩,λ_=>G⟩ <;>
 .simp only[gm]at *;rw[<-AMQ];simp only[*,Al8,Alg,AkL]
theorem wv {p:Option Addr}{n c i:Nat}{x7a x7b x7d:Int}{s7c:ByteArray}{w l:List UInt8}(hb:s.size<=1000000)(hl:∀u,l.head?=some u->DA u=false)(hw:∀u∈w,DA u=true)
  (h1:0<L0 (bA w)->AS.IE R s p n c 2 (i:Int) (bA w) (L0 (bA w)) ((i+w.length:Nat):Int) Z2) (h2:¬0<L0 (bA w)->Gj (bA w)=true->AS.IE R s p n c 1 (i:Int) (bA w) (L0 (bA w)) ((i+w.length:Nat):Int) Z2) (h3:¬0<L0 (bA w)->Gj (bA w)=false->R (.T #[.N,.I (i:Int),.I 172]) Z2)
  (hd:s.data.toList.drop i=w++l) (hi:i<=s.size):∀g j:Nat,w.length-j=g->j<=w.length->AS.Xh R s p n c x7a x7b s7c x7d ((i+j:Nat):Int) (i:Int) Z2:=by
 have hlen:s.data.toList.length=s.size:=Ajd (xs:=s.data);have J1:i+w.length+l.length=s.size:=by
  have:=Ai8 List.length hd;rw[AjN,Ai5]at this;omega
 have hbw:(bA w).size<=1000000:=by
  have:(bA w).size=w.length:=by simp[bA,ByteArray.size]
  omega
 have fin:∃Gg,YF prog (Instr.sliceAt 9 (.string s) (some (.I (i:Int))) (some (.I ((i+w.length:Nat):Int))) none) Z2 (.string Gg)/\Spec prog 61 #[.string Gg] Z2 (Ab R (CI .i64 λLg y=>Br (0<Lg) (AS.IE R s p n c 2 (i:Int) Gg Lg ((i+w.length:Nat):Int) y) (Spec prog 62 #[.string Gg] y (Ab R (CB λt121 AE=>Bn t121 (R (.T #[.N,.I (i:Int),.I 172]) AE) (AS.IE R s p n c 1 (i:Int) Gg Lg ((i+w.length:Nat):Int) AE)))))):=by
  refine⟨_,fR (by omega) (by omega),?_⟩;rw[L3 hd];exact Sl (by omega) ⟨_,rfl,h1,λhp=>I2 (by omega) ⟨_,rfl,h3 hp,h2 hp⟩⟩
 intro g
 induction g with
 | zero=>
  intro j hg hj;have Sz:j=w.length:=by omega
  subst Sz;refine AS.Vb ⟨λAx=>?_,λ_=>fin⟩;cases l with
  | nil=>simp at J1;omega
  | cons u l=>
   obtain⟨h1,h2⟩:=Ev (B5 hd);have G:DA u=false:=hl u rfl;unfold DA at G;rw[AkD,AkD,Aji]at G;have YG:¬((u.toNat:Nat):Int)=46:=λe=>G.2 ((QZ (k:=46) (by decide)).1 e);refine⟨u,by omega,by rw[AjM];exact h2,CH ⟨_,rfl,λtt=>absurd (G.1.1.symm.trans tt) (by decide),λ_=>⟨u,by omega,by rw[AjM];exact h2,CP ⟨_,rfl,λtl=>⟨u,by omega,by rw[AjM];exact h2,λh58=>?_,λ_=>⟨u,by omega,by rw[AjM];exact h2,λe=>absurd e YG,λ_=>fin⟩⟩,λ_=>⟨u,by omega,by rw[AjM];exact h2,λe=>absurd e YG,λ_=>fin⟩⟩⟩⟩⟩;have:=G.1.2;rw[tl,AkE,Aji]at this;exact absurd (λe=>h58 ((QZ (k:=58) (by decide)).2 e)) this
 | succ g ih=>
  intro j hg hj;have Sz:j<w.length:=by omega
  obtain⟨u,hu⟩:∃u,w[j]?=some u:=⟨_,Ai3 Sz⟩;have h2:s.data[i+j]?=some u:=by
   rw[<-Aje];have:=Ai8 (·[j]?) hd;simp only[Aja]at this;rw[this,AjV Sz,hu]
  have G:=hw u (Ai6 hu);have next:AL (((i+j:Nat):Int)+1)/\AS.Xh R s p n c x7a x7b s7c x7d (((i+j:Nat):Int)+1) (i:Int) Z2:=⟨by unfold AL;omega,by
   have:=ih (j+1) (by omega) (by omega);rw[show((i+(j+1):Nat):Int)=((i+j:Nat):Int)+1 by omega]at this;exact this⟩
  refine AS.Vb ⟨λ_=>⟨u,by omega,by rw[AjM];exact h2,CH ⟨_,rfl,λ_=>next,λfd=>⟨u,by omega,by rw[AjM];exact h2,CP ⟨_,rfl,λtl=>⟨u,by omega,by rw[AjM];exact h2,λ_=>next,λUG=>⟨u,by omega,by rw[AjM];exact h2,λ_=>next,λn46=>?_⟩⟩,λfl=>⟨u,by omega,by rw[AjM];exact h2,λ_=>next,λn46=>?_⟩⟩⟩⟩⟩,λhh=>by omega⟩
  .exfalso;unfold DA at G;rw[fd,AkL,Akx,AjD,AjH,AjH]at G;rcases G with G|G
   .exact UG λe=>G.2 ((QZ (k:=58) (by decide)).1 e)
   .exact n46 ((QZ (k:=46) (by decide)).2 G)
  .exfalso;unfold DA at G;rw[fd,fl,AkL,Aj8,AkL,AjH]at G;exact n46 ((QZ (k:=46) (by decide)).2 G)
def lq (a:List UInt8):List Int:=a.map λu=>((u.toNat:Nat):Int)
theorem Y5 (a:List UInt8)(u:UInt8):lq (a++[u])=lq a++[((u.toNat:Nat):Int)]:=by simp[lq]
def TxG (R:Rr)(s:ByteArray)(p:Option Addr)(n c:Nat)(x7a x7b x7d f0:Int)(s7c:ByteArray)(a:List UInt8)(k:Nat)(y:Hp):Prop:=
 Al y λb=>AI prog (Builtin.append_ #[73,73] 73 #[.slice p n c,(.slice (aD b 0) 1 1)]) (Hp.set y b (.cells #[.I 4,.I f0,.string (bA a),.I 0] 83 (0,0))) (CS λp' G c' y'=>AL ((k:Int)+1)/\AS.JP R s p' G c' x7a x7b s7c x7d ((k:Int)+1) y')
theorem AGE (hb:s.size<=1000000){Zt:Hp}{p:Option Addr}{n c:Nat}{x7a x7b x7d f0:Int}{s7c:ByteArray}:
  ∀(g:Nat) (l a:List UInt8) (k n6 c6:Nat) (p6:Option Addr) (Z2:Hp),l.length<=g->s.data.toList.drop k=l->k<=s.size->AN 1 (F6 .u8) Zt Z2 p6 n6 c6 (lq a)->n6<=k->
   (IA l a=none->∀(Z':Hp) (a:Int),Ext Zt Z'->R (.T #[.N,.I a,.I 173]) Z')->
   (∀(a' r:List UInt8) (Z':Hp) (k':Nat),IA l a=some (a',r)->k<=k'->Ext Zt Z'->s.data.toList.drop (k'+1)=r->k'+1<=s.size->TxG R s p n c x7a x7b x7d f0 s7c a' k' Z')->AS.cV R s p n c p6 n6 c6 x7a x7b s7c x7d (k:Int) f0 Z2:=by
 have hlen:s.data.toList.length=s.size:=Ajd (xs:=s.data);intro g
 induction g with
 | zero=>
  intro l a k n6 c6 p6 Z2 hg hd hk ho hn hE hG;have:s.size<=k:=by
   have:=Ai8 List.length hd;rw[AjN]at this;omega
  obtain rfl:l=[]:=AjL (by omega);exact AS.Xj ⟨λ_=>hE rfl Z2 f0 ho.up,λhh=>absurd (show(k:Int)=(s.size:Int) by omega) hh⟩
 | succ g ih=>
  intro l a k n6 c6 p6 Z2 hg hd hk ho hn hE hG;cases l with
  | nil=>
   have:s.size<=k:=by
    have:=Ai8 List.length hd;rw[AjN]at this;simp at this;omega
   exact AS.Xj ⟨λ_=>hE rfl Z2 f0 ho.up,λhh=>absurd (show(k:Int)=(s.size:Int) by omega) hh⟩
  | cons u l=>
   rw[Aix]at hg;obtain⟨h1,h2⟩:=Ev hd;have bE:s.data.toList.drop (k+1)=l:=B5 (a:=[u]) hd;have mM:s.data[Int.toNat (k:Int)]?=some u:=by rw[AjM];exact h2
   refine AS.Xj ⟨λhh=>by omega,λ_=>⟨u,by omega,mM,λh32=>hE (by rw[IA.eq_def];dsimp only;rw[Aiy (by omega)]) Z2 f0 ho.up,λn32=>⟨u,by omega,mM,λh34=>?_,λn34=>⟨λh92=>?_,λn92=>λAKs AUe=>?_⟩⟩⟩⟩
   .have e:u=34:=(QZ (k:=34) (by decide)).1 h34;subst e;refine kj (ho.rd (F6.mono .u8)) ⟨_,rfl,?_⟩;have e2:strOfNums (lq a)=bA a:=AA6 a;rw[e2];exact hG a l Z2 k (by rw[IA.eq_def];dsimp only;rw[Aiw (by decide),Aiy rfl]) (Ai7 _) ho.up bE (by omega)
   .have e:u=92:=(QZ (k:=92) (by decide)).1 h92;subst e;refine⟨by unfold AL;omega,λhe=>?_,λAd=>⟨by unfold AL;omega,?_⟩⟩
    .obtain rfl:l=[]:=AjL (by
      have:=Ai8 List.length bE;rw[AjN]at this;omega)
     exact hE rfl Z2 f0 ho.up
    cases l with
    | nil=>
     exfalso;have:=Ai8 List.length bE;rw[AjN]at this;simp at this;omega
    | cons v l=>
     rw[Aix]at hg;obtain⟨h3,h4⟩:=Ev bE;have hd2:s.data.toList.drop (k+2)=l:=B5 (a:=[v]) bE;have go:∀z:UInt8,IA (92::v::l) a=IA l (a++[z])->(Al Z2 λb=>AI prog (Builtin.append_ #[134,134] 134 #[.slice p6 n6 c6,(.slice (aD b 0) 1 1)]) (Hp.set Z2 b (.cells #[.int .u8 ((z.toNat:Nat):Int)] 5 (0,0))) (CS λp' n' c' y=>AS.sC R s p n c p' n' c' x7a x7b s7c x7d (k:Int) f0 y)):=λz hz b Kq=>by
      refine AN.Ey (F6.mono .u8) ho rfl (λw hw=>by rw[Ai2]at hw;subst hw;rfl) rfl (by omega) (λp' c' Z4 Iy _=>⟨_,_,_,rfl,AS.AAb ⟨by unfold AL;omega,?_⟩⟩) Kq;rw[<-Y5]at Iy;have:=ih l (a++[z]) (k+2) (n6+1) c' p' Z4 (by omega) hd2 (by omega) Iy (by omega) (λhz'=>hE (hz.trans hz')) λa' r Z' k' ht hkk=>hG a' r Z' k' (hz.trans ht) (by omega);rw[show((k+2:Nat):Int)=(k:Int)+2 by omega]at this;exact this
     have hv2:s.data[Int.toNat ((k:Int)+1)]?=some v:=by rw[show(k:Int)+1=((k+1:Nat):Int) by omega,AjM];exact h4
     have t92:IA (92::v::l) a=if v=34\/v=92 then IA l (a++[v]) else if v=110 then IA l (a++[10]) else none:=by
      rw[IA,Aiw (by decide),Aiw (by decide),Aiy rfl]
     refine⟨v,by omega,hv2,λq34=>AS.j3 ⟨λ_=>go v ?_,λhh=>by cases hh⟩,λq34=>AS.j3 ⟨λq92=>go v ?_,λq92=>⟨λAMW=>go 10 ?_,λAMW=>hE ?_ Z2 f0 ho.up⟩⟩⟩
     .rw[t92,Aiy (.inl ((QZ (k:=34) (by decide)).1 q34))]
     .rw[t92,Aiy (.inr ((QZ (k:=92) (by decide)).1 (AjA q92)))]
     .have G:¬(v=34\/v=92):=λhh=>hh.elim (λe=>q34 ((QZ (k:=34) (by decide)).2 e)) λe=>AjX q92 ((QZ (k:=92) (by decide)).2 e);rw[t92,Aiw G,Aiy (show v=110 from(QZ (k:=110) (by decide)).1 AMW)]
     .have G:¬(v=34\/v=92):=λhh=>hh.elim (λe=>q34 ((QZ (k:=34) (by decide)).2 e)) λe=>AjX q92 ((QZ (k:=92) (by decide)).2 e);rw[t92,Aiw G,Aiw (λe:v=110=>AMW ((QZ (k:=110) (by decide)).2 e))]
   .have G:¬u=34:=λe=>n34 ((QZ (k:=34) (by decide)).2 e);have e92:¬u=92:=λe=>n92 ((QZ (k:=92) (by decide)).2 e);have hz:IA (u::l) a=IA l (a++[u]):=by rw[IA.eq_def];dsimp only;rw[Aiw (by omega),Aiw G,Aiw e92]
    refine AN.Ey (F6.mono .u8) ho rfl (λw hw=>by rw[Ai2]at hw;subst hw;rfl) rfl (by omega) (λp' c' Z4 Iy _=>⟨_,_,_,rfl,by unfold AL;omega,?_⟩) AUe;rw[<-Y5]at Iy;have:=ih l (a++[u]) (k+1) (n6+1) c' p' Z4 (by omega) bE (by omega) Iy (by omega) (λhz'=>hE (hz.trans hz')) λa' r Z' k' ht hkk=>hG a' r Z' k' (hz.trans ht) (by omega);rw[show((k+1:Nat):Int)=(k:Int)+1 by omega]at this;exact this
theorem MN {p:UInt8->Bool}(l:List UInt8):l.takeWhile p++l.dropWhile p=l:=List.takeWhile_append_dropWhile
theorem AGF (hb:s.size<=1000000):∀(f:Nat) (l:List UInt8),l.length<f->∀{i n c:Nat} {Z2:Hp} {p:Option Addr} {C0:List Cl} {x7a x7b x7d:Int} {s7c:ByteArray},s.data.toList.drop i=l->i<=s.size->AN 4 Yp Z0 Z2 p n c C0->n+l.length+1<=1000000->
  qS R Z0 C0 (G2 f l)->AS.JP R s p n c x7a x7b s7c x7d (i:Int) Z2:=by
 have hlen:s.data.toList.length=s.size:=Ajd (xs:=s.data);intro f
 induction f with
 | zero=>intro l hl;omega
 | succ f ih=>
  intro l hl i n c Z2 p C0 x7a x7b x7d s7c hd hi ho hn G;cases l with
  | nil=>
   have:s.size<=i:=by
    have:=Ai8 List.length hd;rw[AjN]at this;simp at this;omega
   exact AS.IN ⟨λ_=>HX ho (by simp at hn;omega) λp' c' y Di=>G.ok rfl y p' _ c' Di,λhh=>by omega⟩
  | cons c0 l=>
   obtain⟨h1,h2⟩:=Ev hd;have bE:s.data.toList.drop (i+1)=l:=B5 (a:=[c0]) hd;have bN:s.data[Int.toNat (i:Int)]?=some c0:=by rw[AjM];exact h2
   rw[Aix]at hl hn;have Ax:s.data.toList.length-i=l.length+1:=by
    have:=Ai8 List.length hd;rw[AjN,Aix]at this;exact this
   rw[G2]at G;by_cases hs:AUd c0=true
   .rw[Aiy hs]at G;have:=ih l (by omega) (x7a:=x7a) (x7b:=x7b) (x7d:=x7d) (s7c:=s7c) bE (by omega) ho (by omega) G;have go:AL ((i:Int)+1)/\AS.JP R s p n c x7a x7b s7c x7d ((i:Int)+1) Z2:=⟨by unfold AL;omega,by rw[show((i+1:Nat):Int)=(i:Int)+1 by omega]at this;exact this⟩;have Pb:=AjA hs;exact AS.IN ⟨λhh=>by omega,λ_=>⟨c0,by omega,bN,λ_=>go,λn1=>⟨λ_=>go,λn2=>⟨λ_=>go,λn3=>⟨λ_=>go,λn4=>by omega⟩⟩⟩⟩⟩
   rw[Aiw hs]at G;have Pb:¬(c0.toNat=32\/c0.toNat=9\/c0.toNat=13\/c0.toNat=10):=λhh=>hs (AjC hh);have pre:(Spec prog 58 #[(.int .u8 ((c0.toNat:Nat):Int))] Z2 (Ab R (CB λt49 y=>Bo t49 (AS.Xh R s p n c x7a x7b s7c x7d (i:Int) (i:Int) y) (Spec prog 59 #[(.int .u8 ((c0.toNat:Nat):Int))] y (Ab R (CB λt52 AE=>Bo t52 (AS.Xi R s p n c x7a x7b s7c x7d (i:Int) (i:Int) AE) (Br (((c0.toNat:Nat):Int)=34) (AL ((i:Int)+1)/\AS.cV R s p n c none 0 0 x7a x7b s7c x7d ((i:Int)+1) (i:Int) AE) (∃s60,YF prog (Instr.sliceAt 9 (.string s) (some (.I (i:Int))) none none) AE (.string s60)/\Spec prog 60 #[.string s60] AE (Ab R (CT λsD AK=>Bn ((ByteArray.toList sD==ByteArray.toList (ByteArray.mk #[]))) (Al AK λzc=>AI prog (Builtin.append_ #[73,73] 73 #[.slice p n c,(.slice (aD zc 0) 1 1)]) (Hp.set AK zc (.cells #[.I 5,.I (i:Int),.string sD,.I 0] 83 (0,0))) (CS λvB n69 vC Am=>AL ((i:Int)+(sD.size:Int))/\AS.JP R s vB n69 vC x7a x7b s7c x7d (((i:Int)+(sD.size:Int))) Am)) (R (.T #[.N,.I (i:Int),.I 171]) AK)))))))))))->AS.JP R s p n c x7a x7b s7c x7d (i:Int) Z2:=λh=>
    AS.IN ⟨λhh=>by omega,λ_=>⟨c0,by omega,bN,λe=>absurd e (by omega),λ_=>⟨λe=>absurd e (by omega),λ_=>⟨λe=>absurd e (by omega),λ_=>⟨λe=>absurd e (by omega),λ_=>h⟩⟩⟩⟩⟩
   refine pre ?_;clear pre;by_cases hdg:Cz c0=true
   .rw[Aiy hdg]at G;have hsp:s.data.toList.drop i=(c0::l.takeWhile DA)++l.dropWhile DA:=by rw[Ajp,MN];exact hd
    have hdr:s.data.toList.drop (i+(c0::l.takeWhile DA).length)=l.dropWhile DA:=B5 hsp;have hle:(l.dropWhile DA).length<=l.length:=(AkX _).length_le;have Abe:(c0::l.takeWhile DA).length+(l.dropWhile DA).length=l.length+1:=by
     have:=Ai8 List.length (hsp.symm.trans hd);rw[Ai5]at this;exact this
    have go:∀(k v:Int),qS R Z0 C0 (JC (Ui k (bA (c0::l.takeWhile DA)) v) (G2 f (l.dropWhile DA)))->AS.IE R s p n c k (i:Int) (bA (c0::l.takeWhile DA)) v ((i+(c0::l.takeWhile DA).length:Nat):Int) Z2:=λk v hK=>
     AS.Xk (HX ho (by omega) λp' c' y Di=>ih (l.dropWhile DA) (by omega) hdr (by omega) Di (by omega) hK.cons)
    refine CH ⟨_,rfl,λ_=>?_,λff=>absurd (hdg.symm.trans ff) (by decide)⟩;refine wv (w:=c0::l.takeWhile DA) hb (head_drop l) (λu hu=>?_) (λhp=>?_) (λhp hq=>?_) (λhp hq=>?_) hsp hi _ 0 rfl (AjB _)
    .rcases Ai1.1 hu with rfl|hu
     .unfold DA;rw[hdg];rfl
     .exact ll l u hu
    .rw[Aiy hp]at G;exact go 2 _ G
    .rw[Aiw hp,Aiy hq]at G;exact go 1 _ G
    .rw[Aiw hp,Aiw (by rw[hq];decide)]at G;exact G.er (by decide) Z2 _ ho.up
   rw[Aiw hdg]at G;refine CH ⟨_,rfl,λtt=>absurd tt hdg,λ_=>?_⟩;by_cases ACn:Tv c0=true
   .rw[Aiy ACn]at G;have hsp:s.data.toList.drop i=(c0::l.takeWhile JA)++l.dropWhile JA:=by rw[Ajp,MN];exact hd
    have hdr:s.data.toList.drop (i+(c0::l.takeWhile JA).length)=l.dropWhile JA:=B5 hsp;have hle:(l.dropWhile JA).length<=l.length:=(AkX _).length_le;have Abe:(c0::l.takeWhile JA).length+(l.dropWhile JA).length=l.length+1:=by
     have:=Ai8 List.length (hsp.symm.trans hd);rw[Ai5]at this;exact this
    refine CP ⟨_,rfl,λ_=>?_,λff=>absurd (ACn.symm.trans ff) (by decide)⟩;refine dU (w:=c0::l.takeWhile JA) hb (head_drop l) (λu hu=>?_) (HX ho (by omega) λp' c' y Di=>ih (l.dropWhile JA) (by omega) hdr (by omega) Di (by omega) G.cons) hsp hi _ 0 rfl (AjB _);rcases Ai1.1 hu with rfl|hu
    .unfold JA;rw[ACn];rfl
    .exact ll l u hu
   rw[Aiw ACn]at G;refine CP ⟨_,rfl,λtt=>absurd tt ACn,λ_=>?_⟩;by_cases h34:c0=34
   .rw[Aiy h34]at G;refine⟨λ_=>⟨by unfold AL;omega,?_⟩,λhh=>absurd (by rw[h34];rfl) hh⟩;have:=AGE (R:=R) (s:=s) hb (Zt:=Z2) (p:=p) (n:=n) (c:=c) (x7a:=x7a) (x7b:=x7b) (x7d:=x7d) (s7c:=s7c) (f0:=(i:Int)) l.length l [] (i+1) 0 0 none Z2 (Ai7 _) bE (by omega) (AN.nil (.refl _)) (AjB _) (λhz Z' a hx=>?_) λa r Z' k ht hkk hx hdk hk=>?_
    .rw[show((i+1:Nat):Int)=(i:Int)+1 by omega]at this;exact this
    .rw[hz]at G;dsimp only at G;exact G.er (by decide) Z' a (ho.up.trans hx)
    .rw[ht]at G;dsimp only at G;have kt:r.length<l.length:=by
      have:=Ai8 List.length hdk;rw[AjN]at this;omega
     unfold TxG;refine HX (ho.mono Yp.mono hx) (by omega) λp' c' y Di=>⟨by unfold AL;omega,?_⟩;have:=ih r (by omega) (x7a:=x7a) (x7b:=x7b) (x7d:=x7d) (s7c:=s7c) hdk hk Di (by omega) G.cons;rw[show((k+1:Nat):Int)=(k:Int)+1 by omega]at this;exact this
   rw[Aiw h34]at G;refine⟨λe=>absurd ((QZ (k:=34) (by decide)).1 e) h34,λ_=>⟨_,Px (by omega),?_⟩⟩;have hex:(s.extract i s.size).data.toList=c0::l:=by rw[Sm,hd];exact Ai4 (by rw[Aix];omega)
   have e1:(s.extract i s.size).extract 0 1=bA [c0]:=L3 (i:=0) (a:=[c0]) (l:=l) hex;have AUg:(s.extract i s.size).size=l.length+1:=Ai8 List.length hex;have sgn:∀(w r:List UInt8),w++r=c0::l->w≠[]->qS R Z0 C0 (JC (Ui 5 (bA w) 0) (G2 f r))->(CT λsD AK=>Bn ((ByteArray.toList sD==ByteArray.toList (ByteArray.mk #[]))) (Al AK λzc=>AI prog (Builtin.append_ #[73,73] 73 #[.slice p n c,(.slice (aD zc 0) 1 1)]) (Hp.set AK zc (.cells #[.I 5,.I (i:Int),.string sD,.I 0] 83 (0,0))) (CS λvB n69 vC Am=>AL ((i:Int)+(sD.size:Int))/\AS.JP R s vB n69 vC x7a x7b s7c x7d (((i:Int)+(sD.size:Int))) Am)) (R (.T #[.N,.I (i:Int),.I 171]) AK)) (.string (bA w)) Z2:=λw r hwr hw hK=>by
    have hws:(bA w).size=w.length:=by simp[bA,ByteArray.size]
    have hwp:0<w.length:=All.2 hw;have hdw:s.data.toList.drop (i+w.length)=r:=B5 (hd.trans hwr.symm);have hll:w.length+r.length=l.length+1:=by
     have:=Ai8 List.length hwr;rw[Ai5,Aix]at this;exact this
    refine⟨_,rfl,λ_=>HX ho (by omega) λp' c' y Di=>⟨by rw[hws];unfold AL;omega,?_⟩,λhe=>?_⟩
    .have:=ih r (by omega) (x7a:=x7a) (x7b:=x7b) (x7d:=x7d) (s7c:=s7c) hdw (by omega) Di (by omega) hK.cons;rw[hws];rw[show((i+w.length:Nat):Int)=(i:Int)+(w.length:Int) by omega]at this;exact this
    .rw[j7,AjH]at he;omega
   by_cases h2':(l.head?.any λu=>FP (bA [c0,u]) Ma)=true
   .rw[Aiy h2']at G;cases l with
    | nil=>cases h2'
    | cons u l=>
     have h2':FP (bA [c0,u]) Ma=true:=h2';have e2:(s.extract i s.size).extract 0 2=bA [c0,u]:=L3 (i:=0) (a:=[c0,u]) (l:=l) hex;rw[Aix]at AUg;refine Ul (by omega) (by rw[e2];exact h2') ?_;rw[e2];exact sgn [c0,u] l rfl (by simp) G
   rw[Aiw h2']at G;have AZ:1<(s.extract i s.size).size->FP ((s.extract i s.size).extract 0 2) Ma=false:=λhg=>by
    cases l with
    | nil=>rw[AUg]at hg;simp at hg
    | cons u l=>
     have e2:(s.extract i s.size).extract 0 2=bA [c0,u]:=L3 (i:=0) (a:=[c0,u]) (l:=l) hex;rw[e2];have h2':¬FP (bA [c0,u]) Ma=true:=h2';simpa using h2'
   by_cases h1':c0∈qK
   .rw[Aiy h1']at G;refine Um (c:=c0) (by rw[hex];rfl) AZ h1' ?_;rw[e1];exact sgn [c0] l rfl (by simp) G
   .rw[Aiw h1']at G;refine qT (c:=c0) (by rw[hex];rfl) AZ h1' ⟨_,rfl,λhe=>?_,λ_=>G.er (by decide) Z2 _ ho.up⟩;simp at he
end
inductive Rz (α:Type) where
 | ok (x:α)
 | er (e:Int)
 | out
def Rz.bind {α β:Type}:Rz α->(α->Rz β)->Rz β
 | .ok x,g=>g x
 | .er e,_=>.er e
 | .out,_=>.out
def Qw (G a:Int):Value:=.iface 80 (.agg #[.I G,.I a])
def Fz (R:Rr)(O22:Hp)(G:Int):Prop:=∀(a:Int) (y:Hp),Ext O22 y->R (.panicked [{ v:=Qw G a,recovered:=false }]) y
theorem Fz.base {R:Rr}{O22 G:Hp}{EX:Int}(h:Fz R O22 EX)(hx:Ext O22 G):Fz R G EX:=λa y hy=>h a y (hx.trans hy)
theorem Fz.box {R:Rr}{O22:Hp}{EX:Int}{b:Nat}{o:Obj}(h:Fz R O22 EX):Fz (λe G=>G b=none->R e (G.set b o)) O22 EX:=λa y hy hn=>h a _ (hy.trans (.set hn))
theorem Fz.cont {R:Rr}{O22:Hp}{G:Int}{Φ:Value->Hp->Prop}(h:Fz R O22 G):Fz (Ab R Φ) O22 G:=λa y hy=>h a y hy
def Uo (c:Cl):Int:=if c.kind=0 then 180 else 181
def tU:Nat->List Cl->List ByteArray->Rz (List ByteArray×List Cl)
 | 0,_,_=>.out
 | _+1,[],_=>.out
 | f+1,c::r,ns=>if c.rp then .ok (ns,r) else if ns.length=0 then(if c.name then tU f r (ns++[c.text]) else .er (Uo c)) else if c.comma then(match r with
  | []=>.out
  | w::r'=>if w.name then tU f r' (ns++[w.text]) else .er (Uo w)) else .er (Uo c)
def Tx (k:Int):List Cl->Rz (Int×List ByteArray×List Cl)
 | []=>.out
 | l::r=>if l.lp then(tU (r.length+1) r []).bind λx=>.ok (k,x.1,x.2) else .er (Uo l)
def bG (s0 s1:ByteArray)(G k1:Int):List Cl->Rz (Int×List ByteArray×List Cl)
 | []=>.out
 | c::r=>if GC c.kind c.text 3 s0 then Tx G r else if GC c.kind c.text 3 s1 then Tx k1 r else .ok (0,[],c::r)
section
variable {O22 ρ ρ':Hp}{pb nb n c m e:Nat}{p q:Option Addr}{ts:List Cl}{out:List Nd}{d:Int}{t:Cl}{R:Rr}
theorem B4.xt (h:B4 O22 ρ pb p n c q m e ts out)(o:Obj):Ext O22 (ρ.set pb o):=h.out.up.trans (h.ext o)
theorem DB (h:B4 O22 ρ pb p n c q m e (t::ts) out)(hE:Fz R O22 (Uo t)):Spec prog 32 #[.pointer (aD pb 0)] (ρ.set pb (pO p n c d q m e)) R:=by
 refine Fc.start (BF h λa=>⟨_,_,_,_,rfl,λG=>BF h λa'=>⟨_,_,_,_,rfl,Cw.start λ_=>?_⟩,λG=>Fc.LD (BF h λa'=>⟨_,_,_,_,rfl,Cw.start λ_=>?_⟩)⟩)
 .have:=hE a' _ (h.xt (pO p n c d q m e));rw[Uo,Aiy G]at this;exact this
 .have:=hE a' _ (h.xt (pO p n c d q m e));rw[Uo,Aiw G]at this;exact this
theorem JD {s:ByteArray}(h:B4 O22 ρ pb p n c q m e (t::ts) out)(G:GC t.kind t.text 5 s=true->R (.T #[]) (ρ.set pb (pO (E4 p 1 c 4) (n-1) (c-1) d q m e)))(hE:GC t.kind t.text 5 s=false->Fz R O22 (Uo t)):
  Spec prog 137 #[.pointer (aD pb 0),.string s] (ρ.set pb (pO p n c d q m e)) R:=
 Cs.start (BN h ⟨_,rfl,λhf=>DB h (hE hf).cont,λht=>Cs.LD (BB h λa=>⟨_,_,_,_,rfl,G ht⟩)⟩)
theorem Up (h:B4 O22 ρ pb p n c q m e (t::ts) out)(AW:t.name=true->R (.returned (.string t.text)) (ρ.set pb (pO (E4 p 1 c 4) (n-1) (c-1) d q m e)))(hE:t.name=false->Fz R O22 (Uo t)):Spec prog 138 #[.pointer (aD pb 0)] (ρ.set pb (pO p n c d q m e)) R:=by
 have hk:t.name=(decide (t.kind=3)&&Du t.text):=Ai8 Cl.name h.tok.1;refine Cv.start (BF h λa=>⟨_,_,_,_,rfl,λAd=>DB h (hE ?_).cont,λG=>BF h λa=>⟨_,_,_,_,rfl,Py ⟨_,rfl,λhf=>DB h (hE ?_).cont,λht=>Cv.A9 (BB h λa=>⟨_,_,_,_,rfl,AW ?_⟩)⟩⟩⟩)
 .rw[hk,AjE Ad];rfl
 .rw[hk,hf,AkC]
 .rw[hk,ht,AjC (AjZ.1 G)];rfl
theorem Uq (h:B4 O22 ρ pb p n c q m e (t::ts) out)(AW:t.kind=2->R (.returned (.I t.span)) (ρ.set pb (pO (E4 p 1 c 4) (n-1) (c-1) d q m e)))(hE:t.kind≠2->Fz R O22 (Uo t)):Spec prog 266 #[.pointer (aD pb 0)] (ρ.set pb (pO p n c d q m e)) R:=
 Co.start (BF h λa=>⟨_,_,_,_,rfl,λAd=>DB h (hE Ad).cont,λG=>Co.A9 (BB h λa=>⟨_,_,_,_,rfl,AW (AjZ.1 G)⟩)⟩)
theorem lr {ρ0:Hp}:∀(f:Nat) (ts:List Cl) (ns:List ByteArray),ns.length+f<=1000000->∀{ρ:Hp} {p pn:Option Addr} {n c kn cn:Nat},B4 O22 ρ0 pb p n c q m e ts out->ρ pb=none->AN 1 VO ρ0 ρ pn kn cn ns->
  (∀x,tU f ts ns=.ok x->∀(ρ':Hp) (p' pn':Option Addr) (n' c' kn' cn':Nat),B4 O22 ρ0 pb p' n' c' q m e x.2 out->ρ' pb=none->AN 1 VO ρ0 ρ' pn' kn' cn' x.1->R (.returned (.slice pn' kn' cn')) (ρ'.set pb (pO p' n' c' d q m e)))->
  (∀e',tU f ts ns=.er e'->Fz R O22 e')->tU f ts ns≠.out->Av.CA R (aD pb 0) pn kn cn (ρ.set pb (pO p n c d q m e)):=by
 intro f
 induction f with
 | zero=>intro ts ns _ ρ p pn n c kn cn _ _ _ _ _ AZ;exact absurd rfl AZ
 | succ f ih=>
  intro ts ns hb ρ p pn n c kn cn h0 hn ho AW A6 AZ;cases ts with
  | nil=>exact absurd rfl AZ
  | cons c0 r=>
   have hu:=h0.grow ho.up hn;have ht:=hu.tok.1;have ma:ns.length=kn:=ho.1.1;have cD:c0.rp=GC c0.kind c0.text 5 ⟨#[41]⟩:=Ai8 Cl.rp ht;have hcm:c0.comma=GC c0.kind c0.text 5 ⟨#[44]⟩:=Ai8 Cl.comma ht;rw[tU.eq_def]at AW A6 AZ;dsimp only at AW A6 AZ;have app:∀(w:Cl) (r':List Cl) (p1:Option Addr) (n1 c1:Nat),(w.name=true->∀x,tU f r' (ns++[w.text])=.ok x->∀(ρ':Hp) (p' pn':Option Addr) (n' c' kn' cn':Nat),B4 O22 ρ0 pb p' n' c' q m e x.2 out->ρ' pb=none->AN 1 VO ρ0 ρ' pn' kn' cn' x.1->R (.returned (.slice pn' kn' cn')) (ρ'.set pb (pO p' n' c' d q m e)))->(w.name=true->∀e',tU f r' (ns++[w.text])=.er e'->Fz R O22 e')->(w.name=true->tU f r' (ns++[w.text])≠.out)->(w.name=false->Fz R O22 (Uo w))->B4 O22 ρ0 pb p1 n1 c1 q m e (w::r') out->Av.RL R (aD pb 0) pn kn cn (ρ.set pb (pO p1 n1 c1 d q m e)):=λw r' p1 n1 c1 k1 k2 k3 k4 Ql=>
    Av.La (Up (Ql.grow ho.up hn) (λG=>⟨_,rfl,λb Kq=>by
     obtain⟨e1,e2⟩:=Hp.AM Kq;rw[Hp.BA (AjI e1)];refine AI.AQ (by rw[Hp.AB (AjI e1)];exact hn) ?_;refine AN.Ey VO.mono ho rfl (λu hu=>by rw[Ai2]at hu;subst hu;rfl) rfl (by omega) (λpn' cn' ρ' Di QO MQ=>⟨_,_,_,rfl,?_⟩) e2;exact ih r' _ (by rw[Ai5,Ajc];omega) Ql.step MQ Di (k1 G) (k2 G) (k3 G)⟩) λhf=>(k4 hf).cont)
   refine Av.A1 (BN hu ⟨_,rfl,λth=>?_,λoV=>BB hu λa=>⟨_,_,_,_,rfl,?_⟩⟩)
   .rw[<-cD]at th;rw[Aiw (by rw[th];decide)]at AZ;simp only[Aiw (show ¬c0.rp=true by rw[th];decide)]at AW A6;refine⟨λHu=>?_,λHu=>?_⟩
    .rw[Aiw (by omega)]at AZ;simp only[Aiw (show ¬ns.length=0 by omega)]at AW A6;refine JD hu (λhc=>⟨rfl,?_⟩) λhc=>(A6 _ (by rw[Aiw (by rw[hcm,hc];decide)])).cont;rw[<-hcm]at hc;simp only[Aiy hc]at AW A6 AZ;cases r with
     | nil=>exact absurd rfl AZ
     | cons w r'=>
      dsimp only at AW A6 AZ;refine app w r' _ _ _ (λG x hx=>AW x (by rw[Aiy G];exact hx)) (λG e' he=>A6 e' (by rw[Aiy G];exact he)) (λG he=>AZ (by rw[Aiy G];exact he)) (λG=>A6 _ (by rw[Aiw (by rw[G];decide)])) h0.step
    .rw[Aiy (by omega)]at AZ;simp only[Aiy (show ns.length=0 by omega)]at AW A6;exact app c0 r p n c (λG x hx=>AW x (by rw[Aiy G];exact hx)) (λG e' he=>A6 e' (by rw[Aiy G];exact he)) (λG he=>AZ (by rw[Aiy G];exact he)) (λG=>A6 _ (by rw[Aiw (by rw[G];decide)])) h0
   .rw[<-cD]at oV;exact AW (ns,r) (by rw[Aiy oV]) ρ _ pn _ _ kn cn h0.step hn ho
theorem gS {k:Int}(h:B4 O22 ρ pb p n c q m e (t::ts) out)(hl:ts.length<=900000)
  (AW:∀x,Tx k (t::ts)=.ok x->∀(ρ':Hp) (p' pn:Option Addr) (n' c' kn cn:Nat),B4 O22 ρ' pb p' n' c' q m e x.2.2 out->Ext ρ ρ'->Fj 1 (ρ.new ρ') pn kn (x.2.1.map .string)->x.1=k->R (.returned (.slice pn kn cn)) (ρ'.set pb (pO p' n' c' d q m e)))
  (G:∀e',Tx k (t::ts)=.er e'->Fz R O22 e') (AZ:Tx k (t::ts)≠.out) :
  Spec prog 122 #[.pointer (aD pb 0)] (ρ.set pb (pO p n c d q m e)) R:=by
 have lZ:t.lp=GC t.kind t.text 5 ⟨#[40]⟩:=Ai8 Cl.lp h.tok.1;rw[Tx.eq_def]at AW G AZ;dsimp only at AW G AZ;refine Av.start (JD h (λQ7=>⟨rfl,?_⟩) λQ7=>(G _ (by rw[Aiw (by rw[lZ,Q7];decide)])).cont);rw[<-lZ]at Q7;simp only[Aiy Q7]at AW G AZ;refine lr (ts.length+1) ts [] (by rw[Ajw];omega) h.step h.pb (AN.nil (.refl _)) (λx hx ρ' p2 pn n2 c2 kn cn hu hn ho=>AW (k,x.1,x.2) (by rw[hx];rfl) ρ' p2 pn n2 c2 kn cn (hu.grow ho.up hn) ho.up (tN (ho.gN λ_ _ _ _ h=>h)) rfl) (λe' he=>G e' (by rw[he];rfl)) λhe=>AZ (by rw[he];rfl)
theorem dX {k op x0 x1 v ps:Int}{b:Bool}{i b7:Nat}{s0 s1 s:ByteArray}{l:Cl}{r:List Cl}(h:B4 O22 ρ pb p n c q m e (t::l::r) out)(HS:(ρ.set pb (pO p n c d q m e)) nb=none)(hb7:ρ b7=some (.cells #[.I x0,.I x1] 189 (0,0)))
  (hi:i<2) (hs:[s0,s1][i]?=some s) (hv:(#[Value.int .i64 x0,.I x1])[i]?=some (.I v)) (ht:GC t.kind t.text 3 s=true) (hl:r.length<=900000)
  (AW:∀x,Tx v (l::r)=.ok x->∀(ρ':Hp) (p' pn:Option Addr) (n' c' kn cn:Nat),B4 O22 ρ' pb p' n' c' q m e x.2.2 out->Ext ρ ρ'->(ρ'.set pb (pO p' n' c' d q m e)) nb=none->Fj 1 (ρ.new ρ') pn kn (x.2.1.map .string)->R (.T #[]) ((ρ'.set pb (pO p' n' c' d q m e)).set nb (Yu k op none 0 0 0 x.1 pn kn cn b ps)))
  (A6:∀e',Tx v (l::r)=.er e'->Fz R O22 e') (AZ:Tx v (l::r)≠.out) :
  Ak.jU R (aD pb 0) (aD nb 0) b7 s0 s1 (i:Int) ((ρ.set pb (pO p n c d q m e)).set nb (Yu k op none 0 0 0 0 none 0 0 b ps)):=by
 have kn7:∀{G:Hp} {o u:Obj},Ext ρ G->G pb=none->(G.set pb o) nb=none->((G.set pb o).set nb u) b7=some (.cells #[.I x0,.I x1] 189 (0,0)):=λhx h1 h2=>(Ext.set h2) _ _ ((Ext.set h1) _ _ (hx _ _ hb7));refine Ak.M4 ⟨λ_=>⟨by omega,s,by simpa using hs,Spec.AQ HS (BN h λhn=>⟨_,rfl,λ_=>Spec.AQ hn (BB h λa JR=>⟨_,_,_,_,rfl,by omega,v,?_,Spec.AQ JR (gS (k:=v) h.step hl (λx hx G p2 pn n2 c2 kn cn hu Xr hr aq IF=>⟨_,_,_,rfl,?_,nb,0,rfl,?_⟩) (λe' he=>(A6 e' he).cont.box) AZ)⟩),λhf=>absurd (ht.symm.trans hf) (by decide)⟩)⟩,λhh=>by omega⟩
 .exact AJ (kn7 (.refl _) h.pb JR) (by simpa using hv)
 .intro j hj o ho;rw[Ai2]at hj;subst hj;rw[kn7 (.refl _) h.pb JR]at ho;rw[kn7 Xr hu.pb IF];exact ho
 .refine st1 I1 (Hp.AA _ _ _) rfl rfl (by simp) rfl ?_;rw[Hp.set_set];refine st1 tP (Hp.AA _ _ _) rfl rfl (by simp) rfl ?_;rw[Hp.set_set];have:=AW x hx G p2 pn n2 c2 kn cn hu Xr IF hr;rw[aq]at this;exact this
theorem Ur {k op x0 x1 ps:Int}{b:Bool}{s0 s1:ByteArray}(h:B4 O22 ρ pb p n c q m e ts out)(HS:(ρ.set pb (pO p n c d q m e)) nb=none)(hl:ts.length<=900000)
  (AW:∀g,bG s0 s1 x0 x1 ts=.ok g->∀(ρ':Hp) (p' pn:Option Addr) (n' c' kn cn:Nat),B4 O22 ρ' pb p' n' c' q m e g.2.2 out->Ext ρ ρ'->(ρ'.set pb (pO p' n' c' d q m e)) nb=none->Fj 1 (ρ.new ρ') pn kn (g.2.1.map .string)->R (.T #[]) ((ρ'.set pb (pO p' n' c' d q m e)).set nb (Yu k op none 0 0 0 g.1 pn kn cn b ps)))
  (A6:∀e',bG s0 s1 x0 x1 ts=.er e'->Fz R O22 e') (G:bG s0 s1 x0 x1 ts≠.out) :
  Spec prog 99 #[.pointer (aD pb 0),.pointer (aD nb 0),.agg #[.string s0,.string s1],.agg #[.I x0,.I x1]] ((ρ.set pb (pO p n c d q m e)).set nb (Yu k op none 0 0 0 0 none 0 0 b ps)) R:=by
 cases ts with
 | nil=>exact absurd rfl G
 | cons t r=>
  rw[bG.eq_def]at AW A6 G;dsimp only at AW A6 G;by_cases h0:GC t.kind t.text 3 s0=true\/GC t.kind t.text 3 s1=true
  .cases r with
   | nil=>
    exfalso;rcases h0 with h0|h0
    .rw[Aiy h0]at G;exact G rfl
    .by_cases h1:GC t.kind t.text 3 s0=true
     .rw[Aiy h1]at G;exact G rfl
     .rw[Aiw h1,Aiy h0]at G;exact G rfl
   | cons l r=>
    rw[Aix,Aix]at hl;refine Ak.start λ_ b7 hb=>?_;obtain⟨n1,F7⟩:=Hp.AM hb;obtain⟨n2,UW⟩:=Hp.AM F7;rw[Hp.BA (AjI n1),Hp.BA (AjI n2)];have xx:=Ext.set (o:=.cells #[.I x0,.I x1] 189 (0,0)) UW;have hu:=h.grow xx (by rw[Hp.AB (AjI n2)];exact h.pb);have MQ:((ρ.set b7 (.cells #[.I x0,.I x1] 189 (0,0))).set pb (pO p n c d q m e)) nb=none:=by
     rw[Hp.BA n2,Hp.AB (AjI n1)];exact HS
    by_cases h1:GC t.kind t.text 3 s0=true
    .simp only[Aiy h1]at AW A6 G;exact dX (i:=0) (v:=x0) hu MQ (Hp.AA _ _ _) (by decide) rfl rfl h1 (by omega) (λx hx ρ' p' pn n' c' kn cn Bi QO IF hr=>AW x hx ρ' p' pn n' c' kn cn Bi (xx.trans QO) IF (hr.mono (Ext.Ci xx))) A6 G
    .simp only[Aiw h1]at AW A6 G;have h2:=h0.resolve_left h1;simp only[Aiy h2]at AW A6 G;refine Ly (i:=0) hu MQ (by decide) rfl (by simpa using h1) ?_;exact dX (i:=1) (v:=x1) hu MQ (Hp.AA _ _ _) (by decide) rfl rfl h2 (by omega) (λx hx ρ' p' pn n' c' kn cn Bi QO IF hr=>AW x hx ρ' p' pn n' c' kn cn Bi (xx.trans QO) IF (hr.mono (Ext.Ci xx))) A6 G
  .rw[Ak9]at h0;simp only[Aiw h0.1,Aiw h0.2]at AW;exact RZ h HS (by simpa using h0.1) (by simpa using h0.2) λρ' hu hx hn=>AW _ rfl ρ' p none n c 0 0 hu hx hn ⟨rfl,by omega,.inl rfl⟩
theorem Y6 {g:Nat}{fst cap:Array Value}(KG:Enters prog g)(h:B4 O22 ρ pb p n c q m e (t::ts) out)(hd:0<=d/\d<=64)(hE:d=64->Fz R O22 182)
  (hR:d≠64->Spec prog g (fst++#[]++cap) (ρ.set pb (pO (E4 p 1 c 4) (n-1) (c-1) (d+1) q m e)) (Ab R λz y=>z=.tuple #[]/\∃(ρ':Hp) (p' q':Option Addr) (n' c' m' e':Nat),y=ρ'.set pb (pO p' n' c' (d+1) q' m' e')/\R (.T #[]) (ρ'.set pb (pO p' n' c' d q' m' e')))) :
  Spec prog 219 #[.pointer (aD pb 0),.func (.func g) fst cap] (ρ.set pb (pO p n c d q m e)) R:=by
 by_cases G:d=64
 .refine EC.start ⟨pb,0,rfl,d,by simp[Hp.ld,Hp.AA],λ_=>BF h λa=>⟨_,_,_,_,rfl,Cw.start λ_=>hE G a _ (h.xt _)⟩,λhh=>absurd G hh⟩
 .exact Tu KG h ⟨hd.1,by omega⟩ (hR G)
end
def mkW:List ByteArray:=[⟨#[]⟩,⟨#[61]⟩,⟨#[33,61]⟩,⟨#[61,126]⟩,⟨#[33,126]⟩]
def AGH (c:Cl):Bool:=GC c.kind c.text 5 ⟨#[125]⟩
def wx (ms:List Mt):List Cl->Rz (List Mt×List Cl)
 | []=>.out
 | w::G=>if w.name then(match G with
  | []=>.out
  | o::r2=>if o.kind≠5\/JT mkW o.text=0 then .er (Uo o) else(match r2 with
   | []=>.out
   | v::r3=>if v.kind≠4 then .er (Uo v) else if F0 Du (ms++[⟨(JT mkW o.text:Nat),w.text,v.text⟩])≠0 then .er 183 else .ok (ms++[⟨(JT mkW o.text:Nat),w.text,v.text⟩],r3))) else .er (Uo w)
def Sp:Nat->List Cl->List Mt->Bool->Rz (List Mt×List Cl)
 | 0,_,_,_=>.out
 | _+1,[],_,_=>.out
 | f+1,c::r,ms,G=>if AGH c then .ok (ms,r) else if G then(wx ms (c::r)).bind λx=>Sp f x.2 x.1 false else if c.comma then(wx ms r).bind λx=>Sp f x.2 x.1 false else .er (Uo c)
def AGI (k w bk:Int)(ms:List Mt):Nd:=⟨k,0,⟨#[]⟩,ms,w,bk,0,[],false,0⟩
def bH (k w:Int)(ms:List Mt):List Cl->Rz (List Cl×Nd)
 | []=>.out
 | a::r=>if a.off then(match r with
  | []=>.out
  | s::G=>if s.kind=2 then .ok (G,AGI k w s.span ms) else .er (Uo s)) else .ok (a::r,AGI k w 0 ms)
def bI (ms:List Mt):List Cl->Rz (List Cl×Nd)
 | []=>.out
 | a::r=>if a.lsq then(match r with
  | []=>.out
  | s::G=>if s.kind=2 then(match G with
   | []=>.out
   | e::r2=>if e.rsq then bH 3 s.span ms r2 else .er (Uo e)) else .er (Uo s)) else bH 2 0 ms (a::r)
def bJ (word:Bool)(ms:List Mt):List Cl->Rz (List Cl×Nd)
 | []=>.out
 | a::r=>if a.lbr then(Sp (r.length+1) r ms true).bind λx=>bI x.1 x.2 else if word then bI ms (a::r) else .er (Uo a)
def gT:List Cl->Rz (List Cl×Nd)
 | []=>.out
 | t::r=>if t.kind=3/\t.kept=false then(if F0 Du [⟨1,EV,t.text⟩]≠0 then .er 183 else bJ true [⟨1,EV,t.text⟩] r) else bJ false [] (t::r)
abbrev mT (k:Int)(pm:Option Addr)(km cm:Nat)(w bk:Int):Obj:=.cells #[.I k,.I 0,.string (ByteArray.mk #[]),.slice pm km cm,.I w,.I bk,.I 0,.N,.bool false,.I 0] 127 (0,0)
theorem Abf {ρ:Hp}{pb nb b:Nat}{o u v:Obj}(hb:((ρ.set pb o).set nb u) b=none):ρ b=none/\b≠pb/\b≠nb/\((ρ.set pb o).set nb u).set b v=((ρ.set b v).set pb o).set nb u:=by
 obtain⟨G,F7⟩:=Hp.AM hb;obtain⟨e2,UW⟩:=Hp.AM F7;exact⟨UW,e2,G,by rw[Hp.BA (AjI G),Hp.BA (AjI e2)]⟩
section
variable {O22 ρ ρ0:Hp}{pb nb n c m e km cm:Nat}{p q pm:Option Addr}{ts:List Cl}{out:List Nd}{d:Int}{t:Cl}{R:Rr}{ms:List Mt}
theorem dY {k a v mk kk w bk:Int}{mn mv s':ByteArray}(h0:B4 O22 ρ0 pb p n c q m e ts out)(hn:ρ pb=none)(ho:AN 3 Jj ρ0 ρ pm km cm ms)(HS:(ρ.set pb (pO p n c d q m e)) nb=none)(hb:km<=1000000)
  (AW:F0 Du (ms++[⟨mk,mn,mv⟩])=0->∀(ρ':Hp) (G:Option Addr) (da:Nat),ρ' pb=none->AN 3 Jj ρ0 ρ' G (km+1) da (ms++[⟨mk,mn,mv⟩])->(ρ'.set pb (pO p n c d q m e)) nb=none->R (.T #[]) ((ρ'.set pb (pO p n c d q m e)).set nb (mT kk G (km+1) da w bk)))
  (A6:F0 Du (ms++[⟨mk,mn,mv⟩])≠0->Fz R O22 183) :
  Spec prog 264 #[.pointer (aD pb 0),.pointer (aD nb 0),.agg #[.I mk,.string mn,.string mv],.agg #[.I k,.I a,.string s',.I v]] ((ρ.set pb (pO p n c d q m e)).set nb (mT kk pm km cm w bk)) R:=by
 refine HO.start λ_ _=>⟨nb,0,rfl,pm,km,cm,by simp[Hp.ld,Hp.AA],λb Kq=>?_⟩;obtain⟨e1,F7⟩:=Hp.AM Kq;obtain⟨e2,UW⟩:=Hp.AM F7;rw[Hp.BA (AjI e1)];refine AI.AQ (by rw[Hp.AB (AjI e1)];exact HS) ?_;rw[Hp.BA (AjI e2)];refine AI.AQ (by rw[Hp.AB (AjI e2)];exact hn) ?_;refine AN.Ey (vs:=[.I mk,.string mn,.string mv]) (x:=(⟨mk,mn,mv⟩:Mt)) Jj.mono ho rfl (λu hu=>?_) rfl (by omega) (λG da ρ' Di hx xW JR=>⟨_,_,_,rfl,?_⟩) UW
 .simp only[Ai1,AjK,Ajl]at hu;rcases hu with rfl|rfl|rfl<;>rfl
 .refine st1 tO (Hp.AA _ _ _) rfl rfl (by simp) rfl ?_;rw[Hp.set_set];have X:Ext ρ' ((ρ'.set pb (pO p n c d q m e)).set nb (mT kk G (km+1) da w bk)):=(Ext.set xW).trans (Ext.set JR);refine⟨G,km+1,da,by simp[Hp.ld,Hp.AA],PF ((Di.rd Jj.mono).mono Jj.mono X) ⟨_,rfl,λAd=>Cw.start λ_=>?_,λheq=>AW (AjZ.1 heq) ρ' G da xW Di JR⟩⟩;exact A6 Ad a _ (h0.out.up.trans (Di.up.trans X))
theorem ACp {w bk:Int}(h0:B4 O22 ρ0 pb p n c q m e ts out)(hn:ρ pb=none)(ho:AN 3 Jj ρ0 ρ pm km cm ms)(HS:(ρ.set pb (pO p n c d q m e)) nb=none)(hb:km<=1000000)
  (AW:∀x,wx ms ts=.ok x->∀(ρ':Hp) (p' dZ:Option Addr) (n' c' da:Nat),B4 O22 ρ0 pb p' n' c' q m e x.2 out->ρ' pb=none->AN 3 Jj ρ0 ρ' dZ (km+1) da x.1->(ρ'.set pb (pO p' n' c' d q m e)) nb=none->Ai.jU R (aD pb 0) (aD nb 0) false ((ρ'.set pb (pO p' n' c' d q m e)).set nb (mT 2 dZ (km+1) da w bk)))
  (G:∀e',wx ms ts=.er e'->Fz R O22 e') (AZ:wx ms ts≠.out) :
  Ai.HG R (aD pb 0) (aD nb 0) ((ρ.set pb (pO p n c d q m e)).set nb (mT 2 pm km cm w bk)):=by
 cases ts with
 | nil=>exact absurd rfl AZ
 | cons u r1=>
  have hu:=h0.grow ho.up hn;rw[wx.eq_def]at AW G AZ;dsimp only at AW G AZ;refine Ai.CC (Spec.AQ HS (Up hu (λhw JR=>⟨_,rfl,λ_ Fb Abg=>?_⟩) λhw=>(G _ (by rw[Aiw (by rw[hw];decide)])).cont.box));simp only[Aiy hw]at AW G AZ;cases r1 with
  | nil=>exact absurd rfl AZ
  | cons o r2=>
   dsimp only at AW G AZ;obtain⟨g1,g2,g3,g4⟩:=Abf (v:=.cells (mkW.map Value.string).toArray 9 (0,0)) Abg;show Spec prog 31 #[.pointer (aD pb 0)] (Hp.set _ Fb (.cells (mkW.map Value.string).toArray 9 (0,0))) _
   rw[g4];have x17:=Ext.set (o:=.cells (mkW.map Value.string).toArray 9 (0,0)) g1;generalize AMY:ρ.set Fb (.cells (mkW.map Value.string).toArray 9 (0,0))=ρ1 at *;have AMZ:ρ1 pb=none:=by rw[<-AMY,Hp.AB (AjI g2)];exact hn
   have Rv:=ho.mono Jj.mono x17;have Ql:=h0.step.grow Rv.up AMZ;have wy:(ρ1.set pb (pO (E4 p 1 c 4) (n-1) (c-1) d q m e)) nb=none:=by
    rw[<-AMY,Hp.BA g2,Hp.AB (AjI g3)];exact JR
   have Abh:ρ1 Fb=some (.cells (mkW.map Value.string).toArray 9 (0,0)):=by rw[<-AMY];exact Hp.AA _ _ _
   have Abi:Fj 1 ((ρ1.set pb (pO (E4 p 1 c 4) (n-1) (c-1) d q m e)).set nb (mT 2 pm km cm w bk)) (aD Fb 0) 5 (mkW.map .string):=gM (l:=mkW) ((Ext.set wy) _ _ ((Ext.set AMZ) _ _ Abh)) (by decide);refine Spec.AQ wy (BF Ql λa IF=>⟨_,_,_,_,rfl,C3 Abi ⟨_,rfl,Spec.AQ IF (BF Ql λa2 QS=>⟨_,_,_,_,rfl,λh5=>?_,λh5=>⟨λhz=>?_,λhz=>?_⟩⟩)⟩⟩)
   .exact Spec.AQ QS (DB Ql (G _ (by rw[Aiy (.inl h5)])).cont.box)
   .exact Spec.AQ QS (DB Ql (G _ (by rw[Aiy (.inr (by omega))])).cont.box)
   have Abj:¬(o.kind≠5\/JT mkW o.text=0):=λhh=>hh.elim h5 λh=>hz (by omega);simp only[Aiw Abj]at AW G AZ;cases r2 with
   | nil=>exact absurd rfl AZ
   | cons v r3=>
    dsimp only at AW G AZ;have QY:=Ql.step;have h02:=h0.step.step;refine Ai.fE (Spec.AQ QS (BB Ql λa3 mS=>⟨_,_,_,_,rfl,Spec.AQ mS (BF QY λa4 hn5=>⟨_,_,_,_,rfl,λh4=>?_,λh4=>?_⟩)⟩))
    .exact Spec.AQ hn5 (DB QY (G _ (by rw[Aiy h4])).cont.box)
    simp only[Aiw h4]at AW G AZ;refine Ai.Lc (Spec.AQ hn5 (BB QY λa5 hn6=>⟨_,_,_,_,rfl,λ_=>?_⟩));refine dY (ms:=ms) h02.step AMZ Rv hn6 hb (λhz0 ρ' dZ da hp' Di MQ=>⟨rfl,?_⟩) λAd=>(G _ (by rw[Aiy Ad])).cont;exact AW _ (by rw[Aiw (by rw[hz0];decide)]) ρ' _ dZ _ _ da h02.step hp' Di MQ
theorem wz {w bk:Int}:∀(f:Nat) (ts:List Cl) (ms:List Mt) (fi:Bool),ms.length+f<=1000000->∀{ρ:Hp} {p pm:Option Addr} {n c km cm:Nat},B4 O22 ρ0 pb p n c q m e ts out->ρ pb=none->AN 3 Jj ρ0 ρ pm km cm ms->(ρ.set pb (pO p n c d q m e)) nb=none->
  (∀x,Sp f ts ms fi=.ok x->∀(ρ':Hp) (p' dZ:Option Addr) (n' c' km' da:Nat),B4 O22 ρ0 pb p' n' c' q m e x.2 out->ρ' pb=none->AN 3 Jj ρ0 ρ' dZ km' da x.1->(ρ'.set pb (pO p' n' c' d q m e)) nb=none->R (.T #[]) ((ρ'.set pb (pO p' n' c' d q m e)).set nb (mT 2 dZ km' da w bk)))->
  (∀e',Sp f ts ms fi=.er e'->Fz R O22 e')->Sp f ts ms fi≠.out->Ai.jU R (aD pb 0) (aD nb 0) fi ((ρ.set pb (pO p n c d q m e)).set nb (mT 2 pm km cm w bk)):=by
 intro f
 induction f with
 | zero=>intro ts ms fi _ ρ p pm n c km cm _ _ _ _ _ _ G;exact absurd rfl G
 | succ f ih=>
  intro ts ms fi hb ρ p pm n c km cm h0 hn ho HS AW A6 G;cases ts with
  | nil=>exact absurd rfl G
  | cons c0 r=>
   have hu:=h0.grow ho.up hn;have hkm:ms.length=km:=ho.1.1;have hcm:c0.comma=GC c0.kind c0.text 5 ⟨#[44]⟩:=Ai8 Cl.comma hu.tok.1;rw[Sp.eq_def]at AW A6 G;dsimp only at AW A6 G;have nx:∀{tQ:List Cl} {p1:Option Addr} {n1 c1:Nat},B4 O22 ρ0 pb p1 n1 c1 q m e tQ out->(ρ.set pb (pO p1 n1 c1 d q m e)) nb=none->
     (∀x,(wx ms tQ).bind (λx=>Sp f x.2 x.1 false)=.ok x->∀(ρ':Hp) (p' dZ:Option Addr) (n' c' km' da:Nat),B4 O22 ρ0 pb p' n' c' q m e x.2 out->ρ' pb=none->AN 3 Jj ρ0 ρ' dZ km' da x.1->(ρ'.set pb (pO p' n' c' d q m e)) nb=none->R (.T #[]) ((ρ'.set pb (pO p' n' c' d q m e)).set nb (mT 2 dZ km' da w bk)))->
     (∀e',(wx ms tQ).bind (λx=>Sp f x.2 x.1 false)=.er e'->Fz R O22 e')->(wx ms tQ).bind (λx=>Sp f x.2 x.1 false)≠.out->Ai.HG R (aD pb 0) (aD nb 0) ((ρ.set pb (pO p1 n1 c1 d q m e)).set nb (mT 2 pm km cm w bk)):=fun {tQ p1 n1 c1} h1 wy k1 k2 k3=>
    ACp h1 hn ho wy (by omega) (λx hx ρ' p' dZ n' c' da Bi MQ Di AMa=>by
     rw[hx]at k1 k2 k3;have hl:x.1.length=km+1:=Di.1.1;exact ih x.2 x.1 false (by omega) Bi MQ Di AMa k1 k2 k3) (λe' he=>k2 e' (by rw[he];rfl)) λhe=>k3 (by rw[he];rfl)
   refine Ai.M4 (Spec.AQ HS (BN hu λJR=>⟨_,rfl,λhf=>?_,λht=>?_⟩))
   .have uc:¬AGH c0=true:=by unfold AGH;rw[hf];decide
    simp only[Aiw uc]at AW A6 G;cases fi with
    | true=>
     simp only[AkQ]at AW A6 G;exact⟨λhh=>(by cases hh),λ_=>nx h0 JR AW A6 G⟩
    | false=>
     simp only[AkP,AkO]at AW A6 G;refine⟨λ_=>Spec.AQ JR (JD hu (λhc IF=>⟨rfl,?_⟩) λhc=>(A6 _ (by rw[Aiw (by rw[hcm,hc];decide)])).cont.box),λhh=>by cases hh⟩;rw[<-hcm]at hc;simp only[Aiy hc]at AW A6 G;exact nx h0.step IF AW A6 G
   .have hrt:AGH c0=true:=ht;refine Spec.AQ JR (BB hu λa IF=>⟨_,_,_,_,rfl,AW _ (by rw[Aiy hrt]) ρ _ pm _ _ km cm h0.step hn ho IF⟩)
theorem db {k w:Int}(h0:B4 O22 ρ0 pb p n c q m e ts out)(hn:ρ pb=none)(ho:AN 3 Jj ρ0 ρ pm km cm ms)(HS:(ρ.set pb (pO p n c d q m e)) nb=none)(hb:m<=1000000)
  (AW:∀x,bH k w ms ts=.ok x->∀(ρ':Hp) (p' q':Option Addr) (n' c' G:Nat),B4 O22 ρ' pb p' n' c' q' (m+1) G x.1 (out++[x.2])->R (.T #[]) (ρ'.set pb (pO p' n' c' d q' (m+1) G)))
  (A6:∀G,bH k w ms ts=.er G->Fz R O22 G) (AZ:bH k w ms ts≠.out) :
  AP.Ns R (aD pb 0) nb ((ρ.set pb (pO p n c d q m e)).set nb (mT k pm km cm w 0)):=by
 cases ts with
 | nil=>exact absurd rfl AZ
 | cons a r=>
  have hu:=h0.grow ho.up hn;have hof:a.off=GC a.kind a.text 3 ⟨#[111,102,102,115,101,116]⟩:=Ai8 Cl.off hu.tok.1;have hr:Af 3 Jj (ρ.del q) pm km ms:=(ho.gN λ_ _ _ _ h=>h).mono Jj.mono (h0.out.new ho.up);rw[bH.eq_def]at AW A6 AZ;dsimp only at AW A6 AZ;have fin:∀{bk:Int} {tQ:List Cl} {p1:Option Addr} {n1 c1:Nat},B4 O22 ρ pb p1 n1 c1 q m e tQ out->(ρ.set pb (pO p1 n1 c1 d q m e)) nb=none->(∀(ρ':Hp) (q':Option Addr) (G:Nat),B4 O22 ρ' pb p1 n1 c1 q' (m+1) G tQ (out++[AGI k w bk ms])->R (.T #[]) (ρ'.set pb (pO p1 n1 c1 d q' (m+1) G)))->AP.WZ R (aD pb 0) nb ((ρ.set pb (pO p1 n1 c1 d q m e)).set nb (mT k pm km cm w bk)):=fun {bk tQ p1 n1 c1} h1 wy hR1=>by
   refine AP.R5 ⟨_,_,_,_,_,_,_,_,_,_,_,_,_,_,I8 (Hp.AA _ _ _),?_⟩;refine Spec.AQ wy (CG (x:=AGI k w bk ms) h1 hb hr ⟨rfl,by omega,.inl rfl⟩ λρ' q' G Bi MQ=>⟨rfl,?_⟩);obtain⟨g1,g2⟩:=Bi.box (u:=mT k pm km cm w bk) MQ;rw[g2];exact hR1 _ q' G g1
  refine AP.Lc (Spec.AQ HS (BN hu λJR=>⟨_,rfl,λht=>?_,λhf=>?_⟩))
  .rw[<-hof]at ht;simp only[Aiy ht]at AW A6 AZ;cases r with
   | nil=>exact absurd rfl AZ
   | cons s r1=>
    dsimp only at AW A6 AZ;have Ql:=hu.step;refine Spec.AQ JR (BB hu λa1 IF=>⟨_,_,_,_,rfl,Spec.AQ IF (Uq Ql (λhk QS=>⟨_,rfl,?_⟩) λhk=>(A6 _ (by rw[Aiw hk])).cont.box)⟩);refine st1 qH (Hp.AA _ _ _) rfl rfl (by simp) rfl ?_;rw[Hp.set_set];exact fin (bk:=s.span) Ql.step QS λρ' q' G Bi=>AW _ (by rw[Aiy hk]) ρ' _ q' _ _ G Bi
  .rw[<-hof]at hf;simp only[Aiw (show ¬a.off=true by rw[hf];decide)]at AW;exact fin (bk:=0) hu JR λρ' q' G Bi=>AW _ rfl ρ' _ q' _ _ G Bi
theorem dc (h0:B4 O22 ρ0 pb p n c q m e ts out)(hn:ρ pb=none)(ho:AN 3 Jj ρ0 ρ pm km cm ms)(HS:(ρ.set pb (pO p n c d q m e)) nb=none)(hb:m<=1000000)
  (AW:∀x,bI ms ts=.ok x->∀(ρ':Hp) (p' q':Option Addr) (n' c' e':Nat),B4 O22 ρ' pb p' n' c' q' (m+1) e' x.1 (out++[x.2])->R (.T #[]) (ρ'.set pb (pO p' n' c' d q' (m+1) e')))
  (A6:∀e',bI ms ts=.er e'->Fz R O22 e') (G:bI ms ts≠.out) :
  AP.HF R (aD pb 0) nb ((ρ.set pb (pO p n c d q m e)).set nb (mT 2 pm km cm 0 0)):=by
 cases ts with
 | nil=>exact absurd rfl G
 | cons a r=>
  have hu:=h0.grow ho.up hn;have Vd:a.lsq=GC a.kind a.text 5 ⟨#[91]⟩:=Ai8 Cl.lsq hu.tok.1;rw[bI.eq_def]at AW A6 G;dsimp only at AW A6 G;refine AP.Ea (Spec.AQ HS (BN hu λJR=>⟨_,rfl,λht=>?_,λhf=>?_⟩))
  .rw[<-Vd]at ht;simp only[Aiy ht]at AW A6 G;cases r with
   | nil=>exact absurd rfl G
   | cons s r1=>
    dsimp only at AW A6 G;have Ql:=hu.step;refine Spec.AQ JR (BB hu λa1 IF=>⟨_,_,_,_,rfl,Spec.AQ IF (Uq Ql (λhk QS=>⟨_,rfl,?_⟩) λhk=>(A6 _ (by rw[Aiw hk])).cont.box)⟩);simp only[Aiy hk]at AW A6 G;cases r1 with
    | nil=>exact absurd rfl G
    | cons ee r2=>
     dsimp only at AW A6 G;have QY:=Ql.step;have hrs:ee.rsq=GC ee.kind ee.text 5 ⟨#[93]⟩:=Ai8 Cl.rsq QY.tok.1;refine st1 I1 (Hp.AA _ _ _) rfl rfl (by simp) rfl ?_;rw[Hp.set_set];refine st1 qH (Hp.AA _ _ _) rfl rfl (by simp) rfl ?_;rw[Hp.set_set];refine Spec.AQ QS (JD QY (λhc mS=>⟨rfl,?_⟩) λhc=>(A6 _ (by rw[Aiw (by rw[hrs,hc];decide)])).cont.box);rw[<-hrs]at hc;simp only[Aiy hc]at AW A6 G;exact db (k:=3) (w:=s.span) h0.step.step.step hn ho mS hb AW A6 G
  .rw[<-Vd]at hf;simp only[Aiw (show ¬a.lsq=true by rw[hf];decide)]at AW A6 G;exact db (k:=2) (w:=0) h0 hn ho JR hb AW A6 G
theorem de {word:Bool}(h0:B4 O22 ρ0 pb p n c q m e ts out)(hn:ρ pb=none)(ho:AN 3 Jj ρ0 ρ pm km cm ms)(HS:(ρ.set pb (pO p n c d q m e)) nb=none)(hb:m<=1000000)(hl:ms.length+ts.length<=900000)
  (AW:∀x,bJ word ms ts=.ok x->∀(ρ':Hp) (p' q':Option Addr) (n' c' e':Nat),B4 O22 ρ' pb p' n' c' q' (m+1) e' x.1 (out++[x.2])->R (.T #[]) (ρ'.set pb (pO p' n' c' d q' (m+1) e')))
  (G:∀e',bJ word ms ts=.er e'->Fz R O22 e') (AZ:bJ word ms ts≠.out) :
  AP.GQ R (aD pb 0) nb word ((ρ.set pb (pO p n c d q m e)).set nb (mT 2 pm km cm 0 0)):=by
 cases ts with
 | nil=>exact absurd rfl AZ
 | cons a r=>
  have hu:=h0.grow ho.up hn;have hlb:a.lbr=GC a.kind a.text 5 ⟨#[123]⟩:=Ai8 Cl.lbr hu.tok.1;rw[Aix]at hl;rw[bJ.eq_def]at AW G AZ;dsimp only at AW G AZ;refine AP.EA (Spec.AQ HS (BN hu λJR=>⟨_,rfl,λht=>?_,λhf=>?_⟩))
  .rw[<-hlb]at ht;simp only[Aiy ht]at AW G AZ;refine Spec.AQ JR (BB hu λa1 IF=>⟨_,_,_,_,rfl,Ai.start ?_⟩);refine wz (r.length+1) r ms true (by omega) h0.step hn ho IF (λx hx ρ' p' dZ n' c' km' da Bi MQ Di AMa=>⟨rfl,?_⟩) (λe' he=>(G e' (by rw[he];rfl)).cont) λhe=>AZ (by rw[he];rfl);rw[hx]at AW G AZ;exact dc Bi MQ Di AMa hb AW G AZ
  .rw[<-hlb]at hf;simp only[Aiw (show ¬a.lbr=true by rw[hf];decide)]at AW G AZ;cases word with
   | true=>
    simp only[AkQ]at AW G AZ;exact⟨λhh=>(by cases hh),λ_=>dc h0 hn ho JR hb AW G AZ⟩
   | false=>
    simp only[AkP,AkO]at AW G AZ;exact⟨λ_=>Spec.AQ JR (DB hu (G _ rfl).cont.box),λhh=>by cases hh⟩
theorem w7 (h:B4 O22 ρ pb p n c q m e ts out)(hb:m<=1000000)(hl:ts.length<=800000)
  (AW:∀x,gT ts=.ok x->∀(ρ':Hp) (p' q':Option Addr) (n' c' e':Nat),B4 O22 ρ' pb p' n' c' q' (m+1) e' x.1 (out++[x.2])->R (.T #[]) (ρ'.set pb (pO p' n' c' d q' (m+1) e')))
  (A6:∀e',gT ts=.er e'->Fz R O22 e') (AZ:gT ts≠.out) :
  Spec prog 242 #[.pointer (aD pb 0)] (ρ.set pb (pO p n c d q m e)) R:=by
 cases ts with
 | nil=>exact absurd rfl AZ
 | cons t r=>
  have MR:t.kept=lM t.text:=Ai8 Cl.kept h.tok.1;rw[Aix]at hl;rw[gT.eq_def]at AW A6 AZ;dsimp only at AW A6 AZ;refine AP.start λnb HS=>Tt ?_;have no:¬(t.kind=3/\t.kept=false)->∀G,B4 O22 G pb p n c q m e (t::r) out->(G.set pb (pO p n c d q m e)) nb=none->AP.GQ R (aD pb 0) nb false ((G.set pb (pO p n c d q m e)).set nb (mT 2 none 0 0 0 0)):=λhnw G h1 JR=>by
   simp only[Aiw hnw]at AW A6 AZ;exact de h1 h1.pb (AN.nil (.refl _)) JR hb (by simp;omega) AW A6 AZ
  refine Spec.AQ HS (BF h λa JR=>⟨_,_,_,_,rfl,λ_=>⟨λhk=>?_,λhk=>no (λhh=>hk hh.1) ρ h JR⟩⟩);refine Spec.AQ JR (dT h λG h1 x1 IF=>⟨_,rfl,λhf=>?_,λht=>no (λhh=>by rw[MR,ht]at hh;cases hh.2) G h1 IF⟩);have hw:t.kind=3/\t.kept=false:=⟨hk,MR.trans hf⟩;simp only[Aiy hw]at AW A6 AZ;refine Spec.AQ IF (BB h1 λa' QS=>⟨_,_,_,_,rfl,?_⟩);refine dY (ms:=[]) (kk:=2) (w:=0) (bk:=0) h1.step h1.pb (AN.nil (.refl _)) QS (by decide) (λhz0 ρ' dZ da hp' Di MQ=>⟨rfl,?_⟩) λAd=>(A6 _ (Aiy (show F0 Du [⟨1,EV,t.text⟩]≠0 from Ad))).cont;simp only[Aiw (show ¬F0 Du [⟨1,EV,t.text⟩]≠0 by rw[AjZ];exact hz0)]at AW A6 AZ;exact de (word:=true) (ms:=[⟨1,EV,t.text⟩]) h1.step hp' Di MQ hb (by simp;omega) AW A6 AZ
end
set_option maxRecDepth 100000
abbrev sOn:ByteArray:=⟨#[111,110]⟩
abbrev AUh:ByteArray:=⟨#[105,103,110,111,114,105,110,103]⟩
abbrev sBy:ByteArray:=⟨#[98,121]⟩
abbrev sWo:ByteArray:=⟨#[119,105,116,104,111,117,116]⟩
def AMb (op:Nat)(b:Bool)(g:Int)(ns:List ByteArray):Nd:=⟨6,op,⟨#[]⟩,[],0,0,g,ns,b,2⟩
def ACq (ns:List Nd):List Cl->Rz (List Cl×List Nd)
 | []=>.out
 | e::r=>if e.rp then .ok (r,ns) else .er (Uo e)
abbrev AId (l:Nat)(c:Cl):Prop:=(c.kind≠5/\c.kind≠3)\/(c.op:Int)<(Ho (l-10)).1\/(Ho (l-10)).2<(c.op:Int)\/(l=11/\c.op=12)
def blB (c b:Cl):Bool:=decide (5<=c.op)&&decide (c.op<=10)&&b.bool
def pe:Nat->Nat->Int->List Cl->Rz (List Cl×List Nd)
 | 0,_,_,_=>.out
 | f+1,l,d,ts=>
  if l<5 then(pe f (l+1) d ts).bind λx=>(pe f (l+10) d x.1).bind λy=>.ok (y.1,x.2++y.2)
  else match ts with
   | []=>.out
   | c::r=>
    if 10<=l then
     (if AId l c then .ok (c::r,[]) else match r with
      | []=>.out
      | b::r'=>(bG sOn AUh 3 4 (bif blB c b then r' else b::r')).bind λg=>(pe f (l-9) d g.2.2).bind λx=>(pe f l d x.1).bind λy=>.ok (y.1,x.2++AMb c.op (blB c b) g.1 g.2.1::y.2))
    else if l=5 then(if c.minus then(if d=64 then .er 182 else(pe f 5 (d+1) r).bind λx=>.ok (x.1,x.2++[lN])) else pe f 6 d (c::r))
    else if l=6 then
     (if c.kind=1 then .ok (r,[wP c.text])
     else if c.lp then pe f 7 d (c::r)
     else if c.kind=3/\0<c.fn then(pe f 7 d r).bind λx=>.ok (x.1,x.2++[dL c.fn])
     else if c.kind=3/\0<c.ag then(bG sBy sWo 1 2 r).bind λg=>(pe f 7 d g.2.2).bind λx=>.ok (x.1,x.2++[wR c.ag g.1 g.2.1])
     else(gT (c::r)).bind λx=>.ok (x.1,[x.2]))
    else if c.lp then(if d=64 then .er 182 else(pe f 0 (d+1) r).bind λx=>ACq x.2 x.1) else .er (Uo c)
theorem Rz.Db {α β:Type}{x:Rz α}{g:α->Rz β}{y:β}(h:x.bind g=.ok y):∃a,x=.ok a/\g a=.ok y:=by
 cases x with
 | ok a=>exact⟨a,rfl,h⟩
 | er e=>cases h
 | out=>cases h
theorem AGJ:∀(f:Nat) (ts:List Cl) (ns:List ByteArray) (x:List ByteArray×List Cl),tU f ts ns=.ok x->x.2.length<=ts.length/\∀c∈x.2,c∈ts:=by
 intro f
 induction f with
 | zero=>intro ts ns x h;cases h
 | succ f ih=>
  intro ts ns x h;cases ts with
  | nil=>cases h
  | cons c r=>
   rw[tU.eq_def]at h;dsimp only at h;split at h
   .cases h;exact⟨by simp,λu G=>Aiz _ G⟩
   split at h
   .split at h
    .obtain⟨h1,h2⟩:=ih _ _ _ h;exact⟨by rw[Aix];(try dsimp only at *);omega,λu G=>Aiz _ (h2 u G)⟩
    .cases h
   split at h
   .split at h
    .cases h
    .split at h
     .obtain⟨h1,h2⟩:=ih _ _ _ h;exact⟨by rw[Aix,Aix];(try dsimp only at *);omega,λu G=>Aiz _ (Aiz _ (h2 u G))⟩
     .cases h
   .cases h
theorem lu {k:Int}{ts:List Cl}{g:Int×List ByteArray×List Cl}(h:Tx k ts=.ok g):g.2.2.length<=ts.length/\∀c∈g.2.2,c∈ts:=by
 cases ts with
 | nil=>cases h
 | cons l r=>
  rw[Tx.eq_def]at h;dsimp only at h;split at h
  .obtain⟨x,hx,h⟩:=Rz.Db h;cases h;obtain⟨h1,G⟩:=AGJ _ _ _ _ hx;exact⟨by rw[Aix];(try dsimp only at *);omega,λu hu=>Aiz _ (G u hu)⟩
  .cases h
theorem Kl {s0 s1:ByteArray}{k0 k1:Int}{ts:List Cl}{g:Int×List ByteArray×List Cl}(h:bG s0 s1 k0 k1 ts=.ok g):g.2.2.length<=ts.length/\∀c∈g.2.2,c∈ts:=by
 cases ts with
 | nil=>cases h
 | cons c r=>
  rw[bG.eq_def]at h;dsimp only at h;split at h
  .obtain⟨h1,h2⟩:=lu h;exact⟨by rw[Aix];(try dsimp only at *);omega,λu G=>Aiz _ (h2 u G)⟩
  split at h
  .obtain⟨h1,h2⟩:=lu h;exact⟨by rw[Aix];(try dsimp only at *);omega,λu G=>Aiz _ (h2 u G)⟩
  .cases h;exact⟨Ai7 _,λu G=>G⟩
theorem tV {ms:List Mt}{ts:List Cl}{x:List Mt×List Cl}(h:wx ms ts=.ok x):x.2.length<=ts.length/\∀c∈x.2,c∈ts:=by
 cases ts with
 | nil=>cases h
 | cons w r1=>
  rw[wx.eq_def]at h;dsimp only at h;split at h
  .cases r1 with
   | nil=>cases h
   | cons o r2=>
    dsimp only at h;split at h
    .cases h
    cases r2 with
    | nil=>cases h
    | cons v r3=>
     dsimp only at h;split at h
     .cases h
     split at h
     .cases h
     .cases h;exact⟨by simp;(try dsimp only at *);omega,λu G=>Aiz _ (Aiz _ (Aiz _ G))⟩
  .cases h
theorem ACs:∀(f:Nat) (ts:List Cl) (ms:List Mt) (fi:Bool) (x:List Mt×List Cl),Sp f ts ms fi=.ok x->x.2.length<=ts.length/\∀c∈x.2,c∈ts:=by
 intro f
 induction f with
 | zero=>intro ts ms fi x h;cases h
 | succ f ih=>
  intro ts ms fi x h;cases ts with
  | nil=>cases h
  | cons c r=>
   rw[Sp.eq_def]at h;dsimp only at h;split at h
   .cases h;exact⟨by simp,λu G=>Aiz _ G⟩
   split at h
   .obtain⟨y,hy,h⟩:=Rz.Db h;obtain⟨h1,h2⟩:=tV hy;obtain⟨h3,h4⟩:=ih _ _ _ _ h;exact⟨by (try dsimp only at *);omega,λu G=>h2 u (h4 u G)⟩
   split at h
   .obtain⟨y,hy,h⟩:=Rz.Db h;obtain⟨h1,h2⟩:=tV hy;obtain⟨h3,h4⟩:=ih _ _ _ _ h;exact⟨by rw[Aix];(try dsimp only at *);omega,λu G=>Aiz _ (h2 u (h4 u G))⟩
   .cases h
theorem lv {k w:Int}{ms:List Mt}{ts:List Cl}{x:List Cl×Nd}(h:bH k w ms ts=.ok x):x.1.length<=ts.length/\(∀c∈x.1,c∈ts)/\x.2.text=⟨#[]⟩:=by
 cases ts with
 | nil=>cases h
 | cons a r=>
  rw[bH.eq_def]at h;dsimp only at h;split at h
  .cases r with
   | nil=>cases h
   | cons s r1=>
    dsimp only at h;split at h
    .cases h;exact⟨by simp;(try dsimp only at *);omega,λu G=>Aiz _ (Aiz _ G),rfl⟩
    .cases h
  .cases h;exact⟨Ai7 _,λu G=>G,rfl⟩
theorem lz {ms:List Mt}{ts:List Cl}{x:List Cl×Nd}(h:bI ms ts=.ok x):x.1.length<=ts.length/\(∀c∈x.1,c∈ts)/\x.2.text=⟨#[]⟩:=by
 cases ts with
 | nil=>cases h
 | cons a r=>
  rw[bI.eq_def]at h;dsimp only at h;split at h
  .cases r with
   | nil=>cases h
   | cons s r1=>
    dsimp only at h;split at h
    .cases r1 with
     | nil=>cases h
     | cons e r2=>
      dsimp only at h;split at h
      .obtain⟨h1,G,h3⟩:=lv h;exact⟨by simp;(try dsimp only at *);omega,λu hu=>Aiz _ (Aiz _ (Aiz _ (G u hu))),h3⟩
      .cases h
    .cases h
  .exact lv h
theorem l3 {word:Bool}{ms:List Mt}{ts:List Cl}{x:List Cl×Nd}(h:bJ word ms ts=.ok x):x.1.length<=ts.length/\(∀c∈x.1,c∈ts)/\x.2.text=⟨#[]⟩/\(word=false->x.1.length<ts.length):=by
 cases ts with
 | nil=>cases h
 | cons a r=>
  rw[bJ.eq_def]at h;dsimp only at h;split at h
  .obtain⟨y,hy,h⟩:=Rz.Db h;obtain⟨h1,h2⟩:=ACs _ _ _ _ _ hy;obtain⟨h3,G,h5⟩:=lz h;exact⟨by rw[Aix];(try dsimp only at *);omega,λu hu=>Aiz _ (h2 u (G u hu)),h5,λ_=>by rw[Aix];(try dsimp only at *);omega⟩
  split at h
  .rename_i hw;obtain⟨h3,G,h5⟩:=lz h;exact⟨h3,G,h5,λhf=>absurd (hw.symm.trans hf) (by decide)⟩
  .cases h
theorem ACt {ts:List Cl}{x:List Cl×Nd}(h:gT ts=.ok x):x.1.length+1<=ts.length/\(∀c∈x.1,c∈ts)/\x.2.text=⟨#[]⟩:=by
 cases ts with
 | nil=>cases h
 | cons t r=>
  rw[gT.eq_def]at h;dsimp only at h;split at h
  .split at h
   .cases h
   .obtain⟨h1,G,h3,_⟩:=l3 h;exact⟨by rw[Aix];(try dsimp only at *);omega,λu hu=>Aiz _ (G u hu),h3⟩
  .obtain⟨h1,G,h3,h4⟩:=l3 h;exact⟨h4 rfl,G,h3⟩
def TxI (ts:List Cl)(x:Nd):Prop:=x.text=⟨#[]⟩\/∃c∈ts,x.text=c.text
theorem TxI.sub {ts G:List Cl}{x:Nd}(h:TxI ts x)(hs:∀c∈ts,c∈G):TxI G x:=h.imp id λ⟨c,h1,h2⟩=>⟨c,hs c h1,h2⟩
theorem PU:∀(f l:Nat) (d:Int) (ts:List Cl) (x:List Cl×List Nd),pe f l d ts=.ok x->x.2.length+x.1.length<=ts.length/\(∀c∈x.1,c∈ts)/\∀u∈x.2,TxI ts u:=by
 intro f
 induction f with
 | zero=>intro l d ts x h;cases h
 | succ f ih=>
  intro l d ts x h;rw[pe.eq_def]at h;dsimp only at h;split at h
  .obtain⟨y,hy,h⟩:=Rz.Db h;obtain⟨z,hz,h⟩:=Rz.Db h;cases h;obtain⟨a1,a2,a3⟩:=ih _ _ _ _ hy;obtain⟨b1,b2,b3⟩:=ih _ _ _ _ hz;refine⟨by rw[Ai5];(try dsimp only at *);omega,λc hc=>a2 c (b2 c hc),λu G=>?_⟩;rcases AjU.1 G with G|G
   .exact a3 u G
   .exact(b3 u G).sub a2
  cases ts with
  | nil=>cases h
  | cons c r=>
   have up:∀v∈r,v∈c::r:=λv hv=>Aiz _ hv;dsimp only at h;split at h
   .split at h
    .cases h;exact⟨by simp,λu G=>G,λu G=>by cases G⟩
    cases r with
    | nil=>cases h
    | cons b r'=>
     dsimp only at h;obtain⟨g,hg,h⟩:=Rz.Db h;obtain⟨y,hy,h⟩:=Rz.Db h;obtain⟨z,hz,h⟩:=Rz.Db h;cases h;obtain⟨g1,g2⟩:=Kl hg;have g3:(bif blB c b then r' else b::r').length<=r'.length+1/\∀v∈(bif blB c b then r' else b::r'),v∈c::b::r':=by
      cases blB c b with
      | true=>exact⟨by rw[Akk];(try dsimp only at *);omega,λv hv=>Aiz _ (Aiz _ hv)⟩
      | false=>exact⟨by rw[AkZ,Aix];(try dsimp only at *);omega,λv hv=>Aiz _ hv⟩
     obtain⟨a1,a2,a3⟩:=ih _ _ _ _ hy;obtain⟨b1,b2,b3⟩:=ih _ _ _ _ hz;have up2:∀v∈g.2.2,v∈c::b::r':=λv hv=>g3.2 v (g2 v hv);refine⟨by rw[Ai5,Aix,Aix,Aix];(try dsimp only at *);omega,λv hv=>up2 v (a2 v (b2 v hv)),λu G=>?_⟩;rcases AjU.1 G with G|G
     .exact(a3 u G).sub up2
     .rcases Ai1.1 G with rfl|G
      .exact .inl rfl
      .exact((b3 u G).sub a2).sub up2
   split at h
   .split at h
    .split at h
     .cases h
     .obtain⟨y,hy,h⟩:=Rz.Db h;cases h;obtain⟨a1,a2,a3⟩:=ih _ _ _ _ hy;refine⟨by rw[Ai5,Aix,Aix,Ajw];(try dsimp only at *);omega,λv hv=>up v (a2 v hv),λu G=>?_⟩;rcases AjU.1 G with G|G
      .exact(a3 u G).sub up
      .rw[Ai2.1 G];exact .inl rfl
    .exact ih _ _ _ _ h
   split at h
   .split at h
    .cases h;refine⟨by simp;(try dsimp only at *);omega,up,λu G=>?_⟩;rw[Ai2.1 G];exact .inr ⟨c,AjG ..,rfl⟩
    split at h
    .exact ih _ _ _ _ h
    split at h
    .obtain⟨y,hy,h⟩:=Rz.Db h;cases h;obtain⟨a1,a2,a3⟩:=ih _ _ _ _ hy;refine⟨by rw[Ai5,Aix,Aix,Ajw];(try dsimp only at *);omega,λv hv=>up v (a2 v hv),λu G=>?_⟩;rcases AjU.1 G with G|G
     .exact(a3 u G).sub up
     .rw[Ai2.1 G];exact .inl rfl
    split at h
    .obtain⟨g,hg,h⟩:=Rz.Db h;obtain⟨y,hy,h⟩:=Rz.Db h;cases h;obtain⟨g1,g2⟩:=Kl hg;obtain⟨a1,a2,a3⟩:=ih _ _ _ _ hy;refine⟨by rw[Ai5,Aix,Aix,Ajw];(try dsimp only at *);omega,λv hv=>up v (g2 v (a2 v hv)),λu G=>?_⟩;rcases AjU.1 G with G|G
     .exact((a3 u G).sub g2).sub up
     .rw[Ai2.1 G];exact .inl rfl
    .obtain⟨y,hy,h⟩:=Rz.Db h;cases h;obtain⟨a1,a2,a3⟩:=ACt hy;refine⟨by rw[Aix,Ajw];(try dsimp only at *);omega,a2,λu G=>?_⟩;rw[Ai2.1 G];exact .inl a3
   split at h
   .split at h
    .cases h
    obtain⟨y,hy,h⟩:=Rz.Db h;obtain⟨a1,a2,a3⟩:=ih _ _ _ _ hy;cases hy1:y.1 with
    | nil=>rw[hy1]at h;cases h
    | cons e r'=>
     rw[hy1]at h a1 a2;rw[ACq.eq_def]at h;dsimp only at h;split at h
     .cases h;rw[Aix]at a1;exact⟨by rw[Aix];(try dsimp only at *);omega,λv hv=>up v (a2 v (Aiz _ hv)),λu G=>(a3 u G).sub up⟩
     .cases h
   .cases h
set_option maxRecDepth 100000
theorem Jo {l pb:Nat}{R:Rr}{Z2:Hp}(G:l<10)(h:I9 l R pb Z2):Spec prog (MY l) #[.pointer (aD pb 0)] Z2 R:=by
 rw[I9,Aiw (by omega)]at h;exact h
theorem ACu {Z2:Hp}:Af 3 Jj Z2 none 0 []:=Af.nil
theorem AMc {Z2:Hp}:Fj 1 Z2 none 0 (([]:List ByteArray).map .string):=⟨rfl,by omega,.inl rfl⟩
theorem AUj:∀(f l:Nat) (d:Int) (ts:List Cl),l<=14->(l<=7\/10<=l)->0<=d->d<=64->∀{O22 ρ:Hp} {pb:Nat} {p q:Option Addr} {n c m e:Nat} {out:List Nd} {R:Rr},
  B4 O22 ρ pb p n c q m e ts out->m+ts.length<=700000->
  (∀r ns,pe f l d ts=.ok (r,ns)->∀(ρ':Hp) (p' q':Option Addr) (n' c' m' e':Nat),B4 O22 ρ' pb p' n' c' q' m' e' r (out++ns)->R (.T #[]) (ρ'.set pb (pO p' n' c' d q' m' e')))->
  (∀e',pe f l d ts=.er e'->Fz R O22 e')->pe f l d ts≠.out->I9 l R pb (ρ.set pb (pO p n c d q m e)):=by
 intro f
 induction f with
 | zero=>intro l d ts _ _ _ _ O22 ρ pb p q n c m e out R _ _ _ _ AZ;exact absurd rfl AZ
 | succ f ih=>
  intro l d ts AUS hl VL hd O22 ρ pb p q n c m e out R hu hb G A6 AZ;have hom:out.length=m:=hu.out.1.1;rw[pe.eq_def]at G A6 AZ;dsimp only at G A6 AZ;by_cases h5:l<5
  .simp only[Aiy h5]at G A6 AZ;rw[I9,Aiw (by omega)];refine Yw l h5 (AY.start ⟨MY (l+1),#[.pointer (aD pb 0)],#[],rfl,enP (l+1) (by omega) (by omega),?_⟩);refine Jo (by omega) (ih (l+1) d ts (by omega) (by omega) VL hd hu hb (λr1 n1 hx ρ' p' q' n' c' m' e' Bi=>⟨rfl,?_⟩) (λe' he=>(A6 e' (by rw[he];rfl)).cont.cont) λhe=>AZ (by rw[he];rfl));have AMN:(out++n1).length=m':=Bi.out.1.1;have k9:=(PU _ _ _ _ _ hx).1;rw[Ai5]at AMN;rw[hx]at G A6 AZ;simp only[Rz.bind]at G A6 AZ;have h2:=ih (l+10) d r1 (by omega) (by omega) VL hd (R:=Ab R (λz y=>z=.tuple #[]/\R (.T #[]) y)) Bi (by dsimp only at k9;omega) (λr2 n2 hy ρ2 p2 q2 n2' c2 m2 e2 QY=>⟨rfl,G r2 (n1++n2) (by rw[hy]) ρ2 p2 q2 n2' c2 m2 e2 (by rw[<-AjT];exact QY)⟩) (λe' he=>(A6 e' (by rw[he])).cont) λhe=>AZ (by rw[he]);rw[I9,Aiy (by omega),show l+10-9=l+1 by omega,Alr]at h2;exact h2
  simp only[Aiw h5]at G A6 AZ;cases ts with
  | nil=>exact absurd rfl AZ
  | cons cl rr=>
  dsimp only at G A6 AZ;rw[Aix]at hb;by_cases MK:10<=l
  .simp only[Aiy MK]at G A6 AZ;rw[I9,Aiy MK];by_cases B9:AId l cl
   .simp only[Aiy B9]at G;have fin:∀ρ',B4 O22 ρ' pb p n c q m e (cl::rr) out->R (.T #[]) (ρ'.set pb (pO p n c d q m e)):=λρ' h'=>G _ _ rfl ρ' p q n c m e (by rw[Aj1];exact h');refine gO hu (λ_=>fin) λhk ρ1 h1=>⟨λ_=>fin ρ1 h1,λn1=>⟨λ_=>fin ρ1 h1,λn2=>⟨λvh=>⟨λ_=>fin ρ1 h1,λn12=>?_⟩,λn11=>?_⟩⟩⟩
    .exfalso;rcases B9 with B9|B9|B9|B9
     .exact hk B9
     .exact n1 B9
     .exact n2 B9
     .exact n12 (by omega)
    .exfalso;rcases B9 with B9|B9|B9|B9
     .exact hk B9
     .exact n1 B9
     .exact n2 B9
     .exact n11 (by rw[B9.1];rfl)
   .simp only[Aiw B9]at G A6 AZ;cases rr with
    | nil=>exact absurd rfl AZ
    | cons b r'=>
     dsimp only at G A6 AZ;rw[Aix]at hb;generalize hbl:blB cl b=bl at G A6 AZ;have P32:∀(ρ1:Hp) (p1:Option Addr) (k1 c1 nb:Nat),B4 O22 ρ1 pb p1 k1 c1 q m e (bif bl then r' else b::r') out->(ρ1.set pb (pO p1 k1 c1 d q m e)) nb=none->
       AY.Ed R (aD pb 0) (.func (.func (MY (l-9))) #[.pointer (aD pb 0)] #[]) (Ho (l-10)).1 (Ho (l-10)).2 nb ((ρ1.set pb (pO p1 k1 c1 d q m e)).set nb (Yu 6 cl.op none 0 0 0 0 none 0 0 bl 2)):=λρ1 p1 k1 c1 nb Ql JR=>by
      have hgl:(bif bl then r' else b::r').length<=r'.length+1:=by
       cases bl with
       | true=>rw[Akk];omega
       | false=>rw[AkZ,Aix];omega
      refine AY.LF (Ur (s0:=sOn) (s1:=AUh) (x0:=3) (x1:=4) Ql JR (by omega) (λg hg ρ2 p2 pn n2 c2 kn cn QY x2 IF S4=>⟨rfl,MY (l-9),#[.pointer (aD pb 0)],#[],rfl,enP (l-9) (by omega) (by omega),Spec.AQ IF ?_⟩) (λe' he=>(A6 e' (by rw[he];rfl)).cont) λhe=>AZ (by rw[he];rfl));rw[hg]at G A6 AZ;simp only[Rz.bind]at G A6 AZ;have Abl:=(Kl hg).1;have ACg:Fj 1 (ρ2.del q) pn kn (g.2.1.map .string):=S4.mono (Ql.out.new x2);refine Jo (by omega) (ih (l-9) d g.2.2 (by omega) (by omega) VL hd QY.Yq (by omega) (λr1 n1 hx ρ3 p3 q3 n3 c3 m3 e3 qJ QS=>⟨rfl,_,_,_,_,_,_,_,_,_,_,_,_,_,_,I8 (Hp.AA _ _ _),?_⟩) (λe' he=>((A6 e' (by rw[he])).base QY.out.2).cont.box) λhe=>AZ (by rw[he]));rw[hx]at G A6 AZ;simp only at G A6 AZ;have Ra:(out++n1).length=m3:=qJ.out.1.1;have k9:=(PU _ _ _ _ _ hx).1;dsimp only at k9;rw[Ai5]at Ra;have ACh:=qJ.base QY.out.2;refine Spec.AQ QS (CG (x:=AMb cl.op bl g.1 g.2.1) ACh (by omega) ACu (ACg.mono qJ.out.2) λρ4 q4 e4 gP mS=>⟨rfl,?_⟩);obtain⟨k1,k2⟩:=gP.box (u:=Yu 6 cl.op none 0 0 0 g.1 pn kn cn bl 2) mS;rw[k2];have h2:=ih l d r1 AUS hl VL hd (R:=R) k1 (by omega) (λr2 n2 hy ρ' p' q' n' c' m' e' Bi=>G r2 (n1++AMb cl.op bl g.1 g.2.1::n2) (by rw[hy]) ρ' p' q' n' c' m' e' (by rw[AjT,AjT]at Bi;exact Bi)) (λe' he=>A6 e' (by rw[he])) λhe=>AZ (by rw[he]);rw[I9,Aiy MK]at h2;exact h2
     have go:∀ρ1,B4 O22 ρ1 pb p n c q m e (cl::b::r') out->goR R (aD pb 0) (.func (.func (MY (l-9))) #[.pointer (aD pb 0)] #[]) (Ho (l-10)).1 (Ho (l-10)).2 (cl.op:Int) (ρ1.set pb (pO p n c d q m e)):=λρ1 h1=>by
      have h2:=h1.step;have e3:b.bool=GC b.kind b.text 3 ⟨#[98,111,111,108]⟩:=Ai8 Cl.bool h2.tok.1;have nob:bl=false->∀nb,(ρ1.set pb (pO (E4 p 1 c 4) (n-1) (c-1) d q m e)) nb=none->AY.Ed R (aD pb 0) (.func (.func (MY (l-9))) #[.pointer (aD pb 0)] #[]) (Ho (l-10)).1 (Ho (l-10)).2 nb ((ρ1.set pb (pO (E4 p 1 c 4) (n-1) (c-1) d q m e)).set nb (Yu 6 cl.op none 0 0 0 0 none 0 0 false 2)):=λxE nb hn=>by
       have:=P32 ρ1 _ _ _ nb (by rw[xE,AkZ];exact h2) hn;rw[xE]at this;exact this
      have AGK:blB cl b=(decide (5<=cl.op)&&decide (cl.op<=10)&&b.bool):=rfl;refine BB h1 λa=>⟨_,_,_,_,rfl,λnb HS=>Tt ⟨λg5=>⟨λg10=>Spec.AQ HS (BN h2 λhn=>⟨_,rfl,λtb=>?_,λfb=>nob ?_ nb hn⟩),λg10=>nob ?_ nb HS⟩,λg5=>nob ?_ nb HS⟩⟩
      .have I4:bl=true:=by
        rw[<-hbl,AGK,e3,tb,AjC (show 5<=cl.op by omega),AjC (show cl.op<=10 by omega)];rfl
       refine Spec.AQ hn (BB h2 λa2 IF=>⟨_,_,_,_,rfl,?_⟩);refine st1 ABL (Hp.AA _ _ _) rfl rfl (by simp) rfl ?_;rw[Hp.set_set];have:=P32 ρ1 _ _ _ nb (by rw[I4,Akk];exact h2.step) IF;rw[I4]at this;exact this
      .rw[<-hbl,AGK,e3,fb,AkC]
      .rw[<-hbl,AGK,AjE (show ¬cl.op<=10 by omega),AkC,Aj8]
      .rw[<-hbl,AGK,AjE (show ¬5<=cl.op by omega),Aj8,Aj8]
     refine gO hu (λhk=>absurd (.inl hk) B9) λhk ρ1 h1=>⟨λhh=>absurd (.inr (.inl hh)) B9,λn1=>⟨λhh=>absurd (.inr (.inr (.inl hh))) B9,λn2=>⟨λvh=>⟨λTZ=>?_,λn12=>go ρ1 h1⟩,λn11=>go ρ1 h1⟩⟩⟩;exfalso;refine B9 (.inr (.inr (.inr ⟨?_,by omega⟩)));have:l=10\/l=11\/l=12\/l=13\/l=14:=by omega
     rcases this with rfl|rfl|rfl|rfl|rfl
     .exact absurd vh (by decide)
     .rfl
     .exact absurd vh (by decide)
     .exact absurd vh (by decide)
     .exact absurd vh (by decide)
  simp only[Aiw MK]at G A6 AZ;rw[I9,Aiw MK];have ht:=hu.tok.1;by_cases e5:l=5
  .subst e5;simp only[AkQ]at G A6 AZ;have em:cl.minus=GC cl.kind cl.text 5 ⟨#[45]⟩:=Ai8 Cl.minus ht;refine Bb.start (BN hu ⟨_,rfl,λhf=>?_,λhtr=>?_⟩)
   .rw[<-em]at hf;simp only[Aiw (show ¬cl.minus=true by rw[hf];decide)]at G A6 AZ;exact Jo (l:=6) (by decide) (ih 6 d (cl::rr) (by omega) (by omega) VL hd hu (by rw[Aix];omega) (λr ns hx ρ' p' q' n' c' m' e' Bi=>⟨rfl,G r ns hx ρ' p' q' n' c' m' e' Bi⟩) (λe' he=>(A6 e' he).cont) AZ)
   .rw[<-em]at htr;simp only[Aiy htr]at G A6 AZ;refine Y6 Bb.en hu ⟨VL,hd⟩ (λmK=>(A6 _ (by rw[Aiy mK])).cont) λmK=>?_;simp only[Aiw mK]at G A6 AZ;refine Jo (l:=5) (by decide) (ih 5 (d+1) rr (by omega) (by omega) (by omega) (by omega) hu.step (by omega) (λr1 n1 hx ρ' p' q' n' c' m' e' Bi=>⟨rfl,ρ',p',q',n',c',m',e',rfl,rfl,?_⟩) (λe' he=>(A6 e' (by rw[he];rfl)).cont.cont) λhe=>AZ (by rw[he];rfl));rw[hx]at G;simp only[Rz.bind]at G;have Ra:(out++n1).length=m':=Bi.out.1.1;have k9:=(PU _ _ _ _ _ hx).1;dsimp only at k9;rw[Ai5]at Ra;exact CG (x:=lN) Bi (by omega) ACu AMc λρ4 q4 e4 gP=>⟨rfl,G r1 (n1++[lN]) rfl _ _ _ _ _ _ _ (by rw[<-AjT];exact gP)⟩
  simp only[Aiw e5]at G A6 AZ;have elp:cl.lp=GC cl.kind cl.text 5 ⟨#[40]⟩:=Ai8 Cl.lp ht;by_cases e6:l=6
  .subst e6;simp only[AkQ]at G A6 AZ;refine HN.start (BF hu λa=>⟨_,_,_,_,rfl,λ_=>Yr hu λρ1 b1 h1 x1 D7=>⟨_,_,_,rfl,C3 D7 ⟨_,rfl,Yt h1 λρ2 b2 h2 x2 G0=>⟨_,_,_,rfl,C3 G0 ⟨_,rfl,?_⟩⟩⟩⟩⟩);have efn:cl.fn=JT fnW cl.text:=Ai8 Cl.fn ht;have eag:cl.ag=JT agW cl.text:=Ai8 Cl.ag ht;rw[<-efn,<-eag];by_cases k1:cl.kind=1
   .simp only[Aiy k1]at G;refine⟨λ_=>BB h2 λa=>⟨_,_,_,_,rfl,?_⟩,λAd=>absurd k1 Ad⟩;exact CG (x:=wP cl.text) h2.step (by omega) ACu AMc λρ4 q4 e4 gP=>⟨rfl,G rr [wP cl.text] rfl _ _ _ _ _ _ _ gP⟩
   simp only[Aiw k1]at G A6 AZ;refine⟨λhh=>absurd hh k1,λ_=>BN h2 ⟨_,rfl,λlZ=>?_,λlZ=>?_⟩⟩
   .rw[<-elp]at lZ;simp only[Aiy lZ]at G A6 AZ;exact Jo (l:=7) (by decide) (ih 7 d (cl::rr) (by omega) (by omega) VL hd h2 (by rw[Aix];omega) (λr ns hx ρ' p' q' n' c' m' e' Bi=>⟨rfl,G r ns hx ρ' p' q' n' c' m' e' Bi⟩) (λe' he=>(A6 e' he).cont) AZ)
   rw[<-elp]at lZ;simp only[Aiw (show ¬cl.lp=true by rw[lZ];decide)]at G A6 AZ;have rest:¬(cl.kind=3/\0<cl.fn)->Br (cl.kind=3) (Br ((0:Int)<((cl.ag:Nat):Int)) (Spec prog 97 #[.pointer (aD pb 0)] (ρ2.set pb (pO p n c d q m e)) (Ab R (λz EZ=>∃Wb Io zJ zK,z=(.agg #[.I Wb,.I Io,.string zJ,.I zK])/\Al EZ λb5=>AI prog (Instr.storeAt 127 (.pointer (aD b5 0)) (.agg #[.I 5,.I ((cl.ag:Nat):Int),(.string (ByteArray.mk #[])),.N,.I 0,.I 0,.I 0,.N,.bool false,.I 1])) (Hp.set EZ b5 (.cells #[.I 0,.I 0,(.string (ByteArray.mk #[])),.N,.I 0,.I 0,.I 0,.N,.bool false,.I 0] 127 (0,0))) (λ_ S0=>Spec prog 99 #[.pointer (aD pb 0),(.pointer (aD b5 0)),(.agg #[(.string (ByteArray.mk #[98,121])),(.string (ByteArray.mk #[119,105,116,104,111,117,116]))]),.agg #[.I 1,.I 2]] S0 (Ab R (λz UD=>z=(.tuple #[])/\Spec prog 241 #[.pointer (aD pb 0)] UD (Ab R (λz IJ=>z=(.tuple #[])/\∃Wc Wd We Wf Wg Wh Wi Wj Wk Wl Wm Wn Wo Wp,Az IJ b5 0 [.I Wc,.I Wd,.string We,.slice Wf Wg Wh,.I Wi,.I Wj,.I Wk,.slice Wl Wm Wn,.bool Wo,.I Wp]/\Spec prog 100 #[.pointer (aD pb 0),.agg #[.I Wc,.I Wd,.string We,.slice Wf Wg Wh,.I Wi,.I Wj,.I Wk,.slice Wl Wm Wn,.bool Wo,.I Wp]] IJ (Ab R (λz WI=>z=(.tuple #[])/\R (.T #[]) WI)))))))))) (Spec prog 242 #[.pointer (aD pb 0)] (ρ2.set pb (pO p n c d q m e)) (Ab R (λz EZ=>z=(.tuple #[])/\R (.T #[]) EZ)))) (Spec prog 242 #[.pointer (aD pb 0)] (ρ2.set pb (pO p n c d q m e)) (Ab R (λz EZ=>z=(.tuple #[])/\R (.T #[]) EZ))):=λhnf=>by
    simp only[Aiw hnf]at G A6 AZ;have sel:¬(cl.kind=3/\0<cl.ag)->Spec prog 242 #[.pointer (aD pb 0)] (ρ2.set pb (pO p n c d q m e)) (Ab R (λz EZ=>z=(.tuple #[])/\R (.T #[]) EZ)):=λhna=>by
     simp only[Aiw hna]at G A6 AZ;exact w7 h2 (by omega) (by rw[Aix];omega) (λx hx ρ' p' q' n' c' e' Bi=>⟨rfl,G x.1 [x.2] (by rw[hx];rfl) ρ' p' q' n' c' _ e' Bi⟩) (λe' he=>(A6 e' (by rw[he];rfl)).cont) λhe=>AZ (by rw[he];rfl)
    refine⟨λk3=>⟨λhag=>?_,λhag=>sel λhh=>hag (by omega)⟩,λk3=>sel λhh=>k3 hh.1⟩;simp only[Aiy (show cl.kind=3/\0<cl.ag from⟨k3,by omega⟩)]at G A6 AZ;refine BB h2 λa=>⟨_,_,_,_,rfl,λnb HS=>Tt ?_⟩;refine Ur (s0:=sBy) (s1:=sWo) (x0:=1) (x1:=2) h2.step HS (by omega) (λg hg ρ3 p3 pn k3' c3 kn cn qJ x3 QS S4=>⟨rfl,Spec.AQ QS ?_⟩) (λe' he=>(A6 e' (by rw[he];rfl)).cont) λhe=>AZ (by rw[he];rfl);rw[hg]at G A6 AZ;simp only[Rz.bind]at G A6 AZ;have Abl:=(Kl hg).1;have ACg:Fj 1 (ρ3.del q) pn kn (g.2.1.map .string):=S4.mono (h2.out.new x3);refine Jo (l:=7) (by decide) (ih 7 d g.2.2 (by omega) (by omega) VL hd qJ.Yq (by omega) (λr1 n1 hx ρ' p' q' n' c' m' e' Bi MQ=>⟨rfl,_,_,_,_,_,_,_,_,_,_,_,_,_,_,I8 (Hp.AA _ _ _),?_⟩) (λe' he=>((A6 e' (by rw[he])).base qJ.out.2).cont.box) λhe=>AZ (by rw[he]));rw[hx]at G;simp only at G;have Ra:(out++n1).length=m':=Bi.out.1.1;have k9:=(PU _ _ _ _ _ hx).1;dsimp only at k9;rw[Ai5]at Ra;have ACh:=Bi.base qJ.out.2;refine Spec.AQ MQ (CG (x:=wR cl.ag g.1 g.2.1) ACh (by omega) ACu (ACg.mono Bi.out.2) λρ4 q4 e4 gP mS=>⟨rfl,?_⟩);obtain⟨k1,k2⟩:=gP.box (u:=Yu 5 cl.ag none 0 0 0 g.1 pn kn cn false 1) mS;rw[k2];exact G r1 (n1++[wR cl.ag g.1 g.2.1]) rfl _ _ _ _ _ _ _ (by rw[<-AjT];exact k1)
   refine⟨λk3=>⟨λkf=>?_,λkf=>rest λhh=>kf (by omega)⟩,λk3=>rest λhh=>k3 hh.1⟩;simp only[Aiy (show cl.kind=3/\0<cl.fn from⟨k3,by omega⟩)]at G A6 AZ;refine BB h2 λa=>⟨_,_,_,_,rfl,Jo (l:=7) (by decide) (ih 7 d rr (by omega) (by omega) VL hd h2.step (by omega) (λr1 n1 hx ρ' p' q' n' c' m' e' Bi=>⟨rfl,?_⟩) (λe' he=>(A6 e' (by rw[he];rfl)).cont) λhe=>AZ (by rw[he];rfl))⟩;rw[hx]at G;simp only[Rz.bind]at G;have Ra:(out++n1).length=m':=Bi.out.1.1;have k9:=(PU _ _ _ _ _ hx).1;dsimp only at k9;rw[Ai5]at Ra;exact CG (x:=dL cl.fn) Bi (by omega) ACu AMc λρ4 q4 e4 gP=>⟨rfl,G r1 (n1++[dL cl.fn]) rfl _ _ _ _ _ _ _ (by rw[<-AjT];exact gP)⟩
  simp only[Aiw e6]at G A6 AZ;have e7:l=7:=by omega
  subst e7;refine B6.start λb1 I4=>?_;obtain⟨Ad,HS⟩:=Hp.AM I4;obtain⟨h1,h2⟩:=hu.box (u:=.cells #[.pointer (aD pb 0)] 76 (0,0)) I4;rw[h2];have mO:∀(ρ':Hp) (o:Obj),Ext (ρ.set b1 (.cells #[.pointer (aD pb 0)] 76 (0,0))) ρ'->ρ' pb=none->(ρ'.set pb o).ld ⟨b1,0,none⟩=some (.pointer (aD pb 0)):=λρ' o hx hn=>AJ ((Ext.set hn) _ _ (hx _ _ (Hp.AA _ _ _))) rfl;refine⟨aD pb 0,mO _ _ (.refl _) h1.pb,BN h1 ⟨_,rfl,λhf=>?_,λlZ=>?_⟩⟩
  .rw[<-elp]at hf;exact⟨aD pb 0,mO _ _ (.refl _) h1.pb,DB h1 (A6 _ (by rw[Aiw (by rw[hf];decide)])).cont⟩
  rw[<-elp]at lZ;simp only[Aiy lZ]at G A6 AZ;refine B6.BG ⟨aD pb 0,mO _ _ (.refl _) h1.pb,?_⟩;refine Y6 (fst:=#[]) (cap:=#[.pointer (aD b1 0)]) BO.en h1 ⟨VL,hd⟩ (λmK=>(A6 _ (by rw[Aiy mK])).cont) λmK=>?_;simp only[Aiw mK]at G A6 AZ;refine BO.start ⟨aD pb 0,mO _ _ (.refl _) h1.pb,?_⟩;have hqb:∀ao,q=some ao->ao.block≠b1:=λao ha e=>by
   have:=hu.out.1.2;obtain⟨cs,ho,_⟩:=this;exact ho.block ao ha (by rw[e];exact HS)
  have BS:∀{ρ':Hp},Ext ((ρ.set b1 (.cells #[.pointer (aD pb 0)] 76 (0,0))).del q) ρ'->∀o,ρ' pb=none->(ρ'.set pb o).ld ⟨b1,0,none⟩=some (.pointer (aD pb 0)):=fun {ρ'} hx o hn=>by
   refine AJ ((Ext.set hn) _ _ (hx b1 (.cells #[.pointer (aD pb 0)] 76 (0,0)) ?_)) rfl;unfold Hp.del;cases q with
   | none=>exact Hp.AA _ _ _
   | some ao=>dsimp only;rw[Aiw (AjI (hqb ao rfl))];exact Hp.AA _ _ _
  refine Jo (l:=0) (by decide) (ih 0 (d+1) rr (by omega) (by omega) (by omega) (by omega) h1.step.Yq (by omega) (λr1 n1 hx ρ2 p2 q2 n2 c2 m2 e2 QY=>⟨rfl,aD pb 0,BS QY.out.up _ QY.pb,?_⟩) (λe' he=>((A6 e' (by rw[he];rfl)).base h1.out.2).cont.cont.cont) λhe=>AZ (by rw[he];rfl));rw[hx]at G A6 AZ;simp only[Rz.bind]at G A6 AZ;cases r1 with
  | nil=>exact absurd rfl AZ
  | cons ee r'=>
   rw[ACq.eq_def]at G A6;dsimp only at G A6;have erp:ee.rp=GC ee.kind ee.text 5 ⟨#[41]⟩:=Ai8 Cl.rp QY.tok.1;have hub:=QY.base h1.out.2;refine JD hub (λhc=>⟨rfl,rfl,ρ2,_,q2,_,_,m2,e2,rfl,rfl,G _ _ (by rw[Aiy (by rw[erp];exact hc)]) _ _ _ _ _ _ _ hub.step⟩) λhc=>(A6 _ (by rw[Aiw (by rw[erp,hc];decide)])).cont.cont.cont
def mU (c:Cl):Prop:=c=Ui c.kind c.text c.span
structure Tk (ts:List Cl):Prop where
 all:∀c∈ts,mU c
 ne:ts≠[]
 fin:∀h,(ts.getLast h).kind=0
theorem mU.of (k:Int)(s:ByteArray)(v:Int):mU (Ui k s v):=rfl
theorem Tk.hd {c:Cl}{r:List Cl}(h:Tk (c::r)):mU c:=h.all c (AjG ..)
theorem Tk.tl {c:Cl}{r:List Cl}(h:Tk (c::r))(hk:c.kind≠0):Tk r:=by
 have G:r≠[]:=λe=>by
  subst e;exact hk (h.fin (by simp))
 exact⟨λu hu=>h.all u (Aiz _ hu),G,λ_=>by
  have:=h.fin (by simp);rwa[List.getLast_cons G]at this⟩
theorem MO {k j:Int}{s t:ByteArray}(h:GC k s j t=true):k=j:=by
 unfold GC at h;rw[AjD,AjH]at h;exact h.1
section
variable {c:Cl}(h:mU c)
include h
theorem mU.rp (G:c.rp=true):c.kind≠0:=by rw[h]at G;rw[MO G];decide
theorem mU.lp (G:c.lp=true):c.kind≠0:=by rw[h]at G;rw[MO G];decide
theorem mU.comma (G:c.comma=true):c.kind≠0:=by rw[h]at G;rw[MO G];decide
theorem mU.lsq (G:c.lsq=true):c.kind≠0:=by rw[h]at G;rw[MO G];decide
theorem mU.rsq (G:c.rsq=true):c.kind≠0:=by rw[h]at G;rw[MO G];decide
theorem mU.lbr (G:c.lbr=true):c.kind≠0:=by rw[h]at G;rw[MO G];decide
theorem mU.minus (G:c.minus=true):c.kind≠0:=by rw[h]at G;rw[MO G];decide
theorem mU.bool (G:c.bool=true):c.kind≠0:=by rw[h]at G;rw[MO G];decide
theorem mU.off (G:c.off=true):c.kind≠0:=by rw[h]at G;rw[MO G];decide
theorem mU.name (G:c.name=true):c.kind≠0:=by
 rw[h]at G;have G:(decide (c.kind=3)&&Du c.text)=true:=G;rw[AjD,AjH]at G;rw[G.1];decide
end
def Gd {α:Type}(P:α->Prop):Rz α->Prop
 | .ok x=>P x
 | .er e=>0<e/\e<=200
 | .out=>False
theorem Gd.bind {α β:Type}{P:α->Prop}{Q:β->Prop}{x:Rz α}{g:α->Rz β}(h:Gd P x)(G:∀a,x=.ok a->P a->Gd Q (g a)):Gd Q (x.bind g):=by
 cases x with
 | ok a=>exact G a rfl h
 | er e=>exact h
 | out=>exact h.elim
theorem Gp {α:Type}{P:α->Prop}{c:Cl}:Gd P (.er (Uo c)):=by
 show 0<Uo c/\Uo c<=200
 unfold Uo;split<;>omega
theorem AMd:∀(f:Nat) (ts:List Cl) (ns:List ByteArray),Tk ts->ts.length<f->Gd (λx=>Tk x.2) (tU f ts ns):=by
 intro f
 induction f with
 | zero=>intro ts ns _ h;omega
 | succ f ih=>
  intro ts ns G hf;cases ts with
  | nil=>exact absurd rfl G.ne
  | cons c r=>
   rw[Aix]at hf;rw[tU.eq_def];dsimp only;split
   .rename_i h;exact G.tl (G.hd.rp h)
   split
   .split
    .rename_i h;exact ih _ _ (G.tl (G.hd.name h)) (by omega)
    .exact Gp
   split
   .rename_i h;have h2:=G.tl (G.hd.comma h);cases r with
    | nil=>exact absurd rfl h2.ne
    | cons w r'=>
     rw[Aix]at hf;dsimp only;split
     .rename_i h3;exact ih _ _ (h2.tl (h2.hd.name h3)) (by omega)
     .exact Gp
   .exact Gp
theorem tW {k:Int}{ts:List Cl}(G:Tk ts):Gd (λx=>Tk x.2.2) (Tx k ts):=by
 cases ts with
 | nil=>exact absurd rfl G.ne
 | cons l r=>
  rw[Tx.eq_def];dsimp only;split
  .rename_i h;exact(AMd _ _ _ (G.tl (G.hd.lp h)) (by omega)).bind λa _ ha=>ha
  .exact Gp
theorem tX {s0 s1:ByteArray}{k0 k1:Int}{ts:List Cl}(G:Tk ts):Gd (λx=>Tk x.2.2) (bG s0 s1 k0 k1 ts):=by
 cases ts with
 | nil=>exact absurd rfl G.ne
 | cons c r=>
  rw[bG.eq_def];dsimp only;split
  .rename_i h;exact tW (G.tl (by rw[MO h];decide))
  split
  .rename_i h;exact tW (G.tl (by rw[MO h];decide))
  .exact G
theorem ACv {ms:List Mt}{ts:List Cl}(G:Tk ts):Gd (λx=>Tk x.2/\x.2.length<ts.length) (wx ms ts):=by
 cases ts with
 | nil=>exact absurd rfl G.ne
 | cons w r1=>
  rw[wx.eq_def];dsimp only;split
  .rename_i h;have h1:=G.tl (G.hd.name h);cases r1 with
   | nil=>exact absurd rfl h1.ne
   | cons o r2=>
    dsimp only;split
    .exact Gp
    rename_i ho;have h2:=h1.tl (λe=>ho (.inl (by rw[e];decide)));cases r2 with
    | nil=>exact absurd rfl h2.ne
    | cons v r3=>
     dsimp only;split
     .exact Gp
     rename_i hv;split
     .exact⟨by decide,by decide⟩
     .exact⟨h2.tl (λe=>hv (by rw[e];decide)),by simp only[Aix];omega⟩
  .exact Gp
theorem AGL:∀(f:Nat) (ts:List Cl) (ms:List Mt) (fi:Bool),Tk ts->ts.length<f->Gd (λx=>Tk x.2) (Sp f ts ms fi):=by
 intro f
 induction f with
 | zero=>intro ts ms fi _ h;omega
 | succ f ih=>
  intro ts ms fi ht hf;cases ts with
  | nil=>exact absurd rfl ht.ne
  | cons c r=>
   rw[Sp.eq_def];dsimp only;split
   .rename_i h;have h:GC c.kind c.text 5 ⟨#[125]⟩=true:=h;exact ht.tl (by rw[MO h];decide)
   split
   .exact(ACv ht).bind λa _ G=>ih _ _ _ G.1 (by have:=G.2;omega)
   split
   .rename_i h;refine(ACv (ht.tl (ht.hd.comma h))).bind λa _ G=>ih _ _ _ G.1 ?_;have:=G.2;rw[Aix]at hf;omega
   .exact Gp
theorem tY {k w:Int}{ms:List Mt}{ts:List Cl}(G:Tk ts):Gd (λx=>Tk x.1) (bH k w ms ts):=by
 cases ts with
 | nil=>exact absurd rfl G.ne
 | cons a r=>
  rw[bH.eq_def];dsimp only;split
  .rename_i h;have h1:=G.tl (G.hd.off h);cases r with
   | nil=>exact absurd rfl h1.ne
   | cons s r1=>
    dsimp only;split
    .rename_i h2;exact h1.tl (by rw[h2];decide)
    .exact Gp
  .exact G
theorem tZ {ms:List Mt}{ts:List Cl}(G:Tk ts):Gd (λx=>Tk x.1) (bI ms ts):=by
 cases ts with
 | nil=>exact absurd rfl G.ne
 | cons a r=>
  rw[bI.eq_def];dsimp only;split
  .rename_i h;have h1:=G.tl (G.hd.lsq h);cases r with
   | nil=>exact absurd rfl h1.ne
   | cons s r1=>
    dsimp only;split
    .rename_i h2;have h3:=h1.tl (by rw[h2];decide);cases r1 with
     | nil=>exact absurd rfl h3.ne
     | cons e r2=>
      dsimp only;split
      .rename_i h4;exact tY (h3.tl (h3.hd.rsq h4))
      .exact Gp
    .exact Gp
  .exact tY G
theorem te {word:Bool}{ms:List Mt}{ts:List Cl}(G:Tk ts):Gd (λx=>Tk x.1) (bJ word ms ts):=by
 cases ts with
 | nil=>exact absurd rfl G.ne
 | cons a r=>
  rw[bJ.eq_def];dsimp only;split
  .rename_i h;exact(AGL _ _ _ _ (G.tl (G.hd.lbr h)) (by omega)).bind λx _ hx=>tZ hx
  split
  .exact tZ G
  .exact Gp
theorem AGM {ts:List Cl}(G:Tk ts):Gd (λx=>Tk x.1) (gT ts):=by
 cases ts with
 | nil=>exact absurd rfl G.ne
 | cons t r=>
  rw[gT.eq_def];dsimp only;split
  .rename_i h;split
   .exact⟨by decide,by decide⟩
   .exact te (G.tl (by rw[h.1];decide))
  .exact te G
theorem AGN {ns:List Nd}{ts:List Cl}(G:Tk ts):Gd (λx=>Tk x.1) (ACq ns ts):=by
 cases ts with
 | nil=>exact absurd rfl G.ne
 | cons e r=>
  rw[ACq.eq_def];dsimp only;split
  .rename_i h;exact G.tl (G.hd.rp h)
  .exact Gp
theorem AUk:∀(f l:Nat) (d:Int) (ts:List Cl),Tk ts->(l<=7\/10<=l)->l<=14->ts.length*16+(8-l)<f->Gd (λx=>Tk x.1) (pe f l d ts):=by
 intro f
 induction f with
 | zero=>intro l d ts _ _ _ h;omega
 | succ f ih=>
  intro l d ts ht hl fX hf;rw[pe.eq_def];dsimp only;split
  .refine(ih _ _ _ ht (by omega) (by omega) (by omega)).bind λx hx G=>(ih _ _ _ G (by omega) (by omega) ?_).bind λy hy h2=>h2;have:=(PU _ _ _ _ _ hx).1;omega
  cases ts with
  | nil=>exact absurd rfl ht.ne
  | cons c r=>
   rw[Aix]at hf;dsimp only;split
   .split
    .exact ht
    rename_i hs;have G:=ht.tl λe=>hs (.inl ⟨by rw[e];decide,by rw[e];decide⟩);cases r with
    | nil=>exact absurd rfl G.ne
    | cons b r'=>
     rw[Aix]at hf;dsimp only;have h2:Tk (bif blB c b then r' else b::r')/\(bif blB c b then r' else b::r').length<=r'.length+1:=by
      cases hb:blB c b with
      | true=>
       unfold blB at hb;rw[AjD]at hb;exact⟨G.tl (G.hd.bool hb.2),by rw[Akk];omega⟩
      | false=>exact⟨G,by rw[AkZ,Aix];omega⟩
     refine(tX h2.1).bind λg hg h3=>?_;have g1:=(Kl hg).1;refine(ih _ _ _ h3 (by omega) (by omega) (by omega)).bind λx hx h4=>?_;have g2:=(PU _ _ _ _ _ hx).1;exact(ih _ _ _ h4 hl fX (by omega)).bind λy hy h5=>h5
   split
   .subst_vars
    split
    .rename_i h;split
     .exact⟨by decide,by decide⟩
     .exact(ih _ _ _ (ht.tl (ht.hd.minus h)) (by omega) (by omega) (by omega)).bind λx _ G=>G
    .exact ih _ _ _ ht (by omega) (by omega) (by rw[Aix];omega)
   split
   .subst_vars
    split
    .rename_i h;exact ht.tl (by rw[h];decide)
    split
    .exact ih _ _ _ ht (by omega) (by omega) (by rw[Aix];omega)
    split
    .rename_i h;exact(ih _ _ _ (ht.tl (by rw[h.1];decide)) (by omega) (by omega) (by omega)).bind λx _ G=>G
    split
    .rename_i h;refine(tX (ht.tl (by rw[h.1];decide))).bind λg hg h3=>?_;have g1:=(Kl hg).1;exact(ih _ _ _ h3 (by omega) (by omega) (by omega)).bind λx _ G=>G
    .exact(AGM ht).bind λx _ G=>G
   split
   .rename_i h;split
    .exact⟨by decide,by decide⟩
    .exact(ih _ _ _ (ht.tl (ht.hd.lp h)) (by omega) (by omega) (by omega)).bind λx _ G=>AGN G
   .exact Gp
theorem ACw:∀(n:Nat) (l a:List UInt8) (x:List UInt8×List UInt8),l.length<=n->IA l a=some x->x.2.length<=l.length:=by
 intro n
 induction n with
 | zero=>
  intro l a x G h;cases l with
  | nil=>rw[IA.eq_def]at h;cases h
  | cons c l=>rw[Aix]at G;omega
 | succ n ih=>
  intro l a x G h;cases l with
  | nil=>rw[IA.eq_def]at h;cases h
  | cons c l=>
   rw[Aix]at G;rw[IA.eq_def]at h;dsimp only at h;split at h
   .cases h
   split at h
   .cases h;simp
   split at h
   .cases l with
    | nil=>cases h
    | cons u l'=>
     rw[Aix]at G;dsimp only at h;split at h
     .have:=ih _ _ _ (by omega) h;simp only[Aix];omega
     split at h
     .have:=ih _ _ _ (by omega) h;simp only[Aix];omega
     .cases h
   .have:=ih _ _ _ (by omega) h;rw[Aix];omega
structure LxG (n:Nat)(x:Int×List Cl):Prop where
 tk:x.1=0->Tk x.2/\x.2.length<=n+1
 lo:0<=x.1
 hi:x.1<=200
 ne:x.1≠1
theorem LxG.le {n m:Nat}{x:Int×List Cl}(h:LxG n x)(hm:n<=m):LxG m x:=⟨λG=>⟨(h.tk G).1,by have:=(h.tk G).2;omega⟩,h.lo,h.hi,h.ne⟩
theorem LxG.cons {n:Nat}{x:Int×List Cl}{t:Cl}(h:LxG n x)(ht:mU t):LxG (n+1) (JC t x):=by
 unfold JC;by_cases G:x.1=0
 .rw[Aiy G];obtain⟨h1,h2⟩:=h.tk G;refine⟨λ_=>⟨⟨λc hc=>?_,by simp,λ_=>?_⟩,by simp only[Aix];omega⟩,by simp,by simp,by simp⟩
  .rcases Ai1.1 hc with rfl|hc
   .exact ht
   .exact h1.all c hc
  .rw[List.getLast_cons h1.ne];exact h1.fin h1.ne
 .rw[Aiw G];exact⟨λhh=>absurd hh G,h.lo,h.hi,h.ne⟩
theorem AGO:∀(f:Nat) (l:List UInt8),l.length<f->LxG l.length (G2 f l):=by
 intro f
 induction f with
 | zero=>intro l h;omega
 | succ f G=>
  intro l hf;cases l with
  | nil=>exact⟨λ_=>⟨⟨λc hc=>by rw[Ai2.1 hc];rfl,by simp[G2],λ_=>rfl⟩,by simp[G2]⟩,by simp[G2],by simp[G2],by simp[G2]⟩
  | cons c l=>
   rw[Aix]at hf;have d1:(l.dropWhile DA).length<=l.length:=(AkX _).length_le;have d2:(l.dropWhile JA).length<=l.length:=(AkX _).length_le;rw[G2,Aix];split
   .exact(G _ (by omega)).le (by omega)
   split
   .split
    .exact((G _ (by omega)).cons (.of _ _ _)).le (by omega)
    split
    .exact((G _ (by omega)).cons (.of _ _ _)).le (by omega)
    .exact⟨λh=>absurd h (by decide),by decide,by decide,by decide⟩
   split
   .exact((G _ (by omega)).cons (.of _ _ _)).le (by omega)
   split
   .split
    .rename_i a r ht;have:=ACw _ _ _ _ (Ai7 _) ht;dsimp only at this;exact((G _ (by omega)).cons (.of _ _ _)).le (by omega)
    .exact⟨λh=>absurd h (by decide),by decide,by decide,by decide⟩
   split
   .have:(l.drop 1).length<=l.length:=by rw[AjN];omega
    exact((G _ (by omega)).cons (.of _ _ _)).le (by omega)
   split
   .exact((G _ (by omega)).cons (.of _ _ _)).le (by omega)
   .exact⟨λh=>absurd h (by decide),by decide,by decide,by decide⟩
def CN (s:ByteArray):Int×List Nd:=
 if 4096<s.size then(170,[]) else if(G2 (s.size+1) s.data.toList).1≠0 then((G2 (s.size+1) s.data.toList).1,[]) else
  match pe ((G2 (s.size+1) s.data.toList).2.length*16+9) 0 0 (G2 (s.size+1) s.data.toList).2 with
  | .ok (c::_,ns)=>if c.kind=0 then(0,ns) else(181,[])
  | .ok ([],_)=>(1,[])
  | .er e=>(e,[])
  | .out=>(1,[])
section
variable {Z2:Hp}{R:Rr}{s:ByteArray}
theorem w9 (G:∀x,(x=if 4096<s.size then(170,[]) else G2 (s.size+1) s.data.toList)->qS R Z2 [] x):Spec prog 28 #[.string s] Z2 R:=by
 refine AS.start λ_=>⟨λhh=>?_,λhh=>?_⟩
 .have:=G _ rfl;rw[Aiy (by omega)]at this;exact this.er (by decide) Z2 _ (.refl Z2)
 .have:=G _ rfl;rw[Aiw (by omega)]at this;have hlen:s.data.toList.length=s.size:=Ajd (xs:=s.data);exact AGF (by omega) (s.size+1) s.data.toList (by omega) (i:=0) rfl (AjB _) (AN.nil (.refl _)) (by omega) this
end
theorem qU (t:TypeId)(v:Value)(w:World):(binOp BinOp.neq 20 (.iface t v) .nilIface).run prog w=.ok (.bool true) w:=by kernel_rfl
section
variable {g:Tw.Gl}{ops:Array Oper}{K:Env->Bx->Hp->Prop}
theorem l4 {e:Env}{bx:Bx}{Z2:Hp}{id n:Nat}{q:J0}{plan:Tw.Ord}{tl:List Nat}(hr:g.IG=none)(hm:g.P.follows .mixedOrders=true)(hp:Rq ops n plan tl=true)
  (h:BV g ops plan q e bx Z2 (λe bx Z2=>Seq g ops tl e bx Z2 K)) {w0:World} {F:Nat->Prop} {a:Act} {w:World} (st:St g.n g.ds w0 F e bx Z2 a w):(Code.region id ops true).wp g.P (Qn g w0 F K) a w:=by
 simp only[Rq,AjD,Akx,AjH]at hp;obtain⟨⟨⟨Mh,hn⟩,gX⟩,AW⟩:=hp;have MQ:n<=ops.size:=by rcases hn with h|h<;>omega
 have HZ:∀G,HeadInv .any ops n G->∀i,i<n->G.getD i true=false->∀t,n<=t->t ∉ Region.ready .any ops G:=by
  intro G inv i hi Sv t ht;rcases hn with h|⟨⟨h1,h2⟩,h3⟩
  .intro hr;obtain⟨_,o,ho,_⟩:=mem_ready.1 hr;have:=(AjF.1 ho).1;omega
  .exact tail_waits h2 h3 h1 inv _ i rfl hi Sv t ht
 have xe:HeadInv .any ops n (Array.replicate ops.size false):=
  ⟨by simp,λj oj _ hl=>(by rw[getD_replicate_false]at hl;cases hl),λt _ ht=>getD_in (by simpa using ht) (getD_replicate_false _ _)⟩
 have e0:wd g.IG=Fence.wide:=by rw[hr];rfl
 refine(wpIn_wide (n:=0)).1 ?_;rw[<-e0];refine wpIn_region_any hm ?_;have H:=Hc (K:=K) (tl:=tl) Mh HZ gX plan n [] q (Array.replicate ops.size false) e bx Z2 a { w with drawn:=w.drawn+1 } xe AW st.drew h (λj hj=>by cases hj);have:=GI (g:=ops.size-n) (λG a w hL=>HV _ _ G a w hL.1 (gX▸hL.2)) _ _ _ _ H;rw[show n+(ops.size-n)=ops.size by omega]at this;exact this
end
noncomputable def AMe:Code:=match f29.body with
 | some (.seq _ (.seq _ (.cond _ (.seq _ (.seq _ c)) _)))=>c
 | _=>.skip
noncomputable def AMf:Array Oper:=match AMe with
 | .region _ ops _=>ops
 | _=>#[]
noncomputable def g29:Tw.Gl:=⟨prog,29,21,λ_ _=>False,none,[],.inl ⟨rfl,rfl⟩⟩
def e29 (b0 b1 b2 n:Nat)(f:Nat->Value)(t:Nat):Value:=if t=0 then .pointer (aD b0 0) else if t=1 then .pointer (aD b1 0) else if t=2 then .pointer (aD b2 0) else if t=4 then .pointer (aD n 0) else f t
noncomputable def qV:Array Field:=match prog.underlying 80 with
 | some (.struct G)=>G
 | _=>#[]
theorem AUl:prog.underlying 80=some (.struct qV)/\(∃fd,qV[0]?=some fd/\fd.offset=0/\fd.type=24)/\∃fd,qV[1]?=some fd/\fd.offset=1/\fd.type=3:=by
 have G:qV[0]?.isSome=true:=by kernel_rfl
 have h1:qV[1]?.isSome=true:=by kernel_rfl
 refine⟨by kernel_rfl,⟨qV[0]?.get G,(Option.some_get G).symm,by kernel_rfl,by kernel_rfl⟩,⟨qV[1]?.get h1,(Option.some_get h1).symm,by kernel_rfl,by kernel_rfl⟩⟩
set_option maxRecDepth 100000 in
theorem l5 {b0 b1 b2 n:Nat}{EX a:Int}{G:World}{A:Act}{Q:Exit->Act->World->Prop}(hs:A.tmps.size=21)(hd:A.defers=[])(t0:A.tmps.getD 0 undef=.pointer (aD b0 0))(t1:A.tmps.getD 1 undef=.pointer (aD b1 0))(t2:A.tmps.getD 2 undef=.pointer (aD b2 0))(t4:A.tmps.getD 4 undef=.pointer (aD n 0))
  (g0:G.heap[b0]?=some (.cells #[.N] 32 (0,0))) (g1:G.heap[b1]?=some (.cells #[.I 0] 3 (0,0))) (g2:G.heap[b2]?=some (.cells #[.I 0] 24 (0,0))) (I4:b1=b0+1) (F7:b2=b0+2) (hn:b2<n)
  (n0:G.heap[n]?=some (.cells #[.I EX,.I a] 80 (0,0)))
  (hQ:∀A' w',A'.defers=[]->w'.heap[b0]?=some (.cells #[.N] 32 (0,0))->w'.heap[b1]?=some (.cells #[.I a] 3 (0,0))->w'.heap[b2]?=some (.cells #[.I EX] 24 (0,0))->
   (∀k,k<G.heap.size->k≠b0->k≠b1->k≠b2->w'.heap[k]?=G.heap[k]?)->G.heap.size<=w'.heap.size->Bj G w'->w'.output=G.output->Q .normal A' w') :
  Code.wp prog AMe Q A G:=by
 have hm:prog.follows .mixedOrders=true:=by kernel_rfl
 have hc:AMe=.region 5 AMf true:=by kernel_rfl
 let z0:Hp:=λ_=>none
 let Z1:Hp:=(((z0.set b0 (.cells #[.N] 32 (0,0))).set b1 (.cells #[.I 0] 3 (0,0))).set b2 (.cells #[.I 0] 24 (0,0))).set n (.cells #[.I EX,.I a] 80 (0,0))
 have s0:Z1 b0=some (.cells #[.N] 32 (0,0)):=by
  show Hp.set _ _ _ _=_
  rw[Hp.AB (by omega),Hp.AB (by omega),Hp.AB (by omega),Hp.AA]
 have s1:Z1 b1=some (.cells #[.I 0] 3 (0,0)):=by
  show Hp.set _ _ _ _=_
  rw[Hp.AB (by omega),Hp.AB (by omega),Hp.AA]
 have s2:Z1 b2=some (.cells #[.I 0] 24 (0,0)):=by
  show Hp.set _ _ _ _=_
  rw[Hp.AB (by omega),Hp.AA]
 have s3:Z1 n=some (.cells #[.I EX,.I a] 80 (0,0)):=Hp.AA _ _ _;have sn:∀k,k≠b0->k≠b1->k≠b2->k≠n->Z1 k=none:=λk h0 h1 h2 h3=>by
  show Hp.set _ _ _ _=_
  rw[Hp.AB h3,Hp.AB h2,Hp.AB h1,Hp.AB h0]
 have st:St g29.n g29.ds G (λk=>k<G.heap.size/\k≠b0/\k≠b1/\k≠b2/\k≠n) (e29 b0 b1 b2 n (λt=>A.tmps.getD t undef)) [] Z1 A G:=by
  refine⟨hs,λt=>?_,hd,λb o hb=>?_,λp hp=>by (cases hp),λp hp=>by (cases hp),AkR,λb hb=>⟨hb.1,sn b hb.2.1 hb.2.2.1 hb.2.2.2.1 hb.2.2.2.2,rfl⟩,.same rfl rfl rfl,rfl,Ai7 _⟩
  .unfold e29;split
   .rename_i h;rw[h];exact t0
   split
   .rename_i h;rw[h];exact t1
   split
   .rename_i h;rw[h];exact t2
   split
   .rename_i h;rw[h];exact t4
   .rfl
  .by_cases h0:b=b0
   .subst h0;rw[s0]at hb;cases hb;exact g0
   by_cases h1:b=b1
   .subst h1;rw[s1]at hb;cases hb;exact g1
   by_cases h2:b=b2
   .subst h2;rw[s2]at hb;cases hb;exact g2
   by_cases h3:b=n
   .subst h3;rw[s3]at hb;cases hb;exact n0
   .rw[sn b h0 h1 h2 h3]at hb;cases hb
 have hz:∀(w:World),(Go.sizeOf 32).run prog w=.ok 1 w/\(Go.sizeOf 3).run prog w=.ok 1 w/\(Go.sizeOf 24).run prog w=.ok 1 w:=λw=>⟨by kernel_rfl,by kernel_rfl,by kernel_rfl⟩;have Sx:∀Z2:Hp,Z2 n=some (.cells #[.I EX,.I a] 80 (0,0))->Hp.ld (λb=>if b=n then Z2 b else none) ⟨n,1,none⟩=some (.I a)/\Hp.ld (λb=>if b=n then Z2 b else none) ⟨n,0,none⟩=some (.I EX):=λZ2 h=>by
  constructor<;>simp[Hp.ld,h]
 have H:BV g29 AMf (.yes 0 (.yes 1 (.yes 2 (.yes 3 (.alt 4 (.alt 5 (.alt 6 .done .no) .no) .no))))) (some []) (e29 b0 b1 b2 n (λt=>A.tmps.getD t undef)) [] Z1 (λe bx Z2=>Seq g29 AMf [] e bx Z2 λ_ _ Z2=>Z2=((Z1.set b0 (.cells #[.N] 32 (0,0))).set b1 (.cells #[.I a] 3 (0,0))).set b2 (.cells #[.I EX] 24 (0,0))):=by
  obtain⟨hT,⟨f0,e0,o0,y0⟩,f1,e1,o1,y1⟩:=AUl;refine BV.z 17 (.fieldAddr 80 (.tmp 4) 1) 0 (.pointer (some ⟨n,1,none⟩)) (Y.fieldAddr (off:=0) hT e1 (λw=>by rw[y1];exact(hz w).2.1) rfl (by rw[o1])) ?_;refine BV.yl n [] rfl rfl (d:=some 18) (op:=.load 3 (.tmp 17)) (ty:=3) (v:=.I a) (by kernel_rfl) rfl (Y.ld (λw=>by kernel_rfl) rfl (Sx _ s3).1) ?_;refine BV.z 19 (.fieldAddr 80 (.tmp 4) 0) 0 (.pointer (some ⟨n,0,none⟩)) (Y.fieldAddr (off:=0) hT e0 (λw=>by rw[y0];exact(hz w).2.2) rfl (by rw[o0])) ?_;refine BV.yl n [] rfl rfl (d:=some 20) (op:=.load 24 (.tmp 19)) (ty:=24) (v:=.I EX) (by kernel_rfl) rfl (Y.ld (λw=>by kernel_rfl) rfl (Sx _ s3).2) ?_;have keep:∀(Z2:Hp) (b:Nat) (o:Obj),b≠n->Ic (some [(n,[]),(n,[])]) [] Z2 [] (Z2.set b o):=λZ2 b o hb=>⟨λp hp=>hp,λx hx o' Di=>by
   have hx:x.1=n:=by
    rcases Ai1.1 hx with rfl|hx
    .rfl
    .rw[Ai2.1 hx]
   rw[hx]at Di ⊢;rw[Hp.AB (λh=>hb h.symm)];exact Di⟩
  refine BV.o (q':=some [(n,[]),(n,[])]) rfl (AV.store (T:=32) (x:=.tmp 0) (y:=.const (.N)) (ty:=0) (gd:=none) (by kernel_rfl) rfl rfl rfl (AI.store (λw=>(hz w).1) s0 rfl (by decide) (λu hu=>?_) ⟨keep _ _ _ (by omega),?_⟩))
  .rw[Ai2.1 hu];rfl
  refine BV.o (q':=some [(n,[]),(n,[])]) rfl (AV.store (T:=3) (x:=.tmp 1) (y:=.tmp 18) (ty:=0) (gd:=none) (by kernel_rfl) rfl rfl rfl (AI.store (λw=>(hz w).2.1) (by rw[Hp.AB (by omega)];exact s1) rfl (by decide) (λu hu=>?_) ⟨keep _ _ _ (by omega),?_⟩))
  .rw[Ai2.1 hu];rfl
  refine BV.o (q':=some [(n,[]),(n,[])]) rfl (AV.store (T:=24) (x:=.tmp 2) (y:=.tmp 20) (ty:=0) (gd:=none) (by kernel_rfl) rfl rfl rfl (AI.store (λw=>(hz w).2.2) (by rw[Hp.AB (by omega),Hp.AB (by omega)];exact s2) rfl (by decide) (λu hu=>?_) ⟨keep _ _ _ (by omega),?_⟩))
  .rw[Ai2.1 hu];rfl
  exact BV.done rfl
 rw[hc];have W:=l4 (id:=5) rfl hm (n:=7) (tl:=[]) (by kernel_rfl) H st;intro b k cs;obtain⟨e',A',w',hq,iB⟩:=W b k cs;refine⟨e',A',w',?_,iB⟩;cases e' with
 | normal=>
  obtain⟨_,_,Z',G4,rfl⟩:=hq;refine hQ A' w' G4.defers (G4.sat _ _ ?_) (G4.sat _ _ ?_) (G4.sat _ _ ?_) (λk hk h0 h1 h2=>?_) G4.grow G4.os G4.out
  .rw[Hp.AB (by omega),Hp.AB (by omega),Hp.AA]
  .rw[Hp.AB (by omega),Hp.AA]
  .rw[Hp.AA]
  .by_cases h3:k=n
   .subst h3;rw[n0];exact G4.sat _ _ (by rw[Hp.AB h2,Hp.AB h1,Hp.AB h0];exact s3)
   .exact(G4.BI k ⟨hk,h0,h1,h2,h3⟩).2.2
 | panic ch=>obtain⟨_,_,hf,_⟩:=hq;exact hf.elim
 | exit _=>exact hq.elim
 | goto _=>exact hq.elim
 | ret=>exact hq.elim
 | outgrown=>exact hq.elim
theorem Abn (x:Value)(w:World):(Instr.typeAssert (.iface 80 x) 20 80 true).run prog w=.ok (.tuple #[x,.bool true]) w:=by kernel_rfl
set_option maxRecDepth 100000 in
theorem gU (b0 b1 b2:Nat)(EX a:Int)(w:World)(h0:w.heap[b0]?=some (.cells #[.N] 32 (0,0)))(h1:w.heap[b1]?=some (.cells #[.I 0] 3 (0,0)))(h2:w.heap[b2]?=some (.cells #[.I 0] 24 (0,0)))(I4:b1=b0+1)(F7:b2=b0+2):
  CallsD prog 29 #[.pointer (aD b0 0),.pointer (aD b1 0),.pointer (aD b2 0)] (.panicking [{ v:=Qw EX a,recovered:=false }]) w λe u' w'=>e=.T #[]/\u'=.panicking [{ v:=Qw EX a,recovered:=true }]/\
   w'.heap[b0]?=some (.cells #[.N] 32 (0,0))/\w'.heap[b1]?=some (.cells #[.I a] 3 (0,0))/\w'.heap[b2]?=some (.cells #[.I EX] 24 (0,0))/\(∀k,k<w.heap.size->k≠b0->k≠b1->k≠b2->w'.heap[k]?=w.heap[k]?)/\
   w.heap.size<=w'.heap.size/\Bj w w'/\w'.output=w.output:=by
 refine callsD_of_wpS func29 rfl λc₀ cs hu=>?_;apply wpS_seq
 apply wpS_region
 simp[wpOpsS,go_sem,recoverD,hu,Qw,Exit.thenS];apply wpS_seq
 apply wpS_region
 simp[wpOpsS,go_sem,Exit.thenS,qU];refine wpS_cond (t:=true) (by simp[Act.eval,Array.replicate]) ?_;simp only[AkQ];apply wpS_seq
 apply wpS_region
 simp[wpOpsS,go_sem,Exit.thenS,Abn];have n0:(w.alloc (.cells #[.I EX,.I a] 80)).heap[w.heap.size]?=some (.cells #[.I EX,.I a] 80 (0,0)):=by rw[World.alloc];simp
 have G:∀k:Nat,k<w.heap.size->(w.alloc (.cells #[.I EX,.I a] 80)).heap[k]?=w.heap[k]?:=λk hk=>by
  rw[World.alloc];simp[AjO,Nat.ne_of_lt hk]
 have J1:(w.alloc (.cells #[.I EX,.I a] 80)).heap.size=w.heap.size+1:=by simp
 have hos:Bj w (w.alloc (.cells #[.I EX,.I a] 80)):=.same rfl rfl rfl;have hou:(w.alloc (.cells #[.I EX,.I a] 80)).output=w.output:=rfl;generalize w.alloc (.cells #[.I EX,.I a] 80)=w1 at n0 G J1 hos hou;apply wpS_seq
 apply wpS_seq
 apply wpS_region
 simp[wpOpsS,go_sem,Exit.thenS];refine wpS_cond (t:=false) (by simp[Act.eval,Array.replicate]) ?_;simp only[AkP,AkO];refine wpS_of_wp (wp_skip ?_);refine wpS_of_wp ?_;have Ax:∀b o,w.heap[b]?=some o->b<w.heap.size:=λb o hb=>(AjF.1 hb).1;have l2:=Ax _ _ h2;have g0:=(G _ (Ax _ _ h0)).trans h0;have g1:=(G _ (Ax _ _ h1)).trans h1;have g2:=(G _ l2).trans h2;refine l5 (n:=w.heap.size) ?_ ?_ ?_ ?_ ?_ ?_ g0 g1 g2 I4 F7 l2 n0 ?_
 .simp
 .rfl
 .simp
 .simp
 .simp
 .simp[Array.replicate,aD]
 .intro A' w' hd x0 x1 x2 x3 x4 x5 x6;have y3:∀k,k<w.heap.size->k≠b0->k≠b1->k≠b2->w'.heap[k]?=w.heap[k]?:=λk hk a1 a2 a3=>(x3 k (by omega) a1 a2 a3).trans (G k hk);have y4:w.heap.size<=w'.heap.size:=by omega
  have y5:=hos.trans x5;have y6:=x6.trans hou;cases c₀
  simp_all [bodyPostS,results,results29,Exit.thenS,Qw]
structure PBx (b:Nat)(w:World):Prop where
 b0:w.heap[b]?=some (.cells #[.N] 32 (0,0))
 b1:w.heap[b+1]?=some (.cells #[.I 0] 3 (0,0))
 b2:w.heap[b+1+1]?=some (.cells #[.I 0] 24 (0,0))
def ACx (b:Nat)(w:World)(a EX:Int)(R:Ending->World->Prop):Prop:=
 ∀G,(∀k,k<w.heap.size->k≠b->k≠b+1->k≠b+1+1->G.heap[k]?=w.heap[k]?)->w.heap.size<=G.heap.size->Bj w G->G.output=w.output->R (.T #[.N,.I a,.I EX]) G
noncomputable def AMg:Code:=match f8.body with
 | some (.seq _ (.seq _ (.seq (.seq _ (.cond _ (.seq c _) _)) _)))=>c
 | _=>.skip
noncomputable def AMh:Array Oper:=match AMg with
 | .region _ ops _=>ops
 | _=>#[]
noncomputable def g8x:Tw.Gl:=⟨prog,8,33,λ_ _=>False,none,[],.inl ⟨rfl,rfl⟩⟩
def e8 (b:Nat)(f:Nat->Value)(t:Nat):Value:=if t=2 then .pointer (aD b 0) else if t=3 then .pointer (aD (b+1) 0) else if t=4 then .pointer (aD (b+1+1) 0) else f t
set_option maxRecDepth 100000 in
theorem ACy {b:Nat}{EX a:Int}{G:World}{A:Act}{Q:Exit->Act->World->Prop}(hs:A.tmps.size=33)(hd:A.defers=[])(t2:A.tmps.getD 2 undef=.pointer (aD b 0))(t3:A.tmps.getD 3 undef=.pointer (aD (b+1) 0))(t4:A.tmps.getD 4 undef=.pointer (aD (b+1+1) 0))
  (g0:G.heap[b]?=some (.cells #[.N] 32 (0,0))) (g1:G.heap[b+1]?=some (.cells #[.I a] 3 (0,0))) (g2:G.heap[b+1+1]?=some (.cells #[.I EX] 24 (0,0)))
  (hQ:∀A' w',A'.defers=[]->A'.tmps.getD 2 undef=.pointer (aD b 0)->A'.tmps.getD 3 undef=.pointer (aD (b+1) 0)->A'.tmps.getD 4 undef=.pointer (aD (b+1+1) 0)->w'.heap[b]?=some (.cells #[.N] 32 (0,0))->w'.heap[b+1]?=some (.cells #[.I a] 3 (0,0))->w'.heap[b+1+1]?=some (.cells #[.I EX] 24 (0,0))->
   (∀k,k<G.heap.size->k≠b->k≠b+1->k≠b+1+1->w'.heap[k]?=G.heap[k]?)->G.heap.size<=w'.heap.size->Bj G w'->w'.output=G.output->Q .normal A' w') :
  Code.wp prog AMg Q A G:=by
 have hm:prog.follows .mixedOrders=true:=by kernel_rfl
 have hc:AMg=.region 3 AMh true:=by kernel_rfl
 let z0:Hp:=λ_=>none
 let Z1:Hp:=((z0.set b (.cells #[.N] 32 (0,0))).set (b+1) (.cells #[.I a] 3 (0,0))).set (b+1+1) (.cells #[.I EX] 24 (0,0))
 have s0:Z1 b=some (.cells #[.N] 32 (0,0)):=by
  show Hp.set _ _ _ _=_
  rw[Hp.AB (by omega),Hp.AB (by omega),Hp.AA]
 have s1:Z1 (b+1)=some (.cells #[.I a] 3 (0,0)):=by
  show Hp.set _ _ _ _=_
  rw[Hp.AB (by omega),Hp.AA]
 have s2:Z1 (b+1+1)=some (.cells #[.I EX] 24 (0,0)):=Hp.AA _ _ _;have sn:∀k,k≠b->k≠b+1->k≠b+1+1->Z1 k=none:=λk h0 h1 h2=>by
  show Hp.set _ _ _ _=_
  rw[Hp.AB h2,Hp.AB h1,Hp.AB h0]
 have st:St g8x.n g8x.ds G (λk=>k<G.heap.size/\k≠b/\k≠b+1/\k≠b+1+1) (e8 b (λt=>A.tmps.getD t undef)) [] Z1 A G:=by
  refine⟨hs,λt=>?_,hd,λk o hb=>?_,λp hp=>by (cases hp),λp hp=>by (cases hp),AkR,λk hb=>⟨hb.1,sn k hb.2.1 hb.2.2.1 hb.2.2.2,rfl⟩,.same rfl rfl rfl,rfl,Ai7 _⟩
  .unfold e8;split
   .rename_i h;rw[h];exact t2
   split
   .rename_i h;rw[h];exact t3
   split
   .rename_i h;rw[h];exact t4
   .rfl
  .by_cases h0:k=b
   .subst h0;rw[s0]at hb;cases hb;exact g0
   by_cases h1:k=b+1
   .subst h1;rw[s1]at hb;cases hb;exact g1
   by_cases h2:k=b+1+1
   .subst h2;rw[s2]at hb;cases hb;exact g2
   .rw[sn k h0 h1 h2]at hb;cases hb
 have hz:∀(w:World),(Go.sizeOf 32).run prog w=.ok 1 w/\(Go.sizeOf 3).run prog w=.ok 1 w/\(Go.sizeOf 24).run prog w=.ok 1 w:=λw=>⟨by kernel_rfl,by kernel_rfl,by kernel_rfl⟩;have H:BV g8x AMh (.yes 0 (.yes 1 (.alt 2 (.alt 3 (.alt 4 .done .no) .no) .no))) (some []) (e8 b (λt=>A.tmps.getD t undef)) [] Z1 (λe bx Z2=>Seq g8x AMh [] e bx Z2 λe _ Z2=>(e 2=.pointer (aD b 0)/\e 3=.pointer (aD (b+1) 0)/\e 4=.pointer (aD (b+1+1) 0))/\Z2=((Z1.set b (.cells #[.N] 32 (0,0))).set (b+1) (.cells #[.I a] 3 (0,0))).set (b+1+1) (.cells #[.I EX] 24 (0,0))):=by
  refine BV.yl (b+1) [[3]] rfl (by kernel_rfl) (d:=some 15) (op:=.load 3 (.tmp 3)) (ty:=3) (v:=.I a) (by kernel_rfl) rfl (Y.ld (a:=⟨b+1,0,none⟩) (λw=>by kernel_rfl) rfl (by simp[KE,Hp.ld,s1])) ?_;refine BV.yl (b+1+1) [[4]] rfl (by kernel_rfl) (d:=some 16) (op:=.load 24 (.tmp 4)) (ty:=24) (v:=.I EX) (by kernel_rfl) rfl (Y.ld (a:=⟨b+1+1,0,none⟩) (λw=>by kernel_rfl) rfl (by simp[KE,Hp.ld,s2])) ?_;have keep:∀(L:List (Nat×List Nat)) (Z2:Hp) (k:Nat) (o:Obj),(∀x∈L,x.1≠k)->Ic (some L) [] Z2 [] (Z2.set k o):=λL Z2 k o hb=>⟨λp hp=>hp,λx hx o' Di=>by
   rw[Hp.AB (hb x hx)];exact Di⟩
  refine BV.o (q':=some [(b+1+1,[4]),(b+1,[3])]) rfl (AV.store (T:=32) (x:=.tmp 2) (y:=.const (.N)) (ty:=0) (gd:=none) (by kernel_rfl) rfl rfl rfl (AI.store (λw=>(hz w).1) s0 rfl (by decide) (λu hu=>?_) ⟨keep _ _ _ _ (λx hx=>?_),?_⟩))
  .rw[Ai2.1 hu];rfl
  .simp only[Ai1,AjK,Ajl]at hx;rcases hx with rfl|rfl<;>simp<;>omega
  refine BV.o (q':=some [(b+1+1,[4])]) rfl (AV.store (T:=3) (x:=.tmp 3) (y:=.tmp 15) (ty:=0) (gd:=none) (by kernel_rfl) rfl rfl rfl (AI.store (λw=>(hz w).2.1) (by rw[Hp.AB (by omega)];exact s1) rfl (by simp) (λu hu=>?_) ⟨keep _ _ _ _ (λx hx=>?_),?_⟩))
  .rw[Ai2.1 hu];rfl
  .simp only[Ai1,AjK,Ajl]at hx;subst hx;simp
  refine BV.o (q':=some []) rfl (AV.store (T:=24) (x:=.tmp 4) (y:=.tmp 16) (ty:=0) (gd:=none) (by kernel_rfl) rfl rfl rfl (AI.store (λw=>(hz w).2.2) (by rw[Hp.AB (by omega),Hp.AB (by omega)];exact s2) rfl (by simp) (λu hu=>?_) ⟨keep _ _ _ _ (λx hx=>by cases hx),?_⟩))
  .rw[Ai2.1 hu];rfl
  exact BV.done ⟨⟨rfl,rfl,rfl⟩,rfl⟩
 rw[hc];have W:=l4 (id:=3) rfl hm (n:=5) (tl:=[]) (by kernel_rfl) H st;intro fr k cs;obtain⟨e',A',w',hq,iB⟩:=W fr k cs;refine⟨e',A',w',?_,iB⟩;cases e' with
 | normal=>
  obtain⟨e',_,Z',G4,⟨x2,x3,x4⟩,rfl⟩:=hq;refine hQ A' w' G4.defers ((G4.env 2).trans x2) ((G4.env 3).trans x3) ((G4.env 4).trans x4) (G4.sat _ _ ?_) (G4.sat _ _ ?_) (G4.sat _ _ ?_) (λk hk h0 h1 h2=>?_) G4.grow G4.os G4.out
  .rw[Hp.AB (by omega),Hp.AB (by omega),Hp.AA]
  .rw[Hp.AB (by omega),Hp.AA]
  .rw[Hp.AA]
  .exact(G4.BI k ⟨hk,h0,h1,h2⟩).2.2
 | panic ch=>obtain⟨_,_,hf,_⟩:=hq;exact hf.elim
 | exit _=>exact hq.elim
 | goto _=>exact hq.elim
 | ret=>exact hq.elim
 | outgrown=>exact hq.elim
theorem AUn {b:Nat}{v0 v1 v2:Value}{w:World}{tmps:Array Value}(G:tmps.getD 2 undef=.pointer (aD b 0))(h3:tmps.getD 3 undef=.pointer (aD (b+1) 0))(h4:tmps.getD 4 undef=.pointer (aD (b+1+1) 0))
  (g0:w.heap[b]?=some (.cells #[v0] 32 (0,0))) (g1:w.heap[b+1]?=some (.cells #[v1] 3 (0,0))) (g2:w.heap[b+1+1]?=some (.cells #[v2] 24 (0,0))):(results f8 tmps).run prog w=.ok (.tuple #[v0,v1,v2]) w:=by
 have r0:=(Dx g0).1;have r1:=(Dx g1).1;have r2:=(Dx g2).1;simp[Akh]at G h3 h4;simp[results,results8,go_sem,G,h3,h4,r0,r1,r2]
set_option maxRecDepth 100000 in
theorem Qy {b:Nat}{G a:Int}{w:World}{tmps:Array Value}{R:Ending->World->Prop}(hb:PBx b w)(h2:tmps.getD 2 undef=.pointer (aD b 0))(h3:tmps.getD 3 undef=.pointer (aD (b+1) 0))(h4:tmps.getD 4 undef=.pointer (aD (b+1+1) 0))(hR:ACx b w a G R):
  Leaves prog f8 tmps R [{ target:=.fn (.func 29) #[.pointer (aD b 0),.pointer (aD (b+1) 0),.pointer (aD (b+1+1) 0)],args:=#[] }] (.panicking [{ v:=Qw G a,recovered:=false }]) w:=by
 refine leaves_cons (f:=29) (args:=#[.pointer (aD b 0),.pointer (aD (b+1) 0),.pointer (aD (b+1+1) 0)]) (by simp) (by simp[go_sem]) ?_;refine(gU b (b+1) (b+1+1) G a w hb.b0 hb.b1 hb.b2 rfl rfl).mono ?_
 rintro e u' w' ⟨rfl,rfl,x0,x1,x2,x3,x4,x5,x6⟩
 exact⟨_,AUn h2 h3 h4 x0 x1 x2,hR w' x3 x4 x5 x6⟩
set_option maxRecDepth 100000 in
theorem xA (s:ByteArray)(w w1:World)(aj:w1=((w.alloc (.cells #[.N] 32)).alloc (.cells #[.I 0] 3)).alloc (.cells #[.I 0] 24)){R:Ending->World->Prop}
  (h:Calls prog 28 #[.string s] w1 λe w2=>PBx w.heap.size w2/\((∃a G:Int,e=.T #[.N,.I a,.I G]/\G≠0/\ACx w.heap.size w2 a G R)\/∃p n c,e=.T #[.slice p n c,.I 0,.I 0]/\
   Calls prog 30 #[.pointer (aD w2.heap.size 0)] (((w2.setCell ⟨w.heap.size+1,0,none⟩ (.I 0)).setCell ⟨w.heap.size+1+1,0,none⟩ (.I 0)).alloc (.cells #[.slice p n c,.I 0,.N] 78)) λe w4=>PBx w.heap.size w4/\((∃a G:Int,e=.panicked [{ v:=Qw G a,recovered:=false }]/\ACx w.heap.size w4 a G R)\/e=.T #[]/\
   Calls prog 31 #[.pointer (aD w2.heap.size 0)] w4 λe w5=>PBx w.heap.size w5/\∃(k a v:Int) (t:ByteArray),e=.returned (.agg #[.I k,.I a,.string t,.I v])/\((k≠0/\Calls prog 32 #[.pointer (aD w2.heap.size 0)] w5 λe w6=>PBx w.heap.size w6/\∃a G:Int,e=.panicked [{ v:=Qw G a,recovered:=false }]/\ACx w.heap.size w6 a G R)\/k=0/\
    ∃(p:Option Addr) (n c:Nat) (q:Option Addr) (m k:Nat),w5.heap[w2.heap.size]?=some (.cells #[.slice p n c,.I 0,.slice q m k] 78 (0,0))/\R (.T #[.slice q m k,.I 0,.I 0]) (((w5.setCell ⟨w.heap.size,0,none⟩ (.slice q m k)).setCell ⟨w.heap.size+1,0,none⟩ (.I 0)).setCell ⟨w.heap.size+1+1,0,none⟩ (.I 0)))))):Calls prog 8 #[.string s] w R:=by
 have hmf:∀(fn:Fn) (first cap:Array Value) (w:World),(Instr.makeFunc fn first cap).run prog w=.ok (.func fn first cap) w:=λ_ _ _ _=>rfl
 go_enter_defers func8,ntmps8
 go_wp2
 rename_i K1 ha1 K2 ha2;rw[<-aj];refine h.mono ?_
 rintro e w2 ⟨⟨xE,I4,F7⟩,⟨a,G,rfl,Ad,hR⟩|⟨p,n,c,rfl,h⟩⟩
 .obtain⟨c1,f1⟩:=Dx I4;obtain⟨s1,s2,s3⟩:=A7 (v:=.I a) I4;have Yy:=F7;rw[<-s2 _ (by omega)]at Yy;obtain⟨c2,f2⟩:=Dx Yy;obtain⟨t1,t2,t3⟩:=A7 (v:=.I G) Yy;have c3:=Dx t1;apply ha2
  go_wp2
  rename_i K3 ha3;rw[<-t2 _ (by omega)]at s1;have s0:=xE;rw[<-s2 _ (by omega),<-t2 _ (by omega)]at s0;refine ACy rfl rfl rfl rfl rfl s0 s1 t1 λA' w' d0 d2 d3 d4 x0 x1 x2 x3 x4 x5 x6=>?_;apply ha3
  go_wp2
  simp only[bodyPostD,d0];refine⟨_,AUn d2 d3 d4 x0 x1 x2,hR w' (λk hk h0 h1 h2=>?_) ?_ ?_ ?_⟩
  .rw[x3 k (by rw[t3,s3];exact hk) h0 h1 h2,t2 k h2,s2 k h1]
  .rw[t3,s3]at x4;exact x4
  .exact(Bj.same rfl rfl rfl:Bj w2 _).trans x5
  .exact x6
 obtain⟨c1,f1⟩:=Dx I4;obtain⟨s1,s2,s3⟩:=A7 (v:=.I 0) I4;have Yy:=F7;rw[<-s2 _ (by omega)]at Yy;obtain⟨c2,f2⟩:=Dx Yy;obtain⟨t1,t2,t3⟩:=A7 (v:=.I 0) Yy;have c3:=Dx t1;apply ha2
 go_wp2
 refine h.mono ?_
 rintro e w4 ⟨g,⟨a,G,rfl,hR⟩|⟨rfl,h⟩⟩
 .simp only[bodyPostD];exact Qy g rfl rfl rfl hR
 rename_i K3 ha3 K4 ha4;apply ha4
 go_wp2
 refine h.mono ?_
 rintro e w5 ⟨⟨g0,g1,g2⟩,k',a,v,t,rfl,⟨hk,h⟩|⟨rfl,p5,n5,c5,q,m,k,gp,hR⟩⟩
 .rename_i K6 ha6;have hfl:∀w:World,(Instr.field 83 (.agg #[.I k',.I a,.string t,.I v]) 0).run prog w=.ok (.I k') w:=λw=>by kernel_rfl
  apply ha6
  go_wp2
  refine h.mono ?_
  rintro e w6 ⟨g,a,G,rfl,hR⟩
  simp only[bodyPostD];exact Qy g rfl rfl rfl hR
 rename_i K6 ha6;have cq:w5.cell? ⟨w2.heap.size,2,none⟩=some (.slice q m k):=AIc gp rfl;obtain⟨d0,e0⟩:=Dx g0;obtain⟨u1,u2,u3⟩:=A7 (v:=.slice q m k) g0;have g1':=g1;rw[<-u2 _ (by omega)] at g1';obtain⟨d1,e1⟩:=Dx g1';obtain⟨v1,v2,v3⟩:=A7 (v:=.I 0) g1';have g2':=g2;rw[<-u2 _ (by omega),<-v2 _ (by omega)] at g2';obtain⟨d2,e2⟩:=Dx g2';obtain⟨x1,x2,x3⟩:=A7 (v:=.I 0) g2';have r2:=(Dx x1).1;rw[<-x2 _ (by omega)]at v1;have r1:=(Dx v1).1;rw[<-v2 _ (by omega),<-x2 _ (by omega)]at u1;have r0:=(Dx u1).1;have hfl:∀w:World,(Instr.field 83 (.agg #[.I 0,.I a,.string t,.I v]) 0).run prog w=.ok (.I 0) w:=λw=>by kernel_rfl
 apply ha6
 go_wp2
 simp only[bodyPostD];refine leaves_cons (f:=29) (args:=#[.pointer (aD w.heap.size 0),.pointer (aD (w.heap.size+1) 0),.pointer (aD (w.heap.size+1+1) 0)]) (by simp) (by simp[go_sem]) ?_;refine(Yx _ _ _ _).mono ?_
 rintro e u' w'' ⟨rfl,rfl,rfl⟩
 simp[Leaves,settle,results,results8,go_sem,r0,r1,r2];exact hR
def Y7 (s:ByteArray):Int×List Cl:=if 4096<s.size then(170,[]) else G2 (s.size+1) s.data.toList
theorem df (s:ByteArray):CN s=if(Y7 s).1≠0 then((Y7 s).1,[]) else match pe ((Y7 s).2.length*16+9) 0 0 (Y7 s).2 with
  | .ok (c::_,ns)=>if c.kind=0 then(0,ns) else(181,[])
  | .ok ([],_)=>(1,[])
  | .er e=>(e,[])
  | .out=>(1,[]):=by
 unfold CN Y7;by_cases h:4096<s.size
 .simp only[Aiy h];rfl
 .first|(simp only[Aiw h];done)|(simp only[Aiw h];rfl)
theorem tf (s:ByteArray):LxG 4096 (Y7 s):=by
 unfold Y7;split
 .exact⟨λh=>absurd h (by decide),by decide,by decide,by decide⟩
 .have G:s.data.toList.length=s.size:=Ajd (xs:=s.data);exact(AGO (s.size+1) s.data.toList (by omega)).le (by omega)
theorem PW {s:ByteArray}{Z2:Hp}{R:Rr}(AW:(CN s).1=0->∀(Z':Hp) (p:Option Addr) (n c:Nat),Af 10 H8 Z' p n (CN s).2->Ext Z2 Z'->R (.T #[.slice p n c,.I 0,.I 0]) Z')
  (A6:(CN s).1≠0->∀(a:Int) (Z':Hp),Ext Z2 Z'->R (.T #[.N,.I a,.I (CN s).1]) Z'):Spec prog 8 #[.string s] Z2 R:=λw F Vp hF=>by
 rw[df]at AW A6;have hlg:=tf s;obtain⟨x,hx⟩:∃x,x=Y7 s:=⟨_,rfl⟩;rw[<-hx]at AW A6 hlg;have e1:(((w.alloc (.cells #[.N] 32)).alloc (.cells #[.I 0] 3)).alloc (.cells #[.I 0] 24)).heap=((w.heap.push (.cells #[.N] 32)).push (.cells #[.I 0] 3)).push (.cells #[.I 0] 24):=rfl;generalize aj:((w.alloc (.cells #[.N] 32)).alloc (.cells #[.I 0] 3)).alloc (.cells #[.I 0] 24)=w1 at e1;have Rv:w1.os=w.os/\w1.tape=w.tape/\w1.drawn=w.drawn/\w1.output=w.output:=by subst aj;exact⟨rfl,rfl,rfl,rfl⟩
 have AUp:Bj w w1:=.same Rv.1 Rv.2.1 Rv.2.2.1;have J1:w1.heap.size=w.heap.size+3:=by rw[e1];simp
 have hold:∀k:Nat,k<w.heap.size->w1.heap[k]?=w.heap[k]?:=λk G=>by
  rw[e1,AjO,Aiw (by simp;omega),AjO,Aiw (by simp;omega),AjO,Aiw (by omega)]
 have n0:w1.heap[w.heap.size]?=some (.cells #[.N] 32 (0,0)):=by
  rw[e1,AjO,Aiw (by simp;omega),AjO,Aiw (by simp),AjO,Aiy rfl]
 have n1:w1.heap[w.heap.size+1]?=some (.cells #[.I 0] 3 (0,0)):=by
  rw[e1,AjO,Aiw (by simp),AjO,Aiy (by simp)]
 have n2:w1.heap[w.heap.size+1+1]?=some (.cells #[.I 0] 24 (0,0)):=by
  rw[e1,AjO,Aiy (by simp)]
 have Ax:∀b o,Z2 b=some o->b<w.heap.size:=λb o hb=>(AjF.1 (Vp b o hb)).1;have G6:∀b,w.heap.size<=b->Z2 b=none:=λb hb=>by
  cases h:Z2 b with
  | none=>rfl
  | some o=>have:=Ax b o h;omega
 let F1:Nat->Prop:=λk=>F k\/(w.heap.size<=k/\k<w.heap.size+3)
 have fin:∀(y:Hp) (wj:World) (a EX:Int),Ext Z2 y->Sat y wj->(∀k,F1 k->y k=none)->(∀k,F k->wj.heap[k]?=w.heap[k]?)->Bj w wj->wj.output=w.output->w.heap.size+3<=wj.heap.size->R (.T #[.N,.I a,.I EX]) y->
   ACx w.heap.size wj a EX (λe w'=>∃Z',R e Z'/\Fin Z' F w w'):=λy wj a EX Gz sJ hny hFy hoy Abo hgy hR w' h1 h2 h3 h4=>by
  refine⟨y,hR,λb o hb=>?_,λk G=>⟨hny k (.inl G),?_⟩,hoy.trans h3,h4.trans Abo,by omega⟩
  .have hbj:=sJ b o hb;have Ad:∀j,F1 j->b≠j:=λj hj e=>by
    have:=hny j hj;rw[<-e,hb]at this;cases this
   rw[h1 b (AjF.1 hbj).1 (Ad _ (.inr ⟨by omega,by omega⟩)) (Ad _ (.inr ⟨by omega,by omega⟩)) (Ad _ (.inr ⟨by omega,by omega⟩))];exact hbj
  .have:=(hF k G).1;rw[h1 k (by omega) (by omega) (by omega) (by omega),hFy k G]
 refine xA s w w1 aj.symm ((w9 (Z2:=Z2) (s:=s) (R:=λe Z'=>(x.1=0/\∃(p':Option Addr) (n' c':Nat),e=.T #[.slice p' n' c',.I 0,.I 0]/\AN 4 Yp Z2 Z' p' n' c' x.2)\/(x.1≠0/\∃a:Int,e=.T #[.N,.I a,.I x.1]/\Ext Z2 Z')) (λx' QO=>by
  have:x'=x:=by rw[QO,hx];rfl
  subst this;exact⟨λh0 Z' p' n' c' ho=>.inl ⟨h0,p',n',c',rfl,ho⟩,λhn Z' a Xr=>.inr ⟨hn,a,rfl,Xr⟩⟩) w1 F1 (λb o hb=>by rw[hold b (Ax b o hb)];exact Vp b o hb) (λk G=>?_)).mono ?_)
 .rcases G with G|G
  .exact⟨by have:=(hF k G).1;omega,(hF k G).2⟩
  .exact⟨by omega,G6 k G.1⟩
 rintro e w2 ⟨Z22,au,hf⟩
 have m0:=((hf.BI w.heap.size (.inr ⟨by omega,by omega⟩)).2).trans n0;have m1:=((hf.BI (w.heap.size+1) (.inr ⟨by omega,by omega⟩)).2).trans n1;have m2:=((hf.BI (w.heap.size+1+1) (.inr ⟨by omega,by omega⟩)).2).trans n2;have hz2:w.heap.size+3<=w2.heap.size:=by have:=hf.grow;omega
 have hF2:∀k,F k->w2.heap[k]?=w.heap[k]?:=λk G=>by rw[(hf.BI k (.inl G)).2,hold k (hF k G).1]
 refine⟨⟨m0,m1,m2⟩,?_⟩;rcases au with ⟨sW,p,n,c,rfl,ho⟩|⟨hxn,a,rfl,Xr⟩
 rotate_left
 .refine .inl ⟨a,x.1,rfl,hxn,fin Z22 w2 a x.1 Xr hf.sat (λk G=>(hf.BI k G).1) hF2 (AUp.trans hf.os) (hf.out.trans Rv.2.2.2) hz2 ?_⟩;rw[Aiy hxn]at A6;exact A6 hxn a Z22 Xr
 rw[Aiw (λh=>h sW)]at AW A6;obtain⟨htk,k9⟩:=hlg.tk sW;have hgd:=AUk (x.2.length*16+9) 0 0 x.2 htk (.inl (by omega)) (by omega) (by omega);refine .inr ⟨p,n,c,rfl,?_⟩;obtain⟨a1,a2,a3⟩:=A7 (v:=.I 0) m1;have m2':=m2;rw[<-a2 _ (by omega)] at m2';obtain⟨b1,b2,b3⟩:=A7 (v:=.I 0) m2';have e3:(((w2.setCell ⟨w.heap.size+1,0,none⟩ (.I 0)).setCell ⟨w.heap.size+1+1,0,none⟩ (.I 0)).alloc (.cells #[.slice p n c,.I 0,.N] 78)).heap=(((w2.setCell ⟨w.heap.size+1,0,none⟩ (.I 0)).setCell ⟨w.heap.size+1+1,0,none⟩ (.I 0)).heap).push (.cells #[.slice p n c,.I 0,.N] 78):=rfl;generalize hw3:((w2.setCell ⟨w.heap.size+1,0,none⟩ (.I 0)).setCell ⟨w.heap.size+1+1,0,none⟩ (.I 0)).alloc (.cells #[.slice p n c,.I 0,.N] 78)=w3 at e3;have Dh:w3.os=w2.os/\w3.tape=w2.tape/\w3.drawn=w2.drawn/\w3.output=w2.output:=by subst hw3;exact⟨rfl,rfl,rfl,rfl⟩
 have AMi:Bj w w3:=AUp.trans (hf.os.trans (.same Dh.1 Dh.2.1 Dh.2.2.1));have AMj:w3.output=w.output:=Dh.2.2.2.trans (hf.out.trans Rv.2.2.2);have AbY:w3.heap.size=w2.heap.size+1:=by rw[e3];simp[b3,a3]
 have Yz:∀k:Nat,k<w2.heap.size->k≠w.heap.size+1->k≠w.heap.size+1+1->w3.heap[k]?=w2.heap[k]?:=λk G h1 h2=>by
  rw[e3,AjO,Aiw (by rw[b3,a3];omega),b2 k h2,a2 k h1]
 have q0:w3.heap[w.heap.size]?=some (.cells #[.N] 32 (0,0)):=by rw[Yz _ (by omega) (by omega) (by omega)];exact m0
 have q1:w3.heap[w.heap.size+1]?=some (.cells #[.I 0] 3 (0,0)):=by
  rw[e3,AjO,Aiw (by rw[b3,a3];omega),b2 _ (by omega)];exact a1
 have q2:w3.heap[w.heap.size+1+1]?=some (.cells #[.I 0] 24 (0,0)):=by
  rw[e3,AjO,Aiw (by rw[b3,a3];omega)];exact b1
 have q3:w3.heap[w2.heap.size]?=some (.cells #[.slice p n c,.I 0,.N] 78 (0,0)):=by
  rw[e3,AjO,Aiy (by rw[b3,a3])]
 have pJ:∀b o,Z22 b=some o->b<w2.heap.size:=λb o hb=>(AjF.1 (hf.sat b o hb)).1;have mN:Z22 w2.heap.size=none:=by
  cases h:Z22 w2.heap.size with
  | none=>rfl
  | some o=>have:=pJ _ o h;omega
 have hF1:∀k,F1 k->k<w2.heap.size/\Z22 k=none:=λk G=>⟨by
  rcases G with G|G
  .have:=(hF k G).1;omega
  .omega,(hf.BI k G).1⟩
 have hF3:∀k,F k->w3.heap[k]?=w.heap[k]?:=λk G=>by
  have:=(hF k G).1;rw[Yz k (by omega) (by omega) (by omega)];exact hF2 k G
 have Tm:n<=c:=by
  obtain⟨⟨_,cs,h1,_⟩,_⟩:=ho;exact BH.cap h1
 have hu:B4 Z22 Z22 w2.heap.size p n c none 0 0 x.2 []:=⟨mN,(ho.rd Yp.mono),Tm,AN.nil (.refl _)⟩;have hpz:=AUj (x.2.length*16+9) 0 0 x.2 (by decide) (by decide) (by decide) (by decide) hu (by omega) (R:=λe y=>(∃r ns,pe (x.2.length*16+9) 0 0 x.2=.ok (r,ns)/\e=.T #[]/\∃(ρ':Hp) (p' q':Option Addr) (n' c' m' e':Nat),y=ρ'.set w2.heap.size (pO p' n' c' 0 q' m' e')/\B4 Z22 ρ' w2.heap.size p' n' c' q' m' e' r ns) \/
   ∃EX a:Int,pe (x.2.length*16+9) 0 0 x.2=.er EX/\e=.panicked [{ v:=Qw EX a,recovered:=false }]/\Ext Z22 y) (λr ns h ρ' p' q' n' c' m' e' Bi=>.inl ⟨r,ns,h,rfl,ρ',p',q',n',c',m',e',rfl,by rw[Aj9]at Bi;exact Bi⟩)
  (λe' he a y hy=>.inr ⟨e',a,he,rfl,hy⟩) (λh=>by rw[h]at hgd;exact hgd)
 rw[I9,Aiw (by decide)]at hpz;refine(hpz w3 F1 (λb o hb=>?_) (λk G=>?_)).mono ?_
 .by_cases hbb:b=w2.heap.size
  .subst hbb;rw[Hp.AA]at hb;cases hb;exact q3
  .rw[Hp.AB hbb]at hb;have F7:=pJ b o hb;have hF':¬(w.heap.size<=b/\b<w.heap.size+3):=λhh=>by
    have:=(hf.BI b (.inr hh)).1;rw[this]at hb;cases hb
   rw[Yz b F7 (by omega) (by omega)];exact hf.sat b o hb
 .have:=hF1 k G;exact⟨by omega,by rw[Hp.AB (by omega)];exact this.2⟩
 rintro e w4 ⟨Z4,hpe,Pd⟩
 have hg4:∀k,F1 k->w4.heap[k]?=w3.heap[k]?:=λk G=>(Pd.BI k G).2;refine⟨⟨(hg4 _ (.inr ⟨by omega,by omega⟩)).trans q0,(hg4 _ (.inr ⟨by omega,by omega⟩)).trans q1,(hg4 _ (.inr ⟨by omega,by omega⟩)).trans q2⟩,?_⟩;rcases hpe with ⟨r,ns,hpe,rfl,ρ',p',q',n',c',m',e',rfl,Bi⟩|⟨EX,a,hpe,rfl,hy⟩
 rotate_left
 .rw[hpe]at A6 hgd;refine .inl ⟨a,EX,rfl,fin Z4 w4 a EX (ho.up.trans hy) Pd.sat (λk G=>(Pd.BI k G).1) (λk G=>(hg4 k (.inl G)).trans (hF3 k G)) (AMi.trans Pd.os) (Pd.out.trans AMj) (by have:=Pd.grow;omega) ?_⟩;have h0:0<EX:=hgd.1;exact A6 (by dsimp only;omega) a Z4 (ho.up.trans hy)
 rw[hpe]at AW A6 hgd;have htr:Tk r:=hgd;cases r with
 | nil=>exact absurd rfl htr.ne
 | cons cl r=>
 dsimp only at AW A6;refine .inr ⟨rfl,?_⟩;refine((BF (d:=0) (R:=λe y=>y=ρ'.set w2.heap.size (pO p' n' c' 0 q' m' e')/\∃a:Int,e=.returned (.agg #[.I cl.kind,.I a,.string cl.text,.I cl.span])) Bi (λa=>⟨rfl,a,rfl⟩)) w4 F1 Pd.sat (λk G=>⟨by have:=hF1 k G;have:=Pd.grow;omega,(Pd.BI k G).1⟩)).mono ?_
 rintro e w5 ⟨Z5,⟨rfl,a,rfl⟩,YX⟩
 have hg:∀k,F1 k->w5.heap[k]?=w3.heap[k]?:=λk G=>((YX.BI k G).2).trans (hg4 k G);have x0:=(hg _ (.inr ⟨by omega,by omega⟩)).trans q0;have x1:=(hg _ (.inr ⟨by omega,by omega⟩)).trans q1;have x2:=(hg _ (.inr ⟨by omega,by omega⟩)).trans q2;have x3:=YX.sat w2.heap.size _ (Hp.AA _ _ _);refine⟨⟨x0,x1,x2⟩,cl.kind,a,cl.span,cl.text,rfl,?_⟩;by_cases G:cl.kind=0
 rotate_left
 .refine .inl ⟨G,?_⟩;rw[Aiw G]at A6;refine((DB (d:=0) (R:=λe y=>∃a:Int,e=.panicked [{ v:=Qw 181 a,recovered:=false }]/\Ext Z22 y) Bi (by
   rw[Uo,Aiw G];exact λa y hy=>⟨a,rfl,hy⟩)) w5 F1 YX.sat (λk G=>⟨by have:=hF1 k G;have:=Pd.grow;have:=YX.grow;omega,(YX.BI k G).1⟩)).mono ?_
  rintro e w6 ⟨Z6,⟨a,rfl,hy⟩,hf6⟩
  have hg6:∀k,F1 k->w6.heap[k]?=w3.heap[k]?:=λk G=>((hf6.BI k G).2).trans (hg k G);refine⟨⟨(hg6 _ (.inr ⟨by omega,by omega⟩)).trans q0,(hg6 _ (.inr ⟨by omega,by omega⟩)).trans q1,(hg6 _ (.inr ⟨by omega,by omega⟩)).trans q2⟩,a,181,rfl,?_⟩;exact fin Z6 w6 a 181 (ho.up.trans hy) hf6.sat (λk G=>(hf6.BI k G).1) (λk G=>(hg6 k (.inl G)).trans (hF3 k G)) (AMi.trans (Pd.os.trans (YX.os.trans hf6.os))) (hf6.out.trans (YX.out.trans (Pd.out.trans AMj))) (by have:=Pd.grow;have:=YX.grow;have:=hf6.grow;omega) (A6 (by decide) a Z6 (ho.up.trans hy))
 rw[Aiy G]at AW;refine .inr ⟨G,p',n',c',q',m',e',x3,ρ',AW rfl ρ' q' m' e' (Bi.out.rd H8.mono) ?_,?_⟩
 .exact(ho.up).trans Bi.out.up
 .obtain⟨y1,y2,y3⟩:=A7 (v:=.slice q' m' e') x0;have x1':=x1;rw[<-y2 _ (by omega)] at x1';obtain⟨z1,z2,z3⟩:=A7 (v:=.I 0) x1';have x2':=x2;rw[<-y2 _ (by omega),<-z2 _ (by omega)] at x2';obtain⟨v1,v2,v3⟩:=A7 (v:=.I 0) x2';have same:∀k,k≠w.heap.size->k≠w.heap.size+1->k≠w.heap.size+1+1->(((w5.setCell ⟨w.heap.size,0,none⟩ (.slice q' m' e')).setCell ⟨w.heap.size+1,0,none⟩ (.I 0)).setCell ⟨w.heap.size+1+1,0,none⟩ (.I 0)).heap[k]?=w5.heap[k]?:=λk h1 h2 h3=>by
   rw[v2 k h3,z2 k h2,y2 k h1]
  refine⟨λb o hb=>?_,λk G=>?_,?_,?_,?_⟩
  .have Ad:∀j,F1 j->b≠j:=λj hj e=>by
    have:=(Pd.BI j hj).1;have h5:(ρ'.set w2.heap.size (pO p' n' c' 0 q' m' e')) b=some o:=by rw[Hp.AB (λe'=>by rw[e',Bi.pb]at hb;cases hb)];exact hb
    rw[e,this]at h5;cases h5
   rw[same b (Ad _ (.inr ⟨by omega,by omega⟩)) (Ad _ (.inr ⟨by omega,by omega⟩)) (Ad _ (.inr ⟨by omega,by omega⟩))];exact YX.sat b o (by rw[Hp.AB (λe'=>by rw[e',Bi.pb]at hb;cases hb)];exact hb)
  .have C8:=hF k G;have h5:=(YX.BI k (.inl G)).1;refine⟨?_,?_⟩
   .by_cases MR:k=w2.heap.size
    .omega
    .rw[Hp.AB MR]at h5;exact h5
   .rw[same k (by omega) (by omega) (by omega),hg k (.inl G),hF3 k G]
  .exact AMi.trans (Pd.os.trans (YX.os.trans (Bj.same rfl rfl rfl)))
  .exact YX.out.trans (Pd.out.trans AMj)
  .rw[v3,z3,y3];have:=YX.grow;have:=Pd.grow;omega
section
variable {Q:Qg}{ρ M:Hp}{b m fm:Nat}{R:Rr}
structure RdV (Q:Qg)(M:Hp)(b m fm:Nat)(es:List En)(S2 fl:Int)(R:Rr)(ρ:Hp):Prop where
 bad:I7 fl es=false->∀ρ',Ext ρ ρ'->Gi ρ' M->R (.returned (.I 140)) (ρ'.or M)
 few:I7 fl es=true->(QW Q.mem:Int)<Q.Hq->∀ρ',Ext ρ ρ'->Gi ρ' M->R (.returned (.I 271)) (ρ'.or M)
 ok:I7 fl es=true->Q.Hq<=QW Q.mem->∀ρ' M',QV { Q with rd:=true,S2:=S2,fl:=fl,es:=es } ρ' M' b m fm->Ext ρ ρ'->(∀j,j≠b->M' j=M j)->R (.returned (.I 0)) (ρ'.or M')
theorem xB {es:List En}{S2 fl:Int}{pI:Option Addr}{G cI:Nat}(h:QV Q ρ M b m fm)(hix:I7 fl es=true)(hI:Af 9 Lu ρ pI G es)(Ad:G<=4000000)(hK:RdV Q M b m fm es S2 fl R ρ):
  Br ((QW Q.mem:Int)<Q.Hq) (R (.returned (.I 271)) (ρ.or M)) (Spec prog 42 #[.agg #[.U S2,.I fl,.slice pI G cI]] (ρ.or M) (Ab R (λz AE=>∃jM jN jO jP jQ,z=(.agg #[.U jM,.I jN,.slice jO jP jQ])/\AI prog (Instr.storeAt 43 (.pointer (aD b (0+7))) (.agg #[.U jM,.I jN,.slice jO jP jQ])) AE (λ_ AK=>AI prog (Instr.storeAt 4 (.pointer (aD b (0+6))) (.bool true)) AK (λ_ Am=>AI prog (Instr.storeAt 45 (.pointer (aD b (0+12))) (.func (.func 43) #[(.pointer (aD b 0))] #[])) Am (λ_ CL=>R (.returned (.I 0)) CL)))))):=by
 refine⟨λAx=>hK.few hix Ax ρ (.refl _) h.Qt,λTW=>E3 h.Qt (Ug hI Ad λp' c' ρ2 hoI D2=>⟨S2,fl,p',G,c',rfl,?_⟩)⟩;have hI2:=hoI.rd Lu.mono;have Aw:=hoI.up;obtain⟨pt,nt,ct,pi,ni,ci,pa,na,ca,k1,k2,k3,k4,k5⟩:=h.q;have nb:ρ2 b=none:=D2 b (by rw[k1];simp);refine AI.wX tC (Ba D2 k1) rfl rfl rfl AIT ?_;rw[Bf nb];have D3:=IU (o:=qOg pt nt ct Q.at_ m Q.Hq Q.rd S2 fl p' G c' fm pa na ca b (gG Q.rd)) D2 nb;refine AI.wX AB9 (Ba D3 (Hp.AA _ _ _)) rfl rfl rfl AIS ?_;rw[Bf nb,Hp.set_set];have D4:=IU (o:=qOg pt nt ct Q.at_ m Q.Hq true S2 fl p' G c' fm pa na ca b (gG Q.rd)) D2 nb;refine AI.wX Vh (Ba D4 (Hp.AA _ _ _)) rfl rfl rfl gD ?_;rw[Bf nb,Hp.set_set];exact hK.ok hix (by omega) ρ2 _ ⟨IU D2 nb,h.bm,h.bf,h.mf,⟨pt,nt,ct,p',G,c',pa,na,ca,Hp.AA _ _ _,k2.mono H8.mono Aw,hI2,k4.mono BT.mono Aw,k5⟩,h.mm.loc (Hp.AB (AjI h.bm)),h.ff.loc (Hp.AB (AjI h.bf)),h.tr,by have:=hI2.1;dsimp only;omega⟩ Aw λj hj=>Hp.AB hj
theorem RdV.up {es:List En}{S2 fl:Int}{ρ':Hp}(h:RdV Q M b m fm es S2 fl R ρ)(hx:Ext ρ ρ'):RdV Q M b m fm es S2 fl R ρ':=⟨λG r x=>h.bad G r (hx.trans x),λG h2 r x=>h.few G h2 r (hx.trans x),λG h2 r M' hu x=>h.ok G h2 r M' hu (hx.trans x)⟩
theorem qW {es:List En}{S2 fl:Int}{pI:Option Addr}{nI cI:Nat}{l:List MapEntry}{clock i:Nat}(hix:I7 fl es=true)(Ad:nI<=4000000)(hm:gy.Ay .i64 M m l clock)(ia:l.length<=4000000)(he:l.map pQ=Q.mem.map (RX .i64))(h:QV Q ρ M b m fm)(hI:Af 9 Lu ρ pI nI es)(hK:RdV Q M b m fm es S2 fl R ρ)(hi0:ρ i=none)(Mi:M i=none):
  ∀(k:Nat) (u:Obj) (L:List MapEntry) (n:Nat),L.length=k->Ix ((ρ.set i u).or M) i m l L clock->(∀e∈L,e∈l)->(L.map (·.born)).Nodup->n+L.countP YZ=QW Q.mem->n+k<=l.length->
   A8.HG R (aD b 0) S2 fl pI nI cI (n:Int) (.pointer (some ⟨i,0,none⟩)) ((ρ.set i u).or M):=by
 intro k
 induction k with
 | zero=>
  intro u L n hk hi RS Gn hc hn;have D1:Gi (ρ.set i u) M:=VN h.Qt Mi;have x1:=Ext.set (o:=u) hi0;obtain rfl:=AjL hk;have e:n=QW Q.mem:=by simpa using hc
  subst e;obtain⟨pt,nt,ct,pi,ni,ci,pa,na,ca,k1,k2,k3,k4,k5⟩:=h.q;exact A8.CC (gy.KZ (hm.loc (Hp.EH (D1 m h.mm.known))) hi (λ_=>.inl ⟨rfl,b,0,rfl,Q.Hq,AJ (Ba D1 k1) rfl,xB (h.up x1 D1) hix (hI.mono Lu.mono x1) Ad (hK.up x1)⟩) λe VD=>by cases VD)
 | succ k ih=>
  intro u L n hk hi RS Gn hc hn;have D1:Gi (ρ.set i u) M:=VN h.Qt Mi;refine A8.CC (gy.KZ (hm.loc (Hp.EH (D1 m h.mm.known))) hi (λh0=>by rw[h0]at hk;cases hk) λe heL xQ o ho ACc=>?_);rw[Gm,Hp.set_set];have D2:Gi (ρ.set i o) M:=VN h.Qt Mi;obtain⟨p,xW,mN⟩:∃p:Int×Int,e.key=.I p.1/\e.val=.I p.2:=by
   have:pQ e∈Q.mem.map (RX .i64):=by rw[<-he];exact AlA xQ
   obtain⟨p,_,hp⟩:=Ajf.1 this;exact⟨p,(Ai8 Prod.fst hp).symm,(Ai8 Prod.snd hp).symm⟩
  have hb:((ρ.set i o).or M) i=some o:=Hp.DZ (Hp.AA _ _ _);have hbm:((ρ.set i o).or M) m=((ρ.set i u).or M) m:=by rw[Hp.EH (D2 m h.mm.known),Hp.EH (D1 m h.mm.known)]
  rw[xW,mN]at ACc ⊢;refine .inr ⟨_,_,rfl,ACc _ hb hbm ⟨_,_,rfl,?_⟩⟩;have aP:=I6 (p:=YZ) Gn heL;have hpv:YZ e=decide (0<p.2):=by unfold YZ;rw[mN]
  have G:(L.filter λx=>x.born != e.born).length=k:=by
   have:=I6 (p:=λ_=>true) Gn heL;simp only[List.countP_true,AkQ]at this;omega
  have lV:∀x∈L.filter λx=>x.born != e.born,x∈l:=λx hx=>RS x ((AkU.1 hx).1);have ACe:((L.filter λx=>x.born != e.born).map (·.born)).Nodup:=Gn.sublist (List.filter_sublist.map _);refine⟨λHu=>⟨by unfold AL;omega,?_⟩,λAZ=>?_⟩
  .rw[hpv,AjC Hu,Aiy rfl]at aP;exact ih o _ (n+1) G (ho _ hb) lV ACe (by omega) (by omega)
  .rw[hpv,AjE AZ,Aiw (by decide)]at aP;exact ih o _ n G (ho _ hb) lV ACe (by omega) (by omega)
theorem qX {es:List En}{S2 fl:Int}{pI:Option Addr}{nI cI:Nat}(h:QV Q ρ M b m fm)(hI:Af 9 Lu ρ pI nI es)(Ad:nI<=4000000)(ia:Q.mem.length<=4000000)(hK:RdV Q M b m fm es S2 fl R ρ):
  Spec prog 13 #[.pointer (aD b 0),.agg #[.U S2,.I fl,.slice pI nI cI]] (ρ.or M) R:=by
 refine A8.start λb3=>Sf (hI.mono Lu.mono (Ext.DZ _ _)) λZ1 BS=>⟨_,rfl,λhh=>?_,λhh=>?_⟩
 .obtain⟨ρ1,X1,G,rfl,_⟩:=Ext.parts h.Qt BS;have h0:I7 fl es=false:=by
   cases h1:I7 fl es with
   | false=>rfl
   | true=>rw[h1]at hh;exact absurd rfl hh
  rw[h0];exact hK.bad h0 ρ1 X1 G
 have hix:I7 fl es=true:=by
  cases h1:I7 fl es with
  | true=>rfl
  | false=>rw[h1]at hh;exact absurd (by decide) hh
 obtain⟨ρ1,X1,G,rfl,_⟩:=Ext.parts h.Qt BS;obtain⟨pt,nt,ct,pi,ni,ci,pa,na,ca,k1,k2,k3,k4,k5⟩:=h.q;obtain⟨l,clock,hm,he⟩:=h.mm;refine⟨b,0,rfl,some m,AJ (Ba G k1) rfl,gy.Ps (hm.loc (Hp.EH (G m h.mm.known))) λi o hi hit=>⟨_,rfl,?_⟩⟩;obtain⟨ri,mi⟩:=or_none hi;rw[Gm]at hit ⊢;have hl:l.length=Q.mem.length:=by
  have:=Ai8 List.length he;simpa using this
 exact qW hix Ad hm (by omega) he (h.up X1 G) (hI.mono Lu.mono X1) (hK.up X1) ri mi l.length o l 0 rfl hit (λ_ h=>h) hm.AIN (by rw[Ajz,pos_eq he]) (by omega)
structure AnV (Q:Qg)(M:Hp)(R:Rr)(ρ:Hp):Prop where
 Abq:Un Q≠[]->∀ρ',Ext ρ ρ'->Gi ρ' M->R (.T #[.N,.I 0,.I 272]) (ρ'.or M)
 bad:Un Q=[]->(instF Q.T (DC Q.fl Ts Q.all) Q.at_).1≠0->∀ρ',Ext ρ ρ'->Gi ρ' M->R (.T #[.N,.I 0,.I (instF Q.T (DC Q.fl Ts Q.all) Q.at_).1]) (ρ'.or M)
 ok:Un Q=[]->(instF Q.T (DC Q.fl Ts Q.all) Q.at_).1=0->∀ρ' p n c,Ext ρ ρ'->Gi ρ' M->Af 2 BT (ρ'.or M) p n ((instF Q.T (DC Q.fl Ts Q.all) Q.at_).2.map λe=>⟨e.ls,[(Q.at_,e.v)]⟩)->R (.T #[.slice p n c,.I Q.fl,.I 0]) (ρ'.or M)
theorem gV (h:QV Q ρ M b m fm)(hg:Gl ρ)(h2:Q.rd=true)(oA:Da none Q.all=true)(hA:∀s∈Q.all,aK s)(hl:Q.all.length<=1000000000)(hM:Modest Q.T (DC Q.fl Ts Q.all))(hK:AnV Q M R ρ):Spec prog 14 #[.pointer (aD b 0)] (ρ.or M) R:=by
 obtain⟨pt,nt,ct,pi,ni,ci,pa,na,ca,k1,k2,k3,k4,k5⟩:=h.q;rw[h2]at k1;refine Cp.start ⟨b,0,rfl,_,AJ (Ba h.Qt k1) rfl,_,_,_,rfl,Ao.en,?_⟩;show Spec prog 43 #[.pointer (aD b 0)] _ _
 refine Ao.start (lj h λρ1 pn nn cn BS D1 S4 _=>⟨_,_,_,rfl,λHu=>?_,λhz=>?_⟩)
 .have Ad:Un Q≠[]:=λe=>by
   have:=S4.1;rw[e]at this;have:(0:Nat)=nn:=this;omega
  exact⟨_,_,_,_,_,rfl,hK.Abq Ad ρ1 BS D1⟩
 have AGQ:Un Q=[]:=AjL (by have:=S4.1;omega);have I4:=Ba D1 k1;refine⟨b,0,rfl,pa,na,ca,AJ I4 rfl,Q.fl,AJ I4 rfl,Yn ((k4.mono BT.mono BS).mono BT.mono (Ext.DZ _ _)) oA (by have:=k4.1;omega) hA λp2 n2 c2 Z22 G0 bN Aw=>⟨_,_,_,_,rfl,?_⟩⟩;obtain⟨ρ2,X2,D2,rfl,_⟩:=Ext.parts D1 Aw;have F7:=Ba D2 k1;have Y2:=BS.trans X2;refine⟨0,AJ F7 rfl,λ_=>⟨pt,nt,ct,AJ F7 rfl,Q.at_,AJ F7 rfl,inst_spec ((hg.mono Y2).mono (Ext.DZ _ _)) ((k2.mono H8.mono Y2).mono H8.mono (Ext.DZ _ _)) G0 hM (λO22 p3 n3 c3 Z3 bs h0 gL B0=>⟨_,_,_,_,rfl,Ao.Eg ⟨λhh=>absurd rfl hh,λ_=>?_⟩⟩) λZ3 Ad B0=>⟨_,_,_,_,rfl,Ao.Eg ⟨λ_=>?_,λhh=>absurd Ad hh⟩⟩⟩,λhh=>absurd rfl hh⟩
 .obtain⟨G,X3,D3,rfl,_⟩:=Ext.parts D2 (B0.trans gL.ext);exact⟨b,0,rfl,Q.fl,AJ (Ba D3 k1) rfl,⟨_,_,_,_,_,rfl,hK.ok AGQ h0 G p3 n3 c3 (Y2.trans X3) D3 gL.rd⟩⟩
 .obtain⟨G,X3,D3,rfl,_⟩:=Ext.parts D2 B0;exact⟨_,_,_,_,_,rfl,hK.bad AGQ Ad G (Y2.trans X3) D3⟩
end
def Ss (s:ByteArray)(t:Int):Int:=
 if(CN s).1≠0 then(CN s).1 else if HT (CN s).2=none then fy (CN s).2 else if HT (CN s).2=some 3 then 220 else if t < -1099511627776\/1099511627776<t then 221 else 0
theorem PY {s:ByteArray}(h:(CN s).1=0):(CN s).2.length<=700000/\∀x∈(CN s).2,TxI (Y7 s).2 x:=by
 rw[df]at h ⊢;have hlg:=tf s;generalize Y7 s=y at h hlg ⊢;by_cases h0:y.1≠0
 .rw[Aiy h0]at h ⊢;exact⟨by simp,λx G=>by cases G⟩
 rw[Aiw h0]at h ⊢;obtain⟨htk,k9⟩:=hlg.tk (AjZ.1 h0);cases hp:pe (y.2.length*16+9) 0 0 y.2 with
 | er e=>exact⟨by simp,λx G=>by cases G⟩
 | out=>exact⟨by simp,λx G=>by cases G⟩
 | ok z=>
  obtain⟨r,ns⟩:=z;obtain⟨g1,g2,g3⟩:=PU _ _ _ _ _ hp;rw[hp]at h;cases r with
  | nil=>exact⟨by simp,λx G=>by cases G⟩
  | cons c r=>
   dsimp only at h g1 g3 ⊢;by_cases hk:c.kind=0
   .rw[Aiy hk];exact⟨by dsimp only;omega,g3⟩
   .rw[Aiw hk]at h;exact absurd h (by decide)
end TwW
end
