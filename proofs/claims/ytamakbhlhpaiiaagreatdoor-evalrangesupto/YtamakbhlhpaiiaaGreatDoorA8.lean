/-
  Part 8 of the proof that the law EvalRangesUptoCardSaid of the given program answers true for every input of the given statement; the input reads behind the call as it did. (The texts: packed from 3 texts. Names are shortened by the packing program, for the bound on size.)
-/
import Derived.Test.YtamakbhlhpaiiaaGreatDoorA7
import Derived.Test.YtamakbhlhpaiiaaGreatDoorCards
import Derived.Test.YtamakbhlhpaiiaaGreatDoorTie
import Derived.WalkKit
import Derived.OpenShut
import Derived.Deep.DeepHandedRow
import Derived.Stop.LaidErr
import Derived.Shelf.Vars
set_option linter.all false
section
namespace TwW
open Go Tw Go.RowKit Go.Proofs.Tryz
section
variable {Z:Hp}{R:Rr}
theorem Iv.me {t:Int}{c:Nat}{G M:List Sr}(h:Iv t c G M)(hc:c<=1000):MEa M:=⟨λs A=>by
 have C:=(Ac.of (Fh h.ok s A).1).1;have h2:=(h.tm s A).2;exact⟨by omega,by omega⟩⟩
theorem oD {p q:Option Addr}{n c m d:Nat}{T:List Nd}{ss:List Sr}{a b s:Int}(hr:AT 10 IQ Z p n T)(hs:AT 2 Cd Z q m ss)(hM:Modest T ss)(h64:∀s∈ss,∀p∈s.ps,JI p.2)(xg:ss.length<=1048576)
  (h:∀Z' p' n' c',Ext Z Z'->AT 2 Cd Z' p' n' (Jn T ss a b s).2->R (.T #[.slice p' n' c',.I (Jn T ss a b s).1]) Z') :
  Spec prog 15 #[.slice p n c,.slice q m d,.I a,.I b,.I s] Z R:=by
 have hl:T.length=n:=hr.1;have hMt:=hM.t;have C:∀e:Int,Jn T ss a b s=(e,[])->∀Z',Ext Z Z'->R (.T #[.N,.I e]) Z':=λe he Z' hx=>by
  rw[he]at h;exact h Z' none 0 0 hx AT.nil
 have AYA:(∀k,Jm T=some k->k=3)->Jn T ss a b s=(220,[]):=λhk=>by
  have:EH T ss=220:=by
   unfold EH;cases hq:Jm T with
   | none=>rfl
   | some k=>dsimp only;rw[Amc (hk k hq)]
  unfold Jn;rw[this,Amc (by decide)]
 refine I9.start (YJ.start (jf hr (by omega) hM.tx (λk Z1 hk Bc=>⟨_,_,_,rfl,λ_=>⟨_,rfl,λhf=>?_,λh3=>?_⟩,λA=>absurd rfl A⟩) λk j e Z1 hk he Bc=>⟨_,_,_,rfl,λA=>absurd A he,λ_=>⟨_,rfl,λ_=>?_,λA=>(by cases A)⟩⟩))
 .have h3:k=3:=Amy.1 (Am4 hf);exact C 220 (AYA λk' DI=>by rw[hk]at DI;cases DI;exact h3) Z1 Bc
 .have h3:k≠3:=Amg h3;refine Wc (hs.mono Cd.mono Bc) ⟨_,rfl,λAi=>?_,λh0=>?_⟩
  .have ho:¬DJ none ss=true:=λho=>Ai (by rw[ho];rfl);have:EH T ss=224:=by unfold EH;rw[hk];dsimp only;rw[Amb h3,Amb ho]
   exact C 224 (by unfold Jn;rw[this,Amc (by decide)]) Z1 Bc
  have ho:DJ none ss=true:=by
   cases hq:DJ none ss with
   | true=>rfl
   | false=>rw[hq]at h0;exact absurd (by decide) h0
  have ha:EH T ss=0:=by unfold EH;rw[hk];dsimp only;rw[Amb h3,Amc ho]
  have AHg:¬(Fi a/\Fi b/\a<=b/\1<=s)->R (.T #[.N,.I 221]) Z1:=λA=>C 221 (by unfold Jn;rw[Amb (by rw[ha];decide),Amc A]) Z1 Bc;refine cp ⟨_,rfl,λhf=>AHg λA=>Am4 hf A.1,λht1=>cp ⟨_,rfl,λhf=>AHg λA=>Am4 hf A.2.1,λht2=>⟨λAv=>AHg λA=>by have:=A.2.2.1;omega,λhle=>⟨λHv=>AHg λA=>by have:=A.2.2.2;omega,λHv=>?_⟩⟩⟩⟩;have DZ:Fi a/\Fi b/\a<=b/\1<=s:=⟨Amg ht1,Amg ht2,by omega,by omega⟩;have hS:=Stp.of DZ;generalize hK:((b-a)/s).toNat=K at hS;obtain⟨w1,w2,w3⟩:=hS.wrap;have hkk:=hS.k;refine⟨w1,w2,λtN e47=>?_⟩;rw[w3]at e47;subst e47;refine⟨λAv=>C 222 (by unfold Jn;rw[Amb (by rw[ha];decide),Amb (by rw[Amy];exact DZ),Amc (by omega)]) Z1 Bc,λAv=>?_⟩;have hK5:K<512:=by omega
  have hF:Jn T ss a b s=match JQ T ss a s (K+1) with
    | none=>(223,[])
    | some x=>(0,x.2):=by
   unfold Jn;rw[Amb (by rw[ha];decide),Amb (by rw[Amy];exact DZ),Amb (by omega),hK];rfl
  obtain⟨BP,hlen⟩:=Qe hk;have hSG:=mi.of hM ho;have hD:SsD ss:=⟨λs hs=>Ac.of (Fh ho s hs).1,hM.s,hM.ps⟩;have AHQ:∀{j:Nat} {x:List Sr×List Sr},j<=K+1->JQ T ss a s j=some x->_:=fun {j x} hj hx=>r8 (x:=x) hM ha hlen xg BP hSG DZ.2.2.2 (λi hi=>(hS.time (j:=i) (by omega)).1) hx
  suffices H:∀(g k:Nat) (pk:Option Addr) (nk ck:Nat) (Zk:Hp) (x:List Sr×List Sr),K+1-k=g->k<=K+1->JQ T ss a s k=some x->AT 2 Cd Zk pk nk x.2->Ext Z Zk->I9.MD R p n c q m d a b s pk nk ck (k:Int) Zk from
   H (K+1) 0 none 0 0 Z1 ([],[]) rfl (Amh _) rfl AT.nil Bc
  intro g
  induction g with
  | zero=>
   intro k pk nk ck Zk x hg DI hx hrk WS;rw[show k=K+1 by omega]at hx;refine I9.M4 ⟨w1,w2,λx54 G=>?_⟩;rw[w3]at G;subst G;refine⟨λA=>by omega,λ_=>?_⟩;rw[hF,hx]at h;exact h Zk pk nk ck WS hrk
  | succ g ih=>
   intro k pk nk ck Zk x hg DI hx hrk WS;obtain⟨⟨t1,t2⟩,t3⟩:=hS.time (j:=k) (by omega);obtain⟨hiv,_,hbl⟩:=AHQ DI hx;obtain⟨u1,u2⟩:=DZ.1;refine I9.M4 ⟨w1,w2,λx54 G=>?_⟩;rw[w3]at G;subst G;refine⟨λ_=>⟨by unfold AF;omega,by unfold AF;omega,?_⟩,λA=>by omega⟩;refine AD6 (hr.mono IQ.mono WS) (hs.mono Cd.mono WS) hSG ho hD h64 (by omega) (by omega) BP (λl Z2 p' n' c' hm Ao bw=>⟨_,_,_,_,rfl,λAi=>absurd rfl Ai,λ_ oQ h75=>?_⟩) λhm Z2 Ao=>⟨_,_,_,_,rfl,λ_=>?_,λA=>absurd (by decide) A⟩
   .have Ju:JQ T ss a s (k+1)=some (cL x.1 (a+k*s) l,HJ x.2 (SG (a+k*s) l)):=by
     rw[JQ,hx];show Option.map _ (A3 FF T ss (a+k*s))=_
     rw[hm];rfl
    have e:instF T ss (a+k*s)=(0,l):=by unfold instF;rw[ha,Amb (by decide),Amb (by rw[Amy];exact⟨t1,t2⟩),hm]
    have AYC:=(inst_shape hM (by rw[e])).2.2.1;rw[e]at AYC;obtain⟨mo1,mo2⟩:=Jv hSG BP hm;have hlb:l.length<=4294967297:=by
     have:=AoS hlen xg;omega
    have x75:=Ext.set (o:=.cells #[.slice pk nk ck,.slice p' n' c'] 23 (0,0)) h75;refine nK (Hp.AA _ _ _) (hrk.mono Cd.mono (Ao.trans x75)) (bw.mono Cd.mono x75) (hiv.me (by omega)) ⟨λs hs=>?_⟩ (by rw[Amw];omega) hiv.ok (λ_ p2 n2 c2 Z3 Ss BO=>⟨_,_,_,_,rfl,by unfold AF;omega,?_⟩) λCU=>?_
    .obtain⟨e,he,rfl⟩:=AnA.1 hs;have:=(mo1 e he).1;exact⟨by dsimp only;omega,by show 1<=1000000000;decide⟩
    .have:=ih (k+1) p2 n2 c2 Z3 _ (by omega) (by omega) Ju Ss (WS.trans (Ao.trans (x75.trans BO)));rw[show((k+1:Nat):Int)=(k:Int)+1 by omega]at this;exact this
    .rw[show DJ none (AD5 (a+k*s) l)=true from AYC]at CU;cases CU
   .have CU:JQ T ss a s (K+1)=none:=cM (n:=k+1) (by rw[JQ,hx];show Option.map _ (A3 FF T ss (a+k*s))=_;rw[hm];rfl) (by omega);exact C 223 (by rw[hF,CU]) Z2 (WS.trans Ao)
 .exact C 220 (AYA λk' DI=>by rw[hk]at DI;cases DI) Z1 Bc
end
theorem AYD:Jn T0 ur 0 60 60=(0,[⟨[],[(0,v1),(60,v8)]⟩]):=by
 have A:A3 FF T0 ur (0+((0:Nat):Int)*60)=some [⟨[],v1⟩]:=AdE;have C:A3 FF T0 ur (0+((1:Nat):Int)*60)=some [⟨[],v8⟩]:=AXI;have G:JQ T0 ur 0 60 2=some ([⟨[],[(0,v1),(60,v8)]⟩],[⟨[],[(0,v1),(60,v8)]⟩]):=by
  rw[JQ,JQ,JQ,A];show((some ([⟨[],[(0,v1)]⟩],HJ [] [⟨[],[(0,v1)]⟩]):Option (List Sr×List Sr)).bind _)=_
  rw[Ho,ApC,C];show some ([(⟨[],[(0,v1),(60,v8)]⟩:Sr)],HJ [⟨[],[(0,v1)]⟩] [⟨[],[(60,v8)]⟩])=_
  rw[Jx];show some ([(⟨[],[(0,v1),(60,v8)]⟩:Sr)],(⟨[],Ia [(0,v1)] [(60,v8)]⟩:Sr)::HJ [] [])=_
  rw[Ho,Mf λp hp=>by rw[Amo]at hp;subst hp;decide];rfl
 unfold Jn;rw[Amb (by rw[AX1];decide),Amb (by rw[Amy];decide),Amb (by decide),show((60-0:Int)/60).toNat+1=2 from rfl,G]
theorem Aei:AX4:=λhg hr hs h=>by
 refine We hg hr hs jN (by decide) (λp' n' c' Z' M rows hm A=>?_) λe Z' hm C=>absurd (by rw[AYD]at hm;cases hm) C;rw[AYD]at hm;cases hm;have hn:1=n':=A.rd.1;subst hn;obtain⟨RY,o57,p1,n1,c1,q1,m1,d1,rfl,hl,_,G,_⟩:=Cd.at A.rd (i:=0) (s:=⟨[],[(0,v1),(60,v8)]⟩) rfl;have Lk:2=m1:=G.1;subst Lk;exact h _ _ _ _ _ _ A.ext (by simpa using hl.2.1)
section
variable {Z:Hp}{R:Rr}{ss:List Sr}
theorem oE {p q:Option Addr}{n c m dd:Nat}{T:List Nd}{a b s:Int}(Aej:Awk)(hg:Gl Z)(hr:AT 10 IQ Z p n T)(hs:AT 2 Cd Z q m ss)(hM:Modest T ss)(hT:TOk T)(hS:SOk ss)(h64:∀s∈ss,∀p∈s.ps,JI p.2)(xg:ss.length<=1048576)(h:∀Z',Ext Z Z'->R (.B true) Z'):
  Spec prog 4 #[.slice p n c,.slice q m dd,.I a,.I b,.I s] Z R:=by
 refine Lw.start (oD hr hs hM h64 xg λZ1 pw nw cw x1 hw=>⟨_,_,_,_,rfl,nH (hr.mono IQ.mono x1) hT λyJ po Z2 A7=>⟨_,_,_,rfl,jK (hs.mono Cd.mono (x1.trans A7.up)) hS λp29 vg Z3 AOj x3=>⟨_,_,_,rfl,?_⟩⟩⟩);have X3:=x1.trans (A7.up.trans x3);have AYE:=(A7.rd IQ.mono).mono IQ.mono x3;have hw3:=hw.mono Cd.mono (A7.up.trans x3);have fin:∀Z9:Hp,Ext Z3 Z9->Spec prog 12 #[.slice p29 m vg,.slice q m dd] Z9 (BV R (CB λt64 fG=>Bo t64 (Spec prog 14 #[] fG (BV R (CB λt66 dM=>R (.B t66) dM))) (R (.B false) fG))):=λZ9 x9=>
  S1 (AOj.mono Cd.mono x9) (hs.mono Cd.mono (X3.trans x9)) ⟨_,rfl,λ_=>Aej Z9 _ (hg.mono (X3.trans x9)) λAek x10=>⟨_,rfl,h Aek (X3.trans (x9.trans x10))⟩,λA=>(by cases A)⟩
 have mid:∀(G:Hp) (pa:Option Addr) (na ca:Nat) (e:Int),e=(Jn T ss a b s).1->Ext Z3 G->AT 2 Cd G pa na (Jn T ss a b s).2->(∀Z7 (R':Rr),Ext G Z7->(∀Z8,Ext Z3 Z8->R' (.T #[]) Z8)->Spec prog 13 #[.slice pa na ca] Z7 R')->
   Spec prog 11 #[.slice yJ n po,.slice p n c] G (BV R (CB λt41 DK=>Bn t41 (R (.B false) DK) (Spec prog 12 #[.slice p29 m vg,.slice q m dd] DK (BV R (CB λt46 GK=>Bn t46 (R (.B false) GK) (Br (e≠(Jn T ss a b s).1) (R (.B false) GK) (Spec prog 12 #[.slice pa na ca,.slice pw nw cw] GK (BV R (CB λt57 RR=>Bn t57 (R (.B false) RR) (Spec prog 13 #[.slice pa na ca] RR (BV R (λz YG=>z=(.tuple #[])/\Spec prog 12 #[.slice p29 m vg,.slice q m dd] YG (BV R (CB λt64 fG=>Bo t64 (Spec prog 14 #[] fG (BV R (CB λt66 dM=>R (.B t66) dM))) (R (.B false) fG))))))))))))))):=λG pa na ca e he x4 ha hsp=>
  oC (AYE.mono IQ.mono x4) (hr.mono IQ.mono (X3.trans x4)) λZ5 x5=>⟨_,rfl,λA=>(by cases A),λ_=>S1 (AOj.mono Cd.mono (x4.trans x5)) (hs.mono Cd.mono (X3.trans (x4.trans x5))) ⟨_,rfl,λA=>(by cases A),λ_=>⟨λA=>absurd he A,λ_=>S1 (ha.mono Cd.mono x5) (hw3.mono Cd.mono (x4.trans x5)) ⟨_,rfl,λA=>(by cases A),λ_=>hsp Z5 _ x5 λZ8 x8=>⟨rfl,fin Z8 x8⟩⟩⟩⟩⟩
 refine We (hg.mono X3) AYE AOj hM xg (λpa na ca G M rows C hA=>⟨_,_,_,_,rfl,mid G pa na ca 0 (by rw[C]) hA.ext (by rw[C];exact hA.rd) λZ7 R' x7 RC=>nY (hA.mono x7) RC⟩) λe G C Ai x4=>⟨_,_,_,_,rfl,mid G none 0 0 e (by rw[C]) x4 (by rw[C];exact AT.nil) λZ7 R' x7 RC=>CV.start (CV.U3 ⟨λA=>absurd A (by decide),λ_=>RC Z7 (x4.trans x7)⟩)⟩
end
end TwW
end
section
namespace TwW.Rw
open Go Tw Go.RowKit Go.ChangeShapes Go.WideShapes Go.ChangeAt Go.Deep Go.Proofs.Tryz Go.Proofs.YtamakbhlhpaiiaaGreatDoor
theorem own:ownKnob prog.godebug=none:=by kernel_rfl
theorem laidOut:laidOutB prog=true:=by kernel_rfl
theorem JJ {H:Type}(d:DataW H):1<=Rows.uptoBulk d:=by
 cases d with
 | lit l=>cases l<;>simp[Rows.uptoBulk]
 | _=>simp[Rows.uptoBulk]
theorem Vn {H:Type}{d:DataW H}:∀{l:List (DataW H)},d∈l->Rows.uptoBulk d<=Rows.uptoBulkAll l
 | x::l,h=>by
  simp only[Rows.uptoBulkAll];rcases Aml.1 h with rfl|h
  .omega
  .have:=Vn h;omega
theorem oF {H:Type}(l r:List (DataW H)):Rows.uptoBulkAll (l++r)=Rows.uptoBulkAll l+Rows.uptoBulkAll r:=by
 induction l with
 | nil=>simp[Rows.uptoBulkAll]
 | cons x l A=>simp only[AnQ,Rows.uptoBulkAll,A];omega
theorem AD8 {H:Type}(l:List (DataW H)):l.length<=Rows.uptoBulkAll l:=by
 induction l with
 | nil=>simp
 | cons x l A=>have:=JJ x;simp only[Rows.uptoBulkAll,AnN];omega
def HK {α:Type}(t:TypeId)(E:Hp->List Value->α->Prop)(I:α->Prop)(sz:α->Nat):Prop:=
 ∀{H:Type} {enc:TypeId×Value->H} {w:World} {base:Nat} {C:Nat->Bool} {A:Bool} {fuel:Nat} {cs:List Value} {x:DataW H×List MemPlace},
  DataW.trod enc prog w base C A fuel t cs=some x->Rows.uptoBulk x.1<=1048576->∃y,E (full w) cs y/\I y/\sz y<=Rows.uptoBulk x.1
theorem mkB {α:Type}{s:Nat}{E:Hp->List Value->α->Prop}{I:α->Prop}{sz:α->Nat}{Z:Hp}{b o:Nat}{H:Type}{D:Nat->DataW H}:∀{n:Nat},n<=4611686018427387904->(∀i,i<n->∃vs x,vs.length=s/\Af Z b (o+i*s) vs/\E Z vs x/\I x/\sz x<=Rows.uptoBulk (D i))->
  ∃xs,AT s E Z (some ⟨b,o,none⟩) n xs/\(∀x∈xs,I x)/\(xs.map sz).sum<=Rows.uptoBulkAll ((List.range n).map D)
 | 0,_,_=>⟨[],AT.nil,by simp,by simp⟩
 | n+1,hn,h=>by
  obtain⟨xs,⟨h1,cs,⟨C,_,h2⟩,h3⟩,hI,hs⟩:=mkB (n:=n) (D:=D) (by omega) (λi hi=>h i (by omega));obtain⟨vs,x,G,CH,hE,hx,hz⟩:=h n (by omega);have LC:Af Z b o cs:=by
   rcases h2 with rfl|⟨b',o',hp,Vz⟩
   .have:cs=[]:=AnS (by simpa using C);subst this;trivial
   .cases hp;exact Vz
  refine⟨xs++[x],⟨by simp[h1],cs++vs,⟨by rw[Amv,C,G,Ant];omega,hn,.inr ⟨b,o,rfl,LC.snoc (by rw[C];exact CH)⟩⟩,h3.snoc G hE⟩,λy A=>?_,?_⟩
  .rcases Am6.1 A with A|A
   .exact hI y A
   .simp at A;subst A;exact hx
  .rw[List.range_succ,Am7,Am7,oF,Aoh];simp only[AnT,Apu,AqU,Aqh,Rows.uptoBulkAll];omega
def ESc {α:Type}(s:Nat)(E:Hp->List Value->α->Prop)(Z:Hp)(vs:List Value)(xs:List α):Prop:=∃p n c,vs=[.slice p n c]/\n<=c/\AT s E Z p n xs
theorem HK.slice {α:Type}{t e:TypeId}{s:Nat}{E:Hp->List Value->α->Prop}{I:α->Prop}{sz:α->Nat}(ht:prog.underlying t=some (.slice e))(hs:prog.cellsOf e=s)(hs0:0<s)(he:HK e E I sz):
  HK t (ESc s E) (λxs=>∀x∈xs,I x) (λxs=>(xs.map sz).sum+1):=by
 intro H enc w base sp held fuel cs x h hw;subst hs;rcases open_slice ht h with ⟨rfl,rfl⟩|⟨a,len,cap,m,n,D,Pl,rfl,hb,hl,hm,hmm,rfl,hi⟩
 .exact⟨[],⟨none,0,0,rfl,Amr _,AT.nil⟩,by simp,by simp[Rows.uptoBulk]⟩
 .have hlm:len<=m:=by rw[hmm];split<;>omega
  have j6:Rows.uptoBulkAll ((List.range len).map D)+1<=Rows.uptoBulk (DataW.slice ((List.range len).map D) ((List.range (m-len)).map λj=>D (len+j))):=by
   simp only[Rows.uptoBulk];omega
  have G:=AD8 ((List.range len).map D);rw[Amw,AqB]at G;have hwD:∀i,i<len->Rows.uptoBulk (D i)<=1048576:=λi BT=>by
   have:=Vn (AnA.2 ⟨i,Aoe.2 BT,rfl⟩:D i∈(List.range len).map D);simp only at hw;omega
  by_cases h0:len=0
  .subst h0;exact⟨[],⟨some a,0,cap,rfl,Amh _,AT.nil⟩,by simp,by simp only[Rows.uptoBulk,Apu,Aqh];omega⟩
  .have oG:a.spot=none:=by
    obtain⟨cs',hc,_⟩:=hi 0 (by omega);obtain⟨_,cu,A⟩:=World.cells?_some hc;have C:=A 0 hs0;rw[Amf (by omega)]at C;have:=eM C;simpa[Addr.add] using this
   obtain⟨b,o,sp'⟩:=a;simp only at oG;subst oG;obtain⟨xs,hr,hI,hz⟩:=mkB (s:=prog.cellsOf e) (E:=E) (I:=I) (sz:=sz) (Z:=full w) (b:=b) (o:=o) (D:=D) (n:=len) (by simp only at hw;omega) (λi BT=>by
    obtain⟨cs',hc,ht'⟩:=hi i (by omega);obtain⟨_,cu,A⟩:=World.cells?_some hc;obtain⟨y,hE,hy,qp⟩:=he ht' (hwD i BT);refine⟨cs',y,cu,Af.of λj v hj=>?_,hE,hy,qp⟩;have eF:j<prog.cellsOf e:=by have:=(Amd.1 hj).1;omega
    have C:=A j eF;rw[hj,DU,DU]at C;exact XH C)
   exact⟨xs,⟨some ⟨b,o,none⟩,len,cap,rfl,hl,hr⟩,hI,by simp only at hz j6 ⊢;omega⟩
def AHh (_:Hp)(vs:List Value)(s:ByteArray):Prop:=vs=[.string s]
theorem HK.str {t:TypeId}(C:prog.underlying t=some .string):HK t AHh (λs=>s.size<=1048576) (λs=>s.size+1):=λh A=>by
 obtain⟨n,rfl,rfl,_⟩:=DataW.trod_string C h;have e:n.data.toList.length=n.size:=Anf;have A:n.data.toList.length+1<=1048576:=A;rw[e]at A;exact⟨n,rfl,by omega,show n.size+1<=n.data.toList.length+1 by rw[e];exact Amr _⟩
theorem UR {H:Type}{l:List (DataW H)}{d:DataW H}(h:Rows.uptoBulk (DataW.agg l)<=1048576)(A:d∈l):Rows.uptoBulk d<=1048576:=by
 have:=Vn A;simp only[Rows.uptoBulk]at h;omega
theorem AHi {α:Type}:∀l:List α,(l.map λ_=>1).sum=l.length:=λl=>by induction l with
 | nil=>rfl
 | cons a l A=>simp;omega
theorem HK.len {α:Type}{t e:TypeId}{s:Nat}{E:Hp->List Value->α->Prop}{I:α->Prop}(ht:prog.underlying t=some (.slice e))(hs:prog.cellsOf e=s)(A:0<s)(he:HK e E I (λ_=>1)):
  HK t (ESc s E) (λxs=>(∀x∈xs,I x)/\xs.length<=1048576) (λ_=>1):=λh hw=>by
 obtain⟨xs,G,h2,C⟩:=HK.slice ht hs A he h hw;dsimp only at C;rw[AHi]at C;exact⟨xs,G,⟨h2,by omega⟩,JJ _⟩
theorem HK.one {α:Type}{t:TypeId}{E:Hp->List Value->α->Prop}{I:α->Prop}{sz:α->Nat}(h:HK t E I sz):HK t E I (λ_=>1):=λA C=>by
 obtain⟨y,a,b,c⟩:=h A C;exact⟨y,a,b,JJ _⟩
set_option maxRecDepth 100000
set_option linter.unusedSimpArgs false
theorem AOk:HK 61 Ff (λp=>0<=p.2/\p.2<18446744073709551616) (λ_=>1):=by
 intro H enc w base sp held fuel cs x h hw;obtain⟨xs,n,_,rfl,A,yU,hg⟩:=DataW.trod_struct underlying61 h;rw[show prog.cellsOf 61=2 by kernel_rfl]at A
 match cs,A,xs,yU with
 | [c0,c1],_,[y0,y1],_=>
  have C:=hg 0 _ rfl;have G:=hg 1 _ rfl;simp only[show prog.cellsOf 2=1 by kernel_rfl,show prog.cellsOf 57=1 by kernel_rfl,List.drop,List.take,AnD,AnV]at C G;obtain⟨a,e0,_,_⟩:=DataW.trod_int underlying2 C;obtain⟨b,e1,_,wb⟩:=DataW.trod_int underlying57 G;cases e0;cases e1;refine⟨(a,b),rfl,?_,JJ _⟩;simp[Lit.wf,IntKind.min,IntKind.max,IntKind.signed,IntKind.bits]at wb;exact⟨wb.1,by omega⟩
theorem AOl:HK 71 A9 (λ_=>True) (λ_=>1):=by
 intro H enc w base sp held fuel cs x h hw;obtain⟨xs,n,_,rfl,A,yU,hg⟩:=DataW.trod_struct underlying71 h;rw[show prog.cellsOf 71=2 by kernel_rfl]at A
 match cs,A,xs,yU with
 | [c0,c1],_,[y0,y1],_=>
  have C:=hg 0 _ rfl;have G:=hg 1 _ rfl;simp only[show prog.cellsOf 9=1 by kernel_rfl,List.drop,List.take,AnD,AnV]at C G;obtain⟨a,e0,_⟩:=DataW.trod_string underlying9 C;obtain⟨b,e1,_⟩:=DataW.trod_string underlying9 G;cases e0;cases e1;exact⟨(a,b),rfl,trivial,JJ _⟩
theorem AOm:HK 75 KH (λ_=>True) (λ_=>1):=by
 intro H enc w base sp held fuel cs x h hw;obtain⟨xs,n,_,rfl,A,yU,C⟩:=DataW.trod_struct underlying75 h;rw[show prog.cellsOf 75=3 by kernel_rfl]at A
 match cs,A,xs,yU with
 | [c0,c1,c2],_,[y0,y1,y2],_=>
  have G:=C 0 _ rfl;have h1:=C 1 _ rfl;have h2:=C 2 _ rfl;simp only[show prog.cellsOf 9=1 by kernel_rfl,show prog.cellsOf 3=1 by kernel_rfl,List.drop,List.take,AnD,AnV]at G h1 h2;obtain⟨z,e0,_⟩:=DataW.trod_int underlying3 G;obtain⟨a,e1,_⟩:=DataW.trod_string underlying9 h1;obtain⟨b,e2,_⟩:=DataW.trod_string underlying9 h2;cases e0;cases e1;cases e2;exact⟨⟨z,a,b⟩,rfl,trivial,JJ _⟩
def oH {α:Type}(I:α->Prop)(xs:List α):Prop:=(∀x∈xs,I x)/\xs.length<=1048576
theorem AOn:HK 47 (ESc 2 A9) (oH λ_=>True) (λ_=>1):=HK.len (s:=2) underlying47 (by kernel_rfl) (by decide) AOl
theorem AOo:HK 49 (ESc 2 Ff) (oH λp=>0<=p.2/\p.2<18446744073709551616) (λ_=>1):=HK.len (s:=2) underlying49 (by kernel_rfl) (by decide) AOk
theorem AOp:HK 41 (ESc 3 KH) (oH λ_=>True) (λ_=>1):=HK.len (s:=3) underlying41 (by kernel_rfl) (by decide) AOm
theorem AOq:HK 42 (ESc 1 AHh) (oH λs=>s.size<=1048576) (λ_=>1):=HK.len (s:=1) underlying42 (by kernel_rfl) (by decide) (HK.one (HK.str underlying9))
theorem AYF {Z:Hp}:∀{cs:List Value} {xs:List ByteArray},Ch 1 AHh Z cs xs->cs=xs.map .string:=by
 rintro cs xs ⟨h1,G⟩
 refine Ani λi=>?_;rw[Am8];cases C:xs[i]? with
 | none=>
  have:=AoB.1 C;simp only[Option.map_none];exact AoB.2 (by omega)
 | some x=>
  have:=G i x C;simp only[AHh]at this;have A:=Amz (·[0]?) this;simp at A;simpa using A
theorem AOr:HK 51 Cd (λs=>s.ls.length<=1048576/\s.ps.length<=1048576/\∀p∈s.ps,0<=p.2/\p.2<18446744073709551616) (λ_=>1):=by
 intro H enc w base sp held fuel cs x h hw;obtain⟨xs,n,_,rfl,A,yU,hg⟩:=DataW.trod_struct underlying51 h;rw[show prog.cellsOf 51=2 by kernel_rfl]at A
 match cs,A,xs,yU with
 | [c0,c1],_,[y0,y1],_=>
  have G:=hg 0 _ rfl;have h1:=hg 1 _ rfl;simp only[show prog.cellsOf 47=1 by kernel_rfl,show prog.cellsOf 49=1 by kernel_rfl,List.drop,List.take,AnD,AnV]at G h1;obtain⟨ls,⟨p,k,c,e0,hc0,r0⟩,⟨_,l0⟩,_⟩:=AOn G (UR hw (by simp));obtain⟨ps,⟨q,m,d,e1,C,r1⟩,⟨i1,l1⟩,_⟩:=AOo h1 (UR hw (by simp));cases e0;cases e1;exact⟨⟨ls,ps⟩,⟨p,k,c,q,m,d,rfl,r0,r1,C⟩,⟨l0,l1,i1⟩,JJ _⟩
theorem AOs:HK 44 IQ (λx=>x.text.size<=1048576/\x.mt.length<=1048576/\x.names.length<=1048576) (λ_=>1):=by
 intro H enc w base sp held fuel cs x h hw;obtain⟨xs,n,_,rfl,C,yU,A⟩:=DataW.trod_struct underlying44 h;rw[show prog.cellsOf 44=10 by kernel_rfl]at C
 match cs,C,xs,yU with
 | [c0,c1,c2,c3,c4,c5,c6,c7,c8,c9],_,[y0,y1,y2,y3,y4,y5,y6,y7,y8,y9],_=>
  have h0:=A 0 _ rfl;have h1:=A 1 _ rfl;have h2:=A 2 _ rfl;have h3:=A 3 _ rfl;have h4:=A 4 _ rfl;have h5:=A 5 _ rfl;have h6:=A 6 _ rfl;have h7:=A 7 _ rfl;have h8:=A 8 _ rfl;have h9:=A 9 _ rfl;simp only[show prog.cellsOf 3=1 by kernel_rfl,show prog.cellsOf 9=1 by kernel_rfl,show prog.cellsOf 41=1 by kernel_rfl,show prog.cellsOf 2=1 by kernel_rfl,show prog.cellsOf 42=1 by kernel_rfl,show prog.cellsOf 4=1 by kernel_rfl,List.drop,List.take,AnD,AnV]at h0 h1 h2 h3 h4 h5 h6 h7 h8 h9;obtain⟨a0,e0,_,_⟩:=DataW.trod_int underlying3 h0;obtain⟨a1,e1,_,_⟩:=DataW.trod_int underlying3 h1;obtain⟨a2,G,i2,_⟩:=HK.str underlying9 h2 (UR hw (by simp));obtain⟨a3,⟨p,k,c,e3,_,r3⟩,⟨_,l3⟩,_⟩:=AOp h3 (UR hw (by simp));obtain⟨a4,e4,_,_⟩:=DataW.trod_int underlying2 h4;obtain⟨a5,e5,_,_⟩:=DataW.trod_int underlying2 h5;obtain⟨a6,e6,_,_⟩:=DataW.trod_int underlying3 h6;obtain⟨a7,⟨q,m,d,e7,_,r7⟩,⟨_,l7⟩,_⟩:=AOq h7 (UR hw (by simp));obtain⟨a8,e8,_⟩:=DataW.trod_bool underlying4 h8;obtain⟨a9,e9,_,_⟩:=DataW.trod_int underlying3 h9;have G:[c2]=[.string a2]:=G;cases e0;cases e1;cases G;cases e3;cases e4;cases e5;cases e6;cases e7;cases e8;cases e9;obtain⟨_,cs,g1,g2⟩:=r7;rw[AYF g2]at g1;exact⟨⟨a0,a1,a2,a3,a4,a5,a6,a7,a8,a9⟩,⟨p,k,c,q,m,d,rfl,r3,g1⟩,⟨i2,l3,l7⟩,JJ _⟩
section
variable {H:Type}{enc:TypeId×Value->H}{W:World}{base:Nat}{v v':Value}{d d':DataW H}{ps ps':List MemPlace}{r:Reach}
theorem AD9 (hv:Value.okWide prog W r base 22 v)(h:DataW.Trod enc prog W 0 (λ_=>true) true 22 v d ps)(hw:Rows.uptoBulk d<=1048576):∃p n c T,v=.slice p n c/\AT 10 IQ (full W) p n T/\oH (λx:Nd=>x.text.size<=1048576/\x.mt.length<=1048576/\x.names.length<=1048576) T:=by
 obtain⟨a,l,c,rfl⟩:=okWide_slice underlying22 hv;obtain⟨fuel,G⟩:=h;obtain⟨xs,⟨p,n,c',e,_,hr⟩,C,_⟩:=HK.len (s:=10) underlying22 (by kernel_rfl) (by decide) AOs G hw;have A:[Value.slice a l c]=[.slice p n c']:=by simpa[Value.cells] using e
 cases A;exact⟨a,l,c,xs,rfl,hr,C⟩
theorem AEA (hv:Value.okWide prog W r base 23 v)(h:DataW.Trod enc prog W 0 (λ_=>true) true 23 v d ps)(hw:Rows.uptoBulk d<=1048576):∃p n c ss,v=.slice p n c/\AT 2 Cd (full W) p n ss/\oH (λs:Sr=>s.ls.length<=1048576/\s.ps.length<=1048576/\∀p∈s.ps,0<=p.2/\p.2<18446744073709551616) ss:=by
 obtain⟨a,l,c,rfl⟩:=okWide_slice underlying23 hv;obtain⟨fuel,G⟩:=h;obtain⟨xs,⟨p,n,c',e,_,hr⟩,C,_⟩:=HK.len (s:=2) underlying23 (by kernel_rfl) (by decide) AOr G hw;have A:[Value.slice a l c]=[.slice p n c']:=by simpa[Value.cells] using e
 cases A;exact⟨a,l,c,xs,rfl,hr,C⟩
end
theorem AOt {f:FuncId}{fn:Func}{s:ChangeSpec}{H:Type}{enc:TypeId×Value->H}{W:World}{args:Array Value}{ds gs:List (DataW H)}{A:List MemPlace}(hr:(fn.params.toList.all λt=>prog.readableRec t&&Nat.blt t prog.types.size)=true)
  (C:fn.resultTypes=#[4]) (hv:s.vars=[]) (XE:(s.fn H (ds++gs)).results=[.lit (.bool true)]/\(s.fn H (ds++gs)).args=ds/\(s.fn H (ds++gs)).vars=[])
  (hW:DataW.Whole enc prog fn.params.toList s.vars false W args.toList ds gs A) (h:Lawful prog f args W) :
  Calls prog f args W λe G=>∃v,e=.returned v/\s.post enc prog fn false true false false W args v G:=
 h.calls.mono λe G ⟨he,hb⟩=>⟨_,he,zC laidOut hr C underlying4 hv XE hW hb⟩
end TwW.Rw
end
