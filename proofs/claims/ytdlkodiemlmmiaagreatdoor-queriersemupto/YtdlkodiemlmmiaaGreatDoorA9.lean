/-
  Part 9 of the proof that the law QuerierSemUptoCardSaid of the given program answers true for every input of the given statement; the input reads behind the call as it did. (The texts: packed from 8 texts. Names are shortened by the packing program, for the bound on size.)
-/
import Derived.Test.YtdlkodiemlmmiaaGreatDoorA8
set_option linter.all false
section
namespace TwW
open Go Tw Go.RowKit Go.Proofs.Tryz
theorem AGR (w:List UInt8):(bA w).size=w.length:=by simp[bA,ByteArray.size]
theorem AGS:∀(n:Nat) (l a:List UInt8) (x:List UInt8×List UInt8),l.length<=n->IA l a=some x->x.1.length+x.2.length<=a.length+l.length:=by
 intro n
 induction n with
 | zero=>
  intro l a x G h;cases l with
  | nil=>rw[IA.eq_def]at h;cases h
  | cons c l=>rw[Aix]at G;omega
 | succ n ih=>
  intro l a x G h;cases l with
  | nil=>rw[IA.eq_def]at h;cases h
  | cons c l=>
   rw[Aix]at G;rw[IA.eq_def]at h;dsimp only at h;split at h
   .cases h
   split at h
   .cases h;simp
   split at h
   .cases l with
    | nil=>cases h
    | cons u l'=>
     rw[Aix]at G;dsimp only at h;split at h
     .have:=ih _ _ _ (by omega) h;simp only[Ai5,Aix,Ajw]at this ⊢;omega
     split at h
     .have:=ih _ _ _ (by omega) h;simp only[Ai5,Aix,Ajw]at this ⊢;omega
     .cases h
   .have:=ih _ _ _ (by omega) h;simp only[Ai5,Aix,Ajw]at this ⊢;omega
theorem xC {t c:Cl}{x:Int×List Cl}(h:c∈(JC t x).2):c=t\/c∈x.2:=by
 unfold JC at h;split at h
 .exact Ai1.1 h
 .cases h
theorem AGT:∀(f:Nat) (l:List UInt8),∀c∈(G2 f l).2,c.text.size<=l.length:=by
 intro f
 induction f with
 | zero=>intro l c G;cases G
 | succ f ih=>
  intro l c G;cases l with
  | nil=>rw[G2]at G;rw[Ai2.1 G];exact Ai7 _
  | cons u l=>
   have d1:(l.dropWhile DA).length<=l.length:=(AkX _).length_le;have d2:(l.dropWhile JA).length<=l.length:=(AkX _).length_le;have d3:(l.takeWhile DA).length<=l.length:=(Akq _).length_le;have d4:(l.takeWhile JA).length<=l.length:=(Akq _).length_le;have go:∀(r:List UInt8) (k v:Int) (w:List UInt8),r.length<=l.length+1->w.length<=l.length+1->c∈(JC (Ui k (bA w) v) (G2 f r)).2->c.text.size<=(u::l).length:=λr k v w hr hw hm=>by
    rw[Aix];rcases xC hm with rfl|hm
    .show(bA w).size<=_
     rw[AGR];exact hw
    .have:=ih r c hm;omega
   rw[G2]at G;split at G
   .have:=ih l c G;rw[Aix];omega
   split at G
   .split at G
    .exact go _ _ _ _ (by omega) (by rw[Aix];omega) G
    split at G
    .exact go _ _ _ _ (by omega) (by rw[Aix];omega) G
    .cases G
   split at G
   .exact go _ _ _ _ (by omega) (by rw[Aix];omega) G
   split at G
   .split at G
    .rename_i a r ht;have:=AGS _ _ _ _ (Ai7 _) ht;simp at this;exact go _ _ _ _ (by omega) (by omega) G
    .cases G
   split at G
   .exact go _ _ _ _ (by rw[AjN];omega) (by rw[Aix,AjJ];omega) G
   split at G
   .exact go _ _ _ _ (by omega) (by simp) G
   .cases G
theorem dg {s:ByteArray}(h:(CN s).1=0):∀x∈(CN s).2,x.text.size<=4611686018427387904:=λx hx=>by
 rcases(PY h).2 x hx with h1|⟨c,hc,h1⟩
 .rw[h1];exact AjB _
 .rw[h1];unfold Y7 at hc;split at hc
  .cases hc
  .have:=AGT _ _ c hc;have G:s.data.toList.length=s.size:=Ajd (xs:=s.data);omega
section
variable {Z2 ρ M:Hp}{R:Rr}
theorem Y8 {t:Int}(h:R (.returned (.bool (decide (-1099511627776<=t)&&decide (t<=1099511627776)))) Z2):Spec prog 25 #[.I t] Z2 R:=
 Ld.start ⟨λG=>by rw[AjC G,AkE]at h;exact h,λhh=>by rw[AjE hh,Aj8]at h;exact h⟩
theorem qY {T:List Nd}{t:Int}{p pt:Option Addr}{n c nt ct b m fm:Nat}{e rf w:Int}{ms:List Mem}(hr:RdM ρ p n ms)(hid:∀(i:Nat) (x:Mem),ms[i]?=some x->x.id=i)(uc:1<=rf/\rf<=5)(hw:IntKind.i64.wrap (Int.tdiv (rf-1) 2)=w)(hw2:0<=w/\w<=2)(hn:n<=1000)(G:b≠m)(mW:b≠fm)(hmf:m≠fm)(rT:Af 10 H8 ρ pt nt T)(tr:TrQ T t)
  (hR:∀M',QV ⟨T,t,PT n w,false,0,0,[],G1 n λ_=>0,[],[]⟩ ρ M' b m fm->R (.T #[.pointer (aD b 0),.I 0]) (ρ.or M')) :
  ∀(d k:Nat) (M:Hp),n-k=d->k<=n->Gi ρ M->M b=some (.cells (qLg pt nt ct t m 0 false 0 0 none 0 0 fm none 0 0 .nilFunc) 72 (0,0))->MZ .i64 M m (G1 k λ_=>0)->MZ .u64 M fm []->
   CM.jI R rf e p n c (aD b 0) p n c (n:Int) (k:Int) (ρ.or M):=by
 intro d
 induction d with
 | zero=>
  intro k M hd hk D hM hm hf;obtain rfl:k=n:=by omega
  have nb:ρ b=none:=D b (by rw[hM];simp);refine CM.VY ⟨λhh=>by omega,λ_=>⟨by unfold AL;omega,by decide,λx hx=>⟨by rw[hx,hw];unfold AL;omega,b,0,rfl,?_⟩⟩⟩;rw[hx,hw];refine AI.wX AB8 (Ba D hM) rfl rfl rfl AIR ?_;rw[Bf nb];have D3:=IU (o:=.cells (qLg pt nt ct t m (PT k w) false 0 0 none 0 0 fm none 0 0 .nilFunc) 72 (0,0)) D nb;refine AI.wX Vh (Ba D3 (Hp.AA _ _ _)) rfl rfl rfl gD ?_;rw[Bf nb,Hp.set_set];exact hR _ ⟨IU D nb,G,mW,hmf,⟨pt,nt,ct,none,0,0,none,0,0,Hp.AA _ _ _,rT,Af.nil,Af.nil,Ai7 _⟩,hm.loc (Hp.AB (AjI G)),hf.loc (Hp.AB (AjI mW)),tr,AjB _⟩
 | succ d ih=>
  intro k M hd hk D hM hm hf;have C8:k<n:=by omega
  obtain⟨x,hx⟩:=hr.ex C8;obtain⟨b1,o1,q,j,c',rfl,hl,ht⟩:=hr.at' hx;refine CM.VY ⟨λ_=>⟨b1,o1,rfl,by unfold In;omega,x.id,x.state,q,j,c',by simpa using hl.mono (Ext.DZ ρ M),λ_=>⟨b,0,rfl,some m,AJ (Ba D hM) rfl,MZ.put (H9 D hm) λo ho=>⟨AO C8 hr.big,?_⟩⟩⟩,λhh=>by omega⟩;have nm:ρ m=none:=D m hm.known;rw[Bf nm];have:=ih (k+1) (M.set m o) (by omega) (by omega) (IU D nm) ((Hp.AB G).trans hM) (by
   have:=ho (M.set m o) (Hp.AA _ _ _);rw[hid k x hx]at this;rw[<-Sn (f:=λ_=>0)];exact this) (hf.loc (Hp.AB (AjI hmf)))
  rw[show((k+1:Nat):Int)=(k:Int)+1 by omega]at this;exact this
theorem qZ {s:ByteArray}{t:Int}{p:Option Addr}{n c:Nat}{e rf w:Int}{ms:List Mem}(hr:RdM Z2 p n ms)(hs:fx ms)(AW:OkR ms)(hid:∀(i:Nat) (x:Mem),ms[i]?=some x->x.id=i)(uc:1<=rf/\rf<=5)(hw:IntKind.i64.wrap (Int.tdiv (rf-1) 2)=w)(hw2:0<=w/\w<=2)(hn:n<=1000)
  (hE:Ss s t≠0->∀Z',Ext Z2 Z'->R (.T #[.pointer none,.I (Ss s t)]) Z')
  (hR:Ss s t=0->∀ρ' M' b m fm,QV ⟨(CN s).2,t,PT n w,false,0,0,[],G1 n λ_=>0,[],[]⟩ ρ' M' b m fm->Ext Z2 ρ'->R (.T #[.pointer (aD b 0),.I 0]) (ρ'.or M')) :
  Spec prog 6 #[.string s,.I t,.I t,.I 0,.agg #[.U e,.slice p n c],.I rf] Z2 R:=by
 refine CM.start λDk=>PW (λh0 Z1 p1 n1 c1 D7 BS=>⟨p1,n1,c1,0,0,rfl,λhh=>absurd rfl hh,λ_=>?_⟩) λAd a Z1 BS=>⟨none,0,0,a,_,rfl,λ_=>?_,λhh=>absurd Ad hh⟩
 rotate_left
 .have e1:Ss s t=(CN s).1:=by unfold Ss;rw[Aiy Ad]
  rw[e1]at hE;exact hE Ad Z1 BS
 have eO:Ss s t=if HT (CN s).2=none then fy (CN s).2 else if HT (CN s).2=some 3 then 220 else if t < -1099511627776\/1099511627776<t then 221 else 0:=by unfold Ss;rw[Aiw (by rw[h0];simp)]
 rw[eO]at hE hR;have JR:n1<=1000000000:=by have:=D7.1;have:=(PY h0).1;omega
 refine lL D7 JR (dg h0) (λk G hk Aw=>⟨k,0,0,rfl,λhh=>absurd rfl hh,λ_=>?_⟩) λj G hk Aw=>⟨0,j,_,rfl,λ_=>?_,λhh=>absurd (dK hk) hh⟩
 rotate_left
 .rw[Aiy hk]at hE;exact hE (dK hk) G (BS.trans Aw)
 rw[Aiw (by rw[hk];simp),hk]at hE hR;have X2:=BS.trans Aw;refine⟨λh3=>?_,λh3=>?_⟩
 .rw[Aiy (by rw[h3])]at hE;exact hE (by decide) G X2
 rw[Aiw (by simpa using h3)]at hE hR;have bad:¬(-1099511627776<=t/\t<=1099511627776)->R (.T #[.pointer none,.I 221]) G:=λhb=>by
  rw[Aiy (by omega)]at hE;exact hE (by decide) G X2
 refine Y8 ⟨_,rfl,λhf=>bad λhh=>?_,λht=>?_⟩
 .rw[AjC hh.1,AjC hh.2]at hf;cases hf
 rw[AjD,AjH,AjH]at ht;rw[Aiw (by omega)]at hR;refine Y8 ⟨_,rfl,λhf=>bad λhh=>?_,λ_=>?_⟩
 .rw[AjC hh.1,AjC hh.2]at hf;cases hf
 refine⟨λhh=>absurd hh (by decide),λ_=>⟨λhh=>absurd hh (by decide),λ_=>⟨λhh=>absurd hh (by decide),λ_=>?_⟩⟩⟩;refine PK (hr.mono QX.mono X2) hs ⟨_,rfl,λAd=>absurd (by simp[AB0,AW]) Ad,λ_=>⟨λhh=>by omega,λ_=>⟨λhh=>by omega,λ_=>?_⟩⟩⟩;refine Cy λm hm=>⟨m,rfl,Cy λfm hf=>⟨fm,rfl,λb hb=>?_⟩⟩;obtain⟨f1,f2⟩:=Hp.AM hf;obtain⟨b1,b2⟩:=Hp.AM hb;obtain⟨b3,b4⟩:=Hp.AM b2;have D0:=tT G;have e0:G=G.or oa:=(ACk G).symm;rw[e0,Bf hm,Bf f2,Bf b4];have D1:Gi G (oa.set m (.map #[] 0)):=IU D0 hm;have D2:Gi G ((oa.set m (.map #[] 0)).set fm (.map #[] 0)):=IU D1 f2;refine qY (hr.mono QX.mono X2) hid uc hw hw2 hn b3 b1 (AjI f1) (D7.mono H8.mono Aw) ⟨⟨k,hk⟩,(PY h0).1,dg h0,ht⟩ (λM' hQ=>hR rfl G M' b m fm hQ X2) n 0 _ rfl (AjB _) (IU D2 b4) (Hp.AA _ _ _) ?_ ?_
 .exact MZ.loc (MZ.fresh (Z2:=oa)) ((Hp.AB (AjI b3)).trans (Hp.AB (AjI f1)))
 .exact MZ.loc (MZ.fresh (Z2:=oa.set m (.map #[] 0))) (Hp.AB (AjI b1))
end
theorem okX:Da none [lh]=true:=by kernel_rfl
theorem psX:∀s∈[lh],aK s:=λs G=>by
 rw[Ai2]at G;subst G;exact⟨by decide,by decide⟩
theorem clX:DC (-9) Ts [lh]=[lh]:=by kernel_rfl
theorem Abs:Modest TX [lh]:=by
 refine⟨by decide,txX,by decide,λs G=>?_,λs G p hp=>?_⟩
 .rw[Ai2]at G;subst G;decide
 .rw[Ai2]at G;subst G;simp only[lh,Ai2]at hp;subst hp;decide
theorem instX:instF TX [lh] 60=(0,[⟨[(EV,sX)],5⟩]):=by kernel_rfl
section
variable {Z2:Hp}{R:Rr}
theorem l7 {p q:Option Addr}{c d:Nat}(h1:Dc .u64 Z2 p 1 [4])(h2:Dc .u64 Z2 q 1 [4])(hR:R (.B true) Z2):Spec prog 22 #[.slice p 1 c,.slice q 1 d] Z2 R:=by
 obtain⟨b,o,rfl,l1⟩:=Dc.at h1 (i:=0) (x:=4) rfl;obtain⟨b',o',rfl,l2⟩:=Dc.at h2 (i:=0) (x:=4) rfl;exact IK.start ⟨λG=>absurd rfl G,λ_=>IK.EB ⟨λ_=>⟨b,o,rfl,by decide,4,by simpa using l1,b',o',rfl,by decide,4,by simpa using l2,λG=>absurd rfl G,λ_=>⟨iK (by decide),IK.EB ⟨λG=>absurd G (by decide),λ_=>hR⟩⟩⟩,λG=>absurd (by decide) G⟩⟩
theorem AUq {b:Nat}{ρ:Hp}(h:ρ b=some (.cells #[.U 4] 27 (0,0))):Dc .u64 ρ (aD b 0) 1 [4]:=Dc.du ⟨rfl,by omega,.inr ⟨b,0,rfl,AJ h rfl,trivial⟩⟩
theorem gW:∀(Z2:Hp) (R:Rr),Gl Z2->(∀Z',Ext Z2 Z'->R (.B true) Z')->Spec prog 9 #[] Z2 R:=λZ2 R hg h=>by
 refine UC.start (Y4 λZ1 p1 c1 D7 BS=>⟨0,p1,3,c1,rfl,qQ (w:=1) D7 ACl ok3 id3 (by decide) (by decide) (by decide) (by decide) λρ2 M2 b m fm hQ2 Aw=>⟨_,_,rfl,λG=>absurd rfl G,λ_=>⟨λG=>(by cases G),λ_=>?_⟩⟩⟩);refine Lv hQ2 λρ3 B0 D3=>⟨_,_,rfl,?_⟩;have hQ3:=hQ2.up B0 D3;refine E3 D3 (dW λρ4 p4 c4 gw hc4 KB D4=>⟨_,_,_,rfl,?_⟩);have hQ4:=hQ3.up KB D4;refine dS (k:=0) hQ4 (dV (i:=0) (n:=3) (by decide)) (by decide) gw hc4 rfl okX (λs hs=>by cases hs) psX (by decide) λρ5 M5 hQ5 gn _=>⟨0,rfl,?_⟩;have hQ5:QU ⟨PT (3:Nat) 1,false,0,false,JS (G1 3 λ_=>0) ((0:Nat):Int) (0+1),[],CK [] [lh]⟩ ρ5 M5 b m fm:=hQ5;rw[lg (n:=3) (i:=0) (by decide),P4]at hQ5;have e5:QW (G1 3 (gQ (λ_=>0) 0 (0+1)))=1:=by decide
 refine Yo (one:=false) (fl:=-9) hQ5 (by decide) ⟨rfl,rfl,rfl⟩ (by decide) ⟨λ_ ρ6 hx6 D6=>⟨271,rfl,?_⟩,λTW=>absurd TW (by dsimp only;rw[e5];decide)⟩;have hQ6:=hQ5.up hx6 D6;refine dS (k:=0) (B:=[]) hQ6 (dV (i:=1) (n:=3) (by decide)) (by decide) Af.nil (Ai7 _) okX rfl psX (λs hs=>by cases hs) (by decide) λρ7 M7 hQ7 hx7 _=>⟨0,rfl,λb44 h44=>?_⟩;have hQ7:QU ⟨PT (3:Nat) 1,false,0,false,JS (G1 3 (gQ (λ_=>0) 0 (0+1))) ((1:Nat):Int) (0+1),[],CK [lh] []⟩ ρ7 M7 b m fm:=hQ7;rw[lg (n:=3) (i:=1) (by decide),dR]at hQ7;have e7:QW (G1 3 (gQ (gQ (λ_=>0) 0 (0+1)) 1 (0+1)))=2:=by decide
 obtain⟨r44,m44⟩:=or_none h44;show Spec prog _ _ _ _
 rw[Gm];have x44:=Ext.set (o:=.cells #[.U 4,.I 0,.I 60,.I 0,.N,.I 0,.I 0,.bool false,.I 0] 91 (0,0)) r44;have hQ8:=hQ7.up x44 (VN hQ7.Qt m44);refine Yo (one:=true) (fl:=-9) hQ8 (by decide) ⟨rfl,b44,0,none,0,rfl,?_⟩ (by decide) ⟨λAx=>absurd Ax (by dsimp only;rw[show QW _=2 from e7];decide),λ_ ρ9 M9 hQ9 hx9 _=>⟨0,rfl,?_⟩⟩
 .have g:=Hp.AA ρ7 b44 (.cells #[.U 4,.I 0,.I 60,.I 0,.N,.I 0,.I 0,.bool false,.I 0] 91 (0,0));exact⟨AJ g rfl,AJ g rfl,AJ g rfl,AJ g rfl,AJ g rfl,AJ g rfl,AJ g rfl,AJ g rfl,AJ g rfl,trivial⟩
 refine PL hQ9 rfl rfl (by decide) (λ_ Abw Rf L6 AUt D10 Abx _=>⟨_,_,_,rfl,?_⟩) λG=>absurd rfl G;have AUu:=hQ9.up AUt D10;refine gK AUu rfl rfl (by decide) rfl λAhk AUv D11=>⟨_,_,_,_,_,rfl,λb56 h56=>?_⟩;obtain⟨r56,m56⟩:=or_none h56;show Spec prog _ _ _ _
 rw[Gm];have x56:=Ext.set (o:=.cells #[.U 4] 27 (0,0)) r56;have Aby:=AUu.up (AUv.trans x56) (VN D11 m56);refine wh (B:=[]) Aby rfl (AUq (Hp.AA _ _ _)) (by decide) Af.nil (Ai7 _) okX rfl psX (λs hs=>by cases hs) (by decide) λAMl M13 AGW Abz _=>⟨0,rfl,?_⟩;have AGW:QU ⟨PT (3:Nat) 1,true,-9,true,G1 3 (gQ (gQ (λ_=>0) 0 (0+1)) 1 (0+1)),JS [] 4 (0+1),CK [lh] []⟩ AMl M13 b m fm:=AGW;rw[dR]at AGW;have X3:Ext Z2 ρ3:=BS.trans (Aw.trans B0);have X7:Ext Z2 ρ7:=X3.trans (KB.trans (gn.trans (hx6.trans hx7)));have X10:Ext Abw AMl:=AUv.trans (x56.trans Abz);have X13:Ext Z2 AMl:=X7.trans (x44.trans (hx9.trans (AUt.trans X10)));refine lW AGW (hg.mono X13) rfl (.inr ⟨rfl,by decide,by decide⟩) okX psX (by decide) (by show Modest TX (DC (-9) Ts [lh]);rw[clX];exact Abs) (by show(instF TX (DC (-9) Ts [lh]) 60).1=0;rw[clX,instX]) λAGX KS n14 JG AUw D14 qa=>?_;have qa:Af 2 BT (AGX.or M13) KS n14 ((instF TX (DC (-9) Ts [lh]) 60).2.map λe=>⟨e.ls,[(60,e.v)]⟩):=qa;rw[clX,instX]at qa;have qa:Af 2 BT (AGX.or M13) KS n14 [lh]:=qa;refine⟨_,_,_,_,_,rfl,λ_=>⟨λ_=>⟨λ_=>⟨λ_=>⟨λ_=>⟨λ_=>λb88 h88=>?_,λG=>absurd rfl G⟩,λG=>absurd rfl G⟩,λG=>absurd rfl G⟩,λG=>absurd rfl G⟩,λG=>absurd rfl G⟩,λG=>absurd rfl G⟩;have x88:=Ext.set (o:=.cells #[.U 4] 27 (0,0)) h88;have Y:Ext AGX ((AGX.or M13).set b88 (.cells #[.U 4] 27 (0,0))):=(Ext.DZ _ _).trans x88;refine l7 (((Abx.mono (X10.trans AUw))).mono Y) (AUq (Hp.AA _ _ _)) ⟨true,rfl,λ_=>⟨λ_=>⟨λ_=>⟨λ_=>⟨λ_=>?_,λG=>absurd rfl G⟩,λG=>absurd rfl G⟩,λG=>absurd rfl G⟩,λG=>absurd rfl G⟩,λG=>by cases G⟩;refine dW λAhq VW TM Ab0 _ AEz=>⟨_,_,_,rfl,?_⟩;obtain rfl:1=n14:=qa.1;refine Ye ((qa.mono BT.mono x88).mono BT.mono AEz) Ab0 ⟨true,rfl,h _ ?_⟩;exact X13.trans (AUw.trans (Y.trans AEz))
end
theorem tg:∀(n:Nat) (a b:List Pt),a.length+b.length<=n->∀p∈Bh a b,(∃q∈a,q.1=p.1/\(q.2=p.2\/∃r∈b,r.2=p.2))\/∃q∈b,q.1=p.1/\q.2=p.2:=by
 intro n
 induction n with
 | zero=>
  intro a b h p hp;obtain rfl:a=[]:=AjL (by omega);rw[CV]at hp;exact .inr ⟨p,hp,rfl,rfl⟩
 | succ n ih=>
  intro a b h p hp;cases a with
  | nil=>rw[CV]at hp;exact .inr ⟨p,hp,rfl,rfl⟩
  | cons x a=>
   cases b with
   | nil=>rw[Dy]at hp;exact .inl ⟨p,hp,rfl,.inl rfl⟩
   | cons y b=>
    simp only[Aix]at h;have G:∀(a' b':List Pt),(∀u∈a',u∈x::a)->(∀u∈b',u∈y::b)->((∃q∈a',q.1=p.1/\(q.2=p.2\/∃r∈b',r.2=p.2))\/∃q∈b',q.1=p.1/\q.2=p.2)->((∃q∈x::a,q.1=p.1/\(q.2=p.2\/∃r∈y::b,r.2=p.2))\/∃q∈y::b,q.1=p.1/\q.2=p.2):=λa' b' ha hb hh=>by
     rcases hh with ⟨q,h1,h2,h3⟩|⟨q,h1,h2⟩
     .exact .inl ⟨q,ha q h1,h2,h3.imp id λ⟨r,h4,h5⟩=>⟨r,hb r h4,h5⟩⟩
     .exact .inr ⟨q,hb q h1,h2⟩
    have ca:∀u∈a,u∈x::a:=λu hu=>Aiz _ hu;have cb:∀u∈b,u∈y::b:=λu hu=>Aiz _ hu;rcases AkT x.1 y.1 with Gz|Gz|Gz
    .rw[tD Gz]at hp;rcases Ai1.1 hp with rfl|hp
     .exact .inl ⟨p,AjG ..,rfl,.inl rfl⟩
     .exact G a (y::b) ca (λu hu=>hu) (ih a (y::b) (by simp only[Aix];omega) p hp)
    .rw[pY Gz]at hp;rcases Ai1.1 hp with rfl|hp
     .refine .inl ⟨x,AjG ..,rfl,?_⟩;by_cases hh:x.2<y.2
      .exact .inr ⟨y,AjG ..,by dsimp only;rw[Aiy hh]⟩
      .exact .inl (by dsimp only;rw[Aiw hh])
     .exact G a b ca cb (ih a b (by omega) p hp)
    .rw[iA Gz]at hp;rcases Ai1.1 hp with rfl|hp
     .exact .inr ⟨p,AjG ..,rfl,rfl⟩
     .exact G (x::a) b (λu hu=>hu) cb (ih (x::a) b (by simp only[Aix];omega) p hp)
theorem AGY:∀(n:Nat) (a b:List Pt),a.length+b.length<=n->a.Pairwise ltP->b.Pairwise ltP->(Bh a b).Pairwise ltP:=by
 intro n
 induction n with
 | zero=>
  intro a b h _ hb;obtain rfl:a=[]:=AjL (by omega);rw[CV];exact hb
 | succ n ih=>
  intro a b h ha hb;cases a with
  | nil=>rw[CV];exact hb
  | cons x a=>
   cases b with
   | nil=>rw[Dy];exact ha
   | cons y b=>
    simp only[Aix]at h;obtain⟨a1,a2⟩:=AjY.1 ha;obtain⟨b1,b2⟩:=AjY.1 hb;have a1:∀u∈a,x.1<u.1:=a1;have b1:∀u∈b,y.1<u.1:=b1;have low:∀(a' b':List Pt) (t:Int),(∀u∈a',t<u.1)->(∀u∈b',t<u.1)->∀p∈Bh a' b',t<p.1:=λa' b' t h1 h2 p hp=>by
     rcases tg _ a' b' (Ai7 _) p hp with ⟨q,g1,g2,_⟩|⟨q,g1,g2,_⟩
     .rw[<-g2];exact h1 q g1
     .rw[<-g2];exact h2 q g1
    rcases AkT x.1 y.1 with Gz|Gz|Gz
    .rw[tD Gz];exact AjY.2 ⟨low a (y::b) x.1 a1 λu G=>by
      rcases Ai1.1 G with rfl|G
      .exact Gz
      .have:=b1 u G;omega,ih a (y::b) (by simp only[Aix];omega) a2 hb⟩
    .rw[pY Gz];exact AjY.2 ⟨low a b x.1 a1 λu G=>by have:=b1 u G;omega,ih a b (by omega) a2 b2⟩
    .rw[iA Gz];exact AjY.2 ⟨low (x::a) b y.1 (λu G=>by
      rcases Ai1.1 G with rfl|G
      .exact Gz
      .have:=a1 u G;omega) b1,ih (x::a) b (by simp only[Aix];omega) ha b2⟩
structure Gs (k:Nat)(ss:List Sr):Prop where
 ok:Da none ss=true
 s:ss.length<=k
 ls:∀s∈ss,s.ls.length<=1000000000
 ps:∀s∈ss,s.ps.length<=k
 nn:∀s∈ss,∀p∈s.ps,0<=p.2
theorem Gs.nil:Gs 0 []:=⟨rfl,Ai7 _,λs G=>(by cases G),λs G=>(by cases G),λs G=>(by cases G)⟩
theorem Gs.srt {k:Nat}{ss:List Sr}(h:Gs k ss):ss.Pairwise PN:=(Tq h.ok).2
theorem Gs.psk {k:Nat}{ss:List Sr}(h:Gs k ss)(hk:k<=100000000):∀s∈ss,aK s:=λs G=>⟨h.ls s G,by have:=h.ps s G;omega⟩
theorem Gs.two {i j:Nat}{a b:List Sr}(G:Gs i a)(hb:Gs j b):Gs (i+j) (CK a b):=by
 refine⟨ACA (λs hs=>?_) (Eu _ _ G.srt hb.srt) (λk hk=>by cases hk),Aj3 (PO a b) (by have:=G.s;have:=hb.s;omega),λs hs=>?_,λs hs=>?_,λs hs p hp=>?_⟩
 .rcases FU a b s hs with h|h|⟨x,hx,y,hy,rfl,e⟩
  .exact I5 G.ok s h
  .exact I5 hb.ok s h
  .have h1:=I5 G.ok x hx;have h2:=I5 hb.ok y hy;refine⟨h1.1,ALu (λe0=>?_) (AGY _ _ _ (Ai7 _) (pX h1.2).2 (pX h2.2).2)⟩;have:=Sj x.ps y.ps;dsimp only at e0;rw[e0]at this;exact(pX h1.2).1 (AjL (by simpa using this))
 .rcases FU a b s hs with h|h|⟨x,hx,y,hy,rfl,e⟩
  .exact G.ls s h
  .exact hb.ls s h
  .exact G.ls x hx
 .rcases FU a b s hs with h|h|⟨x,hx,y,hy,rfl,e⟩
  .have:=G.ps s h;omega
  .have:=hb.ps s h;omega
  .have h1:=G.ps x hx;have h2:=hb.ps y hy;have:=PM x.ps y.ps;dsimp only;omega
 .rcases FU a b s hs with h|h|⟨x,hx,y,hy,rfl,e⟩
  .exact G.nn s h p hp
  .exact hb.nn s h p hp
  .rcases tg _ x.ps y.ps (Ai7 _) p hp with ⟨q,g1,g2,g3|⟨r,g3,g4⟩⟩|⟨q,g1,g2,g3⟩
   .rw[<-g3];exact G.nn x hx q g1
   .rw[<-g4];exact hb.nn y hy r g3
   .rw[<-g3];exact hb.nn y hy q g1
theorem Gs.mod {k:Nat}{ss:List Sr}{T:List Nd}{t fl z:Int}(h:Gs k ss)(hk:k<=10000000)(ht:TrQ T t):Modest T (DC fl z ss):=by
 have mem:∀s∈DC fl z ss,∃u∈ss,s.ps=C2 fl z u.ps:=λs G=>by
  unfold DC at G;obtain⟨u,hu,rfl⟩:=Ajf.1 (AkU.1 G).1;exact⟨u,hu,rfl⟩
 refine⟨Aj3 ht.tl (by decide),ht.tx,?_,λs G=>?_,λs G p hp=>?_⟩
 .unfold DC;refine Aj3 (Ajb _ _) ?_;rw[Ajn];have:=h.s;omega
 .obtain⟨u,hu,e⟩:=mem s G;rw[e];refine Aj3 (Ajb _ _) ?_;have:=h.ps u hu;omega
 .obtain⟨u,hu,e⟩:=mem s G;rw[e]at hp;exact h.nn u hu p (AkU.1 hp).1
structure PQ2 (Q Q':Qg)(ρ M:Hp)(b m f b' m' f':Nat):Prop where
 l:QV Q ρ M b m f
 r:QV Q' ρ M b' m' f'
 d:(b≠b'/\b≠m'/\b≠f')/\(m≠b'/\m≠m'/\m≠f')/\f≠b'/\f≠m'/\f≠f'
section
variable {Q Q' Q1:Qg}{ρ ρ' M M':Hp}{b m f b' m' f':Nat}
end
section
variable {Z2 ρ M:Hp}{R:Rr}{s:ByteArray}{t S2 fl:Int}{A B C:List Sr}{es:List En}{pa pb pc pi:Option Addr}{na ca nb cb nc cc ni ci:Nat}{b m f b' m' f':Nat}{kA kB kC:Nat}
abbrev qOf (s:ByteArray)(t:Int)(rd:Bool)(S2 fl:Int)(es:List En)(mem mP:List (Int×Int))(all:List Sr):Qg:=⟨(CN s).2,t,PT (3:Nat) 1,rd,S2,fl,es,mem,mP,all⟩
structure Bdq (k:Nat)(ss:List Sr):Prop where
 s:ss.length<=k
 ls:∀s∈ss,s.ls.length<=1000000000
 ps:∀s∈ss,s.ps.length<=k
 nn:∀s∈ss,∀p∈s.ps,0<=p.2
theorem Bdq.gs {k:Nat}{ss:List Sr}(h:Bdq k ss)(G:Da none ss=true):Gs k ss:=⟨G,h.s,h.ls,h.ps,h.nn⟩
end
end TwW
end
section
namespace TwW.Rw
open Go Tw TwW Go.RowKit Go.ChangeShapes Go.WideShapes Go.ChangeAt Go.Deep Go.Proofs.Tryz Go.Proofs.YtdlkodiemlmmiaaGreatDoor
set_option maxRecDepth 100000
set_option linter.unusedSimpArgs false
section
variable {H:Type}{enc:TypeId×Value->H}{W:World}{base:Nat}{v:Value}{d:DataW H}{ps:List MemPlace}{r:Reach}
theorem Y9 (hv:Value.okWide prog W r base 22 v)(h:DataW.Trod enc prog W 0 (λ_=>true) true 22 v d ps)(hw:Rows.uptoBulk d<=1048576):∃p n c ss,v=.slice p n c/\Af 2 BT (full W) p n ss/\n<=c/\Bdq 1100000 ss:=by
 obtain⟨a,l,c,rfl⟩:=okWide_slice underlying22 hv;obtain⟨fuel,hf⟩:=h;obtain⟨xs,⟨p,n,c',e,hc,hr⟩,⟨hI,hl⟩,_⟩:=RW.len (s:=2) underlying22 (by kernel_rfl) (by decide) ALl hf hw;have e':[Value.slice a l c]=[.slice p n c']:=by simpa[Value.cells] using e
 cases e';exact⟨a,l,c,xs,rfl,hr,hc,⟨by omega,λs G=>by have:=(hI s G).1;omega,λs G=>by have:=(hI s G).2.1;omega,λs G p hp=>((hI s G).2.2 p hp).1⟩⟩
end
end TwW.Rw
end
section
namespace TwW
open Go Tw Go.RowKit Go.Proofs.Tryz
section
variable {Z2:Hp}{R:Rr}
theorem Qz {p:Option Addr}{n c:Nat}{lo hi:Int}{ss:List Sr}(hr:Af 2 BT Z2 p n ss)(hn:n<=2900000000000)(hS:∀s∈ss,aK s)
  (h:∀p' n' c' Z',Af 2 BT Z' p' n' (DC lo hi ss)->Ext Z2 Z'->R (.returned (.slice p' n' c')) Z'):Spec prog 16 #[.slice p n c,.N,.I lo,.I hi] Z2 R:=by
 refine BP.start ?_
 suffices H:∀(g i:Nat) (O22:Hp) (p9:Option Addr) (n9 c9:Nat),n-i=g->i<=n->n9<=i->AN 2 BT Z2 O22 p9 n9 c9 (DC lo hi (ss.take i))->BP.CA R p n c none 0 0 lo hi p9 n9 c9 (i:Int) O22 from H n 0 Z2 none 0 0 rfl (AjB _) (Ai7 _) (AN.nil (.refl _))
 intro g
 induction g with
 | zero=>
  intro i O22 p9 n9 c9 hg hib h9 ho;rw[Ai4 (by have:=hr.1;omega)]at ho;exact BP.A1 ⟨λG=>by omega,λ_=>h p9 n9 c9 O22 (ho.rd BT.mono) ho.up⟩
 | succ g ih=>
  intro i O22 p9 n9 c9 hg hib h9 ho;have CF:i<n:=by omega
  obtain⟨s,hs⟩:=hr.ex CF;obtain⟨b,o,p1,n1,c1,q1,m1,d1,rfl,DD,h1,h2,h3⟩:=BT.at hr hs;obtain⟨z1,z2⟩:=hS s (Ai6 hs);have JR:s.ls.length=n1:=h1.1;have hm1:s.ps.length=m1:=h2.1;have hup:=ho.up;have step:DC lo hi (ss.take (i+1))=DC lo hi (ss.take i)++[Sr.mk s.ls (C2 lo hi s.ps)].filter λs=>decide (s.ps≠[]):=by
   unfold DC;rw[AR hs,AjP,Ajy];rfl
  have next:∀(ρ:Hp) (p':Option Addr) (n' c':Nat),n'<=i+1->AN 2 BT Z2 ρ p' n' c' (DC lo hi (ss.take (i+1)))->BP.RJ R (aD b o) n c none 0 0 lo hi p' n' c' (i:Int) ρ:=λρ p' n' c' h' Di=>by
   have:=ih (i+1) ρ p' n' c' (by omega) (by omega) h' Di;rw[show((i+1:Nat):Int)=(i:Int)+1 by omega]at this;exact BP.Pp ⟨AO CF hr.big,this⟩
  refine BP.A1 ⟨λ_=>⟨b,o,rfl,by unfold In;omega,p1,n1,c1,by simpa using(DD.mono hup).1,TN.start (TN.A9 ⟨λG=>absurd G (by decide),λ_=>⟨true,rfl,λG=>(by cases G),λ_ rm h28=>?_⟩⟩)⟩,λG=>by omega⟩;have Me:=Ext.set (o:=.cells #[] 144 (0,0)) h28;refine⟨by unfold In;omega,p1,n1,c1,by simpa using((DD.mono hup).mono Me).1,Fy (h1.mono CW.mono hup) (by omega) (λp4 c4 O2 Iy x2=>⟨_,_,_,rfl,λ_=>?_⟩) h28⟩;have AUy:=hup.trans x2;have Bq:=ho.mono BT.mono x2
  suffices loop:∀(g k:Nat) (ρ:Hp) (pp:Option Addr) (kk cc:Nat),m1-k=g->k<=m1->kk<=k->AN 2 C9 O2 ρ pp kk cc (C2 lo hi (s.ps.take k))->BP.Ed R (aD b o) n c none 0 0 lo hi p9 n9 c9 (i:Int) p4 n1 c4 pp kk cc (k:Int) ρ from loop m1 0 O2 none 0 0 rfl (AjB _) (Ai7 _) (AN.nil (.refl _))
  intro g
  induction g with
  | zero=>
   intro k ρ pp kk cc hgk hk hkk Ht;rw[Ai4 (by omega)]at Ht;have AC0:=AUy.trans Ht.up;have hlen:(C2 lo hi s.ps).length=kk:=Ht.1.1;refine BP.LF ⟨b,o,rfl,by unfold In;omega,q1,m1,d1,by simpa using(DD.mono AC0).2.1,λG=>by omega,λ_=>⟨λHu=>λb76 h76=>?_,λhz=>?_⟩⟩
   .have Ad:C2 lo hi s.ps≠[]:=λe=>by rw[e]at hlen;have:0=kk:=hlen;omega
    have Dh:=Bq.mono BT.mono Ht.up;have eN:=Bq.new Ht.up;have eT:=ho.new (x2.trans Ht.up);have Tm:kk<=cc:=by obtain⟨cs,Qr,_⟩:=Ht.1.2;exact BH.cap Qr
    have rl:Gy (ρ.del p9) p4 n1 s.ls:=(Iy.rd CW.mono).mono CW.mono ((Ext.Ha Ht.up).trans eT);have rp:Af 2 C9 (ρ.del p9) pp kk (C2 lo hi s.ps):=(AN.Vi (λ_ _ _ _ h=>h) Ht).mono C9.mono eN;have he:BT (ρ.del p9) [.slice p4 n1 c4,.slice pp kk cc] ⟨s.ls,C2 lo hi s.ps⟩:=⟨p4,n1,c4,pp,kk,cc,rfl,rl,rp,Tm⟩;refine AN.Ey BT.mono Dh rfl (BT.one _ _ _ he) he (by omega) (λp' c' ρ' Di _=>⟨_,_,_,rfl,next ρ' p' (n9+1) c' (by omega) ?_⟩) h76;rw[step,Aj5 (by simpa using Ad),Akc];exact Di
   .have he:C2 lo hi s.ps=[]:=AjL (by omega);refine next ρ p9 n9 c9 (by omega) ?_
    rw[step,Aj6 (by simpa using he),Akc,Aj1];exact Bq.mono BT.mono Ht.up
  | succ g ihp=>
   intro k ρ pp kk cc hgk hk hkk Ht;have C8:k<m1:=by omega
   obtain⟨x,hx⟩:=h2.ex C8;obtain⟨b2,o2,hq,fX⟩:=C9.at h2 hx;have AC0:=AUy.trans Ht.up;have nx:∀ρ' p' k' c',k'<=k+1->AN 2 C9 O2 ρ' p' k' c' (C2 lo hi (s.ps.take (k+1)))->BP.uw R (aD b o) n c none 0 0 lo hi p9 n9 c9 (i:Int) p4 n1 c4 p' k' c' (k:Int) ρ':=λρ' p' k' c' hk2 Ab1=>by
    have:=ihp (k+1) ρ' p' k' c' (by omega) (by omega) hk2 Ab1;rw[show((k+1:Nat):Int)=(k:Int)+1 by omega]at this;exact BP.AEb ⟨by unfold AL;omega,this⟩
   have AZ:¬(lo<=x.1/\x.1<=hi)->C2 lo hi (s.ps.take (k+1))=C2 lo hi (s.ps.take k):=λG=>by
    unfold C2;rw[AR hx,Ajy,Aj6 (by simpa using G),Akc,Aj1]
   have AB3:(lo<=x.1/\x.1<=hi)->C2 lo hi (s.ps.take (k+1))=C2 lo hi (s.ps.take k)++[x]:=λG=>by
    unfold C2;rw[AR hx,Ajy,Aj5 (by simpa using G),Akc]
   have skip:¬(lo<=x.1/\x.1<=hi)->BP.uw R (aD b o) n c none 0 0 lo hi p9 n9 c9 (i:Int) p4 n1 c4 pp kk cc (k:Int) ρ:=λG=>nx ρ pp kk cc (by omega) (by rw[AZ G];exact Ht);subst hq;refine BP.LF ⟨b,o,rfl,by unfold In;omega,_,m1,d1,by simpa using(DD.mono AC0).2.1,λ_=>⟨by unfold In;omega,_,m1,d1,by simpa using(DD.mono AC0).2.1,b2,o2,rfl,by unfold In;omega,x.1,x.2,by simpa using fX.mono AC0,λ_=>⟨λa1=>⟨λa2=>λb67 h67=>?_,λa2=>skip λG=>a2 G.2⟩,λa1=>skip λG=>a1 G.1⟩⟩,λG=>by omega⟩;refine AN.Ey (vs:=[.I x.1,.U x.2]) (x:=x) C9.mono Ht rfl (C9.one ρ _ x rfl) rfl (by omega) (λp' c' ρ' Di _=>⟨_,_,_,rfl,nx ρ' p' (kk+1) c' (by omega) ?_⟩) h67;rw[AB3 ⟨a1,a2⟩];exact Di
end
theorem AC1 {s:ByteArray}{t:Int}(h:Ss s t=0):(CN s).1=0:=by
 unfold Ss at h;by_cases G:(CN s).1≠0
 .rw[Aiy G]at h;exact absurd h G
 .exact AjZ.1 G
section
variable {Z2 ρ M:Hp}{R:Rr}{s:ByteArray}{t S2 fl:Int}{A B C:List Sr}{pa pb pc:Option Addr}{na ca nb cb nc cc:Nat}{b m f:Nat}
abbrev dh:List (Int×Int):=JS (JS (G1 3 λ_=>0) 2 (0+1)) 0 (0+1)
abbrev AIf:List (Int×Int):=JS (JS dh 1 (0+1)) 0 (1+1)
theorem xf:dh.length<=4000000:=by decide
theorem Ab2:¬((QW dh:Int)<PT (3:Nat) 1):=by decide
theorem Su {Z:Hp->Prop}{Q:Qg}{x k:Int}{p:Option Addr}{n c:Nat}{i j:Nat}(h:QV Q ρ M b m f)(hk:Gk Q.mem x=some k)(hk0:0<=k/\k<=4611686018427387903)(rB:Af 2 BT ρ p n B)(gA:Gs i Q.all)(G:Gs j B)(hi:i+j<=10000000)
  (hZ:∀ρ' M',QV { Q with mem:=JS Q.mem x (k+1),all:=CK Q.all B } ρ' M' b m f->Ext ρ ρ'->Z (ρ'.or M')) :
  Spec prog 12 #[.slice p n c] (ρ.or M) (Ab R (CS λp' n' c' y=>Spec prog 11 #[.pointer (aD b 0),.I x,.slice p' n' c'] y (Ab R (CI .i64 λ_ y=>Z y)))):=by
 refine E3 h.Qt (bD rB ⟨by have:=G.s;omega,G.ls,λs hs=>by have:=G.ps s hs;omega⟩ λp' c' ρ1 D7 hc1 BS D1=>⟨p',n,c',rfl,?_⟩);exact qR (h.up BS D1) hk hk0 D7 hc1 gA.ok G.ok (gA.psk (by omega)) (G.psk (by omega)) (by have:=gA.s;have:=G.s;omega) λρ2 M2 hQ Aw _=>⟨0,rfl,hZ ρ2 M2 hQ (BS.trans Aw)⟩
theorem xD (hg:Gl Z2)(rA:Af 2 BT Z2 pa na A)(rB:Af 2 BT Z2 pb nb B)(rC:Af 2 BT Z2 pc nc C)(hca:na<=ca)(hcb:nb<=cb)(hcc:nc<=cc)(bA:Bdq 1100000 A)(bB:Bdq 1100000 B)(bC:Bdq 1100000 C)(hR:∀Z',Ext Z2 Z'->R (.B true) Z'):
  Spec prog 3 #[.string s,.I t,.slice pa na ca,.slice pb nb cb,.slice pc nc cc,.I fl] Z2 R:=by
 refine KX.start (Y4 λZ1 p1 c1 D7 BS=>⟨0,p1,3,c1,rfl,qZ (w:=1) D7 ACl ok3 id3 (by decide) (by decide) (by decide) (by decide) (λAd Z22 Aw=>?_) λh0 ρ2 M2 b m f hQ Aw=>?_⟩)
 .have aw:∀Z3,Ext Z22 Z3->Spec prog 9 #[] Z3 (Ab R (CB λt44 Am=>R (.B t44) Am)):=λZ3 B0=>by
   have X3:=BS.trans (Aw.trans B0);exact gW _ _ (hg.mono X3) λZ5 gn=>⟨true,rfl,hR _ (X3.trans gn)⟩
  exact⟨none,_,rfl,PW (λ_ Z3 p3 n3 c3 _ B0=>⟨p3,n3,c3,0,0,rfl,λ_=>⟨λ_=>aw Z3 B0,λG=>(by cases G)⟩,λG=>absurd Ad G⟩) λ_ a Z3 B0=>⟨none,0,0,a,_,rfl,λ_=>⟨λ_=>aw Z3 B0,λG=>(by cases G)⟩,λG=>absurd Ad G⟩⟩
 have oa:=AC1 h0;refine⟨_,_,rfl,E3 hQ.Qt (PW (λ_ ρ3 p3 n3 c3 Uf B0 D3=>⟨p3,n3,c3,0,0,rfl,λG=>absurd rfl G,λ_ WX h50=>?_⟩) λAd=>absurd oa Ad)⟩;have X3:Ext Z2 ρ3:=BS.trans (Aw.trans B0);have awk:∀(ρ:Hp) (N:Hp),Ext Z2 ρ->Gi ρ N->Spec prog 9 #[] (ρ.or N) (Ab R (CB λt y=>R (.B t) y)):=λρ N hx hd=>E3 hd (gW _ _ (hg.mono hx) λρ' QO hd'=>⟨true,rfl,hR _ (hx.trans (QO.trans (Ext.DZ _ _)))⟩);obtain⟨r50,m50⟩:=or_none h50;dsimp only;rw[Gm];have x50:=Ext.set (o:=.cells #[.slice pa na ca,.slice pb nb cb,.slice pc nc cc] 22 (0,0)) r50;have three:∀{P:List Sr->Prop},P A->P B->P C->∀X∈[A,B,C],P X:=λh1 h2 h4 X hX=>by
  simp only[Ai1,AjK,Ajl]at hX;rcases hX with rfl|rfl|rfl
  .exact h1
  .exact h2
  .exact h4
 have psk:∀{ss:List Sr},Bdq 1100000 ss->∀s∈ss,aK s:=λh s hs=>⟨h.ls s hs,by have:=h.ps s hs;omega⟩;have X50:=X3.trans x50;refine E3 (VN D3 m50) (Uk (Xs:=[A,B,C]) (lU (cs:=[.slice pa na ca,.slice pb nb cb,.slice pc nc cc]) (Hp.AA _ _ _) (by simp) ⟨rfl,λi X hX=>?_⟩) (by decide) (three (psk bA) (psk bB) (psk bC)) (λk ps xX=>?_) ?_ (λ_ ρ4 KB D4=>?_) λAW p4 n4 c4 ρ4 gw hc4 KB D4=>?_)
 .match i,hX with
  | 0,hX=>cases hX;exact⟨pa,na,ca,rfl,rA.mono BT.mono X50,hca⟩
  | 1,hX=>cases hX;exact⟨pb,nb,cb,rfl,rB.mono BT.mono X50,hcb⟩
  | 2,hX=>cases hX;exact⟨pc,nc,cc,rfl,rC.mono BT.mono X50,hcc⟩
 .have:=qD (K:=1100000) (three bA.ps bB.ps bC.ps) xX;have e3:[A,B,C].length=3:=rfl;rw[e3]at this;omega
 .have h1:=bA.s;have h2:=bB.s;have h4:=bC.s;simp only[AjR,Akb,Akf,Al7];omega
 .exact⟨none,0,0,100,rfl,λG=>(by cases G),λ_=>⟨λG=>absurd rfl G,λ_=>⟨λ_=>awk ρ4 M2 (X50.trans KB) D4,λG=>absurd (by decide) G⟩⟩⟩
 have X4:=X50.trans KB;have gA:=bA.gs (AW A (by simp));have gB:=bB.gs (AW B (by simp));have gC:=bC.gs (AW C (by simp));refine⟨p4,n4,c4,0,rfl,λG=>(by cases G),λ_=>⟨λG=>absurd rfl G,λ_=>⟨λG=>absurd rfl G,λ_=>⟨λ_=>awk ρ4 M2 X4 D4,λf1=>⟨λ_=>awk ρ4 M2 X4 D4,λf2=>?_⟩⟩⟩⟩⟩;have hQ4:QV (qOf s t false 0 0 [] (G1 3 λ_=>0) [] []) ρ4 M2 b m f:=hQ.up (B0.trans (x50.trans KB)) D4;have Uf:=Uf.mono H8.mono (x50.trans KB);rw[<-ALz gA.srt gB.srt gC.srt]at gw;have g1:=Gs.nil.two gC;have g2:=g1.two gA;have g3:=g2.two gB;have g4:=g3.two gA;have rA4:=rA.mono BT.mono X4;have rB4:=rB.mono BT.mono X4;have rC4:=rC.mono BT.mono X4;have hg4:=hg.mono X4;have hR4:∀Z',Ext ρ4 Z'->R (.B true) Z':=λZ' hx=>hR Z' (X4.trans hx);clear hQ D3 D4 D7 X3 X50 x50 KB B0 Aw BS rA rB rC hg awk AW;refine Su (k:=0) hQ4 rfl (by decide) rC4 Gs.nil gC (by decide) λρ5 M5 hQ5 gn=>?_;have hQ5:QV (qOf s t false 0 0 [] (JS (G1 3 λ_=>0) 2 (0+1)) [] (CK [] C)) ρ5 M5 b m f:=hQ5;refine Su (k:=0) hQ5 rfl (by decide) (rA4.mono BT.mono gn) g1 gA (by decide) λρ6 M6 hQ6 hx6=>?_;have hQ6:QV (qOf s t false 0 0 [] dh [] (CK (CK [] C) A)) ρ6 M6 b m f:=hQ6;have X6:=gn.trans hx6;have hix:I7 fl []=true:=by
  unfold I7;rw[AjC (by omega:-1099511627776<=fl),AjC (by omega:fl<=1099511627776)];rfl
 refine qX (es:=[]) hQ6 Af.nil (by decide) xf ⟨λhb=>(by rw[hix]at hb;cases hb),λ_ Ax=>absurd Ax Ab2,λ_ _ ρ7 M7 hQ7 hx7 _=>⟨0,rfl,λG=>absurd rfl G,λ_=>?_⟩⟩;have hQ7:QV (qOf s t true 0 fl [] dh [] (CK (CK [] C) A)) ρ7 M7 b m f:=hQ7;have X7:=X6.trans hx7;refine Su (k:=0) hQ7 rfl (by decide) (rB4.mono BT.mono X7) g2 gB (by decide) λρ8 M8 hQ8 hx8=>?_;have hQ8:QV (qOf s t true 0 fl [] (JS dh 1 (0+1)) [] (CK (CK (CK [] C) A) B)) ρ8 M8 b m f:=hQ8;have X8:=X7.trans hx8;refine Su (k:=1) hQ8 rfl (by decide) (rA4.mono BT.mono X8) g3 gA (by decide) λρ9 M9 hQ9 hx9=>?_;have X9:=X8.trans hx9;generalize Kr:CK (CK (CK (CK [] C) A) B) A=all at *;have hQ9:QV (qOf s t true 0 fl [] AIf [] all) ρ9 M9 b m f:=hQ9;have VC:=g4.mod (fl:=fl) (z:=Ts) (by decide) hQ9.tr;have AGQ:Un (qOf s t true 0 fl [] AIf [] all)=[]:=by
  unfold Un;have:Kh fl []=[]:=by unfold Kh;rw[hix];rfl
  rw[this];rfl
 refine gV hQ9 (hg4.mono X9) rfl g4.ok (g4.psk (by decide)) (by have:=g4.s;dsimp only;omega) VC ⟨λAd=>absurd AGQ Ad,λ_ he ρ1 BS D1=>?_,λ_ he ρ1 p94 n94 c94 BS D1 Ab3=>?_⟩
 .have Y1:=X9.trans BS;refine⟨_,_,_,_,_,rfl,E3 D1 (Qz (gw.mono BT.mono Y1) (by have:=gw.1;have:=g4.s;omega) (g4.psk (by decide)) λp7 n7 c7 ρ2 hr7 Aw D2=>⟨_,_,_,rfl,E3 D2 (inst_spec (hg4.mono (Y1.trans Aw)) (Uf.mono H8.mono (Y1.trans Aw)) hr7 VC (λO22 p8 n8 c8 ρ3 bs h0=>absurd h0 he) λρ3 _ B0 D3=>⟨_,_,_,_,rfl,λ_=>⟨λ_=>⟨λ_=>?_,λG=>absurd rfl G⟩,λG=>absurd rfl G⟩,λG=>absurd he G⟩)⟩)⟩;have Y3:=Y1.trans (Aw.trans B0);exact E3 D3 (gW _ _ (hg4.mono Y3) λρ' QO _=>⟨true,rfl,hR4 _ (Y3.trans (QO.trans (Ext.DZ _ _)))⟩)
 .have Y1:=X9.trans BS;refine⟨_,_,_,_,_,rfl,E3 D1 (Qz (gw.mono BT.mono Y1) (by have:=gw.1;have:=g4.s;omega) (g4.psk (by decide)) λp7 n7 c7 ρ2 hr7 Aw D2=>⟨_,_,_,rfl,E3 D2 (inst_spec (hg4.mono (Y1.trans Aw)) (Uf.mono H8.mono (Y1.trans Aw)) hr7 VC (λO22 p8 n8 c8 ρ3 bs _ gL B0 D3=>⟨_,_,_,_,rfl,λG=>absurd rfl G,λ_=>⟨λ_=>⟨λ_=>?_,λG=>absurd rfl G⟩,λG=>absurd rfl G⟩⟩) λρ3 Ad=>absurd he Ad)⟩)⟩;have Y3:=Y1.trans (Aw.trans (B0.trans gL.ext));have AUz:Af 2 BT (ρ3.or M9) p94 n94 _:=Ab3.mono BT.mono (Ext.j6 ((Aw.trans (B0.trans gL.ext)).trans (Ext.DZ _ _)) (Ext.EH D3));have AU0:=gL.rd.mono BT.mono (Ext.DZ ρ3 M9);obtain rfl:=AUz.1.symm.trans AU0.1;refine Ye AUz AU0 ⟨true,rfl,λ_=>?_,λG=>by cases G⟩;exact E3 D3 (gW _ _ (hg4.mono Y3) λρ' QO _=>⟨true,rfl,hR4 _ (Y3.trans (QO.trans (Ext.DZ _ _)))⟩)
end
end TwW
end
section
namespace Go.Proofs.YtdlkodiemlmmiaaGreatDoor.querierSem
open Go Tw TwW TwW.Rw Go.ChangeShapes Go.WideShapes Go.ChangeAt Go.RowKit Go.Deep
open Go.Proofs.Tryz (f3 func3 params3)
abbrev l8:Array Value:=#[.string ⟨#[]⟩,.int .i64 0,.slice none 0 0,.slice none 0 0,.slice none 0 0,.int .i64 0]
noncomputable abbrev wW (os:Os):World:=(P2 os).forCall (λ_ _=>0) ⟨#[],l8,[]⟩
set_option maxRecDepth 1000000
theorem wHr (os:Os):((wW os).heap.toList.drop prog.globals.size).take ((begin prog (λ_ _=>0) default).world.heap.size-prog.globals.size)=(begin prog (λ_ _=>0) default).world.heap.toList.drop prog.globals.size:=by kernel_rfl
theorem Ab5 (os:Os):Input.okWideB prog (wW os) 3 ⟨#[],l8,[]⟩=true:=by kernel_rfl
theorem wHv (os:Os):(wW os).variablesRefB prog=true:=Aak os (args:=l8)
theorem reads (os:Os){H:Type}(enc:TypeId×Value->H):∃G,DataW.whole enc prog (wW os).memory f3.params.toList Rows.querierSemSpec.vars false l8.toList 8=some ([.lit (.string []),.lit (.int .i64 0),.nil,.nil,.nil,.lit (.int .i64 0)],[],G):=
 ⟨[],by kernel_rfl⟩
theorem AC2 (H:Type)(enc:TypeId×Value->H)(W:World)(base:Nat)(args:Array Value)(ds gs:List (DataW H))(G:List MemPlace)
  (qb:∀(j:Nat) t v,f3.params[j]?=some t->args[j]?=some v->Value.okWide prog W .any base t v)
  (hW:DataW.Whole enc prog f3.params.toList Rows.querierSemSpec.vars false W args.toList ds gs G) (hk:Rows.uptoBulkAll (ds++gs)<=1048576) (hL:laidMetH prog Laid W) (hsh:W.ShapedOpen prog) :
  Calls prog 3 args W λe W'=>∃v,e=.returned v/\Rows.querierSemSpec.post enc prog f3 false true false false W args v W':=by
 have hW':=hW;obtain⟨p,q,hA0,hV,rfl,hfz,Gn⟩:=hW;have hA:DataW.TrodAll enc prog W 0 (λ_=>true) true f3.params.toList args.toList ds p:=hA0;rw[params3]at hA qb;obtain⟨v0,vs0,d0,ds0,p0,q0,IB,rfl,rfl,h0,r0⟩:=trodAll_cons hA;obtain⟨v1,vs1,d1,ds1,p1,q1,rfl,rfl,rfl,h1,r1⟩:=trodAll_cons r0;obtain⟨v2,vs2,d2,ds2,p2,q2,rfl,rfl,rfl,h2,r2⟩:=trodAll_cons r1;obtain⟨v3,vs3,d3,ds3,p3,q3,rfl,rfl,rfl,h3,r3⟩:=trodAll_cons r2;obtain⟨v4,vs4,d4,ds4,p4,q4,rfl,rfl,rfl,h4,r4⟩:=trodAll_cons r3;obtain⟨v5,vs5,d5,ds5,p5,q5,rfl,rfl,rfl,h5,r5⟩:=trodAll_cons r4;obtain⟨rfl,rfl,rfl⟩:=trodAll_nil r5;obtain rfl:args=#[v0,v1,v2,v3,v4,v5]:=by cases args;simp_all
 obtain⟨rfl,rfl⟩:=trodVars_none hV;simp only[Aj1,Rows.uptoBulkAll]at hk;obtain⟨s0,rfl,rfl,rfl,w0⟩:=Go.ChangeMaps.open_string Go.Proofs.Tryz.underlying9 (qb 0 9 v0 rfl rfl) h0;obtain⟨x1,rfl,rfl,_,w1⟩:=open_int Go.Proofs.Tryz.underlying2 (qb 1 2 v1 rfl rfl) h1;obtain⟨a2,n2,c2,ss2,rfl,G0,bN,F7⟩:=Y9 (qb 2 22 v2 rfl rfl) h2 (by omega);obtain⟨a3,n3,c3,ss3,rfl,Uf,hc3,UW⟩:=Y9 (qb 3 22 v3 rfl rfl) h3 (by omega);obtain⟨a4,n4,c4,ss4,rfl,gw,hc4,hb4⟩:=Y9 (qb 4 22 v4 rfl rfl) h4 (by omega);obtain⟨x5,rfl,rfl,_,w5⟩:=open_int Go.Proofs.Tryz.underlying2 (qb 5 2 v5 rfl rfl) h5;exact ALn (by kernel_rfl) rfl rfl ⟨rfl,rfl,rfl⟩ hW' (xD (AT2 hL hsh) G0 Uf gw bN hc3 hc4 F7 UW hb4 λZ' hx=>⟨rfl,hx⟩)
theorem AMo:Go.Proofs.Tryz.checked.prog.inits.idxOf? 3=none:=by kernel_rfl
theorem witness (os:Os)(started:os.Started)(H:Type)(enc:TypeId×Value->H):∃(w:World) (G:Tape) (i:Input),w.os=os/\(w.forCall G i).Shaped Go.Proofs.Tryz.checked.prog/\i.vars=[]/\Input.okWide Go.Proofs.Tryz.checked.prog (w.forCall G i) .any w.heap.size 3 i/\
  (Rows.OpenSpec.upto Rows.querierSemSpec).preRow enc Go.Proofs.Tryz.checked.prog f3 Rows.querierSemUptoRow.domain false Rows.querierSemUptoRow.laid (w.forCall G i).memory i.args/\({}:Assume).holds Go.Proofs.Tryz.checked.prog (lone (Frame.enter Go.Proofs.Tryz.checked.prog 3 i.args .normal) [] (w.forCall G i)):=by
 obtain⟨places,hx⟩:=reads os enc;exact witness_row_atRef (enc:=enc) (C:=Go.Proofs.Tryz.checked) false (P2 os) l8 rfl (wHv os) (wHr os) (Ab5 os)
  (OpenSpec.preRow_of_cond 8 hx (by as_aux_lemma=>kernel_rfl) (λk hk=>by cases hk;as_aux_lemma=>kernel_rfl) (by as_aux_lemma=>kernel_rfl) (ABu os _))
theorem lifted (os:Os)(G:os.Started)(H:Type)(enc:TypeId×Value->H)(F:Stop.Interp):
  ReturnsInHanded {} Go.Proofs.Tryz.checked os 3 .any ((Rows.OpenSpec.upto Rows.querierSemSpec).preRow enc prog f3 Rows.querierSemUptoRow.domain false Rows.querierSemUptoRow.laid) (((Rows.OpenSpec.upto Rows.querierSemSpec).at F).post enc prog f3 false true false false):=by
 refine returnsInHanded_of_row (C:=Go.Proofs.Tryz.checked) (s:=Rows.OpenSpec.upto Rows.querierSemSpec) own G AMo func3 (witness os G H enc) ?_;intro W base args ds gs before AU1 hW _ AU2 _ hL hsh _;exact AC2 H enc W base args ds gs before AU1 hW (AjA (AU2 _ rfl)) hL hsh
end Go.Proofs.YtdlkodiemlmmiaaGreatDoor.querierSem
end
