/-
  Part 5 of the proof that the law EvalInstantsUptoCardSaid of the given program answers true for every input of the given statement; the input reads behind the call as it did. (The texts: packed from 24 texts. Names are shortened by the packing program, for the bound on size.)
-/
import Derived.Test.YtamakbhlhpaiiaaGreatDoorA4
import Ieee.Arith
import Derived.Shelf.SlSortCmp.NoneTotal
import Derived.Shelf.SlGeneric
import Derived.Ground.SlsfProg
set_option linter.all false
section
namespace TwW
open Go Tw Go.RowKit Go.Proofs.Tryz
def Ee (op:Int)(vs:List Int)(w:Int):Option Int:=
 if op=4 then some (Ti vs) else if op=5 then some (NL 4 (Ti vs) (AV vs.length)) else if op=6 then some (KW 7 vs) else if op=7 then some (KW 9 vs) else if op=8 then some (AV vs.length)
 else if op=9 then some (nrm (vs.getLast?.getD 0)) else if op=10 then some (KX vs) else if vs.length<2 then none
 else if op=3 then some (NL 2 (vs.getLast?.getD 0) (vs.head?.getD 0)) else if op=2 then some (Hn vs) else some (NL 4 (Hn vs) w)
def foldI (op:Int)(vs:List Int):Int:=if op=1 then Ti vs else if op=2 then KW 7 vs else if op=3 then KW 9 vs else if op=4 then NL 4 (Ti vs) (AV vs.length) else AV vs.length
def A3 (op a b:Int):Int×Bool:=if 1≤op∧op≤4 then(NL op a b,true) else(if IA op a b then AV 1 else AV 0,IA op a b)
def FF:Fl:={ num:=RB,abs:=P5,floor:=HY,whole:=AV,yj:=Ot,over:=Ee,fold:=foldI,Mo:=A3,dK:=GY,cmpL:=BX }
structure Ur (σ:Hp)(ab:Nat)(ss:List Sr)(t:Int):Prop where
 ser:∃p n c,σ.ld ⟨ab,0,none⟩=some (.slice p n c)∧AT 2 Dh σ p n ss
 at_:σ.ld ⟨ab,1,none⟩=some (.I t)
theorem Ur.mono {σ σ':Hp}{ab:Nat}{ss:List Sr}{t:Int}(h:Ur σ ab ss t)(hx:Ext σ σ'):Ur σ' ab ss t:=⟨let ⟨p,n,c,h1,h2⟩:=h.ser;⟨p,n,c,hx.ld h1,h2.mono Dh.mono hx⟩,hx.ld h.at_⟩
structure AC4 (ss:List Sr):Prop where
 ris:∀s∈ss,ik s.ps
 sm:∀s∈ss,Af s.ls
 len:ss.length≤10000000
structure zP (n:Nd):Prop where
 mki:∀x∈n.mt,1≤x.kind∧x.kind≤4
 mv:∀x∈n.mt,x.val.size≤1000000
 back:0≤n.back∧n.back<2147483648
 width:0≤n.width∧n.width<2147483648
section
variable {σ σ' σ0:Hp}{R:Rr}
theorem SK {n:Nd}{a p q l:Option Addr}{k c m d j e:Nat}(hg:Gl σ)(ht:E4 n.text=true)(h:Lw R σ (some ⟨1,RB n.text,[],[]⟩)):Spec prog 120 #[.pointer a,KD n p k c q m d,.slice l j e] σ R:=
 DW.start fun _ _=>jF hg ht ⟨_,_,rfl,h.ok _ σ none 0 0 none 0 0 rfl (.refl _) AT.nil AT.nil (AiV _) (AiV _)⟩
theorem KY {n:Nd}{p q:Option Addr}{k c m d:Nat}{a b:Int}(h:R (.T #[.U (A3 n.op a b).1,.bool (A3 n.op a b).2]) σ):Spec prog 172 #[KD n p k c q m d,.U a,.U b] σ R:=by
 refine Ub.start fun _=>Mu ?_;unfold A3 at h;by_cases h1:1≤n.op∧n.op≤4
 ·rw[AiL h1]at h ⊢;exact⟨_,_,rfl,fun _=>h,fun hh=>(by cases hh)⟩
 ·rw[AiK h1]at h ⊢;exact⟨_,_,rfl,fun hh=>(by cases hh),fun _=>Mv ⟨_,_,rfl,mU ⟨_,rfl,h⟩⟩⟩
theorem Cj {α β:Type}{f:α→Option β}{xs:List α}{k:Nat}{x:α}(hx:xs[k]?=some x):(xs.take (k+1)).filterMap f=(xs.take k).filterMap f++(f x).toList:=by
 rw[AQ hx,List.filterMap_append];cases h:f x<;>simp[List.filterMap_cons,h]
theorem jG {n:Nd}{p q l:Option Addr}{k c m d j e ab:Nat}{ss:List Sr}{t:Int}(hA:Ur σ ab ss t)(hg:Gl σ)(hm:AT 3 Jt σ p k n.mt)(hS:AC4 ss)(hN:zP n)(ht:-4611686018427387904≤t∧t≤4611686018427387904)
  (h:Lw R σ (some ⟨2,0,HV FF n ss t,[]⟩)):Spec prog 121 #[.pointer (some ⟨ab,0,none⟩),KD n p k c q m d,.slice l j e] σ R:=by
 obtain⟨pss,VO,css,CF,hr⟩:=hA.ser;have hl:ss.length=VO:=hr.1;have hlen:=hS.len;have hb:=hN.back
 let f:Sr→Option El:=fun s=>match (FT s.ps (t-n.back-300) (t-n.back)).getLast? with
  | none=>none
  | some p=>if p.2=G4∨FF.dK n.mt s.ls=false then none else some ⟨s.ls,p.2⟩
 have hf:HV FF n ss t=ss.filterMap f:=rfl;rw[hf]at h;refine Az.start fun _ _ _=>⟨ab,0,rfl,pss,VO,css,CF,?_⟩
 suffices H:∀g i:Nat,∀p8 n8 c8 σ',VO-i=g→i≤VO→AL 2 Aa σ σ' p8 n8 c8 ((ss.take i).filterMap f)→Az.B4 R (aD ab 0) n.kind n.op n.text p k c n.width n.back n.BW q m d n.bool n.parts 0 0 none 0 0 none 0 0 2 0 p8 n8 c8 none 0 0 pss VO css VO i σ' from H VO 0 none 0 0 σ rfl (AiR _) (AL.nil (.refl _))
 intro g
 induction g with
 | zero=>
  intro i p8 n8 c8 σ' jH hi ho;rw[AiQ (by omega)]at ho;exact Az.Ap ⟨fun Aq=>by omega,fun _=>h.ok _ σ' p8 n8 c8 none 0 0 rfl ho.up (ho.rd Aa.mono) AT.nil (by obtain⟨cs,KE,_⟩:=ho.1.2;exact Au.cap KE) (AiV _)⟩
 | succ g ih=>
  intro i p8 n8 c8 σ' jH hi ho;have BF:i<VO:=by omega
  obtain⟨s,hs⟩:=hr.ex BF;obtain⟨b,o,p1,n1,c1,q1,m1,d1,rfl,GZ,h1,h2,h3⟩:=Dh.at hr hs;have TD:=hS.sm s (AiM hs);have mh:=hS.ris s (AiM hs);have hx:=ho.up;have Tp:n8≤i:=by
   have:=ho.1.1;have h9:=Aif f (ss.take i);rw[AiU]at h9;omega
  have next:∀p9 n9 c9 σ2,AL 2 Aa σ σ2 p9 n9 c9 ((ss.take i).filterMap f++(f s).toList)→Az.NK R (aD ab 0) n.kind n.op n.text p k c n.width n.back n.BW q m d n.bool n.parts 0 0 none 0 0 none 0 0 2 0 p9 n9 c9 none 0 0 (aD b o) VO css VO i σ2:=fun p9 n9 c9 σ2 A6=>
   Az.Mh ⟨AJ BF hr.big,ih (i+1) _ _ _ _ (by omega) (by omega) (by rw[Cj hs];exact A6)⟩
  refine Az.Ap ⟨fun _=>⟨b,o,rfl,by omega,p1,n1,c1,q1,m1,d1,by simpa using GZ.mono hx,fun _=>⟨ab,0,rfl,t,hx.ld hA.at_,by unfold AG;omega,by unfold AG;omega,t,hx.ld hA.at_,by unfold AG;omega,Uo (h2.mono J5.mono hx) h3 mh fun q2 m2 d2 Ha hmd=>⟨q2,m2,d2,rfl,fun h0=>?_,fun h0=>?_⟩⟩⟩,fun hh=>by omega⟩
  ·refine next _ _ _ _ ?_
   have e:f s=none:=by
    show(match (FT s.ps (t-n.back-300) (t-n.back)).getLast? with | none=>none | some p=>_)=none
    have VP:(FT s.ps (t-n.back-300) (t-n.back)).length=m2:=Ha.1;rw[List.length_eq_zero_iff.1 (show(FT s.ps (t-n.back-300) (t-n.back)).length=0 by omega)];rfl
   rw[e];simpa using ho
  have VP:(FT s.ps (t-n.back-300) (t-n.back)).length=m2:=Ha.1;obtain⟨y,hy⟩:=Ha.ex (k:=m2-1) (by omega);obtain⟨b2,o2,rfl,SC⟩:=J5.at Ha hy;have e1:Int.toNat ((m2:Int)-1)=m2-1:=by omega
  have H9:=Ha.big;have ASL:(FT s.ps (t-n.back-300) (t-n.back)).getLast?=some y:=by rw[Ajc,VP,hy]
  have ef:f s=if y.2=G4∨GY n.mt s.ls=false then none else some ⟨s.ls,y.2⟩:=by
   show(match (FT s.ps (t-n.back-300) (t-n.back)).getLast? with | none=>none | some p=>_)=_
   rw[ASL];rfl
  refine⟨by unfold AG;omega,b2,o2,rfl,by omega,y.2,by rw[e1];exact SC.2.1,fun E2=>?_,fun E2=>bA ((hg.mono hx)) (hm.mono Jt.mono hx) (h1.mono BL.mono hx) hN.mv (fun x hx=>by have:=(TD.2 x hx).2;omega) hN.mki fun σ2 An=>⟨_,rfl,fun hf=>?_,fun htr=>?_⟩⟩
  ·refine next _ _ _ _ ?_
   rw[ef,AiL (.inl E2)];simpa using ho
  ·refine next _ _ _ _ ?_
   rw[ef,AiL (.inr hf)];simpa using ho.mono Aa.mono An
  ·refine⟨by unfold AG;omega,by omega,y.2,by rw[e1];exact An.ld SC.2.1,fun vr AJv=>?_⟩;have A6:=ho.mono Aa.mono An;have he:Aa (σ2.del p8) [.slice p1 n1 c1,.U y.2] ⟨s.ls,y.2⟩:=⟨p1,n1,c1,rfl,h1.mono BL.mono A6.2⟩;refine AL.Hu Aa.mono A6 rfl (Aa.one _ _ _ he) he (by omega) (fun p' c' σ3 DJ _=>⟨_,_,_,rfl,next _ _ _ _ ?_⟩) AJv;rw[ef,AiK (by
     rintro(h5|h5)
     ·exact E2 h5
     ·rw[htr]at h5;cases h5)]
   exact DJ
theorem Au.zQ {s:Nat}{p q:Option Addr}{n c:Nat}{cs:List Value}(ho:Au s σ q n c cs)(h:∀a,q=some a→∀a',p=some a'→a.block≠a'.block):Au s (σ.del p) q n c cs:=
 ⟨ho.1,ho.2.1,ho.2.2.imp id fun⟨b',o',arr,T,hp,hb,r⟩=>⟨b',o',arr,T,hp,AN.2 ⟨fun a' GI=>h _ hp a' GI,hb⟩,r⟩⟩
theorem AL.sep {α:Type}{s:Nat}{E:Hp→List Value→α→Prop}{p q:Option Addr}{n c m d:Nat}{xs:List α}{ys:List Int}(h:AL s E σ0 σ p n c xs)(g:AL 1 (MM .u64) σ σ' q m d ys):EP .u64 (σ'.del p) q m ys∧m≤d:=by
 obtain⟨⟨_,cs,ho,hc⟩,hx⟩:=g;have hp:=h.1.block;refine⟨?_,Au.cap ho⟩;have LK:=kV.1 hc;subst LK;refine EP.uX (Au.rd (Au.zQ ho fun a ha a' GI e=>?_));cases hh:σ a'.block with
 | none=>exact hp a' GI hh
 | some u=>exact(AN.1 (hx _ _ hh)).1 a ha e.symm
theorem KV.one (σ:Hp)(vs:List Value)(x:Rg)(h:KV σ vs x):G7 vs:=by
 obtain⟨p,n,c,q,m,d,rfl,_⟩:=h;intro u hu;simp only[AiT,Air,or_false]at hu;rcases hu with rfl|rfl<;>rfl
theorem mi {n:Nd}{p q l:Option Addr}{k c m d j e ab:Nat}{ss:List Sr}{t:Int}(hA:Ur σ ab ss t)(hg:Gl σ)(hm:AT 3 Jt σ p k n.mt)(hS:AC4 ss)(hN:zP n)(ht:-4611686018427387904≤t∧t≤4611686018427387904)(zR:∀s∈ss,s.ps.length≤1000000000)
  (h:Lw R σ (some ⟨3,AV n.width,[],Ol FF n ss t⟩)):Spec prog 122 #[.pointer (some ⟨ab,0,none⟩),KD n p k c q m d,.slice l j e] σ R:=by
 obtain⟨pss,VO,css,CF,hr⟩:=hA.ser;have hl:ss.length=VO:=hr.1;have hlen:=hS.len;have hb:=hN.back;have hw:=hN.width
 let fv:Sr→List Int:=fun s=>((FT s.ps (t-n.back-n.width) (t-n.back)).filter fun p=>decide (p.2≠G4)).map Prod.snd
 let f:Sr→Option Rg:=fun s=>bif !(fv s).isEmpty&&FF.dK n.mt s.ls then some ⟨s.ls,fv s⟩ else none
 have hf:Ol FF n ss t=ss.filterMap f:=rfl;rw[hf]at h;refine AZ.start fun _ _=>Mw ⟨_,rfl,fun _=>⟨ab,0,rfl,pss,VO,css,CF,?_⟩⟩
 suffices H:∀g i:Nat,∀p8 n8 c8 σ',VO-i=g→i≤VO→AL 2 KV σ σ' p8 n8 c8 ((ss.take i).filterMap f)→AZ.B4 R (aD ab 0) n.kind n.op n.text p k c n.width n.back n.BW q m d n.bool n.parts 0 0 none 0 0 none 0 0 3 (AV n.width) none 0 0 p8 n8 c8 pss VO css VO i σ' from H VO 0 none 0 0 σ rfl (AiR _) (AL.nil (.refl _))
 intro g
 induction g with
 | zero=>
  intro i p8 n8 c8 σ' jH hi ho;rw[AiQ (by omega)]at ho;exact AZ.Ap ⟨fun Aq=>by omega,fun _=>h.ok _ σ' none 0 0 p8 n8 c8 rfl ho.up AT.nil (ho.rd KV.mono) (AiV _) (by obtain⟨cs,KE,_⟩:=ho.1.2;exact Au.cap KE)⟩
 | succ g ih=>
  intro i p8 n8 c8 σ' jH hi ho;have BF:i<VO:=by omega
  obtain⟨s,hs⟩:=hr.ex BF;obtain⟨b,o,p1,n1,c1,q1,m1,d1,rfl,GZ,h1,h2,h3⟩:=Dh.at hr hs;have TD:=hS.sm s (AiM hs);have mh:=hS.ris s (AiM hs);have AfV:=zR s (AiM hs);have hx:=ho.up;have Tp:n8≤i:=by
   have:=ho.1.1;have h9:=Aif f (ss.take i);rw[AiU]at h9;omega
  have next:∀p9 n9 c9 σ2,AL 2 KV σ σ2 p9 n9 c9 ((ss.take i).filterMap f++(f s).toList)→AZ.Ku R (aD ab 0) n.kind n.op n.text p k c n.width n.back n.BW q m d n.bool n.parts 0 0 none 0 0 none 0 0 3 (AV n.width) none 0 0 p9 n9 c9 (aD b o) VO css VO i σ2:=fun p9 n9 c9 σ2 A6=>
   AZ.JJ ⟨AJ BF hr.big,ih (i+1) _ _ _ _ (by omega) (by omega) (by rw[Cj hs];exact A6)⟩
  refine AZ.Ap ⟨fun _=>⟨b,o,rfl,by omega,p1,n1,c1,q1,m1,d1,by simpa using GZ.mono hx,fun _=>⟨ab,0,rfl,t,hx.ld hA.at_,by unfold AG;omega,by unfold AG;omega,t,hx.ld hA.at_,by unfold AG;omega,Uo (h2.mono J5.mono hx) h3 mh fun q2 m2 d2 Ha hmd=>⟨q2,m2,d2,rfl,?_⟩⟩⟩,fun hh=>by omega⟩;have VP:(FT s.ps (t-n.back-n.width) (t-n.back)).length=m2:=Ha.1;have sP:m2≤1000000000:=by
   have:=Ais (fun p:Int×Int=>decide (t-n.back-n.width<p.1)&&decide (p.1≤t-n.back)) s.ps;rw[←VP];unfold FT;omega
  have hfv:fv s=((FT s.ps (t-n.back-n.width) (t-n.back)).filter fun p=>decide (p.2≠G4)).map Prod.snd:=rfl;generalize FT s.ps (t-n.back-n.width) (t-n.back)=ps at *
  let gv:Pt→Option Int:=fun p=>if p.2≠G4 then some p.2 else none
  have hgv:∀l:List Pt,((l.filter fun p=>decide (p.2≠G4)).map Prod.snd)=l.filterMap gv:=fun l=>by
   induction l with
   | nil=>rfl
   | cons a l ih=>
    by_cases ha:a.2≠G4
    ·rw[List.filter_cons_of_pos (by simpa using ha),Ai4,ih,List.filterMap_cons_some (by show(if a.2≠G4 then some a.2 else none)=some a.2;rw[AiL ha])]
    ·rw[List.filter_cons_of_neg (by simpa using ha),ih,List.filterMap_cons_none (by show(if a.2≠G4 then some a.2 else none)=none;rw[AiK ha])]
  rw[hgv]at hfv
  suffices H2:∀g2 i2:Nat,∀q2' M7 n11 PM σ2,(0<m2→q2'=q2)→m2-i2=g2→i2≤m2→AL 1 (MM .u64) σ' σ2 M7 n11 PM ((ps.take i2).filterMap gv)→AZ.Ze R (aD ab 0) n.kind n.op n.text p k c n.width n.back n.BW q m d n.bool n.parts 0 0 none 0 0 none 0 0 3 (AV n.width) none 0 0 p8 n8 c8 p1 n1 c1 q1 m1 d1 M7 n11 PM (aD b o) VO css VO i q2' m2 d2 m2 i2 σ2 from H2 m2 0 q2 none 0 0 σ' (fun _=>rfl) rfl (AiR _) (AL.nil (.refl _))
  intro g2
  induction g2 with
  | zero=>
   intro i2 q2' M7 n11 PM σ2 hq jI hi2 A6;rw[AiQ (by omega),←hfv]at A6;have hlv:(fv s).length=n11:=A6.1.1;have KE:=ho.mono KV.mono A6.up;refine AZ.Vu ⟨fun Aq=>by omega,fun _=>⟨fun WE=>bA (hg.mono (hx.trans A6.up)) (hm.mono Jt.mono (hx.trans A6.up)) (h1.mono BL.mono (hx.trans A6.up)) hN.mv (fun x hx=>by have:=(TD.2 x hx).2;omega) hN.mki fun σ3 BU=>⟨_,rfl,fun htr=>?_,fun hfa=>?_⟩,fun WE=>?_⟩⟩
   ·intro b77 AYG;obtain⟨kG,hv2⟩:=ho.sep (A6.mono (MM.mono _) BU);have DJ:=KE.mono KV.mono BU;have he:KV (σ3.del p8) [.slice p1 n1 c1,.slice M7 n11 PM] ⟨s.ls,fv s⟩:=⟨p1,n1,c1,M7,n11,PM,rfl,h1.mono BL.mono DJ.2,kG,hv2⟩;refine AL.Hu KV.mono DJ rfl (KV.one _ _ _ he) he (by omega) (fun p' c' σ4 FW _=>⟨_,_,_,rfl,next _ _ _ _ ?_⟩) AYG;have ef:f s=some ⟨s.ls,fv s⟩:=by
     show(bif !(fv s).isEmpty&&GY n.mt s.ls then some _ else none)=_
     rw[htr];cases hfe:fv s with
     | nil=>rw[hfe]at hlv;simp at hlv;omega
     | cons a l=>rfl
    rw[ef];exact FW
   ·refine next _ _ _ _ ?_
    have ef:f s=none:=by
     show(bif !(fv s).isEmpty&&GY n.mt s.ls then some _ else none)=_
     rw[hfa,Ajl];rfl
    rw[ef];simpa using KE.mono KV.mono BU
   ·refine next _ _ _ _ ?_
    have ef:f s=none:=by
     show(bif !(fv s).isEmpty&&GY n.mt s.ls then some _ else none)=_
     rw[List.length_eq_zero_iff.1 (show(fv s).length=0 by omega)];rfl
    rw[ef];simpa using KE
  | succ g2 ih2=>
   intro i2 q2' M7 n11 PM σ2 hq jI hi2 A6;have ASM:i2<m2:=by omega
   obtain⟨y,hy⟩:=Ha.ex ASM;obtain⟨b2,o2,Vw,SC⟩:=J5.at Ha hy;have AC6:n11≤i2:=by
    have:=A6.1.1;have h9:=Aif gv (ps.take i2);rw[AiU]at h9;omega
   rw[hq (by omega),Vw];have nx:∀p9 n9 c9 σ3,AL 1 (MM .u64) σ' σ3 p9 n9 c9 ((ps.take i2).filterMap gv++(gv y).toList)→AZ.VC R (aD ab 0) n.kind n.op n.text p k c n.width n.back n.BW q m d n.bool n.parts 0 0 none 0 0 none 0 0 3 (AV n.width) none 0 0 p8 n8 c8 p1 n1 c1 q1 m1 d1 p9 n9 c9 (aD b o) VO css VO i (aD b2 o2) m2 d2 m2 i2 σ3:=fun p9 n9 c9 σ3 DJ=>
    AZ.cX ⟨AJ ASM Ha.big,ih2 (i2+1) _ _ _ _ _ (fun _=>Vw.symm) (by omega) (by omega) (by rw[Cj hy];exact DJ)⟩
   refine AZ.Vu ⟨fun _=>⟨b2,o2,rfl,by omega,y.1,y.2,by simpa using SC.mono A6.up,fun _=>⟨fun Ah=>fun b58 AYI=>?_,fun heq=>nx _ _ _ _ ?_⟩⟩,fun hh=>by omega⟩
   ·refine AL.Hu (MM.mono _) A6 (vs:=[.U y.2]) (x:=y.2) rfl (fun u hu=>by rw[AiY]at hu;subst hu;rfl) rfl (by omega) (fun p' c' σ4 FW _=>⟨_,_,_,rfl,nx _ _ _ _ ?_⟩) AYI;rw[show gv y=some y.2 from AiL Ah];exact FW
   ·rw[show gv y=none from AiK (by simpa using heq)];simpa using A6
end
end TwW
end
section
namespace TwW
open Ieee
theorem RD {m k:Nat}(hm:m≠0):(m*2^k).log2=m.log2+k:=by
 have h0:m*2^k≠0:=Nat.mul_ne_zero hm (Nat.pos_iff_ne_zero.1 (AkI (by decide)));apply Nat.le_antisymm
 ·have:=(Nat.log2_lt h0 (k:=m.log2+k+1)).2 (by
   rw[show m.log2+k+1=(m.log2+1)+k by omega,AkJ];exact Nat.mul_lt_mul_of_pos_right Nat.lt_log2_self (AkI (by decide)))
  omega
 ·rw[Nat.le_log2 h0,AkJ];exact Aiw _ (Nat.log2_self_le hm)
theorem Ox (w:Toward)(s:Bool)(n:Nat):w.cut s n 0=n:=by
 unfold Toward.cut;simp only[Nat.zero_min,AkD,Nat.div_one,Nat.mod_one];cases w<;>simp
theorem sZ {s:Bool}{q d:Nat}(hq:q≠0):Toward.even.cut s (q*2^d) d=q:=by
 have hp:0<2^d:=AkI (by decide);unfold Toward.cut;rw[RD hq,Ajg (by omega),Nat.one_shiftLeft];simp only[Nat.mul_div_cancel _ hp,Nat.mul_mod_left];have:(2^d==2*0)=false:=by
  rw[beq_eq_false_iff_ne];omega
 simp[this]
theorem sa {s:Bool}{m d k:Nat}(hm:m≠0):Toward.even.cut s (m*2^k) (d+k)=Toward.even.cut s m d:=by
 have hk:0<2^k:=AkI (by decide);unfold Toward.cut;rw[RD hm,show min (d+k) (m.log2+k+2)=min d (m.log2+2)+k by omega];generalize min d (m.log2+2)=g;rw[Nat.one_shiftLeft,Nat.one_shiftLeft,AkJ];have hg:0<2^g:=AkI (by decide);have e1:m*2^k/(2^g*2^k)=m/2^g:=Nat.mul_div_mul_right _ _ hk;have e2:m*2^k%(2^g*2^k)=m%2^g*2^k:=Nat.mul_mod_mul_right _ _ _;simp only[e1,e2];have e3:decide (2^g*2^k<2*(m%2^g*2^k))=decide (2^g<2*(m%2^g)):=Ai9.2 (by
  rw[←Nat.mul_assoc];exact Nat.mul_lt_mul_right hk)
 have e4:(2^g*2^k==2*(m%2^g*2^k))=(2^g==2*(m%2^g)):=by
  rw[←Nat.mul_assoc,Bool.eq_iff_iff,Aja,Aja];exact Nat.mul_left_inj (Nat.pos_iff_ne_zero.1 hk)
 rw[e3,e4]
theorem lpD:double.leastPlace=-1074:=rfl
theorem fb:((double.fractionBits:Nat):Int)=52:=by kernel_rfl
theorem Zo {s:Bool}{m k:Nat}{p:Int}:double.nearest s (m*2^k) (p-k)=double.nearest s m p:=by
 by_cases hm:m=0
 ·subst hm;rw[AjS];unfold Format.nearest;simp
 have te:m*2^k≠0:=Nat.mul_ne_zero hm (Nat.pos_iff_ne_zero.1 (AkI (by decide)));unfold Format.nearest;rw[AiK hm,AiK te,RD hm,show p-(k:Int)+((m.log2+k:Nat):Int)-((double.fractionBits:Nat):Int)=p+(m.log2:Nat)-((double.fractionBits:Nat):Int) by omega];generalize max (p+(m.log2:Nat)-((double.fractionBits:Nat):Int)) double.leastPlace=L;have key:Toward.even.cut s ((m*2^k) <<< (p-k-L).toNat) (L-(p-k)).toNat=Toward.even.cut s (m <<< (p-L).toNat) (L-p).toNat:=by
  by_cases h1:L≤p
  ·have e0:(L-p).toNat=0:=by omega
   rw[e0,Ox,Nat.shiftLeft_eq,Nat.shiftLeft_eq];by_cases h2:L≤p-k
   ·rw[show(L-(p-k)).toNat=0 by omega,Ox,Nat.mul_assoc,←AkJ]
    congr 2;omega
   ·rw[show(p-k-L).toNat=0 by omega,Nat.pow_zero,AjX];have:m*2^k=m*2^(p-L).toNat*2^(L-(p-k)).toNat:=by
     rw[Nat.mul_assoc,←AkJ]
     congr 2;omega
    rw[this,sZ (Nat.mul_ne_zero hm (Nat.pos_iff_ne_zero.1 (AkI (by decide))))]
  ·rw[show(p-k-L).toNat=0 by omega,show(p-L).toNat=0 by omega,AkD,AkD,show(L-(p-k)).toNat=(L-p).toNat+k by omega,sa hm]
 dsimp only;rw[key]
theorem mj {x:Nat}(hx:x<18446744073709551616)(hn:(double.read x).isNaN=false):double.write (double.read x)=x:=by
 have e1:double.signWeight=9223372036854775808:=by kernel_rfl
 have e2:double.binade=4503599627370496:=by kernel_rfl
 have e3:double.infRung=9218868437227405312:=by kernel_rfl
 have hw:∀r,r=x%9223372036854775808→double.word (x/9223372036854775808%2==1) r=x:=fun r hr=>by
  subst hr;unfold Format.word;rw[e1];split
  ·rename_i h;rw[Aja]at h;omega
  ·rename_i h;rw[Aja]at h;omega
 unfold Format.read at hn ⊢;simp only[e1,e2,e3]at hn ⊢;split
 ·rename_i h1;simp only[Format.write];unfold Format.nearest;split
  ·rename_i h0;exact hw 0 h0.symm
  ·rename_i h0;have hl:(x%9223372036854775808).log2<52:=(Nat.log2_lt h0).2 (by omega);dsimp only;rw[lpD,fb,show max ((-1074:Int)+((x%9223372036854775808).log2:Nat)-52) (-1074)=-1074 by omega];simp only[Int.sub_self,Int.toNat_zero,AkD,Ox,AjS,AjV,e3];rw[Ajg (by omega)];exact hw _ rfl
 ·split
  ·rename_i h1 h2;simp only[Format.write];unfold Format.nearest;have hm:4503599627370496+x%9223372036854775808%4503599627370496≠0:=by omega
   have hl:(4503599627370496+x%9223372036854775808%4503599627370496).log2=52:=by
    rw[Nat.log2_eq_iff hm];omega
   rw[AiK hm,hl,lpD,fb];dsimp only;have hd:1≤x%9223372036854775808/4503599627370496:=by omega
   rw[show max ((-1074:Int)+((x%9223372036854775808/4503599627370496-1:Nat):Int)+((52:Nat):Int)-52) (-1074)=-1074+((x%9223372036854775808/4503599627370496-1:Nat):Int) by omega];simp only[Int.sub_self,Int.toNat_zero,AkD,Ox,e2,e3];rw[show((-1074:Int)+((x%9223372036854775808/4503599627370496-1:Nat):Int) - -1074).toNat=x%9223372036854775808/4503599627370496-1 by omega];refine hw _ ?_;rw[Ajg (by omega)];omega
  ·split
   ·rename_i h1 h2 h3;simp only[Format.write,e3];exact hw _ h3.symm
   ·rename_i h1 h2 h3;rw[AiK h1,AiK h2,AiK h3]at hn;simp[Datum.isNaN]at hn
def flN (n:Int):Nat:=double.nearest (decide (n<0)) n.natAbs 0
theorem AC7 {n:Int}(hn:n.natAbs<9007199254740992):∃k:Nat,double.read (flN n)=.number (decide (n<0)) (n.natAbs*2^k) (0-(k:Int)):=by
 have e1:double.signWeight=9223372036854775808:=by kernel_rfl
 have e2:double.binade=4503599627370496:=by kernel_rfl
 have e3:double.infRung=9218868437227405312:=by kernel_rfl
 by_cases h0:n=0
 ·subst h0;obtain⟨kq,hkq⟩:∃k:Nat,(k:Int)=1074:=⟨1074,rfl⟩;refine⟨kq,?_⟩;have:flN 0=0:=by unfold flN Format.nearest;rfl
  rw[this];have:double.read 0=.number false 0 (-1074):=by kernel_rfl
  rw[this,show(0:Int).natAbs=0 from rfl,AjS,hkq];rfl
 ·have hm:n.natAbs≠0:=by omega
  have hl:n.natAbs.log2<53:=(Nat.log2_lt hm).2 (by omega);have hle:=Nat.log2_self_le hm;have Aq:=Nat.lt_log2_self (n:=n.natAbs);have hz:n.natAbs*2^(52-n.natAbs.log2)<9007199254740992∧4503599627370496≤n.natAbs*2^(52-n.natAbs.log2):=by
   constructor
   ·have h2:=Nat.mul_lt_mul_of_pos_right Aq (AkI (n:=52-n.natAbs.log2) (show 0<2 by decide));rw[←AkJ,show n.natAbs.log2+1+(52-n.natAbs.log2)=53 by omega]at h2;exact h2
   ·have h2:=Aiw (2^(52-n.natAbs.log2)) hle;rw[←AkJ,show n.natAbs.log2+(52-n.natAbs.log2)=52 by omega]at h2;exact h2
  refine⟨52-n.natAbs.log2,?_⟩;have hf:flN n=double.word (decide (n<0)) ((1022+n.natAbs.log2)*4503599627370496+n.natAbs*2^(52-n.natAbs.log2)):=by
   unfold flN Format.nearest;rw[AiK hm,lpD,fb];dsimp only;rw[show max ((0:Int)+(n.natAbs.log2:Nat)-52) (-1074)=(n.natAbs.log2:Nat)-52 by omega,show((0:Int)-((n.natAbs.log2:Nat)-52)).toNat=52-n.natAbs.log2 by omega,show(((n.natAbs.log2:Nat):Int)-52-0).toNat=0 by omega,Ox,Nat.shiftLeft_eq,e2,e3,show((((n.natAbs.log2:Nat):Int)-52) - -1074).toNat=1022+n.natAbs.log2 by omega,Ajg (by omega)]
  rw[hf];generalize n.natAbs*2^(52-n.natAbs.log2)=M at *;generalize hg:n.natAbs.log2=g at *;have hw:∀s,double.word s ((1022+g)*4503599627370496+M)%9223372036854775808=(1022+g)*4503599627370496+M∧(double.word s ((1022+g)*4503599627370496+M)/9223372036854775808%2==1)=s:=by
   intro s;unfold Format.word;rw[e1];cases s
   ·rw[AiK (by decide)];refine⟨by omega,?_⟩;rw[beq_eq_false_iff_ne];omega
   ·rw[AiL rfl];refine⟨by omega,?_⟩;rw[Aja];omega
  unfold Format.read;simp only[e1,e2,e3];rw[(hw _).1,(hw _).2,AiK (by omega),AiL (by omega),lpD]
  congr 1
  ·omega
  ·omega
end TwW
end
section
namespace TwW
open Go Tw Go.RowKit Go.Proofs.Tryz
theorem jJ {s:Bool}{r:Nat}(h:r≤9218868437227405312):(Ieee.double.read (Ieee.double.word s r)).isNaN=false:=by
 have e1:Ieee.double.signWeight=9223372036854775808:=by kernel_rfl
 have e2:Ieee.double.binade=4503599627370496:=by kernel_rfl
 have e3:Ieee.double.infRung=9218868437227405312:=by kernel_rfl
 have hw:Ieee.double.word s r%9223372036854775808=r:=by
  unfold Ieee.Format.word;rw[e1];split<;>omega
 unfold Ieee.Format.read;simp only[e1,e2,e3,hw];split
 ·rfl
 ·split
  ·rfl
  ·rw[AiL (by omega)];rfl
theorem zS {s:Bool}{m:Nat}{p:Int}:(Ieee.double.read (Ieee.double.nearest s m p)).isNaN=false:=by
 have e3:Ieee.double.infRung=9218868437227405312:=by kernel_rfl
 unfold Ieee.Format.nearest;split
 ·exact jJ (by decide)
 ·exact jJ (by rw[e3];exact Nat.min_le_right _ _)
theorem toF_whole (n:Int):toF (FloatKind.f64.nearest n)=FloatKind.f64.nearest n:=by
 have h:GG (FloatKind.f64.nearest n)=false:=by
  rw[Th];exact zS (s:=decide (n<0)) (m:=n.natAbs) (p:=0)
 unfold toF;rw[h,AiK (by decide)]
theorem AGa {a b:Nat}(h:GG b=true):Ieee.double.order a b=none:=by
 obtain⟨s,t,hr⟩:=YZ h;unfold Ieee.Format.order;rw[hr];cases Ieee.double.read a<;>rfl
theorem bC (a:Int):(nrm a).toNat=toF a.toNat:=by unfold nrm;exact Aiu _
theorem toF_no {a:Nat}(h:GG a=false):toF a=a:=by unfold toF;rw[h,AiK (by decide)]
theorem toF_na {a:Nat}(h:GG a=true):toF a=9221120237041090560:=by unfold toF;rw[h];rfl
theorem AC8 {op v a:Int}:IA op v (nrm a)=IA op v a:=by
 unfold IA fCm;rw[bC];cases h:GG a.toNat with
 | false=>rw[toF_no h]
 | true=>rw[toF_na h,AGa h,AGa Oo]
theorem AYJ (a:Int):IA 6 a a=GG a.toNat:=by
 show(Ieee.double.order a.toNat a.toNat != some .eq)=!(Ieee.double.order a.toNat a.toNat==some .eq)
 rfl
theorem pW {a:Int}:nrm a=9221120237041090560↔GG a.toNat=true:=by
 constructor
 ·intro h;cases hn:GG a.toNat with
  | true=>rfl
  | false=>
   unfold nrm at h;rw[toF_no hn]at h;have:a.toNat=9221120237041090560:=by omega
   rw[this,Oo]at hn;cases hn
 ·intro h;unfold nrm;rw[toF_na h];rfl
def Yg (op:Int)(out v:Int):Int:=if IA op v out=true∨IA 6 out out=true then nrm v else out
theorem AC9 (op a v:Int):Yg op (nrm a) v=nrm (VK op a v):=by
 unfold Yg VK;rw[AC8,AYJ,bC];by_cases h1:IA op v a=true
 ·rw[AiL (.inl h1),AiL (.inl h1)]
 ·by_cases h2:GG a.toNat=true
  ·rw[AiL (.inr (by rw[toF_na h2];exact Oo)),AiL (.inr (pW.2 h2))]
  ·rw[AiK,AiK]
   ·rintro(h|h)
    ·exact h1 h
    ·exact h2 (pW.1 h)
   ·rintro(h|h)
    ·exact h1 h
    ·rw[toF_no (by simpa using h2)]at h;exact h2 h
theorem Yh (op:Int):∀(l:List Int) (a:Int),l.foldl (Yg op) (nrm a)=nrm (l.foldl (VK op) a)
 | [],a=>rfl
 | v::l,a=>by rw[Ajb,Ajb,AC9,Yh op l]
section
variable {σ:Hp}{R:Rr}
theorem CE {x:Int}(h:R (.returned (.float .f64 x.toNat)) σ):Spec prog 147 #[.U x] σ R:=oa.start (.y mQ ⟨_,rfl,h⟩)
theorem Ck {x:Nat}(h:R (.returned (.U (toF x:Nat))) σ):Spec prog 103 #[.float .f64 x] σ R:=by
 refine pG.start ⟨GG x,fun w _=>rfl,fun ht=>?_,fun hf=>.y Oq ⟨_,rfl,?_⟩⟩
 ·rw[toF_na ht]at h;exact h
 ·rw[toF_no hf]at h;exact h
theorem jK {op a b:Int}(h:R (.returned (if 1≤op∧op≤4 then .tuple #[.U (NL op a b),.bool true] else .tuple #[.U 0,.bool false])) σ):Spec prog 153 #[.I op,.U a,.U b] σ R:=by
 refine Ua.start (CE ⟨_,rfl,CE ⟨_,rfl,fun h1=>HX fun x hx=>⟨_,rfl,Ck ⟨_,rfl,?_⟩⟩,fun h1=>⟨fun h2=>pO fun x hx=>⟨_,rfl,Ck ⟨_,rfl,?_⟩⟩,fun h2=>⟨fun h3=>Dj fun x hx=>⟨_,rfl,Ck ⟨_,rfl,?_⟩⟩,fun h3=>⟨fun h4=>Vx fun x hx=>⟨_,rfl,Ck ⟨_,rfl,?_⟩⟩,fun h4=>?_⟩⟩⟩⟩⟩)
 ·subst h1;rw[hx];exact h
 ·subst h2;rw[hx];exact h
 ·subst h3;rw[hx];exact h
 ·subst h4;rw[hx];exact h
 ·rw[AiK (by omega)]at h;exact h
theorem Zp {op a b:Int}(h:R (.T #[.bool (IA op a b),.bool (decide (5≤op∧op≤10))]) σ):Spec prog 152 #[.I op,.U a,.U b] σ R:=by
 have fin:∀{k:Int} {t:Bool},op=k→5≤k→k≤10→fCm k a.toNat b.toNat=t→R (.T #[.bool t,.bool true]) σ:=fun hk h5 VF ht=>by
  subst hk;rw[show IA op a b=fCm op a.toNat b.toNat from rfl,ht,show decide (5≤op∧op≤10)=true from Aia ⟨h5,VF⟩]at h;exact h
 refine QO.start (CE ⟨_,rfl,CE ⟨_,rfl,
  fun h1=>⟨_,fun w _=>rfl,fin h1 (by decide) (by decide) rfl⟩,fun h1=>
  ⟨fun h2=>⟨_,fun w _=>rfl,fin h2 (by decide) (by decide) rfl⟩,fun h2=>
  ⟨fun h3=>⟨_,fun w _=>rfl,fin h3 (by decide) (by decide) rfl⟩,fun h3=>
  ⟨fun h4=>⟨_,fun w _=>rfl,fin h4 (by decide) (by decide) rfl⟩,fun h4=>
  ⟨fun h5=>⟨_,fun w _=>rfl,fin h5 (by decide) (by decide) rfl⟩,fun h5=>
  ⟨fun h6=>⟨_,fun w _=>rfl,fin h6 (by decide) (by decide) rfl⟩,fun h6=>?_⟩⟩⟩⟩⟩⟩⟩)
 rw[show decide (5≤op∧op≤10)=false from AiZ (by omega),show IA op a b=false by unfold IA fCm;simp only[h1,h2,h3,h4,h5,h6,if_false]]at h;exact h
theorem KZ {op a b:Int}(ho:1≤op∧op≤4)(h:R (.returned (.U (NL op a b))) σ):Spec prog 115 #[.I op,.U a,.U b] σ R:=by
 refine gT.start (jK ?_);rw[AiL ho];exact⟨_,_,rfl,h⟩
theorem Dc {op a b:Int}(h:R (.returned (.bool (IA op a b))) σ):Spec prog 114 #[.I op,.U a,.U b] σ R:=
 UP.start (Zp ⟨_,_,rfl,h⟩)
theorem Ka {n:Int}(h:R (.returned (.U (AV n))) σ):Spec prog 151 #[.I n] σ R:=
 Ug.start (Ls (v:=.float .f64 (FloatKind.f64.nearest n)) (fun w=>by kernel_rfl) ⟨_,rfl,Ck ⟨_,rfl,by rw[toF_whole];exact h⟩⟩)
theorem Tq {b:Bool}(h:R (.returned (.U (if b then AV 1 else AV 0))) σ):Spec prog 113 #[.bool b] σ R:=
 aW.start ⟨fun ht=>Ka ⟨_,rfl,by rw[ht]at h;exact h⟩,fun hf=>by
  rw[hf]at h;have e:AV 0=0:=by kernel_rfl
  rw[AiK (by decide),e]at h;exact h⟩
theorem Jv {op:Int}(h:R (.returned (.bool (BN op))) σ):Spec prog 112 #[.I op] σ R:=by
 unfold BN at h;refine Nr.start ⟨fun h5=>?_,fun h5=>?_⟩
 ·rw[Aia h5,AjR]at h;exact h
 ·rw[AiZ h5,AjN]at h;exact h
theorem zT {x:Int}(h0:0≤x)(h1:x<18446744073709551616):Go.bits .xor .u64 x 9223372036854775808=((x.toNat ^^^ 9223372036854775808:Nat):Int):=by
 have e:Go.bits .xor .u64 x 9223372036854775808=IntKind.u64.wrap (((BitVec.ofInt 64 x) ^^^ (BitVec.ofInt 64 9223372036854775808)).toNat:Int):=rfl;have h2:(BitVec.ofInt 64 9223372036854775808).toNat=9223372036854775808:=rfl;have h3:(BitVec.ofInt 64 x).toNat=x.toNat:=by
  rw[BitVec.toNat_ofInt];show(x%18446744073709551616).toNat=x.toNat
  rw[Int.emod_eq_of_lt h0 h1]
 have Aq:((BitVec.ofInt 64 x) ^^^ (BitVec.ofInt 64 9223372036854775808)).toNat<18446744073709551616:=BitVec.isLt _;rw[e,SJ (AjC _) (by omega),BitVec.toNat_xor,h2,h3]
theorem zU {x:Int}(h0:0≤x)(h1:x<18446744073709551616):Go.bits .andNot .u64 x 9223372036854775808=((x.toNat%9223372036854775808:Nat):Int):=by
 have e:Go.bits .andNot .u64 x 9223372036854775808=IntKind.u64.wrap (((BitVec.ofInt 64 x) &&& ~~~(BitVec.ofInt 64 9223372036854775808)).toNat:Int):=rfl;have h2:(~~~(BitVec.ofInt 64 9223372036854775808)).toNat=2^63-1:=rfl;have h3:(BitVec.ofInt 64 x).toNat=x.toNat:=by
  rw[BitVec.toNat_ofInt];show(x%18446744073709551616).toNat=x.toNat
  rw[Int.emod_eq_of_lt h0 h1]
 have Aq:((BitVec.ofInt 64 x) &&& ~~~(BitVec.ofInt 64 9223372036854775808)).toNat<18446744073709551616:=BitVec.isLt _;rw[e,SJ (AjC _) (by omega),BitVec.toNat_and,h2,h3,Nat.and_two_pow_sub_one_eq_mod]
theorem SL {x:Int}(h0:0≤x)(h1:x<18446744073709551616)(h:R (.returned (.U (Ot x))) σ):Spec prog 111 #[.U x] σ R:=by
 refine R3.start (CE ⟨_,rfl,x.toNat ^^^ 9223372036854775808,Mx rfl,Ck ⟨_,rfl,?_⟩⟩);unfold Ot nrm at h;rw[zT h0 h1,Aiu]at h;exact h
theorem sb {x:Int}(h0:0≤x)(h1:x<18446744073709551616)(h:R (.returned (.U (P5 x))) σ):Spec prog 105 #[.U x] σ R:=by
 have e:=zU h0 h1;have hn:GG (x.toNat%9223372036854775808)=GG x.toNat:=by
  rw[Bool.eq_iff_iff,Iq,Iq,Nat.mod_mod]
 unfold P5 at h;rw[e,Aiu]at h;refine ak.start (CE ⟨_,rfl,GG x.toNat,fun w _=>rfl,fun ht=>?_,fun hf x10 VF=>?_⟩)
 ·rw[toF_na (hn.trans ht)]at h;exact h
 ·rw[VF,e];rw[toF_no (hn.trans hf)]at h;exact h
theorem jL {x:Int}(h:R (.returned (.U (HY x))) σ):Spec prog 106 #[.U x] σ R:=
 Ue.start (CE ⟨_,rfl,Q3.start (ib fun y hy=>⟨_,rfl,_,rfl,Ck ⟨_,rfl,by rw[hy];exact h⟩⟩)⟩)
theorem IF {op:Int}{p:Option Addr}{n c:Nat}{vs:List Int}(ho:1≤op∧op≤5)(hr:EP .u64 σ p n vs)(h0:0<n)(h:R (.returned (.U (foldI op vs))) σ):Spec prog 110 #[.I op,.slice p n c] σ R:=by
 have hl:vs.length=n:=hr.1;have H9:=hr.big;obtain⟨v,hv⟩:=hr.ex h0;obtain⟨b,o,rfl,CF⟩:=EP.at hr hv;have ZN:vs=v::vs.drop 1:=by
  cases vs with
  | nil=>cases hv
  | cons a l=>simp only[Aim,AiO]at hv;rw[hv];rfl
 obtain⟨stp,Ts⟩:∃stp:Int→Int→Int,stp=if op=2 then Yg 7 else if op=3 then Yg 9 else NL 1:=⟨_,rfl⟩
 have V7:∀a,a=(vs.drop 1).foldl stp (nrm v)→(op=4→foldI op vs=NL 4 a (AV n))∧(op=5→foldI op vs=AV n)∧(op≠4→op≠5→foldI op vs=a):=fun a ha=>by
  have es:NL 1=stp→Ti vs=a:=fun e=>by rw[ZN,ha,←e];rfl
  refine⟨fun e4=>?_,fun e5=>?_,fun n4 n5=>?_⟩
  ·subst e4;show NL 4 (Ti vs) (AV vs.length)=_
   rw[es (by rw[Ts,AiK (by decide),AiK (by decide)]),hl]
  ·subst e5;show AV vs.length=_
   rw[hl]
  ·rcases(by omega:op=1∨op=2∨op=3) with e|e|e
   ·subst e;exact es (by rw[Ts,AiK (by decide),AiK (by decide)])
   ·subst e;rw[AiL rfl]at Ts;show KW 7 vs=a
    rw[ha,Ts,Yh];rw[ZN];rfl
   ·subst e;rw[AiK (by decide),AiL rfl]at Ts;show KW 9 vs=a
    rw[ha,Ts,Yh];rw[ZN];rfl
 refine FH.start ⟨b,o,rfl,by omega,v,by simpa using CF,CE ⟨_,rfl,Ck ⟨_,rfl,?_⟩⟩⟩;show FH.Ab R op (aD b o) n c (nrm v) 1 σ
 suffices H:∀g k:Nat,∀a:Int,n-k=g→1≤k→k≤n→(vs.drop 1).foldl stp (nrm v)=(vs.drop k).foldl stp a→FH.Ab R op (aD b o) n c a (k:Int) σ from H (n-1) 1 (nrm v) rfl (AiV _) h0 rfl
 intro g
 induction g with
 | zero=>
  intro k a hg h1 hk he;have hdk:vs.drop k=[]:=Aib (by omega);rw[hdk]at he;obtain⟨f4,f5,f0⟩:=V7 a he.symm;refine FH.AO ⟨fun Aq=>by omega,fun _=>⟨fun e4=>Ka ⟨_,rfl,KZ (by decide) ⟨_,rfl,?_⟩⟩,fun n4=>⟨fun e5=>Ka ⟨_,rfl,?_⟩,fun n5=>?_⟩⟩⟩
  ·rw[f4 e4]at h;exact h
  ·rw[f5 e5]at h;exact h
  ·rw[f0 n4 n5]at h;exact h
 | succ g ih=>
  intro k a hg h1 hk he;have QC:k<n:=by omega
  obtain⟨x,hx⟩:=hr.ex QC;obtain⟨_,_,hp,NQ⟩:=EP.at hr hx;cases hp;rw[A0 hx,Ajb]at he;have go:∀y,stp a x=y→FH.F7 R op (aD b o) n c y (k:Int) σ:=fun y hy=>FH.IJ ⟨AJ QC H9,ih (k+1) y (by omega) (by omega) (by omega) (by rw[←hy];exact he)⟩;have mn:Hp.ld σ ⟨b,o+Int.toNat (k:Int)*1,none⟩=some (.U x):=by simpa using NQ
  have By:In (k:Int) (n:Int):=by unfold In;omega
  refine FH.AO ⟨fun _=>⟨fun e2=>⟨b,o,rfl,By,x,mn,Dc ⟨_,rfl,fun ht=>⟨By,x,mn,CE ⟨_,rfl,Ck ⟨_,rfl,go _ ?_⟩⟩⟩,fun hf=>Dc ⟨_,rfl,fun ht=>⟨By,x,mn,CE ⟨_,rfl,Ck ⟨_,rfl,go _ ?_⟩⟩⟩,fun tc=>go _ ?_⟩⟩⟩,fun n2=>⟨fun e3=>⟨b,o,rfl,By,x,mn,Dc ⟨_,rfl,fun ht=>⟨By,x,mn,CE ⟨_,rfl,Ck ⟨_,rfl,go _ ?_⟩⟩⟩,fun hf=>Dc ⟨_,rfl,fun ht=>⟨By,x,mn,CE ⟨_,rfl,Ck ⟨_,rfl,go _ ?_⟩⟩⟩,fun tc=>go _ ?_⟩⟩⟩,fun n3=>⟨b,o,rfl,By,x,mn,KZ (by decide) ⟨_,rfl,go _ ?_⟩⟩⟩⟩,fun hh=>by omega⟩
  ·rw[Ts,AiL e2];unfold Yg;rw[AiL (.inl ht)];rfl
  ·rw[Ts,AiL e2];unfold Yg;rw[AiL (.inr ht)];rfl
  ·rw[Ts,AiL e2];unfold Yg;rw[AiK (by rw[hf,tc];decide)]
  ·rw[Ts,AiK n2,AiL e3];unfold Yg;rw[AiL (.inl ht)];rfl
  ·rw[Ts,AiK n2,AiL e3];unfold Yg;rw[AiL (.inr ht)];rfl
  ·rw[Ts,AiK n2,AiL e3];unfold Yg;rw[AiK (by rw[hf,tc];decide)]
  ·rw[Ts,AiK n2,AiK n3]
end
def fnT:List (Nat×Nat):=[(238,208),(238,206),(238,204),(236,167),(236,170),(236,168),(236,169),(236,171),(236,200),(236,202)]
def Yi (σ:Hp)(fb:Nat):Prop:=∀i g f,fnT[i]?=some (g,f)→∃b T,σ.ld ⟨fb,i+1,none⟩=some (.func (.func g) #[] #[.pointer (aD b 0)])∧σ b=some (.cells #[.func (.func f) #[] #[]] T (0,0))
theorem Yi.mono {σ σ':Hp}{fb:Nat}(h:Yi σ fb)(hx:Ext σ σ'):Yi σ' fb:=fun i g f hi=>let ⟨b,T,h1,h2⟩:=h i g f hi;⟨b,T,hx.ld h1,hx _ _ h2⟩
section
variable {σ σ' σ0:Hp}{R:Rr}
theorem Yj (h:∀fb σ',Yi (σ.new σ') fb→Ext σ σ'→R (.returned (.slice (aD fb 0) 11 11)) σ'):Spec prog 163 #[] σ R:=by
 refine Oa.start ?_;refine EE.start fun b1 h1=>⟨_,_,_,rfl,?_⟩;refine EE.start fun b2 h2=>⟨_,_,_,rfl,?_⟩;refine EE.start fun b3 h3=>⟨_,_,_,rfl,?_⟩;refine EE.start fun b4 h4=>⟨_,_,_,rfl,?_⟩;refine EE.start fun b5 h5=>⟨_,_,_,rfl,?_⟩;refine EE.start fun b6 h6=>⟨_,_,_,rfl,?_⟩;refine EE.start fun b7 h7=>⟨_,_,_,rfl,?_⟩;refine R4.start fun b8 h8=>⟨_,_,_,rfl,?_⟩;refine R4.start fun b9 h9=>⟨_,_,_,rfl,?_⟩;refine R4.start fun FB VF=>⟨_,_,_,rfl,?_⟩;intro fb hfb;have x10:=Ext.set (o:=.cells #[.nilFunc,.func (.func 238) #[] #[.pointer (aD FB 0)],.func (.func 238) #[] #[.pointer (aD b9 0)],.func (.func 238) #[] #[.pointer (aD b8 0)],.func (.func 236) #[] #[.pointer (aD b1 0)],.func (.func 236) #[] #[.pointer (aD b2 0)],.func (.func 236) #[] #[.pointer (aD b3 0)],.func (.func 236) #[] #[.pointer (aD b4 0)],.func (.func 236) #[] #[.pointer (aD b5 0)],.func (.func 236) #[] #[.pointer (aD b6 0)],.func (.func 236) #[] #[.pointer (aD b7 0)]] 205 (0,0)) hfb;have Pu:=x10 _ _ (Hp.AA _ FB _);have x9:=(Ext.set VF).trans x10;have c9:=x9 _ _ (Hp.AA _ b9 _);have x8:=(Ext.set h9).trans x9;have c8:=x8 _ _ (Hp.AA _ b8 _);have x7:=(Ext.set h8).trans x8;have c7:=x7 _ _ (Hp.AA _ b7 _);have x6:=(Ext.set h7).trans x7;have c6:=x6 _ _ (Hp.AA _ b6 _);have x5:=(Ext.set h6).trans x6;have c5:=x5 _ _ (Hp.AA _ b5 _);have x4:=(Ext.set h5).trans x5;have c4:=x4 _ _ (Hp.AA _ b4 _);have x3:=(Ext.set h4).trans x4;have c3:=x3 _ _ (Hp.AA _ b3 _);have x2:=(Ext.set h3).trans x3;have c2:=x2 _ _ (Hp.AA _ b2 _);have x1:=(Ext.set h2).trans x2;have c1:=x1 _ _ (Hp.AA _ b1 _);have x0:=(Ext.set h1).trans x1;have n1:σ b1=none:=h1;have z1:=Ext.set (o:=.cells #[.func (.func 167) #[] #[]] 211 (0,0)) h1;have n2:σ b2=none:=Am z1 h2;have z2:=z1.trans (Ext.set (o:=.cells #[.func (.func 170) #[] #[]] 211 (0,0)) h2);have n3:σ b3=none:=Am z2 h3;have z3:=z2.trans (Ext.set (o:=.cells #[.func (.func 168) #[] #[]] 211 (0,0)) h3);have n4:σ b4=none:=Am z3 h4;have z4:=z3.trans (Ext.set (o:=.cells #[.func (.func 169) #[] #[]] 211 (0,0)) h4);have n5:σ b5=none:=Am z4 h5;have z5:=z4.trans (Ext.set (o:=.cells #[.func (.func 171) #[] #[]] 211 (0,0)) h5);have n6:σ b6=none:=Am z5 h6;have z6:=z5.trans (Ext.set (o:=.cells #[.func (.func 200) #[] #[]] 211 (0,0)) h6);have n7:σ b7=none:=Am z6 h7;have z7:=z6.trans (Ext.set (o:=.cells #[.func (.func 202) #[] #[]] 211 (0,0)) h7);have n8:σ b8=none:=Am z7 h8;have z8:=z7.trans (Ext.set (o:=.cells #[.func (.func 204) #[] #[]] 242 (0,0)) h8);have n9:σ b9=none:=Am z8 h9;have z9:=z8.trans (Ext.set (o:=.cells #[.func (.func 206) #[] #[]] 242 (0,0)) h9);have n10:σ FB=none:=Am z9 VF;have z10:=z9.trans (Ext.set (o:=.cells #[.func (.func 208) #[] #[]] 242 (0,0)) VF);have nf:σ fb=none:=Am z10 hfb;refine h fb _ (fun i g f hi=>?_) x0;clear x0 x1 x2 x3 x4 x5 x6 x7 x8 x9 x10 z1 z2 z3 z4 z5 z6 z7 z8 z9 z10
 match i,hi with
 | 0,hi=>cases hi;exact⟨FB,_,Aj (AR.2 ⟨nf,Hp.AA _ _ _⟩) rfl,AR.2 ⟨n10,Pu⟩⟩
 | 1,hi=>cases hi;exact⟨b9,_,Aj (AR.2 ⟨nf,Hp.AA _ _ _⟩) rfl,AR.2 ⟨n9,c9⟩⟩
 | 2,hi=>cases hi;exact⟨b8,_,Aj (AR.2 ⟨nf,Hp.AA _ _ _⟩) rfl,AR.2 ⟨n8,c8⟩⟩
 | 3,hi=>cases hi;exact⟨b1,_,Aj (AR.2 ⟨nf,Hp.AA _ _ _⟩) rfl,AR.2 ⟨n1,c1⟩⟩
 | 4,hi=>cases hi;exact⟨b2,_,Aj (AR.2 ⟨nf,Hp.AA _ _ _⟩) rfl,AR.2 ⟨n2,c2⟩⟩
 | 5,hi=>cases hi;exact⟨b3,_,Aj (AR.2 ⟨nf,Hp.AA _ _ _⟩) rfl,AR.2 ⟨n3,c3⟩⟩
 | 6,hi=>cases hi;exact⟨b4,_,Aj (AR.2 ⟨nf,Hp.AA _ _ _⟩) rfl,AR.2 ⟨n4,c4⟩⟩
 | 7,hi=>cases hi;exact⟨b5,_,Aj (AR.2 ⟨nf,Hp.AA _ _ _⟩) rfl,AR.2 ⟨n5,c5⟩⟩
 | 8,hi=>cases hi;exact⟨b6,_,Aj (AR.2 ⟨nf,Hp.AA _ _ _⟩) rfl,AR.2 ⟨n6,c6⟩⟩
 | 9,hi=>cases hi;exact⟨b7,_,Aj (AR.2 ⟨nf,Hp.AA _ _ _⟩) rfl,AR.2 ⟨n7,c7⟩⟩
theorem zV {p:Option Addr}{m c:Nat}{vs:List Int}(hr:EP .u64 σ p m vs)(h0:0<m)(h:R (.returned (.U (nrm (vs.getLast?.getD 0)))) σ):Spec prog 200 #[.slice p m c] σ R:=by
 have hl:vs.length=m:=hr.1;have H9:=hr.big;obtain⟨z,hz⟩:=hr.ex (k:=m-1) (by omega);obtain⟨b,o,rfl,yr⟩:=EP.at hr hz;rw[Ajc,hl,hz]at h;exact Fq.start ⟨by unfold AG;omega,b,o,rfl,by omega,z,by rw[show Int.toNat ((m:Int)-1)=m-1 by omega];exact yr,Ir ⟨_,rfl,h⟩⟩
theorem zW {p q:Option Addr}{m c j e:Nat}{vs:List Int}(hr:EP .u64 σ p m vs)(h0:0<m)(h:R (.returned (.U (NL 2 (vs.getLast?.getD 0) (vs.head?.getD 0)))) σ):Spec prog 204 #[.slice p m c,.slice q j e] σ R:=by
 have hl:vs.length=m:=hr.1;have H9:=hr.big;obtain⟨z,hz⟩:=hr.ex (k:=m-1) (by omega);obtain⟨y,hy⟩:=hr.ex (k:=0) (by omega);obtain⟨b,o,rfl,yr⟩:=EP.at hr hz;obtain⟨_,_,he,SC⟩:=EP.at hr hy;cases he;rw[Ajc,hl,hz,AkF,hy]at h;exact Fo.start ⟨by unfold AG;omega,b,o,rfl,by omega,z,by rw[show Int.toNat ((m:Int)-1)=m-1 by omega];exact yr,by omega,y,by simpa using SC,ig ⟨_,rfl,h⟩⟩
theorem sd {n:Nd}{p q r:Option Addr}{k c m d lb lo j e fb u v:Nat}{vs:List Int}{w:Int}(ho:1≤n.op∧n.op≤10)(hF:Yi σ fb)(hr:EP .u64 σ r u vs)(h0:0<u)(hc:u≤v)(hj:0<j)(hw:σ.ld ⟨lb,lo+1,none⟩=some (.U w))
  (h:∀x ok σ',(Ee n.op vs w=some x∧ok=true∨Ee n.op vs w=none∧ok=false)→Ext σ σ'→R (.T #[.U x,.bool ok]) σ') :
  ∃v58,Hp.ld σ ⟨fb,(0+Int.toNat n.op*1),none⟩=some v58∧∃(f63:Nat) (N2 N3:Array Value),v58=.func (.func f63) N2 N3∧Enters prog f63∧Spec prog f63 (N2++#[.slice r u v,KD n p k c q m d,.slice (some ⟨lb,lo,none⟩) j e]++N3) σ R:=by
 have hl:vs.length=u:=hr.1;have always:∀(i f:Nat) (x:Int),n.op=i+1→fnT[i]?=some (236,f)→Ee n.op vs w=some x→Enters prog f→(∀R':Rr,(∀σ',Ext σ σ'→R' (.returned (.U x)) σ')→Spec prog f #[.slice r u v] σ R')→
   ∃v58,Hp.ld σ ⟨fb,(0+Int.toNat n.op*1),none⟩=some v58∧∃(f63:Nat) (N2 N3:Array Value),v58=.func (.func f63) N2 N3∧Enters prog f63∧Spec prog f63 (N2++#[.slice r u v,KD n p k c q m d,.slice (some ⟨lb,lo,none⟩) j e]++N3) σ R:=fun i f x hi hf hx Ut hs=>by
  obtain⟨b,T,h1,h2⟩:=hF i _ _ hf;refine⟨_,by rw[show 0+Int.toNat n.op*1=i+1 by omega];exact h1,236,#[],#[.pointer (aD b 0)],rfl,IS.en,IS.start fun _=>⟨_,Aj h2 rfl,f,#[],#[],rfl,Ut,hs _ fun σ' KU=>⟨_,rfl,h x true σ' (.inl ⟨hx,rfl⟩) KU⟩⟩⟩
 have two:∀(i f:Nat) (x:Int),n.op=i+1→fnT[i]?=some (238,f)→(Ee n.op vs w=if vs.length<2 then none else some x)→Enters prog f→(2≤u→∀R':Rr,R' (.returned (.U x)) σ→Spec prog f #[.slice r u v,.slice (some ⟨lb,lo,none⟩) j e] σ R')→
   ∃v58,Hp.ld σ ⟨fb,(0+Int.toNat n.op*1),none⟩=some v58∧∃(f63:Nat) (N2 N3:Array Value),v58=.func (.func f63) N2 N3∧Enters prog f63∧Spec prog f63 (N2++#[.slice r u v,KD n p k c q m d,.slice (some ⟨lb,lo,none⟩) j e]++N3) σ R:=fun i f x hi hf hx Ut hs=>by
  obtain⟨b,T,h1,h2⟩:=hF i _ _ hf;refine⟨_,by rw[show 0+Int.toNat n.op*1=i+1 by omega];exact h1,238,#[],#[.pointer (aD b 0)],rfl,Mm.en,Mm.start fun _=>⟨fun Aq=>h 0 false σ (.inr ⟨by rw[hx,AiL (by omega)],rfl⟩) (.refl _),fun Zg=>⟨_,Aj h2 rfl,f,#[],#[],rfl,Ut,hs (by omega) _ ⟨_,rfl,h x true σ (.inl ⟨by rw[hx,AiK (by omega)],rfl⟩) (.refl _)⟩⟩⟩⟩
 have zM:n.op=1∨n.op=2∨n.op=3∨n.op=4∨n.op=5∨n.op=6∨n.op=7∨n.op=8∨n.op=9∨n.op=10:=by omega
 rcases zM with e1|e1|e1|e1|e1|e1|e1|e1|e1|e1
 ·exact two 0 _ (NL 4 (Hn vs) w) e1 rfl (by rw[e1];rfl) Fe.en fun h2 R' RN=>Fe.start ⟨lb,lo,rfl,by omega,w,hw,YY hr h0 ⟨_,rfl,Kp.Hs (.refl _),ij ⟨_,rfl,RN⟩⟩⟩
 ·exact two 1 _ (Hn vs) e1 rfl (by rw[e1];rfl) Fv.en fun h2 R' RN=>Fv.start (YY hr h0 ⟨_,rfl,RN⟩)
 ·exact two 2 _ (NL 2 (vs.getLast?.getD 0) (vs.head?.getD 0)) e1 rfl (by rw[e1];rfl) Fo.en fun h2 R' RN=>zW hr h0 RN
 ·exact always 3 _ (Ti vs) e1 rfl (by rw[e1];rfl) Ie.en fun R' RN=>YW hr h0 hc (RN σ (.refl _))
 ·exact always 4 _ (NL 4 (Ti vs) (AV vs.length)) e1 rfl (by rw[e1];rfl) HO.en fun R' RN=>SD hr h0 hc (by rw[←hl];exact RN σ (.refl _))
 ·exact always 5 _ (KW 7 vs) e1 rfl (by rw[e1];rfl) Jm.en fun R' RN=>YX hr h0 hc (RN σ (.refl _))
 ·exact always 6 _ (KW 9 vs) e1 rfl (by rw[e1];rfl) GO.en fun R' RN=>Qd hr h0 hc (RN σ (.refl _))
 ·exact always 7 _ (AV vs.length) e1 rfl (by rw[e1];rfl) Jq.en fun R' RN=>Q7 (by rw[←hl];exact RN σ (.refl _))
 ·exact always 8 _ (nrm (vs.getLast?.getD 0)) e1 rfl (by rw[e1];rfl) Fq.en fun R' RN=>zV hr h0 (RN σ (.refl _))
 ·exact always 9 _ (KX vs) e1 rfl (by rw[e1];rfl) C7.en fun R' RN=>Zm hr h0 hc RN
end
theorem Spec.zX {P:Program}{f:FuncId}{args:Array Value}{R:Ending→Prop}{σ0:Hp}(h:@Spec ⟨True⟩ P f args σ0 (fun e σ'=>R e∧Ext σ0 σ')){w:World}(hs:Sat σ0 w):
  Calls P f args w (fun e w'=>R e∧∃q os,w'={ w with heap:=w.heap++os,drawn:=w.drawn+q }):=by
 refine(h w (fun b=>b<w.heap.size∧σ0 b=none) hs (fun b hb=>hb)).mono ?_
 rintro e w' ⟨σ,⟨hr,hx⟩,hf⟩
 refine⟨hr,?_⟩;obtain⟨h1,h2,h30⟩:=@Fin.os ⟨True⟩ _ _ _ _ hf;have hfp:=@Fin.E5 ⟨True⟩ _ _ _ _ hf;have hfs:=@Fin.sat ⟨True⟩ _ _ _ _ hf;have hfg:=@Fin.grow ⟨True⟩ _ _ _ _ hf;have hfo:=@Fin.out ⟨True⟩ _ _ _ _ hf;obtain⟨q,h3⟩:=h30 trivial;refine⟨q,w'.heap.extract w.heap.size w'.heap.size,?_⟩;have hh:w'.heap=w.heap++w'.heap.extract w.heap.size w'.heap.size:=by
  apply Array.ext_getElem?
  intro i;rw[AkM];split
  ·rename_i hi;cases hσ:σ0 i with
   | none=>exact(hfp i ⟨hi,hσ⟩).2
   | some o=>exact(hfs i o (hx i o hσ)).trans (hs i o hσ).symm
  ·rename_i hi;rw[AkH];have:=hfg;split
   ·congr 1;omega
   ·rename_i h2;exact Array.getElem?_eq_none (by omega)
 cases w with
 | mk heap tape drawn os output=>
  cases w' with
  | mk AcL AcM AYM os' AUj=>
   have h4:=hfo;simp only at h1 h2 h3 h4 hh ⊢;subst h1 h2 h3 h4;rw[←hh]
theorem Yk {α:Type}{enc:α→List Value}{k:Nat}(hk:∀x,(enc x).length=k)(h0:0<k):∀(xs:List α) (j:Nat),(xs.flatMap enc)[j]?=(xs[j/k]?).bind fun x=>(enc x)[j%k]?
 | [],j=>by simp
 | x::xs,j=>by
  rw[Aje,AjD,hk];by_cases hj:j<k
  ·rw[AiL hj,Nat.div_eq_of_lt hj,Nat.mod_eq_of_lt hj];simp
  ·rw[AiK hj,Yk hk h0 xs,show j/k=(j-k)/k+1 by rw[←Nat.add_div_right _ h0];congr 1;omega,show(j-k)%k=j%k by rw[Nat.mod_eq_sub_mod (by omega:j≥k)]];simp
theorem Tt {α:Type}{enc:α→List Value}{k:Nat}(hk:∀x,(enc x).length=k):∀(xs:List α),(xs.flatMap enc).length=xs.length*k
 | []=>by simp
 | x::xs=>by rw[Aje,Aid,Tt hk xs,hk,AjB,AjM];omega
theorem bD {α:Type}[Inhabited α]{enc:α→List Value}(hk:∀x,(enc x).length=2)(d:List α)(j:Nat)(hj:j<d.length*2):(d.flatMap enc)[j]?=some (Sort.flatK enc 2 d.toArray)[j]! := by
 rw[Yk (k:=2) hk (by decide),Sort.get_flatK _ _ _ _ (by simpa using hj)];have Aq:j/2<d.length:=by omega
 rw[AiN Aq];have h2:j%2<(enc d[j/2]).length:=by rw[hk];exact Aj1 _ (by decide)
 simp only[Option.bind_some];rw[AiN h2];have e1:d.toArray[j/2]! = d[j/2]:=by simp[Aq]
 rw[e1,getElem!_pos (enc d[j/2]) (j%2) h2]
theorem dT (F arr:Array Value)(o j:Nat):(Sort.putCells id o F arr)[j]?=if o≤j∧j<o+F.size then(arr[j]?).map fun _=>F[j-o]! else arr[j]?:=by
 simp only[Sort.putCells,Array.getElem?_mapIdx,id];by_cases h:o≤j∧j<o+F.size
 ·rw[AiL h];simp[h]
 ·rw[AiK h];cases arr[j]? with
  | none=>rfl
  | some v=>simp only[Aiv];rw[AiK h]
section
variable {σ:Hp}{R:Rr}
theorem pX {ρ:Go.Shelf.Ren}(L:Go.Proofs.SlLaysF0.n6 prog ρ)(aE:∀w,(isAgg (ρ.t 24)).run prog w=.ok true w)(zE:∀w,(Go.sizeOf (ρ.t 24)).run prog w=.ok 2 w){α:Type}[Inhabited α]{enc:α→List Value}(hk:∀x,(enc x).length=2)(h1:∀x,∀v∈enc x,v.oneCell'=true){cf:α→α→Int}(hO:Sort.SWO (Proofs.ltOf cf)){g:Nat}
  (eg:∀args w,(callFunc g args).run prog w=.ok (.enter g args) w) {b o m d:Nat} {ds:List α} (ho:Au 2 σ (some ⟨b,o,none⟩) m d (ds.flatMap enc)) (hm:ds.length=m) (uE:m≠0) (J2:m<4611686018427387904)
  (ACq:∀w,Sat (σ.del (some ⟨b,o,none⟩)) w→∀x y,Calls prog g #[.agg (enc x).toArray,.agg (enc y).toArray] w fun e w'=>e=.returned (.I (cf x y))∧∃n os,w'=Sort.grow (w.drewN n) os)
  (h:∀(σ':Hp) (ds':List α),ds'.Perm ds→ds'.Pairwise (fun x y=>Proofs.ltOf cf y x=false)→Au 2 σ' (some ⟨b,o,none⟩) m d (ds'.flatMap enc)→Ext (σ.del (some ⟨b,o,none⟩)) (σ'.del (some ⟨b,o,none⟩))→R (.T #[]) σ') :
  Spec prog (ρ.f 6) #[.slice (some ⟨b,o,none⟩) m d,.func (.func g) #[] #[]] σ R:=by
 intro w F hs hF;obtain⟨arr,T,hb,hw,hmd,ABS,LK⟩:∃arr T,σ b=some (.cells arr T (0,0))∧w.heap[b]?=some (.cells arr T (0,0))∧m≤d∧o+d*2≤arr.size∧(arr.toList.drop o).take (m*2)=ds.flatMap enc:=by
  rcases ho.2.2 with ⟨h1,h2,_⟩|⟨b',o',arr,T,hp,hb,hmd,J2,LK⟩
  ·exact absurd h2 uE
  ·cases hp;exact⟨arr,T,hb,hs _ _ hb,hmd,J2,LK⟩
 have ASO:∀j,j<m*2→arr[o+j]?=some (Sort.flatK enc 2 ds.toArray)[j]! := fun j hj=>by
  rw[←bD hk ds j (by omega),←LK,Ail,AiL hj,Ain,AjJ]
 have hH:Sort.HoldsK enc 2 w b o ds.toArray:=fun j hj=>by
  have Zz:j<m*2:=by simpa[hm] using hj
  refine⟨?_,by simp[World.frozen?,hw]⟩;simp only[World.cell?,hw,id];simpa using ASO j Zz
 have hblk:b<w.heap.size:=(Array.getElem?_eq_some_iff.1 hw).1;have RQ:∀(n:Nat) (dk:Array α) (os:Array Obj) k,(Proofs.sortWorldK enc 2 w b o n dk os).heap[k]?=if k<w.heap.size then(if b=k then(w.heap[k]?).map (Sort.onCells (Sort.putCells id o (Sort.flatK enc 2 dk))) else w.heap[k]?) else os[k-w.heap.size]?:=fun n dk os k=>by
  simp only[Proofs.sortWorldK,Sort.grow,Sort.putRowK,Sort.putRow,Sort.mapBlock,Sort.ahead,AkM,Array.size_modify,Array.getElem?_modify]
 have hcm:Proofs.CmpLays prog g #[] enc 2 cf b o ds.toArray.size w:=fun n os dk _ x y=>ACq _ (fun k u hk=>by
  obtain⟨J3,hku⟩:=AN.1 hk;have AYN:b≠k:=fun e=>J3 _ rfl e.symm;have:=hs k u hku;rw[RQ,AiL (Array.getElem?_eq_some_iff.1 this).1,AiK AYN];exact this) x y
 have ASP:=Proofs.AnyQ.slices_SortFunc L 2 aE zE enc hk h1 cf hO g #[] b o d ds.toArray w eg hcm hH hblk (by simpa[hm] using J2);rw[show ds.toArray.size=m by simpa using hm]at ASP;refine ASP.mono ?_
 rintro e w' ⟨rfl,d',n,os,ASQ,ASR,rfl⟩
 obtain⟨hp1,_,hp3⟩:=ASQ;have hd':d'.size=m:=by rw[hp1];simpa using hm
 have hP:d'.toList.Perm ds:=by
  rw[show m=d'.size from hd'.symm]at hp3;rw[Array.extract_size]at hp3;rw[show d'.size=ds.toArray.size from hp1,Array.extract_size]at hp3;exact hp3
 have UK:d'.toList.length=m:=by simpa using hd'
 have hF2:(Sort.flatK enc 2 d').size=m*2:=by simp[hd']
 have tz:d'.toList.Pairwise (fun x y=>Proofs.ltOf cf y x=false):=Ai2.2 fun i j hi hj JE=>by
  have Zz:j<d'.size:=by simpa using hj
  have BF:i<d'.size:=by simpa using hi
  have:=ASR i j (AiR _) JE (by omega);rw[getElem!_pos d' j Zz,getElem!_pos d' i BF]at this;simpa using this
 have ZC:((Sort.putCells id o (Sort.flatK enc 2 d') arr).toList.drop o).take (m*2)=d'.toList.flatMap enc:=by
  refine AjP fun j=>?_;rw[Ail];by_cases hj:j<m*2
  ·have:=bD hk d'.toList j (by omega);rw[AiL hj,Ain,AjJ,dT,AiL (by omega),this,ASO j hj];simp
  ·rw[AiK hj,Ajk (by rw[Tt (k:=2) hk,UK];omega)]
 refine⟨σ.set b (.cells (Sort.putCells id o (Sort.flatK enc 2 d') arr) T (0,0)),h _ d'.toList hP tz ⟨by rw[Tt (k:=2) hk,UK],by have:=ho.2.1;omega,.inr ⟨b,o,_,T,rfl,Hp.AA _ _ _,hmd,by simpa[Sort.putCells] using ABS,ZC⟩⟩ (by rw[Hp.JF];exact Ext.refl _),?_⟩
 ·refine⟨fun k u hk=>?_,fun k hk=>?_,⟨rfl,rfl,fun _=>⟨n,rfl⟩⟩,rfl,by simp[Proofs.sortWorldK,Sort.grow,Sort.putRowK,Sort.putRow,Sort.mapBlock,Sort.ahead]⟩
  ·rw[RQ];by_cases J3:k=b
   ·subst J3;rw[Hp.AA]at hk;cases hk;rw[AiL hblk,AiL rfl,hw];rfl
   ·rw[Hp.AM J3]at hk;have:=hs k u hk;rw[AiL (Array.getElem?_eq_some_iff.1 this).1,AiK (AjI J3)];exact this
  ·have J3:k≠b:=fun e=>by have:=(hF k hk).2;rw[e,hb]at this;cases this
   refine⟨by rw[Hp.AM J3];exact(hF k hk).2,?_⟩;rw[RQ,AiL (hF k hk).1,AiK (AjI J3)]
end
end TwW
end
section
namespace Go.Proofs
open Go.Shelf
def Tryz.Yl:Go.Shelf.Ren:=⟨fun|6=>210|15=>58|14=>239|28=>99|29=>100|20=>253|21=>254|22=>255|23=>256|24=>257|25=>258|26=>259|27=>260|46=>273|47=>140|48=>141|49=>274|50=>275|57=>296|n=>n,fun|22=>54|24=>59|25=>244|3=>3|39=>121|0=>0|53=>159|55=>57|4=>4|46=>153|45=>152|50=>81|5=>5|9=>9|66=>179|70=>183|76=>218|77=>219|n=>n,fun|n=>n⟩
theorem Tryz.zY:Go.Proofs.SlLaysF0.n6 Tryz.prog Tryz.Yl:={
 mixed:=by kernel_rfl
 f6:=⟨Tryz.f210.name,by decide,Tryz.func210.trans (Aie some (by kernel_rfl))⟩
 f14:=⟨Tryz.f239.name,by decide,Tryz.func239.trans (Aie some (by kernel_rfl))⟩
 f15:=Tryz.func58.trans (Aie some (by kernel_rfl))
 f20:=⟨Tryz.f253.name,by decide,Tryz.func253.trans (Aie some (by kernel_rfl))⟩
 f21:=⟨Tryz.f254.name,by decide,Tryz.func254.trans (Aie some (by kernel_rfl))⟩
 f22:=⟨Tryz.f255.name,by decide,Tryz.func255.trans (Aie some (by kernel_rfl))⟩
 f23:=⟨Tryz.f256.name,by decide,Tryz.func256.trans (Aie some (by kernel_rfl))⟩
 f24:=⟨Tryz.f257.name,by decide,Tryz.func257.trans (Aie some (by kernel_rfl))⟩
 f25:=⟨Tryz.f258.name,by decide,Tryz.func258.trans (Aie some (by kernel_rfl))⟩
 f26:=⟨Tryz.f259.name,by decide,Tryz.func259.trans (Aie some (by kernel_rfl))⟩
 f27:=⟨Tryz.f260.name,by decide,Tryz.func260.trans (Aie some (by kernel_rfl))⟩
 f28:=Tryz.func99.trans (Aie some (by kernel_rfl))
 f29:=Tryz.func100.trans (Aie some (by kernel_rfl))
 f46:=⟨Tryz.f273.name,by decide,Tryz.func273.trans (Aie some (by kernel_rfl))⟩
 f47:=Tryz.func140.trans (Aie some (by kernel_rfl))
 f48:=Tryz.func141.trans (Aie some (by kernel_rfl))
 f49:=⟨Tryz.f274.name,by decide,Tryz.func274.trans (Aie some (by kernel_rfl))⟩
 f50:=⟨Tryz.f275.name,by decide,Tryz.func275.trans (Aie some (by kernel_rfl))⟩
 f57:=⟨Tryz.f296.name,by decide,Tryz.func296.trans (Aie some (by kernel_rfl))⟩
 t0:=Tryz.underlying0
 a0:=Tryz.isAgg0
 z0:=Tryz.sizeOf0
 v0:=Tryz.zeroValue0
 t3:=Tryz.underlying3
 a3:=Tryz.isAgg3
 z3:=Tryz.sizeOf3
 v3:=Tryz.zeroValue3
 t4:=Tryz.underlying4
 a4:=Tryz.isAgg4
 z4:=Tryz.sizeOf4
 v4:=Tryz.zeroValue4
 t5:=Tryz.underlying5
 a5:=Tryz.isAgg5
 z5:=Tryz.sizeOf5
 v5:=Tryz.zeroValue5
 t9:=Tryz.underlying9
 a9:=Tryz.isAgg9
 z9:=Tryz.sizeOf9
 v9:=Tryz.zeroValue9
 t22:=Tryz.underlying54
 a22:=Tryz.isAgg54
 z22:=Tryz.sizeOf54
 v22:=Tryz.zeroValue54
 t25:=Tryz.underlying244
 a25:=Tryz.isAgg244
 z25:=Tryz.sizeOf244
 v25:=Tryz.zeroValue244
 t39:=Tryz.underlying121
 a39:=Tryz.isAgg121
 z39:=Tryz.sizeOf121
 v39:=Tryz.zeroValue121
 t45:=Tryz.underlying152
 a45:=Tryz.isAgg152
 z45:=Tryz.sizeOf152
 v45:=Tryz.zeroValue152
 t46:=Tryz.underlying153
 a46:=Tryz.isAgg153
 z46:=Tryz.sizeOf153
 v46:=Tryz.zeroValue153
 t50:=Tryz.underlying81
 a50:=Tryz.isAgg81
 z50:=Tryz.sizeOf81
 v50:=Tryz.zeroValue81
 t53:=Tryz.underlying159
 a53:=Tryz.isAgg159
 z53:=Tryz.sizeOf159
 v53:=Tryz.zeroValue159
 t55:=Tryz.underlying57
 a55:=Tryz.isAgg57
 z55:=Tryz.sizeOf57
 v55:=Tryz.zeroValue57
 t66:=Tryz.underlying179
 a66:=Tryz.isAgg179
 z66:=Tryz.sizeOf179
 v66:=Tryz.zeroValue179
 t70:=Tryz.underlying183
 a70:=Tryz.isAgg183
 z70:=Tryz.sizeOf183
 v70:=Tryz.zeroValue183
 t76:=Tryz.underlying218
 a76:=Tryz.isAgg218
 z76:=Tryz.sizeOf218
 v76:=Tryz.zeroValue218
 t77:=Tryz.underlying219
 a77:=Tryz.isAgg219
 z77:=Tryz.sizeOf219
 v77:=Tryz.zeroValue219 }
def Tryz.Ym:Go.Shelf.Ren:=⟨fun|6=>40|15=>58|14=>57|28=>99|29=>100|20=>91|21=>92|22=>93|23=>94|24=>95|25=>96|26=>97|27=>98|46=>139|47=>140|48=>141|49=>142|50=>143|57=>181|n=>n,fun|22=>23|24=>51|25=>85|3=>3|39=>121|0=>0|53=>159|55=>57|4=>4|46=>153|45=>152|50=>81|5=>5|9=>9|66=>179|70=>183|76=>218|77=>219|n=>n,fun|n=>n⟩
theorem Tryz.AJx:Go.Proofs.SlLaysF0.n6 Tryz.prog Tryz.Ym:={
 mixed:=by kernel_rfl
 f6:=⟨Tryz.f40.name,by decide,Tryz.func40.trans (Aie some (by kernel_rfl))⟩
 f14:=⟨Tryz.f57.name,by decide,Tryz.func57.trans (Aie some (by kernel_rfl))⟩
 f15:=Tryz.func58.trans (Aie some (by kernel_rfl))
 f20:=⟨Tryz.f91.name,by decide,Tryz.func91.trans (Aie some (by kernel_rfl))⟩
 f21:=⟨Tryz.f92.name,by decide,Tryz.func92.trans (Aie some (by kernel_rfl))⟩
 f22:=⟨Tryz.f93.name,by decide,Tryz.func93.trans (Aie some (by kernel_rfl))⟩
 f23:=⟨Tryz.f94.name,by decide,Tryz.func94.trans (Aie some (by kernel_rfl))⟩
 f24:=⟨Tryz.f95.name,by decide,Tryz.func95.trans (Aie some (by kernel_rfl))⟩
 f25:=⟨Tryz.f96.name,by decide,Tryz.func96.trans (Aie some (by kernel_rfl))⟩
 f26:=⟨Tryz.f97.name,by decide,Tryz.func97.trans (Aie some (by kernel_rfl))⟩
 f27:=⟨Tryz.f98.name,by decide,Tryz.func98.trans (Aie some (by kernel_rfl))⟩
 f28:=Tryz.func99.trans (Aie some (by kernel_rfl))
 f29:=Tryz.func100.trans (Aie some (by kernel_rfl))
 f46:=⟨Tryz.f139.name,by decide,Tryz.func139.trans (Aie some (by kernel_rfl))⟩
 f47:=Tryz.func140.trans (Aie some (by kernel_rfl))
 f48:=Tryz.func141.trans (Aie some (by kernel_rfl))
 f49:=⟨Tryz.f142.name,by decide,Tryz.func142.trans (Aie some (by kernel_rfl))⟩
 f50:=⟨Tryz.f143.name,by decide,Tryz.func143.trans (Aie some (by kernel_rfl))⟩
 f57:=⟨Tryz.f181.name,by decide,Tryz.func181.trans (Aie some (by kernel_rfl))⟩
 t0:=Tryz.underlying0
 a0:=Tryz.isAgg0
 z0:=Tryz.sizeOf0
 v0:=Tryz.zeroValue0
 t3:=Tryz.underlying3
 a3:=Tryz.isAgg3
 z3:=Tryz.sizeOf3
 v3:=Tryz.zeroValue3
 t4:=Tryz.underlying4
 a4:=Tryz.isAgg4
 z4:=Tryz.sizeOf4
 v4:=Tryz.zeroValue4
 t5:=Tryz.underlying5
 a5:=Tryz.isAgg5
 z5:=Tryz.sizeOf5
 v5:=Tryz.zeroValue5
 t9:=Tryz.underlying9
 a9:=Tryz.isAgg9
 z9:=Tryz.sizeOf9
 v9:=Tryz.zeroValue9
 t22:=Tryz.underlying23
 a22:=Tryz.isAgg23
 z22:=Tryz.sizeOf23
 v22:=Tryz.zeroValue23
 t25:=Tryz.underlying85
 a25:=Tryz.isAgg85
 z25:=Tryz.sizeOf85
 v25:=Tryz.zeroValue85
 t39:=Tryz.underlying121
 a39:=Tryz.isAgg121
 z39:=Tryz.sizeOf121
 v39:=Tryz.zeroValue121
 t45:=Tryz.underlying152
 a45:=Tryz.isAgg152
 z45:=Tryz.sizeOf152
 v45:=Tryz.zeroValue152
 t46:=Tryz.underlying153
 a46:=Tryz.isAgg153
 z46:=Tryz.sizeOf153
 v46:=Tryz.zeroValue153
 t50:=Tryz.underlying81
 a50:=Tryz.isAgg81
 z50:=Tryz.sizeOf81
 v50:=Tryz.zeroValue81
 t53:=Tryz.underlying159
 a53:=Tryz.isAgg159
 z53:=Tryz.sizeOf159
 v53:=Tryz.zeroValue159
 t55:=Tryz.underlying57
 a55:=Tryz.isAgg57
 z55:=Tryz.sizeOf57
 v55:=Tryz.zeroValue57
 t66:=Tryz.underlying179
 a66:=Tryz.isAgg179
 z66:=Tryz.sizeOf179
 v66:=Tryz.zeroValue179
 t70:=Tryz.underlying183
 a70:=Tryz.isAgg183
 z70:=Tryz.sizeOf183
 v70:=Tryz.zeroValue183
 t76:=Tryz.underlying218
 a76:=Tryz.isAgg218
 z76:=Tryz.sizeOf218
 v76:=Tryz.zeroValue218
 t77:=Tryz.underlying219
 a77:=Tryz.isAgg219
 z77:=Tryz.sizeOf219
 v77:=Tryz.zeroValue219 }
end Go.Proofs
end
section
namespace TwW
open Go Tw Go.RowKit Go.Proofs.Tryz
section
variable {σ σ' σ0:Hp}{R:Rr}
theorem AYO {α:Type}{f:α→List Lb}:Sort.SWO (Proofs.ltOf fun x y=>BX (f x) (f y)) where
 irrefl x:=by
  have h1:BX (f x) (f x)=0:=(Ao.eq _ _).2 rfl;exact AiZ (by show ¬BX (f x) (f x)<0;omega)
 trans x y z h1 h2:=by
  unfold Proofs.ltOf at *;exact Aia (Ao.trans _ _ _ (AiP h1) (AiP h2))
 ntrans x y z h1 h2:=by
  unfold Proofs.ltOf at *;have h1:=Aio h1;have h2:=Aio h2;dsimp only at h1 h2;refine AiZ fun h3=>?_;dsimp only at h3;rcases Int.lt_trichotomy (BX (f x) (f y)) 0 with h|h|h
  ·exact h1 h
  ·rw[(Ao.eq _ _).1 h]at h3;exact h2 h3
  ·have h4:=(Ao.VJ _ _).2 h;exact h2 (Ao.trans _ _ _ h4 h3)
theorem zZ {cs:List Value}{m:Nat}(h:cs.length=m*2):(List.finRange m).flatMap (fun i=>(cs.drop (i.1*2)).take 2)=cs:=by
 have hk:∀i:Fin m,((cs.drop (i.1*2)).take 2).length=2:=fun i=>by
  have:=i.2;rw[AiU,Aic];omega
 refine AjP fun j=>?_;rw[Yk hk (by decide)];by_cases hj:j<m*2
 ·have Aq:j/2<m:=by omega
  rw[AiN (by rw[List.length_finRange];exact Aq)];simp only[List.getElem_finRange,Option.bind_some,Fin.val_cast];rw[Ail,AiL (Aj1 _ (by decide)),Ain]
  congr 1
  omega
 ·rw[Ajk (by rw[List.length_finRange];omega),Ajk (by omega)];rfl
theorem pY {α:Type}{enc:α→List Value}(hk:∀x,(enc x).length=2):∀(xs:List α) (i:Nat) (x:α),xs[i]?=some x→((xs.flatMap enc).drop (i*2)).take 2=enc x
 | [],i,x,h=>by simp at h
 | a::xs,0,x,h=>by
  simp only[Aim,AiO]at h;subst h;rw[Aje,AjS,AkO,←hk a,List.take_left]
 | a::xs,i+1,x,h=>by
  rw[Aje,show(i+1)*2=(enc a).length+i*2 by rw[hk];omega,List.drop_append];simp only[Nat.add_sub_cancel_left,Aib (Aju _ _),AjK];exact pY hk xs i x (by simpa using h)
theorem ADA {α:Type}(l:List α){n:Nat}(hn:l.length=n):(List.finRange n).map (fun i=>l[i.1]'(by rw[hn];exact i.2))=l:=by
 subst hn;refine List.ext_getElem (by simp) fun i h1 h2=>?_;simp
theorem se {l:List El}(h:∀i a b,l[i]?=some a→l[i+1]?=some b→BX a.ls b.ls<0):l.Pairwise fun a b=>BX a.ls b.ls<0:=by
 rw[Ai2];intro i j hi hj JE
 induction j with
 | zero=>omega
 | succ j ih=>
  have hs:=h j l[j] l[j+1] (AiN _) (AiN _);by_cases he:i=j
  ·subst he;exact hs
  ·exact Ao.trans _ _ _ (ih (by omega) (by omega)) hs
theorem za:Co FF []=some []:=by unfold Co;rw[AiL List.Pairwise.nil];rfl
theorem G5 {p:Option Addr}{n c:Nat}{l:List El}(ho:AL 2 Aa σ0 σ p n c l)(hn:n≤1000000000000)(h:Lw R σ0 ((Co FF l).map fun l=>⟨2,0,l,[]⟩)):Spec prog 164 #[.slice p n c] σ R:=by
 have sU:=ho.up;obtain⟨⟨hl,cs,KE,hc⟩,hx⟩:=ho;refine Gr.start fun _=>?_;by_cases h0:n=0
 ·subst h0;have sB:l=[]:=List.length_eq_zero_iff.1 hl;subst sB;rw[za]at h;refine Spec.same (v:=.tuple #[]) (fun w _=>Go.Proofs.AnyF.slices_SortFunc_none Go.Proofs.Tryz.zY p c _ w) ⟨rfl,Gr.AO ⟨fun Aq=>by omega,fun _=>?_⟩⟩;exact h.ok _ σ p 0 c none 0 0 rfl sU AT.nil AT.nil (AiR _) (AiV _)
 obtain⟨b,o,rfl⟩:∃b o,p=some ⟨b,o,none⟩:=by
  rcases KE.2.2 with ⟨_,h2,_⟩|⟨b,o,_,_,hp,_⟩
  ·exact absurd h2 h0
  ·exact⟨b,o,hp⟩
 have ZC:cs.length=n*2:=KE.1
 let enc:Fin n→List Value:=fun i=>(cs.drop (i.1*2)).take 2
 let at_:Fin n→El:=fun i=>l[i.1]'(by rw[hl];exact i.2)
 have hE:∀i:Fin n,Aa (σ.del (some ⟨b,o,none⟩)) (enc i) (at_ i):=fun i=>hc.2 i.1 (at_ i) (AiN _);have hk:∀i,(enc i).length=2:=fun i=>by
  have:=i.2;show((cs.drop (i.1*2)).take 2).length=2
  rw[AiU,Aic];omega
 have AGb:(List.finRange n).flatMap enc=cs:=zZ ZC;haveI:Inhabited (Fin n):=⟨⟨0,by omega⟩⟩;refine pX (ρ:=Go.Proofs.Tryz.Yl) Go.Proofs.Tryz.zY (fun w=>by kernel_rfl) (fun w=>by kernel_rfl) (α:=Fin n) (enc:=enc) hk (fun i=>Aa.one _ _ _ (hE i)) (cf:=fun i j=>BX (at_ i).ls (at_ j).ls) AYO (g:=211) (fun args w=>call211 args w) (b:=b) (o:=o) (ds:=List.finRange n) (by rw[AGb];exact KE) List.length_finRange h0 (by omega) (fun w hw i j=>?_) fun σ1 ds hp tz DB I2=>⟨rfl,?_⟩
 ·obtain⟨q1,m1,d1,kG,F1⟩:=hE i;obtain⟨q2,m2,d2,hv2,Ha⟩:=hE j;rw[kG,hv2];exact Spec.zX (R:=fun e=>e=.returned (.I (BX (at_ i).ls (at_ j).ls))) (@sY _ _ ⟨True⟩ _ _ _ _ _ _ _ _ _ _ F1 Ha fun σ' KU=>⟨rfl,KU⟩) hw
 let l2:List El:=ds.map at_
 have hp2:l2.Perm l:=by
  have:=hp.map at_;rwa[ADA l hl]at this
 have VP:l2.length=n:=hp2.length_eq.trans hl;have hdl:ds.length=n:=by have h9:(ds.map at_).length=n:=VP;rwa[Aii]at h9
 have hO:AL 2 Aa σ0 σ1 (some ⟨b,o,none⟩) n c l2:=by
  refine⟨⟨VP,_,DB,?_,fun i x hi=>?_⟩,hx.trans I2⟩
  ·rw[DB.1,VP]
  ·have BF:(ds.map at_)[i]?=some x:=hi;rw[Ait]at BF;cases hd:ds[i]? with
   | none=>rw[hd]at BF;cases BF
   | some k=>
    rw[hd]at BF;simp only[Aiv,AiO]at BF;rw[pY hk ds i k hd,←BF];exact Aa.mono _ _ _ _ I2 (hE k)
 have hle:∀i a b',l2[i]?=some a→l2[i+1]?=some b'→¬BX b'.ls a.ls<0:=fun i a b' ha hb=>by
  have hq:l2.Pairwise (fun a b'=>¬BX b'.ls a.ls<0):=by
   refine List.pairwise_map.2 (tz.imp fun {x y} YU=>?_);exact Aio YU
  obtain⟨h1,rfl⟩:=List.getElem?_eq_some_iff.1 ha;obtain⟨h2,rfl⟩:=List.getElem?_eq_some_iff.1 hb;exact Ai2.1 hq i (i+1) h1 h2 (by omega)
 clear_value l2
 clear DB tz hp AGb hE hk hdl
 suffices H:∀g k:Nat,∀σ',n-k=g→1≤k→k≤n→AL 2 Aa σ0 σ' (some ⟨b,o,none⟩) n c l2→(∀i a b',i+1<k→l2[i]?=some a→l2[i+1]?=some b'→BX a.ls b'.ls<0)→Gr.Ab R (some ⟨b,o,none⟩) n c 0 0 none 0 0 none 0 0 k σ' from H (n-1) 1 σ1 rfl (AiV _) (by omega) hO (fun i a b' hi=>by omega)
 intro g
 induction g with
 | zero=>
  intro k σ' hg h1 QC hO' Aq;have hr:Co FF l=some l2:=Pa rfl hp2 (se fun i a b' ha hb=>Aq i a b' (by have:=(List.getElem?_eq_some_iff.1 hb).1;omega) ha hb);rw[hr]at h;exact Gr.AO ⟨fun Aq=>by omega,fun _=>h.ok _ σ' _ n c none 0 0 rfl hO'.up (hO'.rd Aa.mono) AT.nil (by obtain⟨cs',AYQ,_⟩:=hO'.1.2;exact Au.cap AYQ) (AiV _)⟩
 | succ g ih=>
  intro k σ' hg h1 QC hO' Aq;have hr:=hO'.rd Aa.mono;obtain⟨y,hy⟩:=hr.ex (k:=k) (by omega);obtain⟨x,KU⟩:=hr.ex (k:=k-1) (by omega);obtain⟨_,_,q1,m1,d1,Tu,QD,F1⟩:=Aa.at hr KU;cases Tu;obtain⟨_,_,q2,m2,d2,Vw,jM,Ha⟩:=Aa.at hr hy;cases Vw;have e1:Int.toNat ((k:Int)-1)=k-1:=by omega
  refine Gr.AO ⟨fun _=>⟨by unfold AG;omega,b,o,rfl,by omega,q1,m1,d1,by rw[e1];exact QD.1,by omega,q2,m2,d2,by simpa using jM.1,Pb F1 Ha fun σ2 An=>⟨_,rfl,fun hz=>?_,fun hnz=>⟨by unfold AG;omega,?_⟩⟩⟩,fun hh=>by omega⟩
  ·refine h.no ?_ σ2 (hO'.up.trans An);have:Co FF l=none:=sC rfl hp2 fun tz=>by
    obtain⟨h3,rfl⟩:=List.getElem?_eq_some_iff.1 KU;obtain⟨h4,rfl⟩:=List.getElem?_eq_some_iff.1 hy;exact Ai2.1 tz (k-1) k h3 h4 (by omega) hz
   rw[this];rfl
  ·have:=ih (k+1) σ2 (by omega) (by omega) (by omega) (hO'.mono Aa.mono An) fun i a b' hi ha hb=>by
    by_cases hik:i+1=k
    ·rw[hik,hy]at hb;cases hb;rw[show i=k-1 by omega,KU]at ha;cases ha;have h5:=hle (k-1) _ _ KU (by rw[show k-1+1=k by omega];exact hy);have h6:=(Ao.VJ x.ls y.ls);have h7:=(Ao.VJ y.ls x.ls);omega
    ·exact Aq i a b' (by omega) ha hb
   exact_mod_cast this
end
structure sf (x:Vv):Prop where
 el:∀e∈x.vec,Af e.ls∧0≤e.v
 rg:∀r∈x.RV,Af r.ls∧0<r.vs.length
 len:x.vec.length+x.RV.length≤100000000000
theorem Af.rd {σ:Hp}{p:Option Addr}{n:Nat}{ls:List Lb}(h:Af ls)(hr:Dy σ p n ls):n≤1000000:=by
 have h1:=h.1;have h2:ls.length=n:=hr.1;omega
theorem ADB:∀w,(zeroValue 166).run prog w=.ok .nilFunc w:=fun w=>by
 have h:prog.info? 166=some t166:=by kernel_rfl
 simp[zeroValue,typeInfo,h];rfl
section
variable {σ σ' σ0:Hp}{R:Rr}
theorem Q6.at {p2:Option Addr}{n2 i:Nat}{l:List Vv}{x:Vv}(hr:AT 4 Q6 σ p2 n2 l)(hx:l[i]?=some x):∃b o p n c q m d,p2=some ⟨b,o,none⟩∧σ.ld ⟨b,o+i*4,none⟩=some (.I x.kind)∧σ.ld ⟨b,o+i*4+1,none⟩=some (.U x.v)∧σ.ld ⟨b,o+i*4+2,none⟩=some (.slice p n c)∧σ.ld ⟨b,o+i*4+3,none⟩=some (.slice q m d)∧AT 2 Aa σ p n x.vec∧AT 2 KV σ q m x.RV:=by
 obtain⟨b,o,vs,hp,⟨p,n,c,q,m,d,rfl,h1,h2⟩,hl⟩:=AT.idx hr hx;exact⟨b,o,p,n,c,q,m,d,hp,hl.1,hl.2.1,hl.2.2.1,hl.2.2.2.1,h1,h2⟩
theorem KV.at {p:Option Addr}{n i:Nat}{l:List Rg}{x:Rg}(hr:AT 2 KV σ p n l)(hx:l[i]?=some x):∃b o q m d q2 m2 d2,p=some ⟨b,o,none⟩∧Ae σ b (o+i*2) [.slice q m d,.slice q2 m2 d2]∧Dy σ q m x.ls∧EP .u64 σ q2 m2 x.vs∧m2≤d2:=by
 obtain⟨b,o,vs,hp,⟨q,m,d,q2,m2,d2,rfl,h1,h2,h3⟩,hl⟩:=AT.idx hr hx;exact⟨b,o,q,m,d,q2,m2,d2,hp,hl,h1,h2,h3⟩
theorem AL.el {p:Option Addr}{n c:Nat}{xs:List El}{q:Option Addr}{m d:Nat}{ls:List Lb}{v:Int}{ty:TypeId}{Φ:Value→Hp→Prop}(ho:AL 2 Aa σ0 σ p n c xs)(hr:Dy (σ.del p) q m ls)(hn:n≤1000000000000)
  (hΦ:∀p' c' σ',AL 2 Aa σ0 σ' p' (n+1) c' (xs++[⟨ls,v⟩])→Ext (σ.del p) (σ'.del p')→Φ (.slice p' (n+1) c') σ') {b:Nat} (hb:σ b=none) :
  AK prog (Builtin.append_ #[54,54] ty #[.slice p n c,.slice (some ⟨b,0,none⟩) 1 1]) (σ.set b (.cells #[.slice q m d,.U v] 59 (0,0))) Φ:=by
 have he:Aa (σ.del p) [.slice q m d,.U v] ⟨ls,v⟩:=⟨q,m,d,rfl,hr⟩;exact AL.Hu Aa.mono ho rfl (Aa.one _ _ _ he) he (by omega) hΦ hb
theorem zb {n:Nd}{p q a l:Option Addr}{k c m d j e:Nat}{L:List Vv}{x:Vv}(hr:AT 4 Q6 σ l j L)(hx:L[0]?=some x)(hV:sf x)(h:Lw R σ (iY FF x)):Spec prog 126 #[.pointer a,KD n p k c q m d,.slice l j e] σ R:=by
 have hj:0<j:=by have h1:L.length=j:=hr.1;have:=(List.getElem?_eq_some_iff.1 hx).1;omega
 obtain⟨b,o,pv,nv,cv,qv,mv,dv,rfl,h1,h2,h3,h4,h5,h6⟩:=Q6.at hr hx;simp only[AjS,AjH]at h1 h2 h3 h4;refine Cf.start fun _ _=>⟨b,o,rfl,by omega,x.kind,h1,fun hk=>⟨by omega,x.v,h2,Un ⟨_,rfl,?_⟩⟩,fun hk=>⟨by omega,pv,nv,cv,h3,?_⟩⟩
 ·unfold iY at h;rw[AiL hk]at h;exact h.ok _ σ none 0 0 none 0 0 rfl (.refl _) AT.nil AT.nil (AiV _) (AiV _)
 unfold iY at h;rw[AiK hk]at h;have hl:x.vec.length=nv:=h5.1;have hlen:=hV.len
 suffices H:∀g i:Nat,∀p8 n8 c8 σ',nv-i=g→i≤nv→AL 2 Aa σ σ' p8 n8 c8 ((x.vec.take i).map fun x=>⟨Bd x.ls,FF.yj x.v⟩)→Cf.ACf R 0 0 none 0 0 none 0 0 p8 n8 c8 pv nv cv nv i σ' from H nv 0 none 0 0 σ rfl (AiR _) (AL.nil (.refl _))
 intro g
 induction g with
 | zero=>
  intro i p8 n8 c8 σ' hg hi ho;rw[AiQ (by omega)]at ho;have Tp:=ho.1.1;rw[Aii]at Tp;exact Cf.pE ⟨fun Aq=>by omega,fun _=>G5 ho (by omega) h.Zn⟩
 | succ g ih=>
  intro i p8 n8 c8 σ' hg hi ho;have BF:i<nv:=by omega
  obtain⟨y,hy⟩:=h5.ex BF;obtain⟨b1,o1,q1,m1,d1,rfl,QD,F1⟩:=Aa.at h5 hy;have Im:=hV.el y (AiM hy);have Tp:=ho.1.1;rw[Aii,AiU]at Tp;refine Cf.pE ⟨fun _=>⟨b1,o1,rfl,by omega,q1,m1,d1,y.v,by simpa using QD.mono ho.up,fun _=>IE (F1.mono BL.mono ho.up) (Im.1.rd F1) fun p' n' c' σ2 Ha An=>⟨_,_,_,rfl,Un ⟨_,rfl,fun PY AYR=>?_⟩⟩⟩,fun hh=>by omega⟩;refine AL.el (ho.mono Aa.mono An) (Ha.mono BL.mono (ho.new An)) (by omega) (fun p9 c9 σ3 DJ _=>⟨_,_,_,rfl,AJ BF h5.big,ih (i+1) _ _ _ _ (by omega) (by omega) ?_⟩) AYR;rw[AQ hy,Aiq];exact DJ
theorem sg {n:Nd}{p q a l:Option Addr}{k c m d j e:Nat}{L:List Vv}{x:Vv}(hr:AT 4 Q6 σ l j L)(hx:L[0]?=some x)(hV:sf x)(hv:x.vec≠[]→n.op=11∨n.op=12)(hw:x.RV≠[]→1≤n.op∧n.op≤10)
  (h:Lw R σ ((Co FF (JB FF n x)).map fun l=>⟨2,0,l,[]⟩)):Spec prog 123 #[.pointer a,KD n p k c q m d,.slice l j e] σ R:=by
 have hj:0<j:=by have h1:L.length=j:=hr.1;have:=(List.getElem?_eq_some_iff.1 hx).1;omega
 obtain⟨b,o,pv,nv,cv,qv,mv,dv,rfl,h1,h2,h3,h4,h5,h6⟩:=Q6.at hr hx;simp only[AjS,AjH]at h1 h2 h3 h4;have hl:x.vec.length=nv:=h5.1;have hlr:x.RV.length=mv:=h6.1;have hlen:=hV.len;refine Ad.start fun _ _=>G3 fun mb zD=>⟨mb,rfl,?_⟩;have s0:=zC.fresh zD;refine s0.put (by simp) fun σ1 s1=>s1.put (by simp) fun σ2 s2=>?_;have An:=s2.1;have hml:=s2.2.2;have cont:∀v21,(n.op=11→v21=.func (.func 160) #[] #[])→(n.op=12→v21=.func (.func 161) #[] #[])→∃v,v=v21∧Pq (some ⟨b,o,none⟩) fun JH TP=>In 0 (j:Int)∧LS σ2 JH (TP+2) fun rV n25 rW=>Ad.GL R (aD JH TP) j e n.kind n.op n.text p k c n.width n.back n.BW q m d n.bool n.parts 0 0 none 0 0 none 0 0 none 0 0 v rV n25 rW (n25:Int) 0 σ2:=fun v21 ha hf=>by
  refine⟨v21,rfl,b,o,rfl,by omega,pv,nv,cv,An.ld h3,?_⟩
  let g1:El→El:=fun x=>⟨Bd x.ls,if n.op=11 then FF.abs x.v else FF.floor x.v⟩
  let g2:Rg→Option El:=fun s=>(FF.over n.op s.vs x.v).map fun v=>⟨Bd s.ls,v⟩
  have hc:JB FF n x=x.vec.map g1++x.RV.filterMap g2:=rfl;rw[hc]at h;have second:∀g i:Nat,∀fb p8 n8 c8 σ',mv-i=g→i≤mv→Yi (σ'.del p8) fb→AL 2 Aa σ σ' p8 n8 c8 (x.vec.map g1++(x.RV.take i).filterMap g2)→Ad.N1 R (aD b o) j e n.kind n.op n.text p k c n.width n.back n.BW q m d n.bool n.parts 0 0 none 0 0 none 0 0 p8 n8 c8 (aD fb 0) 11 11 qv mv dv mv i σ':=by
   intro g
   induction g with
   | zero=>
    intro i fb p8 n8 c8 σ' hg hi hF ho;rw[AiQ (by omega)]at ho;have Tp:=ho.1.1;rw[Aid,Aii]at Tp;have h9:=Aif g2 x.RV;exact Ad.PW ⟨fun Aq=>by omega,fun _=>G5 ho (by omega) h.Zn⟩
   | succ g ih=>
    intro i fb p8 n8 c8 σ' hg hi hF ho;have BF:i<mv:=by omega
    obtain⟨y,hy⟩:=h6.ex BF;obtain⟨b1,o1,q1,m1,d1,q2,m2,d2,rfl,QD,F1,Ha,hmd⟩:=KV.at h6 hy;have Im:=hV.rg y (AiM hy);have MJ:=hw fun e=>by rw[e]at hlr;simp at hlr;omega
    have hlv:y.vs.length=m2:=Ha.1;have Tp:=ho.1.1;rw[Aid,Aii]at Tp;have h9:=Aif g2 (x.RV.take i);rw[AiU]at h9;have next:∀p9 n9 c9 σ3,Yi (σ3.del p9) fb→AL 2 Aa σ σ3 p9 n9 c9 (x.vec.map g1++(x.RV.take i).filterMap g2++(g2 y).toList)→Ad.Ku R (aD b o) j e n.kind n.op n.text p k c n.width n.back n.BW q m d n.bool n.parts 0 0 none 0 0 none 0 0 p9 n9 c9 (aD fb 0) 11 11 (aD b1 o1) mv dv mv i σ3:=fun p9 n9 c9 σ3 hF3 DJ=>
     Ad.JJ ⟨AJ BF h6.big,ih (i+1) _ _ _ _ _ (by omega) (by omega) hF3 (by rw[Cj hy,←AjL];exact DJ)⟩
    refine Ad.PW ⟨fun _=>⟨b1,o1,rfl,by omega,q1,m1,d1,q2,m2,d2,by simpa using QD.mono ho.up,fun _=>⟨fb,0,rfl,by omega,sd (w:=x.v) MJ (hF.mono (Ext.Jb _ _)) (Ha.mono ho.up) (by omega) hmd hj (ho.up.ld h2) fun z ok σ3 hz BU=>⟨z,ok,rfl,fun EI=>?_,fun EI=>next _ _ _ _ (hF.mono (BU.del _)) ?_⟩⟩⟩,fun hh=>by omega⟩
    ·have mV:FF.over n.op y.vs x.v=some z:=by
      rcases hz with ⟨h7,_⟩|⟨_,h8⟩
      ·exact h7
      ·rw[EI]at h8;cases h8
     refine IE (F1.mono BL.mono (ho.up.trans BU)) (Im.1.rd F1) fun p' n' c' σ4 hr4 JK=>⟨_,_,_,rfl,fun vr AJv=>?_⟩;have DJ:=ho.mono Aa.mono BU;refine AL.el (DJ.mono Aa.mono JK) (hr4.mono BL.mono (DJ.new JK)) (by omega) (fun p9 c9 σ5 KT Sv=>⟨_,_,_,rfl,next _ _ _ _ (hF.mono (((BU.trans JK).del _).trans Sv)) ?_⟩) AJv;rw[show g2 y=some ⟨Bd y.ls,z⟩ by show(FF.over n.op y.vs x.v).map _=_;rw[mV];rfl];exact KT
    ·have mV:FF.over n.op y.vs x.v=none:=by
      rcases hz with ⟨_,h8⟩|⟨h7,_⟩
      ·rw[EI]at h8;cases h8
      ·exact h7
     rw[show g2 y=none by show(FF.over n.op y.vs x.v).map _=_;rw[mV];rfl];simpa using ho.mono Aa.mono BU
  suffices H:∀g i:Nat,∀p8 n8 c8 σ',nv-i=g→i≤nv→AL 2 Aa σ σ' p8 n8 c8 ((x.vec.take i).map g1)→Ad.GL R (aD b o) j e n.kind n.op n.text p k c n.width n.back n.BW q m d n.bool n.parts 0 0 none 0 0 none 0 0 p8 n8 c8 v21 pv nv cv nv i σ' from H nv 0 none 0 0 σ2 rfl (AiR _) (AL.nil An)
  intro g
  induction g with
  | zero=>
   intro i p8 n8 c8 σ' hg hi ho;rw[AiQ (by omega)]at ho;refine Ad.Fg ⟨fun Aq=>by omega,fun _=>Yj fun fb σ3 hF BU=>⟨_,_,_,rfl,b,o,rfl,by omega,qv,mv,dv,(ho.up.trans BU).ld h4,second mv 0 fb p8 n8 c8 σ3 rfl (AiR _) (hF.mono (ho.new BU)) (by simpa using ho.mono Aa.mono BU)⟩⟩
  | succ g ih=>
   intro i p8 n8 c8 σ' hg hi ho;have BF:i<nv:=by omega
   obtain⟨y,hy⟩:=h5.ex BF;obtain⟨b1,o1,q1,m1,d1,rfl,QD,F1⟩:=Aa.at h5 hy;have Im:=hV.el y (AiM hy);have Tp:=ho.1.1;rw[Aii,AiU]at Tp;have MJ:=hv fun e=>by rw[e]at hl;simp at hl;omega
   refine Ad.Fg ⟨fun _=>⟨b1,o1,rfl,by omega,q1,m1,d1,y.v,by simpa using QD.mono ho.up,fun _=>IE (F1.mono BL.mono ho.up) (Im.1.rd F1) fun p' n' c' σ3 SM BU=>⟨_,_,_,rfl,?_⟩⟩,fun hh=>by omega⟩;have app:∀z,(g1 y).v=z→BB R (CI .u64 fun x38 AB=>Al AB fun Vi=>AK prog (Builtin.append_ #[54,54] 54 #[.slice p8 n8 c8,(.slice (aD Vi 0) 1 1)]) (Hp.set AB Vi (.cells #[.slice p' n' c',.U x38] 59 (0,0))) (CS fun wC n41 lz AI=>AG ((i:Int)+1)∧Ad.GL R (aD b o) j e n.kind n.op n.text p k c n.width n.back n.BW q m d n.bool n.parts 0 0 none 0 0 none 0 0 wC n41 lz v21 (aD b1 o1) nv cv nv ((i:Int)+1) AI)) (.returned (.U z)) σ3:=fun z hz=>by
    refine⟨z,rfl,fun Vi Yn=>AL.el (ho.mono Aa.mono BU) (SM.mono BL.mono (ho.new BU)) (by omega) (fun p9 c9 σ5 KT Sv=>⟨_,_,_,rfl,AJ BF h5.big,ih (i+1) _ _ _ _ (by omega) (by omega) ?_⟩) Yn⟩;rw[AQ hy,Aiq];have:g1 y=⟨Bd y.ls,z⟩:=by rw[←hz]
    simpa[this] using KT
   rcases MJ with MJ|MJ
   ·exact⟨160,#[],#[],ha MJ,R0.en,yp Im.2 (app _ (by show(if n.op=11 then P5 y.v else _)=_;rw[AiL MJ]))⟩
   ·exact⟨161,#[],#[],hf MJ,Ml.en,mT (app _ (by show(if n.op=11 then P5 y.v else HY y.v)=_;rw[AiK (by omega)]))⟩
 refine hml.look ADB (fun Cg=>cont _ (fun h9=>?_) fun h9=>?_) fun v hv=>?_
 ·exact absurd h9.symm (Cg (11,.func (.func 160) #[] #[]) (by simp))
 ·exact absurd h9.symm (Cg (12,.func (.func 161) #[] #[]) (by simp))
 ·simp only[AjK,Ai1,AiT,Air,or_false,Ajr]at hv;rcases hv with ⟨h9,rfl⟩|⟨h9,rfl⟩
  ·exact cont _ (fun _=>rfl) fun h8=>by omega
  ·exact cont _ (fun h8=>by omega) fun _=>rfl
end
theorem mo:∀w,(zeroValue 59).run prog w=.ok (.agg #[.N,.U 0]) w:=fun w=>by
 have h:prog.info? 59=some t59:=by kernel_rfl
 simp[zeroValue,typeInfo,h];rfl
def E0 (σ0:Hp)(v:Value)(x:El):Prop:=∃p n c,v=.agg #[.slice p n c,.U x.v]∧Dy σ0 p n x.ls
theorem bE {α:Type}{f:α→Bool}{xs:List α}{k:Nat}{x:α}(hx:xs[k]?=some x):(xs.take (k+1)).filter f=(xs.take k).filter f++if f x then[x] else[]:=by
 rw[AQ hx,Ajd];by_cases h:f x=true<;>simp[h]
section
variable {σ σ' σ0:Hp}{R:Rr}
theorem Ext.put {m:Nat}{o:Obj}(hx:Ext σ0 σ)(hm:σ0 m=none):Ext σ0 (σ.set m o):=fun k u hk=>by rw[Hp.AM (fun e=>by rw[e,hm]at hk;cases hk)];exact hx _ _ hk
theorem M0 {n:Nd}{p q pv:Option Addr}{k c m d nv cv:Nat}{vec:List El}(hs:G6 1 σ q m (n.names.map .string))(hr:AT 2 Aa σ pv nv vec)(TD:∀e∈vec,Af e.ls)
  (h:∀mb σ',MS (E0 σ) σ' mb (Zi n vec)→Ext σ σ'→R (.T #[.map (some mb),.bool (Lm n vec)]) σ'):Spec prog 221 #[KD n p k c q m d,.slice pv nv cv] σ R:=by
 have hl:vec.length=nv:=hr.1;refine Jo.start fun _=>G3 fun mb zD=>⟨mb,rfl,?_⟩
 let st:List (ByteArray×El)→El→List (ByteArray×El):=fun m x=>KC m (EO (D0 n x.ls)) x
 have hk:Zi n vec=vec.foldl st []:=rfl
 suffices H:∀g i:Nat,∀σ',nv-i=g→i≤nv→MS (E0 σ) σ' mb ((vec.take i).foldl st [])→Ext σ σ'→Jo.B4 R pv nv cv n.kind n.op n.text p k c n.width n.back n.BW q m d n.bool n.parts (some mb) pv nv cv nv i σ' from H nv 0 _ rfl (AiR _) MS.fresh (.set zD)
 intro g
 induction g with
 | zero=>
  intro i σ' hg hi hM hx;rw[AiQ (by omega)]at hM;refine Jo.Ap ⟨fun Aq=>by omega,fun _=>⟨_,hM.len,?_⟩⟩;have:=h mb σ' hM hx;unfold Lm at this;rw[hk,hl]at this;rw[show decide ((((vec.foldl st []).length:Nat):Int)=(nv:Int))=decide ((vec.foldl st []).length=nv) from Ai9.2 (by omega)];exact this
 | succ g ih=>
  intro i σ' hg hi hM hx;have BF:i<nv:=by omega
  obtain⟨y,hy⟩:=hr.ex BF;obtain⟨b1,o1,q1,m1,d1,rfl,QD,F1⟩:=Aa.at hr hy;have Im:=TD y (AiM hy);refine Jo.Ap ⟨fun _=>⟨b1,o1,rfl,by omega,q1,m1,d1,y.v,by simpa using QD.mono hx,fun _=>Vz (F1.mono BL.mono hx) (Im.rd F1) (hs.mono hx) fun p' n' c' σ2 Ha An=>⟨_,_,_,rfl,ID (Ha.mono BL.mono (Ext.B9 _ _)) Im.D0 fun σ3 BU=>⟨_,rfl,?_⟩⟩⟩,fun hh=>by omega⟩;refine(hM.mono (An.trans BU)).put (x:=y) ⟨q1,m1,d1,rfl,F1⟩ fun o hM'=>⟨AJ BF hr.big,ih (i+1) _ (by omega) (by omega) ?_ (Ext.put (hx.trans (An.trans BU)) zD)⟩;rw[AQ hy,Aj0];exact hM'
theorem si {n:Nd}{p q a px py:Option Addr}{k c m d nx cx ny cy:Nat}{x y:List El}(hs:G6 1 σ q m (n.names.map .string))(VQ:AT 2 Aa σ px nx x)(hry:AT 2 Aa σ py ny y)(bF:∀e∈x,Af e.ls)(ZF:∀e∈y,Af e.ls)(hlen:x.length+y.length≤1000000000000)
  (h:Lw R σ ((Co FF (Io n x y)).map fun l=>⟨2,0,l,[]⟩)):Spec prog 176 #[.pointer a,KD n p k c q m d,.slice px nx cx,.slice py ny cy] σ R:=by
 have NQ:x.length=nx:=VQ.1;have SC:y.length=ny:=hry.1;refine Ai.start fun _ _=>M0 hs VQ bF fun mx σ1 hM1 Bc=>⟨_,_,rfl,M0 (hs.mono Bc) (hry.mono Aa.mono Bc) ZF fun my σ2 hM2 An=>⟨_,_,rfl,?_⟩⟩;have hX:=Bc.trans An;have hMx:=hM1.mono An
 replace h:=h.sW hX
 let f1:El→Bool:=fun e=>decide (n.op=12)||((Hk n y (D0 n e.ls)).isSome==decide (n.op=11))
 let f2:El→Bool:=fun e=>(Hk n x (D0 n e.ls)).isNone&&decide (n.op=12)
 have hf:Io n x y=x.filter f1++y.filter f2:=rfl;rw[hf]at h;have second:∀g i:Nat,∀p8 n8 c8 σ',ny-i=g→i≤ny→AL 2 Aa σ2 σ' p8 n8 c8 (x.filter f1++(y.take i).filter f2)→Ai.F7 R n.kind n.op n.text p k c n.width n.back n.BW q m d n.bool n.parts 0 0 none 0 0 none 0 0 (some mx) p8 n8 c8 py ny cy ny i σ':=by
  intro g
  induction g with
  | zero=>
   intro i p8 n8 c8 σ' hg hi ho;rw[AiQ (by omega)]at ho;have Tp:=ho.1.1;rw[Aid]at Tp;have h9:=Ais f1 x;have VF:=Ais f2 y;exact Ai.IJ ⟨fun Aq=>by omega,fun _=>G5 ho (by omega) h.Zn⟩
  | succ g ih=>
   intro i p8 n8 c8 σ' hg hi ho;have BF:i<ny:=by omega
   obtain⟨z,hz⟩:=hry.ex BF;obtain⟨b1,o1,q1,m1,d1,rfl,QD,F1⟩:=Aa.at hry hz;have Im:=ZF z (AiM hz);have Tp:=ho.1.1;rw[Aid]at Tp;have h9:=Ais f1 x;have VF:=Ais f2 (y.take i);rw[AiU]at VF;have next:∀p9 n9 c9 σ3,AL 2 Aa σ2 σ3 p9 n9 c9 (x.filter f1++(y.take i).filter f2++if f2 z then[z] else[])→Ai.Rj R n.kind n.op n.text p k c n.width n.back n.BW q m d n.bool n.parts 0 0 none 0 0 none 0 0 (some mx) p9 n9 c9 (aD b1 o1) ny cy ny i σ3:=fun p9 n9 c9 σ3 DJ=>
    Ai.cU ⟨AJ BF hry.big,ih (i+1) _ _ _ _ (by omega) (by omega) (by rw[bE hz,←AjL];exact DJ)⟩
   have mH:=hX.trans ho.up;refine Ai.IJ ⟨fun _=>⟨b1,o1,rfl,by omega,q1,m1,d1,z.v,by simpa using QD.mono mH,fun _=>Vz (F1.mono BL.mono mH) (Im.rd F1) (hs.mono mH) fun p' n' c' σ3 SM BU=>⟨_,_,_,rfl,ID (SM.mono BL.mono (Ext.B9 _ _)) Im.D0 fun σ4 JK=>⟨_,rfl,?_⟩⟩⟩,fun hh=>by omega⟩;have FW:=ho.mono Aa.mono (BU.trans JK);refine MS.iw (hMx.mono (ho.up.trans (BU.trans JK))) mo (fun Hj=>⟨_,_,_,_,_,rfl,fun _=>⟨fun _=>⟨fun J4=>fun tg AYT=>?_,fun J4=>next _ _ _ _ ?_⟩,fun hh=>(by cases hh)⟩⟩) fun v e he hE=>?_
   ·refine AL.el FW (F1.mono BL.mono (hX.trans FW.2)) (by omega) (fun p9 c9 σ5 KT _=>⟨_,_,_,rfl,next _ _ _ _ ?_⟩) AYT;have:f2 z=true:=by
     show((DM (Zi n x) (EO (D0 n z.ls))).isNone&&decide (n.op=12))=true
     rw[Hj,Aia J4];rfl
    rw[this];exact KT
   ·have:f2 z=false:=by
     show((DM (Zi n x) (EO (D0 n z.ls))).isNone&&decide (n.op=12))=false
     rw[AiZ J4,Ajl]
    rw[this];simpa using FW
   ·obtain⟨p5,n5,c5,rfl,_⟩:=hE;refine⟨_,_,_,_,_,rfl,fun _=>⟨fun hh=>(by cases hh),fun _=>next _ _ _ _ ?_⟩⟩;have:f2 z=false:=by
     show((DM (Zi n x) (EO (D0 n z.ls))).isNone&&decide (n.op=12))=false
     rw[he];rfl
    rw[this];simpa using FW
 suffices H:∀g i:Nat,∀p8 n8 c8 σ',nx-i=g→i≤nx→AL 2 Aa σ2 σ' p8 n8 c8 ((x.take i).filter f1)→Ai.CX R py ny cy n.kind n.op n.text p k c n.width n.back n.BW q m d n.bool n.parts 0 0 none 0 0 none 0 0 (some mx) (some my) p8 n8 c8 px nx cx nx i σ' from H nx 0 none 0 0 σ2 rfl (AiR _) (AL.nil (.refl _))
 intro g
 induction g with
 | zero=>
  intro i p8 n8 c8 σ' hg hi ho;rw[AiQ (by omega)]at ho;exact Ai.Vt ⟨fun Aq=>by omega,fun _=>second ny 0 p8 n8 c8 σ' rfl (AiR _) (by simpa using ho)⟩
 | succ g ih=>
  intro i p8 n8 c8 σ' hg hi ho;have BF:i<nx:=by omega
  obtain⟨z,hz⟩:=VQ.ex BF;obtain⟨b1,o1,q1,m1,d1,rfl,QD,F1⟩:=Aa.at VQ hz;have Im:=bF z (AiM hz);have Tp:=ho.1.1;have h9:=Ais f1 (x.take i);rw[AiU]at h9;have next:∀p9 n9 c9 σ3,AL 2 Aa σ2 σ3 p9 n9 c9 ((x.take i).filter f1++if f1 z then[z] else[])→Ai.Hz R py ny cy n.kind n.op n.text p k c n.width n.back n.BW q m d n.bool n.parts 0 0 none 0 0 none 0 0 (some mx) (some my) p9 n9 c9 (aD b1 o1) nx cx nx i σ3:=fun p9 n9 c9 σ3 DJ=>
   Ai.Ff ⟨AJ BF VQ.big,ih (i+1) _ _ _ _ (by omega) (by omega) (by rw[bE hz];exact DJ)⟩
  have mH:=hX.trans ho.up;refine Ai.Vt ⟨fun _=>⟨b1,o1,rfl,by omega,q1,m1,d1,z.v,by simpa using QD.mono mH,fun _=>Vz (F1.mono BL.mono mH) (Im.rd F1) (hs.mono mH) fun p' n' c' σ3 SM BU=>⟨_,_,_,rfl,ID (SM.mono BL.mono (Ext.B9 _ _)) Im.D0 fun σ4 JK=>⟨_,rfl,?_⟩⟩⟩,fun hh=>by omega⟩;have FW:=ho.mono Aa.mono (BU.trans JK);have app:f1 z=true→∀r6,σ4 r6=none→AK prog (Builtin.append_ #[54,54] 54 #[.slice p8 n8 c8,(.slice (aD r6 0) 1 1)]) (Hp.set σ4 r6 (.cells #[.slice q1 m1 d1,.U z.v] 59 (0,0))) (CS fun p64 xE c64 AU=>Ai.Hz R py ny cy n.kind n.op n.text p k c n.width n.back n.BW q m d n.bool n.parts 0 0 none 0 0 none 0 0 (some mx) (some my) p64 xE c64 (aD b1 o1) nx cx nx i AU):=fun ht r6 AYU=>by
   refine AL.el FW (F1.mono BL.mono (hX.trans FW.2)) (by omega) (fun p9 c9 σ5 KT _=>⟨_,_,_,rfl,next _ _ _ _ ?_⟩) AYU;rw[ht];exact KT
  have skip:f1 z=false→Ai.Hz R py ny cy n.kind n.op n.text p k c n.width n.back n.BW q m d n.bool n.parts 0 0 none 0 0 none 0 0 (some mx) (some my) p8 n8 c8 (aD b1 o1) nx cx nx i σ4:=fun ht=>next _ _ _ _ (by rw[ht];simpa using FW)
  have e1:f1 z=(decide (n.op=12)||((DM (Zi n y) (EO (D0 n z.ls))).isSome==decide (n.op=11))):=rfl;refine MS.iw ((hM2.imp fun v x hE=>hE).mono (ho.up.trans (BU.trans JK))) mo (fun Hj=>⟨_,_,_,_,_,rfl,fun _=>⟨fun J4=>app ?_,fun J4=>⟨fun hh=>(by cases hh),fun _=>⟨fun IT=>skip ?_,fun IT=>app ?_⟩⟩⟩⟩) fun v e he hE=>?_
  ·rw[e1,Aia J4];rfl
  ·rw[e1,AiZ J4,Hj,Aia IT];rfl
  ·rw[e1,AiZ J4,Hj,AiZ IT];rfl
  ·obtain⟨p5,n5,c5,rfl,_⟩:=hE;refine⟨_,_,_,_,_,rfl,fun _=>⟨fun J4=>app ?_,fun J4=>⟨fun _=>⟨fun IT=>app ?_,fun IT=>skip ?_⟩,fun hh=>(by cases hh)⟩⟩⟩
   ·rw[e1,Aia J4];rfl
   ·rw[e1,AiZ J4,he,Aia IT];rfl
   ·rw[e1,AiZ J4,he,AiZ IT];rfl
end
section
variable {σ σ' σ0:Hp}{R:Rr}
theorem Yo {n:Nd}{p q a px:Option Addr}{k c m d nx cx f:Nat}{cap:Array Value}{x:List El}{g:Int→Int×Bool}(VQ:AT 2 Aa σ px nx x)(bF:∀e∈x,Af e.ls)(hlen:x.length≤1000000000000)(Ut:Enters prog f)
  (hC:∀(σ2:Hp) (v:Int) (R':Rr),Ext σ σ2→R' (.T #[.U (g v).1,.bool (g v).2]) σ2→Spec prog f (#[]++#[.U v]++cap) σ2 R')
  (h:Lw R σ ((Co FF (JL n x g)).map fun l=>⟨2,0,l,[]⟩)):Spec prog 173 #[.pointer a,KD n p k c q m d,.slice px nx cx,.func (.func f) #[] cap] σ R:=by
 have NQ:x.length=nx:=VQ.1
 let f1:El→Option El:=fun x=>if BN n.op=false∨n.bool=true then some ⟨Bd x.ls,(g x.v).1⟩ else if(g x.v).2 then some x else none
 have hf:JL n x g=x.filterMap f1:=rfl;rw[hf]at h;refine Bk.start fun _ _=>?_
 suffices H:∀gg i:Nat,∀p8 n8 c8 σ',nx-i=gg→i≤nx→AL 2 Aa σ σ' p8 n8 c8 ((x.take i).filterMap f1)→Bk.B4 R (.func (.func f) #[] cap) n.kind n.op n.text p k c n.width n.back n.BW q m d n.bool n.parts 0 0 none 0 0 none 0 0 p8 n8 c8 px nx cx nx i σ' from H nx 0 none 0 0 σ rfl (AiR _) (AL.nil (.refl _))
 intro gg
 induction gg with
 | zero=>
  intro i p8 n8 c8 σ' hg hi ho;rw[AiQ (by omega)]at ho;have Tp:=ho.1.1;have h9:=Aif f1 x;exact Bk.Ap ⟨fun Aq=>by omega,fun _=>G5 ho (by omega) h.Zn⟩
 | succ gg ih=>
  intro i p8 n8 c8 σ' hg hi ho;have BF:i<nx:=by omega
  obtain⟨z,hz⟩:=VQ.ex BF;obtain⟨b1,o1,q1,m1,d1,rfl,QD,F1⟩:=Aa.at VQ hz;have Im:=bF z (AiM hz);have Tp:=ho.1.1;have h9:=Aif f1 (x.take i);rw[AiU]at h9;have next:∀tb p9 n9 c9 σ3,tb=n.bool→AL 2 Aa σ σ3 p9 n9 c9 ((x.take i).filterMap f1++(f1 z).toList)→Bk.N1 R (.func (.func f) #[] cap) n.kind n.op n.text p k c n.width n.back n.BW q m d tb n.parts 0 0 none 0 0 none 0 0 p9 n9 c9 (aD b1 o1) nx cx nx i σ3:=fun tb p9 n9 c9 σ3 uf DJ=>by
   subst uf;exact Bk.PW ⟨AJ BF VQ.big,ih (i+1) _ _ _ _ (by omega) (by omega) (by rw[Cj hz];exact DJ)⟩
  have e1:f1 z=if BN n.op=false∨n.bool=true then some ⟨Bd z.ls,(g z.v).1⟩ else if(g z.v).2 then some z else none:=rfl
  refine Bk.Ap ⟨fun _=>⟨b1,o1,rfl,by omega,q1,m1,d1,z.v,by simpa using QD.mono ho.up,fun _=>⟨f,#[],cap,rfl,Ut,hC σ' z.v _ ho.up ⟨_,_,rfl,Ej ⟨_,rfl,?_⟩⟩⟩⟩,fun hh=>by omega⟩;have bare:(BN n.op=false∨n.bool=true)→∀tb,tb=n.bool→Spec prog 162 #[.slice q1 m1 d1] σ' (BB R (CS fun p40 n40 c40 AI=>Al AI fun Zb=>AK prog (Builtin.append_ #[54,54] 54 #[.slice p8 n8 c8,(.slice (aD Zb 0) 1 1)]) (Hp.set AI Zb (.cells #[.slice p40 n40 c40,.U (g z.v).1] 59 (0,0))) (CS fun rv n44 c44 AU=>Bk.N1 R (.func (.func f) #[] cap) n.kind n.op n.text p k c n.width n.back n.BW q m d tb n.parts 0 0 none 0 0 none 0 0 rv n44 c44 (aD b1 o1) nx cx nx i AU))):=fun hc tb uf=>
   IE (F1.mono BL.mono ho.up) (Im.rd F1) fun p' n' c' σ3 SM BU=>⟨_,_,_,rfl,fun Zb AJz=>AL.el (ho.mono Aa.mono BU) (SM.mono BL.mono (ho.new BU)) (by omega) (fun p9 c9 σ5 KT _=>⟨_,_,_,rfl,next _ _ _ _ _ uf (by rw[e1,AiL hc];exact KT)⟩) AJz⟩
  refine⟨fun hcf=>bare (.inl hcf) _ rfl,fun hct=>⟨fun hb=>bare (.inr hb) _ hb.symm,fun hb=>⟨fun jI=>fun US zc=>?_,fun jI=>next _ _ _ _ _ hb.symm ?_⟩⟩⟩
  ·refine AL.el ho (F1.mono BL.mono ho.2) (by omega) (fun p9 c9 σ5 KT _=>⟨_,_,_,rfl,next _ _ _ _ _ hb.symm ?_⟩) zc;rw[e1,AiK (by rw[hct,hb];simp),AiL jI];exact KT
  ·rw[e1,AiK (by rw[hct,hb];simp),AiK (by rw[jI];simp)];simpa using ho
theorem dU {n:Nd}{p q a px py:Option Addr}{k c m d nx cx ny cy:Nat}{x y:List El}(hs:G6 1 σ q m (n.names.map .string))(VQ:AT 2 Aa σ px nx x)(hry:AT 2 Aa σ py ny y)(bF:∀e∈x,Af e.ls)(ZF:∀e∈y,Af e.ls)(hlen:x.length+y.length≤1000000000000)
  (h:Lw R σ (((Hl FF n x y).bind (Co FF)).map fun l=>⟨2,0,l,[]⟩)):Spec prog 177 #[.pointer a,KD n p k c q m d,.slice px nx cx,.slice py ny cy] σ R:=by
 have NQ:x.length=nx:=VQ.1;have SC:y.length=ny:=hry.1
 let f1:El→Option El:=fun e=>match Hk n y (D0 n e.ls) with
  | none=>none
  | some o=>if BN n.op=false∨n.bool=true then some ⟨D0 n e.ls,(FF.Mo n.op e.v o.v).1⟩ else if(FF.Mo n.op e.v o.v).2 then some e else none
 have hf:Hl FF n x y=if Lm n x&&Lm n y then some (x.filterMap f1) else none:=rfl
 rw[hf]at h;refine BH.start fun _ _=>M0 hs VQ bF fun mx σ1 hM1 Bc=>⟨_,_,rfl,M0 (hs.mono Bc) (hry.mono Aa.mono Bc) ZF fun my σ2 hM2 An=>⟨_,_,rfl,fun h1=>?_,fun h1=>⟨fun h2=>?_,fun h2=>?_⟩⟩⟩
 ·rw[h1]at h;exact h.no rfl _ (Bc.trans An)
 ·rw[h2,Ajl]at h;exact h.no rfl _ (Bc.trans An)
 rw[h1,h2]at h;have hX:=Bc.trans An
 replace h:Lw R σ2 ((Co FF (x.filterMap f1)).map fun l=>⟨2,0,l,[]⟩):=h.sW hX
 suffices H:∀gg i:Nat,∀p8 n8 c8 σ',nx-i=gg→i≤nx→AL 2 Aa σ2 σ' p8 n8 c8 ((x.take i).filterMap f1)→BH.Iy R n.kind n.op n.text p k c n.width n.back n.BW q m d n.bool n.parts 0 0 none 0 0 none 0 0 (some my) p8 n8 c8 px nx cx nx i σ' from H nx 0 none 0 0 σ2 rfl (AiR _) (AL.nil (.refl _))
 intro gg
 induction gg with
 | zero=>
  intro i p8 n8 c8 σ' hg hi ho;rw[AiQ (by omega)]at ho;have Tp:=ho.1.1;have h9:=Aif f1 x;exact BH.Gf ⟨fun Aq=>by omega,fun _=>G5 ho (by omega) h.Zn⟩
 | succ gg ih=>
  intro i p8 n8 c8 σ' hg hi ho;have BF:i<nx:=by omega
  obtain⟨z,hz⟩:=VQ.ex BF;obtain⟨b1,o1,q1,m1,d1,rfl,QD,F1⟩:=Aa.at VQ hz;have Im:=bF z (AiM hz);have Tp:=ho.1.1;have h9:=Aif f1 (x.take i);rw[AiU]at h9;have next:∀tb p9 n9 c9 σ3,tb=n.bool→AL 2 Aa σ2 σ3 p9 n9 c9 ((x.take i).filterMap f1++(f1 z).toList)→BH.Rj R n.kind n.op n.text p k c n.width n.back n.BW q m d tb n.parts 0 0 none 0 0 none 0 0 (some my) p9 n9 c9 (aD b1 o1) nx cx nx i σ3:=fun tb p9 n9 c9 σ3 uf DJ=>by
   subst uf;exact BH.cU ⟨AJ BF VQ.big,ih (i+1) _ _ _ _ (by omega) (by omega) (by rw[Cj hz];exact DJ)⟩
  have mH:=hX.trans ho.up;refine BH.Gf ⟨fun _=>⟨b1,o1,rfl,by omega,q1,m1,d1,z.v,by simpa using QD.mono mH,fun _=>Vz (F1.mono BL.mono mH) (Im.rd F1) (hs.mono mH) fun p' n' c' σ3 SM BU=>⟨_,_,_,rfl,ID (SM.mono BL.mono (Ext.B9 _ _)) Im.D0 fun σ4 JK=>⟨_,rfl,?_⟩⟩⟩,fun hh=>by omega⟩;have FW:=ho.mono Aa.mono (BU.trans JK);have hrk:Dy (σ4.del p8) p' n' (D0 n z.ls):=SM.mono BL.mono ((Ext.Jc JK).trans (ho.new (BU.trans JK)));have e1:f1 z=match DM (Zi n y) (EO (D0 n z.ls)) with
   | none=>none
   | some o=>if BN n.op=false∨n.bool=true then some ⟨D0 n z.ls,(A3 n.op z.v o.v).1⟩ else if(A3 n.op z.v o.v).2 then some z else none:=rfl
  refine MS.iw (hM2.mono (ho.up.trans (BU.trans JK))) mo (fun Hj=>⟨_,_,_,_,_,rfl,fun _=>⟨fun _=>next _ _ _ _ _ rfl ?_,fun hh=>(by cases hh)⟩⟩) fun v e he hE=>?_
  ·rw[e1,Hj];simpa using FW
  obtain⟨p5,n5,c5,rfl,_⟩:=hE;rw[he]at e1;dsimp only at e1;refine⟨_,_,_,_,_,rfl,fun _=>⟨fun hh=>(by cases hh),fun _=>KY ⟨_,_,rfl,Ej ⟨_,rfl,?_⟩⟩⟩⟩;have bare:(BN n.op=false∨n.bool=true)→∀tb,tb=n.bool→Al σ4 fun gh=>AK prog (Builtin.append_ #[54,54] 54 #[.slice p8 n8 c8,(.slice (aD gh 0) 1 1)]) (Hp.set σ4 gh (.cells #[.slice p' n' c',.U (A3 n.op z.v e.v).1] 59 (0,0))) (CS fun rH ZV rI Gi=>BH.Rj R n.kind n.op n.text p k c n.width n.back n.BW q m d tb n.parts 0 0 none 0 0 none 0 0 (some my) rH ZV rI (aD b1 o1) nx cx nx i Gi):=fun hc tb uf=>
   fun Zb AJz=>AL.el FW hrk (by omega) (fun p9 c9 σ5 KT _=>⟨_,_,_,rfl,next _ _ _ _ _ uf (by rw[e1,AiL hc];exact KT)⟩) AJz
  refine⟨fun hcf=>bare (.inl hcf) _ rfl,fun hct=>⟨fun hb=>bare (.inr hb) _ hb.symm,fun hb=>⟨fun jI=>fun US zc=>?_,fun jI=>next _ _ _ _ _ hb.symm ?_⟩⟩⟩
  ·refine AL.el FW (F1.mono BL.mono (hX.trans FW.2)) (by omega) (fun p9 c9 σ5 KT _=>⟨_,_,_,rfl,next _ _ _ _ _ hb.symm ?_⟩) zc;rw[e1,AiK (by rw[hct,hb];simp),AiL jI];exact KT
  ·rw[e1,AiK (by rw[hct,hb];simp),AiK (by rw[jI];simp)];simpa using FW
end
theorem AJ0:∀w,(Go.sizeOf 97).run prog w=.ok 4 w:=fun w=>by kernel_rfl
abbrev et (x:Vv)(p:Option Addr)(n c:Nat)(q:Option Addr)(m d:Nat):Array Value:=#[.I x.kind,.U x.v,.slice p n c,.slice q m d]
abbrev ndC (n:Nd)(p:Option Addr)(k c:Nat)(q:Option Addr)(m d:Nat):Array Value:=#[.I n.kind,.I n.op,.string n.text,.slice p k c,.I n.width,.I n.back,.I n.BW,.slice q m d,.bool n.bool,.I n.parts]
section
variable {σ σ' σ0:Hp}{R:Rr}
theorem Yp {b:Nat}{c:Array Value}{v0 v1 v2 v3:Value}{Φ:Unit→Hp→Prop}(hc:c.size=4)(hb:σ b=some (.cells c 97 (0,0)))(h1:∀u∈[v0,v1,v2,v3],u.oneCell'=true)(hv:(Value.agg #[v0,v1,v2,v3]).cells=#[v0,v1,v2,v3])
  (h:Φ () (σ.set b (.cells #[v0,v1,v2,v3] 97 (0,0)))):AK prog (Instr.storeAt 97 (.pointer (some ⟨b,0,none⟩)) (.agg #[v0,v1,v2,v3])) σ Φ:=by
 refine AK.store AJ0 hb (by rw[hv];rfl) (by omega) (by rw[hv];simpa using h1) ?_;rw[hv,SF (by rw[hc];rfl)];exact h
theorem Ae.BY {b:Nat}{c:List Value}{T:TypeId}(h:σ b=some (.cells c.toArray T (0,0))):Ae σ b 0 c:=Ae.of fun j v hj=>by
 rw[AjV];exact Aj h (by simpa using hj)
theorem zd {n:Nd}{p q a l:Option Addr}{k c m d j e:Nat}{L:List Vv}{x y:Vv}(hs:G6 1 σ q m (n.names.map .string))(hr:AT 4 Q6 σ l j L)(hx:L[0]?=some x)(hy:L[1]?=some y)(hVx:sf x)(hVy:sf y)(h:Lw R σ (Zj FF n x y)):
  Spec prog 125 #[.pointer a,KD n p k c q m d,.slice l j e] σ R:=by
 have hj:1<j:=by have h1:L.length=j:=hr.1;have:=(List.getElem?_eq_some_iff.1 hy).1;omega
 obtain⟨b,o,px,nx,cx,qx,mx,dx,rfl,h1,h2,h3,h4,h5,h6⟩:=Q6.at hr hx;obtain⟨_,_,py,ny,cy,qy,my,dy,he,g1,g2,g3,g4,g5,g6⟩:=Q6.at hr hy;cases he;simp only[AjS,AjH,Nat.one_mul]at h1 h2 h3 h4 g1 g2 g3 g4;have NQ:=hVx.len;have SC:=hVy.len;have bF:=fun z hz=>(hVx.el z hz).1;have ZF:=fun z hz=>(hVy.el z hz).1;refine FP.start fun b4 hb4 _=>?_;have x4:=Ext.set (o:=.cells (ndC n p k c q m d) 44 (0,0)) hb4;have c4:=Hp.AA σ b4 (.cells (ndC n p k c q m d) 44 (0,0));generalize AJ1:σ.set b4 (.cells (ndC n p k c q m d) 44 (0,0))=σ4 at *;refine⟨b,o,rfl,by omega,x.kind,x.v,px,nx,cx,qx,mx,dx,⟨x4.ld h1,x4.ld h2,x4.ld h3,x4.ld h4,trivial⟩,by omega,y.kind,y.v,py,ny,cy,qy,my,dy,⟨x4.ld g1,x4.ld g2,x4.ld g3,x4.ld g4,trivial⟩,fun b8 hb8 b9 hb9=>?_,fun b9 hb9 b8 hb8=>?_⟩
 focus
  have n8:b8≠b9:=fun e=>by rw[e,Hp.AA]at hb9;cases hb9
  have n9:=(Hp.C9 hb9).2;have nb:∀k o,σ4 k=some o→k≠b8∧k≠b9:=fun k o hk=>⟨fun e=>(by rw[e,hb8]at hk;cases hk),fun e=>(by rw[e,n9]at hk;cases hk)⟩;refine Yp rfl (by rw[Hp.AM n8];exact Hp.AA _ _ _) (by simp[Value.oneCell']) rfl ?_;refine⟨fun kb J3 u hu=>?_,Yp rfl (by rw[Hp.AM (AjI n8)];exact Hp.AA _ _ _) (by simp[Value.oneCell']) rfl ?_⟩
  ·rw[AiY]at J3;subst J3;have fF:∃u,σ4 kb=some u:=by
    have:=x4.ld h1;unfold Hp.ld at this;cases hq:σ4 kb with
    | none=>rw[hq]at this;cases this
    | some u=>exact⟨u,rfl⟩
   obtain⟨u',EG⟩:=fF;rw[Hp.AM (nb _ _ EG).1];exact hu
  have F8:((((σ4.set b8 (.cells #[.I 0,.U 0,.N,.N] 97 (0,0))).set b9 (.cells #[.I 0,.U 0,.N,.N] 97 (0,0))).set b8 (.cells (et x px nx cx qx mx dx) 97 (0,0))).set b9 (.cells (et y py ny cy qy my dy) 97 (0,0))) b8=some (.cells (et x px nx cx qx mx dx) 97 (0,0)):=by rw[Hp.AM n8,Hp.AA]
  have F9:=Hp.AA (((σ4.set b8 (.cells #[.I 0,.U 0,.N,.N] 97 (0,0))).set b9 (.cells #[.I 0,.U 0,.N,.N] 97 (0,0))).set b8 (.cells (et x px nx cx qx mx dx) 97 (0,0))) b9 (.cells (et y py ny cy qy my dy) 97 (0,0));have X2:Ext σ4 ((((σ4.set b8 (.cells #[.I 0,.U 0,.N,.N] 97 (0,0))).set b9 (.cells #[.I 0,.U 0,.N,.N] 97 (0,0))).set b8 (.cells (et x px nx cx qx mx dx) 97 (0,0))).set b9 (.cells (et y py ny cy qy my dy) 97 (0,0))):=fun k o hk=>by
   obtain⟨a1,a2⟩:=nb k o hk;rw[Hp.AM a2,Hp.AM a1,Hp.AM a2,Hp.AM a1];exact hk
  generalize ((((σ4.set b8 (.cells #[.I 0,.U 0,.N,.N] 97 (0,0))).set b9 (.cells #[.I 0,.U 0,.N,.N] 97 (0,0))).set b8 (.cells (et x px nx cx qx mx dx) 97 (0,0))).set b9 (.cells (et y py ny cy qy my dy) 97 (0,0)))=y2 at *
 rotate_left
 focus
  have n8:b9≠b8:=fun e=>by rw[e,Hp.AA]at hb8;cases hb8
  have n9:=(Hp.C9 hb8).2;have nb:∀k o,σ4 k=some o→k≠b8∧k≠b9:=fun k o hk=>⟨fun e=>(by rw[e,n9]at hk;cases hk),fun e=>(by rw[e,hb9]at hk;cases hk)⟩;refine Yp rfl (Hp.AA _ _ _) (by simp[Value.oneCell']) rfl ?_;refine⟨fun kb J3 u hu=>?_,Yp rfl (by rw[Hp.AM n8,Hp.AM n8];exact Hp.AA _ _ _) (by simp[Value.oneCell']) rfl ?_⟩
  ·rw[AiY]at J3;subst J3;have fF:∃u,σ4 kb=some u:=by
    have:=x4.ld h1;unfold Hp.ld at this;cases hq:σ4 kb with
    | none=>rw[hq]at this;cases this
    | some u=>exact⟨u,rfl⟩
   obtain⟨u',EG⟩:=fF;rw[Hp.AM (nb _ _ EG).1];exact hu
  have F8:((((σ4.set b9 (.cells #[.I 0,.U 0,.N,.N] 97 (0,0))).set b8 (.cells #[.I 0,.U 0,.N,.N] 97 (0,0))).set b8 (.cells (et x px nx cx qx mx dx) 97 (0,0))).set b9 (.cells (et y py ny cy qy my dy) 97 (0,0))) b8=some (.cells (et x px nx cx qx mx dx) 97 (0,0)):=by rw[Hp.AM (AjI n8),Hp.AA]
  have F9:=Hp.AA (((σ4.set b9 (.cells #[.I 0,.U 0,.N,.N] 97 (0,0))).set b8 (.cells #[.I 0,.U 0,.N,.N] 97 (0,0))).set b8 (.cells (et x px nx cx qx mx dx) 97 (0,0))) b9 (.cells (et y py ny cy qy my dy) 97 (0,0));have X2:Ext σ4 ((((σ4.set b9 (.cells #[.I 0,.U 0,.N,.N] 97 (0,0))).set b8 (.cells #[.I 0,.U 0,.N,.N] 97 (0,0))).set b8 (.cells (et x px nx cx qx mx dx) 97 (0,0))).set b9 (.cells (et y py ny cy qy my dy) 97 (0,0))):=fun k o hk=>by
   obtain⟨a1,a2⟩:=nb k o hk;rw[Hp.AM a2,Hp.AM a1,Hp.AM a1,Hp.AM a2];exact hk
  generalize ((((σ4.set b9 (.cells #[.I 0,.U 0,.N,.N] 97 (0,0))).set b8 (.cells #[.I 0,.U 0,.N,.N] 97 (0,0))).set b8 (.cells (et x px nx cx qx mx dx) 97 (0,0))).set b9 (.cells (et y py ny cy qy my dy) 97 (0,0)))=y2 at *
 all_goals
  have F4:=X2 _ _ c4;have X:=x4.trans X2;have F4':=Ae.BY (c:=[.I n.kind,.I n.op,.string n.text,.slice p k c,.I n.width,.I n.back,.I n.BW,.slice q m d,.bool n.bool,.I n.parts]) F4;have hn:=h.sW X;unfold Zj at hn;refine⟨x.kind,Aj F8 rfl,fun sj=>⟨y.kind,Aj F9 rfl,fun uF=>?_,fun uF=>?_⟩,fun sj=>?_⟩
  ·rw[AiL ⟨sj,uF⟩]at hn;exact⟨_,_,_,_,_,_,_,_,_,_,_,_,_,_,F4',x.v,Aj F8 rfl,y.v,Aj F9 rfl,KY ⟨_,_,rfl,hn.ok _ y2 none 0 0 none 0 0 rfl (.refl _) AT.nil AT.nil (AiV _) (AiV _)⟩⟩
  ·rw[AiK (fun hh=>uF hh.2),AiL sj]at hn;refine⟨x.kind,Aj F8 rfl,fun _=>⟨_,_,_,_,_,_,_,_,_,_,_,_,_,_,F4',py,ny,cy,Aj F9 rfl,Yo (g:=fun v=>A3 n.op x.v v) (g5.mono Aa.mono X) ZF (by omega) Fp.en (fun σ2 v R' An RN=>?_) hn.Zn⟩,fun hh=>absurd sj hh⟩;exact Fp.start ⟨_,_,_,_,_,_,_,_,_,_,_,_,_,_,F4'.mono An,x.v,Aj (An _ _ F8) rfl,KY ⟨_,_,rfl,RN⟩⟩
  ·rw[AiK (fun hh=>sj hh.1),AiK sj]at hn;refine⟨x.kind,Aj F8 rfl,fun hh=>absurd hh sj,fun _=>⟨y.kind,Aj F9 rfl,fun uF=>?_,fun uF=>⟨n.op,Aj F4 rfl,Up ⟨_,rfl,fun E2=>?_,fun E2=>?_⟩⟩⟩⟩
   ·rw[AiL uF]at hn;refine⟨_,_,_,_,_,_,_,_,_,_,_,_,_,_,F4',px,nx,cx,Aj F8 rfl,Yo (g:=fun v=>A3 n.op v y.v) (h5.mono Aa.mono X) bF (by omega) Fu.en (fun σ2 v R' An RN=>?_) hn.Zn⟩;exact Fu.start ⟨_,_,_,_,_,_,_,_,_,_,_,_,_,_,F4'.mono An,y.v,Aj (An _ _ F9) rfl,KY ⟨_,_,rfl,RN⟩⟩
   ·rw[AiK uF,AiL (AiP E2)]at hn;exact⟨_,_,_,_,_,_,_,_,_,_,_,_,_,_,F4',px,nx,cx,Aj F8 rfl,py,ny,cy,Aj F9 rfl,si (hs.mono X) (h5.mono Aa.mono X) (g5.mono Aa.mono X) bF ZF (by omega) hn.Zn⟩
   ·rw[AiK uF,AiK (Aio E2)]at hn;exact⟨_,_,_,_,_,_,_,_,_,_,_,_,_,_,F4',px,nx,cx,Aj F8 rfl,py,ny,cy,Aj F9 rfl,dU (hs.mono X) (h5.mono Aa.mono X) (g5.mono Aa.mono X) bF ZF (by omega) hn.Zn⟩
end
structure GR where
 b:Nat
 lp:Option Addr
 ln:Nat
 lc:Nat
 vp:Option Addr
 vn:Nat
 vc:Nat
def GR.cl (r:GR):List Nat:=r.b::WK r.vp
def GR.cell (r:GR):Obj:=.cells #[.slice r.lp r.ln r.lc,.slice r.vp r.vn r.vc] 200 (0,0)
def Hq:List Rg→List GR→List (ByteArray×Nat)
 | g::gs,r::rs=>(EO g.ls,r.b)::Hq gs rs
 | _,_=>[]
structure GS (τ σ:Hp)(m:Nat)(op:Option Addr)(on oc:Nat)(rs:List GR)(gs:List Rg):Prop where
 len:rs.length=gs.length
 map:MS (fun v b=>v=.pointer (aD b 0)) σ m (Hq gs rs)
 ord:Au 1 σ op on oc (rs.map fun r=>.pointer (aD r.b 0))
 box:∀(i:Nat) (r:GR) (g:Rg),rs[i]?=some r→gs[i]?=some g→σ r.b=some r.cell∧Dy τ r.lp r.ln g.ls∧EJ .u64 σ r.vp r.vn r.vc g.vs
 om:∀a,op=some a→a.block≠m∧τ a.block=none
 dm:∀(i:Nat) (r:GR),rs[i]?=some r→∀k∈r.cl,k≠m∧(∀a,op=some a→k≠a.block)∧τ k=none
 vb:∀(i:Nat) (r:GR),rs[i]?=some r→∀a,r.vp=some a→a.block≠r.b
 dr:∀(i j:Nat) (r r':GR),i≠j→rs[i]?=some r→rs[j]?=some r'→∀k∈r.cl,k ∉ r'.cl
 tm:τ m=none
 ext:Ext τ σ
theorem ADD:∀w,(Go.sizeOf 163).run prog w=.ok 1 w:=fun w=>by kernel_rfl
theorem ADE {p:Option Addr}{k:Nat}:k∈WK p↔∃a,p=some a∧k=a.block:=by
 cases p with
 | none=>simp[WK]
 | some a=>simp[WK]
theorem M1 {r:GR}{k:Nat}:k∈r.cl↔k=r.b∨∃a,r.vp=some a∧k=a.block:=by
 unfold GR.cl;rw[AiT,ADE]
theorem Au.of_eq {s:Nat}{σ σ':Hp}{p:Option Addr}{n c:Nat}{cs:List Value}(ho:Au s σ p n c cs)(h:∀a,p=some a→σ' a.block=σ a.block):Au s σ' p n c cs:=
 ⟨ho.1,ho.2.1,ho.2.2.imp id fun⟨b',o',arr,T,hp,hb,r⟩=>⟨b',o',arr,T,hp,by rw[h _ hp];exact hb,r⟩⟩
theorem bG:∀{gs:List Rg} {rs:List GR} {i:Nat} {g g':Rg} {r r':GR},gs[i]?=some g→rs[i]?=some r→g'.ls=g.ls→r'.b=r.b→Hq (gs.set i g') (rs.set i r')=Hq gs rs
 | [],_,i,_,_,_,_,hg,_,_,_=>by simp at hg
 | _::_,[],i,_,_,_,_,_,hr,_,_=>by simp at hr
 | a::gs,b::rs,0,g,g',r,r',hg,hr,h1,h2=>by
  simp only[Aim,AiO]at hg hr;subst hg;subst hr;simp only[List.set_cons_zero,Hq,h1,h2]
 | a::gs,b::rs,i+1,g,g',r,r',hg,hr,h1,h2=>by
  simp only[List.set_cons_succ,Hq];rw[bG (by simpa using hg) (by simpa using hr) h1 h2]
theorem bH:∀{gs:List Rg} {rs:List GR} {g:Rg} {r:GR},rs.length=gs.length→Hq (gs++[g]) (rs++[r])=Hq gs rs++[(EO g.ls,r.b)]
 | [],[],g,r,_=>rfl
 | [],_::_,g,r,h=>by simp at h
 | _::_,[],g,r,h=>by simp at h
 | a::gs,b::rs,g,r,h=>by
  simp only[Ai1,Hq];rw[bH (by simpa using h)]
theorem Yq:∀{gs:List Rg} {rs:List GR} {ls:List Lb} {v:Int} {b:Nat},rs.length=gs.length→DM (Hq gs rs) (EO ls)=some b→∃(i:Nat) (g:Rg) (r:GR),gs[i]?=some g∧rs[i]?=some r∧r.b=b∧D6 ls v gs=gs.set i ⟨g.ls,g.vs++[v]⟩
 | [],_,ls,v,b,_,h=>by simp[Hq,DM]at h
 | _::_,[],ls,v,b,hl,h=>by simp at hl
 | g::gs,r::rs,ls,v,b,hl,h=>by
  unfold Hq DM at h;by_cases hk:EO g.ls=EO ls
  ·rw[AiL hk]at h;exact⟨0,g,r,rfl,rfl,by simpa using h,by unfold D6;rw[AiL hk];rfl⟩
  ·rw[AiK hk]at h;obtain⟨i,g',r',h1,h2,h3,h4⟩:=Yq (v:=v) (by simpa using hl) h;exact⟨i+1,g',r',by simpa using h1,by simpa using h2,h3,by unfold D6;rw[AiK hk,h4];rfl⟩
theorem Yr:∀{gs:List Rg} {rs:List GR} {ls:List Lb} {v:Int},rs.length=gs.length→DM (Hq gs rs) (EO ls)=none→D6 ls v gs=gs++[⟨ls,[v]⟩]∧∀a∈Hq gs rs,a.1≠EO ls
 | [],_,ls,v,_,h=>⟨rfl,fun a ha=>by simp[Hq]at ha⟩
 | _::_,[],ls,v,hl,h=>by simp at hl
 | g::gs,r::rs,ls,v,hl,h=>by
  unfold Hq DM at h;by_cases hk:EO g.ls=EO ls
  ·rw[AiL hk]at h;cases h
  ·rw[AiK hk]at h;obtain⟨h1,h2⟩:=Yr (v:=v) (by simpa using hl) h;refine⟨by unfold D6;rw[AiK hk,h1];rfl,fun a ha=>?_⟩;unfold Hq at ha;rcases AiT.1 ha with rfl|ha
   ·exact hk
   ·exact h2 a ha
section
variable {τ σ σ' σ0:Hp}{R:Rr}{m on oc:Nat}{op:Option Addr}{rs:List GR}{gs:List Rg}
theorem GS.known (h:GS τ σ m op on oc rs gs){i:Nat}{r:GR}(hr:rs[i]?=some r):∀k∈r.cl,∃u,σ k=some u:=fun k hk=>by
 have Aq:=(List.getElem?_eq_some_iff.1 hr).1;obtain⟨g,hg⟩:∃g,gs[i]?=some g:=⟨_,AiN (by rw[←h.len];exact Aq)⟩;obtain⟨h1,_,h3⟩:=h.box i r g hr hg;rcases M1.1 hk with rfl|⟨a,ha,rfl⟩
 ·exact⟨_,h1⟩
 ·have:=Au.block h3 a ha;cases hh:σ a.block with
  | none=>exact absurd hh this
  | some u=>exact⟨u,rfl⟩
theorem GS.grow (h:GS τ σ m op on oc rs gs)(hx:Ext σ σ'):∃τ',GS τ' σ' m op on oc rs gs∧Ext τ τ'∧Ext (σ.new σ') τ':=by
 have ht:Ext τ (τ.or (σ.new σ')):=Ext.mG _ _;have kn:∀k,(∃u,σ k=some u)→τ k=none→(τ.or (σ.new σ')) k=none:=fun k ⟨u,hu⟩ hk=>by
  rw[Hp.R7 hk];cases hh:(σ.new σ') k with
  | none=>rfl
  | some v=>rw[(AR.1 hh).1]at hu;cases hu
 have ne:∀k,σ k≠none→∃u,σ k=some u:=fun k hk=>by
  cases hh:σ k with
  | none=>exact absurd hh hk
  | some u=>exact⟨u,rfl⟩
 refine⟨τ.or (σ.new σ'),⟨h.len,h.map.mono hx,h.ord.mono hx,fun i r g hr hg=>?_,fun a ha=>⟨(h.om a ha).1,kn _ (ne _ (h.ord.block a ha)) (h.om a ha).2⟩,fun i r hr k hk=>?_,h.vb,h.dr,kn _ (ne _ h.map.known) h.tm,?_⟩,ht,?_⟩
 ·obtain⟨h1,h2,h3⟩:=h.box i r g hr hg;exact⟨hx _ _ h1,h2.mono BL.mono ht,h3.mono hx⟩
 ·obtain⟨h1,h2,h3⟩:=h.dm i r hr k hk;exact⟨h1,h2,kn k (h.known hr k hk) h3⟩
 ·exact Ext.YQ (h.ext.trans hx) (Ext.B9 _ _)
 ·refine Ext.R7 fun k hk=>?_;cases hh:τ k with
  | none=>rfl
  | some u=>
   have h1:=h.ext _ _ hh;cases h2:(σ.new σ') k with
   | none=>exact absurd h2 hk
   | some v=>rw[(AR.1 h2).1]at h1;cases h1
theorem GS.push {i:Nat}{r:GR}{g:Rg}{v:Int}(h:GS τ σ m op on oc rs gs)(hr:rs[i]?=some r)(hg:gs[i]?=some g)(hb:r.vn≤1000000000000){Φ:Hp→Prop}
  (hΦ:∀σ' r',GS τ σ' m op on oc (rs.set i r') (gs.set i ⟨g.ls,g.vs++[v]⟩)→Φ σ') :
  Al σ fun b69=>AK prog (Builtin.append_ #[163,163] 163 #[.slice r.vp r.vn r.vc,(.slice (aD b69 0) 1 1)]) (Hp.set σ b69 (.cells #[.U v] 57 (0,0))) (CS fun p70 n70 c70 y=>AK prog (Instr.storeAt 163 (.pointer (aD r.b 1)) (.slice p70 n70 c70)) y (fun _ AB=>Φ AB)):=fun b69 AYW=>by
 obtain⟨h1,h2,h3⟩:=h.box i r g hr hg;have hil:=(List.getElem?_eq_some_iff.1 hr).1;have hig:=(List.getElem?_eq_some_iff.1 hg).1;have x1:=Ext.set (o:=.cells #[.U v] 57 (0,0)) AYW;refine DT (Au.mono x1 h3) (YT (f:=.int .u64) (x:=v) (Hp.AA _ _ _)) G7.VZ (by omega) fun vp' vc' σ2 A6 An=>⟨_,_,_,rfl,?_⟩;have hvb:=h.vb i r hr;have NI:∀k u,σ k=some u→(∀a,r.vp=some a→k≠a.block)→σ2 k=some u∧∀a,vp'=some a→k≠a.block:=fun k u hk Ah=>by
  obtain⟨a1,a2⟩:=AN.1 (An k u (AN.2 ⟨Ah,x1 _ _ hk⟩));exact⟨a2,a1⟩
 obtain⟨c1,c2⟩:=NI r.b _ h1 fun a ha e=>hvb a ha e.symm;refine AK.store ADD c1 rfl (by simp) (by simp[Value.cells,Value.oneCell']) ?_
 let r':GR:=⟨r.b,r.lp,r.ln,r.lc,vp',r.vn+1,vc'⟩
 have Zy:(Obj.cells (Qp #[.slice r.lp r.ln r.lc,.slice r.vp r.vn r.vc] 1 (Value.slice vp' (r.vn+1) vc').cells.toList) 200 (0,0))=r'.cell:=by simp[Qp,Value.cells,GR.cell,r']
 rw[Zy];have T:∀k u,σ k=some u→k ∉ r.cl→(σ2.set r.b r'.cell) k=some u∧k ∉ r'.cl:=fun k u hk oC=>by
  have zG:k≠r.b:=fun e=>oC (M1.2 (.inl e));obtain⟨a1,a2⟩:=NI k u hk fun a ha e=>oC (M1.2 (.inr ⟨a,ha,e⟩));exact⟨by rw[Hp.AM zG];exact a1,fun hc=>by
   rcases M1.1 hc with e|⟨a,ha,e⟩
   ·exact zG e
   ·exact a2 a ha e⟩
 have TK:∀k,(∃u,σ k=some u)→k ∉ r.cl→(σ2.set r.b r'.cell) k=σ k∧k ∉ r'.cl:=fun k ⟨u,hu⟩ oC=>⟨by rw[(T k u hu oC).1,hu],(T k u hu oC).2⟩;have ne:∀k,σ k≠none→∃u,σ k=some u:=fun k hk=>by
  cases hh:σ k with
  | none=>exact absurd hh hk
  | some u=>exact⟨u,rfl⟩
 have mk:=TK m (ne _ h.map.known) fun hc=>(h.dm i r hr m hc).1 rfl;have ok:∀a,op=some a→(σ2.set r.b r'.cell) a.block=σ a.block∧a.block ∉ r'.cl:=fun a ha=>TK _ (ne _ (h.ord.block a ha)) fun hc=>(h.dm i r hr _ hc).2.1 a ha rfl;have jk:∀j s,j≠i→rs[j]?=some s→∀k∈s.cl,(σ2.set r.b r'.cell) k=σ k∧k ∉ r'.cl:=fun j s hj hs k hk=>TK k (h.known hs k hk) (h.dr j i s r hj hs hr k hk);have kH:∀j s,(rs.set i r')[j]?=some s→(j=i∧s=r')∨(j≠i∧rs[j]?=some s):=fun j s hs=>by
  by_cases hj:j=i
  ·subst hj;rw[Aix hil]at hs;exact .inl ⟨rfl,by simpa using hs.symm⟩
  ·rw[Aiz (AjI hj)]at hs;exact .inr ⟨hj,hs⟩
 refine hΦ _ r' ⟨by simp[h.len],?_,?_,fun j s t hs ht=>?_,fun a ha=>h.om a ha,fun j s hs k hk=>?_,fun j s hs a ha=>?_,fun j l s s' hjl hs Va k hk=>?_,h.tm,fun k u hk=>?_⟩
 ·rw[bG (g':=⟨g.ls,g.vs++[v]⟩) (r':=r') hg hr rfl rfl];exact h.map.loc mk.1
 ·have:(rs.set i r').map (fun r=>Value.pointer (aD r.b 0))=rs.map fun r=>Value.pointer (aD r.b 0):=by
   rw[List.map_set];obtain⟨_,e⟩:=List.getElem?_eq_some_iff.1 hr;have:Value.pointer (aD r'.b 0)=(rs.map fun r=>Value.pointer (aD r.b 0))[i]'(by simpa using hil):=by simp[e,r']
   rw[this,List.set_getElem_self]
  rw[this];exact Au.of_eq h.ord fun a ha=>(ok a ha).1
 ·rcases kH j s hs with ⟨rfl,rfl⟩|⟨hj,Va⟩
  ·rw[Aix hig]at ht;cases ht;refine⟨Hp.AA _ _ _,h2,?_⟩;have:=Au.AM (b:=r.b) (o:=r'.cell) A6 (fun a ha e=>c2 a ha e.symm);unfold EJ;rw[Aiq];exact this
  ·rw[Aiz (AjI hj)]at ht;obtain⟨a1,a2,a3⟩:=h.box j s t Va ht;refine⟨?_,a2,Au.of_eq a3 fun a ha=>(jk j s hj Va _ (M1.2 (.inr ⟨a,ha,rfl⟩))).1⟩;rw[(jk j s hj Va _ (M1.2 (.inl rfl))).1];exact a1
 ·rcases kH j s hs with ⟨rfl,rfl⟩|⟨hj,Va⟩
  ·refine⟨fun e=>mk.2 (e▸hk),fun a ha e=>(ok a ha).2 (e▸hk),?_⟩;cases hq:τ k with
   | none=>rfl
   | some u=>exact absurd hk (T k u (h.ext _ _ hq) fun hc=>by rw[(h.dm j r hr k hc).2.2]at hq;cases hq).2
  ·exact h.dm j s Va k hk
 ·rcases kH j s hs with ⟨rfl,rfl⟩|⟨hj,Va⟩
  ·exact fun e=>c2 a ha e.symm
  ·exact h.vb j s Va a ha
 ·rcases kH j s hs with ⟨rfl,rfl⟩|⟨hj,Im⟩
  ·rcases kH l s' Va with ⟨rfl,rfl⟩|⟨hl,hs2⟩
   ·exact absurd rfl hjl
   ·exact fun hc=>(jk l s' hl hs2 k hc).2 hk
  ·rcases kH l s' Va with ⟨rfl,rfl⟩|⟨hl,hs2⟩
   ·exact(jk j s hj Im k hk).2
   ·exact h.dr j l s s' hjl Im hs2 k hk
 ·exact(T k u (h.ext _ _ hk) fun hc=>by rw[(h.dm i r hr k hc).2.2]at hk;cases hk).1
end
theorem ADG:∀w,(zeroValue 210).run prog w=.ok (.pointer none) w:=fun w=>by
 have h:prog.info? 210=some t210:=by kernel_rfl
 simp[zeroValue,typeInfo,h];rfl
theorem ADH:∀w,(zeroValue 211).run prog w=.ok .nilFunc w:=fun w=>by
 have h:prog.info? 211=some t211:=by kernel_rfl
 simp[zeroValue,typeInfo,h];rfl
section
variable {τ σ σ' σ0:Hp}{R:Rr}{m on oc:Nat}{op:Option Addr}{rs:List GR}{gs:List Rg}
theorem GS.mono (h:GS τ σ m op on oc rs gs)(hx:Ext σ σ'):GS τ σ' m op on oc rs gs:=
 ⟨h.len,h.map.mono hx,h.ord.mono hx,fun i r g hr hg=>let ⟨h1,h2,h3⟩:=h.box i r g hr hg;⟨hx _ _ h1,h2,h3.mono hx⟩,h.om,h.dm,h.vb,h.dr,h.tm,h.ext.trans hx⟩
theorem GS.add {ls:List Lb}{lp:Option Addr}{ln lc:Nat}(h:GS τ σ m op on oc rs gs)(Cg:∀a∈Hq gs rs,a.1≠EO ls)(hr:Dy τ lp ln ls)(TD:Af ls)(hon:on≤1000000000000){Φ:Nat→Option Addr→Nat→Nat→Hp→Prop}
  (hΦ:∀b op' oc' σ',GS τ σ' m op' (on+1) oc' (rs++[⟨b,lp,ln,lc,none,0,0⟩]) (gs++[⟨ls,[]⟩])→Φ b op' (on+1) oc' σ') :
  Al σ fun Q1=>Spec prog 39 #[.slice lp ln lc] (Hp.set σ Q1 (.cells #[.slice lp ln lc,.N] 200 (0,0))) (BB R (CT fun s56 AI=>AK prog (Instr.mapUpdate 207 (.map (some m)) (.string s56) (.pointer (aD Q1 0))) AI (fun _ AU=>Al AU fun b60=>AK prog (Builtin.append_ #[208,208] 208 #[.slice op on oc,(.slice (aD b60 0) 1 1)]) (Hp.set AU b60 (.cells #[(.pointer (aD Q1 0))] 210 (0,0))) (CS fun pA n61 pB DI=>Φ Q1 pA n61 pB DI)))):=fun Q1 ze=>by
 have x1:=Ext.set (o:=.cells #[.slice lp ln lc,.N] 200 (0,0)) ze;have tb:τ Q1=none:=Am h.ext ze;have ne:∀k,σ k≠none→∃u,σ k=some u:=fun k hk=>by
  cases hh:σ k with
  | none=>exact absurd hh hk
  | some u=>exact⟨u,rfl⟩
 have nem:Q1≠m:=fun e=>h.map.known (by rw[←e];exact ze);have neo:∀a,op=some a→Q1≠a.block:=fun a ha e=>h.ord.block a ha (by rw[←e];exact ze);have ncl:∀(i:Nat) (r:GR),rs[i]?=some r→Q1 ∉ r.cl:=fun i r hr hc=>by obtain⟨u,hu⟩:=h.known hr _ hc;rw[ze]at hu;cases hu
 refine ID (hr.mono BL.mono (h.ext.trans x1)) TD fun σ2 An=>⟨_,rfl,?_⟩;have h2:=h.mono (x1.trans An);have c2:=An _ _ (Hp.AA σ Q1 (.cells #[.slice lp ln lc,.N] 200 (0,0)));refine h2.map.put (x:=Q1) rfl fun o hM=>fun b60 ASW=>?_;rw[Tl Cg]at hM;have AYZ:Au 1 (σ2.set m o) op on oc (rs.map fun r=>.pointer (aD r.b 0)):=Au.of_eq h2.ord fun a ha=>Hp.AM (h.om a ha).1;refine DT (AYZ.mono (.set ASW)) (YT (f:=fun v=>v) (x:=.pointer (aD Q1 0)) (Hp.AA _ _ _)) (fun u hu=>by simp at hu;subst hu;rfl) (by omega) fun op' oc' σ5 KT Sv=>⟨_,_,_,rfl,?_⟩;have T:∀k u,(σ2.set m o) k=some u→(∀a,op=some a→k≠a.block)→σ5 k=some u∧∀a,op'=some a→k≠a.block:=fun k u hk Ah=>by
  obtain⟨a1,a2⟩:=AN.1 (Sv k u (AN.2 ⟨Ah,(Ext.set ASW) _ _ hk⟩));exact⟨a2,a1⟩
 have T2:∀k u,σ2 k=some u→k≠m→(∀a,op=some a→k≠a.block)→σ5 k=some u∧∀a,op'=some a→k≠a.block:=fun k u hk hkm=>T k u (by rw[Hp.AM hkm];exact hk);have Tr:∀(i:Nat) (r:GR),rs[i]?=some r→∀k∈r.cl,σ5 k=σ2 k∧∀a,op'=some a→k≠a.block:=fun i r hr k hk=>by
  obtain⟨u,hu⟩:=h2.known hr k hk;obtain⟨d1,d2,_⟩:=h.dm i r hr k hk;obtain⟨a1,a2⟩:=T2 k u hu d1 d2;exact⟨by rw[a1,hu],a2⟩
 have sP:∃u,(σ2.set m o) m=some u:=⟨_,Hp.AA _ _ _⟩;obtain⟨um,hum⟩:=sP;obtain⟨m1,m2⟩:=T m um hum fun a ha e=>(h.om a ha).1 e.symm;have kH:∀(i:Nat) (r:GR),(rs++[(⟨Q1,lp,ln,lc,none,0,0⟩:GR)])[i]?=some r→rs[i]?=some r∨(i=rs.length∧r=⟨Q1,lp,ln,lc,none,0,0⟩):=fun i r hr=>by
  rw[AjD]at hr;split at hr
  ·exact .inl hr
  ·rename_i Aq;have AYa:=(List.getElem?_eq_some_iff.1 hr).1;simp only[AjG]at AYa;have:i-rs.length=0:=by omega
   rw[this]at hr;exact .inr ⟨by omega,by simpa using hr.symm⟩
 have cn:∀k,k∈(⟨Q1,lp,ln,lc,none,0,0⟩:GR).cl→k=Q1:=fun k hk=>by
  rcases M1.1 hk with e|⟨a,ha,_⟩
  ·exact e
  ·cases ha
 obtain⟨b1,b2⟩:=T2 Q1 _ c2 nem neo;refine hΦ Q1 op' oc' σ5 ⟨by simp[h.len],?_,?_,fun i r g hi hg=>?_,fun a ha=>⟨fun e=>m2 a ha e.symm,?_⟩,fun i r hi k hk=>?_,fun i r hi a ha=>?_,fun i j r r' JE hi hj k hk=>?_,h.tm,fun k u hk=>?_⟩
 ·rw[bH h.len];exact hM.loc (by rw[m1,hum])
 ·rw[Aiq];exact KT
 ·rcases kH i r hi with BF|⟨rfl,rfl⟩
  ·have Aq:=(List.getElem?_eq_some_iff.1 BF).1;rw[Ai6 (by rw[←h.len];exact Aq)]at hg;obtain⟨a1,a2,a3⟩:=h2.box i r g BF hg;refine⟨?_,a2,Au.of_eq a3 fun a ha=>(Tr i r BF _ (M1.2 (.inr ⟨a,ha,rfl⟩))).1⟩;rw[(Tr i r BF _ (M1.2 (.inl rfl))).1];exact a1
  ·rw[h.len,AjE (AiV _),AkN]at hg;simp only[Aim,AiO]at hg;subst hg;exact⟨b1,hr,EJ.nil⟩
 ·cases hq:τ a.block with
  | none=>rfl
  | some u=>
   obtain⟨_,e2⟩:=T2 a.block u (h2.ext _ _ hq) (fun e=>by rw[e,h.tm]at hq;cases hq) (fun a' GI e=>by rw[e,(h.om a' GI).2]at hq;cases hq);exact absurd rfl (e2 a ha)
 ·rcases kH i r hi with BF|⟨rfl,rfl⟩
  ·exact⟨(h.dm i r BF k hk).1,(Tr i r BF k hk).2,(h.dm i r BF k hk).2.2⟩
  ·rw[cn k hk];exact⟨nem,b2,tb⟩
 ·rcases kH i r hi with BF|⟨rfl,rfl⟩
  ·exact h.vb i r BF a ha
  ·cases ha
 ·rcases kH i r hi with BF|⟨rfl,rfl⟩
  ·rcases kH j r' hj with Zz|⟨rfl,rfl⟩
   ·exact h.dr i j r r' JE BF Zz k hk
   ·exact fun hc=>ncl i r BF (by rw[←cn k hc];exact hk)
  ·rcases kH j r' hj with Zz|⟨rfl,rfl⟩
   ·exact fun hc=>ncl j r' Zz (by rw[←cn k hk];exact hc)
   ·exact absurd rfl JE
 ·exact(T2 k u (h2.ext _ _ hk) (fun e=>by rw[e,h.tm]at hk;cases hk) (fun a ha e=>by rw[e,(h.om a ha).2]at hk;cases hk)).1
end
def PG (B:Nat)(gs:List Rg):Prop:=∀g∈gs,0<g.vs.length∧g.vs.length≤B∧Af g.ls
theorem pZ {B:Nat}{ls:List Lb}{v:Int}(hs:Af ls):∀{gs:List Rg},PG B gs→PG (B+1) (D6 ls v gs)
 | [],_=>fun g hg=>by
  unfold D6 at hg;rw[AiY]at hg;subst hg;exact⟨by simp,by simp,hs⟩
 | a::gs,h=>fun g hg=>by
  have ha:=h a (by simp);unfold D6 at hg;split at hg
  ·rcases AiT.1 hg with rfl|hg
   ·exact⟨by simp,by simp;omega,ha.2.2⟩
   ·have:=h g (AiX _ hg);exact⟨this.1,by omega,this.2.2⟩
  ·rcases AiT.1 hg with rfl|hg
   ·exact⟨ha.1,by omega,ha.2.2⟩
   ·exact pZ hs (fun g hg=>h g (AiX _ hg)) g hg
theorem jN {ls:List Lb}{v:Int}:∀{gs:List Rg},(D6 ls v gs).length≤gs.length+1
 | []=>by simp[D6]
 | a::gs=>by
  unfold D6;split
  ·simp
  ·have:=jN (ls:=ls) (v:=v) (gs:=gs);simp only[AjB];omega
def dV (n:Nd)(l:List El):List Rg:=l.foldl (fun gs x=>D6 (Bs n x.ls) x.v gs) []
theorem Af.group {n:Nd}{ls:List Lb}(h:Af ls):Af (Bs n ls):=by
 unfold Bs SB Bd Qb;split
 ·exact h.filter _
 ·split
  ·exact(h.filter _).filter _
  ·exact⟨by decide,fun x hx=>by cases hx⟩
theorem zf {n:Nd}{l:List El}(hs:∀e∈l,Af e.ls):∀k,k≤l.length→PG k (dV n (l.take k))∧(dV n (l.take k)).length≤k:=fun k=>by
 induction k with
 | zero=>intro _;exact⟨fun g hg=>by simp[dV]at hg,by simp[dV]⟩
 | succ k ih=>
  intro hk;obtain⟨h1,h2⟩:=ih (by omega);have hx:l[k]?=some l[k]:=AiN _;have e:dV n (l.take (k+1))=D6 (Bs n l[k].ls) l[k].v (dV n (l.take k)):=by unfold dV;rw[AQ hx,Aj0];rfl
  rw[e];exact⟨pZ (hs _ (List.getElem_mem _)).group h1,by have:=jN (ls:=Bs n l[k].ls) (v:=l[k].v) (gs:=dV n (l.take k));omega⟩
section
variable {τ σ σ' σ0:Hp}{R:Rr}
theorem GS.empty {mb:Nat}(h:σ mb=none):GS σ (σ.set mb (.map #[] 0)) mb none 0 0 [] []:=
 ⟨rfl,MS.fresh,Au.nil,fun i r g hi=>(by simp at hi),fun a ha=>(by cases ha),fun i r hi=>(by simp at hi),fun i r hi=>(by simp at hi),fun i j r r' _ hi=>(by simp at hi),h,.set h⟩
theorem sk {op:Int}{f:Nat}{p:Option Addr}{n c:Nat}{vs:List Int}{v14:Value}(MJ:(op=1∧v14=.func (.func 167) #[] #[])∨(op=2∧v14=.func (.func 168) #[] #[])∨(op=3∧v14=.func (.func 169) #[] #[])∨(op=4∧v14=.func (.func 170) #[] #[])∨(op=5∧v14=.func (.func 171) #[] #[]))
  (hr:EP .u64 σ p n vs) (h0:0<n) (hc:n≤c) (h:R (.returned (.U (foldI op vs))) σ):∃(f95:Nat) (iC iD:Array Value),v14=.func (.func f95) iC iD∧Enters prog f95∧Spec prog f95 (iC++#[.slice p n c]++iD) σ R:=by
 have hl:vs.length=n:=hr.1;unfold foldI at h;rcases MJ with ⟨rfl,rfl⟩|⟨rfl,rfl⟩|⟨rfl,rfl⟩|⟨rfl,rfl⟩|⟨rfl,rfl⟩
 ·exact⟨_,#[],#[],rfl,Ie.en,YW hr h0 hc h⟩
 ·exact⟨_,#[],#[],rfl,Jm.en,YX hr h0 hc h⟩
 ·exact⟨_,#[],#[],rfl,GO.en,Qd hr h0 hc h⟩
 ·exact⟨_,#[],#[],rfl,HO.en,SD hr h0 hc (by rw[←hl];exact h)⟩
 ·exact⟨_,#[],#[],rfl,Jq.en,Q7 (by rw[←hl];exact h)⟩
theorem zg {n:Nd}{p q a l:Option Addr}{k c m d j e:Nat}{L:List Vv}{x:Vv}(hs:G6 1 σ q m (n.names.map .string))(hr:AT 4 Q6 σ l j L)(hx:L[0]?=some x)(hV:sf x)(MJ:1≤n.op∧n.op≤5)
  (h:Lw R σ ((Co FF (Mp FF n x)).map fun l=>⟨2,0,l,[]⟩)):Spec prog 124 #[.pointer a,KD n p k c q m d,.slice l j e] σ R:=by
 have hj:0<j:=by have h1:L.length=j:=hr.1;have:=(List.getElem?_eq_some_iff.1 hx).1;omega
 obtain⟨b,o,pv,nv,cv,qv,mv,dv,rfl,h1,h2,h3,h4,h5,h6⟩:=Q6.at hr hx;simp only[AjS,AjH]at h1 h2 h3 h4;have hl:x.vec.length=nv:=h5.1;have hlen:=hV.len;have TD:=fun z hz=>(hV.el z hz).1;have EI:=zf (n:=n) TD;have hA:Mp FF n x=(dV n x.vec).map fun g=>⟨g.ls,foldI n.op g.vs⟩:=rfl;rw[hA]at h;refine AX.start fun _ _=>G3 fun mb zD=>⟨mb,rfl,b,o,rfl,by omega,pv,nv,cv,(Ext.set zD).ld h3,?_⟩;have last:∀τ σ' op on oc rs,GS τ σ' mb op on oc rs (dV n x.vec)→Ext σ τ→AX.GL R n.kind n.op n.text p k c n.width n.back n.BW q m d n.bool n.parts 0 0 none 0 0 none 0 0 (some mb) op on oc pv nv cv nv nv σ':=fun τ σ' op on oc rs hG Bc=>by
  obtain⟨hPG,hgl⟩:=EI nv (by omega);rw[AiQ (by omega)]at hPG hgl;refine AX.Fg ⟨fun Aq=>by omega,fun _=>G3 fun mf hmf=>⟨mf,rfl,?_⟩⟩;refine(zC.fresh hmf).put (by simp) fun s1 t1=>t1.put (by simp) fun s2 t2=>t2.put (by simp) fun s3 t3=>t3.put (by simp) fun s4 t4=>t4.put (by simp) fun s5 t5=>?_;have zh:=hG.mono t5.1;have hml:=t5.2.2;simp only[AjK,Ai1]at hml;refine hml.look ADH (fun Cg=>?_) fun v hv=>⟨v,rfl,?_⟩
  ·exfalso;simp only[AiT,Air,or_false,forall_eq_or_imp,forall_eq]at Cg;obtain⟨a1,a2,a3,a4,a5⟩:=Cg;omega
  have hv':(n.op=1∧v=.func (.func 167) #[] #[])∨(n.op=2∧v=.func (.func 168) #[] #[])∨(n.op=3∧v=.func (.func 169) #[] #[])∨(n.op=4∧v=.func (.func 170) #[] #[])∨(n.op=5∧v=.func (.func 171) #[] #[]):=by
   simpa only[AiT,Air,or_false,Ajr] using hv
  replace h:=h.sW (Bc.trans zh.ext)
  have hon:rs.length=on:=by have:=zh.ord.1;simpa using this
  have hgn:=zh.len;generalize dV n x.vec=gs at *;clear hml t1 t2 t3 t4 t5 hv hG
  suffices H:∀g i:Nat,∀p8 n8 c8 σ2 oq,(0<on→oq=op)→on-i=g→i≤on→AL 2 Aa s5 σ2 p8 n8 c8 ((gs.take i).map fun g=>⟨g.ls,foldI n.op g.vs⟩)→AX.VD R 0 0 none 0 0 none 0 0 v p8 n8 c8 oq on oc on i σ2 from H on 0 none 0 0 s5 op (fun _=>rfl) rfl (AiR _) (AL.nil (.refl _))
  intro g
  induction g with
  | zero=>
   intro i p8 n8 c8 σ2 oq hoq hg hi ho;rw[AiQ (by omega)]at ho;have Tp:=ho.1.1;rw[Aii]at Tp;exact AX.Vs ⟨fun Aq=>by omega,fun _=>G5 ho (by omega) h.Zn⟩
  | succ g ih=>
   intro i p8 n8 c8 σ2 oq hoq hg hi ho;have BF:i<on:=by omega
   obtain⟨r,hri⟩:∃r,rs[i]?=some r:=⟨_,AiN (by omega)⟩;obtain⟨y,hy⟩:∃y,gs[i]?=some y:=⟨_,AiN (by omega)⟩;obtain⟨b1,o1,ASX,QD⟩:=G6.at1 zh.ord.rd (k:=i) (v:=.pointer (aD r.b 0)) (by rw[Ait,hri];rfl);obtain⟨c1,c2,c3⟩:=zh.box i r y hri hy;have hP:=hPG y (AiM hy);have hvl:y.vs.length=r.vn:=by have:=c3.1;simpa using this
   have Tp:=ho.1.1;rw[Aii,AiU]at Tp;rw[hoq (by omega),ASX];refine AX.Vs ⟨fun _=>⟨b1,o1,rfl,by omega,aD r.b 0,by simpa using ho.up.ld QD,r.b,0,rfl,r.lp,r.ln,r.lc,Aj (ho.up _ _ c1) rfl,r.vp,r.vn,r.vc,Aj (ho.up _ _ c1) rfl,sk (f:=0) hv' (EP.mono ho.up (EJ.rd c3)) (by omega) (Au.cap c3) ⟨_,rfl,Kp.Hs (.refl _),fun b97 AYb=>?_⟩⟩,fun hh=>by omega⟩;refine AL.el ho ((c2.mono BL.mono zh.ext).mono BL.mono ho.2) (by omega) (fun p9 c9 σ3 DJ _=>⟨_,_,_,rfl,by unfold AG;omega,ih (i+1) _ _ _ _ _ (fun _=>ASX.symm) (by omega) (by omega) ?_⟩) AYb;rw[AQ hy,Aiq];exact DJ
 suffices H:∀g i:Nat,∀τ σ' op on oc rs,nv-i=g→i≤nv→GS τ σ' mb op on oc rs (dV n (x.vec.take i))→Ext σ τ→AX.GL R n.kind n.op n.text p k c n.width n.back n.BW q m d n.bool n.parts 0 0 none 0 0 none 0 0 (some mb) op on oc pv nv cv nv i σ' from
  H nv 0 σ _ none 0 0 [] rfl (AiR _) (GS.empty zD) (.refl _)
 intro g
 induction g with
 | zero=>
  intro i τ σ' op on oc rs hg hi hG Bc;have By:i=nv:=by omega
  subst By;rw[AiQ (by omega)]at hG;exact last τ σ' op on oc rs hG Bc
 | succ g ih=>
  intro i τ σ' op on oc rs hg hi hG Bc;have BF:i<nv:=by omega
  obtain⟨y,hy⟩:=h5.ex BF;obtain⟨b1,o1,q1,m1,d1,rfl,QD,F1⟩:=Aa.at h5 hy;have Im:=TD y (AiM hy);have hX:=Bc.trans hG.ext;obtain⟨hPG,hgl⟩:=EI i (by omega);have NM:=hG.len;have eN:dV n (x.vec.take (i+1))=D6 (Bs n y.ls) y.v (dV n (x.vec.take i)):=by unfold dV;rw[AQ hy,Aj0];rfl
  have ASY:∀τ4 σ4 op4 on4 oc4 rs4 gs4 (i4:Nat) (r:GR) (t:Rg),GS τ4 σ4 mb op4 on4 oc4 rs4 gs4→rs4[i4]?=some r→gs4[i4]?=some t→gs4.set i4 ⟨t.ls,t.vs++[y.v]⟩=dV n (x.vec.take (i+1))→t.vs.length≤i→Ext σ τ4→AX.xL R n.kind n.op n.text p k c n.width n.back n.BW q m d n.bool n.parts 0 0 none 0 0 none 0 0 (some mb) op4 on4 oc4 q1 m1 d1 y.v (aD r.b 0) (aD b1 o1) nv cv nv i σ4:=fun τ4 σ4 op4 on4 oc4 rs4 gs4 i4 r t hG4 hr4 ht4 he hti JK=>by
   obtain⟨c1,c2,c3⟩:=hG4.box i4 r t hr4 ht4;have hvl:t.vs.length=r.vn:=by have:=c3.1;simpa using this
   refine AX.ACa ⟨r.b,0,rfl,r.vp,r.vn,r.vc,Aj c1 rfl,GS.push (v:=y.v) hG4 hr4 ht4 (by omega) (Φ:=fun y2=>AG ((i:Int)+1)∧AX.GL R n.kind n.op n.text p k c n.width n.back n.BW q m d n.bool n.parts 0 0 none 0 0 none 0 0 (some mb) op4 on4 oc4 (aD b1 o1) nv cv nv ((i:Int)+1) y2) fun σ5 r' zh=>⟨AJ BF h5.big,ih (i+1) τ4 σ5 op4 on4 oc4 (rs4.set i4 r') (by omega) (by omega) ?_ JK⟩⟩;rw[←he];exact zh
  have AJ3:∀τ2 σ2 p' n' c',GS τ2 σ2 mb op on oc rs (dV n (x.vec.take i))→Ext σ τ2→Dy τ2 p' n' (Bs n y.ls)→AX.F7 R n.kind n.op n.text p k c n.width n.back n.BW q m d n.bool n.parts 0 0 none 0 0 none 0 0 (some mb) op on oc q1 m1 d1 y.v p' n' c' (aD b1 o1) nv cv nv i σ2:=fun τ2 σ2 p' n' c' hG2 An Ha=>by
   refine AX.IJ (ID (Ha.mono BL.mono hG2.ext) Im.group fun σ3 BU=>⟨_,rfl,?_⟩);have zi:=hG2.mono BU;have hon:rs.length=on:=by have:=zi.ord.1;simpa using this
   refine zi.map.look ADG (fun Hj=>⟨none,rfl,fun _=>?_,fun hh=>(by cases hh)⟩) fun v bb ASc hv=>⟨aD bb 0,hv,fun hh=>(by cases hh),fun _=>?_⟩
   ·obtain⟨e1,e2⟩:=Yr (v:=y.v) zi.len Hj;refine GS.add zi e2 Ha Im.group (by omega) (Φ:=fun Q1 pA n61 pB DI=>AX.xL R n.kind n.op n.text p k c n.width n.back n.BW q m d n.bool n.parts 0 0 none 0 0 none 0 0 (some mb) pA n61 pB q1 m1 d1 y.v (aD Q1 0) (aD b1 o1) nv cv nv i DI) fun bb op' oc' σ4 hG4=>?_;refine ASY τ2 σ4 op' (on+1) oc' _ _ (dV n (x.vec.take i)).length ⟨bb,p',n',c',none,0,0⟩ ⟨Bs n y.ls,[]⟩ hG4 ?_ ?_ ?_ (AiR _) An
    ·rw[←NM,AjE (AiV _),AkN];rfl
    ·rw[AjE (AiV _),AkN];rfl
    ·rw[eN,e1,List.set_append_right _ _ (AiV _),AkN];rfl
   ·obtain⟨i4,t,r,a1,a2,a3,a4⟩:=Yq (v:=y.v) zi.len ASc;subst a3;exact ASY τ2 σ3 op on oc rs _ i4 r t zi a2 a1 (by rw[eN,a4]) (hPG t (AiM a1)).2.1 An
  refine AX.Fg ⟨fun _=>⟨b1,o1,rfl,by omega,q1,m1,d1,y.v,by simpa using QD.mono hX,fun _=>⟨fun hg1=>bB (F1.mono BL.mono hX) (Im.rd F1) (hs.mono hX) fun p' n' c' σ2 Ha An=>⟨_,_,_,rfl,?_⟩,fun hg1=>⟨fun jI=>?_,fun jI=>AJ3 τ σ' none 0 0 hG Bc ?_⟩⟩⟩,fun hh=>by omega⟩
  ·obtain⟨τ2,hG2,e1,e2⟩:=hG.grow An;exact AJ3 τ2 σ2 p' n' c' hG2 (Bc.trans e1) (by unfold Bs;rw[AiL hg1];exact Ha.mono BL.mono e2)
  ·refine Mn (F1.mono BL.mono hX) (Im.rd F1) (hs.mono hX) fun p' n' c' σ2 A6 An=>⟨_,_,_,rfl,?_⟩;have UK:n'≤1000000:=by
    have h7:=A6.1;have h8:=Ais (fun x:Lb=>!Hi x.1 n.names) y.ls;have h9:=Im.1;omega
   refine IE ((A6.rd BL.mono).mono BL.mono (Ext.B9 _ _)) UK fun p3 n3 c3 σ3 SM BU=>⟨_,_,_,rfl,?_⟩;obtain⟨τ2,hG2,e1,e2⟩:=hG.grow (An.trans BU);exact AJ3 τ2 σ3 p3 n3 c3 hG2 (Bc.trans e1) (by unfold Bs;rw[AiK hg1,AiL jI];exact(SM.mono BL.mono (Ext.Eg An)).mono BL.mono e2)
  ·unfold Bs;rw[AiK hg1,AiK jI];exact AT.nil
end
def SN (e:El):Prop:=Af e.ls∧0≤e.v
def Sh (x:Vv):Prop:=(x.kind=1∧x.vec=[]∧x.RV=[])∨(x.kind=2∧x.RV=[])∨(x.kind=3∧x.vec=[])
def Cc (x:Vv):Nat:=x.vec.length+x.RV.length
structure VG (x:Vv):Prop where
 el:∀e∈x.vec,SN e
 rg:∀r∈x.RV,Af r.ls∧0<r.vs.length
 sh:Sh x
theorem dW (x:Int):0≤nrm x:=AjC _
theorem Oy (op a b:Int):0≤NL op a b:=AjC _
theorem jO {f:Int→Int→Int}(hf:∀a b,0≤f a b):∀(l:List Int) (a:Int),0≤a→0≤l.foldl f a
 | [],a,h=>h
 | x::l,a,h=>jO hf l _ (hf a x)
theorem pd:∀vs,0≤Ti vs
 | []=>Int.le_refl _
 | v::l=>jO (fun a b=>Oy 1 a b) l _ (dW v)
theorem SO (op:Int):∀vs,0≤KW op vs
 | []=>Int.le_refl _
 | v::l=>dW _
theorem zj (vs:List Int):0≤Hn vs:=by
 unfold Hn;have:∀(l:List (Int×Int)) (a:Int),0≤a→0≤l.foldl Hm a:=fun l=>by
  induction l with
  | nil=>intro a h;exact h
  | cons x l ih=>
   intro a h;refine ih _ ?_;unfold Hm;split
   ·exact Oy _ _ _
   ·exact h
 exact this _ _ (Oy _ _ _)
theorem Tv (x:Int):0≤AV x:=AjC _
theorem zk (op:Int)(vs:List Int):0≤foldI op vs:=by
 unfold foldI;split
 ·exact pd _
 ·split
  ·exact SO _ _
  ·split
   ·exact SO _ _
   ·split
    ·exact Oy _ _ _
    ·exact Tv _
theorem zl {op:Int}{vs:List Int}{w x:Int}(h:Ee op vs w=some x):0≤x:=by
 unfold Ee at h;split at h
 ·rw[←Aij h];exact pd _
 split at h
 ·rw[←Aij h];exact Oy _ _ _
 split at h
 ·rw[←Aij h];exact SO _ _
 split at h
 ·rw[←Aij h];exact SO _ _
 split at h
 ·rw[←Aij h];exact Tv _
 split at h
 ·rw[←Aij h];exact dW _
 split at h
 ·rw[←Aij h];exact AjC _
 split at h
 ·exact absurd h.symm (Option.some_ne_none _)
 split at h
 ·rw[←Aij h];exact Oy _ _ _
 split at h
 ·rw[←Aij h];exact zj _
 ·rw[←Aij h];exact Oy _ _ _
theorem Ys (op a b:Int):0≤(A3 op a b).1:=by
 unfold A3;split
 ·exact Oy _ _ _
 ·show 0≤(if _ then AV 1 else AV 0)
  split<;>exact Tv _
theorem Lx {l m:List El}(h:Co FF l=some m):m.Perm l:=by
 unfold Co at h;split at h
 ·cases h;exact Mr l
 ·cases h
theorem pf {l m:List El}(h:Co FF l=some m)(hl:∀e∈l,SN e):(∀e∈m,SN e)∧m.length=l.length:=
 ⟨fun e he=>hl e ((Lx h).mem_iff.1 he),(Lx h).length_eq⟩
theorem ADJ {n:Nd}{x:Vv}(hx:VG x):(∀e∈JB FF n x,SN e)∧(JB FF n x).length≤Cc x:=by
 refine⟨fun e he=>?_,?_⟩
 ·rcases List.mem_append.1 he with he|he
  ·obtain⟨y,hy,rfl⟩:=List.mem_map.1 he;refine⟨(hx.el y hy).1.bare,?_⟩;show 0≤(if n.op=11 then P5 y.v else HY y.v)
   split<;>exact AjC _
  ·obtain⟨y,hy,h1⟩:=List.mem_filterMap.1 he;have h2:(Ee n.op y.vs x.v).map (fun v=>(⟨Bd y.ls,v⟩:El))=some e:=h1;cases ho:Ee n.op y.vs x.v with
   | none=>rw[ho]at h2;cases h2
   | some z=>
    rw[ho]at h2;simp only[Aiv,AiO]at h2;subst h2;exact⟨(hx.rg y hy).1.bare,zl ho⟩
 ·unfold JB Cc;rw[Aid,Aii];have:=Aif (fun s:Rg=>(FF.over n.op s.vs x.v).map fun v=>(⟨Bd s.ls,v⟩:El)) x.RV;omega
theorem zm {n:Nd}{x:Vv}(hx:VG x):(∀e∈Mp FF n x,SN e)∧(Mp FF n x).length≤Cc x:=by
 obtain⟨h1,h2⟩:=zf (n:=n) (fun e he=>(hx.el e he).1) x.vec.length (AiV _);rw[List.take_length]at h1 h2;have hA:Mp FF n x=(dV n x.vec).map fun g=>⟨g.ls,foldI n.op g.vs⟩:=rfl;rw[hA];refine⟨fun e he=>?_,by rw[Aii];unfold Cc;omega⟩;obtain⟨g,hg,rfl⟩:=List.mem_map.1 he;exact⟨(h1 g hg).2.2,zk _ _⟩
theorem zn {n:Nd}{l:List El}{f:Int→Int×Bool}(hl:∀e∈l,SN e)(hf:∀v,0≤(f v).1):(∀e∈JL n l f,SN e)∧(JL n l f).length≤l.length:=by
 refine⟨fun e he=>?_,Aif _ _⟩;obtain⟨y,hy,h1⟩:=List.mem_filterMap.1 he;split at h1
 ·simp only[AiO]at h1;subst h1;exact⟨(hl y hy).1.bare,hf _⟩
 ·split at h1
  ·simp only[AiO]at h1;subst h1;exact hl y hy
  ·cases h1
theorem pg {n:Nd}{x y:List El}(hx:∀e∈x,SN e)(hy:∀e∈y,SN e):(∀e∈Io n x y,SN e)∧(Io n x y).length≤x.length+y.length:=by
 unfold Io;refine⟨fun e he=>?_,?_⟩
 ·rcases List.mem_append.1 he with he|he
  ·exact hx e (List.mem_filter.1 he).1
  ·exact hy e (List.mem_filter.1 he).1
 ·rw[Aid];exact Nat.add_le_add (Ais _ _) (Ais _ _)
theorem ph {n:Nd}{x y m:List El}(hx:∀e∈x,SN e)(h:Hl FF n x y=some m):(∀e∈m,SN e)∧m.length≤x.length:=by
 unfold Hl at h;split at h
 ·simp only[AiO]at h;subst h;refine⟨fun e he=>?_,Aif _ _⟩;obtain⟨z,hz,h1⟩:=List.mem_filterMap.1 he;split at h1
  ·cases h1
  ·split at h1
   ·simp only[AiO]at h1;subst h1;exact⟨(hx z hz).1.D0,Ys _ _ _⟩
   ·split at h1
    ·simp only[AiO]at h1;subst h1;exact hx z hz
    ·cases h1
 ·cases h
theorem RE {l m:List El}(h:Co FF l=some m)(hl:∀e∈l,SN e):VG ⟨2,0,m,[]⟩∧Cc ⟨2,0,m,[]⟩=l.length:=
 ⟨⟨(pf h hl).1,fun r hr=>(by cases hr),.inr (.inl ⟨rfl,rfl⟩)⟩,by show m.length+0=_;rw[(pf h hl).2];omega⟩
theorem map_some {α β:Type}{o:Option α}{f:α→β}{y:β}(h:o.map f=some y):∃x,o=some x∧f x=y:=by
 cases o with
 | none=>cases h
 | some x=>exact⟨x,rfl,by simpa using h⟩
theorem V0 {n:Nd}{ss:List Sr}{t:Int}{L:List Vv}{v:Vv}(hS:AC4 ss)(hp:∀s∈ss,∀p∈s.ps,0≤p.2)(hf:Ci n=true)(hT:(Mz n (L.map (·.kind))).2=0)(hL:(L.length:Int)=n.parts)(hV:∀x∈L,VG x)(h:Ez FF ss t n L=some v):
  VG v∧v.kind=(Mz n (L.map (·.kind))).1∧Cc v≤ss.length+(L.map Cc).sum:=by
 have B8:=FU hf;unfold Ez at h;by_cases h1:n.kind=1
 ·rw[AiL h1]at h;cases h;exact⟨⟨fun e he=>(by cases he),fun r hr=>(by cases hr),.inl ⟨rfl,rfl,rfl⟩⟩,by unfold Mz;rw[AiL h1],AiR _⟩
 rw[AiK h1]at h;by_cases h2:n.kind=2
 ·rw[AiL h2]at h;cases h;refine⟨⟨fun e he=>?_,fun r hr=>(by cases hr),.inr (.inl ⟨rfl,rfl⟩)⟩,by unfold Mz;rw[AiK h1,AiL h2],?_⟩
  ·obtain⟨s,hs,Tu⟩:=List.mem_filterMap.1 he;split at Tu
   ·cases Tu
   ·rename_i p Oz;split at Tu
    ·cases Tu
    ·simp only[AiO]at Tu;subst Tu;exact⟨hS.sm s hs,hp s hs p (List.mem_filter.1 (Aj3 Oz)).1⟩
  ·show(List.filterMap _ ss).length+0≤_
   exact Aiy (Nat.le_of_eq (AjH _)) (Aiy (Aif _ _) (Aju _ _))
 rw[AiK h2]at h;by_cases h3:n.kind=3
 ·rw[AiL h3]at h;cases h;refine⟨⟨fun e he=>(by cases he),fun r hr=>?_,.inr (.inr ⟨rfl,rfl⟩)⟩,by unfold Mz;rw[AiK h1,AiK h2,AiL h3],?_⟩
  ·obtain⟨s,hs,Tu⟩:=List.mem_filterMap.1 hr;dsimp only at Tu;generalize ((FT s.ps (t-n.back-n.width) (t-n.back)).filter fun p=>decide (p.2≠G4)).map Prod.snd=vs at Tu;cases vs with
   | nil=>cases Tu
   | cons a l=>
    simp only[List.isEmpty_cons,Bool.not_false,AjR]at Tu;cases ZF:FF.dK n.mt s.ls with
    | false=>rw[ZF]at Tu;cases Tu
    | true=>
     rw[ZF]at Tu;simp only[cond_true,AiO]at Tu;subst Tu;exact⟨hS.sm s hs,by simp⟩
  ·show 0+(List.filterMap _ ss).length≤_
   exact Aiy (Nat.le_of_eq (AjV _)) (Aiy (Aif _ _) (Aju _ _))
 rw[AiK h3]at h;unfold E1 at B8;rw[AiK h1,AiK h2,AiK h3]at B8;by_cases h4:n.kind=4
 ·rw[AiL h4]at B8;have O0:=(AiP B8).1
  match L,hL with
  | [x],_=>
   have hx:=hV x (by simp);dsimp only at h;rw[AiL h4]at h;obtain⟨m,hm,rfl⟩:=map_some h;obtain⟨c1,c2⟩:=ADJ (n:=n) hx;obtain⟨d1,d2⟩:=RE hm c1;refine⟨d1,?_,by rw[d2];simp;omega⟩;unfold Mz at hT ⊢;rw[AiK h1,AiK h2,AiK h3,AiL h4]at hT ⊢;unfold Qe at hT ⊢;by_cases hc:([x].map (·.kind))[0]?.getD 0=(if n.op=11∨n.op=12 then 2 else 3)
   ·rw[AiL hc]
   ·rw[AiK hc]at hT;exact absurd hT (by decide)
  | [],hL=>simp at hL;omega
  | _::_::_,hL=>simp at hL;omega
 rw[AiK h4]at B8;by_cases h5:n.kind=5
 ·rw[AiL h5]at B8;have O0:=(AiP B8).1
  match L,hL with
  | [x],_=>
   have hx:=hV x (by simp);dsimp only at h;rw[AiK h4,AiL h5]at h;obtain⟨m,hm,rfl⟩:=map_some h;obtain⟨c1,c2⟩:=zm (n:=n) hx;obtain⟨d1,d2⟩:=RE hm c1;refine⟨d1,?_,by rw[d2];simp;omega⟩;unfold Mz at hT ⊢;rw[AiK h1,AiK h2,AiK h3,AiK h4,AiL h5]at hT ⊢;unfold Uq at hT ⊢;by_cases hc:([x].map (·.kind))[0]?.getD 0=2
   ·rw[AiL hc]
   ·rw[AiK hc]at hT;exact absurd hT (by decide)
  | [],hL=>simp at hL;omega
  | _::_::_,hL=>simp at hL;omega
 rw[AiK h5]at B8;by_cases h6:n.kind=6
 ·rw[AiL h6,AiS]at B8;have O0:=(AiP B8.1).1
  match L,hL with
  | [x,y],_=>
   have hx:=hV x (by simp);have hy:=hV y (by simp);dsimp only at h;rw[AiL h6]at h;have hTy:(Mz n ([x,y].map (·.kind)))=Q8 n x.kind y.kind:=by unfold Mz;rw[AiK h1,AiK h2,AiK h3,AiK h4,AiK h5,AiL h6];rfl
   rw[hTy]at hT ⊢;unfold Q8 at hT ⊢;split at hT
   ·cases hT
   ·rename_i Cg;rw[AiK Cg];simp only[not_or]at Cg;have sx:=hx.sh;have sy:=hy.sh;unfold Zj at h;have hvx:Cc x+Cc y=([x,y].map Cc).sum:=by simp
    rw[←hvx];split at h
    ·rename_i hk;cases h;exact⟨⟨fun e he=>(by cases he),fun r hr=>(by cases hr),.inl ⟨rfl,rfl,rfl⟩⟩,by simp[hk.1,hk.2],AiR _⟩
    ·rename_i hk;obtain⟨m,hm,rfl⟩:=map_some h;have ASd:(2:Int)=(if x.kind<y.kind then y.kind else x.kind):=by
      unfold Sh at sx sy;split<;>omega
     refine(fun hh:VG ⟨2,0,m,[]⟩∧Cc ⟨2,0,m,[]⟩≤Cc x+Cc y=>⟨hh.1,ASd,by have:=hh.2;omega⟩) ?_;split at hm
     ·obtain⟨c1,c2⟩:=zn (n:=n) (f:=FF.Mo n.op x.v) hy.el (fun v=>Ys _ _ _);obtain⟨d1,d2⟩:=RE (show Co FF (JL n y.vec (FF.Mo n.op x.v))=some m from hm) c1;exact⟨d1,by rw[d2];unfold Cc;omega⟩
     ·split at hm
      ·obtain⟨c1,c2⟩:=zn (n:=n) (f:=fun v=>FF.Mo n.op v y.v) hx.el (fun v=>Ys _ _ _);obtain⟨d1,d2⟩:=RE (show Co FF (JL n x.vec fun v=>FF.Mo n.op v y.v)=some m from hm) c1;exact⟨d1,by rw[d2];unfold Cc;omega⟩
      ·split at hm
       ·obtain⟨c1,c2⟩:=pg (n:=n) hx.el hy.el;obtain⟨d1,d2⟩:=RE (show Co FF (Io n x.vec y.vec)=some m from hm) c1;exact⟨d1,by rw[d2];unfold Cc;omega⟩
       ·cases hq:Hl FF n x.vec y.vec with
        | none=>rw[hq]at hm;cases hm
        | some w=>
         rw[hq]at hm;obtain⟨c1,c2⟩:=ph hx.el hq;obtain⟨d1,d2⟩:=RE (show Co FF w=some m from hm) c1;exact⟨d1,by rw[d2];unfold Cc;omega⟩
  | [],hL=>simp at hL;omega
  | [_],hL=>simp at hL;omega
  | _::_::_::_,hL=>simp at hL;omega
 rw[AiK h6]at B8;have h7:=(AiP B8).1;have O0:=(AiP B8).2
 match L,hL with
 | [x],_=>
  have hx:=hV x (by simp);dsimp only at h;rw[AiK h4,AiK h5,AiL h7]at h;have hTy:(Mz n ([x].map (·.kind)))=VN x.kind:=by unfold Mz;rw[AiK h1,AiK h2,AiK h3,AiK h4,AiK h5,AiK h6];rfl
  rw[hTy]at hT ⊢;unfold VN at hT ⊢;have sx:=hx.sh;unfold Sh at sx;split at hT
  ·cases hT
  ·rename_i Cg;rw[AiK Cg];unfold iY at h;split at h
   ·rename_i hk;cases h;exact⟨⟨fun e he=>(by cases he),fun r hr=>(by cases hr),.inl ⟨rfl,rfl,rfl⟩⟩,hk.symm,AiR _⟩
   ·obtain⟨m,hm,rfl⟩:=map_some h;have c1:∀e∈x.vec.map (fun x=>(⟨Bd x.ls,FF.yj x.v⟩:El)),SN e:=fun e he=>by
     obtain⟨y,hy,rfl⟩:=List.mem_map.1 he;exact⟨(hx.el y hy).1.bare,dW _⟩
    obtain⟨d1,d2⟩:=RE hm c1;refine⟨d1,by show(2:Int)=x.kind;omega,by rw[d2,Aii];simp[Cc];omega⟩
 | [],hL=>simp at hL;omega
 | _::_::_,hL=>simp at hL;omega
theorem O1 {n:Nd}(ht:Ci n=true):0≤n.parts:=by
 have B8:=FU ht;unfold E1 at B8;have hp:=Pd ht;by_cases h1:n.kind=1
 ·unfold HZ CY at hp;simp[h1]at hp;omega
 by_cases h2:n.kind=2
 ·unfold HZ CY at hp;simp[h2]at hp;omega
 by_cases h3:n.kind=3
 ·unfold HZ CY at hp;simp[h3]at hp;omega
 rw[AiK h1,AiK h2,AiK h3]at B8;split at B8
 ·simp at B8;omega
 ·split at B8
  ·simp at B8;omega
  ·split at B8
   ·simp at B8;omega
   ·simp at B8;omega
theorem V1 {n:Nd}{ty:List Int}(h:(BQ n ty).1=0):Ci n=true∧n.parts≤ty.length∧HW DC n.mt=0∧(Mz n (ty.drop (ty.length-n.parts.toNat))).2=0∧(BQ n ty).2=ty.take (ty.length-n.parts.toNat)++[(Mz n (ty.drop (ty.length-n.parts.toNat))).1]:=by
 unfold BQ at h ⊢;split at h
 ·exact absurd h (by dsimp only;decide)
 ·rename_i h1;split at h
  ·exact absurd h (by dsimp only;decide)
  ·rename_i h2;simp only[not_or]at h1;rw[AiK (by simp only[not_or];exact h1),AiK h2];exact⟨by simpa using h1.1,by omega,Aig.1 h2,h,rfl⟩
theorem V2 {n:Nd}(hf:Ci n=true)(hm:HW DC n.mt=0)(hk:n.kind=2∨n.kind=3):zP n:=by
 have B8:=FU hf;have hp:=Pd hf;have zo:n.mt.all Sx=true:=by
  unfold HW at hm;split at hm
  ·exact absurd hm (by decide)
  ·cases ha:n.mt.all Sx with
   | true=>rfl
   | false=>
    have:(if n.mt.all Sx=true then(0:Int) else 40)=0:=hm;rw[ha]at this;exact absurd this (by decide)
 have hx:∀x∈n.mt,Sx x=true:=List.all_eq_true.1 zo;have hbw:(0≤n.back∧n.back<2147483648)∧(0≤n.width∧n.width<2147483648):=by
  unfold E1 at B8;rcases hk with hk|hk
  ·rw[AiK (by omega),AiL hk]at B8;unfold Lp at B8;simp only[AiS,AiW]at B8;unfold HZ CY at hp;simp[hk]at hp;omega
  ·rw[AiK (by omega),AiK (by omega),AiL hk]at B8;unfold Lp at B8;simp only[AiS,AiW]at B8;omega
 refine⟨fun x jC=>?_,fun x jC=>?_,hbw.1,hbw.2⟩
 ·have:=hx x jC;unfold Sx at this;simp only[AiS,AiW]at this;exact this.1.1
 ·have:=hx x jC;unfold Sx at this;simp only[AiS,AiW]at this;omega
def ADK:List Nat:=[120,121,122,123,124,125,126]
structure jP (ss:List Sr):Prop where
 ok:AC4 ss
 nn:∀s∈ss,∀p∈s.ps,0≤p.2
 pl:∀s∈ss,s.ps.length≤1000000000
section
variable {ρ σ σ' σ0:Hp}{R:Rr}
theorem sn {n:Nd}{p q l:Option Addr}{k c m d j e ab:Nat}{ss:List Sr}{t:Int}{L:List Vv}(hA:Ur ρ ab ss t)(hg:Gl ρ)(hm:AT 3 Jt ρ p k n.mt)(hs:G6 1 ρ q m (n.names.map .string))(hf:Ci n=true)(zo:HW DC n.mt=0)
  (hT:(Mz n (L.map (·.kind))).2=0) (hL:(L.length:Int)=n.parts) (hV:∀x∈L,VG x) (hlen:∀x∈L,Cc x≤100000000000) (hr:AT 4 Q6 ρ l j L) (hS:jP ss) (ht:-4611686018427387904≤t∧t≤4611686018427387904) (h:Lw R ρ (Ez FF ss t n L)) :
  ∃f,1≤n.kind∧n.kind≤7∧ADK[n.kind.toNat-1]?=some f∧Enters prog f∧Spec prog f #[.pointer (some ⟨ab,0,none⟩),KD n p k c q m d,.slice l j e] ρ R:=by
 have B8:=FU hf;have vok:∀x∈L,sf x:=fun x hx=>⟨(hV x hx).el,(hV x hx).rg,hlen x hx⟩;unfold Ez at h;by_cases h1:n.kind=1
 ·rw[AiL h1]at h;refine⟨_,by omega,by omega,by rw[h1];rfl,DW.en,SK hg ?_ h⟩;unfold E1 at B8;rw[AiL h1]at B8;exact B8
 rw[AiK h1]at h;by_cases h2:n.kind=2
 ·rw[AiL h2]at h;exact⟨_,by omega,by omega,by rw[h2];rfl,Az.en,jG hA hg hm hS.ok (V2 hf zo (.inl h2)) ht h⟩
 rw[AiK h2]at h;by_cases h3:n.kind=3
 ·rw[AiL h3]at h;exact⟨_,by omega,by omega,by rw[h3];rfl,AZ.en,mi hA hg hm hS.ok (V2 hf zo (.inr h3)) ht hS.pl h⟩
 rw[AiK h3]at h;unfold E1 at B8;rw[AiK h1,AiK h2,AiK h3]at B8;by_cases h4:n.kind=4
 ·rw[AiL h4]at B8;obtain⟨O0,NN,A6⟩:=AiP B8
  match L,hL with
  | [x],_=>
   have hx:=hV x (by simp);dsimp only at h;rw[AiL h4]at h;have sx:=hx.sh;unfold Sh at sx;unfold Mz at hT;rw[AiK h1,AiK h2,AiK h3,AiL h4]at hT;unfold Qe at hT;have hc:x.kind=(if n.op=11∨n.op=12 then 2 else 3):=by
    by_cases hc:([x].map (·.kind))[0]?.getD 0=(if n.op=11∨n.op=12 then 2 else 3)
    ·exact hc
    ·rw[AiK hc]at hT;exact absurd hT (by decide)
   refine⟨_,by omega,by omega,by rw[h4];rfl,Ad.en,sg hr rfl (vok x (by simp)) (fun Ah=>?_) (fun Ah=>?_) h⟩
   ·rcases sx with ⟨_,h9,_⟩|⟨h9,_⟩|⟨h9,h8⟩
    ·exact absurd h9 Ah
    ·rw[h9]at hc;split at hc
     ·assumption
     ·omega
    ·exact absurd h8 Ah
   ·rcases sx with ⟨_,_,h9⟩|⟨h9,h8⟩|⟨h9,_⟩
    ·exact absurd h9 Ah
    ·exact absurd h8 Ah
    ·rw[h9]at hc;split at hc
     ·omega
     ·omega
  | [],hL=>simp at hL;omega
  | _::_::_,hL=>simp at hL;omega
 rw[AiK h4]at B8;by_cases h5:n.kind=5
 ·rw[AiL h5]at B8;obtain⟨O0,NN,A6,_⟩:=AiP B8
  match L,hL with
  | [x],_=>
   dsimp only at h;rw[AiK h4,AiL h5]at h;exact⟨_,by omega,by omega,by rw[h5];rfl,AX.en,zg hs hr rfl (vok x (by simp)) ⟨NN,A6⟩ h⟩
  | [],hL=>simp at hL;omega
  | _::_::_,hL=>simp at hL;omega
 rw[AiK h5]at B8;by_cases h6:n.kind=6
 ·rw[AiL h6,AiS]at B8;have O0:=(AiP B8.1).1
  match L,hL with
  | [x,y],_=>
   dsimp only at h;rw[AiL h6]at h;exact⟨_,by omega,by omega,by rw[h6];rfl,FP.en,zd hs hr rfl rfl (vok x (by simp)) (vok y (by simp)) h⟩
  | [],hL=>simp at hL;omega
  | [_],hL=>simp at hL;omega
  | _::_::_::_,hL=>simp at hL;omega
 rw[AiK h6]at B8;have h7:=(AiP B8).1;have O0:=(AiP B8).2
 match L,hL with
 | [x],_=>
  dsimp only at h;rw[AiK h4,AiK h5,AiL h7]at h;exact⟨_,by omega,by omega,by rw[h7];rfl,Cf.en,zb hr rfl (vok x (by simp)) h⟩
 | [],hL=>simp at hL;omega
 | _::_::_,hL=>simp at hL;omega
end
theorem Spec.zp {P:Program}{f:FuncId}{args:Array Value}{σ:Hp}{p:Option Addr}{R:Rr}(hk:∀a,p=some a→∃o,σ a.block=some o)
  (h:Spec P f args (σ.del p) (fun e τ'=>∀σ',(∀a,p=some a→σ' a.block=σ a.block)→σ'.del p=τ'→R e σ')):Spec P f args σ R:=by
 cases p with
 | none=>exact h.mono fun e τ' hh=>hh τ' (fun a ha=>by cases ha) rfl
 | some a=>
  obtain⟨o,ho⟩:=hk a rfl;have e1:(σ.del (some a)).set a.block o=σ:=by
   funext k
   by_cases kF:k=a.block
   ·subst kF;rw[Hp.AA,ho]
   ·rw[Hp.AM kF];simp[Hp.del,kF]
  have e2:(σ.del (some a)) a.block=none:=by simp[Hp.del]
  rw[←e1];refine Spec.F6 e2 (h.mono fun e τ' hh hn=>hh _ (fun a' GI=>by cases GI;rw[Hp.AA,ho]) ?_)
  funext k
  by_cases kF:k=a.block
  ·subst kF;simp[Hp.del,hn]
  ·simp[Hp.del,kF,Hp.set]
theorem G6.sub {s:Nat}{σ:Hp}{p:Option Addr}{n c i m:Nat}{cs:List Value}(h:G6 s σ p n cs)(him:i+m≤n)(hc:n≤c):G6 s σ (MK p i c s) m ((cs.drop (i*s)).take (m*s)):=by
 obtain⟨h2,h3,h4⟩:=h;have hle:i*s+m*s≤n*s:=by rw[←AjM];exact Aiw _ him
 refine⟨by rw[AiU,Aic];omega,by omega,?_⟩;rcases Nat.eq_zero_or_pos m with hm|hm
 ·exact .inl hm
 ·rcases h4 with h4|⟨b,o,rfl,h4⟩
  ·omega
  ·refine .inr ⟨b,o+i*s,?_,h4.part⟩;unfold MK;rw[AiK (by omega)];simp[DH]
theorem Q6.one (σ:Hp)(vs:List Value)(x:Vv)(h:Q6 σ vs x):G7 vs:=by
 obtain⟨p,n,c,q,m,d,rfl,_⟩:=h;intro u hu;simp only[AiT,Air,or_false]at hu;rcases hu with rfl|rfl|rfl|rfl<;>rfl
theorem AL.take {α:Type}{s:Nat}{E:Hp→List Value→α→Prop}{σ0 σ:Hp}{p:Option Addr}{n c m:Nat}{xs:List α}(h:AL s E σ0 σ p n c xs)(hm:m≤n):AL s E σ0 σ p m c (xs.take m):=by
 obtain⟨⟨hl,cs,ho,hc⟩,hx⟩:=h;exact⟨⟨by rw[AiU];omega,_,Au.take ho hm,hc.take m⟩,hx⟩
section
variable {σ σ' σ0:Hp}{R:Rr}
theorem Tx {p7 q:Option Addr}{j d b:Nat}{cs:List Value}{L:List Vv}{Φ:Value→Hp→Prop}(LK:G6 4 σ q j cs)(hc:Ch 4 Q6 (σ.del p7) cs L)(hp7:∀a,p7=some a→σ a.block≠none)(hn:σ b=none)(hj:j≤1000000000)
  (hΦ:∀p' c' y,AT 4 Q6 (y.del p7) p' j L→Ext σ y→Φ (.slice p' j c') y):AK prog (Builtin.append_ #[140,140] 140 #[.slice (some ⟨b,0,none⟩) 0 0,.slice q j d]) (σ.set b (.cells #[] 97 (0,0))) Φ:=by
 have hx:=Ext.set (o:=.cells #[] 97 (0,0)) hn;refine DT Au.empty (LK.mono hx) (Ch.WH Q6.one hc (by decide)) (by omega) fun p' c' y DB I2=>?_;have hq:∀a:Addr,(some (⟨b,0,none⟩:Addr))=some a→σ a.block=none:=fun a ha=>by cases ha;exact hn
 rw[AjV]at DB ⊢;rw[AjK]at DB;have hXY:Ext σ y:=PF hq I2 hx;have Tn:∀a,p'=some a→σ a.block=none:=JP hq I2 hx;refine hΦ p' c' y ⟨?_,cs,Au.rd (Au.zQ DB fun a ha a' GI e=>hp7 a' GI (by rw[←e];exact Tn a ha)),hc.mono Q6.mono (hXY.del _)⟩ hXY;have:=hc.1;have:=LK.1;omega
theorem dX {α:Type}{f:α→Nat}:∀{l:List α} {y:α},y∈l→f y≤(l.map f).sum
 | a::l,y,h=>by
  rw[Ai4,List.sum_cons];rcases AiT.1 h with rfl|h
  ·omega
  ·have:=dX (f:=f) h;omega
structure ADL (R:Rr)(σ:Hp)(X:Option Vv):Prop where
 ok:∀x σ' p n c q m d,X=some x→Ext σ σ'→AT 2 Aa σ' p n x.vec→AT 2 KV σ' q m x.RV→R (.T #[.agg #[.I x.kind,.U x.v,.slice p n c,.slice q m d],.I 0]) σ'
 no:X=none→∀σ',Ext σ σ'→R (.T #[.agg #[.I 0,.U 0,.N,.N],.I 223]) σ'
theorem ADL.sW {X:Option Vv}(h:ADL R σ X)(hx:Ext σ σ'):ADL R σ' X:=⟨fun x σ2 p n c q m d h0 h1 h2 h3=>h.ok x σ2 p n c q m d h0 (hx.trans h1) h2 h3,fun h0 σ2 h1=>h.no h0 σ2 (hx.trans h1)⟩
theorem AJ5 {i f:Nat}(h:ADK[i]?=some f):Enters prog f:=by
 have Aq:i<7:=(List.getElem?_eq_some_iff.1 h).1
 match i,h with
 | 0,h=>cases h;exact DW.en
 | 1,h=>cases h;exact Az.en
 | 2,h=>cases h;exact AZ.en
 | 3,h=>cases h;exact Ad.en
 | 4,h=>cases h;exact AX.en
 | 5,h=>cases h;exact FP.en
 | 6,h=>cases h;exact Cf.en
abbrev ASf:Obj:=.cells #[.I 0,.U 0,.N,.N] 97 (0,0)
theorem zq {ab n c:Nat}{p:Option Addr}{ss:List Sr}{t:Int}{T:List Nd}{kf:Int}(hA:Ur σ ab ss t)(hg:Gl σ)(hr:AT 10 GF σ p n T)(hS:jP ss)(hn:n≤4096)(ht:-4611686018427387904≤t∧t≤4611686018427387904)(VR:DA T []=some [kf])
  (h:ADL R σ ((Ip FF ss t T []).bind List.head?)):Spec prog 47 #[.pointer (some ⟨ab,0,none⟩),.slice p n c] σ R:=by
 have hTl:T.length=n:=hr.1;have AJ6:=hS.ok.len;refine Du.start fun _=>YH.start fun rb hrb=>⟨_,_,_,rfl,?_⟩;have xb:=Ext.set (o:=.cells #[.nilFunc,.func (.func 120) #[] #[],.func (.func 121) #[] #[],.func (.func 122) #[] #[],.func (.func 123) #[] #[],.func (.func 124) #[] #[],.func (.func 125) #[] #[],.func (.func 126) #[] #[]] 141 (0,0)) hrb;have AYc:∀(kind:Int) f,1≤kind→kind≤7→ADK[kind.toNat-1]?=some f→Hp.ld (σ.set rb (.cells #[.nilFunc,.func (.func 120) #[] #[],.func (.func 121) #[] #[],.func (.func 122) #[] #[],.func (.func 123) #[] #[],.func (.func 124) #[] #[],.func (.func 125) #[] #[],.func (.func 126) #[] #[]] 141 (0,0))) ⟨rb,0+kind.toNat*1,none⟩=some (.func (.func f) #[] #[]):=fun kind f h1 h7 hf=>by
  refine Aj (Hp.AA _ _ _) ?_;rw[show 0+kind.toNat*1=(kind.toNat-1)+1 by omega];have Aq:kind.toNat-1<7:=by omega
  generalize kind.toNat-1=i at *
  match i,hf with
  | 0,hf=>cases hf;rfl
  | 1,hf=>cases hf;rfl
  | 2,hf=>cases hf;rfl
  | 3,hf=>cases hf;rfl
  | 4,hf=>cases hf;rfl
  | 5,hf=>cases hf;rfl
  | 6,hf=>cases hf;rfl
 generalize σ.set rb _=σb at *
 replace h:=h.sW xb
 suffices H:∀g i:Nat,∀p7 n7 c7 σ' st,n-i=g→i≤n→AL 4 Q6 σb σ' p7 n7 c7 st→(∀x∈st,VG x)→st.length≤i→(st.map Cc).sum≤i*ss.length→DA (T.drop i) (st.map (·.kind))=some [kf]→Ip FF ss t T []=Ip FF ss t (T.drop i) st→Du.GL R (aD ab 0) 0 0 none 0 0 none 0 0 (aD rb 0) 8 8 p7 n7 c7 p n c n i σ' from
  H n 0 none 0 0 σb [] rfl (AiR _) (AL.nil (.refl _)) (fun x hx=>(by cases hx)) (AiR _) (AiR _) VR rfl
 intro g
 induction g with
 | zero=>
  intro i p7 n7 c7 σ' st jH hi ho hV hsl AJ7 hT Bz;rw[Aib (by omega)]at hT Bz;have hk:st.map (·.kind)=[kf]:=by simpa[DA] using hT
  have zr:Ip FF ss t T []=some st:=by rw[Bz];rfl
  rw[zr]at h
  match st,hk with
  | [x],_=>
   obtain⟨b,o,pv,nv,cv,qv,mv,dv,rfl,h1,h2,h3,h4,h5,h6⟩:=Q6.at (ho.rd Q6.mono) (i:=0) (x:=x) rfl;have hn7:1=n7:=ho.1.1;simp only[AjS,AjH]at h1 h2 h3 h4;exact Du.Fg ⟨fun Aq=>by omega,fun _=>⟨b,o,rfl,by omega,x.kind,x.v,pv,nv,cv,qv,mv,dv,⟨h1,h2,h3,h4,trivial⟩,h.ok x σ' pv nv cv qv mv dv rfl ho.up h5 h6⟩⟩
 | succ g ih=>
  intro i p7 n7 c7 σ' st jH hi ho hV hsl AJ7 hT Bz;have BF:i<n:=by omega
  obtain⟨x,hx⟩:=hr.ex BF;obtain⟨b,o,p1,k1,c1,q1,m1,d1,rfl,CF,zo,uB⟩:=GF.at hr hx;have hX:=xb.trans ho.up;rw[A0 hx]at hT Bz;have Eu:(BQ x (st.map (·.kind))).1=0:=Aj4 fun Ah=>by
   rw[DA,AiK Ah]at hT;cases hT
  rw[DA,AiL Eu]at hT;obtain⟨hf,zR,qZ,Sz,zt⟩:=V1 Eu;have hpn:=O1 hf;obtain⟨tp,htp⟩:∃tp:Nat,x.parts=tp:=⟨x.parts.toNat,by omega⟩;have hpt:x.parts.toNat=tp:=by omega
  have E2:st.length=n7:=ho.1.1;rw[Aii,E2,hpt]at Sz zt;rw[Aii]at zR;rw[zt]at hT;rw[←List.map_drop]at Sz hT;rw[←List.map_take]at hT;rw[Ip,E2,hpt]at Bz;have pj:(st.drop (n7-tp)).length=tp:=by rw[Aic];omega
  have jQ:∀y∈st.drop (n7-tp),VG y:=fun y hy=>hV y (AjT hy);have Ow:(st.map Cc).sum=((st.take (n7-tp)).map Cc).sum+((st.drop (n7-tp)).map Cc).sum:=by
   rw[←Ajy,←Aiq,Ai8]
  have hsb:i*ss.length≤4096*10000000:=Aj6 (by omega) AJ6;have zA:∀y∈st.drop (n7-tp),Cc y≤100000000000:=fun y hy=>by
   have:=dX (f:=Cc) (AjT hy);omega
  have Cg:=ho.1.2;obtain⟨cs,KE,hcc⟩:=Cg;have zu:=Au.cap KE;have e1:Int.toNat ((n7:Int)-x.parts)=n7-tp:=by omega
  have LK:G6 4 σ' (MK p7 (Int.toNat ((n7:Int)-x.parts)) c7 4) (n7-Int.toNat ((n7:Int)-x.parts)) ((cs.drop ((n7-tp)*4)).take ((n7-(n7-tp))*4)):=by
   rw[e1];exact G6.sub KE.rd (by omega) zu
  have hcd:Ch 4 Q6 (σ'.del p7) ((cs.drop ((n7-tp)*4)).take ((n7-(n7-tp))*4)) (st.drop (n7-tp)):=by
   have h9:=hcc.drop (n7-tp);rwa[AiQ (by have:=KE.1;rw[Aic,this,←Nat.sub_mul];exact AiV _)]
  have hp7:∀a,p7=some a→σ' a.block≠none:=ho.1.block;have hk7:∀{y:Hp},Ext σ' y→∀a,p7=some a→∃o,y a.block=some o:=fun {y} hy a ha=>by
   cases hh:σ' a.block with
   | none=>exact absurd hh (hp7 a ha)
   | some u=>exact⟨u,hy _ _ hh⟩
  let ASg:Hp→Int→Int→Option Addr→Nat→Option Addr→Nat→Int→Prop:=fun y2 k v pv nv qv mv e=>
   (∃z,Ez FF ss t x (st.drop (n7-tp))=some z∧k=z.kind∧v=z.v∧e=0∧AL 4 Q6 σb y2 p7 n7 c7 st∧AT 2 Aa (y2.del p7) pv nv z.vec∧AT 2 KV (y2.del p7) qv mv z.RV)∨(Ez FF ss t x (st.drop (n7-tp))=none∧e=223∧k=0∧v=0∧Ext σb y2)
  have hkr:1≤x.kind∧x.kind≤7:=by
   have B8:=FU hf;unfold E1 at B8;by_cases h1:x.kind=1
   ·omega
   by_cases h2:x.kind=2
   ·omega
   by_cases h3:x.kind=3
   ·omega
   by_cases h4:x.kind=4
   ·omega
   by_cases h5:x.kind=5
   ·omega
   by_cases h6:x.kind=6
   ·omega
   rw[AiK h1,AiK h2,AiK h3,AiK h4,AiK h5,AiK h6]at B8;have:=(AiP B8).1;omega
  obtain⟨f0,hf0⟩:∃f0,ADK[x.kind.toNat-1]?=some f0:=⟨_,AiN (show x.kind.toNat-1<7 by omega)⟩;have sB:=(ho.up).ld (AYc x.kind f0 hkr.1 hkr.2 hf0);have ADM:=AJ5 hf0;have pn:∀(y:Hp) (ad:Option Addr) (ae:Nat),Ext σ' y→AT 4 Q6 (y.del p7) ad (n7-Int.toNat ((n7:Int)-x.parts)) (st.drop (n7-tp))→∀(R':Rr),(∀y2 k v pv nv cv qv mv dv e,ASg y2 k v pv nv qv mv e→R' (.T #[.agg #[.I k,.U v,.slice pv nv cv,.slice qv mv dv],.I e]) y2)→
    Spec prog f0 #[.pointer (some ⟨ab,0,none⟩),KD x p1 k1 c1 q1 m1 d1,.slice ad (n7-Int.toNat ((n7:Int)-x.parts)) ae] y R':=fun y ad ae hy hrd R' RN=>by
   have zv:Ext σb (y.del p7):=ho.2.trans (hy.del p7);have hσ:Ext σ (y.del p7):=xb.trans zv;have hRV:Lw (fun e τ'=>∀y2,(∀a,p7=some a→y2 a.block=y a.block)→y2.del p7=τ'→R' e y2) (y.del p7) (Ez FF ss t x (st.drop (n7-tp))):=by
    refine⟨fun z τ' pv nv cv qv mv dv hz An F1 Ha _ _ y2 jR Jw=>?_,fun hz τ' An y2 jR Jw=>?_⟩
    ·subst Jw;refine RN y2 _ _ _ _ _ _ _ _ _ (.inl ⟨z,hz,rfl,rfl,rfl,⟨⟨ho.1.1,cs,?_,hcc.mono Q6.mono ((hy.del p7).trans An)⟩,zv.trans An⟩,F1,Ha⟩);exact Au.of_eq (Au.mono hy KE) jR
    ·subst Jw;exact RN y2 _ _ _ _ _ _ _ _ _ (.inr ⟨hz,rfl,rfl,rfl,(zv.trans An).trans (Ext.Jb _ _)⟩)
   obtain⟨f,hf1,hf2,hf3,hf4,hf5⟩:=sn (p:=p1) (c:=c1) (q:=q1) (d:=d1) (e:=ae) (hA.mono hσ) (hg.mono hσ) (zo.mono Jt.mono hσ) (uB.mono hσ) hf qZ Sz (by rw[pj,htp]) jQ zA hrd hS ht hRV;rw[hf0]at hf3;cases hf3;exact Spec.zp (hk7 hy) hf5
  have tail:∀(y2:Hp) (CH:Nat) (k v:Int) (pv:Option Addr) (nv cv:Nat) (qv:Option Addr) (mv dv:Nat) (e:Int),y2 CH=none→ASg y2 k v pv nv qv mv e→AK prog (Instr.storeAt 97 (.pointer (aD CH 0)) (.agg #[.I k,.U v,.slice pv nv cv,.slice qv mv dv])) (Hp.set y2 CH ASf) (fun _ AI=>Br (e≠0) (R (.T #[.agg #[.I 0,.U 0,.N,.N],.I e]) AI) (((0:Int)≤((n7:Int)-x.parts)∧((n7:Int)-x.parts)≤(c7:Int))∧∃Rl Rm Rn Ro Rp Rq Rt Ru,Ae AI CH 0 [.I Rl,.U Rm,.slice Rn Ro Rp,.slice Rq Rt Ru]∧Al AI fun US=>AK prog (Builtin.append_ #[140,140] 140 #[(.slice p7 (Int.toNat ((n7:Int)-x.parts)) c7),(.slice (aD US 0) 1 1)]) (Hp.set AI US (.cells #[.I Rl,.U Rm,.slice Rn Ro Rp,.slice Rq Rt Ru] 97 (0,0))) (CS fun gk n50 j9 AU=>AG ((i:Int)+1)∧Du.GL R (aD ab 0) 0 0 none 0 0 none 0 0 (aD rb 0) 8 8 gk n50 j9 (aD b o) n c n ((i:Int)+1) AU))):=fun y2 CH k v pv nv cv qv mv dv e hb hC=>by
   refine Yp rfl (Hp.AA _ _ _) (by simp[Value.oneCell']) rfl ?_;rw[Hp.set_set];have x3:=Ext.set (o:=.cells #[.I k,.U v,.slice pv nv cv,.slice qv mv dv] 97 (0,0)) hb;rcases hC with ⟨z,hz,rfl,rfl,rfl,A6,F1,Ha⟩|⟨hz,rfl,rfl,rfl,An⟩
   ·refine⟨fun hh=>absurd rfl hh,fun _=>⟨by omega,z.kind,z.v,pv,nv,cv,qv,mv,dv,Ae.BY (Hp.AA _ _ _),fun US zc=>?_⟩⟩;obtain⟨w1,w2,w3⟩:=V0 hS.ok hS.nn hf Sz (by rw[pj,htp]) jQ hz;rw[hz]at Bz;have DJ:=(A6.mono Q6.mono x3).take (m:=n7-tp) (by omega);have uO:=x3.del p7;have he:Q6 ((y2.set CH (.cells #[.I z.kind,.U z.v,.slice pv nv cv,.slice qv mv dv] 97 (0,0))).del p7) [.I z.kind,.U z.v,.slice pv nv cv,.slice qv mv dv] z:=⟨pv,nv,cv,qv,mv,dv,rfl,F1.mono Aa.mono uO,Ha.mono KV.mono uO⟩;rw[e1];refine AL.Hu Q6.mono DJ rfl (Q6.one _ _ _ he) he (by omega) (fun p' c' y4 FW _=>⟨_,_,_,rfl,AJ BF hr.big,ih (i+1) _ _ _ _ (st.take (n7-tp)++[z]) (by omega) (by omega) FW (fun u hu=>?_) (by rw[Aid,AiU,AjG];omega) ?_ ?_ ?_⟩) zc
    ·rcases List.mem_append.1 hu with hu|hu
     ·exact hV u (AjY hu)
     ·rw[AiY]at hu;rw[hu];exact w1
    ·rw[Aiq,Ajy,Ajm,List.sum_singleton,Ajw];omega
    ·rw[Aiq,Ajm,w2];exact hT
    ·exact Bz
   ·refine⟨fun _=>h.no ?_ _ (An.trans x3),fun hh=>absurd (by decide) hh⟩;rw[Bz,hz];rfl
  have AYe:∃u,σ' rb=some u:=by
   unfold Hp.ld at sB;cases hq:σ' rb with
   | none=>rw[hq]at sB;cases sB
   | some u=>exact⟨u,rfl⟩
  obtain⟨urb,Zq⟩:=AYe;refine Du.Fg ⟨fun _=>⟨b,o,rfl,by omega,_,_,_,_,_,_,_,_,_,_,_,_,_,_,by simpa using CF.mono hX,fun _=>⟨by unfold AG;omega,rb,0,rfl,by omega,_,sB,by omega,fun o0 so=>⟨?_,fun CH Yt=>?_⟩,fun CH Yt o0 so=>?_⟩⟩,fun hh=>by omega⟩
  ·refine Tx LK hcd hp7 so (by omega) fun ad ae y hrd hy=>⟨ad,_,ae,rfl,fun k hk u hu=>?_,?_,fun CH Yt=>?_⟩
   ·rw[AiY]at hk;subst hk;rw[(Ext.set so) _ _ Zq]at hu;rw[hy _ _ Zq];exact hu
   ·exact⟨f0,#[],#[],rfl,ADM,pn y ad ae hy hrd _ fun y2 k v pv nv cv qv mv dv e hC=>⟨k,v,pv,nv,cv,qv,mv,dv,e,rfl,fun CH Yt=>tail y2 CH k v pv nv cv qv mv dv e Yt hC⟩⟩
   ·exact⟨f0,#[],#[],rfl,ADM,Spec.F6 Yt (pn y ad ae hy hrd _ fun y2 k v pv nv cv qv mv dv e hC po=>⟨k,v,pv,nv,cv,qv,mv,dv,e,rfl,tail y2 CH k v pv nv cv qv mv dv e po hC⟩)⟩
  ·have AC6:=(Hp.C9 Yt);refine AK.F6 Yt (Tx LK hcd hp7 so (by omega) fun ad ae y hrd hy eu=>⟨ad,_,ae,rfl,fun k hk u hu=>?_,?_⟩)
   ·rw[AiY]at hk;subst hk;have Ah:k≠CH:=fun e=>by rw[e,AC6.2]at Zq;cases Zq
    rw[Hp.AM Ah]at hu ⊢;rw[(Ext.set so) _ _ Zq]at hu;rw[hy _ _ Zq];exact hu
   ·exact⟨f0,#[],#[],rfl,ADM,Spec.F6 eu (pn y ad ae hy hrd _ fun y2 k v pv nv cv qv mv dv e hC po=>⟨k,v,pv,nv,cv,qv,mv,dv,e,rfl,tail y2 CH k v pv nv cv qv mv dv e po hC⟩)⟩
  ·have ADN:=(Hp.C9 so);have AC6:(σ'.set o0 (.cells #[] 97 (0,0))) CH=none:=by rw[Hp.AM (AjI ADN.1)];exact Yt
   dsimp only;rw[Hp.Ll (AjI ADN.1)];refine AK.F6 AC6 (Tx LK hcd hp7 ADN.2 (by omega) fun ad ae y hrd hy eu=>⟨ad,_,ae,rfl,fun k hk u hu=>?_,?_⟩)
   ·rw[AiY]at hk;subst hk;have Ah:k≠CH:=fun e=>by rw[e,Yt]at Zq;cases Zq
    rw[Hp.AM Ah]at hu ⊢;rw[(Ext.set ADN.2) _ _ Zq]at hu;rw[hy _ _ Zq];exact hu
   ·exact⟨f0,#[],#[],rfl,ADM,Spec.F6 eu (pn y ad ae hy hrd _ fun y2 k v pv nv cv qv mv dv e hC po=>⟨k,v,pv,nv,cv,qv,mv,dv,e,rfl,tail y2 CH k v pv nv cv qv mv dv e po hC⟩)⟩
end
def Ef (T:List Nd)(ss:List Sr):Int:=match I4 T with
 | none=>220
 | some k=>if k=3 then 220 else if D1 none ss=true then 0 else 224
def instF (T:List Nd)(ss:List Sr)(t:Int):Int×List El:=
 if Ef T ss≠0 then(Ef T ss,[]) else if ¬(-1099511627776≤t∧t≤1099511627776) then(221,[]) else match Bl FF T ss t with
  | none=>(223,[])
  | some l=>(0,l)
structure Modest (T:List Nd)(ss:List Sr):Prop where
 t:T.length≤2000000
 tx:∀x∈T,x.text.size≤4611686018427387904
 s:ss.length≤10000000
 ps:∀s∈ss,s.ps.length≤1000000000
 nn:∀s∈ss,∀p∈s.ps,0≤p.2
theorem Ly:∀{ss:List Sr} {q:Option (List Lb)},D1 q ss=true→∀s∈ss,GD s.ls=0∧Kx s.ps=true
 | s::l,q,h,x,hx=>by
  rw[Lr]at h;simp only[AiS,AiW]at h;rcases AiT.1 hx with rfl|hx
  ·exact⟨h.1.1.1,h.1.1.2⟩
  ·exact Ly h.2 x hx
theorem jP.of {T:List Nd}{ss:List Sr}(hM:Modest T ss)(h:D1 none ss=true):jP ss:=
 ⟨⟨fun s hs=>sF (Ly h s hs).2,fun s hs=>Af.of (Ly h s hs).1,hM.s⟩,hM.nn,hM.ps⟩
section
variable {σ σ' σ0:Hp}{R:Rr}
theorem O2 {p q:Option Addr}{n c m d:Nat}{T:List Nd}{ss:List Sr}{t kf:Int}(hg:Gl σ)(hr:AT 10 GF σ p n T)(hs:AT 2 Dh σ q m ss)(hS:jP ss)(hn:n≤4096)(ht:-4611686018427387904≤t∧t≤4611686018427387904)(VR:DA T []=some [kf])
  (h:∀l p' n' c' σ',Bl FF T ss t=some l→Ext σ σ'→AT 2 Aa σ' p' n' l→R (.T #[.slice p' n' c',.I 0]) σ') (h':Bl FF T ss t=none→∀σ',Ext σ σ'→R (.T #[.N,.I 223]) σ') :
  Spec prog 27 #[.slice p n c,.slice q m d,.I t] σ R:=by
 refine Ig.start fun ab ym=>?_;have xa:=Ext.set (o:=.cells #[.slice q m d,.I t] 101 (0,0)) ym;have hA:Ur (σ.set ab (.cells #[.slice q m d,.I t] 101 (0,0))) ab ss t:=⟨⟨q,m,d,Aj (Hp.AA _ _ _) rfl,hs.mono Dh.mono xa⟩,Aj (Hp.AA _ _ _) rfl⟩;refine zq hA (hg.mono xa) (hr.mono GF.mono xa) hS hn ht VR ⟨fun x σ1 pv nv cv qv mv dv hx Bc h1 h2=>?_,fun Cg σ1 Bc=>?_⟩
 ·have hm:Bl FF T ss t=some (if x.kind=1 then[⟨[],x.v⟩] else x.vec):=by
   unfold Bl;cases Bz:Ip FF ss t T [] with
   | none=>rw[Bz]at hx;cases hx
   | some st=>
    rw[Bz]at hx;show(st.head?.map _)=_
    rw[show st.head?=some x from hx];rfl
  refine⟨_,_,_,_,_,_,_,_,_,rfl,fun _=>⟨fun hk=>fun H0 AYf=>Ig.AO ?_,fun hk=>Ig.AO ?_⟩⟩
  ·rw[AiL hk]at hm;refine h _ _ _ _ _ hm (xa.trans (Bc.trans (.set AYf))) ⟨rfl,[.N,.U x.v],⟨rfl,by omega,.inr ⟨H0,0,rfl,Ae.BY (c:=[.N,.U x.v]) (Hp.AA _ _ _)⟩⟩,rfl,fun i y hy=>?_⟩;cases i with
   | zero=>
    simp only[Aim,AiO]at hy;subst hy;exact⟨none,0,0,rfl,AT.nil⟩
   | succ i=>simp at hy
  ·rw[AiK hk]at hm;exact h _ _ _ _ _ hm (xa.trans Bc) h1
 ·have hm:Bl FF T ss t=none:=by
   unfold Bl;cases Bz:Ip FF ss t T [] with
   | none=>rfl
   | some st=>
    rw[Bz]at Cg;show(st.head?.map _)=_
    rw[show st.head?=none from Cg];rfl
  exact⟨_,_,_,_,_,_,_,_,_,rfl,fun _=>⟨fun hk=>absurd hk (by decide),fun _=>Ig.AO (h' hm _ (xa.trans Bc))⟩⟩
theorem Ty {p q:Option Addr}{n c m d:Nat}{T:List Nd}{ss:List Sr}(hr:AT 10 GF σ p n T)(hs:AT 2 Dh σ q m ss)(hM:Modest T ss)(h:∀σ',Ext σ σ'→R (.returned (.I (Ef T ss))) σ'):Spec prog 25 #[.slice p n c,.slice q m d] σ R:=by
 have hl:T.length=n:=hr.1;have hMt:=hM.t;refine aT.start (RA hr (by omega) hM.tx (fun k σ1 hk Bc=>⟨_,_,_,rfl,fun hh=>absurd rfl hh,fun _=>⟨fun h3=>?_,fun h3=>ia (hs.mono Dh.mono Bc) fun σ2 An=>⟨_,rfl,fun Ah=>?_,fun h0=>?_⟩⟩⟩) fun k j e σ1 hk he Bc=>⟨_,_,_,rfl,fun _=>?_,fun hh=>absurd he hh⟩)
 ·have:=h σ1 Bc;rwa[show Ef T ss=220 by unfold Ef;rw[hk];exact AiL h3]at this
 ·have:=h σ2 (Bc.trans An);have ho:¬D1 none ss=true:=fun ho=>Ah (by rw[ho];rfl);rwa[show Ef T ss=224 by unfold Ef;rw[hk];show(if k=3 then _ else _)=_;rw[AiK h3,AiK ho]]at this
 ·have:=h σ2 (Bc.trans An);have ho:D1 none ss=true:=by
   cases hq:D1 none ss with
   | true=>rfl
   | false=>rw[hq]at h0;exact absurd (by decide) h0
  rwa[show Ef T ss=0 by unfold Ef;rw[hk];show(if k=3 then _ else _)=_;rw[AiK h3,AiL ho]]at this
 ·have:=h σ1 Bc;rwa[show Ef T ss=220 by unfold Ef;rw[hk]]at this
def EIn (τ:Hp)(vs:List Value)(x:El×Nat):Prop:=∃p n c,vs=[.slice p n c,.slice (aD x.2 0) 1 1]∧Dy τ p n x.1.ls
theorem EIn.mono:Ht EIn:=fun _ _ _ _ hx ⟨p,n,c,hv,h⟩=>⟨p,n,c,hv,h.mono BL.mono hx⟩
structure kI (t:Int)(τ σ:Hp)(p:Option Addr)(n c:Nat)(l:List El)(bs:List Nat):Prop where
 len:bs.length=l.length
 own:∃cs,Au 2 σ p n c cs∧Ch 2 EIn τ cs (l.zip bs)
 ZH:∀(i b:Nat) (e:El),bs[i]?=some b→l[i]?=some e→σ b=some (.cells #[.I t,.U e.v] 61 (0,0))
 op:∀a,p=some a→τ a.block=none∧a.block ∉ bs
 tb:∀b∈bs,τ b=none
 nd:bs.Nodup
 ext:Ext τ σ
theorem kI.known {t:Int}{τ:Hp}{p:Option Addr}{n c:Nat}{l:List El}{bs:List Nat}(h:kI t τ σ p n c l bs):∀b∈bs,∃u,σ b=some u:=fun b hb=>by
 obtain⟨i,hi⟩:=List.mem_iff_getElem?.1 hb;have Aq:=(List.getElem?_eq_some_iff.1 hi).1;exact⟨_,h.ZH i b _ hi (AiN (by rw[←h.len];exact Aq))⟩
theorem kI.mono {t:Int}{τ:Hp}{p:Option Addr}{n c:Nat}{l:List El}{bs:List Nat}(h:kI t τ σ p n c l bs)(hx:Ext σ σ'):kI t τ σ' p n c l bs:=
 ⟨h.len,let ⟨cs,h1,h2⟩:=h.own;⟨cs,h1.mono hx,h2⟩,fun i b e hb he=>hx _ _ (h.ZH i b e hb he),h.op,h.tb,h.nd,h.ext.trans hx⟩
theorem kI.rd {t:Int}{τ:Hp}{p:Option Addr}{n c:Nat}{l:List El}{bs:List Nat}(h:kI t τ σ p n c l bs):AT 2 Dh σ p n (l.map fun e=>⟨e.ls,[(t,e.v)]⟩):=by
 obtain⟨cs,h1,h2⟩:=h.own;have hz:(l.zip bs).length=l.length:=by rw[AjO,h.len,Ajx]
 have hln:l.length=n:=by
  have a1:=h1.1;have a2:=h2.1;rw[hz]at a2;omega
 refine⟨by rw[Aii];exact hln,cs,h1.rd,by rw[h2.1,hz,Aii],fun i s hs=>?_⟩;rw[Ait]at hs;cases he:l[i]? with
 | none=>rw[he]at hs;cases hs
 | some e=>
  rw[he]at hs;simp only[Aiv,AiO]at hs;subst hs;have Aq:=(List.getElem?_eq_some_iff.1 he).1;obtain⟨b,hb⟩:∃b,bs[i]?=some b:=⟨_,AiN (by rw[h.len];exact Aq)⟩;obtain⟨p1,n1,c1,hv,NM⟩:=h2.2 i (e,b) (List.getElem?_zip_eq_some.2 ⟨he,hb⟩);refine⟨p1,n1,c1,aD b 0,1,1,hv,NM.mono BL.mono h.ext,⟨rfl,[.I t,.U e.v],⟨rfl,by omega,.inr ⟨b,0,rfl,Ae.BY (c:=[.I t,.U e.v]) (h.ZH i b e hb he)⟩⟩,rfl,fun j y hy=>?_⟩,AiV _⟩;cases j with
  | zero=>simp only[Aim,AiO]at hy;subst hy;rfl
  | succ j=>simp at hy
theorem kI.add {t:Int}{τ:Hp}{p:Option Addr}{n c b:Nat}{l:List El}{bs:List Nat}{e:El}{pl:Option Addr}{nl cl:Nat}{y:Hp}{Φ:Value→Hp→Prop}(h:kI t τ σ p n c l bs)(hy:Ext σ y)(hr:Dy (σ.new y) pl nl e.ls)(hb:y b=none)(hn:n≤1000000000000)
  (hΦ:∀τ' p' c' σ',kI t τ' σ' p' (n+1) c' (l++[e]) (bs++[b])→Ext τ τ'→Φ (.slice p' (n+1) c') σ') :
  Al (Hp.set y b (.cells #[.I t,.U e.v] 61 (0,0))) fun RM=>AK prog (Builtin.append_ #[23,23] 23 #[.slice p n c,(.slice (aD RM 0) 1 1)]) (Hp.set (Hp.set y b (.cells #[.I t,.U e.v] 61 (0,0))) RM (.cells #[.slice pl nl cl,.slice (aD b 0) 1 1] 51 (0,0))) Φ:=fun RM dY=>by
 obtain⟨cs,h1,h2⟩:=h.own;have xb:=Ext.set (o:=.cells #[.I t,.U e.v] 61 (0,0)) hb;have xc:=Ext.set (o:=.cells #[.slice pl nl cl,.slice (aD b 0) 1 1] 51 (0,0)) dY;have X:=hy.trans (xb.trans xc);have hz:(l.zip bs).length=l.length:=by rw[AjO,h.len,Ajx]
 have Tz:σ b=none:=Am hy hb;have zG:b≠RM:=fun e=>by rw[←e,Hp.AA]at dY;cases dY
 refine DT (h1.mono X) (q:=aD RM 0) (ys:=[.slice pl nl cl,.slice (aD b 0) 1 1]) ⟨rfl,by omega,.inr ⟨RM,0,rfl,Ae.BY (c:=[.slice pl nl cl,.slice (aD b 0) 1 1]) (Hp.AA _ _ _)⟩⟩ (fun u hu=>by
  simp only[AiT,Air,or_false]at hu;rcases hu with rfl|rfl<;>rfl) (by omega) fun p' c' σ5 KT Sv=>?_
 have T:∀k u,σ k=some u→(∀a,p=some a→k≠a.block)→σ5 k=some u∧∀a,p'=some a→k≠a.block:=fun k u hk Ah=>by
  obtain⟨a1,a2⟩:=AN.1 (Sv k u (AN.2 ⟨Ah,X _ _ hk⟩));exact⟨a2,a1⟩
 have Tb:=AN.1 (Sv b _ (AN.2 ⟨fun a ha e=>h1.block a ha (by rw[←e];exact Tz),xc _ _ (Hp.AA _ _ _)⟩));have tt:Ext τ (τ.or (σ.new y)):=Ext.mG _ _;have nt:Ext (σ.new y) (τ.or (σ.new y)):=Ext.R7 fun k hk=>by
  cases hh:τ k with
  | none=>rfl
  | some u=>
   have h3:=h.ext _ _ hh;cases h4:(σ.new y) k with
   | none=>exact absurd h4 hk
   | some v=>rw[(AR.1 h4).1]at h3;cases h3
 have kn:∀k,(∃u,σ k=some u)→τ k=none→(τ.or (σ.new y)) k=none:=fun k ⟨u,hu⟩ hk=>by
  rw[Hp.R7 hk];cases hh:(σ.new y) k with
  | none=>rfl
  | some v=>rw[(AR.1 hh).1]at hu;cases hu
 have tb:(τ.or (σ.new y)) b=none:=by
  rw[Hp.R7 (Am h.ext Tz)];cases hh:(σ.new y) b with
  | none=>rfl
  | some v=>rw[(AR.1 hh).2]at hb;cases hb
 have hbn:b ∉ bs:=fun hc=>by obtain⟨u,hu⟩:=h.known b hc;rw[Tz]at hu;cases hu
 have hE5:Ext (τ.or (σ.new y)) σ5:=fun k u hk=>by
  have mO:y k=some u:=(Ext.YQ (h.ext.trans hy) (Ext.B9 _ _)) _ _ hk;refine(AN.1 (Sv k u (AN.2 ⟨fun a ha e=>?_,xc _ _ (xb _ _ mO)⟩))).2;have kF:∃u,σ a.block=some u:=by
   cases hh:σ a.block with
   | none=>exact absurd hh (h1.block a ha)
   | some u=>exact⟨u,rfl⟩
  rw[e,kn a.block kF (h.op a ha).1]at hk;cases hk
 refine hΦ (τ.or (σ.new y)) p' c' σ5 ⟨by simp[h.len],⟨_,KT,?_⟩,fun i b' e' Iw QZ=>?_,fun a ha=>⟨?_,fun hc=>?_⟩,fun b' Iw=>?_,?_,hE5⟩ tt
 ·rw[List.zip_append h.len.symm];exact(h2.mono EIn.mono tt).snoc rfl ⟨pl,nl,cl,rfl,hr.mono BL.mono nt⟩
 ·rw[AjD]at Iw QZ;split at Iw
  ·rename_i Aq;rw[AiL (by rw[←h.len];exact Aq)]at QZ;have:=h.ZH i b' e' Iw QZ;exact(T b' _ this fun a ha e=>(h.op a ha).2 (e▸AiM Iw)).1
  ·rename_i Aq;rw[AiK (by rw[←h.len];exact Aq),←h.len]at QZ;cases hq:i-bs.length with
   | zero=>
    rw[hq]at Iw QZ;simp only[Aim,AiO]at Iw QZ;subst Iw;subst QZ;exact Tb.2
   | succ j=>rw[hq]at Iw;simp at Iw
 ·cases hh:(τ.or (σ.new y)) a.block with
  | none=>rfl
  | some u=>
   exfalso;have mO:y a.block=some u:=(Ext.YQ (h.ext.trans hy) (Ext.B9 _ _)) _ _ hh;refine(AN.1 (Sv a.block u (AN.2 ⟨fun a' GI e=>?_,xc _ _ (xb _ _ mO)⟩))).1 a ha rfl;have kF:∃u,σ a'.block=some u:=by
    cases hh:σ a'.block with
    | none=>exact absurd hh (h1.block a' GI)
    | some u=>exact⟨u,rfl⟩
   rw[e,kn a'.block kF (h.op a' GI).1]at hh;cases hh
 ·rcases List.mem_append.1 hc with hc|hc
  ·obtain⟨u,hu⟩:=h.known _ hc;exact(T a.block u hu fun a' GI e=>(h.op a' GI).2 (e▸hc)).2 a ha rfl
  ·rw[AiY]at hc;exact Tb.1 a ha hc.symm
 ·rcases List.mem_append.1 Iw with Iw|Iw
  ·exact kn b' (h.known _ Iw) (h.tb _ Iw)
  ·rw[AiY]at Iw;rw[Iw];exact tb
 ·rw[List.nodup_append];exact⟨h.nd,by simp,fun a ha b' Iw e=>by rw[AiY]at Iw;rw[e,Iw]at ha;exact hbn ha⟩
end
theorem zw {ss:List Sr}{t:Int}(hS:jP ss):∀(T:List Nd) (st r:List Vv) (ty:List Int),DA T (st.map (·.kind))=some ty→Ip FF ss t T st=some r→(∀x∈st,VG x)→(∀x∈r,VG x)∧(r.map Cc).sum≤(st.map Cc).sum+T.length*ss.length
 | [],st,r,ty,_,hr,hV=>by
  cases hr;exact⟨hV,by omega⟩
 | x::T,st,r,ty,hT,hr,hV=>by
  have Eu:(BQ x (st.map (·.kind))).1=0:=Aj4 fun Ah=>by
   rw[DA,AiK Ah]at hT;cases hT
  rw[DA,AiL Eu]at hT;obtain⟨hf,zR,qZ,Sz,zt⟩:=V1 Eu;have hpn:=O1 hf;rw[Aii]at Sz zt zR;rw[zt,←List.map_drop,←List.map_take]at hT;rw[←List.map_drop]at Sz;rw[Ip]at hr;have pj:((st.drop (st.length-x.parts.toNat)).length:Int)=x.parts:=by rw[Aic];omega
  have jQ:∀y∈st.drop (st.length-x.parts.toNat),VG y:=fun y hy=>hV y (AjT hy);have Ow:(st.map Cc).sum=((st.take (st.length-x.parts.toNat)).map Cc).sum+((st.drop (st.length-x.parts.toNat)).map Cc).sum:=by
   rw[←Ajy,←Aiq,Ai8]
  cases hz:Ez FF ss t x (st.drop (st.length-x.parts.toNat)) with
  | none=>rw[hz]at hr;cases hr
  | some z=>
   rw[hz]at hr;obtain⟨w1,w2,w3⟩:=V0 hS.ok hS.nn hf Sz pj jQ hz;obtain⟨g1,g2⟩:=zw hS T (st.take (st.length-x.parts.toNat)++[z]) r ty (by rw[Aiq,Ajm,w2];exact hT) hr (fun u hu=>by
    rcases List.mem_append.1 hu with hu|hu
    ·exact hV u (AjY hu)
    ·rw[AiY]at hu;rw[hu];exact w1)
   refine⟨g1,?_⟩;rw[Aiq,Ajy,Ajm,List.sum_singleton]at g2;rw[AjB,Ajw];omega
theorem Pe {ss:List Sr}{t k:Int}{T:List Nd}{l:List El}(hS:jP ss)(hT:DA T []=some [k])(h:Bl FF T ss t=some l):(∀e∈l,Af e.ls)∧l.length≤1+T.length*ss.length:=by
 unfold Bl at h;cases hr:Ip FF ss t T [] with
 | none=>rw[hr]at h;cases h
 | some st=>
  rw[hr]at h;obtain⟨g1,g2⟩:=zw hS T [] st _ hT hr (fun x hx=>by cases hx)
  change (st.head?.map fun v:Vv=>if v.kind=1 then[(⟨[],v.v⟩:El)] else v.vec)=some l at h
  cases st with
  | nil=>cases h
  | cons v st=>
   simp only[AkA,Aiv,AiO]at h;have hv:=g1 v (by simp);rw[Ai4,List.sum_cons]at g2;simp only[List.map_nil,List.sum_nil]at g2;unfold Cc at g2;split at h
   ·subst h;exact⟨fun e he=>by rw[AiY]at he;subst he;exact⟨AiR _,fun x hx=>by cases hx⟩,by simp⟩
   ·subst h;exact⟨fun e he=>(hv.el e he).1,by omega⟩
section
variable {σ σ' σ0:Hp}{R:Rr}
theorem Pf {t:Int}(h:R (.returned (.bool (decide (-1099511627776≤t∧t≤1099511627776)))) σ):Spec prog 26 #[.I t] σ R:=by
 refine ai.start ⟨fun h1=>?_,fun h1=>?_⟩
 ·rw[show decide (-1099511627776≤t∧t≤1099511627776)=decide (t≤1099511627776) from Ai9.2 ⟨fun h=>h.2,fun h=>⟨h1,h⟩⟩]at h;exact h
 ·rw[show decide (-1099511627776≤t∧t≤1099511627776)=false from AiZ fun hh=>h1 hh.1]at h;exact h
theorem Jx {T:List Nd}{k:Int}(h:I4 T=some k):DA T []=some [k]∧T.length≤4096:=by
 unfold I4 at h;cases hr:DA T [] with
 | none=>rw[hr]at h;cases h
 | some st=>
  rw[hr]at h
  match st with
  | []=>cases h
  | [x]=>
   change (if T.length≤4096 then some x else none)=some k at h
   split at h
   ·rename_i h4;cases h;exact⟨rfl,h4⟩
   ·cases h
  | _::_::_=>cases h
theorem inst_spec {p q:Option Addr}{n c m d:Nat}{T:List Nd}{ss:List Sr}{t:Int}(hg:Gl σ)(hr:AT 10 GF σ p n T)(hs:AT 2 Dh σ q m ss)(hM:Modest T ss)
  (h:∀τ p' n' c' σ' bs,(instF T ss t).1=0→kI t τ σ' p' n' c' (instF T ss t).2 bs→Ext σ τ→R (.T #[.slice p' n' c',.I 0]) σ') (h':∀σ',(instF T ss t).1≠0→Ext σ σ'→R (.T #[.N,.I (instF T ss t).1]) σ') :
  Spec prog 8 #[.slice p n c,.slice q m d,.I t] σ R:=by
 refine CA.start (Ty hr hs hM fun σ1 Bc=>⟨_,rfl,fun Ah=>?_,fun h0=>Pf ⟨_,rfl,fun htf=>?_,fun zL=>?_⟩⟩)
 ·have e:instF T ss t=(Ef T ss,[]):=by unfold instF;rw[AiL Ah]
  rw[e] at h';exact h' σ1 Ah Bc
 ·have e:instF T ss t=(221,[]):=by unfold instF;rw[AiK h0,AiL (Aio htf)]
  rw[e] at h';exact h' σ1 (by dsimp only;decide) Bc
 have Ju:=Aig.1 h0;have ht:=AiP zL;obtain⟨k,hk,hk3,EI⟩:∃k,I4 T=some k∧k≠3∧D1 none ss=true:=by
  unfold Ef at Ju;cases hq:I4 T with
  | none=>rw[hq]at Ju;dsimp only at Ju;exact absurd Ju (by decide)
  | some k=>
   rw[hq]at Ju;dsimp only at Ju;by_cases h3:k=3
   ·rw[AiL h3]at Ju;exact absurd Ju (by decide)
   ·rw[AiK h3]at Ju;cases ho:D1 none ss with
    | true=>exact⟨k,rfl,h3,rfl⟩
    | false=>rw[ho]at Ju;exact absurd Ju (by decide)
 have hS:=jP.of hM EI;obtain⟨Bz,hlen⟩:=Jx hk;have hl:T.length=n:=hr.1;refine O2 (hg.mono Bc) (hr.mono GF.mono Bc) (hs.mono Dh.mono Bc) hS (by omega) (by omega) Bz (fun l p' n' c' σ2 hm An NM=>⟨_,_,_,_,rfl,fun hh=>absurd rfl hh,fun _=>?_⟩) fun hm σ2 An=>⟨_,_,_,_,rfl,fun _=>?_,fun hh=>absurd (by decide) hh⟩
 ·have e:instF T ss t=(0,l):=by unfold instF;rw[AiK h0,AiK (by rw[Aig];exact ht),hm]
  rw[e]at h;dsimp only at h;have hll:l.length=n':=NM.1;have hX:=Bc.trans An;obtain⟨mo1,mo2⟩:=Pe hS Bz hm;have zx:n'≤100000000000:=by
   have:=Aj6 hlen hS.ok.len;omega
  suffices H:∀g i:Nat,∀τ p1 n1 c1 σ3 bs,n'-i=g→i≤n'→kI t τ σ3 p1 n1 c1 (l.take i) bs→Ext σ2 τ→CA.Nc R t p1 n1 c1 p' n' c' n' i σ3 from
   H n' 0 σ2 none 0 0 σ2 [] rfl (AiR _) ⟨rfl,⟨[],Au.nil,by simp[Ch]⟩,fun i b e hb=>(by simp at hb),fun a ha=>(by cases ha),fun b hb=>(by cases hb),List.nodup_nil,.refl _⟩ (.refl _)
  intro g
  induction g with
  | zero=>
   intro i τ p1 n1 c1 σ3 bs jH hi hA BU;rw[AiQ (by omega)]at hA;exact CA.PN ⟨fun Aq=>by omega,fun _=>h τ p1 n1 c1 σ3 bs rfl hA (hX.trans BU)⟩
  | succ g ih=>
   intro i τ p1 n1 c1 σ3 bs jH hi hA BU;have BF:i<n':=by omega
   obtain⟨x,hx⟩:=NM.ex BF;obtain⟨b,o,q1,m1,d1,rfl,CF,VQ⟩:=Aa.at NM hx;have kJ:=BU.trans hA.ext;have mq:=VQ.mono BL.mono kJ;have NR:m1≤1000000000:=by
    have:=(mo1 x (AiM hx)).rd VQ;omega
   have hn1:n1=i:=by
    obtain⟨cs,a1,a2⟩:=hA.own;have a3:=a1.1;have a4:=a2.1;rw[AjO,hA.len,Ajx,AiU]at a4;omega
   have next:∀τ' p2 c2 σ4 bs',kI t τ' σ4 p2 (n1+1) c2 (l.take i++[x]) bs'→Ext τ τ'→AG ((i:Int)+1)∧CA.Nc R t p2 (n1+1) c2 (aD b o) n' c' n' ((i:Int)+1) σ4:=fun τ' p2 c2 σ4 bs' dZ JK=>
    ⟨AJ BF NM.big,ih (i+1) τ' p2 (n1+1) c2 σ4 bs' (by omega) (by omega) (by rw[AQ hx];exact dZ) (BU.trans JK)⟩
   refine CA.PN ⟨fun _=>⟨b,o,rfl,by omega,q1,m1,d1,x.v,by simpa using CF.mono kJ,fun _=>⟨fun Vi Yn=>⟨?_,fun I9 T1=>?_⟩,fun I9 T1 Vi Yn=>?_⟩⟩,fun hh=>by omega⟩
   ·refine Dz mq NR (fun ZZ Za y ho hy=>⟨_,_,_,rfl,fun I9 T1=>kI.add hA hy (ho.rd BL.mono) T1 (by omega) fun τ' p2 c2 σ4 dZ JK=>⟨_,_,_,rfl,next _ _ _ _ _ dZ JK⟩⟩) Yn
   ·have jS:=(Hp.C9 T1);refine AK.F6 T1 (Dz mq NR (fun ZZ Za y ho hy eu=>⟨_,_,_,rfl,kI.add hA hy (ho.rd BL.mono) eu (by omega) fun τ' p2 c2 σ4 dZ JK=>⟨_,_,_,rfl,next _ _ _ _ _ dZ JK⟩⟩) Yn)
   ·have mr:=(Hp.C9 Yn);have jS:(σ3.set Vi (.cells #[] 71 (0,0))) I9=none:=by rw[Hp.AM (AjI mr.1)];exact T1
    dsimp only;rw[Hp.Ll (AjI mr.1)];refine AK.F6 jS (Dz mq NR (fun ZZ Za y ho hy eu=>⟨_,_,_,rfl,kI.add hA hy (ho.rd BL.mono) eu (by omega) fun τ' p2 c2 σ4 dZ JK=>⟨_,_,_,rfl,next _ _ _ _ _ dZ JK⟩⟩) mr.2)
 ·have e:instF T ss t=(223,[]):=by unfold instF;rw[AiK h0,AiK (by rw[Aig];exact ht),hm]
  rw[e] at h';exact h' σ2 (by dsimp only;decide) (Bc.trans An)
end
theorem Au.da {P:Program}{s:Nat}{σ:Hp}{b o n c j:Nat}{cs:List Value}{v:Value}{T:TypeId}{Φ:Unit→Hp→Prop}(ho:Au s σ (some ⟨b,o,none⟩) n c cs)(hj:j<n*s)(hz:∀w,(Go.sizeOf T).run P w=.ok 1 w)(hv:v.cells=#[v])(h1:v.oneCell'=true)
  (hΦ:∀obj,Au s (σ.set b obj) (some ⟨b,o,none⟩) n c (cs.set j v)→Φ () (σ.set b obj)):AK P (Instr.storeAt T (.pointer (some ⟨b,o+j,none⟩)) v) σ Φ:=by
 obtain⟨hl,hb0,h⟩:=ho;rcases h with ⟨hp,_⟩|⟨b',o',arr,T',hp,hb,oC,J2,LK⟩
 ·cases hp
 ·cases hp;have hns:n*s≤c*s:=Aiw s oC;refine AK.store hz hb (by rw[hv];rfl) (by omega) (by rw[hv];simpa using h1) (hΦ _ ⟨by rw[Ajh];exact hl,hb0,.inr ⟨b,o,_,T',rfl,Hp.AA _ _ _,oC,by simp[IV];exact J2,?_⟩⟩);rw[hv,←LK];refine AjP fun i=>?_;simp only[Qp,Array.toList_setIfInBounds];rw[Ail,Ajq,Ail];by_cases hi:i<n*s
  ·rw[AiL hi,AiL hi,Ain,Ain,Ajq];by_cases JE:j=i
   ·subst JE;have Aq:o+j<arr.size:=by omega
    simp[Aq];exact Nat.lt_min.2 ⟨hj,by omega⟩
   ·rw[AiK (by omega),AiK JE]
  ·rw[AiK hi,AiK hi];split
   ·omega
   ·rfl
theorem J5.one (σ:Hp)(vs:List Value)(x:Pt)(h:J5 σ vs x):G7 vs:=by
 rw[show vs=[.I x.1,.U x.2] from h];intro u hu;simp only[AiT,Air,or_false]at hu;rcases hu with rfl|rfl<;>rfl
theorem Jt.one (σ:Hp)(vs:List Value)(x:Mt)(h:Jt σ vs x):G7 vs:=by
 rw[show vs=[.I x.kind,.string x.name,.string x.val] from h];intro u hu;simp only[AiT,Air,or_false]at hu;rcases hu with rfl|rfl|rfl<;>rfl
section
variable {σ σ' σ0:Hp}{R:Rr}
theorem Pg {T Et ty:TypeId}{s bs:Nat}[J6 prog T Et s bs]{q:Option Addr}{j c b:Nat}{cs:List Value}{Φ:Value→Hp→Prop}(LK:G6 s σ q j cs)(h1:G7 cs)(hb:j*bs≤140737488355328)
  (hΦ:∀p' c' σ',Au s (σ.new σ') p' j c' cs→Ext σ σ'→Φ (.slice p' j c') σ') (hn:σ b=none) :
  AK prog (Builtin.append_ #[T,T] ty #[.slice (some ⟨b,0,none⟩) 0 0,.slice q j c]) (σ.set b (.cells #[] Et (0,0))) Φ:=by
 refine DT Au.empty (LK.mono (.set hn)) h1 (by rw[AjV];exact hb) fun p' c' σ' DB I2=>?_;have hq:∀a:Addr,(some (⟨b,0,none⟩:Addr))=some a→σ a.block=none:=fun a ha=>by cases ha;exact hn
 rw[AjV]at DB ⊢;rw[AjK]at DB;exact hΦ p' c' σ' (Au.WG DB (JP hq I2 (.set hn))) (PF hq I2 (.set hn))
theorem sq {p:Option Addr}{n c:Nat}{ms:List Mt}(hr:AT 3 Jt σ p n ms)(hn:n≤1000000000)(h:∀p' c' σ',AT 3 Jt (σ.new σ') p' n ms→Ext σ σ'→R (.returned (.slice p' n c')) σ'):Spec prog 21 #[.slice p n c] σ R:=by
 obtain⟨h1,cs,h2,h3⟩:=hr;exact KN.start fun b hb=>Pg h2 (Ch.WH Jt.one h3 (by decide)) (by omega) (fun p' c' σ' ho hx=>⟨_,_,_,rfl,h p' c' σ' ⟨h1,cs,Au.rd ho,h3.1,fun i x hx=>h3.2 i x hx⟩ hx⟩) hb
theorem jT {p:Option Addr}{n c:Nat}{ls:List ByteArray}(hr:G6 1 σ p n (ls.map .string))(hn:n≤1000000000)(h:∀p' c' σ',G6 1 (σ.new σ') p' n (ls.map .string)→Ext σ σ'→R (.returned (.slice p' n c')) σ'):Spec prog 22 #[.slice p n c] σ R:=
 Na.start fun b hb=>Pg hr (fun u hu=>by obtain⟨x,_,rfl⟩:=List.mem_map.1 hu;rfl) (by omega) (fun p' c' σ' ho hx=>⟨_,_,_,rfl,h p' c' σ' (Au.rd ho) hx⟩) hb
theorem dc {p:Option Addr}{n c:Nat}{ls:List Lb}(hr:Dy σ p n ls)(hn:n≤1000000000)(h:∀p' c' σ',Dy (σ.new σ') p' n ls→Ext σ σ'→R (.returned (.slice p' n c')) σ'):Spec prog 23 #[.slice p n c] σ R:=
 ND.start fun b hb=>Dz hr hn (fun p' c' σ' ho hx=>⟨_,_,_,rfl,h p' c' σ' (ho.rd BL.mono) hx⟩) hb
theorem de {p:Option Addr}{n c:Nat}{ps:List Pt}(hr:AT 2 J5 σ p n ps)(hn:n≤1000000000)(h:∀p' c' σ',Ix 2 J5 (σ.new σ') p' n c' ps→Ext σ σ'→R (.returned (.slice p' n c')) σ'):Spec prog 24 #[.slice p n c] σ R:=by
 obtain⟨h1,cs,h2,h3⟩:=hr;exact NF.start fun b hb=>Pg h2 (Ch.WH J5.one h3 (by decide)) (by omega) (fun p' c' σ' ho hx=>⟨_,_,_,rfl,h p' c' σ' ⟨h1,cs,ho,h3.1,fun i x hx=>h3.2 i x hx⟩ hx⟩) hb
theorem GF.one (σ:Hp)(vs:List Value)(x:Nd)(h:GF σ vs x):G7 vs:=by
 obtain⟨p,k,c,q,m,d,rfl,_⟩:=h;intro u hu;simp only[AiT,Air,or_false]at hu;rcases hu with rfl|rfl|rfl|rfl|rfl|rfl|rfl|rfl|rfl|rfl<;>rfl
theorem Dh.one (σ:Hp)(vs:List Value)(x:Sr)(h:Dh σ vs x):G7 vs:=by
 obtain⟨p,n,c,q,m,d,rfl,_⟩:=h;intro u hu;simp only[AiT,Air,or_false]at hu;rcases hu with rfl|rfl<;>rfl
structure TOk (T:List Nd):Prop where
 t:T.length≤2000000
 mt:∀x∈T,x.mt.length≤1000000000
 nm:∀x∈T,x.names.length≤1000000000
theorem jU {p:Option Addr}{n c:Nat}{T:List Nd}(hr:AT 10 GF σ p n T)(hT:TOk T)(h:∀p' c' σ',AL 10 GF σ σ' p' n c' T→R (.returned (.slice p' n c')) σ'):Spec prog 6 #[.slice p n c] σ R:=by
 have hl:T.length=n:=hr.1;have ht:=hT.t;refine FR.start ?_
 suffices H:∀g i:Nat,∀p3 n3 c3 σ',n-i=g→i≤n→AL 10 GF σ σ' p3 n3 c3 (T.take i)→FR.Ab R p n c p3 n3 c3 i σ' from H n 0 none 0 0 σ rfl (AiR _) (AL.nil (.refl _))
 intro g
 induction g with
 | zero=>
  intro i p3 n3 c3 σ' hg hi ho;rw[AiQ (by omega)]at ho;have hn3:n=n3:=hl.symm.trans ho.1.1;subst hn3;exact FR.AO ⟨fun Aq=>by omega,fun _=>h p3 c3 σ' ho⟩
 | succ g ih=>
  intro i p3 n3 c3 σ' hg hi ho;have BF:i<n:=by omega
  obtain⟨x,hx⟩:=hr.ex BF;obtain⟨b,o,p1,k1,c1,q1,m1,d1,rfl,CF,zo,uB⟩:=GF.at hr hx;have jC:=AiM hx;have a1:=hT.mt x jC;have a2:=hT.nm x jC;have a3:x.mt.length=k1:=zo.1;have a4:(x.names.map Value.string).length=m1*1:=uB.1;rw[Aii]at a4;have hn3:n3=i:=by have:=ho.1.1;rw[AiU]at this;omega
  refine FR.AO ⟨fun _=>⟨b,o,rfl,by omega,_,_,_,_,_,_,_,_,_,_,_,_,_,_,by simpa using CF.mono ho.up,fun _=>sq (zo.mono Jt.mono ho.up) (by omega) fun p4 c4 σ2 Ha An=>⟨_,_,_,rfl,jT ((uB.mono ho.up).mono An) (by omega) fun p5 c5 σ3 SM BU=>⟨_,_,_,rfl,fun ec AJ9=>?_⟩⟩⟩,fun hh=>by omega⟩;have DJ:=ho.mono GF.mono (An.trans BU);have he:GF (σ3.del p3) [.I x.kind,.I x.op,.string x.text,.slice p4 k1 c4,.I x.width,.I x.back,.I x.BW,.slice p5 m1 c5,.bool x.bool,.I x.parts] x:=
   ⟨p4,k1,c4,p5,m1,c5,rfl,Ha.mono Jt.mono ((Ext.Jc BU).trans (ho.new (An.trans BU))),SM.mono ((Ext.Eg An).trans (ho.new (An.trans BU)))⟩
  refine AL.Hu GF.mono DJ rfl (GF.one _ _ _ he) he (by omega) (fun p' c' σ4 FW _=>⟨_,_,_,rfl,AJ BF hr.big,ih (i+1) _ _ _ _ (by omega) (by omega) (by rw[AQ hx];exact FW)⟩) AJ9
structure SOk (ss:List Sr):Prop where
 s:ss.length≤1000000000000
 ls:∀s∈ss,s.ls.length≤1000000000
 ps:∀s∈ss,s.ps.length≤1000000000
theorem df {p:Option Addr}{n c:Nat}{ss:List Sr}(hr:AT 2 Dh σ p n ss)(hS:SOk ss)(h:∀p' c' σ',AT 2 Dh σ' p' n ss→Ext σ σ'→R (.returned (.slice p' n c')) σ'):Spec prog 7 #[.slice p n c] σ R:=by
 have hl:ss.length=n:=hr.1;have ht:=hS.s;refine ET.start ?_
 suffices H:∀g i:Nat,∀p3 n3 c3 σ',n-i=g→i≤n→AL 2 Dh σ σ' p3 n3 c3 (ss.take i)→ET.Ab R p n c p3 n3 c3 i σ' from H n 0 none 0 0 σ rfl (AiR _) (AL.nil (.refl _))
 intro g
 induction g with
 | zero=>
  intro i p3 n3 c3 σ' hg hi ho;rw[AiQ (by omega)]at ho;have hn3:n=n3:=hl.symm.trans ho.1.1;subst hn3;exact ET.AO ⟨fun Aq=>by omega,fun _=>h p3 c3 σ' (ho.rd Dh.mono) ho.up⟩
 | succ g ih=>
  intro i p3 n3 c3 σ' hg hi ho;have BF:i<n:=by omega
  obtain⟨x,hx⟩:=hr.ex BF;obtain⟨b,o,p1,k1,c1,q1,m1,d1,rfl,CF,GZ,hps,hmd⟩:=Dh.at hr hx;have jC:=AiM hx;have a1:=hS.ls x jC;have a2:=hS.ps x jC;have a3:x.ls.length=k1:=GZ.1;have a4:x.ps.length=m1:=hps.1;have hn3:n3=i:=by have:=ho.1.1;rw[AiU]at this;omega
  have P6:=CF.mono ho.up;refine ET.AO ⟨fun _=>⟨b,o,rfl,by omega,p1,k1,c1,by simpa using P6.1,by omega,q1,m1,d1,by simpa using P6.2.1,dc (GZ.mono BL.mono ho.up) (by omega) fun p4 c4 σ2 Ha An=>⟨_,_,_,rfl,Kp.Hs An,de ((hps.mono J5.mono ho.up).mono J5.mono An) (by omega) fun p5 c5 σ3 SM BU=>⟨_,_,_,rfl,fun ec AJ9=>?_⟩⟩⟩,fun hh=>by omega⟩;have DJ:=ho.mono Dh.mono (An.trans BU);have he:Dh (σ3.del p3) [.slice p4 k1 c4,.slice p5 m1 c5] x:=
   ⟨p4,k1,c4,p5,m1,c5,rfl,Ha.mono BL.mono ((Ext.Jc BU).trans (ho.new (An.trans BU))),(SM.rd J5.mono).mono J5.mono ((Ext.Eg An).trans (ho.new (An.trans BU))),by obtain⟨cs,KE,_⟩:=SM.2;exact Au.cap KE⟩
  refine AL.Hu Dh.mono DJ rfl (Dh.one _ _ _ he) he (by omega) (fun p' c' σ4 FW _=>⟨_,_,_,rfl,AJ BF hr.big,ih (i+1) _ _ _ _ (by omega) (by omega) (by rw[AQ hx];exact FW)⟩) AJ9
end
theorem bI {cs:List Value}{v:Value}{s i j r:Nat}(hr:r<s):((cs.set (i*s+r) v).drop (j*s)).take s=if i=j then((cs.drop (j*s)).take s).set r v else(cs.drop (j*s)).take s:=by
 refine AjP fun k=>?_;by_cases JE:i=j
 ·subst JE;rw[AiL rfl,Ail,Ajq,Ail,Ain,Ain,Ajq];by_cases hk:k<s
  ·rw[AiL hk,AiL hk];by_cases hrk:r=k
   ·subst hrk;rw[AiL rfl,AiL rfl,AiU,Aic];by_cases Aq:i*s+r<cs.length
    ·rw[AiL Aq,AiL (by omega)]
    ·rw[AiK Aq,AiK (by omega)]
   ·rw[AiK (by omega),AiK hrk]
  ·rw[AiK hk,AiK hk,AiK (by omega)]
 ·rw[AiK JE,Ail,Ail,Ain,Ain,Ajq];by_cases hk:k<s
  ·rw[AiL hk,AiL hk,AiK];intro e;rcases AkK i j with h|h|h
   ·have:=Aiw s (show i+1≤j from h);rw[Ajw]at this;omega
   ·exact JE h
   ·have:=Aiw s (show j+1≤i from h);rw[Ajw]at this;omega
  ·rw[AiK hk,AiK hk]
def Awk:Prop:=∀(σ:Hp) (R:Rr),Gl σ→(∀σ',Ext σ σ'→R (.B true) σ')→Spec prog 14 #[] σ R
def sX:ByteArray:=⟨#[120]⟩
def sA:ByteArray:=⟨#[97]⟩
def s1_:ByteArray:=⟨#[49]⟩
def s2_:ByteArray:=⟨#[50]⟩
def nV:Nd:=⟨2,0,ByteArray.mk #[],[⟨1,SA,sX⟩],0,0,0,[],false,0⟩
def nA:Nd:=⟨5,1,ByteArray.mk #[],[],0,0,0,[],false,1⟩
def T0:List Nd:=[nV,nA]
def AKA:List Lb:=[(SA,sX),(sA,s1_)]
def AKB:List Lb:=[(SA,sX),(sA,s2_)]
abbrev v1:Int:=4607182418800017408
abbrev v3:Int:=4613937818241073152
abbrev v5:Int:=4617315517961601024
abbrev v8:Int:=4620693217682128896
def mu:List Sr:=[⟨AKA,[(0,v1),(60,v3)]⟩,⟨AKB,[(60,v5)]⟩]
theorem ty0:I4 T0=some 2:=by kernel_rfl
theorem AYi:D1 none mu=true:=by kernel_rfl
theorem ASk:Bl FF T0 mu 60=some [⟨[],v8⟩]:=by kernel_rfl
theorem AYj:Bl FF T0 mu 0=some [⟨[],v1⟩]:=by kernel_rfl
theorem AYk:DA T0 []=some [2]:=by kernel_rfl
theorem V3:Modest T0 mu:=by
 refine⟨by decide,fun x hx=>?_,by decide,fun s hs=>?_,fun s hs p hp=>?_⟩
 ·simp only[T0,AiT,Air,or_false]at hx;rcases hx with rfl|rfl<;>decide
 ·simp only[mu,AiT,Air,or_false]at hs;rcases hs with rfl|rfl<;>decide
 ·simp only[mu,AiT,Air,or_false]at hs;rcases hs with rfl|rfl<;>simp at hp<;>(try rcases hp with rfl|rfl)<;>(try subst hp)<;>decide
theorem inst60:instF T0 mu 60=(0,[⟨[],v8⟩]):=by kernel_rfl
structure Bx where
 b5:Nat
 b6:Nat
 FB:Nat
 CH:Nat
 D9:Nat
 DO:Nat
 D:Nat
 l:Nat
 m:Nat
 p:Option Addr
 n:Nat
 c:Nat
 q:Option Addr
 k:Nat
 d:Nat
 r0:Loop
abbrev Bx.L (X:Bx)(w:Option Addr)(k e:Nat)(lo:Loop):List (Nat×Obj):=
 [(X.l,.loop lo),(X.D,.deferred (some [])),(X.DO,.cells #[.slice w k e] 23 (0,0)),(X.D9,.cells #[.map (some X.m)] 78 (0,0)),(X.CH,.cells #[.I 0] 24 (0,0)),(X.FB,.cells #[.N] 23 (0,0)),(X.b6,.cells #[.slice X.q X.k X.d] 23 (0,0)),(X.b5,.cells #[.slice X.p X.n X.c] 22 (0,0))]
abbrev Bx.bl (X:Bx):List Nat:=[X.l,X.D,X.DO,X.D9,X.CH,X.FB,X.b6,X.b5]
def Bx.nd (X:Bx):Prop:=X.bl.Nodup
def Bx.off (X:Bx)(B:Hp):Prop:=∀b∈X.bl,B b=none
theorem Au.here {s:Nat}{σ σ':Hp}{p:Option Addr}{n c:Nat}{cs:List Value}(h:Au s σ p n c cs)(hs:∀a,p=some a→σ' a.block=σ a.block):Au s σ' p n c cs:=by
 obtain⟨h1,h2,h3|⟨b,o,arr,T,rfl,hb,r⟩⟩:=h
 ·exact⟨h1,h2,.inl h3⟩
 ·exact⟨h1,h2,.inr ⟨b,o,arr,T,rfl,(hs _ rfl).trans hb,r⟩⟩
theorem kpL {A B:Hp}{L:List (Nat×Obj)}{i b:Nat}{o:Obj}(hn:(names L).Nodup)(hi:L[i]?=some (b,o)):Kp [b] (BP A L) (BP B L):=fun x hx u hu=>by
 rw[AiY]at hx;subst hx;rw[HS hn hi]at hu ⊢;exact hu
structure St (σ B:Hp)(m b o e k:Nat):Prop where
 ext:Ext σ B
 own:∃pl cl pp cc ds,Au 2 B (some ⟨b,o,none⟩) 1 e [.slice pl 0 cl,.slice pp k cc]∧Au 2 B pp k cc ds∧(∀a,pp=some a→a.block≠b∧a.block≠m∧σ a.block=none)
 map:MS (fun v _=>v=.I 0) B m [(EO [],(0:Int))]
 hb:σ b=none
 hm:σ m=none
 ne:m≠b
theorem St.mono {σ B B':Hp}{m b o e k:Nat}(h:St σ B m b o e k)(hx:Ext B B'):St σ B' m b o e k:=
 ⟨h.ext.trans hx,let ⟨pl,cl,pp,cc,ds,h1,h2,h3⟩:=h.own;⟨pl,cl,pp,cc,ds,h1.mono hx,h2.mono hx,h3⟩,h.map.mono hx,h.hb,h.hm,h.ne⟩
theorem AKC (w:World):(Go.sizeOf 59).run prog w=.ok 2 w:=by kernel_rfl
theorem AKD (w:World):(Go.sizeOf 49).run prog w=.ok 1 w:=by kernel_rfl
theorem pq (w:World):(Go.sizeOf 23).run prog w=.ok 1 w:=by kernel_rfl
theorem ADP (w:World):(Go.sizeOf 24).run prog w=.ok 1 w:=by kernel_rfl
section
variable {σ B:Hp}{R:Rr}{X:Bx}
theorem Yu {Dl b o e k Wg Uw:Nat}{t v:Int}{vl:Value}{ZS:Option Addr}(hn:(Dl::X.bl).Nodup)(Zf:X.off B)(h19:B Dl=none)(h:St σ B X.m b o e k)(hk:k≤10)
  (next:∀B',X.off B'→St σ B' X.m b o e (k+1)→R (.B true) (BP B' (X.L (some ⟨b,o,none⟩) 1 e (lp X.r0 .ready none)))) :
  Db.ABp R X.l X.r0 X.D9 X.DO t Dl 0 ZS Wg Uw 1 0 (BP B ((Dl,.cells #[vl,.U v] 59 (0,0))::X.L (some ⟨b,o,none⟩) 1 e (lp X.r0 .busy none))):=by
 obtain⟨pl,cl,pp,cc,ds,h1,h2,h3⟩:=h.own
 let L:List (Nat×Obj):=(Dl,.cells #[vl,.U v] 59 (0,0))::X.L (some ⟨b,o,none⟩) 1 e (lp X.r0 .busy none)
 have hL:(names L).Nodup:=hn;have ho:Ui L B:=fun x hx=>by
  rcases AiT.1 hx with rfl|hx
  ·exact h19
  ·exact Zf x hx
 have hxB:Ext B (BP B L):=Ui.ext hL ho;have e14:Hp.ld (BP B L) ⟨X.DO,0,none⟩=some (.slice (some ⟨b,o,none⟩) 1 e):=iW (i:=3) hL rfl rfl;have CF:Hp.ld (BP B L) ⟨b,(o+Int.toNat 0*2)+1,none⟩=some (.slice pp k cc):=by
  obtain⟨_,_,h0|⟨b',o',hp,hl⟩⟩:=h1.rd.mono hxB
  ·cases h0
  ·cases hp;simpa using hl.2.1
 refine Db.ABx ⟨_,1,e,e14,_,1,e,e14,b,o,rfl,by decide,pp,k,cc,CF,v,iW (i:=0) hL rfl rfl,fun TO AYm=>?_⟩;obtain⟨n109,hB9⟩:=Dx (L:=L) AYm;have x9:=Ext.set (o:=.cells #[.I t,.U v] 61 (0,0)) hB9;show AK prog (Builtin.append_ #[49,49] 49 #[.slice pp k cc,.slice (some ⟨TO,0,none⟩) 1 1]) ((BP B L).set TO (.cells #[.I t,.U v] 61 (0,0))) _
 rw[Jr n109];have key:∀y,B y≠none→(∀a,pp=some a→y≠a.block)→∀(p':Option Addr) (σ5:Hp),Ext ((B.set TO (.cells #[.I t,.U v] 61 (0,0))).del pp) (σ5.del p')→σ5 y=B y∧∀a,p'=some a→y≠a.block:=fun y hy Ah p' σ5 hx=>by
  cases hh:B y with
  | none=>exact absurd hh hy
  | some u=>
   obtain⟨a1,a2⟩:=AN.1 (hx y u (AN.2 ⟨Ah,x9 _ _ hh⟩));exact⟨a2,a1⟩
 have hbB:B b≠none:=h1.block _ rfl;have hmB:=h.map.known;refine AK.HT hL (ho.set n109) (DT (h2.mono x9) (q:=some ⟨TO,0,none⟩) (ys:=[.I t,.U v]) ⟨rfl,by omega,.inr ⟨TO,0,rfl,Ae.BY (c:=[.I t,.U v]) (Hp.AA _ _ _)⟩⟩ (fun u hu=>by
  simp only[AiT,Air,or_false]at hu;rcases hu with rfl|rfl<;>rfl) (by omega) fun p' c' σ5 KT Sv ASl=>⟨p',k+1,c',rfl,kpL (i:=3) hL rfl,b,o,rfl,by decide,?_⟩)
 obtain⟨kb1,kb2⟩:=key b hbB (fun a ha e=>(h3 a ha).1 e.symm) p' σ5 Sv;obtain⟨km1,km2⟩:=key X.m hmB (fun a ha e=>(h3 a ha).2.1 e.symm) p' σ5 Sv;have AYn:Ext σ σ5:=fun y u hy=>by
  obtain⟨a1,_⟩:=key y (by rw[h.ext _ _ hy];simp) (fun a ha e=>by rw[e,(h3 a ha).2.2]at hy;cases hy) p' σ5 Sv;rw[a1];exact h.ext _ _ hy
 have h15:Au 2 σ5 (some ⟨b,o,none⟩) 1 e [.slice pl 0 cl,.slice pp k cc]:=Au.here h1 fun a ha=>by cases ha;exact kb1
 rw[show(o+Int.toNat 0*2)+1=o+1 by simp];refine AK.HT hL ASl (Au.da h15 (j:=1) (by decide) AKD rfl rfl fun obj ye pr=>⟨by unfold AG;omega,?_⟩);have pr:Ui L (σ5.set b obj):=pr;refine Db.MT ⟨fun hh=>absurd hh (by decide),fun _=>⟨HS (L:=L) (i:=1) hL rfl,?_⟩⟩;have AYo:(σ5.set b obj) Dl=none:=pr Dl (Aih ..);have n19:Dl ∉ X.bl:=(List.nodup_cons.1 hn).1;have hX:X.nd:=(List.nodup_cons.1 hn).2;have e1:(BP (σ5.set b obj) L).set X.l (.loop (lp X.r0 .ready none))=BP ((σ5.set b obj).set Dl (.cells #[vl,.U v] 59 (0,0))) (X.L (some ⟨b,o,none⟩) 1 e (lp X.r0 .ready none)):=by
  rw[R6 (L:=L) (i:=1) hL rfl];exact Jr (L:=X.L (some ⟨b,o,none⟩) 1 e (lp X.r0 .ready none)) n19
 rw[e1];have FV:=Ext.set (o:=.cells #[vl,.U v] 59 (0,0)) AYo;refine next _ (fun y hy=>?_) (St.mono ⟨?_,⟨pl,cl,p',c',_,ye,Au.here KT ?_,fun a ha=>⟨?_,?_,?_⟩⟩,h.map.loc ?_,h.hb,h.hm,h.ne⟩ FV)
 ·rw[Hp.AM (show y≠Dl from fun e=>n19 (e▸hy))];exact pr y (AiX _ hy)
 ·intro y u hy;rw[Hp.AM (fun e=>by rw[e,h.hb]at hy;cases hy)];exact AYn y u hy
 ·intro a ha;exact Hp.AM (fun e=>kb2 a ha e.symm)
 ·exact fun e=>kb2 a ha e.symm
 ·exact fun e=>km2 a ha e.symm
 ·cases hh:σ a.block with
  | none=>rfl
  | some u=>
   exfalso;exact(key a.block (by rw[h.ext _ _ hh];simp) (fun a' GI e=>by rw[e,(h3 a' GI).2.2]at hh;cases hh) p' σ5 Sv).2 a ha rfl
 ·rw[Hp.AM h.ne];exact km1
theorem sr {w:Option Addr}{k e:Nat}{x v:Int}(hn:X.nd)(Zf:X.off B)(hx:Ext σ B)(hg:Gl σ)(hr:AT 10 GF σ X.p X.n T0)(hs:AT 2 Dh σ X.q X.k mu)(hM:Bl FF T0 mu x=some [⟨[],v⟩])(sU:0≤x∧x≤60)
  (next:∀B' p1 c1,Ext B B'→X.off B'→AT 2 Aa B' p1 1 [⟨[],v⟩]→Db.cB R X.l X.r0 X.D9 X.DO x p1 1 c1 1 0 (BP B' (X.L w k e (lp X.r0 .busy none)))) :
  Db.F7 R X.l X.r0 X.b5 X.b6 X.FB X.CH X.D9 X.DO x (BP B (X.L w k e (lp X.r0 .ready none))):=by
 have hL:(names (X.L w k e (lp X.r0 .busy none))).Nodup:=hn;have hL':(names (X.L w k e (lp X.r0 .ready none))).Nodup:=hn;have el:(BP B (X.L w k e (lp X.r0 .ready none))).set X.l (.loop (lp X.r0 .busy none))=BP B (X.L w k e (lp X.r0 .busy none)):=Hp.set_set;have VP:T0.length=X.n:=hr.1;have hl3:T0.length=2:=rfl;have pz:jP mu:=jP.of (T:=T0) V3 AYi;refine Db.IJ ⟨HS (i:=0) hL' rfl,?_⟩;rw[el];refine⟨X.p,X.n,X.c,iW (i:=7) hL rfl rfl,X.q,X.k,X.d,iW (i:=6) hL rfl rfl,?_⟩;refine Spec.HT hL Zf (O2 (hg.mono hx) (hr.mono GF.mono hx) (hs.mono Dh.mono hx) pz (by omega) (by omega) AYk (fun l p' n' c' σ1 hm Bc NM O3=>?_) fun hm=>?_)
 ·rw[hM]at hm;cases hm;have hn1:1=n':=NM.1;subst hn1;exact⟨_,_,_,_,rfl,fun hh=>absurd rfl hh,fun _=>next σ1 p' c' Bc O3 NM⟩
 ·rw[hM]at hm;cases hm
def Sta (σ B:Hp)(m:Nat)(w:Option Addr)(j e k:Nat):Prop:=
 (k=0∧w=none∧j=0∧e=0∧Ext σ B∧σ m=none∧MS (fun v _=>v=.I 0) B m ([]:List (ByteArray×Int)))∨(0<k∧∃b o,w=some ⟨b,o,none⟩∧j=1∧St σ B m b o e k)
theorem Sta.ext {m j e k:Nat}{w:Option Addr}(h:Sta σ B m w j e k):Ext σ B:=by
 rcases h with ⟨_,_,_,_,hx,_⟩|⟨_,b,o,_,_,h⟩
 ·exact hx
 ·exact h.ext
theorem Sta.mono {B':Hp}{m j e k:Nat}{w:Option Addr}(h:Sta σ B m w j e k)(hx:Ext B B'):Sta σ B' m w j e k:=by
 rcases h with ⟨h0,h1,h2,h3,h4,h5,h6⟩|⟨h0,b,o,h1,h2,h⟩
 ·exact .inl ⟨h0,h1,h2,h3,h4.trans hx,h5,h6.mono hx⟩
 ·exact .inr ⟨h0,b,o,h1,h2,h.mono hx⟩
theorem mz {w p1:Option Addr}{j e k c1:Nat}{t v:Int}(hn:X.nd)(Zf:X.off B)(h:Sta σ B X.m w j e k)(hk:k≤10)(hr:AT 2 Aa B p1 1 [⟨[],v⟩])
  (next:∀B' b o e',X.off B'→St σ B' X.m b o e' (k+1)→R (.B true) (BP B' (X.L (some ⟨b,o,none⟩) 1 e' (lp X.r0 .ready none)))) :
  Db.cB R X.l X.r0 X.D9 X.DO t p1 1 c1 1 0 (BP B (X.L w j e (lp X.r0 .busy none))):=by
 have hL:(names (X.L w j e (lp X.r0 .busy none))).Nodup:=hn;have hxB:Ext B (BP B (X.L w j e (lp X.r0 .busy none))):=Ui.ext hL Zf;obtain⟨U0,rG,q,m',d,rfl,hl,NM⟩:=Aa.at hr (i:=0) (x:=⟨[],v⟩) rfl;have uE:0=m':=NM.1;subst uE;refine Db.MT ⟨fun _=>⟨U0,rG,rfl,by decide,q,0,d,v,by simpa using hl.mono hxB,fun Dl h19=>?_⟩,fun hh=>absurd (by decide) hh⟩;obtain⟨n19,AYp⟩:=Dx (L:=X.L w j e (lp X.r0 .busy none)) h19;have po:(Dl::X.bl).Nodup:=List.nodup_cons.2 ⟨n19,hn⟩
 let L:Value→List (Nat×Obj):=fun lo=>(Dl,.cells #[.slice q 0 d,.U v] 59 (0,0))::X.L w j e (lp X.r0 .busy none)
 let L0:List (Nat×Obj):=(Dl,.cells #[.N,.U 0] 59 (0,0))::X.L w j e (lp X.r0 .busy none)
 let L1:List (Nat×Obj):=(Dl,.cells #[.slice q 0 d,.U v] 59 (0,0))::X.L w j e (lp X.r0 .busy none)
 have kK:(names L1).Nodup:=po;have O3:∀{B'},X.off B'→B' Dl=none→Ui L1 B':=fun ho h9 x hx=>by
  rcases AiT.1 hx with rfl|hx
  ·exact h9
  ·exact ho x hx
 show AK prog (Instr.storeAt 59 (.pointer (some ⟨Dl,0,none⟩)) (.agg #[.slice q 0 d,.U v])) (BP B L0) _
 refine AK.YL (L:=L0) (i:=0) (c:=#[.N,.U 0]) (c':=#[.slice q 0 d,.U v]) AKC po rfl rfl rfl rfl rfl ?_;show ∃lO:Option Nat,Hp.ld (BP B L1) ⟨X.D9,0,none⟩=some (.map lO)∧∃p76:Option Addr,∃n76:Nat,∃c76:Nat,Hp.ld (BP B L1) ⟨Dl,0,none⟩=some (.slice p76 n76 c76)∧Spec prog 39 #[.slice p76 n76 c76] (BP B L1) _
 have zy:∀{B':Hp} {R':Rr},Ext B B'→X.off B'→B' Dl=none→(∀B2,Ext B' B2→X.off B2→B2 Dl=none→R' (.returned (.string (EO []))) (BP B2 L1))→Spec prog 39 #[.slice q 0 d] (BP B' L1) R':=fun hx ho h9 hh=>
  Spec.HT kK (O3 ho h9) (ID (NM.mono BL.mono hx) ⟨AiR _,fun x hx=>by cases hx⟩ fun B2 An A6=>hh B2 An (fun x hx=>A6 x (AiX _ hx)) (A6 Dl (Aih ..)))
 refine⟨some X.m,iW (L:=L1) (i:=4) kK rfl rfl,q,0,d,iW (L:=L1) (i:=0) kK rfl rfl,zy (.refl _) Zf AYp fun B2 An A6 h92=>⟨_,rfl,kpL (L:=L1) (i:=4) kK rfl,?_⟩⟩;have ASm:Ext B2 (BP B2 L1):=Ui.ext kK (O3 A6 h92);rcases(h.mono An) with ⟨rfl,rfl,rfl,rfl,AH2,hm,uS⟩|⟨hk0,b,o,rfl,rfl,E2⟩
 ·refine(uS.mono ASm).iw (z:=.I 0) (fun w=>by kernel_rfl) (fun Cg=>⟨0,false,rfl,fun _=>?_,fun hh=>(by cases hh)⟩) fun v' x' hh=>(by cases hh);refine⟨none,0,0,iW (L:=L1) (i:=3) kK rfl rfl,some X.m,iW (L:=L1) (i:=4) kK rfl rfl,q,0,d,iW (L:=L1) (i:=0) kK rfl rfl,zy An A6 h92 fun B3 BU DJ h93=>⟨_,rfl,kpL (L:=L1) (i:=4) kK rfl,?_⟩⟩;refine AK.HT kK (O3 DJ h93) ((uS.mono BU).put (x:=(0:Int)) rfl fun om hm4 AYr=>?_);have FW:Ui L1 (B3.set X.m om):=AYr;have AGf:MS (fun v _=>v=.I 0) (B3.set X.m om) X.m [(EO [],(0:Int))]:=hm4;have AJ1:Ext σ (B3.set X.m om):=fun y u hy=>by
   rw[Hp.AM (show y≠X.m from fun e=>by rw[e,hm]at hy;cases hy)];exact BU _ _ (AH2 _ _ hy)
  have AYs:Dy (B3.set X.m om) q 0 []:=AT.nil;refine⟨none,0,0,iW (L:=L1) (i:=3) kK rfl rfl,q,0,d,iW (L:=L1) (i:=0) kK rfl rfl,fun tg h91=>?_⟩;obtain⟨n91,AYt⟩:=Dx (L:=L1) h91;rw[Jr n91];refine AK.HT kK (FW.set n91) (Dz AYs (by decide) (fun p5 c5 B5 KT Sv AKE=>⟨p5,0,c5,rfl,kpL (L:=L1) (i:=3) kK rfl,fun th h96=>?_⟩) AYt);obtain⟨n96,AYu⟩:=Dx (L:=L1) h96;have AKE:Ui L1 B5:=AKE;rw[Jr n96];refine AK.HT kK (AKE.set n96) (DT (Au.nil (s:=2)) (q:=some ⟨th,0,none⟩) (ys:=[.slice p5 0 c5,.N]) ⟨rfl,by omega,.inr ⟨th,0,rfl,Ae.BY (c:=[.slice p5 0 c5,.N]) (Hp.AA _ _ _)⟩⟩ (fun u hu=>by
   simp only[AiT,Air,or_false]at hu;rcases hu with rfl|rfl<;>rfl) (by decide) fun p6 c6 B6 ho6 hx6 ASn=>⟨p6,1,c6,rfl,?_⟩)
  obtain⟨b,o,rfl⟩:∃b o,p6=some ⟨b,o,none⟩:=by
   rcases ho6.2.2 with ⟨_,h2,_⟩|⟨b,o,_,_,hp,_⟩
   ·cases h2
   ·exact⟨b,o,hp⟩
  have kk:∀y u,B5 y=some u→B6 y=some u∧y≠b:=fun y u hy=>by
   obtain⟨a1,a2⟩:=AN.1 (hx6 y u (AN.2 ⟨fun a ha=>(by cases ha),Ext.set AYu _ _ hy⟩));exact⟨a2,fun e=>a1 _ rfl e⟩
  refine AK.YL (L:=L1) (i:=3) (c:=#[.N]) (c':=#[.slice (some ⟨b,o,none⟩) 1 c6]) pq kK rfl rfl rfl rfl rfl ?_;have te:∃u,B5 X.m=some u:=by
   cases hh:B5 X.m with
   | none=>exact absurd hh (AGf.mono Sv).known
   | some u=>exact⟨u,rfl⟩
  obtain⟨um,hum⟩:=te;have E2:St σ B6 X.m b o c6 0:=⟨fun y u hy=>(kk y u (Sv _ _ (AJ1 _ _ hy))).1,⟨p5,c5,none,0,[],ho6,Au.nil,fun a ha=>(by cases ha)⟩,(AGf.mono Sv).loc (by rw[(kk _ _ hum).1,hum]),?_,hm,(kk _ _ hum).2⟩
  ·exact Yu po (fun x hx=>ASn x (AiX _ hx)) (ASn Dl (Aih ..)) E2 (by decide) fun B7 kL AYv=>next B7 b o c6 kL AYv
  ·cases hh:σ b with
   | none=>rfl
   | some u=>exact absurd rfl (kk b u (Sv _ _ (AJ1 _ _ hh))).2
 ·refine(E2.map.mono ASm).iw (z:=.I 0) (fun w=>by kernel_rfl) (fun Cg=>by simp[DM]at Cg) fun v' x' hh hv=>?_;subst hv;exact⟨0,true,rfl,fun hh=>(by cases hh),fun _=>Yu po A6 h92 E2 hk fun B3 DJ AYw=>next B3 b o e DJ AYw⟩
end
structure su (τ σ:Hp)(p:Option Addr)(n c:Nat)(xs:List Int)(q:Option Addr)(m d:Nat)(ys:List Int):Prop where
 l:EJ .u64 σ p n c xs
 r:EJ .u64 σ q m d ys
 sep:∀a a',p=some a→q=some a'→a.block≠a'.block
 pl:∀a,p=some a→τ a.block=none
 qr:∀a,q=some a→τ a.block=none
 ext:Ext τ σ
section
variable {σ σ' τ:Hp}{R:Rr}{p q:Option Addr}{n c m d:Nat}{xs ys:List Int}
theorem su.symm (h:su τ σ p n c xs q m d ys):su τ σ q m d ys p n c xs:=⟨h.r,h.l,fun a a' ha GI=>(h.sep a' a GI ha).symm,h.qr,h.pl,h.ext⟩
theorem su.mono (h:su τ σ p n c xs q m d ys)(hx:Ext σ σ'):su τ σ' p n c xs q m d ys:=⟨Au.mono hx h.l,Au.mono hx h.r,h.sep,h.pl,h.qr,h.ext.trans hx⟩
theorem su.app {T Et ty:TypeId}{bs:Nat}[J6 prog T Et 1 bs]{v:Int}{b:Nat}{Φ:Value→Hp→Prop}(h:su τ σ p n c xs q m d ys)(hb:σ b=none)(hn:(n+1)*bs≤140737488355328)
  (hΦ:∀p' c' σ',su τ σ' p' (n+1) c' (xs++[v]) q m d ys→Φ (.slice p' (n+1) c') σ'):AK prog (Builtin.append_ #[T,T] ty #[.slice p n c,.slice (aD b 0) 1 1]) (σ.set b (.cells #[.U v] Et (0,0))) Φ:=by
 have hl:Au 1 σ p n c (xs.map (.int .u64)):=h.l;have hr:Au 1 σ q m d (ys.map (.int .u64)):=h.r;have xb:=Ext.set (o:=.cells #[.U v] Et (0,0)) hb;refine DT (Au.mono xb hl) (q:=aD b 0) (ys:=[.U v]) ⟨rfl,by omega,.inr ⟨b,0,rfl,Ae.BY (c:=[.U v]) (Hp.AA _ _ _)⟩⟩ (fun u hu=>by rw[AiY.1 hu];rfl) hn fun p' c' σ' ho hx=>?_;have K:∀k,σ k≠none→(∀a,p=some a→k≠a.block)→σ' k=σ k∧∀a,p'=some a→k≠a.block:=fun k hk Ah=>by
  cases hh:σ k with
  | none=>exact absurd hh hk
  | some u=>
   obtain⟨a1,a2⟩:=AN.1 (hx k u (AN.2 ⟨Ah,xb k u hh⟩));exact⟨a2,a1⟩
 have kq:=hr.block;have kt:∀k,τ k≠none→σ' k=σ k∧∀a,p'=some a→k≠a.block:=fun k hk=>by
  refine K k (fun e=>hk (Am h.ext e)) fun a ha e=>?_;rw[e]at hk;exact hk (h.pl a ha)
 refine hΦ p' c' σ' ⟨by simpa[EJ] using ho,Au.here hr fun a ha=>(K a.block (kq a ha) fun a' GI=>(h.sep a' a GI ha).symm).1,fun a a' ha GI e=>(K a'.block (kq a' GI) fun a0 ha0=>(h.sep a0 a' ha0 GI).symm).2 a ha e.symm,fun a ha=>?_,h.qr,fun k u hk=>?_⟩
 ·cases hh:τ a.block with
  | none=>rfl
  | some u=>exact absurd rfl ((kt a.block (by rw[hh];simp)).2 a ha)
 ·rw[(kt k (by rw[hk];simp)).1];exact h.ext k u hk
theorem Zr {n k:Nat}(hn:n=1∨n=2∨n=4∨n=8)(hk:k<n)(h:∀σ',Ext σ σ'→R (.T #[.float .f64 (VL.getD (k*(8/n)) (0,0)).1,.float .f64 (VL.getD (k*(8/n)) (0,0)).2]) σ'):Spec prog 227 #[.I n,.I k] σ R:=by
 have e:∀x,x=IntKind.i64.wrap (Int.tdiv 8 (n:Int))→x=((8/n:Nat):Int):=fun x hx=>by rw[hx];rcases hn with h|h|h|h<;>subst h<;>rfl
 have hq:k*(8/n)<8:=by rcases hn with h|h|h|h<;>subst h<;>simp<;>omega
 refine QR.start (CE ⟨_,rfl,dN,Mx (by decide),dN,Mx (by decide),fun IY ye=>⟨dN,Mx (by decide),dN,Mx (by decide),fun JH h23=>⟨by omega,fun Kv e27=>?_⟩⟩⟩);have x1:=Ext.set (o:=.cells #[.float .f64 4607182418800017408,(Value.float .f64 (Int.toNat 4604544271217802189)),.float .f64 0,(Value.float .f64 dN),.float .f64 13830554455654793216,(Value.float .f64 dN),.float .f64 0,(Value.float .f64 (Int.toNat 4604544271217802189))] 73 (0,0)) ye;have c1:=Hp.AA σ IY (.cells #[.float .f64 4607182418800017408,(Value.float .f64 (Int.toNat 4604544271217802189)),.float .f64 0,(Value.float .f64 dN),.float .f64 13830554455654793216,(Value.float .f64 dN),.float .f64 0,(Value.float .f64 (Int.toNat 4604544271217802189))] 73 (0,0));have x2:=Ext.set (o:=.cells #[.float .f64 0,(Value.float .f64 dN),.float .f64 13830554455654793216,(Value.float .f64 dN),.float .f64 0,(Value.float .f64 (Int.toNat 4604544271217802189)),.float .f64 4607182418800017408,(Value.float .f64 (Int.toNat 4604544271217802189))] 73 (0,0)) h23;have c2:=Hp.AA (Hp.set σ IY (.cells #[.float .f64 4607182418800017408,(Value.float .f64 (Int.toNat 4604544271217802189)),.float .f64 0,(Value.float .f64 dN),.float .f64 13830554455654793216,(Value.float .f64 dN),.float .f64 0,(Value.float .f64 (Int.toNat 4604544271217802189))] 73 (0,0))) JH (.cells #[.float .f64 0,(Value.float .f64 dN),.float .f64 13830554455654793216,(Value.float .f64 dN),.float .f64 0,(Value.float .f64 (Int.toNat 4604544271217802189)),.float .f64 4607182418800017408,(Value.float .f64 (Int.toNat 4604544271217802189))] 73 (0,0));have c1':=x2 _ _ c1;have X:=x1.trans x2;have e27:=e _ e27;have ep:(k:Int)*Kv=((k*(8/n):Nat):Int):=by rw[e27];push_cast;rfl
 dsimp only;rw[ep];have fin:∀(σ2:Hp) (re im:Nat),(re,im)=VL.getD (k*(8/n)) (0,0)→Ext σ σ2→R (.T #[.float .f64 re,.float .f64 im]) σ2:=fun σ2 re im hri hx=>by
  have:=h σ2 hx;rw[←hri]at this;exact this
 generalize k*(8/n)=j at *;refine⟨by unfold AG;omega,by unfold In;omega,(VL.getD j (0,0)).1,?_,by omega,fun TR e34=>?_⟩
 ·rcases(by omega:j=0∨j=1∨j=2∨j=3∨j=4∨j=5∨j=6∨j=7) with h|h|h|h|h|h|h|h<;>subst h<;>exact Aj c1' rfl
 have e34:=e _ e34;dsimp only;rw[e34,←e27,ep];refine⟨by unfold AG;omega,by unfold In;omega,(VL.getD j (0,0)).2,?_,fin _ _ _ rfl X⟩;rcases(by omega:j=0∨j=1∨j=2∨j=3∨j=4∨j=5∨j=6∨j=7) with h|h|h|h|h|h|h|h<;>subst h<;>exact Aj c2 rfl
def reL (n:Nat)(vs:List Int)(j:Nat):Int:=((Ho j n vs 0 (0,0)).1:Nat)
def imL (n:Nat)(vs:List Int)(j:Nat):Int:=((Ho j n vs 0 (0,0)).2:Nat)
theorem toF_zero:toF 0=0:=by
 unfold toF;rw[AiK];rw[Iq];decide
theorem Zs {vs:List Int}(hr:EP .u64 σ p n vs)(hn:n=1∨n=2∨n=4∨n=8)
  (h:∀p' c' q' d' σ',Ext σ σ'→EP .u64 σ' p' n ((List.range n).map (reL n vs))→EP .u64 σ' q' n ((List.range n).map (imL n vs))→R (.T #[.slice p' n c',.slice q' n d',.I 0]) σ'):Spec prog 187 #[.slice p n c] σ R:=by
 have hl:vs.length=n:=hr.1
 suffices H:∀g j:Nat,∀(σ1:Hp) (p6 p7:Option Addr) (c6 c7:Nat),n-j=g→j≤n→su σ σ1 p6 j c6 ((List.range j).map (reL n vs)) p7 j c7 ((List.range j).map (imL n vs))→Cd.Ns R p n c (n:Int) p6 j c6 p7 j c7 (j:Int) σ1 by
  have h0:=H n 0 σ none none 0 0 rfl (AiR _) ⟨EJ.nil,EJ.nil,fun a a' ha=>(by cases ha),fun a ha=>(by cases ha),fun a ha=>(by cases ha),.refl _⟩;exact Cd.start ⟨fun h1=>⟨fun h2=>⟨fun h4=>⟨fun h8=>by omega,fun _=>h0⟩,fun _=>h0⟩,fun _=>h0⟩,fun _=>h0⟩
 intro g
 induction g with
 | zero=>
  intro j σ1 p6 p7 c6 c7 hg hj ho;have:j=n:=by omega
  subst this;exact Cd.KM ⟨fun hh=>by omega,fun _=>h _ _ _ _ σ1 ho.ext (EJ.rd ho.l) (EJ.rd ho.r)⟩
 | succ g ih=>
  intro j σ1 p6 p7 c6 c7 hg hj ho;have Zz:j<n:=by omega
  refine Cd.KM ⟨fun _=>?_,fun hh=>by omega⟩
  suffices K:∀g' k:Nat,∀(σ2:Hp) (re im:Nat) (a:Nat×Nat),n-k=g'→k≤n→su σ σ2 p6 j c6 ((List.range j).map (reL n vs)) p7 j c7 ((List.range j).map (imL n vs))→toF re=a.1→toF im=a.2→Ho j n vs 0 (0,0)=Ho j n (vs.drop k) k a→Cd.ACJ R p n c (n:Int) p6 j c6 p7 j c7 (j:Int) (.float .f64 re) (.float .f64 im) (k:Int) σ2 from K n 0 σ1 0 0 (0,0) rfl (AiR _) ho toF_zero toF_zero rfl
  intro g'
  induction g' with
  | zero=>
   intro k σ2 re im a sO hk A6 h1 h2 he;have QC:k=n:=by omega
   subst QC;rw[Aib (by omega)]at he;have eR:((toF re:Nat):Int)=reL k vs j:=by unfold reL;rw[he,h1];rfl
   have eI:((toF im:Nat):Int)=imL k vs j:=by unfold imL;rw[he,h2];rfl
   refine Cd.ov ⟨fun hh=>by omega,fun _=>Ck ⟨_,rfl,fun U0 h71=>?_⟩⟩;rw[eR];refine su.app A6 h71 (by omega) fun p' c' σ3 DJ=>⟨_,_,_,rfl,Ck ⟨_,rfl,fun b76 h76=>?_⟩⟩;rw[eI];refine su.app DJ.symm h76 (by omega) fun q' d' σ4 FW=>⟨_,_,_,rfl,by unfold AG;omega,?_⟩;have:=ih (j+1) σ4 p' q' c' d' (by omega) (by omega) (by rw[List.range_succ,Aiq,Aiq];exact FW.symm);rw[show((j+1:Nat):Int)=(j:Int)+1 by omega]at this;exact this
  | succ g' ihk=>
   intro k σ2 re im a sO hk A6 h1 h2 he;have QC:k<n:=by omega
   obtain⟨x,hx⟩:=hr.ex QC;obtain⟨b',o',rfl,CF⟩:=EP.at hr hx;rw[A0 hx]at he;have ht:(j:Int)*k=((j*k:Nat):Int):=by push_cast;rfl
   have eV:j*k≤64:=Aiy (Aj6 (show j≤8 by omega) (show k≤8 by omega)) (by decide);have hm:=Aj1 (j*k) (show 0<n by omega);have By:In (k:Int) (n:Int):=by unfold In;omega
   have P6:∀σ3,Ext σ2 σ3→Hp.ld σ3 ⟨b',o'+Int.toNat (k:Int)*1,none⟩=some (.U x):=fun σ3 BU=>by simpa using(A6.ext.trans BU).ld CF
   refine Cd.ov ⟨fun _=>⟨by rw[ht];unfold AG;omega,by omega,fun cL dO=>?_⟩,fun hh=>by omega⟩;have e46:cL=((j*k%n:Nat):Int):=by rw[dO,ht,AkS (by omega)];omega
   subst e46;refine Zr hn hm fun σ3 BU=>⟨_,_,rfl,b',o',rfl,By,x,P6 σ3 BU,CE ⟨_,rfl,Dj fun y hy=>⟨_,rfl,HX fun z hz=>⟨_,rfl,By,x,P6 σ3 BU,CE ⟨_,rfl,Dj fun y' hy'=>⟨_,rfl,HX fun z' mV=>⟨_,rfl,by unfold AG;omega,?_⟩⟩⟩⟩⟩⟩⟩;rw[Ho]at he;have:=ihk (k+1) σ3 z z' _ (by omega) (by omega) (A6.mono BU) (by rw[hz,←Ou,h1,hy]) (by rw[mV,←Ou,h2,hy']) he;rw[show((k+1:Nat):Int)=(k:Int)+1 by omega]at this;exact this
theorem jV {vs:List Int}(hr:EP .u64 σ p n vs)(hn:n=1∨n=2∨n=4∨n=8)
  (h:∀σ',Ext σ σ'→R (.T #[.U (dM vs:Nat),.I 0]) σ'):Spec prog 150 #[.slice p n c] σ R:=by
 have hl:vs.length=n:=hr.1;refine Uf.start (Zs hr hn fun p1 c1 q1 d1 σ1 hx r1 r2=>⟨_,_,_,_,_,_,_,rfl,fun hh=>absurd rfl hh,fun _=>⟨by unfold AG;omega,?_⟩⟩);have ej:(if(1:Int)<((n:Int)-1) then(1:Int) else((n:Int)-1))=((1%n:Nat):Int):=by rcases hn with h|h|h|h<;>subst h<;>rfl
 rw[ej];have hj:1%n<n:=Aj1 _ (by omega);have at1:∀f:Nat→Int,((List.range n).map f)[1%n]?=some (f (1%n)):=fun f=>by
  rw[Ait,List.getElem?_range hj];rfl
 obtain⟨b1,o1,rfl,l1⟩:=EP.at r1 (at1 _);obtain⟨b2,o2,rfl,l2⟩:=EP.at r2 (at1 _);generalize hJ:1%n=J at *;have By:In ((J:Nat):Int) ((n:Nat):Int):=by unfold In;omega
 have l1':Hp.ld σ1 ⟨b1,o1+Int.toNat ((J:Nat):Int)*1,none⟩=some (.U (reL n vs J)):=by simpa using l1
 have l2':Hp.ld σ1 ⟨b2,o2+Int.toNat ((J:Nat):Int)*1,none⟩=some (.U (imL n vs J)):=by simpa using l2
 have eR:(reL n vs J).toNat=(Ho J n vs 0 (0,0)).1:=Aiu _;have eI:(imL n vs J).toNat=(Ho J n vs 0 (0,0)).2:=Aiu _;have fin:∀y z u:Nat,toF y=RO 3 (reL n vs J).toNat (reL n vs J).toNat→toF z=RO 3 (imL n vs J).toNat (imL n vs J).toNat→toF u=RO 1 y z→R (.T #[.U (toF u:Nat),.I 0]) σ1:=fun y z u hy hz hu=>by
  have e:toF u=dM vs:=by
   rw[hu,←Ou,hy,hz,eR,eI];unfold dM;rw[hl,hJ]
  rw[e];exact h σ1 hx
 have kp:∀{L:List Nat},Kp L σ1 σ1:=.Hs (.refl _);refine⟨b1,o1,rfl,By,_,l1',By,_,l1',b2,o2,rfl,By,_,l2',By,_,l2',CE ⟨_,rfl,kp,CE ⟨_,rfl,kp,Dj fun y hy=>⟨_,rfl,kp,CE ⟨_,rfl,kp,CE ⟨_,rfl,Dj fun z hz=>⟨_,rfl,HX fun u hu=>⟨_,rfl,Ck ⟨_,rfl,fin y z u hy hz hu⟩⟩⟩⟩⟩⟩,CE ⟨_,rfl,kp,Dj fun y hy=>⟨_,rfl,kp,CE ⟨_,rfl,Dj fun z hz=>⟨_,rfl,HX fun u hu=>⟨_,rfl,Ck ⟨_,rfl,fin y z u hy hz hu⟩⟩⟩⟩⟩,CE ⟨_,rfl,Dj fun y hy=>⟨_,rfl,Dj fun z hz=>⟨_,rfl,HX fun u hu=>⟨_,rfl,Ck ⟨_,rfl,fin y z u hy hz hu⟩⟩⟩⟩,Dj fun z hz=>⟨_,rfl,Dj fun y hy=>⟨_,rfl,HX fun u hu=>⟨_,rfl,Ck ⟨_,rfl,fin y z u hy hz hu⟩⟩⟩⟩⟩⟩⟩⟩⟩
theorem nB {op w:Int}{vs:List Int}(ho:1≤op∧op≤10)(hr:EP .u64 σ p n vs)(h0:0<n)(hc:n≤c)
  (h:∀x ok σ',(Ee op vs (AV w)=some x∧ok=true∨Ee op vs (AV w)=none∧ok=false)→Ext σ σ'→R (.T #[.U x,.bool ok]) σ') :
  Spec prog 108 #[.I op,.slice p n c,.I w] σ R:=by
 have hl:vs.length=n:=hr.1;have H9:=hr.big;obtain⟨v,hv⟩:=hr.ex h0;obtain⟨z,hz⟩:=hr.ex (k:=n-1) (by omega);obtain⟨b,o,rfl,CF⟩:=EP.at hr hv;obtain⟨_,_,he,yr⟩:=EP.at hr hz;cases he;have e1:Int.toNat ((n:Int)-1)=n-1:=by omega
 have Oz:vs.getLast?.getD 0=z:=by rw[Ajc,hl,hz];rfl
 have AGg:vs.head?.getD 0=v:=by rw[AkF,hv];rfl
 have okr:∀{x:Int} {σ':Hp},Ext σ σ'→Ee op vs (AV w)=some x→R (.T #[.U x,.bool true]) σ':=fun hx e=>h _ _ _ (.inl ⟨e,rfl⟩) hx;refine CW.start ⟨fun e=>IF (by decide) hr h0 ⟨_,rfl,okr (.refl _) (by rw[e];rfl)⟩,fun n4=>⟨fun e=>IF (by decide) hr h0 ⟨_,rfl,okr (.refl _) (by rw[e];rfl)⟩,fun n5=>⟨fun e=>IF (by decide) hr h0 ⟨_,rfl,okr (.refl _) (by rw[e];rfl)⟩,fun n6=>⟨fun e=>IF (by decide) hr h0 ⟨_,rfl,okr (.refl _) (by rw[e];rfl)⟩,fun n7=>⟨fun e=>IF (by decide) hr h0 ⟨_,rfl,okr (.refl _) (by rw[e];rfl)⟩,fun n8=>⟨fun e=>⟨by unfold AG;omega,b,o,rfl,by unfold In;omega,z,by rw[e1];simpa using yr,CE ⟨_,rfl,Ck ⟨_,rfl,okr (.refl _) (by
   rw[e];show some (nrm (vs.getLast?.getD 0))=_
   rw[Oz];rfl)⟩⟩⟩,fun n9=>⟨fun e=>?_,fun n10=>⟨fun h2=>h 0 false σ (.inr ⟨?_,rfl⟩) (.refl _),fun h2=>⟨by unfold AG;omega,b,o,rfl,by unfold In;omega,z,by rw[e1];simpa using yr,by unfold In;omega,v,by simpa using CF,KZ (by decide) ⟨_,rfl,fun e=>okr (.refl _) ?_,fun n3=>?_⟩⟩⟩⟩⟩⟩⟩⟩⟩⟩
 ·
  subst e;have last:∀m:Nat,EH n=m→m≤n→(m=1∨m=2∨m=4∨m=8)→AG ((n:Int)-m)∧((0:Int)≤((n:Int)-m)∧((n:Int)-m)≤(n:Int))∧Spec prog 150 #[(.slice (MK (aD b o) (Int.toNat ((n:Int)-m)) c 1) (n-Int.toNat ((n:Int)-m)) (c-Int.toNat ((n:Int)-m)))] σ (BB R (fun z y=>∃ga vu,z=(.tuple #[.U ga,.I vu])∧R (.T #[.U ga,.bool true]) y)):=fun m hm hmn hk=>by
   have e:Int.toNat ((n:Int)-m)=n-m:=by omega
   rw[e];refine⟨by unfold AG;omega,by omega,?_⟩;have hs:=AT.sub (i:=n-m) (m:=m) hr (by decide) (by omega) hc;rw[AiQ (by rw[Aic];omega)]at hs;rw[show n-(n-m)=m by omega];refine jV hs hk fun σ' hx=>⟨_,_,rfl,okr hx ?_⟩;show some (KX vs)=_
   unfold KX;rw[hl,hm]
  refine CW.MT ⟨by unfold AG;omega,fun h2=>⟨fun _=>⟨by unfold AG;omega,?_⟩,fun hh=>absurd (by decide) hh⟩,fun h2=>last 1 (by unfold EH;rw[AiK (by omega),AiK (by omega),AiK (by omega)]) (by omega) (by omega)⟩;refine CW.MT ⟨by unfold AG;omega,fun h4=>⟨fun _=>⟨by unfold AG;omega,?_⟩,fun hh=>absurd (by decide) hh⟩,fun h4=>last 2 (by unfold EH;rw[AiK (by omega),AiK (by omega),AiL (by omega)]) (by omega) (by omega)⟩;refine CW.MT ⟨by unfold AG;omega,fun h8=>⟨fun _=>⟨by unfold AG;omega,?_⟩,fun hh=>absurd (by decide) hh⟩,fun h8=>last 4 (by unfold EH;rw[AiK (by omega),AiL (by omega)]) (by omega) (by omega)⟩;exact CW.MT ⟨by unfold AG;omega,fun ye=>⟨fun hh=>absurd hh (by decide),fun _=>last 8 (by unfold EH;rw[AiL (by omega)]) (by omega) (by omega)⟩,fun ye=>last 8 (by unfold EH;rw[AiL (by omega)]) (by omega) (by omega)⟩
 ·rcases(by omega:op=1∨op=2∨op=3) with e|e|e<;>subst e<;>exact AiL (show vs.length<2 by omega)
 ·subst e;show(if vs.length<2 then none else some (NL 2 (vs.getLast?.getD 0) (vs.head?.getD 0)))=_
  rw[AiK (by omega),Oz,AGg]
 ·
  have yt:Hn vs=(vs.zip vs.tail).foldl Hm (NL 2 z v):=by
   unfold Hn;rw[Oz,AGg]
  have hlen:(vs.zip vs.tail).length=n-1:=by rw[AjO,Ajj];omega
  suffices H:∀g k:Nat,∀a:Int,n-1-k=g→k≤n-1→Hn vs=((vs.zip vs.tail).drop k).foldl Hm a→CW.TQ R op (aD b o) n c w (n:Int) a ((k+1:Nat):Int) σ from H (n-1) 0 _ rfl (AiR _) yt
  intro g
  induction g with
  | zero=>
   intro k a hg hk he;rw[Aib (by omega)]at he;refine CW.PL ⟨fun Aq=>by omega,fun _=>⟨fun e=>Ka ⟨_,rfl,KZ (by decide) ⟨_,rfl,CW.gZ (okr (.refl _) ?_)⟩⟩,fun n1=>CW.gZ (okr (.refl _) ?_)⟩⟩
   ·subst e;show(if vs.length<2 then none else some (NL 4 (Hn vs) (AV w)))=_
    rw[AiK (by omega),he];rfl
   ·obtain rfl:op=2:=by omega
    show(if vs.length<2 then none else some (Hn vs))=_
    rw[AiK (by omega),he];rfl
  | succ g ih=>
   intro k a hg hk he;obtain⟨x,hx⟩:=hr.ex (k:=k) (by omega);obtain⟨y,hy⟩:=hr.ex (k:=k+1) (by omega);obtain⟨_,_,h1,NQ⟩:=EP.at hr hx;obtain⟨_,_,h2',SC⟩:=EP.at hr hy;cases h1;cases h2';have AJj:(vs.zip vs.tail)[k]?=some (x,y):=by
    rw[List.getElem?_zip_eq_some];exact⟨hx,by rw[List.getElem?_tail];exact hy⟩
   rw[A0 AJj,Ajb]at he;have e2:Int.toNat (((k+1:Nat):Int)-1)=k:=by omega
   have e3:Int.toNat ((k+1:Nat):Int)=k+1:=by omega
   have lx:Hp.ld σ ⟨b,o+Int.toNat (((k+1:Nat):Int)-1)*1,none⟩=some (.U x):=by rw[e2];simpa using NQ
   have ly:Hp.ld σ ⟨b,o+Int.toNat ((k+1:Nat):Int)*1,none⟩=some (.U y):=by rw[e3];simpa using SC
   have go:∀u,Hm a (x,y)=u→CW.ou R op (aD b o) n c w (n:Int) u ((k+1:Nat):Int) σ:=fun u hu=>CW.vt ⟨AJ (by omega:k+1<n) hr.big,ih (k+1) u (by omega) (by omega) (by rw[←hu];exact he)⟩;refine CW.PL ⟨fun _=>⟨b,o,rfl,by unfold In;omega,y,ly,by unfold AG;omega,by unfold In;omega,x,lx,Dc ⟨_,rfl,fun ht=>⟨by unfold AG;omega,by unfold In;omega,x,lx,KZ (by decide) ⟨_,rfl,go _ ?_⟩⟩,fun hf=>go _ ?_⟩⟩,fun hh=>by omega⟩
   ·unfold Hm;rw[AiL ht]
   ·unfold Hm;rw[AiK (by rw[hf];decide)]
end
end TwW
end
