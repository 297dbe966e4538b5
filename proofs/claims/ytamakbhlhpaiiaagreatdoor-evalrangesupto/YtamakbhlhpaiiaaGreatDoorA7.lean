/-
  Part 7 of the proof that the law EvalRangesUptoCardSaid of the given program answers true for every input of the given statement; the input reads behind the call as it did. (The texts: packed from 19 texts. Names are shortened by the packing program, for the bound on size.)
-/
import Derived.Test.YtamakbhlhpaiiaaGreatDoorA6
set_option linter.all false
section
namespace TwW
open Go Tw Go.RowKit Go.Proofs.Tryz
theorem xt {Z:Hp}{a b:Nat}{x y:Obj}(h:a≠b):(Z.set a x).set b y=(Z.set b y).set a x:=by
 funext k
 by_cases A:k=b
 .subst A;rw[Hp.AA,Hp.AN λe=>h e.symm,Hp.AA]
 .rw[Hp.AN A];by_cases C:k=a
  .subst C;rw[Hp.AA,Hp.AA]
  .rw[Hp.AN C,Hp.AN C,Hp.AN A]
section
variable {α:Type}{s bs:Nat}{E:Hp->List Value->α->Prop}{Z0 Z:Hp}{p q:Option Addr}{n c m d:Nat}{xs zs:List α}
theorem AL.xu {T Et ty:TypeId}[KT prog T Et s bs]{ys:List Value}{Φ:Value->Hp->Prop}(hE:Iu E)(h:AL s E Z0 Z p n c xs)(hy:HP s Z q m ys)(h1:HH ys)(G:Ch s E Z0 ys zs)(hz:zs.length=m)(hb:(n+m)*bs<=140737488355328)
  (hΦ:∀A c' Z',AL s E Z0 Z' A (n+m) c' (xs++zs)->Ext (Z.del p) (Z'.del A)->Φ (.slice A (n+m) c') Z'):AJ prog (Builtin.append_ #[T,T] ty #[.slice p n c,.slice q m d]) Z Φ:=by
 obtain⟨⟨hl,cs,ho,hc⟩,ya⟩:=h;refine Ea ho hy h1 hb λA c' Z' Mk C=>hΦ A c' Z' ⟨⟨by rw[Amv,hl,hz],_,Mk,(hc.append (G.mono hE ya)).mono hE C⟩,ya.trans C⟩ C
theorem AL.copy {T Et ty:TypeId}[KT prog T Et s bs]{ys:List Value}{b:Nat}{Φ:Value->Hp->Prop}(hE:Iu E)(hy:HP s Z q m ys)(h1:HH ys)(hch:Ch s E Z0 ys zs)(hx:Ext Z0 Z)(hz:zs.length=m)(hb:m*bs<=140737488355328)(hn:Z b=none)
  (hΦ:∀A c' Z',AL s E Z0 Z' A m c' zs->Ext Z Z'->(∀k,Z k≠none->∀a,A=some a->k≠a.block)->Φ (.slice A m c') Z'):AJ prog (Builtin.append_ #[T,T] ty #[.slice (some ⟨b,0,none⟩) 0 0,.slice q m d]) (Z.set b (.cells #[] Et (0,0))) Φ:=
 Md hy h1 hb (λA c' Z' ho Ju=>by
  have VX:∀a,A=some a->Z a.block=none:=λa C=>by
   have:=ho.block a C;cases hh:Z a.block with
   | none=>rfl
   | some u=>exact absurd (show(Z.new Z') a.block=none by simp[Hp.new,hh]) this
  have yk:Ext Z (Z'.del A):=λk u G=>AU.2 ⟨λa C e=>(by rw[e,VX a C]at G;cases G),Ju k u G⟩;exact hΦ A c' Z' ⟨⟨hz,_,ho.mono (Ext.Cf _ _),hch.mono hE (hx.trans yk)⟩,hx.trans yk⟩ Ju λk G a C e=>G (by rw[e];exact VX a C)) hn
end
theorem xv {A:List El}{e:El}{k:Nat}(hA:A.Pairwise λa b=>FF.cmpL a.ls b.ls<0)(hk:k<=A.length)(fl:∀y,A[k-1]?=some y->0<k->FF.cmpL y.ls e.ls<0)(W7:∀j y,k<=j->A[j]?=some y->FF.cmpL e.ls y.ls<0):(A.take k++([e]++A.drop k)).Pairwise λa b=>FF.cmpL a.ls b.ls<0:=by
 have hd:∀y∈A.drop k,FF.cmpL e.ls y.ls<0:=λy hy=>by
  obtain⟨i,hi⟩:=AnC.1 hy;rw[Am3]at hi;exact W7 (k+i) y (by omega) hi
 have ht:∀y∈A.take k,FF.cmpL y.ls e.ls<0:=λy hy=>by
  obtain⟨i,hi⟩:=AnC.1 hy;have hik:=(Amd.1 hi).1;rw[Amp]at hik;rw[AqJ (by omega)]at hi;obtain⟨z,C⟩:∃z,A[k-1]?=some z:=⟨_,Amf (by omega)⟩;have h1:=fl z C (by omega);by_cases G:i=k-1
  .subst G;rw[hi]at C;cases C;exact h1
  .have h2:=AnG.1 hA i (k-1) (by omega) (by omega) (by omega);rw[(Amd.1 hi).2,(Amd.1 C).2]at h2;exact AS.trans _ _ _ h2 h1
 refine Apv.2 ⟨hA.sublist (ApX _ _),AnH.2 ⟨hd,hA.sublist (List.drop_sublist _ _)⟩,λa ha b hb=>?_⟩;rcases Aml.1 hb with rfl|hb
 .exact ht a ha
 .exact AS.trans _ _ _ (ht a ha) (hd b hb)
section
variable {Z:Hp}{R:Rr}{p:Option Addr}{n c:Nat}
theorem jW {es:List El}(hr:AT 2 Ad Z p n es)(hn:n<=100000000000)
  (DZ:∀out Z' p' n' c',Cs FF es=some out->Ext Z Z'->AT 2 Ad Z' p' n' out->n'<=c'->R (.T #[.slice p' n' c',.bool true]) Z')
  (CU:Cs FF es=none->∀Z',Ext Z Z'->R (.T #[.N,.bool false]) Z'):Spec prog 73 #[.slice p n c] Z R:=by
 have hl:es.length=n:=hr.1;have IP:=hr.big;refine A4.start ?_
 suffices H:∀g i:Nat,∀p4 n4 c4 Z' (A:List El),n-i=g->i<=n->Ext Z Z'->AT 2 Ad Z' p4 n4 A->n4<=c4->A.Perm (es.take i)->A.Pairwise (λa b=>FF.cmpL a.ls b.ls<0)->A4.AR R p n c p4 n4 c4 (i:Int) Z' from H n 0 none 0 0 Z [] rfl (Amh _) (.refl _) AT.nil (Amr _) (.refl _) List.Pairwise.nil
 intro g
 induction g with
 | zero=>
  intro i p4 n4 c4 Z' A hg hi hx hA hc4 hp hs;rw[Amj (by omega)]at hp;exact A4.AM ⟨λhh=>by omega,λ_=>DZ A Z' p4 n4 c4 (RE rfl hp hs) hx hA hc4⟩
 | succ g ih=>
  intro i p4 n4 c4 Z' A hg hi hx hA hc4 hp hs;have BT:i<n:=by omega
  have hAl:A.length=n4:=hA.1;have hAi:n4=i:=by
   have:=hp.length_eq;rw[Amp]at this;omega
  obtain⟨e,he⟩:=hr.ex BT;obtain⟨b,o,q1,m1,d1,rfl,CH,Eg⟩:=Ad.at (hr.mono Ad.mono hx) he;have Ba:In (i:Int) (n:Int):=by unfold In;omega
  have ld1:∀Z2,Ext Z' Z2->Af Z2 b (o+Int.toNat (i:Int)*2) [.slice q1 m1 d1,.U e.v]:=λZ2 h=>by simpa using CH.mono h
  have put:∀k:Nat,k<=n4->(∀y,A[k-1]?=some y->0<k->FF.cmpL y.ls e.ls<0)->(∀j y,k<=j->A[j]?=some y->FF.cmpL e.ls y.ls<0)->A4.AFy R (aD b o) n c p4 n4 c4 (i:Int) (k:Int) Z':=λk hk fl W7=>by
   have hw:=xv hs (by omega) fl W7;have hpp:(A.take k++([e]++A.drop k)).Perm (es.take (i+1)):=by
    rw[AQ he];refine List.Perm.trans ?_ (hp.append_right [e]);have h1:(A.take k++([e]++A.drop k)).Perm (A.take k++(A.drop k++[e])):=(List.perm_append_comm).append_left _;have h2:A.take k++(A.drop k++[e])=A++[e]:=by rw[<-AnO,Anc]
    rw[h2]at h1;exact h1
   obtain⟨_,cs,LC,hch⟩:=hA;have AkT:=Ch.Us Ad.one hch (by decide);have AOF:(A.take k).length=k:=by rw[Amp];omega
   have AHI:(A.drop k).length=n4-k:=by rw[Amx];omega
   have hA':AT 2 Ad Z' p4 n4 A:=⟨hAl,cs,LC,hch⟩;obtain⟨_,ds,hds,AOG⟩:=AT.sub (i:=k) (m:=n4-k) hA' (by decide) (by omega) hc4;rw[Amj (by omega)]at AOG;have Ada:=Ch.Us Ad.one AOG (by decide);have ct:HP 2 Z' p4 k (cs.take (k*2)):=by
    have h0:=AT.sub (i:=0) (m:=k) hA' (by decide) (by omega) hc4;obtain⟨r1,r2,r3⟩:=LC;refine⟨by rw[Amp];omega,by omega,?_⟩;rcases ApP k with hk0|hk0
    .exact .inl hk0
    .rcases r3 with r3|⟨b',o',rfl,r3⟩
     .omega
     .refine .inr ⟨b',o',rfl,?_⟩;have:=r3.part (i:=0) (m:=k*2);simpa using this
   have AHJ:Ch 2 Ad Z' (cs.take (k*2)) (A.take k):=hch.take k;have AOH:=Ch.Us Ad.one AHJ (by decide);have AXS:Ch 2 Ad Z' [.slice q1 m1 d1,.U e.v] [e]:=Ch.one rfl ⟨q1,m1,d1,rfl,Eg⟩;have h1e:HH [Value.slice q1 m1 d1,.U e.v]:=Ch.Us Ad.one AXS (by decide);have fin:∀ρ V9 WA Z5,Ext Z' ρ->AL 2 Ad ρ Z5 V9 (k+1+(n4-k)) WA (A.take k++[e]++A.drop k)->AF ((i:Int)+1)/\A4.AR R (aD b o) n c V9 (k+1+(n4-k)) WA ((i:Int)+1) Z5:=λρ V9 WA Z5 hρ ho=>⟨AI BT IP,by
    have hcp:k+1+(n4-k)<=WA:=by obtain⟨cs,KI,_⟩:=ho.1.2;exact Aw.cap KI
    have:=ih (i+1) V9 (k+1+(n4-k)) WA Z5 (A.take k++[e]++A.drop k) (by omega) (by omega) (hx.trans (hρ.trans ho.up)) (ho.rd Ad.mono) hcp (by rw[AnO];exact hpp) (by rw[AnO];exact hw);rw[show((i+1:Nat):Int)=(i:Int)+1 by omega]at this;exact this⟩
   have bk:∀Z2,Ext Z' Z2->Z2 b≠none:=λZ2 h2 e2=>by
    have h9:=(ld1 Z2 h2).1;simp[Hp.ld,e2]at h9
   refine A4.AFz λoO h52=>⟨by omega,?_⟩;rw[AnE];refine AL.copy Ad.mono hds Ada AOG (.refl _) AHI (by omega) h52 λp56 c56 Z1 Qy Bc _=>⟨_,_,_,rfl,by omega,b,o,rfl,Ba,q1,m1,d1,e.v,ld1 Z1 Bc,?_⟩;obtain⟨_,rs,hrs,AHK⟩:=Qy.rd Ad.mono;have AOI:=Ch.Us Ad.one AHK (by decide);have AKJ:=AXS.mono Ad.mono Bc;refine⟨λRY G=>⟨?_,λiW C=>?_⟩,λiW C RY G=>?_⟩
   .refine AL.copy Ad.mono (ct.mono Bc) AOH (AHJ.mono Ad.mono Bc) (.refl _) AOF (by omega) G λoR oS Z2 A7 Ao _=>⟨_,_,_,rfl,λkk hkk u hu=>?_,λiW C=>?_⟩
    .rw[Amo.1 hkk]at hu ⊢;rw[Hp.AN (λe2=>bk Z1 Bc (by rw[e2];exact G))]at hu;exact Ao _ _ hu
    .refine AL.HI Ad.mono A7 rfl h1e (x:=e) ⟨q1,m1,d1,rfl,Eg.mono A9.mono (Bc.trans A7.2)⟩ (by omega) (λS3 RT Z3 Cm BO=>⟨_,_,_,rfl,?_⟩) C;exact AL.xu Ad.mono Cm (hrs.mono Cm.up) AOI AHK AHI (by omega) λV9 WA Z5 Lj _=>⟨_,_,_,rfl,fin Z1 V9 WA Z5 Bc Lj⟩
   .have Ai:RY≠iW:=λe2=>by rw[e2,Hp.AA]at C;cases C
    have AXT:Z1 iW=none:=by rw[Hp.AN λe2=>Ai e2.symm]at C;exact C
    dsimp only;rw[xt Ai];refine AL.copy Ad.mono ((ct.mono Bc).mono (Ext.set AXT)) AOH (AHJ.mono Ad.mono Bc) (Ext.set AXT) AOF (by omega) (by rw[Hp.AN Ai];exact G) λoR oS Z2 A7 Ao _=>⟨_,_,_,rfl,?_⟩;refine AL.xu Ad.mono A7 (m:=1) (q:=aD iW 0) (ys:=[.slice q1 m1 d1,.U e.v]) ⟨rfl,by decide,.inr ⟨iW,0,rfl,Af.C0 (c:=[.slice q1 m1 d1,.U e.v]) (Ao _ _ (Hp.AA _ _ _))⟩⟩ h1e AKJ rfl (by omega) λS3 RT Z3 Cm BO=>⟨_,_,_,rfl,?_⟩;exact AL.xu Ad.mono Cm (hrs.mono Cm.up) AOI AHK AHI (by omega) λV9 WA Z5 Lj _=>⟨_,_,_,rfl,fin Z1 V9 WA Z5 Bc Lj⟩
   .have Ai:RY≠iW:=λe2=>by rw[e2,Hp.AA]at G;cases G
    have Adf:Z1 RY=none:=by rw[Hp.AN Ai]at G;exact G
    refine AL.copy Ad.mono ((ct.mono Bc).mono (Ext.set C)) AOH (AHJ.mono Ad.mono Bc) (Ext.set C) AOF (by omega) (by rw[Hp.AN Ai];exact Adf) λoR oS Z2 A7 Ao _=>⟨_,_,_,rfl,?_⟩;refine AL.xu Ad.mono A7 (m:=1) (q:=aD iW 0) (ys:=[.slice q1 m1 d1,.U e.v]) ⟨rfl,by decide,.inr ⟨iW,0,rfl,Af.C0 (c:=[.slice q1 m1 d1,.U e.v]) (Ao _ _ (Hp.AA _ _ _))⟩⟩ h1e AKJ rfl (by omega) λS3 RT Z3 Cm BO=>⟨_,_,_,rfl,?_⟩;exact AL.xu Ad.mono Cm (hrs.mono Cm.up) AOI AHK AHI (by omega) λV9 WA Z5 Lj _=>⟨_,_,_,rfl,fin Z1 V9 WA Z5 Bc Lj⟩
  have find:∀g' k:Nat,k=g'->k<=n4->(∀j y,k<=j->A[j]?=some y->FF.cmpL e.ls y.ls<0)->A4.VI R (aD b o) n c p4 n4 c4 (i:Int) (k:Int) Z':=by
   intro g'
   induction g' with
   | zero=>
    intro k hk Rm W7;subst hk;exact A4.NI ⟨λhh=>absurd hh (by decide),λ_=>A4.Ii ⟨λhh=>absurd hh (by decide),λ_=>put 0 (Amh _) (λy _ h0=>absurd h0 (by decide)) W7⟩⟩
   | succ g' ihk=>
    intro k hk Rm W7;have hA':=hA;obtain⟨y,hy⟩:=hA.ex (k:=k-1) (by omega);obtain⟨b4,o4,q4,m4,d4,rfl,Adg,AXU⟩:=Ad.at hA hy;have ek:Int.toNat ((k:Int)-1)=k-1:=by omega
    have l4:Af Z' b4 (o4+Int.toNat ((k:Int)-1)*2) [.slice q4 m4 d4,.U y.v]:=by rw[ek];exact Adg
    have AXV:In ((k:Int)-1) (n4:Int):=by unfold In;omega
    have Ra:FF.cmpL e.ls y.ls<0↔0<FF.cmpL y.ls e.ls:=AS.Ra _ _;have tail:¬0<FF.cmpL y.ls e.ls->A4.Nv R (aD b o) n c (aD b4 o4) n4 c4 (i:Int) (k:Int) Z':=λhle=>A4.Ii ⟨λ_=>⟨by unfold AF;omega,b4,o4,rfl,AXV,q4,m4,d4,l4.1,b,o,rfl,Ba,q1,m1,d1,(ld1 Z' (.refl _)).1,IZ AXU Eg ⟨_,rfl,λh0=>CU ?_ Z' hx,λh0=>put k Rm (λz hz _=>?_) W7⟩⟩,λhh=>by omega⟩
    .refine A4.NI ⟨λ_=>⟨by unfold AF;omega,b4,o4,rfl,AXV,q4,m4,d4,l4.1,b,o,rfl,Ba,q1,m1,d1,(ld1 Z' (.refl _)).1,IZ AXU Eg ⟨_,rfl,λhgt=>A4.Jg ⟨by unfold AF;omega,?_⟩,λhle=>tail hle⟩⟩,λhh=>by omega⟩;have:=ihk (k-1) (by omega) (by omega) λj z hj hz=>by
      by_cases jl:j=k-1
      .subst jl;rw[hy]at hz;cases hz;exact Ra.2 hgt
      .exact W7 j z (by omega) hz
     rw[show((k-1:Nat):Int)=(k:Int)-1 by omega]at this;exact this
    ·
     unfold Cs;rw[Amb];intro mC;have hym:y∈es.take i:=hp.mem_iff.1 (Ame hy);obtain⟨j,hj⟩:=AnC.1 hym;have dF:=(Amd.1 hj).1;rw[Amp]at dF;rw[AqJ (by omega)]at hj;have:=AnG.1 mC j i (by omega) (by omega) (by omega);rw[(Amd.1 hj).2,(Amd.1 he).2]at this;exact this h0
    .rw[hy]at hz;cases hz;have AkU:¬0<Ap y.ls e.ls:=hle;have QT:¬Ap y.ls e.ls=0:=h0;show Ap y.ls e.ls<0
     omega
  exact A4.AM ⟨λ_=>find n4 n4 rfl (Amr _) λj y hj hy=>by
   have:=(Amd.1 hy).1;omega,λhh=>by omega⟩
end
theorem Jy {α:Type}{l:List α}{x y:α}{i:Nat}(h:(l++[x])[i]?=some y):(l[i]?=some y/\i<l.length)\/(i=l.length/\y=x):=by
 rw[Anr]at h;split at h
 .exact .inl ⟨h,by assumption⟩
 .rename_i C;cases A:i-l.length with
  | zero=>rw[A]at h;cases h;exact .inr ⟨by omega,rfl⟩
  | succ j=>rw[A]at h;simp at h
class GM {γ:Type}(G:Hp->Option Addr->Nat->Nat->γ->Prop):Prop where
 mono:∀{Z Z':Hp} {p:Option Addr} {n c:Nat} {x:γ},Ext Z Z'->G Z p n c x->G Z' p n c x
def GL0 (Z:Hp)(p:Option Addr)(n c:Nat)(ls:List Lb):Prop:=Db Z p n ls
instance:GM GL0:=⟨λA h=>h.mono A9.mono A⟩
section
variable {γ β:Type}{s bs:Nat}{E:List Value->β->Prop}{L:Hp->Option Addr->Nat->Nat->γ->Prop}
abbrev Gl8 (γ β:Type):= γ×List β
abbrev Gl9 (β:Type):= Gl8 (List Lb) β
def GIn (L:Hp->Option Addr->Nat->Nat->γ->Prop)(O:Hp)(vs:List Value)(x:Gl8 γ β×Option Addr×Nat):Prop:=∃p n c,vs=[.slice p n c,.slice x.2.1 x.1.2.length x.2.2]/\L O p n c x.1.1
theorem GIn.mono [m:GM L]:Iu (GIn (β:=β) L):=λ_ _ _ _ C ⟨p,n,c,A,h⟩=>⟨p,n,c,A,m.mono C h⟩
def vA (s:Nat)(E:List Value->β->Prop)(Z:Hp)(q:Option Addr×Nat)(xs:List β):Prop:=∃cs,Aw s Z q.1 xs.length q.2 cs/\Ch s (λ_=>E) Z cs xs
structure Gk (L:Hp->Option Addr->Nat->Nat->γ->Prop)(s:Nat)(E:List Value->β->Prop)(O Z:Hp)(p:Option Addr)(n c:Nat)(gs:List (Gl8 γ β))(qs:List (Option Addr×Nat)):Prop where
 len:qs.length=gs.length
 own:∃cs,Aw 2 Z p n c cs/\Ch 2 (GIn L) O cs (gs.zip qs)
 cA:∀(i:Nat) (q:Option Addr×Nat) (g:Gl8 γ β),qs[i]?=some q->gs[i]?=some g->vA s E Z q g.2
 sep:∀(i:Nat) (q:Option Addr×Nat),qs[i]?=some q->∀a,q.1=some a->O a.block=none/\∀a',p=some a'->a.block≠a'.block
 nd:∀(i j:Nat) (q r:Option Addr×Nat),qs[i]?=some q->qs[j]?=some r->i≠j->∀a a',q.1=some a->r.1=some a'->a.block≠a'.block
 op:∀a,p=some a->O a.block=none
 ext:Ext O Z
variable {Z Z' O:Hp}{p:Option Addr}{n c:Nat}{gs:List (Gl8 γ β)}{qs:List (Option Addr×Nat)}
theorem vA.mono {q:Option Addr×Nat}{xs:List β}(h:vA s E Z q xs)(A:Ext Z Z'):vA s E Z' q xs:=let ⟨cs,h1,h2⟩:=h;⟨cs,h1.mono A,h2.1,h2.2⟩
theorem vA.here {q:Option Addr×Nat}{xs:List β}(h:vA s E Z q xs)(A:∀a,q.1=some a->Z' a.block=Z a.block):vA s E Z' q xs:=let ⟨cs,h1,h2⟩:=h;⟨cs,Aw.here h1 A,h2.1,h2.2⟩
theorem vA.known {q:Option Addr×Nat}{xs:List β}(h:vA s E Z q xs):∀a,q.1=some a->Z a.block≠none:=let ⟨cs,h1,h2⟩:=h;h1.block
theorem vA.rd {q:Option Addr×Nat}{xs:List β}(h:vA s E Z q xs):AT s (λ_=>E) Z q.1 xs.length xs/\xs.length<=q.2:=let ⟨cs,h1,h2⟩:=h;⟨⟨rfl,cs,h1.rd,h2⟩,Aw.cap h1⟩
theorem vA.nil:vA s E Z (none,0) []:=⟨[],Aw.nil,by simp[Ch]⟩
theorem Gk.nil (G:Ext O Z):Gk L s E O Z none 0 0 [] []:=⟨rfl,⟨[],Aw.nil,by simp[Ch]⟩,λi q g A=>(by simp at A),λi q A=>(by simp at A),λi j q r A=>(by simp at A),λa C=>(by cases C),G⟩
theorem Gk.mono (h:Gk L s E O Z p n c gs qs)(A:Ext Z Z'):Gk L s E O Z' p n c gs qs:=
 ⟨h.len,let ⟨cs,h1,h2⟩:=h.own;⟨cs,h1.mono A,h2⟩,λi q g G C=>(h.cA i q g G C).mono A,h.sep,h.nd,h.op,h.ext.trans A⟩
theorem Gk.dz (h:Gk L s E O Z p n c gs qs):gs.length=n:=by
 obtain⟨cs,C,G⟩:=h.own;have a1:=C.1;have A:=G.1;rw[Anx,h.len,Aor]at A;omega
theorem Gk.qat (h:Gk L s E O Z p n c gs qs){i:Nat}{g:Gl8 γ β}(A:gs[i]?=some g):∃q,qs[i]?=some q:=⟨_,Amf (by rw[h.len];exact(Amd.1 A).1)⟩
theorem Gk.at [m:GM L](h:Gk L s E O Z p n c gs qs){i:Nat}{g:Gl8 γ β}(C:gs[i]?=some g):∃b o q pl nl cl,p=some ⟨b,o,none⟩/\qs[i]?=some q/\Af Z b (o+i*2) [.slice pl nl cl,.slice q.1 g.2.length q.2]/\L Z pl nl cl g.1:=by
 obtain⟨q,G⟩:=h.qat C;obtain⟨cs,h1,A⟩:=h.own;have hr:AT 2 (λ_ vs (x:Gl8 γ β×Option Addr×Nat)=>∃p n c,vs=[.slice p n c,.slice x.2.1 x.1.2.length x.2.2]/\L O p n c x.1.1) Z p n (gs.zip qs):=⟨by rw[Anx,h.len,Aor];exact h.dz,cs,h1.rd,A.1,λj x hx=>A.2 j x hx⟩;obtain⟨b,o,vs,hp,⟨p1,n1,c1,rfl,bw⟩,hl⟩:=AT.idx hr (x:=(g,q)) (Ana.2 ⟨C,G⟩);exact⟨b,o,q,p1,n1,c1,hp,G,hl,m.mono h.ext bw⟩
theorem Gk.add {T Et ty:TypeId}[m:GM L][KT prog T Et 2 bs]{pl:Option Addr}{nl cl b:Nat}{ls:γ}{y:Hp}{Φ:Value->Hp->Prop}(h:Gk L s E O Z p n c gs qs)(hy:Ext Z y)(bw:L (Z.new y) pl nl cl ls)(hb:y b=none)(hn:(n+1)*bs<=140737488355328)
  (hΦ:∀O' p' c' Z',Gk L s E O' Z' p' (n+1) c' (gs++[(ls,[])]) (qs++[(none,0)])->Ext O O'->Φ (.slice p' (n+1) c') Z') :
  AJ prog (Builtin.append_ #[T,T] ty #[.slice p n c,.slice (aD b 0) 1 1]) (y.set b (.cells #[.slice pl nl cl,.N] Et (0,0))) Φ:=by
 obtain⟨cs,h1,h2⟩:=h.own;have xb:=Ext.set (o:=.cells #[.slice pl nl cl,.N] Et (0,0)) hb;have X:=hy.trans xb;have hz:(gs.zip qs).length=gs.length:=by rw[Anx,h.len,Aor]
 refine Ea (h1.mono X) (q:=aD b 0) (ys:=[.slice pl nl cl,.N]) ⟨rfl,by omega,.inr ⟨b,0,rfl,Af.C0 (c:=[.slice pl nl cl,.N]) (Hp.AA _ _ _)⟩⟩ (λu hu=>by
  simp only[Aml,AnF,Anp]at hu;rcases hu with rfl|rfl<;>rfl) hn λp' c' Z5 Lj qn=>?_
 have T:∀k,(y.set b (.cells #[.slice pl nl cl,.N] Et (0,0))) k≠none->(∀a,p=some a->k≠a.block)->Z5 k=(y.set b (.cells #[.slice pl nl cl,.N] Et (0,0))) k/\∀a,p'=some a->k≠a.block:=λk hk Ai=>by
  cases hh:(y.set b (.cells #[.slice pl nl cl,.N] Et (0,0))) k with
  | none=>exact absurd hh hk
  | some u=>
   obtain⟨a1,a2⟩:=AU.1 (qn k u (AU.2 ⟨Ai,hh⟩));exact⟨a2,a1⟩
 have up:∀{k:Nat} {A B:Hp},Ext A B->A k≠none->B k≠none:=fun {k A B} hx hk=>by
  cases hh:A k with
  | none=>exact absurd hh hk
  | some u=>rw[hx _ _ hh];simp
 have tt:Ext O (O.or (Z.new y)):=Ext.mA _ _;have nt:Ext (Z.new y) (O.or (Z.new y)):=Ext.bK λk hk=>by
  cases hh:O k with
  | none=>rfl
  | some u=>
   have h3:=h.ext _ _ hh;cases h4:(Z.new y) k with
   | none=>exact absurd h4 hk
   | some v=>rw[(AW.1 h4).1]at h3;cases h3
 have kn:∀k,Z k≠none->O k=none->(O.or (Z.new y)) k=none:=λk hu hk=>by
  rw[Hp.bK hk];cases hh:(Z.new y) k with
  | none=>rfl
  | some v=>exact absurd (AW.1 hh).1 hu
 have e1:Ext (O.or (Z.new y)) y:=Ext.uA (h.ext.trans hy) (Ext.Cf _ _);have pk:∀a,p=some a->Z a.block≠none:=h1.block;have hE5:Ext (O.or (Z.new y)) Z5:=λk u hk=>by
  have hyk:=xb _ _ (e1 _ _ hk);rw[(T k (by rw[hyk];simp) λa C e=>by rw[e,kn a.block (pk a C) (h.op a C)]at hk;cases hk).1];exact hyk
 have oZ:∀(i:Nat) (r:Option Addr×Nat),qs[i]?=some r->∀a,r.1=some a->Z a.block≠none/\O a.block=none/\(∀a',p=some a'->a.block≠a'.block):=λi r G a C=>by
  obtain⟨g1,g2⟩:=h.sep i r G a C;have Av:i<gs.length:=by rw[<-h.len];exact(Amd.1 G).1
  exact⟨(h.cA i r _ G (Amf Av)).known a C,g1,g2⟩
 refine hΦ (O.or (Z.new y)) p' c' Z5 ⟨by simp[h.len],⟨_,Lj,?_⟩,λi r u G hu=>?_,λi r G a C=>?_,λi j r r' G Um JZ a a' C Hx=>?_,λa C=>?_,hE5⟩ tt
 .rw[List.zip_append h.len.symm];exact(h2.mono GIn.mono tt).snoc rfl ⟨pl,nl,cl,rfl,m.mono nt bw⟩
 .rcases Jy G with ⟨G,Av⟩|⟨hi,rfl⟩
  .rcases Jy hu with ⟨hu,_⟩|⟨hi,_⟩
   .refine((h.cA i r u G hu).mono X).here λa C=>?_;obtain⟨g1,_,g3⟩:=oZ i r G a C;exact(T a.block (up X g1) g3).1
   .have:=h.len;omega
  .rcases Jy hu with ⟨_,Av⟩|⟨_,rfl⟩
   .have:=h.len;omega
   .exact vA.nil
 .rcases Jy G with ⟨G,Av⟩|⟨hi,rfl⟩
  .obtain⟨g1,g2,g3⟩:=oZ i r G a C;exact⟨kn _ g1 g2,λa' Hx e=>(T a.block (up X g1) g3).2 a' Hx e⟩
  .cases C
 .rcases Jy G with ⟨G,_⟩|⟨hi,rfl⟩<;>rcases Jy Um with ⟨Um,_⟩|⟨BT,rfl⟩
  .exact h.nd i j r r' G Um JZ a a' C Hx
  .cases Hx
  .cases C
  .cases C
 .cases hh:(O.or (Z.new y)) a.block with
  | none=>rfl
  | some u=>
   exfalso;have hyk:=xb _ _ (e1 _ _ hh);exact(T a.block (by rw[hyk];simp) λa' Hx e=>by rw[e,kn a'.block (pk a' Hx) (h.op a' Hx)]at hh;cases hh).2 a C rfl
theorem Gk.push {T Et ty TS:TypeId}[KT prog T Et s bs]{i b bq oq:Nat}{g:Gl8 γ β}{q:Option Addr×Nat}{x:β}{vs:List Value}{Φ:Unit->Hp->Prop}{Ψ:Value->Hp->Prop}(hz:∀w,(Go.sizeOf TS).run prog w=.ok 1 w)(h:Gk L s E O Z p n c gs qs)(hg:gs[i]?=some g)(hq:qs[i]?=some q)(hp:p=some ⟨bq,oq,none⟩)(hvl:vs.length=s)(hv:E vs x)(h1v:HH vs)(hb:Z b=none)(hn:(g.2.length+1)*bs<=140737488355328)
  (hΨ:∀p' c' Z1,(∀k u,O k=some u->Z1 k=some u)->AJ prog (Instr.storeAt TS (.pointer (some ⟨bq,oq+(i*2+1),none⟩)) (.slice p' (g.2.length+1) c')) Z1 Φ->Ψ (.slice p' (g.2.length+1) c') Z1)
  (hΦ:∀q' Z2,Gk L s E O Z2 p n c (gs.set i (g.1,g.2++[x])) (qs.set i q')->Φ () Z2) :
  AJ prog (Builtin.append_ #[T,T] ty #[.slice q.1 g.2.length q.2,.slice (aD b 0) 1 1]) (Z.set b (.cells vs.toArray Et (0,0))) Ψ:=by
 obtain⟨cs,h1,h2⟩:=h.own;obtain⟨ds,g1,g2⟩:=h.cA i q g hq hg;have hi:=(Amd.1 hg).1;have hiq:=(Amd.1 hq).1;have hgl:=h.dz;have xb:=Ext.set (o:=.cells vs.toArray Et (0,0)) hb;refine Ea (g1.mono xb) (q:=aD b 0) (ys:=vs) ⟨by rw[hvl,ApZ],by decide,.inr ⟨b,0,rfl,Af.C0 (c:=vs) (Hp.AA _ _ _)⟩⟩ h1v hn λp' c' Z1 ho hx=>?_;have K:∀k,Z k≠none->(∀a,q.1=some a->k≠a.block)->Z1 k=Z k/\∀a,p'=some a->k≠a.block:=λk hk Ai=>by
  cases hh:Z k with
  | none=>exact absurd hh hk
  | some u=>
   obtain⟨a1,a2⟩:=AU.1 (hx k u (AU.2 ⟨Ai,xb k u hh⟩));exact⟨a2,a1⟩
 have kt:∀k,O k≠none->Z1 k=Z k/\∀a,p'=some a->k≠a.block:=λk hk=>by
  refine K k (λe=>hk (A0 h.ext e)) λa A e=>?_;rw[e]at hk;exact hk (h.sep i q hq a A).1
 have kp:∀a,p=some a->Z1 a.block=Z a.block/\∀a',p'=some a'->a.block≠a'.block:=λa A=>K a.block (h1.block a A) λa' Hx=>((h.sep i q hq a' Hx).2 a A).symm;have kq:∀(j:Nat) (r:Option Addr×Nat),qs[j]?=some r->j≠i->∀a,r.1=some a->Z1 a.block=Z a.block/\∀a',p'=some a'->a.block≠a'.block:=λj r C dF a A=>by
  have Av:j<gs.length:=by rw[<-h.len];exact(Amd.1 C).1
  exact K a.block ((h.cA j r _ C (Amf Av)).known a A) λa' Hx=>h.nd j i r q C hq dF a a' A Hx
 have wv:Aw 2 Z1 p n c cs:=Aw.here h1 λa A=>(kp a A).1;have Adi:∀a,p'=some a->O a.block=none:=λa A=>by
  cases hh:O a.block with
  | none=>rfl
  | some u=>exact absurd rfl ((kt a.block (by rw[hh];simp)).2 a A)
 refine hΨ p' c' Z1 (λk u hk=>by rw[(kt k (by rw[hk];simp)).1];exact h.ext k u hk) ?_;rw[hp]at wv;refine Aw.rv wv (j:=i*2+1) (by omega) hz rfl rfl λobj g3=>hΦ (p',c') _ ?_;have pb:p=some ⟨bq,oq,none⟩:=hp;have off:∀a:Addr,p'=some a->(Z1.set bq obj) a.block=Z1 a.block:=λa A=>Hp.AN λe=>(kp ⟨bq,oq,none⟩ pb).2 a A e.symm;refine⟨by rw[AoF,AoF];exact h.len,⟨cs.set (i*2+1) (.slice p' (g.2.length+1) c'),by rw[hp];exact g3,?_,λj y hy=>?_⟩,λj r u C hu=>?_,λj r C a A=>?_,λj k r r' C Um jl a a' A Hx=>?_,h.op,λk u hk=>?_⟩
 .rw[AoF,h2.1,Anx,Anx,AoF,AoF]
 .obtain⟨y1,y2⟩:=y;obtain⟨jX,mn⟩:=Ana.1 hy;rw[gF (by decide)];by_cases G:i=j
  .subst G;rw[Amc rfl];rw[AnP hi]at jX;rw[AnP hiq]at mn;cases jX;cases mn;obtain⟨p1,n1,c1,hv',bw⟩:=h2.2 i (g,q) (Ana.2 ⟨hg,hq⟩);refine⟨p1,n1,c1,?_,bw⟩;rw[show(cs.drop (i*2)).take 2=_ from hv'];show[Value.slice p1 n1 c1,Value.slice p' (g.2.length+1) c']=[Value.slice p1 n1 c1,Value.slice p' (g.2++[x]).length c']
   rw[Amv,AnW]
  .rw[Amb G];rw[AnR G]at jX mn;exact h2.2 j (y1,y2) (Ana.2 ⟨jX,mn⟩)
 .by_cases G:i=j
  .subst G;rw[AnP hi]at hu;rw[AnP hiq]at C;cases hu;cases C;refine⟨ds++vs,?_,?_⟩
   .show Aw s (Z1.set bq obj) p' (g.2++[x]).length c' (ds++vs)
    rw[Amv,AnW];exact Aw.here ho off
   .have:Ch s (λ_=>E) (Z1.set bq obj) ds g.2:=⟨g2.1,g2.2⟩;exact this.snoc hvl hv
  .rw[AnR G]at C hu;refine(h.cA j r u C hu).here λa A=>?_;rw[Hp.AN λe=>(h.sep j r C a A).2 ⟨bq,oq,none⟩ pb e,(kq j r C (λe=>G e.symm) a A).1]
 .by_cases G:i=j
  .subst G;rw[AnP hiq]at C;cases C;exact⟨Adi a A,λa' Hx e=>(kp a' Hx).2 a A e.symm⟩
  .rw[AnR G]at C;exact h.sep j r C a A
 .by_cases G:i=j
  .subst G;rw[AnP hiq]at C;cases C;rw[AnR jl]at Um;exact λe=>(kq k r' Um (λe=>jl e.symm) a' Hx).2 a A e.symm
  .by_cases hik:i=k
   .subst hik;rw[AnP hiq]at Um;cases Um;rw[AnR G]at C;exact(kq j r C (λe=>G e.symm) a A).2 a' Hx
   .rw[AnR G]at C;rw[AnR hik]at Um;exact h.nd j k r r' C Um jl a a' A Hx
 .have Jb:k≠bq:=λe=>by
   have h9:=h.op ⟨bq,oq,none⟩ pb;rw[e]at hk;rw[h9]at hk;cases hk
  rw[Hp.AN Jb,(kt k (by rw[hk];simp)).1];exact h.ext k u hk
end
abbrev Gc {β:Type}(s:Nat)(E:List Value->β->Prop):= Gk (γ:=List Lb) (β:=β) GL0 s E
def Qk.v (w:Qk):Value:=.slice w.p w.n w.c
def ADo (x:Qk×Qk):List Value:=[x.1.v,x.2.v]
abbrev dj (x y:Qk):Prop:=∀a a',x.p=some a->y.p=some a'->a.block≠a'.block
structure P9 (Z0 Z:Hp)(p:Option Addr)(w:Qk):Prop where
 n:w.n<=100000000
 own:∃es,Aw 2 Z w.p w.n w.c es
 new:∀a,w.p=some a->Z0 a.block=none
 sep:∀a a',w.p=some a->p=some a'->a.block≠a'.block
abbrev Rr9 (x y:Qk×Qk):Prop:=dj x.1 y.1/\dj x.1 y.2/\dj x.2 y.1/\dj x.2 y.2
theorem Rr9.symm {x y:Qk×Qk}(h:Rr9 x y):Rr9 y x:=⟨λa b A hb=>(h.1 b a hb A).symm,λa b A hb=>(h.2.2.1 b a hb A).symm,λa b A hb=>(h.2.1 b a hb A).symm,λa b A hb=>(h.2.2.2 b a hb A).symm⟩
structure sH (Z0 Z:Hp)(p:Option Addr)(n c:Nat)(M:List Sr)(rows:List (Qk×Qk)):Prop where
 own:Aw 2 Z p n c (rows.flatMap ADo)
 pw:rows.Pairwise Rr9
 each:∀x∈rows,dj x.1 x.2/\P9 Z0 Z p x.1/\P9 Z0 Z p x.2
 rd:AT 2 Cd Z p n M
 op:∀a,p=some a->Z0 a.block=none
 ext:Ext Z0 Z
section
variable {Z Z' Z0 M:Hp}{R:Rr}{p:Option Addr}{n c:Nat}{S:List Sr}{rows:List (Qk×Qk)}
theorem P9.mono {w:Qk}(h:P9 Z0 Z p w)(A:Ext Z Z'):P9 Z0 Z' p w:=⟨h.n,let ⟨es,ho⟩:=h.own;⟨es,ho.mono A⟩,h.new,h.sep⟩
theorem sH.mono (h:sH Z0 Z p n c S rows)(A:Ext Z Z'):sH Z0 Z' p n c S rows:=⟨h.own.mono A,h.pw,λx hm=>let ⟨a,b,d⟩:=h.each x hm;⟨a,b.mono A,d.mono A⟩,h.rd.mono Cd.mono A,h.op,h.ext.trans A⟩
theorem P9.off {w v:Qk}(h:P9 M Z p w)(C:Rf v.p Z Z')(A:dj w v):P9 M Z' p w:=⟨h.n,let ⟨es,ho⟩:=h.own;⟨es,C.own ho A⟩,h.new,h.sep⟩
theorem nY (hA:sH M Z p n c S rows)(h:∀Z',Ext M Z'->R (.T #[]) Z'):Spec prog 13 #[.slice p n c] Z R:=by
 refine CV.start ?_;have hn:=hA.own.2.1
 suffices H:∀(A:List (Qk×Qk)) (i:Nat) (Z1:Hp) (C:List Value),i+A.length=n->Aw 2 Z1 p n c C->C.drop (i*2)=A.flatMap ADo->A.Pairwise Rr9->(∀x∈A,dj x.1 x.2/\P9 M Z1 p x.1/\P9 M Z1 p x.2)->Ext M Z1->CV.pt6 R p n c (i:Int) Z1 from
  H rows 0 Z _ (by have:=hA.own.1;rw[MZ (k:=2) λx=>rfl]at this;omega) hA.own (by simp) hA.pw hA.each hA.ext
 intro A
 induction A with
 | nil=>exact λi Z1 C hi _ _ _ _ hM1=>CV.U3 ⟨λhh=>by simp only[Apo]at hi;omega,λ_=>h Z1 hM1⟩
 | cons x A ih=>
  intro i Z1 C hi Qy LC mC hea hM1;obtain⟨w,q⟩:=x;rw[AnN]at hi;obtain⟨pw1,pw2⟩:=AnH.1 mC;obtain⟨dwq,hw,hq⟩:=hea (w,q) (by simp);have Ba:i<n:=by omega
  have c0:C[i*2]?=some w.v:=by
   have:(C.drop (i*2))[0]?=some w.v:=by rw[LC];rfl
   rw[Am3]at this;exact this
  have c1:C[i*2+1]?=some q.v:=by
   have:(C.drop (i*2))[1]?=some q.v:=by rw[LC];rfl
   rw[Am3]at this;exact this
  have ld:∀(Z2:Hp),Aw 2 Z2 p n c C->∃B o,p=some ⟨B,o,none⟩/\Z2.ld ⟨B,o+i*2,none⟩=some w.v/\Z2.ld ⟨B,o+(i*2+1),none⟩=some q.v:=λZ2 A7=>by
   obtain⟨_,_,hh⟩:=A7.rd;rcases hh with hh|⟨B,o,hp,hl⟩
   .omega
   .exact⟨B,o,hp,hl.get c0,hl.get c1⟩
  obtain⟨B,o,hp,l1,_⟩:=ld Z1 Qy;obtain⟨es,Adj⟩:=hw.own;refine CV.U3 ⟨λ_=>⟨B,o,hp,by unfold In;omega,w.p,w.n,w.c,by rw[AnE];exact l1,Vi Adj hw.n λZ2 x2=>⟨rfl,by unfold In;omega,?_⟩⟩,λhh=>by omega⟩;have A7:=x2.own Qy λa a' G Hx e=>hw.sep a' a Hx G e.symm;obtain⟨B',o',hp',_,l2⟩:=ld Z2 A7;rw[hp] at hp';cases hp';have hq2:=hq.off (v:=w) x2 λa a' G Hx e=>dwq a' a Hx G e.symm;obtain⟨es2,Adk⟩:=hq2.own;refine⟨q.p,q.n,q.c,by rw[AnE,Apc];exact l2,Vj Adk hq.n λZ3 x3=>⟨rfl,by unfold In;omega,?_⟩⟩;have Cm:=x3.own A7 λa a' G Hx e=>hq.sep a' a Hx G e.symm;rw[AnE];subst hp;refine Aw.two Cm Ba AN2 rfl ⟨rfl,rfl⟩ λZ4 cs4 FE hag hk=>⟨by unfold AF;omega,?_⟩;have x4:Rf (some ⟨B,o,none⟩) Z3 Z4:=λk u DI Ai=>by rw[hk k (Ai _ rfl)];exact DI
  have tr:∀{v:Qk},P9 M Z1 (some ⟨B,o,none⟩) v->dj v w->dj v q->P9 M Z4 (some ⟨B,o,none⟩) v:=λhv d1 d2=>((hv.off x2 d1).off x3 d2).off (v:=⟨some ⟨B,o,none⟩,0,0⟩) x4 hv.sep;have:=ih (i+1) Z4 cs4 (by omega) FE ?_ pw2 (λy hy=>?_) (λk u DI=>?_)
  .rw[show((i+1:Nat):Int)=(i:Int)+1 by omega]at this;exact this
  .have e:C.drop ((i+1)*2)=A.flatMap ADo:=by rw[show(i+1)*2=i*2+2 by omega,<-Anu,LC];rfl
   rw[<-e];refine Ani λj=>?_;rw[Am3,Am3];exact hag _ (by omega) (by omega)
  .obtain⟨d1,d2,d3⟩:=hea y (Amk _ hy);obtain⟨r1,r2,r3,r4⟩:=Rr9.symm (pw1 y hy);exact⟨d1,tr d2 r1 r2,tr d3 r3 r4⟩
  .refine x4 k u (x3 k u (x2 k u (hM1 k u DI) λa G e=>?_) λa G e=>?_) λa G e=>?_
   .rw[e,hw.new a G]at DI;cases DI
   .rw[e,hq.new a G]at DI;cases DI
   .rw[e,hA.op a G]at DI;cases DI
end
def GL1 (Z:Hp)(p:Option Addr)(n c:Nat)(x:List Lb×Qk):Prop:=x.2=⟨p,n,c⟩/\Hr 2 A9 Z p n c x.1
instance:GM GL1:=⟨λA h=>⟨h.1,h.2.mono A9.mono A⟩⟩
abbrev EPv (vs:List Value)(x:Pt):Prop:=vs=[.I x.1,.U x.2]
abbrev Gr:=Gl8 (List Lb×Qk) Pt
def Gr.sr (g:Gr):Sr:=⟨g.1.1,g.2⟩
def nZ (x:Gr×Option Addr×Nat):Qk×Qk:=(x.1.1.2,⟨x.2.1,x.1.2.length,x.2.2⟩)
structure eA (Z O B:Hp)(w:Option Addr)(j e:Nat)(gs:List Gr)(qs:List (Option Addr×Nat)):Prop where
 gk:Gk GL1 2 EPv O B w j e gs qs
 base:Ext Z O
 w0:∀g∈gs,∀a,g.1.2.p=some a->Z a.block=none
 wd:(gs.map (·.1.2)).Pairwise dj
section
variable {Z O B Z1:Hp}{R:Rr}{w:Option Addr}{j e:Nat}{gs:List Gr}{qs:List (Option Addr×Nat)}
theorem eA.lab (h:eA Z O B w j e gs qs){g:Gr}(hg:g∈gs):Hr 2 A9 O g.1.2.p g.1.2.n g.1.2.c g.1.1:=by
 obtain⟨i,hi⟩:=AnC.1 hg;obtain⟨q,hq⟩:=h.gk.qat hi;obtain⟨cs,_,C⟩:=h.gk.own;obtain⟨p,n,c,_,A,G⟩:=C.2 i (g,q) (Ana.2 ⟨hi,hq⟩);have A:g.1.2=⟨p,n,c⟩:=A;rw[A];exact G
theorem eA.AXa (h:eA Z O B w j e gs qs)(hl:∀g∈gs,g.1.1.length<=100000000/\g.2.length<=100000000){L':List (Gr×Option Addr×Nat)}(hp:L'.Perm (gs.zip qs))(Cp:Aw 2 Z1 w j e ((L'.map nZ).flatMap ADo))(hk:∀k,B k≠none->(∀a,w=some a->k≠a.block)->Z1 k=B k):
  sH Z Z1 w j e (L'.map λx=>x.1.sr) (L'.map nZ):=by
 have gk:=h.gk;have kt:∀k u,O k=some u->Z1 k=some u:=λk u G=>by
  rw[hk k (by rw[gk.ext _ _ G];simp) λa C e=>by rw[e,gk.op a C]at G;cases G];exact gk.ext _ _ G
 have hz:∀x∈gs.zip qs,∃i:Nat,gs[i]?=some x.1/\qs[i]?=some x.2:=λx A=>by
  obtain⟨i,hi⟩:=AnC.1 A;exact⟨i,Ana.1 hi⟩
 have lab:∀x∈gs.zip qs,Hr 2 A9 O x.1.1.2.p x.1.1.2.n x.1.1.2.c x.1.1.1:=λx A=>by
  obtain⟨i,h1,_⟩:=hz x A;exact h.lab (Ame h1)
 have wk:∀x∈gs.zip qs,∀a,x.1.1.2.p=some a->O a.block≠none:=λx A a C=>by
  obtain⟨_,cs,ho,_⟩:=lab x A;exact ho.block a C
 have qk:∀x∈gs.zip qs,∀a,x.2.1=some a->O a.block=none/\(∀a',w=some a'->a.block≠a'.block)/\Z1 a.block=B a.block:=λx A a C=>by
  obtain⟨i,h1,h2⟩:=hz x A;obtain⟨g1,g2⟩:=gk.sep i _ h2 a C;exact⟨g1,g2,hk _ ((gk.cA i _ _ h2 h1).known a C) g2⟩
 have dwq:∀x∈gs.zip qs,∀y∈gs.zip qs,dj (nZ x).1 (nZ y).2:=λx A y hy a a' C Hx e=>wk x A a C (by rw[e];exact(qk y hy a' Hx).1);refine⟨Cp,(List.Perm.pairwise_iff Rr9.symm (hp.map nZ)).2 (AoY.2 (AnG.2 λi k hi G hik=>?_)),λy hy=>?_,?_,λa C=>A0 h.base (gk.op a C),λk u G=>kt k u (h.base _ _ G)⟩
 .obtain⟨a1,a2⟩:=Ana.1 (Amf hi);obtain⟨b1,b2⟩:=Ana.1 (Amf G);have A:=Aod hi;have hy:=Aod G;generalize (gs.zip qs)[i]=x at *;generalize (gs.zip qs)[k]=y at *;obtain⟨i1,e1⟩:=Amd.1 a1;obtain⟨k1,e2⟩:=Amd.1 b1;have:=AnG.1 (AoY.1 h.wd) i k i1 k1 hik;rw[e1,e2]at this;exact⟨this,dwq x A y hy,λa a' C Hx e=>dwq y hy x A a' a Hx C e.symm,gk.nd i k _ _ a2 b2 (by omega)⟩
 .obtain⟨x,A,rfl⟩:=AnA.1 hy;have A:=hp.mem_iff.1 A;obtain⟨i,h1,h2⟩:=hz x A;have hgm:=Ame h1;obtain⟨l1,l2⟩:=hl _ hgm;obtain⟨n1,cs,ho,_⟩:=lab x A;obtain⟨ds,g1,_⟩:=gk.cA i _ _ h2 h1;exact⟨dwq x A x A,⟨by show x.1.1.2.n<=_;omega,⟨cs,ho.mono kt⟩,h.w0 _ hgm,λa a' C Hx e=>wk x A a C (by rw[e];exact gk.op a' Hx)⟩,
   ⟨l2,⟨ds,Aw.here g1 λa C=>(qk x A a C).2.2⟩,λa C=>A0 h.base (qk x A a C).1,λa a' C Hx=>(qk x A a C).2.1 a' Hx⟩⟩
 .have hlen:L'.length=j:=by
   rw[hp.length_eq,Anx,gk.len,Aor];exact gk.dz
  refine⟨by rw[Amw];exact hlen,_,Cp.rd,by rw[MZ (k:=2) λx=>rfl,Amw,Amw],λi s hs=>?_⟩;rw[Am8]at hs;cases A:L'[i]? with
  | none=>rw[A]at hs;cases hs
  | some x=>
   rw[A]at hs;simp only[AnK,Ami]at hs;subst hs;rw[jA (λx=>rfl) (L'.map nZ) i (nZ x) (by rw[Am8,A];rfl)];have mS:=hp.mem_iff.1 (Ame A);obtain⟨k,h1,h2⟩:=hz x mS;obtain⟨r1,r2⟩:=((gk.cA k _ _ h2 h1).here λa C=>(qk x mS a C).2.2).rd;exact⟨x.1.1.2.p,x.1.1.2.n,x.1.1.2.c,x.2.1,x.1.2.length,x.2.2,rfl,((lab x mS).rd A9.mono).mono A9.mono kt,r1,r2⟩
theorem xw [HL]{R:Rr}{p q p1 q1:Option Addr}{n m c d n1 c1 m1 d1:Nat}{ls A:List Lb}(C:Db Z p n ls)(G:Db Z q m A)(h:∀Z',Ext Z Z'->R (.returned (.I (Ap ls A))) Z'):Spec prog 41 #[.agg #[.slice p n c,.slice p1 n1 c1],.agg #[.slice q m d,.slice q1 m1 d1]] Z R:=
 TL.start λ_ _=>RF C G λZ' hx=>⟨_,rfl,h Z' hx⟩
theorem sI (h:eA Z O B w j e gs qs)(hl:∀g∈gs,g.1.1.length<=100000000/\g.2.length<=100000000)(hj:j<4611686018427387904)
  (hR:∀Z' rows S,sH Z Z' w j e S rows->S.Perm (gs.map Gr.sr)->S.Pairwise (λx y=>¬Ap y.ls x.ls<0)->R (.T #[]) Z'):Spec prog 40 #[.slice w j e,.func (.func 41) #[] #[]] B R:=by
 have gk:=h.gk;have C:=gk.dz;have hzl:(gs.zip qs).length=j:=by rw[Anx,gk.len,Aor];exact C
 obtain⟨cs,ho,hc⟩:=gk.own;by_cases h0:j=0
 .subst h0;have yY:gs=[]:=An6.1 C;subst yY;have LC:cs=[]:=An6.1 (by have:=ho.1;omega);subst LC;exact Spec.same (v:=.tuple #[]) (λw' _=>Go.Proofs.AnyF.slices_SortFunc_none Go.Proofs.Tryz.ACk w e _ w') (hR B [] [] (h.AXa (L':=[]) hl (ApU _) ho λ_ _ _=>rfl) (ApU _) .nil)
 obtain⟨b,o,rfl⟩:∃b o,w=some ⟨b,o,none⟩:=by
  rcases ho.2.2 with ⟨_,h2,_⟩|⟨b,o,_,_,hp,_⟩
  .exact absurd h2 h0
  .exact⟨b,o,hp⟩
 let A:Fin j->Gr×Option Addr×Nat:=λi=>(gs.zip qs)[i.1]'(by rw[hzl];exact i.2)
 let enc:Fin j->List Value:=λi=>ADo (nZ (A i))
 have uR:(List.finRange j).flatMap enc=cs:=by
  have e:enc=λi=>(cs.drop (i.1*2)).take 2:=by
   funext i
   obtain⟨p,n,c,hv,h3,_⟩:=hc.2 i.1 (A i) (Amf _);have h3:(A i).1.1.2=⟨p,n,c⟩:=h3;rw[hv];show[Qk.v (A i).1.1.2,_]=_
   rw[h3];rfl
  rw[e];exact mZ ho.1
 have AEw:(List.finRange j).map A=gs.zip qs:=uQ _ hzl;haveI:Inhabited (Fin j):=⟨⟨0,by omega⟩⟩;have lab:∀i:Fin j,Db (B.del (some ⟨b,o,none⟩)) (A i).1.1.2.p (A i).1.1.2.n (A i).1.1.1:=λi=>by
  have hm:A i∈gs.zip qs:=Aod _;refine((h.lab (List.of_mem_zip hm).1).rd A9.mono).mono A9.mono λk u G=>AU.2 ⟨λa ha e=>?_,gk.ext _ _ G⟩;rw[e,gk.op a ha]at G;cases G
 refine uP (ρ:=Go.Proofs.Tryz.bm) Go.Proofs.Tryz.ACk (λw=>by kernel_rfl) (λw=>by kernel_rfl) (α:=Fin j) (enc:=enc) (λi=>rfl) (λi u hu=>by
  have hu:u∈[Qk.v _,Qk.v _]:=hu;simp only[Aml,AnF,Anp]at hu;rcases hu with rfl|rfl<;>rfl) (cf:=λi k=>Ap (A i).1.1.1 (A k).1.1.1) AWs (g:=41) (λargs w=>call41 args w) (b:=b) (o:=o) (ds:=List.finRange j) (by rw[uR];exact ho) ApE h0 hj (λw hw x y=>?_) λZ1 ds hp mC Cp JO=>?_
 .exact Spec.ACh (R:=λe=>e=.returned (.I (Ap (A x).1.1.1 (A y).1.1.1))) (@xw _ ⟨True⟩ _ _ _ _ _ _ _ _ _ _ _ _ _ _ _ (lab x) (lab y) λZ' Ju=>⟨rfl,Ju⟩) hw
 .have hL:(ds.map A).Perm (gs.zip qs):=by rw[<-AEw];exact hp.map A
  refine hR Z1 _ _ (h.AXa (L':=ds.map A) hl hL (by rw[Apt,List.flatMap_map];exact Cp) λk G Ai=>?_) ?_ ?_
  .cases hh:B k with
   | none=>exact absurd hh G
   | some u=>exact(AU.1 (JO k u (AU.2 ⟨Ai,hh⟩))).2
  .have:=hL.map λx=>x.1.sr;have e:(gs.zip qs).map (λx=>x.1.sr)=gs.map Gr.sr:=by
    rw[show(λx:Gr×Option Addr×Nat=>x.1.sr)=Gr.sr ∘ Prod.fst from rfl,<-Apt,List.map_fst_zip (by rw[gk.len];exact Amr _)]
   rwa[e]at this
  .rw[Apt];exact AoY.2 (mC.imp fun {x y} RD=>Am4 RD)
theorem eA.set {G:Hp}{i:Nat}{g:Gr}{ps:List Pt}{cY:List (Option Addr×Nat)}(h:eA Z O B w j e gs qs)(A:gs[i]?=some g)(hk:Gk GL1 2 EPv O G w j e (gs.set i (g.1,ps)) cY):eA Z O G w j e (gs.set i (g.1,ps)) cY:=by
 refine⟨hk,h.base,λu C=>?_,?_⟩
 .rcases Aoj C with C|rfl
  .exact h.w0 u C
  .exact h.w0 g (Ame A)
 .have e:(gs.set i (g.1,ps)).map (·.1.2)=gs.map (·.1.2):=by
   refine Ani λk=>?_;rw[Am8,Am8,An9];split
   .rename_i e;subst e;rw[A,Amc (Amd.1 A).1];rfl
   .rfl
  rw[e];exact h.wd
theorem eA.snoc {O' B' B3 B5:Hp}{w':Option Addr}{j' e':Nat}{ls:List Lb}{W:Qk}{cY:List (Option Addr×Nat)}(h:eA Z O B w j e gs qs)(hk:Gk GL1 2 EPv O' B' w' j' e' (gs++[((ls,W),[])]) cY)(hx:Ext O O')(h3:Ext B B3)(hW:Hr 2 A9 (B3.new B5) W.p W.n W.c ls):eA Z O' B' w' j' e' (gs++[((ls,W),[])]) cY:=by
 have hn:∀a,W.p=some a->O a.block=none:=λa G=>by
  obtain⟨_,ds,A,_⟩:=hW;cases hh:(B3.new B5) a.block with
  | none=>exact absurd hh (A.block a G)
  | some u=>exact A0 (h.gk.ext.trans h3) (AW.1 hh).1
 refine⟨hk,h.base.trans hx,λu C=>?_,?_⟩
 .rcases Am6.1 C with C|C
  .exact h.w0 u C
  .rw[Amo]at C;subst C;exact λa G=>A0 h.base (hn a G)
 .rw[Am7];refine Apv.2 ⟨h.wd,ApW ..,λx hx y hy a a' G Hx e=>?_⟩;obtain⟨g,hg,rfl⟩:=AnA.1 hx;rw[An1,Amo]at hy;subst hy;obtain⟨_,ds,A,_⟩:=h.lab hg;exact A.block a G (by rw[e];exact hn a' Hx)
theorem Gk.more {γ β:Type}{s:Nat}{E:List Value->β->Prop}{L:Hp->Option Addr->Nat->Nat->γ->Prop}[GM L]{gs:List (Gl8 γ β)}{N:Hp}(h:Gk L s E O B w j e gs qs)(hx:Ext O N)(hd:Dis N (B.minus O)):Gk L s E N (N.or (B.minus O)) w j e gs qs:=by
 have hB:Ext B (N.or (B.minus O)):=λk u hk=>by
  cases G:O k with
  | some v=>
   have:=h.ext _ _ G;rw[hk]at this;cases this;exact Hp.mA (hx _ _ G)
  | none=>
   have hm:=Hp.NM.2 ⟨G,hk⟩;rw[Hp.bK (hd k (by rw[hm];simp))];exact hm
 have nn:∀k,B k≠none->O k=none->N k=none:=λk hk G=>by
  cases hh:B k with
  | none=>exact absurd hh hk
  | some u=>exact hd k (by rw[Hp.NM.2 ⟨G,hh⟩];simp)
 refine⟨h.len,let ⟨cs,h1,h2⟩:=h.own;⟨cs,h1.mono hB,h2.mono GIn.mono hx⟩,λi q g C hg=>(h.cA i q g C hg).mono hB,λi q C a A=>?_,h.nd,λa A=>?_,Ext.mA _ _⟩
 .obtain⟨g1,g2⟩:=h.sep i q C a A;have Av:i<gs.length:=by rw[<-h.len];exact(Amd.1 C).1
  exact⟨nn _ ((h.cA i q _ C (Amf Av)).known a A) g1,g2⟩
 .obtain⟨cs,h1,_⟩:=h.own;exact nn _ (h1.block a A) (h.op a A)
end
structure Bx9 where
 b5:Nat
 b6:Nat
 E2:Nat
 Bu:Nat
 D0:Nat
 DL:Nat
 D:Nat
 l:Nat
 m:Nat
 p:Option Addr
 n:Nat
 c:Nat
 q:Option Addr
 k:Nat
 d:Nat
 r0:Loop
abbrev Bx9.L (X:Bx9)(w:Option Addr)(k e:Nat)(om:Obj)(x:Int)(lo:Loop):List (Nat×Obj):=
 [(X.l,.loop lo),(X.D,.deferred (some [])),(X.DL,.cells #[.slice w k e] 23 (0,0)),(X.D0,.cells #[.map (some X.m)] 78 (0,0)),(X.Bu,.cells #[.I x] 24 (0,0)),(X.E2,.cells #[.N] 23 (0,0)),(X.b6,.cells #[.slice X.q X.k X.d] 23 (0,0)),(X.b5,.cells #[.slice X.p X.n X.c] 22 (0,0)),(X.m,om)]
abbrev Bx9.bl (X:Bx9):List Nat:=[X.l,X.D,X.DL,X.D0,X.Bu,X.E2,X.b6,X.b5,X.m]
def Bx9.nd (X:Bx9):Prop:=X.bl.Nodup
def Bx9.off (X:Bx9)(B:Hp):Prop:=∀b∈X.bl,B b=none
def MO (m:Nat)(om:Obj)(L:List (ByteArray×Nat)):Prop:=∀Z:Hp,Z m=some om->MS (λv (i:Nat)=>v=.I i) Z m L
section
variable {Z O B:Hp}{R:Rr}{X:Bx9}{w:Option Addr}{j e:Nat}{gs:List Gr}{qs:List (Option Addr×Nat)}{om:Obj}
theorem MO.of {m:Nat}{L:List (ByteArray×Nat)}(h:MS (λv (i:Nat)=>v=.I i) B m L)(C:B m=some om):MO m om L:=λZ' A=>h.loc (A.trans C.symm)
theorem ADp {A i Ml RT:Nat}{t v RV:Int}{RU:Int}{vl:Value}{g:Gr}{S3:Option Addr}(hn:(A::X.bl).Nodup)(RZ:X.off B)(h19:B A=none)(hG:Gk GL1 2 EPv O B w j e gs qs)(hg:gs[i]?=some g)(hk:g.2.length<=3000000000000)
  (next:∀B' cY,X.off B'->Gk GL1 2 EPv O B' w j e (gs.set i (g.1,g.2++[(t,v)])) cY->AF (RV+1)/\CC.U4 R X.l X.r0 X.D0 X.DL t S3 Ml RT RU (RV+1) (Az B' (X.L w j e om 0 (lp X.r0 .busy none)))) :
  CC.AFK R X.l X.r0 X.D0 X.DL t A (i:Int) S3 Ml RT RU RV (Az B ((A,.cells #[vl,.U v] 59 (0,0))::X.L w j e om 0 (lp X.r0 .busy none))):=by
 obtain⟨G,og,q,pl,nl,cl,rfl,hq,CH,_⟩:=hG.at hg;have JZ:i<j:=by have:=hG.dz;have:=(Amd.1 hg).1;omega
 let L:List (Nat×Obj):=(A,.cells #[vl,.U v] 59 (0,0))::X.L (some ⟨G,og,none⟩) j e om 0 (lp X.r0 .busy none)
 have hL:(names L).Nodup:=hn;have ho:Sf L B:=λx hx=>by
  rcases Aml.1 hx with rfl|hx
  .exact h19
  .exact RZ x hx
 have hxB:Ext B (Az B L):=Sf.ext hL ho;have e14:Hp.ld (Az B L) ⟨X.DL,0,none⟩=some (.slice (some ⟨G,og,none⟩) j e):=dZ (i:=3) hL rfl rfl;have Wa:Hp.ld (Az B L) ⟨G,(og+Int.toNat (i:Int)*2)+1,none⟩=some (.slice q.1 g.2.length q.2):=by
  rw[AnE];exact(CH.mono hxB).2.1
 refine CC.AFS ⟨_,j,e,e14,_,j,e,e14,G,og,rfl,⟨by omega,by omega⟩,q.1,g.2.length,q.2,Wa,v,dZ (i:=0) hL rfl rfl,λdR Adn=>?_⟩;obtain⟨C,hB9⟩:=EE (L:=L) Adn;show AJ prog (Builtin.append_ #[49,49] 49 #[.slice q.1 g.2.length q.2,.slice (some ⟨dR,0,none⟩) 1 1]) ((Az B L).set dR (.cells #[.I t,.U v] 61 (0,0))) _
 rw[KF C];refine AJ.IM hL (ho.set C) (Gk.push (T:=49) (Et:=61) (ty:=49) (TS:=49) (x:=(t,v)) (vs:=[.I t,.U v]) (Φ:=λ_ Z2=>Sf L Z2->AF (RV+1)/\CC.U4 R X.l X.r0 X.D0 X.DL t S3 Ml RT RU (RV+1) (Az Z2 L)) AN7 hG hg hq rfl rfl rfl (λu hu=>by
  simp only[Aml,AnF,Anp]at hu;rcases hu with rfl|rfl<;>rfl) hB9 (by omega) (λp' c' Z1 _ HG Gi=>⟨p',g.2.length+1,c',rfl,kpL (i:=3) hL rfl,G,og,rfl,⟨by omega,by omega⟩,?_⟩) λq' Z2 hG2 AKK=>?_)
 .rw[AnE,Apc];exact AJ.IM hL Gi HG
 .have n19:A ∉ X.bl:=(AnY.1 hn).1;have Ado:Z2 A=none:=AKK A (Amu ..);have e1:Az Z2 L=Az (Z2.set A (.cells #[vl,.U v] 59 (0,0))) (X.L (some ⟨G,og,none⟩) j e om 0 (lp X.r0 .busy none)):=KF (L:=X.L (some ⟨G,og,none⟩) j e om 0 (lp X.r0 .busy none)) n19;rw[e1];exact next _ _ (λy hy=>by rw[Hp.AN (show y≠A from λe=>n19 (e▸hy))];exact AKK y (Amk _ hy)) (hG2.mono (Ext.set Ado))
theorem AOL {i Ml RT:Nat}{t:Int}{l:List El}{x:El}{S3:Option Addr}(hn:X.nd)(RZ:X.off B)(hG:eA Z O B w j e gs qs)(hm:MO X.m om (cK 0 (gs.map Gr.sr)))(hr:AT 2 Ad O S3 Ml l)(hx:l[i]?=some x)(Rp:Ac x.ls)(hbd:Bd (gs.map Gr.sr) 2800000000000)(hi:i<=4000000000000)
  (next:∀O' A w' j' e' cZ cY XB,X.off A->eA Z O' A w' j' e' cZ cY->MO X.m XB (cK 0 (cZ.map Gr.sr))->cZ.map Gr.sr=LD (gs.map Gr.sr) x.ls (t,x.v)->Ext O O'->CC.U4 R X.l X.r0 X.D0 X.DL t S3 Ml RT (Ml:Int) ((i+1:Nat):Int) (Az A (X.L w' j' e' XB 0 (lp X.r0 .busy none)))) :
  CC.U4 R X.l X.r0 X.D0 X.DL t S3 Ml RT (Ml:Int) (i:Int) (Az B (X.L w j e om 0 (lp X.r0 .busy none))):=by
 have hL:(names (X.L w j e om 0 (lp X.r0 .busy none))).Nodup:=hn;have hxB:Ext B (Az B (X.L w j e om 0 (lp X.r0 .busy none))):=Sf.ext hL RZ;have hjl:gs.length=j:=hG.gk.dz;have hbl:=hbd.1;rw[Amw]at hbl;have hil:i<Ml:=by have:=(Amd.1 hx).1;have h9:l.length=Ml:=hr.1;omega
 obtain⟨Nj,tK,q,G,d,rfl,hl,Adq⟩:=Ad.at hr hx;have bw:Db B q G x.ls:=Adq.mono A9.mono hG.gk.ext;have hm':G<=1000000000:=by
  have:=Rp.1;have h9:x.ls.length=G:=bw.1;omega
 have nxt:∀O' A w' j' e' cZ cY XB,X.off A->eA Z O' A w' j' e' cZ cY->MO X.m XB (cK 0 (cZ.map Gr.sr))->cZ.map Gr.sr=LD (gs.map Gr.sr) x.ls (t,x.v)->Ext O O'->AF ((i:Int)+1)/\CC.U4 R X.l X.r0 X.D0 X.DL t (some ⟨Nj,tK,none⟩) Ml RT (Ml:Int) ((i:Int)+1) (Az A (X.L w' j' e' XB 0 (lp X.r0 .busy none))):=λO' A w' j' e' cZ cY XB h1 h2 h3 h4 h5=>⟨by unfold AF;omega,by
  have:=next O' A w' j' e' cZ cY XB h1 h2 h3 h4 h5
  rw[show((i+1:Nat):Int)=(i:Int)+1 by omega]at this;exact this⟩
 refine CC.M0 ⟨λ_=>⟨Nj,tK,rfl,⟨by omega,by omega⟩,q,G,d,x.v,by simpa using hl.mono (hG.gk.ext.trans hxB),λD8 h19=>?_⟩,λhh=>by omega⟩;obtain⟨n19,Adr⟩:=EE (L:=X.L w j e om 0 (lp X.r0 .busy none)) h19;have rY:(D8::X.bl).Nodup:=AnY.2 ⟨n19,hn⟩
 let L0:List (Nat×Obj):=(D8,.cells #[.N,.U 0] 59 (0,0))::X.L w j e om 0 (lp X.r0 .busy none)
 let Lo:Option Addr->Nat->Nat->Obj->List (Nat×Obj):=λw j e om=>(D8,.cells #[.slice q G d,.U x.v] 59 (0,0))::X.L w j e om 0 (lp X.r0 .busy none)
 let L1:List (Nat×Obj):=(D8,.cells #[.slice q G d,.U x.v] 59 (0,0))::X.L w j e om 0 (lp X.r0 .busy none)
 have C:(names L1).Nodup:=rY;have Gi:∀{A w j e om},X.off A->A D8=none->Sf (Lo w j e om) A:=λho h9 x hx=>by
  rcases Aml.1 hx with rfl|hx
  .exact h9
  .exact ho x hx
 have AHM:∀{A w j e om},Sf (Lo w j e om) A->X.off A/\A D8=none:=λho=>⟨λx hx=>ho x (Amk _ hx),ho D8 (Amu ..)⟩;show AJ prog (Instr.storeAt 59 (.pointer (some ⟨D8,0,none⟩)) (.agg #[.slice q G d,.U x.v])) (Az B L0) _
 refine AJ.NL (L:=L0) (i:=0) (c:=#[.N,.U 0]) (c':=#[.slice q G d,.U x.v]) AN6 rY rfl rfl rfl rfl rfl ?_;show ∃qB:Option Nat,Hp.ld (Az B L1) ⟨X.D0,0,none⟩=some (.map qB)/\∃zn:Option Addr,∃zo:Nat,∃zp:Nat,Hp.ld (Az B L1) ⟨D8,0,none⟩=some (.slice zn zo zp)/\Spec prog 39 #[.slice zn zo zp] (Az B L1) _
 have ADr:∀{A:Hp} {R':Rr},Ext B A->X.off A->A D8=none->(∀B2,Ext A B2->X.off B2->B2 D8=none->R' (.returned (.string (Dy x.ls))) (Az B2 L1))->Spec prog 39 #[.slice q G d] (Az A L1) R':=λhx ho h9 hh=>
  Spec.IM C (Gi ho h9) (IX (bw.mono A9.mono hx) Rp λB2 Ao A7=>hh B2 Ao (AHM A7).1 (AHM A7).2)
 refine⟨some X.m,dZ (L:=L1) (i:=4) C rfl rfl,q,G,d,dZ (L:=L1) (i:=0) C rfl rfl,ADr (.refl _) RZ Adr λB2 Ao A7 h92=>⟨_,rfl,kpL (L:=L1) (i:=4) C rfl,?_⟩⟩;refine(hm _ (Dm (L:=L1) (i:=9) C rfl)).uM (z:=.I 0) (λw=>by kernel_rfl) (λCU=>⟨0,false,rfl,λ_=>?_,λhh=>(by cases hh)⟩) λv' i' hh hv=>?_
 .refine⟨w,j,e,dZ (L:=L1) (i:=3) C rfl rfl,some X.m,dZ (L:=L1) (i:=4) C rfl rfl,q,G,d,dZ (L:=L1) (i:=0) C rfl rfl,ADr Ao A7 h92 λB3 BO Cm h93=>⟨_,rfl,kpL (L:=L1) (i:=4) C rfl,?_⟩⟩;refine(hm _ (Dm (L:=L1) (i:=9) C rfl)).put (x:=j) rfl λXB hm4=>?_;have e2:(Az B3 L1).set X.m XB=Az B3 (Lo w j e XB):=QL (L:=L1) (i:=9) C rfl;obtain⟨no1,no2⟩:=ADW CU;have hm5:MO X.m XB (cK 0 ((gs++[((x.ls,(⟨none,0,0⟩:Qk)),([]:List Pt))]).map Gr.sr)):=by
   have h9:=MO.of hm4 (Hp.AA _ _ _);rw[RH no2]at h9;rw[Am7,An1,nM,Amw,hjl,Anq];exact h9
  rw[e2]
  let L2:List (Nat×Obj):=Lo w j e XB
  have hL2:(names L2).Nodup:=rY;refine⟨w,j,e,dZ (L:=L2) (i:=3) hL2 rfl rfl,q,G,d,dZ (L:=L2) (i:=0) hL2 rfl rfl,λtL h91=>?_⟩;obtain⟨n91,Ads⟩:=EE (L:=L2) h91;have h3:=Ao.trans BO;show AJ prog (Builtin.append_ #[47,47] 47 #[.slice (some ⟨tL,0,none⟩) 0 0,.slice q G d]) ((Az B3 L2).set tL (.cells #[] 71 (0,0))) _
  rw[KF n91];refine AJ.IM hL2 (Sf.set (Gi Cm h93) n91) (EF (bw.mono A9.mono h3) hm' (λp5 c5 B5 Lj qn AOM=>⟨p5,G,c5,rfl,kpL (L:=L2) (i:=3) hL2 rfl,λjn h96=>?_⟩) Ads);obtain⟨n96,Adt⟩:=EE (L:=L2) h96;have AOM:Sf L2 B5:=AOM;show AJ prog (Builtin.append_ #[23,23] 23 #[.slice w j e,.slice (some ⟨jn,0,none⟩) 1 1]) ((Az B5 L2).set jn (.cells #[.slice p5 G c5,.N] 51 (0,0))) _
  rw[KF n96];refine AJ.IM hL2 (AOM.set n96) (Gk.add (ls:=(x.ls,(⟨p5,G,c5⟩:Qk))) (hG.gk.mono h3) qn (show GL1 (B3.new B5) p5 G c5 (x.ls,⟨p5,G,c5⟩) from⟨rfl,Lj⟩) Adt (by omega) λO' p6 c6 B6 hG6 htt AHN=>⟨p6,j+1,c6,rfl,?_⟩);refine AJ.NL (L:=L2) (i:=3) (c:=#[.slice w j e]) (c':=#[.slice p6 (j+1) c6]) Xf hL2 rfl rfl rfl rfl rfl ?_;have AHN:Sf L2 B6:=AHN;have hat:(gs++[((x.ls,(⟨p5,G,c5⟩:Qk)),([]:List Pt))])[j]?=some ((x.ls,⟨p5,G,c5⟩),[]):=by rw[Ang (by omega),hjl,AoW];rfl
  have hS6:=hG.snoc hG6 htt h3 Lj;refine ADp (i:=j) rY (AHM AHN).1 (AHM AHN).2 hG6 hat (Amh _) λB7 qs7 oe hG7=>nxt _ B7 _ _ _ _ qs7 XB oe (hS6.set hat hG7) ?_ ?_ htt
  .rw[r5 (N:=(gs++[((x.ls,(⟨none,0,0⟩:Qk)),([]:List Pt))]).map Gr.sr)]
   .exact hm5
   .rw[Ao9 _ _ (by omega),hjl,AoW];simp[Gr.sr]
  .rw[Ao9 _ _ (by omega),hjl,AoW,AG1 _ no1];simp[Gr.sr]
 .subst hv;obtain⟨jj,s,hj0,h1,h2,h4⟩:=nL (t,x.v) hh;rw[Anq]at hj0;subst hj0;rw[Am8]at h1;cases hg:gs[i']? with
  | none=>rw[hg]at h1;cases h1
  | some g=>
   rw[hg]at h1;simp only[AnK,Ami]at h1;subst h1;have hgl:g.2.length<=3000000000000:=AnL (hbd.2 g.sr (AnA.2 ⟨g,Ame hg,rfl⟩)) (by decide);have e3:(gs.set i' (g.1,g.2++[(t,x.v)])).map Gr.sr=(gs.map Gr.sr).set i' ⟨x.ls,g.sr.ps++[(t,x.v)]⟩:=by rw[AqE,<-h2];rfl
   refine⟨(i':Int),true,rfl,λhh=>(by cases hh),λ_=>ADp rY A7 h92 (hG.gk.mono Ao) hg hgl λB3 qs3 Cm xT=>nxt O B3 w j e _ qs3 om Cm (eA.set ⟨hG.gk.mono Ao,hG.base,hG.w0,hG.wd⟩ hg xT) ?_ (by rw[e3,h4]) (.refl _)⟩;rw[r5 (N:=gs.map Gr.sr)]
   .exact hm
   .rw[e3,<-h2];exact ADV (M:=gs.map Gr.sr) (by rw[Am8,hg];rfl)
theorem AHO {Ml RT:Nat}{t:Int}{l:List El}{S3:Option Addr}{G0:List Sr}{N:Nat}(hn:X.nd)(Rp:∀x∈l,Ac x.ls)(Akn:l.length=Ml)(hb0:Bd G0 N)(hN:N+l.length<=2800000000000)
  (next:∀O' G w' j' e' cZ cY XB,X.off G->eA Z O' G w' j' e' cZ cY->MO X.m XB (cK 0 (cZ.map Gr.sr))->cZ.map Gr.sr=cL G0 t l->Ext O O'->R (.B true) (Az G (X.L w' j' e' XB 0 (lp X.r0 .ready none)))) :
  ∀(g i:Nat) (C B:Hp) (w:Option Addr) (j e:Nat) (gs:List Gr) (qs:List (Option Addr×Nat)) (om:Obj),l.length-i=g->i<=l.length->X.off B->eA Z C B w j e gs qs->MO X.m om (cK 0 (gs.map Gr.sr))->gs.map Gr.sr=cL G0 t (l.take i)->Ext O C->AT 2 Ad C S3 Ml l->
   CC.U4 R X.l X.r0 X.D0 X.DL t S3 Ml RT (Ml:Int) (i:Int) (Az B (X.L w j e om 0 (lp X.r0 .busy none))):=by
 intro g
 induction g with
 | zero=>
  intro i C B w j e gs qs om hg hi RZ hG hm yY hx hr;have hL:(names (X.L w j e om 0 (lp X.r0 .busy none))).Nodup:=hn;rw[Amj (by omega)]at yY;refine CC.M0 ⟨λhh=>by omega,λ_=>⟨Dm (i:=0) hL rfl,?_⟩⟩;have e1:(Az B (X.L w j e om 0 (lp X.r0 .busy none))).set X.l (.loop (lp X.r0 .ready none))=Az B (X.L w j e om 0 (lp X.r0 .ready none)):=Hp.set_set;rw[e1];exact next C B w j e gs qs om RZ hG hm yY hx
 | succ g ih=>
  intro i C B w j e gs qs om hg hi RZ hG hm yY hx hr;obtain⟨x,A⟩:=hr.ex (k:=i) (by omega);refine AOL hn RZ hG hm hr A (Rp x (Ame A)) (by rw[yY];exact(r6 hb0).le (by rw[Amp];omega)) (by omega) λO' G w' j' e' cZ cY XB h1 h2 h3 h4 h5=>ih (i+1) O' G w' j' e' cZ cY XB (by omega) (by omega) h1 h2 h3 ?_ (hx.trans h5) (hr.mono Ad.mono h5);rw[h4,yY,AQ A];unfold cL;rw[AoX];rfl
theorem AON {T:List Nd}{ss:List Sr}{t kf:Int}{N:Nat}(hn:X.nd)(RZ:X.off B)(C:eA Z O B w j e gs qs)(hm:MO X.m om (cK 0 (gs.map Gr.sr)))(hg:Gl Z)(hr:AT 10 IQ Z X.p X.n T)(hs:AT 2 Cd Z X.q X.k ss)(hS:mi ss)(hn4:X.n<=4096)(xg:ss.length<=1048576)(ht:Fi t)(BP:DS T []=some [kf])(hb:Bd (gs.map Gr.sr) N)(hN:N<=2700000000000)
  (next:∀l O' A w' j' e' cZ cY XB,A3 FF T ss t=some l->X.off A->eA Z O' A w' j' e' cZ cY->MO X.m XB (cK 0 (cZ.map Gr.sr))->cZ.map Gr.sr=cL (gs.map Gr.sr) t l->Ext O O'->R (.B true) (Az A (X.L w' j' e' XB 0 (lp X.r0 .ready none))))
  (stop:∀A,A3 FF T ss t=none->X.off A->Ext O A->R (.B false) (Az A (X.L w j e om 223 (lp X.r0 .done (some .ret))))) :
  CC.GL R X.l X.r0 X.b5 X.b6 X.E2 X.Bu X.D0 X.DL t (Az B (X.L w j e om 0 (lp X.r0 .ready none))):=by
 have G:(names (X.L w j e om 0 (lp X.r0 .busy none))).Nodup:=hn;have hL':(names (X.L w j e om 0 (lp X.r0 .ready none))).Nodup:=hn;have el:(Az B (X.L w j e om 0 (lp X.r0 .ready none))).set X.l (.loop (lp X.r0 .busy none))=Az B (X.L w j e om 0 (lp X.r0 .busy none)):=Hp.set_set;have hTl:T.length=X.n:=hr.1;obtain⟨ht1,ht2⟩:=ht;refine CC.Ih ⟨Dm (i:=0) hL' rfl,?_⟩;rw[el];refine⟨X.p,X.n,X.c,dZ (i:=7) G rfl rfl,X.q,X.k,X.d,dZ (i:=6) G rfl rfl,?_⟩;refine Spec.IM G RZ (Spec.ANH (N:=O) (M:=B.minus O) C.gk.ext (Ext.AB8 _ _) (Dis.minus _ _) (Wb (hg.mono C.base) (hr.mono IQ.mono C.base) (hs.mono Cd.mono C.base) hS (by omega) (by omega) BP (λl p' n' c' Z1 dE Bc bw AXb Gi=>?_) λdE Z1 Bc AXb Gi=>?_))
 .obtain⟨mo1,mo2⟩:=Jv hS BP dE;have hll:l.length=n':=bw.1;have hlb:l.length<=4294967297:=by
   have:=AoS (show T.length<=4096 by omega) xg;omega
  refine⟨_,_,_,_,rfl,λhh=>absurd rfl hh,λ_=>?_⟩;have hG1:eA Z Z1 (Z1.or (B.minus O)) w j e gs qs:=⟨C.gk.more Bc AXb,C.base.trans Bc,C.w0,C.wd⟩;exact AHO (O:=Z1) hn mo1 hll hb (by omega) (λO' A w' j' e' cZ cY XB h1 h2 h3 h4 h5=>next l O' A w' j' e' cZ cY XB dE h1 h2 h3 h4 (Bc.trans h5)) l.length 0 Z1 _ w j e gs qs om rfl (Amh _) Gi hG1 hm rfl (.refl _) bw
 .refine⟨_,_,_,_,rfl,λ_=>?_,λhh=>absurd (by decide) hh⟩;have Gi:X.off (Z1.or (B.minus O)):=Gi;refine AJ.NL (L:=X.L w j e om 0 (lp X.r0 .busy none)) (i:=5) (c:=#[.N]) (c':=#[.N]) Xf G rfl rfl rfl rfl rfl ?_;refine AJ.NL (L:=X.L w j e om 0 (lp X.r0 .busy none)) (i:=4) (c:=#[.I 0]) (c':=#[.I 223]) jO G rfl rfl rfl rfl rfl ?_;refine⟨Dm (L:=X.L w j e om 223 (lp X.r0 .busy none)) (i:=0) G rfl,?_⟩;have e1:(Az (Z1.or (B.minus O)) (X.L w j e om 223 (lp X.r0 .busy none))).set X.l (.loop (lp X.r0 .done (some .ret)))=Az (Z1.or (B.minus O)) (X.L w j e om 223 (lp X.r0 .done (some .ret))):=Hp.set_set;exact e1▸stop _ dE Gi (Bc.trans (Ext.mA _ _))
end
section
variable {Z:Hp}{R:Rr}
theorem AHP {T:List Nd}{ss:List Sr}(h:EH T ss=0):∃k,Jm T=some k/\k≠3/\DJ none ss=true:=by
 unfold EH at h;cases C:Jm T with
 | none=>rw[C]at h;dsimp only at h;exact absurd h (by decide)
 | some k=>
  rw[C]at h;dsimp only at h;by_cases A:k=3
  .rw[Amc A]at h;exact absurd h (by decide)
  .rw[Amb A]at h;cases G:DJ none ss with
   | true=>exact⟨k,rfl,A,rfl⟩
   | false=>rw[G]at h;exact absurd h (by decide)
structure Stp (a b s:Int)(K:Nat):Prop where
 lo:Fi a
 hi:Fi b
 le:a<=b
 st:1<=s
 k:(K:Int)=(b-a)/s
theorem Stp.at {a b s:Int}{K:Nat}(h:Stp a b s K){j:Nat}:j<=K↔a+j*s<=b:=by
 have e:=Int.le_ediv_iff_mul_le (a:=(j:Int)) (b:=b-a) (show 0<s from h.st);rw[<-h.k]at e
 constructor
 .intro A;have:=e.1 (by omega);omega
 .intro A;have:=e.2 (by omega);omega
theorem Stp.time {a b s:Int}{K:Nat}(h:Stp a b s K){j:Nat}(A:j<=K):Fi (a+j*s)/\a<=a+j*s:=by
 have C:=h.at.1 A;have G:0<=(j:Int)*s:=Int.mul_nonneg (by omega) (by have:=h.st;omega);obtain⟨h3,h4⟩:=h.lo;obtain⟨h5,h6⟩:=h.hi;exact⟨⟨by omega,by omega⟩,by omega⟩
theorem Stp.of {a b s:Int}(h:Fi a/\Fi b/\a<=b/\1<=s):Stp a b s ((b-a)/s).toNat:=by
 obtain⟨A,C,G,h4⟩:=h;exact⟨A,C,G,h4,Int.toNat_of_nonneg (Int.ediv_nonneg (by omega) (by omega))⟩
theorem Stp.wrap {a b s:Int}{K:Nat}(h:Stp a b s K):AF (b-a)/\s≠0/\IntKind.i64.wrap (Int.tdiv (b-a) s)=K:=by
 obtain⟨C,G⟩:=h.lo;obtain⟨h5,h6⟩:=h.hi;have h7:=h.le;have h8:=h.st;have h9:(b-a)/s<=b-a:=Int.ediv_le_self _ (by omega);have A:=h.k;refine⟨by unfold AF;omega,by omega,?_⟩;rw[Int.tdiv_eq_ediv_of_nonneg (by omega),<-A];exact AF.wrap (by unfold AF;omega)
theorem xx {Z0:Hp}{b1 b2 b3 l K:Nat}{a b s:Int}{I:Nat->Hp->Prop}(G:Stp a b s K)(h0:I 0 Z0)(hI:∀j Z,I j Z->Hp.ld Z ⟨b1,0,none⟩=some (.I a)/\Hp.ld Z ⟨b2,0,none⟩=some (.I s)/\Hp.ld Z ⟨b3,0,none⟩=some (.I b))
  (st:∀(j:Nat) Z,j<=K->I j Z->N6 prog l #[.I (a+j*s)] Z (λe Z'=>(e=.B true/\I (j+1) Z')\/(e=.B false/\R (.T #[]) Z'))) (yz:∀Z,I (K+1) Z->R (.T #[]) Z) :
  Spec prog 55 #[.func (.yield l) #[] #[],.pointer (aD b1 0),.pointer (aD b2 0),.pointer (aD b3 0)] Z0 R:=by
 obtain⟨t1,t2⟩:=G.hi;have H:∀(g j:Nat) (Z:Hp),K-j=g->j<=K->I j Z->DO.pt6 R (.func (.yield l) #[] #[]) b2 b3 (a+j*s) Z:=by
  intro g
  induction g with
  | zero=>
   intro j Z hg hj hi;obtain⟨⟨u1,u2⟩,u3⟩:=G.time hj;refine DO.U3 ⟨l,rfl,(st j Z hj hi).mono λe Z1 he=>?_⟩;rcases he with ⟨rfl,A⟩|⟨rfl,hR⟩
   .obtain⟨c1,c2,c3⟩:=hI _ Z1 A;refine⟨true,rfl,λ_=>⟨s,c2,b,c3,by unfold AF;omega,λhle=>?_,λ_=>?_⟩,λC=>absurd C (by decide)⟩
    .have:j+1<=K:=G.at.2 (by rw[AqN,Int.add_mul];omega);omega
    .rw[show j=K by omega]at A;exact yz Z1 A
   .exact⟨false,rfl,λC=>absurd C (by decide),λ_=>hR⟩
  | succ g ih=>
   intro j Z hg hj hi;obtain⟨⟨u1,u2⟩,u3⟩:=G.time hj;have eH:j+1<=K:=by omega
   obtain⟨⟨v1,v2⟩,v3⟩:=G.time eH;have e1:a+((j+1:Nat):Int)*s=a+j*s+s:=by rw[AqN,Int.add_mul];omega
   refine DO.U3 ⟨l,rfl,(st j Z hj hi).mono λe Z1 he=>?_⟩;rcases he with ⟨rfl,A⟩|⟨rfl,hR⟩
   .obtain⟨c1,c2,c3⟩:=hI _ Z1 A;have hb:=G.at.1 eH;refine⟨true,rfl,λ_=>⟨s,c2,b,c3,by unfold AF;omega,λhle=>⟨s,c2,by unfold AF;omega,?_⟩,λhn=>absurd (by omega) hn⟩,λC=>absurd C (by decide)⟩;have:=ih (j+1) Z1 (by omega) eH A;rw[e1]at this;exact this
   .exact⟨false,rfl,λC=>absurd C (by decide),λ_=>hR⟩
 obtain⟨a1,_,_⟩:=hI 0 Z0 h0;have:=H K 0 Z0 rfl (Amh _) h0;rw[show a+((0:Nat):Int)*s=a by simp]at this;exact DO.start ⟨a,a1,this⟩
theorem We {p q:Option Addr}{n c m d:Nat}{T:List Nd}{ss:List Sr}{a b s:Int}(hg:Gl Z)(hr:AT 10 IQ Z p n T)(hs:AT 2 Cd Z q m ss)(hM:Modest T ss)(xg:ss.length<=1048576)
  (h:∀p' n' c' Z' M rows,Jn T ss a b s=(0,M)->sH Z Z' p' n' c' M rows->R (.T #[.slice p' n' c',.I 0]) Z') (h':∀e Z',Jn T ss a b s=(e,[])->e≠0->Ext Z Z'->R (.T #[.N,.I e]) Z') :
  Spec prog 16 #[.slice p n c,.slice q m d,.I a,.I b,.I s] Z R:=by
 refine CC.start λb5 hb5 b6 hb6 E2 Adu Bu b0=>?_
 let L1:List (Nat×Obj):=[(b5,.cells #[.slice p n c] 22 (0,0))]
 let L2:List (Nat×Obj):=(b6,.cells #[.slice q m d] 23 (0,0))::L1
 let L3:List (Nat×Obj):=(E2,.cells #[.N] 23 (0,0))::L2
 let L4:List (Nat×Obj):=(Bu,.cells #[.I 0] 24 (0,0))::L3
 obtain⟨n6,h6⟩:=EE (L:=L1) hb6;obtain⟨n10,W0⟩:=EE (L:=L2) Adu;obtain⟨n11,Iq⟩:=EE (L:=L3) b0;have A:(names L4).Nodup:=AnY.2 ⟨n11,AnY.2 ⟨n10,AnY.2 ⟨n6,by simp[L1,names]⟩⟩⟩;have FE:Sf L4 Z:=λb hb=>by
  simp only[L4,L3,L2,L1,names,AnT,Apu,Aml,AnF,Anp]at hb;rcases hb with rfl|rfl|rfl|rfl
  .exact Iq
  .exact W0
  .exact h6
  .exact hb5
 have ret:∀(e:Int) (Z1:Hp),Sf L4 Z1->Ext Z Z1->Jn T ss a b s=(e,[])->e≠0->AJ prog (Instr.storeAt 23 (.pointer (some ⟨E2,0,none⟩)) (.N)) (Az Z1 L4) (λ_ Z2=>AJ prog (Instr.storeAt 24 (.pointer (some ⟨Bu,0,none⟩)) (.I e)) Z2 (λ_ Z3=>∃Dq:Option Addr,∃Dt:Nat,∃Du:Nat,∃Dx:Int,Hp.ld Z3 ⟨E2,0,none⟩=some (.slice Dq Dt Du)/\Hp.ld Z3 ⟨Bu,0,none⟩=some (.I Dx)/\R (.T #[.slice Dq Dt Du,.I Dx]) Z3)):=λe Z1 RZ C he Ai=>by
  refine AJ.NL (L:=L4) (i:=1) (c:=#[.N]) (c':=#[.N]) Xf A rfl rfl rfl rfl rfl ?_;refine AJ.NL (L:=L4) (i:=0) (c:=#[.I 0]) (c':=#[.I e]) jO A rfl rfl rfl rfl rfl ?_
  let L9:List (Nat×Obj):=(Bu,.cells #[.I e] 24 (0,0))::L3
  exact⟨none,0,0,e,dZ (L:=L9) (i:=1) A rfl rfl,dZ (L:=L9) (i:=0) A rfl rfl,h' e _ he Ai (C.trans (Sf.ext (L:=L9) A RZ))⟩
 refine⟨p,n,c,dZ (L:=L4) (i:=3) A rfl rfl,q,m,d,dZ (L:=L4) (i:=2) A rfl rfl,?_⟩;show Spec prog 25 #[.slice p n c,.slice q m d] (Az Z L4) _
 have bad:EH T ss=0->¬(Fi a/\Fi b/\a<=b/\1<=s)->Jn T ss a b s=(221,[]):=λh0 hh=>by unfold Jn;rw[Amb (by rw[h0];decide),Amc hh]
 refine Spec.IM A FE (fx hr hs hM λZ1 Bc Gi=>⟨_,rfl,λAi=>ret _ Z1 Gi Bc (by unfold Jn;rw[Amc Ai]) Ai,λh0=>Vd ⟨_,rfl,λhf=>ret _ Z1 Gi Bc (bad (Amy.1 h0) λhh=>Am4 hf hh.1) (by decide),λht1=>Vd ⟨_,rfl,λhf=>ret _ Z1 Gi Bc (bad (Amy.1 h0) λhh=>Am4 hf hh.2.1) (by decide),λht2=>⟨λAv=>ret _ Z1 Gi Bc (bad (Amy.1 h0) λhh=>by have:=hh.2.2.1;omega) (by decide),λhle=>⟨λHv=>ret _ Z1 Gi Bc (bad (Amy.1 h0) λhh=>by have:=hh.2.2.2;omega) (by decide),λHv=>?_⟩⟩⟩⟩⟩);have h0:=Amy.1 h0;have DZ:Fi a/\Fi b/\a<=b/\1<=s:=⟨Amg ht1,Amg ht2,by omega,by omega⟩;have hS:=Stp.of DZ;generalize hK:((b-a)/s).toNat=K at hS;obtain⟨w1,w2,w3⟩:=hS.wrap;have hkk:=hS.k;refine⟨w1,w2,λUU e49=>?_⟩;rw[w3]at e49;subst e49;refine⟨λAv=>ret _ Z1 Gi Bc (by unfold Jn;rw[Amb (by rw[h0];decide),Amb (by rw[Amy];exact DZ),Amc (by omega)]) (by decide),λAv=>?_⟩;have hK5:K<512:=by omega
 have hF:Jn T ss a b s=match JQ T ss a s (K+1) with
   | none=>(223,[])
   | some x=>(0,x.2):=by
  unfold Jn;rw[Amb (by rw[h0];decide),Amb (by rw[Amy];exact DZ),Amb (by omega),hK];rfl
 obtain⟨k,hk,hk3,AK1⟩:=AHP h0;have hSG:=mi.of hM AK1;obtain⟨BP,hlen⟩:=Qe hk;have hTl:T.length=n:=hr.1;have Gi:Sf L4 Z1:=Gi;refine AJ.IM A Gi (HD λmm hmm ADu=>⟨mm,rfl,?_⟩);have ADu:Sf L4 (Z1.set mm (.map #[] 0)):=ADu
 let Lm:List (Nat×Obj):=[(Bu,.cells #[.I 0] 24 (0,0)),(E2,.cells #[.N] 23 (0,0)),(b6,.cells #[.slice q m d] 23 (0,0)),(b5,.cells #[.slice p n c] 22 (0,0)),(mm,.map #[] 0)]
 have Adv:∀b∈names L4,b≠mm:=λb hb e=>by
  have:=ADu b hb;rw[e,Hp.AA]at this;cases this
 have qz:(names Lm).Nodup:=by
  have:names Lm=names L4++[mm]:=rfl;rw[this];exact Ao4.2 ⟨A,by simp,λx C y hy e=>by rw[Amo]at hy;exact Adv x C (e.trans hy)⟩
 have hom:Sf Lm Z1:=λx C=>by
  have:names Lm=names L4++[mm]:=rfl;rw[this]at C;rcases Am6.1 C with C|C
  .exact Gi x C
  .rw[Amo]at C;subst C;exact hmm
 intro D0 AOO;have AOO:(Az Z1 Lm) D0=none:=AOO;obtain⟨n13,h13⟩:=EE (L:=Lm) AOO
 let L5:List (Nat×Obj):=(D0,.cells #[.map none] 78 (0,0))::Lm
 let L5':List (Nat×Obj):=(D0,.cells #[.map (some mm)] 78 (0,0))::Lm
 have hn5:(names L5').Nodup:=AnY.2 ⟨n13,qz⟩;show AJ prog (Instr.storeAt 78 (.pointer (some ⟨D0,0,none⟩)) (.map (some mm))) (Az Z1 L5) _
 refine AJ.NL (L:=L5) (i:=0) (c:=#[.map none]) (c':=#[.map (some mm)]) (λw=>by kernel_rfl) (AnY.2 ⟨n13,qz⟩) rfl rfl rfl rfl rfl λDL Adx=>?_;obtain⟨n14,h14⟩:=EE (L:=L5') Adx
 let L6:List (Nat×Obj):=(DL,.cells #[.N] 23 (0,0))::L5'
 have hn6:(names L6).Nodup:=AnY.2 ⟨n14,hn5⟩;have ho6:Sf L6 Z1:=λb hb=>by
  rcases Aml.1 hb with rfl|hb
  .exact h14
  rcases Aml.1 hb with rfl|hb
  .exact h13
  exact hom b hb
 show Spec prog 38 #[.I a,.I b,.I s] (Az Z1 L6) _
 refine Spec.IM hn6 ho6 (Te.start λc3 hc3 c4 hc4 c5 hc5 ADv=>⟨_,_,_,rfl,_,_,rfl,DO.en,λD l r0 vi hD hl hy=>?_⟩);have ADv:Sf L6 (((Z1.set c3 (.cells #[.I a] 2 (0,0))).set c4 (.cells #[.I b] 2 (0,0))).set c5 (.cells #[.I s] 2 (0,0))):=ADv;have x3:=Ext.set (o:=.cells #[.I a] 2 (0,0)) hc3;have x4:=Ext.set (o:=.cells #[.I b] 2 (0,0)) hc4;have x5:=Ext.set (o:=.cells #[.I s] 2 (0,0)) hc5;have g3:=(x4.trans x5) c3 _ (Hp.AA _ _ _);have g4:=x5 c4 _ (Hp.AA _ _ _);have g5:(((Z1.set c3 (.cells #[.I a] 2 (0,0))).set c4 (.cells #[.I b] 2 (0,0))).set c5 (.cells #[.I s] 2 (0,0))) c5=some (.cells #[.I s] 2 (0,0)):=Hp.AA _ _ _;have hxB:=Bc.trans (x3.trans (x4.trans x5));generalize hB0:(((Z1.set c3 (.cells #[.I a] 2 (0,0))).set c4 (.cells #[.I b] 2 (0,0))).set c5 (.cells #[.I s] 2 (0,0)))=B0 at *;clear x3 x4 x5 hc3 hc4 hc5;obtain⟨nD,hDB⟩:=EE (L:=L6) hD;obtain⟨nl,hlB⟩:=EE (L:=L6) hl
 let X:Bx9:=⟨b5,b6,E2,Bu,D0,DL,D,l,mm,p,n,c,q,m,d,r0⟩
 have G:X.nd:=AnY.2 ⟨λhm=>by
  rcases Aml.1 hm with e|hm
  .exact vi e.symm
  .exact nl hm,AnY.2 ⟨nD,hn6⟩⟩
 have hoX:X.off B0:=λb hb=>by
  rcases Aml.1 hb with rfl|hb
  .exact hlB
  rcases Aml.1 hb with rfl|hb
  .exact hDB
  exact ADv b hb
 show Spec prog 55 #[.func (.yield l) #[] #[],.pointer (aD c3 0),.pointer (aD c5 0),.pointer (aD c4 0)] (Az B0 (X.L none 0 0 (.map #[] 0) 0 (lp X.r0 .ready none))) _
 have eL:∀{B w i e om x lo} lo',(Az B (X.L w i e om x lo)).set X.l (.loop lo')=Az B (X.L w i e om x lo'):=fun {B w i e om x lo} lo'=>Hp.set_set;have Adz:∀{B w i e om x lo},X.off B->Ext B (Az B (X.L w i e om x lo)):=fun {B w i e om x lo} ho=>Sf.ext (L:=X.L w i e om x lo) G ho;have AHQ:∀{j:Nat} {x:List Sr×List Sr},j<=K+1->JQ T ss a s j=some x->_:=fun {j x} hj C=>r8 (x:=x) hM h0 hlen xg BP hSG DZ.2.2.2 (λi hi=>(hS.time (j:=i) (by omega)).1) C;refine xx (K:=K) (I:=λj Z'=>∃O B w i e gs qs om x,Z'=Az B (X.L w i e om 0 (lp X.r0 .ready none))/\X.off B/\eA Z O B w i e gs qs/\Ext B0 O/\MO X.m om (cK 0 (gs.map Gr.sr))/\JQ T ss a s j=some x/\x.1=gs.map Gr.sr) hS
  ⟨B0,B0,none,0,0,[],[],.map #[] 0,([],[]),rfl,hoX,⟨Gk.nil (.refl _),hxB,λg hg=>(by cases hg),.nil⟩,.refl _,MO.of (B:=Z1.set mm (.map #[] 0)) MS.fresh (Hp.AA _ _ _),rfl,rfl⟩ ?_ ?_ ?_
 .rintro j _ ⟨O,B,w,i,e,gs,qs,om,x,rfl,hoB,hG,jz,_,_,_⟩
  have C:=jz.trans (hG.gk.ext.trans (Adz (w:=w) (i:=i) (e:=e) (om:=om) (x:=0) (lo:=lp X.r0 .ready none) hoB));exact⟨Ak (C _ _ g3) rfl,Ak (C _ _ g5) rfl,Ak (C _ _ g4) rfl⟩
 .rintro j _ hj ⟨O,B,w,i,e,gs,qs,om,x,rfl,hoB,hG,jz,dE,US,ng⟩
  obtain⟨_,hbd,_⟩:=AHQ (by omega) US;refine hy _ _ (a+j*s) (Dm (L:=X.L w i e om 0 (lp X.r0 .ready none)) (i:=0) G rfl) ?_;refine AON (X:=X) (T:=T) (ss:=ss) G hoB hG dE hg hr hs hSG (show n<=4096 by omega) xg (hS.time hj).1 BP (N:=j*4294967297) (by rw[<-ng];exact hbd) (by omega) (λl O' B' w' i' e' cZ cY XB AOR Mk hG' Ad0 Ad1 Ad2=>.inl ⟨rfl,O',B',w',i',e',cZ,cY,XB,_,rfl,Mk,hG',jz.trans Ad2,Ad0,by rw[JQ,US];show Option.map _ (A3 FF T ss (a+j*s))=_;rw[AOR];rfl,by rw[Ad1,<-ng]⟩) λB' AOR Mk Ad3=>.inr ⟨rfl,?_⟩;have CU:JQ T ss a s (K+1)=none:=cM (n:=j+1) (by rw[JQ,US];show Option.map _ (A3 FF T ss (a+j*s))=_;rw[AOR];rfl) (by omega);have hX1:(names (X.L w i e om 223 (lp X.r0 .exhausted (some .ret)))).Nodup:=G;refine⟨_,.done,some .ret,rfl,Dm (L:=X.L w i e om 223 (lp X.r0 .done (some .ret))) (i:=0) G rfl,by decide,.inr ⟨rfl,?_⟩⟩;rw[eL]
  let L8:List (Nat×Obj):=(X.L w i e om 223 (lp X.r0 .exhausted (some .ret))).set 1 (X.D,.deferred none)
  show ∃Dq:Option Addr,∃Dt:Nat,∃Du:Nat,∃Dx:Int,Az B' (X.L w i e om 223 (lp X.r0 .exhausted (some .ret))) D=some (.deferred (some []))/\Hp.ld ((Az B' (X.L w i e om 223 (lp X.r0 .exhausted (some .ret)))).set D (.deferred none)) ⟨E2,0,none⟩=some (.slice Dq Dt Du)/\Hp.ld ((Az B' (X.L w i e om 223 (lp X.r0 .exhausted (some .ret)))).set D (.deferred none)) ⟨Bu,0,none⟩=some (.I Dx)/\R (.T #[.slice Dq Dt Du,.I Dx]) ((Az B' (X.L w i e om 223 (lp X.r0 .exhausted (some .ret)))).set D (.deferred none))
  rw[show(Az B' (X.L w i e om 223 (lp X.r0 .exhausted (some .ret)))).set D (.deferred none)=Az B' L8 from QL (L:=X.L w i e om 223 (lp X.r0 .exhausted (some .ret))) (i:=1) hX1 rfl];exact⟨none,0,0,223,Dm (L:=X.L w i e om 223 (lp X.r0 .exhausted (some .ret))) (i:=1) hX1 rfl,dZ (L:=L8) (i:=5) G rfl rfl,dZ (L:=L8) (i:=4) G rfl rfl,h' 223 _ (by rw[hF,CU]) (by decide) ((hG.base.trans Ad3).trans (Sf.ext (L:=L8) G Mk))⟩
 .rintro _ ⟨O,B,w,i,e,gs,qs,om,x,rfl,hoB,hG,jz,dE,US,ng⟩
  obtain⟨hiv,hbd,hbl⟩:=AHQ (Amr _) US;have hXe:(names (X.L w i e om 0 (lp X.r0 .exhausted none))).Nodup:=G;have hgl:=hG.gk.dz;have hbg:=hbd.1;rw[ng,Amw]at hbg;have hlb:∀g∈gs,g.1.1.length<=100000000/\g.2.length<=100000000:=λg hgm=>by
   have hm:g.sr∈x.1:=by rw[ng];exact AnA.2 ⟨g,hgm,rfl⟩
   have h1:Fj x.2 g.sr.ls=some g.sr.ps:=by rw[<-hiv.lk];exact ui hiv.key hm
   have h2:=Qj h1;have h3:=(Ac.of (Fh hiv.ok _ h2).1).1;have h4:=(hiv.tm _ h2).2;have h3:g.1.1.length<=_:=h3;have h4:g.2.length<=_:=h4;exact⟨by omega,by omega⟩
  refine⟨_,.ready,none,rfl,Dm (L:=X.L w i e om 0 (lp X.r0 .ready none)) (i:=0) G rfl,by decide,.inl ⟨rfl,?_⟩⟩;rw[eL];refine⟨w,i,e,dZ (L:=X.L w i e om 0 (lp X.r0 .exhausted none)) (i:=2) hXe rfl rfl,?_⟩;refine Spec.IM hXe hoB (sI hG hlb (by omega) λB1 rows S hA ACi mC AXd=>⟨rfl,?_⟩);have hSM:S=x.2:=hiv.sorted (by rw[ng];exact ACi) mC;refine⟨w,i,e,dZ (L:=X.L w i e om 0 (lp X.r0 .exhausted none)) (i:=2) hXe rfl rfl,?_⟩;refine AJ.NL (L:=X.L w i e om 0 (lp X.r0 .exhausted none)) (i:=5) (c:=#[.N]) (c':=#[.slice w i e]) Xf hXe rfl rfl rfl rfl rfl ?_
  let L7:List (Nat×Obj):=(X.L w i e om 0 (lp X.r0 .exhausted none)).set 5 (X.E2,.cells #[.slice w i e] 23 (0,0))
  let L8:List (Nat×Obj):=L7.set 1 (X.D,.deferred none)
  refine AJ.NL (L:=L7) (i:=4) (c:=#[.I 0]) (c':=#[.I 0]) jO G rfl rfl rfl rfl rfl ?_;show ∃Dq:Option Addr,∃Dt:Nat,∃Du:Nat,∃Dx:Int,Az B1 L7 D=some (.deferred (some []))/\Hp.ld ((Az B1 L7).set D (.deferred none)) ⟨E2,0,none⟩=some (.slice Dq Dt Du)/\Hp.ld ((Az B1 L7).set D (.deferred none)) ⟨Bu,0,none⟩=some (.I Dx)/\R (.T #[.slice Dq Dt Du,.I Dx]) ((Az B1 L7).set D (.deferred none))
  rw[show(Az B1 L7).set D (.deferred none)=Az B1 L8 from QL (L:=L7) (i:=1) G rfl];have AXe:Sf L8 B1:=AXd;exact⟨w,i,e,0,Dm (L:=L7) (i:=1) G rfl,dZ (L:=L8) (i:=5) G rfl rfl,dZ (L:=L8) (i:=4) G rfl rfl,h w i e _ x.2 rows (by rw[hF,US]) (hSM▸hA.mono (Sf.ext (L:=L8) G AXe))⟩
end
theorem vB {ls:List Lb}{v:Int}:∀{gs:List Rg} {i:Nat} {g:Rg},(∀j x,j<i->gs[j]?=some x->x.ls≠ls)->gs[i]?=some g->g.ls=ls->EO ls v gs=gs.set i ⟨g.ls,g.vs++[v]⟩
 | [],i,g,_,A,_=>by simp at A
 | x::gs,0,g,_,A,C=>by
  cases A;unfold EO;rw[Amc (by rw[C])];rfl
 | x::gs,i+1,g,h,A,C=>by
  unfold EO;rw[Amb (λe=>h 0 x (Nat.succ_pos _) rfl (Qi e)),vB (λj y hj G=>h (j+1) y (by omega) G) A C];rfl
theorem vC {ls:List Lb}{v:Int}:∀{gs:List Rg},(∀g∈gs,g.vs≠[])->∀g∈EO ls v gs,g.vs≠[]
 | [],_,g,A=>by rw[Amo.1 A];simp
 | x::gs,h,g,A=>by
  unfold EO at A;split at A
  .rcases Aml.1 A with rfl|A
   .simp
   .exact h g (Amk _ A)
  .rcases Aml.1 A with rfl|A
   .exact h _ (Amu ..)
   .exact vC (λy C=>h y (Amk _ C)) g A
theorem gK {ls:List Lb}{v:Int}:∀{gs:List Rg},(EO ls v gs).length<=gs.length+1/\∀g∈EO ls v gs,∀M:Nat,(∀x∈gs,x.vs.length<=M)->g.vs.length<=M+1
 | []=>⟨Amr _,λg A M _=>by rw[Amo.1 A];show 1<=M+1;omega⟩
 | x::gs=>by
  obtain⟨h1,G⟩:=gK (ls:=ls) (v:=v) (gs:=gs);unfold EO;split
  .refine⟨by simp,λg A M C=>?_⟩;rcases Aml.1 A with rfl|A
   .show(x.vs++[v]).length<=_
    rw[Amv,AnW];have:=C x (Amu ..);omega
   .have:=C g (Amk _ A);omega
  .refine⟨by simp only[AnN];omega,λg A M C=>?_⟩;rcases Aml.1 A with rfl|A
   .have:=C _ (Amu ..);omega
   .exact G g A M λy hy=>C y (Amk _ hy)
abbrev AHR:List Value->Int->Prop:=λvs x=>vs=[.U x]
abbrev gP (g:Rg):Gl9 Int:=(g.ls,g.vs)
section
variable {Z:Hp}{R:Rr}
theorem xy {n:Nd}{a e:Option Addr}{k1 c1 k2 c2:Nat}{x:S8}{pc pe:Option Addr}{C cc ne ce:Nat}(hz:∀w,(Go.sizeOf 163).run prog w=.ok 1 w)(h1:AT 2 Ad Z pc C x.es)(KS:1<=n.op/\n.op<=5)(hgr:n.Be=0\/n.Be=1\/n.Be=2)(hs:HP 1 Z e k2 (n.names.map .string))(hm:k2<=4611686018427387904)(Rp:∀y∈x.es,Ac y.ls)(hlen:x.es.length<=100000000000)
  (h:sE R Z ⟨2,0,NQ FF n ⟨2,0,x.es,[]⟩,0,[]⟩):Spec prog 70 #[Ka n a k1 c1 e k2 c2,cR x.kind x.v pc C cc x.w pe ne ce] Z R:=by
 have Rn:x.es.length=C:=h1.1;have egr:∀ls,(if n.Be=1\/n.Be=3 then Tx n.names ls else if n.Be=2\/n.Be=4 then Bg (SB n.names ls) else[])=Bz n ls:=λls=>by
  unfold Bz;rcases hgr with e|e|e<;>simp[e]
 refine CG.start λ_ _ _=>?_;have second:∀(O Z1:Hp) (p5:Option Addr) (n5 c5:Nat) (G:List Rg) (qs:List (Option Addr×Nat)),Ext Z Z1->Gc 1 AHR O Z1 p5 n5 c5 (G.map gP) qs->(∀g∈G,g.vs≠[])->G.length<=100000000000->NQ FF n ⟨2,0,x.es,[]⟩=(G.map λg=>⟨g.ls,foldI n.op g.vs⟩)->
   CG.AAK R n.kind n.op n.text a k1 c1 n.width n.back n.Be e k2 c2 n.bool n.parts 0 0 none 0 0 0 none 0 0 p5 n5 c5 2 0 none 0 0 0 none 0 0 0 Z1:=by
  intro O Z1 p5 n5 c5 G qs Bc hG Ai hGl Ad5;rw[Ad5]at h;have hGn:G.length=n5:=by have:=hG.dz;rwa[Amw]at this
  suffices H:∀g i:Nat,∀p9 n9 c9 A,n5-i=g->i<=n5->AL 2 Ad Z1 A p9 n9 c9 ((G.take i).map λg=>(⟨g.ls,foldI n.op g.vs⟩:El))->CG.AAK R n.kind n.op n.text a k1 c1 n.width n.back n.Be e k2 c2 n.bool n.parts 0 0 none 0 0 0 none 0 0 p5 n5 c5 2 0 p9 n9 c9 0 none 0 0 (i:Int) A from H n5 0 none 0 0 Z1 rfl (Amh _) (AL.nil (.refl _))
  intro g
  induction g with
  | zero=>
   intro i p9 n9 c9 A hg hi ho;rw[Amj (by omega)]at ho;exact CG.tX ⟨λhh=>by omega,λ_=>h A p9 n9 c9 none 0 0 (Bc.trans ho.up) (ho.rd Ad.mono) AT.nil (by obtain⟨cs,KI,_⟩:=ho.1.2;exact Aw.cap KI)⟩
  | succ g ih=>
   intro i p9 n9 c9 A hg hi ho;have BT:i<n5:=by omega
   obtain⟨y,hy⟩:∃y,G[i]?=some y:=⟨_,Amf (by omega)⟩;have hyg:(G.map gP)[i]?=some (gP y):=by rw[Am8,hy];rfl
   obtain⟨b,o,q,pl,nl,cl,rfl,hq,CH,Eg⟩:=hG.at hyg;obtain⟨oY,hv2⟩:=(hG.cA i q _ hq hyg).rd;have hyn:=Ai y (Ame hy);have h0:0<y.vs.length:=List.length_pos_iff.2 hyn;have Ba:In (i:Int) (n5:Int):=by unfold In;omega
   have ld1:Af A b (o+Int.toNat (i:Int)*2) [.slice pl nl cl,.slice q.1 y.vs.length q.2]:=by simpa using CH.mono ho.up
   have hv3:Eh .u64 A q.1 y.vs.length y.vs:=Eh.mono ho.up oY;have hn9:n9<=i:=by
    have h3:=ho.1.1;rw[Amw,Amp]at h3;omega
   refine CG.tX ⟨λ_=>⟨b,o,rfl,Ba,pl,nl,cl,ld1.1,Ba,q.1,y.vs.length,q.2,ld1.2.1,Ib KS hv3 h0 ⟨_,rfl,.H9 (.refl _),λb94 h94=>?_⟩⟩,λhh=>by omega⟩;refine AL.eld ho (Eg.mono A9.mono ho.2) (by omega) (λp' c' Z3 Cm _=>⟨_,_,_,rfl,by unfold AF;omega,?_⟩) h94;have:=ih (i+1) p' (n9+1) c' Z3 (by omega) (by omega) (by rw[AQ hy,Am7];exact Cm);rw[show((i+1:Nat):Int)=(i:Int)+1 by omega]at this;exact this
 suffices H:∀g i:Nat,∀(O Z':Hp) (p5:Option Addr) (n5 c5:Nat) (G:List Rg) (qs:List (Option Addr×Nat)),C-i=g->i<=C->Ext Z O->Gc 1 AHR O Z' p5 n5 c5 (G.map gP) qs->(∀g∈G,g.vs≠[])->G.length<=i->(∀g∈G,g.vs.length<=i)->G=(x.es.take i).foldl (λgs x=>EO (Bz n x.ls) x.v gs) []->
   CG.AR R n.kind n.op n.text a k1 c1 n.width n.back n.Be e k2 c2 n.bool n.parts x.kind x.v pc C cc x.w pe ne ce 0 0 none 0 0 0 none 0 0 p5 n5 c5 (i:Int) Z' from H C 0 Z Z none 0 0 [] [] rfl (Amh _) (.refl _) (Gk.nil (.refl _)) (λg hg=>by cases hg) (Amh _) (λg hg=>by cases hg) rfl
 intro g
 induction g with
 | zero=>
  intro i O Z' p5 n5 c5 G qs hg hi jz hG Ai hGl hvl hGe;rw[Amj (by omega)]at hGe;exact CG.AM ⟨λhh=>by omega,λ_ _=>second O Z' p5 n5 c5 G qs (jz.trans hG.ext) hG Ai (by omega) (by unfold NQ;rw[hGe];rfl)⟩
 | succ g ih=>
  intro i O Z' p5 n5 c5 G qs hg hi jz hG Ai hGl hvl hGe;have BT:i<C:=by omega
  have hx:=jz.trans hG.ext;have hGn:G.length=n5:=by have:=hG.dz;rwa[Amw]at this
  obtain⟨y,hy⟩:=h1.ex BT;obtain⟨b,o,q1,m1,d1,rfl,CH,Eg⟩:=Ad.at h1 hy;have ADm:=Rp y (Ame hy);have Ba:In (i:Int) (C:Int):=by unfold In;omega
  have ld1:∀A,Ext Z A->Af A b (o+Int.toNat (i:Int)*2) [.slice q1 m1 d1,.U y.v]:=λA h=>by simpa using CH.mono h
  refine CG.AM ⟨λ_=>⟨b,o,rfl,Ba,q1,m1,d1,(ld1 Z' hx).1,SI (Eg.mono A9.mono hx) (by have h3:y.ls.length=m1:=Eg.1;have:=ADm.1;omega) (hs.mono hx) hm λp7 n7 c7 A hr7 Ao=>⟨_,_,_,rfl,?_⟩⟩,λhh=>by omega⟩;rw[egr]at hr7;have hX:=hx.trans Ao;have hG2:=hG.mono Ao;have SF:(x.es.take (i+1)).foldl (λgs x=>EO (Bz n x.ls) x.v gs) []=EO (Bz n y.ls) y.v G:=by
   rw[AQ hy,AoX,<-hGe];rfl
  have push:∀(O2 Z3:Hp) (p6:Option Addr) (n6 c6:Nat) (G2:List Rg) (qs2:List (Option Addr×Nat)) (k:Nat) (gg:Rg),Ext Z O2->Gc 1 AHR O2 Z3 p6 n6 c6 (G2.map gP) qs2->G2[k]?=some gg->G2.set k ⟨gg.ls,gg.vs++[y.v]⟩=EO (Bz n y.ls) y.v G->gg.vs.length<=i->
    CG.MD R n.kind n.op n.text a k1 c1 n.width n.back n.Be e k2 c2 n.bool n.parts x.kind x.v (aD b o) C cc x.w pe ne ce 0 0 none 0 0 0 none 0 0 p6 n6 c6 (i:Int) (k:Int) Z3:=λO2 Z3 p6 n6 c6 G2 qs2 k gg AXf xT hk he hgl=>by
   have hkg:(G2.map gP)[k]?=some (gP gg):=by rw[Am8,hk];rfl
   obtain⟨bg,og,q,pl,nl,cl,rfl,hq,AOS,_⟩:=xT.at hkg;have hkl:k<n6:=by have:=xT.dz;rw[Amw]at this;have:=(Amd.1 hk).1;omega
   have AHS:In (k:Int) (n6:Int):=by unfold In;omega
   have ldg:Af Z3 bg (og+Int.toNat (k:Int)*2) [.slice pl nl cl,.slice q.1 gg.vs.length q.2]:=by simpa using AOS
   have xW:=AXf.trans xT.ext;refine CG.M4 ⟨bg,og,rfl,AHS,q.1,gg.vs.length,q.2,ldg.2.1,b,o,rfl,Ba,y.v,(ld1 Z3 xW).2.1,λb67 h67=>?_⟩;have P:=@Gk.push (List Lb) Int 1 8 AHR GL0 Z3 O2 (some ⟨bg,og,none⟩) n6 c6 (G2.map gP) qs2 163 57 163 163 _ k b67 bg og (gP gg) q y.v [.U y.v] (λ_ AB=>AF ((i:Int)+1)/\CG.AR R n.kind n.op n.text a k1 c1 n.width n.back n.Be e k2 c2 n.bool n.parts x.kind x.v (aD b o) C cc x.w pe ne ce 0 0 none 0 0 0 none 0 0 (aD bg og) n6 c6 ((i:Int)+1) AB);refine P hz xT hkg hq rfl rfl rfl (λu hu=>by rw[Amo.1 hu];rfl) h67 (show(gg.vs.length+1)*8<=_ by omega) (λp' c' Z4 _ HG=>⟨_,_,_,rfl,AHS,by rw[AnE,Apc];exact HG⟩) λq' Z5 hG5=>⟨by unfold AF;omega,?_⟩;have e5:(G2.map gP).set k ((gP gg).1,(gP gg).2++[y.v])=(EO (Bz n y.ls) y.v G).map gP:=by rw[<-he,AqE]
   rw[e5]at hG5;have hal:=gK (ls:=Bz n y.ls) (v:=y.v) (gs:=G);have:=ih (i+1) O2 Z5 (some ⟨bg,og,none⟩) n6 c6 (EO (Bz n y.ls) y.v G) (qs2.set k q') (by omega) (by omega) AXf hG5 (vC Ai) (by omega) (λg hg=>hal.2 g hg i hvl) SF.symm;rw[show((i+1:Nat):Int)=(i:Int)+1 by omega]at this;exact this
  have AHT:(∀g∈G,g.ls≠Bz n y.ls)->∀bb,A bb=none->∀{T Et ty:TypeId} {bs:Nat} [KT prog T Et 2 bs],(n5+1)*bs<=140737488355328->AJ prog (Builtin.append_ #[T,T] ty #[.slice p5 n5 c5,.slice (aD bb 0) 1 1]) (A.set bb (.cells #[.slice p7 n7 c7,.N] Et (0,0))) (CS λp53 n53 c53 AB=>CG.MD R n.kind n.op n.text a k1 c1 n.width n.back n.Be e k2 c2 n.bool n.parts x.kind x.v (aD b o) C cc x.w pe ne ce 0 0 none 0 0 0 none 0 0 p53 n53 c53 (i:Int) (n5:Int) AB):=λCU bb rz T Et ty bs inst hbs=>
   Gk.add hG Ao hr7 rz hbs λO' p' c' Z4 hG4 htt=>⟨_,_,_,rfl,push O' Z4 p' (n5+1) c' (G++[⟨Bz n y.ls,[]⟩]) _ n5 ⟨Bz n y.ls,[]⟩ (jz.trans htt) (by rw[Am7];exact hG4) (by rw[Ang (by omega),hGn,AoW];rfl) (by rw[nB CU,Ao9 _ _ (by omega),hGn,AoW];rfl) (Amh _)⟩
  suffices F:∀g' k:Nat,n5-k=g'->k<=n5->(∀j z,j<k->G[j]?=some z->z.ls≠Bz n y.ls)->CG.dU R n.kind n.op n.text a k1 c1 n.width n.back n.Be e k2 c2 n.bool n.parts x.kind x.v (aD b o) C cc x.w pe ne ce 0 0 none 0 0 0 none 0 0 p5 n5 c5 (i:Int) p7 n7 c7 (k:Int) A from F n5 0 rfl (Amh _) λj z hj=>absurd hj (Nat.not_lt_zero _)
  intro g'
  induction g' with
  | zero=>
   intro k xD hk CU;have Rm:k=n5:=by omega
   subst Rm;refine CG.XN ⟨λhh=>by omega,λ_=>⟨λ_ oO h52=>AHT (λg hg=>?_) oO h52 (by omega),λhh=>absurd rfl hh⟩⟩;obtain⟨j,hj⟩:=AnC.1 hg;have:=(Amd.1 hj).1;exact CU j g (by omega) hj
  | succ g' ihk=>
   intro k xD hk CU;have Rm:k<n5:=by omega
   obtain⟨z,hz1⟩:∃z,G[k]?=some z:=⟨_,Amf (by omega)⟩;have hkg:(G.map gP)[k]?=some (gP z):=by rw[Am8,hz1];rfl
   obtain⟨bg,og,q,pl,nl,cl,hp5,hq,AOS,AeB⟩:=hG2.at hkg;have AHS:In (k:Int) (n5:Int):=by unfold In;omega
   have ldg:Af A bg (og+Int.toNat (k:Int)*2) [.slice pl nl cl,.slice q.1 z.vs.length q.2]:=by simpa using AOS
   refine CG.XN ⟨λ_=>⟨bg,og,hp5,AHS,pl,nl,cl,ldg.1,IZ AeB (hr7.mono A9.mono (Ext.Cf _ _)) ⟨_,rfl,λAeC=>⟨by unfold AF;omega,?_⟩,λhe0=>⟨λhh=>by omega,λ_=>?_⟩⟩⟩,λhh=>by omega⟩
   .have:=ihk (k+1) (by omega) (by omega) λj w hj hw=>by
     by_cases jl:j=k
     .subst jl;rw[hz1]at hw;cases hw;exact λe=>AeC ((AS.eq _ _).2 e)
     .exact CU j w (by omega) hw
    rw[show((k+1:Nat):Int)=(k:Int)+1 by omega]at this;rw[kl hp5];exact this
   .have Va:z.ls=Bz n y.ls:=(AS.eq _ _).1 (Amy.1 he0);rw[kl hp5];exact push O A p5 n5 c5 G qs k z jz hG2 hz1 (vB CU hz1 Va).symm (hvl z (Ame hz1))
end
theorem cb {α:Type}{k k':ByteArray}{x:α}:∀{m:List (ByteArray×α)},Cz (KY m k x) k'=if k=k' then some x else Cz m k'
 | []=>by unfold KY Cz;rfl
 | (a,b)::m=>by
  unfold KY;by_cases h:a=k
  .rw[Amc h];unfold Cz;by_cases A:k=k'
   .rw[Amc A,Amc A]
   .rw[Amb A,Amb A,Amb (by rw[h];exact A)]
  .rw[Amb h];unfold Cz;by_cases A:a=k'
   .rw[Amc A,Amc A,Amb (by rw[<-A];exact λe=>h e.symm)]
   .rw[Amb A,Amb A,cb]
theorem gL {n:Nd}{k:List Lb}:∀(l:List El) (m:List (ByteArray×El)),Cz (l.foldl (λm x=>KY m (Dy (EG n x.ls)) x) m) (Dy k)=match (l.filter λx=>decide (EG n x.ls=k)).getLast? with
  | some e=>some e
  | none=>Cz m (Dy k)
 | [],m=>rfl
 | x::l,m=>by
  rw[AoC,gL l,Aoq];by_cases h:EG n x.ls=k
  .rw[Amc (Amt h),List.getLast?_cons];cases A:(l.filter λx=>decide (EG n x.ls=k)).getLast? with
   | some e=>rfl
   | none=>rw[cb,Amc (by rw[h])];rfl
  .rw[Amb (by simpa using h)];cases A:(l.filter λx=>decide (EG n x.ls=k)).getLast? with
   | some e=>rfl
   | none=>rw[cb,Amb λe=>h (Qi e)]
theorem vD {n:Nd}{l:List El}{k:List Lb}:H0 n l k=(l.filter λx=>decide (EG n x.ls=k)).getLast?:=by
 show Cz (l.foldl _ []) (Dy k)=_
 rw[gL];cases(l.filter λx=>decide (EG n x.ls=k)).getLast?<;>rfl
theorem vE {α:Type}{k:ByteArray}{x:α}:∀{m:List (ByteArray×α)},(KY m k x).length<=m.length+1/\((KY m k x).length=m.length+1->(∀y∈m,y.1≠k))
 | []=>⟨Amr _,λ_ y A=>by cases A⟩
 | (a,b)::m=>by
  obtain⟨h1,G⟩:=vE (k:=k) (x:=x) (m:=m);unfold KY;by_cases h:a=k
  .rw[Amc h];exact⟨by simp,λC=>by simp at C⟩
  .rw[Amb h];simp only[AnN];refine⟨by omega,λC y A=>?_⟩;rcases Aml.1 A with rfl|A
   .exact h
   .exact G (by omega) y A
theorem nh {n:Nd}:∀(l:List El) (m:List (ByteArray×El)),(l.foldl (λm x=>KY m (Dy (EG n x.ls)) x) m).length<=m.length+l.length/\((l.foldl (λm x=>KY m (Dy (EG n x.ls)) x) m).length=m.length+l.length->l.Pairwise (λa b=>EG n a.ls≠EG n b.ls)/\∀y∈m,∀x∈l,y.1≠Dy (EG n x.ls))
 | [],m=>⟨Amr _,λ_=>⟨List.Pairwise.nil,λy _ x hx=>by cases hx⟩⟩
 | x::l,m=>by
  obtain⟨h1,h2⟩:=nh (n:=n) l (KY m (Dy (EG n x.ls)) x);obtain⟨h3,h4⟩:=vE (k:=Dy (EG n x.ls)) (x:=x) (m:=m);rw[AoC,AnN];refine⟨by omega,λhe=>?_⟩;have h5:=h4 (by omega);obtain⟨h6,C⟩:=h2 (by omega);rw[cD h5]at C;refine⟨AnH.2 ⟨λy A e=>C (Dy (EG n x.ls),x) (by simp) y A (by rw[e]),h6⟩,λy A z G=>?_⟩;rcases Aml.1 G with rfl|G
  .exact h5 y A
  .exact C y (AoV _ A) z G
theorem vF {n:Nd}{l:List El}:MQ n l=true↔l.Pairwise λa b=>EG n a.ls≠EG n b.ls:=by
 unfold MQ db;rw[Amq]
 constructor
 .intro h;exact((nh (n:=n) l []).2 (by rw[h];simp)).1
 .intro h;rw[nC h (λy A=>by cases A)];simp
def JX (n:Nd)(l:List El)(k:List Lb)(i:Int):Prop:=(i=-1/\∀(j:Nat) (e:El),l[j]?=some e->EG n e.ls≠k)\/(i=-2/\∃(j C:Nat) (e A:El),j≠C/\l[j]?=some e/\l[C]?=some A/\EG n e.ls=k/\EG n A.ls=k)\/∃(j:Nat) (e:El),i=j/\l[j]?=some e/\EG n e.ls=k/\∀(C:Nat) (A:El),l[C]?=some A->EG n A.ls=k->C=j
theorem JX.none {n:Nd}{l:List El}{k:List Lb}{i:Int}(h:JX n l k i):i=-1↔H0 n l k=none:=by
 rw[vD,AqD,Apb];rcases h with ⟨C,h2⟩|⟨C,j,j',e,e',_,G,_,hk,_⟩|⟨j,e,C,G,hk,_⟩
 .refine⟨λ_ x hx=>?_,λ_=>C⟩;obtain⟨j,hj⟩:=AnC.1 hx;simpa using h2 j x hj
 .exact⟨λA=>by omega,λA=>absurd (Amt hk) (A e (Ame G))⟩
 .exact⟨λA=>by omega,λA=>absurd (Amt hk) (A e (Ame G))⟩
theorem JX.two {n:Nd}{l:List El}{k:List Lb}{i:Int}(h:JX n l k i)(h2:i=-2):MQ n l=false:=by
 rcases h with ⟨h1,_⟩|⟨_,j,j',e,e',hjj,he,WO,hk,DI⟩|⟨j,e,h1,_⟩
 .omega
 .rw[An2,ne_eq,vF];intro hp;have C:=(Amd.1 he);have A:=(Amd.1 WO);rcases Nat.lt_or_gt_of_ne hjj with G|G
  .have:=AnG.1 hp j j' C.1 A.1 G;rw[C.2,A.2,hk,DI]at this;exact this rfl
  .have:=AnG.1 hp j' j A.1 C.1 G;rw[C.2,A.2,hk,DI]at this;exact this rfl
 .omega
theorem JX.at {n:Nd}{l:List El}{k:List Lb}{i:Int}(h:JX n l k i)(h0:¬i<0):∃(j:Nat) (e:El),i=j/\l[j]?=some e/\H0 n l k=some e:=by
 rcases h with ⟨C,_⟩|⟨C,_⟩|⟨j,e,C,G,hk,hu⟩
 .omega
 .omega
 .refine⟨j,e,C,G,?_⟩;rw[vD];have hm:e∈l.filter λx=>decide (EG n x.ls=k):=Anl.2 ⟨Ame G,Amt hk⟩;cases hq:(l.filter λx=>decide (EG n x.ls=k)).getLast? with
  | none=>rw[AqD]at hq;rw[hq]at hm;cases hm
  | some z=>
   obtain⟨hz1,hz2⟩:=Anl.1 (Aom hq);obtain⟨j',A⟩:=AnC.1 hz1;have:=hu j' z A (Amg hz2);subst this;rw[G]at A;cases A;rfl
theorem JX.all {n:Nd}{l:List El}(h:∀e∈l,∃i,JX n l (EG n e.ls) i/\i≠-2):MQ n l=true:=by
 rw[vF,AnG];intro a b C hb uG he;obtain⟨i,hi,h2⟩:=h l[a] (Aod C);rcases hi with ⟨_,A⟩|⟨A,_⟩|⟨j,e,_,_,_,G⟩
 .exact A a l[a] (Amf C) rfl
 .exact h2 A
 .have e1:=G a l[a] (Amf C) rfl;have e2:=G b l[b] (Amf hb) he.symm;omega
section
variable {Z:Hp}{R:Rr}
structure NdB (Z:Hp)(n:Nd)(e:Option Addr)(k:Nat):Prop where
 nm:HP 1 Z e k (n.names.map .string)
 m:k<=4611686018427387904
 g:n.Be=0/\n.names=[]\/n.Be=3\/n.Be=4
theorem NdB.mono {Z':Hp}{n:Nd}{e:Option Addr}{k:Nat}(h:NdB Z n e k)(A:Ext Z Z'):NdB Z' n e k:=⟨h.nm.mono A,h.m,h.g⟩
theorem Kw {n:Nd}{a e p q:Option Addr}{k1 c1 k2 c2 j c m d:Nat}{l:List El}{k:List Lb}(hN:NdB Z n e k2)(hr:AT 2 Ad Z p j l)(hk:Db Z q m k)(Rp:∀y∈l,Ac y.ls)
  (h:∀i Z',Ext Z Z'->JX n l k i->R (.returned (.I i)) Z'):Spec prog 154 #[Ka n a k1 c1 e k2 c2,.slice p j c,.slice q m d] Z R:=by
 have hl:l.length=j:=hr.1;have IP:=hr.big;refine FX.start λ_=>?_
 suffices H:∀g i:Nat,∀(x:Int) (Z':Hp),j-i=g->i<=j->Ext Z Z'->((x=-1/\∀t y,t<i->l[t]?=some y->EG n y.ls≠k)\/∃(t:Nat) (y:El),x=t/\t<i/\l[t]?=some y/\EG n y.ls=k/\∀t' y',t'<i->l[t']?=some y'->EG n y'.ls=k->t'=t)->
   FX.AR R p j c q m d n.kind n.op n.text a k1 c1 n.width n.back n.Be e k2 c2 n.bool n.parts x (i:Int) Z' from H j 0 (-1) Z rfl (Amh _) (.refl _) (.inl ⟨rfl,λt y ht=>absurd ht (Nat.not_lt_zero _)⟩)
 intro g
 induction g with
 | zero=>
  intro i x Z' hg hi hx hI;have JZ:i=j:=by omega
  refine FX.AM ⟨λhh=>by omega,λ_=>h x Z' hx ?_⟩;have lt:∀{t:Nat} {y:El},l[t]?=some y->t<i:=λG=>by have:=(Amd.1 G).1;omega
  rcases hI with ⟨h1,h2⟩|⟨t,y,h1,_,h3,h4,h5⟩
  .exact .inl ⟨h1,λt y G=>h2 t y (lt G) G⟩
  .exact .inr (.inr ⟨t,y,h1,h3,h4,λt' y' hy' DI=>h5 t' y' (lt hy') hy' DI⟩)
 | succ g ih=>
  intro i x Z' hg hi hx hI;have BT:i<j:=by omega
  obtain⟨y,G⟩:=hr.ex BT;obtain⟨b,o,q1,m1,d1,rfl,CH,Eg⟩:=Ad.at hr G;have ADm:=Rp y (Ame G);have Ba:In (i:Int) (j:Int):=by unfold In;omega
  have ld1:Af Z' b (o+Int.toNat (i:Int)*2) [.slice q1 m1 d1,.U y.v]:=by simpa using CH.mono hx
  have hN':=hN.mono hx;refine FX.AM ⟨λ_=>⟨b,o,rfl,Ba,q1,m1,d1,ld1.1,RO (Eg.mono A9.mono hx) (by have h3:y.ls.length=m1:=Eg.1;have:=ADm.1;omega) hN'.nm hN'.m hN'.g λp' n' c' Z2 Gw Ao=>⟨_,_,_,rfl,IZ (Gw.mono A9.mono (Ext.Cf _ _)) (hk.mono A9.mono (hx.trans Ao)) ⟨_,rfl,λh0=>⟨λbH=>h (-2) Z2 (hx.trans Ao) ?_,λAv=>FX.Fu ⟨AI BT IP,?_⟩⟩,λh0=>FX.Fu ⟨AI BT IP,?_⟩⟩⟩⟩,λhh=>by omega⟩
  .have A:=(AS.eq _ _).1 h0;rcases hI with ⟨h1,_⟩|⟨t,z,_,h2,h3,h4,_⟩
   .omega
   .exact .inr (.inl ⟨rfl,t,i,z,y,by omega,h3,G,h4,A⟩)
  .have A:=(AS.eq _ _).1 h0;have:=ih (i+1) (i:Int) Z2 (by clear hI;omega) (by clear hI;omega) (hx.trans Ao) (.inr ⟨i,y,rfl,by clear hI;omega,G,A,λt' y' ht' hy' DI=>by
    by_cases C:t'=i
    .exact C
    .exfalso;rcases hI with ⟨_,h2⟩|⟨t,z,h1,_⟩
     .exact h2 t' y' (by omega) hy' DI
     .omega⟩)
   rw[show((i+1:Nat):Int)=(i:Int)+1 by omega]at this;exact this
  .have A:EG n y.ls≠k:=λe=>h0 ((AS.eq _ _).2 e);have:=ih (i+1) x Z2 (by clear hI;omega) (by clear hI;omega) (hx.trans Ao) (by
    rcases hI with ⟨h1,h2⟩|⟨t,z,h1,h2,h3,h4,h5⟩
    .refine .inl ⟨h1,λt z ht hz=>?_⟩;by_cases C:t=i
     .subst C;rw[G]at hz;cases hz;exact A
     .exact h2 t z (by omega) hz
    .refine .inr ⟨t,z,h1,by omega,h3,h4,λt' z' ht' rF DI=>?_⟩;by_cases C:t'=i
     .subst C;rw[G]at rF;cases rF;exact absurd DI A
     .exact h5 t' z' (by omega) rF DI)
   rw[show((i+1:Nat):Int)=(i:Int)+1 by omega]at this;exact this
theorem jY {n:Nd}{a e:Option Addr}{k1 c1 k2 c2:Nat}{x y:S8}{px j0 py j1:Option Addr}{G cx j2 j3 ny cy j4 j5:Nat}(Bc:AT 2 Ad Z px G x.es)(jX:AT 2 Ad Z py ny y.es)(ho:1<=n.op/\n.op<=10)(ft:∀z∈x.es,Ac z.ls)(dC:∀z∈y.es,Ac z.ls)(KZ:x.es.length<=100000000000)(Nz:y.es.length<=100000000000)
  (hk:x.kind=1/\x.es=[]\/x.kind≠1/\y.kind=1/\y.es=[])
  (h:sE R Z ⟨2,0,if x.kind=1 then Jh n y.es (A5 n.op x.v) else Jh n x.es λv=>A5 n.op v y.v,0,[]⟩) :
  Spec prog 116 #[Ka n a k1 c1 e k2 c2,cR x.kind x.v px G cx x.w j0 j2 j3,cR y.kind y.v py ny cy y.w j1 j4 j5] Z R:=by
 have hnx:x.es.length=G:=Bc.1;have uZ:y.es.length=ny:=jX.1
 let f:Int->Int×Bool:=λv=>if x.kind=1 then A5 n.op x.v v else A5 n.op v y.v
 let A:El->Option El:=λz=>if BR n.op=false\/n.bool=true then some ⟨Bg z.ls,(f z.v).1⟩ else if(f z.v).2 then some z else none
 have AeE:(if x.kind=1 then Jh n y.es (A5 n.op x.v) else Jh n x.es λv=>A5 n.op v y.v)=(x.es++y.es).filterMap A:=by
  rcases hk with ⟨h1,h2⟩|⟨h1,h2,h3⟩
  .rw[Amc h1,h2,Anm];unfold Jh;refine Amz (λg=>List.filterMap g y.es) (funext λz=>?_);show _=A z
   simp only[A,f,Amc h1]
  .rw[Amb h1,h3,AoD];unfold Jh;refine Amz (λg=>List.filterMap g x.es) (funext λz=>?_);show _=A z
   simp only[A,f,Amb h1]
 rw[AeE]at h;have Rp:∀z∈x.es++y.es,Ac z.ls:=λz hz=>(Am6.1 hz).elim (ft z) (dC z);obtain⟨_,cs,LC,hch⟩:=Bc;obtain⟨_,ds,hds,hdh⟩:=jX;refine DD.start λ_ _ _ _ _ D0 h13=>AL.copy Ad.mono LC (Ch.Us Ad.one hch (by decide)) hch (.refl _) hnx (by omega) h13 λkz fQ Z1 Qy ng _=>⟨_,_,_,rfl,AL.xu Ad.mono Qy (hds.mono ng) (Ch.Us Ad.one hdh (by decide)) hdh uZ (by omega) λvh pq Z2 A7 _=>⟨_,_,_,rfl,?_⟩⟩;have yZ:=A7.rd Ad.mono;have X2:=A7.up;have hL:(x.es++y.es).length=G+ny:=by rw[Amv];omega
 generalize x.es++y.es=L at *
 suffices H:∀g i:Nat,∀p7 n7 c7 Z',G+ny-i=g->i<=G+ny->AL 2 Ad Z2 Z' p7 n7 c7 ((L.take i).filterMap A)->DD.J6 R n.kind n.op n.text a k1 c1 n.width n.back n.Be e k2 c2 n.bool n.parts x.kind x.v px G cx x.w j0 j2 j3 y.kind y.v py ny cy y.w j1 j4 j5 0 0 none 0 0 0 none 0 0 2 0 p7 n7 c7 0 none 0 0 vh (G+ny) pq (i:Int) Z' from H (G+ny) 0 none 0 0 Z2 rfl (Amh _) (AL.nil (.refl _))
 intro g
 induction g with
 | zero=>
  intro i p7 n7 c7 Z' hg hi oe;rw[Amj (by omega)]at oe;exact DD.HX ⟨λhh=>by omega,λ_=>h Z' p7 n7 c7 none 0 0 (X2.trans oe.up) (oe.rd Ad.mono) AT.nil (by obtain⟨cs,KI,_⟩:=oe.1.2;exact Aw.cap KI)⟩
 | succ g ih=>
  intro i p7 n7 c7 Z' hg hi oe;have BT:i<G+ny:=by omega
  obtain⟨z,hz⟩:=yZ.ex BT;have J2:=Rp z (Ame hz);obtain⟨b,o,q1,m1,d1,rfl,CH,Eg⟩:=Ad.at yZ hz;have Ba:In (i:Int) ((G+ny:Nat):Int):=by unfold In;omega
  have ld1:∀Z3,Ext Z2 Z3->Af Z3 b (o+Int.toNat (i:Int)*2) [.slice q1 m1 d1,.U z.v]:=λZ3 h=>by simpa using CH.mono h
  have hX:=oe.up;have hn7:n7<=i:=by
   have h3:=oe.1.1;have h4:=Am0 A (L.take i);rw[Amp]at h4;omega
  have next:∀p8 n8 c8 Z3 (bb:Bool),bb=n.bool->AL 2 Ad Z2 Z3 p8 n8 c8 ((L.take i).filterMap A++(A z).toList)->DD.Yq R n.kind n.op n.text a k1 c1 n.width n.back n.Be e k2 c2 bb n.parts x.kind x.v px G cx x.w j0 j2 j3 y.kind y.v py ny cy y.w j1 j4 j5 0 0 none 0 0 0 none 0 0 2 0 p8 n8 c8 0 none 0 0 (aD b o) (G+ny) pq (i:Int) Z3:=λp8 n8 c8 Z3 bb rz SH=>by
   subst rz;have:=ih (i+1) p8 n8 c8 Z3 (by omega) (by omega) (by rw[Cn hz];exact SH);rw[show((i+1:Nat):Int)=(i:Int)+1 by omega]at this;exact DD.XU ⟨by unfold AF;omega,this⟩
  have body:∀u v:Int,(f z.v)=A5 n.op u v->DD.IH R n.kind n.op n.text a k1 c1 n.width n.back n.Be e k2 c2 n.bool n.parts x.kind x.v px G cx x.w j0 j2 j3 y.kind y.v py ny cy y.w j1 j4 j5 0 0 none 0 0 0 none 0 0 2 0 p7 n7 c7 0 none 0 0 (aD b o) (G+ny) pq (i:Int) u v Z':=λu v hf=>by
   have bare:∀{Q:Rr},(∀p' n' c' Z3,Db (Z'.new Z3) p' n' (Bg z.ls)->Ext Z' Z3->Q (.returned (.slice p' n' c')) Z3)->Spec prog 107 #[.slice q1 m1 d1] Z' Q:=λhq=>Ic (Eg.mono A9.mono hX) (by have h3:z.ls.length=m1:=Eg.1;have:=J2.1;omega) hq;refine DD.Io (KL ⟨_,rfl,λC=>⟨b,o,rfl,Ba,q1,m1,d1,(ld1 Z' hX).1,bare λp' n' c' Z3 Ss BO=>⟨_,_,_,rfl,Ku (by
     unfold BR at C;rw[An4,Am2,Am2]at C;omega) ⟨_,rfl,λte h62=>?_⟩⟩⟩,λC=>⟨λhb=>⟨b,o,rfl,Ba,q1,m1,d1,(ld1 Z' hX).1,bare λp' n' c' Z3 Ss BO=>⟨_,_,_,rfl,Dz ⟨_,rfl,Vk ⟨_,rfl,λjw h83=>?_⟩⟩⟩⟩,λhb=>Dz ⟨_,rfl,λht=>⟨b,o,rfl,Ba,q1,m1,d1,z.v,ld1 Z' hX,λS6 h98=>?_⟩,λyI=>next _ _ _ Z' false hb.symm ?_⟩⟩⟩)
   .have sJ:1<=n.op/\n.op<=4:=by
     unfold BR at C;rw[An4,Am2,Am2]at C;omega
    refine AL.eld (oe.mono Ad.mono BO) (Ss.mono A9.mono (oe.new BO)) (by omega) (λp6 c6 Z4 FE _=>⟨_,_,_,rfl,next _ _ _ _ n.bool rfl ?_⟩) h62;rw[show A z=some ⟨Bg z.ls,N0 n.op u v⟩ by
     simp only[A,Amc (Or.inl C:BR n.op=false\/n.bool=true)];rw[hf];unfold A5;rw[Amc sJ]]
    exact FE
   .refine AL.eld (oe.mono Ad.mono BO) (Ss.mono A9.mono (oe.new BO)) (by omega) (λp6 c6 Z4 FE _=>⟨_,_,_,rfl,next _ _ _ _ true hb.symm ?_⟩) h83;rw[show A z=some ⟨Bg z.ls,if IT n.op u v then AY 1 else AY 0⟩ by
     simp only[A,Amc (Or.inr hb:BR n.op=false\/n.bool=true)];rw[hf];unfold A5;rw[Amb (by unfold BR at C;simp only[Amn,Amq]at C;omega)]]
    exact FE
   .refine AL.HI Ad.mono oe rfl (Ad.one _ _ _ (⟨q1,m1,d1,rfl,Eg⟩:Ad Z2 [.slice q1 m1 d1,.U z.v] z)) (x:=z) ⟨q1,m1,d1,rfl,Eg.mono A9.mono oe.2⟩ (by omega) (λp6 c6 Z4 FE _=>⟨_,_,_,rfl,next _ _ _ _ false hb.symm ?_⟩) h98;rw[show A z=some z by
     simp only[A];rw[Amb (λh5=>h5.elim (λh5=>by rw[h5]at C;cases C) λh5=>by rw[h5]at hb;cases hb),hf];rw[show(A5 n.op u v).2=IT n.op u v by unfold A5;rw[Amb (by unfold BR at C;simp only[Amn,Amq]at C;omega)]];exact Amc ht]
    exact FE
   .rw[show A z=none by
     simp only[A];rw[Amb (λh5=>h5.elim (λh5=>by rw[h5]at C;cases C) λh5=>by rw[h5]at hb;cases hb),hf];rw[show(A5 n.op u v).2=IT n.op u v by unfold A5;rw[Amb (by unfold BR at C;simp only[Amn,Amq]at C;omega)]];exact Amb (by rw[yI];decide)]
    simpa using oe
  refine DD.HX ⟨λ_=>⟨b,o,rfl,Ba,z.v,(ld1 Z' hX).2.1,λxR=>⟨Ba,z.v,(ld1 Z' hX).2.1,body x.v z.v ?_⟩,λxR=>body z.v y.v ?_⟩,λhh=>by omega⟩
  .simp only[f,Amc xR]
  .simp only[f,Amb xR]
end
theorem Ext.AOV {Z A C:Hp}(h:Ext A C):Ext (Z.new A) (Z.new C):=λk u G=>AW.2 ⟨(AW.1 G).1,h _ _ (AW.1 G).2⟩
structure AeF (R:Rr)(Z:Hp)(o:Option (List El)):Prop where
 ok:∀l,o=some l->∀Z' p n c,Ext Z Z'->AT 2 Ad Z' p n l->n<=c->R (.T #[cR 2 0 p n c 0 none 0 0,.bool true]) Z'
 no:o=none->∀Z' p n c (l:List El),Ext Z Z'->AT 2 Ad Z' p n l->n<=c->n<=100000000000->R (.T #[cR 2 0 p n c 0 none 0 0,.bool false]) Z'
section
variable {Z:Hp}{R:Rr}
set_option maxHeartbeats 4000000 in
theorem jZ {n:Nd}{a e:Option Addr}{k1 c1 k2 c2:Nat}{x y:S8}{px j0 py j1:Option Addr}{nx cx j2 j3 ny cy j4 j5:Nat}(hN:NdB Z n e k2)(Bc:AT 2 Ad Z px nx x.es)(jX:AT 2 Ad Z py ny y.es)(ho:1<=n.op/\n.op<=13)(ft:∀z∈x.es,Ac z.ls)(dC:∀z∈y.es,Ac z.ls)(KZ:x.es.length<=100000000000)(Nz:y.es.length<=100000000000)
  (h:AeF R Z (if 11<=n.op then some (JB n x.es y.es) else H3 FF n x.es y.es)) :
  Spec prog 117 #[Ka n a k1 c1 e k2 c2,cR x.kind x.v px nx cx x.w j0 j2 j3,cR y.kind y.v py ny cy y.w j1 j4 j5] Z R:=by
 have hnx:x.es.length=nx:=Bc.1;have uZ:y.es.length=ny:=jX.1
 let fa:El->Option El:=λz=>if 11<=n.op then(if(decide (n.op=12)||((H0 n y.es (EG n z.ls)).isSome==decide (n.op=11)))=true then some z else none) else match H0 n y.es (EG n z.ls) with
  | none=>none
  | some o=>if BR n.op=false\/n.bool=true then some ⟨EG n z.ls,(A5 n.op z.v o.v).1⟩ else if(A5 n.op z.v o.v).2 then some z else none
 let fb:El->Option El:=λz=>if((H0 n x.es (EG n z.ls)).isNone&&decide (n.op=12))=true then some z else none
 have AXg:11<=n.op->JB n x.es y.es=x.es.filterMap fa++y.es.filterMap fb:=λA=>by
  unfold JB
  congr 1
  .exact(Vg λz _=>by simp only[fa,Amc A]).symm
  .exact(Vg λz _=>rfl).symm
 have AXh:¬11<=n.op->MQ n x.es=true->MQ n y.es=true->H3 FF n x.es y.es=some (x.es.filterMap fa):=λA h1 h2=>by
  unfold H3;rw[h1,h2];refine Amz some (Amz (λg=>List.filterMap g x.es) (funext λz=>?_));simp only[fa,Amb A];rfl
 have AXi:¬11<=n.op->(MQ n x.es=false\/MQ n y.es=false)->∀Z' p n' c (l:List El),Ext Z Z'->AT 2 Ad Z' p n' l->n'<=c->n'<=100000000000->R (.T #[cR 2 0 p n' c 0 none 0 0,.bool false]) Z':=λA C=>h.no (by
  rw[Amb A];unfold H3;rcases C with C|C
  .rw[C];rfl
  .rw[C,AoR];rfl)
 refine Am.start λ_ _ _ _ _=>?_;have third:∀(g i:Nat) p8 n8 c8 Z',ny-i=g->i<=ny->(11<=n.op\/MQ n x.es=true/\MQ n y.es=true)->AL 2 Ad Z Z' p8 n8 c8 (x.es.filterMap fa++if n.op=12 then(y.es.take i).filterMap fb else[])->Am.AFg R n.kind n.op n.text a k1 c1 n.width n.back n.Be e k2 c2 n.bool n.parts x.kind x.v px nx cx x.w j0 j2 j3 y.kind y.v py ny cy y.w j1 j4 j5 0 0 none 0 0 0 none 0 0 2 0 p8 n8 c8 0 none 0 0 (i:Int) Z':=by
  intro g;have ret:∀p8 n8 c8 Z',(11<=n.op\/MQ n x.es=true/\MQ n y.es=true)->AL 2 Ad Z Z' p8 n8 c8 (x.es.filterMap fa++if n.op=12 then y.es.filterMap fb else[])->R (.T #[cR 2 0 p8 n8 c8 0 none 0 0,.bool true]) Z':=λp8 n8 c8 Z' Qo G=>by
   refine h.ok _ ?_ Z' p8 n8 c8 G.up (G.rd Ad.mono) (by obtain⟨cs,KI,_⟩:=G.1.2;exact Aw.cap KI);by_cases A:11<=n.op
   .rw[Amc A,AXg A];by_cases KR:n.op=12
    .rw[Amc KR]
    .rw[Amb KR];rw[show y.es.filterMap fb=[] from List.filterMap_eq_nil_iff.2 λz _=>by simp only[fb,Ams KR,AoR];rfl]
   .rw[Amb A,Amb (by omega),AoD];rcases Qo with C|⟨hh1,hh2⟩
    .exact absurd C A
    .exact AXh A hh1 hh2
  induction g with
  | zero=>
   intro i p8 n8 c8 Z' hg hi Qo G;rw[Amj (by omega)]at G;exact Am.tR ⟨λC=>by omega,λ_=>ret p8 n8 c8 Z' Qo G⟩
  | succ g ih=>
   intro i p8 n8 c8 Z' hg hi Qo G;have BT:i<ny:=by omega
   obtain⟨z,hz⟩:=jX.ex BT;obtain⟨b,o,q1,m1,d1,rfl,CH,Eg⟩:=Ad.at jX hz;have J2:=dC z (Ame hz);have Ba:In (i:Int) (ny:Int):=by unfold In;omega
   have hX:=G.up;have ld1:∀Z2,Ext Z Z2->Af Z2 b (o+Int.toNat (i:Int)*2) [.slice q1 m1 d1,.U z.v]:=λZ2 h=>by simpa using CH.mono h
   refine Am.tR ⟨λ_=>⟨λKR=>⟨b,o,rfl,Ba,q1,m1,d1,(ld1 Z' hX).1,RO (Eg.mono A9.mono hX) (by have h3:z.ls.length=m1:=Eg.1;have:=J2.1;omega) (hN.mono hX).nm hN.m hN.g λp' n' c' Z2 Gw Ao=>⟨_,_,_,rfl,Kw (hN.mono (hX.trans Ao)) (Bc.mono Ad.mono (hX.trans Ao)) (Gw.mono A9.mono (Ext.Cf _ _)) ft λi' Z3 BO hK=>⟨_,rfl,?_⟩⟩⟩,λKR=>ret p8 n8 c8 Z' Qo (by rw[Amb KR]at G ⊢;exact G)⟩,λC=>by omega⟩;rw[Amc KR]at G;have xW:=hX.trans (Ao.trans BO);have VZ:n8<=nx+i:=by
    have h3:=G.1.1;have h4:=Am0 fa x.es;have h5:=Am0 fb (y.es.take i);rw[Amv]at h3;rw[Amp]at h5;omega
   have next:∀p9 n9 c9 Z4,AL 2 Ad Z Z4 p9 n9 c9 (x.es.filterMap fa++(y.es.take i).filterMap fb++(fb z).toList)->Am.VB R n.kind n.op n.text a k1 c1 n.width n.back n.Be e k2 c2 n.bool n.parts x.kind x.v px nx cx x.w j0 j2 j3 y.kind y.v (aD b o) ny cy y.w j1 j4 j5 0 0 none 0 0 0 none 0 0 2 0 p9 n9 c9 0 none 0 0 (i:Int) Z4:=λp9 n9 c9 Z4 UI=>by
    have:=ih (i+1) p9 n9 c9 Z4 (by omega) (by omega) Qo (by rw[Amc KR,Cn hz,<-AnO];exact UI);rw[show((i+1:Nat):Int)=(i:Int)+1 by omega]at this;exact Am.Q2 ⟨by unfold AF;omega,this⟩
   have Cm:=G.mono Ad.mono (Ao.trans BO);refine⟨λLk=>⟨Ba,q1,m1,d1,z.v,ld1 Z3 xW,λALu AeI=>?_⟩,λLk=>next _ _ _ _ ?_⟩
   .refine AL.HI Ad.mono Cm rfl (Ad.one _ _ _ (⟨q1,m1,d1,rfl,Eg⟩:Ad Z [.slice q1 m1 d1,.U z.v] z)) (x:=z) ⟨q1,m1,d1,rfl,Eg.mono A9.mono Cm.2⟩ (by omega) (λp6 c6 Z4 FE _=>⟨_,_,_,rfl,next _ _ _ _ ?_⟩) AeI;rw[show fb z=some z by simp only[fb];rw[hK.none.1 Lk,Amt KR];rfl];exact FE
   .rw[show fb z=none by
     simp only[fb];cases hq:H0 n x.es (EG n z.ls) with
     | none=>exact absurd (hK.none.2 hq) Lk
     | some w=>rfl]
    simpa using Cm
 have second:∀(g i:Nat) p8 n8 c8 Z' (t9:Bool),t9=decide (11<=n.op)->nx-i=g->i<=nx->(11<=n.op\/MQ n y.es=true/\∀z∈x.es.take i,∃i',JX n x.es (EG n z.ls) i'/\i'≠-2)->AL 2 Ad Z Z' p8 n8 c8 ((x.es.take i).filterMap fa)->Am.VD R n.kind n.op n.text a k1 c1 n.width n.back n.Be e k2 c2 n.bool n.parts x.kind x.v px nx cx x.w j0 j2 j3 y.kind y.v py ny cy y.w j1 j4 j5 0 0 none 0 0 0 none 0 0 2 0 p8 n8 c8 0 none 0 0 t9 (i:Int) Z':=by
  intro g
  induction g with
  | zero=>
   intro i p8 n8 c8 Z' t9 ht9 hg hi Qo G;rw[Amj (by omega)]at Qo G;exact Am.Jd ⟨λC=>by omega,λ_=>third ny 0 p8 n8 c8 Z' rfl (Amh _) (Qo.imp id λC=>⟨JX.all C.2,C.1⟩) (by
    rw[Aop];simp only[List.filterMap_nil,ite_self,AoD];exact G)⟩
  | succ g ih=>
   intro i p8 n8 c8 Z' t9 ht9 hg hi Qo G;have BT:i<nx:=by omega
   obtain⟨z,hz⟩:=Bc.ex BT;obtain⟨b,o,q1,m1,d1,rfl,CH,Eg⟩:=Ad.at Bc hz;have J2:=ft z (Ame hz);have Ba:In (i:Int) (nx:Int):=by unfold In;omega
   have hX:=G.up;have ld1:∀Z2,Ext Z Z2->Af Z2 b (o+Int.toNat (i:Int)*2) [.slice q1 m1 d1,.U z.v]:=λZ2 h=>by simpa using CH.mono h
   have VZ:n8<=i:=by
    have h3:=G.1.1;have h4:=Am0 fa (x.es.take i);rw[Amp]at h4;omega
   refine Am.Jd ⟨λ_=>⟨b,o,rfl,Ba,q1,m1,d1,(ld1 Z' hX).1,RO (Eg.mono A9.mono hX) (by have h3:z.ls.length=m1:=Eg.1;have:=J2.1;omega) (hN.mono hX).nm hN.m hN.g λp' n' c' Z2 Gw Ao=>⟨_,_,_,rfl,Kw (hN.mono (hX.trans Ao)) (jX.mono Ad.mono (hX.trans Ao)) (Gw.mono A9.mono (Ext.Cf _ _)) dC λi3 Z3 BO hK=>⟨_,rfl,λtf=>?_,λtt=>?_⟩⟩⟩,λC=>by omega⟩
   ·
    have A:¬11<=n.op:=by rw[ht9]at tf;exact Am4 tf
    have xW:=hX.trans (Ao.trans BO);refine Kw (hN.mono xW) (Bc.mono Ad.mono xW) ((Gw.mono A9.mono (Ext.Cf _ _)).mono A9.mono BO) ft λi4 Z4 MP hK4=>⟨_,rfl,λmT=>AXi A (.inl (hK4.two mT)) Z4 p8 n8 c8 _ (xW.trans MP) ((G.mono Ad.mono (Ao.trans (BO.trans MP))).rd Ad.mono) (by obtain⟨cs,KI,_⟩:=G.1.2;exact Aw.cap KI) (by omega),λmT=>⟨λC=>by omega,λ_=>⟨λC=>by omega,λ_=>⟨λC=>by omega,λ_=>?_⟩⟩⟩⟩;have hX4:=xW.trans MP;have AXj:=Ao.trans (BO.trans MP);have FE:=G.mono Ad.mono AXj;have AXk:11<=n.op\/MQ n y.es=true/\∀w∈x.es.take (i+1),∃i',JX n x.es (EG n w.ls) i'/\i'≠-2:=by
     rcases Qo with C|⟨hh1,hh2⟩
     .exact absurd C A
     .refine .inr ⟨hh1,λw hw=>?_⟩;rw[AQ hz]at hw;rcases Am6.1 hw with hw|hw
      .exact hh2 w hw
      .rw[Amo.1 hw];exact⟨i4,hK4,mT⟩
    have next:∀p9 n9 c9 Z5 (py2:Option Addr) (bb:Bool),py2=py->bb=n.bool->AL 2 Ad Z Z5 p9 n9 c9 ((x.es.take i).filterMap fa++(fa z).toList)->Am.E4 R n.kind n.op n.text a k1 c1 n.width n.back n.Be e k2 c2 bb n.parts x.kind x.v (aD b o) nx cx x.w j0 j2 j3 y.kind y.v py2 ny cy y.w j1 j4 j5 0 0 none 0 0 0 none 0 0 2 0 p9 n9 c9 0 none 0 0 false (i:Int) Z5:=λp9 n9 c9 Z5 py2 bb hpy rz UI=>by
     subst hpy;subst rz;have:=ih (i+1) p9 n9 c9 Z5 false (by rw[Ams A]) (by omega) (by omega) AXk (by rw[Cn hz];exact UI);rw[show((i+1:Nat):Int)=(i:Int)+1 by omega]at this;exact Am.tS ⟨by unfold AF;omega,this⟩
    have ye:fa z=match H0 n y.es (EG n z.ls) with
      | none=>none
      | some o=>if BR n.op=false\/n.bool=true then some ⟨EG n z.ls,(A5 n.op z.v o.v).1⟩ else if(A5 n.op z.v o.v).2 then some z else none:=by simp only[fa,Amb A]
    refine⟨λAv=>next _ _ _ _ py n.bool rfl rfl ?_,λbH=>?_⟩
    .have Hz:H0 n y.es (EG n z.ls)=none:=by
      rcases hK with ⟨h1,_⟩|⟨h1,C⟩|⟨j,w,h1,_⟩
      .exact(JX.none (i:=i3) (.inl ⟨h1,by assumption⟩)).1 h1
      .exfalso;have:=JX.two (i:=i3) (.inr (.inl ⟨h1,C⟩)) h1;rcases Qo with h9|⟨h9,_⟩
       .exact A h9
       .rw[h9]at this;cases this
      .omega
     rw[ye,Hz];simpa using FE
    obtain⟨j,w,rfl,hw,Qb⟩:=hK.at bH;rw[Qb]at ye;obtain⟨b2,o2,q2,m2,d2,rfl,mL,_⟩:=Ad.at jX hw;have hjl:j<ny:=by have:=(Amd.1 hw).1;omega
    have hinj:In (j:Int) (ny:Int):=by unfold In;omega
    have ld2:Af Z4 b2 (o2+Int.toNat (j:Int)*2) [.slice q2 m2 d2,.U w.v]:=by simpa using mL.mono hX4
    have ldz:=ld1 Z4 hX4;have ADr:Db (Z4.del p8) p' n' (EG n z.ls):=(Gw.mono A9.mono (Ext.AOV (BO.trans MP))).mono A9.mono (G.new AXj);refine KL ⟨_,rfl,λhc=>?_,λhc=>⟨λhb=>⟨Ba,z.v,ldz.2.1,b2,o2,rfl,hinj,w.v,ld2.2.1,Dz ⟨_,rfl,Vk ⟨_,rfl,λWo AeL=>?_⟩⟩⟩,λhb=>⟨Ba,z.v,ldz.2.1,b2,o2,rfl,hinj,w.v,ld2.2.1,Dz ⟨_,rfl,λht=>⟨Ba,q1,m1,d1,z.v,ldz,λWp AeM=>?_⟩,λhf=>next _ _ _ _ _ false rfl hb.symm ?_⟩⟩⟩⟩
    .have sJ:1<=n.op/\n.op<=4:=by
      unfold BR at hc;rw[An4,Am2,Am2]at hc;omega
     refine⟨Ba,z.v,ldz.2.1,b2,o2,rfl,hinj,w.v,ld2.2.1,Ku sJ ⟨_,rfl,λWn AeN=>?_⟩⟩;refine AL.eld FE ADr (by omega) (λp6 c6 Z5 Lj _=>⟨_,_,_,rfl,next _ _ _ _ _ n.bool rfl rfl ?_⟩) AeN;rw[ye];simp only[Amc (Or.inl hc:BR n.op=false\/n.bool=true)];rw[show(A5 n.op z.v w.v).1=N0 n.op z.v w.v by unfold A5;rw[Amc sJ]];exact Lj
    .refine AL.eld FE ADr (by omega) (λp6 c6 Z5 Lj _=>⟨_,_,_,rfl,next _ _ _ _ _ true rfl hb.symm ?_⟩) AeL;rw[ye];simp only[Amc (Or.inr hb:BR n.op=false\/n.bool=true)];rw[show(A5 n.op z.v w.v).1=if IT n.op z.v w.v then AY 1 else AY 0 by unfold A5;rw[Amb (by unfold BR at hc;simp only[Amn,Amq]at hc;omega)]];exact Lj
    .refine AL.HI Ad.mono FE rfl (Ad.one _ _ _ (⟨q1,m1,d1,rfl,Eg⟩:Ad Z [.slice q1 m1 d1,.U z.v] z)) (x:=z) ⟨q1,m1,d1,rfl,Eg.mono A9.mono FE.2⟩ (by omega) (λp6 c6 Z5 Lj _=>⟨_,_,_,rfl,next _ _ _ _ _ false rfl hb.symm ?_⟩) AeM;rw[ye];dsimp only;rw[Amb (λh5=>h5.elim (λh5=>by rw[h5]at hc;cases hc) λh5=>by rw[h5]at hb;cases hb),show(A5 n.op z.v w.v).2=IT n.op z.v w.v by unfold A5;rw[Amb (by unfold BR at hc;simp only[Amn,Amq]at hc;omega)],Amc ht];exact Lj
    .rw[ye];dsimp only;rw[Amb (λh5=>h5.elim (λh5=>by rw[h5]at hc;cases hc) λh5=>by rw[h5]at hb;cases hb),show(A5 n.op z.v w.v).2=IT n.op z.v w.v by unfold A5;rw[Amb (by unfold BR at hc;simp only[Amn,Amq]at hc;omega)],Amb (by rw[hf];decide)];simpa using FE
   ·
    have A:11<=n.op:=by rw[ht9]at tt;exact Amg tt
    have AXl:=Ao.trans BO;have xW:=hX.trans AXl;have Cm:=G.mono Ad.mono AXl;have next:∀p9 n9 c9 Z5,AL 2 Ad Z Z5 p9 n9 c9 ((x.es.take i).filterMap fa++(fa z).toList)->Am.E4 R n.kind n.op n.text a k1 c1 n.width n.back n.Be e k2 c2 n.bool n.parts x.kind x.v (aD b o) nx cx x.w j0 j2 j3 y.kind y.v py ny cy y.w j1 j4 j5 0 0 none 0 0 0 none 0 0 2 0 p9 n9 c9 0 none 0 0 true (i:Int) Z5:=λp9 n9 c9 Z5 UI=>by
     have:=ih (i+1) p9 n9 c9 Z5 true (by rw[Amt A]) (by omega) (by omega) (.inl A) (by rw[Cn hz];exact UI);rw[show((i+1:Nat):Int)=(i:Int)+1 by omega]at this;exact Am.tS ⟨by unfold AF;omega,this⟩
    have ye:fa z=if(decide (n.op=12)||((H0 n y.es (EG n z.ls)).isSome==decide (n.op=11)))=true then some z else none:=by simp only[fa,Amc A]
    have keep:fa z=some z->In (i:Int) (nx:Int)/\∃(pp:Option Addr) (nn cc:Nat) (vv:Int),Af Z3 b (o+Int.toNat (i:Int)*2) [.slice pp nn cc,.U vv]/\∀bb,Z3 bb=none->∀{T Et ty:TypeId} {bs:Nat} [KT prog T Et 2 bs],(n8+1)*bs<=140737488355328->AJ prog (Builtin.append_ #[T,T] ty #[.slice p8 n8 c8,(.slice (aD bb 0) 1 1)]) (Hp.set Z3 bb (.cells #[.slice pp nn cc,.U vv] Et (0,0))) (CS λPK n106 PL AX=>Am.E4 R n.kind n.op n.text a k1 c1 n.width n.back n.Be e k2 c2 n.bool n.parts x.kind x.v (aD b o) nx cx x.w j0 j2 j3 y.kind y.v py ny cy y.w j1 j4 j5 0 0 none 0 0 0 none 0 0 2 0 PK n106 PL 0 none 0 0 true (i:Int) AX):=λhfa=>⟨Ba,q1,m1,d1,z.v,ld1 Z3 xW,λbb rz T Et ty bs inst hbs=>
     AL.HI Ad.mono Cm rfl (Ad.one _ _ _ (⟨q1,m1,d1,rfl,Eg⟩:Ad Z [.slice q1 m1 d1,.U z.v] z)) (x:=z) ⟨q1,m1,d1,rfl,Eg.mono A9.mono Cm.2⟩ hbs (λp6 c6 Z5 Lj _=>⟨_,_,_,rfl,next _ _ _ _ (by rw[hfa];exact Lj)⟩) rz⟩
    have some_:i3≠-1->(H0 n y.es (EG n z.ls)).isSome=true:=λAi=>by
     cases hq:H0 n y.es (EG n z.ls) with
     | none=>exact absurd (hK.none.2 hq) Ai
     | some w=>rfl
    have AKP:fa z=none->Am.E4 R n.kind n.op n.text a k1 c1 n.width n.back n.Be e k2 c2 n.bool n.parts x.kind x.v (aD b o) nx cx x.w j0 j2 j3 y.kind y.v py ny cy y.w j1 j4 j5 0 0 none 0 0 0 none 0 0 2 0 p8 n8 c8 0 none 0 0 true (i:Int) Z3:=λhfa=>next _ _ _ _ (by rw[hfa];simpa using Cm)
    have kp:∀(hfa:fa z=some z),_:=keep;refine⟨λKR=>?_,λKR=>⟨λADw=>⟨λAi=>?_,λheq=>⟨λh13=>absurd h13 (by omega),λ_=>AKP ?_⟩⟩,λADw=>⟨λh13=>⟨λheq=>?_,λAi=>AKP ?_⟩,λh13=>absurd ho.2 (by omega)⟩⟩⟩
    .obtain⟨k0,pp,nn,cc,vv,k1',k2'⟩:=keep (by rw[ye,Amt KR];rfl);exact⟨k0,pp,nn,cc,vv,k1',λbb rz=>k2' bb rz (by omega)⟩
    .obtain⟨k0,pp,nn,cc,vv,k1',k2'⟩:=keep (by rw[ye,some_ Ai,Amt ADw,Ams KR];rfl);exact⟨k0,pp,nn,cc,vv,k1',λbb rz=>k2' bb rz (by omega)⟩
    .rw[ye,hK.none.1 (Amy.1 heq),Amt ADw,Ams KR];rfl
    .obtain⟨k0,pp,nn,cc,vv,k1',k2'⟩:=keep (by rw[ye,hK.none.1 heq,Ams ADw,Ams KR];rfl);exact⟨k0,pp,nn,cc,vv,k1',λbb rz=>k2' bb rz (by omega)⟩
    .rw[ye,some_ Ai,Ams ADw,Ams KR];rfl
 suffices H:∀g i:Nat,∀(Z':Hp) (t9:Bool),t9=decide (11<=n.op)->ny-i=g->i<=ny->Ext Z Z'->(11<=n.op\/∀z∈y.es.take i,∃i',JX n y.es (EG n z.ls) i'/\i'≠-2)->Am.J6 R n.kind n.op n.text a k1 c1 n.width n.back n.Be e k2 c2 n.bool n.parts x.kind x.v px nx cx x.w j0 j2 j3 y.kind y.v py ny cy y.w j1 j4 j5 0 0 none 0 0 0 none 0 0 2 0 none 0 0 0 none 0 0 t9 (i:Int) Z' from H ny 0 Z _ rfl rfl (Amh _) (.refl _) (.inr λz hz=>by rw[Aop]at hz;cases hz)
 intro g
 induction g with
 | zero=>
  intro i Z' t9 ht9 hg hi hx Qo;rw[Amj (by omega)]at Qo;exact Am.HX ⟨λC=>by omega,λ_=>second nx 0 none 0 0 Z' t9 ht9 rfl (Amh _) (Qo.imp id λC=>⟨JX.all C,λz hz=>by rw[Aop]at hz;cases hz⟩) (AL.nil hx)⟩
 | succ g ih=>
  intro i Z' t9 ht9 hg hi hx Qo;have BT:i<ny:=by omega
  have ei:((i+1:Nat):Int)=(i:Int)+1:=by omega
  refine Am.HX ⟨λ_=>⟨λtf=>?_,λtt=>⟨by unfold AF;omega,?_⟩⟩,λC=>by omega⟩
  .have A:¬11<=n.op:=by rw[ht9]at tf;exact Am4 tf
   obtain⟨z,hz⟩:=jX.ex BT;obtain⟨b,o,q1,m1,d1,rfl,CH,Eg⟩:=Ad.at jX hz;have J2:=dC z (Ame hz);have Ba:In (i:Int) (ny:Int):=by unfold In;omega
   have ld1:Af Z' b (o+Int.toNat (i:Int)*2) [.slice q1 m1 d1,.U z.v]:=by simpa using CH.mono hx
   refine⟨b,o,rfl,Ba,q1,m1,d1,ld1.1,RO (Eg.mono A9.mono hx) (by have h3:z.ls.length=m1:=Eg.1;have:=J2.1;omega) (hN.mono hx).nm hN.m hN.g λp' n' c' Z2 Gw Ao=>⟨_,_,_,rfl,Kw (hN.mono (hx.trans Ao)) (jX.mono Ad.mono (hx.trans Ao)) (Gw.mono A9.mono (Ext.Cf _ _)) dC λi3 Z3 BO hK=>⟨_,rfl,λmT=>AXi A (.inr (hK.two mT)) Z3 none 0 0 [] (hx.trans (Ao.trans BO)) AT.nil (Amr _) (by decide),λmT=>⟨by unfold AF;omega,?_⟩⟩⟩⟩;have:=ih (i+1) Z3 false (by rw[Ams A]) (by omega) (by omega) (hx.trans (Ao.trans BO)) (Qo.imp id λC w hw=>by
    rw[AQ hz]at hw;rcases Am6.1 hw with hw|hw
    .exact C w hw
    .rw[Amo.1 hw];exact⟨i3,hK,mT⟩)
   rw[ei]at this;exact this
  .have A:11<=n.op:=by rw[ht9]at tt;exact Amg tt
   have:=ih (i+1) Z' true (by rw[Amt A]) (by omega) (by omega) hx (.inl A);rw[ei]at this;exact this
end
structure AeO (R:Rr)(Z:Hp)(o:Option S8):Prop where
 ok:∀d,o=some d->∀Z' p n c q m e,Ext Z Z'->AT 2 Ad Z' p n d.es->AT 2 Kq Z' q m d.rs->n<=c->R (.T #[cR d.kind d.v p n c d.w q m e,.bool true]) Z'
 no:o=none->∀Z' p n c (l:List El),Ext Z Z'->AT 2 Ad Z' p n l->n<=c->n<=100000000000->R (.T #[cR 2 0 p n c 0 none 0 0,.bool false]) Z'
def ja (n:Nd)(x y:S8):Option S8:=
 if x.kind=1/\y.kind=1 then some ⟨1,(A5 n.op x.v y.v).1,[],0,[]⟩
 else(if x.kind=1 then some (Jh n y.es (A5 n.op x.v)) else if y.kind=1 then some (Jh n x.es λv=>A5 n.op v y.v) else if 11<=n.op then some (JB n x.es y.es) else H3 FF n x.es y.es).map λl=>⟨2,0,l,0,[]⟩
section
variable {Z:Hp}{R:Rr}
theorem yA {n:Nd}{a e:Option Addr}{k1 c1 k2 c2:Nat}{x y:S8}{px j0 py j1:Option Addr}{nx cx j2 j3 ny cy j4 j5:Nat}(hN:NdB Z n e k2)(Bc:AT 2 Ad Z px nx x.es)(jX:AT 2 Ad Z py ny y.es)(ho:1<=n.op/\n.op<=13)(hsc:n.op<=10\/x.kind≠1/\y.kind≠1)(ft:∀z∈x.es,Ac z.ls)(dC:∀z∈y.es,Ac z.ls)(KZ:x.es.length<=100000000000)(Nz:y.es.length<=100000000000)(hkx:x.kind=1->x.es=[])(hky:y.kind=1->y.es=[])
  (h:AeO R Z (ja n x y)) :
  Spec prog 72 #[Ka n a k1 c1 e k2 c2,cR x.kind x.v px nx cx x.w j0 j2 j3,cR y.kind y.v py ny cy y.w j1 j4 j5] Z R:=by
 have both:x.kind=1->y.kind=1->∀v,v=(A5 n.op x.v y.v).1->R (.T #[.agg #[.I 1,.U v,.N,.I 0,.N],.bool true]) Z:=λh1 h2 v hv=>by
  subst hv;exact h.ok ⟨1,(A5 n.op x.v y.v).1,[],0,[]⟩ (Amc ⟨h1,h2⟩) Z none 0 0 none 0 0 (.refl _) AT.nil AT.nil (Amr _)
 have NO:(x.kind=1/\y.kind≠1\/x.kind≠1/\y.kind=1)->Spec prog 116 #[Ka n a k1 c1 e k2 c2,cR x.kind x.v px nx cx x.w j0 j2 j3,cR y.kind y.v py ny cy y.w j1 j4 j5] Z (BV R (λz AB=>∃En Eo Ep Er Es Eu Ev Ew Ex,z=(.agg #[.I En,.U Eo,.slice Ep Er Es,.I Eu,.slice Ev Ew Ex])/\R (.T #[.agg #[.I En,.U Eo,.slice Ep Er Es,.I Eu,.slice Ev Ew Ex],.bool true]) AB)):=λhk=>by
  refine jY Bc jX ⟨ho.1,by omega⟩ ft dC KZ Nz (hk.imp (λA=>⟨A.1,hkx A.1⟩) λA=>⟨A.1,A.2,hky A.2⟩) λZ' p n' c q m d Ju h1 h2 h3=>⟨_,_,_,_,_,_,_,_,_,rfl,h.ok ⟨2,0,_,0,[]⟩ ?_ Z' p n' c q m d Ju h1 h2 h3⟩;unfold ja;rw[Amb (by omega)];by_cases h9:x.kind=1
  .rw[Amc h9,Amc h9];rfl
  .rw[Amb h9,Amb h9,Amc (by omega)];rfl
 have dbl:x.kind≠1->y.kind≠1->Spec prog 117 #[Ka n a k1 c1 e k2 c2,cR x.kind x.v px nx cx x.w j0 j2 j3,cR y.kind y.v py ny cy y.w j1 j4 j5] Z (BV R (λz AB=>∃G4 G5 G6 G7 G8 G9 HA HB HC MK,z=(.tuple #[.agg #[.I G4,.U G5,.slice G6 G7 G8,.I G9,.slice HA HB HC],.bool MK])/\R (.T #[.agg #[.I G4,.U G5,.slice G6 G7 G8,.I G9,.slice HA HB HC],.bool MK]) AB)):=λh1 h2=>by
  have e1:ja n x y=(if 11<=n.op then some (JB n x.es y.es) else H3 FF n x.es y.es).map λl=>⟨2,0,l,0,[]⟩:=by
   unfold ja;rw[Amb (by omega),Amb h1,Amb h2]
  rw[e1]at h;refine jZ hN Bc jX ho ft dC KZ Nz ⟨λl hl Z' p n' c Ju hr C=>⟨_,_,_,_,_,_,_,_,_,_,rfl,h.ok ⟨2,0,l,0,[]⟩ (by rw[hl];rfl) Z' p n' c none 0 0 Ju hr AT.nil C⟩,λhl Z' p n' c l Ju hr C hn=>⟨_,_,_,_,_,_,_,_,_,_,rfl,h.no (by rw[hl];rfl) Z' p n' c l Ju hr C hn⟩⟩
 have AeP:BR n.op=true->(A5 n.op x.v y.v).1=if IT n.op x.v y.v then AY 1 else AY 0:=λC=>by
  unfold A5;rw[Amb (by unfold BR at C;simp only[Amn,Amq]at C;omega)]
 refine fW.start λ_ _ _ _=>⟨λG=>⟨λhy=>KL ⟨_,rfl,λC=>Dz ⟨_,rfl,Vk ⟨_,rfl,both G hy _ (AeP C).symm⟩⟩,λC=>⟨λ_=>⟨λ_=>?_,λA=>absurd hy A⟩,λA=>absurd G A⟩⟩,λhy=>⟨λ_=>⟨λA=>absurd A hy,λ_=>⟨λ_=>NO (.inl ⟨G,hy⟩),λA=>absurd G A⟩⟩,λA=>absurd G A⟩⟩,λG=>⟨λA=>absurd A G,λ_=>⟨λA=>absurd A G,λ_=>⟨λhy=>NO (.inr ⟨G,hy⟩),λhy=>dbl G hy⟩⟩⟩⟩;have sJ:1<=n.op/\n.op<=4:=by
  unfold BR at C;rw[An4,Am2,Am2]at C;omega
 exact Ku sJ ⟨_,rfl,both G hy _ (by unfold A5;rw[Amc sJ])⟩
end
structure Dr (v:Vv)(d:S8):Prop where
 k:d.kind=v.kind
 es:d.es=v.vec
 rs:d.rs=v.TE
 v1:v.kind=1->d.v=v.v
 w3:v.kind=3->AY d.w=v.v
structure sK (o:Option Vv)(r:Option S8):Prop where
 no:r=none->o=none
 yes:∀d,r=some d->(∀l,Cs FF d.es=some l->∃z,o=some z/\Dr z ⟨d.kind,d.v,l,d.w,d.rs⟩)/\(Cs FF d.es=none->o=none)
def S0 (ss:List Sr)(t:Int)(n:Nd)(L:List S8):Option S8:=
 if n.kind=1 then some ⟨1,Sn n.text,[],0,[]⟩
 else if n.kind=2 then some ⟨2,0,Hi FF n ss t,0,[]⟩
 else if n.kind=3 then some ⟨3,0,[],n.width,QP FF n ss t⟩
 else match L with
  | [x]=>if n.kind=4 then some ⟨2,0,JW FF n ⟨x.kind,AY x.w,x.es,x.rs⟩,0,[]⟩ else if n.kind=5 then some ⟨2,0,NQ FF n ⟨2,0,x.es,[]⟩,0,[]⟩ else if n.kind=7 then some (if x.kind=1 then⟨1,QW x.v,[],0,[]⟩ else⟨2,0,x.es.map λy=>⟨Bg y.ls,QW y.v⟩,0,[]⟩) else none
  | [x,y]=>if n.kind=6 then ja n x y else none
  | _=>none
theorem AHU:Cs FF []=some []:=RE rfl (.refl _) .nil
theorem jb {v:Int}{o:Option Vv}(h:o=some ⟨1,v,[],[]⟩):sK o (some ⟨1,v,[],0,[]⟩):=⟨λA=>(by cases A),λd hd=>by
 cases hd;refine⟨λl C=>⟨_,h,?_⟩,λC=>absurd (AHU.symm.trans C) (by simp)⟩;have G:Cs FF []=some l:=C;rw[AHU]at G;cases G;exact⟨rfl,rfl,rfl,λ_=>rfl,λA=>absurd (show(1:Int)=3 from A) (by decide)⟩⟩
theorem Kx {C:List El}{o:Option Vv}(h:o=(Cs FF C).map λl=>⟨2,0,l,[]⟩):sK o (some ⟨2,0,C,0,[]⟩):=⟨λA=>(by cases A),λd hd=>by
 cases hd;refine⟨λl G=>⟨⟨2,0,l,[]⟩,?_,rfl,rfl,rfl,λA=>absurd (show(2:Int)=1 from A) (by decide),λA=>absurd (show(2:Int)=3 from A) (by decide)⟩,λG=>?_⟩
 .rw[h,show Cs FF C=some l from G];rfl
 .rw[h,show Cs FF C=none from G];rfl⟩
theorem AHV {n:Nd}{x y:Vv}{a b:S8}(hx:Dr x a)(hy:Dr y b)(ho:n.op<=13):sK (dc FF n x y) (ja n a b):=by
 unfold dc ja;rw[hx.k,hy.k,hx.es,hy.es];by_cases A:x.kind=1/\y.kind=1
 .rw[Amc A,Amc A,hx.v1 A.1,hy.v1 A.2];exact jb rfl
 rw[Amb A,Amb A];by_cases C:x.kind=1
 .rw[Amc C,Amc C,hx.v1 C];exact Kx rfl
 rw[Amb C,Amb C];by_cases G:y.kind=1
 .rw[Amc G,Amc G,hy.v1 G];exact Kx rfl
 rw[Amb G,Amb G];by_cases Iq:11<=n.op
 .rw[Amc ⟨Iq,ho⟩,Amc Iq];exact Kx rfl
 rw[Amb (λhh=>Iq hh.1),Amb Iq];cases hq:H3 FF n x.vec y.vec with
 | none=>exact⟨λ_=>rfl,λd hd=>(by cases hd)⟩
 | some w=>exact Kx rfl
theorem AOW {ss:List Sr}{t:Int}{n:Nd}{L:List Vv}{M:List S8}(hs:DJ none ss=true)(hl:M.length=L.length)(hD:∀(i:Nat) (v:Vv) (d:S8),L[i]?=some v->M[i]?=some d->Dr v d)(hV:∀x∈L,VG x)(ho:n.kind=6->n.op<=13):sK (FC FF ss t n L) (S0 ss t n M):=by
 unfold FC S0;by_cases h1:n.kind=1
 .rw[Amc h1,Amc h1];exact jb rfl
 rw[Amb h1,Amb h1];by_cases h2:n.kind=2
 .rw[Amc h2,Amc h2];refine Kx ?_;rw[show Cs FF (Hi FF n ss t)=some (Hi FF n ss t) from RE rfl (.refl _) (fz hs).up];rfl
 rw[Amb h2,Amb h2];by_cases h3:n.kind=3
 .rw[Amc h3,Amc h3];refine⟨λhh=>(by cases hh),λd A=>?_⟩;cases A;refine⟨λl hl=>⟨_,rfl,?_⟩,λhl=>absurd (AHU.symm.trans hl) (by simp)⟩;have Vz:Cs FF []=some l:=hl;rw[AHU]at Vz;cases Vz;exact⟨rfl,rfl,rfl,λhh=>absurd (show(3:Int)=1 from hh) (by decide),λ_=>rfl⟩
 rw[Amb h3,Amb h3]
 match L,M,hl with
 | [x],[a],_=>
  have C:=hD 0 x a rfl rfl;have sx:=(hV x (by simp)).sh;unfold Sh at sx;dsimp only;by_cases h4:n.kind=4
  .rw[Amc h4,Amc h4];have e:JW FF n ⟨a.kind,AY a.w,a.es,a.rs⟩=JW FF n x:=by
    unfold JW;rw[C.es,C.rs];rcases sx with ⟨_,_,h9⟩|⟨_,h9⟩|⟨h9,_⟩
    .rw[h9];rfl
    .rw[h9];rfl
    .rw[C.w3 h9]
   rw[e];exact Kx rfl
  rw[Amb h4,Amb h4];by_cases h5:n.kind=5
  .rw[Amc h5,Amc h5];have e:NQ FF n ⟨2,0,a.es,[]⟩=NQ FF n x:=by unfold NQ;rw[C.es]
   rw[e];exact Kx rfl
  rw[Amb h5,Amb h5];by_cases h7:n.kind=7
  .rw[Amc h7,Amc h7];unfold mB;rw[C.k];by_cases hk:x.kind=1
   .rw[Amc hk,Amc hk,C.v1 hk];exact jb rfl
   .rw[Amb hk,Amb hk,C.es];exact Kx rfl
  .rw[Amb h7,Amb h7];exact⟨λ_=>rfl,λd A=>(by cases A)⟩
 | [x,y],[a,b],_=>
  dsimp only;by_cases G:n.kind=6
  .rw[Amc G,Amc G];exact AHV (hD 0 x a rfl rfl) (hD 1 y b rfl rfl) (ho G)
  .rw[Amb G,Amb G];exact⟨λ_=>rfl,λd A=>(by cases A)⟩
 | [],[],_=>exact⟨λ_=>rfl,λd A=>(by cases A)⟩
 | _::_::_::_,_::_::_::_,_=>exact⟨λ_=>rfl,λd A=>(by cases A)⟩
theorem AKQ:JI 0:=by unfold JI;omega
theorem cd {l m:List El}(h:Cs FF l=some m)(C:∀e∈l,JI e.v):yc ⟨2,0,m,[]⟩:=⟨AKQ,λe A=>C e ((Ma h).mem_iff.1 A),λr G=>(by cases G)⟩
theorem ADx {v:Int}(h:JI v):yc ⟨1,v,[],[]⟩:=⟨h,λe A=>(by cases A),λr C=>(by cases C)⟩
theorem vG {ls:List Lb}{v:Int}:∀{l:List Rg} {g:Rg},g∈EO ls v l->∀x∈g.vs,x=v\/∃y∈l,x∈y.vs
 | [],g,h,x,A=>by
  unfold EO at h;rw[Amo]at h;rw[h]at A;exact .inl (by simpa using A)
 | y::l,g,h,x,A=>by
  unfold EO at h;split at h
  .rcases Aml.1 h with rfl|h
   .rcases Am6.1 A with A|A
    .exact .inr ⟨y,by simp,A⟩
    .exact .inl (by simpa using A)
   .exact .inr ⟨g,Amk _ h,A⟩
  .rcases Aml.1 h with rfl|h
   .exact .inr ⟨g,by simp,A⟩
   .rcases vG h x A with h|⟨z,C,h⟩
    .exact .inl h
    .exact .inr ⟨z,Amk _ C,h⟩
theorem ni {n:Nd}:∀(l:List El) (gs:List Rg),(∀e∈l,JI e.v)->(∀g∈gs,∀x∈g.vs,JI x)->∀g∈l.foldl (λgs x=>EO (Bz n x.ls) x.v gs) gs,∀x∈g.vs,JI x
 | [],gs,_,h=>h
 | x::l,gs,C,h=>by
  refine ni l _ (λe G=>C e (Amk _ G)) λg hg z hz=>?_;rcases vG hg z hz with A|⟨y,hy,A⟩
  .rw[A];exact C x (by simp)
  .exact h y hy z A
theorem AKR {n:Nd}{l:List El}{f:Int->Int×Bool}(hl:∀e∈l,JI e.v)(G:∀v,JI (f v).1):∀e∈Jh n l f,JI e.v:=λe C=>by
 obtain⟨y,hy,A⟩:=AnU.1 C;split at A
 .simp only[Ami]at A;subst A;exact G _
 .split at A
  .simp only[Ami]at A;subst A;exact hl y hy
  .cases A
theorem AXo {n:Nd}{x y v:Vv}(hx:yc x)(hy:yc y)(h:dc FF n x y=some v):yc v:=by
 unfold dc at h;split at h
 .cases h;exact ADx (Xh _ _ _)
 .obtain⟨m,hm,rfl⟩:=map_some h;split at hm
  .exact cd (show Cs FF (Jh n y.vec (FF.NO n.op x.v))=some m from hm) (AKR hy.es λv=>Xh _ _ _)
  .split at hm
   .exact cd (show Cs FF (Jh n x.vec λv=>FF.NO n.op v y.v)=some m from hm) (AKR hx.es λv=>Xh _ _ _)
   .split at hm
    .refine cd (show Cs FF (JB n x.vec y.vec)=some m from hm) λe C=>?_;unfold JB at C;rcases Am6.1 C with C|C
     .exact hx.es e (Anl.1 C).1
     .exact hy.es e (Anl.1 C).1
    .cases G:H3 FF n x.vec y.vec with
     | none=>rw[G]at hm;cases hm
     | some w=>
      rw[G]at hm;refine cd (show Cs FF w=some m from hm) ?_;unfold H3 at G;split at G
      .simp only[Ami]at G;subst G;intro e C;obtain⟨z,hz,A⟩:=AnU.1 C;split at A
       .cases A
       .split at A
        .simp only[Ami]at A;subst A;exact Xh _ _ _
        .split at A
         .simp only[Ami]at A;subst A;exact hx.es z hz
         .cases A
      .cases G
theorem AOX {ss:List Sr}{n:Nd}{t:Int}{L:List Vv}{v:Vv}(hs:∀s∈ss,∀p∈s.ps,JI p.2)(hV:∀x∈L,yc x)(h:FC FF ss t n L=some v):yc v:=by
 unfold FC at h;split at h
 .cases h;exact ADx (AN9 _)
 split at h
 .cases h;refine⟨AKQ,λe A=>?_,λr hr=>(by cases hr)⟩;obtain⟨s,Hv,G⟩:=AnU.1 A;split at G
  .cases G
  .rename_i p Qb;split at G
   .cases G
   .simp only[Ami]at G;subst G;exact hs s Hv p (Anl.1 (Aom Qb)).1
 split at h
 .cases h;refine⟨UK _,λe A=>(by cases A),λr hr x hx=>?_⟩;obtain⟨s,Hv,C⟩:=AnU.1 hr;dsimp only at C;generalize hb:(!_&&FF.ic n.mt s.ls)=b at C;cases b with
  | false=>cases C
  | true=>
   simp only[ApB,Ami]at C;subst C;obtain⟨p,hp,rfl⟩:=AnA.1 hx;exact hs s Hv p (Anl.1 (Anl.1 hp).1).1
 match L with
 | [x]=>
  have hx:=hV x (by simp);dsimp only at h;split at h
  .obtain⟨m,hm,rfl⟩:=map_some h;refine cd hm λe A=>?_;rcases Am6.1 A with A|A
   .obtain⟨y,hy,rfl⟩:=AnA.1 A;show JI (if n.op=11 then Rc y.v else Hl y.v)
    split
    .exact AN8 _
    .exact ADf _
   .obtain⟨y,hy,C⟩:=AnU.1 A;have h2:(Ey n.op y.vs x.v).map (λv=>(⟨Bg y.ls,v⟩:El))=some e:=C;cases ho:Ey n.op y.vs x.v with
    | none=>rw[ho]at h2;cases h2
    | some z=>
     rw[ho]at h2;simp only[AnK,Ami]at h2;subst h2;exact AHA (hx.rs y hy) ho
  split at h
  .obtain⟨m,hm,rfl⟩:=map_some h;refine cd hm λe A=>?_;obtain⟨g,hg,rfl⟩:=AnA.1 A;exact ADe (ni (n:=n) x.vec [] hx.es (λg hg=>by cases hg) g hg)
  split at h
  .unfold mB at h;split at h
   .cases h;exact ADx (uw _)
   .obtain⟨m,hm,rfl⟩:=map_some h;refine cd hm λe A=>?_;obtain⟨y,hy,rfl⟩:=AnA.1 A;exact uw _
  .cases h
 | [x,y]=>
  dsimp only at h;split at h
  .exact AXo (hV x (by simp)) (hV y (by simp)) h
  .cases h
 | []=>cases h
 | _::_::_::_=>cases h
theorem sN {x m:Nat}{s:Bool}{i:Int}(h:Ieee.double.read x=.number s m i):m<9007199254740992:=by
 have A:Ieee.double.signWeight=9223372036854775808:=by kernel_rfl
 have C:Ieee.double.binade=4503599627370496:=by kernel_rfl
 have G:Ieee.double.infRung=9218868437227405312:=by kernel_rfl
 unfold Ieee.Format.read at h;simp only[A,C,G]at h;split at h
 .injection h with h1 h2 h3
  omega
 .split at h
  .injection h with h1 h2 h3
   omega
  .split at h
   .cases h
   .cases h
theorem ADy {x m:Nat}{s:Bool}{i:Int}(hx:x<18446744073709551616)(A:Ieee.double.read x=.number s m i):Ieee.double.div x 4607182418800017408=some x:=by
 have h1:Ieee.double.read 4607182418800017408=.number false 4503599627370496 (-52):=by kernel_rfl
 have C:=rk hx (by rw[A];rfl);have hm:=sN A;have hl:m.log2<=52:=by
  by_cases G:m=0
  .subst G;decide
  .have:=(AqO G (k:=53)).2 (by omega);omega
 rw[A]at C;unfold Ieee.Format.div;rw[A,h1];simp only[Ieee.Datum.quotient];rw[Amb (by decide),show(4503599627370496:Nat).log2=52 by kernel_rfl,show Ieee.double.fractionBits=52 by kernel_rfl];obtain⟨k,hk⟩:∃k,52+2+52-m.log2=52+k:=⟨54-m.log2,by omega⟩;have e:m <<< (52+k)=m*2^k*4503599627370496:=by
  rw[Api,Ao2,show(2:Nat)^52=4503599627370496 by decide,Apr 4503599627370496,ApH]
 rw[hk,e,Nat.mul_div_cancel _ (by decide),Nat.mul_mod_left,Bool.xor_false,AnK];simp only[Ieee.Format.write]at C ⊢;rw[show(2*(m*2^k)+((0:Nat) != 0).toNat)=m*2^(k+1) by show 2*(m*2^k)+0=_;rw[Ank,Aps,Apr 2,ApH],show(i - -52-((52+k:Nat):Int)-1)=i-((k+1:Nat):Int) by omega,dn,C]
theorem yB {m:Nat}(hm:m<1000000000000000):∃s k i,Ieee.double.read (FloatKind.f64.nearest (m:Int))=.number s k i:=by
 obtain⟨k,A⟩:=AGu (n:=(m:Int)) (by omega);exact⟨_,_,_,A⟩
theorem AHW {m:Nat}(hm:m<1000000000000000):FloatKind.f64.nearest (m:Int)<18446744073709551616:=by
 have:FloatKind.f64.nearest (m:Int)=Ieee.double.write (.number (decide ((m:Int)<0)) (m:Int).natAbs 0):=rfl;rw[this];exact write_lt _
theorem ADz {m:Nat}(hm:m<1000000000000000):S7 4 (FloatKind.f64.nearest (m:Int)) (FloatKind.f64.nearest ((10^0:Nat):Int))=toF (FloatKind.f64.nearest (m:Int)):=by
 obtain⟨s,k,i,h⟩:=yB hm;have e:FloatKind.f64.nearest ((10^0:Nat):Int)=4607182418800017408:=by kernel_rfl
 rw[e];unfold S7;rw[show fAr 4 (FloatKind.f64.nearest (m:Int)) 4607182418800017408=Ieee.double.div (FloatKind.f64.nearest (m:Int)) 4607182418800017408 from rfl,ADy (AHW hm) h];rfl
theorem AD0:((List.range 16).all λc=>S7 4 (FloatKind.f64.nearest ((0:Nat):Int)) (FloatKind.f64.nearest ((10^c:Nat):Int))==toF 0)=true:=by kernel_rfl
theorem AHX:((List.range 16).all λc=>FloatKind.f64.nearest ((10^c:Nat):Int)==T3.getD c 0)=true:=by kernel_rfl
theorem AHY {s:ByteArray}(ht:FG s=true){c:Nat}(hc:c<=15)(G:(Gh s).m≠0->T5 (Gh s)=-(c:Int)):((S7 4 (FloatKind.f64.nearest ((Gh s).m:Int)) (FloatKind.f64.nearest ((10^c:Nat):Int)):Nat):Int)=Sn s:=by
 have hm:=(uO ht).2.2;unfold Sn;dsimp only;by_cases A:(Gh s).m=0
 .rw[Amc A,A];have:=AnJ.1 AD0 c (Aoe.2 (by omega));rw[AoA]at this;rw[this]
 .rw[Amb A,G A];by_cases C:c=0
  .subst C;rw[Amc (by decide),ADz hm]
  .rw[Amb (by omega),show(- -(c:Int)).toNat=c by omega];have:=AnJ.1 AHX c (Aoe.2 (by omega));rw[AoA]at this;rw[this]
section
variable {Z:Hp}{R:Rr}
theorem UN {u:UInt8}(h:R (.returned (.bool (EP u))) Z):Spec prog 138 #[.int .u8 ((u.toNat:Nat):Int)] Z R:=by
 refine V7.start ⟨λA=>?_,λA=>?_⟩
 .rw[show decide ((((u.toNat:Nat):Int))<=57)=EP u from Ane.2 ⟨λg=>⟨by omega,by omega⟩,λg=>by have:=g.2;omega⟩];exact h
 .rw[show EP u=false from Ams λg=>A (by have:=g.1;omega)]at h;exact h
def JR (s:ByteArray):Bool:=s.data.toList.all EP&&decide (s.size≠0)&&(decide (s.size=1)||decide (s.data[0]?≠some 48))
theorem jc {s:ByteArray}(hb:s.size<=4611686018427387904)(h:R (.returned (.bool (JR s))) Z):Spec prog 137 #[.string s] Z R:=by
 have hlen:s.data.toList.length=s.size:=Anf (xs:=s.data);refine Iy.start ?_
 suffices H:∀g k:Nat,s.size-k=g->k<=s.size->(∀u∈s.data.toList.take k,EP u=true)->Iy.E5 R s (k:Int) Z from H s.size 0 rfl (Amh _) (λu A=>by rw[Aop]at A;cases A)
 intro g
 induction g with
 | zero=>
  intro k hg hk GQ;rw[Amj (by omega)]at GQ;have ha:s.data.toList.all EP=true:=AnJ.2 GQ;refine Iy.Ag ⟨λhh=>by omega,λ_=>⟨λG=>?_,λG=>?_⟩⟩
  .have h0:s.size≠0:=by rw[fc]at G;exact Am4 G
   refine⟨λh1=>?_,λh1=>?_⟩
   .rw[show JR s=true by unfold JR;rw[ha,Amt h0,Amt (by omega)];rfl]at h;exact h
   .obtain⟨u,A,_⟩:=byte_at (show 0<s.size by omega);refine⟨u,by omega,by simpa using A,?_⟩;have KQ:=JP (u:=u) (k:=48) (by decide);rw[show JR s=decide ((((u.toNat:Nat):Int))≠48) by
     unfold JR;rw[ha,Amt h0,Ams (by omega),Anw,Anw,Bool.false_or,A];exact Ane.2 ⟨λg e=>g (by rw[KQ.1 e];rfl),λg e=>g (KQ.2 (by simpa using e))⟩]at h
    exact h
  .have h0:s.size=0:=by rw[fc]at G;exact Amg G
   rw[show JR s=false by unfold JR;rw[Ams (λhh=>hh h0),AoR,Anv]]at h;exact h
 | succ g ih=>
  intro k hg hk GQ;obtain⟨u,A,D4⟩:=byte_at (show k<s.size by omega);refine Iy.Ag ⟨λ_=>⟨u,by omega,by simpa using A,UN ⟨_,rfl,λhf=>?_,λht=>⟨AI (by omega:k<s.size) hb,?_⟩⟩⟩,λhh=>by omega⟩
  .rw[show JR s=false by
    unfold JR;have e1:s.data.toList.all EP=false:=by
     rw[An2];intro e;rw[AnJ]at e;rw[e u (Ame D4)]at hf;cases hf
    rw[e1,Anv,Anv]]at h
   exact h
  .have:=ih (k+1) (by omega) (by omega) λv C=>by
    rw[AQ D4]at C;rcases Am6.1 C with C|C
    .exact GQ v C
    .rw[Amo.1 C];exact ht
   rw[show((k+1:Nat):Int)=(k:Int)+1 by omega]at this;exact this
theorem SK {s:ByteArray}(hb:s.size<=4611686018427387904)(h:R (.returned (.bool (FG s))) Z):Spec prog 85 #[.string s] Z R:=by
 have hlen:s.data.toList.length=s.size:=Anf (xs:=s.data);have d46:EP 46=false:=by decide
 have hle:=NZ s;refine CE.start ⟨by unfold AF;omega,?_⟩;have fin:∀k:Nat,k<=s.size->(∀u,s.data.toList[k]?=some u->u=46)->(∀j u,j<k->s.data.toList[j]?=some u->u≠46)->CE.AR R s (k:Int) (-1) Z:=λk hk AOY hbe=>by
  refine CE.AM ⟨λhh=>by omega,λ_=>⟨s.extract 0 k,ACL hk,jc (by rw[AnX];omega) ⟨_,rfl,λhw=>?_,λhw=>?_⟩⟩⟩
  .have CU:FG s=false:=by
    rw[An2];intro C;obtain⟨g1,g2⟩:AV s≠0/\¬(1<AV s/\s.data[0]?=some 48):=by
     unfold FG at C;refine⟨λe=>(by rw[Amc e]at C;cases C),λe=>?_⟩;by_cases h0:AV s=0
     .rw[Amc h0]at C;cases C
     .rw[Amb h0,Amc e]at C;cases C
    have hT:s.data.toList.takeWhile EP=s.data.toList.take (AV s):=by
     unfold AV;exact(Aot.1 (Ao8 _))
    have Sp:∀u∈s.data.toList.take (AV s),EP u=true:=λu A=>by rw[<-hT]at A;exact bZ A
    have hdk:AV s=k:=by
     rcases Ao3 (AV s) k with Av|he|hgt
     .obtain⟨u,A,D4⟩:=byte_at (show AV s<s.size by omega);unfold FG at C;rw[Amb g1,Amb g2,Amb (by omega),A]at C;have:=(Amg C).1;exact absurd (by simpa using this) (hbe _ u Av D4)
     .exact he
     .obtain⟨u,A,D4⟩:=byte_at (show k<s.size by omega);have G:=AOY u D4;have h2:=Sp u (Ame (i:=k) (by rw[Am5,Amc hgt];exact D4));rw[G,d46]at h2;cases h2
    subst hdk;have J2:(s.extract 0 (AV s)).size=AV s:=by rw[AnX];omega
    have hW:JR (s.extract 0 (AV s))=true:=by
     unfold JR;rw[KN,Ao7,Aqi,AnJ.2 Sp,J2,Amt g1,Anw,Anw,AoJ];by_cases G:AV s=1
     .exact .inl (Amt G)
     .refine .inr (Amt λe=>g2 ⟨by omega,?_⟩);rw[An8,Ao0]at e;split at e
      .simpa using e
      .cases e
    rw[hW]at hw;cases hw
   rw[CU]at h;exact h
  .unfold JR at hw;rw[KN,Ao7,Aqi,Amn,Amn]at hw;obtain⟨⟨w1,w2⟩,w3⟩:=hw;have J2:(s.extract 0 k).size=k:=by rw[AnX];omega
   rw[J2]at w2 w3;have hk0:k≠0:=Amg w2;rw[AnJ]at w1;have hd:AV s=k:=IU (by omega) (λj u hj A=>w1 u (Ame (i:=j) (by rw[Am5,Amc hj];exact A))) (λu A=>by rw[AOY u A];exact d46);have AC8:¬(1<k/\s.data[0]?=some 48):=λe=>by
    rw[AoJ]at w3;rcases w3 with w3|w3
    .have:=Amg w3;omega
    .refine Amg w3 ?_;rw[An8,Ao0,Amc (by have:s.data.size=s.size:=rfl;omega)];simpa using e.2
   refine⟨λhe=>?_,λhe=>⟨by unfold AF;omega,?_⟩⟩
   .rw[show FG s=decide ((((s.size:Nat):Int))<=15) by
     unfold FG;rw[hd,Amb hk0,Amb AC8,Amc (by omega)];exact Ane.2 (by omega)]at h
    exact h
   .have hks:k<s.size:=by omega
    obtain⟨u46,AeQ,AXp⟩:=byte_at hks;have e46:=AOY u46 AXp;subst e46;have hO:FG s=decide (some (46:UInt8)=some 46/\0<AV (s.extract (k+1) s.size)/\k+1+AV (s.extract (k+1) s.size)=s.size/\k+AV (s.extract (k+1) s.size)<=15):=by
     unfold FG;rw[hd,Amb hk0,Amb AC8,Amb (by omega),AeQ]
    have hm:=NZ (s.extract (k+1) s.size);have hmz:(s.extract (k+1) s.size).size=s.size-(k+1):=by rw[AnX];omega
    have JO:(s.extract (k+1) s.size).data.toList=s.data.toList.drop (k+1):=by
     rw[KN,Amj (by rw[Amx];omega)]
    suffices H:∀g i:Nat,s.size-i=g->k+1<=i->i<=s.size->(∀j u,k+1<=j->j<i->s.data.toList[j]?=some u->EP u=true)->CE.AFo R s (k:Int) (i:Int) Z by
     have:=H (s.size-(k+1)) (k+1) rfl (Amr _) (by omega) (λj u G h2=>by omega);rw[show((k+1:Nat):Int)=(k:Int)+1 by omega]at this;exact this
    intro g
    induction g with
    | zero=>
     intro i hg G h2 GQ;have hd2:AV (s.extract (k+1) s.size)=s.size-(k+1):=by
      refine IU (by rw[JO,Amx];omega) (λj u hj A=>?_) λu A=>?_
      .rw[JO,Am3]at A;exact GQ (k+1+j) u (by omega) (by omega) A
      .rw[JO,Am3]at A;have:=(Amd.1 A).1;omega
     rw[hO,hd2]at h;refine CE.tY ⟨λhh=>by omega,λ_=>⟨by unfold AF;omega,λh3=>?_,λh3=>?_⟩⟩
     .rw[show decide (some (46:UInt8)=some 46/\0<s.size-(k+1)/\k+1+(s.size-(k+1))=s.size/\k+(s.size-(k+1))<=15)=decide ((((s.size:Nat):Int))<=16) from Ane.2 ⟨λg=>by omega,λg=>⟨rfl,by omega,by omega,by omega⟩⟩]at h;exact h
     .rw[Ams (λg=>by omega)]at h;exact h
    | succ g ih=>
     intro i hg G h2 GQ;obtain⟨u,A,D4⟩:=byte_at (show i<s.size by omega);refine CE.tY ⟨λ_=>⟨u,by omega,by simpa using A,UN ⟨_,rfl,λhf=>?_,λC=>⟨AI (by omega:i<s.size) hb,?_⟩⟩⟩,λhh=>by omega⟩
     .have Ai:¬(k+1+AV (s.extract (k+1) s.size)=s.size):=λe=>by
       have hp:=Ao8 (p:=EP) (l:=(s.extract (k+1) s.size).data.toList);have hl:((s.extract (k+1) s.size).data.toList.takeWhile EP).length=(s.extract (k+1) s.size).data.toList.length:=by
        rw[show((s.extract (k+1) s.size).data.toList.takeWhile EP).length=AV (s.extract (k+1) s.size) from rfl,JO,Amx];omega
       have Ug:=hp.eq_of_length hl;have:u∈(s.extract (k+1) s.size).data.toList:=by
        rw[JO];refine Ame (i:=i-(k+1)) ?_;rw[Am3,show k+1+(i-(k+1))=i by omega];exact D4
       rw[<-Ug]at this;rw[bZ this]at hf;cases hf
      rw[hO,Ams (λg=>Ai g.2.2.1)]at h;exact h
     .have:=ih (i+1) (by omega) (by omega) (by omega) λj v eH hj2 hv=>by
       by_cases dF:j=i
       .subst dF;rw[D4]at hv;cases hv;exact C
       .exact GQ j v eH (by omega) hv
      rw[show((i+1:Nat):Int)=(i:Int)+1 by omega]at this;exact this
 suffices H:∀g:Nat,∀k:Nat,g<=s.size->g<=k->k<=s.size->(∀u,s.data.toList[k]?=some u->u=46)->(∀j u,g<=j->j<k->s.data.toList[j]?=some u->u≠46)->CE.AR R s (k:Int) ((g:Int)-1) Z from H s.size s.size (Amr _) (Amr _) (Amr _) (λu A=>by have:=(Amd.1 A).1;omega) (λj u G h2=>by omega)
 intro g
 induction g with
 | zero=>
  intro k _ _ hk G h2;exact fin k hk G λj u hj=>h2 j u (Amh _) hj
 | succ g ih=>
  intro k hg hgk hk G h2;have ew:((g+1:Nat):Int)-1=(g:Int):=by omega
  obtain⟨u,A,D4⟩:=byte_at (show g<s.size by omega);have k8:=JP (u:=u) (k:=46) (by decide);rw[ew];refine CE.AM ⟨λ_=>⟨u,by omega,by simpa using A,λe=>CE.Gn ⟨by unfold AF;omega,?_⟩,λe=>CE.Gn ⟨by unfold AF;omega,?_⟩⟩,λhh=>by omega⟩
  .exact ih g (by omega) (Amr _) (by omega) (λv hv=>by rw[D4]at hv;cases hv;exact k8.1 e) (λj v h3 h4=>by omega)
  .refine ih k (by omega) (by omega) hk G λj v h3 h4 hv=>?_;by_cases hjg:j=g
   .subst hjg;rw[D4]at hv;cases hv;exact λe2=>e (k8.2 e2)
   .exact h2 j v (by omega) h4 hv
theorem jd {s:ByteArray}(ht:FG s=true)(h:R (.T #[.U (Sn s),.bool true]) Z):Spec prog 66 #[.string s] Z R:=by
 obtain⟨hs0,AGV,⟨u0,hu0,hd0⟩,hby,xG,AGW⟩:=MW ht;have hlen:s.data.toList.length=s.size:=Anf (xs:=s.data);have ACa:∀k,mU s k<=15:=λk=>AnL (Aoz ((ApX _ _).filter _)) xG;refine Ef.start (SK (by omega) ⟨_,rfl,λhf=>(by rw[ht]at hf;cases hf),λ_=>?_⟩)
 suffices H:∀g k:Nat,∀(r:Rs) (c:Nat),s.size-k=g->k<=s.size->ROk s k r->(c:Int)=(if r.dot=true then(r.nd:Int)-r.dp else 0)->Ef.Ws R s ((r.m:Nat):Int) ((10^c:Nat):Int) r.dot (k:Int) Z from H s.size 0 ⟨0,false,0,0⟩ 0 rfl (Amh _) .zero rfl
 intro g
 induction g with
 | zero=>
  intro k r c hg hk C A;have Rm:k=s.size:=by omega
  have er:r=Gh s:=by rw[C.is,Amj (by omega)];rfl
  have cu:=ACa k;have h3:=C.lo;have G:c<=15:=by split at A<;>omega
  have hp:=MX G;have hm:=ApQ C.m (MX (by have:=C.nd;omega));refine Ef.TM ⟨λhh=>by omega,λ_=>MU (v:=.float .f64 (FloatKind.f64.nearest ((r.m:Nat):Int))) (λw=>by kernel_rfl) ⟨_,rfl,MU (v:=.float .f64 (FloatKind.f64.nearest ((10^c:Nat):Int))) (λw=>by kernel_rfl) ⟨_,rfl,XZ λy hy=>⟨_,rfl,Co ⟨_,rfl,?_⟩⟩⟩⟩⟩;have e9:=AHY ht G (λhm0=>by
   unfold T5;rw[Amb hm0];rw[er]at A;split
   .rename_i hdt;rw[Amc hdt]at A;omega
   .rename_i hdt;rw[Amb hdt]at A;omega)
  rw[hy,er,e9];exact h
 | succ g ih=>
  intro k r c hg hk C A;obtain⟨u,hu,D4⟩:=byte_at (show k<s.size by omega);have E7:=C.step D4 (hby u (Ame D4));have k8:=JP (u:=u) (k:=46) (by decide);have cu:=ACa k;have G:c<=15:=by have h3:=C.lo;split at A<;>omega
  have hp:=MX G;have hm:=ApQ C.m (MX (by have:=C.nd;omega));have next:∀(r':Rs) (c':Nat) (x4 x5:Int) (t6:Bool),r'=D2 r u->x4=((r'.m:Nat):Int)->x5=((10^c':Nat):Int)->t6=r'.dot->(c':Int)=(if r'.dot=true then(r'.nd:Int)-r'.dp else 0)->Ef.gx R s x4 x5 t6 (k:Int) Z:=λr' c' x4 x5 t6 Um h4 h5 h6 h7=>by
   subst h4;subst h5;subst h6;have:=ih (k+1) r' c' (by omega) (by omega) (by rw[Um];exact E7) h7;rw[show((k+1:Nat):Int)=(k:Int)+1 by omega]at this;exact Ef.gy ⟨AI (by omega:k<s.size) (by omega:s.size<=4611686018427387904),this⟩
  refine Ef.TM ⟨λ_=>⟨u,by omega,by simpa using hu,λe=>?_,λe=>λLi e22=>⟨u,by omega,by simpa using hu,λjv e26 LY e27 Kj e28=>?_⟩⟩,λhh=>by omega⟩
  .have e46:u=46:=k8.1 e;subst e46;have hnd:r.dot=false:=by
    cases hq:r.dot with
    | false=>rfl
    | true=>
     obtain⟨j,hj,eF⟩:=C.sw hq;have:=AGW j k eF D4;omega
   rw[hnd]at A;have hc0:c=0:=by have:(c:Int)=0:=A;omega
   subst hc0;exact next { r with dot:=true,dp:=r.nd } 0 _ _ _ (by unfold D2;rw[Amc rfl]) rfl rfl rfl (by show((0:Nat):Int)=(r.nd:Int)-(r.nd:Int);omega)
  .have Ai:u≠46:=λe2=>e (k8.2 e2);have hdg:=(hby u (Ame D4)).resolve_right Ai;have hn:=IW hdg;have ANS:Li=10*(r.m:Int):=by rw[e22];exact T7 (by omega) (by omega)
   have AeS:jv=(u.toNat:Int)-48:=by rw[e26];exact AJ3 (by omega) (by omega)
   have AeT:LY=(u.toNat:Int)-48:=by rw[e27,AeS];exact T7 (by omega) (by omega)
   have AXq:Kj=10*(r.m:Int)+((u.toNat:Int)-48):=by rw[e28,ANS,AeT];exact T7 (by omega) (by omega)
   have Um:∃r':Rs,r'=D2 r u/\r'.dot=r.dot/\((r'.m:Nat):Int)=10*(r.m:Int)+((u.toNat:Int)-48)/\(r'.nd:Int)-r'.dp=(r.nd:Int)-r.dp+1:=by
    refine⟨_,rfl,?_⟩;unfold D2;rw[Amb Ai];split
    .rename_i oX;have h1:u.toNat=48:=by rw[oX.1];rfl
     have hm0:=C.m;rw[oX.2,Nat.pow_zero]at hm0;exact⟨rfl,by dsimp only;omega,by dsimp only;omega⟩
    .exact⟨rfl,by dsimp only;omega,by dsimp only;omega⟩
   obtain⟨r',q1,q2,q3,q4⟩:=Um;refine⟨λtd=>λYh e31=>?_,λtf=>?_⟩
   .have AeU:Yh=((10^(c+1):Nat):Int):=by
     obtain⟨w,hw⟩:∃w:Nat,10^c=w:=⟨_,rfl⟩;rw[Aps];rw[hw]at hp e31 ⊢;rw[e31,T7 (by omega) (by omega)];omega
    exact next r' (c+1) _ _ _ q1 (by rw[AXq,q3]) AeU (by rw[q2,td]) (by rw[q2,Amc td];rw[Amc td]at A;omega)
   .exact next r' c _ _ _ q1 (by rw[AXq,q3]) rfl (by rw[q2,tf]) (by rw[q2,tf];rw[tf]at A;exact A)
end
abbrev cg:Obj:=.cells #[.I 0,.U 0,.N,.I 0,.N] 90 (0,0)
theorem nR.one (Z:Hp)(vs:List Value)(x:S8)(h:nR Z vs x):HH vs:=by
 obtain⟨p,n,c,q,m,d,rfl,_⟩:=h;intro u A;simp only[Aml,AnF,Anp]at A;rcases A with rfl|rfl|rfl|rfl|rfl<;>rfl
theorem AL.atD {Z0 Z:Hp}{p:Option Addr}{n c i:Nat}{xs:List S8}{x:S8}(h:AL 5 nR Z0 Z p n c xs)(hx:xs[i]?=some x):∃b o A nv cv q m d,p=some ⟨b,o,none⟩/\Af Z b (o+i*5) [.I x.kind,.U x.v,.slice A nv cv,.I x.w,.slice q m d]/\AT 2 Ad (Z.del p) A nv x.es/\AT 2 Kq (Z.del p) q m x.rs/\nv<=cv:=by
 obtain⟨⟨hl,cs,ho,hc⟩,_⟩:=h;have hr:AT 5 (λ_ vs y=>nR (Z.del p) vs y) Z p n xs:=⟨hl,cs,ho.rd,hc⟩;obtain⟨b,o,vs,hp,⟨A,nv,cv,q,m,d,rfl,G,h2,h3⟩,C⟩:=AT.idx hr hx;exact⟨b,o,A,nv,cv,q,m,d,hp,C,G,h2,h3⟩
theorem Spec.own {α:Type}{P:Program}{f:FuncId}{args:Array Value}{s b n c:Nat}{o:Obj}{E:Hp->List Value->α->Prop}{Z0 Z:Hp}{p:Option Addr}{xs:List α}{R:Rr}(hE:Iu E)(ho:AL s E Z0 Z p n c xs)(hb:Z b=none)
  (h:Spec P f args (Z.del p) (λe G=>∀A,A b=none->A.del p=G->(Ext (Z.del p) G->AL s E Z0 A p n c xs)->R e (A.set b o))):Spec P f args (Z.set b o) R:=by
 obtain⟨⟨hl,cs,KI,hcc⟩,ya⟩:=ho;have hk:∀a,p=some a->∃u,Z a.block=some u:=λa ha=>by
  cases hh:Z a.block with
  | none=>exact absurd hh (KI.block a ha)
  | some u=>exact⟨u,rfl⟩
 exact Spec.HQ hb (Spec.AC0 hk (h.mono λe G hh A mn C rY=>hh A rY C λhx=>⟨⟨hl,cs,Aw.of_eq KI mn,by rw[C];exact hcc.mono hE hx⟩,by rw[C];exact ya.trans hx⟩))
theorem AOZ:∀w,(Go.sizeOf 90).run prog w=.ok 5 w:=λw=>by kernel_rfl
theorem AOa:∀w,(Go.sizeOf 87).run prog w=.ok 1 w:=λw=>by kernel_rfl
theorem AOb {Z:Hp}{b:Nat}{c:Array Value}{v0 v1 v2 v3 v4:Value}{Φ:Unit->Hp->Prop}(G:c.size=5)(hb:Z b=some (.cells c 90 (0,0)))(C:∀u∈[v0,v1,v2,v3,v4],u.oneCell'=true)(A:(Value.agg #[v0,v1,v2,v3,v4]).cells=#[v0,v1,v2,v3,v4])
  (h:Φ () (Z.set b (.cells #[v0,v1,v2,v3,v4] 90 (0,0)))):AJ prog (Instr.storeAt 90 (.pointer (some ⟨b,0,none⟩)) (.agg #[v0,v1,v2,v3,v4])) Z Φ:=by
 refine AJ.store AOZ hb (by rw[A];rfl) (by omega) (by rw[A];simpa using C) ?_;rw[A,T1 (by rw[G];rfl)];exact h
theorem AHa {ss:List Sr}{t:Int}{n:Nd}{L:List Vv}{M:List S8}(hl:M.length=L.length)(G:∀(i:Nat) (v:Vv) (d:S8),L[i]?=some v->M[i]?=some d->Dr v d)(hV:∀x∈L,VG x){d:S8}(h:S0 ss t n M=some d):d.es.length<=ss.length+(L.map Ce).sum:=by
 unfold S0 at h;by_cases h1:n.kind=1
 .rw[Amc h1]at h;cases h;exact Amh _
 rw[Amb h1]at h;by_cases h2:n.kind=2
 .rw[Amc h2]at h;cases h;show(Hi FF n ss t).length<=_
  exact AnL (Am0 _ _) (Aoc _ _)
 rw[Amb h2]at h;by_cases h3:n.kind=3
 .rw[Amc h3]at h;cases h;exact Amh _
 rw[Amb h3]at h
 match L,M,hl with
 | [x],[a],_=>
  have A:=G 0 x a rfl rfl;have hv:=hV x (by simp);have C:([x].map Ce).sum=Ce x:=by simp
  rw[C];dsimp only at h;split at h
  .cases h;show(JW FF n ⟨a.kind,AY a.w,a.es,a.rs⟩).length<=_
   unfold JW Ce;rw[A.es,A.rs,Amv,Amw];refine AnL (Nat.add_le_add_left (Am0 _ _) _) ?_;dsimp only;omega
  split at h
  .cases h;have e:NQ FF n ⟨2,0,a.es,[]⟩=NQ FF n x:=by unfold NQ;rw[A.es]
   show(NQ FF n ⟨2,0,a.es,[]⟩).length<=_
   rw[e];have:=(ACx (n:=n) hv).2;omega
  split at h
  .cases h;split
   .exact Amh _
   .show(List.map _ a.es).length<=_
    rw[Amw,A.es];unfold Ce;omega
  .cases h
 | [x,y],[a,b],_=>
  have A:=G 0 x a rfl rfl;have hy:=G 1 y b rfl rfl;have vx:=hV x (by simp);have vy:=hV y (by simp);have C:([x,y].map Ce).sum=Ce x+Ce y:=by simp
  rw[C];dsimp only at h;split at h
  .unfold ja at h;split at h
   .cases h;exact Amh _
   .rw[A.es,hy.es]at h;obtain⟨m,hm,rfl⟩:=map_some h;show m.length<=_
    have lx:x.vec.length<=Ce x:=Aoc _ _;have ly:y.vec.length<=Ce y:=Aoc _ _;split at hm
    .cases hm;have:=Am0 (λz:El=>if BR n.op=false\/n.bool=true then some (⟨Bg z.ls,(A5 n.op a.v z.v).1⟩:El) else if(A5 n.op a.v z.v).2 then some z else none) y.vec;have e9:(Jh n y.vec (A5 n.op a.v)).length<=y.vec.length:=Am0 _ _;omega
    split at hm
    .cases hm;have e9:(Jh n x.vec λv=>A5 n.op v b.v).length<=x.vec.length:=Am0 _ _;omega
    split at hm
    .cases hm;have:=(uV (n:=n) vx.el vy.el).2;omega
    .have:=(uW vx.el hm).2;omega
  .cases h
 | [],[],_=>cases h
 | _::_::_::_,_::_::_::_,_=>cases h
section
variable {Z:Hp}{R:Rr}
set_option maxHeartbeats 4000000 in
theorem je {p q:Option Addr}{n c m d:Nat}{T:List Nd}{ss:List Sr}{t kf:Int}(hr:AT 10 IQ Z p n T)(hs:AT 2 Cd Z q m ss)(hS:mi ss)(DZ:DJ none ss=true)(hD:SsD ss)(h64:∀s∈ss,∀p∈s.ps,JI p.2)(hn:n<=4096)(ht:-4611686018427387904<=t/\t<=4611686018427387904)(W9:DS T []=some [kf])
  (h:∀v d' Z' C nv cv qv mv G,(JC FF ss t T []).bind List.head?=some v->Dr v d'->Ext Z Z'->AT 2 Ad Z' C nv d'.es->nv<=cv->R (.T #[cR d'.kind d'.v C nv cv d'.w qv mv G,.bool true]) Z')
  (h':(JC FF ss t T []).bind List.head?=none->∀Z',Ext Z Z'->R (.T #[cR 0 0 none 0 0 0 none 0 0,.bool false]) Z') :
  Spec prog 45 #[.slice p n c,.slice q m d,.I t] Z R:=by
 have hTl:T.length=n:=hr.1;have ANm:=hS.ok.len;refine Cc.start λ_=>?_
 suffices H:∀g i:Nat,∀(p8:Option Addr) (n8 c8:Nat) (Z':Hp) (st:List Vv) (M:List S8),n-i=g->i<=n->AL 5 nR Z Z' p8 n8 c8 M->M.length=st.length->(∀(j:Nat) (v:Vv) (d:S8),st[j]?=some v->M[j]?=some d->Dr v d)->(∀x∈st,VG x)->(∀x∈st,yc x)->st.length<=i->(st.map Ce).sum<=i*ss.length->DS (T.drop i) (st.map (·.kind))=some [kf]->JC FF ss t T []=JC FF ss t (T.drop i) st->Cc.AR R p n c q m d t 0 0 none 0 0 0 none 0 0 p8 n8 c8 (i:Int) Z' from
  H n 0 none 0 0 Z [] [] rfl (Amh _) (AL.nil (.refl _)) rfl (λj v d hj=>by simp at hj) (λx hx=>(by cases hx)) (λx hx=>(by cases hx)) (Amh _) (Amh _) W9 rfl
 intro g
 induction g with
 | zero=>
  intro i p8 n8 c8 Z' st M mX hi ho hMl hMD hV hW hsl ANn hT BP;rw[Amm (by omega)]at hT BP;have hk:st.map (·.kind)=[kf]:=by simpa[DS] using hT
  have AC2:JC FF ss t T []=some st:=by rw[BP];rfl
  rw[AC2]at h
  match st,hk,M,hMl with
  | [x],_,[y],_=>
   have hD0:=hMD 0 x y rfl rfl;obtain⟨b,o,C,nv,cv,qv,mv,G,rfl,CH,h5,h6,h7⟩:=AL.atD ho (i:=0) (x:=y) rfl;have VZ:1=n8:=ho.1.1;rw[Anz,Ank]at CH;exact Cc.AM ⟨λAv=>by omega,λ_=>⟨b,o,rfl,by unfold In;omega,y.kind,y.v,C,nv,cv,y.w,qv,mv,G,CH,h x y Z' C nv cv qv mv G rfl hD0 ho.up (h5.mono Ad.mono (Ext.Mr _ _)) h7⟩⟩
 | succ g ih=>
  intro i p8 n8 c8 Z' st M mX hi ho hMl hMD hV hW hsl ANn hT BP;have BT:i<n:=by omega
  obtain⟨x,hx⟩:=hr.ex BT;obtain⟨b,o,p1,k1,c1,q1,m1,d1,rfl,CH,hmt,qz⟩:=IQ.at hr hx;have hX:=ho.up;rw[BA hx]at hT BP;have E7:(Bk x (st.map (·.kind))).1=0:=Aon λAi=>by
   rw[DS,Amb Ai]at hT;cases hT
  rw[DS,Amc E7]at hT;obtain⟨hf,hpl,dE,Ui,hT1⟩:=Xd E7;have hpn:=Qd hf;obtain⟨A,htp⟩:∃A:Nat,x.parts=A:=⟨x.parts.toNat,by omega⟩;have hpt:x.parts.toNat=A:=by omega
  have hMn:M.length=n8:=ho.1.1;have HG:st.length=n8:=by omega
  rw[Amw,HG,hpt]at Ui hT1;rw[Amw]at hpl;rw[hT1]at hT;rw[<-ApG]at Ui hT;rw[<-Apf]at hT;rw[JC,HG,hpt]at BP;have uX:(st.drop (n8-A)).length=A:=by rw[Amx];omega
  have hML:(M.drop (n8-A)).length=A:=by rw[Amx];omega
  have mj:∀y∈st.drop (n8-A),VG y:=λy hy=>hV y (An0 hy);have hLW:∀y∈st.drop (n8-A),yc y:=λy hy=>hW y (An0 hy);have QZ:(st.map Ce).sum=((st.take (n8-A)).map Ce).sum+((st.drop (n8-A)).map Ce).sum:=by
   rw[<-Aoh,<-Am7,Anc]
  have hsb:i*ss.length<=4096*10000000:=AoS (by omega) ANm;have vi:∀j v d,(st.drop (n8-A))[j]?=some v->(M.drop (n8-A))[j]?=some d->Dr v d:=λj v d hj hd=>by
   rw[Am3]at hj hd;exact hMD _ v d hj hd
  have CA:=Gg hf;have AKT:x.kind=6->1<=x.op/\x.op<=13/\(x.Be=0\/x.Be=3\/x.Be=4):=λh6=>by
   unfold Fg at CA;rw[Amb (by omega),Amb (by omega),Amb (by omega),Amb (by omega),Amb (by omega),Amc h6,Amn]at CA;have:=Amg CA.1;exact⟨this.2.1,this.2.2.1,this.2.2.2⟩
  have AXr:=AOW (t:=t) (n:=x) DZ (by rw[hML,uX]) vi mj (λh6=>(AKT h6).2.1);have tail:∀(y2:Hp) (D1:Nat) (d0:S8) (okb:Bool) (C:Option Addr) (nv cv:Nat) (qv:Option Addr) (mv G:Nat) (No:Int),y2 D1=none->AL 5 nR Z y2 p8 n8 c8 M->AT 2 Ad (y2.del p8) C nv d0.es->AT 2 Kq (y2.del p8) qv mv d0.rs->nv<=cv->nv<=100000000000->(if okb=true then sK (FC FF ss t x (st.drop (n8-A))) (some d0) else FC FF ss t x (st.drop (n8-A))=none)->Cc.Wz R (aD b o) n c q m d t 0 0 none 0 0 0 none 0 0 p8 n8 c8 (i:Int) x.kind x.op x.text p1 k1 c1 x.width x.back x.Be q1 m1 d1 x.bool x.parts D1 okb (y2.set D1 (.cells #[.I d0.kind,.U d0.v,.slice C nv cv,.I d0.w,.slice qv mv G] 90 (0,0))):=λy2 D1 d0 okb C nv cv qv mv G No hb A7 Gq Gw hcv hnv eB=>by
   have x3:=Ext.set (o:=.cells #[.I d0.kind,.U d0.v,.slice C nv cv,.I d0.w,.slice qv mv G] 90 (0,0)) hb;have AOc:FC FF ss t x (st.drop (n8-A))=none->∀(y3:Hp),Ext Z (y3.del p8)->y3 D1=none->R (.T #[cR 0 0 none 0 0 0 none 0 0,.bool false]) (y3.set D1 (.cells #[.I d0.kind,.U d0.v,.slice C nv cv,.I d0.w,.slice qv mv G] 90 (0,0))):=λhz y3 BO hy3=>
    h' (by rw[BP,hz];rfl) _ ((BO.trans (Ext.Mr _ _)).trans (Ext.set hy3))
   refine Cc.AF8 ⟨C,nv,cv,Ak (Hp.AA _ _ _) rfl,Spec.own nR.mono A7 hb (jW Gq hnv (λout Z3 p' n' c' AK0 BO Ss hc3 y3 hy3 KJ yf=>⟨_,_,_,_,rfl,λhf=>?_,λht=>⟨λhh=>(by cases hh),λ_=>?_⟩⟩) λHz Z3 BO y3 hy3 KJ yf=>⟨_,_,_,_,rfl,λhf=>?_,λht=>⟨λ_=>?_,λhh=>(by cases hh)⟩⟩)⟩
   .rw[hf,Amb (by decide)]at eB;exact AOc eB y3 (by rw[KJ];exact A7.2.trans BO) hy3
   .rw[ht,Amc rfl]at eB;obtain⟨z,hz,hDz⟩:=(eB.yes d0 rfl).1 out AK0;have Cm:=yf BO;have Cp:Aw 5 (y3.set D1 (.cells #[.I d0.kind,.U d0.v,.slice C nv cv,.I d0.w,.slice qv mv G] 90 (0,0))) (some ⟨D1,0,none⟩) 1 1 [.I d0.kind,.U d0.v,.slice C nv cv,.I d0.w,.slice qv mv G]:=⟨rfl,by decide,.inr ⟨D1,0,_,90,rfl,Hp.AA _ _ _,Amr _,by simp,rfl⟩⟩;refine Aw.rv (j:=2) Cp (by decide) AOa rfl rfl λobj AXs=>?_;rw[Hp.set_set]at AXs ⊢;have x5:=Ext.set (o:=obj) hy3;have yk:=x5.del p8;rw[KJ]at yk;have sO:Af (y3.set D1 obj) D1 0 [.I d0.kind,.U d0.v,.slice p' n' c',.I d0.w,.slice qv mv G]:=by
     obtain⟨_,_,hh⟩:=AXs.rd;rcases hh with hh|⟨b',o',he,hh⟩
     .exact absurd hh (by decide)
     .cases he;exact hh
    have he:nR ((y3.set D1 obj).del p8) [.I d0.kind,.U d0.v,.slice p' n' c',.I d0.w,.slice qv mv G] ⟨d0.kind,d0.v,out,d0.w,d0.rs⟩:=⟨p',n',c',qv,mv,G,rfl,Ss.mono Ad.mono yk,(Gw.mono Kq.mono BO).mono Kq.mono yk,hc3⟩;have Lj:=(Cm.mono nR.mono x5).take (m:=n8-A) (by omega);have rX:n8<=c8:=by obtain⟨cs,KI,_⟩:=Cm.1.2;exact Aw.cap KI
    have e1:Int.toNat ((n8:Int)-x.parts)=n8-A:=by omega
    obtain⟨w1,w2,w3⟩:=Xc hS.ok hS.nn hf Ui (by rw[uX,htp]) mj hz;have w4:=AOX h64 hLW hz;rw[hz]at BP;refine⟨by unfold AF;omega,⟨by omega,by omega⟩,d0.kind,d0.v,p',n',c',d0.w,qv,mv,G,sO,λAM7 AXt=>?_⟩;rw[e1];refine AL.HI nR.mono Lj rfl (nR.one _ _ _ he) he (by omega) (λp7 c7 y4 FE _=>⟨_,_,_,rfl,AI BT hr.big,?_⟩) AXt;have:=ih (i+1) p7 (n8-A+1) c7 y4 (st.take (n8-A)++[z]) (M.take (n8-A)++[⟨d0.kind,d0.v,out,d0.w,d0.rs⟩]) (by omega) (by omega) FE (by simp only[Amv,Amp,AnW];omega) (λj v dd hj hd=>?_) (λu hu=>?_) (λu hu=>?_) (by rw[Amv,Amp,AnW];omega) ?_ ?_ ?_
    .rw[show((i+1:Nat):Int)=(i:Int)+1 by omega]at this;exact this
    .rw[Anr,Amp]at hj hd;by_cases sZ:j<n8-A
     .rw[Amc (by omega),Am5,Amc sZ]at hj hd;exact hMD j v dd hj hd
     .rw[Amb (by omega)]at hj hd;have e2:j-min (n8-A) st.length=0:=by
       have:=(Amd.1 hj).1;simp at this;omega
      have e3:j-min (n8-A) M.length=0:=by omega
      rw[e2]at hj;rw[e3]at hd;cases hj;cases hd;exact hDz
    .rcases Am6.1 hu with hu|hu
     .exact hV u (An7 hu)
     .rw[Amo]at hu;rw[hu];exact w1
    .rcases Am6.1 hu with hu|hu
     .exact hW u (An7 hu)
     .rw[Amo]at hu;rw[hu];exact w4
    .rw[Am7,Aoh,An1,Ap4,Aog];omega
    .rw[Am7,An1,w2];exact hT
    .exact BP
   .rw[hf,Amb (by decide)]at eB;exact AOc eB y3 (by rw[KJ];exact A7.2.trans BO) hy3
   .rw[ht,Amc rfl]at eB;exact AOc ((eB.yes d0 rfl).2 Hz) y3 (by rw[KJ];exact A7.2.trans BO) hy3
  have cm:∀y∈st.drop (n8-A),Ce y<=50000000000:=λy hy=>by
   have:=jE (f:=Ce) (An0 hy);omega
  have AKV:∀d0,S0 ss t x (M.drop (n8-A))=some d0->d0.es.length<=100000000000:=λd0 hd=>by
   have:=AHa (by rw[hML,uX]) vi mj hd;omega
  have aft:∀(y2 O':Hp) (D1:Nat) (d0:S8) (okb:Bool) (C:Option Addr) (nv cv:Nat) (qv:Option Addr) (mv G:Nat),y2 D1=none->y2.del p8=O'->(Ext (Z'.del p8) O'->AL 5 nR Z y2 p8 n8 c8 M)->Ext (Z'.del p8) O'->AT 2 Ad O' C nv d0.es->AT 2 Kq O' qv mv d0.rs->nv<=cv->nv<=100000000000->(if okb=true then sK (FC FF ss t x (st.drop (n8-A))) (some d0) else FC FF ss t x (st.drop (n8-A))=none)->AJ prog (Instr.storeAt 90 (.pointer (aD D1 0)) (.agg #[.I d0.kind,.U d0.v,.slice C nv cv,.I d0.w,.slice qv mv G])) (y2.set D1 cg) (λ_ AB=>Cc.Wz R (aD b o) n c q m d t 0 0 none 0 0 0 none 0 0 p8 n8 c8 (i:Int) x.kind x.op x.text p1 k1 c1 x.width x.back x.Be q1 m1 d1 x.bool x.parts D1 okb AB):=λy2 O' D1 d0 okb C nv cv qv mv G hb KJ yf Ao Gq Gw hcv hnv eB=>by
   refine AOb rfl (Hp.AA _ _ _) (by simp[Value.oneCell']) rfl ?_;rw[Hp.set_set];subst KJ;exact tail y2 D1 d0 okb C nv cv qv mv G x.kind hb (yf Ao) Gq Gw hcv hnv eB
  have sP:∀d0,S0 ss t x (M.drop (n8-A))=some d0->(if(true:Bool)=true then sK (FC FF ss t x (st.drop (n8-A))) (some d0) else FC FF ss t x (st.drop (n8-A))=none):=λd0 hd=>by rw[Amc rfl,<-hd];exact AXr
  have hXd:Ext Z (Z'.del p8):=ho.2;have AXu:=hmt.mono KH.mono hXd;have AXv:=qz.mono hXd;have hsd:=hs.mono Cd.mono hXd;have Xs:∀y∈x.mt,y.val.size<=100000:=λy hy=>by
   unfold JD at dE;split at dE
   .exact absurd dE (by decide)
   .cases ha:x.mt.all Uh with
    | true=>
     have:=AnJ.1 ha y hy;unfold Uh at this;simp only[Amn,Amq]at this;omega
    | false=>
     have:(if x.mt.all Uh=true then(0:Int) else 40)=0:=dE;rw[ha]at this;exact absurd this (by decide)
  have e1:Int.toNat ((n8:Int)-x.parts)=n8-A:=by omega
  have rX:n8<=c8:=by obtain⟨cs,KI,_⟩:=ho.1.2;exact Aw.cap KI
  have part:∀(D1:Nat) (VJ:Obj) (j:Nat) (d1:S8),Z' D1=none->(M.drop (n8-A))[j]?=some d1->∃bp op C nv cv qv mv G,Mp p8 (n8-A) c8 5=some ⟨bp,op,none⟩/\Af (Z'.set D1 VJ) bp (op+j*5) [.I d1.kind,.U d1.v,.slice C nv cv,.I d1.w,.slice qv mv G]/\AT 2 Ad (Z'.del p8) C nv d1.es/\AT 2 Kq (Z'.del p8) qv mv d1.rs:=λD1 VJ j d1 eC hj=>by
   rw[Am3]at hj;obtain⟨bp,op,C,nv,cv,qv,mv,G,hp8,sO,r1,r2,_⟩:=AL.atD ho hj;have Av:=(Amd.1 hj).1;refine⟨bp,op+(n8-A)*5,C,nv,cv,qv,mv,G,?_,?_,r1,r2⟩
   .rw[hp8];unfold Mp;rw[Amb (by omega)];simp[DU]
   .rw[show op+(n8-A)*5+j*5=op+(n8-A+j)*5 by rw[Ant];omega];exact sO.mono (Ext.set eC)
  refine Cc.AM ⟨λ_=>⟨b,o,rfl,by unfold In;omega,_,_,_,_,_,_,_,_,_,_,_,_,_,_,by simpa using CH.mono hX,λ_=>⟨by unfold AF;omega,⟨by omega,by omega⟩,λD1 eC=>?_⟩⟩,λhh=>by omega⟩;rw[e1];have ret:∀{f:Nat} {args:Array Value} {d0:S8},S0 ss t x (M.drop (n8-A))=some d0->(∀{Q:Rr},sE Q (Z'.del p8) d0->Spec prog f args (Z'.del p8) Q)->Spec prog f args (Z'.set D1 cg) (BV R (λz y=>∃ABU ABV ABW ABX ABY ABZ ABa ABb ABc,z=(.agg #[.I ABU,.U ABV,.slice ABW ABX ABY,.I ABZ,.slice ABa ABb ABc])/\AJ prog (Instr.storeAt 90 (.pointer (aD D1 0)) (.agg #[.I ABU,.U ABV,.slice ABW ABX ABY,.I ABZ,.slice ABa ABb ABc])) y (λ_ AB=>Cc.Wz R (aD b o) n c q m d t 0 0 none 0 0 0 none 0 0 p8 n8 c8 (i:Int) x.kind x.op x.text p1 k1 c1 x.width x.back x.Be q1 m1 d1 x.bool x.parts D1 true AB))):=fun {f args d0} hd hq=>
   Spec.own nR.mono ho eC (hq λO' C nv cv qv mv G hx Gq Gw hcv y2 mn KJ yf=>⟨_,_,_,_,_,_,_,_,_,rfl,aft y2 O' D1 d0 true C nv cv qv mv G mn KJ yf hx Gq Gw hcv (by have h9:=AKV d0 hd;have h8:d0.es.length=nv:=Gq.1;omega) (sP d0 hd)⟩)
  have XC:A=1->∃v1 d1,st.drop (n8-A)=[v1]/\M.drop (n8-A)=[d1]/\Dr v1 d1/\VG v1/\yc v1/\Ce v1<=50000000000:=λh1=>by
   rw[h1]at uX hML vi mj hLW cm ⊢
   match Hv:st.drop (n8-1),Lk:M.drop (n8-1),uX,hML with
   | [v1],[d1],_,_=>
    rw[Hv,Lk]at vi;rw[Hv]at mj hLW cm;exact⟨v1,d1,rfl,rfl,vi 0 v1 d1 rfl rfl,mj v1 (by simp),hLW v1 (by simp),cm v1 (by simp)⟩
  have eD:A=2->∃v1 v2 d1 d2,st.drop (n8-A)=[v1,v2]/\M.drop (n8-A)=[d1,d2]/\(Dr v1 d1/\VG v1/\yc v1/\Ce v1<=50000000000)/\(Dr v2 d2/\VG v2/\yc v2/\Ce v2<=50000000000):=λh1=>by
   rw[h1]at uX hML vi mj hLW cm ⊢
   match Hv:st.drop (n8-2),Lk:M.drop (n8-2),uX,hML with
   | [v1,v2],[d1,d2],_,_=>
    rw[Hv,Lk]at vi;rw[Hv]at mj hLW cm;exact⟨v1,v2,d1,d2,rfl,rfl,⟨vi 0 v1 d1 rfl rfl,mj v1 (by simp),hLW v1 (by simp),cm v1 (by simp)⟩,vi 1 v2 d2 rfl rfl,mj v2 (by simp),hLW v2 (by simp),cm v2 (by simp)⟩
  unfold Fg at CA;unfold Na at Ui;refine Cc.Fu ⟨λz1=>?_,λz1=>⟨λz2=>?_,λz2=>⟨λz3=>?_,λz3=>⟨λz4=>?_,λz4=>⟨λz5=>?_,λz5=>⟨λz7=>?_,λz7=>⟨λz6=>?_,λz6=>?_⟩⟩⟩⟩⟩⟩⟩
  .rw[Amc z1]at CA;exact Spec.own nR.mono ho eC (jd CA λy2 mn KJ yf=>⟨_,_,rfl,aft y2 _ D1 ⟨1,Sn x.text,[],0,[]⟩ true none 0 0 none 0 0 mn KJ yf (.refl _) AT.nil AT.nil (Amr _) (by decide) (sP _ (by unfold S0;rw[Amc z1]))⟩)
  .exact ret (d0:=⟨2,0,Hi FF x ss t,0,[]⟩) (by unfold S0;rw[Amb z1,Amc z2]) λhq=>jU AXu hsd hD (Xe hf dE (.inl z2)) Xs ht hq
  .exact ret (d0:=⟨3,0,[],x.width,QP FF x ss t⟩) (by unfold S0;rw[Amb z1,Amb z2,Amc z3]) λhq=>jV AXu hsd hD (Xe hf dE (.inr z3)) Xs ht hq
  .rw[Amb z1,Amb z2,Amb z3,Amc z4]at CA Ui;obtain⟨Qc,Qy,A7⟩:=Amg CA;obtain⟨v1,d1,Hv,Lk,XD,hVG,yW,oY⟩:=XC (by clear XC eD;omega);clear XC eD;obtain⟨bp,op,C,nv,cv,qv,mv,G,nj,sO,r1,r2⟩:=part D1 cg 0 d1 eC (by rw[Lk];rfl);rw[Anz,Ank]at sO;have sx:=hVG.sh;unfold Sh at sx;rw[Hv]at Ui;unfold SE at Ui;have hc:v1.kind=(if x.op=11\/x.op=12 then 2 else 3):=by
    by_cases hc:([v1].map (·.kind))[0]?.getD 0=(if x.op=11\/x.op=12 then 2 else 3)
    .exact hc
    .rw[Amb hc]at Ui;exact absurd Ui (by decide)
   refine⟨bp,op,nj,by unfold In;omega,_,_,_,_,_,_,_,_,_,sO,ret (d0:=⟨2,0,JW FF x ⟨d1.kind,AY d1.w,d1.es,d1.rs⟩,0,[]⟩) (by unfold S0;rw[Amb z1,Amb z2,Amb z3,Lk];exact Amc z4) λhq=>sG r1 r2 (λAi=>?_) (λAi=>?_) (λy hy=>?_) (λr hr9=>?_) ?_ hq⟩
   .rw[XD.es]at Ai;rcases sx with ⟨_,h9,_⟩|⟨h9,_⟩|⟨h9,h8⟩
    .exact absurd h9 Ai
    .rw[h9]at hc;split at hc
     .assumption
     .omega
    .exact absurd h8 Ai
   .rw[XD.rs]at Ai;rcases sx with ⟨_,_,h9⟩|⟨h9,h8⟩|⟨h9,_⟩
    .exact absurd h9 Ai
    .exact absurd h8 Ai
    .rw[h9]at hc;split at hc
     .omega
     .omega
   .rw[XD.es]at hy;exact⟨(hVG.el y hy).1,yW.es y hy⟩
   .rw[XD.rs]at hr9;exact hVG.rg r hr9
   .rw[XD.es,XD.rs];unfold Ce at oY;omega
  .rw[Amb z1,Amb z2,Amb z3,Amb z4,Amc z5]at CA;obtain⟨Qc,Qy,A7,hgr⟩:=Amg CA;obtain⟨v1,d1,Hv,Lk,XD,hVG,yW,oY⟩:=XC (by clear XC eD;omega);clear XC eD;obtain⟨bp,op,C,nv,cv,qv,mv,G,nj,sO,r1,r2⟩:=part D1 cg 0 d1 eC (by rw[Lk];rfl);rw[Anz,Ank]at sO;refine⟨bp,op,nj,by unfold In;omega,_,_,_,_,_,_,_,_,_,sO,ret (d0:=⟨2,0,NQ FF x ⟨2,0,d1.es,[]⟩,0,[]⟩) (by unfold S0;rw[Amb z1,Amb z2,Amb z3,Lk];show(if x.kind=4 then _ else _)=_;rw[Amb z4,Amc z5]) λhq=>xy (λw=>by kernel_rfl) r1 ⟨Qy,A7⟩ hgr AXv qz.2.1 (λy hy=>?_) ?_ hq⟩
   .rw[XD.es]at hy;exact(hVG.el y hy).1
   .rw[XD.es];unfold Ce at oY;omega
  .have z6:x.kind≠6:=by clear XC eD;omega
   rw[Amb z1,Amb z2,Amb z3,Amb z4,Amb z5,Amb z6]at CA;have Qc:=(Amg CA).2;obtain⟨v1,d1,Hv,Lk,XD,hVG,yW,oY⟩:=XC (by clear XC eD;omega);clear XC eD;obtain⟨bp,op,C,nv,cv,qv,mv,G,nj,sO,r1,r2⟩:=part D1 cg 0 d1 eC (by rw[Lk];rfl);rw[Anz,Ank]at sO;refine⟨bp,op,nj,by unfold In;omega,_,_,_,_,_,_,_,_,_,sO,ret (by unfold S0;rw[Amb z1,Amb z2,Amb z3,Lk];show(if x.kind=4 then _ else _)=_;rw[Amb z4,Amb z5,Amc z7]) λhq=>xr r1 (λhk=>?_) (λy hy=>?_) ?_ hq⟩
   .rw[XD.k]at hk;rw[XD.v1 hk];exact yW.v
   .rw[XD.es]at hy;exact⟨(hVG.el y hy).1,yW.es y hy⟩
   .rw[XD.es];unfold Ce at oY;omega
  .obtain⟨o1,o2,og⟩:=AKT z6;rw[Amb z1,Amb z2,Amb z3,Amb z4,Amb z5,Amc z6]at CA Ui;rw[Amn]at CA;have Qc:=(Amg CA.1).1;obtain⟨v1,v2,d1,d2,Hv,Lk,⟨XD,hVG,yW,oY⟩,AD1,AXw,hW2,hv2⟩:=eD (by clear XC eD;omega);clear XC eD;obtain⟨bp,op,C,nv,cv,qv,mv,G,nj,sO,r1,r2⟩:=part D1 cg 0 d1 eC (by rw[Lk];rfl);obtain⟨bp',op',pv',nv',cv',qv',mv',dv',AKW,AXx,r1',r2'⟩:=part D1 cg 1 d2 eC (by rw[Lk];rfl);rw[nj]at AKW;cases AKW;rw[Anz,Ank]at sO;rw[ApZ]at AXx;have hTy:(Sl x v1.kind v2.kind).2=0:=by rw[Hv]at Ui;exact Ui
   have hsc:x.op<=10\/d1.kind≠1/\d2.kind≠1:=by
    rw[XD.k,AD1.k];by_cases W0:x.op<=10
    .exact .inl W0
    .unfold Sl at hTy;split at hTy
     .exact absurd hTy (by decide)
     .rename_i CU;refine .inr ?_;omega
   have hN:NdB (Z'.del p8) x q1 m1:=⟨AXv,qz.2.1,by
    rcases og with og|og
    .refine .inl ⟨og,?_⟩;unfold DY at hf;simp only[Amn]at hf;have hnf:=hf.1.1.2;unfold QS at hnf;rw[Amn,AoJ]at hnf;rcases hnf.2 with h9|h9
     .exact AnS (Amg h9)
     .exact absurd og (Amg h9)
    .exact .inr og⟩
   have AD2:S0 ss t x (M.drop (n8-A))=ja x d1 d2:=by
    unfold S0;rw[Amb z1,Amb z2,Amb z3,Lk];exact Amc z6
   have sx:=hVG.sh;have sy:=AXw.sh;unfold Sh at sx sy;unfold Ce at oY hv2;refine⟨bp,op,nj,by unfold In;omega,_,_,_,_,_,_,_,_,_,sO,by unfold In;omega,_,_,_,_,_,_,_,_,_,AXx,Spec.own nR.mono ho eC (yA hN r1 r1' ⟨o1,o2⟩ hsc (λy hy=>?_) (λy hy=>?_) (by rw[XD.es];omega) (by rw[AD1.es];omega) (λhk=>?_) (λhk=>?_) ⟨λd hd O' pw nw cw qw mw ew hx Gq Gw hcv y2 mn KJ yf=>⟨_,_,_,_,_,_,_,_,_,_,rfl,aft y2 O' D1 d true pw nw cw qw mw ew mn KJ yf hx Gq Gw hcv (by have h9:=AKV d (by rw[AD2];exact hd);have h8:d.es.length=nw:=Gq.1;omega) (sP d (by rw[AD2];exact hd))⟩,λhd O' pw nw cw l hx Gq hcv hnw y2 mn KJ yf=>⟨_,_,_,_,_,_,_,_,_,_,rfl,aft y2 O' D1 ⟨2,0,l,0,[]⟩ false pw nw cw none 0 0 mn KJ yf hx Gq AT.nil hcv hnw (by rw[Amb (by decide)];exact AXr.no (by rw[AD2];exact hd))⟩⟩)⟩
   .rw[XD.es]at hy;exact(hVG.el y hy).1
   .rw[AD1.es]at hy;exact(AXw.el y hy).1
   .rw[XD.k]at hk;rw[XD.es];rcases sx with ⟨_,h9,_⟩|⟨h9,_⟩|⟨h9,_⟩
    .exact h9
    .omega
    .omega
   .rw[AD1.k]at hk;rw[AD1.es];rcases sy with ⟨_,h9,_⟩|⟨h9,_⟩|⟨h9,_⟩
    .exact h9
    .omega
    .omega
  .exfalso;rw[Amb z1,Amb z2,Amb z3,Amb z4,Amb z5,Amb z6]at CA;exact z7 (Amg CA).1
end
def E6 (k:Int):Int:=if k=1\/k=2\/k=3 then 0 else if k=4\/k=5\/k=7 then 1 else if k=6 then 2 else -1
def nq (n:Nd):Prop:=n.parts=E6 n.kind/\(n.names.all DR).toNat=1/\¬(n.Be=0/\0<n.names.length)/\¬(n.kind≠2/\n.kind≠3/\(0<n.mt.length\/n.back≠0))/\(n.kind≠3->n.width=0)/\(n.kind≠1->n.text.size=0)/\(n.kind≠6->n.bool.toNat=0)/\(n.kind≠5/\n.kind≠6->n.Be=0)
def UO (n:Nd):Prop:=(n.kind=1->n.op=0/\(FG n.text).toNat=1)/\(n.kind=2->n.op=0/\0<=n.back/\n.back<=2147483647)/\(n.kind=3->n.op=0/\0<=n.back/\n.back<=2147483647/\1<=n.width/\n.width<=2147483647)/\(n.kind=4->1<=n.op/\n.op<=12)/\(n.kind=5->1<=n.op/\n.op<=5/\0<=n.Be/\n.Be<=2)/\(n.kind=7->n.op=0)/\(n.kind=6->1<=n.op/\n.op<=13/\(n.Be=0\/n.Be=3\/n.Be=4)/\(5<=n.op/\n.op<=10\/n.bool.toNat=0))
theorem AeY {s:ByteArray}:s=ByteArray.mk #[]↔s.size=0:=⟨λh=>by rw[h];rfl,λh=>Ape (AnB.1 (AnS (by rw[Anf];exact h)))⟩
theorem bt1 {b:Bool}:b.toNat=1↔b=true:=by cases b<;>decide
theorem bt0 {b:Bool}:b.toNat=0↔b=false:=by cases b<;>decide
theorem nr {n:Nd}(hk:1<=n.kind/\n.kind<=7):DY n=true↔nq n/\UO n:=by
 obtain⟨kind,op,text,mt,width,back,Be,names,bool,parts⟩:=n;dsimp only at hk;unfold nq UO;dsimp only;rw[bt1,bt1,bt0];have hn:names.length=0↔names=[]:=An6;have hm:mt.length=0↔mt=[]:=An6;rcases(by omega:kind=1\/kind=2\/kind=3\/kind=4\/kind=5\/kind=6\/kind=7) with rfl|rfl|rfl|rfl|rfl|rfl|rfl
 all_goals
  unfold DY IV Ck QS Fg E6 QR BR;generalize FG text=nb;generalize names.all DR=G;dsimp only;generalize names.length=nl;generalize mt.length=ml;generalize C:decide (text=ByteArray.mk #[])=tb;have A:(text=ByteArray.mk #[])↔tb=true:=by rw[<-C,Amq]
  rw[<-AeY];simp only[A];clear C;cases G<;>cases nb<;>cases bool<;>cases tb<;>simp[A]<;>omega
section
variable {Z:Hp}{R:Rr}
theorem Ng {k:Int}(h:R (.returned (.I (E6 k))) Z):Spec prog 49 #[.I k] Z R:=by
 have A:(k=1\/k=2\/k=3)->∀t,t=true->EV.PF R k t Z:=λhk t ht=>by
  subst ht;refine EV.Kg ⟨λ_=>?_,λC=>by cases C⟩;rw[show E6 k=0 by unfold E6;rw[Amc hk]]at h;exact h
 refine EV.start ⟨λh1=>A (.inl h1) _ rfl,λh1=>⟨λh2=>A (.inr (.inl h2)) _ rfl,λh2=>?_⟩⟩;by_cases h3:k=3
 .exact A (.inr (.inr h3)) _ (Amt h3)
 have e3:¬(k=1\/k=2\/k=3):=by omega
 rw[Ams h3];have G:(k=4\/k=5\/k=7)->∀t,t=true->EV.IF R k t Z:=λhk t ht=>by
  subst ht;refine EV.Fu ⟨λ_=>?_,λC=>by cases C⟩;rw[show E6 k=1 by unfold E6;rw[Amb e3,Amc hk]]at h;exact h
 refine EV.Kg ⟨λC=>(by cases C),λ_=>⟨λh4=>G (.inl h4) _ rfl,λh4=>⟨λh5=>G (.inr (.inl h5)) _ rfl,λh5=>?_⟩⟩⟩;by_cases h7:k=7
 .exact G (.inr (.inr h7)) _ (Amt h7)
 have e7:¬(k=4\/k=5\/k=7):=by omega
 rw[Ams h7];refine EV.Fu ⟨λC=>(by cases C),λ_=>⟨λh6=>?_,λh6=>?_⟩⟩
 .rw[show E6 k=2 by unfold E6;rw[Amb e3,Amb e7,Amc h6]]at h;exact h
 .rw[show E6 k=-1 by unfold E6;rw[Amb e3,Amb e7,Amb h6]]at h;exact h
theorem Qp {v l:Int}(h:R (.returned (.bool (decide (l<=v/\v<=2147483647)))) Z):Spec prog 86 #[.I v,.I l] Z R:=by
 refine bB.start ⟨λA=>?_,λA=>?_⟩
 .rw[show decide (l<=v/\v<=2147483647)=decide (v<=2147483647) from Ane.2 ⟨λg=>g.2,λg=>⟨A,g⟩⟩]at h;exact h
 .rw[Ams λg=>A g.1]at h;exact h
theorem UP {p:Option Addr}{n c:Nat}{ns:List ByteArray}(hr:HP 1 Z p n (ns.map .string))(h:R (.returned (.bool (ns.all DR))) Z):Spec prog 84 #[.slice p n c] Z R:=by
 have hl:ns.length=n:=by have:=hr.1;rw[Amw,An5]at this;exact this
 have IP:=hr.2.1;refine I0.start ?_
 suffices H:∀g k:Nat,n-k=g->k<=n->(∀x∈ns.take k,DR x=true)->I0.E5 R p n c (k:Int) Z from H n 0 rfl (Amh _) (λx A=>by rw[Aop]at A;cases A)
 intro g
 induction g with
 | zero=>
  intro k hg hk G;rw[Amj (by omega)]at G;rw[AnJ.2 G]at h;exact I0.Ag ⟨λhh=>by omega,λ_=>h⟩
 | succ g ih=>
  intro k hg hk G;have Rm:k<n:=by omega
  obtain⟨x,A⟩:∃x,ns[k]?=some x:=⟨_,Amf (by omega)⟩;rcases hr.2.2 with h0|⟨b,o,hp,CH⟩
  .omega
  have KZ:Z.ld ⟨b,o+k,none⟩=some (.string x):=CH.get (by rw[Am8,A];rfl);refine I0.Ag ⟨λ_=>⟨b,o,hp,by unfold In;omega,x,by simpa using KZ,Nf ⟨_,rfl,λhf=>?_,λht=>⟨by unfold AF;omega,?_⟩⟩⟩,λhh=>by omega⟩
  .have e1:ns.all DR=false:=by
    rw[An2];intro e;rw[AnJ]at e;rw[e x (Ame A)]at hf;cases hf
   rw[e1]at h;exact h
  .have:=ih (k+1) (by omega) (by omega) λy C=>by
    rw[AQ A]at C;rcases Am6.1 C with C|C
    .exact G y C
    .rw[Amo.1 C];exact ht
   rw[show((k+1:Nat):Int)=(k:Int)+1 by omega]at this;rw[kl hp];exact this
set_option maxHeartbeats 4000000 in
theorem nu {n:Nd}{p q:Option Addr}{k c m d:Nat}(hk:1<=n.kind/\n.kind<=7)(hm:n.mt.length=k)(hr:HP 1 Z q m (n.names.map .string))(hb:n.text.size<=4611686018427387904)(h:R (.returned (.bool (DY n))) Z):Spec prog 50 #[Ka n p k c q m d] Z R:=by
 have hl:n.names.length=m:=by have:=hr.1;rw[Amw,An5]at this;exact this
 have AHc:=nr hk;have fal:¬(nq n/\UO n)->R (.B false) Z:=λCU=>by
  rw[show DY n=false by rw[An2];exact λe=>CU (AHc.1 e)]at h;exact h
 have val:nq n->∀b:Bool,(b.toNat=1↔UO n)->R (.B b) Z:=λhg b fD=>by
  have:DY n=b:=by
   cases b with
   | true=>exact AHc.2 ⟨hg,fD.1 rfl⟩
   | false=>rw[An2];exact λe=>absurd (fD.2 (AHc.1 e).2) (by decide)
  rw[this]at h;exact h
 clear h AHc;unfold nq at fal val;have C:(n.parts=E6 n.kind/\(n.names.all DR).toNat=1/\¬(n.Be=0/\0<n.names.length)/\¬(n.kind≠2/\n.kind≠3/\(0<n.mt.length\/n.back≠0))/\(n.kind≠3->n.width=0)/\(n.kind≠1->n.text.size=0)/\(n.kind≠6->n.bool.toNat=0)/\(n.kind≠5/\n.kind≠6->n.Be=0))->IK.JK R n.kind n.op n.text p k c n.width n.back n.Be q m d n.bool n.parts Z:=λhg=>by
  have v2:=val hg;have A:∀P:Prop,[Decidable P]->(P↔UO n)->R (.returned (.bool (decide P))) Z:=λP _ hP=>v2 _ (by rw[bt1,Amq];exact hP);have no:¬UO n->R (.B false) Z:=λG=>v2 false ⟨λe=>absurd e (by decide),λe=>absurd e G⟩;have yes:UO n->R (.B true) Z:=λG=>v2 true ⟨λ_=>G,λ_=>rfl⟩;have nt:(5<=n.op/\n.op<=10\/n.bool.toNat=0↔UO n)->¬(5<=n.op/\n.op<=10)->R (.returned (.bool (!n.bool))) Z:=λG h5=>v2 _ (by
   rw[<-G];cases n.bool<;>simp<;>omega)
  unfold UO at *;clear val fal;refine IK.Gn ⟨λz1=>⟨λz0=>SK hb ⟨_,rfl,v2 _ (by clear v2 no yes nt A;omega)⟩,λz0=>no (by clear v2 no yes nt A;omega)⟩,λz1=>⟨λz2=>⟨λz0=>Qp ⟨_,rfl,A _ (by clear v2 no yes nt A;omega)⟩,λz0=>no (by clear v2 no yes nt A;omega)⟩,λz2=>⟨λz3=>⟨λz0=>Qp ⟨_,rfl,λht=>Qp ⟨_,rfl,A _ ?_⟩,λhf=>no ?_⟩,λz0=>no (by clear v2 no yes nt A;omega)⟩,λz3=>⟨λz4=>⟨λz0=>A _ (by clear v2 no yes nt A;omega),λz0=>no (by clear v2 no yes nt A;omega)⟩,λz4=>⟨λz5=>⟨λz0=>⟨λz8=>⟨λz9=>A _ (by clear v2 no yes nt A;omega),λz9=>no (by clear v2 no yes nt A;omega)⟩,λz8=>no (by clear v2 no yes nt A;omega)⟩,λz0=>no (by clear v2 no yes nt A;omega)⟩,λz5=>⟨λz7=>A _ (by clear v2 no yes nt A;omega),λz7=>?_⟩⟩⟩⟩⟩⟩
  .have:=Amg ht;clear v2 no yes nt A;omega
  .have:=Am4 hf;clear v2 no yes nt A;omega
  .clear v2 A
   repeat' first
    | exact no (by clear no yes nt;omega)
    | exact yes (by clear no yes nt;omega)
    | exact nt (by clear no yes nt;omega) (by clear no yes nt;omega)
    | refine⟨λ_=>?_,λ_=>?_⟩
 have t14:(n.parts=E6 n.kind/\(n.names.all DR).toNat=1/\¬(n.Be=0/\0<n.names.length)/\¬(n.kind≠2/\n.kind≠3/\(0<n.mt.length\/n.back≠0))/\(n.kind≠3->n.width=0)/\(n.kind≠1->n.text.size=0)/\(n.kind≠6->n.bool.toNat=0))->∀tb,tb=n.bool->IK.CY R n.kind n.op n.text p k c n.width n.back n.Be q m d tb n.parts Z:=λhg tb zD=>by
  subst zD;refine IK.XW ⟨λh5=>⟨λh6=>⟨λhg0=>fal (λG=>hg0 (G.1.2.2.2.2.2.2.2 ⟨h5,h6⟩)),λhg0=>C ?_⟩,λh6=>C ?_⟩,λh5=>C ?_⟩
  .clear fal val C;omega
  .clear fal val C;omega
  .clear fal val C;omega
 have Rj:¬(n.parts=E6 n.kind/\(n.names.all DR).toNat=1/\¬(n.Be=0/\0<n.names.length)/\¬(n.kind≠2/\n.kind≠3/\(0<n.mt.length\/n.back≠0))/\(n.kind≠3->n.width=0)/\(n.kind≠1->n.text.size=0)/\(n.kind≠6->n.bool.toNat=0))->R (.B false) Z:=λG=>fal λhg=>G ⟨hg.1.1,hg.1.2.1,hg.1.2.2.1,hg.1.2.2.2.1,hg.1.2.2.2.2.1,hg.1.2.2.2.2.2.1,hg.1.2.2.2.2.2.2.1⟩;clear fal val C;have hB0:n.bool=false->n.bool.toNat=0:=λe=>by rw[e];rfl
 have hB1:n.bool=true->n.bool.toNat=1:=λe=>by rw[e];rfl
 refine IK.start λ_=>⟨λz2=>Ng ⟨_,rfl,λhp=>Rj (λG=>hp G.1),λhp=>UP hr ⟨_,rfl,λhf=>Rj (λG=>by rw[hf]at G;exact absurd G.2.1 (by decide)),λht=>?_⟩⟩,λz2=>Ng ⟨_,rfl,λhp=>Rj (λG=>hp G.1),λhp=>UP hr ⟨_,rfl,λhf=>Rj (λG=>by rw[hf]at G;exact absurd G.2.1 (by decide)),λht=>?_⟩⟩⟩
 all_goals
  have hN:=bt1.2 ht;simp only[fc];by_cases hz:n.text.size=0
  .simp only[Amt hz];cases hB:n.bool with
   | true=>
    have hB2:=hB1 hB;clear hB0 hB1
    repeat' first
     | contradiction
     | exact Rj (by clear Rj t14;omega)
     | exact t14 (by clear Rj t14;omega) _ hB.symm
     | refine⟨λ_=>?_,λ_=>?_⟩
   | false=>
    have hB2:=hB0 hB;clear hB0 hB1
    repeat' first
     | contradiction
     | exact Rj (by clear Rj t14;omega)
     | exact t14 (by clear Rj t14;omega) _ hB.symm
     | refine⟨λ_=>?_,λ_=>?_⟩
  .simp only[Ams hz];cases hB:n.bool with
   | true=>
    have hB2:=hB1 hB;clear hB0 hB1
    repeat' first
     | contradiction
     | exact Rj (by clear Rj t14;omega)
     | exact t14 (by clear Rj t14;omega) _ hB.symm
     | refine⟨λ_=>?_,λ_=>?_⟩
   | false=>
    have hB2:=hB0 hB;clear hB0 hB1
    repeat' first
     | contradiction
     | exact Rj (by clear Rj t14;omega)
     | exact t14 (by clear Rj t14;omega) _ hB.symm
     | refine⟨λ_=>?_,λ_=>?_⟩
end
section
variable {Z:Hp}{R:Rr}
theorem yC {p:Option Addr}{n c:Nat}{G:List Mt}(hr:AT 3 KH Z p n G)(h:R (.returned (.I (JD DR G))) Z):Spec prog 51 #[.slice p n c] Z R:=by
 have hl:G.length=n:=hr.1;refine KD.start ⟨λh8=>?_,λh8=>?_⟩
 .rw[show JD DR G=41 by unfold JD;rw[Amc (by omega)]]at h;exact h
 have hm:JD DR G=if G.all Uh then 0 else 40:=by unfold JD;rw[Amb (by omega)];rfl
 rw[hm]at h
 suffices H:∀g k:Nat,n-k=g->k<=n->G.all Uh=(G.drop k).all Uh->KD.Au R p n c (k:Int) Z from H n 0 rfl (Amh _) rfl
 intro g
 induction g with
 | zero=>
  intro k hg hk he;rw[Amm (by omega)]at he;rw[he]at h;exact KD.Aq ⟨λAv=>by omega,λ_=>h⟩
 | succ g ih=>
  intro k hg hk he;have DI:k<n:=by omega
  obtain⟨x,hx⟩:=hr.ex DI;obtain⟨b,o,rfl,CH⟩:=KH.at hr hx;rw[BA hx,Apd]at he;have A:Uh x=false->R (.returned (.I 40)) Z:=λhf=>by
   rw[hf]at he;rw[he]at h;exact h
  have Ba:In (k:Int) (n:Int):=by unfold In;omega
  have C:Af Z b (o+Int.toNat (k:Int)*3) [.I x.kind,.string x.name,.string x.val]:=by simpa using CH
  refine KD.Aq ⟨λ_=>⟨b,o,rfl,Ba,x.kind,C.1,λh1=>A ?_,λh1=>⟨Ba,x.kind,C.1,λh4=>A ?_,λh4=>⟨Ba,x.name,C.2.1,Nf ⟨_,rfl,λhf=>A ?_,λhn=>⟨Ba,x.val,C.2.2.1,λhv=>A ?_,λhv=>⟨AI DI hr.big,?_⟩⟩⟩⟩⟩⟩,λhh=>by omega⟩
  .unfold Uh;rw[Ams (λg=>by omega)];rfl
  .unfold Uh;rw[Ams (λg=>by omega)];rfl
  .unfold Uh;rw[hf];simp
  .unfold Uh;rw[show decide (x.val.size<=256)=false from Ams (by omega)];simp
  .have:=ih (k+1) (by omega) (by omega) (by rw[he,show Uh x=true by unfold Uh;rw[Amt (⟨by omega,by omega⟩:1<=x.kind/\x.kind<=4),hn,show decide (x.val.size<=256)=true from Amt (by omega)];rfl,Anw]);rw[show((k+1:Nat):Int)=(k:Int)+1 by omega]at this;exact this
theorem yD {n:Nd}{p q r:Option Addr}{k c m d j e:Nat}{l:List Int}(hf:DY n=true)(hr:Eh .i64 Z r j l)(hj:(l.length:Int)=n.parts)(W9:∀x∈l,1<=x/\x<=3)
  (h:R (.T #[.I (Na n l).1,.I (Na n l).2]) Z):Spec prog 52 #[Ka n p k c q m d,.slice r j e] Z R:=by
 have hl:l.length=j:=hr.1;have CA:=Gg hf;unfold Fg at CA;unfold Na at h;have Nh:(l.length=1)->∃a b o,l=[a]/\r=some ⟨b,o,none⟩/\Z.ld ⟨b,o,none⟩=some (.I a):=λh1=>by
  match l,h1 with
  | [a],_=>
   obtain⟨b,o,hp,CH⟩:=Eh.at hr (i:=0) (x:=a) rfl;exact⟨a,b,o,rfl,hp,by simpa using CH⟩
 refine I5.start λ_=>⟨λz1=>?_,λz1=>⟨λz2=>?_,λz2=>⟨λz3=>?_,λz3=>⟨λz4=>?_,λz4=>⟨λz5=>?_,λz5=>⟨λz7=>?_,λz7=>?_⟩⟩⟩⟩⟩⟩
 .rw[Amc z1]at h;exact h
 .rw[Amb z1,Amc z2]at h;exact h
 .rw[Amb z1,Amb z2,Amc z3]at h;exact h
 .rw[Amb z1,Amb z2,Amb z3,Amc z4]at h CA;have Qc:=(Amg CA).1;obtain⟨a,b,o,rfl,rfl,CH⟩:=Nh (by clear Nh;omega);have eH:j=1:=by clear Nh;simp at hl;omega
  clear Nh;have A:R (.T #[.I (SE n a).1,.I (SE n a).2]) Z:=h;unfold SE at A;have t37:∀w,w=(if n.op=11\/n.op=12 then(2:Int) else 3)->I5.GL R (some ⟨b,o,none⟩) j e w Z:=λw hw=>by
   subst hw;refine I5.Ih ⟨b,o,rfl,by unfold In;omega,a,CH,λAi=>?_,λhe=>?_⟩
   .rw[Amb Ai]at A;exact A
   .rw[Amc (Amy.1 he)]at A;exact A
  refine⟨λIq=>t37 2 (by rw[Amc (.inl Iq)]),λIq=>⟨λKR=>t37 2 (by rw[Amc (.inr KR)]),λKR=>t37 3 (by rw[Amb (by omega)])⟩⟩
 .rw[Amb z1,Amb z2,Amb z3,Amb z4,Amc z5]at h CA;have Qc:=(Amg CA).1;obtain⟨a,b,o,rfl,rfl,CH⟩:=Nh (by clear Nh;omega);have eH:j=1:=by clear Nh;simp at hl;omega
  clear Nh;have A:R (.T #[.I (WY a).1,.I (WY a).2]) Z:=h;unfold WY at A;refine⟨b,o,rfl,by unfold In;omega,a,CH,λAi=>?_,λhe=>?_⟩
  .rw[Amb Ai]at A;exact A
  .rw[Amc (Amy.1 he)]at A;exact A
 .have z6:n.kind≠6:=by clear Nh;omega
  rw[Amb z1,Amb z2,Amb z3,Amb z4,Amb z5,Amb z6]at h CA;have Qc:=(Amg CA).2;obtain⟨a,b,o,rfl,rfl,CH⟩:=Nh (by clear Nh;omega);have eH:j=1:=by clear Nh;simp at hl;omega
  clear Nh;have A:R (.T #[.I (W6 a).1,.I (W6 a).2]) Z:=h;unfold W6 at A;refine⟨b,o,rfl,by unfold In;omega,a,CH,λh3=>?_,λh3=>⟨by unfold In;omega,a,CH,?_⟩⟩
  .rw[Amc h3]at A;exact A
  .rw[Amb h3]at A;exact A
 .have z6:n.kind=6:=by
   clear Nh;by_cases h6:n.kind=6
   .exact h6
   .rw[Amb z1,Amb z2,Amb z3,Amb z4,Amb z5,Amb h6]at CA;exact absurd (Amg CA).1 z7
  clear Nh;rw[Amb z1,Amb z2,Amb z3,Amb z4,Amb z5,Amc z6]at h CA;rw[Amn]at CA;obtain⟨Qc,o1,o2,og⟩:=Amg CA.1
  match l,hl,hj,W9,hr,h with
  | [u,v],hl,hj,W9,hr,h=>
   obtain⟨b,o,rfl,CH⟩:=Eh.at hr (i:=0) (x:=u) rfl;obtain⟨_,_,he,mL⟩:=Eh.at hr (i:=1) (x:=v) rfl;cases he;rw[Anz,Ank]at CH;rw[ApZ]at mL;have hj2:j=2:=by simpa using hl.symm
   have hu:=W9 u (by simp);have hv:=W9 v (by simp);have A:R (.T #[.I (Sl n u v).1,.I (Sl n u v).2]) Z:=h;have i0:In (0:Int) (j:Int):=by unfold In;omega
   have i1:In (1:Int) (j:Int):=by unfold In;omega
   unfold Sl at A;have bad:(u=3\/v=3\/((11<=n.op/\n.op<=13\/n.Be≠0)/\¬(u=2/\v=2))\/(u=1/\v=1/\BR n.op=true/\n.bool=false))->R (.T #[.I 0,.I 192]) Z:=λhb=>by
    rw[Amc hb]at A;exact A
   have good:¬(u=3\/v=3\/((11<=n.op/\n.op<=13\/n.Be≠0)/\¬(u=2/\v=2))\/(u=1/\v=1/\BR n.op=true/\n.bool=false))->∀w,w=(if u<v then v else u)->R (.T #[.I w,.I 0]) Z:=λhb w hw=>by
    rw[Amb hb]at A;rw[hw];exact A
   have AOe:5<=n.op/\n.op<=10↔BR n.op=true:=by unfold BR;rw[Amn,Amq,Amq]
   have t88:u≠3->v≠3->¬((11<=n.op/\n.op<=13\/n.Be≠0)/\¬(u=2/\v=2))->I5.wa R n.kind n.op n.text p k c n.width n.back n.Be q m d n.bool n.parts (decide (u=1)&&decide (v=1)) Z:=λC G CU=>by
    have fin:(u=1/\v=1->¬(BR n.op=true/\n.bool=false))->Bo (decide (u=1)&&decide (v=1)) (R (.T #[.I 1,.I 0]) Z) (R (.T #[.I 2,.I 0]) Z):=λhc=>by
     have AKZ:=good (λhb=>by
      rcases hb with hb|hb|hb|⟨hb1,fD,hb3⟩
      .exact C hb
      .exact G hb
      .exact CU hb
      .exact hc ⟨hb1,fD⟩ hb3)
     refine⟨λhs=>?_,λhs=>?_⟩
     .rw[Amn,Amq,Amq]at hs;exact AKZ 1 (by rw[Amb (by omega)];omega)
     .rw[An4,Am2,Am2]at hs;exact AKZ 2 (by split<;>omega)
    refine I5.AFx ⟨λh5=>⟨λW0=>⟨λhs=>?_,λhs=>(fin λhh=>?_).2 hs⟩,λW0=>fin λ_ hh=>W0 (AOe.2 hh.1).2⟩,λh5=>fin λ_ hh=>h5 (AOe.2 hh.1).1⟩
    .have hs2:=hs;rw[Amn,Amq,Amq]at hs2;exact⟨λhb=>bad (.inr (.inr (.inr ⟨hs2.1,hs2.2,AOe.1 ⟨h5,W0⟩,hb⟩))),λhb=>(fin λ_ hh=>by rw[hb]at hh;cases hh.2).1 hs⟩
    .rw[Amt hh.1,Amt hh.2]at hs;cases hs
   have t82:I5.wZ R (some ⟨b,o,none⟩) j e n.kind n.op n.text p k c n.width n.back n.Be q m d n.bool n.parts (decide (u=2)&&decide (v=2)) (decide (u=1)&&decide (v=1)) Z:=by
    refine I5.AFw ⟨b,o,rfl,i0,u,CH,λC=>bad (.inl C),λC=>⟨i1,v,mL,λG=>bad (.inr (.inl G)),λG=>⟨λIq=>⟨λhb=>bad (.inr (.inr (.inl ⟨.inl ⟨Iq,o2⟩,?_⟩))),λhb=>⟨λhg=>t88 C G ?_,λhg=>t88 C G ?_⟩⟩,λIq=>⟨λhg=>⟨λhb=>bad (.inr (.inr (.inl ⟨.inr hg,?_⟩))),λhb=>t88 C G ?_⟩,λhg=>t88 C G ?_⟩⟩⟩⟩
    .rw[An4,Am2,Am2]at hb;omega
    .rw[Amn,Amq,Amq]at hb;exact λg=>g.2 hb
    .rw[Amn,Amq,Amq]at hb;exact λg=>g.2 hb
    .rw[An4,Am2,Am2]at hb;omega
    .rw[Amn,Amq,Amq]at hb;exact λg=>g.2 hb
    .exact λg=>g.1.elim (λg1=>Iq g1.1) hg
   refine⟨b,o,rfl,i0,u,CH,λu2=>⟨i1,v,mL,i0,u,CH,λu1=>absurd (u1.symm.trans u2) (by decide),λu1=>?_⟩,λu2=>⟨i0,u,CH,λu1=>⟨i1,v,mL,?_⟩,λu1=>?_⟩⟩
   .rw[show(decide (v=2))=(decide (u=2)&&decide (v=2)) by rw[Amt u2,Anw],show false=(decide (u=1)&&decide (v=1)) by rw[Ams u1,Anv]];exact t82
   .have e2:(decide (u=2)&&decide (v=2))=false:=by rw[Ams u2,Anv]
    have e1:(decide (u=1)&&decide (v=1))=decide (v=1):=by rw[Amt u1,Anw]
    rw[e2,e1]at t82;exact t82
   .have e2:(decide (u=2)&&decide (v=2))=false:=by rw[Ams u2,Anv]
    have e1:(decide (u=1)&&decide (v=1))=false:=by rw[Ams u1,Anv]
    rw[e2,e1]at t82;exact t82
  | [],hl,hj,_,_,_=>simp at hj;omega
  | [_],hl,hj,_,_,_=>simp at hj;omega
  | _::_::_::_,hl,hj,_,_,_=>simp at hj;omega
theorem AOf {n:Nd}{l:List Int}(hf:DY n=true)(C:(l.length:Int)=n.parts)(W9:∀x∈l,1<=x/\x<=3)(A:(Na n l).2=0):1<=(Na n l).1/\(Na n l).1<=3:=by
 have G:=Gg hf;unfold Fg at G;unfold Na at A ⊢;by_cases z1:n.kind=1
 .rw[Amc z1];decide
 rw[Amb z1]at A G ⊢;by_cases z2:n.kind=2
 .rw[Amc z2];decide
 rw[Amb z2]at A G ⊢;by_cases z3:n.kind=3
 .rw[Amc z3];decide
 rw[Amb z3]at A G ⊢;by_cases z4:n.kind=4
 .rw[Amc z4]at A ⊢;unfold SE at A ⊢;by_cases hh:l[0]?.getD 0=(if n.op=11\/n.op=12 then 2 else 3)
  .rw[Amc hh];exact⟨by decide,by decide⟩
  .rw[Amb hh]at A;exact absurd A (by decide)
 rw[Amb z4]at A G ⊢;by_cases z5:n.kind=5
 .rw[Amc z5]at A ⊢;unfold WY at A ⊢;split
  .decide
  .rename_i hh;rw[Amb hh]at A;exact absurd A (by decide)
 rw[Amb z5]at A G ⊢;by_cases z6:n.kind=6
 .rw[Amc z6]at A G ⊢;rw[Amn]at G;have Qc:=(Amg G.1).1
  match l,C,W9,A with
  | [u,v],_,W9,A=>
   have hu:=W9 u (by simp);have hv:=W9 v (by simp);have QT:(Sl n u v).2=0:=A;show 1<=(Sl n u v).1/\(Sl n u v).1<=3
   unfold Sl at QT ⊢;split
   .rename_i hh;rw[Amc hh]at QT;exact absurd QT (by decide)
   .dsimp only;split<;>omega
  | [],C,_,_=>simp at C;omega
  | [_],C,_,_=>simp at C;omega
  | _::_::_::_,C,_,_=>simp at C;omega
 .rw[Amb z6]at A G ⊢;have Qc:=(Amg G).2
  match l,C,W9,A with
  | [u],_,W9,A=>
   have hu:=W9 u (by simp);show 1<=(W6 u).1/\(W6 u).1<=3
   have QT:(W6 u).2=0:=A;unfold W6 at QT ⊢;split
   .rename_i hh;rw[Amc hh]at QT;exact absurd QT (by decide)
   .exact hu
  | [],C,_,_=>simp at C;omega
  | _::_::_,C,_,_=>simp at C;omega
theorem jf {p:Option Addr}{n c:Nat}{t:List Nd}(hr:AT 10 IQ Z p n t)(hn:n<=1000000000)(hb:∀x∈t,x.text.size<=4611686018427387904)
  (h:∀k Z',Jm t=some k->Ext Z Z'->R (.T #[.I k,.I 0,.I 0]) Z') (h':∀k j e Z',Jm t=none->e≠0->Ext Z Z'->R (.T #[.I k,.I j,.I e]) Z') :
  Spec prog 29 #[.slice p n c] Z R:=by
 have hl:t.length=n:=hr.1;refine I6.start ?_
 suffices H:∀g k:Nat,∀(r:Option Addr) (j e:Nat) (st:List Int) (Z':Hp),n-k=g->k<=n->j<=k->AL 1 (Ms .i64) Z Z' r j e st->(∀x∈st,1<=x/\x<=3)->DS t []=DS (t.drop k) st->I6.AR R p n c r j e (k:Int) Z' from
  H n 0 none 0 0 [] _ rfl (Amh _) (Amr _) (AL.nil (.refl _)) (λx hx=>by cases hx) rfl
 intro g
 induction g with
 | zero=>
  intro k r j e st Z' hg hk hj ho W9 he;rw[Amm (by omega)]at he;have HG:st.length=j:=ho.1.1;have ht:Jm t=ACU t (some st):=by unfold Jm;rw[he];rfl
  refine I6.AM ⟨λAv=>by omega,λ_=>⟨λh1=>h' _ _ _ Z' ?_ (by decide) ho.up,λh1=>⟨λIP=>h' _ _ _ Z' ?_ (by decide) ho.up,λRp=>?_⟩⟩⟩
  .rw[ht]
   match st,HG with
   | [],_=>rfl
   | [_],HG=>simp at HG;omega
   | _::_::_,_=>rfl
  .rw[ht]
   match st,HG with
   | [],_=>rfl
   | [_],HG=>exact Amb (by omega)
   | _::_::_,_=>rfl
  .have eH:j=1:=by omega
   subst eH
   match st,HG with
   | [x],_=>
    obtain⟨b,o,rfl,CH⟩:=Eh.at (ho.rd (Ms.mono _)) (i:=0) (x:=x) rfl;exact⟨b,o,rfl,by unfold In;omega,x,by simpa using CH,h x Z' (by rw[ht];exact Amc (by omega)) ho.up⟩
 | succ g ih=>
  intro k r j e st Z' hg hk hj ho W9 he;have DI:k<n:=by omega
  obtain⟨x,hx⟩:=hr.ex DI;obtain⟨b,o,p1,k1,c1,q1,m1,d1,rfl,CH,h1,h2⟩:=IQ.at hr hx;rw[BA hx,DS]at he;have HG:st.length=j:=ho.1.1;have hX:=ho.up;have Ba:In (k:Int) (n:Int):=by unfold In;omega
  have AHd:Af Z' b (o+Int.toNat (k:Int)*10) [.I x.kind,.I x.op,.string x.text,.slice p1 k1 c1,.I x.width,.I x.back,.I x.Be,.slice q1 m1 d1,.bool x.bool,.I x.parts]:=by simpa using CH.mono hX
  have G:(Bk x st).1≠0->∀e2:Int,e2≠0->R (.T #[.I 0,.I (k:Int),.I e2]) Z':=λAi e2 Ug=>h' _ _ _ Z' (by unfold Jm;rw[he,Amb Ai];rfl) Ug hX;have hks:DY x=true->1<=x.kind/\x.kind<=7:=λA=>by
   have CA:=Gg A;unfold Fg at CA;by_cases h1:x.kind=1
   .omega
   by_cases h2:x.kind=2
   .omega
   by_cases h3:x.kind=3
   .omega
   by_cases h4:x.kind=4
   .omega
   by_cases h5:x.kind=5
   .omega
   by_cases h6:x.kind=6
   .omega
   rw[Amb h1,Amb h2,Amb h3,Amb h4,Amb h5,Amb h6]at CA;have:=(Amg CA).1;omega
  have hpo:DY x=true->x.parts=E6 x.kind:=λA=>((nr (hks A)).1 A).1.1;have AOg:(DY x=false\/(st.length:Int)<x.parts)->(Bk x st).1≠0:=λhh=>by unfold Bk;rw[Amc hh];show(190:Int)≠0;decide
  have orf:(DY x=true->False)->(Bk x st).1≠0:=λhh=>AOg (.inl (by rw[An2];exact hh));refine I6.AM ⟨λ_=>⟨b,o,rfl,Ba,x.kind,AHd.1,Ng ⟨_,rfl,λVT=>G (orf λA=>?_) 190 (by decide),λVT=>⟨λhsh=>G ?_ 190 (by decide),λhsh=>⟨Ba,_,_,_,_,_,_,_,_,_,_,_,_,_,_,AHd,nu ?_ h1.1 (h2.mono hX) (hb x (Ame hx)) ⟨_,rfl,λA=>G (AOg (.inl A)) 190 (by decide),λA=>⟨Ba,p1,k1,c1,AHd.2.2.2.1,yC (h1.mono KH.mono hX) ⟨_,rfl,λAi=>G ?_ 193 (by decide),λheq=>⟨Ba,_,_,_,_,_,_,_,_,_,_,_,_,_,_,AHd,?_⟩⟩⟩⟩⟩⟩⟩⟩,λhh=>by omega⟩
  .have hk7:=hks A;unfold E6 at VT;split at VT
   .omega
   .split at VT
    .omega
    .split at VT<;>omega
  .by_cases A:DY x=true
   .exact AOg (.inr (by have:=hpo A;omega))
   .exact orf A
  ·
   unfold E6 at VT;split at VT
   .omega
   .split at VT
    .omega
    .split at VT<;>omega
  .unfold Bk;rw[Amb (by
    rw[Ap1];exact⟨by rw[A];decide,by have:=hpo A;omega⟩),Amc Ai]
   show(193:Int)≠0
   decide
  .have hm0:JD DR x.mt=0:=Amy.1 heq;have hpx:=hpo A;have hnn:=Qd A;obtain⟨C,htp⟩:∃C:Nat,x.parts=C:=⟨x.parts.toNat,by omega⟩;have e1:Int.toNat ((j:Int)-E6 x.kind)=j-C:=by omega
   have rX:j<=e:=by obtain⟨cs,KI,_⟩:=ho.1.2;exact Aw.cap KI
   have W5:=AT.sub (i:=j-C) (m:=j-(j-C)) (ho.rd (Ms.mono _)) (by decide) (by omega) rX;rw[Amj (by rw[Amx];omega)]at W5;have E7:Bk x st=((Na x (st.drop (st.length-x.parts.toNat))).2,st.take (st.length-x.parts.toNat)++[(Na x (st.drop (st.length-x.parts.toNat))).1]):=by
    unfold Bk;rw[Amb (by
     rw[Ap1];exact⟨by rw[A];decide,by omega⟩),Amb (λhh=>hh hm0)]
   have etp:st.length-x.parts.toNat=j-C:=by omega
   rw[etp]at E7;have AKa:((st.drop (j-C)).length:Int)=x.parts:=by rw[Amx];omega
   have AXz:∀y∈st.drop (j-C),1<=y/\y<=3:=λy hy=>W9 y (An0 hy);refine⟨by unfold AF;omega,⟨by omega,by omega⟩,?_⟩;rw[e1];refine yD A W5 AKa AXz ⟨_,_,rfl,λAHG=>G (by rw[E7];exact AHG) _ AHG,λh02=>⟨by unfold AF;omega,⟨by omega,by omega⟩,λoM Aeb=>?_⟩⟩;have AX0:=Amy.1 h02;refine AL.HI (vs:=[.I (Na x (st.drop (j-C))).1]) (Ms.mono _) (ho.take (m:=j-C) (by omega)) rfl (λu hu=>by rw[Amo.1 hu];rfl) (x:=(Na x (st.drop (j-C))).1) rfl (by omega) (λp' c' Z4 FE _=>⟨_,_,_,rfl,AI DI hr.big,?_⟩) Aeb;have:=ih (k+1) p' (j-C+1) c' _ Z4 (by omega) (by omega) (by omega) FE (λy hy=>?_) (by rw[he,E7,Amc AX0])
   .rw[show((k+1:Nat):Int)=(k:Int)+1 by omega]at this;exact this
   .rcases Am6.1 hy with hy|hy
    .exact W9 y (An7 hy)
    .rw[Amo.1 hy];exact AOf A AKa AXz AX0
end
theorem AX1:EH T0 ur=0:=by kernel_rfl
section
variable {Z:Hp}{R:Rr}
end
section
variable {Z:Hp}{R:Rr}
theorem UQ {b:Nat}(h:R (.returned (.U b)) Z):Spec prog 36 #[.float .f64 b] Z R:=fK.start (.y QV ⟨_,rfl,h⟩)
set_option maxRecDepth 100000 in
theorem AX2 {x y : Operand} {a b a' b' : Int} : YF prog (do eqGuard .neq 61 x y (.agg #[.I a,.U b]) (.agg #[.I a',.U b']); binOp .neq 61 (.agg #[.I a,.U b]) (.agg #[.I a',.U b'])) Z (.bool (!(a == a' && b == b'))) := λw _ => by
 have u1 := underlying2
 have u2 := underlying57
 have hS : prog.underlying 61 = some (.struct (prog.fieldsOf 61)) := by kernel_rfl
 have hp : prog.stoodInHeld 61 = false := by kernel_rfl
 have hf : (prog.fieldsOf 61).toList = [{ name := "T",type := 2,offset := 0,embedded := false,tag := "",pkgPath := "",byteOffset := 0 },{ name := "V",type := 57,offset := 1,embedded := false,tag := "",pkgPath := "",byteOffset := 8 }] := by kernel_rfl
 simp only [Sem.run_bind,run_eqGuard_agg _ _ _ _ _ _ _ (show prog.eqGuardType prog.depth 61 = false by kernel_rfl),Result.andThen_ok,run_neq_struct]
 rw [show (10000 : Nat) = 9999 + 1 from rfl,run_equalIn_agg w 9999 61 _ _ hS hp,hf]
 simp only [Op.eqFields]
 go_simp
 by_cases h1 : a = a' <;> by_cases h2 : b = b' <;> simp [h1,h2]
theorem Wf {p G:Option Addr}{n C c c':Nat}{ps:List Pt}(A:AT 2 Ff Z p n ps)(h2:AT 2 Ff Z G C ps)(hR:R (.B true) Z):Spec prog 33 #[.slice p n c,.slice G C c'] Z R:=by
 have e1:ps.length=n:=A.1;have e2:ps.length=C:=h2.1;refine Ej.start ⟨λAi=>absurd (by omega) Ai,λ_=>?_⟩
 suffices H:∀d i:Nat,n-i=d->i<=n->Ej.Au R p n c G C c' i Z from H n 0 rfl (Amh _)
 intro d
 induction d with
 | zero=>exact λi hd hi=>Ej.Aq ⟨λAv=>by omega,λ_=>hR⟩
 | succ d ih=>
  intro i hd hi;obtain⟨x,hx⟩:=A.ex (show i<n by omega);obtain⟨b,o,rfl,l1⟩:=Ff.at A hx;obtain⟨b',o',rfl,l2⟩:=Ff.at h2 hx;exact Ej.Aq ⟨λ_=>⟨b,o,rfl,by omega,x.1,x.2,by simpa using l1,b',o',rfl,by omega,x.1,x.2,by simpa using l2,_,AX2,λhh=>by simp at hh,λ_=>⟨AI (by omega) A.big,ih (i+1) (by omega) (by omega)⟩⟩,λhh=>by omega⟩
theorem Aec:AF ((0:Int)+0):=by unfold AF;omega
theorem AX3:AF ((0:Int)+0+300):=by unfold AF;omega
theorem AD3 {p:Option Addr}{n c:Nat}(hr:AT 10 IQ Z p n T0)(h:∀Z',Ext Z Z'->R (.T #[.I 300,.I 0]) Z'):Spec prog 9 #[.slice p n c] Z R:=by
 have hn:2=n:=hr.1;subst hn;refine Dk.start (bX hr (by decide) jN.tx (λk Z' C hx=>⟨_,_,_,rfl,λA=>absurd rfl A,λ_=>?_⟩) λk j e Z' C=>by rw[ty0]at C;cases C);have Gq:=hr.mono IQ.mono hx;obtain⟨b,o,p1,k1,c1,q1,m1,d1,rfl,G,_,_⟩:=IQ.at Gq (i:=0) (x:=nV) rfl;obtain⟨b',o',p2,k2,c2,q2,m2,d2,he,Rn,_,_⟩:=IQ.at Gq (i:=1) (x:=nA) rfl;cases he;refine Dk.iL ⟨λ_=>⟨b,o,rfl,by decide,_,_,_,_,_,_,_,_,_,_,_,_,_,_,G,λ_=>⟨λA=>absurd rfl A,λ_=>⟨Aec,λ_=>⟨AX3,Dk.AFv ?_⟩,λA=>absurd rfl A⟩⟩⟩,λA=>absurd (by decide) A⟩;refine⟨λ_=>Dk.M3 (Dk.th ⟨by unfold AF;omega,Dk.iL ⟨λ_=>⟨b,o,rfl,by decide,_,_,_,_,_,_,_,_,_,_,_,_,_,_,Rn,λ_=>⟨λ_=>⟨λ_=>Dk.th ⟨by unfold AF;omega,Dk.iL ⟨λA=>absurd A (by decide),λ_=>h _ hx⟩⟩,λA=>absurd (by decide) A⟩,λA=>absurd (by decide) A⟩⟩,λA=>absurd (by decide) A⟩⟩),λA=>by cases A⟩
theorem nz {Z:Hp}{b:Nat}{o:Obj}(h:Z b=none):Ext Z (Z.set b o)/\Z.set b o b=some o:=⟨.set h,Hp.AA _ _ _⟩
theorem Qq {α:Type}{s b n:Nat}{T:TypeId}{E:Hp->List Value->α->Prop}{cs:List Value}{xs:List α}(h:Z b=some (.cells cs.toArray T (0,0)))(A:cs.length=n*s)(C:xs.length=n)(hb:n<=1000)(G:∀(i:Nat) (x:α),xs[i]?=some x->E Z ((cs.drop (i*s)).take s) x):AT s E Z (aD b 0) n xs:=
 ⟨C,cs,⟨A,by omega,.inr ⟨b,0,rfl,Af.C0 h⟩⟩,by rw[A,C],G⟩
def AX4:Prop:=∀{Z:Hp} {R:Rr} {p q:Option Addr} {n c k d:Nat},Gl Z->AT 10 IQ Z p n T0->AT 2 Cd Z q k ur->(∀b o e p2 c2 Z',Ext Z Z'->Hp.ld Z' ⟨b,o+1,none⟩=some (.slice p2 2 c2)->R (.T #[.slice (some ⟨b,o,none⟩) 1 e,.I 0]) Z')->
 Spec prog 16 #[.slice p n c,.slice q k d,.I 0,.I 60,.I 60] Z R
theorem AD4 (Aed:AX4):Awk:=λZ R hg h=>by
 refine WJ.start λBu Iq=>UQ ⟨_,rfl,UQ ⟨_,rfl,λHy h16 lD h20=>UQ ⟨_,rfl,λJc h23 IG h25 dA h27 jx h30=>?_⟩⟩⟩;have x11:=Ext.set (o:=.cells #[(.string (ByteArray.mk #[95,95,110,97,109,101,95,95])),(.string (ByteArray.mk #[120])),(.string (ByteArray.mk #[97])),(.string (ByteArray.mk #[49]))] 71 (0,0)) Iq;have x16:=Ext.set (o:=.cells #[.I 0,.U v1,.I 60,.U v3] 61 (0,0)) h16;have Ig:=Ext.set (o:=.cells #[(.string (ByteArray.mk #[95,95,110,97,109,101,95,95])),(.string (ByteArray.mk #[120])),(.string (ByteArray.mk #[97])),(.string (ByteArray.mk #[50]))] 71 (0,0)) h20;have E3:=Ext.set (o:=.cells #[.I 60,.U v5] 61 (0,0)) h23;have Ki:=Ext.set (o:=.cells #[(.slice (aD Bu 0) 2 2),(.slice (aD Hy 0) 2 2),(.slice (aD lD 0) 2 2),(.slice (aD Jc 0) 1 1)] 51 (0,0)) h25;have LY:=Ext.set (o:=.cells #[.I 1,(.string (ByteArray.mk #[95,95,110,97,109,101,95,95])),(.string (ByteArray.mk #[120]))] 75 (0,0)) h27;obtain⟨G,g30⟩:=nz (o:=.cells #[.I 2,.I 0,(.string (ByteArray.mk #[])),(.slice (aD dA 0) 1 1),.I 0,.I 0,.I 0,.N,.bool false,.I 0,.I 5,.I 1,(.string (ByteArray.mk #[])),.N,.I 0,.I 0,.I 0,.N,.bool false,.I 1] 44 (0,0)) h30;have g11:=(x16.trans (Ig.trans (E3.trans (Ki.trans (LY.trans G))))) Bu _ (Hp.AA _ _ _);have g16:=(Ig.trans (E3.trans (Ki.trans (LY.trans G)))) Hy _ (Hp.AA _ _ _);have g20:=(E3.trans (Ki.trans (LY.trans G))) lD _ (Hp.AA _ _ _);have g23:=(Ki.trans (LY.trans G)) Jc _ (Hp.AA _ _ _);have g25:=(LY.trans G) IG _ (Hp.AA _ _ _);have g27:=G dA _ (Hp.AA _ _ _);have A:=x11.trans (x16.trans (Ig.trans (E3.trans (Ki.trans (LY.trans G)))))
 change Spec prog 8 #[.slice (aD jx 0) 2 2,.slice (aD IG 0) 2 2,.I 60] (Hp.set _ jx _) _
 generalize hτ:Hp.set _ jx _=O at *;have rA:Db O (aD Bu 0) 2 AN4:=Qq g11 rfl rfl (by decide) λi x A=>match i,A with
  | 0,A=>by cases A;rfl
  | 1,A=>by cases A;rfl
  | i+2,A=>by simp[AN4]at A
 have rB:Db O (aD lD 0) 2 AN5:=Qq g20 rfl rfl (by decide) λi x A=>match i,A with
  | 0,A=>by cases A;rfl
  | 1,A=>by cases A;rfl
  | i+2,A=>by simp[AN5]at A
 have rP:AT 2 Ff O (aD Hy 0) 2 [(0,v1),(60,v3)]:=Qq g16 rfl rfl (by decide) λi x A=>match i,A with
  | 0,A=>by cases A;rfl
  | 1,A=>by cases A;rfl
  | i+2,A=>by simp at A
 have rQ:AT 2 Ff O (aD Jc 0) 1 [(60,v5)]:=Qq g23 rfl rfl (by decide) λi x A=>match i,A with
  | 0,A=>by cases A;rfl
  | i+1,A=>by simp at A
 have rS:AT 2 Cd O (aD IG 0) 2 ur:=Qq g25 rfl rfl (by decide) λi x A=>match i,A with
  | 0,A=>by cases A;exact⟨_,_,_,_,_,_,rfl,rA,rP,by decide⟩
  | 1,A=>by cases A;exact⟨_,_,_,_,_,_,rfl,rB,rQ,by decide⟩
  | i+2,A=>by simp[ur]at A
 have rM:AT 3 KH O (aD dA 0) 1 [⟨1,Tv,sX⟩]:=Qq g27 rfl rfl (by decide) λi x A=>match i,A with
  | 0,A=>by cases A;rfl
  | i+1,A=>by simp at A
 have rN:HP 1 O none 0 (([]:List ByteArray).map .string):=⟨rfl,by decide,.inl rfl⟩;have rT:AT 10 IQ O (aD jx 0) 2 T0:=Qq g30 rfl rfl (by decide) λi x A=>match i,A with
  | 0,A=>by cases A;exact⟨_,_,_,_,_,_,rfl,rM,rN⟩
  | 1,A=>by cases A;exact⟨_,_,_,_,_,_,rfl,AT.nil,rN⟩
  | i+2,A=>by simp[T0]at A
 have AX5:=hg.mono A;refine inst_spec AX5 rT rS jN (λO1 p' n' c' Z1 bs h0 hA Bc=>⟨_,_,_,_,rfl,?_⟩) λZ1 Ai=>absurd (by rw[inst60]) Ai;rw[inst60]at hA;have X1:=Bc.trans hA.ext;refine Aed (AX5.mono X1) (rT.mono IQ.mono X1) (rS.mono Cd.mono X1) λb o e p2 c2 Z2 Ao Wa=>⟨_,_,_,_,rfl,AD3 (rT.mono IQ.mono (X1.trans Ao)) λZ3 BO=>⟨_,_,rfl,?_⟩⟩;have hA3:=(hA.mono (Ao.trans BO)).rd;have hn1:1=n':=hA3.1;subst hn1;obtain⟨RY,o57,p1,n1,c1,q1,m1,d1,rfl,hl,_,Gw,_⟩:=Cd.at hA3 (i:=0) (s:=⟨[],[(60,v8)]⟩) rfl;have Lk:1=m1:=Gw.1;subst Lk;refine⟨λ_=>⟨λ_=>⟨RY,o57,rfl,by decide,q1,1,d1,by simpa using hl.2.1,UQ ⟨_,rfl,.H9 (.refl _),λte h62=>?_⟩⟩,λC=>absurd rfl C⟩,λC=>absurd rfl C⟩;obtain⟨dT,g62⟩:=nz (o:=.cells #[.I 60,.U v8] 61 (0,0)) h62;refine Wf (ps:=[(60,v8)]) (Gw.mono Ff.mono dT) (Qq g62 rfl rfl (by decide) λi x A=>match i,A with
  | 0,A=>by cases A;rfl
  | i+1,A=>by simp at A) ⟨_,rfl,λ_=>⟨λ_=>⟨λ_=>⟨b,o,rfl,by decide,p2,2,c2,(BO.trans dT).ld Wa,λ_=>⟨λ_=>?_,λC=>absurd rfl C⟩,λC=>absurd rfl C⟩,λC=>absurd rfl C⟩,λC=>absurd rfl C⟩,λC=>by cases C⟩
 exact h _ (A.trans (X1.trans (Ao.trans (BO.trans dT))))
end
section
variable {Z Z':Hp}{R:Rr}{p:Option Addr}{n c:Nat}{ss:List Sr}
set_option maxRecDepth 100000 in
theorem AX6 {x y : Operand} {a b a' b' : ByteArray} : YF prog (do eqGuard .neq 71 x y (.agg #[.string a,.string b]) (.agg #[.string a',.string b']); binOp .neq 71 (.agg #[.string a,.string b]) (.agg #[.string a',.string b'])) Z (.bool (!(a.toList == a'.toList && b.toList == b'.toList))) := λw _ => by
 have u9 := underlying9
 have hS : prog.underlying 71 = some (.struct (prog.fieldsOf 71)) := by kernel_rfl
 have hp : prog.stoodInHeld 71 = false := by kernel_rfl
 have hf : (prog.fieldsOf 71).toList = [{ name := "Name",type := 9,offset := 0,embedded := false,tag := "",pkgPath := "",byteOffset := 0 },{ name := "Value",type := 9,offset := 1,embedded := false,tag := "",pkgPath := "",byteOffset := 16 }] := by kernel_rfl
 simp only [Sem.run_bind,run_eqGuard_agg _ _ _ _ _ _ _ (show prog.eqGuardType prog.depth 71 = false by kernel_rfl),Result.andThen_ok,run_neq_struct]
 rw [show (10000 : Nat) = 9999 + 1 from rfl,run_equalIn_agg w 9999 71 _ _ hS hp,hf]
 simp only [Op.eqFields]
 go_simp
 by_cases h1 : a.toList = a'.toList <;> by_cases h2 : b.toList = b'.toList <;> simp [h1,h2]
theorem sQ {p G:Option Addr}{n C c c':Nat}{ls:List Lb}(A:Db Z p n ls)(h2:Db Z G C ls)(hR:R (.B true) Z):Spec prog 32 #[.slice p n c,.slice G C c'] Z R:=by
 have e1:ls.length=n:=A.1;have e2:ls.length=C:=h2.1;refine Em.start ⟨λAi=>absurd (by omega) Ai,λ_=>?_⟩
 suffices H:∀d i:Nat,n-i=d->i<=n->Em.Au R p n c G C c' i Z from H n 0 rfl (Amh _)
 intro d
 induction d with
 | zero=>exact λi hd hi=>Em.Aq ⟨λAv=>by omega,λ_=>hR⟩
 | succ d ih=>
  intro i hd hi;obtain⟨x,hx⟩:=A.ex (show i<n by omega);obtain⟨b,o,rfl,l1⟩:=Db.at A hx;obtain⟨b',o',rfl,l2⟩:=Db.at h2 hx;exact Em.Aq ⟨λ_=>⟨b,o,rfl,by omega,x.1,x.2,by simpa using l1,b',o',rfl,by omega,x.1,x.2,by simpa using l2,_,AX6,λhh=>by simp at hh,λ_=>⟨AI (by omega) A.big,ih (i+1) (by omega) (by omega)⟩⟩,λhh=>by omega⟩
theorem S1 {q:Option Addr}{m d:Nat}(A:AT 2 Cd Z p n ss)(h2:AT 2 Cd Z q m ss)(hR:R (.B true) Z):Spec prog 12 #[.slice p n c,.slice q m d] Z R:=by
 have e1:ss.length=n:=A.1;have e2:ss.length=m:=h2.1;refine Ei.start ⟨λAi=>absurd (by omega) Ai,λ_=>?_⟩
 suffices H:∀d' i:Nat,n-i=d'->i<=n->Ei.Au R p n c q m d i Z from H n 0 rfl (Amh _)
 intro d'
 induction d' with
 | zero=>exact λi hd hi=>Ei.Aq ⟨λAv=>by omega,λ_=>hR⟩
 | succ d' ih=>
  intro i hd hi;obtain⟨x,hx⟩:=A.ex (show i<n by omega);obtain⟨b,o,p1,k1,c1,q1,m1,d1,rfl,l1,G,Aef,_⟩:=Cd.at A hx;obtain⟨b',o',p2,k2,c2,q2,m2,d2,rfl,l2,Aeg,Aeh,_⟩:=Cd.at h2 hx;exact Ei.Aq ⟨λ_=>⟨b,o,rfl,by omega,p1,k1,c1,by simpa using l1.1,b',o',rfl,by omega,p2,k2,c2,by simpa using l2.1,sQ G Aeg ⟨_,rfl,λC=>(by cases C),λ_=>⟨by omega,q1,m1,d1,by simpa using l1.2.1,by omega,q2,m2,d2,by simpa using l2.2.1,Wf Aef Aeh ⟨_,rfl,λC=>(by cases C),λ_=>⟨AI (by omega) A.big,ih (i+1) (by omega) (by omega)⟩⟩⟩⟩⟩,λC=>by omega⟩
set_option maxRecDepth 100000 in
theorem AX7 {x y : Operand} {k k' : Int} {a b a' b' : ByteArray} : YF prog (do eqGuard .neq 75 x y (.agg #[.I k,.string a,.string b]) (.agg #[.I k',.string a',.string b']); binOp .neq 75 (.agg #[.I k,.string a,.string b]) (.agg #[.I k',.string a',.string b'])) Z (.bool (!(k == k' && (a.toList == a'.toList && b.toList == b'.toList)))) := λw _ => by
 have u9 := underlying9
 have u3 := underlying3
 have hS : prog.underlying 75 = some (.struct (prog.fieldsOf 75)) := by kernel_rfl
 have hp : prog.stoodInHeld 75 = false := by kernel_rfl
 have hf : (prog.fieldsOf 75).toList = [{ name := "Kind",type := 3,offset := 0,embedded := false,tag := "",pkgPath := "",byteOffset := 0 },{ name := "Name",type := 9,offset := 1,embedded := false,tag := "",pkgPath := "",byteOffset := 8 },{ name := "Value",type := 9,offset := 2,embedded := false,tag := "",pkgPath := "",byteOffset := 24 }] := by kernel_rfl
 simp only [Sem.run_bind,run_eqGuard_agg _ _ _ _ _ _ _ (show prog.eqGuardType prog.depth 75 = false by kernel_rfl),Result.andThen_ok,run_neq_struct]
 rw [show (10000 : Nat) = 9999 + 1 from rfl,run_equalIn_agg w 9999 75 _ _ hS hp,hf]
 simp only [Op.eqFields]
 go_simp
 by_cases h0 : k = k' <;> by_cases h1 : a.toList = a'.toList <;> by_cases h2 : b.toList = b'.toList <;> simp [h0,h1,h2]
theorem oA {p p':Option Addr}{n G c c':Nat}{C:List Mt}(A:AT 3 KH Z p n C)(h2:AT 3 KH Z p' G C)(hR:R (.B true) Z):Spec prog 30 #[.slice p n c,.slice p' G c'] Z R:=by
 have e1:C.length=n:=A.1;have e2:C.length=G:=h2.1;refine Di.start ⟨λAi=>absurd (by omega) Ai,λ_=>?_⟩
 suffices H:∀d i:Nat,n-i=d->i<=n->Di.Au R p n c p' G c' i Z from H n 0 rfl (Amh _)
 intro d
 induction d with
 | zero=>exact λi hd hi=>Di.Aq ⟨λAv=>by omega,λ_=>hR⟩
 | succ d ih=>
  intro i hd hi;obtain⟨x,hx⟩:=A.ex (show i<n by omega);obtain⟨b,o,rfl,l1⟩:=KH.at A hx;obtain⟨b',o',rfl,l2⟩:=KH.at h2 hx;exact Di.Aq ⟨λ_=>⟨b,o,rfl,by unfold In;omega,x.kind,x.name,x.val,by simpa using l1,b',o',rfl,by unfold In;omega,x.kind,x.name,x.val,by simpa using l2,_,AX7,λhh=>by simp at hh,λ_=>⟨AI (by omega) A.big,ih (i+1) (by omega) (by omega)⟩⟩,λhh=>by omega⟩
theorem oB {p p':Option Addr}{n C c c':Nat}{ns:List ByteArray}(G:HP 1 Z p n (ns.map .string))(h2:HP 1 Z p' C (ns.map .string))(hR:R (.B true) Z):Spec prog 31 #[.slice p n c,.slice p' C c'] Z R:=by
 have e1:ns.length=n:=by have:=G.1;rw[Amw,An5]at this;exact this
 have e2:ns.length=C:=by have:=h2.1;rw[Amw,An5]at this;exact this
 refine FM.start ⟨λAi=>absurd (by omega) Ai,λ_=>?_⟩
 suffices H:∀d i:Nat,n-i=d->i<=n->FM.Au R p n c p' C c' i Z from H n 0 rfl (Amh _)
 intro d
 induction d with
 | zero=>exact λi hd hi=>FM.Aq ⟨λAv=>by omega,λ_=>hR⟩
 | succ d ih=>
  intro i hd hi;obtain⟨x,hx⟩:∃x,ns[i]?=some x:=⟨_,Amf (by omega)⟩;have hb1:=G.2.1;rcases G.2.2 with h0|⟨b,o,hp,l1⟩
  .omega
  rcases h2.2.2 with h0|⟨b',o',A,l2⟩
  .omega
  have g1:Z.ld ⟨b,o+i,none⟩=some (.string x):=l1.get (by rw[Am8,hx];rfl);have g2:Z.ld ⟨b',o'+i,none⟩=some (.string x):=l2.get (by rw[Am8,hx];rfl);refine FM.Aq ⟨λ_=>⟨b,o,hp,by unfold In;omega,x,by simpa using g1,b',o',A,by unfold In;omega,x,by simpa using g2,λhh=>?_,λ_=>⟨AI (by omega) hb1,?_⟩⟩,λhh=>by omega⟩
  .rw[beq_self_eq_true]at hh;cases hh
  .have:=ih (i+1) (by omega) (by omega);rw[show((i+1:Nat):Int)=(i:Int)+1 by omega]at this;rw[kl hp,kl A];exact this
abbrev sR:Obj:=.cells #[.I 0,.I 0,(.string (ByteArray.mk #[])),.N,.I 0,.I 0,.I 0,.N,.bool false,.I 0] 44 (0,0)
theorem AHe {b:Nat}{Φ:Unit->Hp->Prop}{n:Nd}{p q:Option Addr}{k c m d:Nat}(h:Φ () (Z.set b (.cells (ndC n p k c q m d) 44 (0,0)))):AJ prog (Instr.storeAt 44 (.pointer (some ⟨b,0,none⟩)) (Ka n p k c q m d)) (Z.set b sR) Φ:=by
 refine AJ.store ACO (Hp.AA _ _ _) rfl (by simp) (by simp[Value.cells,Value.oneCell']) ?_;rw[Hp.set_set];rw[show(Ka n p k c q m d).cells=ndC n p k c q m d from rfl,T1 (by rfl)];exact h
theorem oC {p p':Option Addr}{n n' c c':Nat}{T:List Nd}(h1:AT 10 IQ Z p n T)(h2:AT 10 IQ Z p' n' T)(hR:∀Z',Ext Z Z'->R (.B true) Z'):Spec prog 11 #[.slice p n c,.slice p' n' c'] Z R:=by
 have e1:T.length=n:=h1.1;have e2:T.length=n':=h2.1;refine Ci.start ⟨λAi=>absurd (by omega) Ai,λ_=>?_⟩
 suffices H:∀d i:Nat,∀Z',n-i=d->i<=n->Ext Z Z'->Ci.Au R p n c p' n' c' (i:Int) Z' from H n 0 Z rfl (Amh _) (.refl _)
 intro d
 induction d with
 | zero=>exact λi Z' hd hi hx=>Ci.Aq ⟨λAv=>by omega,λ_=>hR Z' hx⟩
 | succ d ih=>
  intro i Z' hd hi hx;obtain⟨x,hxi⟩:=h1.ex (show i<n by omega);obtain⟨b,o,p1,k1,c1,q1,m1,d1,rfl,Rn,Lk,hn1⟩:=IQ.at (h1.mono IQ.mono hx) hxi;obtain⟨b',o',p2,k2,c2,q2,m2,d2,rfl,Wa,mT,rY⟩:=IQ.at (h2.mono IQ.mono hx) hxi;have go:∀b6,Z' b6=none->AJ prog (Instr.storeAt 44 (.pointer (aD b6 0)) (Ka x p1 k1 c1 q1 m1 d1)) (Hp.set Z' b6 sR) (λ_ y=>Kp [b'] (Hp.set Z' b6 sR) y/\LI .i64 y b6 0 λKj=>Br (Kj≠x.kind) (R (.B false) y) (LI .i64 y b6 1 λUX=>Br (UX≠x.op) (R (.B false) y) (LT y b6 2 λs41=>Bn (ByteArray.toList s41==ByteArray.toList x.text) (R (.B false) y) (LS y b6 3 λp48 n48 c48=>Spec prog 30 #[.slice p48 n48 c48,.slice p2 k2 c2] y (BV R (CB λt51 AB=>Bn t51 (R (.B false) AB) (LI .i64 AB b6 4 λtJ=>Br (tJ≠x.width) (R (.B false) AB) (LI .i64 AB b6 5 λJp=>Br (Jp≠x.back) (R (.B false) AB) (LI .i64 AB b6 6 λzu=>Br (zu≠x.Be) (R (.B false) AB) (LS AB b6 7 λp77 n77 c77=>Spec prog 31 #[.slice p77 n77 c77,.slice q2 m2 d2] AB (BV R (CB λt80 G=>Bn t80 (R (.B false) G) (LB G b6 8 λt85=>Bo t85 (Bo x.bool (LI .i64 G b6 9 λqK=>Br (qK≠x.parts) (R (.B false) G) (AF ((i:Int)+1)/\Ci.Au R (aD b o) n c (aD b' o') n' c' ((i:Int)+1) G)) (R (.B false) G)) (Bo x.bool (R (.B false) G) (LI .i64 G b6 9 λqK=>Br (qK≠x.parts) (R (.B false) G) (AF ((i:Int)+1)/\Ci.Au R (aD b o) n c (aD b' o') n' c' ((i:Int)+1) G)))))))))))))))):=λb6 C=>AHe (by
   have x6:=Ext.set (o:=.cells (ndC x p1 k1 c1 q1 m1 d1) 44 (0,0)) C;have c6:=Hp.AA Z' b6 (.cells (ndC x p1 k1 c1 q1 m1 d1) 44 (0,0));have nx:AF ((i:Int)+1)/\Ci.Au R (aD b o) n c (aD b' o') n' c' ((i:Int)+1) (Z'.set b6 (.cells (ndC x p1 k1 c1 q1 m1 d1) 44 (0,0))):=⟨AI (by omega) h1.big,by
    have:=ih (i+1) (Z'.set b6 (.cells (ndC x p1 k1 c1 q1 m1 d1) 44 (0,0))) (by omega) (by omega) (hx.trans x6);rw[show((i+1:Nat):Int)=(i:Int)+1 by omega]at this;exact this⟩
   refine⟨λk hk u hu=>?_,x.kind,Ak c6 rfl,λA=>absurd rfl A,λ_=>⟨x.op,Ak c6 rfl,λA=>absurd rfl A,λ_=>⟨x.text,Ak c6 rfl,λA=>(by rw[beq_self_eq_true]at A;cases A),λ_=>⟨p1,k1,c1,Ak c6 rfl,oA (Lk.mono KH.mono x6) (mT.mono KH.mono x6) ⟨_,rfl,λA=>(by cases A),λ_=>⟨x.width,Ak c6 rfl,λA=>absurd rfl A,λ_=>⟨x.back,Ak c6 rfl,λA=>absurd rfl A,λ_=>⟨x.Be,Ak c6 rfl,λA=>absurd rfl A,λ_=>⟨q1,m1,d1,Ak c6 rfl,oB (hn1.mono x6) (rY.mono x6) ⟨_,rfl,λA=>(by cases A),λ_=>⟨x.bool,Ak c6 rfl,λht=>⟨λ_=>⟨x.parts,Ak c6 rfl,λA=>absurd rfl A,λ_=>nx⟩,λhf=>(by rw[ht]at hf;cases hf)⟩,λhf=>⟨λht=>(by rw[ht]at hf;cases hf),λ_=>⟨x.parts,Ak c6 rfl,λA=>absurd rfl A,λ_=>nx⟩⟩⟩⟩⟩⟩⟩⟩⟩⟩⟩⟩⟩;rw[Amo]at hk;subst hk;have Ai:k≠b6:=λe=>by
    have h9:=Wa.1;rw[e]at h9;simp[Hp.ld,C]at h9
   rw[Hp.AN Ai]at hu ⊢;exact hu)
  exact Ci.Aq ⟨λ_=>⟨b,o,rfl,by unfold In;omega,_,_,_,_,_,_,_,_,_,_,_,_,_,_,by simpa using Rn,b',o',rfl,by unfold In;omega,_,_,_,_,_,_,_,_,_,_,_,_,_,_,by simpa using Wa,λb6 C _=>go b6 C,λ_ b6 C=>go b6 C⟩,λA=>by omega⟩
end
abbrev AD5 (t:Int)(l:List El):List Sr:=l.map λe=>⟨e.ls,[(t,e.v)]⟩
section
variable {Z Z' Z0:Hp}{R:Rr}
theorem cp {t:Int}(h:R (.returned (.bool (decide (-1099511627776<=t/\t<=1099511627776)))) Z):Spec prog 19 #[.I t] Z R:=by
 refine Yp.start ⟨λA=>?_,λA=>?_⟩
 .rw[show decide (-1099511627776<=t/\t<=1099511627776)=decide (t<=1099511627776) from Ane.2 ⟨λh=>h.2,λh=>⟨A,h⟩⟩]at h;exact h
 .rw[show decide (-1099511627776<=t/\t<=1099511627776)=false from Ams λC=>A C.1]at h;exact h
theorem AL.ser {p pl:Option Addr}{n c C cl b:Nat}{xs:List Sr}{t v:Int}{ls:List Lb}{y:Hp}{Φ:Value->Hp->Prop}(ho:AL 2 Cd Z0 Z p n c xs)(A:Ext Z y)(hr:Db (Z.new y) pl C ls)(hb:y b=none)(hn:n<=1000000000000)
  (hΦ:∀G c' Z',AL 2 Cd Z0 Z' G (n+1) c' (xs++[⟨ls,[(t,v)]⟩])->Φ (.slice G (n+1) c') Z') :
  Al (Hp.set y b (.cells #[.I t,.U v] 61 (0,0))) λYO=>AJ prog (Builtin.append_ #[23,23] 23 #[.slice p n c,(.slice (aD YO 0) 1 1)]) (Hp.set (Hp.set y b (.cells #[.I t,.U v] 61 (0,0))) YO (.cells #[.slice pl C cl,.slice (aD b 0) 1 1] 51 (0,0))) Φ:=λYO AC5=>by
 have xb:=Ext.set (o:=.cells #[.I t,.U v] 61 (0,0)) hb;have A7:=ho.mono Cd.mono (A.trans xb);have hbp:∀a,p=some a->a.block≠b:=λa ha e=>by
  have h9:=ho.1.block a ha;rw[e]at h9;cases hh:Z b with
  | none=>exact h9 hh
  | some u=>rw[A _ _ hh]at hb;cases hb
 have he:Cd ((Hp.set y b (.cells #[.I t,.U v] 61 (0,0))).del p) [.slice pl C cl,.slice (aD b 0) 1 1] ⟨ls,[(t,v)]⟩:=by
  refine⟨pl,C,cl,aD b 0,1,1,rfl,hr.mono A9.mono ((Ext.HO xb).trans (ho.new (A.trans xb))),⟨rfl,[.I t,.U v],⟨rfl,by decide,.inr ⟨b,0,rfl,Af.C0 (T:=61) (c:=[.I t,.U v]) ?_⟩⟩,rfl,λj y A=>?_⟩,Amr _⟩
  .exact AU.2 ⟨λa ha e=>hbp a ha e.symm,Hp.AA _ _ _⟩
  .cases j with
   | zero=>simp only[AnD,Ami]at A;subst A;rfl
   | succ j=>simp at A
 exact AL.HI Cd.mono A7 rfl (Cd.one _ _ _ he) he (by omega) (λG c' Z' Mk _=>hΦ G c' Z' Mk) AC5
theorem AD6 {p q:Option Addr}{n c m d:Nat}{T:List Nd}{ss:List Sr}{t kf:Int}(hr:AT 10 IQ Z p n T)(hs:AT 2 Cd Z q m ss)(hS:mi ss)(DZ:DJ none ss=true)(hD:SsD ss)(h64:∀s∈ss,∀p∈s.ps,JI p.2)(hn:n<=4096)(ht:-4611686018427387904<=t/\t<=4611686018427387904)(W9:DS T []=some [kf])
  (h:∀l Z' p' n' c',A3 FF T ss t=some l->Ext Z Z'->AT 2 Cd Z' p' n' (AD5 t l)->R (.T #[.slice p' n' c',.I 0]) Z') (h':A3 FF T ss t=none->∀Z',Ext Z Z'->R (.T #[.N,.I 223]) Z') :
  Spec prog 20 #[.slice p n c,.slice q m d,.I t] Z R:=by
 refine MJ.start (je hr hs hS DZ hD h64 hn ht W9 (λv d' Z1 pv nv cv qv mv dv hv XD Bc hrv hcv=>⟨_,_,_,_,_,_,_,_,_,_,rfl,λ_=>⟨λhh=>(by cases hh),λ_=>?_⟩⟩) λCU Z1 Bc=>⟨_,_,_,_,_,_,_,_,_,_,rfl,λ_=>⟨λ_=>?_,λhh=>(by cases hh)⟩⟩)
 .have hm:A3 FF T ss t=some (if v.kind=1 then[⟨[],v.v⟩] else v.vec):=by
   unfold A3;cases BP:JC FF ss t T [] with
   | none=>rw[BP]at hv;cases hv
   | some st=>
    rw[BP]at hv;show(st.head?.map _)=_
    rw[show st.head?=some v from hv];rfl
  refine⟨λhk dB h28 jx h30=>?_,λhk=>?_⟩
  .rw[XD.k]at hk;rw[Amc hk]at hm;have e1:=XD.v1 hk;have Kj:=Ext.set (o:=.cells #[.I t,.U d'.v] 61 (0,0)) h28;have Lz:=Ext.set (o:=.cells #[.N,.slice (aD dB 0) 1 1] 51 (0,0)) h30;refine h _ _ _ _ _ hm (Bc.trans (Kj.trans Lz)) ⟨rfl,[.N,.slice (aD dB 0) 1 1],⟨rfl,by decide,.inr ⟨jx,0,rfl,Af.C0 (c:=[.N,.slice (aD dB 0) 1 1]) (Hp.AA _ _ _)⟩⟩,rfl,λi y C=>?_⟩;cases i with
   | zero=>
    simp only[AnT,Apu,AnD,Ami]at C;subst C;refine⟨none,0,0,aD dB 0,1,1,rfl,AT.nil,⟨rfl,[.I t,.U d'.v],⟨rfl,by decide,.inr ⟨dB,0,rfl,(Af.C0 (c:=[.I t,.U d'.v]) (Hp.AA _ _ _)).mono Lz⟩⟩,rfl,λj y C=>?_⟩,Amr _⟩;cases j with
    | zero=>simp only[AnD,Ami]at C;subst C;rw[<-e1];rfl
    | succ j=>simp at C
   | succ i=>simp at C
  .rw[XD.k]at hk;rw[Amb hk]at hm;rw[XD.es]at hrv;have hvl:v.vec.length=nv:=hrv.1;obtain⟨mo1,mo2⟩:=Jv hS W9 hm;have hTl:T.length=n:=hr.1;have ANp:nv<=100000000000:=by
    have:=AoS (show T.length<=4096 by omega) hS.ok.len;omega
   suffices H:∀(g i:Nat) N3 n10 MF Z2,nv-i=g->i<=nv->AL 2 Cd Z1 Z2 N3 n10 MF (AD5 t (v.vec.take i))->MJ.Nx R t d'.kind d'.v pv nv cv d'.w qv mv dv N3 n10 MF (i:Int) Z2 from H nv 0 none 0 0 Z1 rfl (Amh _) (AL.nil (.refl _))
   intro g
   induction g with
   | zero=>
    intro i N3 n10 MF Z2 hg hi ho;rw[Amj (by omega)]at ho;exact MJ.Jg ⟨λhh=>by omega,λ_=>h v.vec Z2 N3 n10 MF hm (Bc.trans ho.up) (ho.rd Cd.mono)⟩
   | succ g ih=>
    intro i N3 n10 MF Z2 hg hi ho;have BT:i<nv:=by omega
    obtain⟨x,hx⟩:=hrv.ex BT;obtain⟨b,o,q1,m1,d1,rfl,CH,dD⟩:=Ad.at hrv hx;have hX:=ho.up;have Wa:Af Z2 b (o+Int.toNat (i:Int)*2) [.slice q1 m1 d1,.U x.v]:=by simpa using CH.mono hX
    have AOh:=dD.mono A9.mono hX;have Lk:m1<=1000000000:=by
     have:=(mo1 x (Ame hx)).rd dD;omega
    have AlV:n10<=i:=by
     have h3:=ho.1.1;rw[Amw,Amp]at h3;omega
    have Ba:In (i:Int) (nv:Int):=by unfold In;omega
    have next:∀p9 c9 Z4,AL 2 Cd Z1 Z4 p9 (n10+1) c9 (AD5 t (v.vec.take i)++[⟨x.ls,[(t,x.v)]⟩])->AF ((i:Int)+1)/\MJ.Nx R t d'.kind d'.v (aD b o) nv cv d'.w qv mv dv p9 (n10+1) c9 ((i:Int)+1) Z4:=λp9 c9 Z4 UI=>⟨by unfold AF;omega,by
     have:=ih (i+1) p9 (n10+1) c9 Z4 (by omega) (by omega) (by rw[AQ hx];unfold AD5;rw[Am7];exact UI);rw[show((i+1:Nat):Int)=(i:Int)+1 by omega]at this;exact this⟩
    have j6:∀k,Z2 k=none->b≠k:=λk hk e=>by
     have h9:=Wa.1;rw[e]at h9;simp[Hp.ld,hk]at h9
    refine MJ.Jg ⟨λ_=>⟨b,o,rfl,Ba,q1,m1,d1,Wa.1,Ba,x.v,Wa.2.1,λRA h39=>⟨?_,λDC A=>?_⟩,λDC A RA h39=>?_⟩,λhh=>by omega⟩
    .refine EF AOh Lk (λiJ fS y G C=>⟨_,_,_,rfl,λk hk u hu=>?_,λDC A=>AL.ser ho C (G.rd A9.mono) A (by omega) λp9 c9 Z4 UI=>⟨_,_,_,rfl,next _ _ _ UI⟩⟩) h39;rw[Amo]at hk;subst hk;rw[Hp.AN (j6 RA h39)]at hu;exact C _ _ hu
    .have Ai:DC≠RA:=λe=>by rw[e,Hp.AA]at A;cases A
     have AX9:Z2 DC=none:=by rw[Hp.AN Ai]at A;exact A
     exact AJ.HQ A (EF AOh Lk (λiJ fS y G C uZ=>⟨_,_,_,rfl,AL.ser ho C (G.rd A9.mono) uZ (by omega) λp9 c9 Z4 UI=>⟨_,_,_,rfl,next _ _ _ UI⟩⟩) h39)
    .have AOi:=(Hp.DG h39);have AX9:(Z2.set RA (.cells #[] 71 (0,0))) DC=none:=by rw[Hp.AN (Ann AOi.1)];exact A
     dsimp only;rw[Hp.MM (Ann AOi.1)];exact AJ.HQ AX9 (EF AOh Lk (λiJ fS y G C uZ=>⟨_,_,_,rfl,AL.ser ho C (G.rd A9.mono) uZ (by omega) λp9 c9 Z4 UI=>⟨_,_,_,rfl,next _ _ _ UI⟩⟩) AOi.2)
 .have hm:A3 FF T ss t=none:=by
   unfold A3;cases BP:JC FF ss t T [] with
   | none=>rfl
   | some st=>
    rw[BP]at CU;show(st.head?.map _)=_
    rw[show st.head?=none from CU];rfl
  exact h' hm Z1 Bc
end
end TwW
end
