/-
  Part 5 of the proof that the law QuerierOrderUptoCardSaid of the given program answers true for every input of the given statement; the input reads behind the call as it did. (The texts: packed from 17 texts. Names are shortened by the packing program, for the bound on size.)
-/
import Derived.Test.YtdlkodiemlmmiaaGreatDoorA4
import Derived.Test.YtdlkodiemlmmiaaGreatDoorCards
import Derived.Test.YtdlkodiemlmmiaaGreatDoorTie
import Derived.WalkKit
import Derived.OpenShut
import Derived.Deep.DeepHandedRow
import Derived.Stop.LaidErr
import Derived.Shelf.Vars
set_option linter.all false
section
namespace TwW
open Go Tw Go.RowKit Go.Proofs.Tryz
theorem qF:∀w,(zeroValue 109).run prog w=.ok (.agg #[.N,.U 0]) w:=λw=>by
 have h:prog.info? 109=some t109:=by kernel_rfl
 simp[zeroValue,typeInfo,h];rfl
def E0 (Z0:Hp)(v:Value)(x:El):Prop:=∃p n c,v=.agg #[.slice p n c,.U x.v]/\HG Z0 p n x.ls
theorem dI {α:Type}{f:α->Bool}{xs:List α}{k:Nat}{x:α}(G:xs[k]?=some x):(xs.take (k+1)).filter f=(xs.take k).filter f++if f x then[x] else[]:=by
 rw[AU G,Ak0];by_cases h:f x=true<;>simp[h]
section
variable {Z22 Z' Z0:Hp}{R:Rr}
theorem Ext.put {m:Nat}{o:Obj}(hx:Ext Z0 Z22)(hm:Z0 m=none):Ext Z0 (Z22.set m o):=λk u G=>by rw[Hp.AB (λe=>by rw[e,hm]at G;cases G)];exact hx _ _ G
theorem L0 {n:Nd}{p q pv:Option Addr}{k c m d nv cv:Nat}{vec:List El}(hs:Fo 1 Z22 q m (n.names.map .string))(hr:Ae 2 DJ Z22 pv nv vec)(jD:∀e∈vec,BQ e.ls)
  (h:∀G Z',MS (E0 Z22) Z' G (fS n vec)->Ext Z22 Z'->R (.T #[.map (some G),.bool (vo n vec)]) Z'):Spec prog 216 #[Qd n p k c q m d,.slice pv nv cv] Z22 R:=by
 have hl:vec.length=nv:=hr.1;refine I3.start λ_=>C7 λG hmb=>⟨G,rfl,?_⟩
 let st:List (ByteArray×El)->El->List (ByteArray×El):=λm x=>fQ m (JZ (S9 n x.ls)) x
 have hk:fS n vec=vec.foldl st []:=rfl
 suffices H:∀g i:Nat,∀Z',nv-i=g->i<=nv->MS (E0 Z22) Z' G ((vec.take i).foldl st [])->Ext Z22 Z'->I3.A4 R pv nv cv n.kind n.op n.text p k c n.width n.back n.GU q m d n.bool n.parts (some G) pv nv cv nv i Z' from H nv 0 _ rfl (Ajy _) MS.fresh (.set hmb)
 intro g
 induction g with
 | zero=>
  intro i Z' hg hi hM hx;rw[Ajq (by omega)]at hM;refine I3.AX ⟨λAx=>by omega,λ_=>⟨_,hM.len,?_⟩⟩;have:=h G Z' hM hx;unfold vo at this;rw[hk,hl]at this;rw[show decide ((((vec.foldl st []).length:Nat):Int)=(nv:Int))=decide ((vec.foldl st []).length=nv) from Akr.2 (by omega)];exact this
 | succ g ih=>
  intro i Z' hg hi hM hx;have CO:i<nv:=by omega
  obtain⟨y,hy⟩:=hr.ex CO;obtain⟨b1,o1,q1,m1,d1,rfl,RB,EB⟩:=DJ.at hr hy;have Ml:=jD y (Aju hy);refine I3.AX ⟨λ_=>⟨b1,o1,rfl,by omega,q1,m1,d1,y.v,by simpa using RB.mono hx,λ_=>Vq (EB.mono Cg.mono hx) (Ml.rd EB) (hs.mono hx) λp' n' c' Z2 Ff Ao=>⟨_,_,_,rfl,Io (Ff.mono Cg.mono (Ext.CY _ _)) Ml.S9 λZ3 CE=>⟨_,rfl,?_⟩⟩⟩,λhh=>by omega⟩;refine(hM.mono (Ao.trans CE)).put (x:=y) ⟨q1,m1,d1,rfl,EB⟩ λo hM'=>⟨AO CO hr.big,ih (i+1) _ (by omega) (by omega) ?_ (Ext.put (hx.trans (Ao.trans CE)) hmb)⟩;rw[AU hy,AlB];exact hM'
theorem wg {n:Nd}{p q a px py:Option Addr}{k c m d nx cx ny cy:Nat}{x y:List El}(hs:Fo 1 Z22 q m (n.names.map .string))(fj:Ae 2 DJ Z22 px nx x)(hry:Ae 2 DJ Z22 py ny y)(hsx:∀e∈x,BQ e.ls)(so:∀e∈y,BQ e.ls)(hlen:x.length+y.length<=1000000000000)
  (h:Kn R Z22 ((Ha FF (X0 n x y)).map λl=>⟨2,0,l,[]⟩)):Spec prog 172 #[.pointer a,Qd n p k c q m d,.slice px nx cx,.slice py ny cy] Z22 R:=by
 have YA:x.length=nx:=fj.1;have fU:y.length=ny:=hry.1;refine Ap.start λ_ _=>L0 hs fj hsx λmx Z1 lN BC=>⟨_,_,rfl,L0 (hs.mono BC) (hry.mono DJ.mono BC) so λmy Z2 hM2 Ao=>⟨_,_,rfl,?_⟩⟩;have hX:=BC.trans Ao;have hMx:=lN.mono Ao
 replace h:=h.wS hX
 let f1:El->Bool:=λe=>decide (n.op=12)||((cu n y (S9 n e.ls)).isSome==decide (n.op=11))
 let f2:El->Bool:=λe=>(cu n x (S9 n e.ls)).isNone&&decide (n.op=12)
 have hf:X0 n x y=x.filter f1++y.filter f2:=rfl;rw[hf]at h;have second:∀g i:Nat,∀p8 n8 c8 Z',ny-i=g->i<=ny->AN 2 DJ Z2 Z' p8 n8 c8 (x.filter f1++(y.take i).filter f2)->Ap.Th R n.kind n.op n.text p k c n.width n.back n.GU q m d n.bool n.parts 0 0 none 0 0 none 0 0 (some mx) p8 n8 c8 py ny cy ny i Z':=by
  intro g
  induction g with
  | zero=>
   intro i p8 n8 c8 Z' hg hi G;rw[Ajq (by omega)]at G;have Qf:=G.1.1;rw[Ajr]at Qf;have h9:=AkG f1 x;have MX:=AkG f2 y;exact Ap.Vj ⟨λAx=>by omega,λ_=>GI G (by omega) h.bE⟩
  | succ g ih=>
   intro i p8 n8 c8 Z' hg hi G;have CO:i<ny:=by omega
   obtain⟨z,hz⟩:=hry.ex CO;obtain⟨b1,o1,q1,m1,d1,rfl,RB,EB⟩:=DJ.at hry hz;have Ml:=so z (Aju hz);have Qf:=G.1.1;rw[Ajr]at Qf;have h9:=AkG f1 x;have MX:=AkG f2 (y.take i);rw[AkA]at MX;have next:∀p9 n9 c9 Z3,AN 2 DJ Z2 Z3 p9 n9 c9 (x.filter f1++(y.take i).filter f2++if f2 z then[z] else[])->Ap.SI R n.kind n.op n.text p k c n.width n.back n.GU q m d n.bool n.parts 0 0 none 0 0 none 0 0 (some mx) p9 n9 c9 (aD b1 o1) ny cy ny i Z3:=λp9 n9 c9 Z3 Di=>
    Ap.fJ ⟨AO CO hry.big,ih (i+1) _ _ _ _ (by omega) (by omega) (by rw[dI hz,<-AkC];exact Di)⟩
   have Xz:=hX.trans G.up;refine Ap.Vj ⟨λ_=>⟨b1,o1,rfl,by omega,q1,m1,d1,z.v,by simpa using RB.mono Xz,λ_=>Vq (EB.mono Cg.mono Xz) (Ml.rd EB) (hs.mono Xz) λp' n' c' Z3 Up CE=>⟨_,_,_,rfl,Io (Up.mono Cg.mono (Ext.CY _ _)) Ml.S9 λZ4 KK=>⟨_,rfl,?_⟩⟩⟩,λhh=>by omega⟩;have Hy:=G.mono DJ.mono (CE.trans KK);refine MS.AB5 (hMx.mono (G.up.trans (CE.trans KK))) qF (λHF=>⟨_,_,_,_,_,rfl,λ_=>⟨λ_=>⟨λTo=>λb91 Aay=>?_,λTo=>next _ _ _ _ ?_⟩,λhh=>(by cases hh)⟩⟩) λv e he hE=>?_
   .refine AN.el Hy (EB.mono Cg.mono (hX.trans Hy.2)) (by omega) (λp9 c9 Z5 Sb _=>⟨_,_,_,rfl,next _ _ _ _ ?_⟩) Aay;have:f2 z=true:=by
     show((Fb (fS n x) (JZ (S9 n z.ls))).isNone&&decide (n.op=12))=true
     rw[HF,Aj0 To];rfl
    rw[this];exact Sb
   .have:f2 z=false:=by
     show((Fb (fS n x) (JZ (S9 n z.ls))).isNone&&decide (n.op=12))=false
     rw[Aj1 To,Akx]
    rw[this];simpa using Hy
   .obtain⟨p5,n5,c5,rfl,_⟩:=hE;refine⟨_,_,_,_,_,rfl,λ_=>⟨λhh=>(by cases hh),λ_=>next _ _ _ _ ?_⟩⟩;have:f2 z=false:=by
     show((Fb (fS n x) (JZ (S9 n z.ls))).isNone&&decide (n.op=12))=false
     rw[he];rfl
    rw[this];simpa using Hy
 suffices H:∀g i:Nat,∀p8 n8 c8 Z',nx-i=g->i<=nx->AN 2 DJ Z2 Z' p8 n8 c8 ((x.take i).filter f1)->Ap.AE8 R py ny cy n.kind n.op n.text p k c n.width n.back n.GU q m d n.bool n.parts 0 0 none 0 0 none 0 0 (some mx) (some my) p8 n8 c8 px nx cx nx i Z' from H nx 0 none 0 0 Z2 rfl (Ajy _) (AN.nil (.refl _))
 intro g
 induction g with
 | zero=>
  intro i p8 n8 c8 Z' hg hi G;rw[Ajq (by omega)]at G;exact Ap.sW ⟨λAx=>by omega,λ_=>second ny 0 p8 n8 c8 Z' rfl (Ajy _) (by simpa using G)⟩
 | succ g ih=>
  intro i p8 n8 c8 Z' hg hi G;have CO:i<nx:=by omega
  obtain⟨z,hz⟩:=fj.ex CO;obtain⟨b1,o1,q1,m1,d1,rfl,RB,EB⟩:=DJ.at fj hz;have Ml:=hsx z (Aju hz);have Qf:=G.1.1;have h9:=AkG f1 (x.take i);rw[AkA]at h9;have next:∀p9 n9 c9 Z3,AN 2 DJ Z2 Z3 p9 n9 c9 ((x.take i).filter f1++if f1 z then[z] else[])->Ap.SS R py ny cy n.kind n.op n.text p k c n.width n.back n.GU q m d n.bool n.parts 0 0 none 0 0 none 0 0 (some mx) (some my) p9 n9 c9 (aD b1 o1) nx cx nx i Z3:=λp9 n9 c9 Z3 Di=>
   Ap.fL ⟨AO CO fj.big,ih (i+1) _ _ _ _ (by omega) (by omega) (by rw[dI hz];exact Di)⟩
  have Xz:=hX.trans G.up;refine Ap.sW ⟨λ_=>⟨b1,o1,rfl,by omega,q1,m1,d1,z.v,by simpa using RB.mono Xz,λ_=>Vq (EB.mono Cg.mono Xz) (Ml.rd EB) (hs.mono Xz) λp' n' c' Z3 Up CE=>⟨_,_,_,rfl,Io (Up.mono Cg.mono (Ext.CY _ _)) Ml.S9 λZ4 KK=>⟨_,rfl,?_⟩⟩⟩,λhh=>by omega⟩;have Hy:=G.mono DJ.mono (CE.trans KK);have app:f1 z=true->∀vh,Z4 vh=none->AI prog (Builtin.append_ #[105,105] 105 #[.slice p8 n8 c8,(.slice (aD vh 0) 1 1)]) (Hp.set Z4 vh (.cells #[.slice q1 m1 d1,.U z.v] 109 (0,0))) (CS λyG va yH Ai=>Ap.SS R py ny cy n.kind n.op n.text p k c n.width n.back n.GU q m d n.bool n.parts 0 0 none 0 0 none 0 0 (some mx) (some my) yG va yH (aD b1 o1) nx cx nx i Ai):=λht vh Aaz=>by
   refine AN.el Hy (EB.mono Cg.mono (hX.trans Hy.2)) (by omega) (λp9 c9 Z5 Sb _=>⟨_,_,_,rfl,next _ _ _ _ ?_⟩) Aaz;rw[ht];exact Sb
  have skip:f1 z=false->Ap.SS R py ny cy n.kind n.op n.text p k c n.width n.back n.GU q m d n.bool n.parts 0 0 none 0 0 none 0 0 (some mx) (some my) p8 n8 c8 (aD b1 o1) nx cx nx i Z4:=λht=>next _ _ _ _ (by rw[ht];simpa using Hy)
  have e1:f1 z=(decide (n.op=12)||((Fb (fS n y) (JZ (S9 n z.ls))).isSome==decide (n.op=11))):=rfl;refine MS.AB5 ((hM2.imp λv x hE=>hE).mono (G.up.trans (CE.trans KK))) qF (λHF=>⟨_,_,_,_,_,rfl,λ_=>⟨λTo=>app ?_,λTo=>⟨λhh=>(by cases hh),λ_=>⟨λh11=>skip ?_,λh11=>app ?_⟩⟩⟩⟩) λv e he hE=>?_
  .rw[e1,Aj0 To];rfl
  .rw[e1,Aj1 To,HF,Aj0 h11];rfl
  .rw[e1,Aj1 To,HF,Aj1 h11];rfl
  .obtain⟨p5,n5,c5,rfl,_⟩:=hE;refine⟨_,_,_,_,_,rfl,λ_=>⟨λTo=>app ?_,λTo=>⟨λ_=>⟨λh11=>app ?_,λh11=>skip ?_⟩,λhh=>(by cases hh)⟩⟩⟩
   .rw[e1,Aj0 To];rfl
   .rw[e1,Aj1 To,he,Aj0 h11];rfl
   .rw[e1,Aj1 To,he,Aj1 h11];rfl
end
section
variable {Z22 Z' Z0:Hp}{R:Rr}
theorem Ya {n:Nd}{p q a px:Option Addr}{k c m d nx cx f:Nat}{cap:Array Value}{x:List El}{g:Int->Int×Bool}(fj:Ae 2 DJ Z22 px nx x)(hsx:∀e∈x,BQ e.ls)(hlen:x.length<=1000000000000)(KQ:Enters prog f)
  (hC:∀(Z2:Hp) (v:Int) (R':Rr),Ext Z22 Z2->R' (.T #[.U (g v).1,.bool (g v).2]) Z2->Spec prog f (#[]++#[.U v]++cap) Z2 R')
  (h:Kn R Z22 ((Ha FF (kg n x g)).map λl=>⟨2,0,l,[]⟩)):Spec prog 169 #[.pointer a,Qd n p k c q m d,.slice px nx cx,.func (.func f) #[] cap] Z22 R:=by
 have YA:x.length=nx:=fj.1
 let f1:El->Option El:=λx=>if Hz n.op=false\/n.bool=true then some ⟨Fc x.ls,(g x.v).1⟩ else if(g x.v).2 then some x else none
 have hf:kg n x g=x.filterMap f1:=rfl;rw[hf]at h;refine Bh.start λ_ _=>?_
 suffices H:∀gg i:Nat,∀p8 n8 c8 Z',nx-i=gg->i<=nx->AN 2 DJ Z22 Z' p8 n8 c8 ((x.take i).filterMap f1)->Bh.A4 R (.func (.func f) #[] cap) n.kind n.op n.text p k c n.width n.back n.GU q m d n.bool n.parts 0 0 none 0 0 none 0 0 p8 n8 c8 px nx cx nx i Z' from H nx 0 none 0 0 Z22 rfl (Ajy _) (AN.nil (.refl _))
 intro gg
 induction gg with
 | zero=>
  intro i p8 n8 c8 Z' hg hi G;rw[Ajq (by omega)]at G;have Qf:=G.1.1;have h9:=AkX f1 x;exact Bh.AX ⟨λAx=>by omega,λ_=>GI G (by omega) h.bE⟩
 | succ gg ih=>
  intro i p8 n8 c8 Z' hg hi G;have CO:i<nx:=by omega
  obtain⟨z,hz⟩:=fj.ex CO;obtain⟨b1,o1,q1,m1,d1,rfl,RB,EB⟩:=DJ.at fj hz;have Ml:=hsx z (Aju hz);have Qf:=G.1.1;have h9:=AkX f1 (x.take i);rw[AkA]at h9;have next:∀tb p9 n9 c9 Z3,tb=n.bool->AN 2 DJ Z22 Z3 p9 n9 c9 ((x.take i).filterMap f1++(f1 z).toList)->Bh.Fv R (.func (.func f) #[] cap) n.kind n.op n.text p k c n.width n.back n.GU q m d tb n.parts 0 0 none 0 0 none 0 0 p9 n9 c9 (aD b1 o1) nx cx nx i Z3:=λtb p9 n9 c9 Z3 htb Di=>by
   subst htb;exact Bh.Fm ⟨AO CO fj.big,ih (i+1) _ _ _ _ (by omega) (by omega) (by rw[Ip hz];exact Di)⟩
  have e1:f1 z=if Hz n.op=false\/n.bool=true then some ⟨Fc z.ls,(g z.v).1⟩ else if(g z.v).2 then some z else none:=rfl
  refine Bh.AX ⟨λ_=>⟨b1,o1,rfl,by omega,q1,m1,d1,z.v,by simpa using RB.mono G.up,λ_=>⟨f,#[],cap,rfl,KQ,hC Z' z.v _ G.up ⟨_,_,rfl,EA ⟨_,rfl,?_⟩⟩⟩⟩,λhh=>by omega⟩;have bare:(Hz n.op=false\/n.bool=true)->∀tb,tb=n.bool->Spec prog 158 #[.slice q1 m1 d1] Z' (AY R (CS λp40 n40 c40 AK=>Al AK λsP=>AI prog (Builtin.append_ #[105,105] 105 #[.slice p8 n8 c8,(.slice (aD sP 0) 1 1)]) (Hp.set AK sP (.cells #[.slice p40 n40 c40,.U (g z.v).1] 109 (0,0))) (CS λoS n44 zi Ai=>Bh.Fv R (.func (.func f) #[] cap) n.kind n.op n.text p k c n.width n.back n.GU q m d tb n.parts 0 0 none 0 0 none 0 0 oS n44 zi (aD b1 o1) nx cx nx i Ai))):=λhc tb htb=>
   He (EB.mono Cg.mono G.up) (Ml.rd EB) λp' n' c' Z3 Up CE=>⟨_,_,_,rfl,λsP AL2=>AN.el (G.mono DJ.mono CE) (Up.mono Cg.mono (G.new CE)) (by omega) (λp9 c9 Z5 Sb _=>⟨_,_,_,rfl,next _ _ _ _ _ htb (by rw[e1,Ajl hc];exact Sb)⟩) AL2⟩
  refine⟨λhcf=>bare (.inl hcf) _ rfl,λhct=>⟨λhb=>bare (.inr hb) _ hb.symm,λhb=>⟨λmu=>λcY ACK=>?_,λmu=>next _ _ _ _ _ hb.symm ?_⟩⟩⟩
  .refine AN.el G (EB.mono Cg.mono G.2) (by omega) (λp9 c9 Z5 Sb _=>⟨_,_,_,rfl,next _ _ _ _ _ hb.symm ?_⟩) ACK;rw[e1,Ajj (by rw[hct,hb];simp),Ajl mu];exact Sb
  .rw[e1,Ajj (by rw[hct,hb];simp),Ajj (by rw[mu];simp)];simpa using G
theorem fk {n:Nd}{p q a px py:Option Addr}{k c m d G cx ny cy:Nat}{x y:List El}(hs:Fo 1 Z22 q m (n.names.map .string))(fj:Ae 2 DJ Z22 px G x)(hry:Ae 2 DJ Z22 py ny y)(hsx:∀e∈x,BQ e.ls)(so:∀e∈y,BQ e.ls)(hlen:x.length+y.length<=1000000000000)
  (h:Kn R Z22 (((cw FF n x y).bind (Ha FF)).map λl=>⟨2,0,l,[]⟩)):Spec prog 173 #[.pointer a,Qd n p k c q m d,.slice px G cx,.slice py ny cy] Z22 R:=by
 have YA:x.length=G:=fj.1;have fU:y.length=ny:=hry.1
 let f1:El->Option El:=λe=>match cu n y (S9 n e.ls) with
  | none=>none
  | some o=>if Hz n.op=false\/n.bool=true then some ⟨S9 n e.ls,(FF.VN n.op e.v o.v).1⟩ else if(FF.VN n.op e.v o.v).2 then some e else none
 have hf:cw FF n x y=if vo n x&&vo n y then some (x.filterMap f1) else none:=rfl
 rw[hf]at h;refine BP.start λ_ _=>L0 hs fj hsx λmx Z1 lN BC=>⟨_,_,rfl,L0 (hs.mono BC) (hry.mono DJ.mono BC) so λmy Z2 hM2 Ao=>⟨_,_,rfl,λh1=>?_,λh1=>⟨λh2=>?_,λh2=>?_⟩⟩⟩
 .rw[h1]at h;exact h.no rfl _ (BC.trans Ao)
 .rw[h2,Akx]at h;exact h.no rfl _ (BC.trans Ao)
 rw[h1,h2]at h;have hX:=BC.trans Ao
 replace h:Kn R Z2 ((Ha FF (x.filterMap f1)).map λl=>⟨2,0,l,[]⟩):=h.wS hX
 suffices H:∀gg i:Nat,∀p8 n8 c8 Z',G-i=gg->i<=G->AN 2 DJ Z2 Z' p8 n8 c8 ((x.take i).filterMap f1)->BP.SH R n.kind n.op n.text p k c n.width n.back n.GU q m d n.bool n.parts 0 0 none 0 0 none 0 0 (some my) p8 n8 c8 px G cx G i Z' from H G 0 none 0 0 Z2 rfl (Ajy _) (AN.nil (.refl _))
 intro gg
 induction gg with
 | zero=>
  intro i p8 n8 c8 Z' hg hi ho;rw[Ajq (by omega)]at ho;have Qf:=ho.1.1;have h9:=AkX f1 x;exact BP.Eu ⟨λAx=>by omega,λ_=>GI ho (by omega) h.bE⟩
 | succ gg ih=>
  intro i p8 n8 c8 Z' hg hi ho;have CO:i<G:=by omega
  obtain⟨z,hz⟩:=fj.ex CO;obtain⟨b1,o1,q1,m1,d1,rfl,RB,EB⟩:=DJ.at fj hz;have Ml:=hsx z (Aju hz);have Qf:=ho.1.1;have h9:=AkX f1 (x.take i);rw[AkA]at h9;have next:∀tb p9 n9 c9 Z3,tb=n.bool->AN 2 DJ Z2 Z3 p9 n9 c9 ((x.take i).filterMap f1++(f1 z).toList)->BP.SI R n.kind n.op n.text p k c n.width n.back n.GU q m d tb n.parts 0 0 none 0 0 none 0 0 (some my) p9 n9 c9 (aD b1 o1) G cx G i Z3:=λtb p9 n9 c9 Z3 htb Di=>by
   subst htb;exact BP.fJ ⟨AO CO fj.big,ih (i+1) _ _ _ _ (by omega) (by omega) (by rw[Ip hz];exact Di)⟩
  have Xz:=hX.trans ho.up;refine BP.Eu ⟨λ_=>⟨b1,o1,rfl,by omega,q1,m1,d1,z.v,by simpa using RB.mono Xz,λ_=>Vq (EB.mono Cg.mono Xz) (Ml.rd EB) (hs.mono Xz) λp' n' c' Z3 Up CE=>⟨_,_,_,rfl,Io (Up.mono Cg.mono (Ext.CY _ _)) Ml.S9 λZ4 KK=>⟨_,rfl,?_⟩⟩⟩,λhh=>by omega⟩;have Hy:=ho.mono DJ.mono (CE.trans KK);have hrk:HG (Z4.del p8) p' n' (S9 n z.ls):=Up.mono Cg.mono ((Ext.Ir KK).trans (ho.new (CE.trans KK)));have e1:f1 z=match Fb (fS n y) (JZ (S9 n z.ls)) with
   | none=>none
   | some o=>if Hz n.op=false\/n.bool=true then some ⟨S9 n z.ls,(Pc n.op z.v o.v).1⟩ else if(Pc n.op z.v o.v).2 then some z else none:=rfl
  refine MS.AB5 (hM2.mono (ho.up.trans (CE.trans KK))) qF (λHF=>⟨_,_,_,_,_,rfl,λ_=>⟨λ_=>next _ _ _ _ _ rfl ?_,λhh=>(by cases hh)⟩⟩) λv e he hE=>?_
  .rw[e1,HF];simpa using Hy
  obtain⟨p5,n5,c5,rfl,_⟩:=hE;rw[he]at e1;dsimp only at e1;refine⟨_,_,_,_,_,rfl,λ_=>⟨λhh=>(by cases hh),λ_=>Ju ⟨_,_,rfl,EA ⟨_,rfl,?_⟩⟩⟩⟩;have bare:(Hz n.op=false\/n.bool=true)->∀tb,tb=n.bool->Al Z4 λb82=>AI prog (Builtin.append_ #[105,105] 105 #[.slice p8 n8 c8,(.slice (aD b82 0) 1 1)]) (Hp.set Z4 b82 (.cells #[.slice p' n' c',.U (Pc n.op z.v e.v).1] 109 (0,0))) (CS λp83 n83 c83 G2=>BP.SI R n.kind n.op n.text p k c n.width n.back n.GU q m d tb n.parts 0 0 none 0 0 none 0 0 (some my) p83 n83 c83 (aD b1 o1) G cx G i G2):=λhc tb htb=>
   λsP AL2=>AN.el Hy hrk (by omega) (λp9 c9 Z5 Sb _=>⟨_,_,_,rfl,next _ _ _ _ _ htb (by rw[e1,Ajl hc];exact Sb)⟩) AL2
  refine⟨λhcf=>bare (.inl hcf) _ rfl,λhct=>⟨λhb=>bare (.inr hb) _ hb.symm,λhb=>⟨λmu=>λcY ACK=>?_,λmu=>next _ _ _ _ _ hb.symm ?_⟩⟩⟩
  .refine AN.el Hy (EB.mono Cg.mono (hX.trans Hy.2)) (by omega) (λp9 c9 Z5 Sb _=>⟨_,_,_,rfl,next _ _ _ _ _ hb.symm ?_⟩) ACK;rw[e1,Ajj (by rw[hct,hb];simp),Ajl mu];exact Sb
  .rw[e1,Ajj (by rw[hct,hb];simp),Ajj (by rw[mu];simp)];simpa using Hy
end
theorem AFk:∀w,(Go.sizeOf 164).run prog w=.ok 4 w:=λw=>by kernel_rfl
abbrev iL (x:Vv)(p:Option Addr)(n c:Nat)(q:Option Addr)(m d:Nat):Array Value:=#[.I x.kind,.U x.v,.slice p n c,.slice q m d]
abbrev ndC (n:Nd)(p:Option Addr)(k c:Nat)(q:Option Addr)(m d:Nat):Array Value:=#[.I n.kind,.I n.op,.string n.text,.slice p k c,.I n.width,.I n.back,.I n.GU,.slice q m d,.bool n.bool,.I n.parts]
section
variable {Z22 Z' Z0:Hp}{R:Rr}
theorem Yb {b:Nat}{c:Array Value}{v0 v1 v2 v3:Value}{Φ:Unit->Hp->Prop}(hc:c.size=4)(hb:Z22 b=some (.cells c 164 (0,0)))(G:∀u∈[v0,v1,v2,v3],u.oneCell'=true)(hv:(Value.agg #[v0,v1,v2,v3]).cells=#[v0,v1,v2,v3])
  (h:Φ () (Z22.set b (.cells #[v0,v1,v2,v3] 164 (0,0)))):AI prog (Instr.storeAt 164 (.pointer (some ⟨b,0,none⟩)) (.agg #[v0,v1,v2,v3])) Z22 Φ:=by
 refine AI.store AFk hb (by rw[hv];rfl) (by omega) (by rw[hv];simpa using G) ?_;rw[hv,YM (by rw[hc];rfl)];exact h
theorem A2.Fg {b:Nat}{c:List Value}{T:TypeId}(h:Z22 b=some (.cells c.toArray T (0,0))):A2 Z22 b 0 c:=A2.of λj v G=>by
 rw[Akn];exact AJ h (by simpa using G)
theorem ACL {n:Nd}{p q a l:Option Addr}{k c m d j e:Nat}{L:List Vv}{x y:Vv}(hs:Fo 1 Z22 q m (n.names.map .string))(hr:Ae 4 RW Z22 l j L)(hx:L[0]?=some x)(hy:L[1]?=some y)(hVx:wa x)(hVy:wa y)(h:Kn R Z22 (AFG FF n x y)):
  Spec prog 134 #[.pointer a,Qd n p k c q m d,.slice l j e] Z22 R:=by
 have hj:1<j:=by have h1:L.length=j:=hr.1;have:=(Ajn.1 hy).1;omega
 obtain⟨b,o,px,nx,cx,qx,mx,dx,rfl,h1,h2,h3,h4,h5,h6⟩:=RW.at hr hx;obtain⟨_,_,py,ny,cy,qy,my,dy,he,g1,g2,g3,g4,g5,g6⟩:=RW.at hr hy;cases he;simp only[AlT,Ak7,Nat.one_mul]at h1 h2 h3 h4 g1 g2 g3 g4;have YA:=hVx.len;have fU:=hVy.len;have hsx:=λz hz=>(hVx.el z hz).1;have so:=λz hz=>(hVy.el z hz).1;refine EZ.start λb4 hb4 _=>?_;have x4:=Ext.set (o:=.cells (ndC n p k c q m d) 127 (0,0)) hb4;have c4:=Hp.AA Z22 b4 (.cells (ndC n p k c q m d) 127 (0,0));generalize Ag7:Z22.set b4 (.cells (ndC n p k c q m d) 127 (0,0))=Z4 at *;refine⟨b,o,rfl,by omega,x.kind,x.v,px,nx,cx,qx,mx,dx,⟨x4.ld h1,x4.ld h2,x4.ld h3,x4.ld h4,trivial⟩,by omega,y.kind,y.v,py,ny,cy,qy,my,dy,⟨x4.ld g1,x4.ld g2,x4.ld g3,x4.ld g4,trivial⟩,λG hb8 b9 hb9=>?_,λb9 hb9 G hb8=>?_⟩
 focus
  have n8:G≠b9:=λe=>by rw[e,Hp.AA]at hb9;cases hb9
  have n9:=(Hp.AM hb9).2;have nb:∀k o,Z4 k=some o->k≠G/\k≠b9:=λk o hk=>⟨λe=>(by rw[e,hb8]at hk;cases hk),λe=>(by rw[e,n9]at hk;cases hk)⟩;refine Yb rfl (by rw[Hp.AB n8];exact Hp.AA _ _ _) (by simp[Value.oneCell']) rfl ?_;refine⟨λkb FM u hu=>?_,Yb rfl (by rw[Hp.AB (Aj4 n8)];exact Hp.AA _ _ _) (by simp[Value.oneCell']) rfl ?_⟩
  .rw[Ajp]at FM;subst FM;have uS:∃u,Z4 kb=some u:=by
    have:=x4.ld h1;unfold Hp.ld at this;cases hq:Z4 kb with
    | none=>rw[hq]at this;cases this
    | some u=>exact⟨u,rfl⟩
   obtain⟨u',Bt⟩:=uS;rw[Hp.AB (nb _ _ Bt).1];exact hu
  have F8:((((Z4.set G (.cells #[.I 0,.U 0,.N,.N] 164 (0,0))).set b9 (.cells #[.I 0,.U 0,.N,.N] 164 (0,0))).set G (.cells (iL x px nx cx qx mx dx) 164 (0,0))).set b9 (.cells (iL y py ny cy qy my dy) 164 (0,0))) G=some (.cells (iL x px nx cx qx mx dx) 164 (0,0)):=by rw[Hp.AB n8,Hp.AA]
  have F9:=Hp.AA (((Z4.set G (.cells #[.I 0,.U 0,.N,.N] 164 (0,0))).set b9 (.cells #[.I 0,.U 0,.N,.N] 164 (0,0))).set G (.cells (iL x px nx cx qx mx dx) 164 (0,0))) b9 (.cells (iL y py ny cy qy my dy) 164 (0,0));have X2:Ext Z4 ((((Z4.set G (.cells #[.I 0,.U 0,.N,.N] 164 (0,0))).set b9 (.cells #[.I 0,.U 0,.N,.N] 164 (0,0))).set G (.cells (iL x px nx cx qx mx dx) 164 (0,0))).set b9 (.cells (iL y py ny cy qy my dy) 164 (0,0))):=λk o hk=>by
   obtain⟨a1,a2⟩:=nb k o hk;rw[Hp.AB a2,Hp.AB a1,Hp.AB a2,Hp.AB a1];exact hk
  generalize ((((Z4.set G (.cells #[.I 0,.U 0,.N,.N] 164 (0,0))).set b9 (.cells #[.I 0,.U 0,.N,.N] 164 (0,0))).set G (.cells (iL x px nx cx qx mx dx) 164 (0,0))).set b9 (.cells (iL y py ny cy qy my dy) 164 (0,0)))=y2 at *
 rotate_left
 focus
  have n8:b9≠G:=λe=>by rw[e,Hp.AA]at hb8;cases hb8
  have n9:=(Hp.AM hb8).2;have nb:∀k o,Z4 k=some o->k≠G/\k≠b9:=λk o hk=>⟨λe=>(by rw[e,n9]at hk;cases hk),λe=>(by rw[e,hb9]at hk;cases hk)⟩;refine Yb rfl (Hp.AA _ _ _) (by simp[Value.oneCell']) rfl ?_;refine⟨λkb FM u hu=>?_,Yb rfl (by rw[Hp.AB n8,Hp.AB n8];exact Hp.AA _ _ _) (by simp[Value.oneCell']) rfl ?_⟩
  .rw[Ajp]at FM;subst FM;have uS:∃u,Z4 kb=some u:=by
    have:=x4.ld h1;unfold Hp.ld at this;cases hq:Z4 kb with
    | none=>rw[hq]at this;cases this
    | some u=>exact⟨u,rfl⟩
   obtain⟨u',Bt⟩:=uS;rw[Hp.AB (nb _ _ Bt).1];exact hu
  have F8:((((Z4.set b9 (.cells #[.I 0,.U 0,.N,.N] 164 (0,0))).set G (.cells #[.I 0,.U 0,.N,.N] 164 (0,0))).set G (.cells (iL x px nx cx qx mx dx) 164 (0,0))).set b9 (.cells (iL y py ny cy qy my dy) 164 (0,0))) G=some (.cells (iL x px nx cx qx mx dx) 164 (0,0)):=by rw[Hp.AB (Aj4 n8),Hp.AA]
  have F9:=Hp.AA (((Z4.set b9 (.cells #[.I 0,.U 0,.N,.N] 164 (0,0))).set G (.cells #[.I 0,.U 0,.N,.N] 164 (0,0))).set G (.cells (iL x px nx cx qx mx dx) 164 (0,0))) b9 (.cells (iL y py ny cy qy my dy) 164 (0,0));have X2:Ext Z4 ((((Z4.set b9 (.cells #[.I 0,.U 0,.N,.N] 164 (0,0))).set G (.cells #[.I 0,.U 0,.N,.N] 164 (0,0))).set G (.cells (iL x px nx cx qx mx dx) 164 (0,0))).set b9 (.cells (iL y py ny cy qy my dy) 164 (0,0))):=λk o hk=>by
   obtain⟨a1,a2⟩:=nb k o hk;rw[Hp.AB a2,Hp.AB a1,Hp.AB a1,Hp.AB a2];exact hk
  generalize ((((Z4.set b9 (.cells #[.I 0,.U 0,.N,.N] 164 (0,0))).set G (.cells #[.I 0,.U 0,.N,.N] 164 (0,0))).set G (.cells (iL x px nx cx qx mx dx) 164 (0,0))).set b9 (.cells (iL y py ny cy qy my dy) 164 (0,0)))=y2 at *
 all_goals
  have F4:=X2 _ _ c4;have X:=x4.trans X2;have F4':=A2.Fg (c:=[.I n.kind,.I n.op,.string n.text,.slice p k c,.I n.width,.I n.back,.I n.GU,.slice q m d,.bool n.bool,.I n.parts]) F4;have hn:=h.wS X;unfold AFG at hn;refine⟨x.kind,AJ F8 rfl,λlO=>⟨y.kind,AJ F9 rfl,λhk2=>?_,λhk2=>?_⟩,λlO=>?_⟩
  .rw[Ajl ⟨lO,hk2⟩]at hn;exact⟨_,_,_,_,_,_,_,_,_,_,_,_,_,_,F4',x.v,AJ F8 rfl,y.v,AJ F9 rfl,Ju ⟨_,_,rfl,hn.ok _ y2 none 0 0 none 0 0 rfl (.refl _) Ae.nil Ae.nil (Ajt _) (Ajt _)⟩⟩
  .rw[Ajj (λhh=>hk2 hh.2),Ajl lO]at hn;refine⟨x.kind,AJ F8 rfl,λ_=>⟨_,_,_,_,_,_,_,_,_,_,_,_,_,_,F4',py,ny,cy,AJ F9 rfl,Ya (g:=λv=>Pc n.op x.v v) (g5.mono DJ.mono X) so (by omega) Eh.en (λZ2 v R' Ao Mx=>?_) hn.bE⟩,λhh=>absurd lO hh⟩;exact Eh.start ⟨_,_,_,_,_,_,_,_,_,_,_,_,_,_,F4'.mono Ao,x.v,AJ (Ao _ _ F8) rfl,Ju ⟨_,_,rfl,Mx⟩⟩
  .rw[Ajj (λhh=>lO hh.1),Ajj lO]at hn;refine⟨x.kind,AJ F8 rfl,λhh=>absurd hh lO,λ_=>⟨y.kind,AJ F9 rfl,λhk2=>?_,λhk2=>⟨n.op,AJ F4 rfl,Un ⟨_,rfl,λCA=>?_,λCA=>?_⟩⟩⟩⟩
   .rw[Ajl hk2]at hn;refine⟨_,_,_,_,_,_,_,_,_,_,_,_,_,_,F4',px,nx,cx,AJ F8 rfl,Ya (g:=λv=>Pc n.op v y.v) (h5.mono DJ.mono X) hsx (by omega) Ek.en (λZ2 v R' Ao Mx=>?_) hn.bE⟩;exact Ek.start ⟨_,_,_,_,_,_,_,_,_,_,_,_,_,_,F4'.mono Ao,y.v,AJ (Ao _ _ F9) rfl,Ju ⟨_,_,rfl,Mx⟩⟩
   .rw[Ajj hk2,Ajl (Ajx CA)]at hn;exact⟨_,_,_,_,_,_,_,_,_,_,_,_,_,_,F4',px,nx,cx,AJ F8 rfl,py,ny,cy,AJ F9 rfl,wg (hs.mono X) (h5.mono DJ.mono X) (g5.mono DJ.mono X) hsx so (by omega) hn.bE⟩
   .rw[Ajj hk2,Ajj (AkM CA)]at hn;exact⟨_,_,_,_,_,_,_,_,_,_,_,_,_,_,F4',px,nx,cx,AJ F8 rfl,py,ny,cy,AJ F9 rfl,fk (hs.mono X) (h5.mono DJ.mono X) (g5.mono DJ.mono X) hsx so (by omega) hn.bE⟩
end
structure GR where
 b:Nat
 lp:Option Addr
 ln:Nat
 lc:Nat
 vp:Option Addr
 vn:Nat
 vc:Nat
def GR.cl (r:GR):List Nat:=r.b::V5 r.vp
def GR.cell (r:GR):Obj:=.cells #[.slice r.lp r.ln r.lc,.slice r.vp r.vn r.vc] 234 (0,0)
def HI:List Rg->List GR->List (ByteArray×Nat)
 | g::gs,r::rs=>(JZ g.ls,r.b)::HI gs rs
 | _,_=>[]
structure GS (O2 Z22:Hp)(m:Nat)(op:Option Addr)(on oc:Nat)(rs:List GR)(gs:List Rg):Prop where
 len:rs.length=gs.length
 map:MS (λv b=>v=.pointer (aD b 0)) Z22 m (HI gs rs)
 ord:BL 1 Z22 op on oc (rs.map λr=>.pointer (aD r.b 0))
 box:∀(i:Nat) (r:GR) (g:Rg),rs[i]?=some r->gs[i]?=some g->Z22 r.b=some r.cell/\HG O2 r.lp r.ln g.ls/\DS .u64 Z22 r.vp r.vn r.vc g.vs
 om:∀a,op=some a->a.block≠m/\O2 a.block=none
 dm:∀(i:Nat) (r:GR),rs[i]?=some r->∀k∈r.cl,k≠m/\(∀a,op=some a->k≠a.block)/\O2 k=none
 vb:∀(i:Nat) (r:GR),rs[i]?=some r->∀a,r.vp=some a->a.block≠r.b
 dr:∀(i j:Nat) (r r':GR),i≠j->rs[i]?=some r->rs[j]?=some r'->∀k∈r.cl,k ∉ r'.cl
 tm:O2 m=none
 ext:Ext O2 Z22
theorem AL4:∀w,(Go.sizeOf 60).run prog w=.ok 1 w:=λw=>by kernel_rfl
theorem AFl {p:Option Addr}{k:Nat}:k∈V5 p↔∃a,p=some a/\k=a.block:=by
 cases p with
 | none=>simp[V5]
 | some a=>simp[V5]
theorem L3 {r:GR}{k:Nat}:k∈r.cl↔k=r.b\/∃a,r.vp=some a/\k=a.block:=by
 unfold GR.cl;rw[Ajo,AFl]
theorem BL.of_eq {s:Nat}{Z22 Z':Hp}{p:Option Addr}{n c:Nat}{cs:List Value}(G:BL s Z22 p n c cs)(h:∀a,p=some a->Z' a.block=Z22 a.block):BL s Z' p n c cs:=
 ⟨G.1,G.2.1,G.2.2.imp id λ⟨b',o',arr,T,hp,hb,r⟩=>⟨b',o',arr,T,hp,by rw[h _ hp];exact hb,r⟩⟩
theorem dJ:∀{gs:List Rg} {rs:List GR} {i:Nat} {g g':Rg} {r r':GR},gs[i]?=some g->rs[i]?=some r->g'.ls=g.ls->r'.b=r.b->HI (gs.set i g') (rs.set i r')=HI gs rs
 | [],_,i,_,_,_,_,G,_,_,_=>by simp at G
 | _::_,[],i,_,_,_,_,_,hr,_,_=>by simp at hr
 | a::gs,b::rs,0,g,g',r,r',G,hr,h1,h2=>by
  simp only[AkO,Ajv]at G hr;subst G;subst hr;simp only[List.set_cons_zero,HI,h1,h2]
 | a::gs,b::rs,i+1,g,g',r,r',G,hr,h1,h2=>by
  simp only[Al2,HI];rw[dJ (by simpa using G) (by simpa using hr) h1 h2]
theorem dK:∀{gs:List Rg} {rs:List GR} {g:Rg} {r:GR},rs.length=gs.length->HI (gs++[g]) (rs++[r])=HI gs rs++[(JZ g.ls,r.b)]
 | [],[],g,r,_=>rfl
 | [],_::_,g,r,h=>by simp at h
 | _::_,[],g,r,h=>by simp at h
 | a::gs,b::rs,g,r,h=>by
  simp only[Akl,HI];rw[dK (by simpa using h)]
theorem Yc:∀{gs:List Rg} {rs:List GR} {ls:List Lb} {v:Int} {b:Nat},rs.length=gs.length->Fb (HI gs rs) (JZ ls)=some b->∃(i:Nat) (g:Rg) (r:GR),gs[i]?=some g/\rs[i]?=some r/\r.b=b/\Qa ls v gs=gs.set i ⟨g.ls,g.vs++[v]⟩
 | [],_,ls,v,b,_,h=>by simp[HI,Fb]at h
 | _::_,[],ls,v,b,hl,h=>by simp at hl
 | g::gs,r::rs,ls,v,b,hl,h=>by
  unfold HI Fb at h;by_cases G:JZ g.ls=JZ ls
  .rw[Ajl G]at h;exact⟨0,g,r,rfl,rfl,by simpa using h,by unfold Qa;rw[Ajl G];rfl⟩
  .rw[Ajj G]at h;obtain⟨i,g',r',h1,h2,h3,h4⟩:=Yc (v:=v) (by simpa using hl) h;exact⟨i+1,g',r',by simpa using h1,by simpa using h2,h3,by unfold Qa;rw[Ajj G,h4];rfl⟩
theorem Ye:∀{gs:List Rg} {rs:List GR} {ls:List Lb} {v:Int},rs.length=gs.length->Fb (HI gs rs) (JZ ls)=none->Qa ls v gs=gs++[⟨ls,[v]⟩]/\∀a∈HI gs rs,a.1≠JZ ls
 | [],_,ls,v,_,h=>⟨rfl,λa G=>by simp[HI]at G⟩
 | _::_,[],ls,v,hl,h=>by simp at hl
 | g::gs,r::rs,ls,v,hl,h=>by
  unfold HI Fb at h;by_cases hk:JZ g.ls=JZ ls
  .rw[Ajl hk]at h;cases h
  .rw[Ajj hk]at h;obtain⟨h1,h2⟩:=Ye (v:=v) (by simpa using hl) h;refine⟨by unfold Qa;rw[Ajj hk,h1];rfl,λa G=>?_⟩;unfold HI at G;rcases Ajo.1 G with rfl|G
   .exact hk
   .exact h2 a G
section
variable {O2 Z22 Z' Z0:Hp}{R:Rr}{m on oc:Nat}{op:Option Addr}{rs:List GR}{gs:List Rg}
theorem GS.known (h:GS O2 Z22 m op on oc rs gs){i:Nat}{r:GR}(G:rs[i]?=some r):∀k∈r.cl,∃u,Z22 k=some u:=λk hk=>by
 have Ax:=(Ajn.1 G).1;obtain⟨g,hg⟩:∃g,gs[i]?=some g:=⟨_,Ajs (by rw[<-h.len];exact Ax)⟩;obtain⟨h1,_,h3⟩:=h.box i r g G hg;rcases L3.1 hk with rfl|⟨a,ha,rfl⟩
 .exact⟨_,h1⟩
 .have:=BL.block h3 a ha;cases hh:Z22 a.block with
  | none=>exact absurd hh this
  | some u=>exact⟨u,rfl⟩
theorem GS.grow (h:GS O2 Z22 m op on oc rs gs)(hx:Ext Z22 Z'):∃O'2,GS O'2 Z' m op on oc rs gs/\Ext O2 O'2/\Ext (Z22.new Z') O'2:=by
 have ht:Ext O2 (O2.or (Z22.new Z')):=Ext.Cf _ _;have kn:∀k,(∃u,Z22 k=some u)->O2 k=none->(O2.or (Z22.new Z')) k=none:=λk ⟨u,hu⟩ G=>by
  rw[Hp.Cn G];cases hh:(Z22.new Z') k with
  | none=>rfl
  | some v=>rw[(Af.1 hh).1]at hu;cases hu
 have ne:∀k,Z22 k≠none->∃u,Z22 k=some u:=λk G=>by
  cases hh:Z22 k with
  | none=>exact absurd hh G
  | some u=>exact⟨u,rfl⟩
 refine⟨O2.or (Z22.new Z'),⟨h.len,h.map.mono hx,h.ord.mono hx,λi r g hr hg=>?_,λa ha=>⟨(h.om a ha).1,kn _ (ne _ (h.ord.block a ha)) (h.om a ha).2⟩,λi r hr k G=>?_,h.vb,h.dr,kn _ (ne _ h.map.known) h.tm,?_⟩,ht,?_⟩
 .obtain⟨h1,h2,h3⟩:=h.box i r g hr hg;exact⟨hx _ _ h1,h2.mono Cg.mono ht,h3.mono hx⟩
 .obtain⟨h1,h2,h3⟩:=h.dm i r hr k G;exact⟨h1,h2,kn k (h.known hr k G) h3⟩
 .exact Ext.kX (h.ext.trans hx) (Ext.CY _ _)
 .refine Ext.Cn λk G=>?_;cases hh:O2 k with
  | none=>rfl
  | some u=>
   have h1:=h.ext _ _ hh;cases h2:(Z22.new Z') k with
   | none=>exact absurd h2 G
   | some v=>rw[(Af.1 h2).1]at h1;cases h1
theorem GS.push {i:Nat}{r:GR}{g:Rg}{v:Int}(h:GS O2 Z22 m op on oc rs gs)(hr:rs[i]?=some r)(hg:gs[i]?=some g)(hb:r.vn<=1000000000000){Φ:Hp->Prop}
  (hΦ:∀Z' r',GS O2 Z' m op on oc (rs.set i r') (gs.set i ⟨g.ls,g.vs++[v]⟩)->Φ Z') :
  Al Z22 λb69=>AI prog (Builtin.append_ #[60,60] 60 #[.slice r.vp r.vn r.vc,(.slice (aD b69 0) 1 1)]) (Hp.set Z22 b69 (.cells #[.U v] 27 (0,0))) (CS λp70 n70 c70 y=>AI prog (Instr.storeAt 60 (.pointer (aD r.b 1)) (.slice p70 n70 c70)) y (λ_ AE=>Φ AE)):=λb69 Aa2=>by
 obtain⟨h1,h2,h3⟩:=h.box i r g hr hg;have hil:=(Ajn.1 hr).1;have hig:=(Ajn.1 hg).1;have x1:=Ext.set (o:=.cells #[.U v] 27 (0,0)) Aa2;refine ED (BL.mono x1 h3) (fP (f:=.int .u64) (x:=v) (Hp.AA _ _ _)) FL.Pr (by omega) λvp' vc' Z2 B6 Ao=>⟨_,_,_,rfl,?_⟩;have hvb:=h.vb i r hr;have keep:∀k u,Z22 k=some u->(∀a,r.vp=some a->k≠a.block)->Z2 k=some u/\∀a,vp'=some a->k≠a.block:=λk u hk Av=>by
  obtain⟨a1,a2⟩:=Aq.1 (Ao k u (Aq.2 ⟨Av,x1 _ _ hk⟩));exact⟨a2,a1⟩
 obtain⟨c1,c2⟩:=keep r.b _ h1 λa G e=>hvb a G e.symm;refine AI.store AL4 c1 rfl (by simp) (by simp[Value.cells,Value.oneCell']) ?_
 let r':GR:=⟨r.b,r.lp,r.ln,r.lc,vp',r.vn+1,vc'⟩
 have bN:(Obj.cells (LF #[.slice r.lp r.ln r.lc,.slice r.vp r.vn r.vc] 1 (Value.slice vp' (r.vn+1) vc').cells.toList) 234 (0,0))=r'.cell:=by simp[LF,Value.cells,GR.cell,r']
 rw[bN];have T:∀k u,Z22 k=some u->k ∉ r.cl->(Z2.set r.b r'.cell) k=some u/\k ∉ r'.cl:=λk u hk rM=>by
  have Hc:k≠r.b:=λe=>rM (L3.2 (.inl e));obtain⟨a1,a2⟩:=keep k u hk λa G e=>rM (L3.2 (.inr ⟨a,G,e⟩));exact⟨by rw[Hp.AB Hc];exact a1,λhc=>by
   rcases L3.1 hc with e|⟨a,G,e⟩
   .exact Hc e
   .exact a2 a G e⟩
 have TK:∀k,(∃u,Z22 k=some u)->k ∉ r.cl->(Z2.set r.b r'.cell) k=Z22 k/\k ∉ r'.cl:=λk ⟨u,hu⟩ rM=>⟨by rw[(T k u hu rM).1,hu],(T k u hu rM).2⟩;have ne:∀k,Z22 k≠none->∃u,Z22 k=some u:=λk hk=>by
  cases hh:Z22 k with
  | none=>exact absurd hh hk
  | some u=>exact⟨u,rfl⟩
 have mk:=TK m (ne _ h.map.known) λhc=>(h.dm i r hr m hc).1 rfl;have ok:∀a,op=some a->(Z2.set r.b r'.cell) a.block=Z22 a.block/\a.block ∉ r'.cl:=λa G=>TK _ (ne _ (h.ord.block a G)) λhc=>(h.dm i r hr _ hc).2.1 a G rfl;have jk:∀j s,j≠i->rs[j]?=some s->∀k∈s.cl,(Z2.set r.b r'.cell) k=Z22 k/\k ∉ r'.cl:=λj s hj hs k hk=>TK k (h.known hs k hk) (h.dr j i s r hj hs hr k hk);have wh:∀j s,(rs.set i r')[j]?=some s->(j=i/\s=r')\/(j≠i/\rs[j]?=some s):=λj s hs=>by
  by_cases hj:j=i
  .subst hj;rw[All hil]at hs;exact .inl ⟨rfl,by simpa using hs.symm⟩
  .rw[AmS (Aj4 hj)]at hs;exact .inr ⟨hj,hs⟩
 refine hΦ _ r' ⟨by simp[h.len],?_,?_,λj s t hs ht=>?_,λa G=>h.om a G,λj s hs k hk=>?_,λj s hs a G=>?_,λj l s s' hjl hs Ms k hk=>?_,h.tm,λk u hk=>?_⟩
 .rw[dJ (g':=⟨g.ls,g.vs++[v]⟩) (r':=r') hg hr rfl rfl];exact h.map.loc mk.1
 .have:(rs.set i r').map (λr=>Value.pointer (aD r.b 0))=rs.map λr=>Value.pointer (aD r.b 0):=by
   rw[List.map_set];obtain⟨_,e⟩:=Ajn.1 hr;have:Value.pointer (aD r'.b 0)=(rs.map λr=>Value.pointer (aD r.b 0))[i]'(by simpa using hil):=by simp[e,r']
   rw[this,Am0]
  rw[this];exact BL.of_eq h.ord λa G=>(ok a G).1
 .rcases wh j s hs with ⟨rfl,rfl⟩|⟨hj,Ms⟩
  .rw[All hig]at ht;cases ht;refine⟨Hp.AA _ _ _,h2,?_⟩;have:=BL.AB (b:=r.b) (o:=r'.cell) B6 (λa G e=>c2 a G e.symm);unfold DS;rw[AkI];exact this
  .rw[AmS (Aj4 hj)]at ht;obtain⟨a1,a2,a3⟩:=h.box j s t Ms ht;refine⟨?_,a2,BL.of_eq a3 λa G=>(jk j s hj Ms _ (L3.2 (.inr ⟨a,G,rfl⟩))).1⟩;rw[(jk j s hj Ms _ (L3.2 (.inl rfl))).1];exact a1
 .rcases wh j s hs with ⟨rfl,rfl⟩|⟨hj,Ms⟩
  .refine⟨λe=>mk.2 (e▸hk),λa G e=>(ok a G).2 (e▸hk),?_⟩;cases hq:O2 k with
   | none=>rfl
   | some u=>exact absurd hk (T k u (h.ext _ _ hq) λhc=>by rw[(h.dm j r hr k hc).2.2]at hq;cases hq).2
  .exact h.dm j s Ms k hk
 .rcases wh j s hs with ⟨rfl,rfl⟩|⟨hj,Ms⟩
  .exact λe=>c2 a G e.symm
  .exact h.vb j s Ms a G
 .rcases wh j s hs with ⟨rfl,rfl⟩|⟨hj,Ml⟩
  .rcases wh l s' Ms with ⟨rfl,rfl⟩|⟨hl,hs2⟩
   .exact absurd rfl hjl
   .exact λhc=>(jk l s' hl hs2 k hc).2 hk
  .rcases wh l s' Ms with ⟨rfl,rfl⟩|⟨hl,hs2⟩
   .exact(jk j s hj Ml k hk).2
   .exact h.dr j l s s' hjl Ml hs2 k hk
 .exact(T k u (h.ext _ _ hk) λhc=>by rw[(h.dm i r hr k hc).2.2]at hk;cases hk).1
end
theorem AFm:∀w,(zeroValue 245).run prog w=.ok (.pointer none) w:=λw=>by
 have h:prog.info? 245=some t245:=by kernel_rfl
 simp[zeroValue,typeInfo,h];rfl
theorem AFn:∀w,(zeroValue 246).run prog w=.ok .nilFunc w:=λw=>by
 have h:prog.info? 246=some t246:=by kernel_rfl
 simp[zeroValue,typeInfo,h];rfl
section
variable {O2 Z22 Z' Z0:Hp}{R:Rr}{m on oc:Nat}{op:Option Addr}{rs:List GR}{gs:List Rg}
theorem GS.mono (h:GS O2 Z22 m op on oc rs gs)(G:Ext Z22 Z'):GS O2 Z' m op on oc rs gs:=
 ⟨h.len,h.map.mono G,h.ord.mono G,λi r g hr hg=>let ⟨h1,h2,h3⟩:=h.box i r g hr hg;⟨G _ _ h1,h2,h3.mono G⟩,h.om,h.dm,h.vb,h.dr,h.tm,h.ext.trans G⟩
theorem GS.add {ls:List Lb}{lp:Option Addr}{ln lc:Nat}(h:GS O2 Z22 m op on oc rs gs)(Ab:∀a∈HI gs rs,a.1≠JZ ls)(hr:HG O2 lp ln ls)(jD:BQ ls)(hon:on<=1000000000000){Φ:Nat->Option Addr->Nat->Nat->Hp->Prop}
  (hΦ:∀b op' oc' Z',GS O2 Z' m op' (on+1) oc' (rs++[⟨b,lp,ln,lc,none,0,0⟩]) (gs++[⟨ls,[]⟩])->Φ b op' (on+1) oc' Z') :
  Al Z22 λP1=>Spec prog 107 #[.slice lp ln lc] (Hp.set Z22 P1 (.cells #[.slice lp ln lc,.N] 234 (0,0))) (AY R (CT λs56 AK=>AI prog (Instr.mapUpdate 242 (.map (some m)) (.string s56) (.pointer (aD P1 0))) AK (λ_ Ai=>Al Ai λb60=>AI prog (Builtin.append_ #[243,243] 243 #[.slice op on oc,(.slice (aD b60 0) 1 1)]) (Hp.set Ai b60 (.cells #[(.pointer (aD P1 0))] 245 (0,0))) (CS λp61 n61 c61 CC=>Φ P1 p61 n61 c61 CC)))):=λP1 ACN=>by
 have x1:=Ext.set (o:=.cells #[.slice lp ln lc,.N] 234 (0,0)) ACN;have tb:O2 P1=none:=A7 h.ext ACN;have ne:∀k,Z22 k≠none->∃u,Z22 k=some u:=λk G=>by
  cases hh:Z22 k with
  | none=>exact absurd hh G
  | some u=>exact⟨u,rfl⟩
 have nem:P1≠m:=λe=>h.map.known (by rw[<-e];exact ACN);have neo:∀a,op=some a->P1≠a.block:=λa ha e=>h.ord.block a ha (by rw[<-e];exact ACN);have ncl:∀(i:Nat) (r:GR),rs[i]?=some r->P1 ∉ r.cl:=λi r hr hc=>by obtain⟨u,hu⟩:=h.known hr _ hc;rw[ACN]at hu;cases hu
 refine Io (hr.mono Cg.mono (h.ext.trans x1)) jD λZ2 Ao=>⟨_,rfl,?_⟩;have h2:=h.mono (x1.trans Ao);have c2:=Ao _ _ (Hp.AA Z22 P1 (.cells #[.slice lp ln lc,.N] 234 (0,0)));refine h2.map.put (x:=P1) rfl λo hM=>λb60 AUE=>?_;rw[Tt Ab]at hM;have Aa5:BL 1 (Z2.set m o) op on oc (rs.map λr=>.pointer (aD r.b 0)):=BL.of_eq h2.ord λa ha=>Hp.AB (h.om a ha).1;refine ED (Aa5.mono (.set AUE)) (fP (f:=λv=>v) (x:=.pointer (aD P1 0)) (Hp.AA _ _ _)) (λu hu=>by simp at hu;subst hu;rfl) (by omega) λop' oc' Z5 Sb Rp=>⟨_,_,_,rfl,?_⟩;have T:∀k u,(Z2.set m o) k=some u->(∀a,op=some a->k≠a.block)->Z5 k=some u/\∀a,op'=some a->k≠a.block:=λk u G Av=>by
  obtain⟨a1,a2⟩:=Aq.1 (Rp k u (Aq.2 ⟨Av,(Ext.set AUE) _ _ G⟩));exact⟨a2,a1⟩
 have T2:∀k u,Z2 k=some u->k≠m->(∀a,op=some a->k≠a.block)->Z5 k=some u/\∀a,op'=some a->k≠a.block:=λk u G hkm=>T k u (by rw[Hp.AB hkm];exact G);have Tr:∀(i:Nat) (r:GR),rs[i]?=some r->∀k∈r.cl,Z5 k=Z2 k/\∀a,op'=some a->k≠a.block:=λi r hr k G=>by
  obtain⟨u,hu⟩:=h2.known hr k G;obtain⟨d1,d2,_⟩:=h.dm i r hr k G;obtain⟨a1,a2⟩:=T2 k u hu d1 d2;exact⟨by rw[a1,hu],a2⟩
 have hm2:∃u,(Z2.set m o) m=some u:=⟨_,Hp.AA _ _ _⟩;obtain⟨um,hum⟩:=hm2;obtain⟨m1,m2⟩:=T m um hum λa ha e=>(h.om a ha).1 e.symm;have wh:∀(i:Nat) (r:GR),(rs++[(⟨P1,lp,ln,lc,none,0,0⟩:GR)])[i]?=some r->rs[i]?=some r\/(i=rs.length/\r=⟨P1,lp,ln,lc,none,0,0⟩):=λi r hr=>by
  rw[Ak5]at hr;split at hr
  .exact .inl hr
  .rename_i Ax;have qG:=(Ajn.1 hr).1;simp only[AkS]at qG;have:i-rs.length=0:=by omega
   rw[this]at hr;exact .inr ⟨by omega,by simpa using hr.symm⟩
 have cn:∀k,k∈(⟨P1,lp,ln,lc,none,0,0⟩:GR).cl->k=P1:=λk G=>by
  rcases L3.1 G with e|⟨a,ha,_⟩
  .exact e
  .cases ha
 obtain⟨b1,b2⟩:=T2 P1 _ c2 nem neo;refine hΦ P1 op' oc' Z5 ⟨by simp[h.len],?_,?_,λi r g hi hg=>?_,λa ha=>⟨λe=>m2 a ha e.symm,?_⟩,λi r hi k G=>?_,λi r hi a ha=>?_,λi j r r' eA hi hj k G=>?_,h.tm,λk u G=>?_⟩
 .rw[dK h.len];exact hM.loc (by rw[m1,hum])
 .rw[AkI];exact Sb
 .rcases wh i r hi with CO|⟨rfl,rfl⟩
  .have Ax:=(Ajn.1 CO).1;rw[AkJ (by rw[<-h.len];exact Ax)]at hg;obtain⟨a1,a2,a3⟩:=h2.box i r g CO hg;refine⟨?_,a2,BL.of_eq a3 λa ha=>(Tr i r CO _ (L3.2 (.inr ⟨a,ha,rfl⟩))).1⟩;rw[(Tr i r CO _ (L3.2 (.inl rfl))).1];exact a1
  .rw[h.len,Akf (Ajt _),Ald]at hg;simp only[AkO,Ajv]at hg;subst hg;exact⟨b1,hr,DS.nil⟩
 .cases hq:O2 a.block with
  | none=>rfl
  | some u=>
   obtain⟨_,e2⟩:=T2 a.block u (h2.ext _ _ hq) (λe=>by rw[e,h.tm]at hq;cases hq) (λa' tJ e=>by rw[e,(h.om a' tJ).2]at hq;cases hq);exact absurd rfl (e2 a ha)
 .rcases wh i r hi with CO|⟨rfl,rfl⟩
  .exact⟨(h.dm i r CO k G).1,(Tr i r CO k G).2,(h.dm i r CO k G).2.2⟩
  .rw[cn k G];exact⟨nem,b2,tb⟩
 .rcases wh i r hi with CO|⟨rfl,rfl⟩
  .exact h.vb i r CO a ha
  .cases ha
 .rcases wh i r hi with CO|⟨rfl,rfl⟩
  .rcases wh j r' hj with S7|⟨rfl,rfl⟩
   .exact h.dr i j r r' eA CO S7 k G
   .exact λhc=>ncl i r CO (by rw[<-cn k hc];exact G)
  .rcases wh j r' hj with S7|⟨rfl,rfl⟩
   .exact λhc=>ncl j r' S7 (by rw[<-cn k G];exact hc)
   .exact absurd rfl eA
 .exact(T2 k u (h2.ext _ _ G) (λe=>by rw[e,h.tm]at G;cases G) (λa ha e=>by rw[e,(h.om a ha).2]at G;cases G)).1
end
def PG (B:Nat)(gs:List Rg):Prop:=∀g∈gs,0<g.vs.length/\g.vs.length<=B/\BQ g.ls
theorem tL {B:Nat}{ls:List Lb}{v:Int}(hs:BQ ls):∀{gs:List Rg},PG B gs->PG (B+1) (Qa ls v gs)
 | [],_=>λg G=>by
  unfold Qa at G;rw[Ajp]at G;subst G;exact⟨by simp,by simp,hs⟩
 | a::gs,h=>λg G=>by
  have ha:=h a (by simp);unfold Qa at G;split at G
  .rcases Ajo.1 G with rfl|G
   .exact⟨by simp,by simp;omega,ha.2.2⟩
   .have:=h g (Ajm _ G);exact⟨this.1,by omega,this.2.2⟩
  .rcases Ajo.1 G with rfl|G
   .exact⟨ha.1,by omega,ha.2.2⟩
   .exact tL hs (λg G=>h g (Ajm _ G)) g G
theorem lP {ls:List Lb}{v:Int}:∀{gs:List Rg},(Qa ls v gs).length<=gs.length+1
 | []=>by simp[Qa]
 | a::gs=>by
  unfold Qa;split
  .simp
  .have:=lP (ls:=ls) (v:=v) (gs:=gs);simp only[Ajk];omega
def ft (n:Nd)(l:List El):List Rg:=l.foldl (λgs x=>Qa (IH n x.ls) x.v gs) []
theorem BQ.group {n:Nd}{ls:List Lb}(h:BQ ls):BQ (IH n ls):=by
 unfold IH ka Fc ke;split
 .exact h.filter _
 .split
  .exact(h.filter _).filter _
  .exact⟨by decide,λx G=>by cases G⟩
theorem ACO {n:Nd}{l:List El}(hs:∀e∈l,BQ e.ls):∀k,k<=l.length->PG k (ft n (l.take k))/\(ft n (l.take k)).length<=k:=λk=>by
 induction k with
 | zero=>intro _;exact⟨λg hg=>by simp[ft]at hg,by simp[ft]⟩
 | succ k ih=>
  intro hk;obtain⟨G,h2⟩:=ih (by omega);have hx:l[k]?=some l[k]:=Ajs _;have e:ft n (l.take (k+1))=Qa (IH n l[k].ls) l[k].v (ft n (l.take k)):=by unfold ft;rw[AU hx,AlB];rfl
  rw[e];exact⟨tL (hs _ (AmH _)).group G,by have:=lP (ls:=IH n l[k].ls) (v:=l[k].v) (gs:=ft n (l.take k));omega⟩
section
variable {O2 Z22 Z' Z0:Hp}{R:Rr}
theorem GS.empty {G:Nat}(h:Z22 G=none):GS Z22 (Z22.set G (.map #[] 0)) G none 0 0 [] []:=
 ⟨rfl,MS.fresh,BL.nil,λi r g hi=>(by simp at hi),λa ha=>(by cases ha),λi r hi=>(by simp at hi),λi r hi=>(by simp at hi),λi j r r' _ hi=>(by simp at hi),h,.set h⟩
theorem wk {op:Int}{f:Nat}{p:Option Addr}{n c:Nat}{vs:List Int}{vR:Value}(Mr:(op=1/\vR=.func (.func 163) #[] #[])\/(op=2/\vR=.func (.func 164) #[] #[])\/(op=3/\vR=.func (.func 165) #[] #[])\/(op=4/\vR=.func (.func 166) #[] #[])\/(op=5/\vR=.func (.func 167) #[] #[]))
  (G:DB .u64 Z22 p n vs) (h0:0<n) (hc:n<=c) (h:R (.returned (.U (foldI op vs))) Z22):∃(f95:Nat) (j6 j7:Array Value),vR=.func (.func f95) j6 j7/\Enters prog f95/\Spec prog f95 (j6++#[.slice p n c]++j7) Z22 R:=by
 have hl:vs.length=n:=G.1;unfold foldI at h;rcases Mr with ⟨rfl,rfl⟩|⟨rfl,rfl⟩|⟨rfl,rfl⟩|⟨rfl,rfl⟩|⟨rfl,rfl⟩
 .exact⟨_,#[],#[],rfl,Ht.en,YG G h0 hc h⟩
 .exact⟨_,#[],#[],rfl,I6.en,YH G h0 hc h⟩
 .exact⟨_,#[],#[],rfl,FW.en,Q5 G h0 hc h⟩
 .exact⟨_,#[],#[],rfl,Gi.en,Si G h0 hc (by rw[<-hl];exact h)⟩
 .exact⟨_,#[],#[],rfl,Ix.en,RY (by rw[<-hl];exact h)⟩
theorem ACP {n:Nd}{p q a l:Option Addr}{k c m d j e:Nat}{L:List Vv}{x:Vv}(hs:Fo 1 Z22 q m (n.names.map .string))(hr:Ae 4 RW Z22 l j L)(hx:L[0]?=some x)(hV:wa x)(Mr:1<=n.op/\n.op<=5)
  (h:Kn R Z22 ((Ha FF (vm FF n x)).map λl=>⟨2,0,l,[]⟩)):Spec prog 133 #[.pointer a,Qd n p k c q m d,.slice l j e] Z22 R:=by
 have hj:0<j:=by have h1:L.length=j:=hr.1;have:=(Ajn.1 hx).1;omega
 obtain⟨b,o,pv,nv,cv,qv,mv,dv,rfl,h1,h2,h3,h4,h5,h6⟩:=RW.at hr hx;simp only[AlT,Ak7]at h1 h2 h3 h4;have hl:x.vec.length=nv:=h5.1;have hlen:=hV.len;have jD:=λz hz=>(hV.el z hz).1;have Aa:=ACO (n:=n) jD;have hA:vm FF n x=(ft n x.vec).map λg=>⟨g.ls,foldI n.op g.vs⟩:=rfl;rw[hA]at h;refine Ag.start λ_ _=>C7 λmb hmb=>⟨mb,rfl,b,o,rfl,by omega,pv,nv,cv,(Ext.set hmb).ld h3,?_⟩;have last:∀O2 Z' op on oc rs,GS O2 Z' mb op on oc rs (ft n x.vec)->Ext Z22 O2->Ag.Dp R n.kind n.op n.text p k c n.width n.back n.GU q m d n.bool n.parts 0 0 none 0 0 none 0 0 (some mb) op on oc pv nv cv nv nv Z':=λO2 Z' op on oc rs hG BC=>by
  obtain⟨hPG,hgl⟩:=Aa nv (by omega);rw[Ajq (by omega)]at hPG hgl;refine Ag.Bp ⟨λAx=>by omega,λ_=>C7 λmf hmf=>⟨mf,rfl,?_⟩⟩;refine(Stg.fresh hmf).put (by simp) λs1 t1=>t1.put (by simp) λs2 t2=>t2.put (by simp) λs3 t3=>t3.put (by simp) λs4 t4=>t4.put (by simp) λs5 t5=>?_;have hG5:=hG.mono t5.1;have hml:=t5.2.2;simp only[Akp,Akl]at hml;refine hml.look AFn (λAb=>?_) λv hv=>⟨v,rfl,?_⟩
  .exfalso;simp only[Ajo,Aj7,Akc,forall_eq_or_imp,forall_eq]at Ab;obtain⟨a1,a2,a3,a4,a5⟩:=Ab;omega
  have hv':(n.op=1/\v=.func (.func 163) #[] #[])\/(n.op=2/\v=.func (.func 164) #[] #[])\/(n.op=3/\v=.func (.func 165) #[] #[])\/(n.op=4/\v=.func (.func 166) #[] #[])\/(n.op=5/\v=.func (.func 167) #[] #[]):=by
   simpa only[Ajo,Aj7,Akc,Akh] using hv
  replace h:=h.wS (BC.trans hG5.ext)
  have hon:rs.length=on:=by have:=hG5.ord.1;simpa using this
  have hgn:=hG5.len;generalize ft n x.vec=gs at *;clear hml t1 t2 t3 t4 t5 hv hG
  suffices H:∀g i:Nat,∀p8 n8 c8 Z2 oq,(0<on->oq=op)->on-i=g->i<=on->AN 2 DJ s5 Z2 p8 n8 c8 ((gs.take i).map λg=>⟨g.ls,foldI n.op g.vs⟩)->Ag.AEx R 0 0 none 0 0 none 0 0 v p8 n8 c8 oq on oc on i Z2 from H on 0 none 0 0 s5 op (λ_=>rfl) rfl (Ajy _) (AN.nil (.refl _))
  intro g
  induction g with
  | zero=>
   intro i p8 n8 c8 Z2 oq hoq hg hi ho;rw[Ajq (by omega)]at ho;have Qf:=ho.1.1;rw[Akb]at Qf;exact Ag.sS ⟨λAx=>by omega,λ_=>GI ho (by omega) h.bE⟩
  | succ g ih=>
   intro i p8 n8 c8 Z2 oq hoq hg hi ho;have CO:i<on:=by omega
   obtain⟨r,hri⟩:∃r,rs[i]?=some r:=⟨_,Ajs (by omega)⟩;obtain⟨y,hy⟩:∃y,gs[i]?=some y:=⟨_,Ajs (by omega)⟩;obtain⟨b1,o1,AUG,RB⟩:=Fo.at1 hG5.ord.rd (k:=i) (v:=.pointer (aD r.b 0)) (by rw[Akt,hri];rfl);obtain⟨c1,c2,c3⟩:=hG5.box i r y hri hy;have hP:=hPG y (Aju hy);have hvl:y.vs.length=r.vn:=by have:=c3.1;simpa using this
   have Qf:=ho.1.1;rw[Akb,AkA]at Qf;rw[hoq (by omega),AUG];refine Ag.sS ⟨λ_=>⟨b1,o1,rfl,by omega,aD r.b 0,by simpa using ho.up.ld RB,r.b,0,rfl,r.lp,r.ln,r.lc,AJ (ho.up _ _ c1) rfl,r.vp,r.vn,r.vc,AJ (ho.up _ _ c1) rfl,wk (f:=0) hv' (DB.mono ho.up (DS.rd c3)) (by omega) (BL.cap c3) ⟨_,rfl,Kp.TI (.refl _),λb97 Aa7=>?_⟩⟩,λhh=>by omega⟩;refine AN.el ho ((c2.mono Cg.mono hG5.ext).mono Cg.mono ho.2) (by omega) (λp9 c9 Z3 Di _=>⟨_,_,_,rfl,by unfold AL;omega,ih (i+1) _ _ _ _ _ (λ_=>AUG.symm) (by omega) (by omega) ?_⟩) Aa7;rw[AU hy,AkI];exact Di
 suffices H:∀g i:Nat,∀O2 Z' op on oc rs,nv-i=g->i<=nv->GS O2 Z' mb op on oc rs (ft n (x.vec.take i))->Ext Z22 O2->Ag.Dp R n.kind n.op n.text p k c n.width n.back n.GU q m d n.bool n.parts 0 0 none 0 0 none 0 0 (some mb) op on oc pv nv cv nv i Z' from
  H nv 0 Z22 _ none 0 0 [] rfl (Ajy _) (GS.empty hmb) (.refl _)
 intro g
 induction g with
 | zero=>
  intro i O2 Z' op on oc rs hg hi hG BC;have UD:i=nv:=by omega
  subst UD;rw[Ajq (by omega)]at hG;exact last O2 Z' op on oc rs hG BC
 | succ g ih=>
  intro i O2 Z' op on oc rs hg hi hG BC;have CO:i<nv:=by omega
  obtain⟨y,hy⟩:=h5.ex CO;obtain⟨b1,o1,q1,m1,d1,rfl,RB,EB⟩:=DJ.at h5 hy;have Ml:=jD y (Aju hy);have hX:=BC.trans hG.ext;obtain⟨hPG,hgl⟩:=Aa i (by omega);have lQ:=hG.len;have eN:ft n (x.vec.take (i+1))=Qa (IH n y.ls) y.v (ft n (x.vec.take i)):=by unfold ft;rw[AU hy,AlB];rfl
  have AUH:∀O4 Z4 op4 on4 oc4 rs4 gs4 (i4:Nat) (r:GR) (t:Rg),GS O4 Z4 mb op4 on4 oc4 rs4 gs4->rs4[i4]?=some r->gs4[i4]?=some t->gs4.set i4 ⟨t.ls,t.vs++[y.v]⟩=ft n (x.vec.take (i+1))->t.vs.length<=i->Ext Z22 O4->Ag.AAq R n.kind n.op n.text p k c n.width n.back n.GU q m d n.bool n.parts 0 0 none 0 0 none 0 0 (some mb) op4 on4 oc4 q1 m1 d1 y.v (aD r.b 0) (aD b1 o1) nv cv nv i Z4:=λO4 Z4 op4 on4 oc4 rs4 gs4 i4 r t hG4 yS ht4 he hti KK=>by
   obtain⟨c1,c2,c3⟩:=hG4.box i4 r t yS ht4;have hvl:t.vs.length=r.vn:=by have:=c3.1;simpa using this
   refine Ag.AEy ⟨r.b,0,rfl,r.vp,r.vn,r.vc,AJ c1 rfl,GS.push (v:=y.v) hG4 yS ht4 (by omega) (Φ:=λy2=>AL ((i:Int)+1)/\Ag.Dp R n.kind n.op n.text p k c n.width n.back n.GU q m d n.bool n.parts 0 0 none 0 0 none 0 0 (some mb) op4 on4 oc4 (aD b1 o1) nv cv nv ((i:Int)+1) y2) λZ5 r' hG5=>⟨AO CO h5.big,ih (i+1) O4 Z5 op4 on4 oc4 (rs4.set i4 r') (by omega) (by omega) ?_ KK⟩⟩;rw[<-he];exact hG5
  have AL5:∀G Z2 p' n' c',GS G Z2 mb op on oc rs (ft n (x.vec.take i))->Ext Z22 G->HG G p' n' (IH n y.ls)->Ag.Th R n.kind n.op n.text p k c n.width n.back n.GU q m d n.bool n.parts 0 0 none 0 0 none 0 0 (some mb) op on oc q1 m1 d1 y.v p' n' c' (aD b1 o1) nv cv nv i Z2:=λG Z2 p' n' c' hG2 Ao Ff=>by
   refine Ag.Vj (Io (Ff.mono Cg.mono hG2.ext) Ml.group λZ3 CE=>⟨_,rfl,?_⟩);have hG3:=hG2.mono CE;have hon:rs.length=on:=by have:=hG3.ord.1;simpa using this
   refine hG3.map.look AFm (λHF=>⟨none,rfl,λ_=>?_,λhh=>(by cases hh)⟩) λv bb AUL hv=>⟨aD bb 0,hv,λhh=>(by cases hh),λ_=>?_⟩
   .obtain⟨e1,e2⟩:=Ye (v:=y.v) hG3.len HF;refine GS.add hG3 e2 Ff Ml.group (by omega) (Φ:=λP1 p61 n61 c61 CC=>Ag.AAq R n.kind n.op n.text p k c n.width n.back n.GU q m d n.bool n.parts 0 0 none 0 0 none 0 0 (some mb) p61 n61 c61 q1 m1 d1 y.v (aD P1 0) (aD b1 o1) nv cv nv i CC) λbb op' oc' Z4 hG4=>?_;refine AUH G Z4 op' (on+1) oc' _ _ (ft n (x.vec.take i)).length ⟨bb,p',n',c',none,0,0⟩ ⟨IH n y.ls,[]⟩ hG4 ?_ ?_ ?_ (Ajy _) Ao
    .rw[<-lQ,Akf (Ajt _),Ald];rfl
    .rw[Akf (Ajt _),Ald];rfl
    .rw[eN,e1,Am6 _ _ (Ajt _),Ald];rfl
   .obtain⟨i4,t,r,a1,a2,a3,a4⟩:=Yc (v:=y.v) hG3.len AUL;subst a3;exact AUH G Z3 op on oc rs _ i4 r t hG3 a2 a1 (by rw[eN,a4]) (hPG t (Aju a1)).2.1 Ao
  refine Ag.Bp ⟨λ_=>⟨b1,o1,rfl,by omega,q1,m1,d1,y.v,by simpa using RB.mono hX,λ_=>⟨λhg1=>dG (EB.mono Cg.mono hX) (Ml.rd EB) (hs.mono hX) λp' n' c' Z2 Ff Ao=>⟨_,_,_,rfl,?_⟩,λhg1=>⟨λmu=>?_,λmu=>AL5 O2 Z' none 0 0 hG BC ?_⟩⟩⟩,λhh=>by omega⟩
  .obtain⟨G,hG2,e1,e2⟩:=hG.grow Ao;exact AL5 G Z2 p' n' c' hG2 (BC.trans e1) (by unfold IH;rw[Ajl hg1];exact Ff.mono Cg.mono e2)
  .refine Ls (EB.mono Cg.mono hX) (Ml.rd EB) (hs.mono hX) λp' n' c' Z2 B6 Ao=>⟨_,_,_,rfl,?_⟩;have RI:n'<=1000000:=by
    have h7:=B6.1;have h8:=AkG (λx:Lb=>!Fa x.1 n.names) y.ls;have h9:=Ml.1;omega
   refine He ((B6.rd Cg.mono).mono Cg.mono (Ext.CY _ _)) RI λp3 n3 c3 Z3 Up CE=>⟨_,_,_,rfl,?_⟩;obtain⟨G,hG2,e1,e2⟩:=hG.grow (Ao.trans CE);exact AL5 G Z3 p3 n3 c3 hG2 (BC.trans e1) (by unfold IH;rw[Ajj hg1,Ajl mu];exact(Up.mono Cg.mono (Ext.Cq Ao)).mono Cg.mono e2)
  .unfold IH;rw[Ajj hg1,Ajj mu];exact Ae.nil
end
def Sp (e:El):Prop:=BQ e.ls/\0<=e.v
def Sh (x:Vv):Prop:=(x.kind=1/\x.vec=[]/\x.RG=[])\/(x.kind=2/\x.RG=[])\/(x.kind=3/\x.vec=[])
def F2 (x:Vv):Nat:=x.vec.length+x.RG.length
structure VG (x:Vv):Prop where
 el:∀e∈x.vec,Sp e
 rg:∀r∈x.RG,BQ r.ls/\0<r.vs.length
 sh:Sh x
theorem fu (x:Int):0<=sv x:=AlU _
theorem Pd (op a b:Int):0<=YE op a b:=AlU _
theorem lR {f:Int->Int->Int}(G:∀a b,0<=f a b):∀(l:List Int) (a:Int),0<=a->0<=l.foldl f a
 | [],a,h=>h
 | x::l,a,h=>lR G l _ (G a x)
theorem tM:∀vs,0<=fW vs
 | []=>AmC _
 | v::l=>lR (λa b=>Pd 1 a b) l _ (fu v)
theorem Ss (op:Int):∀vs,0<=Q4 op vs
 | []=>AmC _
 | v::l=>fu _
theorem ACQ (vs:List Int):0<=Sk vs:=by
 unfold Sk;have:∀(l:List (Int×Int)) (a:Int),0<=a->0<=l.foldl Sj a:=λl=>by
  induction l with
  | nil=>intro a h;exact h
  | cons x l G=>
   intro a h;refine G _ ?_;unfold Sj;split
   .exact Pd _ _ _
   .exact h
 exact this _ _ (Pd _ _ _)
theorem Tz (x:Int):0<=Co x:=AlU _
theorem ACR (op:Int)(vs:List Int):0<=foldI op vs:=by
 unfold foldI;split
 .exact tM _
 .split
  .exact Ss _ _
  .split
   .exact Ss _ _
   .split
    .exact Pd _ _ _
    .exact Tz _
theorem ACS {op:Int}{vs:List Int}{w x:Int}(h:Sm op vs w=some x):0<=x:=by
 unfold Sm at h;split at h
 .rw[<-Akj h];exact tM _
 split at h
 .rw[<-Akj h];exact Pd _ _ _
 split at h
 .rw[<-Akj h];exact Ss _ _
 split at h
 .rw[<-Akj h];exact Ss _ _
 split at h
 .rw[<-Akj h];exact Tz _
 split at h
 .rw[<-Akj h];exact fu _
 split at h
 .rw[<-Akj h];exact AlU _
 split at h
 .exact absurd h.symm (Option.some_ne_none _)
 split at h
 .rw[<-Akj h];exact Pd _ _ _
 split at h
 .rw[<-Akj h];exact ACQ _
 .rw[<-Akj h];exact Pd _ _ _
theorem Yf (op a b:Int):0<=(Pc op a b).1:=by
 unfold Pc;split
 .exact Pd _ _ _
 .show 0<=(if _ then Co 1 else Co 0)
  split<;>exact Tz _
theorem dL {l m:List El}(h:Ha FF l=some m):m.Perm l:=by
 unfold Ha at h;split at h
 .cases h;exact Lt l
 .cases h
theorem tN {l m:List El}(h:Ha FF l=some m)(hl:∀e∈l,Sp e):(∀e∈m,Sp e)/\m.length=l.length:=
 ⟨λe G=>hl e ((dL h).mem_iff.1 G),(dL h).length_eq⟩
theorem AFq {n:Nd}{x:Vv}(hx:VG x):(∀e∈cp FF n x,Sp e)/\(cp FF n x).length<=F2 x:=by
 refine⟨λe he=>?_,?_⟩
 .rcases AkH.1 he with he|he
  .obtain⟨y,hy,rfl⟩:=AkT.1 he;refine⟨(hx.el y hy).1.bare,?_⟩;show 0<=(if n.op=11 then pX y.v else fV y.v)
   split<;>exact AlU _
  .obtain⟨y,hy,h1⟩:=AlI.1 he;have G:(Sm n.op y.vs x.v).map (λv=>(⟨Fc y.ls,v⟩:El))=some e:=h1;cases ho:Sm n.op y.vs x.v with
   | none=>rw[ho]at G;cases G
   | some z=>
    rw[ho]at G;simp only[Aki,Ajv]at G;subst G;exact⟨(hx.rg y hy).1.bare,ACS ho⟩
 .unfold cp F2;rw[Ajr,Akb];have:=AkX (λs:Rg=>(FF.over n.op s.vs x.v).map λv=>(⟨Fc s.ls,v⟩:El)) x.RG;omega
theorem AL6 {n:Nd}{x:Vv}(hx:VG x):(∀e∈vm FF n x,Sp e)/\(vm FF n x).length<=F2 x:=by
 obtain⟨h1,h2⟩:=ACO (n:=n) (λe G=>(hx.el e G).1) x.vec.length (Ajt _);rw[List.take_length]at h1 h2;have hA:vm FF n x=(ft n x.vec).map λg=>⟨g.ls,foldI n.op g.vs⟩:=rfl;rw[hA];refine⟨λe G=>?_,by rw[Akb];unfold F2;omega⟩;obtain⟨g,hg,rfl⟩:=AkT.1 G;exact⟨(h1 g hg).2.2,ACR _ _⟩
theorem ACT {n:Nd}{l:List El}{f:Int->Int×Bool}(hl:∀e∈l,Sp e)(hf:∀v,0<=(f v).1):(∀e∈kg n l f,Sp e)/\(kg n l f).length<=l.length:=by
 refine⟨λe he=>?_,AkX _ _⟩;obtain⟨y,hy,G⟩:=AlI.1 he;split at G
 .simp only[Ajv]at G;subst G;exact⟨(hl y hy).1.bare,hf _⟩
 .split at G
  .simp only[Ajv]at G;subst G;exact hl y hy
  .cases G
theorem AFr {n:Nd}{x y:List El}(hx:∀e∈x,Sp e)(hy:∀e∈y,Sp e):(∀e∈X0 n x y,Sp e)/\(X0 n x y).length<=x.length+y.length:=by
 unfold X0;refine⟨λe G=>?_,?_⟩
 .rcases AkH.1 G with G|G
  .exact hx e (AlC.1 G).1
  .exact hy e (AlC.1 G).1
 .rw[Ajr];exact Nat.add_le_add (AkG _ _) (AkG _ _)
theorem AFs {n:Nd}{x y m:List El}(hx:∀e∈x,Sp e)(h:cw FF n x y=some m):(∀e∈m,Sp e)/\m.length<=x.length:=by
 unfold cw at h;split at h
 .simp only[Ajv]at h;subst h;refine⟨λe he=>?_,AkX _ _⟩;obtain⟨z,hz,G⟩:=AlI.1 he;split at G
  .cases G
  .split at G
   .simp only[Ajv]at G;subst G;exact⟨(hx z hz).1.S9,Yf _ _ _⟩
   .split at G
    .simp only[Ajv]at G;subst G;exact hx z hz
    .cases G
 .cases h
theorem Rb {l m:List El}(h:Ha FF l=some m)(G:∀e∈l,Sp e):VG ⟨2,0,m,[]⟩/\F2 ⟨2,0,m,[]⟩=l.length:=
 ⟨⟨(tN h G).1,λr hr=>(by cases hr),.inr (.inl ⟨rfl,rfl⟩)⟩,by show m.length+0=_;rw[(tN h G).2];omega⟩
theorem map_some {α β:Type}{o:Option α}{f:α->β}{y:β}(h:o.map f=some y):∃x,o=some x/\f x=y:=by
 cases o with
 | none=>cases h
 | some x=>exact⟨x,rfl,by simpa using h⟩
theorem tO {n:Nd}{ss:List Sr}{t:Int}{L:List Vv}{v:Vv}(hS:AFd ss)(hp:∀s∈ss,∀p∈s.ps,0<=p.2)(hf:E5 n=true)(hT:(Tu n (L.map (·.kind))).2=0)(G:(L.length:Int)=n.parts)(hV:∀x∈L,VG x)(h:Sd FF ss t n L=some v):
  VG v/\v.kind=(Tu n (L.map (·.kind))).1/\F2 v<=ss.length+(L.map F2).sum:=by
 have EL:=JD hf;unfold Sd at h;by_cases h1:n.kind=1
 .rw[Ajl h1]at h;cases h;exact⟨⟨λe he=>(by cases he),λr hr=>(by cases hr),.inl ⟨rfl,rfl,rfl⟩⟩,by unfold Tu;rw[Ajl h1],Ajy _⟩
 rw[Ajj h1]at h;by_cases h2:n.kind=2
 .rw[Ajl h2]at h;cases h;refine⟨⟨λe he=>?_,λr hr=>(by cases hr),.inr (.inl ⟨rfl,rfl⟩)⟩,by unfold Tu;rw[Ajj h1,Ajl h2],?_⟩
  .obtain⟨s,hs,iJ⟩:=AlI.1 he;split at iJ
   .cases iJ
   .rename_i p lS;split at iJ
    .cases iJ
    .simp only[Ajv]at iJ;subst iJ;exact⟨hS.sm s hs,hp s hs p (AlC.1 (List.mem_of_getLast? lS)).1⟩
  .show(List.filterMap _ ss).length+0<=_
   exact Ake (Amt (Ak7 _)) (Ake (AkX _ _) (AmG _ _))
 rw[Ajj h2]at h;by_cases h3:n.kind=3
 .rw[Ajl h3]at h;cases h;refine⟨⟨λe he=>(by cases he),λr hr=>?_,.inr (.inr ⟨rfl,rfl⟩)⟩,by unfold Tu;rw[Ajj h1,Ajj h2,Ajl h3],?_⟩
  .obtain⟨s,hs,iJ⟩:=AlI.1 hr;dsimp only at iJ;generalize ((IG s.ps (t-n.back-n.width) (t-n.back)).filter λp=>decide (p.2≠MY)).map Prod.snd=vs at iJ;cases vs with
   | nil=>cases iJ
   | cons a l=>
    simp only[List.isEmpty_cons,Bool.not_false,Ak1]at iJ;cases so:FF.vk n.mt s.ls with
    | false=>rw[so]at iJ;cases iJ
    | true=>
     rw[so]at iJ;simp only[AlS,Ajv]at iJ;subst iJ;exact⟨hS.sm s hs,by simp⟩
  .show 0+(List.filterMap _ ss).length<=_
   exact Ake (Amt (Akn _)) (Ake (AkX _ _) (AmG _ _))
 rw[Ajj h3]at h;unfold HH at EL;rw[Ajj h1,Ajj h2,Ajj h3]at EL;by_cases h4:n.kind=4
 .rw[Ajl h4]at EL;have qH:=(Ajx EL).1
  match L,G with
  | [x],_=>
   have hx:=hV x (by simp);dsimp only at h;rw[Ajl h4]at h;obtain⟨m,hm,rfl⟩:=map_some h;obtain⟨c1,c2⟩:=AFq (n:=n) hx;obtain⟨d1,d2⟩:=Rb hm c1;refine⟨d1,?_,by rw[d2];simp;omega⟩;unfold Tu at hT ⊢;rw[Ajj h1,Ajj h2,Ajj h3,Ajl h4]at hT ⊢;unfold kz at hT ⊢;by_cases hc:([x].map (·.kind))[0]?.getD 0=(if n.op=11\/n.op=12 then 2 else 3)
   .rw[Ajl hc]
   .rw[Ajj hc]at hT;exact absurd hT (by decide)
  | [],G=>simp at G;omega
  | _::_::_,G=>simp at G;omega
 rw[Ajj h4]at EL;by_cases h5:n.kind=5
 .rw[Ajl h5]at EL;have qH:=(Ajx EL).1
  match L,G with
  | [x],_=>
   have hx:=hV x (by simp);dsimp only at h;rw[Ajj h4,Ajl h5]at h;obtain⟨m,hm,rfl⟩:=map_some h;obtain⟨c1,c2⟩:=AL6 (n:=n) hx;obtain⟨d1,d2⟩:=Rb hm c1;refine⟨d1,?_,by rw[d2];simp;omega⟩;unfold Tu at hT ⊢;rw[Ajj h1,Ajj h2,Ajj h3,Ajj h4,Ajl h5]at hT ⊢;unfold tG at hT ⊢;by_cases hc:([x].map (·.kind))[0]?.getD 0=2
   .rw[Ajl hc]
   .rw[Ajj hc]at hT;exact absurd hT (by decide)
  | [],G=>simp at G;omega
  | _::_::_,G=>simp at G;omega
 rw[Ajj h5]at EL;by_cases h6:n.kind=6
 .rw[Ajl h6,Ajz]at EL;have qH:=(Ajx EL.1).1
  match L,G with
  | [x,y],_=>
   have hx:=hV x (by simp);have hy:=hV y (by simp);dsimp only at h;rw[Ajl h6]at h;have hTy:(Tu n ([x,y].map (·.kind)))=wE n x.kind y.kind:=by unfold Tu;rw[Ajj h1,Ajj h2,Ajj h3,Ajj h4,Ajj h5,Ajl h6];rfl
   rw[hTy]at hT ⊢;unfold wE at hT ⊢;split at hT
   .cases hT
   .rename_i Ab;rw[Ajj Ab];simp only[Alw]at Ab;have sx:=hx.sh;have sy:=hy.sh;unfold AFG at h;have hvx:F2 x+F2 y=([x,y].map F2).sum:=by simp
    rw[<-hvx];split at h
    .rename_i hk;cases h;exact⟨⟨λe he=>(by cases he),λr hr=>(by cases hr),.inl ⟨rfl,rfl,rfl⟩⟩,by simp[hk.1,hk.2],Ajy _⟩
    .rename_i hk;obtain⟨m,hm,rfl⟩:=map_some h;have AUM:(2:Int)=(if x.kind<y.kind then y.kind else x.kind):=by
      unfold Sh at sx sy;split<;>omega
     refine(λhh:VG ⟨2,0,m,[]⟩/\F2 ⟨2,0,m,[]⟩<=F2 x+F2 y=>⟨hh.1,AUM,by have:=hh.2;omega⟩) ?_;split at hm
     .obtain⟨c1,c2⟩:=ACT (n:=n) (f:=FF.VN n.op x.v) hy.el (λv=>Yf _ _ _);obtain⟨d1,d2⟩:=Rb (show Ha FF (kg n y.vec (FF.VN n.op x.v))=some m from hm) c1;exact⟨d1,by rw[d2];unfold F2;omega⟩
     .split at hm
      .obtain⟨c1,c2⟩:=ACT (n:=n) (f:=λv=>FF.VN n.op v y.v) hx.el (λv=>Yf _ _ _);obtain⟨d1,d2⟩:=Rb (show Ha FF (kg n x.vec λv=>FF.VN n.op v y.v)=some m from hm) c1;exact⟨d1,by rw[d2];unfold F2;omega⟩
      .split at hm
       .obtain⟨c1,c2⟩:=AFr (n:=n) hx.el hy.el;obtain⟨d1,d2⟩:=Rb (show Ha FF (X0 n x.vec y.vec)=some m from hm) c1;exact⟨d1,by rw[d2];unfold F2;omega⟩
       .cases hq:cw FF n x.vec y.vec with
        | none=>rw[hq]at hm;cases hm
        | some w=>
         rw[hq]at hm;obtain⟨c1,c2⟩:=AFs hx.el hq;obtain⟨d1,d2⟩:=Rb (show Ha FF w=some m from hm) c1;exact⟨d1,by rw[d2];unfold F2;omega⟩
  | [],G=>simp at G;omega
  | [_],G=>simp at G;omega
  | _::_::_::_,G=>simp at G;omega
 rw[Ajj h6]at EL;have h7:=(Ajx EL).1;have qH:=(Ajx EL).2
 match L,G with
 | [x],_=>
  have hx:=hV x (by simp);dsimp only at h;rw[Ajj h4,Ajj h5,Ajl h7]at h;have hTy:(Tu n ([x].map (·.kind)))=AB2 x.kind:=by unfold Tu;rw[Ajj h1,Ajj h2,Ajj h3,Ajj h4,Ajj h5,Ajj h6];rfl
  rw[hTy]at hT ⊢;unfold AB2 at hT ⊢;have sx:=hx.sh;unfold Sh at sx;split at hT
  .cases hT
  .rename_i Ab;rw[Ajj Ab];unfold ABq at h;split at h
   .rename_i hk;cases h;exact⟨⟨λe he=>(by cases he),λr hr=>(by cases hr),.inl ⟨rfl,rfl,rfl⟩⟩,hk.symm,Ajy _⟩
   .obtain⟨m,hm,rfl⟩:=map_some h;have c1:∀e∈x.vec.map (λx=>(⟨Fc x.ls,FF.ABo x.v⟩:El)),Sp e:=λe he=>by
     obtain⟨y,hy,rfl⟩:=AkT.1 he;exact⟨(hx.el y hy).1.bare,fu _⟩
    obtain⟨d1,d2⟩:=Rb hm c1;refine⟨d1,by show(2:Int)=x.kind;omega,by rw[d2,Akb];simp[F2];omega⟩
 | [],G=>simp at G;omega
 | _::_::_,G=>simp at G;omega
theorem lT {n:Nd}(ht:E5 n=true):0<=n.parts:=by
 have G:=JD ht;unfold HH at G;have hp:=QA ht;by_cases h1:n.kind=1
 .unfold Hb B9 at hp;simp[h1]at hp;omega
 by_cases h2:n.kind=2
 .unfold Hb B9 at hp;simp[h2]at hp;omega
 by_cases h3:n.kind=3
 .unfold Hb B9 at hp;simp[h3]at hp;omega
 rw[Ajj h1,Ajj h2,Ajj h3]at G;split at G
 .simp at G;omega
 .split at G
  .simp at G;omega
  .split at G
   .simp at G;omega
   .simp at G;omega
theorem tP {n:Nd}{ty:List Int}(h:(Bq n ty).1=0):E5 n=true/\n.parts<=ty.length/\GH Dt n.mt=0/\(Tu n (ty.drop (ty.length-n.parts.toNat))).2=0/\(Bq n ty).2=ty.take (ty.length-n.parts.toNat)++[(Tu n (ty.drop (ty.length-n.parts.toNat))).1]:=by
 unfold Bq at h ⊢;split at h
 .exact absurd h (by dsimp only;decide)
 .rename_i G;split at h
  .exact absurd h (by dsimp only;decide)
  .rename_i h2;simp only[Alw]at G;rw[Ajj (by simp only[Alw];exact G),Ajj h2];exact⟨by simpa using G.1,by omega,AkK.1 h2,h,rfl⟩
theorem tQ {n:Nd}(hf:E5 n=true)(hm:GH Dt n.mt=0)(hk:n.kind=2\/n.kind=3):ALw n:=by
 have G:=JD hf;have hp:=QA hf;have hmt:n.mt.all ph=true:=by
  unfold GH at hm;split at hm
  .exact absurd hm (by decide)
  .cases ha:n.mt.all ph with
   | true=>rfl
   | false=>
    have:(if n.mt.all ph=true then(0:Int) else 40)=0:=hm;rw[ha]at this;exact absurd this (by decide)
 have hx:∀x∈n.mt,ph x=true:=Akk.1 hmt;have hbw:(0<=n.back/\n.back<2147483648)/\(0<=n.width/\n.width<2147483648):=by
  unfold HH at G;rcases hk with hk|hk
  .rw[Ajj (by omega),Ajl hk]at G;unfold Ma at G;simp only[Ajz,Aj3]at G;unfold Hb B9 at hp;simp[hk]at hp;omega
  .rw[Ajj (by omega),Ajj (by omega),Ajl hk]at G;unfold Ma at G;simp only[Ajz,Aj3]at G;omega
 refine⟨λx yP=>?_,λx yP=>?_,hbw.1,hbw.2⟩
 .have:=hx x yP;unfold ph at this;simp only[Ajz,Aj3]at this;exact this.1.1
 .have:=hx x yP;unfold ph at this;simp only[Ajz,Aj3]at this;omega
def AFt:List Nat:=[129,130,131,132,133,134,135]
structure SsG (ss:List Sr):Prop where
 ok:AFd ss
 nn:∀s∈ss,∀p∈s.ps,0<=p.2
 pl:∀s∈ss,s.ps.length<=1000000000
section
variable {ρ Z22 Z' Z0:Hp}{R:Rr}
theorem wm {n:Nd}{p q l:Option Addr}{k c m d j e ab:Nat}{ss:List Sr}{t:Int}{L:List Vv}(hA:Uo ρ ab ss t)(hg:Gl ρ)(hm:Ae 3 Js ρ p k n.mt)(hs:Fo 1 ρ q m (n.names.map .string))(hf:E5 n=true)(hmt:GH Dt n.mt=0)
  (hT:(Tu n (L.map (·.kind))).2=0) (G:(L.length:Int)=n.parts) (hV:∀x∈L,VG x) (hlen:∀x∈L,F2 x<=100000000000) (hr:Ae 4 RW ρ l j L) (hS:SsG ss) (ht:-4611686018427387904<=t/\t<=4611686018427387904) (h:Kn R ρ (Sd FF ss t n L)) :
  ∃f,1<=n.kind/\n.kind<=7/\AFt[n.kind.toNat-1]?=some f/\Enters prog f/\Spec prog f #[.pointer (some ⟨ab,0,none⟩),Qd n p k c q m d,.slice l j e] ρ R:=by
 have EL:=JD hf;have vok:∀x∈L,wa x:=λx hx=>⟨(hV x hx).el,(hV x hx).rg,hlen x hx⟩;unfold Sd at h;by_cases h1:n.kind=1
 .rw[Ajl h1]at h;refine⟨_,by omega,by omega,by rw[h1];rfl,C1.en,Sn hg ?_ h⟩;unfold HH at EL;rw[Ajl h1]at EL;exact EL
 rw[Ajj h1]at h;by_cases h2:n.kind=2
 .rw[Ajl h2]at h;exact⟨_,by omega,by omega,by rw[h2];rfl,A6.en,lL hA hg hm hS.ok (tQ hf hmt (.inl h2)) ht h⟩
 rw[Ajj h2]at h;by_cases h3:n.kind=3
 .rw[Ajl h3]at h;exact⟨_,by omega,by omega,by rw[h3];rfl,Ah.en,qD hA hg hm hS.ok (tQ hf hmt (.inr h3)) ht hS.pl h⟩
 rw[Ajj h3]at h;unfold HH at EL;rw[Ajj h1,Ajj h2,Ajj h3]at EL;by_cases h4:n.kind=4
 .rw[Ajl h4]at EL;obtain⟨qH,R6,B6⟩:=Ajx EL
  match L,G with
  | [x],_=>
   have hx:=hV x (by simp);dsimp only at h;rw[Ajl h4]at h;have sx:=hx.sh;unfold Sh at sx;unfold Tu at hT;rw[Ajj h1,Ajj h2,Ajj h3,Ajl h4]at hT;unfold kz at hT;have hc:x.kind=(if n.op=11\/n.op=12 then 2 else 3):=by
    by_cases hc:([x].map (·.kind))[0]?.getD 0=(if n.op=11\/n.op=12 then 2 else 3)
    .exact hc
    .rw[Ajj hc]at hT;exact absurd hT (by decide)
   refine⟨_,by omega,by omega,by rw[h4];rfl,Ak.en,wc hr rfl (vok x (by simp)) (λAv=>?_) (λAv=>?_) h⟩
   .rcases sx with ⟨_,h9,_⟩|⟨h9,_⟩|⟨h9,h8⟩
    .exact absurd h9 Av
    .rw[h9]at hc;split at hc
     .assumption
     .omega
    .exact absurd h8 Av
   .rcases sx with ⟨_,_,h9⟩|⟨h9,h8⟩|⟨h9,_⟩
    .exact absurd h9 Av
    .exact absurd h8 Av
    .rw[h9]at hc;split at hc
     .omega
     .omega
  | [],G=>simp at G;omega
  | _::_::_,G=>simp at G;omega
 rw[Ajj h4]at EL;by_cases h5:n.kind=5
 .rw[Ajl h5]at EL;obtain⟨qH,R6,B6,_⟩:=Ajx EL
  match L,G with
  | [x],_=>
   dsimp only at h;rw[Ajj h4,Ajl h5]at h;exact⟨_,by omega,by omega,by rw[h5];rfl,Ag.en,ACP hs hr rfl (vok x (by simp)) ⟨R6,B6⟩ h⟩
  | [],G=>simp at G;omega
  | _::_::_,G=>simp at G;omega
 rw[Ajj h5]at EL;by_cases h6:n.kind=6
 .rw[Ajl h6,Ajz]at EL;have qH:=(Ajx EL.1).1
  match L,G with
  | [x,y],_=>
   dsimp only at h;rw[Ajl h6]at h;exact⟨_,by omega,by omega,by rw[h6];rfl,EZ.en,ACL hs hr rfl rfl (vok x (by simp)) (vok y (by simp)) h⟩
  | [],G=>simp at G;omega
  | [_],G=>simp at G;omega
  | _::_::_::_,G=>simp at G;omega
 rw[Ajj h6]at EL;have h7:=(Ajx EL).1;have qH:=(Ajx EL).2
 match L,G with
 | [x],_=>
  dsimp only at h;rw[Ajj h4,Ajj h5,Ajl h7]at h;exact⟨_,by omega,by omega,by rw[h7];rfl,B8.en,ACI hr rfl (vok x (by simp)) h⟩
 | [],G=>simp at G;omega
 | _::_::_,G=>simp at G;omega
end
theorem Spec.AL7 {P:Program}{f:FuncId}{args:Array Value}{Z22:Hp}{p:Option Addr}{R:Rr}(hk:∀a,p=some a->∃o,Z22 a.block=some o)
  (h:Spec P f args (Z22.del p) (λe G=>∀Z',(∀a,p=some a->Z' a.block=Z22 a.block)->Z'.del p=G->R e Z')):Spec P f args Z22 R:=by
 cases p with
 | none=>exact h.mono λe G hh=>hh G (λa ha=>by cases ha) rfl
 | some a=>
  obtain⟨o,ho⟩:=hk a rfl;have e1:(Z22.del (some a)).set a.block o=Z22:=by
   funext k
   by_cases yO:k=a.block
   .subst yO;rw[Hp.AA,ho]
   .rw[Hp.AB yO];simp[Hp.del,yO]
  have e2:(Z22.del (some a)) a.block=none:=by simp[Hp.del]
  rw[<-e1];refine Spec.AR e2 (h.mono λe G hh hn=>hh _ (λa' tJ=>by cases tJ;rw[Hp.AA,ho]) ?_)
  funext k
  by_cases yO:k=a.block
  .subst yO;simp[Hp.del,hn]
  .simp[Hp.del,yO,Hp.set]
theorem Fo.sub {s:Nat}{Z22:Hp}{p:Option Addr}{n c i m:Nat}{cs:List Value}(h:Fo s Z22 p n cs)(him:i+m<=n)(hc:n<=c):Fo s Z22 (Ee p i c s) m ((cs.drop (i*s)).take (m*s)):=by
 obtain⟨h2,h3,G⟩:=h;have hle:i*s+m*s<=n*s:=by rw[<-Akw];exact AkZ _ him
 refine⟨by rw[AkA,Aj6];omega,by omega,?_⟩;rcases Amf m with hm|hm
 .exact .inl hm
 .rcases G with G|⟨b,o,rfl,G⟩
  .omega
  .refine .inr ⟨b,o+i*s,?_,G.part⟩;unfold Ee;rw[Ajj (by omega)];simp[Cv]
theorem RW.one (Z22:Hp)(vs:List Value)(x:Vv)(h:RW Z22 vs x):FL vs:=by
 obtain⟨p,n,c,q,m,d,rfl,_⟩:=h;intro u G;simp only[Ajo,Aj7,Akc]at G;rcases G with rfl|rfl|rfl|rfl<;>rfl
theorem AN.take {α:Type}{s:Nat}{E:Hp->List Value->α->Prop}{Z0 Z22:Hp}{p:Option Addr}{n c m:Nat}{xs:List α}(h:AN s E Z0 Z22 p n c xs)(hm:m<=n):AN s E Z0 Z22 p m c (xs.take m):=by
 obtain⟨⟨hl,cs,ho,G⟩,hx⟩:=h;exact⟨⟨by rw[AkA];omega,_,BL.take ho hm,G.take m⟩,hx⟩
section
variable {Z22 Z' Z0:Hp}{R:Rr}
theorem T0 {p7 q:Option Addr}{j d b:Nat}{cs:List Value}{L:List Vv}{Φ:Value->Hp->Prop}(RD:Fo 4 Z22 q j cs)(hc:Ch 4 RW (Z22.del p7) cs L)(hp7:∀a,p7=some a->Z22 a.block≠none)(hn:Z22 b=none)(hj:j<=1000000000)
  (hΦ:∀p' c' y,Ae 4 RW (y.del p7) p' j L->Ext Z22 y->Φ (.slice p' j c') y):AI prog (Builtin.append_ #[206,206] 206 #[.slice (some ⟨b,0,none⟩) 0 0,.slice q j d]) (Z22.set b (.cells #[] 164 (0,0))) Φ:=by
 have hx:=Ext.set (o:=.cells #[] 164 (0,0)) hn;refine ED BL.empty (RD.mono hx) (Ch.uY RW.one hc (by decide)) (by omega) λp' c' y CV PU=>?_;have hq:∀a:Addr,(some (⟨b,0,none⟩:Addr))=some a->Z22 a.block=none:=λa ha=>by cases ha;exact hn
 rw[Akn]at CV ⊢;rw[Akp]at CV;have G:Ext Z22 y:=LJ hq PU hx;have AFV:∀a,p'=some a->Z22 a.block=none:=HL hq PU hx;refine hΦ p' c' y ⟨?_,cs,BL.rd (BL.ACC CV λa ha a' tJ e=>hp7 a' tJ (by rw[<-e];exact AFV a ha)),hc.mono RW.mono (G.del _)⟩ G;have:=hc.1;have:=RD.1;omega
theorem tR {α:Type}{f:α->Nat}:∀{l:List α} {y:α},y∈l->f y<=(l.map f).sum
 | a::l,y,h=>by
  rw[AkR,AnF];rcases Ajo.1 h with rfl|h
  .omega
  .have:=tR (f:=f) h;omega
structure AFu (R:Rr)(Z22:Hp)(X:Option Vv):Prop where
 ok:∀x Z' p n c q m d,X=some x->Ext Z22 Z'->Ae 2 DJ Z' p n x.vec->Ae 2 X9 Z' q m x.RG->R (.T #[.agg #[.I x.kind,.U x.v,.slice p n c,.slice q m d],.I 0]) Z'
 no:X=none->∀Z',Ext Z22 Z'->R (.T #[.agg #[.I 0,.U 0,.N,.N],.I 223]) Z'
theorem AFu.wS {X:Option Vv}(h:AFu R Z22 X)(hx:Ext Z22 Z'):AFu R Z' X:=⟨λx G p n c q m d h0 h1 h2 h3=>h.ok x G p n c q m d h0 (hx.trans h1) h2 h3,λh0 G h1=>h.no h0 G (hx.trans h1)⟩
theorem AL8 {i f:Nat}(h:AFt[i]?=some f):Enters prog f:=by
 have G:i<7:=(Ajn.1 h).1
 match i,h with
 | 0,h=>cases h;exact C1.en
 | 1,h=>cases h;exact A6.en
 | 2,h=>cases h;exact Ah.en
 | 3,h=>cases h;exact Ak.en
 | 4,h=>cases h;exact Ag.en
 | 5,h=>cases h;exact EZ.en
 | 6,h=>cases h;exact B8.en
abbrev AUO:Obj:=.cells #[.I 0,.U 0,.N,.N] 164 (0,0)
theorem ACU {ab n c:Nat}{p:Option Addr}{ss:List Sr}{t:Int}{T:List Nd}{kf:Int}(hA:Uo Z22 ab ss t)(hg:Gl Z22)(hr:Ae 10 Ia Z22 p n T)(hS:SsG ss)(hn:n<=4096)(ht:-4611686018427387904<=t/\t<=4611686018427387904)(hty:E6 T []=some [kf])
  (h:AFu R Z22 ((VO FF ss t T []).bind List.head?)):Spec prog 79 #[.pointer (some ⟨ab,0,none⟩),.slice p n c] Z22 R:=by
 have hTl:T.length=n:=hr.1;have Aa9:=hS.ok.len;refine DM.start λ_=>Wc.start λrb hrb=>⟨_,_,_,rfl,?_⟩;have xb:=Ext.set (o:=.cells #[.nilFunc,.func (.func 129) #[] #[],.func (.func 130) #[] #[],.func (.func 131) #[] #[],.func (.func 132) #[] #[],.func (.func 133) #[] #[],.func (.func 134) #[] #[],.func (.func 135) #[] #[]] 207 (0,0)) hrb;have AbA:∀(kind:Int) f,1<=kind->kind<=7->AFt[kind.toNat-1]?=some f->Hp.ld (Z22.set rb (.cells #[.nilFunc,.func (.func 129) #[] #[],.func (.func 130) #[] #[],.func (.func 131) #[] #[],.func (.func 132) #[] #[],.func (.func 133) #[] #[],.func (.func 134) #[] #[],.func (.func 135) #[] #[]] 207 (0,0))) ⟨rb,0+kind.toNat*1,none⟩=some (.func (.func f) #[] #[]):=λkind f h1 h7 hf=>by
  refine AJ (Hp.AA _ _ _) ?_;rw[show 0+kind.toNat*1=(kind.toNat-1)+1 by omega];have Ax:kind.toNat-1<7:=by omega
  generalize kind.toNat-1=i at *
  match i,hf with
  | 0,hf=>cases hf;rfl
  | 1,hf=>cases hf;rfl
  | 2,hf=>cases hf;rfl
  | 3,hf=>cases hf;rfl
  | 4,hf=>cases hf;rfl
  | 5,hf=>cases hf;rfl
  | 6,hf=>cases hf;rfl
 generalize Z22.set rb _=Zb at *
 replace h:=h.wS xb
 suffices H:∀g i:Nat,∀p7 n7 c7 Z' st,n-i=g->i<=n->AN 4 RW Zb Z' p7 n7 c7 st->(∀x∈st,VG x)->st.length<=i->(st.map F2).sum<=i*ss.length->E6 (T.drop i) (st.map (·.kind))=some [kf]->VO FF ss t T []=VO FF ss t (T.drop i) st->DM.Dp R (aD ab 0) 0 0 none 0 0 none 0 0 (aD rb 0) 8 8 p7 n7 c7 p n c n i Z' from
  H n 0 none 0 0 Zb [] rfl (Ajy _) (AN.nil (.refl _)) (λx hx=>(by cases hx)) (Ajy _) (Ajy _) hty rfl
 intro g
 induction g with
 | zero=>
  intro i p7 n7 c7 Z' st hgi hi ho hV hsl AbB hT CG;rw[AkF (by omega)]at hT CG;have hk:st.map (·.kind)=[kf]:=by simpa[E6] using hT
  have AUP:VO FF ss t T []=some st:=by rw[CG];rfl
  rw[AUP]at h
  match st,hk with
  | [x],_=>
   obtain⟨b,o,G,nv,cv,qv,mv,dv,rfl,h1,h2,h3,h4,h5,h6⟩:=RW.at (ho.rd RW.mono) (i:=0) (x:=x) rfl;have hn7:1=n7:=ho.1.1;simp only[AlT,Ak7]at h1 h2 h3 h4;exact DM.Bp ⟨λAx=>by omega,λ_=>⟨b,o,rfl,by omega,x.kind,x.v,G,nv,cv,qv,mv,dv,⟨h1,h2,h3,h4,trivial⟩,h.ok x Z' G nv cv qv mv dv rfl ho.up h5 h6⟩⟩
 | succ g ih=>
  intro i p7 n7 c7 Z' st hgi hi ho hV hsl AbB hT CG;have CO:i<n:=by omega
  obtain⟨x,hx⟩:=hr.ex CO;obtain⟨b,o,p1,k1,c1,q1,m1,d1,rfl,Dy,hmt,hnm⟩:=Ia.at hr hx;have hX:=xb.trans ho.up;rw[BR hx]at hT CG;have MH:(Bq x (st.map (·.kind))).1=0:=Ams λAv=>by
   rw[E6,Ajj Av]at hT;cases hT
  rw[E6,Ajl MH]at hT;obtain⟨hf,hpl,hmo,hT0,hT1⟩:=tP MH;have hpn:=lT hf;obtain⟨tp,htp⟩:∃tp:Nat,x.parts=tp:=⟨x.parts.toNat,by omega⟩;have hpt:x.parts.toNat=tp:=by omega
  have CA:st.length=n7:=ho.1.1;rw[Akb,CA,hpt]at hT0 hT1;rw[Akb]at hpl;rw[hT1]at hT;rw[<-AnG]at hT0 hT;rw[<-AnD]at hT;rw[VO,CA,hpt]at CG;have hLl:(st.drop (n7-tp)).length=tp:=by rw[Aj6];omega
  have hLV:∀y∈st.drop (n7-tp),VG y:=λy hy=>hV y (AmT hy);have RZ:(st.map F2).sum=((st.take (n7-tp)).map F2).sum+((st.drop (n7-tp)).map F2).sum:=by
   rw[<-Al0,<-AkI,Aks]
  have hsb:i*ss.length<=4096*10000000:=Nat.mul_le_mul (by omega) Aa9;have VP:∀y∈st.drop (n7-tp),F2 y<=100000000000:=λy hy=>by
   have:=tR (f:=F2) (AmT hy);omega
  have Ab:=ho.1.2;obtain⟨cs,TA,hcc⟩:=Ab;have Yg:=BL.cap TA;have e1:Int.toNat ((n7:Int)-x.parts)=n7-tp:=by omega
  have RD:Fo 4 Z' (Ee p7 (Int.toNat ((n7:Int)-x.parts)) c7 4) (n7-Int.toNat ((n7:Int)-x.parts)) ((cs.drop ((n7-tp)*4)).take ((n7-(n7-tp))*4)):=by
   rw[e1];exact Fo.sub TA.rd (by omega) Yg
  have hcd:Ch 4 RW (Z'.del p7) ((cs.drop ((n7-tp)*4)).take ((n7-(n7-tp))*4)) (st.drop (n7-tp)):=by
   have h9:=hcc.drop (n7-tp);rwa[Ajq (by have:=TA.1;rw[Aj6,this,<-Nat.sub_mul];exact Ajt _)]
  have hp7:∀a,p7=some a->Z' a.block≠none:=ho.1.block;have hk7:∀{y:Hp},Ext Z' y->∀a,p7=some a->∃o,y a.block=some o:=fun {y} hy a ha=>by
   cases hh:Z' a.block with
   | none=>exact absurd hh (hp7 a ha)
   | some u=>exact⟨u,hy _ _ hh⟩
  let AUR:Hp->Int->Int->Option Addr->Nat->Option Addr->Nat->Int->Prop:=λy2 k v G nv qv mv e=>
   (∃z,Sd FF ss t x (st.drop (n7-tp))=some z/\k=z.kind/\v=z.v/\e=0/\AN 4 RW Zb y2 p7 n7 c7 st/\Ae 2 DJ (y2.del p7) G nv z.vec/\Ae 2 X9 (y2.del p7) qv mv z.RG)\/(Sd FF ss t x (st.drop (n7-tp))=none/\e=223/\k=0/\v=0/\Ext Zb y2)
  have hkr:1<=x.kind/\x.kind<=7:=by
   have EL:=JD hf;unfold HH at EL;by_cases h1:x.kind=1
   .omega
   by_cases h2:x.kind=2
   .omega
   by_cases h3:x.kind=3
   .omega
   by_cases h4:x.kind=4
   .omega
   by_cases h5:x.kind=5
   .omega
   by_cases h6:x.kind=6
   .omega
   rw[Ajj h1,Ajj h2,Ajj h3,Ajj h4,Ajj h5,Ajj h6]at EL;have:=(Ajx EL).1;omega
  obtain⟨f0,hf0⟩:∃f0,AFt[x.kind.toNat-1]?=some f0:=⟨_,Ajs (show x.kind.toNat-1<7 by omega)⟩;have pP:=(ho.up).ld (AbA x.kind f0 hkr.1 hkr.2 hf0);have AFv:=AL8 hf0;have tS:∀(y:Hp) (U6:Option Addr) (U7:Nat),Ext Z' y->Ae 4 RW (y.del p7) U6 (n7-Int.toNat ((n7:Int)-x.parts)) (st.drop (n7-tp))->∀(R':Rr),(∀y2 k v G nv cv qv mv dv e,AUR y2 k v G nv qv mv e->R' (.T #[.agg #[.I k,.U v,.slice G nv cv,.slice qv mv dv],.I e]) y2)->
    Spec prog f0 #[.pointer (some ⟨ab,0,none⟩),Qd x p1 k1 c1 q1 m1 d1,.slice U6 (n7-Int.toNat ((n7:Int)-x.parts)) U7] y R':=λy U6 U7 hy hrd R' Mx=>by
   have ACV:Ext Zb (y.del p7):=ho.2.trans (hy.del p7);have hσ:Ext Z22 (y.del p7):=xb.trans ACV;have hRV:Kn (λe O'2=>∀y2,(∀a,p7=some a->y2 a.block=y a.block)->y2.del p7=O'2->R' e y2) (y.del p7) (Sd FF ss t x (st.drop (n7-tp))):=by
    refine⟨λz O'2 G nv cv qv mv dv hz Ao EB Ff _ _ y2 hy2 AL9=>?_,λhz O'2 Ao y2 hy2 AL9=>?_⟩
    .subst AL9;refine Mx y2 _ _ _ _ _ _ _ _ _ (.inl ⟨z,hz,rfl,rfl,rfl,⟨⟨ho.1.1,cs,?_,hcc.mono RW.mono ((hy.del p7).trans Ao)⟩,ACV.trans Ao⟩,EB,Ff⟩);exact BL.of_eq (BL.mono hy TA) hy2
    .subst AL9;exact Mx y2 _ _ _ _ _ _ _ _ _ (.inr ⟨hz,rfl,rfl,rfl,(ACV.trans Ao).trans (Ext.LG _ _)⟩)
   obtain⟨f,hf1,hf2,hf3,Pv,Yh⟩:=wm (p:=p1) (c:=c1) (q:=q1) (d:=d1) (e:=U7) (hA.mono hσ) (hg.mono hσ) (hmt.mono Js.mono hσ) (hnm.mono hσ) hf hmo hT0 (by rw[hLl,htp]) hLV VP hrd hS ht hRV;rw[hf0]at hf3;cases hf3;exact Spec.AL7 (hk7 hy) Yh
  have tail:∀(y2:Hp) (E4:Nat) (k v:Int) (G:Option Addr) (nv cv:Nat) (qv:Option Addr) (mv dv:Nat) (e:Int),y2 E4=none->AUR y2 k v G nv qv mv e->AI prog (Instr.storeAt 164 (.pointer (aD E4 0)) (.agg #[.I k,.U v,.slice G nv cv,.slice qv mv dv])) (Hp.set y2 E4 AUO) (λ_ AK=>Br (e≠0) (R (.T #[.agg #[.I 0,.U 0,.N,.N],.I e]) AK) (((0:Int)<=((n7:Int)-x.parts)/\((n7:Int)-x.parts)<=(c7:Int))/\∃SJ SK SL SM SN SO SP SQ,A2 AK E4 0 [.I SJ,.U SK,.slice SL SM SN,.slice SO SP SQ]/\Al AK λcY=>AI prog (Builtin.append_ #[206,206] 206 #[(.slice p7 (Int.toNat ((n7:Int)-x.parts)) c7),(.slice (aD cY 0) 1 1)]) (Hp.set AK cY (.cells #[.I SJ,.U SK,.slice SL SM SN,.slice SO SP SQ] 164 (0,0))) (CS λpF n50 pG Ai=>AL ((i:Int)+1)/\DM.Dp R (aD ab 0) 0 0 none 0 0 none 0 0 (aD rb 0) 8 8 pF n50 pG (aD b o) n c n ((i:Int)+1) Ai))):=λy2 E4 k v G nv cv qv mv dv e hb hC=>by
   refine Yb rfl (Hp.AA _ _ _) (by simp[Value.oneCell']) rfl ?_;rw[Hp.set_set];have x3:=Ext.set (o:=.cells #[.I k,.U v,.slice G nv cv,.slice qv mv dv] 164 (0,0)) hb;rcases hC with ⟨z,hz,rfl,rfl,rfl,B6,EB,Ff⟩|⟨hz,rfl,rfl,rfl,Ao⟩
   .refine⟨λhh=>absurd rfl hh,λ_=>⟨by omega,z.kind,z.v,G,nv,cv,qv,mv,dv,A2.Fg (Hp.AA _ _ _),λcY ACK=>?_⟩⟩;obtain⟨w1,w2,w3⟩:=tO hS.ok hS.nn hf hT0 (by rw[hLl,htp]) hLV hz;rw[hz]at CG;have Di:=(B6.mono RW.mono x3).take (m:=n7-tp) (by omega);have hxd:=x3.del p7;have he:RW ((y2.set E4 (.cells #[.I z.kind,.U z.v,.slice G nv cv,.slice qv mv dv] 164 (0,0))).del p7) [.I z.kind,.U z.v,.slice G nv cv,.slice qv mv dv] z:=⟨G,nv,cv,qv,mv,dv,rfl,EB.mono DJ.mono hxd,Ff.mono X9.mono hxd⟩;rw[e1];refine AN.FN RW.mono Di rfl (RW.one _ _ _ he) he (by omega) (λp' c' y4 Hy _=>⟨_,_,_,rfl,AO CO hr.big,ih (i+1) _ _ _ _ (st.take (n7-tp)++[z]) (by omega) (by omega) Hy (λu hu=>?_) (by rw[Ajr,AkA,AkS];omega) ?_ ?_ ?_⟩) ACK
    .rcases AkH.1 hu with hu|hu
     .exact hV u (Alu hu)
     .rw[Ajp]at hu;rw[hu];exact w1
    .rw[AkI,Al0,AlV,List.sum_singleton,Ale];omega
    .rw[AkI,AlV,w2];exact hT
    .exact CG
   .refine⟨λ_=>h.no ?_ _ (Ao.trans x3),λhh=>absurd (by decide) hh⟩;rw[CG,hz];rfl
  have AbD:∃u,Z' rb=some u:=by
   unfold Hp.ld at pP;cases hq:Z' rb with
   | none=>rw[hq]at pP;cases pP
   | some u=>exact⟨u,rfl⟩
  obtain⟨urb,bF⟩:=AbD;refine DM.Bp ⟨λ_=>⟨b,o,rfl,by omega,_,_,_,_,_,_,_,_,_,_,_,_,_,_,by simpa using Dy.mono hX,λ_=>⟨by unfold AL;omega,rb,0,rfl,by omega,_,pP,by omega,λU5 wo=>⟨?_,λE4 fw=>?_⟩,λE4 fw U5 wo=>?_⟩⟩,λhh=>by omega⟩
  .refine T0 RD hcd hp7 wo (by omega) λU6 U7 y hrd hy=>⟨U6,_,U7,rfl,λk hk u hu=>?_,?_,λE4 fw=>?_⟩
   .rw[Ajp]at hk;subst hk;rw[(Ext.set wo) _ _ bF]at hu;rw[hy _ _ bF];exact hu
   .exact⟨f0,#[],#[],rfl,AFv,tS y U6 U7 hy hrd _ λy2 k v G nv cv qv mv dv e hC=>⟨k,v,G,nv,cv,qv,mv,dv,e,rfl,λE4 fw=>tail y2 E4 k v G nv cv qv mv dv e fw hC⟩⟩
   .exact⟨f0,#[],#[],rfl,AFv,Spec.AR fw (tS y U6 U7 hy hrd _ λy2 k v G nv cv qv mv dv e hC Jv=>⟨k,v,G,nv,cv,qv,mv,dv,e,rfl,tail y2 E4 k v G nv cv qv mv dv e Jv hC⟩)⟩
  .have AFf:=(Hp.AM fw);refine AI.AR fw (T0 RD hcd hp7 wo (by omega) λU6 U7 y hrd hy hny=>⟨U6,_,U7,rfl,λk hk u hu=>?_,?_⟩)
   .rw[Ajp]at hk;subst hk;have Av:k≠E4:=λe=>by rw[e,AFf.2]at bF;cases bF
    rw[Hp.AB Av]at hu ⊢;rw[(Ext.set wo) _ _ bF]at hu;rw[hy _ _ bF];exact hu
   .exact⟨f0,#[],#[],rfl,AFv,Spec.AR hny (tS y U6 U7 hy hrd _ λy2 k v G nv cv qv mv dv e hC Jv=>⟨k,v,G,nv,cv,qv,mv,dv,e,rfl,tail y2 E4 k v G nv cv qv mv dv e Jv hC⟩)⟩
  .have AFw:=(Hp.AM wo);have AFf:(Z'.set U5 (.cells #[] 164 (0,0))) E4=none:=by rw[Hp.AB (Aj4 AFw.1)];exact fw
   dsimp only;rw[Hp.BD (Aj4 AFw.1)];refine AI.AR AFf (T0 RD hcd hp7 AFw.2 (by omega) λU6 U7 y hrd hy hny=>⟨U6,_,U7,rfl,λk hk u hu=>?_,?_⟩)
   .rw[Ajp]at hk;subst hk;have Av:k≠E4:=λe=>by rw[e,fw]at bF;cases bF
    rw[Hp.AB Av]at hu ⊢;rw[(Ext.set AFw.2) _ _ bF]at hu;rw[hy _ _ bF];exact hu
   .exact⟨f0,#[],#[],rfl,AFv,Spec.AR hny (tS y U6 U7 hy hrd _ λy2 k v G nv cv qv mv dv e hC Jv=>⟨k,v,G,nv,cv,qv,mv,dv,e,rfl,tail y2 E4 k v G nv cv qv mv dv e Jv hC⟩)⟩
end
def Ko (T:List Nd)(ss:List Sr):Int:=match Hd T with
 | none=>220
 | some k=>if k=3 then 220 else if DU none ss=true then 0 else 224
def instF (T:List Nd)(ss:List Sr)(t:Int):Int×List El:=
 if Ko T ss≠0 then(Ko T ss,[]) else if ¬(-1099511627776<=t/\t<=1099511627776) then(221,[]) else match IZ FF T ss t with
  | none=>(223,[])
  | some l=>(0,l)
structure Modest (T:List Nd)(ss:List Sr):Prop where
 t:T.length<=2000000
 tx:∀x∈T,x.text.size<=4611686018427387904
 s:ss.length<=10000000
 ps:∀s∈ss,s.ps.length<=1000000000
 nn:∀s∈ss,∀p∈s.ps,0<=p.2
theorem JF:∀{ss:List Sr} {q:Option (List Lb)},DU q ss=true->∀s∈ss,VL s.ls=0/\PZ s.ps=true
 | s::l,q,h,x,G=>by
  rw[P5]at h;simp only[Ajz,Aj3]at h;rcases Ajo.1 G with rfl|G
  .exact⟨h.1.1.1,h.1.1.2⟩
  .exact JF h.2 x G
theorem SsG.of {T:List Nd}{ss:List Sr}(G:Modest T ss)(h:DU none ss=true):SsG ss:=
 ⟨⟨λs hs=>vy (JF h s hs).2,λs hs=>BQ.of (JF h s hs).1,G.s⟩,G.nn,G.ps⟩
section
variable {Z22 Z' Z0:Hp}{R:Rr}
theorem lU {p q:Option Addr}{n c m d:Nat}{T:List Nd}{ss:List Sr}{t kf:Int}(hg:Gl Z22)(hr:Ae 10 Ia Z22 p n T)(hs:Ae 2 BX Z22 q m ss)(hS:SsG ss)(hn:n<=4096)(ht:-4611686018427387904<=t/\t<=4611686018427387904)(hty:E6 T []=some [kf])
  (h:∀l p' n' c' Z',IZ FF T ss t=some l->Ext Z22 Z'->Ae 2 DJ Z' p' n' l->R (.T #[.slice p' n' c',.I 0]) Z') (h':IZ FF T ss t=none->∀Z',Ext Z22 Z'->R (.T #[.N,.I 223]) Z') :
  Spec prog 46 #[.slice p n c,.slice q m d,.I t] Z22 R:=by
 refine Hw.start λab yM=>?_;have G:=Ext.set (o:=.cells #[.slice q m d,.I t] 168 (0,0)) yM;have hA:Uo (Z22.set ab (.cells #[.slice q m d,.I t] 168 (0,0))) ab ss t:=⟨⟨q,m,d,AJ (Hp.AA _ _ _) rfl,hs.mono BX.mono G⟩,AJ (Hp.AA _ _ _) rfl⟩;refine ACU hA (hg.mono G) (hr.mono Ia.mono G) hS hn ht hty ⟨λx Z1 pv nv cv qv mv dv hx BC h1 h2=>?_,λAb Z1 BC=>?_⟩
 .have hm:IZ FF T ss t=some (if x.kind=1 then[⟨[],x.v⟩] else x.vec):=by
   unfold IZ;cases CG:VO FF ss t T [] with
   | none=>rw[CG]at hx;cases hx
   | some st=>
    rw[CG]at hx;show(st.head?.map _)=_
    rw[show st.head?=some x from hx];rfl
  refine⟨_,_,_,_,_,_,_,_,_,rfl,λ_=>⟨λhk=>λNT AbE=>Hw.A5 ?_,λhk=>Hw.A5 ?_⟩⟩
  .rw[Ajl hk]at hm;refine h _ _ _ _ _ hm (G.trans (BC.trans (.set AbE))) ⟨rfl,[.N,.U x.v],⟨rfl,by omega,.inr ⟨NT,0,rfl,A2.Fg (c:=[.N,.U x.v]) (Hp.AA _ _ _)⟩⟩,rfl,λi y hy=>?_⟩;cases i with
   | zero=>
    simp only[AkO,Ajv]at hy;subst hy;exact⟨none,0,0,rfl,Ae.nil⟩
   | succ i=>simp at hy
  .rw[Ajj hk]at hm;exact h _ _ _ _ _ hm (G.trans BC) h1
 .have hm:IZ FF T ss t=none:=by
   unfold IZ;cases CG:VO FF ss t T [] with
   | none=>rfl
   | some st=>
    rw[CG]at Ab;show(st.head?.map _)=_
    rw[show st.head?=none from Ab];rfl
  exact⟨_,_,_,_,_,_,_,_,_,rfl,λ_=>⟨λhk=>absurd hk (by decide),λ_=>Hw.A5 (h' hm _ (G.trans BC))⟩⟩
theorem wq {p q:Option Addr}{n c m d:Nat}{T:List Nd}{ss:List Sr}(hr:Ae 10 Ia Z22 p n T)(hs:Ae 2 BX Z22 q m ss)(hM:Modest T ss)(h:∀Z',Ext Z22 Z'->R (.returned (.I (Ko T ss))) Z'):Spec prog 44 #[.slice p n c,.slice q m d] Z22 R:=by
 have hl:T.length=n:=hr.1;have hMt:=hM.t;refine cS.start (Lz hr (by omega) hM.tx (λk Z1 hk G=>⟨_,_,_,rfl,λhh=>absurd rfl hh,λ_=>⟨λh3=>?_,λh3=>Ec (hs.mono BX.mono G) λZ2 Ao=>⟨_,rfl,λAv=>?_,λh0=>?_⟩⟩⟩) λk j e Z1 hk he G=>⟨_,_,_,rfl,λ_=>?_,λhh=>absurd he hh⟩)
 .have:=h Z1 G;rwa[show Ko T ss=220 by unfold Ko;rw[hk];exact Ajl h3]at this
 .have:=h Z2 (G.trans Ao);have ho:¬DU none ss=true:=λho=>Av (by rw[ho];rfl);rwa[show Ko T ss=224 by unfold Ko;rw[hk];show(if k=3 then _ else _)=_;rw[Ajj h3,Ajj ho]]at this
 .have:=h Z2 (G.trans Ao);have ho:DU none ss=true:=by
   cases hq:DU none ss with
   | true=>rfl
   | false=>rw[hq]at h0;exact absurd (by decide) h0
  rwa[show Ko T ss=0 by unfold Ko;rw[hk];show(if k=3 then _ else _)=_;rw[Ajj h3,Ajl ho]]at this
 .have:=h Z1 G;rwa[show Ko T ss=220 by unfold Ko;rw[hk]]at this
def EIn (O2:Hp)(vs:List Value)(x:El×Nat):Prop:=∃p n c,vs=[.slice p n c,.slice (aD x.2 0) 1 1]/\HG O2 p n x.1.ls
theorem EIn.mono:Hk EIn:=λ_ _ _ _ G ⟨p,n,c,hv,h⟩=>⟨p,n,c,hv,h.mono Cg.mono G⟩
structure wu (t:Int)(O2 Z22:Hp)(p:Option Addr)(n c:Nat)(l:List El)(bs:List Nat):Prop where
 len:bs.length=l.length
 own:∃cs,BL 2 Z22 p n c cs/\Ch 2 EIn O2 cs (l.zip bs)
 Yi:∀(i b:Nat) (e:El),bs[i]?=some b->l[i]?=some e->Z22 b=some (.cells #[.I t,.U e.v] 111 (0,0))
 op:∀a,p=some a->O2 a.block=none/\a.block ∉ bs
 tb:∀b∈bs,O2 b=none
 nd:bs.Nodup
 ext:Ext O2 Z22
theorem wu.known {t:Int}{O2:Hp}{p:Option Addr}{n c:Nat}{l:List El}{bs:List Nat}(h:wu t O2 Z22 p n c l bs):∀b∈bs,∃u,Z22 b=some u:=λb hb=>by
 obtain⟨i,hi⟩:=AkW.1 hb;have G:=(Ajn.1 hi).1;exact⟨_,h.Yi i b _ hi (Ajs (by rw[<-h.len];exact G))⟩
theorem wu.rd {t:Int}{O2:Hp}{p:Option Addr}{n c:Nat}{l:List El}{bs:List Nat}(h:wu t O2 Z22 p n c l bs):Ae 2 BX Z22 p n (l.map λe=>⟨e.ls,[(t,e.v)]⟩):=by
 obtain⟨cs,h1,h2⟩:=h.own;have hz:(l.zip bs).length=l.length:=by rw[AmN,h.len,AnN]
 have iM:l.length=n:=by
  have a1:=h1.1;have a2:=h2.1;rw[hz]at a2;omega
 refine⟨by rw[Akb];exact iM,cs,h1.rd,by rw[h2.1,hz,Akb],λi s G=>?_⟩;rw[Akt]at G;cases he:l[i]? with
 | none=>rw[he]at G;cases G
 | some e=>
  rw[he]at G;simp only[Aki,Ajv]at G;subst G;have Ax:=(Ajn.1 he).1;obtain⟨b,hb⟩:∃b,bs[i]?=some b:=⟨_,Ajs (by rw[h.len];exact Ax)⟩;obtain⟨p1,n1,c1,hv,lQ⟩:=h2.2 i (e,b) (Amr.2 ⟨he,hb⟩);refine⟨p1,n1,c1,aD b 0,1,1,hv,lQ.mono Cg.mono h.ext,⟨rfl,[.I t,.U e.v],⟨rfl,by omega,.inr ⟨b,0,rfl,A2.Fg (c:=[.I t,.U e.v]) (h.Yi i b e hb he)⟩⟩,rfl,λj y hy=>?_⟩,Ajt _⟩;cases j with
  | zero=>simp only[AkO,Ajv]at hy;subst hy;rfl
  | succ j=>simp at hy
theorem wu.add {t:Int}{O2:Hp}{p:Option Addr}{n c b:Nat}{l:List El}{bs:List Nat}{e:El}{pl:Option Addr}{nl cl:Nat}{y:Hp}{Φ:Value->Hp->Prop}(h:wu t O2 Z22 p n c l bs)(hy:Ext Z22 y)(hr:HG (Z22.new y) pl nl e.ls)(hb:y b=none)(hn:n<=1000000000000)
  (hΦ:∀O'2 p' c' Z',wu t O'2 Z' p' (n+1) c' (l++[e]) (bs++[b])->Ext O2 O'2->Φ (.slice p' (n+1) c') Z') :
  Al (Hp.set y b (.cells #[.I t,.U e.v] 111 (0,0))) λfF=>AI prog (Builtin.append_ #[22,22] 22 #[.slice p n c,(.slice (aD fF 0) 1 1)]) (Hp.set (Hp.set y b (.cells #[.I t,.U e.v] 111 (0,0))) fF (.cells #[.slice pl nl cl,.slice (aD b 0) 1 1] 98 (0,0))) Φ:=λfF AMA=>by
 obtain⟨cs,h1,h2⟩:=h.own;have xb:=Ext.set (o:=.cells #[.I t,.U e.v] 111 (0,0)) hb;have xc:=Ext.set (o:=.cells #[.slice pl nl cl,.slice (aD b 0) 1 1] 98 (0,0)) AMA;have X:=hy.trans (xb.trans xc);have hz:(l.zip bs).length=l.length:=by rw[AmN,h.len,AnN]
 have AMB:Z22 b=none:=A7 hy hb;have Hc:b≠fF:=λe=>by rw[<-e,Hp.AA]at AMA;cases AMA
 refine ED (h1.mono X) (q:=aD fF 0) (ys:=[.slice pl nl cl,.slice (aD b 0) 1 1]) ⟨rfl,by omega,.inr ⟨fF,0,rfl,A2.Fg (c:=[.slice pl nl cl,.slice (aD b 0) 1 1]) (Hp.AA _ _ _)⟩⟩ (λu hu=>by
  simp only[Ajo,Aj7,Akc]at hu;rcases hu with rfl|rfl<;>rfl) (by omega) λp' c' Z5 Sb Rp=>?_
 have T:∀k u,Z22 k=some u->(∀a,p=some a->k≠a.block)->Z5 k=some u/\∀a,p'=some a->k≠a.block:=λk u hk Av=>by
  obtain⟨a1,a2⟩:=Aq.1 (Rp k u (Aq.2 ⟨Av,X _ _ hk⟩));exact⟨a2,a1⟩
 have Tb:=Aq.1 (Rp b _ (Aq.2 ⟨λa ha e=>h1.block a ha (by rw[<-e];exact AMB),xc _ _ (Hp.AA _ _ _)⟩));have tt:Ext O2 (O2.or (Z22.new y)):=Ext.Cf _ _;have nt:Ext (Z22.new y) (O2.or (Z22.new y)):=Ext.Cn λk hk=>by
  cases hh:O2 k with
  | none=>rfl
  | some u=>
   have h3:=h.ext _ _ hh;cases h4:(Z22.new y) k with
   | none=>exact absurd h4 hk
   | some v=>rw[(Af.1 h4).1]at h3;cases h3
 have kn:∀k,(∃u,Z22 k=some u)->O2 k=none->(O2.or (Z22.new y)) k=none:=λk ⟨u,hu⟩ hk=>by
  rw[Hp.Cn hk];cases hh:(Z22.new y) k with
  | none=>rfl
  | some v=>rw[(Af.1 hh).1]at hu;cases hu
 have tb:(O2.or (Z22.new y)) b=none:=by
  rw[Hp.Cn (A7 h.ext AMB)];cases hh:(Z22.new y) b with
  | none=>rfl
  | some v=>rw[(Af.1 hh).2]at hb;cases hb
 have hbn:b ∉ bs:=λhc=>by obtain⟨u,hu⟩:=h.known b hc;rw[AMB]at hu;cases hu
 have hE5:Ext (O2.or (Z22.new y)) Z5:=λk u hk=>by
  have hyk:y k=some u:=(Ext.kX (h.ext.trans hy) (Ext.CY _ _)) _ _ hk;refine(Aq.1 (Rp k u (Aq.2 ⟨λa ha e=>?_,xc _ _ (xb _ _ hyk)⟩))).2;have yO:∃u,Z22 a.block=some u:=by
   cases hh:Z22 a.block with
   | none=>exact absurd hh (h1.block a ha)
   | some u=>exact⟨u,rfl⟩
  rw[e,kn a.block yO (h.op a ha).1]at hk;cases hk
 refine hΦ (O2.or (Z22.new y)) p' c' Z5 ⟨by simp[h.len],⟨_,Sb,?_⟩,λi b' e' G VJ=>?_,λa ha=>⟨?_,λhc=>?_⟩,λb' G=>?_,?_,hE5⟩ tt
 .rw[List.zip_append h.len.symm];exact(h2.mono EIn.mono tt).snoc rfl ⟨pl,nl,cl,rfl,hr.mono Cg.mono nt⟩
 .rw[Ak5]at G VJ;split at G
  .rename_i Ax;rw[Ajl (by rw[<-h.len];exact Ax)]at VJ;have:=h.Yi i b' e' G VJ;exact(T b' _ this λa ha e=>(h.op a ha).2 (e▸Aju G)).1
  .rename_i Ax;rw[Ajj (by rw[<-h.len];exact Ax),<-h.len]at VJ;cases hq:i-bs.length with
   | zero=>
    rw[hq]at G VJ;simp only[AkO,Ajv]at G VJ;subst G;subst VJ;exact Tb.2
   | succ j=>rw[hq]at G;simp at G
 .cases hh:(O2.or (Z22.new y)) a.block with
  | none=>rfl
  | some u=>
   exfalso;have hyk:y a.block=some u:=(Ext.kX (h.ext.trans hy) (Ext.CY _ _)) _ _ hh;refine(Aq.1 (Rp a.block u (Aq.2 ⟨λa' tJ e=>?_,xc _ _ (xb _ _ hyk)⟩))).1 a ha rfl;have yO:∃u,Z22 a'.block=some u:=by
    cases hh:Z22 a'.block with
    | none=>exact absurd hh (h1.block a' tJ)
    | some u=>exact⟨u,rfl⟩
   rw[e,kn a'.block yO (h.op a' tJ).1]at hh;cases hh
 .rcases AkH.1 hc with hc|hc
  .obtain⟨u,hu⟩:=h.known _ hc;exact(T a.block u hu λa' tJ e=>(h.op a' tJ).2 (e▸hc)).2 a ha rfl
  .rw[Ajp]at hc;exact Tb.1 a ha hc.symm
 .rcases AkH.1 G with G|G
  .exact kn b' (h.known _ G) (h.tb _ G)
  .rw[Ajp]at G;rw[G];exact tb
 .rw[Alb];exact⟨h.nd,by simp,λa ha b' G e=>by rw[Ajp]at G;rw[e,G]at ha;exact hbn ha⟩
end
theorem ACW {ss:List Sr}{t:Int}(hS:SsG ss):∀(T:List Nd) (st r:List Vv) (ty:List Int),E6 T (st.map (·.kind))=some ty->VO FF ss t T st=some r->(∀x∈st,VG x)->(∀x∈r,VG x)/\(r.map F2).sum<=(st.map F2).sum+T.length*ss.length
 | [],st,r,ty,_,hr,hV=>by
  cases hr;exact⟨hV,by omega⟩
 | x::T,st,r,ty,hT,hr,hV=>by
  have MH:(Bq x (st.map (·.kind))).1=0:=Ams λAv=>by
   rw[E6,Ajj Av]at hT;cases hT
  rw[E6,Ajl MH]at hT;obtain⟨hf,hpl,hmo,G,hT1⟩:=tP MH;have hpn:=lT hf;rw[Akb]at G hT1 hpl;rw[hT1,<-AnG,<-AnD]at hT;rw[<-AnG]at G;rw[VO]at hr;have hLl:((st.drop (st.length-x.parts.toNat)).length:Int)=x.parts:=by rw[Aj6];omega
  have hLV:∀y∈st.drop (st.length-x.parts.toNat),VG y:=λy hy=>hV y (AmT hy);have RZ:(st.map F2).sum=((st.take (st.length-x.parts.toNat)).map F2).sum+((st.drop (st.length-x.parts.toNat)).map F2).sum:=by
   rw[<-Al0,<-AkI,Aks]
  cases hz:Sd FF ss t x (st.drop (st.length-x.parts.toNat)) with
  | none=>rw[hz]at hr;cases hr
  | some z=>
   rw[hz]at hr;obtain⟨w1,w2,w3⟩:=tO hS.ok hS.nn hf G hLl hLV hz;obtain⟨g1,g2⟩:=ACW hS T (st.take (st.length-x.parts.toNat)++[z]) r ty (by rw[AkI,AlV,w2];exact hT) hr (λu hu=>by
    rcases AkH.1 hu with hu|hu
    .exact hV u (Alu hu)
    .rw[Ajp]at hu;rw[hu];exact w1)
   refine⟨g1,?_⟩;rw[AkI,Al0,AlV,List.sum_singleton]at g2;rw[Ajk,Ale];omega
theorem wv {ss:List Sr}{t k:Int}{T:List Nd}{l:List El}(hS:SsG ss)(hT:E6 T []=some [k])(h:IZ FF T ss t=some l):(∀e∈l,BQ e.ls)/\l.length<=1+T.length*ss.length:=by
 unfold IZ at h;cases hr:VO FF ss t T [] with
 | none=>rw[hr]at h;cases h
 | some st=>
  rw[hr]at h;obtain⟨g1,g2⟩:=ACW hS T [] st _ hT hr (λx hx=>by cases hx)
  change (st.head?.map λv:Vv=>if v.kind=1 then[(⟨[],v.v⟩:El)] else v.vec)=some l at h
  cases st with
  | nil=>cases h
  | cons v st=>
   simp only[Amw,Aki,Ajv]at h;have hv:=g1 v (by simp);rw[AkR,AnF]at g2;simp only[AlO,AnO]at g2;unfold F2 at g2;split at h
   .subst h;exact⟨λe G=>by rw[Ajp]at G;subst G;exact⟨Ajy _,λx hx=>by cases hx⟩,by simp⟩
   .subst h;exact⟨λe G=>(hv.el e G).1,by omega⟩
section
variable {Z22 Z' Z0:Hp}{R:Rr}
theorem wx {t:Int}(h:R (.returned (.bool (decide (-1099511627776<=t/\t<=1099511627776)))) Z22):Spec prog 45 #[.I t] Z22 R:=by
 refine cX.start ⟨λG=>?_,λG=>?_⟩
 .rw[show decide (-1099511627776<=t/\t<=1099511627776)=decide (t<=1099511627776) from Akr.2 ⟨λh=>h.2,λh=>⟨G,h⟩⟩]at h;exact h
 .rw[show decide (-1099511627776<=t/\t<=1099511627776)=false from Aj1 λhh=>G hh.1]at h;exact h
theorem lV {T:List Nd}{k:Int}(h:Hd T=some k):E6 T []=some [k]/\T.length<=4096:=by
 unfold Hd at h;cases G:E6 T [] with
 | none=>rw[G]at h;cases h
 | some st=>
  rw[G]at h
  match st with
  | []=>cases h
  | [x]=>
   change (if T.length<=4096 then some x else none)=some k at h
   split at h
   .rename_i h4;cases h;exact⟨rfl,h4⟩
   .cases h
  | _::_::_=>cases h
theorem inst_spec {p q:Option Addr}{n c m d:Nat}{T:List Nd}{ss:List Sr}{t:Int}(hg:Gl Z22)(hr:Ae 10 Ia Z22 p n T)(hs:Ae 2 BX Z22 q m ss)(hM:Modest T ss)
  (h:∀O2 p' n' c' Z' bs,(instF T ss t).1=0->wu t O2 Z' p' n' c' (instF T ss t).2 bs->Ext Z22 O2->R (.T #[.slice p' n' c',.I 0]) Z') (h':∀Z',(instF T ss t).1≠0->Ext Z22 Z'->R (.T #[.N,.I (instF T ss t).1]) Z') :
  Spec prog 15 #[.slice p n c,.slice q m d,.I t] Z22 R:=by
 refine Ew.start (wq hr hs hM λZ1 BC=>⟨_,rfl,λAv=>?_,λh0=>wx ⟨_,rfl,λhtf=>?_,λhtt=>?_⟩⟩)
 .have e:instF T ss t=(Ko T ss,[]):=by unfold instF;rw[Ajl Av]
  rw[e] at h';exact h' Z1 Av BC
 .have e:instF T ss t=(221,[]):=by unfold instF;rw[Ajj h0,Ajl (AkM htf)]
  rw[e] at h';exact h' Z1 (by dsimp only;decide) BC
 have su:=AkK.1 h0;have ht:=Ajx htt;obtain⟨k,hk,hk3,Aa⟩:∃k,Hd T=some k/\k≠3/\DU none ss=true:=by
  unfold Ko at su;cases hq:Hd T with
  | none=>rw[hq]at su;dsimp only at su;exact absurd su (by decide)
  | some k=>
   rw[hq]at su;dsimp only at su;by_cases h3:k=3
   .rw[Ajl h3]at su;exact absurd su (by decide)
   .rw[Ajj h3]at su;cases ho:DU none ss with
    | true=>exact⟨k,rfl,h3,rfl⟩
    | false=>rw[ho]at su;exact absurd su (by decide)
 have hS:=SsG.of hM Aa;obtain⟨CG,hlen⟩:=lV hk;have hl:T.length=n:=hr.1;refine lU (hg.mono BC) (hr.mono Ia.mono BC) (hs.mono BX.mono BC) hS (by omega) (by omega) CG (λl p' n' c' Z2 hm Ao lQ=>⟨_,_,_,_,rfl,λhh=>absurd rfl hh,λ_=>?_⟩) λhm Z2 Ao=>⟨_,_,_,_,rfl,λ_=>?_,λhh=>absurd (by decide) hh⟩
 .have e:instF T ss t=(0,l):=by unfold instF;rw[Ajj h0,Ajj (by rw[AkK];exact ht),hm]
  rw[e]at h;dsimp only at h;have hll:l.length=n':=lQ.1;have hX:=BC.trans Ao;obtain⟨mo1,mo2⟩:=wv hS CG hm;have AbF:n'<=100000000000:=by
   have:=Nat.mul_le_mul hlen hS.ok.len;omega
  suffices H:∀g i:Nat,∀O2 p1 n1 c1 Z3 bs,n'-i=g->i<=n'->wu t O2 Z3 p1 n1 c1 (l.take i) bs->Ext Z2 O2->Ew.PF R t p1 n1 c1 p' n' c' n' i Z3 from
   H n' 0 Z2 none 0 0 Z2 [] rfl (Ajy _) ⟨rfl,⟨[],BL.nil,by simp[Ch]⟩,λi b e hb=>(by simp at hb),λa ha=>(by cases ha),λb hb=>(by cases hb),Ak9,.refl _⟩ (.refl _)
  intro g
  induction g with
  | zero=>
   intro i O2 p1 n1 c1 Z3 bs hgi hi hA CE;rw[Ajq (by omega)]at hA;exact Ew.Ll ⟨λAx=>by omega,λ_=>h O2 p1 n1 c1 Z3 bs rfl hA (hX.trans CE)⟩
  | succ g ih=>
   intro i O2 p1 n1 c1 Z3 bs hgi hi hA CE;have CO:i<n':=by omega
   obtain⟨x,hx⟩:=lQ.ex CO;obtain⟨b,o,q1,m1,d1,rfl,Dy,fj⟩:=DJ.at lQ hx;have hX3:=CE.trans hA.ext;have AMC:=fj.mono Cg.mono hX3;have hm1:m1<=1000000000:=by
    have:=(mo1 x (Aju hx)).rd fj;omega
   have Jw:n1=i:=by
    obtain⟨cs,a1,a2⟩:=hA.own;have a3:=a1.1;have a4:=a2.1;rw[AmN,hA.len,AnN,AkA]at a4;omega
   have next:∀G p2 c2 Z4 bs',wu t G Z4 p2 (n1+1) c2 (l.take i++[x]) bs'->Ext O2 G->AL ((i:Int)+1)/\Ew.PF R t p2 (n1+1) c2 (aD b o) n' c' n' ((i:Int)+1) Z4:=λG p2 c2 Z4 bs' hA' KK=>
    ⟨AO CO lQ.big,ih (i+1) G p2 (n1+1) c2 Z4 bs' (by omega) (by omega) (by rw[AU hx];exact hA') (CE.trans KK)⟩
   refine Ew.Ll ⟨λ_=>⟨b,o,rfl,by omega,q1,m1,d1,x.v,by simpa using Dy.mono hX3,λ_=>⟨λaZ we=>⟨?_,λVE wy=>?_⟩,λVE wy aZ we=>?_⟩⟩,λhh=>by omega⟩
   .refine HZ AMC hm1 (λyE yF y ho hy=>⟨_,_,_,rfl,λVE wy=>wu.add hA hy (ho.rd Cg.mono) wy (by omega) λG p2 c2 Z4 hA' KK=>⟨_,_,_,rfl,next _ _ _ _ _ hA' KK⟩⟩) we
   .have AUS:=(Hp.AM wy);refine AI.AR wy (HZ AMC hm1 (λyE yF y ho hy hny=>⟨_,_,_,rfl,wu.add hA hy (ho.rd Cg.mono) hny (by omega) λG p2 c2 Z4 hA' KK=>⟨_,_,_,rfl,next _ _ _ _ _ hA' KK⟩⟩) we)
   .have AME:=(Hp.AM we);have AUS:(Z3.set aZ (.cells #[] 144 (0,0))) VE=none:=by rw[Hp.AB (Aj4 AME.1)];exact wy
    dsimp only;rw[Hp.BD (Aj4 AME.1)];refine AI.AR AUS (HZ AMC hm1 (λyE yF y ho hy hny=>⟨_,_,_,rfl,wu.add hA hy (ho.rd Cg.mono) hny (by omega) λG p2 c2 Z4 hA' KK=>⟨_,_,_,rfl,next _ _ _ _ _ hA' KK⟩⟩) AME.2)
 .have e:instF T ss t=(223,[]):=by unfold instF;rw[Ajj h0,Ajj (by rw[AkK];exact ht),hm]
  rw[e] at h';exact h' Z2 (by dsimp only;decide) (BC.trans Ao)
end
theorem BL.Yj {P:Program}{s:Nat}{Z22:Hp}{b o n c j:Nat}{cs:List Value}{v:Value}{T:TypeId}{Φ:Unit->Hp->Prop}(ho:BL s Z22 (some ⟨b,o,none⟩) n c cs)(hj:j<n*s)(hz:∀w,(Go.sizeOf T).run P w=.ok 1 w)(hv:v.cells=#[v])(h1:v.oneCell'=true)
  (G:∀obj,BL s (Z22.set b obj) (some ⟨b,o,none⟩) n c (cs.set j v)->Φ () (Z22.set b obj)):AI P (Instr.storeAt T (.pointer (some ⟨b,o+j,none⟩)) v) Z22 Φ:=by
 obtain⟨hl,xq,h⟩:=ho;rcases h with ⟨hp,_⟩|⟨b',o',arr,T',hp,hb,rM,KD,RD⟩
 .cases hp
 .cases hp;have hns:n*s<=c*s:=AkZ s rM;refine AI.store hz hb (by rw[hv];rfl) (by omega) (by rw[hv];simpa using h1) (G _ ⟨by rw[AmU];exact hl,xq,.inr ⟨b,o,_,T',rfl,Hp.AA _ _ _,rM,by simp[KR];exact KD,?_⟩⟩);rw[hv,<-RD];refine Akv λi=>?_;simp only[LF,Array.toList_setIfInBounds];rw[AkE,Alq,AkE];by_cases hi:i<n*s
  .rw[Ajl hi,Ajl hi,AkL,AkL,Alq];by_cases eA:j=i
   .subst eA;have Ax:o+j<arr.size:=by omega
    simp[Ax];exact Nat.lt_min.2 ⟨hj,by omega⟩
   .rw[Ajj (by omega),Ajj eA]
  .rw[Ajj hi,Ajj hi];split
   .omega
   .rfl
theorem DX.one (Z22:Hp)(vs:List Value)(x:Pt)(h:DX Z22 vs x):FL vs:=by
 rw[show vs=[.I x.1,.U x.2] from h];intro u G;simp only[Ajo,Aj7,Akc]at G;rcases G with rfl|rfl<;>rfl
section
variable {Z22 Z' Z0:Hp}{R:Rr}
theorem Kq {T Et ty:TypeId}{s bs:Nat}[KE prog T Et s bs]{q:Option Addr}{j c b:Nat}{cs:List Value}{Φ:Value->Hp->Prop}(RD:Fo s Z22 q j cs)(h1:FL cs)(hb:j*bs<=140737488355328)
  (hΦ:∀p' c' Z',BL s (Z22.new Z') p' j c' cs->Ext Z22 Z'->Φ (.slice p' j c') Z') (G:Z22 b=none) :
  AI prog (Builtin.append_ #[T,T] ty #[.slice (some ⟨b,0,none⟩) 0 0,.slice q j c]) (Z22.set b (.cells #[] Et (0,0))) Φ:=by
 refine ED BL.empty (RD.mono (.set G)) h1 (by rw[Akn];exact hb) λp' c' Z' CV PU=>?_;have hq:∀a:Addr,(some (⟨b,0,none⟩:Addr))=some a->Z22 a.block=none:=λa ha=>by cases ha;exact G
 rw[Akn]at CV ⊢;rw[Akp]at CV;exact hΦ p' c' Z' (BL.TJ CV (HL hq PU (.set G))) (LJ hq PU (.set G))
theorem fx {p:Option Addr}{n c:Nat}{ls:List Lb}(hr:HG Z22 p n ls)(hn:n<=1000000000)(h:∀G c' Z',HG (Z22.new Z') G n ls->Ext Z22 Z'->R (.returned (.slice G n c')) Z'):Spec prog 39 #[.slice p n c] Z22 R:=
 MR.start λb hb=>HZ hr hn (λG c' Z' ho hx=>⟨_,_,_,rfl,h G c' Z' (ho.rd Cg.mono) hx⟩) hb
theorem fy {p:Option Addr}{n c:Nat}{ps:List Pt}(hr:Ae 2 DX Z22 p n ps)(hn:n<=1000000000)(h:∀G c' Z',IT 2 DX (Z22.new Z') G n c' ps->Ext Z22 Z'->R (.returned (.slice G n c')) Z'):Spec prog 40 #[.slice p n c] Z22 R:=by
 obtain⟨h1,cs,h2,h3⟩:=hr;exact MJ.start λb hb=>Kq h2 (Ch.uY DX.one h3 (by decide)) (by omega) (λG c' Z' ho hx=>⟨_,_,_,rfl,h G c' Z' ⟨h1,cs,ho,h3.1,λi x hx=>h3.2 i x hx⟩ hx⟩) hb
theorem BX.one (Z22:Hp)(vs:List Value)(x:Sr)(h:BX Z22 vs x):FL vs:=by
 obtain⟨p,n,c,q,m,d,rfl,_⟩:=h;intro u G;simp only[Ajo,Aj7,Akc]at G;rcases G with rfl|rfl<;>rfl
structure SOk (ss:List Sr):Prop where
 s:ss.length<=1000000000000
 ls:∀s∈ss,s.ls.length<=1000000000
 ps:∀s∈ss,s.ps.length<=1000000000
theorem L4 {p:Option Addr}{n c:Nat}{ss:List Sr}(hr:Ae 2 BX Z22 p n ss)(hS:SOk ss)(h:∀p' c' Z',Ae 2 BX Z' p' n ss->Ext Z22 Z'->R (.returned (.slice p' n c')) Z'):Spec prog 12 #[.slice p n c] Z22 R:=by
 have hl:ss.length=n:=hr.1;have ht:=hS.s;refine Dl.start ?_
 suffices H:∀g i:Nat,∀p3 n3 c3 Z',n-i=g->i<=n->AN 2 BX Z22 Z' p3 n3 c3 (ss.take i)->Dl.CD R p n c p3 n3 c3 i Z' from H n 0 none 0 0 Z22 rfl (Ajy _) (AN.nil (.refl _))
 intro g
 induction g with
 | zero=>
  intro i p3 n3 c3 Z' hg hi G;rw[Ajq (by omega)]at G;have Qe:n=n3:=hl.symm.trans G.1.1;subst Qe;exact Dl.A5 ⟨λAx=>by omega,λ_=>h p3 c3 Z' (G.rd BX.mono) G.up⟩
 | succ g ih=>
  intro i p3 n3 c3 Z' hg hi G;have CO:i<n:=by omega
  obtain⟨x,hx⟩:=hr.ex CO;obtain⟨b,o,p1,k1,c1,q1,m1,d1,rfl,Dy,Vn,hps,lM⟩:=BX.at hr hx;have yP:=Aju hx;have a1:=hS.ls x yP;have a2:=hS.ps x yP;have a3:x.ls.length=k1:=Vn.1;have a4:x.ps.length=m1:=hps.1;have Qe:n3=i:=by have:=G.1.1;rw[AkA]at this;omega
  have AUT:=Dy.mono G.up;refine Dl.A5 ⟨λ_=>⟨b,o,rfl,by omega,p1,k1,c1,by simpa using AUT.1,by omega,q1,m1,d1,by simpa using AUT.2.1,fx (Vn.mono Cg.mono G.up) (by omega) λp4 c4 Z2 Ff Ao=>⟨_,_,_,rfl,Kp.TI Ao,fy ((hps.mono DX.mono G.up).mono DX.mono Ao) (by omega) λp5 c5 Z3 Up CE=>⟨_,_,_,rfl,λmh AbH=>?_⟩⟩⟩,λhh=>by omega⟩;have Di:=G.mono BX.mono (Ao.trans CE);have he:BX (Z3.del p3) [.slice p4 k1 c4,.slice p5 m1 c5] x:=
   ⟨p4,k1,c4,p5,m1,c5,rfl,Ff.mono Cg.mono ((Ext.Ir CE).trans (G.new (Ao.trans CE))),(Up.rd DX.mono).mono DX.mono ((Ext.Cq Ao).trans (G.new (Ao.trans CE))),by obtain⟨cs,TA,_⟩:=Up.2;exact BL.cap TA⟩
  refine AN.FN BX.mono Di rfl (BX.one _ _ _ he) he (by omega) (λp' c' Z4 Hy _=>⟨_,_,_,rfl,AO CO hr.big,ih (i+1) _ _ _ _ (by omega) (by omega) (by rw[AU hx];exact Hy)⟩) AbH
end
theorem wz {cs:List Value}{v:Value}{s i j r:Nat}(hr:r<s):((cs.set (i*s+r) v).drop (j*s)).take s=if i=j then((cs.drop (j*s)).take s).set r v else(cs.drop (j*s)).take s:=by
 refine Akv λk=>?_;by_cases eA:i=j
 .subst eA;rw[Ajl rfl,AkE,Alq,AkE,AkL,AkL,Alq];by_cases G:k<s
  .rw[Ajl G,Ajl G];by_cases hrk:r=k
   .subst hrk;rw[Ajl rfl,Ajl rfl,AkA,Aj6];by_cases Ax:i*s+r<cs.length
    .rw[Ajl Ax,Ajl (by omega)]
    .rw[Ajj Ax,Ajj (by omega)]
   .rw[Ajj (by omega),Ajj hrk]
  .rw[Ajj G,Ajj G,Ajj (by omega)]
 .rw[Ajj eA,AkE,AkE,AkL,AkL,Alq];by_cases G:k<s
  .rw[Ajl G,Ajl G,Ajj];intro e;rcases Amn i j with h|h|h
   .have:=AkZ s (show i+1<=j from h);rw[Ale]at this;omega
   .exact eA h
   .have:=AkZ s (show j+1<=i from h);rw[Ale]at this;omega
  .rw[Ajj G,Ajj G]
def sX:ByteArray:=⟨#[120]⟩
def sA:ByteArray:=⟨#[97]⟩
def nV:Nd:=⟨2,0,ByteArray.mk #[],[⟨1,Eb,sX⟩],0,0,0,[],false,0⟩
def nA:Nd:=⟨5,1,ByteArray.mk #[],[],0,0,0,[],false,1⟩
abbrev v1:Int:=4607182418800017408
abbrev v3:Int:=4613937818241073152
abbrev v5:Int:=4617315517961601024
abbrev v8:Int:=4620693217682128896
structure BxR where
 b5:Nat
 b6:Nat
 Dk:Nat
 E4:Nat
 H8:Nat
 Ho:Nat
 D:Nat
 l:Nat
 m:Nat
 p:Option Addr
 n:Nat
 c:Nat
 q:Option Addr
 k:Nat
 d:Nat
 r0:Loop
theorem BL.here {s:Nat}{Z22 Z':Hp}{p:Option Addr}{n c:Nat}{cs:List Value}(h:BL s Z22 p n c cs)(hs:∀a,p=some a->Z' a.block=Z22 a.block):BL s Z' p n c cs:=by
 obtain⟨G,h2,h3|⟨b,o,arr,T,rfl,hb,r⟩⟩:=h
 .exact⟨G,h2,.inl h3⟩
 .exact⟨G,h2,.inr ⟨b,o,arr,T,rfl,(hs _ rfl).trans hb,r⟩⟩
theorem kpL {A B:Hp}{L:List (Nat×Obj)}{i b:Nat}{o:Obj}(hn:(names L).Nodup)(hi:L[i]?=some (b,o)):Kp [b] (BW A L) (BW B L):=λx hx u G=>by
 rw[Ajp]at hx;subst hx;rw[Bd hn hi]at G ⊢;exact G
structure StR (Z22 B:Hp)(m b o e k:Nat):Prop where
 ext:Ext Z22 B
 own:∃pl cl pp cc ds,BL 2 B (some ⟨b,o,none⟩) 1 e [.slice pl 0 cl,.slice pp k cc]/\BL 2 B pp k cc ds/\(∀a,pp=some a->a.block≠b/\a.block≠m/\Z22 a.block=none)
 map:MS (λv _=>v=.I 0) B m [(JZ [],(0:Int))]
 hb:Z22 b=none
 hm:Z22 m=none
 ne:m≠b
theorem AMF (w:World):(Go.sizeOf 96).run prog w=.ok 1 w:=by kernel_rfl
section
variable {Z22 B:Hp}{R:Rr}{X:BxR}
end
section
variable {Z22:Hp}{R:Rr}
set_option maxRecDepth 100000 in
theorem AUU {x y : Operand} {a b a' b' : Int} : YF prog (do eqGuard .neq 111 x y (.agg #[.I a,.U b]) (.agg #[.I a',.U b']); binOp .neq 111 (.agg #[.I a,.U b]) (.agg #[.I a',.U b'])) Z22 (.bool (!(a == a' && b == b'))) := λw _ => by
 have u1 := underlying2
 have u2 := underlying27
 have hS : prog.underlying 111 = some (.struct (prog.fieldsOf 111)) := by kernel_rfl
 have hp : prog.stoodInHeld 111 = false := by kernel_rfl
 have hf : (prog.fieldsOf 111).toList = [{ name := "T",type := 2,offset := 0,embedded := false,tag := "",pkgPath := "",byteOffset := 0 },{ name := "V",type := 27,offset := 1,embedded := false,tag := "",pkgPath := "",byteOffset := 8 }] := by kernel_rfl
 simp only [Sem.run_bind,run_eqGuard_agg _ _ _ _ _ _ _ (show prog.eqGuardType prog.depth 111 = false by kernel_rfl),Result.andThen_ok,run_neq_struct]
 rw [show (10000 : Nat) = 9999 + 1 from rfl,run_equalIn_agg w 9999 111 _ _ hS hp,hf]
 simp only [Op.eqFields]
 go_simp
 by_cases h1 : a = a' <;> by_cases h2 : b = b' <;> simp [h1,h2]
theorem lW {p p':Option Addr}{n n' c c':Nat}{ps:List Pt}(G:Ae 2 DX Z22 p n ps)(h2:Ae 2 DX Z22 p' n' ps)(hR:R (.B true) Z22):Spec prog 49 #[.slice p n c,.slice p' n' c'] Z22 R:=by
 have e1:ps.length=n:=G.1;have e2:ps.length=n':=h2.1;refine Dr.start ⟨λAv=>absurd (by omega) Av,λ_=>?_⟩
 suffices H:∀d i:Nat,n-i=d->i<=n->Dr.FA R p n c p' n' c' i Z22 from H n 0 rfl (Ajy _)
 intro d
 induction d with
 | zero=>exact λi hd hi=>Dr.DH ⟨λAx=>by omega,λ_=>hR⟩
 | succ d ih=>
  intro i hd hi;obtain⟨x,hx⟩:=G.ex (show i<n by omega);obtain⟨b,o,rfl,l1⟩:=DX.at G hx;obtain⟨b',o',rfl,l2⟩:=DX.at h2 hx;exact Dr.DH ⟨λ_=>⟨b,o,rfl,by omega,x.1,x.2,by simpa using l1,b',o',rfl,by omega,x.1,x.2,by simpa using l2,_,AUU,λhh=>by simp at hh,λ_=>⟨AO (by omega) G.big,ih (i+1) (by omega) (by omega)⟩⟩,λhh=>by omega⟩
theorem AbI:AL ((0:Int)+0):=by unfold AL;omega
theorem AUV:AL ((0:Int)+0+300):=by unfold AL;omega
theorem qI {α:Type}{s b n:Nat}{T:TypeId}{E:Hp->List Value->α->Prop}{cs:List Value}{xs:List α}(h:Z22 b=some (.cells cs.toArray T (0,0)))(G:cs.length=n*s)(hn:xs.length=n)(hb:n<=1000)(hE:∀(i:Nat) (x:α),xs[i]?=some x->E Z22 ((cs.drop (i*s)).take s) x):Ae s E Z22 (aD b 0) n xs:=
 ⟨hn,cs,⟨G,by omega,.inr ⟨b,0,rfl,A2.Fg h⟩⟩,by rw[G,hn],hE⟩
end
end TwW
end
section
namespace TwW.Rw
open Go Tw Go.RowKit Go.ChangeShapes Go.WideShapes Go.ChangeAt Go.Deep Go.Proofs.Tryz Go.Proofs.YtdlkodiemlmmiaaGreatDoor
theorem own:ownKnob prog.godebug=none:=by kernel_rfl
theorem laidOut:laidOutB prog=true:=by kernel_rfl
theorem H3 {H:Type}(d:DataW H):1<=Rows.uptoBulk d:=by
 cases d with
 | lit l=>cases l<;>simp[Rows.uptoBulk]
 | _=>simp[Rows.uptoBulk]
theorem T1 {H:Type}{d:DataW H}:∀{l:List (DataW H)},d∈l->Rows.uptoBulk d<=Rows.uptoBulkAll l
 | x::l,h=>by
  simp only[Rows.uptoBulkAll];rcases Ajo.1 h with rfl|h
  .omega
  .have:=T1 h;omega
theorem lX {H:Type}(l r:List (DataW H)):Rows.uptoBulkAll (l++r)=Rows.uptoBulkAll l+Rows.uptoBulkAll r:=by
 induction l with
 | nil=>simp[Rows.uptoBulkAll]
 | cons x l G=>simp only[Akl,Rows.uptoBulkAll,G];omega
theorem ACX {H:Type}(l:List (DataW H)):l.length<=Rows.uptoBulkAll l:=by
 induction l with
 | nil=>simp
 | cons x l G=>have:=H3 x;simp only[Rows.uptoBulkAll,Ajk];omega
def II {α:Type}(t:TypeId)(E:Hp->List Value->α->Prop)(I:α->Prop)(sz:α->Nat):Prop:=
 ∀{H:Type} {enc:TypeId×Value->H} {w:World} {base:Nat} {sp:Nat->Bool} {G:Bool} {fuel:Nat} {cs:List Value} {x:DataW H×List MemPlace},
  DataW.trod enc prog w base sp G fuel t cs=some x->Rows.uptoBulk x.1<=1048576->∃y,E (full w) cs y/\I y/\sz y<=Rows.uptoBulk x.1
theorem II.int {t:TypeId}{k:IntKind}(G:prog.underlying t=some (.int k)):II t (FK k) (λx=>(Lit.int k x).wf=true) (λ_=>1):=λh _=>by
 obtain⟨n,rfl,rfl,hw⟩:=DataW.trod_int G h;exact⟨n,rfl,hw,by simp[Rows.uptoBulk]⟩
theorem mkB {α:Type}{s:Nat}{E:Hp->List Value->α->Prop}{I:α->Prop}{sz:α->Nat}{Z22:Hp}{b o:Nat}{H:Type}{D:Nat->DataW H}:∀{n:Nat},n<=4611686018427387904->(∀i,i<n->∃vs x,vs.length=s/\A2 Z22 b (o+i*s) vs/\E Z22 vs x/\I x/\sz x<=Rows.uptoBulk (D i))->
  ∃xs,Ae s E Z22 (some ⟨b,o,none⟩) n xs/\(∀x∈xs,I x)/\(xs.map sz).sum<=Rows.uptoBulkAll ((List.range n).map D)
 | 0,_,_=>⟨[],Ae.nil,by simp,by simp⟩
 | n+1,hn,h=>by
  obtain⟨xs,⟨h1,cs,⟨hl,_,h2⟩,h3⟩,hI,hs⟩:=mkB (n:=n) (D:=D) (by omega) (λi hi=>h i (by omega));obtain⟨vs,x,hv,Dy,hE,hx,hz⟩:=h n (by omega);have RD:A2 Z22 b o cs:=by
   rcases h2 with rfl|⟨b',o',hp,RI⟩
   .have:cs=[]:=Aj8 (by simpa using hl);subst this;trivial
   .cases hp;exact RI
  refine⟨xs++[x],⟨by simp[h1],cs++vs,⟨by rw[Ajr,hl,hv,Akw];omega,hn,.inr ⟨b,o,rfl,RD.snoc (by rw[hl];exact Dy)⟩⟩,h3.snoc hv hE⟩,λy G=>?_,?_⟩
  .rcases AkH.1 G with G|G
   .exact hI y G
   .simp at G;subst G;exact hx
  .rw[List.range_succ,AkI,AkI,lX,Al0];simp only[AkR,AlO,AnF,AnO,Rows.uptoBulkAll];omega
def ESc {α:Type}(s:Nat)(E:Hp->List Value->α->Prop)(Z22:Hp)(vs:List Value)(xs:List α):Prop:=∃p n c,vs=[.slice p n c]/\n<=c/\Ae s E Z22 p n xs
theorem II.slice {α:Type}{t e:TypeId}{s:Nat}{E:Hp->List Value->α->Prop}{I:α->Prop}{sz:α->Nat}(ht:prog.underlying t=some (.slice e))(hs:prog.cellsOf e=s)(hs0:0<s)(he:II e E I sz):
  II t (ESc s E) (λxs=>∀x∈xs,I x) (λxs=>(xs.map sz).sum+1):=by
 intro H enc w base sp held fuel cs x h hw;subst hs;rcases open_slice ht h with ⟨rfl,rfl⟩|⟨a,len,cap,m,n,D,Pl,rfl,hb,hl,hm,hmm,rfl,hi⟩
 .exact⟨[],⟨none,0,0,rfl,Ajt _,Ae.nil⟩,by simp,by simp[Rows.uptoBulk]⟩
 .have hlm:len<=m:=by rw[hmm];split<;>omega
  have uS:Rows.uptoBulkAll ((List.range len).map D)+1<=Rows.uptoBulk (DataW.slice ((List.range len).map D) ((List.range (m-len)).map λj=>D (len+j))):=by
   simp only[Rows.uptoBulk];omega
  have hlen:=ACX ((List.range len).map D);rw[Akb,List.length_range]at hlen;have hwD:∀i,i<len->Rows.uptoBulk (D i)<=1048576:=λi CO=>by
   have:=T1 (AkT.2 ⟨i,AlK.2 CO,rfl⟩:D i∈(List.range len).map D);simp only at hw;omega
  by_cases h0:len=0
  .subst h0;exact⟨[],⟨some a,0,cap,rfl,Ajy _,Ae.nil⟩,by simp,by simp only[Rows.uptoBulk,AlO,AnO];omega⟩
  .have lY:a.spot=none:=by
    obtain⟨cs',hc,_⟩:=hi 0 (by omega);obtain⟨_,aV,G⟩:=World.cells?_some hc;have h1:=G 0 hs0;rw[Ajs (by omega)]at h1;have:=bQ h1;simpa[Addr.add] using this
   obtain⟨b,o,sp'⟩:=a;simp only at lY;subst lY;obtain⟨xs,hr,hI,hz⟩:=mkB (s:=prog.cellsOf e) (E:=E) (I:=I) (sz:=sz) (Z22:=full w) (b:=b) (o:=o) (D:=D) (n:=len) (by simp only at hw;omega) (λi CO=>by
    obtain⟨cs',hc,pU⟩:=hi i (by omega);obtain⟨_,aV,G⟩:=World.cells?_some hc;obtain⟨y,hE,hy,Rq⟩:=he pU (hwD i CO);refine⟨cs',y,aV,A2.of λj v hj=>?_,hE,hy,Rq⟩;have S7:j<prog.cellsOf e:=by have:=(Ajn.1 hj).1;omega
    have h1:=G j S7;rw[hj,Cv,Cv]at h1;exact VX h1)
   exact⟨xs,⟨some ⟨b,o,none⟩,len,cap,rfl,hl,hr⟩,hI,by simp only at hz uS ⊢;omega⟩
theorem Su {H:Type}{l:List (DataW H)}{d:DataW H}(h:Rows.uptoBulk (DataW.agg l)<=1048576)(hd:d∈l):Rows.uptoBulk d<=1048576:=by
 have:=T1 hd;simp only[Rows.uptoBulk]at h;omega
theorem AFy {α:Type}:∀l:List α,(l.map λ_=>1).sum=l.length:=λl=>by induction l with
 | nil=>rfl
 | cons a l G=>simp;omega
theorem II.len {α:Type}{t e:TypeId}{s:Nat}{E:Hp->List Value->α->Prop}{I:α->Prop}(ht:prog.underlying t=some (.slice e))(hs:prog.cellsOf e=s)(G:0<s)(he:II e E I (λ_=>1)):
  II t (ESc s E) (λxs=>(∀x∈xs,I x)/\xs.length<=1048576) (λ_=>1):=λh hw=>by
 obtain⟨xs,h1,h2,h3⟩:=II.slice ht hs G he h hw;dsimp only at h3;rw[AFy]at h3;exact⟨xs,h1,⟨h2,by omega⟩,H3 _⟩
theorem Du {t:TypeId}(h:prog.cellsOf t=1){c:Value}{l:List Value}:(c::l).take (prog.cellsOf t)=[c]:=by rw[h];rfl
set_option maxRecDepth 100000
set_option linter.unusedSimpArgs false
theorem AMG:II 111 DX (λp=>0<=p.2/\p.2<18446744073709551616) (λ_=>1):=by
 intro H enc w base sp held fuel cs x h hw;obtain⟨xs,n,_,rfl,G,sk,hg⟩:=DataW.trod_struct underlying111 h;rw[show prog.cellsOf 111=2 by kernel_rfl]at G
 match cs,G,xs,sk with
 | [c0,c1],_,[y0,y1],_=>
  have h0:=hg 0 _ rfl;have h1:=hg 1 _ rfl;simp only[show prog.cellsOf 2=1 by kernel_rfl,show prog.cellsOf 27=1 by kernel_rfl,List.drop,List.take,AkO,AkU]at h0 h1;obtain⟨a,e0,_,_⟩:=DataW.trod_int underlying2 h0;obtain⟨b,e1,_,wb⟩:=DataW.trod_int underlying27 h1;cases e0;cases e1;refine⟨(a,b),rfl,?_,H3 _⟩;simp[Lit.wf,IntKind.min,IntKind.max,IntKind.signed,IntKind.bits]at wb;exact⟨wb.1,by omega⟩
theorem AMH:II 144 Cg (λ_=>True) (λ_=>1):=by
 intro H enc w base sp held fuel cs x h hw;obtain⟨xs,n,_,rfl,G,sk,hg⟩:=DataW.trod_struct underlying144 h;rw[show prog.cellsOf 144=2 by kernel_rfl]at G
 match cs,G,xs,sk with
 | [c0,c1],_,[y0,y1],_=>
  have h0:=hg 0 _ rfl;have h1:=hg 1 _ rfl;simp only[show prog.cellsOf 9=1 by kernel_rfl,List.drop,List.take,AkO,AkU]at h0 h1;obtain⟨a,e0,_⟩:=DataW.trod_string underlying9 h0;obtain⟨b,e1,_⟩:=DataW.trod_string underlying9 h1;cases e0;cases e1;exact⟨(a,b),rfl,trivial,H3 _⟩
def AFz {α:Type}(I:α->Prop)(xs:List α):Prop:=(∀x∈xs,I x)/\xs.length<=1048576
theorem AMI:II 95 (ESc 2 Cg) (AFz λ_=>True) (λ_=>1):=II.len (s:=2) underlying95 (by kernel_rfl) (by decide) AMH
theorem AMJ:II 96 (ESc 2 DX) (AFz λp=>0<=p.2/\p.2<18446744073709551616) (λ_=>1):=II.len (s:=2) underlying96 (by kernel_rfl) (by decide) AMG
theorem AMK:II 98 BX (λs=>s.ls.length<=1048576/\s.ps.length<=1048576/\∀p∈s.ps,0<=p.2/\p.2<18446744073709551616) (λ_=>1):=by
 intro H enc w base sp held fuel cs x h hw;obtain⟨xs,n,_,rfl,G,sk,hg⟩:=DataW.trod_struct underlying98 h;rw[show prog.cellsOf 98=2 by kernel_rfl]at G
 match cs,G,xs,sk with
 | [c0,c1],_,[y0,y1],_=>
  have h0:=hg 0 _ rfl;have h1:=hg 1 _ rfl;simp only[show prog.cellsOf 95=1 by kernel_rfl,show prog.cellsOf 96=1 by kernel_rfl,List.drop,List.take,AkO,AkU]at h0 h1;obtain⟨ls,⟨p,k,c,e0,hc0,r0⟩,⟨_,l0⟩,_⟩:=AMI h0 (Su hw (by simp));obtain⟨ps,⟨q,m,d,e1,hc1,r1⟩,⟨i1,l1⟩,_⟩:=AMJ h1 (Su hw (by simp));cases e0;cases e1;exact⟨⟨ls,ps⟩,⟨p,k,c,q,m,d,rfl,r0,r1,hc1⟩,⟨l0,l1,i1⟩,H3 _⟩
section
variable {H:Type}{enc:TypeId×Value->H}{W:World}{base:Nat}{v v':Value}{d d':DataW H}{ps ps':List MemPlace}{r:Reach}
end
theorem AML {f:FuncId}{fn:Func}{s:ChangeSpec}{H:Type}{enc:TypeId×Value->H}{W:World}{args:Array Value}{ds gs:List (DataW H)}{G:List MemPlace}(hr:(fn.params.toList.all λt=>prog.readableRec t&&Nat.blt t prog.types.size)=true)
  (hrt:fn.resultTypes=#[4]) (hv:s.vars=[]) (Vu:(s.fn H (ds++gs)).results=[.lit (.bool true)]/\(s.fn H (ds++gs)).args=ds/\(s.fn H (ds++gs)).vars=[])
  (hW:DataW.Whole enc prog fn.params.toList s.vars false W args.toList ds gs G) (h:Lawful prog f args W) :
  Calls prog f args W λe W'=>∃v,e=.returned v/\s.post enc prog fn false true false false W args v W':=
 h.calls.mono λe W' ⟨he,hb⟩=>⟨_,he,yq laidOut hr hrt underlying4 hv Vu hW hb⟩
end TwW.Rw
end
