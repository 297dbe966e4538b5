/-
  Part 5 of the proof that the law QuerierSemUptoCardSaid of the given program answers true for every input of the given statement; the input reads behind the call as it did. (The texts: packed from 17 texts. Names are shortened by the packing program, for the bound on size.)
-/
import Derived.Test.YtdlkodiemlmmiaaGreatDoorA4
import Derived.Test.YtdlkodiemlmmiaaGreatDoorCards
import Derived.Test.YtdlkodiemlmmiaaGreatDoorTie
import Derived.WalkKit
import Derived.OpenShut
import Derived.Deep.DeepHandedRow
import Derived.Stop.LaidErr
import Derived.Shelf.Vars
set_option linter.all false
section
namespace TwW
open Go Tw Go.RowKit Go.Proofs.Tryz
theorem pH:∀w,(zeroValue 109).run prog w=.ok (.agg #[.N,.U 0]) w:=λw=>by
 have h:prog.info? 109=some t109:=by kernel_rfl
 simp[zeroValue,typeInfo,h];rfl
def E0 (Z0:Hp)(v:Value)(x:El):Prop:=∃p n c,v=.agg #[.slice p n c,.U x.v]/\Gy Z0 p n x.ls
theorem dE {α:Type}{f:α->Bool}{xs:List α}{k:Nat}{x:α}(G:xs[k]?=some x):(xs.take (k+1)).filter f=(xs.take k).filter f++if f x then[x] else[]:=by
 rw[AR G,Ajy];by_cases h:f x=true<;>simp[h]
section
variable {Z2 Z' Z0:Hp}{R:Rr}
theorem Ext.put {m:Nat}{o:Obj}(hx:Ext Z0 Z2)(hm:Z0 m=none):Ext Z0 (Z2.set m o):=λk u G=>by rw[Hp.AB (λe=>by rw[e,hm]at G;cases G)];exact hx _ _ G
theorem Lr {n:Nd}{p q pv:Option Addr}{k c m d nv cv:Nat}{vec:List El}(hs:Fj 1 Z2 q m (n.names.map .string))(hr:Af 2 DH Z2 pv nv vec)(ia:∀e∈vec,BM e.ls)
  (h:∀G Z',MS (E0 Z2) Z' G (fM n vec)->Ext Z2 Z'->R (.T #[.map (some G),.bool (vN n vec)]) Z'):Spec prog 216 #[QR n p k c q m d,.slice pv nv cv] Z2 R:=by
 have hl:vec.length=nv:=hr.1;refine Iq.start λ_=>Cy λG hmb=>⟨G,rfl,?_⟩
 let st:List (ByteArray×El)->El->List (ByteArray×El):=λm x=>fK m (JQ (S1 n x.ls)) x
 have hk:fM n vec=vec.foldl st []:=rfl
 suffices H:∀g i:Nat,∀Z',nv-i=g->i<=nv->MS (E0 Z2) Z' G ((vec.take i).foldl st [])->Ext Z2 Z'->Iq.A0 R pv nv cv n.kind n.op n.text p k c n.width n.back n.GH q m d n.bool n.parts (some G) pv nv cv nv i Z' from H nv 0 _ rfl (AjB _) MS.fresh (.set hmb)
 intro g
 induction g with
 | zero=>
  intro i Z' hg hi hM hx;rw[Ai4 (by omega)]at hM;refine Iq.AX ⟨λAx=>by omega,λ_=>⟨_,hM.len,?_⟩⟩;have:=h G Z' hM hx;unfold vN at this;rw[hk,hl]at this;rw[show decide ((((vec.foldl st []).length:Nat):Int)=(nv:Int))=decide ((vec.foldl st []).length=nv) from Aj2.2 (by omega)];exact this
 | succ g ih=>
  intro i Z' hg hi hM hx;have CF:i<nv:=by omega
  obtain⟨y,hy⟩:=hr.ex CF;obtain⟨b1,o1,q1,m1,d1,rfl,Sx,D7⟩:=DH.at hr hy;have MU:=ia y (Ai6 hy);refine Iq.AX ⟨λ_=>⟨b1,o1,rfl,by omega,q1,m1,d1,y.v,by simpa using Sx.mono hx,λ_=>Vg (D7.mono CW.mono hx) (MU.rd D7) (hs.mono hx) λp' n' c' Z22 G0 Aw=>⟨_,_,_,rfl,Ia (G0.mono CW.mono (Ext.CX _ _)) MU.S1 λZ3 B0=>⟨_,rfl,?_⟩⟩⟩,λhh=>by omega⟩;refine(hM.mono (Aw.trans B0)).put (x:=y) ⟨q1,m1,d1,rfl,D7⟩ λo hM'=>⟨AO CF hr.big,ih (i+1) _ (by omega) (by omega) ?_ (Ext.put (hx.trans (Aw.trans B0)) hmb)⟩;rw[AR hy,Akd];exact hM'
theorem vv {n:Nd}{p q a px py:Option Addr}{k c m d nx cx ny cy:Nat}{x y:List El}(hs:Fj 1 Z2 q m (n.names.map .string))(fZ:Af 2 DH Z2 px nx x)(hry:Af 2 DH Z2 py ny y)(hsx:∀e∈x,BM e.ls)(sJ:∀e∈y,BM e.ls)(hlen:x.length+y.length<=1000000000000)
  (h:Kf R Z2 ((HQ FF (Xt n x y)).map λl=>⟨2,0,l,[]⟩)):Spec prog 172 #[.pointer a,QR n p k c q m d,.slice px nx cx,.slice py ny cy] Z2 R:=by
 have au:x.length=nx:=fZ.1;have gq:y.length=ny:=hry.1;refine Ap.start λ_ _=>Lr hs fZ hsx λmx Z1 hM1 BS=>⟨_,_,rfl,Lr (hs.mono BS) (hry.mono DH.mono BS) sJ λmy Z22 hM2 Aw=>⟨_,_,rfl,?_⟩⟩;have hX:=BS.trans Aw;have hMx:=hM1.mono Aw
 replace h:=h.vk hX
 let f1:El->Bool:=λe=>decide (n.op=12)||((cd n y (S1 n e.ls)).isSome==decide (n.op=11))
 let f2:El->Bool:=λe=>(cd n x (S1 n e.ls)).isNone&&decide (n.op=12)
 have hf:Xt n x y=x.filter f1++y.filter f2:=rfl;rw[hf]at h;have second:∀g i:Nat,∀p8 n8 c8 Z',ny-i=g->i<=ny->AN 2 DH Z22 Z' p8 n8 c8 (x.filter f1++(y.take i).filter f2)->Ap.TQ R n.kind n.op n.text p k c n.width n.back n.GH q m d n.bool n.parts 0 0 none 0 0 none 0 0 (some mx) p8 n8 c8 py ny cy ny i Z':=by
  intro g
  induction g with
  | zero=>
   intro i p8 n8 c8 Z' hg hi G;rw[Ai4 (by omega)]at G;have QT:=G.1.1;rw[Ai5]at QT;have h9:=Ajb f1 x;have MK:=Ajb f2 y;exact Ap.Va ⟨λAx=>by omega,λ_=>F2 G (by omega) h.ay⟩
  | succ g ih=>
   intro i p8 n8 c8 Z' hg hi G;have CF:i<ny:=by omega
   obtain⟨z,hz⟩:=hry.ex CF;obtain⟨b1,o1,q1,m1,d1,rfl,Sx,D7⟩:=DH.at hry hz;have MU:=sJ z (Ai6 hz);have QT:=G.1.1;rw[Ai5]at QT;have h9:=Ajb f1 x;have MK:=Ajb f2 (y.take i);rw[AjJ]at MK;have next:∀p9 n9 c9 Z3,AN 2 DH Z22 Z3 p9 n9 c9 (x.filter f1++(y.take i).filter f2++if f2 z then[z] else[])->Ap.R8 R n.kind n.op n.text p k c n.width n.back n.GH q m d n.bool n.parts 0 0 none 0 0 none 0 0 (some mx) p9 n9 c9 (aD b1 o1) ny cy ny i Z3:=λp9 n9 c9 Z3 Dh=>
    Ap.fC ⟨AO CF hry.big,ih (i+1) _ _ _ _ (by omega) (by omega) (by rw[dE hz,<-AjT];exact Dh)⟩
   have Xr:=hX.trans G.up;refine Ap.Va ⟨λ_=>⟨b1,o1,rfl,by omega,q1,m1,d1,z.v,by simpa using Sx.mono Xr,λ_=>Vg (D7.mono CW.mono Xr) (MU.rd D7) (hs.mono Xr) λp' n' c' Z3 Uf B0=>⟨_,_,_,rfl,Ia (Uf.mono CW.mono (Ext.CX _ _)) MU.S1 λZ4 KB=>⟨_,rfl,?_⟩⟩⟩,λhh=>by omega⟩;have Iy:=G.mono DH.mono (B0.trans KB);refine MS.ABR (hMx.mono (G.up.trans (B0.trans KB))) pH (λG6=>⟨_,_,_,_,_,rfl,λ_=>⟨λ_=>⟨λTZ=>λb91 AaJ=>?_,λTZ=>next _ _ _ _ ?_⟩,λhh=>(by cases hh)⟩⟩) λv e he hE=>?_
   .refine AN.el Iy (D7.mono CW.mono (hX.trans Iy.2)) (by omega) (λp9 c9 Z5 SO _=>⟨_,_,_,rfl,next _ _ _ _ ?_⟩) AaJ;have:f2 z=true:=by
     show((FQ (fM n x) (JQ (S1 n z.ls))).isNone&&decide (n.op=12))=true
     rw[G6,AjC TZ];rfl
    rw[this];exact SO
   .have:f2 z=false:=by
     show((FQ (fM n x) (JQ (S1 n z.ls))).isNone&&decide (n.op=12))=false
     rw[AjE TZ,AkC]
    rw[this];simpa using Iy
   .obtain⟨p5,n5,c5,rfl,_⟩:=hE;refine⟨_,_,_,_,_,rfl,λ_=>⟨λhh=>(by cases hh),λ_=>next _ _ _ _ ?_⟩⟩;have:f2 z=false:=by
     show((FQ (fM n x) (JQ (S1 n z.ls))).isNone&&decide (n.op=12))=false
     rw[he];rfl
    rw[this];simpa using Iy
 suffices H:∀g i:Nat,∀p8 n8 c8 Z',nx-i=g->i<=nx->AN 2 DH Z22 Z' p8 n8 c8 ((x.take i).filter f1)->Ap.AEq R py ny cy n.kind n.op n.text p k c n.width n.back n.GH q m d n.bool n.parts 0 0 none 0 0 none 0 0 (some mx) (some my) p8 n8 c8 px nx cx nx i Z' from H nx 0 none 0 0 Z22 rfl (AjB _) (AN.nil (.refl _))
 intro g
 induction g with
 | zero=>
  intro i p8 n8 c8 Z' hg hi G;rw[Ai4 (by omega)]at G;exact Ap.sB ⟨λAx=>by omega,λ_=>second ny 0 p8 n8 c8 Z' rfl (AjB _) (by simpa using G)⟩
 | succ g ih=>
  intro i p8 n8 c8 Z' hg hi G;have CF:i<nx:=by omega
  obtain⟨z,hz⟩:=fZ.ex CF;obtain⟨b1,o1,q1,m1,d1,rfl,Sx,D7⟩:=DH.at fZ hz;have MU:=hsx z (Ai6 hz);have QT:=G.1.1;have h9:=Ajb f1 (x.take i);rw[AjJ]at h9;have next:∀p9 n9 c9 Z3,AN 2 DH Z22 Z3 p9 n9 c9 ((x.take i).filter f1++if f1 z then[z] else[])->Ap.SI R py ny cy n.kind n.op n.text p k c n.width n.back n.GH q m d n.bool n.parts 0 0 none 0 0 none 0 0 (some mx) (some my) p9 n9 c9 (aD b1 o1) nx cx nx i Z3:=λp9 n9 c9 Z3 Dh=>
   Ap.fE ⟨AO CF fZ.big,ih (i+1) _ _ _ _ (by omega) (by omega) (by rw[dE hz];exact Dh)⟩
  have Xr:=hX.trans G.up;refine Ap.sB ⟨λ_=>⟨b1,o1,rfl,by omega,q1,m1,d1,z.v,by simpa using Sx.mono Xr,λ_=>Vg (D7.mono CW.mono Xr) (MU.rd D7) (hs.mono Xr) λp' n' c' Z3 Uf B0=>⟨_,_,_,rfl,Ia (Uf.mono CW.mono (Ext.CX _ _)) MU.S1 λZ4 KB=>⟨_,rfl,?_⟩⟩⟩,λhh=>by omega⟩;have Iy:=G.mono DH.mono (B0.trans KB);have app:f1 z=true->∀vG,Z4 vG=none->AI prog (Builtin.append_ #[105,105] 105 #[.slice p8 n8 c8,(.slice (aD vG 0) 1 1)]) (Hp.set Z4 vG (.cells #[.slice q1 m1 d1,.U z.v] 109 (0,0))) (CS λp64 zb c64 Am=>Ap.SI R py ny cy n.kind n.op n.text p k c n.width n.back n.GH q m d n.bool n.parts 0 0 none 0 0 none 0 0 (some mx) (some my) p64 zb c64 (aD b1 o1) nx cx nx i Am):=λht vG AaK=>by
   refine AN.el Iy (D7.mono CW.mono (hX.trans Iy.2)) (by omega) (λp9 c9 Z5 SO _=>⟨_,_,_,rfl,next _ _ _ _ ?_⟩) AaK;rw[ht];exact SO
  have skip:f1 z=false->Ap.SI R py ny cy n.kind n.op n.text p k c n.width n.back n.GH q m d n.bool n.parts 0 0 none 0 0 none 0 0 (some mx) (some my) p8 n8 c8 (aD b1 o1) nx cx nx i Z4:=λht=>next _ _ _ _ (by rw[ht];simpa using Iy)
  have e1:f1 z=(decide (n.op=12)||((FQ (fM n y) (JQ (S1 n z.ls))).isSome==decide (n.op=11))):=rfl;refine MS.ABR ((hM2.imp λv x hE=>hE).mono (G.up.trans (B0.trans KB))) pH (λG6=>⟨_,_,_,_,_,rfl,λ_=>⟨λTZ=>app ?_,λTZ=>⟨λhh=>(by cases hh),λ_=>⟨λh11=>skip ?_,λh11=>app ?_⟩⟩⟩⟩) λv e he hE=>?_
  .rw[e1,AjC TZ];rfl
  .rw[e1,AjE TZ,G6,AjC h11];rfl
  .rw[e1,AjE TZ,G6,AjE h11];rfl
  .obtain⟨p5,n5,c5,rfl,_⟩:=hE;refine⟨_,_,_,_,_,rfl,λ_=>⟨λTZ=>app ?_,λTZ=>⟨λ_=>⟨λh11=>app ?_,λh11=>skip ?_⟩,λhh=>(by cases hh)⟩⟩⟩
   .rw[e1,AjC TZ];rfl
   .rw[e1,AjE TZ,he,AjC h11];rfl
   .rw[e1,AjE TZ,he,AjE h11];rfl
end
section
variable {Z2 Z' Z0:Hp}{R:Rr}
theorem YS {n:Nd}{p q a px:Option Addr}{k c m d nx cx f:Nat}{cap:Array Value}{x:List El}{g:Int->Int×Bool}(fZ:Af 2 DH Z2 px nx x)(hsx:∀e∈x,BM e.ls)(hlen:x.length<=1000000000000)(KG:Enters prog f)
  (hC:∀(Z22:Hp) (v:Int) (R':Rr),Ext Z2 Z22->R' (.T #[.U (g v).1,.bool (g v).2]) Z22->Spec prog f (#[]++#[.U v]++cap) Z22 R')
  (h:Kf R Z2 ((HQ FF (kE n x g)).map λl=>⟨2,0,l,[]⟩)):Spec prog 169 #[.pointer a,QR n p k c q m d,.slice px nx cx,.func (.func f) #[] cap] Z2 R:=by
 have au:x.length=nx:=fZ.1
 let f1:El->Option El:=λx=>if Hm n.op=false\/n.bool=true then some ⟨FR x.ls,(g x.v).1⟩ else if(g x.v).2 then some x else none
 have hf:kE n x g=x.filterMap f1:=rfl;rw[hf]at h;refine Bd.start λ_ _=>?_
 suffices H:∀gg i:Nat,∀p8 n8 c8 Z',nx-i=gg->i<=nx->AN 2 DH Z2 Z' p8 n8 c8 ((x.take i).filterMap f1)->Bd.A0 R (.func (.func f) #[] cap) n.kind n.op n.text p k c n.width n.back n.GH q m d n.bool n.parts 0 0 none 0 0 none 0 0 p8 n8 c8 px nx cx nx i Z' from H nx 0 none 0 0 Z2 rfl (AjB _) (AN.nil (.refl _))
 intro gg
 induction gg with
 | zero=>
  intro i p8 n8 c8 Z' hg hi G;rw[Ai4 (by omega)]at G;have QT:=G.1.1;have h9:=Ajh f1 x;exact Bd.AX ⟨λAx=>by omega,λ_=>F2 G (by omega) h.ay⟩
 | succ gg ih=>
  intro i p8 n8 c8 Z' hg hi G;have CF:i<nx:=by omega
  obtain⟨z,hz⟩:=fZ.ex CF;obtain⟨b1,o1,q1,m1,d1,rfl,Sx,D7⟩:=DH.at fZ hz;have MU:=hsx z (Ai6 hz);have QT:=G.1.1;have h9:=Ajh f1 (x.take i);rw[AjJ]at h9;have next:∀tb p9 n9 c9 Z3,tb=n.bool->AN 2 DH Z2 Z3 p9 n9 c9 ((x.take i).filterMap f1++(f1 z).toList)->Bd.Fg R (.func (.func f) #[] cap) n.kind n.op n.text p k c n.width n.back n.GH q m d tb n.parts 0 0 none 0 0 none 0 0 p9 n9 c9 (aD b1 o1) nx cx nx i Z3:=λtb p9 n9 c9 Z3 htb Dh=>by
   subst htb;exact Bd.FY ⟨AO CF fZ.big,ih (i+1) _ _ _ _ (by omega) (by omega) (by rw[Ib hz];exact Dh)⟩
  have e1:f1 z=if Hm n.op=false\/n.bool=true then some ⟨FR z.ls,(g z.v).1⟩ else if(g z.v).2 then some z else none:=rfl
  refine Bd.AX ⟨λ_=>⟨b1,o1,rfl,by omega,q1,m1,d1,z.v,by simpa using Sx.mono G.up,λ_=>⟨f,#[],cap,rfl,KG,hC Z' z.v _ G.up ⟨_,_,rfl,D5 ⟨_,rfl,?_⟩⟩⟩⟩,λhh=>by omega⟩;have bare:(Hm n.op=false\/n.bool=true)->∀tb,tb=n.bool->Spec prog 158 #[.slice q1 m1 d1] Z' (Ab R (CS λp40 n40 c40 AK=>Al AK λrv=>AI prog (Builtin.append_ #[105,105] 105 #[.slice p8 n8 c8,(.slice (aD rv 0) 1 1)]) (Hp.set AK rv (.cells #[.slice p40 n40 c40,.U (g z.v).1] 109 (0,0))) (CS λnz n44 yk Am=>Bd.Fg R (.func (.func f) #[] cap) n.kind n.op n.text p k c n.width n.back n.GH q m d tb n.parts 0 0 none 0 0 none 0 0 nz n44 yk (aD b1 o1) nx cx nx i Am))):=λhc tb htb=>
   HU (D7.mono CW.mono G.up) (MU.rd D7) λp' n' c' Z3 Uf B0=>⟨_,_,_,rfl,λrv ALT=>AN.el (G.mono DH.mono B0) (Uf.mono CW.mono (G.new B0)) (by omega) (λp9 c9 Z5 SO _=>⟨_,_,_,rfl,next _ _ _ _ _ htb (by rw[e1,Aiy hc];exact SO)⟩) ALT⟩
  refine⟨λhcf=>bare (.inl hcf) _ rfl,λhct=>⟨λhb=>bare (.inr hb) _ hb.symm,λhb=>⟨λmM=>λcU ABg=>?_,λmM=>next _ _ _ _ _ hb.symm ?_⟩⟩⟩
  .refine AN.el G (D7.mono CW.mono G.2) (by omega) (λp9 c9 Z5 SO _=>⟨_,_,_,rfl,next _ _ _ _ _ hb.symm ?_⟩) ABg;rw[e1,Aiw (by rw[hct,hb];simp),Aiy mM];exact SO
  .rw[e1,Aiw (by rw[hct,hb];simp),Aiw (by rw[mM];simp)];simpa using G
theorem fa {n:Nd}{p q a px py:Option Addr}{k c m d G cx ny cy:Nat}{x y:List El}(hs:Fj 1 Z2 q m (n.names.map .string))(fZ:Af 2 DH Z2 px G x)(hry:Af 2 DH Z2 py ny y)(hsx:∀e∈x,BM e.ls)(sJ:∀e∈y,BM e.ls)(hlen:x.length+y.length<=1000000000000)
  (h:Kf R Z2 (((cg FF n x y).bind (HQ FF)).map λl=>⟨2,0,l,[]⟩)):Spec prog 173 #[.pointer a,QR n p k c q m d,.slice px G cx,.slice py ny cy] Z2 R:=by
 have au:x.length=G:=fZ.1;have gq:y.length=ny:=hry.1
 let f1:El->Option El:=λe=>match cd n y (S1 n e.ls) with
  | none=>none
  | some o=>if Hm n.op=false\/n.bool=true then some ⟨S1 n e.ls,(FF.VI n.op e.v o.v).1⟩ else if(FF.VI n.op e.v o.v).2 then some e else none
 have hf:cg FF n x y=if vN n x&&vN n y then some (x.filterMap f1) else none:=rfl
 rw[hf]at h;refine BL.start λ_ _=>Lr hs fZ hsx λmx Z1 hM1 BS=>⟨_,_,rfl,Lr (hs.mono BS) (hry.mono DH.mono BS) sJ λmy Z22 hM2 Aw=>⟨_,_,rfl,λh1=>?_,λh1=>⟨λh2=>?_,λh2=>?_⟩⟩⟩
 .rw[h1]at h;exact h.no rfl _ (BS.trans Aw)
 .rw[h2,AkC]at h;exact h.no rfl _ (BS.trans Aw)
 rw[h1,h2]at h;have hX:=BS.trans Aw
 replace h:Kf R Z22 ((HQ FF (x.filterMap f1)).map λl=>⟨2,0,l,[]⟩):=h.vk hX
 suffices H:∀gg i:Nat,∀p8 n8 c8 Z',G-i=gg->i<=G->AN 2 DH Z22 Z' p8 n8 c8 ((x.take i).filterMap f1)->BL.RL R n.kind n.op n.text p k c n.width n.back n.GH q m d n.bool n.parts 0 0 none 0 0 none 0 0 (some my) p8 n8 c8 px G cx G i Z' from H G 0 none 0 0 Z22 rfl (AjB _) (AN.nil (.refl _))
 intro gg
 induction gg with
 | zero=>
  intro i p8 n8 c8 Z' hg hi ho;rw[Ai4 (by omega)]at ho;have QT:=ho.1.1;have h9:=Ajh f1 x;exact BL.La ⟨λAx=>by omega,λ_=>F2 ho (by omega) h.ay⟩
 | succ gg ih=>
  intro i p8 n8 c8 Z' hg hi ho;have CF:i<G:=by omega
  obtain⟨z,hz⟩:=fZ.ex CF;obtain⟨b1,o1,q1,m1,d1,rfl,Sx,D7⟩:=DH.at fZ hz;have MU:=hsx z (Ai6 hz);have QT:=ho.1.1;have h9:=Ajh f1 (x.take i);rw[AjJ]at h9;have next:∀tb p9 n9 c9 Z3,tb=n.bool->AN 2 DH Z22 Z3 p9 n9 c9 ((x.take i).filterMap f1++(f1 z).toList)->BL.R8 R n.kind n.op n.text p k c n.width n.back n.GH q m d tb n.parts 0 0 none 0 0 none 0 0 (some my) p9 n9 c9 (aD b1 o1) G cx G i Z3:=λtb p9 n9 c9 Z3 htb Dh=>by
   subst htb;exact BL.fC ⟨AO CF fZ.big,ih (i+1) _ _ _ _ (by omega) (by omega) (by rw[Ib hz];exact Dh)⟩
  have Xr:=hX.trans ho.up;refine BL.La ⟨λ_=>⟨b1,o1,rfl,by omega,q1,m1,d1,z.v,by simpa using Sx.mono Xr,λ_=>Vg (D7.mono CW.mono Xr) (MU.rd D7) (hs.mono Xr) λp' n' c' Z3 Uf B0=>⟨_,_,_,rfl,Ia (Uf.mono CW.mono (Ext.CX _ _)) MU.S1 λZ4 KB=>⟨_,rfl,?_⟩⟩⟩,λhh=>by omega⟩;have Iy:=ho.mono DH.mono (B0.trans KB);have hrk:Gy (Z4.del p8) p' n' (S1 n z.ls):=Uf.mono CW.mono ((Ext.Ha KB).trans (ho.new (B0.trans KB)));have e1:f1 z=match FQ (fM n y) (JQ (S1 n z.ls)) with
   | none=>none
   | some o=>if Hm n.op=false\/n.bool=true then some ⟨S1 n z.ls,(PH n.op z.v o.v).1⟩ else if(PH n.op z.v o.v).2 then some z else none:=rfl
  refine MS.ABR (hM2.mono (ho.up.trans (B0.trans KB))) pH (λG6=>⟨_,_,_,_,_,rfl,λ_=>⟨λ_=>next _ _ _ _ _ rfl ?_,λhh=>(by cases hh)⟩⟩) λv e he hE=>?_
  .rw[e1,G6];simpa using Iy
  obtain⟨p5,n5,c5,rfl,_⟩:=hE;rw[he]at e1;dsimp only at e1;refine⟨_,_,_,_,_,rfl,λ_=>⟨λhh=>(by cases hh),λ_=>Jl ⟨_,_,rfl,D5 ⟨_,rfl,?_⟩⟩⟩⟩;have bare:(Hm n.op=false\/n.bool=true)->∀tb,tb=n.bool->Al Z4 λb82=>AI prog (Builtin.append_ #[105,105] 105 #[.slice p8 n8 c8,(.slice (aD b82 0) 1 1)]) (Hp.set Z4 b82 (.cells #[.slice p' n' c',.U (PH n.op z.v e.v).1] 109 (0,0))) (CS λp83 n83 c83 Gu=>BL.R8 R n.kind n.op n.text p k c n.width n.back n.GH q m d tb n.parts 0 0 none 0 0 none 0 0 (some my) p83 n83 c83 (aD b1 o1) G cx G i Gu):=λhc tb htb=>
   λrv ALT=>AN.el Iy hrk (by omega) (λp9 c9 Z5 SO _=>⟨_,_,_,rfl,next _ _ _ _ _ htb (by rw[e1,Aiy hc];exact SO)⟩) ALT
  refine⟨λhcf=>bare (.inl hcf) _ rfl,λhct=>⟨λhb=>bare (.inr hb) _ hb.symm,λhb=>⟨λmM=>λcU ABg=>?_,λmM=>next _ _ _ _ _ hb.symm ?_⟩⟩⟩
  .refine AN.el Iy (D7.mono CW.mono (hX.trans Iy.2)) (by omega) (λp9 c9 Z5 SO _=>⟨_,_,_,rfl,next _ _ _ _ _ hb.symm ?_⟩) ABg;rw[e1,Aiw (by rw[hct,hb];simp),Aiy mM];exact SO
  .rw[e1,Aiw (by rw[hct,hb];simp),Aiw (by rw[mM];simp)];simpa using Iy
end
theorem AFV:∀w,(Go.sizeOf 164).run prog w=.ok 4 w:=λw=>by kernel_rfl
abbrev gx (x:Vv)(p:Option Addr)(n c:Nat)(q:Option Addr)(m d:Nat):Array Value:=#[.I x.kind,.U x.v,.slice p n c,.slice q m d]
abbrev ndC (n:Nd)(p:Option Addr)(k c:Nat)(q:Option Addr)(m d:Nat):Array Value:=#[.I n.kind,.I n.op,.string n.text,.slice p k c,.I n.width,.I n.back,.I n.GH,.slice q m d,.bool n.bool,.I n.parts]
section
variable {Z2 Z' Z0:Hp}{R:Rr}
theorem YT {b:Nat}{c:Array Value}{v0 v1 v2 v3:Value}{Φ:Unit->Hp->Prop}(hc:c.size=4)(hb:Z2 b=some (.cells c 164 (0,0)))(G:∀u∈[v0,v1,v2,v3],u.oneCell'=true)(hv:(Value.agg #[v0,v1,v2,v3]).cells=#[v0,v1,v2,v3])
  (h:Φ () (Z2.set b (.cells #[v0,v1,v2,v3] 164 (0,0)))):AI prog (Instr.storeAt 164 (.pointer (some ⟨b,0,none⟩)) (.agg #[v0,v1,v2,v3])) Z2 Φ:=by
 refine AI.store AFV hb (by rw[hv];rfl) (by omega) (by rw[hv];simpa using G) ?_;rw[hv,YE (by rw[hc];rfl)];exact h
theorem Az.EW {b:Nat}{c:List Value}{T:TypeId}(h:Z2 b=some (.cells c.toArray T (0,0))):Az Z2 b 0 c:=Az.of λj v G=>by
 rw[Ajz];exact AJ h (by simpa using G)
theorem ABh {n:Nd}{p q a l:Option Addr}{k c m d j e:Nat}{L:List Vv}{x y:Vv}(hs:Fj 1 Z2 q m (n.names.map .string))(hr:Af 4 RP Z2 l j L)(hx:L[0]?=some x)(hy:L[1]?=some y)(hVx:vr x)(hVy:vr y)(h:Kf R Z2 (AE1 FF n x y)):
  Spec prog 134 #[.pointer a,QR n p k c q m d,.slice l j e] Z2 R:=by
 have hj:1<j:=by have h1:L.length=j:=hr.1;have:=(Ai0.1 hy).1;omega
 obtain⟨b,o,px,nx,cx,qx,mx,dx,rfl,h1,h2,h3,h4,h5,h6⟩:=RP.at hr hx;obtain⟨_,_,py,ny,cy,qy,my,dy,he,g1,g2,g3,g4,g5,g6⟩:=RP.at hr hy;cases he;simp only[Akl,AkK,Nat.one_mul]at h1 h2 h3 h4 g1 g2 g3 g4;have au:=hVx.len;have gq:=hVy.len;have hsx:=λz hz=>(hVx.el z hz).1;have sJ:=λz hz=>(hVy.el z hz).1;refine ET.start λb4 hb4 _=>?_;have x4:=Ext.set (o:=.cells (ndC n p k c q m d) 127 (0,0)) hb4;have c4:=Hp.AA Z2 b4 (.cells (ndC n p k c q m d) 127 (0,0));generalize AgK:Z2.set b4 (.cells (ndC n p k c q m d) 127 (0,0))=Z4 at *;refine⟨b,o,rfl,by omega,x.kind,x.v,px,nx,cx,qx,mx,dx,⟨x4.ld h1,x4.ld h2,x4.ld h3,x4.ld h4,trivial⟩,by omega,y.kind,y.v,py,ny,cy,qy,my,dy,⟨x4.ld g1,x4.ld g2,x4.ld g3,x4.ld g4,trivial⟩,λG hb8 b9 hb9=>?_,λb9 hb9 G hb8=>?_⟩
 focus
  have n8:G≠b9:=λe=>by rw[e,Hp.AA]at hb9;cases hb9
  have n9:=(Hp.AM hb9).2;have nb:∀k o,Z4 k=some o->k≠G/\k≠b9:=λk o hk=>⟨λe=>(by rw[e,hb8]at hk;cases hk),λe=>(by rw[e,n9]at hk;cases hk)⟩;refine YT rfl (by rw[Hp.AB n8];exact Hp.AA _ _ _) (by simp[Value.oneCell']) rfl ?_;refine⟨λkb FB u hu=>?_,YT rfl (by rw[Hp.AB (AjI n8)];exact Hp.AA _ _ _) (by simp[Value.oneCell']) rfl ?_⟩
  .rw[Ai2]at FB;subst FB;have tn:∃u,Z4 kb=some u:=by
    have:=x4.ld h1;unfold Hp.ld at this;cases hq:Z4 kb with
    | none=>rw[hq]at this;cases this
    | some u=>exact⟨u,rfl⟩
   obtain⟨u',Bi⟩:=tn;rw[Hp.AB (nb _ _ Bi).1];exact hu
  have F8:((((Z4.set G (.cells #[.I 0,.U 0,.N,.N] 164 (0,0))).set b9 (.cells #[.I 0,.U 0,.N,.N] 164 (0,0))).set G (.cells (gx x px nx cx qx mx dx) 164 (0,0))).set b9 (.cells (gx y py ny cy qy my dy) 164 (0,0))) G=some (.cells (gx x px nx cx qx mx dx) 164 (0,0)):=by rw[Hp.AB n8,Hp.AA]
  have F9:=Hp.AA (((Z4.set G (.cells #[.I 0,.U 0,.N,.N] 164 (0,0))).set b9 (.cells #[.I 0,.U 0,.N,.N] 164 (0,0))).set G (.cells (gx x px nx cx qx mx dx) 164 (0,0))) b9 (.cells (gx y py ny cy qy my dy) 164 (0,0));have X2:Ext Z4 ((((Z4.set G (.cells #[.I 0,.U 0,.N,.N] 164 (0,0))).set b9 (.cells #[.I 0,.U 0,.N,.N] 164 (0,0))).set G (.cells (gx x px nx cx qx mx dx) 164 (0,0))).set b9 (.cells (gx y py ny cy qy my dy) 164 (0,0))):=λk o hk=>by
   obtain⟨a1,a2⟩:=nb k o hk;rw[Hp.AB a2,Hp.AB a1,Hp.AB a2,Hp.AB a1];exact hk
  generalize ((((Z4.set G (.cells #[.I 0,.U 0,.N,.N] 164 (0,0))).set b9 (.cells #[.I 0,.U 0,.N,.N] 164 (0,0))).set G (.cells (gx x px nx cx qx mx dx) 164 (0,0))).set b9 (.cells (gx y py ny cy qy my dy) 164 (0,0)))=y2 at *
 rotate_left
 focus
  have n8:b9≠G:=λe=>by rw[e,Hp.AA]at hb8;cases hb8
  have n9:=(Hp.AM hb8).2;have nb:∀k o,Z4 k=some o->k≠G/\k≠b9:=λk o hk=>⟨λe=>(by rw[e,n9]at hk;cases hk),λe=>(by rw[e,hb9]at hk;cases hk)⟩;refine YT rfl (Hp.AA _ _ _) (by simp[Value.oneCell']) rfl ?_;refine⟨λkb FB u hu=>?_,YT rfl (by rw[Hp.AB n8,Hp.AB n8];exact Hp.AA _ _ _) (by simp[Value.oneCell']) rfl ?_⟩
  .rw[Ai2]at FB;subst FB;have tn:∃u,Z4 kb=some u:=by
    have:=x4.ld h1;unfold Hp.ld at this;cases hq:Z4 kb with
    | none=>rw[hq]at this;cases this
    | some u=>exact⟨u,rfl⟩
   obtain⟨u',Bi⟩:=tn;rw[Hp.AB (nb _ _ Bi).1];exact hu
  have F8:((((Z4.set b9 (.cells #[.I 0,.U 0,.N,.N] 164 (0,0))).set G (.cells #[.I 0,.U 0,.N,.N] 164 (0,0))).set G (.cells (gx x px nx cx qx mx dx) 164 (0,0))).set b9 (.cells (gx y py ny cy qy my dy) 164 (0,0))) G=some (.cells (gx x px nx cx qx mx dx) 164 (0,0)):=by rw[Hp.AB (AjI n8),Hp.AA]
  have F9:=Hp.AA (((Z4.set b9 (.cells #[.I 0,.U 0,.N,.N] 164 (0,0))).set G (.cells #[.I 0,.U 0,.N,.N] 164 (0,0))).set G (.cells (gx x px nx cx qx mx dx) 164 (0,0))) b9 (.cells (gx y py ny cy qy my dy) 164 (0,0));have X2:Ext Z4 ((((Z4.set b9 (.cells #[.I 0,.U 0,.N,.N] 164 (0,0))).set G (.cells #[.I 0,.U 0,.N,.N] 164 (0,0))).set G (.cells (gx x px nx cx qx mx dx) 164 (0,0))).set b9 (.cells (gx y py ny cy qy my dy) 164 (0,0))):=λk o hk=>by
   obtain⟨a1,a2⟩:=nb k o hk;rw[Hp.AB a2,Hp.AB a1,Hp.AB a1,Hp.AB a2];exact hk
  generalize ((((Z4.set b9 (.cells #[.I 0,.U 0,.N,.N] 164 (0,0))).set G (.cells #[.I 0,.U 0,.N,.N] 164 (0,0))).set G (.cells (gx x px nx cx qx mx dx) 164 (0,0))).set b9 (.cells (gx y py ny cy qy my dy) 164 (0,0)))=y2 at *
 all_goals
  have F4:=X2 _ _ c4;have X:=x4.trans X2;have F4':=Az.EW (c:=[.I n.kind,.I n.op,.string n.text,.slice p k c,.I n.width,.I n.back,.I n.GH,.slice q m d,.bool n.bool,.I n.parts]) F4;have hn:=h.vk X;unfold AE1 at hn;refine⟨x.kind,AJ F8 rfl,λmO=>⟨y.kind,AJ F9 rfl,λhk2=>?_,λhk2=>?_⟩,λmO=>?_⟩
  .rw[Aiy ⟨mO,hk2⟩]at hn;exact⟨_,_,_,_,_,_,_,_,_,_,_,_,_,_,F4',x.v,AJ F8 rfl,y.v,AJ F9 rfl,Jl ⟨_,_,rfl,hn.ok _ y2 none 0 0 none 0 0 rfl (.refl _) Af.nil Af.nil (Ai7 _) (Ai7 _)⟩⟩
  .rw[Aiw (λhh=>hk2 hh.2),Aiy mO]at hn;refine⟨x.kind,AJ F8 rfl,λ_=>⟨_,_,_,_,_,_,_,_,_,_,_,_,_,_,F4',py,ny,cy,AJ F9 rfl,YS (g:=λv=>PH n.op x.v v) (g5.mono DH.mono X) sJ (by omega) Eb.en (λZ22 v R' Aw Mf=>?_) hn.ay⟩,λhh=>absurd mO hh⟩;exact Eb.start ⟨_,_,_,_,_,_,_,_,_,_,_,_,_,_,F4'.mono Aw,x.v,AJ (Aw _ _ F8) rfl,Jl ⟨_,_,rfl,Mf⟩⟩
  .rw[Aiw (λhh=>mO hh.1),Aiw mO]at hn;refine⟨x.kind,AJ F8 rfl,λhh=>absurd hh mO,λ_=>⟨y.kind,AJ F9 rfl,λhk2=>?_,λhk2=>⟨n.op,AJ F4 rfl,Uc ⟨_,rfl,λB9=>?_,λB9=>?_⟩⟩⟩⟩
   .rw[Aiy hk2]at hn;refine⟨_,_,_,_,_,_,_,_,_,_,_,_,_,_,F4',px,nx,cx,AJ F8 rfl,YS (g:=λv=>PH n.op v y.v) (h5.mono DH.mono X) hsx (by omega) Ef.en (λZ22 v R' Aw Mf=>?_) hn.ay⟩;exact Ef.start ⟨_,_,_,_,_,_,_,_,_,_,_,_,_,_,F4'.mono Aw,y.v,AJ (Aw _ _ F9) rfl,Jl ⟨_,_,rfl,Mf⟩⟩
   .rw[Aiw hk2,Aiy (AjA B9)]at hn;exact⟨_,_,_,_,_,_,_,_,_,_,_,_,_,_,F4',px,nx,cx,AJ F8 rfl,py,ny,cy,AJ F9 rfl,vv (hs.mono X) (h5.mono DH.mono X) (g5.mono DH.mono X) hsx sJ (by omega) hn.ay⟩
   .rw[Aiw hk2,Aiw (AjX B9)]at hn;exact⟨_,_,_,_,_,_,_,_,_,_,_,_,_,_,F4',px,nx,cx,AJ F8 rfl,py,ny,cy,AJ F9 rfl,fa (hs.mono X) (h5.mono DH.mono X) (g5.mono DH.mono X) hsx sJ (by omega) hn.ay⟩
end
structure GR where
 b:Nat
 lp:Option Addr
 ln:Nat
 lc:Nat
 vp:Option Addr
 vn:Nat
 vc:Nat
def GR.cl (r:GR):List Nat:=r.b::Vw r.vp
def GR.cell (r:GR):Obj:=.cells #[.slice r.lp r.ln r.lc,.slice r.vp r.vn r.vc] 234 (0,0)
def G8:List Rg->List GR->List (ByteArray×Nat)
 | g::gs,r::rs=>(JQ g.ls,r.b)::G8 gs rs
 | _,_=>[]
structure GS (O22 Z2:Hp)(m:Nat)(op:Option Addr)(on oc:Nat)(rs:List GR)(gs:List Rg):Prop where
 len:rs.length=gs.length
 map:MS (λv b=>v=.pointer (aD b 0)) Z2 m (G8 gs rs)
 ord:BH 1 Z2 op on oc (rs.map λr=>.pointer (aD r.b 0))
 box:∀(i:Nat) (r:GR) (g:Rg),rs[i]?=some r->gs[i]?=some g->Z2 r.b=some r.cell/\Gy O22 r.lp r.ln g.ls/\DS .u64 Z2 r.vp r.vn r.vc g.vs
 om:∀a,op=some a->a.block≠m/\O22 a.block=none
 dm:∀(i:Nat) (r:GR),rs[i]?=some r->∀k∈r.cl,k≠m/\(∀a,op=some a->k≠a.block)/\O22 k=none
 vb:∀(i:Nat) (r:GR),rs[i]?=some r->∀a,r.vp=some a->a.block≠r.b
 dr:∀(i j:Nat) (r r':GR),i≠j->rs[i]?=some r->rs[j]?=some r'->∀k∈r.cl,k ∉ r'.cl
 tm:O22 m=none
 ext:Ext O22 Z2
theorem ALV:∀w,(Go.sizeOf 60).run prog w=.ok 1 w:=λw=>by kernel_rfl
theorem AFW {p:Option Addr}{k:Nat}:k∈Vw p↔∃a,p=some a/\k=a.block:=by
 cases p with
 | none=>simp[Vw]
 | some a=>simp[Vw]
theorem Ls {r:GR}{k:Nat}:k∈r.cl↔k=r.b\/∃a,r.vp=some a/\k=a.block:=by
 unfold GR.cl;rw[Ai1,AFW]
theorem BH.of_eq {s:Nat}{Z2 Z':Hp}{p:Option Addr}{n c:Nat}{cs:List Value}(G:BH s Z2 p n c cs)(h:∀a,p=some a->Z' a.block=Z2 a.block):BH s Z' p n c cs:=
 ⟨G.1,G.2.1,G.2.2.imp id λ⟨b',o',arr,T,hp,hb,r⟩=>⟨b',o',arr,T,hp,by rw[h _ hp];exact hb,r⟩⟩
theorem dF:∀{gs:List Rg} {rs:List GR} {i:Nat} {g g':Rg} {r r':GR},gs[i]?=some g->rs[i]?=some r->g'.ls=g.ls->r'.b=r.b->G8 (gs.set i g') (rs.set i r')=G8 gs rs
 | [],_,i,_,_,_,_,G,_,_,_=>by simp at G
 | _::_,[],i,_,_,_,_,_,hr,_,_=>by simp at hr
 | a::gs,b::rs,0,g,g',r,r',G,hr,h1,h2=>by
  simp only[Ajj,Ai9]at G hr;subst G;subst hr;simp only[List.set_cons_zero,G8,h1,h2]
 | a::gs,b::rs,i+1,g,g',r,r',G,hr,h1,h2=>by
  simp only[AlG,G8];rw[dF (by simpa using G) (by simpa using hr) h1 h2]
theorem dG:∀{gs:List Rg} {rs:List GR} {g:Rg} {r:GR},rs.length=gs.length->G8 (gs++[g]) (rs++[r])=G8 gs rs++[(JQ g.ls,r.b)]
 | [],[],g,r,_=>rfl
 | [],_::_,g,r,h=>by simp at h
 | _::_,[],g,r,h=>by simp at h
 | a::gs,b::rs,g,r,h=>by
  simp only[Ajp,G8];rw[dG (by simpa using h)]
theorem YU:∀{gs:List Rg} {rs:List GR} {ls:List Lb} {v:Int} {b:Nat},rs.length=gs.length->FQ (G8 gs rs) (JQ ls)=some b->∃(i:Nat) (g:Rg) (r:GR),gs[i]?=some g/\rs[i]?=some r/\r.b=b/\QP ls v gs=gs.set i ⟨g.ls,g.vs++[v]⟩
 | [],_,ls,v,b,_,h=>by simp[G8,FQ]at h
 | _::_,[],ls,v,b,hl,h=>by simp at hl
 | g::gs,r::rs,ls,v,b,hl,h=>by
  unfold G8 FQ at h;by_cases G:JQ g.ls=JQ ls
  .rw[Aiy G]at h;exact⟨0,g,r,rfl,rfl,by simpa using h,by unfold QP;rw[Aiy G];rfl⟩
  .rw[Aiw G]at h;obtain⟨i,g',r',h1,h2,h3,h4⟩:=YU (v:=v) (by simpa using hl) h;exact⟨i+1,g',r',by simpa using h1,by simpa using h2,h3,by unfold QP;rw[Aiw G,h4];rfl⟩
theorem YV:∀{gs:List Rg} {rs:List GR} {ls:List Lb} {v:Int},rs.length=gs.length->FQ (G8 gs rs) (JQ ls)=none->QP ls v gs=gs++[⟨ls,[v]⟩]/\∀a∈G8 gs rs,a.1≠JQ ls
 | [],_,ls,v,_,h=>⟨rfl,λa G=>by simp[G8]at G⟩
 | _::_,[],ls,v,hl,h=>by simp at hl
 | g::gs,r::rs,ls,v,hl,h=>by
  unfold G8 FQ at h;by_cases hk:JQ g.ls=JQ ls
  .rw[Aiy hk]at h;cases h
  .rw[Aiw hk]at h;obtain⟨h1,h2⟩:=YV (v:=v) (by simpa using hl) h;refine⟨by unfold QP;rw[Aiw hk,h1];rfl,λa G=>?_⟩;unfold G8 at G;rcases Ai1.1 G with rfl|G
   .exact hk
   .exact h2 a G
section
variable {O22 Z2 Z' Z0:Hp}{R:Rr}{m on oc:Nat}{op:Option Addr}{rs:List GR}{gs:List Rg}
theorem GS.known (h:GS O22 Z2 m op on oc rs gs){i:Nat}{r:GR}(G:rs[i]?=some r):∀k∈r.cl,∃u,Z2 k=some u:=λk hk=>by
 have Ax:=(Ai0.1 G).1;obtain⟨g,hg⟩:∃g,gs[i]?=some g:=⟨_,Ai3 (by rw[<-h.len];exact Ax)⟩;obtain⟨h1,_,h3⟩:=h.box i r g G hg;rcases Ls.1 hk with rfl|⟨a,ha,rfl⟩
 .exact⟨_,h1⟩
 .have:=BH.block h3 a ha;cases hh:Z2 a.block with
  | none=>exact absurd hh this
  | some u=>exact⟨u,rfl⟩
theorem GS.grow (h:GS O22 Z2 m op on oc rs gs)(hx:Ext Z2 Z'):∃O'2,GS O'2 Z' m op on oc rs gs/\Ext O22 O'2/\Ext (Z2.new Z') O'2:=by
 have ht:Ext O22 (O22.or (Z2.new Z')):=Ext.DZ _ _;have kn:∀k,(∃u,Z2 k=some u)->O22 k=none->(O22.or (Z2.new Z')) k=none:=λk ⟨u,hu⟩ G=>by
  rw[Hp.EH G];cases hh:(Z2.new Z') k with
  | none=>rfl
  | some v=>rw[(Ae.1 hh).1]at hu;cases hu
 have ne:∀k,Z2 k≠none->∃u,Z2 k=some u:=λk G=>by
  cases hh:Z2 k with
  | none=>exact absurd hh G
  | some u=>exact⟨u,rfl⟩
 refine⟨O22.or (Z2.new Z'),⟨h.len,h.map.mono hx,h.ord.mono hx,λi r g hr hg=>?_,λa ha=>⟨(h.om a ha).1,kn _ (ne _ (h.ord.block a ha)) (h.om a ha).2⟩,λi r hr k G=>?_,h.vb,h.dr,kn _ (ne _ h.map.known) h.tm,?_⟩,ht,?_⟩
 .obtain⟨h1,h2,h3⟩:=h.box i r g hr hg;exact⟨hx _ _ h1,h2.mono CW.mono ht,h3.mono hx⟩
 .obtain⟨h1,h2,h3⟩:=h.dm i r hr k G;exact⟨h1,h2,kn k (h.known hr k G) h3⟩
 .exact Ext.j6 (h.ext.trans hx) (Ext.CX _ _)
 .refine Ext.EH λk G=>?_;cases hh:O22 k with
  | none=>rfl
  | some u=>
   have h1:=h.ext _ _ hh;cases h2:(Z2.new Z') k with
   | none=>exact absurd h2 G
   | some v=>rw[(Ae.1 h2).1]at h1;cases h1
theorem GS.push {i:Nat}{r:GR}{g:Rg}{v:Int}(h:GS O22 Z2 m op on oc rs gs)(hr:rs[i]?=some r)(hg:gs[i]?=some g)(hb:r.vn<=1000000000000){Φ:Hp->Prop}
  (hΦ:∀Z' r',GS O22 Z' m op on oc (rs.set i r') (gs.set i ⟨g.ls,g.vs++[v]⟩)->Φ Z') :
  Al Z2 λb69=>AI prog (Builtin.append_ #[60,60] 60 #[.slice r.vp r.vn r.vc,(.slice (aD b69 0) 1 1)]) (Hp.set Z2 b69 (.cells #[.U v] 27 (0,0))) (CS λp70 n70 c70 y=>AI prog (Instr.storeAt 60 (.pointer (aD r.b 1)) (.slice p70 n70 c70)) y (λ_ AE=>Φ AE)):=λb69 AaN=>by
 obtain⟨h1,h2,h3⟩:=h.box i r g hr hg;have hil:=(Ai0.1 hr).1;have hig:=(Ai0.1 hg).1;have x1:=Ext.set (o:=.cells #[.U v] 27 (0,0)) AaN;refine D9 (BH.mono x1 h3) (fJ (f:=.int .u64) (x:=v) (Hp.AA _ _ _)) FZ.Rm (by omega) λvp' vc' Z22 Bq Aw=>⟨_,_,_,rfl,?_⟩;have hvb:=h.vb i r hr;have keep:∀k u,Z2 k=some u->(∀a,r.vp=some a->k≠a.block)->Z22 k=some u/\∀a,vp'=some a->k≠a.block:=λk u hk Ad=>by
  obtain⟨a1,a2⟩:=Aq.1 (Aw k u (Aq.2 ⟨Ad,x1 _ _ hk⟩));exact⟨a2,a1⟩
 obtain⟨c1,c2⟩:=keep r.b _ h1 λa G e=>hvb a G e.symm;refine AI.store ALV c1 rfl (by simp) (by simp[Value.cells,Value.oneCell']) ?_
 let r':GR:=⟨r.b,r.lp,r.ln,r.lc,vp',r.vn+1,vc'⟩
 have bK:(Obj.cells (Ks #[.slice r.lp r.ln r.lc,.slice r.vp r.vn r.vc] 1 (Value.slice vp' (r.vn+1) vc').cells.toList) 234 (0,0))=r'.cell:=by simp[Ks,Value.cells,GR.cell,r']
 rw[bK];have T:∀k u,Z2 k=some u->k ∉ r.cl->(Z22.set r.b r'.cell) k=some u/\k ∉ r'.cl:=λk u hk qf=>by
  have HS:k≠r.b:=λe=>qf (Ls.2 (.inl e));obtain⟨a1,a2⟩:=keep k u hk λa G e=>qf (Ls.2 (.inr ⟨a,G,e⟩));exact⟨by rw[Hp.AB HS];exact a1,λhc=>by
   rcases Ls.1 hc with e|⟨a,G,e⟩
   .exact HS e
   .exact a2 a G e⟩
 have TK:∀k,(∃u,Z2 k=some u)->k ∉ r.cl->(Z22.set r.b r'.cell) k=Z2 k/\k ∉ r'.cl:=λk ⟨u,hu⟩ qf=>⟨by rw[(T k u hu qf).1,hu],(T k u hu qf).2⟩;have ne:∀k,Z2 k≠none->∃u,Z2 k=some u:=λk hk=>by
  cases hh:Z2 k with
  | none=>exact absurd hh hk
  | some u=>exact⟨u,rfl⟩
 have mk:=TK m (ne _ h.map.known) λhc=>(h.dm i r hr m hc).1 rfl;have ok:∀a,op=some a->(Z22.set r.b r'.cell) a.block=Z2 a.block/\a.block ∉ r'.cl:=λa G=>TK _ (ne _ (h.ord.block a G)) λhc=>(h.dm i r hr _ hc).2.1 a G rfl;have jk:∀j s,j≠i->rs[j]?=some s->∀k∈s.cl,(Z22.set r.b r'.cell) k=Z2 k/\k ∉ r'.cl:=λj s hj hs k hk=>TK k (h.known hs k hk) (h.dr j i s r hj hs hr k hk);have vw:∀j s,(rs.set i r')[j]?=some s->(j=i/\s=r')\/(j≠i/\rs[j]?=some s):=λj s hs=>by
  by_cases hj:j=i
  .subst hj;rw[Ak1 hil]at hs;exact .inl ⟨rfl,by simpa using hs.symm⟩
  .rw[Ale (AjI hj)]at hs;exact .inr ⟨hj,hs⟩
 refine hΦ _ r' ⟨by simp[h.len],?_,?_,λj s t hs ht=>?_,λa G=>h.om a G,λj s hs k hk=>?_,λj s hs a G=>?_,λj l s s' hjl hs Pb k hk=>?_,h.tm,λk u hk=>?_⟩
 .rw[dF (g':=⟨g.ls,g.vs++[v]⟩) (r':=r') hg hr rfl rfl];exact h.map.loc mk.1
 .have:(rs.set i r').map (λr=>Value.pointer (aD r.b 0))=rs.map λr=>Value.pointer (aD r.b 0):=by
   rw[Al5];obtain⟨_,e⟩:=Ai0.1 hr;have:Value.pointer (aD r'.b 0)=(rs.map λr=>Value.pointer (aD r.b 0))[i]'(by simpa using hil):=by simp[e,r']
   rw[this,AmD]
  rw[this];exact BH.of_eq h.ord λa G=>(ok a G).1
 .rcases vw j s hs with ⟨rfl,rfl⟩|⟨hj,Pb⟩
  .rw[Ak1 hig]at ht;cases ht;refine⟨Hp.AA _ _ _,h2,?_⟩;have:=BH.AB (b:=r.b) (o:=r'.cell) Bq (λa G e=>c2 a G e.symm);unfold DS;rw[AjP];exact this
  .rw[Ale (AjI hj)]at ht;obtain⟨a1,a2,a3⟩:=h.box j s t Pb ht;refine⟨?_,a2,BH.of_eq a3 λa G=>(jk j s hj Pb _ (Ls.2 (.inr ⟨a,G,rfl⟩))).1⟩;rw[(jk j s hj Pb _ (Ls.2 (.inl rfl))).1];exact a1
 .rcases vw j s hs with ⟨rfl,rfl⟩|⟨hj,Pb⟩
  .refine⟨λe=>mk.2 (e▸hk),λa G e=>(ok a G).2 (e▸hk),?_⟩;cases hq:O22 k with
   | none=>rfl
   | some u=>exact absurd hk (T k u (h.ext _ _ hq) λhc=>by rw[(h.dm j r hr k hc).2.2]at hq;cases hq).2
  .exact h.dm j s Pb k hk
 .rcases vw j s hs with ⟨rfl,rfl⟩|⟨hj,Pb⟩
  .exact λe=>c2 a G e.symm
  .exact h.vb j s Pb a G
 .rcases vw j s hs with ⟨rfl,rfl⟩|⟨hj,MU⟩
  .rcases vw l s' Pb with ⟨rfl,rfl⟩|⟨hl,hs2⟩
   .exact absurd rfl hjl
   .exact λhc=>(jk l s' hl hs2 k hc).2 hk
  .rcases vw l s' Pb with ⟨rfl,rfl⟩|⟨hl,hs2⟩
   .exact(jk j s hj MU k hk).2
   .exact h.dr j l s s' hjl MU hs2 k hk
 .exact(T k u (h.ext _ _ hk) λhc=>by rw[(h.dm i r hr k hc).2.2]at hk;cases hk).1
end
theorem AFX:∀w,(zeroValue 245).run prog w=.ok (.pointer none) w:=λw=>by
 have h:prog.info? 245=some t245:=by kernel_rfl
 simp[zeroValue,typeInfo,h];rfl
theorem AFY:∀w,(zeroValue 246).run prog w=.ok .nilFunc w:=λw=>by
 have h:prog.info? 246=some t246:=by kernel_rfl
 simp[zeroValue,typeInfo,h];rfl
section
variable {O22 Z2 Z' Z0:Hp}{R:Rr}{m on oc:Nat}{op:Option Addr}{rs:List GR}{gs:List Rg}
theorem GS.mono (h:GS O22 Z2 m op on oc rs gs)(G:Ext Z2 Z'):GS O22 Z' m op on oc rs gs:=
 ⟨h.len,h.map.mono G,h.ord.mono G,λi r g hr hg=>let ⟨h1,h2,h3⟩:=h.box i r g hr hg;⟨G _ _ h1,h2,h3.mono G⟩,h.om,h.dm,h.vb,h.dr,h.tm,h.ext.trans G⟩
theorem GS.add {ls:List Lb}{lp:Option Addr}{ln lc:Nat}(h:GS O22 Z2 m op on oc rs gs)(AZ:∀a∈G8 gs rs,a.1≠JQ ls)(hr:Gy O22 lp ln ls)(ia:BM ls)(hon:on<=1000000000000){Φ:Nat->Option Addr->Nat->Nat->Hp->Prop}
  (hΦ:∀b op' oc' Z',GS O22 Z' m op' (on+1) oc' (rs++[⟨b,lp,ln,lc,none,0,0⟩]) (gs++[⟨ls,[]⟩])->Φ b op' (on+1) oc' Z') :
  Al Z2 λPm=>Spec prog 107 #[.slice lp ln lc] (Hp.set Z2 Pm (.cells #[.slice lp ln lc,.N] 234 (0,0))) (Ab R (CT λs56 AK=>AI prog (Instr.mapUpdate 242 (.map (some m)) (.string s56) (.pointer (aD Pm 0))) AK (λ_ Am=>Al Am λb60=>AI prog (Builtin.append_ #[243,243] 243 #[.slice op on oc,(.slice (aD b60 0) 1 1)]) (Hp.set Am b60 (.cells #[(.pointer (aD Pm 0))] 245 (0,0))) (CS λp61 n61 c61 CL=>Φ Pm p61 n61 c61 CL)))):=λPm ABj=>by
 have x1:=Ext.set (o:=.cells #[.slice lp ln lc,.N] 234 (0,0)) ABj;have tb:O22 Pm=none:=A4 h.ext ABj;have ne:∀k,Z2 k≠none->∃u,Z2 k=some u:=λk G=>by
  cases hh:Z2 k with
  | none=>exact absurd hh G
  | some u=>exact⟨u,rfl⟩
 have nem:Pm≠m:=λe=>h.map.known (by rw[<-e];exact ABj);have neo:∀a,op=some a->Pm≠a.block:=λa ha e=>h.ord.block a ha (by rw[<-e];exact ABj);have ncl:∀(i:Nat) (r:GR),rs[i]?=some r->Pm ∉ r.cl:=λi r hr hc=>by obtain⟨u,hu⟩:=h.known hr _ hc;rw[ABj]at hu;cases hu
 refine Ia (hr.mono CW.mono (h.ext.trans x1)) ia λZ22 Aw=>⟨_,rfl,?_⟩;have h2:=h.mono (x1.trans Aw);have c2:=Aw _ _ (Hp.AA Z2 Pm (.cells #[.slice lp ln lc,.N] 234 (0,0)));refine h2.map.put (x:=Pm) rfl λo hM=>λb60 ATi=>?_;rw[Te AZ]at hM;have AaP:BH 1 (Z22.set m o) op on oc (rs.map λr=>.pointer (aD r.b 0)):=BH.of_eq h2.ord λa ha=>Hp.AB (h.om a ha).1;refine D9 (AaP.mono (.set ATi)) (fJ (f:=λv=>v) (x:=.pointer (aD Pm 0)) (Hp.AA _ _ _)) (λu hu=>by simp at hu;subst hu;rfl) (by omega) λop' oc' Z5 SO gn=>⟨_,_,_,rfl,?_⟩;have T:∀k u,(Z22.set m o) k=some u->(∀a,op=some a->k≠a.block)->Z5 k=some u/\∀a,op'=some a->k≠a.block:=λk u G Ad=>by
  obtain⟨a1,a2⟩:=Aq.1 (gn k u (Aq.2 ⟨Ad,(Ext.set ATi) _ _ G⟩));exact⟨a2,a1⟩
 have T2:∀k u,Z22 k=some u->k≠m->(∀a,op=some a->k≠a.block)->Z5 k=some u/\∀a,op'=some a->k≠a.block:=λk u G hkm=>T k u (by rw[Hp.AB hkm];exact G);have Tr:∀(i:Nat) (r:GR),rs[i]?=some r->∀k∈r.cl,Z5 k=Z22 k/\∀a,op'=some a->k≠a.block:=λi r hr k G=>by
  obtain⟨u,hu⟩:=h2.known hr k G;obtain⟨d1,d2,_⟩:=h.dm i r hr k G;obtain⟨a1,a2⟩:=T2 k u hu d1 d2;exact⟨by rw[a1,hu],a2⟩
 have hm2:∃u,(Z22.set m o) m=some u:=⟨_,Hp.AA _ _ _⟩;obtain⟨um,hum⟩:=hm2;obtain⟨m1,m2⟩:=T m um hum λa ha e=>(h.om a ha).1 e.symm;have vw:∀(i:Nat) (r:GR),(rs++[(⟨Pm,lp,ln,lc,none,0,0⟩:GR)])[i]?=some r->rs[i]?=some r\/(i=rs.length/\r=⟨Pm,lp,ln,lc,none,0,0⟩):=λi r hr=>by
  rw[AkJ]at hr;split at hr
  .exact .inl hr
  .rename_i Ax;have pJ:=(Ai0.1 hr).1;simp only[Ajc]at pJ;have:i-rs.length=0:=by omega
   rw[this]at hr;exact .inr ⟨by omega,by simpa using hr.symm⟩
 have cn:∀k,k∈(⟨Pm,lp,ln,lc,none,0,0⟩:GR).cl->k=Pm:=λk G=>by
  rcases Ls.1 G with e|⟨a,ha,_⟩
  .exact e
  .cases ha
 obtain⟨b1,b2⟩:=T2 Pm _ c2 nem neo;refine hΦ Pm op' oc' Z5 ⟨by simp[h.len],?_,?_,λi r g hi hg=>?_,λa ha=>⟨λe=>m2 a ha e.symm,?_⟩,λi r hi k G=>?_,λi r hi a ha=>?_,λi j r r' Vq hi hj k G=>?_,h.tm,λk u G=>?_⟩
 .rw[dG h.len];exact hM.loc (by rw[m1,hum])
 .rw[AjP];exact SO
 .rcases vw i r hi with CF|⟨rfl,rfl⟩
  .have Ax:=(Ai0.1 CF).1;rw[AjV (by rw[<-h.len];exact Ax)]at hg;obtain⟨a1,a2,a3⟩:=h2.box i r g CF hg;refine⟨?_,a2,BH.of_eq a3 λa ha=>(Tr i r CF _ (Ls.2 (.inr ⟨a,ha,rfl⟩))).1⟩;rw[(Tr i r CF _ (Ls.2 (.inl rfl))).1];exact a1
  .rw[h.len,Ajm (Ai7 _),Aki]at hg;simp only[Ajj,Ai9]at hg;subst hg;exact⟨b1,hr,DS.nil⟩
 .cases hq:O22 a.block with
  | none=>rfl
  | some u=>
   obtain⟨_,e2⟩:=T2 a.block u (h2.ext _ _ hq) (λe=>by rw[e,h.tm]at hq;cases hq) (λa' sY e=>by rw[e,(h.om a' sY).2]at hq;cases hq);exact absurd rfl (e2 a ha)
 .rcases vw i r hi with CF|⟨rfl,rfl⟩
  .exact⟨(h.dm i r CF k G).1,(Tr i r CF k G).2,(h.dm i r CF k G).2.2⟩
  .rw[cn k G];exact⟨nem,b2,tb⟩
 .rcases vw i r hi with CF|⟨rfl,rfl⟩
  .exact h.vb i r CF a ha
  .cases ha
 .rcases vw i r hi with CF|⟨rfl,rfl⟩
  .rcases vw j r' hj with Sz|⟨rfl,rfl⟩
   .exact h.dr i j r r' Vq CF Sz k G
   .exact λhc=>ncl i r CF (by rw[<-cn k hc];exact G)
  .rcases vw j r' hj with Sz|⟨rfl,rfl⟩
   .exact λhc=>ncl j r' Sz (by rw[<-cn k G];exact hc)
   .exact absurd rfl Vq
 .exact(T2 k u (h2.ext _ _ G) (λe=>by rw[e,h.tm]at G;cases G) (λa ha e=>by rw[e,(h.om a ha).2]at G;cases G)).1
end
def PG (B:Nat)(gs:List Rg):Prop:=∀g∈gs,0<g.vs.length/\g.vs.length<=B/\BM g.ls
theorem sa {B:Nat}{ls:List Lb}{v:Int}(hs:BM ls):∀{gs:List Rg},PG B gs->PG (B+1) (QP ls v gs)
 | [],_=>λg G=>by
  unfold QP at G;rw[Ai2]at G;subst G;exact⟨by simp,by simp,hs⟩
 | a::gs,h=>λg G=>by
  have ha:=h a (by simp);unfold QP at G;split at G
  .rcases Ai1.1 G with rfl|G
   .exact⟨by simp,by simp;omega,ha.2.2⟩
   .have:=h g (Aiz _ G);exact⟨this.1,by omega,this.2.2⟩
  .rcases Ai1.1 G with rfl|G
   .exact⟨ha.1,by omega,ha.2.2⟩
   .exact sa hs (λg G=>h g (Aiz _ G)) g G
theorem ks {ls:List Lb}{v:Int}:∀{gs:List Rg},(QP ls v gs).length<=gs.length+1
 | []=>by simp[QP]
 | a::gs=>by
  unfold QP;split
  .simp
  .have:=ks (ls:=ls) (v:=v) (gs:=gs);simp only[Aix];omega
def fc (n:Nd)(l:List El):List Rg:=l.foldl (λgs x=>QP (H7 n x.ls) x.v gs) []
theorem BM.group {n:Nd}{ls:List Lb}(h:BM ls):BM (H7 n ls):=by
 unfold H7 j9 FR kD;split
 .exact h.filter _
 .split
  .exact(h.filter _).filter _
  .exact⟨by decide,λx G=>by cases G⟩
theorem ABk {n:Nd}{l:List El}(hs:∀e∈l,BM e.ls):∀k,k<=l.length->PG k (fc n (l.take k))/\(fc n (l.take k)).length<=k:=λk=>by
 induction k with
 | zero=>intro _;exact⟨λg hg=>by simp[fc]at hg,by simp[fc]⟩
 | succ k ih=>
  intro hk;obtain⟨G,h2⟩:=ih (by omega);have hx:l[k]?=some l[k]:=Ai3 _;have e:fc n (l.take (k+1))=QP (H7 n l[k].ls) l[k].v (fc n (l.take k)):=by unfold fc;rw[AR hx,Akd];rfl
  rw[e];exact⟨sa (hs _ (AlU _)).group G,by have:=ks (ls:=H7 n l[k].ls) (v:=l[k].v) (gs:=fc n (l.take k));omega⟩
section
variable {O22 Z2 Z' Z0:Hp}{R:Rr}
theorem GS.empty {G:Nat}(h:Z2 G=none):GS Z2 (Z2.set G (.map #[] 0)) G none 0 0 [] []:=
 ⟨rfl,MS.fresh,BH.nil,λi r g hi=>(by simp at hi),λa ha=>(by cases ha),λi r hi=>(by simp at hi),λi r hi=>(by simp at hi),λi j r r' _ hi=>(by simp at hi),h,.set h⟩
theorem vx {op:Int}{f:Nat}{p:Option Addr}{n c:Nat}{vs:List Int}{ur:Value}(Ht:(op=1/\ur=.func (.func 163) #[] #[])\/(op=2/\ur=.func (.func 164) #[] #[])\/(op=3/\ur=.func (.func 165) #[] #[])\/(op=4/\ur=.func (.func 166) #[] #[])\/(op=5/\ur=.func (.func 167) #[] #[]))
  (G:Dc .u64 Z2 p n vs) (h0:0<n) (hc:n<=c) (h:R (.returned (.U (foldI op vs))) Z2):∃(f95:Nat) (jn jo:Array Value),ur=.func (.func f95) jn jo/\Enters prog f95/\Spec prog f95 (jn++#[.slice p n c]++jo) Z2 R:=by
 have hl:vs.length=n:=G.1;unfold foldI at h;rcases Ht with ⟨rfl,rfl⟩|⟨rfl,rfl⟩|⟨rfl,rfl⟩|⟨rfl,rfl⟩|⟨rfl,rfl⟩
 .exact⟨_,#[],#[],rfl,Hh.en,X0 G h0 hc h⟩
 .exact⟨_,#[],#[],rfl,Iu.en,X5 G h0 hc h⟩
 .exact⟨_,#[],#[],rfl,FL.en,Qq G h0 hc h⟩
 .exact⟨_,#[],#[],rfl,GX.en,SX G h0 hc (by rw[<-hl];exact h)⟩
 .exact⟨_,#[],#[],rfl,Ih.en,RR (by rw[<-hl];exact h)⟩
theorem ABl {n:Nd}{p q a l:Option Addr}{k c m d j e:Nat}{L:List Vv}{x:Vv}(hs:Fj 1 Z2 q m (n.names.map .string))(hr:Af 4 RP Z2 l j L)(hx:L[0]?=some x)(hV:vr x)(Ht:1<=n.op/\n.op<=5)
  (h:Kf R Z2 ((HQ FF (vM FF n x)).map λl=>⟨2,0,l,[]⟩)):Spec prog 133 #[.pointer a,QR n p k c q m d,.slice l j e] Z2 R:=by
 have hj:0<j:=by have h1:L.length=j:=hr.1;have:=(Ai0.1 hx).1;omega
 obtain⟨b,o,pv,nv,cv,qv,mv,dv,rfl,h1,h2,h3,h4,h5,h6⟩:=RP.at hr hx;simp only[Akl,AkK]at h1 h2 h3 h4;have hl:x.vec.length=nv:=h5.1;have hlen:=hV.len;have ia:=λz hz=>(hV.el z hz).1;have AW:=ABk (n:=n) ia;have hA:vM FF n x=(fc n x.vec).map λg=>⟨g.ls,foldI n.op g.vs⟩:=rfl;rw[hA]at h;refine Ag.start λ_ _=>Cy λmb hmb=>⟨mb,rfl,b,o,rfl,by omega,pv,nv,cv,(Ext.set hmb).ld h3,?_⟩;have last:∀O22 Z' op on oc rs,GS O22 Z' mb op on oc rs (fc n x.vec)->Ext Z2 O22->Ag.Dq R n.kind n.op n.text p k c n.width n.back n.GH q m d n.bool n.parts 0 0 none 0 0 none 0 0 (some mb) op on oc pv nv cv nv nv Z':=λO22 Z' op on oc rs hG BS=>by
  obtain⟨hPG,hgl⟩:=AW nv (by omega);rw[Ai4 (by omega)]at hPG hgl;refine Ag.Bk ⟨λAx=>by omega,λ_=>Cy λmf hmf=>⟨mf,rfl,?_⟩⟩;refine(Stg.fresh hmf).put (by simp) λs1 t1=>t1.put (by simp) λs2 t2=>t2.put (by simp) λs3 t3=>t3.put (by simp) λs4 t4=>t4.put (by simp) λs5 t5=>?_;have hG5:=hG.mono t5.1;have hml:=t5.2.2;simp only[Aj9,Ajp]at hml;refine hml.look AFY (λAZ=>?_) λv hv=>⟨v,rfl,?_⟩
  .exfalso;simp only[Ai1,AjK,Ajl,forall_eq_or_imp,forall_eq]at AZ;obtain⟨a1,a2,a3,a4,a5⟩:=AZ;omega
  have hv':(n.op=1/\v=.func (.func 163) #[] #[])\/(n.op=2/\v=.func (.func 164) #[] #[])\/(n.op=3/\v=.func (.func 165) #[] #[])\/(n.op=4/\v=.func (.func 166) #[] #[])\/(n.op=5/\v=.func (.func 167) #[] #[]):=by
   simpa only[Ai1,AjK,Ajl,Ajs] using hv
  replace h:=h.vk (BS.trans hG5.ext)
  have hon:rs.length=on:=by have:=hG5.ord.1;simpa using this
  have hgn:=hG5.len;generalize fc n x.vec=gs at *;clear hml t1 t2 t3 t4 t5 hv hG
  suffices H:∀g i:Nat,∀p8 n8 c8 G oq,(0<on->oq=op)->on-i=g->i<=on->AN 2 DH s5 G p8 n8 c8 ((gs.take i).map λg=>⟨g.ls,foldI n.op g.vs⟩)->Ag.AEk R 0 0 none 0 0 none 0 0 v p8 n8 c8 oq on oc on i G from H on 0 none 0 0 s5 op (λ_=>rfl) rfl (AjB _) (AN.nil (.refl _))
  intro g
  induction g with
  | zero=>
   intro i p8 n8 c8 G oq hoq hg hi ho;rw[Ai4 (by omega)]at ho;have QT:=ho.1.1;rw[Ajn]at QT;exact Ag.r7 ⟨λAx=>by omega,λ_=>F2 ho (by omega) h.ay⟩
  | succ g ih=>
   intro i p8 n8 c8 G oq hoq hg hi ho;have CF:i<on:=by omega
   obtain⟨r,hri⟩:∃r,rs[i]?=some r:=⟨_,Ai3 (by omega)⟩;obtain⟨y,hy⟩:∃y,gs[i]?=some y:=⟨_,Ai3 (by omega)⟩;obtain⟨b1,o1,ATk,Sx⟩:=Fj.at1 hG5.ord.rd (k:=i) (v:=.pointer (aD r.b 0)) (by rw[Aj7,hri];rfl);obtain⟨c1,c2,c3⟩:=hG5.box i r y hri hy;have hP:=hPG y (Ai6 hy);have hvl:y.vs.length=r.vn:=by have:=c3.1;simpa using this
   have QT:=ho.1.1;rw[Ajn,AjJ]at QT;rw[hoq (by omega),ATk];refine Ag.r7 ⟨λ_=>⟨b1,o1,rfl,by omega,aD r.b 0,by simpa using ho.up.ld Sx,r.b,0,rfl,r.lp,r.ln,r.lc,AJ (ho.up _ _ c1) rfl,r.vp,r.vn,r.vc,AJ (ho.up _ _ c1) rfl,vx (f:=0) hv' (Dc.mono ho.up (DS.rd c3)) (by omega) (BH.cap c3) ⟨_,rfl,Kp.S7 (.refl _),λb97 AaR=>?_⟩⟩,λhh=>by omega⟩;refine AN.el ho ((c2.mono CW.mono hG5.ext).mono CW.mono ho.2) (by omega) (λp9 c9 Z3 Dh _=>⟨_,_,_,rfl,by unfold AL;omega,ih (i+1) _ _ _ _ _ (λ_=>ATk.symm) (by omega) (by omega) ?_⟩) AaR;rw[AR hy,AjP];exact Dh
 suffices H:∀g i:Nat,∀O22 Z' op on oc rs,nv-i=g->i<=nv->GS O22 Z' mb op on oc rs (fc n (x.vec.take i))->Ext Z2 O22->Ag.Dq R n.kind n.op n.text p k c n.width n.back n.GH q m d n.bool n.parts 0 0 none 0 0 none 0 0 (some mb) op on oc pv nv cv nv i Z' from
  H nv 0 Z2 _ none 0 0 [] rfl (AjB _) (GS.empty hmb) (.refl _)
 intro g
 induction g with
 | zero=>
  intro i O22 Z' op on oc rs hg hi hG BS;have Tz:i=nv:=by omega
  subst Tz;rw[Ai4 (by omega)]at hG;exact last O22 Z' op on oc rs hG BS
 | succ g ih=>
  intro i O22 Z' op on oc rs hg hi hG BS;have CF:i<nv:=by omega
  obtain⟨y,hy⟩:=h5.ex CF;obtain⟨b1,o1,q1,m1,d1,rfl,Sx,D7⟩:=DH.at h5 hy;have MU:=ia y (Ai6 hy);have hX:=BS.trans hG.ext;obtain⟨hPG,hgl⟩:=AW i (by omega);have kt:=hG.len;have eN:fc n (x.vec.take (i+1))=QP (H7 n y.ls) y.v (fc n (x.vec.take i)):=by unfold fc;rw[AR hy,Akd];rfl
  have ATl:∀O4 Z4 op4 on4 oc4 rs4 gs4 (i4:Nat) (r:GR) (t:Rg),GS O4 Z4 mb op4 on4 oc4 rs4 gs4->rs4[i4]?=some r->gs4[i4]?=some t->gs4.set i4 ⟨t.ls,t.vs++[y.v]⟩=fc n (x.vec.take (i+1))->t.vs.length<=i->Ext Z2 O4->Ag.zw R n.kind n.op n.text p k c n.width n.back n.GH q m d n.bool n.parts 0 0 none 0 0 none 0 0 (some mb) op4 on4 oc4 q1 m1 d1 y.v (aD r.b 0) (aD b1 o1) nv cv nv i Z4:=λO4 Z4 op4 on4 oc4 rs4 gs4 i4 r t hG4 gw ht4 he hti KB=>by
   obtain⟨c1,c2,c3⟩:=hG4.box i4 r t gw ht4;have hvl:t.vs.length=r.vn:=by have:=c3.1;simpa using this
   refine Ag.AEl ⟨r.b,0,rfl,r.vp,r.vn,r.vc,AJ c1 rfl,GS.push (v:=y.v) hG4 gw ht4 (by omega) (Φ:=λy2=>AL ((i:Int)+1)/\Ag.Dq R n.kind n.op n.text p k c n.width n.back n.GH q m d n.bool n.parts 0 0 none 0 0 none 0 0 (some mb) op4 on4 oc4 (aD b1 o1) nv cv nv ((i:Int)+1) y2) λZ5 r' hG5=>⟨AO CF h5.big,ih (i+1) O4 Z5 op4 on4 oc4 (rs4.set i4 r') (by omega) (by omega) ?_ KB⟩⟩;rw[<-he];exact hG5
  have ALW:∀O2 G p' n' c',GS O2 G mb op on oc rs (fc n (x.vec.take i))->Ext Z2 O2->Gy O2 p' n' (H7 n y.ls)->Ag.TQ R n.kind n.op n.text p k c n.width n.back n.GH q m d n.bool n.parts 0 0 none 0 0 none 0 0 (some mb) op on oc q1 m1 d1 y.v p' n' c' (aD b1 o1) nv cv nv i G:=λO2 G p' n' c' hG2 Aw G0=>by
   refine Ag.Va (Ia (G0.mono CW.mono hG2.ext) MU.group λZ3 B0=>⟨_,rfl,?_⟩);have hG3:=hG2.mono B0;have hon:rs.length=on:=by have:=hG3.ord.1;simpa using this
   refine hG3.map.look AFX (λG6=>⟨none,rfl,λ_=>?_,λhh=>(by cases hh)⟩) λv bb ATp hv=>⟨aD bb 0,hv,λhh=>(by cases hh),λ_=>?_⟩
   .obtain⟨e1,e2⟩:=YV (v:=y.v) hG3.len G6;refine GS.add hG3 e2 G0 MU.group (by omega) (Φ:=λPm p61 n61 c61 CL=>Ag.zw R n.kind n.op n.text p k c n.width n.back n.GH q m d n.bool n.parts 0 0 none 0 0 none 0 0 (some mb) p61 n61 c61 q1 m1 d1 y.v (aD Pm 0) (aD b1 o1) nv cv nv i CL) λbb op' oc' Z4 hG4=>?_;refine ATl O2 Z4 op' (on+1) oc' _ _ (fc n (x.vec.take i)).length ⟨bb,p',n',c',none,0,0⟩ ⟨H7 n y.ls,[]⟩ hG4 ?_ ?_ ?_ (AjB _) Aw
    .rw[<-kt,Ajm (Ai7 _),Aki];rfl
    .rw[Ajm (Ai7 _),Aki];rfl
    .rw[eN,e1,AmJ _ _ (Ai7 _),Aki];rfl
   .obtain⟨i4,t,r,a1,a2,a3,a4⟩:=YU (v:=y.v) hG3.len ATp;subst a3;exact ATl O2 Z3 op on oc rs _ i4 r t hG3 a2 a1 (by rw[eN,a4]) (hPG t (Ai6 a1)).2.1 Aw
  refine Ag.Bk ⟨λ_=>⟨b1,o1,rfl,by omega,q1,m1,d1,y.v,by simpa using Sx.mono hX,λ_=>⟨λhg1=>dC (D7.mono CW.mono hX) (MU.rd D7) (hs.mono hX) λp' n' c' G G0 Aw=>⟨_,_,_,rfl,?_⟩,λhg1=>⟨λmM=>?_,λmM=>ALW O22 Z' none 0 0 hG BS ?_⟩⟩⟩,λhh=>by omega⟩
  .obtain⟨O2,hG2,e1,e2⟩:=hG.grow Aw;exact ALW O2 G p' n' c' hG2 (BS.trans e1) (by unfold H7;rw[Aiy hg1];exact G0.mono CW.mono e2)
  .refine Lj (D7.mono CW.mono hX) (MU.rd D7) (hs.mono hX) λp' n' c' G Bq Aw=>⟨_,_,_,rfl,?_⟩;have Q7:n'<=1000000:=by
    have h7:=Bq.1;have h8:=Ajb (λx:Lb=>!FP x.1 n.names) y.ls;have h9:=MU.1;omega
   refine HU ((Bq.rd CW.mono).mono CW.mono (Ext.CX _ _)) Q7 λp3 n3 c3 Z3 Uf B0=>⟨_,_,_,rfl,?_⟩;obtain⟨O2,hG2,e1,e2⟩:=hG.grow (Aw.trans B0);exact ALW O2 Z3 p3 n3 c3 hG2 (BS.trans e1) (by unfold H7;rw[Aiw hg1,Aiy mM];exact(Uf.mono CW.mono (Ext.Ci Aw)).mono CW.mono e2)
  .unfold H7;rw[Aiw hg1,Aiw mM];exact Af.nil
end
def Sd (e:El):Prop:=BM e.ls/\0<=e.v
def Sh (x:Vv):Prop:=(x.kind=1/\x.vec=[]/\x.Q5=[])\/(x.kind=2/\x.Q5=[])\/(x.kind=3/\x.vec=[])
def Fi (x:Vv):Nat:=x.vec.length+x.Q5.length
structure VG (x:Vv):Prop where
 el:∀e∈x.vec,Sd e
 rg:∀r∈x.Q5,BM r.ls/\0<r.vs.length
 sh:Sh x
theorem fe (x:Int):0<=sN x:=Akm _
theorem PI (op a b:Int):0<=Xz op a b:=Akm _
theorem ku {f:Int->Int->Int}(G:∀a b,0<=f a b):∀(l:List Int) (a:Int),0<=a->0<=l.foldl f a
 | [],a,h=>h
 | x::l,a,h=>ku G l _ (G a x)
theorem sb:∀vs,0<=fP vs
 | []=>Alm _
 | v::l=>ku (λa b=>PI 1 a b) l _ (fe v)
theorem Se (op:Int):∀vs,0<=Qp op vs
 | []=>Alm _
 | v::l=>fe _
theorem ABm (vs:List Int):0<=SZ vs:=by
 unfold SZ;have:∀(l:List (Int×Int)) (a:Int),0<=a->0<=l.foldl SY a:=λl=>by
  induction l with
  | nil=>intro a h;exact h
  | cons x l G=>
   intro a h;refine G _ ?_;unfold SY;split
   .exact PI _ _ _
   .exact h
 exact this _ _ (PI _ _ _)
theorem Tj (x:Int):0<=Cg x:=Akm _
theorem ABn (op:Int)(vs:List Int):0<=foldI op vs:=by
 unfold foldI;split
 .exact sb _
 .split
  .exact Se _ _
  .split
   .exact Se _ _
   .split
    .exact PI _ _ _
    .exact Tj _
theorem ABo {op:Int}{vs:List Int}{w x:Int}(h:Sb op vs w=some x):0<=x:=by
 unfold Sb at h;split at h
 .rw[<-Ajv h];exact sb _
 split at h
 .rw[<-Ajv h];exact PI _ _ _
 split at h
 .rw[<-Ajv h];exact Se _ _
 split at h
 .rw[<-Ajv h];exact Se _ _
 split at h
 .rw[<-Ajv h];exact Tj _
 split at h
 .rw[<-Ajv h];exact fe _
 split at h
 .rw[<-Ajv h];exact Akm _
 split at h
 .exact absurd h.symm (Option.some_ne_none _)
 split at h
 .rw[<-Ajv h];exact PI _ _ _
 split at h
 .rw[<-Ajv h];exact ABm _
 .rw[<-Ajv h];exact PI _ _ _
theorem YW (op a b:Int):0<=(PH op a b).1:=by
 unfold PH;split
 .exact PI _ _ _
 .show 0<=(if _ then Cg 1 else Cg 0)
  split<;>exact Tj _
theorem dH {l m:List El}(h:HQ FF l=some m):m.Perm l:=by
 unfold HQ at h;split at h
 .cases h;exact Lk l
 .cases h
theorem sd {l m:List El}(h:HQ FF l=some m)(hl:∀e∈l,Sd e):(∀e∈m,Sd e)/\m.length=l.length:=
 ⟨λe G=>hl e ((dH h).mem_iff.1 G),(dH h).length_eq⟩
theorem AFb {n:Nd}{x:Vv}(hx:VG x):(∀e∈cZ FF n x,Sd e)/\(cZ FF n x).length<=Fi x:=by
 refine⟨λe he=>?_,?_⟩
 .rcases AjU.1 he with he|he
  .obtain⟨y,hy,rfl⟩:=Ajf.1 he;refine⟨(hx.el y hy).1.bare,?_⟩;show 0<=(if n.op=11 then oY y.v else fO y.v)
   split<;>exact Akm _
  .obtain⟨y,hy,h1⟩:=AkV.1 he;have G:(Sb n.op y.vs x.v).map (λv=>(⟨FR y.ls,v⟩:El))=some e:=h1;cases ho:Sb n.op y.vs x.v with
   | none=>rw[ho]at G;cases G
   | some z=>
    rw[ho]at G;simp only[Aju,Ai9]at G;subst G;exact⟨(hx.rg y hy).1.bare,ABo ho⟩
 .unfold cZ Fi;rw[Ai5,Ajn];have:=Ajh (λs:Rg=>(FF.over n.op s.vs x.v).map λv=>(⟨FR s.ls,v⟩:El)) x.Q5;omega
theorem ALX {n:Nd}{x:Vv}(hx:VG x):(∀e∈vM FF n x,Sd e)/\(vM FF n x).length<=Fi x:=by
 obtain⟨h1,h2⟩:=ABk (n:=n) (λe G=>(hx.el e G).1) x.vec.length (Ai7 _);rw[List.take_length]at h1 h2;have hA:vM FF n x=(fc n x.vec).map λg=>⟨g.ls,foldI n.op g.vs⟩:=rfl;rw[hA];refine⟨λe G=>?_,by rw[Ajn];unfold Fi;omega⟩;obtain⟨g,hg,rfl⟩:=Ajf.1 G;exact⟨(h1 g hg).2.2,ABn _ _⟩
theorem ABp {n:Nd}{l:List El}{f:Int->Int×Bool}(hl:∀e∈l,Sd e)(hf:∀v,0<=(f v).1):(∀e∈kE n l f,Sd e)/\(kE n l f).length<=l.length:=by
 refine⟨λe he=>?_,Ajh _ _⟩;obtain⟨y,hy,G⟩:=AkV.1 he;split at G
 .simp only[Ai9]at G;subst G;exact⟨(hl y hy).1.bare,hf _⟩
 .split at G
  .simp only[Ai9]at G;subst G;exact hl y hy
  .cases G
theorem AFc {n:Nd}{x y:List El}(hx:∀e∈x,Sd e)(hy:∀e∈y,Sd e):(∀e∈Xt n x y,Sd e)/\(Xt n x y).length<=x.length+y.length:=by
 unfold Xt;refine⟨λe G=>?_,?_⟩
 .rcases AjU.1 G with G|G
  .exact hx e (AkU.1 G).1
  .exact hy e (AkU.1 G).1
 .rw[Ai5];exact Nat.add_le_add (Ajb _ _) (Ajb _ _)
theorem AFd {n:Nd}{x y m:List El}(hx:∀e∈x,Sd e)(h:cg FF n x y=some m):(∀e∈m,Sd e)/\m.length<=x.length:=by
 unfold cg at h;split at h
 .simp only[Ai9]at h;subst h;refine⟨λe he=>?_,Ajh _ _⟩;obtain⟨z,hz,G⟩:=AkV.1 he;split at G
  .cases G
  .split at G
   .simp only[Ai9]at G;subst G;exact⟨(hx z hz).1.S1,YW _ _ _⟩
   .split at G
    .simp only[Ai9]at G;subst G;exact hx z hz
    .cases G
 .cases h
theorem RV {l m:List El}(h:HQ FF l=some m)(G:∀e∈l,Sd e):VG ⟨2,0,m,[]⟩/\Fi ⟨2,0,m,[]⟩=l.length:=
 ⟨⟨(sd h G).1,λr hr=>(by cases hr),.inr (.inl ⟨rfl,rfl⟩)⟩,by show m.length+0=_;rw[(sd h G).2];omega⟩
theorem map_some {α β:Type}{o:Option α}{f:α->β}{y:β}(h:o.map f=some y):∃x,o=some x/\f x=y:=by
 cases o with
 | none=>cases h
 | some x=>exact⟨x,rfl,by simpa using h⟩
theorem se {n:Nd}{ss:List Sr}{t:Int}{L:List Vv}{v:Vv}(hS:AFO ss)(hp:∀s∈ss,∀p∈s.ps,0<=p.2)(hf:Ew n=true)(hT:(Tf n (L.map (·.kind))).2=0)(G:(L.length:Int)=n.parts)(hV:∀x∈L,VG x)(h:SQ FF ss t n L=some v):
  VG v/\v.kind=(Tf n (L.map (·.kind))).1/\Fi v<=ss.length+(L.map Fi).sum:=by
 have EI:=I3 hf;unfold SQ at h;by_cases h1:n.kind=1
 .rw[Aiy h1]at h;cases h;exact⟨⟨λe he=>(by cases he),λr hr=>(by cases hr),.inl ⟨rfl,rfl,rfl⟩⟩,by unfold Tf;rw[Aiy h1],AjB _⟩
 rw[Aiw h1]at h;by_cases h2:n.kind=2
 .rw[Aiy h2]at h;cases h;refine⟨⟨λe he=>?_,λr hr=>(by cases hr),.inr (.inl ⟨rfl,rfl⟩)⟩,by unfold Tf;rw[Aiw h1,Aiy h2],?_⟩
  .obtain⟨s,hs,gu⟩:=AkV.1 he;split at gu
   .cases gu
   .rename_i p kv;split at gu
    .cases gu
    .simp only[Ai9]at gu;subst gu;exact⟨hS.sm s hs,hp s hs p (AkU.1 (List.mem_of_getLast? kv)).1⟩
  .show(List.filterMap _ ss).length+0<=_
   exact Aj3 (Al6 (AkK _)) (Aj3 (Ajh _ _) (AlT _ _))
 rw[Aiw h2]at h;by_cases h3:n.kind=3
 .rw[Aiy h3]at h;cases h;refine⟨⟨λe he=>(by cases he),λr hr=>?_,.inr (.inr ⟨rfl,rfl⟩)⟩,by unfold Tf;rw[Aiw h1,Aiw h2,Aiy h3],?_⟩
  .obtain⟨s,hs,gu⟩:=AkV.1 hr;dsimp only at gu;generalize ((H6 s.ps (t-n.back-n.width) (t-n.back)).filter λp=>decide (p.2≠ML)).map Prod.snd=vs at gu;cases vs with
   | nil=>cases gu
   | cons a l=>
    simp only[List.isEmpty_cons,Bool.not_false,AkE]at gu;cases sJ:FF.vL n.mt s.ls with
    | false=>rw[sJ]at gu;cases gu
    | true=>
     rw[sJ]at gu;simp only[Akk,Ai9]at gu;subst gu;exact⟨hS.sm s hs,by simp⟩
  .show 0+(List.filterMap _ ss).length<=_
   exact Aj3 (Al6 (Ajz _)) (Aj3 (Ajh _ _) (AlT _ _))
 rw[Aiw h3]at h;unfold G7 at EI;rw[Aiw h1,Aiw h2,Aiw h3]at EI;by_cases h4:n.kind=4
 .rw[Aiy h4]at EI;have pK:=(AjA EI).1
  match L,G with
  | [x],_=>
   have hx:=hV x (by simp);dsimp only at h;rw[Aiy h4]at h;obtain⟨m,hm,rfl⟩:=map_some h;obtain⟨c1,c2⟩:=AFb (n:=n) hx;obtain⟨d1,d2⟩:=RV hm c1;refine⟨d1,?_,by rw[d2];simp;omega⟩;unfold Tf at hT ⊢;rw[Aiw h1,Aiw h2,Aiw h3,Aiy h4]at hT ⊢;unfold kS at hT ⊢;by_cases hc:([x].map (·.kind))[0]?.getD 0=(if n.op=11\/n.op=12 then 2 else 3)
   .rw[Aiy hc]
   .rw[Aiw hc]at hT;exact absurd hT (by decide)
  | [],G=>simp at G;omega
  | _::_::_,G=>simp at G;omega
 rw[Aiw h4]at EI;by_cases h5:n.kind=5
 .rw[Aiy h5]at EI;have pK:=(AjA EI).1
  match L,G with
  | [x],_=>
   have hx:=hV x (by simp);dsimp only at h;rw[Aiw h4,Aiy h5]at h;obtain⟨m,hm,rfl⟩:=map_some h;obtain⟨c1,c2⟩:=ALX (n:=n) hx;obtain⟨d1,d2⟩:=RV hm c1;refine⟨d1,?_,by rw[d2];simp;omega⟩;unfold Tf at hT ⊢;rw[Aiw h1,Aiw h2,Aiw h3,Aiw h4,Aiy h5]at hT ⊢;unfold sU at hT ⊢;by_cases hc:([x].map (·.kind))[0]?.getD 0=2
   .rw[Aiy hc]
   .rw[Aiw hc]at hT;exact absurd hT (by decide)
  | [],G=>simp at G;omega
  | _::_::_,G=>simp at G;omega
 rw[Aiw h5]at EI;by_cases h6:n.kind=6
 .rw[Aiy h6,AjD]at EI;have pK:=(AjA EI.1).1
  match L,G with
  | [x,y],_=>
   have hx:=hV x (by simp);have hy:=hV y (by simp);dsimp only at h;rw[Aiy h6]at h;have hTy:(Tf n ([x,y].map (·.kind)))=vY n x.kind y.kind:=by unfold Tf;rw[Aiw h1,Aiw h2,Aiw h3,Aiw h4,Aiw h5,Aiy h6];rfl
   rw[hTy]at hT ⊢;unfold vY at hT ⊢;split at hT
   .cases hT
   .rename_i AZ;rw[Aiw AZ];simp only[Ak9]at AZ;have sx:=hx.sh;have sy:=hy.sh;unfold AE1 at h;have hvx:Fi x+Fi y=([x,y].map Fi).sum:=by simp
    rw[<-hvx];split at h
    .rename_i hk;cases h;exact⟨⟨λe he=>(by cases he),λr hr=>(by cases hr),.inl ⟨rfl,rfl,rfl⟩⟩,by simp[hk.1,hk.2],AjB _⟩
    .rename_i hk;obtain⟨m,hm,rfl⟩:=map_some h;have ATq:(2:Int)=(if x.kind<y.kind then y.kind else x.kind):=by
      unfold Sh at sx sy;split<;>omega
     refine(λhh:VG ⟨2,0,m,[]⟩/\Fi ⟨2,0,m,[]⟩<=Fi x+Fi y=>⟨hh.1,ATq,by have:=hh.2;omega⟩) ?_;split at hm
     .obtain⟨c1,c2⟩:=ABp (n:=n) (f:=FF.VI n.op x.v) hy.el (λv=>YW _ _ _);obtain⟨d1,d2⟩:=RV (show HQ FF (kE n y.vec (FF.VI n.op x.v))=some m from hm) c1;exact⟨d1,by rw[d2];unfold Fi;omega⟩
     .split at hm
      .obtain⟨c1,c2⟩:=ABp (n:=n) (f:=λv=>FF.VI n.op v y.v) hx.el (λv=>YW _ _ _);obtain⟨d1,d2⟩:=RV (show HQ FF (kE n x.vec λv=>FF.VI n.op v y.v)=some m from hm) c1;exact⟨d1,by rw[d2];unfold Fi;omega⟩
      .split at hm
       .obtain⟨c1,c2⟩:=AFc (n:=n) hx.el hy.el;obtain⟨d1,d2⟩:=RV (show HQ FF (Xt n x.vec y.vec)=some m from hm) c1;exact⟨d1,by rw[d2];unfold Fi;omega⟩
       .cases hq:cg FF n x.vec y.vec with
        | none=>rw[hq]at hm;cases hm
        | some w=>
         rw[hq]at hm;obtain⟨c1,c2⟩:=AFd hx.el hq;obtain⟨d1,d2⟩:=RV (show HQ FF w=some m from hm) c1;exact⟨d1,by rw[d2];unfold Fi;omega⟩
  | [],G=>simp at G;omega
  | [_],G=>simp at G;omega
  | _::_::_::_,G=>simp at G;omega
 rw[Aiw h6]at EI;have h7:=(AjA EI).1;have pK:=(AjA EI).2
 match L,G with
 | [x],_=>
  have hx:=hV x (by simp);dsimp only at h;rw[Aiw h4,Aiw h5,Aiy h7]at h;have hTy:(Tf n ([x].map (·.kind)))=ABO x.kind:=by unfold Tf;rw[Aiw h1,Aiw h2,Aiw h3,Aiw h4,Aiw h5,Aiw h6];rfl
  rw[hTy]at hT ⊢;unfold ABO at hT ⊢;have sx:=hx.sh;unfold Sh at sx;split at hT
  .cases hT
  .rename_i AZ;rw[Aiw AZ];unfold ABA at h;split at h
   .rename_i hk;cases h;exact⟨⟨λe he=>(by cases he),λr hr=>(by cases hr),.inl ⟨rfl,rfl,rfl⟩⟩,hk.symm,AjB _⟩
   .obtain⟨m,hm,rfl⟩:=map_some h;have c1:∀e∈x.vec.map (λx=>(⟨FR x.ls,FF.AA8 x.v⟩:El)),Sd e:=λe he=>by
     obtain⟨y,hy,rfl⟩:=Ajf.1 he;exact⟨(hx.el y hy).1.bare,fe _⟩
    obtain⟨d1,d2⟩:=RV hm c1;refine⟨d1,by show(2:Int)=x.kind;omega,by rw[d2,Ajn];simp[Fi];omega⟩
 | [],G=>simp at G;omega
 | _::_::_,G=>simp at G;omega
theorem kz {n:Nd}(ht:Ew n=true):0<=n.parts:=by
 have G:=I3 ht;unfold G7 at G;have hp:=Pz ht;by_cases h1:n.kind=1
 .unfold HR B8 at hp;simp[h1]at hp;omega
 by_cases h2:n.kind=2
 .unfold HR B8 at hp;simp[h2]at hp;omega
 by_cases h3:n.kind=3
 .unfold HR B8 at hp;simp[h3]at hp;omega
 rw[Aiw h1,Aiw h2,Aiw h3]at G;split at G
 .simp at G;omega
 .split at G
  .simp at G;omega
  .split at G
   .simp at G;omega
   .simp at G;omega
theorem sf {n:Nd}{ty:List Int}(h:(Bp n ty).1=0):Ew n=true/\n.parts<=ty.length/\F0 Du n.mt=0/\(Tf n (ty.drop (ty.length-n.parts.toNat))).2=0/\(Bp n ty).2=ty.take (ty.length-n.parts.toNat)++[(Tf n (ty.drop (ty.length-n.parts.toNat))).1]:=by
 unfold Bp at h ⊢;split at h
 .exact absurd h (by dsimp only;decide)
 .rename_i G;split at h
  .exact absurd h (by dsimp only;decide)
  .rename_i h2;simp only[Ak9]at G;rw[Aiw (by simp only[Ak9];exact G),Aiw h2];exact⟨by simpa using G.1,by omega,AjZ.1 h2,h,rfl⟩
theorem sg {n:Nd}(hf:Ew n=true)(hm:F0 Du n.mt=0)(hk:n.kind=2\/n.kind=3):ALM n:=by
 have G:=I3 hf;have hp:=Pz hf;have hmt:n.mt.all ot=true:=by
  unfold F0 at hm;split at hm
  .exact absurd hm (by decide)
  .cases ha:n.mt.all ot with
   | true=>rfl
   | false=>
    have:(if n.mt.all ot=true then(0:Int) else 40)=0:=hm;rw[ha]at this;exact absurd this (by decide)
 have hx:∀x∈n.mt,ot x=true:=Ajt.1 hmt;have hbw:(0<=n.back/\n.back<2147483648)/\(0<=n.width/\n.width<2147483648):=by
  unfold G7 at G;rcases hk with hk|hk
  .rw[Aiw (by omega),Aiy hk]at G;unfold MM at G;simp only[AjD,AjH]at G;unfold HR B8 at hp;simp[hk]at hp;omega
  .rw[Aiw (by omega),Aiw (by omega),Aiy hk]at G;unfold MM at G;simp only[AjD,AjH]at G;omega
 refine⟨λx xU=>?_,λx xU=>?_,hbw.1,hbw.2⟩
 .have:=hx x xU;unfold ot at this;simp only[AjD,AjH]at this;exact this.1.1
 .have:=hx x xU;unfold ot at this;simp only[AjD,AjH]at this;omega
def AFe:List Nat:=[129,130,131,132,133,134,135]
structure SsG (ss:List Sr):Prop where
 ok:AFO ss
 nn:∀s∈ss,∀p∈s.ps,0<=p.2
 pl:∀s∈ss,s.ps.length<=1000000000
section
variable {ρ Z2 Z' Z0:Hp}{R:Rr}
theorem vy {n:Nd}{p q l:Option Addr}{k c m d j e ab:Nat}{ss:List Sr}{t:Int}{L:List Vv}(hA:Ue ρ ab ss t)(hg:Gl ρ)(hm:Af 3 Jj ρ p k n.mt)(hs:Fj 1 ρ q m (n.names.map .string))(hf:Ew n=true)(hmt:F0 Du n.mt=0)
  (hT:(Tf n (L.map (·.kind))).2=0) (G:(L.length:Int)=n.parts) (hV:∀x∈L,VG x) (hlen:∀x∈L,Fi x<=100000000000) (hr:Af 4 RP ρ l j L) (hS:SsG ss) (ht:-4611686018427387904<=t/\t<=4611686018427387904) (h:Kf R ρ (SQ FF ss t n L)) :
  ∃f,1<=n.kind/\n.kind<=7/\AFe[n.kind.toNat-1]?=some f/\Enters prog f/\Spec prog f #[.pointer (some ⟨ab,0,none⟩),QR n p k c q m d,.slice l j e] ρ R:=by
 have EI:=I3 hf;have vok:∀x∈L,vr x:=λx hx=>⟨(hV x hx).el,(hV x hx).rg,hlen x hx⟩;unfold SQ at h;by_cases h1:n.kind=1
 .rw[Aiy h1]at h;refine⟨_,by omega,by omega,by rw[h1];rfl,Cq.en,Sc hg ?_ h⟩;unfold G7 at EI;rw[Aiy h1]at EI;exact EI
 rw[Aiw h1]at h;by_cases h2:n.kind=2
 .rw[Aiy h2]at h;exact⟨_,by omega,by omega,by rw[h2];rfl,A2.en,ko hA hg hm hS.ok (sg hf hmt (.inl h2)) ht h⟩
 rw[Aiw h2]at h;by_cases h3:n.kind=3
 .rw[Aiy h3]at h;exact⟨_,by omega,by omega,by rw[h3];rfl,Ah.en,pG hA hg hm hS.ok (sg hf hmt (.inr h3)) ht hS.pl h⟩
 rw[Aiw h3]at h;unfold G7 at EI;rw[Aiw h1,Aiw h2,Aiw h3]at EI;by_cases h4:n.kind=4
 .rw[Aiy h4]at EI;obtain⟨pK,Rv,Bq⟩:=AjA EI
  match L,G with
  | [x],_=>
   have hx:=hV x (by simp);dsimp only at h;rw[Aiy h4]at h;have sx:=hx.sh;unfold Sh at sx;unfold Tf at hT;rw[Aiw h1,Aiw h2,Aiw h3,Aiy h4]at hT;unfold kS at hT;have hc:x.kind=(if n.op=11\/n.op=12 then 2 else 3):=by
    by_cases hc:([x].map (·.kind))[0]?.getD 0=(if n.op=11\/n.op=12 then 2 else 3)
    .exact hc
    .rw[Aiw hc]at hT;exact absurd hT (by decide)
   refine⟨_,by omega,by omega,by rw[h4];rfl,Aj.en,vt hr rfl (vok x (by simp)) (λAd=>?_) (λAd=>?_) h⟩
   .rcases sx with ⟨_,h9,_⟩|⟨h9,_⟩|⟨h9,h8⟩
    .exact absurd h9 Ad
    .rw[h9]at hc;split at hc
     .assumption
     .omega
    .exact absurd h8 Ad
   .rcases sx with ⟨_,_,h9⟩|⟨h9,h8⟩|⟨h9,_⟩
    .exact absurd h9 Ad
    .exact absurd h8 Ad
    .rw[h9]at hc;split at hc
     .omega
     .omega
  | [],G=>simp at G;omega
  | _::_::_,G=>simp at G;omega
 rw[Aiw h4]at EI;by_cases h5:n.kind=5
 .rw[Aiy h5]at EI;obtain⟨pK,Rv,Bq,_⟩:=AjA EI
  match L,G with
  | [x],_=>
   dsimp only at h;rw[Aiw h4,Aiy h5]at h;exact⟨_,by omega,by omega,by rw[h5];rfl,Ag.en,ABl hs hr rfl (vok x (by simp)) ⟨Rv,Bq⟩ h⟩
  | [],G=>simp at G;omega
  | _::_::_,G=>simp at G;omega
 rw[Aiw h5]at EI;by_cases h6:n.kind=6
 .rw[Aiy h6,AjD]at EI;have pK:=(AjA EI.1).1
  match L,G with
  | [x,y],_=>
   dsimp only at h;rw[Aiy h6]at h;exact⟨_,by omega,by omega,by rw[h6];rfl,ET.en,ABh hs hr rfl rfl (vok x (by simp)) (vok y (by simp)) h⟩
  | [],G=>simp at G;omega
  | [_],G=>simp at G;omega
  | _::_::_::_,G=>simp at G;omega
 rw[Aiw h6]at EI;have h7:=(AjA EI).1;have pK:=(AjA EI).2
 match L,G with
 | [x],_=>
  dsimp only at h;rw[Aiw h4,Aiw h5,Aiy h7]at h;exact⟨_,by omega,by omega,by rw[h7];rfl,B7.en,ABe hr rfl (vok x (by simp)) h⟩
 | [],G=>simp at G;omega
 | _::_::_,G=>simp at G;omega
end
theorem Spec.ALY {P:Program}{f:FuncId}{args:Array Value}{Z2:Hp}{p:Option Addr}{R:Rr}(hk:∀a,p=some a->∃o,Z2 a.block=some o)
  (h:Spec P f args (Z2.del p) (λe G=>∀Z',(∀a,p=some a->Z' a.block=Z2 a.block)->Z'.del p=G->R e Z')):Spec P f args Z2 R:=by
 cases p with
 | none=>exact h.mono λe G hh=>hh G (λa ha=>by cases ha) rfl
 | some a=>
  obtain⟨o,ho⟩:=hk a rfl;have e1:(Z2.del (some a)).set a.block o=Z2:=by
   funext k
   by_cases xT:k=a.block
   .subst xT;rw[Hp.AA,ho]
   .rw[Hp.AB xT];simp[Hp.del,xT]
  have e2:(Z2.del (some a)) a.block=none:=by simp[Hp.del]
  rw[<-e1];refine Spec.AQ e2 (h.mono λe G hh hn=>hh _ (λa' sY=>by cases sY;rw[Hp.AA,ho]) ?_)
  funext k
  by_cases xT:k=a.block
  .subst xT;simp[Hp.del,hn]
  .simp[Hp.del,xT,Hp.set]
theorem Fj.sub {s:Nat}{Z2:Hp}{p:Option Addr}{n c i m:Nat}{cs:List Value}(h:Fj s Z2 p n cs)(him:i+m<=n)(hc:n<=c):Fj s Z2 (E4 p i c s) m ((cs.drop (i*s)).take (m*s)):=by
 obtain⟨h2,h3,G⟩:=h;have hle:i*s+m*s<=n*s:=by rw[<-AkB];exact Ajk _ him
 refine⟨by rw[AjJ,AjN];omega,by omega,?_⟩;rcases Alp m with hm|hm
 .exact .inl hm
 .rcases G with G|⟨b,o,rfl,G⟩
  .omega
  .refine .inr ⟨b,o+i*s,?_,G.part⟩;unfold E4;rw[Aiw (by omega)];simp[Cm]
theorem RP.one (Z2:Hp)(vs:List Value)(x:Vv)(h:RP Z2 vs x):FZ vs:=by
 obtain⟨p,n,c,q,m,d,rfl,_⟩:=h;intro u G;simp only[Ai1,AjK,Ajl]at G;rcases G with rfl|rfl|rfl|rfl<;>rfl
theorem AN.take {α:Type}{s:Nat}{E:Hp->List Value->α->Prop}{Z0 Z2:Hp}{p:Option Addr}{n c m:Nat}{xs:List α}(h:AN s E Z0 Z2 p n c xs)(hm:m<=n):AN s E Z0 Z2 p m c (xs.take m):=by
 obtain⟨⟨hl,cs,ho,G⟩,hx⟩:=h;exact⟨⟨by rw[AjJ];omega,_,BH.take ho hm,G.take m⟩,hx⟩
section
variable {Z2 Z' Z0:Hp}{R:Rr}
theorem Tl {p7 q:Option Addr}{j d b:Nat}{cs:List Value}{L:List Vv}{Φ:Value->Hp->Prop}(Rc:Fj 4 Z2 q j cs)(hc:Ch 4 RP (Z2.del p7) cs L)(hp7:∀a,p7=some a->Z2 a.block≠none)(hn:Z2 b=none)(hj:j<=1000000000)
  (hΦ:∀p' c' y,Af 4 RP (y.del p7) p' j L->Ext Z2 y->Φ (.slice p' j c') y):AI prog (Builtin.append_ #[206,206] 206 #[.slice (some ⟨b,0,none⟩) 0 0,.slice q j d]) (Z2.set b (.cells #[] 164 (0,0))) Φ:=by
 have hx:=Ext.set (o:=.cells #[] 164 (0,0)) hn;refine D9 BH.empty (Rc.mono hx) (Ch.uB RP.one hc (by decide)) (by omega) λp' c' y CR N9=>?_;have hq:∀a:Addr,(some (⟨b,0,none⟩:Addr))=some a->Z2 a.block=none:=λa ha=>by cases ha;exact hn
 rw[Ajz]at CR ⊢;rw[Aj9]at CR;have G:Ext Z2 y:=Kv hq N9 hx;have AFF:∀a,p'=some a->Z2 a.block=none:=HB hq N9 hx;refine hΦ p' c' y ⟨?_,cs,BH.rd (BH.ABY CR λa ha a' sY e=>hp7 a' sY (by rw[<-e];exact AFF a ha)),hc.mono RP.mono (G.del _)⟩ G;have:=hc.1;have:=Rc.1;omega
theorem si {α:Type}{f:α->Nat}:∀{l:List α} {y:α},y∈l->f y<=(l.map f).sum
 | a::l,y,h=>by
  rw[AjR,Akf];rcases Ai1.1 h with rfl|h
  .omega
  .have:=si (f:=f) h;omega
structure AFf (R:Rr)(Z2:Hp)(X:Option Vv):Prop where
 ok:∀x Z' p n c q m d,X=some x->Ext Z2 Z'->Af 2 DH Z' p n x.vec->Af 2 Xv Z' q m x.Q5->R (.T #[.agg #[.I x.kind,.U x.v,.slice p n c,.slice q m d],.I 0]) Z'
 no:X=none->∀Z',Ext Z2 Z'->R (.T #[.agg #[.I 0,.U 0,.N,.N],.I 223]) Z'
theorem AFf.vk {X:Option Vv}(h:AFf R Z2 X)(hx:Ext Z2 Z'):AFf R Z' X:=⟨λx G p n c q m d h0 h1 h2 h3=>h.ok x G p n c q m d h0 (hx.trans h1) h2 h3,λh0 G h1=>h.no h0 G (hx.trans h1)⟩
theorem ALZ {i f:Nat}(h:AFe[i]?=some f):Enters prog f:=by
 have G:i<7:=(Ai0.1 h).1
 match i,h with
 | 0,h=>cases h;exact Cq.en
 | 1,h=>cases h;exact A2.en
 | 2,h=>cases h;exact Ah.en
 | 3,h=>cases h;exact Aj.en
 | 4,h=>cases h;exact Ag.en
 | 5,h=>cases h;exact ET.en
 | 6,h=>cases h;exact B7.en
abbrev ATs:Obj:=.cells #[.I 0,.U 0,.N,.N] 164 (0,0)
theorem ABq {ab n c:Nat}{p:Option Addr}{ss:List Sr}{t:Int}{T:List Nd}{kf:Int}(hA:Ue Z2 ab ss t)(hg:Gl Z2)(hr:Af 10 H8 Z2 p n T)(hS:SsG ss)(hn:n<=4096)(ht:-4611686018427387904<=t/\t<=4611686018427387904)(hty:Ex T []=some [kf])
  (h:AFf R Z2 ((VJ FF ss t T []).bind List.head?)):Spec prog 79 #[.pointer (some ⟨ab,0,none⟩),.slice p n c] Z2 R:=by
 have hTl:T.length=n:=hr.1;have AaT:=hS.ok.len;refine DK.start λ_=>WU.start λrb hrb=>⟨_,_,_,rfl,?_⟩;have xb:=Ext.set (o:=.cells #[.nilFunc,.func (.func 129) #[] #[],.func (.func 130) #[] #[],.func (.func 131) #[] #[],.func (.func 132) #[] #[],.func (.func 133) #[] #[],.func (.func 134) #[] #[],.func (.func 135) #[] #[]] 207 (0,0)) hrb;have AaU:∀(kind:Int) f,1<=kind->kind<=7->AFe[kind.toNat-1]?=some f->Hp.ld (Z2.set rb (.cells #[.nilFunc,.func (.func 129) #[] #[],.func (.func 130) #[] #[],.func (.func 131) #[] #[],.func (.func 132) #[] #[],.func (.func 133) #[] #[],.func (.func 134) #[] #[],.func (.func 135) #[] #[]] 207 (0,0))) ⟨rb,0+kind.toNat*1,none⟩=some (.func (.func f) #[] #[]):=λkind f h1 h7 hf=>by
  refine AJ (Hp.AA _ _ _) ?_;rw[show 0+kind.toNat*1=(kind.toNat-1)+1 by omega];have Ax:kind.toNat-1<7:=by omega
  generalize kind.toNat-1=i at *
  match i,hf with
  | 0,hf=>cases hf;rfl
  | 1,hf=>cases hf;rfl
  | 2,hf=>cases hf;rfl
  | 3,hf=>cases hf;rfl
  | 4,hf=>cases hf;rfl
  | 5,hf=>cases hf;rfl
  | 6,hf=>cases hf;rfl
 generalize Z2.set rb _=Zb at *
 replace h:=h.vk xb
 suffices H:∀g i:Nat,∀p7 n7 c7 Z' st,n-i=g->i<=n->AN 4 RP Zb Z' p7 n7 c7 st->(∀x∈st,VG x)->st.length<=i->(st.map Fi).sum<=i*ss.length->Ex (T.drop i) (st.map (·.kind))=some [kf]->VJ FF ss t T []=VJ FF ss t (T.drop i) st->DK.Dq R (aD ab 0) 0 0 none 0 0 none 0 0 (aD rb 0) 8 8 p7 n7 c7 p n c n i Z' from
  H n 0 none 0 0 Zb [] rfl (AjB _) (AN.nil (.refl _)) (λx hx=>(by cases hx)) (AjB _) (AjB _) hty rfl
 intro g
 induction g with
 | zero=>
  intro i p7 n7 c7 Z' st hgi hi ho hV hsl AaV hT CD;rw[AjW (by omega)]at hT CD;have hk:st.map (·.kind)=[kf]:=by simpa[Ex] using hT
  have ATt:VJ FF ss t T []=some st:=by rw[CD];rfl
  rw[ATt]at h
  match st,hk with
  | [x],_=>
   obtain⟨b,o,G,nv,cv,qv,mv,dv,rfl,h1,h2,h3,h4,h5,h6⟩:=RP.at (ho.rd RP.mono) (i:=0) (x:=x) rfl;have hn7:1=n7:=ho.1.1;simp only[Akl,AkK]at h1 h2 h3 h4;exact DK.Bk ⟨λAx=>by omega,λ_=>⟨b,o,rfl,by omega,x.kind,x.v,G,nv,cv,qv,mv,dv,⟨h1,h2,h3,h4,trivial⟩,h.ok x Z' G nv cv qv mv dv rfl ho.up h5 h6⟩⟩
 | succ g ih=>
  intro i p7 n7 c7 Z' st hgi hi ho hV hsl AaV hT CD;have CF:i<n:=by omega
  obtain⟨x,hx⟩:=hr.ex CF;obtain⟨b,o,p1,k1,c1,q1,m1,d1,rfl,DD,hmt,hnm⟩:=H8.at hr hx;have hX:=xb.trans ho.up;rw[BZ hx]at hT CD;have L4:(Bp x (st.map (·.kind))).1=0:=AlD λAd=>by
   rw[Ex,Aiw Ad]at hT;cases hT
  rw[Ex,Aiy L4]at hT;obtain⟨hf,hpl,hmo,hT0,hT1⟩:=sf L4;have hpn:=kz hf;obtain⟨tp,htp⟩:∃tp:Nat,x.parts=tp:=⟨x.parts.toNat,by omega⟩;have hpt:x.parts.toNat=tp:=by omega
  have B9:st.length=n7:=ho.1.1;rw[Ajn,B9,hpt]at hT0 hT1;rw[Ajn]at hpl;rw[hT1]at hT;rw[<-AmU]at hT0 hT;rw[<-AmS]at hT;rw[VJ,B9,hpt]at CD;have hLl:(st.drop (n7-tp)).length=tp:=by rw[AjN];omega
  have hLV:∀y∈st.drop (n7-tp),VG y:=λy hy=>hV y (Alf hy);have RT:(st.map Fi).sum=((st.take (n7-tp)).map Fi).sum+((st.drop (n7-tp)).map Fi).sum:=by
   rw[<-Aka,<-AjP,Aj4]
  have hsb:i*ss.length<=4096*10000000:=Nat.mul_le_mul (by omega) AaT;have VK:∀y∈st.drop (n7-tp),Fi y<=100000000000:=λy hy=>by
   have:=si (f:=Fi) (Alf hy);omega
  have AZ:=ho.1.2;obtain⟨cs,Qr,hcc⟩:=AZ;have Tm:=BH.cap Qr;have e1:Int.toNat ((n7:Int)-x.parts)=n7-tp:=by omega
  have Rc:Fj 4 Z' (E4 p7 (Int.toNat ((n7:Int)-x.parts)) c7 4) (n7-Int.toNat ((n7:Int)-x.parts)) ((cs.drop ((n7-tp)*4)).take ((n7-(n7-tp))*4)):=by
   rw[e1];exact Fj.sub Qr.rd (by omega) Tm
  have hcd:Ch 4 RP (Z'.del p7) ((cs.drop ((n7-tp)*4)).take ((n7-(n7-tp))*4)) (st.drop (n7-tp)):=by
   have h9:=hcc.drop (n7-tp);rwa[Ai4 (by have:=Qr.1;rw[AjN,this,<-Nat.sub_mul];exact Ai7 _)]
  have hp7:∀a,p7=some a->Z' a.block≠none:=ho.1.block;have hk7:∀{y:Hp},Ext Z' y->∀a,p7=some a->∃o,y a.block=some o:=fun {y} hy a ha=>by
   cases hh:Z' a.block with
   | none=>exact absurd hh (hp7 a ha)
   | some u=>exact⟨u,hy _ _ hh⟩
  let ATv:Hp->Int->Int->Option Addr->Nat->Option Addr->Nat->Int->Prop:=λy2 k v G nv qv mv e=>
   (∃z,SQ FF ss t x (st.drop (n7-tp))=some z/\k=z.kind/\v=z.v/\e=0/\AN 4 RP Zb y2 p7 n7 c7 st/\Af 2 DH (y2.del p7) G nv z.vec/\Af 2 Xv (y2.del p7) qv mv z.Q5)\/(SQ FF ss t x (st.drop (n7-tp))=none/\e=223/\k=0/\v=0/\Ext Zb y2)
  have hkr:1<=x.kind/\x.kind<=7:=by
   have EI:=I3 hf;unfold G7 at EI;by_cases h1:x.kind=1
   .omega
   by_cases h2:x.kind=2
   .omega
   by_cases h3:x.kind=3
   .omega
   by_cases h4:x.kind=4
   .omega
   by_cases h5:x.kind=5
   .omega
   by_cases h6:x.kind=6
   .omega
   rw[Aiw h1,Aiw h2,Aiw h3,Aiw h4,Aiw h5,Aiw h6]at EI;have:=(AjA EI).1;omega
  obtain⟨f0,hf0⟩:∃f0,AFe[x.kind.toNat-1]?=some f0:=⟨_,Ai3 (show x.kind.toNat-1<7 by omega)⟩;have vK:=(ho.up).ld (AaU x.kind f0 hkr.1 hkr.2 hf0);have AFg:=ALZ hf0;have sj:∀(y:Hp) (Uz:Option Addr) (U0:Nat),Ext Z' y->Af 4 RP (y.del p7) Uz (n7-Int.toNat ((n7:Int)-x.parts)) (st.drop (n7-tp))->∀(R':Rr),(∀y2 k v G nv cv qv mv dv e,ATv y2 k v G nv qv mv e->R' (.T #[.agg #[.I k,.U v,.slice G nv cv,.slice qv mv dv],.I e]) y2)->
    Spec prog f0 #[.pointer (some ⟨ab,0,none⟩),QR x p1 k1 c1 q1 m1 d1,.slice Uz (n7-Int.toNat ((n7:Int)-x.parts)) U0] y R':=λy Uz U0 hy hrd R' Mf=>by
   have ABr:Ext Zb (y.del p7):=ho.2.trans (hy.del p7);have hσ:Ext Z2 (y.del p7):=xb.trans ABr;have hRV:Kf (λe O'2=>∀y2,(∀a,p7=some a->y2 a.block=y a.block)->y2.del p7=O'2->R' e y2) (y.del p7) (SQ FF ss t x (st.drop (n7-tp))):=by
    refine⟨λz O'2 G nv cv qv mv dv hz Aw D7 G0 _ _ y2 hy2 ALa=>?_,λhz O'2 Aw y2 hy2 ALa=>?_⟩
    .subst ALa;refine Mf y2 _ _ _ _ _ _ _ _ _ (.inl ⟨z,hz,rfl,rfl,rfl,⟨⟨ho.1.1,cs,?_,hcc.mono RP.mono ((hy.del p7).trans Aw)⟩,ABr.trans Aw⟩,D7,G0⟩);exact BH.of_eq (BH.mono hy Qr) hy2
    .subst ALa;exact Mf y2 _ _ _ _ _ _ _ _ _ (.inr ⟨hz,rfl,rfl,rfl,(ABr.trans Aw).trans (Ext.Kt _ _)⟩)
   obtain⟨f,hf1,hf2,hf3,Pd,YX⟩:=vy (p:=p1) (c:=c1) (q:=q1) (d:=d1) (e:=U0) (hA.mono hσ) (hg.mono hσ) (hmt.mono Jj.mono hσ) (hnm.mono hσ) hf hmo hT0 (by rw[hLl,htp]) hLV VK hrd hS ht hRV;rw[hf0]at hf3;cases hf3;exact Spec.ALY (hk7 hy) YX
  have tail:∀(y2:Hp) (E2:Nat) (k v:Int) (G:Option Addr) (nv cv:Nat) (qv:Option Addr) (mv dv:Nat) (e:Int),y2 E2=none->ATv y2 k v G nv qv mv e->AI prog (Instr.storeAt 164 (.pointer (aD E2 0)) (.agg #[.I k,.U v,.slice G nv cv,.slice qv mv dv])) (Hp.set y2 E2 ATs) (λ_ AK=>Br (e≠0) (R (.T #[.agg #[.I 0,.U 0,.N,.N],.I e]) AK) (((0:Int)<=((n7:Int)-x.parts)/\((n7:Int)-x.parts)<=(c7:Int))/\∃R9 SA SB SC SD SE SF SG,Az AK E2 0 [.I R9,.U SA,.slice SB SC SD,.slice SE SF SG]/\Al AK λcU=>AI prog (Builtin.append_ #[206,206] 206 #[(.slice p7 (Int.toNat ((n7:Int)-x.parts)) c7),(.slice (aD cU 0) 1 1)]) (Hp.set AK cU (.cells #[.I R9,.U SA,.slice SB SC SD,.slice SE SF SG] 164 (0,0))) (CS λjc n50 mH Am=>AL ((i:Int)+1)/\DK.Dq R (aD ab 0) 0 0 none 0 0 none 0 0 (aD rb 0) 8 8 jc n50 mH (aD b o) n c n ((i:Int)+1) Am))):=λy2 E2 k v G nv cv qv mv dv e hb hC=>by
   refine YT rfl (Hp.AA _ _ _) (by simp[Value.oneCell']) rfl ?_;rw[Hp.set_set];have x3:=Ext.set (o:=.cells #[.I k,.U v,.slice G nv cv,.slice qv mv dv] 164 (0,0)) hb;rcases hC with ⟨z,hz,rfl,rfl,rfl,Bq,D7,G0⟩|⟨hz,rfl,rfl,rfl,Aw⟩
   .refine⟨λhh=>absurd rfl hh,λ_=>⟨by omega,z.kind,z.v,G,nv,cv,qv,mv,dv,Az.EW (Hp.AA _ _ _),λcU ABg=>?_⟩⟩;obtain⟨w1,w2,w3⟩:=se hS.ok hS.nn hf hT0 (by rw[hLl,htp]) hLV hz;rw[hz]at CD;have Dh:=(Bq.mono RP.mono x3).take (m:=n7-tp) (by omega);have hxd:=x3.del p7;have he:RP ((y2.set E2 (.cells #[.I z.kind,.U z.v,.slice G nv cv,.slice qv mv dv] 164 (0,0))).del p7) [.I z.kind,.U z.v,.slice G nv cv,.slice qv mv dv] z:=⟨G,nv,cv,qv,mv,dv,rfl,D7.mono DH.mono hxd,G0.mono Xv.mono hxd⟩;rw[e1];refine AN.Ey RP.mono Dh rfl (RP.one _ _ _ he) he (by omega) (λp' c' y4 Iy _=>⟨_,_,_,rfl,AO CF hr.big,ih (i+1) _ _ _ _ (st.take (n7-tp)++[z]) (by omega) (by omega) Iy (λu hu=>?_) (by rw[Ai5,AjJ,Ajc];omega) ?_ ?_ ?_⟩) ABg
    .rcases AjU.1 hu with hu|hu
     .exact hV u (Ak7 hu)
     .rw[Ai2]at hu;rw[hu];exact w1
    .rw[AjP,Aka,Akn,List.sum_singleton,Akj];omega
    .rw[AjP,Akn,w2];exact hT
    .exact CD
   .refine⟨λ_=>h.no ?_ _ (Aw.trans x3),λhh=>absurd (by decide) hh⟩;rw[CD,hz];rfl
  have AaX:∃u,Z' rb=some u:=by
   unfold Hp.ld at vK;cases hq:Z' rb with
   | none=>rw[hq]at vK;cases vK
   | some u=>exact⟨u,rfl⟩
  obtain⟨urb,az⟩:=AaX;refine DK.Bk ⟨λ_=>⟨b,o,rfl,by omega,_,_,_,_,_,_,_,_,_,_,_,_,_,_,by simpa using DD.mono hX,λ_=>⟨by unfold AL;omega,rb,0,rfl,by omega,_,vK,by omega,λUy vz=>⟨?_,λE2 fg=>?_⟩,λE2 fg Uy vz=>?_⟩⟩,λhh=>by omega⟩
  .refine Tl Rc hcd hp7 vz (by omega) λUz U0 y hrd hy=>⟨Uz,_,U0,rfl,λk hk u hu=>?_,?_,λE2 fg=>?_⟩
   .rw[Ai2]at hk;subst hk;rw[(Ext.set vz) _ _ az]at hu;rw[hy _ _ az];exact hu
   .exact⟨f0,#[],#[],rfl,AFg,sj y Uz U0 hy hrd _ λy2 k v G nv cv qv mv dv e hC=>⟨k,v,G,nv,cv,qv,mv,dv,e,rfl,λE2 fg=>tail y2 E2 k v G nv cv qv mv dv e fg hC⟩⟩
   .exact⟨f0,#[],#[],rfl,AFg,Spec.AQ fg (sj y Uz U0 hy hrd _ λy2 k v G nv cv qv mv dv e hC IF=>⟨k,v,G,nv,cv,qv,mv,dv,e,rfl,tail y2 E2 k v G nv cv qv mv dv e IF hC⟩)⟩
  .have AFQ:=(Hp.AM fg);refine AI.AQ fg (Tl Rc hcd hp7 vz (by omega) λUz U0 y hrd hy hny=>⟨Uz,_,U0,rfl,λk hk u hu=>?_,?_⟩)
   .rw[Ai2]at hk;subst hk;have Ad:k≠E2:=λe=>by rw[e,AFQ.2]at az;cases az
    rw[Hp.AB Ad]at hu ⊢;rw[(Ext.set vz) _ _ az]at hu;rw[hy _ _ az];exact hu
   .exact⟨f0,#[],#[],rfl,AFg,Spec.AQ hny (sj y Uz U0 hy hrd _ λy2 k v G nv cv qv mv dv e hC IF=>⟨k,v,G,nv,cv,qv,mv,dv,e,rfl,tail y2 E2 k v G nv cv qv mv dv e IF hC⟩)⟩
  .have AFh:=(Hp.AM vz);have AFQ:(Z'.set Uy (.cells #[] 164 (0,0))) E2=none:=by rw[Hp.AB (AjI AFh.1)];exact fg
   dsimp only;rw[Hp.BA (AjI AFh.1)];refine AI.AQ AFQ (Tl Rc hcd hp7 AFh.2 (by omega) λUz U0 y hrd hy hny=>⟨Uz,_,U0,rfl,λk hk u hu=>?_,?_⟩)
   .rw[Ai2]at hk;subst hk;have Ad:k≠E2:=λe=>by rw[e,fg]at az;cases az
    rw[Hp.AB Ad]at hu ⊢;rw[(Ext.set AFh.2) _ _ az]at hu;rw[hy _ _ az];exact hu
   .exact⟨f0,#[],#[],rfl,AFg,Spec.AQ hny (sj y Uz U0 hy hrd _ λy2 k v G nv cv qv mv dv e hC IF=>⟨k,v,G,nv,cv,qv,mv,dv,e,rfl,tail y2 E2 k v G nv cv qv mv dv e IF hC⟩)⟩
end
def Kg (T:List Nd)(ss:List Sr):Int:=match HT T with
 | none=>220
 | some k=>if k=3 then 220 else if Da none ss=true then 0 else 224
def instF (T:List Nd)(ss:List Sr)(t:Int):Int×List El:=
 if Kg T ss≠0 then(Kg T ss,[]) else if ¬(-1099511627776<=t/\t<=1099511627776) then(221,[]) else match IP FF T ss t with
  | none=>(223,[])
  | some l=>(0,l)
structure Modest (T:List Nd)(ss:List Sr):Prop where
 t:T.length<=2000000
 tx:∀x∈T,x.text.size<=4611686018427387904
 s:ss.length<=10000000
 ps:∀s∈ss,s.ps.length<=1000000000
 nn:∀s∈ss,∀p∈s.ps,0<=p.2
theorem I5:∀{ss:List Sr} {q:Option (List Lb)},Da q ss=true->∀s∈ss,VF s.ls=0/\PD s.ps=true
 | s::l,q,h,x,G=>by
  rw[Pu]at h;simp only[AjD,AjH]at h;rcases Ai1.1 G with rfl|G
  .exact⟨h.1.1.1,h.1.1.2⟩
  .exact I5 h.2 x G
theorem SsG.of {T:List Nd}{ss:List Sr}(G:Modest T ss)(h:Da none ss=true):SsG ss:=
 ⟨⟨λs hs=>vT (I5 h s hs).2,λs hs=>BM.of (I5 h s hs).1,G.s⟩,G.nn,G.ps⟩
section
variable {Z2 Z' Z0:Hp}{R:Rr}
theorem k8 {p q:Option Addr}{n c m d:Nat}{T:List Nd}{ss:List Sr}{t kf:Int}(hg:Gl Z2)(hr:Af 10 H8 Z2 p n T)(hs:Af 2 BT Z2 q m ss)(hS:SsG ss)(hn:n<=4096)(ht:-4611686018427387904<=t/\t<=4611686018427387904)(hty:Ex T []=some [kf])
  (h:∀l p' n' c' Z',IP FF T ss t=some l->Ext Z2 Z'->Af 2 DH Z' p' n' l->R (.T #[.slice p' n' c',.I 0]) Z') (h':IP FF T ss t=none->∀Z',Ext Z2 Z'->R (.T #[.N,.I 223]) Z') :
  Spec prog 46 #[.slice p n c,.slice q m d,.I t] Z2 R:=by
 refine Hk.start λab hab=>?_;have G:=Ext.set (o:=.cells #[.slice q m d,.I t] 168 (0,0)) hab;have hA:Ue (Z2.set ab (.cells #[.slice q m d,.I t] 168 (0,0))) ab ss t:=⟨⟨q,m,d,AJ (Hp.AA _ _ _) rfl,hs.mono BT.mono G⟩,AJ (Hp.AA _ _ _) rfl⟩;refine ABq hA (hg.mono G) (hr.mono H8.mono G) hS hn ht hty ⟨λx Z1 pv nv cv qv mv dv hx BS h1 h2=>?_,λAZ Z1 BS=>?_⟩
 .have hm:IP FF T ss t=some (if x.kind=1 then[⟨[],x.v⟩] else x.vec):=by
   unfold IP;cases CD:VJ FF ss t T [] with
   | none=>rw[CD]at hx;cases hx
   | some st=>
    rw[CD]at hx;show(st.head?.map _)=_
    rw[show st.head?=some x from hx];rfl
  refine⟨_,_,_,_,_,_,_,_,_,rfl,λ_=>⟨λhk=>λNA AaY=>Hk.A1 ?_,λhk=>Hk.A1 ?_⟩⟩
  .rw[Aiy hk]at hm;refine h _ _ _ _ _ hm (G.trans (BS.trans (.set AaY))) ⟨rfl,[.N,.U x.v],⟨rfl,by omega,.inr ⟨NA,0,rfl,Az.EW (c:=[.N,.U x.v]) (Hp.AA _ _ _)⟩⟩,rfl,λi y hy=>?_⟩;cases i with
   | zero=>
    simp only[Ajj,Ai9]at hy;subst hy;exact⟨none,0,0,rfl,Af.nil⟩
   | succ i=>simp at hy
  .rw[Aiw hk]at hm;exact h _ _ _ _ _ hm (G.trans BS) h1
 .have hm:IP FF T ss t=none:=by
   unfold IP;cases CD:VJ FF ss t T [] with
   | none=>rfl
   | some st=>
    rw[CD]at AZ;show(st.head?.map _)=_
    rw[show st.head?=none from AZ];rfl
  exact⟨_,_,_,_,_,_,_,_,_,rfl,λ_=>⟨λhk=>absurd hk (by decide),λ_=>Hk.A1 (h' hm _ (G.trans BS))⟩⟩
theorem v7 {p q:Option Addr}{n c m d:Nat}{T:List Nd}{ss:List Sr}(hr:Af 10 H8 Z2 p n T)(hs:Af 2 BT Z2 q m ss)(hM:Modest T ss)(h:∀Z',Ext Z2 Z'->R (.returned (.I (Kg T ss))) Z'):Spec prog 44 #[.slice p n c,.slice q m d] Z2 R:=by
 have hl:T.length=n:=hr.1;have hMt:=hM.t;refine cP.start (Lq hr (by omega) hM.tx (λk Z1 hk G=>⟨_,_,_,rfl,λhh=>absurd rfl hh,λ_=>⟨λh3=>?_,λh3=>PE (hs.mono BT.mono G) λZ22 Aw=>⟨_,rfl,λAd=>?_,λh0=>?_⟩⟩⟩) λk j e Z1 hk he G=>⟨_,_,_,rfl,λ_=>?_,λhh=>absurd he hh⟩)
 .have:=h Z1 G;rwa[show Kg T ss=220 by unfold Kg;rw[hk];exact Aiy h3]at this
 .have:=h Z22 (G.trans Aw);have ho:¬Da none ss=true:=λho=>Ad (by rw[ho];rfl);rwa[show Kg T ss=224 by unfold Kg;rw[hk];show(if k=3 then _ else _)=_;rw[Aiw h3,Aiw ho]]at this
 .have:=h Z22 (G.trans Aw);have ho:Da none ss=true:=by
   cases hq:Da none ss with
   | true=>rfl
   | false=>rw[hq]at h0;exact absurd (by decide) h0
  rwa[show Kg T ss=0 by unfold Kg;rw[hk];show(if k=3 then _ else _)=_;rw[Aiw h3,Aiy ho]]at this
 .have:=h Z1 G;rwa[show Kg T ss=220 by unfold Kg;rw[hk]]at this
def EIn (O22:Hp)(vs:List Value)(x:El×Nat):Prop:=∃p n c,vs=[.slice p n c,.slice (aD x.2 0) 1 1]/\Gy O22 p n x.1.ls
theorem EIn.mono:HA EIn:=λ_ _ _ _ G ⟨p,n,c,hv,h⟩=>⟨p,n,c,hv,h.mono CW.mono G⟩
structure wC (t:Int)(O22 Z2:Hp)(p:Option Addr)(n c:Nat)(l:List El)(bs:List Nat):Prop where
 len:bs.length=l.length
 own:∃cs,BH 2 Z2 p n c cs/\Ch 2 EIn O22 cs (l.zip bs)
 aJ:∀(i b:Nat) (e:El),bs[i]?=some b->l[i]?=some e->Z2 b=some (.cells #[.I t,.U e.v] 111 (0,0))
 op:∀a,p=some a->O22 a.block=none/\a.block ∉ bs
 tb:∀b∈bs,O22 b=none
 nd:bs.Nodup
 ext:Ext O22 Z2
theorem wC.known {t:Int}{O22:Hp}{p:Option Addr}{n c:Nat}{l:List El}{bs:List Nat}(h:wC t O22 Z2 p n c l bs):∀b∈bs,∃u,Z2 b=some u:=λb hb=>by
 obtain⟨i,hi⟩:=Ajg.1 hb;have G:=(Ai0.1 hi).1;exact⟨_,h.aJ i b _ hi (Ai3 (by rw[<-h.len];exact G))⟩
theorem wC.rd {t:Int}{O22:Hp}{p:Option Addr}{n c:Nat}{l:List El}{bs:List Nat}(h:wC t O22 Z2 p n c l bs):Af 2 BT Z2 p n (l.map λe=>⟨e.ls,[(t,e.v)]⟩):=by
 obtain⟨cs,h1,h2⟩:=h.own;have hz:(l.zip bs).length=l.length:=by rw[AlZ,h.len,Amb]
 have k9:l.length=n:=by
  have a1:=h1.1;have a2:=h2.1;rw[hz]at a2;omega
 refine⟨by rw[Ajn];exact k9,cs,h1.rd,by rw[h2.1,hz,Ajn],λi s G=>?_⟩;rw[Aj7]at G;cases he:l[i]? with
 | none=>rw[he]at G;cases G
 | some e=>
  rw[he]at G;simp only[Aju,Ai9]at G;subst G;have Ax:=(Ai0.1 he).1;obtain⟨b,hb⟩:∃b,bs[i]?=some b:=⟨_,Ai3 (by rw[h.len];exact Ax)⟩;obtain⟨p1,n1,c1,hv,kt⟩:=h2.2 i (e,b) (Al4.2 ⟨he,hb⟩);refine⟨p1,n1,c1,aD b 0,1,1,hv,kt.mono CW.mono h.ext,⟨rfl,[.I t,.U e.v],⟨rfl,by omega,.inr ⟨b,0,rfl,Az.EW (c:=[.I t,.U e.v]) (h.aJ i b e hb he)⟩⟩,rfl,λj y hy=>?_⟩,Ai7 _⟩;cases j with
  | zero=>simp only[Ajj,Ai9]at hy;subst hy;rfl
  | succ j=>simp at hy
theorem wC.add {t:Int}{O22:Hp}{p:Option Addr}{n c b:Nat}{l:List El}{bs:List Nat}{e:El}{pl:Option Addr}{nl cl:Nat}{y:Hp}{Φ:Value->Hp->Prop}(h:wC t O22 Z2 p n c l bs)(hy:Ext Z2 y)(hr:Gy (Z2.new y) pl nl e.ls)(hb:y b=none)(hn:n<=1000000000000)
  (hΦ:∀O'2 p' c' Z',wC t O'2 Z' p' (n+1) c' (l++[e]) (bs++[b])->Ext O22 O'2->Φ (.slice p' (n+1) c') Z') :
  Al (Hp.set y b (.cells #[.I t,.U e.v] 111 (0,0))) λWX=>AI prog (Builtin.append_ #[22,22] 22 #[.slice p n c,(.slice (aD WX 0) 1 1)]) (Hp.set (Hp.set y b (.cells #[.I t,.U e.v] 111 (0,0))) WX (.cells #[.slice pl nl cl,.slice (aD b 0) 1 1] 98 (0,0))) Φ:=λWX ALb=>by
 obtain⟨cs,h1,h2⟩:=h.own;have xb:=Ext.set (o:=.cells #[.I t,.U e.v] 111 (0,0)) hb;have xc:=Ext.set (o:=.cells #[.slice pl nl cl,.slice (aD b 0) 1 1] 98 (0,0)) ALb;have X:=hy.trans (xb.trans xc);have hz:(l.zip bs).length=l.length:=by rw[AlZ,h.len,Amb]
 have ALc:Z2 b=none:=A4 hy hb;have HS:b≠WX:=λe=>by rw[<-e,Hp.AA]at ALb;cases ALb
 refine D9 (h1.mono X) (q:=aD WX 0) (ys:=[.slice pl nl cl,.slice (aD b 0) 1 1]) ⟨rfl,by omega,.inr ⟨WX,0,rfl,Az.EW (c:=[.slice pl nl cl,.slice (aD b 0) 1 1]) (Hp.AA _ _ _)⟩⟩ (λu hu=>by
  simp only[Ai1,AjK,Ajl]at hu;rcases hu with rfl|rfl<;>rfl) (by omega) λp' c' Z5 SO gn=>?_
 have T:∀k u,Z2 k=some u->(∀a,p=some a->k≠a.block)->Z5 k=some u/\∀a,p'=some a->k≠a.block:=λk u hk Ad=>by
  obtain⟨a1,a2⟩:=Aq.1 (gn k u (Aq.2 ⟨Ad,X _ _ hk⟩));exact⟨a2,a1⟩
 have Tb:=Aq.1 (gn b _ (Aq.2 ⟨λa ha e=>h1.block a ha (by rw[<-e];exact ALc),xc _ _ (Hp.AA _ _ _)⟩));have tt:Ext O22 (O22.or (Z2.new y)):=Ext.DZ _ _;have nt:Ext (Z2.new y) (O22.or (Z2.new y)):=Ext.EH λk hk=>by
  cases hh:O22 k with
  | none=>rfl
  | some u=>
   have h3:=h.ext _ _ hh;cases h4:(Z2.new y) k with
   | none=>exact absurd h4 hk
   | some v=>rw[(Ae.1 h4).1]at h3;cases h3
 have kn:∀k,(∃u,Z2 k=some u)->O22 k=none->(O22.or (Z2.new y)) k=none:=λk ⟨u,hu⟩ hk=>by
  rw[Hp.EH hk];cases hh:(Z2.new y) k with
  | none=>rfl
  | some v=>rw[(Ae.1 hh).1]at hu;cases hu
 have tb:(O22.or (Z2.new y)) b=none:=by
  rw[Hp.EH (A4 h.ext ALc)];cases hh:(Z2.new y) b with
  | none=>rfl
  | some v=>rw[(Ae.1 hh).2]at hb;cases hb
 have hbn:b ∉ bs:=λhc=>by obtain⟨u,hu⟩:=h.known b hc;rw[ALc]at hu;cases hu
 have hE5:Ext (O22.or (Z2.new y)) Z5:=λk u hk=>by
  have hyk:y k=some u:=(Ext.j6 (h.ext.trans hy) (Ext.CX _ _)) _ _ hk;refine(Aq.1 (gn k u (Aq.2 ⟨λa ha e=>?_,xc _ _ (xb _ _ hyk)⟩))).2;have xT:∃u,Z2 a.block=some u:=by
   cases hh:Z2 a.block with
   | none=>exact absurd hh (h1.block a ha)
   | some u=>exact⟨u,rfl⟩
  rw[e,kn a.block xT (h.op a ha).1]at hk;cases hk
 refine hΦ (O22.or (Z2.new y)) p' c' Z5 ⟨by simp[h.len],⟨_,SO,?_⟩,λi b' e' G VD=>?_,λa ha=>⟨?_,λhc=>?_⟩,λb' G=>?_,?_,hE5⟩ tt
 .rw[List.zip_append h.len.symm];exact(h2.mono EIn.mono tt).snoc rfl ⟨pl,nl,cl,rfl,hr.mono CW.mono nt⟩
 .rw[AkJ]at G VD;split at G
  .rename_i Ax;rw[Aiy (by rw[<-h.len];exact Ax)]at VD;have:=h.aJ i b' e' G VD;exact(T b' _ this λa ha e=>(h.op a ha).2 (e▸Ai6 G)).1
  .rename_i Ax;rw[Aiw (by rw[<-h.len];exact Ax),<-h.len]at VD;cases hq:i-bs.length with
   | zero=>
    rw[hq]at G VD;simp only[Ajj,Ai9]at G VD;subst G;subst VD;exact Tb.2
   | succ j=>rw[hq]at G;simp at G
 .cases hh:(O22.or (Z2.new y)) a.block with
  | none=>rfl
  | some u=>
   exfalso;have hyk:y a.block=some u:=(Ext.j6 (h.ext.trans hy) (Ext.CX _ _)) _ _ hh;refine(Aq.1 (gn a.block u (Aq.2 ⟨λa' sY e=>?_,xc _ _ (xb _ _ hyk)⟩))).1 a ha rfl;have xT:∃u,Z2 a'.block=some u:=by
    cases hh:Z2 a'.block with
    | none=>exact absurd hh (h1.block a' sY)
    | some u=>exact⟨u,rfl⟩
   rw[e,kn a'.block xT (h.op a' sY).1]at hh;cases hh
 .rcases AjU.1 hc with hc|hc
  .obtain⟨u,hu⟩:=h.known _ hc;exact(T a.block u hu λa' sY e=>(h.op a' sY).2 (e▸hc)).2 a ha rfl
  .rw[Ai2]at hc;exact Tb.1 a ha hc.symm
 .rcases AjU.1 G with G|G
  .exact kn b' (h.known _ G) (h.tb _ G)
  .rw[Ai2]at G;rw[G];exact tb
 .rw[Aks];exact⟨h.nd,by simp,λa ha b' G e=>by rw[Ai2]at G;rw[e,G]at ha;exact hbn ha⟩
end
theorem ABs {ss:List Sr}{t:Int}(hS:SsG ss):∀(T:List Nd) (st r:List Vv) (ty:List Int),Ex T (st.map (·.kind))=some ty->VJ FF ss t T st=some r->(∀x∈st,VG x)->(∀x∈r,VG x)/\(r.map Fi).sum<=(st.map Fi).sum+T.length*ss.length
 | [],st,r,ty,_,hr,hV=>by
  cases hr;exact⟨hV,by omega⟩
 | x::T,st,r,ty,hT,hr,hV=>by
  have L4:(Bp x (st.map (·.kind))).1=0:=AlD λAd=>by
   rw[Ex,Aiw Ad]at hT;cases hT
  rw[Ex,Aiy L4]at hT;obtain⟨hf,hpl,hmo,G,hT1⟩:=sf L4;have hpn:=kz hf;rw[Ajn]at G hT1 hpl;rw[hT1,<-AmU,<-AmS]at hT;rw[<-AmU]at G;rw[VJ]at hr;have hLl:((st.drop (st.length-x.parts.toNat)).length:Int)=x.parts:=by rw[AjN];omega
  have hLV:∀y∈st.drop (st.length-x.parts.toNat),VG y:=λy hy=>hV y (Alf hy);have RT:(st.map Fi).sum=((st.take (st.length-x.parts.toNat)).map Fi).sum+((st.drop (st.length-x.parts.toNat)).map Fi).sum:=by
   rw[<-Aka,<-AjP,Aj4]
  cases hz:SQ FF ss t x (st.drop (st.length-x.parts.toNat)) with
  | none=>rw[hz]at hr;cases hr
  | some z=>
   rw[hz]at hr;obtain⟨w1,w2,w3⟩:=se hS.ok hS.nn hf G hLl hLV hz;obtain⟨g1,g2⟩:=ABs hS T (st.take (st.length-x.parts.toNat)++[z]) r ty (by rw[AjP,Akn,w2];exact hT) hr (λu hu=>by
    rcases AjU.1 hu with hu|hu
    .exact hV u (Ak7 hu)
    .rw[Ai2]at hu;rw[hu];exact w1)
   refine⟨g1,?_⟩;rw[AjP,Aka,Akn,List.sum_singleton]at g2;rw[Aix,Akj];omega
theorem wD {ss:List Sr}{t k:Int}{T:List Nd}{l:List El}(hS:SsG ss)(hT:Ex T []=some [k])(h:IP FF T ss t=some l):(∀e∈l,BM e.ls)/\l.length<=1+T.length*ss.length:=by
 unfold IP at h;cases hr:VJ FF ss t T [] with
 | none=>rw[hr]at h;cases h
 | some st=>
  rw[hr]at h;obtain⟨g1,g2⟩:=ABs hS T [] st _ hT hr (λx hx=>by cases hx)
  change (st.head?.map λv:Vv=>if v.kind=1 then[(⟨[],v.v⟩:El)] else v.vec)=some l at h
  cases st with
  | nil=>cases h
  | cons v st=>
   simp only[Al9,Aju,Ai9]at h;have hv:=g1 v (by simp);rw[AjR,Akf]at g2;simp only[Akb,Al7]at g2;unfold Fi at g2;split at h
   .subst h;exact⟨λe G=>by rw[Ai2]at G;subst G;exact⟨AjB _,λx hx=>by cases hx⟩,by simp⟩
   .subst h;exact⟨λe G=>(hv.el e G).1,by omega⟩
section
variable {Z2 Z' Z0:Hp}{R:Rr}
theorem wE {t:Int}(h:R (.returned (.bool (decide (-1099511627776<=t/\t<=1099511627776)))) Z2):Spec prog 45 #[.I t] Z2 R:=by
 refine cS.start ⟨λG=>?_,λG=>?_⟩
 .rw[show decide (-1099511627776<=t/\t<=1099511627776)=decide (t<=1099511627776) from Aj2.2 ⟨λh=>h.2,λh=>⟨G,h⟩⟩]at h;exact h
 .rw[show decide (-1099511627776<=t/\t<=1099511627776)=false from AjE λhh=>G hh.1]at h;exact h
theorem lA {T:List Nd}{k:Int}(h:HT T=some k):Ex T []=some [k]/\T.length<=4096:=by
 unfold HT at h;cases G:Ex T [] with
 | none=>rw[G]at h;cases h
 | some st=>
  rw[G]at h
  match st with
  | []=>cases h
  | [x]=>
   change (if T.length<=4096 then some x else none)=some k at h
   split at h
   .rename_i h4;cases h;exact⟨rfl,h4⟩
   .cases h
  | _::_::_=>cases h
theorem inst_spec {p q:Option Addr}{n c m d:Nat}{T:List Nd}{ss:List Sr}{t:Int}(hg:Gl Z2)(hr:Af 10 H8 Z2 p n T)(hs:Af 2 BT Z2 q m ss)(hM:Modest T ss)
  (h:∀O22 p' n' c' Z' bs,(instF T ss t).1=0->wC t O22 Z' p' n' c' (instF T ss t).2 bs->Ext Z2 O22->R (.T #[.slice p' n' c',.I 0]) Z') (h':∀Z',(instF T ss t).1≠0->Ext Z2 Z'->R (.T #[.N,.I (instF T ss t).1]) Z') :
  Spec prog 15 #[.slice p n c,.slice q m d,.I t] Z2 R:=by
 refine Eo.start (v7 hr hs hM λZ1 BS=>⟨_,rfl,λAd=>?_,λh0=>wE ⟨_,rfl,λhtf=>?_,λhtt=>?_⟩⟩)
 .have e:instF T ss t=(Kg T ss,[]):=by unfold instF;rw[Aiy Ad]
  rw[e] at h';exact h' Z1 Ad BS
 .have e:instF T ss t=(221,[]):=by unfold instF;rw[Aiw h0,Aiy (AjX htf)]
  rw[e] at h';exact h' Z1 (by dsimp only;decide) BS
 have sM:=AjZ.1 h0;have ht:=AjA htt;obtain⟨k,hk,hk3,AW⟩:∃k,HT T=some k/\k≠3/\Da none ss=true:=by
  unfold Kg at sM;cases hq:HT T with
  | none=>rw[hq]at sM;dsimp only at sM;exact absurd sM (by decide)
  | some k=>
   rw[hq]at sM;dsimp only at sM;by_cases h3:k=3
   .rw[Aiy h3]at sM;exact absurd sM (by decide)
   .rw[Aiw h3]at sM;cases ho:Da none ss with
    | true=>exact⟨k,rfl,h3,rfl⟩
    | false=>rw[ho]at sM;exact absurd sM (by decide)
 have hS:=SsG.of hM AW;obtain⟨CD,hlen⟩:=lA hk;have hl:T.length=n:=hr.1;refine k8 (hg.mono BS) (hr.mono H8.mono BS) (hs.mono BT.mono BS) hS (by omega) (by omega) CD (λl p' n' c' Z22 hm Aw kt=>⟨_,_,_,_,rfl,λhh=>absurd rfl hh,λ_=>?_⟩) λhm Z22 Aw=>⟨_,_,_,_,rfl,λ_=>?_,λhh=>absurd (by decide) hh⟩
 .have e:instF T ss t=(0,l):=by unfold instF;rw[Aiw h0,Aiw (by rw[AjZ];exact ht),hm]
  rw[e]at h;dsimp only at h;have hll:l.length=n':=kt.1;have hX:=BS.trans Aw;obtain⟨mo1,mo2⟩:=wD hS CD hm;have AaZ:n'<=100000000000:=by
   have:=Nat.mul_le_mul hlen hS.ok.len;omega
  suffices H:∀g i:Nat,∀O22 p1 n1 c1 Z3 bs,n'-i=g->i<=n'->wC t O22 Z3 p1 n1 c1 (l.take i) bs->Ext Z22 O22->Eo.Ns R t p1 n1 c1 p' n' c' n' i Z3 from
   H n' 0 Z22 none 0 0 Z22 [] rfl (AjB _) ⟨rfl,⟨[],BH.nil,by simp[Ch]⟩,λi b e hb=>(by simp at hb),λa ha=>(by cases ha),λb hb=>(by cases hb),AkR,.refl _⟩ (.refl _)
  intro g
  induction g with
  | zero=>
   intro i O22 p1 n1 c1 Z3 bs hgi hi hA B0;rw[Ai4 (by omega)]at hA;exact Eo.Lc ⟨λAx=>by omega,λ_=>h O22 p1 n1 c1 Z3 bs rfl hA (hX.trans B0)⟩
  | succ g ih=>
   intro i O22 p1 n1 c1 Z3 bs hgi hi hA B0;have CF:i<n':=by omega
   obtain⟨x,hx⟩:=kt.ex CF;obtain⟨b,o,q1,m1,d1,rfl,DD,fZ⟩:=DH.at kt hx;have hX3:=B0.trans hA.ext;have ALd:=fZ.mono CW.mono hX3;have hm1:m1<=1000000000:=by
    have:=(mo1 x (Ai6 hx)).rd fZ;omega
   have JR:n1=i:=by
    obtain⟨cs,a1,a2⟩:=hA.own;have a3:=a1.1;have a4:=a2.1;rw[AlZ,hA.len,Amb,AjJ]at a4;omega
   have next:∀G p2 c2 Z4 bs',wC t G Z4 p2 (n1+1) c2 (l.take i++[x]) bs'->Ext O22 G->AL ((i:Int)+1)/\Eo.Ns R t p2 (n1+1) c2 (aD b o) n' c' n' ((i:Int)+1) Z4:=λG p2 c2 Z4 bs' hA' KB=>
    ⟨AO CF kt.big,ih (i+1) G p2 (n1+1) c2 Z4 bs' (by omega) (by omega) (by rw[AR hx];exact hA') (B0.trans KB)⟩
   refine Eo.Lc ⟨λ_=>⟨b,o,rfl,by omega,q1,m1,d1,x.v,by simpa using DD.mono hX3,λ_=>⟨λaT vu=>⟨?_,λU8 wF=>?_⟩,λU8 wF aT vu=>?_⟩⟩,λhh=>by omega⟩
   .refine Fy ALd hm1 (λxN xO y ho hy=>⟨_,_,_,rfl,λU8 wF=>wC.add hA hy (ho.rd CW.mono) wF (by omega) λG p2 c2 Z4 hA' KB=>⟨_,_,_,rfl,next _ _ _ _ _ hA' KB⟩⟩) vu
   .have ATw:=(Hp.AM wF);refine AI.AQ wF (Fy ALd hm1 (λxN xO y ho hy hny=>⟨_,_,_,rfl,wC.add hA hy (ho.rd CW.mono) hny (by omega) λG p2 c2 Z4 hA' KB=>⟨_,_,_,rfl,next _ _ _ _ _ hA' KB⟩⟩) vu)
   .have ALf:=(Hp.AM vu);have ATw:(Z3.set aT (.cells #[] 144 (0,0))) U8=none:=by rw[Hp.AB (AjI ALf.1)];exact wF
    dsimp only;rw[Hp.BA (AjI ALf.1)];refine AI.AQ ATw (Fy ALd hm1 (λxN xO y ho hy hny=>⟨_,_,_,rfl,wC.add hA hy (ho.rd CW.mono) hny (by omega) λG p2 c2 Z4 hA' KB=>⟨_,_,_,rfl,next _ _ _ _ _ hA' KB⟩⟩) ALf.2)
 .have e:instF T ss t=(223,[]):=by unfold instF;rw[Aiw h0,Aiw (by rw[AjZ];exact ht),hm]
  rw[e] at h';exact h' Z22 (by dsimp only;decide) (BS.trans Aw)
end
theorem BH.pL {P:Program}{s:Nat}{Z2:Hp}{b o n c j:Nat}{cs:List Value}{v:Value}{T:TypeId}{Φ:Unit->Hp->Prop}(ho:BH s Z2 (some ⟨b,o,none⟩) n c cs)(hj:j<n*s)(hz:∀w,(Go.sizeOf T).run P w=.ok 1 w)(hv:v.cells=#[v])(h1:v.oneCell'=true)
  (G:∀obj,BH s (Z2.set b obj) (some ⟨b,o,none⟩) n c (cs.set j v)->Φ () (Z2.set b obj)):AI P (Instr.storeAt T (.pointer (some ⟨b,o+j,none⟩)) v) Z2 Φ:=by
 obtain⟨hl,xE,h⟩:=ho;rcases h with ⟨hp,_⟩|⟨b',o',arr,T',hp,hb,qf,J1,Rc⟩
 .cases hp
 .cases hp;have hns:n*s<=c*s:=Ajk s qf;refine AI.store hz hb (by rw[hv];rfl) (by omega) (by rw[hv];simpa using h1) (G _ ⟨by rw[AlE];exact hl,xE,.inr ⟨b,o,_,T',rfl,Hp.AA _ _ _,qf,by simp[KH];exact J1,?_⟩⟩);rw[hv,<-Rc];refine AkA λi=>?_;simp only[Ks,Array.toList_setIfInBounds];rw[AjQ,Ake,AjQ];by_cases hi:i<n*s
  .rw[Aiy hi,Aiy hi,Aja,Aja,Ake];by_cases Vq:j=i
   .subst Vq;have Ax:o+j<arr.size:=by omega
    simp[Ax];exact Nat.lt_min.2 ⟨hj,by omega⟩
   .rw[Aiw (by omega),Aiw Vq]
  .rw[Aiw hi,Aiw hi];split
   .omega
   .rfl
theorem C9.one (Z2:Hp)(vs:List Value)(x:Pt)(h:C9 Z2 vs x):FZ vs:=by
 rw[show vs=[.I x.1,.U x.2] from h];intro u G;simp only[Ai1,AjK,Ajl]at G;rcases G with rfl|rfl<;>rfl
section
variable {Z2 Z' Z0:Hp}{R:Rr}
theorem P1 {T Et ty:TypeId}{s bs:Nat}[J2 prog T Et s bs]{q:Option Addr}{j c b:Nat}{cs:List Value}{Φ:Value->Hp->Prop}(Rc:Fj s Z2 q j cs)(h1:FZ cs)(hb:j*bs<=140737488355328)
  (hΦ:∀p' c' Z',BH s (Z2.new Z') p' j c' cs->Ext Z2 Z'->Φ (.slice p' j c') Z') (G:Z2 b=none) :
  AI prog (Builtin.append_ #[T,T] ty #[.slice (some ⟨b,0,none⟩) 0 0,.slice q j c]) (Z2.set b (.cells #[] Et (0,0))) Φ:=by
 refine D9 BH.empty (Rc.mono (.set G)) h1 (by rw[Ajz];exact hb) λp' c' Z' CR N9=>?_;have hq:∀a:Addr,(some (⟨b,0,none⟩:Addr))=some a->Z2 a.block=none:=λa ha=>by cases ha;exact G
 rw[Ajz]at CR ⊢;rw[Aj9]at CR;exact hΦ p' c' Z' (BH.S8 CR (HB hq N9 (.set G))) (Kv hq N9 (.set G))
theorem fh {p:Option Addr}{n c:Nat}{ls:List Lb}(hr:Gy Z2 p n ls)(hn:n<=1000000000)(h:∀G c' Z',Gy (Z2.new Z') G n ls->Ext Z2 Z'->R (.returned (.slice G n c')) Z'):Spec prog 39 #[.slice p n c] Z2 R:=
 ME.start λb hb=>Fy hr hn (λG c' Z' ho hx=>⟨_,_,_,rfl,h G c' Z' (ho.rd CW.mono) hx⟩) hb
theorem fj {p:Option Addr}{n c:Nat}{ps:List Pt}(hr:Af 2 C9 Z2 p n ps)(hn:n<=1000000000)(h:∀G c' Z',II 2 C9 (Z2.new Z') G n c' ps->Ext Z2 Z'->R (.returned (.slice G n c')) Z'):Spec prog 40 #[.slice p n c] Z2 R:=by
 obtain⟨h1,cs,h2,h3⟩:=hr;exact L5.start λb hb=>P1 h2 (Ch.uB C9.one h3 (by decide)) (by omega) (λG c' Z' ho hx=>⟨_,_,_,rfl,h G c' Z' ⟨h1,cs,ho,h3.1,λi x hx=>h3.2 i x hx⟩ hx⟩) hb
theorem BT.one (Z2:Hp)(vs:List Value)(x:Sr)(h:BT Z2 vs x):FZ vs:=by
 obtain⟨p,n,c,q,m,d,rfl,_⟩:=h;intro u G;simp only[Ai1,AjK,Ajl]at G;rcases G with rfl|rfl<;>rfl
structure SOk (ss:List Sr):Prop where
 s:ss.length<=1000000000000
 ls:∀s∈ss,s.ls.length<=1000000000
 ps:∀s∈ss,s.ps.length<=1000000000
theorem bD {p:Option Addr}{n c:Nat}{ss:List Sr}(hr:Af 2 BT Z2 p n ss)(hS:SOk ss)(h:∀p' c' Z',Af 2 BT Z' p' n ss->n<=c'->Ext Z2 Z'->R (.returned (.slice p' n c')) Z'):Spec prog 12 #[.slice p n c] Z2 R:=by
 have hl:ss.length=n:=hr.1;have ht:=hS.s;refine Dm.start ?_
 suffices H:∀g i:Nat,∀p3 n3 c3 Z',n-i=g->i<=n->AN 2 BT Z2 Z' p3 n3 c3 (ss.take i)->Dm.CA R p n c p3 n3 c3 i Z' from H n 0 none 0 0 Z2 rfl (AjB _) (AN.nil (.refl _))
 intro g
 induction g with
 | zero=>
  intro i p3 n3 c3 Z' hg hi G;rw[Ai4 (by omega)]at G;have QS:n=n3:=hl.symm.trans G.1.1;subst QS;exact Dm.A1 ⟨λAx=>by omega,λ_=>h p3 c3 Z' (G.rd BT.mono) (by obtain⟨cs,Qr,_⟩:=G.1.2;exact BH.cap Qr) G.up⟩
 | succ g ih=>
  intro i p3 n3 c3 Z' hg hi G;have CF:i<n:=by omega
  obtain⟨x,hx⟩:=hr.ex CF;obtain⟨b,o,p1,k1,c1,q1,m1,d1,rfl,DD,Vd,xX,kr⟩:=BT.at hr hx;have xU:=Ai6 hx;have a1:=hS.ls x xU;have a2:=hS.ps x xU;have a3:x.ls.length=k1:=Vd.1;have a4:x.ps.length=m1:=xX.1;have QS:n3=i:=by have:=G.1.1;rw[AjJ]at this;omega
  have ATx:=DD.mono G.up;refine Dm.A1 ⟨λ_=>⟨b,o,rfl,by omega,p1,k1,c1,by simpa using ATx.1,by omega,q1,m1,d1,by simpa using ATx.2.1,fh (Vd.mono CW.mono G.up) (by omega) λp4 c4 Z22 G0 Aw=>⟨_,_,_,rfl,Kp.S7 Aw,fj ((xX.mono C9.mono G.up).mono C9.mono Aw) (by omega) λp5 c5 Z3 Uf B0=>⟨_,_,_,rfl,λmF Aab=>?_⟩⟩⟩,λhh=>by omega⟩;have Dh:=G.mono BT.mono (Aw.trans B0);have he:BT (Z3.del p3) [.slice p4 k1 c4,.slice p5 m1 c5] x:=
   ⟨p4,k1,c4,p5,m1,c5,rfl,G0.mono CW.mono ((Ext.Ha B0).trans (G.new (Aw.trans B0))),(Uf.rd C9.mono).mono C9.mono ((Ext.Ci Aw).trans (G.new (Aw.trans B0))),by obtain⟨cs,Qr,_⟩:=Uf.2;exact BH.cap Qr⟩
  refine AN.Ey BT.mono Dh rfl (BT.one _ _ _ he) he (by omega) (λp' c' Z4 Iy _=>⟨_,_,_,rfl,AO CF hr.big,ih (i+1) _ _ _ _ (by omega) (by omega) (by rw[AR hx];exact Iy)⟩) Aab
end
theorem wG {cs:List Value}{v:Value}{s i j r:Nat}(hr:r<s):((cs.set (i*s+r) v).drop (j*s)).take s=if i=j then((cs.drop (j*s)).take s).set r v else(cs.drop (j*s)).take s:=by
 refine AkA λk=>?_;by_cases Vq:i=j
 .subst Vq;rw[Aiy rfl,AjQ,Ake,AjQ,Aja,Aja,Ake];by_cases G:k<s
  .rw[Aiy G,Aiy G];by_cases hrk:r=k
   .subst hrk;rw[Aiy rfl,Aiy rfl,AjJ,AjN];by_cases Ax:i*s+r<cs.length
    .rw[Aiy Ax,Aiy (by omega)]
    .rw[Aiw Ax,Aiw (by omega)]
   .rw[Aiw (by omega),Aiw hrk]
  .rw[Aiw G,Aiw G,Aiw (by omega)]
 .rw[Aiw Vq,AjQ,AjQ,Aja,Aja,Ake];by_cases G:k<s
  .rw[Aiy G,Aiy G,Aiw];intro e;rcases Aly i j with h|h|h
   .have:=Ajk s (show i+1<=j from h);rw[Akj]at this;omega
   .exact Vq h
   .have:=Ajk s (show j+1<=i from h);rw[Akj]at this;omega
  .rw[Aiw G,Aiw G]
def sX:ByteArray:=⟨#[120]⟩
def sA:ByteArray:=⟨#[97]⟩
def nV:Nd:=⟨2,0,ByteArray.mk #[],[⟨1,EV,sX⟩],0,0,0,[],false,0⟩
def nA:Nd:=⟨5,1,ByteArray.mk #[],[],0,0,0,[],false,1⟩
abbrev v1:Int:=4607182418800017408
abbrev v3:Int:=4613937818241073152
abbrev v5:Int:=4617315517961601024
abbrev v8:Int:=4620693217682128896
structure BxR where
 b5:Nat
 b6:Nat
 Dk:Nat
 E2:Nat
 Hr:Nat
 He:Nat
 D:Nat
 l:Nat
 m:Nat
 p:Option Addr
 n:Nat
 c:Nat
 q:Option Addr
 k:Nat
 d:Nat
 r0:Loop
theorem BH.here {s:Nat}{Z2 Z':Hp}{p:Option Addr}{n c:Nat}{cs:List Value}(h:BH s Z2 p n c cs)(hs:∀a,p=some a->Z' a.block=Z2 a.block):BH s Z' p n c cs:=by
 obtain⟨G,h2,h3|⟨b,o,arr,T,rfl,hb,r⟩⟩:=h
 .exact⟨G,h2,.inl h3⟩
 .exact⟨G,h2,.inr ⟨b,o,arr,T,rfl,(hs _ rfl).trans hb,r⟩⟩
theorem kpL {A B:Hp}{L:List (Nat×Obj)}{i b:Nat}{o:Obj}(hn:(names L).Nodup)(hi:L[i]?=some (b,o)):Kp [b] (BR A L) (BR B L):=λx hx u G=>by
 rw[Ai2]at hx;subst hx;rw[BY hn hi]at G ⊢;exact G
structure StR (Z2 B:Hp)(m b o e k:Nat):Prop where
 ext:Ext Z2 B
 own:∃pl cl pp cc ds,BH 2 B (some ⟨b,o,none⟩) 1 e [.slice pl 0 cl,.slice pp k cc]/\BH 2 B pp k cc ds/\(∀a,pp=some a->a.block≠b/\a.block≠m/\Z2 a.block=none)
 map:MS (λv _=>v=.I 0) B m [(JQ [],(0:Int))]
 hb:Z2 b=none
 hm:Z2 m=none
 ne:m≠b
theorem ALg (w:World):(Go.sizeOf 96).run prog w=.ok 1 w:=by kernel_rfl
section
variable {Z2 B:Hp}{R:Rr}{X:BxR}
end
section
variable {Z2:Hp}{R:Rr}
set_option maxRecDepth 100000 in
theorem ATy {x y : Operand} {a b a' b' : Int} : YF prog (do eqGuard .neq 111 x y (.agg #[.I a,.U b]) (.agg #[.I a',.U b']); binOp .neq 111 (.agg #[.I a,.U b]) (.agg #[.I a',.U b'])) Z2 (.bool (!(a == a' && b == b'))) := λw _ => by
 have u1 := underlying2
 have u2 := underlying27
 have hS : prog.underlying 111 = some (.struct (prog.fieldsOf 111)) := by kernel_rfl
 have hp : prog.stoodInHeld 111 = false := by kernel_rfl
 have hf : (prog.fieldsOf 111).toList = [{ name := "T",type := 2,offset := 0,embedded := false,tag := "",pkgPath := "",byteOffset := 0 },{ name := "V",type := 27,offset := 1,embedded := false,tag := "",pkgPath := "",byteOffset := 8 }] := by kernel_rfl
 simp only [Sem.run_bind,run_eqGuard_agg _ _ _ _ _ _ _ (show prog.eqGuardType prog.depth 111 = false by kernel_rfl),Result.andThen_ok,run_neq_struct]
 rw [show (10000 : Nat) = 9999 + 1 from rfl,run_equalIn_agg w 9999 111 _ _ hS hp,hf]
 simp only [Op.eqFields]
 go_simp
 by_cases h1 : a = a' <;> by_cases h2 : b = b' <;> simp [h1,h2]
theorem lB {p p':Option Addr}{n n' c c':Nat}{ps:List Pt}(G:Af 2 C9 Z2 p n ps)(h2:Af 2 C9 Z2 p' n' ps)(hR:R (.B true) Z2):Spec prog 49 #[.slice p n c,.slice p' n' c'] Z2 R:=by
 have e1:ps.length=n:=G.1;have e2:ps.length=n':=h2.1;refine Dt.start ⟨λAd=>absurd (by omega) Ad,λ_=>?_⟩
 suffices H:∀d i:Nat,n-i=d->i<=n->Dt.FH R p n c p' n' c' i Z2 from H n 0 rfl (AjB _)
 intro d
 induction d with
 | zero=>exact λi hd hi=>Dt.EB ⟨λAx=>by omega,λ_=>hR⟩
 | succ d ih=>
  intro i hd hi;obtain⟨x,hx⟩:=G.ex (show i<n by omega);obtain⟨b,o,rfl,l1⟩:=C9.at G hx;obtain⟨b',o',rfl,l2⟩:=C9.at h2 hx;exact Dt.EB ⟨λ_=>⟨b,o,rfl,by omega,x.1,x.2,by simpa using l1,b',o',rfl,by omega,x.1,x.2,by simpa using l2,_,ATy,λhh=>by simp at hh,λ_=>⟨AO (by omega) G.big,ih (i+1) (by omega) (by omega)⟩⟩,λhh=>by omega⟩
theorem Aac:AL ((0:Int)+0):=by unfold AL;omega
theorem ATz:AL ((0:Int)+0+300):=by unfold AL;omega
theorem pM {α:Type}{s b n:Nat}{T:TypeId}{E:Hp->List Value->α->Prop}{cs:List Value}{xs:List α}(h:Z2 b=some (.cells cs.toArray T (0,0)))(G:cs.length=n*s)(hn:xs.length=n)(hb:n<=1000)(hE:∀(i:Nat) (x:α),xs[i]?=some x->E Z2 ((cs.drop (i*s)).take s) x):Af s E Z2 (aD b 0) n xs:=
 ⟨hn,cs,⟨G,by omega,.inr ⟨b,0,rfl,Az.EW h⟩⟩,by rw[G,hn],hE⟩
end
end TwW
end
section
namespace TwW.Rw
open Go Tw Go.RowKit Go.ChangeShapes Go.WideShapes Go.ChangeAt Go.Deep Go.Proofs.Tryz Go.Proofs.YtdlkodiemlmmiaaGreatDoor
theorem own:ownKnob prog.godebug=none:=by kernel_rfl
theorem laidOut:laidOutB prog=true:=by kernel_rfl
theorem PJ {H:Type}(d:DataW H):1<=Rows.uptoBulk d:=by
 cases d with
 | lit l=>cases l<;>simp[Rows.uptoBulk]
 | _=>simp[Rows.uptoBulk]
theorem Tn {H:Type}{d:DataW H}:∀{l:List (DataW H)},d∈l->Rows.uptoBulk d<=Rows.uptoBulkAll l
 | x::l,h=>by
  simp only[Rows.uptoBulkAll];rcases Ai1.1 h with rfl|h
  .omega
  .have:=Tn h;omega
theorem lC {H:Type}(l r:List (DataW H)):Rows.uptoBulkAll (l++r)=Rows.uptoBulkAll l+Rows.uptoBulkAll r:=by
 induction l with
 | nil=>simp[Rows.uptoBulkAll]
 | cons x l G=>simp only[Ajp,Rows.uptoBulkAll,G];omega
theorem ABt {H:Type}(l:List (DataW H)):l.length<=Rows.uptoBulkAll l:=by
 induction l with
 | nil=>simp
 | cons x l G=>have:=PJ x;simp only[Rows.uptoBulkAll,Aix];omega
def RW {α:Type}(t:TypeId)(E:Hp->List Value->α->Prop)(I:α->Prop)(sz:α->Nat):Prop:=
 ∀{H:Type} {enc:TypeId×Value->H} {w:World} {base:Nat} {sp:Nat->Bool} {G:Bool} {fuel:Nat} {cs:List Value} {x:DataW H×List MemPlace},
  DataW.trod enc prog w base sp G fuel t cs=some x->Rows.uptoBulk x.1<=1048576->∃y,E (full w) cs y/\I y/\sz y<=Rows.uptoBulk x.1
theorem mkB {α:Type}{s:Nat}{E:Hp->List Value->α->Prop}{I:α->Prop}{sz:α->Nat}{Z2:Hp}{b o:Nat}{H:Type}{D:Nat->DataW H}:∀{n:Nat},n<=4611686018427387904->(∀i,i<n->∃vs x,vs.length=s/\Az Z2 b (o+i*s) vs/\E Z2 vs x/\I x/\sz x<=Rows.uptoBulk (D i))->
  ∃xs,Af s E Z2 (some ⟨b,o,none⟩) n xs/\(∀x∈xs,I x)/\(xs.map sz).sum<=Rows.uptoBulkAll ((List.range n).map D)
 | 0,_,_=>⟨[],Af.nil,by simp,by simp⟩
 | n+1,hn,h=>by
  obtain⟨xs,⟨h1,cs,⟨hl,_,h2⟩,h3⟩,hI,hs⟩:=mkB (n:=n) (D:=D) (by omega) (λi hi=>h i (by omega));obtain⟨vs,x,hv,DD,hE,hx,hz⟩:=h n (by omega);have Rc:Az Z2 b o cs:=by
   rcases h2 with rfl|⟨b',o',hp,Q7⟩
   .have:cs=[]:=AjL (by simpa using hl);subst this;trivial
   .cases hp;exact Q7
  refine⟨xs++[x],⟨by simp[h1],cs++vs,⟨by rw[Ai5,hl,hv,AkB];omega,hn,.inr ⟨b,o,rfl,Rc.snoc (by rw[hl];exact DD)⟩⟩,h3.snoc hv hE⟩,λy G=>?_,?_⟩
  .rcases AjU.1 G with G|G
   .exact hI y G
   .simp at G;subst G;exact hx
  .rw[List.range_succ,AjP,AjP,lC,Aka];simp only[AjR,Akb,Akf,Al7,Rows.uptoBulkAll];omega
def ESc {α:Type}(s:Nat)(E:Hp->List Value->α->Prop)(Z2:Hp)(vs:List Value)(xs:List α):Prop:=∃p n c,vs=[.slice p n c]/\n<=c/\Af s E Z2 p n xs
theorem RW.slice {α:Type}{t e:TypeId}{s:Nat}{E:Hp->List Value->α->Prop}{I:α->Prop}{sz:α->Nat}(ht:prog.underlying t=some (.slice e))(hs:prog.cellsOf e=s)(hs0:0<s)(he:RW e E I sz):
  RW t (ESc s E) (λxs=>∀x∈xs,I x) (λxs=>(xs.map sz).sum+1):=by
 intro H enc w base sp held fuel cs x h hw;subst hs;rcases open_slice ht h with ⟨rfl,rfl⟩|⟨a,len,cap,m,n,D,Pl,rfl,hb,hl,hm,hmm,rfl,hi⟩
 .exact⟨[],⟨none,0,0,rfl,Ai7 _,Af.nil⟩,by simp,by simp[Rows.uptoBulk]⟩
 .have hlm:len<=m:=by rw[hmm];split<;>omega
  have tn:Rows.uptoBulkAll ((List.range len).map D)+1<=Rows.uptoBulk (DataW.slice ((List.range len).map D) ((List.range (m-len)).map λj=>D (len+j))):=by
   simp only[Rows.uptoBulk];omega
  have hlen:=ABt ((List.range len).map D);rw[Ajn,List.length_range]at hlen;have hwD:∀i,i<len->Rows.uptoBulk (D i)<=1048576:=λi CF=>by
   have:=Tn (Ajf.2 ⟨i,AkS.2 CF,rfl⟩:D i∈(List.range len).map D);simp only at hw;omega
  by_cases h0:len=0
  .subst h0;exact⟨[],⟨some a,0,cap,rfl,AjB _,Af.nil⟩,by simp,by simp only[Rows.uptoBulk,Akb,Al7];omega⟩
  .have lD:a.spot=none:=by
    obtain⟨cs',hc,_⟩:=hi 0 (by omega);obtain⟨_,aP,G⟩:=World.cells?_some hc;have h1:=G 0 hs0;rw[Ai3 (by omega)]at h1;have:=bO h1;simpa[Addr.add] using this
   obtain⟨b,o,sp'⟩:=a;simp only at lD;subst lD;obtain⟨xs,hr,hI,hz⟩:=mkB (s:=prog.cellsOf e) (E:=E) (I:=I) (sz:=sz) (Z2:=full w) (b:=b) (o:=o) (D:=D) (n:=len) (by simp only at hw;omega) (λi CF=>by
    obtain⟨cs',hc,oV⟩:=hi i (by omega);obtain⟨_,aP,G⟩:=World.cells?_some hc;obtain⟨y,hE,hy,Rh⟩:=he oV (hwD i CF);refine⟨cs',y,aP,Az.of λj v hj=>?_,hE,hy,Rh⟩;have Sz:j<prog.cellsOf e:=by have:=(Ai0.1 hj).1;omega
    have h1:=G j Sz;rw[hj,Cm,Cm]at h1;exact VQ h1)
   exact⟨xs,⟨some ⟨b,o,none⟩,len,cap,rfl,hl,hr⟩,hI,by simp only at hz tn ⊢;omega⟩
theorem sk {H:Type}{l:List (DataW H)}{d:DataW H}(h:Rows.uptoBulk (DataW.agg l)<=1048576)(hd:d∈l):Rows.uptoBulk d<=1048576:=by
 have:=Tn hd;simp only[Rows.uptoBulk]at h;omega
theorem AFi {α:Type}:∀l:List α,(l.map λ_=>1).sum=l.length:=λl=>by induction l with
 | nil=>rfl
 | cons a l G=>simp;omega
theorem RW.len {α:Type}{t e:TypeId}{s:Nat}{E:Hp->List Value->α->Prop}{I:α->Prop}(ht:prog.underlying t=some (.slice e))(hs:prog.cellsOf e=s)(G:0<s)(he:RW e E I (λ_=>1)):
  RW t (ESc s E) (λxs=>(∀x∈xs,I x)/\xs.length<=1048576) (λ_=>1):=λh hw=>by
 obtain⟨xs,h1,h2,h3⟩:=RW.slice ht hs G he h hw;dsimp only at h3;rw[AFi]at h3;exact⟨xs,h1,⟨h2,by omega⟩,PJ _⟩
theorem Dx {t:TypeId}(h:prog.cellsOf t=1){c:Value}{l:List Value}:(c::l).take (prog.cellsOf t)=[c]:=by rw[h];rfl
set_option maxRecDepth 100000
set_option linter.unusedSimpArgs false
theorem ALh:RW 111 C9 (λp=>0<=p.2/\p.2<18446744073709551616) (λ_=>1):=by
 intro H enc w base sp held fuel cs x h hw;obtain⟨xs,n,_,rfl,G,hxl,hg⟩:=DataW.trod_struct underlying111 h;rw[show prog.cellsOf 111=2 by kernel_rfl]at G
 match cs,G,xs,hxl with
 | [c0,c1],_,[y0,y1],_=>
  have h0:=hg 0 _ rfl;have h1:=hg 1 _ rfl;simp only[show prog.cellsOf 2=1 by kernel_rfl,show prog.cellsOf 27=1 by kernel_rfl,List.drop,List.take,Ajj,Ajq]at h0 h1;obtain⟨a,e0,_,_⟩:=DataW.trod_int underlying2 h0;obtain⟨b,e1,_,wb⟩:=DataW.trod_int underlying27 h1;cases e0;cases e1;refine⟨(a,b),rfl,?_,PJ _⟩;simp[Lit.wf,IntKind.min,IntKind.max,IntKind.signed,IntKind.bits]at wb;exact⟨wb.1,by omega⟩
theorem ALi:RW 144 CW (λ_=>True) (λ_=>1):=by
 intro H enc w base sp held fuel cs x h hw;obtain⟨xs,n,_,rfl,G,hxl,hg⟩:=DataW.trod_struct underlying144 h;rw[show prog.cellsOf 144=2 by kernel_rfl]at G
 match cs,G,xs,hxl with
 | [c0,c1],_,[y0,y1],_=>
  have h0:=hg 0 _ rfl;have h1:=hg 1 _ rfl;simp only[show prog.cellsOf 9=1 by kernel_rfl,List.drop,List.take,Ajj,Ajq]at h0 h1;obtain⟨a,e0,_⟩:=DataW.trod_string underlying9 h0;obtain⟨b,e1,_⟩:=DataW.trod_string underlying9 h1;cases e0;cases e1;exact⟨(a,b),rfl,trivial,PJ _⟩
def AT0 {α:Type}(I:α->Prop)(xs:List α):Prop:=(∀x∈xs,I x)/\xs.length<=1048576
theorem ALj:RW 95 (ESc 2 CW) (AT0 λ_=>True) (λ_=>1):=RW.len (s:=2) underlying95 (by kernel_rfl) (by decide) ALi
theorem ALk:RW 96 (ESc 2 C9) (AT0 λp=>0<=p.2/\p.2<18446744073709551616) (λ_=>1):=RW.len (s:=2) underlying96 (by kernel_rfl) (by decide) ALh
theorem ALl:RW 98 BT (λs=>s.ls.length<=1048576/\s.ps.length<=1048576/\∀p∈s.ps,0<=p.2/\p.2<18446744073709551616) (λ_=>1):=by
 intro H enc w base sp held fuel cs x h hw;obtain⟨xs,n,_,rfl,G,hxl,hg⟩:=DataW.trod_struct underlying98 h;rw[show prog.cellsOf 98=2 by kernel_rfl]at G
 match cs,G,xs,hxl with
 | [c0,c1],_,[y0,y1],_=>
  have h0:=hg 0 _ rfl;have h1:=hg 1 _ rfl;simp only[show prog.cellsOf 95=1 by kernel_rfl,show prog.cellsOf 96=1 by kernel_rfl,List.drop,List.take,Ajj,Ajq]at h0 h1;obtain⟨ls,⟨p,k,c,e0,hc0,r0⟩,⟨_,l0⟩,_⟩:=ALj h0 (sk hw (by simp));obtain⟨ps,⟨q,m,d,e1,hc1,r1⟩,⟨i1,l1⟩,_⟩:=ALk h1 (sk hw (by simp));cases e0;cases e1;exact⟨⟨ls,ps⟩,⟨p,k,c,q,m,d,rfl,r0,r1,hc1⟩,⟨l0,l1,i1⟩,PJ _⟩
section
variable {H:Type}{enc:TypeId×Value->H}{W:World}{base:Nat}{v v':Value}{d d':DataW H}{ps ps':List MemPlace}{r:Reach}
end
theorem ALn {f:FuncId}{fn:Func}{s:ChangeSpec}{H:Type}{enc:TypeId×Value->H}{W:World}{args:Array Value}{ds gs:List (DataW H)}{G:List MemPlace}(hr:(fn.params.toList.all λt=>prog.readableRec t&&Nat.blt t prog.types.size)=true)
  (hrt:fn.resultTypes=#[4]) (hv:s.vars=[]) (Vj:(s.fn H (ds++gs)).results=[.lit (.bool true)]/\(s.fn H (ds++gs)).args=ds/\(s.fn H (ds++gs)).vars=[])
  (hW:DataW.Whole enc prog fn.params.toList s.vars false W args.toList ds gs G) (h:Lawful prog f args W) :
  Calls prog f args W λe W'=>∃v,e=.returned v/\s.post enc prog fn false true false false W args v W':=
 h.calls.mono λe W' ⟨he,hb⟩=>⟨_,he,xy laidOut hr hrt underlying4 hv Vj hW hb⟩
end TwW.Rw
end
