/-
  Part 6 of the proof that the law IngesterFencedUptoCardSaid of the given program answers true for every input of the given statement; the input reads behind the call as it did. (The texts: packed from 32 texts. Names are shortened by the packing program, for the bound on size.)
-/
import Derived.Test.YtjmeolpiagdinaaGreatDoorA5
import Derived.Shelf.Strings.Search3
import Derived.Shelf.Strings.Split
import Derived.Lib.ParseIntBMem
import Derived.Lib.AtoiAllMem
set_option linter.all false
section
namespace TwW
open Go Tw Go.MapKept Go.RowKit Go.Proofs.Tryz
def KA (s:Sr):Pt:=s.ps.headD (0,0)
section
variable {Z22 Z'2:Hp}{T T':JX}{hb m3 m4 q:Nat}{lim:Int}{Z:List (Sr×Nat)}{R:Rr}
theorem fN (h:DZ Z22 T hb m3 m4 lim Z q)(hZ:Z.length<=1000000000)(hq:q<=1000000000)
  (K:∀n Z'2,Ext Z22 Z'2->R (.T #[.I Z.length,.I n]) Z'2):Spec prog 96 #[.pointer (aD hb 0)] Z22 R:=by
 refine D8.start ⟨hb,0,rfl,some m3,AD (Az.1 h.box).2 rfl,MS.range h.P5 λi o hi hit=>⟨_,rfl,?_⟩⟩
 suffices H:∀(g:Nat) (W Y:List (Sr×Nat)) (ρ:Hp) (x:Nat),W.length=g->Ext Z22 ρ->PE yK ρ i m3 (W.map λz=>(Bf z.1.ls,z.2))->(Y++W).Perm Z->x<=Y.length*q->D8.A3 R (aD hb 0) (x:Int) (.pointer (some ⟨i,0,none⟩)) ρ from
  H _ Z [] _ 0 rfl (Ext.set hi) hit (.refl _) (AfI _)
 intro g
 induction g with
 | zero=>
  intro W Y ρ x G hx hit hp hxq;obtain rfl:W=[]:=Ae6 G;have h2:=h.ext hx;have A:=MS.len (P:=prog) (T:=170) (ty:=3) h2.P5;rw[AfO]at A;refine D8.AY (PE.next hit (λ_=>.inl ⟨rfl,hb,0,rfl,some m3,AD (Az.1 h2.box).2 rfl,_,A,K x ρ hx⟩) λW1 x W2 v o hw=>?_);cases W1<;>cases hw
 | succ g ih=>
  intro W Y ρ x G hx hit hp hxq;refine D8.AY (PE.next hit (λe=>?_) λW1 y W2 v o hw hv eR Ga=>.inr ?_)
  .rw[Ahv.1 e]at G;cases G
  obtain⟨V1,V2',rfl,rfl,e2⟩:=Ag3.1 hw;obtain⟨z,V2,rfl,rfl,rfl⟩:=AhB.1 e2;obtain⟨l,M,clock,hm,⟨seen,c0,pD,_⟩,_⟩:=hit;have RJ:m3≠i:=λe=>by
   have h9:=hm.1;rw[e,pD]at h9;cases h9
  have BD:Ext Z22 (ρ.set i o):=λy u hy=>by
   rw[Hp.AB λe=>by subst e;rw[hi]at hy;cases hy];exact hx y u hy
  have Vk:=eR (ρ.set i o) (Hp.AA _ _ _) (Hp.AB RJ);obtain rfl:v=.pointer (some ⟨z.2,0,none⟩):=hv;have hz:z∈Z:=hp.subset (by simp);obtain⟨p1,n1,c',r,m,d,g1,hl,h3,_⟩:=(h.CP z hz).2;have A4:=(h.ok z hz).2;have A:=hp.length_eq;simp only[Aet,Aez]at A;have eA:z.1.ps.length=m:=h3.1;have hmul:Y.length*q<=1000000000*1000000000:=Aif (by omega) hq;have AXr:(Y.length+1)*q=Y.length*q+q:=AhE _ _;have:=ih (V1++V2) (Y++[z]) (ρ.set i o) (x+m) (by simp at G ⊢;omega) BD (by rw[AfF];exact Vk) (by
   refine List.Perm.trans ?_ hp;rw[Aew];exact Ahk _ (AhR (a:=z) (l₁:=V1) (l₂:=V2)).symm) (by rw[Aet,AfD];omega)
  rw[show((x+m:Nat):Int)=(x:Int)+(m:Int) by omega]at this;exact⟨_,aD z.2 0,rfl,Ga (ρ.set i o) (Hp.AA _ _ _) (Hp.AB RJ) ⟨_,aD z.2 0,rfl,z.2,0,rfl,r,m,d,AD (BD _ _ g1) rfl,by unfold AK;omega,this⟩⟩
theorem j0 (h:DZ Z22 T hb m3 m4 lim Z q)(ne:∀z∈Z,z.1.ps≠[])(hq:q<=1000000000000)
  (K:∀lo hi Z'2,Ext Z22 Z'2->(Z≠[]->(∃z∈Z,lo=(KA z.1).1)/\∀z∈Z,lo<=(KA z.1).1)->R (.T #[.I lo,.I hi,.bool (!Z.isEmpty)]) Z'2):Spec prog 55 #[.pointer (aD hb 0)] Z22 R:=by
 refine Cf.start ⟨hb,0,rfl,some m3,AD (Az.1 h.box).2 rfl,MS.range h.P5 λi o hi hit=>⟨_,rfl,?_⟩⟩
 suffices H:∀(g:Nat) (W Y:List (Sr×Nat)) (ρ:Hp) (lo G:Int),W.length=g->Ext Z22 ρ->PE yK ρ i m3 (W.map λz=>(Bf z.1.ls,z.2))->(Y++W).Perm Z->(Y≠[]->(∃z∈Y,lo=(KA z.1).1)/\∀z∈Y,lo<=(KA z.1).1)->Cf.A3 R lo G (!Y.isEmpty) (.pointer (some ⟨i,0,none⟩)) ρ from
  H _ Z [] _ 0 0 rfl (Ext.set hi) hit (.refl _) (λhn=>absurd rfl hn)
 intro g
 induction g with
 | zero=>
  intro W Y ρ lo G hg hx hit hp hI;obtain rfl:W=[]:=Ae6 hg;rw[AfG]at hp;have e:Y.isEmpty=Z.isEmpty:=by
   have:=hp.length_eq;cases Y<;>cases Z<;>simp_all
  refine Cf.AY (PE.next hit (λ_=>.inl ⟨rfl,?_⟩) λW1 x W2 v o hw=>?_)
  .rw[e];refine K lo G ρ hx λhn=>?_;have hY:Y≠[]:=λe=>hn (by rw[e]at hp;exact hp.nil_eq.symm▸rfl);obtain⟨⟨z,hz,e1⟩,h2⟩:=hI hY;exact⟨⟨z,hp.subset hz,e1⟩,λy A=>h2 y (hp.symm.subset A)⟩
  .cases W1<;>cases hw
 | succ g ih=>
  intro W Y ρ lo G hg hx hit hp hI;refine Cf.AY (PE.next hit (λe=>?_) λW1 y W2 v o hw hv eR Ga=>.inr ?_)
  .rw[Ahv.1 e]at hg;cases hg
  obtain⟨V1,V2',rfl,rfl,e2⟩:=Ag3.1 hw;obtain⟨z,V2,rfl,rfl,rfl⟩:=AhB.1 e2;obtain⟨l,M,clock,hm,⟨seen,c0,pD,_⟩,_⟩:=hit;have RJ:m3≠i:=λe=>by
   have h9:=hm.1;rw[e,pD]at h9;cases h9
  have BD:Ext Z22 (ρ.set i o):=λy u A=>by
   rw[Hp.AB λe=>by subst e;rw[hi]at A;cases A];exact hx y u A
  have Vk:=eR (ρ.set i o) (Hp.AA _ _ _) (Hp.AB RJ);obtain rfl:v=.pointer (some ⟨z.2,0,none⟩):=hv;have hz:z∈Z:=hp.subset (by simp);obtain⟨p1,n1,c',r,m,d,g1,hl,h3,_⟩:=(h.CP z hz).2;have A4:=(h.ok z hz).2;have eA:z.1.ps.length=m:=h3.1;have AR:=ne z hz;have Gb:0<z.1.ps.length:=AhG.2 AR;have hr:=(h3.rd Bp.mono).mono Bp.mono BD;obtain⟨b,o2,rfl,Dt⟩:=Bp.at hr (i:=0) (x:=KA z.1) (by
   unfold KA;cases U6:z.1.ps with
   | nil=>exact absurd U6 AR
   | cons a l=>rfl)
  have hP:(Y++[z]++(V1++V2)).Perm Z:=by
   refine List.Perm.trans ?_ hp;rw[Aew];exact Ahk _ (AhR (a:=z) (l₁:=V1) (l₂:=V2)).symm
  have hY1:(!(Y++[z]).isEmpty)=true:=by cases Y<;>rfl
  refine⟨_,aD z.2 0,rfl,Ga (ρ.set i o) (Hp.AA _ _ _) (Hp.AB RJ) ⟨_,aD z.2 0,rfl,z.2,0,rfl,aD b o2,m,d,AD (BD _ _ g1) rfl,b,o2,rfl,by unfold In;omega,(KA z.1).1,by simpa using Dt.1,Mz (BD _ _ g1) hr AR ⟨_,_,rfl,Kp.CV (.refl _),λhf=>?_,λhf=>?_⟩⟩⟩
  all_goals
   have go:=λlo' ATt=>ih (V1++V2) (Y++[z]) (ρ.set i o) lo' ATt (by simp at hg ⊢;omega) BD (by rw[AfF];exact Vk) hP;rw[hY1]at go
  .have hY:Y=[]:=by cases Y<;>first|rfl|cases hf
   refine Cf.Iu (go _ _ λ_=>?_);subst hY;rw[Aeu (by omega)];exact⟨⟨z,by simp,rfl⟩,λy A=>by rw[AgG,Aev]at A;subst A;exact Int.le_refl _⟩
  .have hY:Y≠[]:=λe=>by rw[e]at hf;cases hf
   obtain⟨⟨w,Uv,e1⟩,h2⟩:=hI hY;refine Cf.Iu (go _ _ λ_=>?_);split
   .rename_i Aq;refine⟨⟨z,by simp,rfl⟩,λy A=>?_⟩;rcases Ae9.1 A with A|A
    .have:=h2 y A;omega
    .rw[Aev]at A;subst A;exact Int.le_refl _
   .rename_i Aq;refine⟨⟨w,by simp[Uv],e1⟩,λy A=>?_⟩;rcases Ae9.1 A with A|A
    .exact h2 y A
    .rw[Aev]at A;subst A;omega
end
end TwW
end
section
namespace TwW
open Go Tw Go.MapKept Go.RowKit Go.Proofs.Tryz
section
variable {α:Type}{P:Program}{Z22 Z'2:Hp}{E:Value->α->Prop}{m:Nat}
theorem MS.del {T K V ty:TypeId}[bN P T K V]{A:Array TypeId}{L:List (ByteArray×α)}{s:ByteArray}{Φ:Value->Hp->Prop}(hA:A[0]?=some T)(h:MS E Z22 m L)(h0:BQ L s=none->∀o,MS E (Z22.set m o) m L->Φ (.tuple #[]) (Z22.set m o))
  (h1:∀L1 x L2 o,L=L1++(s,x)::L2->MS E (Z22.set m o) m (L1++L2)->Φ (.tuple #[]) (Z22.set m o)):AH P (Builtin.delete_ A ty #[.map (some m),.string s]) Z22 Φ:=by
 obtain⟨l,c,hm,h2,h3⟩:=h;refine IM (T:=T) (K:=K) (V:=V) hm (λA9 Z'2 G bQ=>?_) (λl1 e l2 hl he Z'2 G bQ=>?_) hA
 .subst G;exact h0 (Pg (MS.uG h2 h3 A9)) _ ⟨l,c,bQ,h2,h3⟩
 .obtain⟨L1,x,L2,rfl,hlen,_,_⟩:=Qj hm.nodup h2 h3 hl he;subst G;subst hl;refine h1 L1 x L2 _ rfl ⟨_,_,bQ,by simp at h2 ⊢;omega,λi e' y hi hy=>?_⟩;by_cases yD:i<l1.length
  .rw[Ae8 yD]at hi;rw[Ae8 (by omega)]at hy;exact h3 i e' y (by rw[Ae8 yD];exact hi) (by rw[Ae8 (by omega)];exact hy)
  .rw[AfJ (by omega)]at hi hy;refine h3 (i+1) e' y ?_ ?_
   .rw[AfJ (by omega),show i+1-l1.length=(i-l1.length)+1 by omega,Afd];exact hi
   .rw[AfJ (by omega),show i+1-L1.length=(i-L1.length)+1 by omega,Afd];exact hy
end
section
variable {Z22 Z'2:Hp}{T T':JX}{hb m3 m4 q:Nat}{lim:Int}{Z:List (Sr×Nat)}{R:Rr}
theorem AA1 {s:ByteArray}{Φ:Value->Hp->Prop}(h:Φ (.tuple #[]) Z22):AH prog (Builtin.delete_ #[194,9] 0 #[.map none,.string s]) Z22 Φ:=AH.pu (λw A=>by kernel_rfl) h
theorem len_nil:YF prog (Builtin.len_ #[194] 3 #[.map none]) Z22 (.I 0):=λw _=>by kernel_rfl
theorem j1 (h:DZ Z22 T hb m3 m4 lim Z q){z:Sr×Nat}(hz:z∈Z)
  (K:∀Z'2 Z1 Z2,Z=Z1++z::Z2->DZ Z'2 T hb m3 m4 lim (Z1++Z2) q->Mv Z22 T Z'2 T->R (.T #[]) Z'2):Spec prog 128 #[.pointer (aD hb 0),.string (Bf z.1.ls)] Z22 R:=by
 obtain⟨te,p,n,c,r,m,d,g,hl,_,_⟩:=h.CP z hz;have ATo:n<=16:=by
  have h8:=(h.ok z hz).1.1;have h9:=hl.1;omega
 refine BH.start ⟨hb,0,rfl,some m3,AD (Az.1 h.box).2 rfl,h.find hz ⟨z.2,0,rfl,p,n,c,AD g rfl,?_⟩⟩
 suffices H:∀(g i:Nat) (ρ:Hp),n-i=g->i<=n->DZ ρ T hb m3 m4 lim Z q->Mv Z22 T ρ T->BH.dU R (aD hb 0) (Bf z.1.ls) p n c (n:Int) (i:Int) ρ from H n 0 Z22 rfl (AfI _) h .refl
 intro g
 induction g with
 | zero=>
  intro i ρ hg hi G hv;refine BH.Kb ⟨λAq=>by omega,λ_=>⟨hb,0,rfl,some m3,AD (Az.1 G.box).2 rfl,?_⟩⟩;refine MS.del (T:=170) rfl G.P5 (λA9=>absurd rfl (Q5 A9 _ (AfC.2 ⟨z,hz,rfl⟩))) λL1 x L2 o hL ho=>?_;obtain⟨Z1,Y,rfl,rfl,e2⟩:=Ag3.1 hL;obtain⟨y,Z2,rfl,e3,rfl⟩:=AhB.1 e2;have hy:y=z:=Vf h.nd y (by simp) z hz (Q0 (h.ok y (by simp)).1 (h.ok z hz).1 (Ah1 e3).1);subst hy;refine K _ Z1 Z2 rfl (G.YY (by rw[AfF];exact ho) (λw hw=>.inl ?_) ?_) (hv.trans (.set G.tb rfl))
  .rcases Ae9.1 hw with hw|hw<;>simp[hw]
  .refine List.Nodup.sublist (List.Sublist.map _ ?_) h.nd;exact List.Sublist.append (AiH _) (AhM _ _)
 | succ g ih=>
  intro i ρ hg hi G hv;obtain⟨lb,hlb⟩:=hl.ex (show i<n by omega);obtain⟨b,o,vs,rfl,az,Dt⟩:=BB.idx hl hlb;rw[show vs=[.string lb.1,.string lb.2] from az]at Dt;have Wb:=(Dt.mono hv.kp).mono (λx o hx=>(Az.1 hx).2:Ext (ρ.kp T) ρ);have nx:∀ρ',DZ ρ' T hb m3 m4 lim Z q->Mv Z22 T ρ' T->BH.IZ R (aD hb 0) (Bf z.1.ls) (aD b o) n c (n:Int) (i:Int) ρ':=λρ' A v'=>by
   have:=ih (i+1) ρ' (by omega) (by omega) A v';rw[show((i+1:Nat):Int)=(i:Int)+1 by omega]at this;exact BH.KZ ⟨by unfold AK;omega,this⟩
  have go:∀(ρ':Hp),DZ ρ' T hb m3 m4 lim Z q->Mv Z22 T ρ' T->LM ρ' hb (0+1) λtR=>AH prog (Instr.lookup 171 (.map tR) (.agg #[.string lb.1,.string lb.2]) false) ρ' (CM λtU A5=>Ext ρ' A5/\∃IE,YF prog (Builtin.len_ #[194] 3 #[.map tU]) A5 (.I IE)/\Br (IE=0) (LM A5 hb (0+1) λzH=>AH prog (Builtin.delete_ #[171,95] 0 #[.map zH,.agg #[.string lb.1,.string lb.2]]) A5 (λ_ Cn=>BH.IZ R (aD hb 0) (Bf z.1.ls) (aD b o) n c (n:Int) (i:Int) Cn)) (BH.IZ R (aD hb 0) (Bf z.1.ls) (aD b o) n c (n:Int) (i:Int) A5)):=λρ' A v'=>by
   obtain⟨l,clock,hm,MR⟩:=A.post;have fin:LM ρ' hb (0+1) λzH=>AH prog (Builtin.delete_ #[171,95] 0 #[.map zH,.agg #[.string lb.1,.string lb.2]]) ρ' (λ_ Cn=>BH.IZ R (aD hb 0) (Bf z.1.ls) (aD b o) n c (n:Int) (i:Int) Cn):=⟨some m4,AD (Az.1 A.box).2 rfl,fC hm (λ_ Z'2 hσ bQ=>by subst hσ;exact nx _ (A.AGH bQ MR) (v'.trans (.set A.tp rfl))) (λl1 x l2 hl hx Z'2 hσ bQ=>by
    subst hσ;exact nx _ (A.AGH bQ λy hy=>MR y (by rw[hl];rcases Ae9.1 hy with hy|hy<;>simp[hy])) (v'.trans (.set A.tp rfl))) rfl⟩
   refine⟨some m4,AD (Az.1 A.box).2 rfl,I6 hm (λ_=>⟨none,rfl,.refl _,0,len_nil,λ_=>fin,λhn=>absurd rfl hn⟩) λl1 x l2 hl hx=>?_⟩;obtain⟨j,hj,tj⟩:=MR x (by rw[hl];simp);rw[hj];obtain⟨L,hL⟩:=A.yM j tj;exact⟨some j,rfl,.refl _,_,MS.len (T:=194) hL,λ_=>fin,λ_=>nx ρ' A v'⟩
  obtain⟨l,clock,hm,MR⟩:=G.post;refine BH.Kb ⟨λ_=>⟨b,o,rfl,by unfold In;omega,lb.1,lb.2,by simpa using Wb,λb5=>⟨hb,0,rfl,some m4,AD (Az.1 G.box).2 rfl,I6 hm (λ_=>⟨none,rfl,AA1 (go ρ G hv)⟩) λl1 x l2 hl hx=>?_⟩⟩,λAq=>by omega⟩;obtain⟨j,hj,tj⟩:=MR x (by rw[hl];simp);rw[hj];obtain⟨L,hL⟩:=G.yM j tj;exact⟨some j,rfl,MS.del (T:=194) rfl hL (λ_ o ho=>go _ (G.AGI tj ⟨_,ho⟩) (hv.trans (.set tj rfl))) λL1 y L2 o _ ho=>go _ (G.AGI tj ⟨_,ho⟩) (hv.trans (.set tj rfl))⟩
end
end TwW
end
section
namespace TwW
open Go Tw Go.RowKit Go.Proofs.Tryz
structure Wl where
 dir:ByteArray
 check:Nat
 AS:List Nat
 opn:Nat
 size:Nat
abbrev KB (l:List Nat):List Int:=l.map λ(n:Nat)=>(n:Int)
abbrev AA2 (d:Nat)(W:Wl)(p:Option Addr)(n c:Nat):Array Value:=#[.pointer (some ⟨d,0,none⟩),.string W.dir,.I W.check,.slice p n c,.I W.opn,.I W.size]
structure Gh (Z22:Hp)(b d:Nat)(W:Wl)(S:List Nat)(p:Option Addr)(c:Nat)(T:TypeId):Prop where
 FX:S=b::FB p
 out:b ∉ FB p
 obj:Z22 b=some (.cells (AA2 d W p W.AS.length c) T (0,0))
 own:A2 .i64 Z22 p W.AS.length c (KB W.AS)
section
variable {Z22 Z'2 O2 O'2:Hp}{b d:Nat}{W:Wl}{S Sd:List Nat}{p:Option Addr}{c:Nat}{T:TypeId}{D:Dk}
theorem Gh.known (h:Gh Z22 b d W S p c T):∀k∈S,Z22 k≠none:=by
 intro k A;rw[h.FX]at A;rcases Ae5.1 A with rfl|A
 .rw[h.obj];simp
 .cases p with
  | none=>cases A
  | some a=>simp[FB]at A;subst A;exact h.own.block a rfl
theorem Gh.loc (h:Gh Z22 b d W S p c T)(A:∀k∈S,Z'2 k=Z22 k):Gh Z'2 b d W S p c T:=by
 have G:=h.FX;subst G;exact⟨rfl,h.out,(A b (by simp)).trans h.obj,Own.loc h.own λk hk=>A k (by simp[hk])⟩
theorem Gh.mono (h:Gh Z22 b d W S p c T)(hx:Ext Z22 Z'2):Gh Z'2 b d W S p c T:=h.loc λk G=>by
 cases A:Z22 k with
 | none=>exact absurd A (h.known k G)
 | some o=>exact hx k o A
theorem Gh.ADI (h:Gh Z22 b d W S p c T):b∈S:=by rw[h.FX];simp
def Ac (Z22:Hp)(d:Nat)(D:Dk)(O2:Hp):Prop:=∃S,A1 Z22 d D S/\Ext O2 (Z22.off S)
def Ad (Z22:Hp)(d b:Nat)(D:Dk)(W:Wl)(O2:Hp):Prop:=∃Sd S p c T,A1 Z22 d D Sd/\Gh (Z22.off Sd) b d W S p c T/\Ext O2 ((Z22.off Sd).off S)
theorem Ac.names (h:Ac Z22 d D O2):∀s,(D.files s).isSome=true->Ab s=true:=let ⟨_,h1,_⟩:=h;h1.names
theorem Ac.ext (h:Ac Z22 d D O2):Ext O2 Z22:=let ⟨S,_,h2⟩:=h;h2.trans (Ext.FW _ _)
theorem Ad.ext (h:Ad Z22 d b D W O2):Ext O2 Z22:=let ⟨_,_,_,_,_,_,_,h3⟩:=h;h3.trans ((Ext.FW _ _).trans (Ext.FW _ _))
theorem Ac.JL (h:Ac Z22 d D O2)(A:Ext O'2 O2):Ac Z22 d D O'2:=let ⟨S,h1,h2⟩:=h;⟨S,h1,A.trans h2⟩
theorem Ad.JL (h:Ad Z22 d b D W O2)(A:Ext O'2 O2):Ad Z22 d b D W O'2:=let ⟨Sd,S,p,c,T,h1,h2,h3⟩:=h;⟨Sd,S,p,c,T,h1,h2,A.trans h3⟩
theorem Ad.vq (h:Ad Z22 d b D W O2):Ac Z22 d D O2:=let ⟨Sd,S,p,c,T,h1,h2,h3⟩:=h;⟨Sd,h1,h3.trans (Ext.FW _ _)⟩
theorem Ac.grow (h:Ac Z22 d D O2)(G:Ext Z22 Z'2):∃O'2,Ac Z'2 d D O'2/\Ext O2 O'2/\Ext (Z22.new Z'2) O'2:=by
 obtain⟨S,A,h2⟩:=h;refine⟨Z'2.off S,⟨S,A.mono G,Ext.refl _⟩,h2.trans (G.off S),λk o hk=>?_⟩;obtain⟨h3,h4⟩:=AW.1 hk;exact Hp.AI.2 ⟨λhs=>A.known k hs h3,h4⟩
theorem Ad.grow (h:Ad Z22 d b D W O2)(G:Ext Z22 Z'2):∃O'2,Ad Z'2 d b D W O'2/\Ext O2 O'2/\Ext (Z22.new Z'2) O'2:=by
 obtain⟨Sd,S,p,c,T,h1,h2,h3⟩:=h;refine⟨(Z'2.off Sd).off S,⟨Sd,S,p,c,T,h1.mono G,h2.mono (G.off Sd),Ext.refl _⟩,h3.trans ((G.off Sd).off S),λk o hk=>?_⟩;obtain⟨h4,h5⟩:=AW.1 hk;refine Hp.AI.2 ⟨λA=>?_,Hp.AI.2 ⟨λA=>h1.known k A h4,h5⟩⟩;have:=h2.known k A;exact this (Hp.Qf h4)
theorem Ad.mono (h:Ad Z22 d b D W O2)(A:Ext Z22 Z'2):Ad Z'2 d b D W O2:=let ⟨_,h1,h2,_⟩:=h.grow A;h1.JL h2
theorem Ac.mono (h:Ac Z22 d D O2)(A:Ext Z22 Z'2):Ac Z'2 d D O2:=let ⟨_,h1,h2,_⟩:=h.grow A;h1.JL h2
theorem Ad.box {k:Nat}{o:Obj}(h:Ad Z22 d b D W O2)(A:Z22 k=none):∃O'2,Ad (Z22.set k o) d b D W O'2/\Ext O2 O'2/\O'2 k=some o:=by
 obtain⟨O'2,G,h2,h3⟩:=h.grow (.set A (o:=o));exact⟨O'2,G,h2,h3 k o (AW.2 ⟨A,Hp.AA _ _ _⟩)⟩
theorem Ac.box {k:Nat}{o:Obj}(h:Ac Z22 d D O2)(A:Z22 k=none):∃O'2,Ac (Z22.set k o) d D O'2/\Ext O2 O'2/\O'2 k=some o:=by
 obtain⟨O'2,G,h2,h3⟩:=h.grow (.set A (o:=o));exact⟨O'2,G,h2,h3 k o (AW.2 ⟨A,Hp.AA _ _ _⟩)⟩
theorem Ad.step {D':Dk}{S S':List Nat}(G:Gh (Z22.off Sd) b d W S p c T)(h2:Ext O2 ((Z22.off Sd).off S))(hd:A1 Z'2 d D' S')(A:Ext (Z22.off Sd) (Z'2.off S')):Ad Z'2 d b D' W O2:=
 ⟨S',S,p,c,T,hd,G.mono A,h2.trans (A.off S)⟩
structure ATu (Z22:Hp)(d b:Nat)(D:Dk)(W:Wl):Prop where
 ptr:Z22.ld ⟨b,0,none⟩=some (.pointer (some ⟨d,0,none⟩))
 dir:Z22.ld ⟨b,0+1,none⟩=some (.string W.dir)
 check:Z22.ld ⟨b,0+2,none⟩=some (.I W.check)
 AS:∃p c,W.AS.length<=c/\Z22.ld ⟨b,0+3,none⟩=some (.slice p W.AS.length c)/\Be .i64 Z22 p W.AS.length (KB W.AS)
 opn:Z22.ld ⟨b,0+4,none⟩=some (.I W.opn)
 size:Z22.ld ⟨b,0+5,none⟩=some (.I W.size)
theorem Ad.rd (h:Ad Z22 d b D W O2):ATu Z22 d b D W:=by
 obtain⟨Sd,S,p,c,T,G,A,h3⟩:=h;have A:=A.mono (Ext.FW _ _);exact⟨AD A.obj rfl,AD A.obj rfl,AD A.obj rfl,⟨p,c,Own.cap A.own,AD A.obj rfl,A.own.rd⟩,AD A.obj rfl,AD A.obj rfl⟩
theorem Ad.st {W':Wl}{i:Nat}{x:Int}{Φ:Unit->Hp->Prop}(h:Ad Z22 d b D W O2)(hi:i+1<=6)(hs:W'.AS=W.AS)
  (hw:∀p n c,F0 (AA2 d W p n c) i [Value.int .i64 x]=AA2 d W' p n c) (hΦ:∀Z'2,Ad Z'2 d b D W' O2->Φ () Z'2):AH prog (Instr.storeAt 3 (.pointer (some ⟨b,i,none⟩)) (.I x)) Z22 Φ:=by
 obtain⟨Sd,S,p,c,T,h1,A,h3⟩:=h;have hb:=Hp.AI.1 A.obj;refine AH.store (v:=.I x) Ss hb.2 rfl (by simp;omega) (by simp[Value.cells,Value.oneCell']) ?_;refine hΦ _ ⟨Sd,S,p,c,T,h1.loc λk G=>Hp.AB λe=>hb.1 (e▸G),?_,?_⟩
 .rw[Hp.GK hb.1];refine⟨A.FX,A.out,by rw[Hp.AA,hs];exact Ae4 (λa=>some (Obj.cells a T (0,0))) (hw p _ c),?_⟩;rw[hs];exact Own.loc A.own λk G=>Hp.AB λe=>A.out (e▸G)
 .rw[Hp.GK hb.1,Hp.Kf A.ADI];exact h3
theorem vr:∀w,(Go.sizeOf 40).run prog w=.ok 1 w:=λw=>by
 have h:prog.info? 40=some t40:=by kernel_rfl
 simp[Go.sizeOf,typeInfo,h,show t40.size=1 from rfl]
theorem Ad.cut {p':Option Addr}{G c':Nat}{l:List Nat}{Φ:Unit->Hp->Prop}(h:Ad Z22 d b D W O2)(hl:l.length=G)
  (hp:∀p c,Z22.ld ⟨b,0+3,none⟩=some (.slice p W.AS.length c)->FB p'=FB p/\∀ρ,A2 .i64 ρ p W.AS.length c (KB W.AS)->A2 .i64 ρ p' G c' (KB l))
  (hΦ:∀Z'2,Ad Z'2 d b D { W with AS:=l } O2->Φ () Z'2):AH prog (Instr.storeAt 40 (.pointer (some ⟨b,0+3,none⟩)) (.slice p' G c')) Z22 Φ:=by
 obtain⟨Sd,S,p,c,T,h1,A,h3⟩:=h;have hb:=Hp.AI.1 A.obj;obtain⟨e1,e2⟩:=hp p c (AD hb.2 rfl);refine AH.store (v:=.slice p' G c') vr hb.2 rfl (by simp) (by simp[Value.cells,Value.oneCell']) ?_;refine hΦ _ ⟨Sd,S,p',c',T,h1.loc λk hk=>Hp.AB λe=>hb.1 (e▸hk),?_,?_⟩
 .rw[Hp.GK hb.1];refine⟨by rw[e1];exact A.FX,by rw[e1];exact A.out,by rw[Hp.AA];subst hl;rfl,?_⟩;have:=e2 _ A.own;subst hl;exact Own.loc this λk hk=>Hp.AB λe=>A.out (by rw[<-e1];exact e▸hk)
 .rw[Hp.GK hb.1,Hp.Kf A.ADI];exact h3
theorem Ad.app {k:Nat}{p:Option Addr}{n c bM:Nat}{Φ:Unit->Hp->Prop}(h:Ad Z22 d b D W O2)(hp:Z22.ld ⟨b,0+3,none⟩=some (.slice p n c))(EW:W.AS.length<=67108864)(hn:Z22 bM=none){K:Hp->Hp->Prop}
  (hK:∀Z'2,Ext O2 Z'2->K (Z22.set bM (.cells #[.I k] 3 (0,0))) Z'2)
  (hΦ:∀Z'2,Ad Z'2 d b D { W with AS:=W.AS++[k] } O2->Φ () Z'2) :
  AH prog (Builtin.append_ #[40,40] 40 #[.slice p n c,.slice (some ⟨bM,0,none⟩) 1 1]) (Z22.set bM (.cells #[.I k] 3 (0,0))) (λv A=>∃p' n' c',v=.slice p' n' c'/\K (Z22.set bM (.cells #[.I k] 3 (0,0))) A/\
   AH prog (Instr.storeAt 40 (.pointer (some ⟨b,0+3,none⟩)) (.slice p' n' c')) A Φ):=by
 obtain⟨Sd,S,p0,c0,T,h1,h2,h3⟩:=h;have hb:=Hp.AI.1 h2.obj;have hpe:Z22.ld ⟨b,0+3,none⟩=some (.slice p0 W.AS.length c0):=AD hb.2 rfl;rw[hpe]at hp;cases hp
 let A:Hp:=Z22.set bM (.cells #[.I k] 3 (0,0))
 have hx:Ext Z22 A:=.set hn;have bU:=h1.mono hx;have Uv:=h2.mono (hx.off Sd);have qu:=h3.trans ((hx.off Sd).off S);have ATv:Kt 1 A (some ⟨bM,0,none⟩) 1 [.I k]:=⟨rfl,by omega,.inr ⟨bM,0,rfl,AD (Hp.AA _ _ _) rfl,trivial⟩⟩;have Bu:A2 .i64 A p W.AS.length c (KB W.AS):=Uv.own.mono (Ext.FW _ _);refine QB (T:=40) Bu ATv (λu hu=>by simp at hu;subst hu;rfl) (by omega) λp' c' Z222 By BD _=>?_;rw[Hp.ER,Hp.ER]at BD;have keep:∀j o,j ∉ FB p->A j=some o->Z222 j=some o/\j ∉ FB p':=λj o h4 h5=>by
  have:=Hp.AI.1 (BD j o (Hp.AI.2 ⟨h4,h5⟩));exact⟨this.2,this.1⟩
 have hp0:∀j∈Sd,j ∉ FB p:=λj G YL=>Uv.known j (by rw[Uv.FX];simp[YL]) (Hp.jR G);have WC:A1 Z222 d D Sd:=bU.loc λj G=>by
  cases hs:A j with
  | none=>exact absurd hs (bU.known j G)
  | some o=>exact(keep j o (hp0 j G) hs).1
 have ATw:∀j∈FB p',j ∉ Sd:=λj G hs=>by
  cases WT:A j with
  | none=>exact absurd WT (bU.known j hs)
  | some o=>exact(keep j o (hp0 j hs) WT).2 G
 have Ru:=Hp.AI.1 Uv.obj;have KL:=keep b _ Uv.out Ru.2;have hτ:Ext O2 ((Z222.off Sd).off (b::FB p')):=λj o G=>by
  have h4:=Hp.AI.1 (qu j o G);have h5:=Hp.AI.1 h4.2;rw[Uv.FX]at h4;simp only[Ae5,not_or]at h4;have h6:=keep j o h4.1.2 h5.2;exact Hp.AI.2 ⟨by simp[h4.1.1,h6.2],Hp.AI.2 ⟨h5.1,h6.1⟩⟩
 refine⟨p',_,c',rfl,hK Z222 (hτ.trans ((Ext.FW _ _).trans (Ext.FW _ _))),?_⟩;refine AH.store (v:=.slice p' (W.AS.length+1) c') vr KL.1 rfl (by simp) (by simp[Value.cells,Value.oneCell']) ?_;refine hΦ _ ⟨Sd,b::FB p',p',c',T,WC.loc λj G=>Hp.AB λe=>Ru.1 (e▸G),?_,?_⟩
 .rw[Hp.GK Ru.1];refine⟨rfl,KL.2,by rw[Hp.AA,Aet];rfl,?_⟩;have DG:A2 .i64 Z222 p' (W.AS++[k]).length c' (KB (W.AS++[k])):=by simpa[A2] using By
  have Tn:A2 .i64 (Z222.off Sd) p' (W.AS++[k]).length c' (KB (W.AS++[k])):=Own.loc DG λj G=>Hp.GJ (ATw j G);exact Own.loc Tn λj G=>Hp.AB λe=>KL.2 (e▸G)
 .rw[Hp.GK Ru.1,Hp.Kf (by simp)];exact hτ
end
abbrev Bk:=List (List Int)
abbrev Fs:=ByteArray->Option Fl
def Good (rs:Bk):Prop:=∀r∈rs,r.length<=65536/\Ft r
theorem Good.short {rs:Bk}(h:Good rs):VN rs:=λr A=>(h r A).1
theorem Good.nil:Good []:=λr A=>by cases A
theorem Good.append {rs ss:Bk}(h:Good rs)(g:Good ss):Good (rs++ss):=λr A=>(Ae9.1 A).elim (h r) (g r)
theorem Good.take {rs:Bk}(h:Good rs)(k:Nat):Good (rs.take k):=λr A=>h r (AgF A)
theorem Ko {xs ys:List Int}(G:Ft xs)(hy:Ft ys):Ft (xs++ys):=λa A=>(Ae9.1 A).elim (G a) (hy a)
theorem qB {r:List Int}(h:r.length<=65536)(h8:Ft r):Ft (frame r):=by
 unfold frame;refine Ko (Ko (uq 9 _ (by omega)) ?_) h8;intro x A;simp only[Qr,Ae5,Afj,Agd]at A;rcases A with rfl|rfl|rfl|rfl<;>omega
theorem Q6:∀{rs:Bk},Good rs->Ft (AU rs)
 | [],_=>λx A=>by cases A
 | r::rs,h=>by
  rw[Cj];exact Ko (qB (h r (by simp)).1 (h r (by simp)).2) (Q6 λx A=>h x (by simp[A]))
theorem vt {xs:List Int}(h:Ft xs)(k:Nat):Ft (xs.take k):=λx A=>h x (AgF A)
theorem qC {r:List Int}{j:Nat}(hr:r.length<=65536)(hj:j<(frame r).length):pS ((frame r).take j):=λr' ⟨h1,rest,A⟩=>by
 rw[Ago]at A;have G:frame r'++(rest++(frame r).drop j)=frame r:=by rw[<-Aew,<-A,Afi]
 have h4:uv r'.length++(Qr (TR r')++(r'++(rest++(frame r).drop j)))=uv r.length++(Qr (TR r)++r):=by
  generalize rest++(frame r).drop j=Z at G;simpa[frame,Aew] using G
 have h5:=(uE _ _ _ _ h4).1;have h6:=Ae4 List.length A;rw[Aet,Fk,h5,AfE]at h6;rw[Fk]at hj h6;omega
theorem fO:∀(rs:Bk) (j:Nat),VN rs->∃k t,k<=rs.length/\(AU rs).take j=AU (rs.take k)++t/\pS t/\∀m,m<=rs.length->(AU (rs.take m)).length<=j->m<=k
 | [],j,_=>⟨0,[],Ae1 _,by simp[AU],FJ,λm A _=>A⟩
 | r::rs,j,G=>by
  by_cases hj:j<(frame r).length
  .refine⟨0,(frame r).take j,AfI _,by rw[Cj,AgE (by omega)];simp[AU],qC (G r (by simp)) hj,λm A h=>?_⟩;cases m with
   | zero=>exact Ae1 _
   | succ m=>
    rw[AhH,Cj,Aet]at h;omega
  .obtain⟨k,t,h1,h2,h3,h4⟩:=fO rs (j-(frame r).length) λx hx=>G x (by simp[hx]);refine⟨k+1,t,by simp;omega,?_,h3,λm A h=>?_⟩
   .rw[Cj,List.take_append,Ae7 (by omega),h2,AhH,Cj,Aew]
   .cases m with
    | zero=>omega
    | succ m=>
     rw[AhH,Cj,Aet]at h;have:=h4 m (by simp at A;exact A) (by omega);omega
def Has (fs:Fs)(s:ByteArray)(x:List Int):Prop:=∃f,fs s=some f/\f.data=x
theorem Has.aj {fs:Fs}{s:ByteArray}{x:List Int}(h:Has fs s x):(fs s).isSome=true:=by obtain⟨f,h,_⟩:=h;simp[h]
abbrev Sg:=List (Nat×Bk)
def A0 (sg:Sg):Bk:=sg.flatMap (·.2)
theorem CX (a b:Sg):A0 (a++b)=A0 a++A0 b:=by simp[A0]
theorem Fq (x:Nat×Bk):A0 [x]=x.2:=by simp[A0]
structure Shape (fs:Fs)(dir:ByteArray)(cnt check:Nat)(rc:Bk)(sg:Sg)(tail:List Int):Prop where
 mg:0<check->Has fs (AJ dir kc check) (AU rc)
 fP:check=0->rc=[]
 R6:∀s,(fs s).isSome=true->numOf dir kc s<=check
 j2:check<=cnt
 gt:∀x∈sg,check<x.1/\x.1<=cnt
 Lf:sg.Pairwise λx y=>x.1<y.1
 mi:∀s,(fs s).isSome=true->check<numOf dir ks s->∃x∈sg,x.1=numOf dir ks s
 file:∀k x,sg[k]?=some x->Has fs (AJ dir ks x.1) (AU x.2++if k+1=sg.length then tail else[])
 ADJ:sg=[]->tail=[]
 Wc:pS tail
 TC:Good rc
 PF:∀x∈sg,Good x.2
 by8:Ft tail
def Kept (fs:Fs)(dir:ByteArray)(check:Nat)(sg:Sg):Prop:=(∀f,0<check->fs (AJ dir kc check)=some f->f.HU=f.data.length)/\∀k x,sg[k]?=some x->k+1<sg.length->∀f,fs (AJ dir ks x.1)=some f->f.HU=f.data.length
def X3 (fs:Fs)(dir:ByteArray)(cnt:Nat)(told:Bk)(w:Bool):Prop:=∃check rc sg tail,Shape fs dir cnt check rc sg tail/\told=rc++A0 sg/\Kept fs dir check sg/\(w=true->tail=[])
abbrev Kq (fs:Fs)(dir:ByteArray)(cnt:Nat)(told:Bk):Prop:=X3 fs dir cnt told false
structure BF (fs:Fs)(cnt:Nat)(W:Wl)(rc:Bk)(sg:Sg)(safe:Nat):Prop where
 sh:Shape fs W.dir cnt W.check rc sg []
 AS:W.AS=sg.map (·.1)
 opn:W.check<W.opn/\W.opn<=cnt+1/\∀x∈sg,x.1<=W.opn
 size:∀x∈sg,x.1=W.opn->W.size=(AU x.2).length
 Qh:(∀x∈sg,x.1≠W.opn)->W.size=0
 sync:∀f,0<W.check->fs (AJ W.dir kc W.check)=some f->f.HU=f.data.length
 TD:∀x∈sg,x.1<W.opn->∀f,fs (AJ W.dir ks x.1)=some f->f.HU=f.data.length
 dur:∀x∈sg,x.1=W.opn->∃m f,m<=x.2.length/\fs (AJ W.dir ks x.1)=some f/\(AU (x.2.take m)).length<=f.HU/\safe+x.2.length<=(rc++A0 sg).length+m
 qD:(∀x∈sg,x.1≠W.opn)->safe<=(rc++A0 sg).length
theorem mj {sg:Sg}{n:Nat}(G:sg.Pairwise λx y=>x.1<y.1)(A:∀x∈sg,x.1<=n){x:Nat×Bk}(hx:x∈sg)(he:x.1=n):∃s0,sg=s0++[x]/\∀y∈s0,y.1<n:=by
 obtain⟨a,b,rfl⟩:=Ag5 hx;rw[Afl,Afb]at G;have hb:b=[]:=by
  cases b with
  | nil=>rfl
  | cons y b=>
   have h1:=G.2.1.1 y (by simp);have h2:=A y (by simp);omega
 subst hb;exact⟨a,rfl,λy hy=>by have:=G.2.2 y hy x (by simp);omega⟩
theorem Gg.aj {fs gs:Fs}(h:Gg fs gs){s:ByteArray}(A:(gs s).isSome=true):(fs s).isSome=true:=by
 cases G:fs s with
 | none=>rw[(h s).1 G]at A;cases A
 | some f=>rfl
theorem Gg.HU {fs gs:Fs}(h:Gg fs gs){s:ByteArray}{f:Fl}(A:gs s=some f):f.HU=f.data.length:=by
 cases G:fs s with
 | none=>rw[(h s).1 G]at A;cases A
 | some g=>
  obtain⟨k,h1,h2,h3⟩:=(h s).2 g G;rw[h3]at A;cases A;simp only[AfE];omega
theorem Gg.kept {fs gs:Fs}(h:Gg fs gs){dir:ByteArray}{check:Nat}{sg:Sg}:Kept gs dir check sg:=⟨λf _ A=>h.HU A,λ_ _ _ _ f A=>h.HU A⟩
theorem Gg.whole {fs gs:Fs}(h:Gg fs gs){s:ByteArray}{x:List Int}(hx:Has fs s x)(hs:∀f,fs s=some f->f.HU=f.data.length):Has gs s x:=by
 obtain⟨f,A,rfl⟩:=hx;obtain⟨k,G,h2,h3⟩:=(h s).2 f A;rw[hs f A]at G;exact⟨_,h3,by rw[Ae7 (by omega)]⟩
theorem BF.fQ {fs gs:Fs}{cnt:Nat}{W:Wl}{rc:Bk}{sg:Sg}{safe:Nat}(h:BF fs cnt W rc sg safe)(G:Gg fs gs):∃told,Kq gs W.dir cnt told/\told <+: rc++A0 sg/\safe<=told.length:=by
 by_cases hl:∃x∈sg,x.1=W.opn
 .obtain⟨x,hx,he⟩:=hl;obtain⟨s0,rfl,Aq⟩:=mj h.sh.Lf h.opn.2.2 hx he;obtain⟨m,f,hm,hf,hms,mn⟩:=h.dur x hx he;obtain⟨f2,qe,WC⟩:=h.sh.file s0.length x (by simp);rw[hf]at qe;cases qe;simp at WC;obtain⟨j,yZ,hj2,hj3⟩:=(G _).2 f hf;have X5:=h.sh.PF x hx;obtain⟨k,t,hk,hkt,ht,hkm⟩:=fO x.2 j X5.short;refine⟨rc++A0 (s0++[(x.1,x.2.take k)]),⟨W.check,rc,s0++[(x.1,x.2.take k)],t,⟨λh0=>G.whole (h.sh.mg h0) λf hf=>h.sync f h0 hf,h.sh.fP,λs hs=>h.sh.R6 s (G.aj hs),h.sh.j2,?_,?_,?_,?_,?_,ht,h.sh.TC,?_,?_⟩,rfl,G.kept,λh=>(by cases h)⟩,?_,?_⟩
  .intro y A;rcases Ae9.1 A with A|A
   .exact h.sh.gt y (by simp[A])
   .simp at A;subst A;exact h.sh.gt x (by simp)
  .have:=h.sh.Lf;rw[Afl]at this ⊢;exact⟨this.1,by simp,λy A z hz=>by simp at hz;subst hz;exact this.2.2 y A x (by simp)⟩
  .intro s hs VQ;obtain⟨y,A,oE⟩:=h.sh.mi s (G.aj hs) VQ;rcases Ae9.1 A with A|A
   .exact⟨y,by simp[A],oE⟩
   .simp at A;subst A;exact⟨(y.1,y.2.take k),by simp,oE⟩
  .intro i y A;rcases Afp i s0.length with hi|hi
   .rw[Ae8 hi]at A;have JN:y∈s0:=Ae2 A;have h1:=h.sh.file i y (by rw[Ae8 hi];exact A);rw[Aeu (by simp;omega)]at h1 ⊢;exact G.whole h1 λf hf=>h.TD y (by simp[JN]) (Aq y JN) f hf
   .have pK:i=s0.length:=by
     have:=(Ae0.1 A).1;simp at this;omega
    subst pK;simp at A;subst A;rw[Aex (by simp)];exact⟨_,hj3,by rw[WC,hkt]⟩
  .intro e;simp at e
  .intro y A;rcases Ae9.1 A with A|A
   .exact h.sh.PF y (by simp[A])
   .simp at A;subst A;exact X5.take k
  .have h8:=vt (Q6 X5) j;rw[hkt]at h8;exact λa ha=>h8 a (Afs _ ha)
  .rw[CX,CX,Fq,Fq];exact(Ahy _).2 ((Ahy _).2 (List.take_prefix _ _))
  .have hmk:=hkm m hm (by omega);rw[CX,Fq]at mn ⊢;simp only[Aet,AfE]at mn ⊢;omega
 .have A9:∀x∈sg,x.1≠W.opn:=λx hx he=>hl ⟨x,hx,he⟩;refine⟨rc++A0 sg,⟨W.check,rc,sg,[],⟨λh0=>G.whole (h.sh.mg h0) λf hf=>h.sync f h0 hf,h.sh.fP,λs hs=>h.sh.R6 s (G.aj hs),h.sh.j2,h.sh.gt,h.sh.Lf,λs hs=>h.sh.mi s (G.aj hs),λi y A=>?_,λ_=>rfl,FJ,h.sh.TC,h.sh.PF,h.sh.by8⟩,rfl,G.kept,λh=>(by cases h)⟩,AiV _,h.qD A9⟩;have JN:=Ae2 A;exact G.whole (h.sh.file i y A) λf hf=>h.TD y JN (by have:=h.opn.2.2 y JN;have:=A9 y JN;omega) f hf
section
variable {fs gs:Fs}{dir:ByteArray}{cnt cnt' check:Nat}{rc:Bk}{sg:Sg}{tail:List Int}{W:Wl}{safe:Nat}
theorem Cb {s:ByteArray}{x:Option Fl}:A8 fs s x s=x:=by simp[A8]
theorem Ap {s t:ByteArray}{x:Option Fl}(h:t≠s):A8 fs s x t=fs t:=by simp[A8,h]
theorem C2 {s t:ByteArray}{xs:List Int}(h:t≠s):E6 fs s xs t=fs t:=Ap h
theorem Shape.congr (h:Shape fs dir cnt check rc sg tail)(hc:cnt<=cnt')(h1:0<check->gs (AJ dir kc check)=fs (AJ dir kc check))(h2:∀x∈sg,gs (AJ dir ks x.1)=fs (AJ dir ks x.1))
  (h3:∀s,(gs s).isSome=true->(fs s).isSome=true\/(numOf dir kc s=0/\numOf dir ks s=0)):Shape gs dir cnt' check rc sg tail:=
 { h with mg:=λh0=>by obtain⟨f,G,e⟩:=h.mg h0;exact⟨f,by rw[h1 h0,G],e⟩,R6:=λs hs=>(h3 s hs).elim (h.R6 s) λ⟨e,_⟩=>by omega,j2:=AfU h.j2 hc,gt:=λx A=>⟨(h.gt x A).1,AfU (h.gt x A).2 hc⟩,mi:=λs hs Aq=>(h3 s hs).elim (λh4=>h.mi s h4 Aq) λ⟨_,e⟩=>by omega,file:=λk x A=>by obtain⟨f,G,e⟩:=h.file k x A;exact⟨f,by rw[h2 x (Ae2 A),G],e⟩ }
theorem BF.congr (h:BF fs cnt W rc sg safe)(hc:cnt<=cnt')(h1:0<W.check->gs (AJ W.dir kc W.check)=fs (AJ W.dir kc W.check))(G:∀x∈sg,gs (AJ W.dir ks x.1)=fs (AJ W.dir ks x.1))
  (h3:∀s,(gs s).isSome=true->(fs s).isSome=true\/(numOf W.dir kc s=0/\numOf W.dir ks s=0)):BF gs cnt' W rc sg safe:=
 { sh:=h.sh.congr hc h1 G h3,AS:=h.AS,opn:=⟨h.opn.1,by have:=h.opn.2.1;omega,h.opn.2.2⟩,size:=h.size,Qh:=h.Qh,sync:=λf h0 hf=>h.sync f h0 (by rw[<-h1 h0];exact hf),TD:=λx A Aq f hf=>h.TD x A Aq f (by rw[<-G x A];exact hf),dur:=λx A he=>by obtain⟨m,f,a,b,c⟩:=h.dur x A he;exact⟨m,f,a,by rw[G x A];exact b,c⟩,qD:=h.qD }
theorem BF.fresh (h:BF fs cnt W rc sg safe)(hc:cnt<=cnt')(A:∀s,s≠BO W.dir->gs s=fs s):BF gs cnt' W rc sg safe:=
 h.congr hc (λ_=>A _ (B4 (.inl rfl)).symm) (λx _=>A _ (B4 (.inr rfl)).symm) λs hs=>by
  by_cases G:s=BO W.dir
  .subst G;exact .inr ⟨Mw (.inl rfl),Mw (.inr rfl)⟩
  .rw[A s G]at hs;exact .inl hs
theorem BF.free (h:BF fs cnt W rc sg safe)(hn:cnt<99999999)(A:∀x∈sg,x.1≠W.opn):fs (AJ W.dir ks W.opn)=none:=by
 cases hf:fs (AJ W.dir ks W.opn) with
 | none=>rfl
 | some f=>
  have ho:=h.opn;have e:=CC (dir:=W.dir) (kind:=ks) (no:=W.opn) (by omega);obtain⟨x,hx,G⟩:=h.sh.mi _ (by rw[hf];rfl) (by rw[e];exact ho.1);exact absurd (G.trans e) (A x hx)
theorem BF.ADK {s0:Sg}{x:Nat×Bk}{r:List Int}(h:BF fs cnt W rc (s0++[x]) safe)(hn:cnt<99999998)(he:x.1=W.opn)(hr:r.length<=65536)(h8:Ft r):
  BF (E6 fs (AJ W.dir ks W.opn) (frame r)) (cnt+1) { W with size:=W.size+(frame r).length } rc (s0++[(x.1,x.2++[r])]) safe:=by
 have hx:x∈s0++[x]:=by simp
 have Aq:∀y∈s0,y.1<W.opn:=λy A=>by
  have:=h.sh.Lf;rw[Afl]at this;have:=this.2.2 y A x (by simp);omega
 have hb:W.opn<100000000:=by have:=h.opn.2.1;omega
 have AR:∀y∈s0,AJ W.dir ks y.1≠AJ W.dir ks W.opn:=λy A e=>by
  have:=Aq y A;have:=Fo (by omega) hb e;omega
 obtain⟨f,hf,hd⟩:=h.sh.file s0.length x (by simp);rw[he]at hf;simp at hd;have G:Good (x.2++[r]):=(h.sh.PF x hx).append λr' YI=>by simp at YI;subst YI;exact⟨hr,h8⟩
 have RM:E6 fs (AJ W.dir ks W.opn) (frame r) (AJ W.dir ks W.opn)=some ⟨f.data++frame r,f.HU⟩:=by simp[E6,A8,hf]
 have Kl:∀y,y∈s0++[(x.1,x.2++[r])]->y∈s0\/y=(x.1,x.2++[r]):=λy A=>by simpa using A
 refine⟨⟨λh0=>?_,h.sh.fP,λs hs=>?_,Nat.le_succ_of_le h.sh.j2,λy A=>?_,?_,λs hs VQ=>?_,λi y A=>?_,λe=>by simp at e,FJ,h.sh.TC,λy A=>?_,h.sh.by8⟩,?_,⟨h.opn.1,by have:=h.opn.2.1;simp only;omega,λy A=>?_⟩,λy A mo=>?_,λA9=>absurd he (A9 (x.1,x.2++[r]) (by simp)),λg h0 G=>?_,λy A gQ g G=>?_,λy A mo=>?_,λA9=>absurd he (A9 (x.1,x.2++[r]) (by simp))⟩
 .obtain⟨g,G,e⟩:=h.sh.mg h0;exact⟨g,by rw[C2 BR];exact G,e⟩
 .by_cases Lh:s=AJ W.dir ks W.opn
  .subst Lh;exact h.sh.R6 _ (by rw[hf];rfl)
  .rw[C2 Lh]at hs;exact h.sh.R6 s hs
 .rcases Kl y A with A|rfl
  .have:=h.sh.gt y (by simp[A]);exact⟨this.1,by omega⟩
  .have:=h.sh.gt x hx;exact⟨this.1,by omega⟩
 .have:=h.sh.Lf;rw[Afl]at this ⊢;exact⟨this.1,by simp,λy A z hz=>by simp at hz;subst hz;exact this.2.2 y A x (by simp)⟩
 .have:(fs s).isSome=true:=by
   by_cases Lh:s=AJ W.dir ks W.opn
   .subst Lh;rw[hf];rfl
   .rw[C2 Lh]at hs;exact hs
  obtain⟨y,A,oE⟩:=h.sh.mi s this VQ;rcases Ae9.1 A with A|A
  .exact⟨y,by simp[A],oE⟩
  .simp at A;subst A;exact⟨(y.1,y.2++[r]),by simp,oE⟩
 .rcases Afp i s0.length with hi|hi
  .rw[Ae8 hi]at A;have JN:y∈s0:=Ae2 A;obtain⟨g,G,e⟩:=h.sh.file i y (by rw[Ae8 hi];exact A);rw[Aeu (by simp;omega)]at e ⊢;exact⟨g,by rw[C2 (AR y JN)];exact G,e⟩
  .have pK:i=s0.length:=by
    have:=(Ae0.1 A).1;simp at this;omega
   subst pK;simp at A;subst A;refine⟨_,by rw[he];exact RM,?_⟩;simp[hd,AU]
 .rcases Kl y A with A|rfl
  .exact h.sh.PF y (by simp[A])
  .exact G
 .simp[h.AS]
 .rcases Kl y A with A|rfl
  .exact h.opn.2.2 y (by simp[A])
  .exact h.opn.2.2 x hx
 .rcases Kl y A with A|rfl
  .have:=Aq y A;simp only at mo;omega
  .have:=h.size x hx he;simp[this,AU]
 .rw[C2 BR]at G;exact h.sync g h0 G
 .rcases Kl y A with A|rfl
  .rw[C2 (AR y A)]at G;exact h.TD y (by simp[A]) gQ g G
  .simp only at gQ;omega
 .rcases Kl y A with A|rfl
  .have:=Aq y A;simp only at mo;omega
  .obtain⟨m,g,hm,G,hms,hs⟩:=h.dur x hx he;rw[he,hf]at G;cases G;refine⟨m,_,by simp;omega,by rw[he];exact RM,?_,?_⟩
   .rw[AgE hm];exact hms
   .simp only[CX,Fq,Aet,Aez,Afw]at hs ⊢;omega
theorem BF.ADL {r:List Int}(h:BF fs cnt W rc sg safe)(hn:cnt<99999998)(A9:∀x∈sg,x.1≠W.opn)(hr:r.length<=65536)(h8:Ft r):
  BF (E6 fs (AJ W.dir ks W.opn) (frame r)) (cnt+1) { W with AS:=W.AS++[W.opn],size:=W.size+(frame r).length } rc (sg++[(W.opn,[r])]) safe:=by
 have hb:W.opn<100000000:=by have:=h.opn.2.1;omega
 have ka:=h.free (by omega) A9;have Aq:∀y∈sg,y.1<W.opn:=λy A=>by have:=h.opn.2.2 y A;have:=A9 y A;omega
 have AR:∀y∈sg,AJ W.dir ks y.1≠AJ W.dir ks W.opn:=λy A e=>by
  have:=Aq y A;have:=Fo (by omega) hb e;omega
 have RM:E6 fs (AJ W.dir ks W.opn) (frame r) (AJ W.dir ks W.opn)=some ⟨frame r,0⟩:=by simp[E6,A8,ka]
 have Kl:∀y,y∈sg++[(W.opn,[r])]->y∈sg\/y=(W.opn,[r]):=λy A=>by simpa using A
 have AFz:=CC (dir:=W.dir) (kind:=ks) hb;have hold:∀s,(E6 fs (AJ W.dir ks W.opn) (frame r) s).isSome=true->(fs s).isSome=true\/s=AJ W.dir ks W.opn:=λs G=>by
  by_cases Lh:s=AJ W.dir ks W.opn
  .exact .inr Lh
  .rw[C2 Lh]at G;exact .inl G
 refine⟨⟨λh0=>?_,h.sh.fP,λs G=>?_,Nat.le_succ_of_le h.sh.j2,λy A=>?_,?_,λs G VQ=>?_,λi y A=>?_,λe=>by simp at e,FJ,h.sh.TC,λy A=>?_,h.sh.by8⟩,?_,⟨h.opn.1,by have:=h.opn.2.1;simp only;omega,λy A=>?_⟩,λy A mo=>?_,λjy=>absurd rfl (jy (W.opn,[r]) (by simp)),λg h0 hg=>?_,λy A gQ g hg=>?_,λy A mo=>?_,λjy=>absurd rfl (jy (W.opn,[r]) (by simp))⟩
 .obtain⟨g,hg,e⟩:=h.sh.mg h0;exact⟨g,by rw[C2 BR];exact hg,e⟩
 .rcases hold s G with G|rfl
  .exact h.sh.R6 s G
  .show numOf W.dir kc (AJ W.dir ks W.opn)<=W.check
   rcases Af4 (numOf W.dir kc (AJ W.dir ks W.opn)) with h0|h0
   .omega
   .have:=J6 h0;have:=h.opn.1;omega
 .rcases Kl y A with A|rfl
  .have:=h.sh.gt y A;exact⟨this.1,by omega⟩
  .exact⟨h.opn.1,h.opn.2.1⟩
 .rw[Afl];exact⟨h.sh.Lf,by simp,λy A z hz=>by simp at hz;subst hz;exact Aq y A⟩
 .rcases hold s G with G|rfl
  .obtain⟨y,A,oE⟩:=h.sh.mi s G VQ;exact⟨y,by simp[A],oE⟩
  .exact⟨(W.opn,[r]),by simp,AFz.symm⟩
 .rcases Afp i sg.length with hi|hi
  .rw[Ae8 hi]at A;have JN:y∈sg:=Ae2 A;obtain⟨g,hg,e⟩:=h.sh.file i y A;refine⟨g,by rw[C2 (AR y JN)];exact hg,?_⟩;rw[e];simp
  .have pK:i=sg.length:=by
    have:=(Ae0.1 A).1;simp at this;omega
   subst pK;simp at A;subst A;exact⟨_,RM,by simp[AU]⟩
 .rcases Kl y A with A|rfl
  .exact h.sh.PF y A
  .intro r' YI;simp at YI;subst YI;exact⟨hr,h8⟩
 .simp[h.AS]
 .rcases Kl y A with A|rfl
  .exact h.opn.2.2 y A
  .exact Ae1 _
 .rcases Kl y A with A|rfl
  .have:=Aq y A;simp only at mo;omega
  .have:=h.Qh A9;simp[this,AU]
 .rw[C2 BR]at hg;exact h.sync g h0 hg
 .rcases Kl y A with A|rfl
  .rw[C2 (AR y A)]at hg;exact h.TD y A gQ g hg
  .simp only at gQ;omega
 .rcases Kl y A with A|rfl
  .have:=Aq y A;simp only at mo;omega
  .refine⟨0,_,by simp,RM,by simp[AU],?_⟩;have:=h.qD A9;simp only[CX,Fq,Aet,Aez,Afw]at this ⊢;omega
theorem BF.synced {s0:Sg}{x:Nat×Bk}{f:Fl}(h:BF fs cnt W rc (s0++[x]) safe)(hn:cnt<99999998)(he:x.1=W.opn)(hf:fs (AJ W.dir ks W.opn)=some f):
  BF (A8 fs (AJ W.dir ks W.opn) (some ⟨f.data,f.data.length⟩)) cnt W rc (s0++[x]) (rc++A0 (s0++[x])).length:=by
 have hx:x∈s0++[x]:=by simp
 have Aq:∀y∈s0,y.1<W.opn:=λy hy=>by
  have:=h.sh.Lf;rw[Afl]at this;have:=this.2.2 y hy x (by simp);omega
 have hb:W.opn<100000000:=by have:=h.opn.2.1;omega
 have AR:∀y∈s0,AJ W.dir ks y.1≠AJ W.dir ks W.opn:=λy hy e=>by
  have:=Aq y hy;have:=Fo (by omega) hb e;omega
 obtain⟨f2,qe,hd⟩:=h.sh.file s0.length x (by simp);rw[he,hf]at qe;cases qe;simp at hd;have hold:∀s,(A8 fs (AJ W.dir ks W.opn) (some ⟨f.data,f.data.length⟩) s).isSome=true->(fs s).isSome=true:=λs hs=>by
  by_cases Lh:s=AJ W.dir ks W.opn
  .subst Lh;rw[hf];rfl
  .rwa[Ap Lh]at hs
 refine⟨⟨λh0=>?_,h.sh.fP,λs hs=>h.sh.R6 s (hold s hs),h.sh.j2,h.sh.gt,h.sh.Lf,λs hs=>h.sh.mi s (hold s hs),λi y hy=>?_,h.sh.ADJ,FJ,h.sh.TC,h.sh.PF,h.sh.by8⟩,h.AS,h.opn,h.size,h.Qh,λg h0 G=>?_,λy hy gQ g G=>?_,λy hy mo=>?_,λA9=>absurd he (A9 x hx)⟩
 .obtain⟨g,G,e⟩:=h.sh.mg h0;exact⟨g,by rw[Ap BR];exact G,e⟩
 .obtain⟨g,G,e⟩:=h.sh.file i y hy;rcases Ae9.1 (Ae2 hy) with A|A
  .exact⟨g,by rw[Ap (AR y A)];exact G,e⟩
  .simp at A;subst A;rw[he,hf]at G;cases G;exact⟨⟨f.data,f.data.length⟩,by rw[he];exact Cb,e⟩
 .rw[Ap BR]at G;exact h.sync g h0 G
 .rcases Ae9.1 hy with A|A
  .rw[Ap (AR y A)]at G;exact h.TD y hy gQ g G
  .simp at A;subst A;omega
 .rcases Ae9.1 hy with A|A
  .have:=Aq y A;omega
  .simp at A;subst A;exact⟨y.2.length,⟨f.data,f.data.length⟩,Ae1 _,by rw[he];exact Cb,by rw[Ag2,<-hd];exact Ae1 _,Ae1 _⟩
theorem BF.rotate {s0:Sg}{x:Nat×Bk}(h:BF fs cnt W rc (s0++[x]) safe)(hn:cnt<99999998)(he:x.1=W.opn)(hs:∀f,fs (AJ W.dir ks W.opn)=some f->f.HU=f.data.length)(mn:safe<=(rc++A0 (s0++[x])).length):
  BF fs cnt { W with opn:=W.opn+1,size:=0 } rc (s0++[x]) safe:=by
 have hx:x∈s0++[x]:=by simp
 have A:=h.opn.2.2;refine⟨h.sh,h.AS,⟨by have:=h.opn.1;simp only;omega,by have:=(h.sh.gt x hx).2;simp only;omega,λy G=>by have:=A y G;simp only;omega⟩,λy G mo=>?_,λ_=>rfl,h.sync,λy G gQ f hf=>?_,λy G mo=>?_,λ_=>mn⟩
 .have:=A y G;simp only at mo;omega
 .rcases Afp y.1 W.opn with h1|h1
  .exact h.TD y G h1 f hf
  .have:y.1=W.opn:=by have:=A y G;omega
   rw[this]at hf;exact hs f hf
 .have:=A y G;simp only at mo;omega
end
structure Out (dir:ByteArray)(fs gs:Fs):Prop where
 out:∀s,Am s (dir++CG)=false->gs s=fs s
 new:∀s,(gs s).isSome=true->(fs s).isSome=true\/0<numOf dir kc s\/0<numOf dir ks s\/s=BO dir
theorem Out.refl {dir:ByteArray}{fs:Fs}:Out dir fs fs:=⟨λ_ _=>rfl,λ_ h=>.inl h⟩
theorem Out.trans {dir:ByteArray}{fs gs A:Fs}(h:Out dir fs gs)(g:Out dir gs A):Out dir fs A:=⟨λs hb=>(g.out s hb).trans (h.out s hb),λs hb=>(g.new s hb).elim (h.new s) .inr⟩
theorem X6 {s dir:ByteArray}{l:List UInt8}(h:s.data.toList=dir.data.toList++47::l):Am s (dir++CG)=true:=by
 unfold Am;rw[decide_eq_true_iff,Dc,h];exact⟨l,by simp[CG]⟩
theorem Ca {dir kind:ByteArray}{n:Nat}:Am (AJ dir kind n) (dir++CG)=true:=X6 (l:=kind.data.toList++La n) (by rw[C7,MI];simp)
theorem Pv {dir:ByteArray}:Am (BO dir) (dir++CG)=true:=X6 (l:=[110,101,119]) (by rw[BO,Dc])
theorem Out.del {dir s:ByteArray}{fs:Fs}(h:Am s (dir++CG)=true):Out dir fs (TwW.A8 fs s none):=⟨λt A=>Ap λe=>(by rw[e,h]at A;cases A),λt A=>by
 by_cases e:t=s
 .subst e;rw[Cb]at A;cases A
 .rw[Ap e]at A;exact .inl A⟩
theorem Out.put {dir kind:ByteArray}{n:Nat}{fs:Fs}{x:Option Fl}(hk:kind=kc\/kind=ks)(h0:0<n)(G:n<100000000):Out dir fs (TwW.A8 fs (AJ dir kind n) x):=⟨λt A=>Ap λe=>(by rw[e,Ca]at A;cases A),λt A=>by
 by_cases e:t=AJ dir kind n
 .subst e;have:=CC (dir:=dir) (kind:=kind) G;rcases hk with rfl|rfl
  .exact .inr (.inl (by omega))
  .exact .inr (.inr (.inl (by omega)))
 .rw[Ap e]at A;exact .inl A⟩
theorem Out.app {dir kind:ByteArray}{n:Nat}{fs:Fs}{xs:List Int}(hk:kind=kc\/kind=ks)(A:0<n)(G:n<100000000):Out dir fs (TwW.E6 fs (AJ dir kind n) xs):=Out.put hk A G
section
variable {Z22 Z'2 O2:Hp}{d b:Nat}{D:Dk}{W:Wl}{R:Rr}
structure vu (Z22:Hp)(d:Nat)(D:Dk)(O2:Hp)(L:Hp->Dk->Prop)(fs IW:Fs)(c:Nat)(R:Rr):Prop where
 ok:∀Z'2,L Z'2 ⟨fs,true,D.armed,c⟩->R (.returned (.I 0)) Z'2
 bad:D.armed=true->∀Z'2 gs,Gg IW gs->Ac Z'2 d ⟨gs,false,false,c⟩ O2->R (.returned (.I 60)) Z'2
theorem vu.wr {fs G:Fs}{c:Nat}{Sd S:List Nat}{p:Option Addr}{cc:Nat}{T:TypeId}(h2:Gh (Z22.off Sd) b d W S p cc T)(h3:Ext O2 ((Z22.off Sd).off S))(h:vu Z22 d D O2 (λZ'2 D'=>Ad Z'2 d b D' W O2) fs G c R):Wr Z22 Sd d D fs G c R:=
 ⟨λZ'2 S' hd A=>h.ok Z'2 (Ad.step h2 h3 hd A),λha Z'2 S' gs hg hd A=>h.bad ha Z'2 gs hg (Ad.step h2 h3 hd A).vq⟩
theorem vu.wrd {fs G:Fs}{c:Nat}{Sd:List Nat}(h3:Ext O2 (Z22.off Sd))(h:vu Z22 d D O2 (λZ'2 D'=>Ac Z'2 d D' O2) fs G c R):Wr Z22 Sd d D fs G c R:=
 ⟨λZ'2 S' hd A=>h.ok Z'2 ⟨S',hd,h3.trans A⟩,λha Z'2 S' gs hg hd A=>h.bad ha Z'2 gs hg ⟨S',hd,h3.trans A⟩⟩
theorem mq {s:ByteArray}{p:Option Addr}{n c:Nat}{xs:List Int}(h:Ad Z22 d b D W O2)(CA:D.up=true)(hn:Ab s=true)(hc:aL D)(hx:Be .u8 O2 p n xs)(A:((D.files s).getD ⟨[],0⟩).data.length+n<=4194304)
  (hw:vu Z22 d D O2 (λZ'2 D'=>Ad Z'2 d b D' W O2) (E6 D.files s xs) (E6 D.files s xs) (D.cnt+1) R):Spec prog 110 #[.pointer (some ⟨d,0,none⟩),.string s,.slice p n c] Z22 R:=by
 obtain⟨Sd,S,q,cc,T,h1,h2,G⟩:=h;exact Su h1 CA hn hc (hx.mono (G.trans (Ext.FW _ _))) A (hw.wr h2 G)
theorem vv {s:ByteArray}{f:Fl}(h:Ad Z22 d b D W O2)(A:D.up=true)(hn:Ab s=true)(hf:D.files s=some f)
  (hw:vu Z22 d D O2 (λZ'2 D'=>Ad Z'2 d b D' W O2) (A8 D.files s (some ⟨f.data,f.data.length⟩)) D.files D.cnt R):Spec prog 109 #[.pointer (some ⟨d,0,none⟩),.string s] Z22 R:=by
 obtain⟨Sd,S,q,cc,T,G,h2,h3⟩:=h;exact Xk G A hn hf (hw.wr h2 h3)
theorem Q7 {s:ByteArray}{f:Fl}(h:Ad Z22 d b D W O2)(A:D.up=true)(hn:Ab s=true)(hf:D.files s=some f)
  (hw:vu Z22 d D O2 (λZ'2 D'=>Ad Z'2 d b D' W O2) (A8 D.files s none) D.files D.cnt R):Spec prog 31 #[.pointer (some ⟨d,0,none⟩),.string s] Z22 R:=by
 obtain⟨Sd,S,q,cc,T,G,h2,h3⟩:=h;exact Sv G A hn hf (hw.wr h2 h3)
theorem KD {K:Hp->Prop}(h:K Z22):Spec prog 77 #[.I 0] Z22 (BI R λv A=>v=.tuple #[]/\K A):=
 Uj.start ⟨λG=>absurd rfl G,λ_=>⟨rfl,h⟩⟩
theorem Pw {K:Hp->Prop}(h:R (.panicked (gi 60)) Z22):Spec prog 77 #[.I 60] Z22 (BI R λv A=>v=.tuple #[]/\K A):=
 Uj.start ⟨λ_=>h,λG=>absurd (by decide) G⟩
def hasB (W:Wl):Bool:=decide (W.AS.getLast?=some W.opn)
theorem Vn (h:Ad Z22 d b D W O2)(A:R (.returned (.bool (hasB W))) Z22):Spec prog 108 #[.pointer (some ⟨b,0,none⟩)] Z22 R:=by
 have r:=h.rd;obtain⟨p,c,hc,G,JW⟩:=r.AS;have EW:=JW.big;refine Sf.start ⟨b,0,rfl,p,_,c,G,λGb=>?_,λhz=>?_⟩
 .have AXt:0<W.AS.length:=by omega
  have LH:W.AS.getLast?=some (W.AS[W.AS.length-1]):=by rw[AiM,Ae3 (by omega)]
  have hg:(KB W.AS)[W.AS.length-1]?=some ((W.AS[W.AS.length-1]:Nat):Int):=by
   rw[KB,AfZ,Ae3 (by omega)];rfl
  obtain⟨Nn,RH,rfl,Rl⟩:=JW.at hg;have e:Int.toNat (((W.AS.length:Nat):Int)-1)=W.AS.length-1:=by omega
  refine⟨_,_,c,G,_,_,c,G,by unfold AK;omega,Nn,RH,rfl,by omega,_,by rw[e];exact Rl,W.opn,r.opn,?_⟩;have:decide (((W.AS[W.AS.length-1]:Nat):Int)=(W.opn:Int))=hasB W:=by
   unfold hasB;rw[LH];apply decide_eq_decide.2
   simp only[AfL];omega
  dsimp only;rw[this];exact A
 .have:hasB W=false:=by
   have:W.AS=[]:=Ae6 (by omega);simp[hasB,this]
  rw[this]at A;exact A
theorem FL {fs:Fs}{cnt:Nat}{rc:Bk}{sg:Sg}{safe:Nat}(h:BF fs cnt W rc sg safe):(hasB W=true->∃s0 x,sg=s0++[x]/\x.1=W.opn)/\(hasB W=false->∀x∈sg,x.1≠W.opn):=by
 constructor
 .intro A;simp only[hasB,AfQ]at A;rcases Agq sg with rfl|⟨s0,x,rfl⟩
  .rw[h.AS]at A;simp at A
  .refine⟨s0,x,by simp,?_⟩;rw[h.AS]at A;simpa using A
 .intro A x hx G;obtain⟨s0,rfl,_⟩:=mj h.sh.Lf h.opn.2.2 hx G;have:hasB W=true:=by simp[hasB,h.AS,G]
  rw[this]at A;cases A
theorem fR:∀(l:List Nat) (lo hi:Nat),l.Pairwise (· < ·)->(∀x∈l,lo<=x/\x<hi)->l.length<=hi-lo
 | [],_,_,_,_=>AfI _
 | a::l,lo,hi,hp,hb=>by
  rw[Afb]at hp;have G:=fR l (a+1) hi hp.2 λx A=>⟨hp.1 x A,(hb x (by simp[A])).2⟩;have h2:=hb a (by simp);simp;omega
theorem BF.len {fs:Fs}{cnt:Nat}{rc:Bk}{sg:Sg}{safe:Nat}(h:BF fs cnt W rc sg safe):W.AS.length<=cnt+1:=by
 have:=fR W.AS 0 (cnt+1) (by rw[h.AS,AgD];exact h.sh.Lf) (λx A=>by
  rw[h.AS]at A;obtain⟨y,G,rfl⟩:=AfC.1 A;have:=h.sh.gt y G;omega)
 simpa using this
structure AGL (d b:Nat)(D:Dk)(W:Wl)(O2:Hp)(rc:Bk)(sg:Sg)(safe:Nat)(xs:List Int)(rok:Hp->Prop)(vw:Hp->Prop):Prop where
 ok:∀Z'2 D' W' Li GZ,Ad Z'2 d b D' W' O2->D'.up=true->D'.armed=D.armed->D'.cnt=D.cnt+1->W'.dir=W.dir->(W'.AS.length<=W.AS.length+1/\W'.size<=4096+(frame xs).length/\hasB W'=true/\W.AS <+: W'.AS/\∀s,(D'.files s).isSome=true->(D.files s).isSome=true\/s=AJ W'.dir ks W'.opn)->BF D'.files D'.cnt W' rc Li GZ->safe<=GZ->A0 Li=A0 sg++[xs]->Out W.dir D.files D'.files->
  D'.files (BO W.dir)=D.files (BO W.dir)->W'.check=W.check->(hasB W=false->W'.AS=W.AS++[W.opn]/\W'.opn=W.opn/\W'.size=W.size+(frame xs).length)->(hasB W=true->W.size<4096->W'.AS=W.AS/\W'.opn=W.opn/\W'.size=W.size+(frame xs).length)->(hasB W=false\/W.size<4096->D'.files=E6 D.files (AJ W.dir ks W.opn) (frame xs))->rok Z'2
 bad:D.armed=true->∀Z'2 D' told,Ac Z'2 d D' O2->D'.up=false->D'.armed=false->(D'.cnt<=D.cnt+1/\∀s,(D'.files s).isSome=true->(D.files s).isSome=true\/s=AJ W.dir ks W.opn\/s=AJ W.dir ks (W.opn+1))->Kq D'.files W.dir D'.cnt told->told <+: rc++A0 sg++[xs]->safe<=told.length->vw Z'2
theorem ADM {b0 b1:Nat}{G:Option Addr}{cf:Nat}{fr:List Int}(h:Ad Z22 d b D W O2)(t0:O2 b0=some (.cells #[.pointer (some ⟨b,0,none⟩)] 71 (0,0)))(t1:O2 b1=some (.cells #[.slice G fr.length cf] 79 (0,0)))(Dz:W.size+fr.length<=4194304)
  (hR:∀Z'2,Ad Z'2 d b D { W with size:=W.size+fr.length } O2->R (.T #[]) Z'2):Ba.Ep R b0 b1 Z22:=by
 have r:=h.rd;have A:=h.ext;refine Ba.FQ ⟨_,AD (A _ _ t0) rfl,b,0,rfl,W.size,r.size,G,_,cf,AD (A _ _ t1) rfl,by unfold AK;omega,?_⟩;have e:((W.size:Int)+(fr.length:Int))=((W.size+fr.length:Nat):Int):=by omega
 rw[e];exact h.st (i:=0+5) (W':={ W with size:=W.size+fr.length }) (by omega) rfl (λp n c=>rfl) hR
theorem ADN {b0 b1:Nat}{pf:Option Addr}{cf:Nat}{xs:List Int}{rc:Bk}{sg:Sg}{safe ADO:Nat}{D0:Dk}{W0:Wl}(h:Ad Z22 d b D W O2)(ht:Tb O2)(t0:O2 b0=some (.cells #[.pointer (some ⟨b,0,none⟩)] 71 (0,0)))(t1:O2 b1=some (.cells #[.slice pf (frame xs).length cf] 79 (0,0)))
  (hx:Be .u8 O2 pf (frame xs).length (frame xs)) (Y9:xs.length<=65536) (h8:Ft xs) (CA:D.up=true) (NK:D.cnt<67108864) (IS:aL D) (hd:Co W.dir=true) (A:BF D.files D.cnt W rc sg safe) (Dz:W.size<=4096) (hss:ADO<=safe)
  (hD:D.armed=D0.armed/\D.cnt=D0.cnt/\Out W.dir D0.files D.files/\D.files (BO W.dir)=D0.files (BO W.dir)/\∀s,(D.files s).isSome=true->(D0.files s).isSome=true) (ho0:W.opn=W0.opn\/W.opn=W0.opn+1) (hW:W.dir=W0.dir/\W.AS=W0.AS/\W.check=W0.check/\(hasB W0=false->W=W0)/\(hasB W0=true->W0.size<4096->W=W0)/\(hasB W0=false\/W0.size<4096->W=W0/\D.files=D0.files))
  (hR:AGL d b D0 W0 O2 rc sg ADO xs (λZ'2=>R (.T #[]) Z'2) (λZ'2=>R (.panicked (gi 60)) Z'2)):Ba.EK R b0 b1 Z22:=by
 have r:=h.rd;have WE:=h.ext;have NV:W.dir.size<=32:=by simp[Co]at hd;exact hd.2
 have AGM:=A.opn.2.1;have gT:=eW Y9;have Ie:Ab (AJ W.dir ks W.opn)=true:=GU hd (.inr rfl) (by omega);refine Ba.DB ⟨_,AD (WE _ _ t0) rfl,b,0,rfl,_,r.ptr,_,AD (WE _ _ t0) rfl,_,AD (WE _ _ t0) rfl,b,0,rfl,W.opn,r.opn,pf,_,cf,AD (WE _ _ t1) rfl,?_⟩;refine Dq (kind:=ks) r.dir NV (.inr rfl) (by omega) (ht.mono WE) λZ12 Ct=>⟨_,rfl,Kp.CV Ct,?_⟩;have h1:=h.mono Ct;have hlen:((D.files (AJ W.dir ks W.opn)).getD ⟨[],0⟩).data.length<=4096:=by
  cases hb:hasB W with
  | true=>
   obtain⟨s0,x,rfl,he⟩:=(FL A).1 hb;obtain⟨f,hf,e⟩:=A.sh.file s0.length x (by simp);rw[he]at hf;rw[hf];have:=A.size x (by simp) he;simp at e;simp[e];omega
  | false=>
   rw[A.free (by omega) ((FL A).2 hb)];simp
 have AMl:∀G:Sg,A0 G=A0 sg++[xs]->rc++A0 G=rc++A0 sg++[xs]:=λG e=>by rw[e,Aew]
 have AMm:∀W' G,W'.dir=W.dir->BF (E6 D.files (AJ W.dir ks W.opn) (frame xs)) (D.cnt+1) W' rc G safe->A0 G=A0 sg++[xs]->D.armed=true->∀Z'2 gs,Gg (E6 D.files (AJ W.dir ks W.opn) (frame xs)) gs->Ac Z'2 d ⟨gs,false,false,D.cnt+1⟩ O2->R (.panicked (gi 60)) Z'2:=by
  intro W' G R7 hl he ha Z'2 gs hg Vo;obtain⟨told,g1,g2,g3⟩:=hl.fQ hg;rw[AMl G he]at g2;rw[R7]at g1;refine hR.bad (hD.1▸ha) Z'2 _ told Vo rfl rfl ⟨by simp only;omega,λs hs=>?_⟩ (hW.1▸g1) g2 (by omega);have bR:=hg.aj hs;by_cases Lh:s=AJ W.dir ks W.opn
  .rw[Lh,hW.1];rcases ho0 with e|e<;>rw[e]
   .exact .inr (.inl rfl)
   .exact .inr (.inr rfl)
  .rw[C2 Lh]at bR;exact .inl (hD.2.2.2.2 s bR)
 have okR:∀W' G GZ,W'.check=W.check->(hasB W=false->W'.AS=W.AS++[W.opn]/\W'.opn=W.opn/\W'.size=W.size+(frame xs).length)->(hasB W=true->W'.AS=W.AS/\W'.opn=W.opn/\W'.size=W.size+(frame xs).length)->W'.dir=W.dir->(W'.AS.length<=W.AS.length+1/\W'.size<=4096+(frame xs).length/\hasB W'=true/\W.AS <+: W'.AS/\W'.opn=W.opn)->BF (E6 D.files (AJ W.dir ks W.opn) (frame xs)) (D.cnt+1) W' rc G GZ->safe<=GZ->A0 G=A0 sg++[xs]->∀Z'2,Ad Z'2 d b ⟨E6 D.files (AJ W.dir ks W.opn) (frame xs),true,D.armed,D.cnt+1⟩ W' O2->R (.T #[]) Z'2:=by
  intro W' G GZ q1 q2 q3 R7 qt hl hle he Z'2 hlu;refine hR.ok Z'2 _ W' G GZ hlu rfl hD.1 (by simp only;omega) (R7.trans hW.1) ⟨by rw[<-hW.2.1];exact qt.1,qt.2.1,qt.2.2.1,by rw[<-hW.2.1];exact qt.2.2.2.1,λs hs=>?_⟩ hl (by omega) he ?_ ?_ (q1.trans hW.2.2.1) (λhb=>by rw[<-hW.2.2.2.1 hb];exact q2 (by rw[hW.2.2.2.1 hb];exact hb)) (λhb hz=>by rw[<-hW.2.2.2.2.1 hb hz];exact q3 (by rw[hW.2.2.2.2.1 hb hz];exact hb)) (λhz=>by obtain⟨e1,e2⟩:=hW.2.2.2.2.2 hz;rw[<-e1,<-e2])
  .by_cases Lh:s=AJ W.dir ks W.opn
   .exact .inr (by rw[Lh,R7,qt.2.2.2.2])
   .have bR:(E6 D.files (AJ W.dir ks W.opn) (frame xs) s).isSome=true:=hs;rw[C2 Lh]at bR;exact .inl (hD.2.2.2.2 s bR)
  .exact hW.1▸hD.2.2.1.trans (Out.app (.inr rfl) (by have:=A.opn.1;omega) (by omega))
  .have:=hD.2.2.2.1;rw[<-hW.1];show E6 D.files (AJ W.dir ks W.opn) (frame xs) (BO W.dir)=_
   rw[C2 (B4 (.inr rfl))];exact this
 refine mq h1 CA Ie IS hx (by omega) ⟨λZ222 h2=>⟨_,rfl,KD ?_⟩,λha Z222 gs hg Vo=>⟨_,rfl,Pw ?_⟩⟩
 .have BD:=h2.ext;refine⟨_,AD (BD _ _ t0) rfl,Vn h2 ⟨_,rfl,λhb=>?_,λhb=>?_⟩⟩
  .have A9:=(FL A).2 hb;have hl:=A.ADL (by omega) A9 Y9 h8;obtain⟨p53,c53,Ab4,AA3,AXv⟩:=h2.rd.AS;refine⟨_,AD (BD _ _ t0) rfl,_,AD (BD _ _ t0) rfl,b,0,rfl,p53,_,c53,AA3,_,AD (BD _ _ t0) rfl,b,0,rfl,W.opn,h2.rd.opn,λbM AMn=>?_⟩;have NQ:W.AS.length<=67108864:=AfU (A.len) (by omega);have hb0:∀b,O2 b≠none->b≠bM:=λb' h1 e=>by
    cases h2:O2 b' with
    | none=>exact h1 h2
    | some o=>have:=BD _ _ h2;rw[e,AMn]at this;cases this
   refine(h2.app (Φ:=λ_ AMo=>Ba.Ep R b0 b1 AMo) AA3 NQ AMn (K:=λZa Zb=>Kp [b0] Za Zb) (λZ'2 E4=>λk hk o ho=>?_) λZ3 h3=>?_).mono λv Z3 ⟨p',n',c',e1,e2,e3⟩=>⟨p',n',c',e1,e2,b,0,rfl,e3⟩
   .simp only[Aev]at hk;subst hk;rw[Hp.AB (hb0 k (by rw[t0];simp)),BD _ _ t0]at ho;cases ho;exact E4 _ _ t0
   .exact ADM h3 t0 t1 (by simp only;omega) λZ4 h4=>okR { W with AS:=W.AS++[W.opn],size:=W.size+(frame xs).length } _ _ rfl (λ_=>⟨rfl,rfl,rfl⟩) (λhh=>by rw[hb]at hh;cases hh) rfl ⟨by simp,by simp only;omega,by simp[hasB],Ah7 _ _,rfl⟩ hl (Ae1 _) (by simp[A0]) Z4 h4
  .obtain⟨s0,x,rfl,he⟩:=(FL A).1 hb;have hl:=A.ADK (by omega) he Y9 h8;refine ADM h2 t0 t1 (by omega) λZ3 h3=>okR { W with size:=W.size+(frame xs).length } _ _ rfl (λhh=>by rw[hb]at hh;cases hh) (λ_=>⟨rfl,rfl,rfl⟩) rfl ⟨by simp,by simp only;omega,hb,AiV _,rfl⟩ hl (Ae1 _) ?_ Z3 h3;simp[A0]
 .cases hb:hasB W with
  | true=>
   obtain⟨s0,x,rfl,he⟩:=(FL A).1 hb;exact AMm { W with size:=W.size+(frame xs).length } _ rfl (A.ADK (by omega) he Y9 h8) (by simp[A0]) ha Z222 gs hg Vo
  | false=>exact AMm { W with AS:=W.AS++[W.opn],size:=W.size+(frame xs).length } _ rfl (A.ADL (by omega) ((FL A).2 hb) Y9 h8) (by simp[A0]) ha Z222 gs hg Vo
end
section
variable {Z22 Z'2 O2:Hp}{d b:Nat}{D:Dk}{W:Wl}{R:Rr}
theorem ATx:Enters prog 107:=λargs w=>call107 args w
theorem BF.size_le {fs:Fs}{cnt:Nat}{rc:Bk}{safe:Nat}{s0:Sg}{x:Nat×Bk}(h:BF fs cnt W rc (s0++[x]) safe)(A:x.1=W.opn):∃f,fs (AJ W.dir ks W.opn)=some f/\f.data.length=W.size:=by
 obtain⟨f,G,e⟩:=h.sh.file s0.length x (by simp);rw[A]at G;have:=h.size x (by simp) A;simp at e;exact⟨f,G,by rw[e,this]⟩
theorem BF.AA4 {fs:Fs}{cnt:Nat}{rc:Bk}{sg:Sg}{safe:Nat}(h:BF fs cnt W rc sg safe):safe<=(rc++A0 sg).length:=by
 by_cases hl:∃x∈sg,x.1=W.opn
 .obtain⟨x,G,A⟩:=hl;obtain⟨m,f,hm,_,_,hs⟩:=h.dur x G A;omega
 .exact h.qD λx G A=>hl ⟨x,G,A⟩
theorem qE {b0 b1:Nat}{pf:Option Addr}{cf:Nat}{xs:List Int}{rc:Bk}{sg:Sg}{safe:Nat}(h:Ad Z22 d b D W O2)(ht:Tb O2)(t0:O2 b0=some (.cells #[.pointer (some ⟨b,0,none⟩)] 71 (0,0)))(t1:O2 b1=some (.cells #[.slice pf (frame xs).length cf] 79 (0,0)))
  (hx:Be .u8 O2 pf (frame xs).length (frame xs)) (Y9:xs.length<=65536) (h8:Ft xs) (CA:D.up=true) (NK:D.cnt<67108864) (IS:aL D) (hd:Co W.dir=true) (A:BF D.files D.cnt W rc sg safe)
  (hR:AGL d b D W O2 rc sg safe xs (λZ'2=>R (.T #[]) Z'2) (λZ'2=>R (.panicked (gi 60)) Z'2)):Spec prog 107 #[.pointer (some ⟨b0,0,none⟩),.pointer (some ⟨b1,0,none⟩)] Z22 R:=by
 have r:=h.rd;have G:=h.ext;have NV:W.dir.size<=32:=by simp[Co]at hd;exact hd.2
 have AGM:=A.opn.2.1;have keep:W.size<=4096->Ba.EK R b0 b1 Z22:=λDz=>ADN h ht t0 t1 hx Y9 h8 CA NK IS hd A Dz (Ae1 _) ⟨rfl,rfl,Out.refl,rfl,λ_ hs=>hs⟩ (.inl rfl) ⟨rfl,rfl,rfl,λ_=>rfl,λ_ _=>rfl,λ_=>⟨rfl,rfl⟩⟩ hR;refine Ba.start ⟨_,AD (G _ _ t0) rfl,Vn h ⟨_,rfl,λhb=>?_,λhb=>?_⟩⟩
 .obtain⟨s0,x,rfl,he⟩:=(FL A).1 hb;refine⟨_,AD (G _ _ t0) rfl,b,0,rfl,W.size,r.size,λEW=>?_,λKJ=>keep (by omega)⟩;obtain⟨f,hf,gT⟩:=A.size_le he;have Ie:Ab (AJ W.dir ks W.opn)=true:=GU hd (.inr rfl) (by omega);refine⟨_,AD (G _ _ t0) rfl,b,0,rfl,_,r.ptr,_,AD (G _ _ t0) rfl,_,AD (G _ _ t0) rfl,b,0,rfl,W.opn,r.opn,?_⟩;refine Dq (kind:=ks) r.dir NV (.inr rfl) (by omega) (ht.mono G) λZ12 Ct=>⟨_,rfl,Kp.CV Ct,?_⟩;have h1:=h.mono Ct;have hsy:=A.synced (by omega) he hf;refine vv h1 CA Ie hf ⟨λZ222 h2=>⟨_,rfl,KD ?_⟩,λha Z222 gs hg Vo=>⟨_,rfl,Pw ?_⟩⟩
  .have BD:=h2.ext;have je:∀s,(TwW.A8 D.files (AJ W.dir ks W.opn) (some ⟨f.data,f.data.length⟩) s).isSome=true->(D.files s).isSome=true:=λs hs=>by
    by_cases Lh:s=AJ W.dir ks W.opn
    .rw[Lh,hf];rfl
    .rwa[Ap Lh]at hs
   have ATy:=hsy.rotate (by omega) he (λg hg=>by rw[Cb]at hg;cases hg;rfl) (Ae1 _);refine⟨_,AD (BD _ _ t0) rfl,b,0,rfl,W.opn,h2.rd.opn,by unfold AK;omega,?_⟩;have e:((W.opn:Int)+1)=((W.opn+1:Nat):Int):=by omega
   rw[e];refine h2.st (i:=0+4) (W':={ W with opn:=W.opn+1 }) (by omega) rfl (λp n c=>rfl) λZ3 h3=>?_;have Ev:=h3.ext;refine⟨_,AD (Ev _ _ t0) rfl,b,0,rfl,?_⟩;refine h3.st (i:=0+5) (x:=0) (W':={ W with opn:=W.opn+1,size:=0 }) (by omega) rfl (λp n c=>rfl) λZ4 h4=>?_;exact ADN (D0:=D) (W0:=W) h4 ht t0 t1 hx Y9 h8 rfl NK (IS.sub (Ae1 _) je) hd ATy (AfI _) A.AA4 ⟨rfl,rfl,Out.put (.inr rfl) (by have:=A.opn.1;omega) (by omega),Ap (B4 (.inr rfl)),je⟩ (.inr rfl) ⟨rfl,rfl,rfl,λhh=>(by rw[hb]at hh;cases hh),λ_ hz=>(by omega),λhz=>(by rcases hz with hz|hz;rw[hb]at hz;cases hz;omega)⟩ hR
  .obtain⟨told,g1,g2,g3⟩:=A.fQ hg;exact hR.bad ha Z222 _ told Vo rfl rfl ⟨by simp only;omega,λs hs=>.inl (hg.aj hs)⟩ g1 (g2.trans (Ah7 _ _)) g3
 .have A9:=(FL A).2 hb;exact keep (by rw[A.Qh A9];omega)
theorem ak {p:Option Addr}{n c:Nat}{xs:List Int}{rc:Bk}{sg:Sg}{safe:Nat}(h:Ad Z22 d b D W O2)(ht:Tb O2)(hx:Be .u8 O2 p n xs)(h8:Ft xs)(CA:D.up=true)(NK:D.cnt<67108864)(hd:Co W.dir=true)(A4:BF D.files D.cnt W rc sg safe)
  (vz:65536<n->∀Z'2,Ad Z'2 d b D W O2->R (.returned (.I 70)) Z'2)
  (hR:n<=65536->AGL d b D W O2 rc sg safe xs (λZ'2=>R (.returned (.I 0)) Z'2) (λZ'2=>R (.returned (.I 60)) Z'2)) (IS:aL D:=by refine .inl ?_;first|omega|(dsimp only[dk];omega)|(dsimp only;omega)):Spec prog 46 #[.pointer (some ⟨b,0,none⟩),.slice p n c] Z22 R:=by
 have hnx:xs.length=n:=hx.1;refine L8.start λb2 KL=>?_;obtain⟨O1,h1,x1,t0⟩:=h.box (o:=.cells #[.pointer (some ⟨b,0,none⟩)] 71 (0,0)) KL;refine VK (hx.mono (x1.trans h1.ext)) (λhl=>⟨_,_,_,_,rfl,λb5 mF=>?_⟩) λhle p' n' c' Z12 ho Ct=>⟨_,_,_,_,rfl,λb5 mF=>?_⟩
 .obtain⟨A,h2,x2,t5⟩:=h1.box (o:=.cells #[.N] 79 (0,0)) mF;refine AH.store (v:=.N) aK (Hp.AA _ _ _) rfl (by simp) (by simp[Value.cells,Value.oneCell']) ?_;rw[Hp.set_set];obtain⟨O3,h3,x3,t5⟩:=h1.box (o:=.cells (F0 #[.N] 0 (Value.N).cells.toList) 79 (0,0)) mF;exact⟨λ_=>vz hl _ (h3.JL (x1.trans x3)),λhh=>absurd (by decide) hh⟩
 .obtain⟨A,h2,x2,x2n⟩:=h1.grow Ct;have gT:(frame xs).length=n':=by have:=ho.1;simpa using this
  subst gT;have RP:Be .u8 A p' (frame xs).length (frame xs):=(A2.rd ho).mono x2n;refine AH.store (v:=.slice p' (frame xs).length c') aK (Hp.AA _ _ _) rfl (by simp) (by simp[Value.cells,Value.oneCell']) ?_;rw[Hp.set_set];obtain⟨O3,h3,x3,t5⟩:=h2.box (o:=.cells (F0 #[.N] 0 (Value.slice p' (frame xs).length c').cells.toList) 79 (0,0)) mF;have hτ:Ext O2 O3:=x1.trans (x2.trans x3);have G:=hR hle;refine⟨λhh=>absurd rfl hh,λ_=>MK ATx ?_⟩;refine qE h3 (ht.mono hτ) (x3 _ _ (x2 _ _ t0)) t5 (RP.mono x3) (by omega) h8 CA NK IS hd A4
   ⟨λZ'2 D' W' Li GZ a1 a2 a3 a4 a5 a6 a7 a8 a9 a10 a11 a12 a13 a14 a15=>.inl ⟨rfl,_,rfl,G.ok Z'2 D' W' Li GZ (a1.JL hτ) a2 a3 a4 a5 a6 a7 a8 a9 a10 a11 a12 a13 a14 a15⟩,λha Z'2 D' told a1 a2 a3 a4 a5 a6 a7=>.inr ⟨60,rfl,_,rfl,G.bad ha Z'2 D' told (a1.JL hτ) a2 a3 a4 a5 a6 a7⟩⟩
theorem j3 {rc:Bk}{sg:Sg}{safe:Nat}(h:Ad Z22 d b D W O2)(ht:Tb O2)(CA:D.up=true)(NK:D.cnt<67108864)(hd:Co W.dir=true)(A:BF D.files D.cnt W rc sg safe)
  (hR:∀Z'2 D',Ad Z'2 d b D' W O2->D'.up=true->D'.armed=D.armed->D'.cnt=D.cnt->BF D'.files D'.cnt W rc sg (rc++A0 sg).length->Out W.dir D.files D'.files->D'.files (BO W.dir)=D.files (BO W.dir)->((hasB W=true->∃f,D.files (AJ W.dir ks W.opn)=some f/\D'.files=A8 D.files (AJ W.dir ks W.opn) (some ⟨f.data,f.data.length⟩))/\∀s,(D'.files s).isSome=true->(D.files s).isSome=true)->R (.returned (.I 0)) Z'2)
  (u4:D.armed=true->∀Z'2 D' told,Ac Z'2 d D' O2->D'.up=false->D'.armed=false->(D'.cnt=D.cnt/\∀s,(D'.files s).isSome=true->(D.files s).isSome=true)->Kq D'.files W.dir D'.cnt told->told <+: rc++A0 sg->safe<=told.length->R (.returned (.I 60)) Z'2):Spec prog 47 #[.pointer (some ⟨b,0,none⟩)] Z22 R:=by
 have r:=h.rd;have NV:W.dir.size<=32:=by simp[Co]at hd;exact hd.2
 have AGM:=A.opn.2.1;refine QR.start (Vn h ⟨_,rfl,λhb=>?_,λhb=>⟨b,0,rfl,_,r.ptr,W.opn,r.opn,?_⟩⟩)
 .have A9:=(FL A).2 hb;exact hR Z22 D h CA rfl rfl { A with dur:=λx hx he=>absurd he (A9 x hx),qD:=λ_=>Ae1 _ } Out.refl rfl ⟨λhh=>(by rw[hb]at hh;cases hh),λ_ G=>G⟩
 .obtain⟨s0,x,rfl,he⟩:=(FL A).1 hb;obtain⟨f,hf,gT⟩:=A.size_le he;have Ie:Ab (AJ W.dir ks W.opn)=true:=GU hd (.inr rfl) (by omega);refine Dq (kind:=ks) r.dir NV (.inr rfl) (by omega) (ht.mono h.ext) λZ12 Ct=>⟨_,rfl,Kp.CV Ct,?_⟩;refine vv (h.mono Ct) CA Ie hf ⟨λZ222 h2=>⟨_,rfl,?_⟩,λha Z222 gs hg Vo=>⟨_,rfl,?_⟩⟩
  .exact hR Z222 _ h2 rfl rfl rfl (A.synced (by omega) he hf) (Out.put (.inr rfl) (by have:=A.opn.1;omega) (by omega)) (Ap (B4 (.inr rfl))) ⟨λ_=>⟨f,hf,rfl⟩,λs G=>by
    by_cases Lh:s=AJ W.dir ks W.opn
    .rw[Lh,hf];rfl
    .have bR:(TwW.A8 D.files (AJ W.dir ks W.opn) (some ⟨f.data,f.data.length⟩) s).isSome=true:=G;rwa[Ap Lh]at bR⟩
  .obtain⟨told,g1,g2,g3⟩:=A.fQ hg;exact u4 ha Z222 _ told Vo rfl rfl ⟨rfl,λs G=>hg.aj G⟩ g1 g2 g3
end
theorem X7:∀(c l m:List UInt8),c++l<=c++m->l<=m
 | [],_,_,h=>h
 | a::c,l,m,h=>by
  rcases Aig.1 (show a::(c++l)<=a::(c++m) from h) with A|⟨_,G⟩
  .exact absurd A (by simp[UInt8.lt_irrefl])
  .exact X7 c l m G
theorem fS:∀{l m:List Nat},l.Pairwise (· < ·)->m.Pairwise (· < ·)->(∀x,x∈l↔x∈m)->l=m
 | [],[],_,_,_=>rfl
 | [],b::m,_,_,h=>by have:=(h b).2 (by simp);cases this
 | a::l,[],_,_,h=>by have:=(h a).1 (by simp);cases this
 | a::l,b::m,G,hm,h=>by
  rw[Afb]at G hm;have uN:a=b:=by
   rcases Ae5.1 ((h a).1 (by simp)) with e|e
   .exact e
   .rcases Ae5.1 ((h b).2 (by simp)) with e2|e2
    .exact e2.symm
    .have h1:=hm.1 a e;have h2:=G.1 b e2;omega
  subst uN;rw[fS G.2 hm.2 λx=>⟨λA=>?_,λA=>?_⟩]
  .rcases Ae5.1 ((h x).1 (by simp[A])) with e|e
   .have:=G.1 x A;omega
   .exact e
  .rcases Ae5.1 ((h x).2 (by simp[A])) with e|e
   .have:=hm.1 x A;omega
   .exact e
theorem v8 {dir s t:ByteArray}(hs:0<numOf dir ks s)(ht:0<numOf dir ks t)(h:s.data.toList<=t.data.toList):numOf dir ks s<=numOf dir ks t:=by
 obtain⟨A,l1⟩:=Ew hs;obtain⟨e2,l2⟩:=Ew ht;rw[A,e2,C7,C7]at h;have G:=AC7 _ _ (by rw[J2 l1,J2 l2]) (MH _) (MH _) (X7 _ _ _ h);rwa[Qu,Qu]at G
def FT (dir:ByteArray)(check:Nat)(L:List ByteArray):List Nat:=(L.map (numOf dir ks)).filter λn=>decide (check<n)
theorem Q8 {fs:Fs}{dir pre:ByteArray}{check:Nat}:∀{L:List ByteArray},L.Pairwise (λa b=>a.data.toList<=b.data.toList)->L.Nodup->(FT dir check L).Pairwise (· < ·)
 | [],_,_=>by simp[FT]
 | s::L,G,A=>by
  rw[Afb]at G;rw[Afe]at A;have ih:=Q8 (fs:=fs) (pre:=pre) (dir:=dir) (check:=check) G.2 A.2;unfold FT at ih ⊢;rw[AfN,AiQ];split
  .rename_i hc;rw[Afb];refine⟨λn WB=>?_,ih⟩;obtain⟨h1,h2⟩:=Agk.1 WB;obtain⟨t,ht,rfl⟩:=AfC.1 h1;simp only[AfQ]at hc h2;have hle:=v8 (dir:=dir) (s:=s) (t:=t) (by omega) (by omega) (G.1 t ht);rcases Afp (numOf dir ks s) (numOf dir ks t) with h|h
   .exact h
   .exfalso;have e:numOf dir ks s=numOf dir ks t:=by omega
    have h3:=(Ew (dir:=dir) (kind:=ks) (s:=s) (by omega)).1;have h4:=(Ew (dir:=dir) (kind:=ks) (s:=t) (by omega)).1;rw[e,<-h4]at h3;exact A.1 (h3▸ht)
  .exact ih
theorem Px {dir kind s:ByteArray}(h:0<numOf dir kind s):Am s (dir++CG)=true:=by
 rw[(Ew h).1];exact Ca
theorem j4 {fs:Fs}{dir:ByteArray}{cnt check:Nat}{rc:Bk}{sg:Sg}{tail:List Int}{L:List ByteArray}(h:Shape fs dir cnt check rc sg tail)(hc:cnt<99999999)(A:Names fs (dir++CG) L):FT dir check L=sg.map (·.1):=by
 refine fS (Q8 (fs:=fs) (pre:=dir) A.sorted A.nodup) (by rw[AgD];exact h.Lf) λn=>⟨λhn=>?_,λhn=>?_⟩
 .obtain⟨h1,h2⟩:=Agk.1 hn;obtain⟨s,hs,rfl⟩:=AfC.1 h1;obtain⟨x,G,e⟩:=h.mi s ((A.mem s).1 hs).1 (by simpa using h2);exact AfC.2 ⟨x,G,e⟩
 .obtain⟨x,G,rfl⟩:=AfC.1 hn;obtain⟨k,hk⟩:=Aht G;have hg:=h.gt x G;have hf:=(h.file k x hk).aj;have e:numOf dir ks (AJ dir ks x.1)=x.1:=CC (by omega);exact Agk.2 ⟨AfC.2 ⟨_,(A.mem _).2 ⟨hf,Ca⟩,e⟩,by simpa using hg.1⟩
def NR (dir:ByteArray)(L:List ByteArray):Nat:=(L.map (numOf dir kc)).foldl max 0
theorem foldl_max:∀(l:List Nat) (a m:Nat),a<=m->(∀x∈l,x<=m)->(a=m\/m∈l)->l.foldl max a=m
 | [],a,m,h,_,G=>by rcases G with h | h;exact h;cases h
 | x::l,a,m,h,hb,G=>by
  rw[AgT];have hx:=hb x (by simp);refine foldl_max l (max a x) m (by omega) (λy hy=>hb y (by simp[hy])) ?_;rcases G with A|A
  .left;omega
  .rcases Ae5.1 A with rfl|A
   .left;omega
   .exact .inr A
theorem mr {fs:Fs}{dir:ByteArray}{cnt check:Nat}{rc:Bk}{sg:Sg}{tail:List Int}{L:List ByteArray}(h:Shape fs dir cnt check rc sg tail)(hc:cnt<99999999)(G:Names fs (dir++CG) L):NR dir L=check:=by
 refine foldl_max _ _ _ (AfI _) (λn hn=>?_) ?_
 .obtain⟨s,hs,rfl⟩:=AfC.1 hn;exact h.R6 s ((G.mem s).1 hs).1
 .rcases Af4 check with A|A
  .exact .inl A.symm
  .have AA5:=h.j2;exact .inr (AfC.2 ⟨AJ dir kc check,(G.mem _).2 ⟨(h.mg A).aj,Ca⟩,CC (by omega)⟩)
theorem qF {dir s:ByteArray}{L:List ByteArray}:NR dir (L++[s])=max (NR dir L) (numOf dir kc s):=by simp[NR,Agi]
def junk (dir:ByteArray)(check:Nat)(s:ByteArray):Bool:=(decide (0<numOf dir kc s)&&decide (numOf dir kc s<check))||(decide (0<numOf dir ks s)&&decide (numOf dir ks s<=check))
open Classical in
noncomputable def EM (fs:Fs)(p:ByteArray->Bool)(L:List ByteArray):Fs:=λs=>if s∈L/\p s=true then none else fs s
theorem fT {fs:Fs}{p:ByteArray->Bool}:EM fs p []=fs:=by funext s;simp[EM]
theorem Vp {fs:Fs}{p:ByteArray->Bool}{L:List ByteArray}{s t:ByteArray}(G:¬t=s):EM fs p (L++[s]) t=EM fs p L t:=by
 have e:(t∈L++[s]/\p t=true)↔(t∈L/\p t=true):=by simp[G]
 unfold EM;by_cases A:t∈L/\p t=true
 .rw[Aex (e.2 A),Aex A]
 .rw[Aeu λh=>A (e.1 h),Aeu A]
theorem KE {fs:Fs}{p:ByteArray->Bool}{L:List ByteArray}{s:ByteArray}:EM fs p (L++[s])=if p s=true then A8 (EM fs p L) s none else EM fs p L:=by
 funext t
 by_cases hp:p s=true
 .rw[Aex hp];by_cases A:t=s
  .subst A;unfold EM;rw[Aex ⟨by simp,hp⟩,Cb]
  .rw[Vp A,Ap A]
 .rw[Aeu hp];by_cases A:t=s
  .subst A;unfold EM;rw[Aeu λh=>hp h.2,Aeu λh=>hp h.2]
  .exact Vp A
theorem mu {fs:Fs}{p:ByteArray->Bool}{L:List ByteArray}{s:ByteArray}(h:s ∉ L):EM fs p L s=fs s:=by simp[EM,h]
theorem Shape.del {fs:Fs}{dir:ByteArray}{cnt check:Nat}{rc:Bk}{sg:Sg}{tail:List Int}{p:ByteArray->Bool}{L:List ByteArray}(h:Shape fs dir cnt check rc sg tail)(hc:cnt<99999999)(hp:∀s,p s=true->(numOf dir kc s=0\/numOf dir kc s<check)/\numOf dir ks s<=check):Shape (EM fs p L) dir cnt check rc sg tail:=by
 have AA5:=h.j2;refine h.congr (Ae1 _) (λh0=>?_) (λx hx=>?_) λs A=>?_
 .unfold EM;rw[Aeu]
  rintro⟨_,G⟩
  have:=(hp _ G).1;rw[CC (by omega)]at this;omega
 .have hg:=h.gt x hx;unfold EM;rw[Aeu]
  rintro⟨_,G⟩
  have:=(hp _ G).2;rw[CC (by omega)]at this;omega
 .unfold EM at A;split at A
  .cases A
  .exact .inl A
theorem Out.EM {fs:Fs}{dir:ByteArray}{p:ByteArray->Bool}{L:List ByteArray}(hp:∀s,p s=true->Am s (dir++CG)=true):Out dir fs (TwW.EM fs p L):=by
 refine⟨λs A=>?_,λs A=>?_⟩
 .unfold TwW.EM;rw[Aeu]
  rintro⟨_,h⟩
  rw[hp s h]at A;cases A
 .unfold TwW.EM at A;split at A
  .cases A
  .exact .inl A
theorem al {dir:ByteArray}{check:Nat}{s:ByteArray}(h:junk dir check s=true):Am s (dir++CG)=true/\(numOf dir kc s=0\/numOf dir kc s<check)/\numOf dir ks s<=check:=by
 simp only[junk,Ag6,AfH,AfQ]at h;rcases h with ⟨A,h2⟩|⟨A,h2⟩
 .have:=J6 A;exact⟨Px A,.inr h2,by omega⟩
 .refine⟨Px A,.inl ?_,h2⟩;rcases Af4 (numOf dir kc s) with G|G
  .exact G
  .have:=J6 G;omega
abbrev yN (Z22:Hp)(p:Option Addr)(n:Nat)(L:List ByteArray):Prop:=Kt 1 Z22 p n (L.map .string)
theorem yN.at {Z22:Hp}{p:Option Addr}{n k:Nat}{L:List ByteArray}{s:ByteArray}(h:yN Z22 p n L)(G:L[k]?=some s):∃b o,p=some ⟨b,o,none⟩/\Z22.ld ⟨b,o+k*1,none⟩=some (.string s):=by
 obtain⟨h1,_,A⟩:=h;have Aq:=(Ae0.1 G).1;rcases A with A|⟨b,o,hp,hl⟩
 .simp at h1;omega
 .refine⟨b,o,hp,?_⟩;rw[Afa];exact hl.get (by rw[AfZ,G];rfl)
theorem yN.len {Z22:Hp}{p:Option Addr}{n:Nat}{L:List ByteArray}(h:yN Z22 p n L):L.length=n:=by have:=h.1;simpa using this
theorem yN.mono {Z22 Z'2:Hp}{p:Option Addr}{n:Nat}{L:List ByteArray}(h:yN Z22 p n L)(A:Ext Z22 Z'2):yN Z'2 p n L:=Kt.mono A h
section
variable {Z22 O2:Hp}{d b:Nat}{D:Dk}{W:Wl}{R:Rr}{p1:Option Addr}{n1 c1:Nat}{L:List ByteArray}{fs0:Fs}{cnt:Nat}
abbrev dk (fs:Fs)(cnt:Nat):Dk:=⟨fs,true,false,cnt⟩
theorem AGQ {check:Nat}(hL:Names fs0 (W.dir++CG) L){fs:Fs}(I3:∀s∈L,junk W.dir check s=true->fs s=fs0 s)(WB:∀s,(fs0 s).isSome=true->Ab s=true)(hd:W.dir.size<=32)(ht:yN O2 p1 n1 L)(Xo:n1<=67108864)
  (hR:∀Z'2,Ad Z'2 d b (dk (EM fs (junk W.dir check) L) cnt) { W with check:=check,AS:=FT W.dir check L } O2->R (.T #[]) Z'2) :
  ∀(m k:Nat) (Z22:Hp),n1-k=m->k<=n1->Ad Z22 d b (dk (EM fs (junk W.dir check) (L.take k)) cnt) { W with check:=check,AS:=FT W.dir check (L.take k) } O2->An.JI R (some ⟨b,0,none⟩) p1 n1 c1 n1 k Z22:=by
 intro m;have hlen:=ht.len
 induction m with
 | zero=>
  intro k Z22 hm hk h;rw[Ae7 (by omega)]at h;exact An.G2 ⟨λhh=>by omega,λ_=>hR Z22 h⟩
 | succ m ih=>
  intro k Z22 hm hk h;have hr:=h.rd;obtain⟨s,A⟩:∃s,L[k]?=some s:=⟨_,Ae3 (by omega)⟩;obtain⟨WQ,WR,rfl,hl⟩:=(ht.mono h.ext).at A;have hsL:s∈L:=Ae2 A;have ua:=(hL.mem s).1 hsL;have G:=AL A;have rE:s ∉ L.take k:=by
   have:=hL.nodup.sublist (List.take_sublist (k+1) L);rw[G,AgC]at this;exact λhm=>this.2.2 s hm s (by simp) rfl
  have NQ:FT W.dir check (L.take (k+1))=FT W.dir check (L.take k)++(if check<numOf W.dir ks s then[numOf W.dir ks s] else[]):=by
   rw[G];unfold FT;rw[AfF,AgL];simp only[AfN,AhF,AiQ,AgU]
   congr 1
   split<;>simp_all
  have next:∀Z'2,Ad Z'2 d b (dk (EM fs (junk W.dir check) (L.take (k+1))) cnt) { W with check:=check,AS:=FT W.dir check (L.take (k+1)) } O2->An.E2 R (some ⟨b,0,none⟩) (some ⟨WQ,WR,none⟩) n1 c1 n1 k Z'2:=λZ'2 h'=>
   An.Qb ⟨by unfold AK;omega,ih (k+1) Z'2 (by omega) (by omega) h'⟩
  have AA6:(FT W.dir check (L.take k)).length<=67108864:=by
   refine AfU (AgR _ _) ?_;rw[AfO,AfE];omega
  have AMp:junk W.dir check s=true->∃q77:Option Addr,Hp.ld Z22 ⟨b,0,none⟩=some (.pointer q77)/\Spec prog 31 #[(.pointer q77),(.string s)] Z22 (BI R (λv_3 E0=>∃dQ:Int,v_3=(.I dQ)/\Spec prog 77 #[(.I dQ)] E0 (BI R (λv_4 Ha=>v_4=(.tuple #[])/\An.E2 R (some ⟨b,0,none⟩) (some ⟨WQ,WR,none⟩) n1 c1 n1 k Ha)))):=λhj=>by
   obtain⟨f,hf⟩:=AgH.1 ua.1;have hj2:=al hj;refine⟨_,hr.ptr,Q7 h rfl (WB s ua.1) (f:=f) (by show EM fs (junk W.dir check) (L.take k) s=some f;rw[mu rE,I3 s hsL hj,hf]) ⟨λZ222 h2=>⟨0,rfl,KD (next Z222 ?_)⟩,λha=>by cases ha⟩⟩;rw[G,KE,Aex hj,<-G,NQ,Aeu (by omega),AfG];exact h2
  have ADQ:junk W.dir check s=false->numOf W.dir ks s<=check->An.E2 R (some ⟨b,0,none⟩) (some ⟨WQ,WR,none⟩) n1 c1 n1 k Z22:=λhj hle=>next Z22 (by
   rw[G,KE,Aeu (by rw[hj];simp),<-G,NQ,Aeu (by omega),AfG];exact h)
  have AT0:numOf W.dir kc s=0\/¬numOf W.dir kc s<check->check<numOf W.dir ks s->∃qm:Option Addr,∃xy:Nat,∃qn:Nat,Hp.ld Z22 ⟨b,(0+3),none⟩=some (.slice qm xy qn)/\∀gL:Nat,Z22 gL=none->AH prog (Builtin.append_ #[40,40] 40 #[(.slice qm xy qn),(.slice (some ⟨gL,0,none⟩) 1 1)]) (Hp.set Z22 gL (.cells #[(.I (numOf W.dir ks s))] 3 (0,0))) (λv_3 E0=>∃yA:Option Addr,∃yB:Nat,∃c91:Nat,v_3=(.slice yA yB c91)/\AH prog (Instr.storeAt 40 (.pointer (some ⟨b,(0+3),none⟩)) (.slice yA yB c91)) E0 (λ_ Ha=>An.E2 R (some ⟨b,0,none⟩) (some ⟨WQ,WR,none⟩) n1 c1 n1 k Ha)):=λhc A=>by
   obtain⟨qm,qn,Ab9,AMq,_⟩:=hr.AS;refine⟨qm,_,qn,AMq,λgL AT1=>?_⟩;refine(h.app (Φ:=λ_ Z'2=>An.E2 R (some ⟨b,0,none⟩) (some ⟨WQ,WR,none⟩) n1 c1 n1 k Z'2) AMq AA6 AT1 (K:=λ_ _=>True) (λ_ _=>trivial) λZ3 h3=>next Z3 ?_).mono λv Z3 ⟨p',n',c',e1,_,e3⟩=>⟨p',n',c',e1,e3⟩;have hj:¬junk W.dir check s=true:=by
    simp only[junk,Ag6,AfH,AfQ];omega
   rw[G,KE,Aeu hj,<-G,NQ,Aex A];exact h3
  refine An.G2 ⟨λ_=>⟨WQ,WR,rfl,by omega,s,by simpa using hl,MJ (dir:=W.dir) (kind:=kc) hr.dir hd (.inl rfl) ⟨_,rfl,MJ (dir:=W.dir) (kind:=ks) hr.dir hd (.inr rfl) ⟨_,rfl,?_⟩⟩⟩,λhh=>by omega⟩;have WY:0<numOf W.dir kc s->numOf W.dir ks s=0:=J6;have AMr:Z22.ld ⟨b,0+2,none⟩=some (.I (check:Nat)):=hr.check;refine⟨λhc=>⟨b,0,rfl,_,AMr,λAq=>AMp (by simp only[junk,Ag6,AfH,AfQ];left;omega),λIb=>⟨λA=>?_,λA=>⟨λbR=>absurd bR A,λ_=>ADQ ?_ ?_⟩⟩⟩,λhc=>⟨λA=>⟨b,0,rfl,_,AMr,λhle=>AMp (by simp only[junk,Ag6,AfH,AfQ];right;omega),λhgt=>⟨λ_=>AT0 (by omega) (by omega),λhn=>absurd A hn⟩⟩,λA=>⟨λbR=>absurd bR A,λ_=>ADQ ?_ ?_⟩⟩⟩
  .have:=WY (by omega);omega
  .simp only[junk,Ahn,Aih,AgA];omega
  .omega
  .simp only[junk,Ahn,Aih,AgA];omega
  .omega
end
def LJ (dir s:ByteArray):Bool:=decide (s=BO dir)
section
variable {Z22 O2:Hp}{d b:Nat}{D:Dk}{W:Wl}{R:Rr}{p1:Option Addr}{n1 c1:Nat}{L:List ByteArray}{fs0:Fs}{cnt:Nat}
theorem fU {dir:ByteArray}{check:Nat}:junk dir check (BO dir)=false:=by simp[junk,Mw (.inl rfl),Mw (.inr rfl)]
noncomputable def TE (fs0:Fs)(dir:ByteArray)(L:List ByteArray):Fs:=EM (EM fs0 (LJ dir) L) (junk dir (NR dir L)) L
theorem j5 (h:Ad Z22 d b (dk fs0 cnt) W O2)(hW:W.check=0/\W.AS=[])(hL:Names fs0 (W.dir++CG) L)(WB:∀s,(fs0 s).isSome=true->Ab s=true)(hd:W.dir.size<=32)(ht:yN O2 p1 n1 L)(Xo:n1<=67108864)
  (hR:∀Z'2,Ad Z'2 d b (dk (TE fs0 W.dir L) cnt) { W with check:=NR W.dir L,AS:=FT W.dir (NR W.dir L) L } O2->R (.T #[]) Z'2) :
  Spec prog 74 #[.pointer (some ⟨b,0,none⟩),.slice p1 n1 c1] Z22 R:=by
 refine An.start ?_;have hlen:=ht.len
 suffices H:∀(m k:Nat) (Z22:Hp),n1-k=m->k<=n1->Ad Z22 d b (dk (EM fs0 (LJ W.dir) (L.take k)) cnt) { W with check:=NR W.dir (L.take k),AS:=[] } O2->An.dU R (some ⟨b,0,none⟩) p1 n1 c1 p1 n1 c1 n1 k Z22 from
  H n1 0 Z22 rfl (AfI _) (by
   rw[Af6,fT];have:({ W with check:=NR W.dir [],AS:=[] }:Wl)=W:=by
    cases W;simp only at hW;simp[NR,hW.1,hW.2]
   rw[this];exact h)
 intro m
 induction m with
 | zero=>
  intro k Z22 hm hk h;rw[Ae7 (by omega)]at h;refine An.Kb ⟨λhh=>by omega,λ_=>?_⟩;refine AGQ (W:=W) (fs:=EM fs0 (LJ W.dir) L) (fs0:=fs0) hL (λs G hj=>?_) WB hd ht Xo hR n1 0 Z22 rfl (AfI _) ?_
  .unfold EM;rw[Aeu]
   rintro⟨_,hn⟩
   simp only[LJ,AfQ]at hn;rw[hn,fU]at hj;cases hj
  .rw[Af6,fT];exact h
 | succ m ih=>
  intro k Z22 hm hk h;have hr:=h.rd;obtain⟨s,G⟩:∃s,L[k]?=some s:=⟨_,Ae3 (by omega)⟩;obtain⟨WQ,WR,A,hl⟩:=(ht.mono h.ext).at G;have hsL:s∈L:=Ae2 G;have ua:=(hL.mem s).1 hsL;have lk:=AL G;have rE:s ∉ L.take k:=by
   have:=hL.nodup.sublist (List.take_sublist (k+1) L);rw[lk,AgC]at this;exact λhm=>this.2.2 s hm s (by simp) rfl
  have next:∀Z'2,Ad Z'2 d b (dk (EM fs0 (LJ W.dir) (L.take (k+1))) cnt) { W with check:=NR W.dir (L.take k),AS:=[] } O2->An.zn R (some ⟨b,0,none⟩) p1 n1 c1 s p1 n1 c1 n1 k Z'2:=λZ'2 h'=>by
   have YI:=h'.rd;refine An.zo ⟨b,0,rfl,(NR W.dir (L.take k):Nat),YI.check,MJ (dir:=W.dir) (kind:=kc) YI.dir hd (.inl rfl) ⟨_,rfl,λ_ _ _ hb=>hb,?_⟩⟩;have e:(if((NR W.dir (L.take k):Nat):Int)<(numOf W.dir kc s:Int) then(numOf W.dir kc s:Int) else((NR W.dir (L.take k):Nat):Int))=((NR W.dir (L.take (k+1)):Nat):Int):=by
    rw[lk,qF];split<;>omega
   rw[e];refine h'.st (i:=0+2) (W':={ W with check:=NR W.dir (L.take (k+1)),AS:=[] }) (by omega) rfl (λp n c=>rfl) λZ222 h2=>⟨by unfold AK;omega,ih (k+1) Z222 (by omega) (by omega) h2⟩
  refine An.Kb ⟨λ_=>⟨WQ,WR,A,by omega,s,by simpa using hl,VR (dir:=W.dir) hr.dir hd ⟨_,rfl,λhe=>?_,λAR=>?_⟩⟩,λhh=>by omega⟩
  .rw[VC,AfQ]at he;have Lh:s=BO W.dir:=vE he;obtain⟨f,hf⟩:=AgH.1 ua.1;refine⟨b,0,rfl,_,hr.ptr,Q7 h rfl (WB s ua.1) (f:=f) (by show EM fs0 (LJ W.dir) (L.take k) s=some f;rw[mu rE,hf]) ⟨λZ222 h2=>⟨0,rfl,KD ?_⟩,λha=>by cases ha⟩⟩;rw[NW A];refine next Z222 ?_
   rw[lk,KE,Aex (by simp[LJ,Lh])];exact h2
  .rw[VC,AgA]at AR;have Lh:¬s=BO W.dir:=λe=>AR (by rw[e]);rw[NW A];refine next Z22 ?_
   rw[lk,KE,Aeu (by simp[LJ,Lh])];exact h
theorem fV {fs:Fs}{dir:ByteArray}{check:Nat}{rc:Bk}{sg:Sg}{tail:List Int}(h:Shape fs dir cnt check rc sg tail)(hc:cnt<99999999)(hL:Names fs (dir++CG) L):
  Shape (TE fs dir L) dir cnt check rc sg tail/\Out dir fs (TE fs dir L)/\TE fs dir L (BO dir)=none/\∀s f,TE fs dir L s=some f->fs s=some f:=by
 have hm:=mr h hc hL;have hn:∀s,LJ dir s=true->Am s (dir++CG)=true/\(numOf dir kc s=0\/numOf dir kc s<check)/\numOf dir ks s<=check:=λs A=>by
  simp only[LJ,AfQ]at A;subst A;exact⟨Pv,.inl (Mw (.inl rfl)),by rw[Mw (.inr rfl)];omega⟩
 unfold TE;rw[hm];refine⟨(h.del hc λs A=>(hn s A).2).del hc λs A=>(al A).2,(Out.EM λs A=>(hn s A).1).trans (Out.EM λs A=>(al A).1),?_,λs f A=>?_⟩
 .have e:EM fs (LJ dir) L (BO dir)=none:=by
   unfold EM;by_cases G:BO dir∈L
   .rw[Aex ⟨G,by simp[LJ]⟩]
   .rw[Aeu λhh=>G hh.1];cases hf:fs (BO dir) with
    | none=>rfl
    | some f=>exact absurd ((hL.mem _).2 ⟨by rw[hf];rfl,Pv⟩) G
  unfold EM at e ⊢;rw[Aeu (by rw[fU];simp),e]
 .unfold EM at A;split at A
  .cases A
  .split at A
   .cases A
   .exact A
end
section
variable {Z22 O2:Hp}{d b:Nat}{D:Dk}{W:Wl}{R:Rr}{dir:ByteArray}
def laid (fs:Fs)(dir name:ByteArray)(x:List Int):Fs:=λs=>if s=name then some ⟨x,x.length⟩ else if s=BO dir then none else fs s
structure j6 (O2:Hp)(d b:Nat)(dir:ByteArray):Prop where
 ptr:O2.ld ⟨b,0,none⟩=some (.pointer (some ⟨d,0,none⟩))
 dir:O2.ld ⟨b,0+1,none⟩=some (.string dir)
theorem j6.mono {O2 O'2:Hp}{d b:Nat}{dir:ByteArray}(h:j6 O2 d b dir)(A:Ext O2 O'2):j6 O'2 d b dir:=⟨A.ld h.ptr,A.ld h.dir⟩
theorem Gh.AA7 {b:Nat}{S:List Nat}{p:Option Addr}{c:Nat}{T:TypeId}(h:Gh O2 b d W S p c T):j6 O2 d b W.dir:=⟨AD h.obj rfl,AD h.obj rfl⟩
theorem Ad.opened (h:Ad Z22 d b D W O2):∃O'2 S p c T,Ac Z22 d D O'2/\Gh O'2 b d W S p c T/\Ext O2 (O'2.off S):=by
 obtain⟨Sd,S,p,c,T,A,G,h3⟩:=h;exact⟨Z22.off Sd,S,p,c,T,⟨Sd,A,Ext.refl _⟩,G,h3⟩
theorem Ad.close {O'2:Hp}{S:List Nat}{p:Option Addr}{c:Nat}{T:TypeId}(h:Ac Z22 d D O'2)(hw:Gh O'2 b d W S p c T):Ad Z22 d b D W (O'2.off S):=by
 obtain⟨Sd,G,A⟩:=h;exact⟨Sd,S,p,c,T,G,hw.mono A,A.off S⟩
theorem AA8 {s:ByteArray}{p:Option Addr}{n c:Nat}{xs:List Int}(h:Ac Z22 d D O2)(CA:D.up=true)(hn:Ab s=true)(hc:aL D)(hx:Be .u8 O2 p n xs)(A:((D.files s).getD ⟨[],0⟩).data.length+n<=4194304)
  (hw:vu Z22 d D O2 (λZ'2 D'=>Ac Z'2 d D' O2) (E6 D.files s xs) (E6 D.files s xs) (D.cnt+1) R):Spec prog 110 #[.pointer (some ⟨d,0,none⟩),.string s,.slice p n c] Z22 R:=by
 obtain⟨Sd,h1,G⟩:=h;exact Su h1 CA hn hc (hx.mono G) A (hw.wrd G)
theorem AMs {s:ByteArray}{f:Fl}(h:Ac Z22 d D O2)(A:D.up=true)(hn:Ab s=true)(hf:D.files s=some f)
  (hw:vu Z22 d D O2 (λZ'2 D'=>Ac Z'2 d D' O2) (A8 D.files s (some ⟨f.data,f.data.length⟩)) D.files D.cnt R):Spec prog 109 #[.pointer (some ⟨d,0,none⟩),.string s] Z22 R:=by
 obtain⟨Sd,G,h3⟩:=h;exact Xk G A hn hf (hw.wrd h3)
theorem AA9 {s t:ByteArray}{f:Fl}(h:Ac Z22 d D O2)(A:D.up=true)(hn:Ab s=true)(rG:Ab t=true)(hf:D.files s=some f)
  (hw:vu Z22 d D O2 (λZ'2 D'=>Ac Z'2 d D' O2) (A8 (A8 D.files s none) t (some f)) D.files D.cnt R):Spec prog 200 #[.pointer (some ⟨d,0,none⟩),.string s,.string t] Z22 R:=by
 obtain⟨Sd,G,h3⟩:=h;exact eK G A hn rG hf (hw.wrd h3)
theorem ABA {s:ByteArray}{f:Fl}(h:Ac Z22 d D O2)(A:D.up=true)(hn:Ab s=true)(hf:D.files s=some f)
  (hw:vu Z22 d D O2 (λZ'2 D'=>Ac Z'2 d D' O2) (A8 D.files s none) D.files D.cnt R):Spec prog 31 #[.pointer (some ⟨d,0,none⟩),.string s] Z22 R:=by
 obtain⟨Sd,G,h3⟩:=h;exact Sv G A hn hf (hw.wrd h3)
theorem Out.laid {fs:Fs}{kind:ByteArray}{k:Nat}{x:List Int}(hk:kind=kc\/kind=ks)(h0:0<k)(h1:k<100000000):Out dir fs (TwW.laid fs dir (AJ dir kind k) x):=by
 refine⟨λs A=>?_,λs A=>?_⟩
 .have G:¬s=AJ dir kind k:=λe=>by rw[e,Ca]at A;cases A
  have e2:¬s=BO dir:=λe=>by rw[e,Pv]at A;cases A
  simp[TwW.laid,G,e2]
 .by_cases e:s=AJ dir kind k
  .subst e;have:=CC (dir:=dir) (kind:=kind) h1;rcases hk with rfl|rfl
   .exact .inr (.inl (by omega))
   .exact .inr (.inr (.inl (by omega)))
  .by_cases e2:s=BO dir
   .exact .inr (.inr (.inr e2))
   .simp only[TwW.laid,e,e2,AgO]at A;exact .inl A
structure AT2 (d:Nat)(D:Dk)(dir:ByteArray)(O2:Hp)(name:ByteArray)(x:List Int)(rok:Hp->Prop)(vw:Hp->Prop):Prop where
 ok:∀Z'2,Ac Z'2 d ⟨laid D.files dir name x,true,D.armed,D.cnt+1⟩ O2->rok Z'2
 bad:D.armed=true->∀Z'2 gs' gs,(∀s,s≠BO dir->gs' s=D.files s)->Gg gs' gs->Ac Z'2 d ⟨gs,false,false,D.cnt+1⟩ O2->vw Z'2
theorem Q9 {name:ByteArray}{p:Option Addr}{n c:Nat}{A:Bk}(h:Ac Z22 d D O2)(hw:j6 O2 d b dir)(CA:D.up=true)(NK:D.cnt<67108864)(IS:aL D)(hd:Co dir=true)(GO:Ab name=true)(hx:Kn O2 p n A)(G:Good A)(hlen:(AU A).length<=4194304)(Fv:D.files (BO dir)=none)(AR:name≠BO dir)
  (hR:AT2 d D dir O2 name (AU A) (λZ'2=>R (.T #[]) Z'2) (λZ'2=>R (.panicked (gi 60)) Z'2)):Spec prog 130 #[.pointer (some ⟨b,0,none⟩),.string name,.slice p n c] Z22 R:=by
 have NV:dir.size<=32:=by simp[Co]at hd;exact hd.2
 have Ie:=AAl hd;have fr:∀{Z'2:Hp} {K:Rr},Ext O2 Z'2->K (.returned (.string (BO dir))) Z'2->Spec prog 139 #[.pointer (some ⟨b,0,none⟩)] Z'2 K:=λhl hk=>VR (dir:=dir) (hl.ld hw.dir) NV hk;refine Kx.start ⟨b,0,rfl,_,h.ext.ld hw.ptr,fr h.ext ⟨_,rfl,λ_ _ _ hb=>hb,pT (hx.mono h.ext) G.short (by omega) λp' n' c' Z12 ho Ct=>⟨p',n',c',rfl,Kp.CV Ct,?_⟩⟩⟩;obtain⟨O1,h1,x1,x1n⟩:=h.grow Ct;have gT:(AU A).length=n':=by have:=ho.1;simpa using this
 subst gT;have RP:Be .u8 O1 p' (AU A).length (AU A):=(A2.rd ho).mono x1n;have hf0:(D.files (BO dir)).getD ⟨[],0⟩=⟨[],0⟩:=by rw[Fv];rfl
 refine AA8 h1 CA Ie IS RP (by rw[hf0];simpa using hlen) ⟨λZ222 h2=>⟨0,rfl,KD ?_⟩,λha Z222 gs hg Vo=>⟨60,rfl,Pw ?_⟩⟩
 .have e1:E6 D.files (BO dir) (AU A) (BO dir)=some ⟨AU A,0⟩:=by simp[E6,A8,Fv]
  refine⟨_,(x1.trans h2.ext).ld hw.ptr,fr (x1.trans h2.ext) ⟨_,rfl,λ_ _ _ hb=>hb,AMs h2 rfl Ie (f:=⟨AU A,0⟩) e1 ⟨λZ3 h3=>⟨0,rfl,KD ?_⟩,λha Z3 gs hg Vo=>⟨60,rfl,Pw ?_⟩⟩⟩⟩
  .refine⟨_,(x1.trans h3.ext).ld hw.ptr,fr (x1.trans h3.ext) ⟨_,rfl,λ_ _ _ hb=>hb,AA9 h3 rfl Ie GO (f:=⟨AU A,(AU A).length⟩) Cb ⟨λZ4 h4=>⟨0,rfl,KD ?_⟩,λha Z4 gs hg Vo=>⟨60,rfl,Pw ?_⟩⟩⟩⟩
   .have e:A8 (A8 (A8 (E6 D.files (BO dir) (AU A)) (BO dir) (some ⟨AU A,(AU A).length⟩)) (BO dir) none) name (some ⟨AU A,(AU A).length⟩)=laid D.files dir name (AU A):=by
     funext s
     by_cases h1:s=name
     .subst h1;simp[A8,laid]
     .by_cases h2:s=BO dir
      .subst h2;simp[A8,laid,h1]
      .simp[A8,laid,h1,h2,E6]
    have:=hR.ok Z4;rw[<-e]at this;exact this (h4.JL x1)
   .exact hR.bad ha Z4 _ gs (λs G=>(Ap G).trans (C2 G)) hg (Vo.JL x1)
  .exact hR.bad ha Z3 _ gs (λs G=>C2 G) hg (Vo.JL x1)
 .exact hR.bad ha Z222 _ gs (λs G=>C2 G) hg (Vo.JL x1)
theorem wC {s:ByteArray}{f:Fl}(h:Ac Z22 d D O2)(CA:D.up=true)(hn:Ab s=true)(A:D.files s=some f)
  (hR:∀p c Z'2 O'2,Ac Z'2 d D O'2->Ext O2 O'2->f.data.length<=c->f.data.length<=4194304->Be .u8 O'2 p f.data.length f.data->R (.T #[.slice p f.data.length c,.I 0]) Z'2):Spec prog 29 #[.pointer (some ⟨d,0,none⟩),.string s] Z22 R:=by
 have h':=h;obtain⟨Sd,h1,h3⟩:=h';have KJ:f.data.length<=4194304:=by
  obtain⟨m,cl,rows,T,a,b,e,hd⟩:=h1;rw[hd.files,Row.look]at A;cases G:rows.find? (λr=>decide (r.name=s)) with
  | none=>rw[G]at A;cases A
  | some r=>
   rw[G]at A;cases A;exact(hd.row r (AhC G)).small
 refine Xl h1 CA hn A λp c Z'2 ho hx=>?_;obtain⟨O'2,g1,g2,g3⟩:=h.grow hx;exact hR p c Z'2 O'2 g1 g2 (Own.cap ho) KJ ((A2.rd ho).mono g3)
def qy (O2 A:Hp):Prop:=∀j o,A j=some o->O2 j=none
theorem qy.of {O2 Z22 Z'2:Hp}(h:Ext O2 Z22):qy O2 (Z22.new Z'2):=λj o G=>by
 cases ht:O2 j with
 | none=>rfl
 | some u=>have A:=(AW.1 G).1;rw[h _ _ ht]at A;cases A
theorem qy.del {O2 A O'2:Hp}(h:qy O2 A)(hx:Ext A O'2){p:Option Addr}(hp:∀a,p=some a->O2 a.block≠none):Ext A (O'2.del p):=λj o G=>AF.2 ⟨λa ha e=>hp a ha (by rw[<-e];exact h j o G),hx j o G⟩
theorem qy.own {O2 A O'2:Hp}(h:qy O2 A)(hx:Ext O2 O'2){p:Option Addr}(hp:∀a,p=some a->A a.block≠none):Ext O2 (O'2.del p):=λj o G=>by
 refine AF.2 ⟨λa ha e=>?_,hx j o G⟩;cases hn:A a.block with
 | none=>exact hp a ha hn
 | some u=>have:=h _ _ hn;rw[<-e,G]at this;cases this
theorem Vq {name:ByteArray}{p2:Option Addr}{n2 c2:Nat}{A:Bk}(h:Ac Z22 d D O2)(hw:j6 O2 d b dir)(CA:D.up=true)(GO:Ab name=true)(hf:Has D.files name (AU A))(hg:Good A)
  (hR:∀Z'2 O'2 ν p n c,Ac Z'2 d D O'2->Ext O2 O'2->PC ν p n c A->Ext ν O'2->qy O2 ν->R (.T #[.slice p n c,.bool true]) Z'2):Spec prog 141 #[.pointer (some ⟨b,0,none⟩),.string name,.slice p2 n2 c2] Z22 R:=by
 obtain⟨f,hf,qz⟩:=hf;refine Em.start ⟨b,0,rfl,_,h.ext.ld hw.ptr,wC h CA GO hf λp c Z12 O1 h1 x1 hc KJ JW=>⟨_,_,_,_,rfl,KD ?_⟩⟩;rw[qz]at JW hc KJ;rw[qz];refine S5 (t:=[]) (JW.mono h1.ext) (Q6 hg) hc KJ (by simp) hg.short FJ λp' n' c' Z222 ho BD=>⟨_,_,_,_,rfl,λ_=>?_,λhh=>by simp at hh⟩;obtain⟨G,h2,x2,x2n⟩:=h1.grow BD;exact hR Z222 G _ p' n' c' h2 (x1.trans x2) ho x2n (qy.of (x1.trans h1.ext))
theorem qG {name:ByteArray}{p2:Option Addr}{c2:Nat}{A:Bk}{tail:List Int}(h:Ac Z22 d D O2)(hw:j6 O2 d b dir)(CA:D.up=true)(Vr:D.armed=false)(NK:D.cnt<67108864)(IS:aL D)(hd:Co dir=true)(GO:Ab name=true)(hf:Has D.files name (AU A++tail))(hg:Good A)(ht:pS tail)(h8:Ft tail)(AR:tail≠[])(Fv:D.files (BO dir)=none)(hnn:name≠BO dir)
  (hR:∀Z'2 O'2 ν p n c fs c',Ac Z'2 d (dk fs c') O'2->Ext O2 O'2->PC ν p n c A->Ext ν O'2->qy O2 ν->c'<=D.cnt+1->D.cnt<=c'->fs=(if A=[] then A8 D.files name none else laid D.files dir name (AU A))->R (.T #[.slice p n c,.bool false]) Z'2):Spec prog 141 #[.pointer (some ⟨b,0,none⟩),.string name,.slice p2 0 c2] Z22 R:=by
 obtain⟨f,hf,qz⟩:=hf;refine Em.start ⟨b,0,rfl,_,h.ext.ld hw.ptr,wC h CA GO hf λp c Z12 O1 h1 x1 hc KJ JW=>⟨_,_,_,_,rfl,KD ?_⟩⟩;rw[qz]at JW hc KJ;rw[qz];refine S5 (t:=tail) (JW.mono h1.ext) (Ko (Q6 hg) h8) hc KJ rfl hg.short ht λp' n' c' Z222 ho BD=>⟨_,_,_,_,rfl,λhh=>by simp[AR]at hh,λ_=>⟨by unfold AK;omega,?_⟩⟩;obtain⟨G,h2,x2,x2n⟩:=h1.grow BD;have hrl:Kn G p' n' A:=Kn.mono x2n (B6.rd Xw.mono ho);have Wm:A.length=n':=hrl.1;have yO:(AU A).length<=4194304:=by
  rw[Aet]at KJ;omega
 refine Em.Mi ⟨λhh=>by omega,λ_=>⟨λGb=>?_,λhz=>?_⟩⟩
 .have AT5:A≠[]:=λe=>by subst e;simp at Wm;omega
  refine Q9 h2 (hw.mono (x1.trans x2)) CA NK IS hd GO hrl hg yO Fv hnn ⟨λZ3 h3=>⟨rfl,Em.lQ (hR Z3 G _ p' n' c' _ _ (by rw[Vr]at h3;exact h3) (x1.trans x2) ho x2n (qy.of (x1.trans h1.ext)) (Ae1 _) (by omega) (by rw[Aeu AT5]))⟩,λha=>by rw[Vr]at ha;cases ha⟩
 .have hre:A=[]:=Ae6 (by omega);refine⟨b,0,rfl,_,(x1.trans (x2.trans h2.ext)).ld hw.ptr,ABA h2 CA GO hf ⟨λZ3 h3=>⟨0,rfl,KD (Em.lQ (hR Z3 G _ p' n' c' _ _ (by rw[Vr]at h3;exact h3) (x1.trans x2) ho x2n (qy.of (x1.trans h1.ext)) (by omega) (Ae1 _) (by rw[Aex hre])))⟩,λha=>by rw[Vr]at ha;cases ha⟩⟩
end
section
variable {fs:Fs}{dir:ByteArray}{cnt cnt' check:Nat}{rc:Bk}{s0:Sg}{x:Nat×Bk}{tail:List Int}
theorem Tv (h:(s0++[x]).Pairwise λy z=>y.1<z.1):∀y∈s0,y.1<x.1:=λy A=>by
 rw[Afl]at h;exact h.2.2 y A x (by simp)
theorem Shape.wD (h:Shape fs dir cnt check rc (s0++[x]) tail)(hc:cnt<99999999)(hx:x.2=[])(hcc:cnt<=cnt'):Shape (A8 fs (AJ dir ks x.1) none) dir cnt' check rc s0 []:=by
 have Aq:=Tv h.Lf;have hgx:=h.gt x (by simp);have AR:∀y∈s0,AJ dir ks y.1≠AJ dir ks x.1:=λy A e=>by
  have:=Aq y A;have:=h.gt y (by simp[A]);have:=Fo (by omega) (by omega) e;omega
 have G:∀s,(A8 fs (AJ dir ks x.1) none s).isSome=true->(fs s).isSome=true/\s≠AJ dir ks x.1:=λs hs=>by
  by_cases Lh:s=AJ dir ks x.1
  .subst Lh;rw[Cb]at hs;cases hs
  .rw[Ap Lh]at hs;exact⟨hs,Lh⟩
 refine⟨λh0=>?_,h.fP,λs hs=>h.R6 s (G s hs).1,AfU h.j2 hcc,λy A=>⟨(h.gt y (by simp[A])).1,AfU (h.gt y (by simp[A])).2 hcc⟩,(Afl.1 h.Lf).1,λs hs VQ=>?_,λk y A=>?_,λ_=>rfl,FJ,h.TC,λy A=>h.PF y (by simp[A]),λa ha=>by cases ha⟩
 .obtain⟨f,hf,e⟩:=h.mg h0;exact⟨f,by rw[Ap BR];exact hf,e⟩
 .obtain⟨y,A,e⟩:=h.mi s (G s hs).1 VQ;rcases Ae9.1 A with A|A
  .exact⟨y,A,e⟩
  .simp at A;subst A;have:=(Ew (dir:=dir) (kind:=ks) (s:=s) (by omega)).1;rw[<-e]at this;exact absurd this (G s hs).2
 .have hk:=(Ae0.1 A).1;have JN:=Ae2 A;obtain⟨f,hf,e⟩:=h.file k y (by rw[Ae8 hk];exact A);rw[Aeu (by simp;omega)]at e;exact⟨f,by rw[Ap (AR y JN)];exact hf,by rw[e];simp⟩
theorem Shape.wE (h:Shape fs dir cnt check rc (s0++[x]) tail)(hc:cnt<99999999)(hcc:cnt<=cnt'):Shape (laid fs dir (AJ dir ks x.1) (AU x.2)) dir cnt' check rc (s0++[x]) []:=by
 have Aq:=Tv h.Lf;have hgx:=h.gt x (by simp);have AR:∀y∈s0,AJ dir ks y.1≠AJ dir ks x.1:=λy A e=>by
  have:=Aq y A;have:=h.gt y (by simp[A]);have:=Fo (by omega) (by omega) e;omega
 have hk:∀s,s≠AJ dir ks x.1->s≠BO dir->laid fs dir (AJ dir ks x.1) (AU x.2) s=fs s:=λs h1 h2=>by simp[laid,h1,h2]
 have hl:laid fs dir (AJ dir ks x.1) (AU x.2) (AJ dir ks x.1)=some ⟨AU x.2,(AU x.2).length⟩:=by simp[laid]
 have G:∀s,(laid fs dir (AJ dir ks x.1) (AU x.2) s).isSome=true->(fs s).isSome=true:=λs hs=>by
  by_cases h1:s=AJ dir ks x.1
  .subst h1;exact(h.file s0.length x (by simp)).aj
  .by_cases h2:s=BO dir
   .subst h2;simp[laid,h1]at hs
   .rw[hk s h1 h2]at hs;exact hs
 refine⟨λh0=>?_,h.fP,λs hs=>h.R6 s (G s hs),AfU h.j2 hcc,λy A=>⟨(h.gt y A).1,AfU (h.gt y A).2 hcc⟩,h.Lf,λs hs=>h.mi s (G s hs),λk y A=>?_,λe=>by simp at e,FJ,h.TC,h.PF,λa ha=>by cases ha⟩
 .obtain⟨f,hf,e⟩:=h.mg h0;exact⟨f,by rw[hk _ BR (B4 (.inl rfl)).symm];exact hf,e⟩
 .rcases Afp k s0.length with hi|hi
  .obtain⟨f,hf,e⟩:=h.file k y A;rw[Ae8 hi]at A;have JN:=Ae2 A;rw[Aeu (by simp;omega)]at e;exact⟨f,by rw[hk _ (AR y JN) (B4 (.inr rfl)).symm];exact hf,by rw[e];simp⟩
  .have qx:k=s0.length:=by
    have:=(Ae0.1 A).1;simp at this;omega
   subst qx;simp at A;subst A;exact⟨_,hl,by simp⟩
theorem Kept.wD (h:Kept fs dir check (s0++[x]))(AR:∀y∈s0,AJ dir ks y.1≠AJ dir ks x.1):Kept (A8 fs (AJ dir ks x.1) none) dir check s0:=
 ⟨λf h0 A=>h.1 f h0 (by rw[Ap BR]at A;exact A),λk y G hk f A=>by
  have JN:=Ae2 G;refine h.2 k y (by rw[Ae8 (by omega)];exact G) (by simp;omega) f ?_;rw[Ap (AR y JN)]at A;exact A⟩
theorem Kept.wE (h:Kept fs dir check (s0++[x]))(AR:∀y∈s0,AJ dir ks y.1≠AJ dir ks x.1):Kept (laid fs dir (AJ dir ks x.1) (AU x.2)) dir check (s0++[x]):=
 ⟨λf h0 A=>h.1 f h0 (by simpa[laid,BR,(B4 (dir:=dir) (kind:=kc) (a:=check) (.inl rfl)).symm] using A),λk y G hk f A=>by
  have qx:k<s0.length:=by simp at hk;omega
  have JN:y∈s0:=by rw[Ae8 qx]at G;exact Ae2 G
  refine h.2 k y G hk f ?_;simpa[laid,AR y JN,(B4 (dir:=dir) (kind:=ks) (a:=y.1) (.inr rfl)).symm] using A⟩
end
section
variable {Z22 ρ O2:Hp}{d b:Nat}{D:Dk}{W:Wl}{R:Rr}
theorem Ac.ABB {T E ty:TypeId}{s bs:Nat}[MZ prog T E s bs]{p q:Option Addr}{n c m d':Nat}{cs ys:List Value}{Φ:Value->Hp->Prop}(h:Ac Z22 d D ρ)(ho:Own s ρ p n c cs)(hy:Kt s ρ q m ys)(h1:Ej ys)(hb:(n+m)*bs<=140737488355328)
  (hΦ:∀p' c' Z'2 ρ',Ac Z'2 d D ρ'->Own s ρ' p' (n+m) c' (cs++ys)->Ext (ρ.del p) (ρ'.del p')->Φ (.slice p' (n+m) c') Z'2):AH prog (Builtin.append_ #[T,T] ty #[.slice p n c,.slice q m d']) Z22 Φ:=by
 have hx:=h.ext;obtain⟨Sd,g1,g3⟩:=h;refine QB (ho.mono hx) (hy.mono hx) h1 hb λp' c' Z'2 By BD _=>?_;rw[Hp.ER,Hp.ER]at BD;have keep:∀j o,j ∉ FB p->Z22 j=some o->Z'2 j=some o/\j ∉ FB p':=λj o h4 h5=>by
  have:=Hp.AI.1 (BD j o (Hp.AI.2 ⟨h4,h5⟩));exact⟨this.2,this.1⟩
 have hp:∀j∈FB p,j ∉ Sd:=λj A=>by
  cases p with
  | none=>cases A
  | some a=>
   simp[FB]at A;subst A;cases hr:ρ a.block with
   | none=>exact absurd hr (ho.block a rfl)
   | some o=>exact(Hp.AI.1 (g3 _ _ hr)).1
 have G:∀j∈Sd,Z'2 j=Z22 j/\j ∉ FB p':=λj A=>by
  cases hs:Z22 j with
  | none=>exact absurd hs (g1.known j A)
  | some o=>exact keep j o (λhb=>hp j hb A) hs
 refine hΦ p' c' Z'2 (Z'2.off Sd) ⟨Sd,g1.loc λj A=>(G j A).1,Ext.refl _⟩ ?_ ?_
 .exact TwW.Own.loc By λj A=>Hp.GJ λhs=>(G j hs).2 A
 .rw[Hp.ER,Hp.ER];intro j o A;have h4:=Hp.AI.1 A;have h6:=Hp.AI.1 (g3 _ _ h4.2);have h7:=keep j o h4.1 h6.2;exact Hp.AI.2 ⟨h7.2,Hp.AI.2 ⟨h6.1,h7.1⟩⟩
theorem B6.apart {α:Type}{s:Nat}{E:Hp->List Value->α->Prop}{S:List Nat}{p:Option Addr}{n c:Nat}{xs:List α}(h:B6 s E (ρ.off S) p n c xs):∀j∈S,j ∉ FB p:=λj A hb=>by
 cases p with
 | none=>cases hb
 | some a=>
  simp[FB]at hb;exact h.block a rfl (by rw[<-hb];exact Hp.jR A)
theorem Ac.AMu {ty:TypeId}{S:List Nat}{p q:Option Addr}{n c m d':Nat}{xs ys:Bk}{Φ:Value->Hp->Prop}(h:Ac Z22 d D ρ)(hS:∀j∈S,ρ j≠none)(hx:Ext O2 (ρ.del p))(ho:PC (ρ.off S) p n c xs)(hy:Kn ((ρ.off S).del p) q m ys)(hb:n+m<=4194304)
  (hΦ:∀p' c' Z'2 ρ',Ac Z'2 d D ρ'->(∀j∈S,ρ' j≠none)->PC (ρ'.off S) p' (n+m) c' (xs++ys)->Ext O2 (ρ'.del p')->Φ (.slice p' (n+m) c') Z'2):AH prog (Builtin.append_ #[72,72] ty #[.slice p n c,.slice q m d']) Z22 Φ:=by
 have hap:=B6.apart ho;obtain⟨Y9,cs,QG,pM⟩:=ho;obtain⟨gQ,ds,hy1,PM⟩:=hy;refine h.ABB (T:=72) (QG.mono (Ext.FW _ _)) ((hy1.mono (Ext.B5 _ _)).mono (Ext.FW _ _)) ?_ (by omega) λp' c' Z'2 ρ' h' Cq G=>?_
 .exact Ch.bn (λ_ vs x ⟨p,n,c,e,_⟩=>by subst e;exact λu hu=>by simp at hu;subst hu;rfl) PM (by decide)
 .have hk:∀j∈S,ρ' j≠none/\j ∉ FB p':=λj A=>by
   cases hr:ρ j with
   | none=>exact absurd hr (hS j A)
   | some o=>
    rw[Hp.ER,Hp.ER]at G;have:=Hp.AI.1 (G j o (Hp.AI.2 ⟨hap j A,hr⟩));exact⟨by rw[this.2];simp,this.1⟩
  have BD:Ext ((ρ.off S).del p) ((ρ'.off S).del p'):=by
   have:=G.off S;rw[Hp.ER,Hp.ER]at this ⊢;rw[Hp.MB,Hp.MB (Z22:=ρ')];exact this
  exact hΦ p' c' Z'2 ρ' h' (λj A=>(hk j A).1) ⟨by rw[Aet];omega,_,TwW.Own.loc Cq λj A=>Hp.GJ λhs=>(hk j hs).2 A,(pM.mono Xw.mono BD).append (PM.mono Xw.mono BD)⟩ (hx.trans G)
end
section
variable {Z22 ρ O2:Hp}{d b:Nat}{W:Wl}{R:Rr}{fs:Fs}{cnt:Nat}{rc:Bk}{sg:Sg}{tail:List Int}
def Sub (fs gs:Fs):Prop:=∀s,(gs s).isSome=true->(fs s).isSome=true
theorem Sub.trans {fs gs A:Fs}(h:Sub fs gs)(g:Sub gs A):Sub fs A:=λs G=>h s (g s G)
def AGR (d b:Nat)(W:Wl)(O2:Hp)(fs:Fs)(cnt:Nat)(rc:Bk)(sg:Sg)(tail:List Int)(R:Rr):Prop:=
 ∀Z'2 ρ p n c A cnt' G,Ad Z'2 d b (dk A cnt') { W with AS:=G.map (·.1) } ρ->Ext O2 ρ->Kn ρ p n (rc++A0 G)->A0 G=A0 sg->Shape A W.dir cnt' W.check rc G []->Kept A W.dir W.check G->Out W.dir fs A->Sub fs A->A (BO W.dir)=none->
  cnt<=cnt'->cnt'<=cnt+1->(tail=[]->cnt'=cnt/\A=fs)->R (.returned (.slice p n c)) Z'2
theorem qH {sg:Sg}{k:Nat}{x:Nat×Bk}(A:sg[k]?=some x):A0 (sg.take (k+1))=A0 (sg.take k)++x.2:=by
 rw[AL A,CX,Fq]
theorem qI {Ow:Hp}{S:List Nat}{Yw:Option Addr}{c46:Nat}{T:TypeId}(hd:Co W.dir=true)(hc:cnt<67108864)(IS:aL (dk fs cnt))(ht:Tb Ow)(Ig:Shape fs W.dir cnt W.check rc sg tail)(Io:Kept fs W.dir W.check sg)(I8:W.AS=sg.map (·.1))(Fv:fs (BO W.dir)=none)(EW:(rc++A0 sg).length<=4194304)
  (R8:Gh Ow b d W S Yw c46 T) (hR:AGR d b W (Ow.off S) fs cnt rc sg tail R) :
  ∀(m k:Nat) (Z22 ρ:Hp) (p3:Option Addr) (n3 c3:Nat),sg.length-k=m->k<=sg.length->Ac Z22 d (dk fs cnt) ρ->Ext Ow (ρ.del p3)->PC (ρ.off S) p3 n3 c3 (rc++A0 (sg.take k))->(k<sg.length\/tail=[])->
   BV.LK R (some ⟨b,0,none⟩) p3 n3 c3 Yw W.AS.length c46 ((W.AS.length:Nat):Int) k Z22:=by
 intro m;have qt:W.AS.length=sg.length:=by rw[I8,AfO]
 have NV:W.dir.size<=32:=by simp[Co]at hd;exact hd.2
 have hwn:=Own.cap R8.own;have hsb:=R8.own.2.1;have cl:∀{Z22 ρ:Hp} {p3:Option Addr} {fs:Fs} {cnt:Nat},Ac Z22 d (dk fs cnt) ρ->Ext Ow (ρ.del p3)->Ad Z22 d b (dk fs cnt) W (ρ.off S)/\Ext (Ow.off S) (ρ.off S):=λh hx=>by
  have Ct:=hx.trans (Ext.B5 _ _);exact⟨Ad.close h (R8.mono Ct),Ct.off S⟩
 induction m with
 | zero=>
  intro k Z22 ρ p3 n3 c3 hm hk h hx ho Wo;refine BV.Mh ⟨λhh=>by omega,λ_=>BV.Ix ?_⟩;rw[Ae7 (by omega)]at ho;have htn:tail=[]:=Wo.resolve_left (by omega);subst htn;obtain⟨hlu,aY⟩:=cl h hx;refine hR Z22 _ p3 n3 c3 fs cnt sg ?_ aY (B6.rd Xw.mono ho) rfl Ig Io Out.refl (λs h=>h) Fv (Ae1 _) (by omega) (λ_=>⟨rfl,rfl⟩);rw[<-I8];exact hlu
 | succ m ih=>
  intro k Z22 ρ p3 n3 c3 hm hk h hx ho Wo;obtain⟨x,Ri⟩:∃x,sg[k]?=some x:=⟨_,Ae3 (by omega)⟩;have hxs:=Ae2 Ri;have hgx:=Ig.gt x hxs;have X5:=Ig.PF x hxs;have fW:=Ig.file k x Ri;have Ie:Ab (AJ W.dir ks x.1)=true:=GU hd (.inr rfl) (by omega);have j7:=hx.trans (Ext.B5 _ _);have qJ:=R8.mono j7;have fX:=qJ.mono h.ext;have Ib:(KB W.AS)[k]?=some ((x.1:Nat):Int):=by rw[KB,I8,Afg,AfZ,Ri];rfl
  obtain⟨zQ,zR,AMv,AT6⟩:=(A2.rd fX.own).at Ib;have e1:Int.toNat ((k:Int)+1)=k+1:=by omega
  have TF:=qH Ri;have AMw:(rc++A0 (sg.take k)).length=n3:=ho.1;have AcA:n3+x.2.length<=4194304:=by
   have h1:(rc++A0 (sg.take (k+1))).length<=(rc++A0 sg).length:=by
    have:A0 sg=A0 (sg.take (k+1))++A0 (sg.drop (k+1)):=by rw[<-CX,Afi]
    rw[this];simp
   rw[TF,<-Aew,Aet,AMw]at h1;omega
  have AT7:∀j∈S,ρ j≠none:=qJ.known;have yE:∀a,p3=some a->ρ a.block≠none:=λa ha hn=>ho.block a ha (Hp.Qf hn);have new:∀{ρ2 ν:Hp} {p:Option Addr} {n c:Nat} {xs:Bk},Ext ρ ρ2->PC ν p n c xs->Ext ν ρ2->qy ρ ν->Kn ((ρ2.off S).del p3) p n xs:=λx2 A x3 hb=>by
   refine Kn.mono ?_ (B6.rd Xw.mono A);exact hb.del (λj o hj=>Hp.AI.2 ⟨λhs=>AT7 j hs (hb j o hj),x3 j o hj⟩) yE
  refine BV.Mh ⟨λ_=>⟨zQ,zR,AMv,by omega,x.1,by simpa using AT6,b,0,rfl,_,_,c46,AD fX.obj rfl,by unfold AK;omega,by omega,?_⟩,λhh=>by omega⟩;rw[NW AMv];refine Dq (kind:=ks) (dir:=W.dir) (AD fX.obj rfl) NV (.inr rfl) (by omega) ((ht.mono j7).mono h.ext) λZ12 Ct=>⟨_,rfl,Kp.CV Ct,?_⟩;have h1:=h.mono Ct;by_cases hw:(if k+1=sg.length then tail else[])=[]
  .rw[hw,AfG]at fW;refine Vq h1 qJ.AA7 rfl Ie fW X5 λZ222 ρ2 ν p n c h2 x2 A x3 hb=>⟨_,_,_,_,rfl,?_⟩;have hn:x.2.length=n:=A.1;refine h2.AMu (O2:=Ow) (S:=S) (xs:=rc++A0 (sg.take k)) (ys:=x.2) (λj hj=>(qJ.mono x2).known j hj) (hx.trans (x2.del p3)) (B6.mono Xw.mono (x2.off S) ho) (new x2 A x3 hb) (by omega) λp' c' Z3 ρ3 h3 hS3 DG Ev=>⟨p',_,c',rfl,λ_=>⟨by unfold AK;omega,?_⟩,λhh=>(by cases hh)⟩;rw[Aew,<-TF]at DG;refine ih (k+1) Z3 ρ3 p' _ c' (by omega) (by omega) h3 Ev DG ?_;by_cases hl:k+1=sg.length
   .rw[Aex hl]at hw;exact .inr hw
   .exact .inl (by omega)
  .have LH:k+1=sg.length:=by
    by_cases hh:k+1=sg.length
    .exact hh
    .rw[Aeu hh]at hw;exact absurd rfl hw
   rw[Aex LH]at hw fW;obtain⟨s0,G,gW⟩:∃s0 G,sg=s0++[G]:=by
    rcases Agq sg with e|⟨s0,G,e⟩
    .rw[e]at LH;simp at LH
    .exact⟨s0,G,by rw[e];simp⟩
   have mT:k=s0.length:=by rw[gW]at LH;simp at LH;exact LH
   have Rg:G=x:=by rw[gW,mT]at Ri;simpa using Ri
   subst Rg;have e2:W.AS.length-Int.toNat ((k:Int)+1)=0:=by omega
   rw[e2];have AR:∀y∈s0,AJ W.dir ks y.1≠AJ W.dir ks G.1:=λy hy e=>by
    have Aq:=Tv (gW▸Ig.Lf) y hy;have:=Ig.gt y (by rw[gW];simp[hy]);have:=Fo (by omega) (by omega) e;omega
   refine qG h1 qJ.AA7 rfl rfl (by show cnt<_;omega) IS hd Ie fW X5 Ig.Wc Ig.by8 hw Fv (B4 (.inr rfl)).symm λZ222 ρ2 ν p n c fs2 AMx h2 x2 A x3 hb pM PM TX=>⟨_,_,_,_,rfl,?_⟩;have hn:G.2.length=n:=A.1;refine h2.AMu (O2:=Ow) (S:=S) (xs:=rc++A0 (sg.take k)) (ys:=G.2) (λj hj=>(qJ.mono x2).known j hj) (hx.trans (x2.del p3)) (B6.mono Xw.mono (x2.off S) ho) (new x2 A x3 hb) (by omega) λp' c' Z3 ρ3 h3 hS3 DG Ev=>⟨p',_,c',rfl,λhh=>(by cases hh),λ_=>?_⟩;rw[Aew,<-TF,Ae7 (by omega)]at DG;obtain⟨hlu,aY⟩:=cl h3 Ev;obtain⟨pq,cq,hcq,hlq,hrq⟩:=hlu.rd.AS;refine⟨pq,_,cq,hlq,by unfold AK;omega,by omega,?_⟩;have e3:Int.toNat ((k:Int)+1)=W.AS.length:=by omega
   rw[e3];refine hlu.cut (l:=W.AS) rfl (λp c hpc=>by rw[hlq]at hpc;cases hpc;exact⟨rfl,λρ h=>h⟩) λZ4 h4=>?_;have AMz:=gW▸Ig;have hkx:=gW▸Io;refine⟨λhn0=>?_,λhn0=>BV.Ix ?_⟩
   .have LX:G.2=[]:=Ae6 (by omega);obtain⟨pr,cr,hcr,hlr,hrr⟩:=h4.rd.AS;refine⟨pr,_,cr,hlr,by simp only at hcr ⊢;omega,?_⟩;have e4:Int.toNat (k:Int)=k:=by omega
    rw[e4];refine h4.cut (l:=W.AS.take k) (by rw[AfE];omega) (λp c hpc=>by rw[hlr]at hpc;cases hpc;exact⟨rfl,λρ h=>by have:=Own.shrink (k:=k) h (by simp only;omega);rw[KB,Ah9];exact this⟩) λZ5 h5=>BV.Ix ?_;rw[Aex LX]at TX;have ht0:A0 s0=A0 sg:=by rw[gW,CX,Fq,LX,AfG]
    refine hR Z5 _ p' _ c' fs2 AMx s0 ?_ aY (B6.rd Xw.mono (by rw[ht0];exact DG)) ht0 (by rw[TX];exact AMz.wD (by omega) LX PM) (by rw[TX];exact hkx.wD AR) (by rw[TX];exact Out.del Ca) (by
     rw[TX];intro s hs;by_cases e:s=AJ W.dir ks G.1
     .subst e;rw[Cb]at hs;cases hs
     .rw[Ap e]at hs;exact hs) (by rw[TX,Ap (B4 (.inr rfl))];exact Fv) PM pM (λe=>absurd e hw)
    have:W.AS.take k=s0.map (·.1):=by rw[I8,gW,AfF,mT,List.take_left' (by simp)]
    rw[<-this];exact h5
   .have LX:G.2≠[]:=λe=>hn0 (by rw[<-hn,e];rfl);rw[Aeu LX]at TX;refine hR Z4 _ p' _ c' fs2 AMx sg ?_ aY (B6.rd Xw.mono DG) rfl (by rw[TX,gW];exact AMz.wE (by omega) PM) (by rw[TX,gW];exact hkx.wE AR) (by rw[TX];exact Out.laid (.inr rfl) (by omega) (by omega)) (by
     rw[TX];intro s hs;by_cases e:s=AJ W.dir ks G.1
     .subst e;exact fW.aj
     .by_cases e2:s=BO W.dir
      .simp only[laid,e,AgO,e2,AhY]at hs;rw[Aeu (B4 (.inr rfl))]at hs;cases hs
      .simp only[laid,e,e2,AgO]at hs;exact hs) (by rw[TX];simp[laid,(B4 (dir:=W.dir) (kind:=ks) (a:=G.1) (.inr rfl))]) PM pM (λe=>absurd e hw)
    rw[<-I8];exact h4
end
section
variable {Z22 ρ O2:Hp}{d b:Nat}{D:Dk}{W:Wl}{R:Rr}{fs:Fs}{cnt:Nat}{rc:Bk}{sg:Sg}{tail:List Int}
theorem Ad.names (h:Ad Z22 d b D W O2):∀s,(D.files s).isSome=true->Ab s=true:=h.vq.names
theorem Ad.make {b:Nat}(h:Ac Z22 d D O2)(hb:Z22 b=none)(hs:W.AS=[]):Ad (Z22.set b (.cells (AA2 d W none 0 0) 136 (0,0))) d b D W O2:=by
 obtain⟨Sd,A,G⟩:=h;have qw:b ∉ Sd:=λhh=>A.known b hh hb;refine⟨Sd,[b],none,0,136,A.mono (.set hb),?_,?_⟩
 .rw[Hp.GK qw];exact⟨rfl,by simp[FB],by rw[Hp.AA,hs];rfl,by rw[hs];exact Own.nil⟩
 .rw[Hp.GK qw,Hp.Kf (by simp)];exact G.tw (by simpa using AT G (Hp.Qf hb))
theorem Ad.stB {k n:Nat}{E:TypeId}{c:Array Value}{t:TypeId}{v:Value}{Φ:Unit->Hp->Prop}(h:Ad Z22 d b D W O2)(hk:O2 k=some (.cells c t (0,0)))(hz:∀w,(Go.sizeOf E).run prog w=.ok n w)(hn:v.cells.size=n)(hl:0+n<=c.size)(h1:∀u∈v.cells.toList,u.oneCell'=true)
  (hΦ:∀Z'2,Ad Z'2 d b D W (O2.set k (.cells (F0 c 0 v.cells.toList) t (0,0)))->Φ () Z'2):AH prog (Instr.storeAt E (.pointer (some ⟨k,0,none⟩)) v) Z22 Φ:=by
 obtain⟨Sd,S,p,cc,T,g1,g2,g3⟩:=h;have mT:=Hp.AI.1 (g3 _ _ hk);have G:=Hp.AI.1 mT.2;refine AH.store hz G.2 hn hl h1 (hΦ _ ⟨Sd,S,p,cc,T,g1.loc λj A=>Hp.AB λe=>G.1 (e▸A),?_,?_⟩)
 .rw[Hp.GK G.1];exact g2.loc λj A=>Hp.AB λe=>mT.1 (e▸A)
 .rw[Hp.GK G.1,Hp.GK mT.1];intro j o A;by_cases xV:j=k
  .subst xV;rw[Hp.AA]at A ⊢;exact A
  .rw[Hp.AB xV]at A ⊢;exact g3 _ _ A
theorem Hp.wF {k:Nat}{o:Obj}(h:Z22 k=some o):(Z22.off [k]).set k o=Z22:=by
 funext j
 by_cases A:j=k
 .subst A;rw[Hp.AA,h]
 .rw[Hp.AB A,Hp.GJ (by simpa using A)]
theorem Spec.wF {P:Program}{f:FuncId}{args:Array Value}{k:Nat}{o:Obj}{R:Rr}(A:Z22 k=some o)(h:Spec P f args (Z22.off [k]) (λe O'2=>O'2 k=none->R e (O'2.set k o))):Spec P f args Z22 R:=by
 have:=Spec.UG (o:=o) (Hp.jR (by simp)) h;rwa[Hp.wF A]at this
theorem Ad.wF {k:Nat}{o:Obj}(h:Ad Z22 d b D W O2)(hk:O2 k=some o):Ad (Z22.off [k]) d b D W (O2.off [k]):=by
 obtain⟨Sd,S,p,cc,T,g1,g2,g3⟩:=h;have G:=Hp.AI.1 (g3 _ _ hk);have qK:=Hp.AI.1 G.2;refine⟨Sd,S,p,cc,T,g1.loc λj A=>Hp.GJ λe=>qK.1 (Aev.1 e▸A),?_,?_⟩
 .rw[Hp.MB];exact g2.loc λj A=>Hp.GJ λe=>G.1 (Aev.1 e▸A)
 .rw[Hp.MB (Z22:=Z22),Hp.MB (Z22:=Z22.off Sd)];exact g3.off [k]
theorem Ad.R9 {k:Nat}{o:Obj}(h:Ad Z22 d b D W O2)(hk:Z22 k=none):Ad (Z22.set k o) d b D W (O2.set k o):=by
 obtain⟨O'2,h1,h2,h3⟩:=h.box (o:=o) hk;refine h1.JL λj u A=>?_;by_cases G:j=k
 .subst G;rw[Hp.AA]at A;cases A;exact h3
 .rw[Hp.AB G]at A;exact h2 _ _ A
theorem fY (h:Ad Z22 d b (dk fs cnt) W O2)(ht:Tb O2)(hd:Co W.dir=true)(hc:cnt<67108864)(IS:aL (dk fs cnt))(A:Shape fs W.dir cnt W.check rc sg tail)(Io:Kept fs W.dir W.check sg)(I8:W.AS=sg.map (·.1))(Fv:fs (BO W.dir)=none)(EW:(rc++A0 sg).length<=4194304)
  (hR:AGR d b W O2 fs cnt rc sg tail R):Spec prog 75 #[.pointer (some ⟨b,0,none⟩)] Z22 R:=by
 obtain⟨Ow,S,p,c,T,Vo,G,aY⟩:=h.opened;have htw:Tb Ow:=ht.mono (aY.trans (Ext.FW _ _));have NV:W.dir.size<=32:=by simp[Co]at hd;exact hd.2
 have hR':AGR d b W (Ow.off S) fs cnt rc sg tail R:=λZ'2 ρ p n c IW cnt' Li a1 a2 a3 a4 a5 a6 a7 a8 a9 a10 a11 a12=>hR Z'2 ρ p n c IW cnt' Li a1 (aY.trans a2) a3 a4 a5 a6 a7 a8 a9 a10 a11 a12;have NQ:W.AS.length=sg.length:=by rw[I8,AfO]
 have loop:∀(Z22 ρ:Hp) (p3:Option Addr) (n3 c3:Nat),Ac Z22 d (dk fs cnt) ρ->Ext Ow (ρ.del p3)->PC (ρ.off S) p3 n3 c3 rc->BV.zp R (some ⟨b,0,none⟩) p3 n3 c3 Z22:=λZ22 ρ p3 n3 c3 h1 hx ho=>by
  have j7:=hx.trans (Ext.B5 _ _);refine BV.zq ⟨b,0,rfl,p,_,c,AD ((G.mono j7).mono h1.ext).obj rfl,?_⟩;refine qI hd hc IS htw A Io I8 Fv EW G hR' sg.length 0 Z22 ρ p3 n3 c3 rfl (AfI _) h1 hx (by simpa[A0] using ho) ?_;rcases Af4 sg.length with h0|h0
  .exact .inr (A.ADJ (Ae6 h0))
  .exact .inl h0
 have fX:=G.mono Vo.ext;refine BV.start ⟨b,0,rfl,W.check,AD fX.obj rfl,λGb=>⟨W.check,AD fX.obj rfl,p,_,c,AD fX.obj rfl,?_⟩,λhz=>?_⟩
 .have AA5:=A.j2;refine Dq (kind:=kc) (dir:=W.dir) (AD fX.obj rfl) NV (.inl rfl) (by omega) (htw.mono Vo.ext) λZ12 Ct=>⟨_,rfl,Kp.CV Ct,?_⟩;refine Vq (Vo.mono Ct) G.AA7 rfl (GU hd (.inl rfl) (by omega)) (A.mg (by omega)) A.TC λZ222 ρ2 ν p' n' c' h2 x2 hν x3 hb=>⟨_,_,_,_,rfl,λhh=>(by cases hh),λ_=>?_⟩;refine loop Z222 ρ2 p' n' c' h2 (hb.own x2 hν.block) (B6.mono Xw.mono (λj o hj=>Hp.AI.2 ⟨λhs=>G.known j hs (hb j o hj),x3 j o hj⟩) hν)
 .have h0:W.check=0:=by omega
  have hrc:=A.fP h0;subst hrc;exact loop Z22 Ow none 0 0 Vo (Ext.refl _) B6.nil
def ADS (d b:Nat)(dir:ByteArray)(D:Dk)(O2:Hp)(told:Bk)(w:Bool)(K:Hp->Hp->Option Addr->Nat->Nat->Prop):Prop:=
 ∀Z'2 W rc sg ρ p n c A cnt',Ad Z'2 d b (dk A cnt') W ρ->Ext O2 ρ->Kn ρ p n told->W.dir=dir->BF A cnt' W rc sg 0->rc++A0 sg=told->Out dir D.files A->Sub D.files A->A (BO dir)=none->D.cnt<=cnt'->cnt'<=D.cnt+1->(w=true->cnt'=D.cnt/\∃L,Names D.files (dir++CG) L/\A=TE D.files dir L)->K Z'2 ρ p n c
theorem BF.made {opn size:Nat}(Ig:Shape fs W.dir cnt W.check rc sg [])(Io:Kept fs W.dir W.check sg)(I8:W.AS=sg.map (·.1))(h0:sg=[]->W.opn=W.check+1/\W.size=0)(h1:∀s0 x,sg=s0++[x]->W.opn=x.1/\W.size=(AU x.2).length):BF fs cnt W rc sg 0:=by
 rcases Agq sg with e|⟨s0,x,e⟩
 .subst e;obtain⟨e1,e2⟩:=h0 rfl;exact⟨Ig,I8,⟨by omega,by have:=Ig.j2;omega,λx hx=>by cases hx⟩,λx hx=>(by cases hx),λ_=>e2,λf h G=>Io.1 f h G,λx hx=>(by cases hx),λx hx=>(by cases hx),λ_=>AfI _⟩
 .have e':sg=s0++[x]:=by rw[e];simp
  subst e';obtain⟨e1,e2⟩:=h1 s0 x rfl;have hgx:=Ig.gt x (by simp);have Aq:=Tv Ig.Lf;refine⟨Ig,I8,⟨by omega,by omega,λy A=>?_⟩,λy A mo=>?_,λA9=>absurd e1.symm (A9 x (by simp)),λf h G=>Io.1 f h G,λy A gQ f G=>?_,λy A mo=>?_,λ_=>AfI _⟩
  .rcases Ae9.1 A with A|A
   .have:=Aq y A;omega
   .simp at A;subst A;omega
  .rcases Ae9.1 A with A|A
   .have:=Aq y A;omega
   .simp at A;subst A;exact e2
  .rcases Ae9.1 A with A|A
   .obtain⟨k,hk⟩:=Aht A;have kV:=(Ae0.1 hk).1;exact Io.2 k y (by rw[Ae8 kV];exact hk) (by simp;omega) f G
   .simp at A;subst A;omega
  .rcases Ae9.1 A with A|A
   .have:=Aq y A;omega
   .simp at A;subst A;obtain⟨f,G,_⟩:=Ig.file s0.length y (by simp);exact⟨0,f,AfI _,G,by simp[AU],by rw[CX,Fq,Aet,Aet];omega⟩
theorem Tb.ABC {k:Nat}(h:Tb O2)(hk:O2 k=some (.cells #[.N] 72 (0,0))):Tb (O2.off [k]):=by
 obtain⟨g,T,fr,h1,A⟩:=h;refine⟨g,T,fr,h1,?_⟩;rw[Hp.GJ]
 .exact A
 .intro G;simp only[Aev]at G;subst G;rw[hk]at A;simp only[AfL,Obj.cells.injEq]at A;have:=Ae4 Array.size A.1;simp[Lib.pow10Tab]at this
theorem j8 {dir:ByteArray}{told:Bk}{w:Bool}{b0 b1 b2 b3:Nat}(h:Ad Z22 d b (dk fs cnt) ⟨dir,0,[],0,0⟩ O2)(ht:Tb O2)(hd:Co dir=true)(hc:cnt<67108864)(IS:aL (dk fs cnt))(ho:X3 fs dir cnt told w)(EW:told.length<=4194304)
  (t0:O2 b0=some (.cells #[.pointer (some ⟨b,0,none⟩)] 71 (0,0))) (t1:O2 b1=some (.cells #[.pointer (some ⟨d,0,none⟩)] 36 (0,0))) (t2:O2 b2=some (.cells #[.string dir] 9 (0,0))) (t3:O2 b3=some (.cells #[.N] 72 (0,0)))
  (hR:ADS d b dir (dk fs cnt) (O2.off [b3]) told w λZ'2 ρ p n c=>ρ b3=some (.cells #[.slice p n c] 72 (0,0))->R (.T #[]) Z'2) :
  Spec prog 73 #[.pointer (some ⟨b0,0,none⟩),.pointer (some ⟨b1,0,none⟩),.pointer (some ⟨b2,0,none⟩),.pointer (some ⟨b3,0,none⟩)] Z22 R:=by
 obtain⟨check,rc,sg,tail,Ig,rfl,Io,hwt⟩:=ho;have NV:dir.size<=32:=by simp[Co]at hd;exact hd.2
 have WE:=h.ext;have WB:=h.names;have qL:b0≠b3:=λe=>by rw[e,t3]at t0;cases t0
 have AUA:b1≠b3:=λe=>by rw[e,t3]at t1;cases t1
 refine Up.start ⟨_,AD (WE _ _ t0) rfl,_,AD (WE _ _ t1) rfl,dir,AD (WE _ _ t2) rfl,?_,?_⟩
 .show dir.size+CG.size<=_
  have:CG.size=1:=rfl;rw[this];omega
 have h':=h;obtain⟨Sd,S,q,cc,T,g1,_,_⟩:=h';refine Xn (pre:=dir++CG) g1 rfl (by show cnt<=_;omega) λPz n11 P0 L Z12 hoL hL Ct AUB=>⟨Pz,n11,P0,rfl,Kp.CV Ct,?_⟩;obtain⟨O1,h1,x1,x1n⟩:=h.grow Ct;have hrT:yN O1 Pz n11 L:=(Own.rd hoL).mono x1n;have ALj:n11<=67108864:=AfU AUB (by show cnt<=_;omega);refine j5 (W:=⟨dir,0,[],0,0⟩) h1 ⟨rfl,rfl⟩ hL WB NV hrT ALj λZ222 h2=>⟨rfl,?_⟩;have hmc:=mr Ig (by omega) hL;have Lh:=j4 Ig (by omega) hL;obtain⟨AUC,AM0,fZ,mw⟩:=fV Ig (by omega) hL;rw[hmc]at h2;simp only at h2;rw[Lh]at h2;have AUD:Kept (TE fs dir L) dir check sg:=⟨λf h0 A=>Io.1 f h0 (mw _ _ A),λk x hx hk f A=>Io.2 k x hx hk f (mw _ _ A)⟩;have BD:=h2.ext;have AA5:=Ig.j2;refine⟨_,AD (BD _ _ (x1 _ _ t0)) rfl,_,AD (BD _ _ (x1 _ _ t0)) rfl,b,0,rfl,check,h2.rd.check,by unfold AK;omega,b,0,rfl,?_⟩;have e1:((check:Int)+1)=((check+1:Nat):Int):=by omega
 rw[e1];refine h2.st (i:=0+4) (W':=⟨dir,check,sg.map (·.1),check+1,0⟩) (by omega) rfl (λp n c=>rfl) λZ3 h3=>?_;have t31:=x1 _ _ t3;refine⟨_,AD (h3.ext _ _ (x1 _ _ t0)) rfl,Spec.wF (h3.ext _ _ t31) (fY (W:=⟨dir,check,sg.map (·.1),check+1,0⟩) (h3.wF t31) ((ht.ABC t3).mono (x1.off [b3])) hd (by omega) (IS.sub (Ae1 _) λs hs=>by obtain⟨f,A⟩:=AgH.1 hs;exact AgH.2 ⟨f,mw _ _ A⟩) AUC AUD rfl fZ EW λZ4 ρ p n c IW cnt' Li h4 j7 JW TF AGS AUE AM1 AM2 AM3 pM PM hc3 A9=>⟨p,n,c,rfl,?_⟩)⟩;have AUF:ρ b3=none:=AT h4.ext A9;refine(h4.R9 (o:=.cells #[.N] 72 (0,0)) A9).stB (v:=.slice p n c) (Hp.AA _ _ _) (E:=72) (n:=1) ?_ rfl (by simp) (by simp[Value.cells,Value.oneCell']) λZ5 h5=>?_
 .intro w;have hi:prog.info? 72=some t72:=by kernel_rfl
  simp[Go.sizeOf,typeInfo,hi,show t72.size=1 from rfl]
 rw[Hp.set_set]at h5;have AGU:Ext ρ (ρ.set b3 (.cells (F0 #[.N] 0 (Value.slice p n c).cells.toList) 72 (0,0))):=.set AUF;have fc:∀j o,j≠b3->O2 j=some o->(ρ.set b3 (.cells (F0 #[.N] 0 (Value.slice p n c).cells.toList) 72 (0,0))) j=some o:=λj o hj hjo=>AGU _ _ (j7 _ _ (Hp.AI.2 ⟨by simpa using hj,x1 _ _ hjo⟩));have hx5:=h5.ext;have hτ:Ext (O2.off [b3]) (ρ.set b3 (.cells (F0 #[.N] 0 (Value.slice p n c).cells.toList) 72 (0,0))):=λj o hj=>by
  have:=Hp.AI.1 hj;exact fc j o (by simpa using this.1) this.2
 have AUG:Kn (ρ.set b3 (.cells (F0 #[.N] 0 (Value.slice p n c).cells.toList) 72 (0,0))) p n (rc++A0 sg):=by
  rw[<-TF];exact JW.mono AGU
 have htb:Tb (ρ.set b3 (.cells (F0 #[.N] 0 (Value.slice p n c).cells.toList) 72 (0,0))):=(((ht.ABC t3).mono (x1.off [b3])).mono j7).mono AGU;have fin:∀Z'2 W',Ad Z'2 d b (dk IW cnt') W' (ρ.set b3 (.cells (F0 #[.N] 0 (Value.slice p n c).cells.toList) 72 (0,0)))->W'.dir=dir->W'.check=check->W'.AS=Li.map (·.1)->(Li=[]->W'.opn=W'.check+1/\W'.size=0)->(∀s0 x,Li=s0++[x]->W'.opn=x.1/\W'.size=(AU x.2).length)->R (.T #[]) Z'2:=by
  intro Z'2 W' hl e1 e2 e3 e4 e5;subst e1 e2;refine hR Z'2 W' rc Li _ p n c IW cnt' hl hτ AUG rfl (BF.made (opn:=0) (size:=0) AGS AUE e3 e4 e5) (by rw[TF]) (AM0.trans AM1) (Sub.trans (fs:=fs) (λs hs=>by obtain⟨f,A⟩:=AgH.1 hs;rw[mw s f A];rfl) AM2) AM3 pM PM (λhw=>⟨(hc3 (hwt hw)).1,L,hL,(hc3 (hwt hw)).2⟩) ?_;rw[Hp.AA];rfl
 obtain⟨pq,cq,hcq,hlq,hrq⟩:=h5.rd.AS;refine⟨_,AD (hx5 _ _ (fc _ _ qL t0)) rfl,b,0,rfl,pq,_,cq,hlq,λGb=>?_,λhz=>?_⟩
 .rcases Agq Li with e|⟨s0,x,e⟩
  .subst e;simp at Gb
  have e':Li=s0++[x]:=by rw[e];simp
  subst e';have hgx:=AGS.gt x (by simp);have Ib:(KB ((s0++[x]).map (·.1)))[s0.length]?=some ((x.1:Nat):Int):=by simp[KB]
  obtain⟨RF,ql,hpq,AUH⟩:=hrq.at Ib;have el:((s0++[x]).map (·.1)).length=s0.length+1:=by simp
  have e3:Int.toNat ((((s0++[x]).map (·.1)).length:Int)-1)=s0.length:=by rw[el];omega
  refine⟨_,AD (hx5 _ _ (fc _ _ qL t0)) rfl,_,AD (hx5 _ _ (fc _ _ qL t0)) rfl,b,0,rfl,pq,_,cq,hlq,?_,RF,ql,hpq,?_,x.1,by rw[e3];exact AUH,b,0,rfl,?_⟩
  .have:=PM;have:=h5.rd.AS;unfold AK;rw[el];have:=hrq.big;rw[el]at this;omega
  .rw[el];omega
  refine h5.st (i:=0+4) (W':=⟨dir,check,(s0++[x]).map (·.1),x.1,0⟩) (by omega) rfl (λp n c=>rfl) λZ6 h6=>?_;have G:=h6.ext;obtain⟨f,A,qz⟩:=AGS.file s0.length x (by simp);simp at qz;refine⟨_,AD (G _ _ (fc _ _ AUA t1)) rfl,_,AD (G _ _ (fc _ _ qL t0)) rfl,_,AD (G _ _ (fc _ _ qL t0)) rfl,b,0,rfl,x.1,h6.rd.opn,?_⟩;refine Dq (kind:=ks) (dir:=dir) h6.rd.dir NV (.inr rfl) (by omega) (htb.mono G) λZ72 hx7=>⟨_,rfl,Kp.CV hx7,?_⟩;obtain⟨O8,S8,p8,c8,T8,AUI,AM4,AUJ⟩:=(h6.mono hx7).opened;refine wC AUI rfl (GU hd (.inr rfl) (by omega)) A λp9 c9 Z9 O9 h9 x9 _ _ _=>⟨_,_,_,_,rfl,KD ?_⟩;have h10:Ad Z9 d b (dk IW cnt') ⟨dir,check,(s0++[x]).map (·.1),x.1,0⟩ (ρ.set b3 (.cells (F0 #[.N] 0 (Value.slice p n c).cells.toList) 72 (0,0))):=(Ad.close h9 (AM4.mono x9)).JL (AUJ.trans (x9.off _));refine⟨_,AD (h10.ext _ _ (fc _ _ qL t0)) rfl,b,0,rfl,?_⟩;refine h10.st (i:=0+5) (x:=(f.data.length:Nat)) (W':=⟨dir,check,(s0++[x]).map (·.1),x.1,f.data.length⟩) (by omega) rfl (λp n c=>rfl) λAUK h11=>?_;refine fin AUK _ h11 rfl rfl rfl (λe=>by simp at e) λs1 y e=>?_;have:=List.append_inj' e rfl;simp only[Agt,and_true]at this;rw[<-this.2];exact⟨rfl,Ae4 List.length qz⟩
 .have e0:Li=[]:=by
   cases Li with
   | nil=>rfl
   | cons y l=>simp at hz
  exact fin Z5 _ h5 rfl rfl rfl (λ_=>⟨rfl,rfl⟩) λs0 x e=>by rw[e0]at e;simp at e
theorem AUL:Enters prog 73:=λargs w=>call73 args w
theorem qM {dir:ByteArray}{told:Bk}{w:Bool}(h:Ac Z22 d D O2)(ht:Tb O2)(CA:D.up=true)(Vr:D.armed=false)(hd:Co dir=true)(hc:D.cnt<67108864)(ho:X3 D.files dir D.cnt told w)(EW:told.length<=4194304)
  (hR:∀b,ADS d b dir D O2 told w λZ'2 ρ p n c=>R (.T #[.pointer (some ⟨b,0,none⟩),.slice p n c,.I 0]) Z'2) (IS:aL D:=by refine .inl ?_;first|omega|(dsimp only[dk];omega)|(dsimp only;omega)):Spec prog 25 #[.pointer (some ⟨d,0,none⟩),.string dir] Z22 R:=by
 obtain⟨fs,up,armed,cnt⟩:=D;simp only at CA Vr;subst CA Vr;have NV:dir.size<=32:=by simp[Co]at hd;exact hd.2
 have hdn:Ab dir=true:=by simp only[Co,AfH]at hd;exact hd.1
 refine dh.start λb2 KL b3 To=>?_;obtain⟨O22,h2,x2,t2⟩:=h.box (o:=.cells #[.pointer (some ⟨d,0,none⟩)] 36 (0,0)) KL;obtain⟨O3,A,x3,t3⟩:=h2.box (o:=.cells #[.string dir] 9 (0,0)) To;refine⟨dir,AD (A.ext _ _ t3) rfl,λhh=>by omega,λ_=>⟨dir,AD (A.ext _ _ t3) rfl,Mr ⟨_,rfl,λhf=>(by rw[hdn]at hf;cases hf),λ_=>⟨_,AD (A.ext _ _ (x3 _ _ t2)) rfl,?_⟩⟩⟩⟩;have h3':=A;obtain⟨Sd,g1,_⟩:=h3';refine mG g1 ⟨_,rfl,λhh=>(by cases hh),λ_=>⟨_,AD (A.ext _ _ (x3 _ _ t2)) rfl,dir,AD (A.ext _ _ t3) rfl,λG AUM b7 hb7=>?_⟩⟩;have hl:=Ad.make (W:=⟨dir,0,[],0,0⟩) A AUM rfl;refine AH.store (v:=.pointer (some ⟨G,0,none⟩)) ?_ (Hp.AA _ _ _) (n:=1) rfl (by simp) (by simp[Value.cells,Value.oneCell']) ?_
 .intro w;have hi:prog.info? 71=some t71:=by kernel_rfl
  simp[Go.sizeOf,typeInfo,hi,show t71.size=1 from rfl]
 rw[Hp.set_set];have hw:F0 #[Value.pointer none] 0 (Value.pointer (some ⟨G,0,none⟩)).cells.toList=#[.pointer (some ⟨G,0,none⟩)]:=rfl;rw[hw];intro b8 hb8;obtain⟨O7,h7,x7,t7⟩:=hl.box (o:=.cells #[.pointer (some ⟨G,0,none⟩)] 71 (0,0)) hb7;obtain⟨O8,h8,x8,t8⟩:=h7.box (o:=.cells #[.N] 72 (0,0)) hb8;have Rg:Ext O2 O8:=x2.trans (x3.trans (x7.trans x8));have AUN:Ext O2 (O8.off [b8]):=λj o hj=>by
  refine Hp.AI.2 ⟨λe=>?_,Rg _ _ hj⟩;simp only[Aev]at e;subst e;have h9:=h7.ext _ _ (x7 _ _ (x3 _ _ (x2 _ _ hj)));have h10:=hb8.symm.trans h9;cases h10
 have t78:O8 b7=some (.cells #[.pointer (some ⟨G,0,none⟩)] 71 (0,0)):=x8 _ _ t7;have AUO:b7≠b8:=λe=>by rw[e,t8]at t78;cases t78
 refine MK AUL (j8 h8 (ht.mono Rg) hd hc IS ho EW t78 (x8 _ _ (x7 _ _ (x3 _ _ t2))) (x8 _ _ (x7 _ _ t3)) t8 λZ'2 W rc sg ρ p n c IW cnt' a1 a2 a3 a4 a5 a6 a7 a8 a9 a10 AUP AM5 a11=>.inl ⟨rfl,_,rfl,λhh=>absurd rfl hh,λ_=>⟨_,AD (a1.ext _ _ (a2 _ _ (Hp.AI.2 ⟨by simpa using AUO,t78⟩))) rfl,p,n,c,AD (a1.ext _ _ a11) rfl,?_⟩⟩);exact hR G Z'2 W rc sg ρ p n c IW cnt' a1 (AUN.trans a2) a3 a4 a5 a6 a7 a8 a9 a10 AUP AM5
end
section
variable {fs gs:Fs}{cnt safe:Nat}{W:Wl}{rc keep:Bk}{sg:Sg}
theorem BF.laid (h:BF fs cnt W rc sg safe)(hc:cnt<99999998)(hk:Good keep):Shape (laid fs W.dir (AJ W.dir kc W.opn) (AU keep)) W.dir (cnt+1) W.opn keep [] []:=by
 have ho:=h.opn;have hb:W.opn<100000000:=by omega
 have hn:=CC (dir:=W.dir) (kind:=kc) hb;have A:∀s,(TwW.laid fs W.dir (AJ W.dir kc W.opn) (AU keep) s).isSome=true->s=AJ W.dir kc W.opn\/(fs s).isSome=true:=λs G=>by
  by_cases h1:s=AJ W.dir kc W.opn
  .exact .inl h1
  .by_cases h2:s=BO W.dir
   .simp[TwW.laid,h1,h2]at G;have:=(B4 (dir:=W.dir) (kind:=kc) (a:=W.opn) (.inl rfl));exact absurd G this
   .simp only[TwW.laid,h1,h2,AgO]at G;exact .inr G
 refine⟨λ_=>⟨⟨AU keep,(AU keep).length⟩,by simp[TwW.laid],rfl⟩,λe=>by omega,λs G=>?_,ho.2.1,(λx hx=>by cases hx),List.Pairwise.nil,λs G Aq=>?_,(λk x hx=>by simp at hx),λ_=>rfl,FJ,hk,(λx hx=>by cases hx),λa ha=>by cases ha⟩
 .rcases A s G with rfl|h1
  .omega
  .have:=h.sh.R6 s h1;omega
 .exfalso;rcases A s G with rfl|h1
  .have:=J6 (dir:=W.dir) (s:=AJ W.dir kc W.opn) (by omega);omega
  .obtain⟨x,hx,e⟩:=h.sh.mi s h1 (by omega);have:=ho.2.2 x hx;omega
theorem Shape.wG {dir s:ByteArray}{check:Nat}(h:Shape fs dir cnt check keep [] [])(hs:s≠AJ dir kc check):Shape (A8 fs s none) dir cnt check keep [] []:=
 h.congr (Ae1 _) (λ_=>Ap hs.symm) (λx hx=>by cases hx) λt A=>by
  by_cases G:t=s
  .subst G;rw[Cb]at A;cases A
  .rw[Ap G]at A;exact .inl A
theorem Shape.wH {dir:ByteArray}{check:Nat}(h:Shape fs dir cnt check keep [] [])(A:∀f,fs (AJ dir kc check)=some f->f.HU=f.data.length)(G:Gg fs gs):Kq gs dir cnt keep:=
 ⟨check,keep,[],[],{ h with mg:=λh0=>G.whole (h.mg h0) A,R6:=λs A=>h.R6 s (G.aj A),mi:=λs A=>h.mi s (G.aj A),file:=λk x hx=>by simp at hx },by simp[A0],G.kept,λh=>(by cases h)⟩
end
section
variable {Z22 ρ O2:Hp}{d b:Nat}{D:Dk}{W:Wl}{R:Rr}{fs:Fs}{cnt safe:Nat}{rc keep:Bk}{sg:Sg}
structure AM6 (d b:Nat)(D:Dk)(W:Wl)(O2:Hp)(rc:Bk)(sg:Sg)(safe:Nat)(keep:Bk)(rok:Hp->Prop)(vw:Hp->Prop):Prop where
 ok:∀Z'2 D' W',Ad Z'2 d b D' W' O2->D'.up=true->D'.armed=D.armed->D'.cnt=D.cnt+1->W'.dir=W.dir->(W'.AS=[]/\W'.check=W.opn/\∀s,(D'.files s).isSome=true->s=AJ W.dir kc W.opn\/((D.files s).isSome=true/\(0<W.check->s≠AJ W.dir kc W.check)/\∀n∈W.AS,s≠AJ W.dir ks n))->BF D'.files D'.cnt W' keep [] keep.length->Out W.dir D.files D'.files->D'.files (BO W.dir)=none->rok Z'2
 bad:D.armed=true->∀Z'2 D' told,Ac Z'2 d D' O2->D'.up=false->D'.armed=false->(D'.cnt=D.cnt+1/\∀s,(D'.files s).isSome=true->(D.files s).isSome=true\/s=AJ W.dir kc W.opn\/s=BO W.dir)->Kq D'.files W.dir D'.cnt told->(told=keep\/(told <+: rc++A0 sg/\safe<=told.length))->vw Z'2
theorem AUQ:Enters prog 129:=λargs w=>call129 args w
theorem AM7 {b0 ck:Nat}{armed:Bool}{C:Nat}{Q:List Nat->Fs->Prop}(hQ:∀n l fs,Q (n::l) fs->Q l (A8 fs (AJ W.dir ks n) none))(hd:Co W.dir=true)(hC:C<=67108864)(ht:Tb O2)(t0:O2 b0=some (.cells #[.pointer (some ⟨b,0,none⟩)] 71 (0,0)))(AcM:Out W.dir D.files fs)
  (A4:∀Z'2 IW W',Ad Z'2 d b ⟨IW,true,armed,C⟩ W' O2->W'.dir=W.dir->(W'.AS=[]/\W'.check=ck/\Q [] IW)->BF IW C W' keep [] keep.length->Out W.dir D.files IW->IW (BO W.dir)=none->R (.T #[]) Z'2)
  (u4:armed=true->∀Z'2 gs,Kq gs W.dir C keep->Ac Z'2 d ⟨gs,false,false,C⟩ O2->(∃l fs2,Q l fs2/\∀s,(gs s).isSome=true->(fs2 s).isSome=true)->R (.panicked (gi 60)) Z'2) :
  ∀(m:Nat) (Z22:Hp) (fs:Fs) (V:Wl),V.AS.length=m->V.dir=W.dir->V.check=V.opn->Ad Z22 d b ⟨fs,true,armed,C⟩ V O2->Shape fs W.dir C V.opn keep [] []->0<V.opn->(∀f,fs (AJ W.dir kc V.opn)=some f->f.HU=f.data.length)->(∀n∈V.AS,(fs (AJ W.dir ks n)).isSome=true/\n<=C)->V.AS.Nodup->Out W.dir D.files fs->fs (BO W.dir)=none->V.check=ck->Q V.AS fs->
   C6.zZ R b0 Z22:=by
 intro m;have NV:W.dir.size<=32:=by simp[Co]at hd;exact hd.2
 induction m with
 | zero=>
  intro Z22 fs V hm R7 hco h Ig Gb hsy gW LZ Hh Fv hck hq;have hr:=h.rd;have A:=h.ext;obtain⟨p,c,hc,hl,JW⟩:=hr.AS;have uy:V.AS=[]:=Ae6 hm;have AA5:=Ig.j2;refine C6.lU ⟨_,AD (A _ _ t0) rfl,b,0,rfl,p,_,c,hl,λhh=>by omega,λ_=>⟨_,AD (A _ _ t0) rfl,b,0,rfl,V.opn,hr.opn,by unfold AK;omega,?_⟩⟩;have e:((V.opn:Int)+1)=((V.opn+1:Nat):Int):=by omega
  rw[e];refine h.st (i:=0+4) (W':={ V with opn:=V.opn+1 }) (by omega) rfl (λp n c=>rfl) λZ12 h1=>?_;refine⟨_,AD (h1.ext _ _ t0) rfl,b,0,rfl,?_⟩;refine h1.st (i:=0+5) (x:=0) (W':={ V with opn:=V.opn+1,size:=0 }) (by omega) rfl (λp n c=>rfl) λZ222 h2=>?_;refine A4 Z222 fs _ h2 R7 ⟨uy,hck,uy▸hq⟩ ⟨?_,by rw[uy];rfl,⟨by simp only;omega,by simp only;omega,λx A=>by cases A⟩,(λx A=>by cases A),λ_=>rfl,λf h0 hf=>?_,(λx A=>by cases A),(λx A=>by cases A),λ_=>by simp[A0]⟩ Hh Fv
  .simp only[R7,hco];exact Ig
  .simp only[R7,hco]at hf;exact hsy f hf
 | succ m ih=>
  intro Z22 fs V hm R7 hco h Ig Gb hsy gW LZ Hh Fv hck hq;have hr:=h.rd;have A:=h.ext;obtain⟨p,c,hc,hl,JW⟩:=hr.AS;obtain⟨n0,l,G⟩:∃n0 l,V.AS=n0::l:=by
   cases hs:V.AS with
   | nil=>rw[hs]at hm;cases hm
   | cons a l=>exact⟨a,l,rfl⟩
  have Ib:(KB V.AS)[0]?=some ((n0:Nat):Int):=by rw[KB,G];rfl
  obtain⟨LU,za,hp,AUR⟩:=JW.at Ib;obtain⟨hf0,hn0⟩:=gW n0 (by rw[G];simp);obtain⟨f,hf⟩:=AgH.1 hf0;have AM8:Z22.ld ⟨b,0+1,none⟩=some (.string W.dir):=by rw[<-R7];exact hr.dir
  have Ie:Ab (AJ W.dir ks n0)=true:=GU hd (.inr rfl) (by omega);refine C6.lU ⟨_,AD (A _ _ t0) rfl,b,0,rfl,p,_,c,hl,λ_=>⟨_,AD (A _ _ t0) rfl,b,0,rfl,_,hr.ptr,_,AD (A _ _ t0) rfl,_,AD (A _ _ t0) rfl,b,0,rfl,p,_,c,hl,LU,za,hp,by omega,n0,by simpa using AUR,?_⟩,λhh=>by omega⟩;refine Dq (kind:=ks) (dir:=W.dir) AM8 NV (.inr rfl) (by omega) (ht.mono A) λZ12 Ct=>⟨_,rfl,Kp.CV Ct,?_⟩;refine Q7 (h.mono Ct) rfl Ie hf ⟨λZ222 h2=>⟨_,rfl,KD ?_⟩,λha Z222 gs hg Vo=>⟨_,rfl,Pw (u4 ha Z222 gs (Ig.wH hsy hg) Vo ⟨V.AS,fs,hq,λs hs=>hg.aj hs⟩)⟩⟩;obtain⟨p2,c2,PM,Rl,AcN⟩:=h2.rd.AS;refine⟨_,AD (h2.ext _ _ t0) rfl,_,AD (h2.ext _ _ t0) rfl,b,0,rfl,p2,_,c2,Rl,by omega,b,0,rfl,?_⟩;refine h2.cut (l:=l) (by rw[G];rfl) (λp' c' hpc=>?_) λZ3 h3=>?_
  .rw[Rl]at hpc;cases hpc;refine⟨?_,λρ ho=>?_⟩
   .unfold ET;cases p2 with
    | none=>split<;>rfl
    | some a=>
     split
     .rfl
     .simp[FB,Addr.add]
   .have hlen:V.AS.length=l.length+1:=by rw[G];rfl
    obtain⟨h1,h0,h4⟩:=ho;refine⟨by simp[KB];omega,by omega,?_⟩;rcases h4 with ⟨_,e,_⟩|⟨bb,oo,arr,T,rfl,hb,Wp,Dz,KI⟩
    .omega
    .by_cases hl0:c2=1
     .have fz:l=[]:=Ae6 (by omega);subst fz hl0;exact .inr ⟨bb,oo,arr,T,by simp[ET],hb,by simp;omega,by omega,by simp[KB];omega⟩
     .refine .inr ⟨bb,oo+1,arr,T,by simp[ET,hl0,Cm],hb,by omega,by omega,?_⟩;have e:V.AS.length-1=l.length:=by omega
      rw[G]at KI;have:=Ae4 (List.drop 1) KI;rw[Ahx,Afx]at this;simp only[KB,AfN,List.drop_succ_cons,Ago,Aez]at this;rw[hlen];simp only[KB];rw[<-this]
      congr 1
  .have AR:∀k,AJ W.dir ks n0≠AJ W.dir kc k:=λk e=>BR e.symm;have mS:n0 ∉ l/\l.Nodup:=by rw[G]at LZ;exact Afe.1 LZ
   refine ih Z3 _ { V with AS:=l } (by rw[G]at hm;simpa using hm) R7 hco h3 (Ig.wG (AR _)) Gb (λf hf=>hsy f (by rwa[Ap (AR _).symm]at hf)) (λk hk=>?_) mS.2 (Hh.trans (Out.del Ca)) ((Ap (B4 (.inr rfl))).trans Fv) hck (hQ n0 l fs (G▸hq));have qx:=gW k (by rw[G];simp[show k∈l from hk]);refine⟨?_,qx.2⟩;rw[Ap]
   .exact qx.1
   .intro e;have:=Fo (by omega) (by omega) e;exact mS.1 (this▸hk)
theorem qN {b0 b1:Nat}{p:Option Addr}{n c:Nat}(h:Ad Z22 d b D W O2)(ht:Tb O2)(t0:O2 b0=some (.cells #[.pointer (some ⟨b,0,none⟩)] 71 (0,0)))(t1:O2 b1=some (.cells #[.slice p n c] 72 (0,0)))
  (hx:Kn O2 p n keep) (hk:Good keep) (hlen:(AU keep).length<=4194304) (CA:D.up=true) (NK:D.cnt<67108864) (IS:aL D) (hd:Co W.dir=true) (A4:BF D.files D.cnt W rc sg safe) (Fv:D.files (BO W.dir)=none)
  (hR:AM6 d b D W O2 rc sg safe keep (λZ'2=>R (.T #[]) Z'2) (λZ'2=>R (.panicked (gi 60)) Z'2)):Spec prog 129 #[.pointer (some ⟨b0,0,none⟩),.pointer (some ⟨b1,0,none⟩)] Z22 R:=by
 have hr:=h.rd;have WE:=h.ext;have NV:W.dir.size<=32:=by simp[Co]at hd;exact hd.2
 have AGM:=A4.opn;have Ie:Ab (AJ W.dir kc W.opn)=true:=GU hd (.inl rfl) (by omega);refine C6.start ⟨_,AD (WE _ _ t0) rfl,_,AD (WE _ _ t0) rfl,_,AD (WE _ _ t0) rfl,b,0,rfl,W.opn,hr.opn,p,n,c,AD (WE _ _ t1) rfl,?_⟩;refine Dq (kind:=kc) hr.dir NV (.inl rfl) (by omega) (ht.mono WE) λZ12 Ct=>⟨_,rfl,Kp.CV Ct,?_⟩;obtain⟨Ow,S,q,cc,T,Vo,R8,aY⟩:=(h.mono Ct).opened;have AUS:Ext O2 Ow:=aY.trans (Ext.FW _ _);have Ig:=A4.laid (keep:=keep) (by omega) hk;have cl:∀{Z'2:Hp} {D':Dk},Ac Z'2 d D' Ow->Ad Z'2 d b D' W O2:=λh'=>(Ad.close h' R8).JL aY;refine Q9 Vo R8.AA7 CA NK IS hd Ie (hx.mono AUS) hk hlen Fv (B4 (.inl rfl)).symm ⟨λZ222 G=>?_,λha Z222 gs' gs hgs hg AUT=>?_⟩
 .have G:=cl G;have fz:laid D.files W.dir (AJ W.dir kc W.opn) (AU keep) (AJ W.dir kc W.opn)=some ⟨AU keep,(AU keep).length⟩:=by simp[laid]
  have AGV:∀f,laid D.files W.dir (AJ W.dir kc W.opn) (AU keep) (AJ W.dir kc W.opn)=some f->f.HU=f.data.length:=λf hf=>by rw[fz]at hf;cases hf;rfl
  have hlo:∀s,s≠AJ W.dir kc W.opn->s≠BO W.dir->laid D.files W.dir (AJ W.dir kc W.opn) (AU keep) s=D.files s:=λs e1 e2=>by simp[laid,e1,e2]
  have Hh:Out W.dir D.files (laid D.files W.dir (AJ W.dir kc W.opn) (AU keep)):=Out.laid (.inl rfl) (by omega) (by omega);have fZ:laid D.files W.dir (AJ W.dir kc W.opn) (AU keep) (BO W.dir)=none:=by simp[laid,B4 (dir:=W.dir) (kind:=kc) (a:=W.opn) (.inl rfl)]
  have bad:D.armed=true->∀Z'2 gs,Kq gs W.dir (D.cnt+1) keep->Ac Z'2 d ⟨gs,false,false,D.cnt+1⟩ O2->(∀s,(gs s).isSome=true->(D.files s).isSome=true\/s=AJ W.dir kc W.opn\/s=BO W.dir)->R (.panicked (gi 60)) Z'2:=λha Z'2 gs ho AGW hsu=>hR.bad ha Z'2 _ keep AGW rfl rfl ⟨rfl,hsu⟩ ho (.inl rfl)
  let Q:List Nat->Fs->Prop:=λl fs=>∀s,(fs s).isSome=true->s=AJ W.dir kc W.opn\/((D.files s).isSome=true/\(0<W.check->s≠AJ W.dir kc W.check)/\∀n∈W.AS,n∈l\/s≠AJ W.dir ks n)
  have hQ:∀n l fs,Q (n::l) fs->Q l (A8 fs (AJ W.dir ks n) none):=λn l fs h s A=>by
   by_cases e:s=AJ W.dir ks n
   .subst e;rw[Cb]at A;cases A
   .rw[Ap e]at A;refine(h s A).imp id λ⟨g1,g2,g3⟩=>⟨g1,g2,λk hk=>?_⟩;rcases g3 k hk with g|g
    .rcases Ae5.1 g with rfl|g
     .exact .inr e
     .exact .inl g
    .exact .inr g
  have hQ0:∀fs,(∀s,(fs s).isSome=true->s=AJ W.dir kc W.opn\/((D.files s).isSome=true/\(0<W.check->s≠AJ W.dir kc W.check)))->Q W.AS fs:=λfs h s A=>(h s A).imp id λ⟨g1,g2⟩=>⟨g1,g2,λn hn=>.inl hn⟩;have wJ:∀s,(laid D.files W.dir (AJ W.dir kc W.opn) (AU keep) s).isSome=true->s=AJ W.dir kc W.opn\/(D.files s).isSome=true:=λs A=>by
   by_cases e1:s=AJ W.dir kc W.opn
   .exact .inl e1
   .by_cases e2:s=BO W.dir
    .subst e2;rw[fZ]at A;cases A
    .rw[hlo s e1 e2]at A;exact .inr A
  have fin:∀(Z'2:Hp) (fs:Fs),Ad Z'2 d b ⟨fs,true,D.armed,D.cnt+1⟩ W O2->Shape fs W.dir (D.cnt+1) W.opn keep [] []->(∀f,fs (AJ W.dir kc W.opn)=some f->f.HU=f.data.length)->(∀k∈W.AS,(fs (AJ W.dir ks k)).isSome=true/\k<=D.cnt+1)->Out W.dir D.files fs->fs (BO W.dir)=none->Q W.AS fs->C6.HT R b0 Z'2:=by
   intro Z'2 fs hl WT hsy gW ho hn yW;have YI:=hl.rd;refine C6.CJ ⟨_,AD (hl.ext _ _ t0) rfl,_,AD (hl.ext _ _ t0) rfl,b,0,rfl,W.opn,YI.opn,b,0,rfl,?_⟩;refine hl.st (i:=0+2) (W':={ W with check:=W.opn }) (by omega) rfl (λp n c=>rfl) λZ5 h5=>?_;refine AM7 (ck:=W.opn) (Q:=Q) hQ (D:=D) (fs:=fs) (W:=W) (keep:=keep) (armed:=D.armed) hd (by omega) ht t0 ho (λZ6 fs6 W6 a1 a2 a3 a4 a5 a6=>hR.ok Z6 _ W6 a1 rfl rfl rfl a2 ⟨a3.1,a3.2.1,λs A=>(a3.2.2 s A).imp id λ⟨g1,g2,g3⟩=>⟨g1,g2,λn hn=>(g3 n hn).elim (λh=>by cases h) id⟩⟩ a4 a5 a6) (λha Z'2 gs ho AGW ⟨l,fs2,hq2,bR⟩=>bad ha Z'2 gs ho AGW λs A=>(hq2 s (bR s A)).elim (λe=>.inr (.inl e)) λg=>.inl g.1) _ Z5 fs { W with check:=W.opn } rfl rfl rfl h5 WT (by simp only;omega) hsy gW ?_ ho hn rfl yW;have:W.AS.Pairwise (· < ·):=by rw[A4.AS,AgD];exact A4.sh.Lf
   exact this.imp λh=>Nat.ne_of_lt h
  have I8:∀k∈W.AS,(laid D.files W.dir (AJ W.dir kc W.opn) (AU keep) (AJ W.dir ks k)).isSome=true/\k<=D.cnt+1:=λk JO=>by
   rw[A4.AS]at JO;obtain⟨x,hx,rfl⟩:=AfC.1 JO;obtain⟨i,hi⟩:=Aht hx;have:=(A4.sh.gt x hx).2;exact⟨by rw[hlo _ BR.symm (B4 (.inr rfl)).symm];exact(A4.sh.file i x hi).aj,by omega⟩
  refine⟨rfl,_,AD (G.ext _ _ t0) rfl,b,0,rfl,W.check,G.rd.check,λGb=>?_,λhz=>?_⟩
  .have hcf:AJ W.dir kc W.check≠AJ W.dir kc W.opn:=λe=>by
    have:=Fo (by omega) (by omega) e;omega
   obtain⟨f,hf⟩:=AgH.1 (A4.sh.mg (by omega)).aj;refine⟨_,AD (G.ext _ _ t0) rfl,b,0,rfl,_,G.rd.ptr,_,AD (G.ext _ _ t0) rfl,_,AD (G.ext _ _ t0) rfl,b,0,rfl,W.check,G.rd.check,?_⟩;refine Dq (kind:=kc) G.rd.dir NV (.inl rfl) (by omega) (ht.mono G.ext) λZ3 Ev=>⟨_,rfl,Kp.CV Ev,?_⟩;refine Q7 (G.mono Ev) rfl (GU hd (.inl rfl) (by omega)) (f:=f) (by show laid D.files W.dir _ _ _=_;rw[hlo _ hcf (B4 (.inl rfl)).symm];exact hf) ⟨λZ4 h4=>⟨_,rfl,KD ?_⟩,λha Z4 gs hg AUV=>⟨_,rfl,Pw (bad ha Z4 gs (Ig.wH AGV hg) AUV λs A=>(wJ s (hg.aj A)).elim (λe=>.inr (.inl e)) .inl)⟩⟩;refine fin Z4 _ h4 (Ig.wG hcf) (λf hf=>AGV f ((Ap hcf.symm).symm.trans hf)) (λk JO=>?_) (Hh.trans (Out.del Ca)) ((Ap (B4 (.inl rfl))).trans fZ) (hQ0 _ λs A=>?_)
   .rw[Ap BR.symm];exact I8 k JO
   .by_cases e:s=AJ W.dir kc W.check
    .subst e;rw[Cb]at A;cases A
    .rw[Ap e]at A;exact(wJ s A).imp id λg=>⟨g,λ_=>e⟩
  .exact fin Z222 _ G Ig AGV I8 Hh fZ (hQ0 _ λs A=>(wJ s A).imp id λg=>⟨g,λh0=>by omega⟩)
 .have RP:=A4.fresh (cnt':=D.cnt+1) (by omega) hgs;obtain⟨told,g1,g2,g3⟩:=RP.fQ hg;exact hR.bad ha Z222 _ told (cl AUT).vq rfl rfl ⟨rfl,λs A=>by
   by_cases e:s=BO W.dir
   .exact .inr (.inr e)
   .have:=hg.aj A;rw[hgs s e]at this;exact .inl this⟩ g1 (.inr ⟨g2,g3⟩)
theorem qO {p:Option Addr}{n c:Nat}(h:Ad Z22 d b D W O2)(ht:Tb O2)(hx:Kn O2 p n keep)(h8:∀r∈keep,Ft r)(CA:D.up=true)(NK:D.cnt<67108864)(hd:Co W.dir=true)(A4:BF D.files D.cnt W rc sg safe)(Fv:D.files (BO W.dir)=none)
  (vz:¬VN keep->∀Z'2,Ad Z'2 d b D W O2->R (.returned (.I 70)) Z'2)
  (hR:VN keep->(AU keep).length<=4194304/\AM6 d b D W O2 rc sg safe keep (λZ'2=>R (.returned (.I 0)) Z'2) (λZ'2=>R (.returned (.I 60)) Z'2)) (IS:aL D:=by refine .inl ?_;first|omega|(dsimp only[dk];omega)|(dsimp only;omega)):Spec prog 61 #[.pointer (some ⟨b,0,none⟩),.slice p n c] Z22 R:=by
 have kV:keep.length=n:=hx.1;refine HB.start λb2 KL b3 To=>?_;obtain⟨O22,h2,x2,t2⟩:=h.box (o:=.cells #[.pointer (some ⟨b,0,none⟩)] 71 (0,0)) KL;obtain⟨O3,h3,x3,t3⟩:=h2.box (o:=.cells #[.slice p n c] 72 (0,0)) To;have G:=x2.trans x3;refine⟨p,n,c,AD (h3.ext _ _ t3) rfl,?_⟩;have Ev:=hx.mono G
 suffices H:∀m k:Nat,n-k=m->k<=n->VN (keep.take k)->HB.HA R b2 b3 p n c n k _ from H n 0 rfl (AfI _) (λr A=>by simp at A)
 intro m
 induction m with
 | zero=>
  intro k hm hk hs;rw[Ae7 (by omega)]at hs;refine HB.Bi ⟨λhh=>by omega,λ_=>MK AUQ ?_⟩;obtain⟨hl,hRc⟩:=hR hs;exact qN h3 (ht.mono G) (x3 _ _ t2) t3 Ev (λr A=>⟨hs r A,h8 r A⟩) hl CA NK IS hd A4 Fv ⟨λZ'2 D' W' a1 a2 a3 a4 a5 a6 a7 a8 a9=>.inl ⟨rfl,_,rfl,hRc.ok Z'2 D' W' (a1.JL G) a2 a3 a4 a5 a6 a7 a8 a9⟩,λha Z'2 D' told a1 a2 a3 a4 a5 a6=>.inr ⟨60,rfl,_,rfl,hRc.bad ha Z'2 D' told (a1.JL G) a2 a3 a4 a5 a6⟩⟩
 | succ m ih=>
  intro k hm hk hs;obtain⟨x,Ri⟩:∃x,keep[k]?=some x:=⟨_,Ae3 (by omega)⟩;obtain⟨FN,F7,Ge,n12,c12,rfl,hl,_,JW⟩:=(Ev.mono h3.ext).at Ri;have AcQ:x.length=n12:=JW.1;have hnb:=hx.big;refine HB.Bi ⟨λ_=>⟨FN,F7,rfl,by omega,Ge,n12,c12,by simpa using hl,λhh=>vz (λPL=>?_) _ (h3.JL G),λhh=>⟨by unfold AK;omega,ih (k+1) (by omega) (by omega) ?_⟩⟩,λhh=>by omega⟩
  .have:=PL x (Ae2 Ri);omega
  .rw[AL Ri];intro r A;rcases Ae9.1 A with A|A
   .exact hs r A
   .simp at A;subst A;omega
end
section
variable {Z22 ρ O2:Hp}{d b:Nat}{D:Dk}{W:Wl}{R:Rr}
end
section
variable {Z22:Hp}{R:Rr}
theorem wK {x:Int}(h:∀y:Int,0<=y->y<=9223372036854775807->R (.returned (.I y)) Z22):Spec prog 7 #[.I x] Z22 R:=by
 refine dB.start λx4 G=>h x4 ?_ ?_
 .rw[G];have h2:(BitVec.ofInt 64 9223372036854775807).toNat=9223372036854775807:=rfl;have e:Go.bits .and .i64 x 9223372036854775807=IntKind.i64.wrap (((BitVec.ofInt 64 x) &&& (BitVec.ofInt 64 9223372036854775807)).toNat:Int):=rfl;rw[e,BitVec.toNat_and,h2];have A:(BitVec.ofInt 64 x).toNat &&& 9223372036854775807<=9223372036854775807:=Nat.and_le_right;generalize (BitVec.ofInt 64 x).toNat &&& 9223372036854775807=y at A;simp[IntKind.wrap,IntKind.bits,IntKind.signed];omega
 .rw[G];have:=(bits_within .and .i64 x 9223372036854775807).2;have e2:IntKind.max .i64=9223372036854775807:=rfl;rw[e2]at this;exact this
end
section
variable {Z22 O2:Hp}{d:Nat}{D:Dk}{R:Rr}
theorem Ac.upS (h:Ac Z22 d D O2)(A:R (.returned (.bool D.up)) Z22):Spec prog 16 #[.pointer (some ⟨d,0,none⟩)] Z22 R:=let ⟨S,g,_⟩:=h;mG g A
end
section
variable {fs:Fs}{dir:ByteArray}{cnt:Nat}
theorem Kq.AM9 (h:∀s,(fs s).isSome=true->numOf dir kc s=0/\numOf dir ks s=0):X3 fs dir cnt [] true:=
 ⟨0,[],[],[],⟨λG=>absurd G (by omega),λ_=>rfl,λs hs=>by rw[(h s hs).1];omega,AfI _,λx A=>(by cases A),List.Pairwise.nil,λs hs Aq=>(by rw[(h s hs).2]at Aq;omega),λk x A=>(by simp at A),λ_=>rfl,FJ,Good.nil,λx A=>(by cases A),λa ha=>(by cases ha)⟩,rfl,⟨λf G=>absurd G (by omega),λk x A=>(by simp at A)⟩,λ_=>rfl⟩
end
end TwW
end
section
namespace TwW
open Go Tw Go.MapKept Go.RowKit Go.Proofs.Tryz
theorem AH.Gv {P:Program}{α:Type}{m:Sem α}{N M Z22:Hp}{Φ:α->Hp->Prop}(hN:Ext N Z22)(hM:Ext M Z22)(hd:WU N M)
  (h:AH P m N (λv N'=>WU N' M->Φ v (N'.or M))):AH P m Z22 Φ:=λw F hs hF=>by
 have hMs:∀k,M k≠none->∃o,M k=some o/\w.heap[k]?=some o:=λk A=>by
  cases hh:M k with
  | none=>exact absurd hh A
  | some o=>exact⟨o,rfl,hs _ _ (hM _ _ hh)⟩
 obtain⟨v,w',N',Cd,hr,G⟩:=h w (λk=>F k\/M k≠none) (λk o A=>hs _ _ (hN _ _ A)) λk A=>by
  rcases A with A|A
  .exact⟨(hF k A).1,AT hN (hF k A).2⟩
  .obtain⟨o,_,ho⟩:=hMs k A;exact⟨(AfA.1 ho).1,hd k A⟩
 have dj:WU N' M:=λk A=>(G.Cc k (.inr A)).1;refine⟨v,w',N'.or M,Cd,hr dj,λk o A=>?_,λk A=>⟨?_,(G.Cc k (.inl A)).2⟩,G.os,G.out,G.grow⟩
 .unfold Hp.or at A;split at A
  .rename_i u hu;cases A;exact G.sat _ _ hu
  .have AR:M k≠none:=by rw[A];simp
   obtain⟨o',h1,h2⟩:=hMs k AR;rw[A]at h1;cases h1;rw[(G.Cc k (.inr AR)).2];exact h2
 .rw[Hp.NH (G.Cc k (.inl A)).1];exact AT hM (hF k A).2
section
variable {P:Program}{α:Type}{Z22 Z'2 ρ:Hp}{T:JX}{hb m3 m4 q d b:Nat}{lim:Int}{Z:List (Sr×Nat)}{D:Dk}{W:Wl}
theorem M5 {x:Nat}{o:Obj}:Z22.on T x=some o↔T x≠none/\Z22 x=some o:=by
 unfold Hp.on;cases T x<;>simp
theorem DZ.split (h:DZ Z22 T hb m3 m4 lim Z q):Ext (Z22.on T) Z22/\WU (Z22.rest T) (Z22.on T)/\∀N',WU N' (Z22.on T)->DZ (N'.or (Z22.on T)) T hb m3 m4 lim Z q/\(N'.or (Z22.on T)).rest T=N'/\∀x,T x≠none->(N'.or (Z22.on T)) x=Z22 x:=by
 refine⟨λx o A=>(M5.1 A).2,λx A=>?_,λN' hd=>?_⟩
 .cases hr:Z22.rest T x with
  | none=>rfl
  | some o=>
   cases ho:Z22.on T x with
   | none=>exact absurd ho A
   | some u=>exact absurd (AZ.1 hr).1 (M5.1 ho).1
 .have same:∀x,T x≠none->N' x=none/\(N'.or (Z22.on T)) x=Z22 x:=λx A=>by
   cases hs:Z22 x with
   | none=>exact absurd hs (h.kn x A)
   | some o=>
    have ho:Z22.on T x=some o:=M5.2 ⟨A,hs⟩;have G:=hd x (by rw[ho];simp);exact⟨G,by rw[Hp.NH G,ho]⟩
  refine⟨h.step (λx t ht _=>(same x (by rw[ht];simp)).2) (λ_ _ h=>h) (λ_ h=>h) (λx A=>by rw[(same x A).2];exact h.kn x A),?_,λx A=>(same x A).2⟩
  funext x
  cases hT:T x with
  | some t=>
   rw[(same x (by rw[hT];simp)).1];unfold Hp.rest;rw[hT]
  | none=>
   have e:(N'.or (Z22.on T)).rest T x=(N'.or (Z22.on T)) x:=by unfold Hp.rest;rw[hT]
   rw[e];cases G:N' x with
   | some o=>rw[Hp.Uy G]
   | none=>
    rw[Hp.NH G];unfold Hp.on;rw[hT]
theorem DZ.AUW (h:DZ Z22 T hb m3 m4 lim Z q){m:Sem α}{Φ:α->Hp->Prop}(hm:AH P m (Z22.rest T) λv N'=>∀Z'2,DZ Z'2 T hb m3 m4 lim Z q->Z'2.rest T=N'->(∀x,T x≠none->Z'2 x=Z22 x)->Φ v Z'2):AH P m Z22 Φ:=by
 obtain⟨A,G,h3⟩:=h.split;exact AH.Gv Ext.DF A G (hm.mono λv N' hv hd=>let ⟨a,b,c⟩:=h3 N' hd;hv _ a b c)
theorem DZ.ANA (h:DZ Z22 T hb m3 m4 lim Z q){f:FuncId}{args:Array Value}{R:Rr}(hm:Spec P f args (Z22.rest T) λe N'=>∀Z'2,DZ Z'2 T hb m3 m4 lim Z q->Z'2.rest T=N'->(∀x,T x≠none->Z'2 x=Z22 x)->R e Z'2):Spec P f args Z22 R:=by
 obtain⟨A,G,h3⟩:=h.split;exact Spec.Gv Ext.DF A G (hm.mono λv N' hv hd=>let ⟨a,b,c⟩:=h3 N' hd;hv _ a b c)
theorem Ad.split (h:Ad Z22 d b D W ρ):Ext (Z22.minus ρ) Z22/\WU ρ (Z22.minus ρ)/\∀ρ',WU ρ' (Z22.minus ρ)->Ad (ρ'.or (Z22.minus ρ)) d b D W ρ':=by
 refine⟨.Qg _ _,.minus _ _,λρ' hd=>?_⟩;obtain⟨Sd,S,p,c,T,g1,g2,g3⟩:=h;have key:∀x,ρ x=none->Z22 x≠none->ρ' x=none/\(ρ'.or (Z22.minus ρ)) x=Z22 x:=λx A G=>by
  have e:(Z22.minus ρ) x=Z22 x:=by unfold Hp.minus;rw[A]
  have hn:=hd x (by rw[e];exact G);exact⟨hn,by rw[Hp.NH hn,e]⟩
 have inS:∀x∈Sd,ρ x=none:=λx A=>by
  cases hr:ρ x with
  | none=>rfl
  | some o=>exact absurd A (Hp.AI.1 (Hp.AI.1 (g3 _ _ hr)).2).1
 have inW:∀x∈S,ρ x=none:=λx A=>by
  cases hr:ρ x with
  | none=>rfl
  | some o=>exact absurd A (Hp.AI.1 (g3 _ _ hr)).1
 have w1:∀x∈S,x ∉ Sd/\Z22 x≠none:=λx A=>by
  have:=g2.known x A;cases G:Z22.off Sd x with
  | none=>exact absurd G this
  | some o=>obtain⟨a,b⟩:=Hp.AI.1 G;exact⟨a,by rw[b];simp⟩
 refine⟨Sd,S,p,c,T,g1.loc λx A=>(key x (inS x A) (g1.known x A)).2,g2.loc λx A=>?_,λx o A=>?_⟩
 .rw[Hp.GJ (w1 x A).1,Hp.GJ (w1 x A).1];exact(key x (inW x A) (w1 x A).2).2
 .refine Hp.AI.2 ⟨λG=>?_,Hp.AI.2 ⟨λG=>?_,Hp.Uy A⟩⟩
  .rw[(key x (inW x G) (w1 x G).2).1]at A;cases A
  .rw[(key x (inS x G) (g1.known x G)).1]at A;cases A
theorem Ad.PJ (h:Ad Z22 d b D W ρ){m:Sem α}{Φ:α->Hp->Prop}(hm:AH P m ρ λv ρ'=>∀Z'2,Ad Z'2 d b D W ρ'->Φ v Z'2):AH P m Z22 Φ:=by
 obtain⟨A,G,h3⟩:=h.split;exact AH.Gv h.ext A G (hm.mono λv N' hv hd=>hv _ (h3 N' hd))
theorem Ad.spec (h:Ad Z22 d b D W ρ){f:FuncId}{args:Array Value}{R:Rr}(hm:Spec P f args ρ λe ρ'=>∀Z'2,Ad Z'2 d b D W ρ'->R e Z'2):Spec P f args Z22 R:=by
 obtain⟨A,G,h3⟩:=h.split;exact Spec.Gv h.ext A G (hm.mono λv N' hv hd=>hv _ (h3 N' hd))
end
end TwW
end
section
namespace TwW
open Go Tw Go.MapKept Go.RowKit Go.Proofs.Tryz
def KF (t:Int)(ps:List Pt):List Pt:=ps.dropWhile λx=>decide (x.1<t)
def Wh (t:Int)(Z:List (Sr×Nat)):List (Sr×Nat):=Z.filterMap λz=>if KF t z.1.ps=[] then none else some (⟨z.1.ls,KF t z.1.ps⟩,z.2)
theorem Own.drop {s:Nat}{Z22:Hp}{p:Option Addr}{n c k:Nat}{cs:List Value}(h:Own s Z22 p n c cs)(hk:k<=n):Own s Z22 (ET p k c s) (n-k) (c-k) (cs.drop (k*s))/\∀a,ET p k c s=some a->∃a0,p=some a0/\a.block=a0.block:=by
 obtain⟨h1,h2,h3⟩:=h;have G:(cs.drop (k*s)).length=(n-k)*s:=by rw[AfV,h1,Aib]
 rcases h3 with ⟨rfl,rfl,rfl⟩|⟨b,o,arr,T,rfl,hb,Wp,Dz,KI⟩
 .have e:ET none k 0 s=none:=by unfold ET;split<;>rfl
  exact⟨⟨G,by omega,.inl ⟨e,by omega,by omega⟩⟩,λa A=>by rw[e]at A;cases A⟩
 .have hm:c*s=k*s+(c-k)*s:=by rw[<-Afn];congr 1;omega
  by_cases e:c=k
  .have e2:ET (some ⟨b,o,none⟩) k c s=some ⟨b,o,none⟩:=Aex e;rw[e2];refine⟨⟨G,by omega,.inr ⟨b,o,arr,T,rfl,hb,by omega,by rw[show c-k=0 by omega];omega,?_⟩⟩,λa A=>⟨_,rfl,by cases A;rfl⟩⟩;rw[show n-k=0 by omega,AgZ,Af6,Aft (by rw[h1];exact AfK s (by omega))]
  .have e2:ET (some ⟨b,o,none⟩) k c s=some ⟨b,o+k*s,none⟩:=by unfold ET;rw[Aeu e];simp[Addr.add]
   rw[e2];refine⟨⟨G,by omega,.inr ⟨b,o+k*s,arr,T,rfl,hb,by omega,by omega,?_⟩⟩,λa A=>⟨_,rfl,by cases A;rfl⟩⟩;rw[<-KI,Ahx,Afx,Aib]
section
variable {Z22 Z'2:Hp}{T T':JX}{hb m3 m4 q:Nat}{lim:Int}{Z:List (Sr×Nat)}{R:Rr}
theorem kpS {k b:Nat}{o:Obj}(hn:Z22 b=none)(hk:Z22 k≠none)(hx:Ext Z22 Z'2):Kp [k] (Z22.set b o) Z'2:=λj A u G=>by
 rw[Aev]at A;subst A;rw[Hp.AB (λe=>hk (by rw[e];exact hn))]at G;exact hx _ _ G
theorem ABD {p r:Option Addr}{n c m d k:Nat}{ls:List Lb}{ps:List Pt}{G:Option Addr->Nat->Nat->Option Addr->Nat->Nat->Hp->Prop}(hl:I1 Z22 p n ls)(hp:BB 2 Bp Z22 r m ps)(hn:n<=1000000000)(hm:m<=1000000000000)(hk:Z22 k≠none)
  (h:∀p' c' q' d' Z'2,I1 (Z22.new Z'2) p' n ls->BB 2 Bp (Z22.new Z'2) q' m ps->m<=d'->Ext Z22 Z'2->G p' n c' q' m d' Z'2) :
  (Al Z22 λA=>(AH prog (Builtin.append_ #[51,51] 51 #[(.slice (aD A 0) 0 0),.slice p n c]) (Hp.set Z22 A (.cells #[] 95 (0,0))) (CS λJg Iq JS y=>Kp [k] (Hp.set Z22 A (.cells #[] 95 (0,0))) y/\Al y λP4=>AH prog (Builtin.append_ #[61,61] 61 #[(.slice (aD P4 0) 0 0),.slice r m d]) (Hp.set y P4 (.cells #[] 66 (0,0))) (CS λY0 Y3 Y4 AG=>G Jg Iq JS Y0 Y3 Y4 AG)))/\(Al (Hp.set Z22 A (.cells #[] 95 (0,0))) λP4=>AH prog (Builtin.append_ #[51,51] 51 #[(.slice (aD A 0) 0 0),.slice p n c]) (Hp.set (Hp.set Z22 A (.cells #[] 95 (0,0))) P4 (.cells #[] 66 (0,0))) (CS λJg Iq JS y=>Kp [k] (Hp.set (Hp.set Z22 A (.cells #[] 95 (0,0))) P4 (.cells #[] 66 (0,0))) y/\AH prog (Builtin.append_ #[61,61] 61 #[(.slice (aD P4 0) 0 0),.slice r m d]) y (CS λY0 Y3 Y4 AG=>G Jg Iq JS Y0 Y3 Y4 AG))))/\
  (Al Z22 λP4=>Al (Hp.set Z22 P4 (.cells #[] 66 (0,0))) λA=>AH prog (Builtin.append_ #[51,51] 51 #[(.slice (aD A 0) 0 0),.slice p n c]) (Hp.set (Hp.set Z22 P4 (.cells #[] 66 (0,0))) A (.cells #[] 95 (0,0))) (CS λJg Iq JS y=>Kp [k] (Hp.set (Hp.set Z22 P4 (.cells #[] 66 (0,0))) A (.cells #[] 95 (0,0))) y/\AH prog (Builtin.append_ #[61,61] 61 #[(.slice (aD P4 0) 0 0),.slice r m d]) y (CS λY0 Y3 Y4 AG=>G Jg Iq JS Y0 Y3 Y4 AG))):=by
 obtain⟨eA,cs,WJ,bV⟩:=hp;have back:∀b7,Z22 b7=none->∀b3,(Z22.set b7 (.cells #[] 66 (0,0))) b3=none->AH prog (Builtin.append_ #[51,51] 51 #[(.slice (aD b3 0) 0 0),.slice p n c]) ((Z22.set b7 (.cells #[] 66 (0,0))).set b3 (.cells #[] 95 (0,0))) (CS λJg Iq JS y=>Kp [k] ((Z22.set b7 (.cells #[] 66 (0,0))).set b3 (.cells #[] 95 (0,0))) y/\AH prog (Builtin.append_ #[61,61] 61 #[(.slice (aD b7 0) 0 0),.slice r m d]) y (CS λY0 Y3 Y4 AG=>G Jg Iq JS Y0 Y3 Y4 AG)):=λb7 h7 b3 h3=>by
  have x7:=Ext.set (o:=.cells #[] 66 (0,0)) h7;refine Gw (hl.mono Eh.mono x7) hn (λp' c' Z222 By BD=>⟨_,_,_,rfl,kpS h3 (λe=>hk (AT x7 e)) BD,?_⟩) h3;have jw:=x7.trans BD;refine CF (Own.mono BD Own.empty) (WJ.mono jw) (Ch.bn Bp.one bV (by decide)) (by omega) λq' d' Z3 DG Ev=>?_;have hq:∀a:Addr,(some (⟨b7,0,none⟩:Addr))=some a->Z22 a.block=none:=λa ha=>by cases ha;exact h7
  rw[AfW]at DG ⊢;rw[AgG]at DG;refine⟨_,_,_,rfl,h p' c' q' d' Z3 ?_ ⟨eA,cs,Own.rd (Own.HL DG (EC hq Ev jw)),bV.1,λi x hx=>bV.2 i x hx⟩ (Own.cap DG) (Ek hq Ev jw)⟩;refine(By.rd Eh.mono).mono Eh.mono λj u hj=>?_;obtain⟨k1,k2⟩:=AW.1 hj;obtain⟨k3,k4⟩:=Hp.HD k1;have:=Ev j u (AF.2 ⟨λa ha=>by cases ha;exact k3,k2⟩);exact AW.2 ⟨k4,(AF.1 this).2⟩
 refine⟨λb3 h3=>⟨?_,λb7 h7=>?_⟩,λb7 h7 b3 h3=>back b7 h7 b3 h3⟩
 .refine Gw hl hn (λp' c' Z222 By BD=>⟨_,_,_,rfl,kpS h3 hk BD,λb7 h7=>?_⟩) h3;refine Xg (WJ.mono BD) (Ch.bn Bp.one bV (by decide)) (by omega) (λq' d' Z3 DG Ev=>⟨_,_,_,rfl,?_⟩) h7;exact h p' c' q' d' Z3 ((By.rd Eh.mono).mono Eh.mono (Ext.E7 Ev)) ⟨eA,cs,(Own.rd DG).mono (Ext.Hq BD),bV.1,λi x hx=>bV.2 i x hx⟩ (Own.cap DG) (BD.trans Ev)
 .obtain⟨e1,e2⟩:=Hp.HD h7;rw[Hp.GI (AfT e1)];exact back b7 e2 b3 (by rw[Hp.AB (AfT e1)];exact h3)
end
end TwW
end
section
namespace TwW
open Go Tw Go.MapKept Go.RowKit Go.Proofs.Tryz
section
variable {Z22 Z'2 ρ N0:Hp}{T T':JX}{hb m3 m4 q b:Nat}{lim:Int}{Z:List (Sr×Nat)}{R:Rr}
theorem fe {o:Obj}(h:T b=none):(Z22.set b o).rest T=(Z22.rest T).set b o:=by
 funext x
 by_cases e:x=b
 .subst e;rw[Hp.AA];unfold Hp.rest;rw[h];exact Hp.AA _ _ _
 .rw[Hp.AB e];unfold Hp.rest;split
  .exact Hp.AB e
  .rfl
theorem wN {A B:List (Sr×Nat)}{z:Sr×Nat}{ps:List Pt}(h:((A++z::B).map (·.1.ls)).Nodup):Q4 (A++z::B) z.1.ls ps=A++(⟨z.1.ls,ps⟩,z.2)::B:=by
 rw[AfF,AfN,AgC,Afe]at h;obtain⟨_,⟨h2,_⟩,h3⟩:=h;unfold Q4;rw[AfF,AfN,Aex rfl]
 congr 1
 .exact(Af8 λy G=>Aeu (h3 _ (AfC.2 ⟨y,G,rfl⟩) _ (AfB ..))).trans (Ah0 _)
 .congr 1
  exact(Af8 λy G=>Aeu (λ(e:y.1.ls=z.1.ls)=>h2 (e▸AfC.2 ⟨y,G,rfl⟩))).trans (Ah0 _)
theorem ABE {p5 Fe:Option Addr}{n5 c5 n13 FO w:Nat}{t DY DA:Int}{O:List Sr}(h:DZ ρ T hb m3 m4 lim Z q){z:Sr×Nat}(hz:z∈Z)(hw:w<=z.1.ps.length)(hq:q<=1000000000000)(h5:n5<=1000000000)(ho:Aa 2 CW N0 (ρ.rest T) p5 n5 c5 O)
  (K:∀ρ' p' c' Z',DZ ρ' T hb m3 m4 lim Z' q->(∀x t,T x=some t->t.fx=true->ρ' x=ρ x)->(∃A B,Z=A++z::B/\Z'=A++(if z.1.ps.drop w=[] then[] else[(⟨z.1.ls,z.1.ps.drop w⟩,z.2)])++B)->Aa 2 CW N0 (ρ'.rest T) p' (n5+1) c' (O++[⟨z.1.ls,z.1.ps.take w⟩])->Ao.E2 R (aD hb 0) t p' (n5+1) c' Fe n13 FO DY DA ρ') :
  Ao.Ul R (aD hb 0) t p5 n5 c5 (Bf z.1.ls) (aD z.2 0) (w:Int) Fe n13 FO DY DA ρ:=by
 obtain⟨te,p1,n1,c1,r,m,d,g,hl,DG,ht⟩:=h.CP z hz;have hm:z.1.ps.length=m:=DG.1;have A4:=h.ok z hz;have Xf:m<=d:=by obtain⟨cs,WD,_⟩:=DG.2;exact Own.cap WD
 have kpx:Ext (ρ.kp T) ρ:=λx o hx=>(Az.1 hx).2;refine Ao.Tk ⟨z.2,0,rfl,p1,n1,c1,AD g rfl,r,m,d,AD g rfl,⟨by omega,by omega⟩,?_⟩;rw[AfR];refine ABD (k:=z.2) (ps:=z.1.ps.take w) (hl.mono Eh.mono kpx) (BB.take (DG.rd Bp.mono) (by omega)) (by have:=A4.1.1;have:=hl.1;omega) (by omega) (by rw[g];simp) λp' c' q' d' Z12 r1 r2 hd hx=>λyC h65=>?_;have h1:=h.ext hx;have x65:=Ext.set (o:=.cells #[.slice p' n1 c',.slice q' w d'] 63 (0,0)) h65;have h2:=h1.ext x65;have QG:=ho.mono CW.mono (h.mv hx).rest;have Fv:Ext (ρ.new Z12) ((Z12.rest T).del p5):=λx o aY=>by
  obtain⟨a1,a2⟩:=AW.1 aY;refine AF.2 ⟨λa ha e=>?_,AZ.2 ⟨h.off a1,a2⟩⟩;have:=ho.1.block a ha;rw[<-e]at this;cases hr:ρ.rest T x with
  | none=>exact this hr
  | some u=>rw[(AZ.1 hr).2]at a1;cases a1
 have he:CW ((Z12.rest T).del p5) [.slice p' n1 c',.slice q' w d'] ⟨z.1.ls,z.1.ps.take w⟩:=⟨p',n1,c',q',w,d',rfl,r1.mono Eh.mono Fv,r2.mono Bp.mono Fv,hd⟩;refine h2.AUW ?_;rw[fe (h1.off h65)];refine Aa.G8 CW.mono QG rfl (CW.one _ _ _ he) he (by omega) (λp2 c2 N' By _=>λZ222 h3 e3 same=>⟨p2,n5+1,c2,rfl,?_⟩) (by
  cases hr:Z12.rest T yC with
  | none=>rfl
  | some u=>rw[(AZ.1 hr).2]at h65;cases h65)
 have tn:∀x u,T x=some u->Z222 x=ρ x:=λx u G=>by
  have hn:T x≠none:=by rw[G];simp
  rw[same x hn];cases hs:ρ x with
  | none=>exact absurd hs (h.kn x hn)
  | some o=>exact(hx.trans x65) _ _ hs
 have g2:Z222 z.2=some (.cells #[.slice p1 n1 c1,.slice r m d] 185 (0,0)):=(tn _ _ te).trans g;refine Ao.FP ⟨z.2,0,rfl,r,m,d,AD g2 rfl,⟨by omega,by omega⟩,?_⟩;rw[AfR];refine AH.store (P:=prog) aH g2 rfl (by simp) (λu G=>by rw[Aev.1 (show u∈[Value.slice (ET r w d 2) (m-w) (d-w)] from G)];rfl) ?_;rw[show F0 #[Value.slice p1 n1 c1,.slice r m d] (0+1) (Value.slice (ET r w d 2) (m-w) (d-w)).cells.toList=#[.slice p1 n1 c1,.slice (ET r w d 2) (m-w) (d-w)] from rfl];obtain⟨_,_,_,_,_,_,g3,hl3,Tn,ht4⟩:=(h3.CP z hz).2;rw[g2]at g3;cases g3;have g4:=Hp.AA Z222 z.2 (.cells #[.slice p1 n1 c1,.slice (ET r w d 2) (m-w) (d-w)] 185 (0,0));have v4:Mv Z222 T (Z222.set z.2 (.cells #[.slice p1 n1 c1,.slice (ET r w d 2) (m-w) (d-w)] 185 (0,0))) T:=.set te rfl;have hE:vg (Z222.set z.2 (.cells #[.slice p1 n1 c1,.slice (ET r w d 2) (m-w) (d-w)] 185 (0,0))) T ⟨z.1.ls,z.1.ps.drop w⟩ z.2:=by
  obtain⟨_,cs,WD,hc⟩:=Tn;obtain⟨bU,WC⟩:=Own.drop WD (k:=w) (by omega);refine⟨p1,n1,c1,ET r w d 2,m-w,d-w,g4,hl3.mono Eh.mono v4.kp,⟨by rw[AfV,hm],_,Own.here bU λa ha=>?_,hc.drop w⟩,λa ha=>?_⟩
  .obtain⟨a0,e1,e2⟩:=WC a ha;exact Hp.AB (by rw[e2];exact C9 (ht a0 e1) te (by simp))
  .obtain⟨a0,e1,e2⟩:=WC a ha;rw[e2];exact ht a0 e1
 have h4:=h3.pts (ps:=z.1.ps.drop w) hz (λx u G _ AR _=>Hp.AB AR) (λx u G _=>G) (λ_ G=>G) h3.knS hE (by rw[AfV];omega);obtain⟨A,B,rfl⟩:=Ag5 hz;rw[wN h.nd]at h4;have AGX:∀x u,T x=some u->u.fx=true->(Z222.set z.2 (.cells #[.slice p1 n1 c1,.slice (ET r w d 2) (m-w) (d-w)] 185 (0,0))) x=ρ x:=λx u G hf=>(v4.fix x u G hf).trans (tn x u G);have oq:=By.mono CW.mono (e3▸v4.rest);generalize Z222.set z.2 (.cells #[.slice p1 n1 c1,.slice (ET r w d 2) (m-w) (d-w)] 185 (0,0))=Z4 at g4 h4 AGX oq ⊢;have hlen:(z.1.ps.drop w).length=m-w:=by rw[AfV,hm]
 refine⟨ET r w d 2,m-w,d-w,AD g4 rfl,λh0=>⟨hb,0,rfl,?_⟩,λh0=>?_⟩
 .have he0:z.1.ps.drop w=[]:=Ae6 (by omega);refine j1 h4 (z:=(⟨z.1.ls,z.1.ps.drop w⟩,z.2)) (by simp) λZ5 Z1 Z2 e5 h5 v5=>⟨rfl,K Z5 p2 c2 (A++[]++B) ?_ (λx u G hf=>(v5.fix x u G hf).trans (AGX x u G hf)) ⟨A,B,rfl,by rw[Aex he0]⟩ (oq.mono CW.mono v5.rest)⟩;have e6:Z1++Z2=A++B:=by
   have LZ:=h4.nd;have split:∀{A B C D:List (Sr×Nat)} {y:Sr×Nat},((A++y::B).map (·.1.ls)).Nodup->A++y::B=C++y::D->A++B=C++D:=fun {A B C D y} hn e=>by
    have f:∀{X Y:List (Sr×Nat)},((X++y::Y).map (·.1.ls)).Nodup->(X++y::Y).filter (λv=>decide (v.1.ls≠y.1.ls))=X++Y:=fun {X Y} hn=>by
     rw[AfF,AfN,AgC,Afe]at hn;obtain⟨_,⟨h2,_⟩,h3⟩:=hn;rw[AgL,AgI (by simp),AgM.2,AgM.2]
     .exact λv hv=>Afz λ(e:v.1.ls=y.1.ls)=>h2 (e▸AfC.2 ⟨v,hv,rfl⟩)
     .exact λv hv=>Afz (h3 _ (AfC.2 ⟨v,hv,rfl⟩) _ (AfB ..))
    rw[<-f hn,e,f (e▸hn)]
   exact(split LZ e5).symm
  rw[AfG,<-e6];exact h5
 .have he0:z.1.ps.drop w≠[]:=λe=>by rw[e]at hlen;simp at hlen;omega
  refine K Z4 p2 c2 _ ?_ AGX ⟨A,B,rfl,by rw[Aeu he0]⟩ oq;rw[Aew];exact h4
end
end TwW
end
section
namespace TwW
open Go Tw Go.MapKept Go.RowKit Go.Proofs.Tryz
section
variable {Z22 Z'2 ρ:Hp}{T T':JX}{hb m3 m4 q:Nat}{lim:Int}{Z:List (Sr×Nat)}{R:Rr}
def FZ (t:Int)(ps:List Pt):Nat:=(ps.takeWhile λx=>decide (x.1<t)).length
theorem wO (t:Int)(ps:List Pt):FZ t ps<=ps.length:=(List.takeWhile_prefix _).length_le
theorem Vs (t:Int)(ps:List Pt):ps.drop (FZ t ps)=KF t ps:=by
 have h:ps.takeWhile (λx=>decide (x.1<t))++KF t ps=ps:=List.takeWhile_append_dropWhile;have:=Afr (l₁:=ps.takeWhile λx=>decide (x.1<t)) (l₂:=KF t ps);rw[h]at this;exact this
theorem Vt {t:Int}:∀{ps:List Pt} {k:Nat} {x:Pt},ps[k]?=some x->k<=FZ t ps->(x.1<t↔k<FZ t ps)
 | [],k,x,h,_=>by simp at h
 | y::ps,0,x,h,_=>by
  simp only[Af0,AfL]at h;subst h;unfold FZ;by_cases e:y.1<t
  .rw[AiD (by simpa using e)];simp[e]
  .rw[AiE (by simpa using e)];simp[e]
 | y::ps,k+1,x,h,A=>by
  unfold FZ at A ⊢;by_cases e:y.1<t
  .rw[AiD (by simpa using e),Aez]at A ⊢;have:=Vt (t:=t) (ps:=ps) (k:=k) (x:=x) (by simpa using h) (by unfold FZ;omega);unfold FZ at this;omega
  .rw[AiE (by simpa using e)]at A;simp at A
theorem X8 {t:Int}{l:List (Sr×Nat)}{z:Sr×Nat}:Wh t (l++[z])=Wh t l++if KF t z.1.ps=[] then[] else[(⟨z.1.ls,KF t z.1.ps⟩,z.2)]:=by
 unfold Wh;rw[List.filterMap_append]
 congr 1
 by_cases e:KF t z.1.ps=[]<;>simp[e]
theorem qP {t:Int}(h:DZ Z22 T hb m3 m4 lim Z q)(ne:∀z∈Z,z.1.ps≠[])(hZ:Z.length<=1000000000)(hq:q<=1000000000000)
  (K:∀p n c Z'2 Z',Z'.Perm (Wh t Z)->DZ Z'2 T hb m3 m4 lim Z' q->Mv Z22 T Z'2 T->R (.returned (.slice p n c)) Z'2):Spec prog 60 #[.pointer (aD hb 0),.I t] Z22 R:=by
 refine Ao.start ⟨hb,0,rfl,Vj h (by omega) λY Fe n13 FO Z12 hY AGY=>⟨Fe,n13,FO,rfl,?_⟩⟩;have x1:=AGY.up;have hYn:Y.length=n13:=by have:=AGY.1.1;rwa[AfO]at this
 have hYZ:=hY.length_eq;have kr:BB 1 (λ_=>Wg) (Z12.rest T) Fe n13 (Y.map λz=>Bf z.1.ls):=(Aa.Qy (λ_ _ _ _ h=>h) AGY).mono (λ_ _ _ _ _ h=>h) λx o G=>by
  obtain⟨a,b⟩:=AW.1 G;exact AZ.2 ⟨h.off a,b⟩
 have LZ:(Y.map (·.1.ls)).Nodup:=(hY.map _).nodup_iff.2 h.nd
 suffices H:∀(g i:Nat) (ρ:Hp) (p5:Option Addr) (n5 c5:Nat) (O:List Sr) (V:List (Sr×Nat)),n13-i=g->i<=n13->n5<=i->DZ ρ T hb m3 m4 lim V q->V.Perm (Wh t (Y.take i)++Y.drop i)->(∀x u,T x=some u->u.fx=true->ρ x=Z22 x)->Aa 2 CW (Z12.rest T) (ρ.rest T) p5 n5 c5 O->(O.map (·.ls)).Sublist ((Y.take i).map (·.1.ls))->Ao.A3 R (aD hb 0) t p5 n5 c5 Fe n13 FO (n13:Int) (i:Int) ρ from
  H n13 0 Z12 none 0 0 [] Z rfl (AfI _) (Ae1 _) (h.ext x1) hY.symm (h.mv x1).fix (Aa.nil (.refl _)) (AiH _)
 intro g
 induction g with
 | zero=>
  intro i ρ p5 n5 c5 O V hg hi h5 hh hp hf ho hs;rw[Ae7 (by omega)]at hp hs;rw[Aft (by omega),AfG]at hp;have hO:(O.map (·.ls)).Nodup:=LZ.sublist hs;refine Ao.AY ⟨λAq=>by omega,λ_=>hh.ANA (TB ho (by omega) hO λO' N' _ _ Cq=>λZ'2 h' e' same=>⟨p5,n5,c5,rfl,K p5 n5 c5 Z'2 V (hp.trans (hY.filterMap _)) h' ⟨?_,λ_ _ h _=>h,λx u G hu=>?_⟩⟩)⟩
  .rw[e'];exact(h.mv x1).rest.trans Cq.up
  .rw[same x (by rw[G];simp)];exact hf x u G hu
 | succ g ih=>
  intro i ρ p5 n5 c5 O V hg hi h5 hh hp hf ho hs;obtain⟨z,hz⟩:∃z,Y[i]?=some z:=⟨_,Ae3 (by omega)⟩;obtain⟨b,o,rfl,Dt⟩:=Wg.at kr (i:=i) (x:=Bf z.1.ls) (by rw[AfZ,hz];rfl);have hzm:z∈Z:=hY.subset (Ae2 hz);have hdr:Y.drop i=z::Y.drop (i+1):=GN hz;have hzV:z∈V:=hp.symm.subset (by rw[hdr];simp);have ja:=Dt.mono (ho.up.trans Ext.DF);obtain⟨te,p1,n1,c1,r,m,d,g1,hl,DG,ht⟩:=hh.CP z hzV;have hm:z.1.ps.length=m:=DG.1;have hr:=DG.rd Bp.mono;have A4:=(hh.ok z hzV).2;have MY:(Y.take (i+1)).map (·.1.ls)=(Y.take i).map (·.1.ls)++[z.1.ls]:=by rw[AL hz,AfF];rfl
  have next:∀ρ' p' n' c' O' V',n'<=i+1->DZ ρ' T hb m3 m4 lim V' q->V'.Perm (Wh t (Y.take (i+1))++Y.drop (i+1))->(∀x u,T x=some u->u.fx=true->ρ' x=Z22 x)->Aa 2 CW (Z12.rest T) (ρ'.rest T) p' n' c' O'->(O'.map (·.ls)).Sublist ((Y.take (i+1)).map (·.1.ls))->Ao.E2 R (aD hb 0) t p' n' c' (aD b o) n13 FO (n13:Int) (i:Int) ρ':=λρ' p' n' c' O' V' a1 a2 a3 a4 a5 a6=>by
   have:=ih (i+1) ρ' p' n' c' O' V' (by omega) (by omega) a1 a2 a3 a4 a5 a6;rw[show((i+1:Nat):Int)=(i:Int)+1 by omega]at this;exact Ao.Qb ⟨by unfold AK;omega,this⟩
  have hw:=wO t z.1.ps;have tail:Br ((FZ t z.1.ps:Int)=0) (Ao.E2 R (aD hb 0) t p5 n5 c5 (aD b o) n13 FO (n13:Int) (i:Int) ρ) (Ao.Ul R (aD hb 0) t p5 n5 c5 (Bf z.1.ls) (aD z.2 0) (FZ t z.1.ps:Int) (aD b o) n13 FO (n13:Int) (i:Int) ρ):=by
   refine⟨λh0=>?_,λh0=>ABE hh hzV hw hq (by omega) ho λρ' p' c' Z' h' RM ⟨A,B,e1,e2⟩ Cq=>?_⟩
   .have e0:KF t z.1.ps=z.1.ps:=by rw[<-Vs,show FZ t z.1.ps=0 by omega];rfl
    have AR:=ne z hzm;refine next ρ p5 n5 c5 O V (by omega) hh ?_ hf ho (by rw[MY];exact hs.trans (List.sublist_append_left _ _))
    rw[AL hz,X8,e0,Aeu AR,Aew];rw[hdr]at hp;exact hp
   .refine next ρ' p' (n5+1) c' _ Z' (by omega) h' ?_ (λx u G hu=>(RM x u G hu).trans (hf x u G hu)) Cq ?_
    .rw[e1,hdr]at hp;have hp2:(A++B).Perm (Wh t (Y.take i)++Y.drop (i+1)):=List.Perm.cons_inv ((List.perm_middle.symm.trans hp).trans AhR);rw[e2,Vs,AL hz,X8];generalize (if KF t z.1.ps=[] then[] else[((⟨z.1.ls,KF t z.1.ps⟩:Sr),z.2)])=X;refine((Aii (l₁:=A) (l₂:=X)).append_right B).trans ?_;rw[Aew];refine(hp2.append_left X).trans ?_;rw[<-Aew];exact(Aii (l₁:=X) (l₂:=Wh t (Y.take i))).append_right _
    .rw[MY,AfF];exact List.Sublist.append hs (AiH _)
  refine Ao.AY ⟨λ_=>⟨b,o,rfl,by unfold In;omega,_,by simpa using ja.1,hb,0,rfl,some m3,AD (Az.1 hh.box).2 rfl,hh.find hzV ?_⟩,λAq=>by omega⟩
  suffices loop:∀(g k:Nat),FZ t z.1.ps-k=g->k<=FZ t z.1.ps->Ao.JI R (aD hb 0) t p5 n5 c5 (Bf z.1.ls) (aD z.2 0) (k:Int) (aD b o) n13 FO (n13:Int) (i:Int) ρ from loop _ 0 rfl (AfI _)
  intro g
  induction g with
  | zero=>
   intro k hgk hk;obtain rfl:k=FZ t z.1.ps:=by omega
   refine Ao.G2 ⟨z.2,0,rfl,r,m,d,AD g1 rfl,λAq=>?_,λ_=>tail⟩;obtain⟨x,G⟩:=hr.ex (k:=FZ t z.1.ps) (by omega);obtain⟨b2,o2,rfl,Rl⟩:=Bp.at hr G;exact⟨_,m,d,AD g1 rfl,b2,o2,rfl,by unfold In;omega,x.1,by simpa using Rl.1,λvI=>absurd ((Vt G (Ae1 _)).1 vI) (Ah8 _),λ_=>tail⟩
  | succ g ihk=>
   intro k hgk hk;have hkm:k<m:=by omega
   obtain⟨x,G⟩:=hr.ex hkm;obtain⟨b2,o2,rfl,Rl⟩:=Bp.at hr G;refine Ao.G2 ⟨z.2,0,rfl,_,m,d,AD g1 rfl,λ_=>⟨_,m,d,AD g1 rfl,b2,o2,rfl,by unfold In;omega,x.1,by simpa using Rl.1,λ_=>⟨by unfold AK;omega,?_⟩,λIb=>absurd ((Vt G (by omega)).2 (by omega)) Ib⟩,λIb=>by omega⟩;have:=ihk (k+1) (by omega) (by omega);rw[show((k+1:Nat):Int)=(k:Int)+1 by omega]at this;exact this
end
end TwW
end
section
namespace TwW
open Go Tw Go.MapKept Go.RowKit Go.Proofs.Tryz
structure Vu where
 D:Dk
 W:Wl
 lim:Int
 ep:Int
 act:Bool
 H:List Sr
 q:Nat
 ids:List Int
 loc:Option Addr×Nat×Nat
 mh:Nat
 ml:Nat
def ELo (v:Value)(x:Option Addr×Nat×Nat):Prop:=v=.slice x.1 x.2.1 x.2.2
structure wP (ρ:Hp)(T:JX)(d b g:Nat)(hp:Option Nat)(S:Vu):Prop where
 box:ρ g=some (mc (.pointer (aD b 0)) (.pointer (aD d 0)) (.map (some S.mh)) (.map (some S.ml)) S.lim S.ep S.act 78)
 tg:T g=some .g
 th:T S.mh=some .h
 tl:T S.ml=some .l
 KG:MS yK ρ S.mh (match hp with | none=>[] | some hb=>[(tS,hb)])
 Vv:(S.ids=[]/\MS ELo ρ S.ml [])\/(S.ids≠[]/\MS ELo ρ S.ml [(tS,S.loc)])
 own:A2 .u64 ρ S.loc.1 S.loc.2.1 S.loc.2.2 S.ids
 ts:∀a,S.loc.1=some a->T a.block=some .s
 nil:S.ids=[]->S.loc=(none,0,0)
def gX (ρ:Hp)(T:JX)(lim:Int)(hp:Option Nat)(H:List Sr)(q:Nat):Prop:=
 match hp with
 | none=>H=[]/\(∀x,T x≠none->ρ x≠none)/\∀x t,T x=some t->t.hd=false
 | some hb=>∃m3 m4 Z,DZ ρ T hb m3 m4 lim Z q/\(∀z∈Z,z.1.ps≠[])/\Z.map (·.1)=H
def Bd (Z22 N:Hp)(d b g:Nat)(hp:Option Nat)(S:Vu):Prop:=∃ρ T,Ad Z22 d b S.D S.W ρ/\wP ρ T d b g hp S/\gX ρ T (FK S.lim) hp S.H S.q/\ρ.rest T=N
section
variable {Z22 Z'2 ρ ρ' N:Hp}{T T':JX}{d b g q:Nat}{hp:Option Nat}{S:Vu}{lim:Int}{H:List Sr}{R:Rr}
theorem wP.mv (h:wP ρ T d b g hp S)(A:∀x t,T x=some t->t.fx=true->ρ' x=ρ x)(G:∀x t,T x=some t->t.fx=true->T' x=some t):wP ρ' T' d b g hp S:=by
 refine⟨(A _ _ h.tg rfl).trans h.box,G _ _ h.tg rfl,G _ _ h.th rfl,G _ _ h.tl rfl,h.KG.loc (A _ _ h.th rfl),h.Vv.imp (λ⟨a,e⟩=>⟨a,e.loc (A _ _ h.tl rfl)⟩) (λ⟨a,e⟩=>⟨a,e.loc (A _ _ h.tl rfl)⟩),Own.here h.own λu hu=>A _ _ (h.ts u hu) rfl,λu hu=>G _ _ (h.ts u hu) rfl,h.nil⟩
theorem gX.kn (h:gX ρ T lim hp H q):∀x,T x≠none->ρ x≠none:=by
 cases hp with
 | none=>exact h.2.1
 | some hb=>obtain⟨m3,m4,Z,A,_⟩:=h;exact A.kn
theorem gX.off (h:gX ρ T lim hp H q){x:Nat}(G:ρ x=none):T x=none:=by
 cases A:T x with
 | none=>rfl
 | some t=>exact absurd G (h.kn x (by rw[A];simp))
theorem gX.loc (h:gX ρ T lim hp H q)(hs:∀x t,T x=some t->t.hd=true->ρ' x=ρ x)(kn:∀x,T x≠none->ρ' x≠none):gX ρ' T lim hp H q:=by
 cases hp with
 | none=>exact⟨h.1,kn,h.2.2⟩
 | some hb=>obtain⟨m3,m4,Z,A,G,h3⟩:=h;exact⟨m3,m4,Z,A.step hs (λ_ _ h=>h) (λ_ h=>h) kn,G,h3⟩
theorem gX.ANB (h:gX ρ T lim hp H q)(G:∀x t,T x=some t->t.hd=true->ρ' x=ρ x/\T' x=some t)(hi:∀x t,T' x=some t->t.hd=true->T x=some t)(kn:∀x,T' x≠none->ρ' x≠none):gX ρ' T' lim hp H q:=by
 cases hp with
 | none=>
  refine⟨h.1,kn,λx t A=>?_⟩;cases hd:t.hd with
  | false=>rfl
  | true=>exact hd.symm.trans (h.2.2 x t (hi x t A hd))
 | some hb=>obtain⟨m3,m4,Z,h1,h2,h3⟩:=h;exact⟨m3,m4,Z,h1.ADF (λx t a b=>(G x t a b).1) (λx t a b=>(G x t a b).2) (λx A=>hi x _ A rfl) kn,h2,h3⟩
theorem gX.split (h:gX ρ T lim hp H q):Ext (ρ.on T) ρ/\WU (ρ.rest T) (ρ.on T)/\∀N',WU N' (ρ.on T)->(∀x,T x≠none->(N'.or (ρ.on T)) x=ρ x)/\(N'.or (ρ.on T)).rest T=N':=by
 refine⟨λx o A=>(M5.1 A).2,λx A=>?_,λN' hd=>?_⟩
 .cases hr:ρ.rest T x with
  | none=>rfl
  | some o=>
   cases ho:ρ.on T x with
   | none=>exact absurd ho A
   | some u=>exact absurd (AZ.1 hr).1 (M5.1 ho).1
 .have same:∀x,T x≠none->N' x=none/\(N'.or (ρ.on T)) x=ρ x:=λx A=>by
   cases hs:ρ x with
   | none=>exact absurd hs (h.kn x A)
   | some o=>
    have ho:ρ.on T x=some o:=M5.2 ⟨A,hs⟩;have G:=hd x (by rw[ho];simp);exact⟨G,by rw[Hp.NH G,ho]⟩
  refine⟨λx A=>(same x A).2,?_⟩
  funext x
  cases hT:T x with
  | some t=>
   rw[(same x (by rw[hT];simp)).1];unfold Hp.rest;rw[hT]
  | none=>
   have e:(N'.or (ρ.on T)).rest T x=(N'.or (ρ.on T)) x:=by unfold Hp.rest;rw[hT]
   rw[e];cases G:N' x with
   | some o=>rw[Hp.Uy G]
   | none=>
    rw[Hp.NH G];unfold Hp.on;rw[hT]
theorem Bd.ext (h:Bd Z22 N d b g hp S):Ext N Z22:=by
 obtain⟨ρ,T,A,_,_,rfl⟩:=h;exact Ext.DF.trans A.ext
theorem Bd.back (h1:∀ρ',WU ρ' (Z22.minus ρ)->Ad (ρ'.or (Z22.minus ρ)) d b S.D S.W ρ')(h2:wP ρ T d b g hp S)(G:gX ρ T (FK S.lim) hp S.H S.q){N':Hp}(bU:WU N' (ρ.on T))(WC:WU (N'.or (ρ.on T)) (Z22.minus ρ)):Bd ((N'.or (ρ.on T)).or (Z22.minus ρ)) N' d b g hp S:=by
 obtain⟨_,_,s3⟩:=G.split;obtain⟨same,hr⟩:=s3 N' bU;have sm:∀x t,T x=some t->(N'.or (ρ.on T)) x=ρ x:=λx t A=>same x (by rw[A];simp);exact⟨_,T,h1 _ WC,h2.mv (λx t A _=>sm x t A) (λ_ _ h _=>h),G.loc (λx t A _=>sm x t A) (λx hx=>by rw[same x hx];exact G.kn x hx),hr⟩
theorem Bd.PJ {P:Program}{α:Type}(h:Bd Z22 N d b g hp S){m:Sem α}{Φ:α->Hp->Prop}(hm:AH P m N λv N'=>∀Z'2,Bd Z'2 N' d b g hp S->Φ v Z'2):AH P m Z22 Φ:=by
 obtain⟨ρ,T,A,h2,G,rfl⟩:=h;obtain⟨l1,l2,l3⟩:=A.split;obtain⟨s1,s2,_⟩:=G.split;exact AH.Gv A.ext l1 l2 (AH.Gv Ext.DF s1 s2 (hm.mono λv N' hv bU WC=>hv _ (Bd.back l3 h2 G bU WC)))
theorem Bd.spec {P:Program}(h:Bd Z22 N d b g hp S){f:FuncId}{args:Array Value}(hm:Spec P f args N λe N'=>∀Z'2,Bd Z'2 N' d b g hp S->R e Z'2):Spec P f args Z22 R:=by
 obtain⟨ρ,T,A,h2,G,rfl⟩:=h;obtain⟨l1,l2,l3⟩:=A.split;obtain⟨s1,s2,_⟩:=G.split;exact Spec.Gv A.ext l1 l2 (Spec.Gv Ext.DF s1 s2 (hm.mono λv N' hv bU WC=>hv _ (Bd.back l3 h2 G bU WC)))
theorem Bd.gb (h:Bd Z22 N d b g hp S):Z22 g=some (mc (.pointer (aD b 0)) (.pointer (aD d 0)) (.map (some S.mh)) (.map (some S.ml)) S.lim S.ep S.act 78):=by
 obtain⟨ρ,T,A,G,_,_⟩:=h;exact A.ext _ _ G.box
end
end TwW
end
section
namespace TwW
open Go Tw Go.MapKept Go.RowKit Go.Proofs.Tryz
section
variable {Z22 Z'2 ρ ρ' N:Hp}{T T':JX}{d b g q:Nat}{hp:Option Nat}{S:Vu}{lim:Int}{H:List Sr}{R:Rr}
theorem j9 (hi:wP ρ T d b g hp S)(hh:gX ρ T (FK S.lim) hp S.H S.q)(K:∀ρ' T' hb,wP ρ' T' d b g (some hb) S->gX ρ' T' (FK S.lim) (some hb) S.H S.q->Ext (ρ.rest T) (ρ'.rest T')->R (.returned (.pointer (aD hb 0))) ρ'):
  Spec prog 48 #[.pointer (aD g 0),.string tS] ρ R:=by
 have hz:∀w,(zeroValue 105).run prog w=.ok (.pointer none) w:=λw=>by kernel_rfl
 have Vw:=hi.KG;cases hp with
 | some hb=>
  refine Bh.start ⟨g,0,rfl,some S.mh,AD hi.box rfl,MS.look (z:=.pointer none) Vw hz (λA9=>by simp[BQ]at A9) λv e hs hv=>⟨aD hb 0,?_,λhf=>(by cases hf),λ_=>Bh.lJ (K ρ T hb hi hh (.refl _))⟩⟩;simp[BQ]at hs;rw[hs];exact hv
 | none=>
  obtain⟨hH,kn,AUZ⟩:=hh;refine Bh.start ⟨g,0,rfl,some S.mh,AD hi.box rfl,MS.look (z:=.pointer none) Vw hz (λ_=>⟨none,rfl,λ_=>⟨S.lim,AD hi.box rfl,?_⟩,λhf=>(by cases hf)⟩) λv e hs hv=>by cases hs⟩;refine mb λm3 m4 hb h3 n43 h4 n3 n4 h5=>⟨aD hb 0,rfl,?_⟩;have off:∀x t,T x=some t->x≠m3/\x≠m4/\x≠hb:=λx t hx=>by
   have:=kn x (by rw[hx];simp);exact⟨λe=>this (by rw[e];exact h3),λe=>this (by rw[e];exact h4),λe=>this (by rw[e];exact h5)⟩
  have R6:∀x,x≠m3->x≠m4->x≠hb->(((ρ.set m3 (.map #[] 0)).set m4 (.map #[] 0)).set hb (.cells #[.map (some m3),.map (some m4),.I (FK S.lim)] 175 (0,0))) x=ρ x:=λx G A a3=>by rw[Hp.AB a3,Hp.AB A,Hp.AB G]
  have g5:(((ρ.set m3 (.map #[] 0)).set m4 (.map #[] 0)).set hb (.cells #[.map (some m3),.map (some m4),.I (FK S.lim)] 175 (0,0))) hb=some (.cells #[.map (some m3),.map (some m4),.I (FK S.lim)] 175 (0,0)):=Hp.AA _ _ _;have g4:(((ρ.set m3 (.map #[] 0)).set m4 (.map #[] 0)).set hb (.cells #[.map (some m3),.map (some m4),.I (FK S.lim)] 175 (0,0))) m4=some (.map #[] 0):=by rw[Hp.AB (AfT n4),Hp.AA]
  have g3:(((ρ.set m3 (.map #[] 0)).set m4 (.map #[] 0)).set hb (.cells #[.map (some m3),.map (some m4),.I (FK S.lim)] 175 (0,0))) m3=some (.map #[] 0):=by rw[Hp.AB (AfT n3),Hp.AB (AfT n43),Hp.AA]
  generalize ((ρ.set m3 (.map #[] 0)).set m4 (.map #[] 0)).set hb (.cells #[.map (some m3),.map (some m4),.I (FK S.lim)] 175 (0,0))=ρ1 at R6 g5 g4 g3 ⊢;have same:∀x t,T x=some t->ρ1 x=ρ x:=λx t hx=>let ⟨G,A,a3⟩:=off x t hx;R6 x G A a3;have hi1:=hi.mv (λx t hx _=>same x t hx) (λ_ _ h _=>h);refine⟨some S.mh,AD hi1.box rfl,MS.put (x:=hb) hi1.KG rfl λo ho=>Bh.lJ ?_⟩;obtain⟨m1,m2,m5⟩:=off S.mh _ hi.th
  let T1:JX:=Ho (Ho (Ho T m3 .b) m4 .p) hb .k
  have t5:T1 hb=some .k:=EH _ _ _;have t4:T1 m4=some .p:=(CH (AfT n4)).trans (EH _ _ _);have t3:T1 m3=some .b:=(CH (AfT n3)).trans ((CH (AfT n43)).trans (EH _ _ _));have tT:∀x,x≠m3->x≠m4->x≠hb->T1 x=T x:=λx G A a3=>(CH a3).trans ((CH A).trans (CH G));have tO:∀x t,T x=some t->T1 x=some t:=λx t hx=>let ⟨G,A,a3⟩:=off x t hx;(tT x G A a3).trans hx;have cas:∀x,x=m3\/x=m4\/x=hb\/(x≠m3/\x≠m4/\x≠hb):=λx=>by
   by_cases e1:x=m3
   .exact .inl e1
   by_cases e2:x=m4
   .exact .inr (.inl e2)
   by_cases e3:x=hb
   .exact .inr (.inr (.inl e3))
   exact .inr (.inr (.inr ⟨e1,e2,e3⟩))
  have keep:∀x,x≠S.mh->(ρ1.set S.mh o) x=ρ1 x:=λx hx=>Hp.AB hx;have hW:DZ (ρ1.set S.mh o) T1 hb m3 m4 (FK S.lim) [] S.q:=by
   refine⟨λx hx=>?_,Az.2 ⟨t5,(keep _ (AfT m5)).trans g5⟩,t3,t4,⟨[],0,⟨(keep _ (AfT m1)).trans g3,stamped_empty 0,by simp⟩,rfl,λi e x hi=>by simp at hi⟩,⟨[],0,⟨(keep _ (AfT m2)).trans g4,stamped_empty 0,by simp⟩,by simp⟩,λj hj=>?_,by simp,by simp,by simp⟩
   .by_cases e:x=S.mh
    .rw[e,Hp.AA];simp
    rw[keep x e];rcases cas x with rfl|rfl|rfl|⟨G,A,a3⟩
    .rw[g3];simp
    .rw[g4];simp
    .rw[g5];simp
    .rw[tT x G A a3]at hx;rw[R6 x G A a3];exact kn x hx
   .rcases cas j with rfl|rfl|rfl|⟨G,A,a3⟩
    .rw[t3]at hj;cases hj
    .rw[t4]at hj;cases hj
    .rw[t5]at hj;cases hj
    .rw[tT j G A a3]at hj;have:=AUZ j _ hj;cases this
  refine K _ T1 hb ⟨(keep _ (C9 hi.tg hi.th (by simp))).trans hi1.box,tO _ _ hi.tg,tO _ _ hi.th,tO _ _ hi.tl,by simpa[Jt] using ho,?_,Own.here hi1.own λu hu=>keep _ (C9 (hi.ts u hu) hi.th (by simp)),λu hu=>tO _ _ (hi.ts u hu),hi.nil⟩ ⟨m3,m4,[],hW,by simp,by rw[hH];rfl⟩ λx u hx=>?_
  .have AR:S.ml≠S.mh:=C9 hi.tl hi.th (by simp);exact hi1.Vv.imp (λ⟨a,e⟩=>⟨a,e.loc (keep _ AR)⟩) λ⟨a,e⟩=>⟨a,e.loc (keep _ AR)⟩
  .obtain⟨G,A⟩:=AZ.1 hx;have b1:x≠m3:=λe=>by rw[e,h3]at A;cases A
   have b2:x≠m4:=λe=>by rw[e,h4]at A;cases A
   have b3:x≠hb:=λe=>by rw[e,h5]at A;cases A
   exact AZ.2 ⟨(tT x b1 b2 b3).trans G,by rw[keep x (λe=>by rw[e,hi.th]at G;cases G),R6 x b1 b2 b3];exact A⟩
theorem Bd.ANE (h:Bd Z22 N d b g hp S)(K:∀Z'2 N' hb,Bd Z'2 N' d b g (some hb) S->Ext N N'->R (.returned (.pointer (aD hb 0))) Z'2):Spec prog 48 #[.pointer (aD g 0),.string tS] Z22 R:=by
 obtain⟨ρ,T,h1,h2,h3,rfl⟩:=h;exact h1.spec (j9 h2 h3 λρ' T' hb A G a3=>λZ'2 hl=>K Z'2 _ hb ⟨ρ',T',hl,A,G,rfl⟩ a3)
theorem Bd.add {hb:Nat}{p:Option Addr}{n c:Nat}{s:Hf}(h:Bd Z22 N d b g (some hb) S)(hr:I1 N p n s.ls)(hq:S.q<=100000000000)(K:∀Z'2 N' x,Bd Z'2 N' d b g (some hb) { S with H:=R1 (FK S.lim) S.H s,q:=S.q+17 }->Ext N N'->R (.returned (.I x)) Z'2):
  Spec prog 49 #[.pointer (aD hb 0),.agg #[.slice p n c,.I s.t,.U s.v]] Z22 R:=by
 obtain⟨ρ,T,h1,h2,⟨m3,m4,Z,h3,ne,hZ⟩,rfl⟩:=h;refine h1.spec (qA h3 ne hr hq λρ' T' G a1 a2 a3 A=>λZ'2 hl=>K Z'2 _ _ ⟨ρ',T',hl,?_,⟨m3,m4,G,a1,a2,by rw[a3,hZ]⟩,rfl⟩ A.rest);have:=h2.mv A.fix A.tag;exact⟨this.box,this.tg,this.th,this.tl,this.KG,this.Vv,this.own,this.ts,this.nil⟩
theorem Bd.sel {hb:Nat}{c1:Nat}{lo hi:Int}(h:Bd Z22 N d b g (some hb) S)(hH:S.H.length<=1000000000)(hq:S.q<=1000000000000)
  (K:∀Z'2 N' O p n c,Bd Z'2 N' d b g (some hb) S->Ext N N'->O.Perm (CD lo hi S.H)->O.Pairwise NO->BB 2 CW N' p n O->n<=S.H.length->n<=c->R (.returned (.slice p n c)) Z'2):Spec prog 51 #[.pointer (aD hb 0),.slice none 0 c1,.I lo,.I hi] Z22 R:=by
 obtain⟨ρ,T,h1,h2,⟨m3,m4,Z,A,ne,G⟩,rfl⟩:=h;have hlen:Z.length=S.H.length:=by rw[<-G,AfO]
 refine h1.spec (ai A (by omega) hq λO p n c ρ' a1 a2 a3 a4 a5 a6=>λZ'2 hl=>?_);have hv:=A.mv a4;have IN:=h2.mv hv.fix hv.tag;refine K Z'2 (ρ'.rest T) O p n c ⟨ρ',T,hl,IN,⟨m3,m4,Z,A.ext a4,ne,G⟩,rfl⟩ hv.rest (by rw[<-G];exact a1) a2 (a3.mono CW.mono λx o hx=>?_) (by omega) a6;obtain⟨b1,b2⟩:=AW.1 hx;exact AZ.2 ⟨A.off b1,b2⟩
theorem Bd.ANF {hb:Nat}{p:Option Addr}{n c:Nat}{ss:List Hf}(h:Bd Z22 N d b g (some hb) S)(hr:BB 3 Ef N p n ss)(EW:∀s∈ss,(Gc s.ls).length<=35184372088832)(hH:S.H.length<=100000000000)(hn:n<=100000000000)(hq:S.q<=1000000000000)
  (K:∀Z'2 N' p' G c',Bd Z'2 N' d b g (some hb) S->Ext N N'->Be .i64 N' p' G (C8 (FK S.lim) S.H ss).2.2->R (.returned (.slice p' G c')) Z'2):Spec prog 44 #[.pointer (aD hb 0),.slice p n c] Z22 R:=by
 obtain⟨ρ,T,h1,h2,⟨m3,m4,Z,A,ne,hZ⟩,rfl⟩:=h;rw[<-hZ]at hH K;refine h1.spec (Vc (A.rd ne hq) (hr.mono Ef.mono Ext.DF) EW hH hn λp' G c' ρ' a1 a2=>λZ'2 hl=>?_);have hv:=A.mv a2;have IN:=h2.mv hv.fix hv.tag;refine K Z'2 (ρ'.rest T) p' G c' ⟨ρ',T,hl,IN,⟨m3,m4,Z,A.ext a2,ne,hZ⟩,rfl⟩ hv.rest (a1.mono λx o hx=>?_);obtain⟨b1,b2⟩:=AW.1 hx;exact AZ.2 ⟨A.off b1,b2⟩
end
end TwW
end
section
namespace TwW
open Go Tw Go.MapKept Go.RowKit Go.Proofs.Tryz
def wS:ByteArray:=ByteArray.mk #[119]
theorem my:Co wS=true:=by kernel_rfl
structure Lg (D:Dk)(W:Wl)(told:Bk)(safe:Nat):Prop where
 up:D.up=true
 arm:D.armed=false
 dir:W.dir=wS
 ok:∃rc sg,BF D.files D.cnt W rc sg safe/\rc++A0 sg=told
 nw:D.files (BO wS)=none
section
variable {Z22 Z'2 N:Hp}{d b g:Nat}{hp:Option Nat}{S:Vu}{R:Rr}{told:Bk}{safe:Nat}
theorem wP.log {ρ:Hp}{T:JX}{D:Dk}{W:Wl}(h:wP ρ T d b g hp S):wP ρ T d b g hp { S with D:=D,W:=W }:=⟨h.box,h.tg,h.th,h.tl,h.KG,h.Vv,h.own,h.ts,h.nil⟩
theorem Bd.ABF {p:Option Addr}{n c:Nat}{xs:List Int}(h:Bd Z22 N d b g hp S)(A:Lg S.D S.W told safe)(ht:Tb N)(hx:Be .u8 N p n xs)(h8:Ft xs)(hn:n<=65536)(hc:S.D.cnt<1048576)
  (K:∀Z'2 D' W' G,Bd Z'2 N d b g hp { S with D:=D',W:=W' }->Lg D' W' (told++[xs]) G->D'.cnt=S.D.cnt+1->Out wS S.D.files D'.files->R (.returned (.I 0)) Z'2):Spec prog 46 #[.pointer (aD b 0),.slice p n c] Z22 R:=by
 obtain⟨ρ,T,h1,h2,h3,rfl⟩:=h;obtain⟨rc,sg,A4,rfl⟩:=A.ok;refine ak h1 (ht.mono Ext.DF) (hx.mono Ext.DF) h8 A.up (by omega) (by rw[A.dir];exact my) A4 (λhl=>by omega) λ_=>⟨λZ'2 D' W' Li G a1 a2 a3 a4 a5 a6 a7 a8 a9 a10 a11 _ _ _ _=>K Z'2 D' W' G ⟨ρ,T,a1,h2.log,h3,rfl⟩ ⟨a2,a3.trans A.arm,a5.trans A.dir,⟨rc,Li,a7,by rw[a9,Aew]⟩,?_⟩ a4 (by rw[<-A.dir];exact a10),λha=>by rw[A.arm]at ha;cases ha⟩;have:=a11;rw[A.dir,A.nw]at this;exact this
theorem Bd.ANG (h:Bd Z22 N d b g hp S)(A:Lg S.D S.W told safe)(ht:Tb N)(hc:S.D.cnt<=1048576)
  (K:∀Z'2 D',Bd Z'2 N d b g hp { S with D:=D' }->Lg D' S.W told told.length->D'.cnt=S.D.cnt->Out wS S.D.files D'.files->R (.returned (.I 0)) Z'2):Spec prog 47 #[.pointer (aD b 0)] Z22 R:=by
 obtain⟨ρ,T,h1,h2,h3,rfl⟩:=h;obtain⟨rc,sg,A4,rfl⟩:=A.ok;refine j3 h1 (ht.mono Ext.DF) A.up (by omega) (by rw[A.dir];exact my) A4 (λZ'2 D' a1 a2 a3 a4 a5 a6 a7 _=>K Z'2 D' ⟨ρ,T,a1,h2.log,h3,rfl⟩ ⟨a2,a3.trans A.arm,A.dir,⟨rc,sg,a5,rfl⟩,?_⟩ a4 (by rw[<-A.dir];exact a6)) λG=>by rw[A.arm]at G;cases G
 have:=a7;rw[A.dir,A.nw]at this;exact this
end
end TwW
end
section
namespace TwW
open Go Tw Go.MapKept Go.RowKit Go.Proofs.Tryz
def HW (fs:List Int)(ss:List Hf):List Hf:=((ss.zip fs).filter λz=>decide (z.2=1)).map (·.1)
theorem wR {lim:Int}{H:List Sr}{L:List (ByteArray×Pt)}{fr:Nat}{s:Hf}(h:MQ lim H L fr s=1):¬jv s:=λhb=>by
 have A:HG lim H s=3:=by
  unfold HG;rw[Aex (show Pe s.ls≠0\/s.t < -1099511627776\/1099511627776<s.t from hb)]
 unfold MQ at h;split at h
 .rw[A]at h;simp at h
 .rw[Aex hb,A]at h;cases h
theorem ff {lim:Int}{H:List Sr}:∀(l:List Hf) (st:List (ByteArray×Pt)×Nat×List Int) (i:Nat) (s:Hf),l[i]?=some s->(l.foldl (Dr lim H) st).2.2[st.2.2.length+i]?=some 1->¬jv s
 | [],st,i,s,h,_=>by simp at h
 | x::l,st,i,s,h,A=>by
  have G:∀(l:List Hf) st,st.2.2 <+: (l.foldl (Dr lim H) st).2.2:=λl=>by
   induction l with
   | nil=>exact λst=>AiV _
   | cons y l ih=>
    intro st;refine List.IsPrefix.trans ?_ (ih (Dr lim H st y));unfold Dr;split<;>exact Ah7 _ _
  rw[AgT]at A;have hl:(Dr lim H st x).2.2.length=st.2.2.length+1:=by unfold Dr;split<;>simp
  cases i with
  | zero=>
   simp only[Af0,AfL]at h;subst h;obtain⟨t,ht⟩:=G l (Dr lim H st x);rw[<-ht,AgY,Ae8 (by omega)]at A;by_cases e:MQ lim H st.1 st.2.1 x=1
   .exact wR e
   .unfold Dr at A;rw[Aeu e]at A;simp at A;exact absurd A e
  | succ i=>
   refine ff (lim:=lim) (H:=H) l (Dr lim H st x) i s (by simpa using h) ?_;rw[hl];rw[show st.2.2.length+1+i=st.2.2.length+(i+1) by omega];exact A
theorem wX {lim:Int}{H:List Sr}{ss:List Hf}(hv:∀s∈ss,0<=s.v/\s.v<18446744073709551616):∀s∈HW (C8 lim H ss).2.2 ss,eu s:=λs G=>by
 unfold HW at G;obtain⟨z,A,rfl⟩:=AfC.1 G;obtain⟨A,h1⟩:=Agk.1 A;obtain⟨i,hi⟩:=Ag7.1 A;rw[List.getElem?_zip_eq_some]at hi;have hb:=ff ss ([],0,[]) i z.1 hi.1 (by rw[Afw,AfW];exact hi.2.trans (Ae4 some (AfS h1)));unfold jv at hb;simp only[not_or,Agj]at hb;exact⟨BE.of hb.1,by unfold R64;omega,hv _ (Ae2 hi.1)⟩
section
variable {Z22 Z'2 N N0:Hp}{d b g:Nat}{hp:Option Nat}{S:Vu}{R:Rr}{told:Bk}{safe:Nat}
theorem Bd.box {k:Nat}{o:Obj}(h:Bd Z22 N d b g hp S)(hk:Z22 k=none):Bd (Z22.set k o) (N.set k o) d b g hp S:=by
 obtain⟨ρ,T,h1,h2,h3,rfl⟩:=h;have hn:ρ k=none:=AT h1.ext hk;have hT:=h3.off hn;have ne:∀x t,T x=some t->(ρ.set k o) x=ρ x:=λx t A=>Hp.AB λe=>by rw[e,hT]at A;cases A
 refine⟨ρ.set k o,T,h1.R9 hk,h2.mv (λx t A _=>ne x t A) (λ_ _ h _=>h),h3.loc (λx t A _=>ne x t A) (λx A=>?_),fe hT⟩;cases G:T x with
 | none=>exact absurd G A
 | some t=>rw[ne x t G];exact h3.kn x A
theorem qQ {pf ps:Option Addr}{nf cf n c:Nat}{ss:List Hf}{fs:List Int}(hr:BB 3 Ef N0 ps n ss)(hf:Be .i64 N0 pf nf fs)(hl:nf=n)(hn:n<=1000000000)
  (K:∀Z'2 N' p' A c',Bd Z'2 N' d b g hp S->Ext N0 N'->Aa 3 Ef N0 N' p' A c' (HW fs ss)->Br ((A:Int)=0) (R (.T #[.slice pf nf cf,.I 0]) Z'2) (Spec prog 45 #[.string tS,.slice p' A c'] Z'2 (BI R (CS λp77 qk c77 y=>AM.TL R (aD g 0) tS pf nf cf p' A c' p77 qk c77 (qk:Int) 0 y)))) :
  ∀(e i:Nat) (Z22 N:Hp) (Ge:Option Addr) (n12 c12:Nat),n-i=e->i<=n->n12<=i->Bd Z22 N d b g hp S->Aa 3 Ef N0 N Ge n12 c12 (HW (fs.take i) (ss.take i))->AM.Ul R (aD g 0) tS pf nf cf Ge n12 c12 ps n c (n:Int) (i:Int) Z22:=by
 have fz:ss.length=n:=hr.1;have Rl:fs.length=nf:=hf.1;intro e
 induction e with
 | zero=>
  intro i Z22 N Ge n12 c12 he hi h12 h G;rw[Ae7 (by omega),Ae7 (by omega)]at G;exact AM.Tk ⟨λhh=>by omega,λ_=>K Z22 N Ge n12 c12 h G.up G⟩
 | succ e ih=>
  intro i Z22 N Ge n12 c12 he hi h12 h G;obtain⟨s,hs⟩:=hr.ex (show i<n by omega);obtain⟨f,yH⟩:=hf.ex (show i<nf by omega);obtain⟨bs,os,vs,rfl,⟨q,m,dd,rfl,I2⟩,Dt⟩:=BB.idx hr hs;obtain⟨bf,of_,rfl,hlf⟩:=Be.at hf yH;have hx:=G.up.trans h.ext;have stp:HW (fs.take (i+1)) (ss.take (i+1))=HW (fs.take i) (ss.take i)++if f=1 then[s] else[]:=by
   unfold HW;rw[AL hs,AL yH,List.zip_append (by rw[AfE,AfE];omega),AgL,AfF]
   congr 1
   by_cases e:f=1<;>simp[e]
  have nx:∀Z'2 N' p' A c',A<=i+1->Bd Z'2 N' d b g hp S->Aa 3 Ef N0 N' p' A c' (HW (fs.take (i+1)) (ss.take (i+1)))->AM.QO R (aD g 0) tS (aD bf of_) nf cf p' A c' (aD bs os) n c (n:Int) (i:Int) Z'2:=λZ'2 N' p' A c' a1 a2 a3=>by
   have:=ih (i+1) Z'2 N' p' A c' (by omega) (by omega) a1 a2 a3;rw[show((i+1:Nat):Int)=(i:Int)+1 by omega]at this;exact AM.QQ ⟨by unfold AK;omega,this⟩
  refine AM.Tk ⟨λ_=>⟨bs,os,rfl,by unfold In;omega,q,m,dd,s.t,s.v,by simpa using Dt.mono hx,λIp=>⟨bf,of_,rfl,by unfold In;omega,f,by simpa using hx.ld hlf,λh1=>λsv h68=>?_,λh1=>?_⟩⟩,λhh=>by omega⟩
  .refine(h.box (o:=.cells #[.slice q m dd,.I s.t,.U s.v] 53 (0,0)) h68).PJ ?_;have he:Ef (N.del Ge) [.slice q m dd,.I s.t,.U s.v] s:=⟨q,m,dd,rfl,I2.mono Eh.mono G.2⟩;refine Aa.G8 Ef.mono G rfl (λu hu=>by simp only[Ae5,Afj,Agd]at hu;rcases hu with rfl|rfl|rfl<;>rfl) he (by omega) (λp' c' N' Cq _=>λZ'2 h'=>⟨p',n12+1,c',rfl,nx Z'2 N' p' (n12+1) c' (by omega) h' ?_⟩) (AT h.ext h68);rw[stp,Aex h1];exact Cq
  .refine nx Z22 N Ge n12 c12 (by omega) h ?_;rw[stp,Aeu h1,AfG];exact G
theorem wY {pf pa pr:Option Addr}{nf cf na ca nr cr:Nat}{A:Bk}(ht:Tb N)(hr:Kn N pr nr A)(h8:∀r∈A,Ft r)(hs:∀r∈A,r.length<=65536)(h:Bd Z22 N d b g hp S)(G:Lg S.D S.W told safe)(hc:S.D.cnt+nr<1048576)
  (K:∀Z'2 D' W' ,Bd Z'2 N d b g hp { S with D:=D',W:=W' }->Lg D' W' (told++A) (told++A).length->D'.cnt<=S.D.cnt+nr->Out wS S.D.files D'.files->AM.XT R (aD g 0) tS pf nf cf pa na ca (na:Int) 0 Z'2):AM.TL R (aD g 0) tS pf nf cf pa na ca pr nr cr (nr:Int) 0 Z22:=by
 have hl:A.length=nr:=hr.1
 suffices H:∀(e i:Nat) (Z22:Hp) (D:Dk) (W:Wl) (safe:Nat),nr-i=e->i<=nr->Bd Z22 N d b g hp { S with D:=D,W:=W }->Lg D W (told++A.take i) safe->D.cnt<=S.D.cnt+i->Out wS S.D.files D.files->AM.TL R (aD g 0) tS pf nf cf pa na ca pr nr cr (nr:Int) (i:Int) Z22 from
  H nr 0 Z22 S.D S.W safe rfl (AfI _) h (by rw[Af6,AfG];exact G) (Ae1 _) .refl
 intro e
 induction e with
 | zero=>
  intro i Z22 D W safe he hi h G pM ho;rw[Ae7 (by omega)]at G;have hg:=h.gb;refine AM.QP ⟨λhh=>by omega,λ_=>⟨g,0,rfl,aD b 0,AD hg rfl,h.ANG G ht (by dsimp only;omega) λZ'2 D' a1 a2 a3 a4=>⟨0,rfl,λhh=>absurd rfl hh,λ_=>K Z'2 D' W a1 a2 (by dsimp only at a3;omega) (ho.trans a4)⟩⟩⟩
 | succ e ih=>
  intro i Z22 D W safe he hi h G pM ho;obtain⟨x,hx⟩:∃x,A[i]?=some x:=⟨_,Ae3 (by omega)⟩;have hxm:=Ae2 hx;obtain⟨b81,o81,p82,n82,c82,rfl,AUb,_,JW⟩:=hr.at hx;have hg:=h.gb;have AcU:x.length=n82:=JW.1;refine AM.QP ⟨λ_=>⟨b81,o81,rfl,by unfold In;omega,p82,n82,c82,by simpa using h.ext.ld AUb,g,0,rfl,aD b 0,AD hg rfl,h.ABF G ht JW (h8 x hxm) (by have:=hs x hxm;omega) (by dsimp only;omega) λZ'2 D' W' GZ a1 a2 a3 a4=>⟨0,rfl,λhh=>absurd rfl hh,λ_=>⟨by unfold AK;omega,?_⟩⟩⟩,λhh=>by omega⟩;have:=ih (i+1) Z'2 D' W' GZ (by omega) (by omega) a1 (by rw[AL hx,<-Aew];exact a2) (by dsimp only at a3;omega) (ho.trans a4);rw[show((i+1:Nat):Int)=(i:Int)+1 by omega]at this;exact this
theorem wZ {pf pa:Option Addr}{nf cf A ca:Nat}{xs:List Hf}(hr:BB 3 Ef N pa A xs)(h:Bd Z22 N d b g hp S)(hq:S.q+17*A<=100000000000)
  (K:∀Z'2 N' G H' q',Bd Z'2 N' d b g G { S with H:=H',q:=q' }->Ext N N'->H'=xs.foldl (R1 (FK S.lim)) S.H->q'<=S.q+17*A->(xs≠[]->G≠none)->R (.T #[.slice pf nf cf,.I 0]) Z'2):AM.XT R (aD g 0) tS pf nf cf pa A ca (A:Int) 0 Z22:=by
 have hl:xs.length=A:=hr.1
 suffices H:∀(e i:Nat) (Z22 N':Hp) (G:Option Nat) (q':Nat),A-i=e->i<=A->Bd Z22 N' d b g G { S with H:=(xs.take i).foldl (R1 (FK S.lim)) S.H,q:=q' }->Ext N N'->q'<=S.q+17*i->(0<i->G≠none)->AM.XT R (aD g 0) tS pf nf cf pa A ca (A:Int) (i:Int) Z22 from
  H A 0 Z22 N hp S.q rfl (AfI _) h (.refl _) (Ae1 _) (λhh=>absurd hh (Ah8 _))
 intro e
 induction e with
 | zero=>
  intro i Z22 N' G q' he hi h hx hq1 hp1;rw[Ae7 (by omega)]at h;exact AM.dS ⟨λhh=>by omega,λ_=>K Z22 N' G _ q' h hx rfl (by omega) λAR=>hp1 (by have:=AhG.2 AR;omega)⟩
 | succ e ih=>
  intro i Z22 N' G q' he hi h hx hq1 hp1;obtain⟨s,hs⟩:=hr.ex (show i<A by omega);obtain⟨bs,os,vs,rfl,⟨q,m,dd,rfl,I2⟩,Dt⟩:=BB.idx hr hs;refine AM.dS ⟨λ_=>⟨bs,os,rfl,by unfold In;omega,q,m,dd,s.t,s.v,by simpa using Dt.mono (hx.trans h.ext),λNn=>h.ANE λZ12 N1 hb h1 x1=>⟨aD hb 0,rfl,h1.add (s:=s) (I2.mono Eh.mono (hx.trans x1)) (by dsimp only;omega) λZ222 N2 x h2 x2=>⟨x,rfl,by unfold AK;omega,?_⟩⟩⟩,λhh=>by omega⟩;have:=ih (i+1) Z222 N2 (some hb) (q'+17) (by omega) (by omega) (by rw[AL hs,Agi];exact h2) (hx.trans (x1.trans x2)) (by omega) (λ_=>by simp);rw[show((i+1:Nat):Int)=(i:Int)+1 by omega]at this;exact this
end
end TwW
end
section
namespace TwW
open Go Tw Go.MapKept Go.RowKit Go.Proofs.Tryz
theorem mz {tb:List Int}(h8:Ft tb)(hl:tb.length<=266):∀(l:List Hf) (st:Pp),(∀s∈l,eu s)->(∀r∈Lc st,Ft r/\r.length<=65536)->(∀r∈Lc (l.foldl (λst s=>Eg tb (HV s) st) st),Ft r/\r.length<=65536)/\(Lc (l.foldl (λst s=>Eg tb (HV s) st) st)).length<=(Lc st).length+l.length
 | [],st,_,G=>⟨G,Ae1 _⟩
 | s::l,st,hs,G=>by
  have hb:=VX (hs s (AfB ..));have one:Ft (tb++HV s)/\(tb++HV s).length<=65536:=⟨h8.app (vZ s),by rw[Aet];omega⟩;obtain⟨a1,a2⟩:(∀r∈Lc (Eg tb (HV s) st),Ft r/\r.length<=65536)/\(Lc (Eg tb (HV s) st)).length<=(Lc st).length+1:=by
   cases st with
   | none=>exact⟨λr A=>by rw[Aev.1 A];exact one,Ae1 _⟩
   | some x=>
    obtain⟨i,l⟩:=x;unfold Eg;dsimp only;split
    .refine⟨λr A=>?_,by simp[Lc]⟩;rcases Ae9.1 A with A|A
     .exact G r A
     .rw[Aev.1 A];exact one
    .refine⟨λr A=>?_,by simp[Lc]⟩;rcases Ae9.1 A with A|A
     .exact G r (Afk _ A)
     .rw[Aev.1 A];exact⟨(G l (Afs _ (Aev.2 rfl))).1.app (vZ s),by rw[Aet];omega⟩
  obtain⟨i1,i2⟩:=mz h8 hl l (Eg tb (HV s) st) (λy hy=>hs y (Aey _ hy)) a1;rw[AgT,Aez];exact⟨i1,by omega⟩
section
variable {Z22 Z'2 N N0:Hp}{d b g:Nat}{hp:Option Nat}{S:Vu}{R:Rr}{told:Bk}{safe:Nat}
def DX (S:Vu)(ss:List Hf):List Hf:=HW (C8 (FK S.lim) S.H ss).2.2 ss
theorem Bd.push {p:Option Addr}{n c:Nat}{ss:List Hf}{e:Int}(h:Bd Z22 N d b g hp S)(lg:Lg S.D S.W told safe)(ht:Tb N)(G:BB 3 Ef N p n ss)(EW:∀s∈ss,(Gc s.ls).length<=35184372088832)(hv:∀s∈ss,0<=s.v/\s.v<18446744073709551616)(hc:S.D.cnt+n<1048576)(hH:S.H.length<=100000000)(hq:S.q+17*n<=100000000000)
  (h1:e<S.ep->R (.T #[.N,.I 231]) Z22) (h2:S.ep<=e->S.act=false->R (.T #[.N,.I 232]) Z22)
  (K:S.ep<=e->S.act=true->∀Z'2 N' ej D' W' q' GZ p' A c',Bd Z'2 N' d b g ej { S with D:=D',W:=W',H:=(DX S ss).foldl (R1 (FK S.lim)) S.H,q:=q' }->Ext N N'->Lg D' W' (told++pn tS (DX S ss)) GZ->(DX S ss≠[]->GZ=(told++pn tS (DX S ss)).length)->(DX S ss=[]->GZ=safe)->D'.cnt<=S.D.cnt+n->Out wS S.D.files D'.files->q'<=S.q+17*n->(DX S ss≠[]->ej≠none)->Be .i64 N' p' A (C8 (FK S.lim) S.H ss).2.2->R (.T #[.slice p' A c',.I 0]) Z'2) :
  Spec prog 12 #[.pointer (aD g 0),.string tS,.slice p n c,.U e] Z22 R:=by
 have hg:=h.gb;have hln:ss.length=n:=G.1;refine AM.start (S7 ⟨true,rfl,λhf=>(by cases hf),λ_=>⟨g,0,rfl,S.ep,AD hg rfl,λAq=>h1 Aq,λIb=>⟨S.act,AD hg rfl,λhf=>h2 (by omega) hf,λha=>⟨some S.mh,AD hg rfl,?_⟩⟩⟩⟩);have uu:S.ep<=e:=by omega
 have K:=K uu ha;have fin:∀(Z'2 N':Hp) (ej:Option Nat) (p':Option Addr) (A c':Nat),Bd Z'2 N' d b g hp S->Ext N N'->Be .i64 N' p' A (C8 (FK S.lim) S.H ss).2.2->AM.Ul R (aD g 0) tS p' A c' none 0 0 p n c (n:Int) 0 Z'2:=λZ'2 N' _ p' A c' h' x' RM=>by
  have hnn:A=n:=by
   have:=(Vb (FK S.lim) S.H ss).1;have h9:=RM.1;omega
  refine qQ (S:=S) (hp:=hp) (d:=d) (b:=b) (G.mono Ef.mono x') RM hnn (by omega) (λZ222 N2 p2 n2 c2 h2 x2 By=>⟨λh0=>?_,λh0=>?_⟩) n 0 Z'2 N' none 0 0 rfl (AfI _) (Ae1 _) h' (by rw[Af6,Af6];exact Aa.nil (.refl _))
  .have e0:DX S ss=[]:=Ae6 (by have:=By.1.1;unfold DX;omega);rw[e0]at K;exact K Z222 N2 hp S.D S.W S.q safe p' A c' h2 (x'.trans x2) (by rw[show pn tS []=[] from rfl,AfG];exact lg) (λhh=>absurd rfl hh) (λ_=>rfl) (by omega) .refl (by omega) (λhh=>absurd rfl hh) (RM.mono x2)
  .have AR:DX S ss≠[]:=λe=>by
    have:=By.1.1;unfold DX at e;rw[e]at this;have h9:0=n2:=this;omega
   have A4:=wX (lim:=FK S.lim) (H:=S.H) hv;have mS:(DX S ss).length=n2:=By.1.1;have hle:(DX S ss).length<=n:=by
    unfold DX HW;rw[AfO];refine AfU (AgR _ _) ?_;rw[List.length_zip];omega
   have ht8:(EG tS).length<=266:=by
    have:=Ai (x:=tS.size) (by decide);unfold EG;rw[Aet,Bb];have:tS.size=1:=rfl;omega
   obtain⟨r1,r2⟩:=mz (ma tS) ht8 (DX S ss) none A4 (λr G=>by cases G);refine h2.spec (Qz (By.rd Ef.mono) A4 (by decide) (by omega) λp77 qk c77 N3 r3 x3=>λZ3 h3=>⟨p77,qk,c77,rfl,?_⟩);have AcW:(pn tS (DX S ss)).length=qk:=r3.1;have ek:(pn tS (DX S ss)).length<=n:=AfU r2 (by rw[show(Lc none).length=0 from rfl];omega);refine wY (ht.mono (x'.trans (x2.trans x3))) r3 (λr G=>(r1 r G).1) (λr G=>(r1 r G).2) h3 lg (by omega) λZ4 D' W' h4 lg4 c4 o4=>?_;refine wZ ((By.rd Ef.mono).mono Ef.mono x3) h4 (by dsimp only;omega) λZ5 N5 ej H' q' h5 x5 e5 hq5 hp5=>?_;subst e5;exact K Z5 N5 ej D' W' q' _ p' A c' h5 (x'.trans (x2.trans (x3.trans x5))) lg4 (λ_=>rfl) (λhh=>absurd hh AR) (by omega) o4 (by dsimp only at hq5;omega) hp5 (RM.mono (x2.trans (x3.trans x5)))
 have hz:∀w,(zeroValue 105).run prog w=.ok (.pointer none) w:=λw=>by kernel_rfl
 cases hp with
 | some hb=>
  have hm:MS yK Z22 S.mh [(tS,hb)]:=by
   obtain⟨ρ,T,a1,a2,_,_⟩:=h;exact a2.KG.mono a1.ext
  refine MS.look (z:=.pointer none) hm hz (λA9=>by simp[BQ]at A9) λv x hs hv=>⟨aD hb 0,?_,λhf=>(by cases hf),λ_=>?_⟩
  .simp[BQ]at hs;rw[hs];exact hv
  .exact AM.Tj (h.ANF G EW (by omega) (by omega) (by omega) λZ'2 N' p' A c' h' x' RM=>⟨p',A,c',rfl,fin Z'2 N' none p' A c' h' x' RM⟩)
 | none=>
  obtain⟨hm,hH0⟩:MS yK Z22 S.mh []/\S.H=[]:=by
   obtain⟨ρ,T,a1,a2,a3,_⟩:=h;exact⟨a2.KG.mono a1.ext,a3.1⟩
  refine MS.look (z:=.pointer none) hm hz (λ_=>⟨none,rfl,λ_=>⟨S.lim,AD hg rfl,?_⟩,λhf=>(by cases hf)⟩) λv x hs _=>by cases hs
  refine h.spec (mb λm3 m4 hb h3 n43 h4 n3 n4 h5=>λZ'2 h'=>⟨aD hb 0,rfl,AM.Tj (h'.spec ?_)⟩);have x1:Ext N (((N.set m3 (.map #[] 0)).set m4 (.map #[] 0)).set hb (.cells #[.map (some m3),.map (some m4),.I (FK S.lim)] 175 (0,0))):=λx o hx=>by
   have e3:x≠m3:=λe=>by rw[e,h3]at hx;cases hx
   have e4:x≠m4:=λe=>by rw[e,h4]at hx;cases hx
   have e5:x≠hb:=λe=>by rw[e,h5]at hx;cases hx
   rw[Hp.AB e5,Hp.AB e4,Hp.AB e3];exact hx
  have g3:(((N.set m3 (.map #[] 0)).set m4 (.map #[] 0)).set hb (.cells #[.map (some m3),.map (some m4),.I (FK S.lim)] 175 (0,0))) m3=some (.map #[] 0):=by rw[Hp.AB (AfT n3),Hp.AB (AfT n43),Hp.AA]
  have hd:yL (((N.set m3 (.map #[] 0)).set m4 (.map #[] 0)).set hb (.cells #[.map (some m3),.map (some m4),.I (FK S.lim)] 175 (0,0))) hb m3 m4 (FK S.lim) [] []:=⟨Hp.AA _ _ _,⟨[],0,⟨g3,stamped_empty 0,by simp⟩,rfl,λi e x hi=>by simp at hi⟩,rfl,λi s e hi=>by simp at hi,by simp⟩;refine Vc hd (G.mono Ef.mono x1) EW (by simp) (by omega) λp' A c' N' a1 a2=>λZ222 h2=>⟨p',A,c',rfl,fin Z222 N' none p' A c' h2 (x1.trans a2) ?_⟩;rw[hH0];exact a1.mono (Ext.Cp _ _)
end
end TwW
end
section
namespace Go.Proofs
open Go.Shelf
open Go.RowKit Go.Lib in
def Tryz.fg:Go.Shelf.Ren:=⟨λ|146=>84|221=>144|268=>214|138=>215|143=>216|195=>254|197=>255|218=>256|219=>257|260=>286|217=>287|225=>288|224=>289|267=>290|266=>305|314=>306|n=>n,λ|9=>9|31=>81|3=>3|4=>4|0=>0|105=>339|21=>21|5=>5|46=>163|119=>389|139=>392|138=>391|146=>381|51=>70|n=>n,λ|1=>0|3=>4|4=>5|n=>n⟩
theorem Tryz.ABG:Go.Proofs.Lays.n146 Tryz.prog Tryz.fg:={
 mixed:=by kernel_rfl
 f138:=Tryz.func215.trans (Ae4 some (by kernel_rfl))
 f143:=Tryz.func216.trans (Ae4 some (by kernel_rfl))
 f146:=Tryz.func84.trans (Ae4 some (by kernel_rfl))
 f195:=Tryz.func254.trans (Ae4 some (by kernel_rfl))
 f197:=Tryz.func255.trans (Ae4 some (by kernel_rfl))
 f217:=Tryz.func287.trans (Ae4 some (by kernel_rfl))
 f218:=Tryz.func256.trans (Ae4 some (by kernel_rfl))
 f219:=Tryz.func257.trans (Ae4 some (by kernel_rfl))
 f221:=Tryz.func144.trans (Ae4 some (by kernel_rfl))
 f224:=Tryz.func289.trans (Ae4 some (by kernel_rfl))
 f225:=Tryz.func288.trans (Ae4 some (by kernel_rfl))
 f260:=Tryz.func286.trans (Ae4 some (by kernel_rfl))
 f266:=Tryz.func305.trans (Ae4 some (by kernel_rfl))
 f267:=Tryz.func290.trans (Ae4 some (by kernel_rfl))
 f268:=Tryz.func214.trans (Ae4 some (by kernel_rfl))
 f314:=Tryz.func306.trans (Ae4 some (by kernel_rfl))
 t0:=Tryz.underlying0
 a0:=Tryz.isAgg0
 z0:=Tryz.sizeOf0
 v0:=Tryz.zeroValue0
 t3:=Tryz.underlying3
 a3:=Tryz.isAgg3
 z3:=Tryz.sizeOf3
 v3:=Tryz.zeroValue3
 t4:=Tryz.underlying4
 a4:=Tryz.isAgg4
 z4:=Tryz.sizeOf4
 v4:=Tryz.zeroValue4
 t5:=Tryz.underlying5
 a5:=Tryz.isAgg5
 z5:=Tryz.sizeOf5
 v5:=Tryz.zeroValue5
 t9:=Tryz.underlying9
 a9:=Tryz.isAgg9
 z9:=Tryz.sizeOf9
 v9:=Tryz.zeroValue9
 t21:=Tryz.underlying21
 a21:=Tryz.isAgg21
 z21:=Tryz.sizeOf21
 v21:=Tryz.zeroValue21
 t31:=Tryz.underlying81
 a31:=Tryz.isAgg81
 z31:=Tryz.sizeOf81
 v31:=Tryz.zeroValue81
 t46:=Tryz.underlying163
 a46:=Tryz.isAgg163
 z46:=Tryz.sizeOf163
 v46:=Tryz.zeroValue163
 t51:=Tryz.underlying70
 a51:=Tryz.isAgg70
 z51:=Tryz.sizeOf70
 v51:=Tryz.zeroValue70
 t105:=Tryz.underlying339
 a105:=Tryz.isAgg339
 z105:=Tryz.sizeOf339
 v105:=Tryz.zeroValue339
 t119:=Tryz.underlying389
 a119:=Tryz.isAgg389
 z119:=Tryz.sizeOf389
 t138:=Tryz.underlying391
 a138:=Tryz.isAgg391
 z138:=Tryz.sizeOf391
 v138:=Tryz.zeroValue391
 t139:=Tryz.underlying392
 a139:=Tryz.isAgg392
 z139:=Tryz.sizeOf392
 v139:=Tryz.zeroValue392
 t146:=Tryz.underlying381
 a146:=Tryz.isAgg381
 z146:=Tryz.sizeOf381
 v146:=Tryz.zeroValue381
 g1:=by kernel_rfl
 g3:=by kernel_rfl
 g4:=by kernel_rfl }
open Go.RowKit Go.Lib in
theorem Tryz.strings_Split (s sep:ByteArray)(m:Int)(w:World)(hs:s.size<4294967281)(G:w.cell? ⟨0,0,none⟩=some (.I m))(A:1<=sep.size):
 Calls Tryz.prog 84 #[.string s,.string sep] w λe w'=>
  e=.returned (.slice (some ⟨w.heap.size,0,none⟩) (Lib.countB s sep+1) (Lib.countB s sep+1))/\w'=w.alloc (.cells ((Lib.splitB sep 0 (Lib.countB s sep) s).map Value.string).toArray 9):=Any.strings_Split Tryz.ABG (by kernel_rfl) s sep m w hs G A
end Go.Proofs
end
section
set_option maxRecDepth 100000
noncomputable section
namespace TwW
open Go Tw Go.Proofs.Tryz
variable [I9]{R:Rr}{Z22:Hp}

namespace CO
variable {p0:Option Addr}{n0 c0:Nat}{x1 x2 x3 FE Gp CR:Int}{t8 t9:Bool}
def M:Fw:=⟨prog,94,f94,[94,158,159,160,161,162,163,164,165,166],[],false,[],[],[(112,[(0,wL),(1,wI),(2,wI),(3,wI),(8,wB),(9,wB)]),(1822,[(0,wL),(1,wI),(2,wI),(3,wI),(8,wB),(9,wB),(10,wI)]),(14588,[(0,wL),(1,wI),(2,wI),(3,wI),(8,wB),(9,wB),(10,wI),(11,wI),(12,wI)]),(29180,[(0,wL),(1,wI),(2,wI),(3,wI),(8,wB),(9,wB),(10,wI),(11,wI)])]⟩
def ok:M.Ok:=⟨.cons call94 (.cons call158 (.cons call159 (.cons call160 (.cons call161 (.cons call162 (.cons call163 (.cons call164 (.cons call165 (.cons call166 (AN.nil)))))))))),mixed,func94,by kernel_rfl⟩
def HA:=M.pt 0
def LK:=M.pt 1
def start (h:HA R p0 n0 c0 x1 x2 x3 true true Z22):Spec prog 94 #[.slice p0 n0 c0,.I x1,.I x2,.I x3] Z22 R:=M.start h ok
def Bi (h:AK (x2-x1)/\Br (((x2-x1):Int)<=12) (AO 158 #[.slice p0 n0 c0,.I x1,.I x2] Z22 R (λz y=>z=(.tuple #[])/\R (.T #[]) y)) (Br (x3=0) (AO 159 #[.slice p0 n0 c0,.I x1,.I x2] Z22 R (λz y=>z=(.tuple #[])/\R (.T #[]) y)) (Bn t8 (AO 160 #[.slice p0 n0 c0,.I x1,.I x2] Z22 R (λz y=>z=(.tuple #[])/\AK (x3-1)/\LK R p0 n0 c0 x1 x2 (x3-1) false t9 (x2-x1) y)) (LK R p0 n0 c0 x1 x2 x3 true t9 (x2-x1) Z22)))):HA R p0 n0 c0 x1 x2 x3 t8 t9 Z22:=M.of h ok rfl
end CO
end TwW
end
end
section
namespace TwW
open Go Tw Go.MapKept Go.RowKit Go.Proofs.Tryz
def Gm (Z22:Hp):Prop:=∃m:Int,Z22.ld ⟨0,0,none⟩=some (.I m)
theorem Gm.mono {Z22 Z'2:Hp}(h:Gm Z22)(A:Ext Z22 Z'2):Gm Z'2:=h.imp λ_=>A.ld
def wc (c:UInt8)(s:ByteArray):List ByteArray:=Lib.splitB ⟨#[c]⟩ 0 (Lib.countB s ⟨#[c]⟩) s
structure AGa (u:Nat):Prop where
 cut:wc 47 (BX tS u)=[ByteArray.mk #[98],tS,⟨(DW u).toArray⟩]
 val:Lib.parseUint10 0 (DW u)=.ok u
 lt:u<100000000
theorem in3 {k:Int}{l:List ByteArray}(A:0<=k)(h:k<3)(G:l.length=3:=by rfl):In k ((l.length:Nat):Int):=by rw[G];exact⟨A,h⟩
section
variable {P:Program}{f:FuncId}{args:Array Value}{Z22 Z'2:Hp}{R:Rr}
theorem Spec.AGb {o:Obj}{v:Nat->Value}(h:∀w,Sat Z22 w->Calls P f args w λe G=>e=.returned (v w.heap.size)/\G=w.alloc o)(hR:∀b,Z22 b=none->R (.returned (v b)) (Z22.set b o)):Spec P f args Z22 R:=λw F A hF=>
 (h w A).mono λe G ⟨he,hw⟩=>⟨Z22.set w.heap.size o,he▸hR _ (DI A),by subst hw;exact Fin.alloc A hF _ rfl (.same rfl rfl rfl) rfl⟩
theorem kB {s:ByteArray}{c:UInt8}(A:Gm Z22)(hs:s.size<4294967281)(h:∀b,Z22 b=none->R (.returned (.slice (aD b 0) (wc c s).length (wc c s).length)) (Z22.set b (.cells ((wc c s).map Value.string).toArray 9 (0,0)))):Spec prog 84 #[.string s,.string ⟨#[c]⟩] Z22 R:=by
 obtain⟨m,hm⟩:=A;have G:(wc c s).length=Lib.countB s ⟨#[c]⟩+1:=Lib.splitB_all ⟨#[c]⟩ (Ae1 1) 0 _ s rfl;rw[G]at h;exact Spec.AGb (v:=λb=>.slice (aD b 0) _ _) (λw hw=>Go.Proofs.Tryz.strings_Split s ⟨#[c]⟩ m w hs (cell_of hw hm) (Ae1 1)) h
theorem ABH:Go.Proofs.Lays.n287 prog Go.Proofs.Tryz.Sx:=
 have L:=Go.Proofs.Tryz.mH
 ⟨L.mixed,L.f287,L.f321,L.f322,L.t0,L.a0,L.z0,L.v0,L.t3,L.a3,L.z3,L.v3,L.t4,L.a4,L.z4,L.v4,L.t5,L.a5,L.z5,L.v5,L.t9,L.a9,L.z9,L.v9,L.t21,L.a21,L.z21,L.v21,L.t37,L.a37,L.z37,L.v37,L.t46,L.a46,L.z46,L.v46,L.t53,L.a53,L.z53,L.v53,L.t75,L.a75,L.z75,L.v75,L.t167,L.a167,L.z167,L.v167⟩
theorem kC {s:ByteArray}{u:Nat}(hn:s.size≠0)(hs:s.size<=1000)(hv:Lib.parseUint10 0 s.data.toList=.ok u)(h:R (.T #[.U u,.nilIface]) Z22):Spec prog 85 #[.string s,.I 10,.I 64] Z22 R:=by
 refine Iv.start (Spec.below (v:=.tuple #[.U u,.nilIface]) (λw _=>(Go.Proofs.Any.internal_strconv_ParseUint_10_b64 ABH s hn (by omega) w).mono λe w' ⟨A,hw⟩=>⟨?_,?_⟩) ⟨_,_,rfl,false,λw _=>by kernel_rfl,λG=>(by cases G),λ_=>h⟩)
 .rw[A,hv];rfl
 .rw[hw];exact Lib.bytesWorld_below _ _ _
theorem kD {u:Nat}(A:AGa u)(hg:Gm Z22)(ht:Tb Z22)(h:∀Z'2,Ext Z22 Z'2->R (.T #[.string tS,.U u,.bool true]) Z'2):Spec prog 28 #[.string (BX tS u)] Z22 R:=by
 have hz:(BX tS u).size<=100:=by
  have e:(⟨(DW u).toArray⟩:ByteArray).size=10:=by
   show(DW u).toArray.size=10
   rw[Agh,My A.lt]
  unfold BX;rw[Af7,Af7,Af7,e];decide
 refine L6.start (kB (c:=47) hg (by omega) λb hb=>⟨_,_,_,rfl,?_⟩);rw[A.cut];have g:=Hp.AA Z22 b (.cells (([ByteArray.mk #[98],tS,⟨(DW u).toArray⟩]:List ByteArray).map Value.string).toArray 9 (0,0));have x1:=Ext.set hb (o:=.cells (([ByteArray.mk #[98],tS,⟨(DW u).toArray⟩]:List ByteArray).map Value.string).toArray 9 (0,0));generalize Z22.set b (.cells (([ByteArray.mk #[98],tS,⟨(DW u).toArray⟩]:List ByteArray).map Value.string).toArray 9 (0,0))=Z12 at g x1 ⊢;have e10:(⟨(DW u).toArray⟩:ByteArray).size=10:=by
  show(DW u).toArray.size=10
  rw[Agh,My A.lt]
 refine⟨λhh=>absurd rfl hh,λ_=>⟨b,0,rfl,in3 (by decide) (by decide),tS,AD g rfl,S7 ⟨true,rfl,λG=>(by cases G),λ_=>⟨in3 (by decide) (by decide),_,AD g rfl,kC (by omega) (by omega) A.val ⟨_,_,rfl,in3 (by decide) (by decide),tS,AD g rfl,true,λw _=>by kernel_rfl,λ_=>⟨in3 (by decide) (by decide),tS,AD g rfl,J8 A.lt (by decide) (ht.mono x1) λZ222 x2=>⟨_,rfl,x2,?_⟩⟩,λG=>(by cases G)⟩⟩⟩⟩⟩;rw[GV];exact h Z222 (x1.trans x2)
set_option maxRecDepth 100000 in
theorem we {n:Nat}(hn:n<256)(h:∀x,R (.returned (.I x)) Z22):Spec prog 95 #[.U n] Z22 R:=by
 refine Nt.start (EA.start ⟨λG=>by omega,λ_=>EA.KY ⟨λG=>by omega,λ_=>EA.G0 ⟨λG=>by omega,λ_=>EA.Kc λx hx=>?_⟩⟩⟩);have:x=(n:Int):=by rw[hx];simp[IntKind.wrap,IntKind.bits,IntKind.signed];omega
 subst this;refine⟨_,by omega,AiK (by show Int.toNat (n:Int)<256;omega),λbF A=>⟨?_,_,rfl,h _⟩⟩;generalize hu:UInt8.toNat _=u at A;have hu2:u<256:=by rw[<-hu];exact UInt8.toNat_lt _
 rw[A,IntKind.wrap_i64];unfold AK;omega
theorem Vx {p:Option Addr}{n c:Nat}(G:n<=1)(h:R (.T #[]) Z22):Spec prog 32 #[.slice p n c] Z22 R:=by
 refine IG.start λx8 h8=>?_;have e:x8=(n:Int):=by rw[h8,IntKind.wrap_u64];omega
 subst e;refine we (by omega) λx=>⟨x,rfl,CO.start (CO.Bi ⟨by unfold AK;omega,λ_=>BY.start ⟨by unfold AK;omega,BY.Kb ⟨λA=>by omega,λ_=>⟨rfl,rfl,h⟩⟩⟩,λA=>by omega⟩)⟩
end
end TwW
end
section
namespace TwW
open Go Tw Go.MapKept Go.RowKit Go.Proofs.Tryz
theorem nm9:AGa 9 where
 cut:=by kernel_rfl
 val:=by kernel_rfl
 lt:=by decide
section
variable {Z22 Z'2 N:Hp}{d b g:Nat}{hp:Option Nat}{S:Vu}{R:Rr}
theorem Bd.learn {br o c ct:Nat}{pt:Option Addr}{st e:Int}(h:Bd Z22 N d b g hp S)(hm:Bm N br o [.I 0,.I st,.slice pt 1 ct])(hs:1<=st/\st<=3)(K0:¬S.ep<=e->R (.T #[]) Z22)
  (K1:S.ep<=e->∀Z'2 N',Bd Z'2 N' d b g hp { S with ep:=e,act:=decide (st=2) }->Ext N N'->R (.T #[]) Z'2):Spec prog 11 #[.pointer (aD g 0),.agg #[.U e,.slice (aD br o) 1 c]] Z22 R:=by
 have YE:br≠g:=by
  obtain⟨ρ,T,h1,A,h3,rfl⟩:=h;intro e;have:=hm.1;rw[e]at this;simp only[Hp.ld]at this;cases hr:ρ.rest T g with
  | none=>rw[hr]at this;cases this
  | some u=>have:=(AZ.1 hr).1;rw[A.tg]at this;cases this
 by_cases hle:S.ep<=e
 .obtain⟨ρ,T,h1,A,h3,rfl⟩:=h;refine h1.spec (Vd A.box (hm.mono Ext.DF) hs YE (λhn=>absurd hle hn) λ_ ρ' g' x'=>λZ'2 hl=>?_);have R6:∀x o,x≠g->ρ x=some o->ρ' x=some o:=λx o G ho=>(AF.1 (x' x o (AF.2 ⟨λa ha=>by cases ha;exact G,ho⟩))).2;have same:∀x t,T x=some t->t≠.g->ρ' x=ρ x:=λx t G ht=>by
   cases hr:ρ x with
   | none=>exact absurd hr (h3.kn x (by rw[G];simp))
   | some o=>exact R6 x o (C9 G A.tg ht) hr
  refine K1 hle Z'2 (ρ'.rest T) ⟨ρ',T,hl,⟨g',A.tg,A.th,A.tl,A.KG.loc (same _ _ A.th (by simp)),?_,Own.here A.own λu hu=>same _ _ (A.ts u hu) (by simp),A.ts,A.nil⟩,h3.loc (λx t G hd=>same x t G (λe=>by rw[e]at hd;cases hd)) (λx G=>?_),rfl⟩ λx o G=>?_
  .exact A.Vv.imp (λ⟨a,e⟩=>⟨a,e.loc (same _ _ A.tl (by simp))⟩) λ⟨a,e⟩=>⟨a,e.loc (same _ _ A.tl (by simp))⟩
  .by_cases e:x=g
   .rw[e,g'];simp
   .cases hr:ρ x with
    | none=>exact absurd hr (h3.kn x G)
    | some o=>rw[R6 x o e hr];simp
  .obtain⟨a1,a2⟩:=AZ.1 G;exact AZ.2 ⟨a1,R6 x o (λe=>by rw[e,A.tg]at a1;cases a1) a2⟩
 .have hg:=h.gb;exact Vd hg (hm.mono h.ext) hs YE (λ_=>K0 hle) (λAUd=>absurd AUd hle)
end
end TwW
end
section
namespace TwW
open Go Tw Go.MapKept Go.RowKit Go.Proofs.Tryz
section
variable {Z22 Z'2 N:Hp}{d b g:Nat}{hp:Option Nat}{S:Vu}{R:Rr}
def qR (T:JX)(a:Nat):JX:=λx=>if x=a then some .s else match T x with | some .s=>none | o=>o
theorem AGc {T:JX}{a x:Nat}{t:Tag}(h:T x=some t)(A:t≠.s)(G:x≠a):qR T a x=some t:=by
 unfold qR;rw[Aeu G,h];cases t<;>first|rfl|exact absurd rfl A
theorem wg {T:JX}{a x:Nat}(h:T x=none)(A:x≠a):qR T a x=none:=by
 unfold qR;rw[Aeu A,h]
theorem nA {T:JX}{a x:Nat}{t:Tag}(h:qR T a x=some t)(G:x≠a):T x=some t/\t≠.s:=by
 unfold qR at h;rw[Aeu G]at h;split at h
 .cases h
 .rename_i A;exact⟨h,λe=>by subst e;exact A h⟩
theorem Bd.X9 {jP:Nat}{u:Int}{KK:Hp->Prop}(h:Bd Z22 N d b g hp S)(h97:Z22 jP=none)(hn:S.ids.length<=1000000)
  (K:∀Z'2 N' (l':Option Addr×Nat×Nat),Bd Z'2 N' d b g hp { S with ids:=S.ids++[u],loc:=l' }->Ext N N'->KK Z'2) :
  AH prog (Builtin.append_ #[88,88] 88 #[.slice S.loc.1 S.loc.2.1 S.loc.2.2,(.slice (aD jP 0) 1 1)]) (Hp.set Z22 jP (.cells #[.U u] 23 (0,0))) (CS λzz z6 z7 EU=>Kp [g] (Hp.set Z22 jP (.cells #[.U u] 23 (0,0))) EU/\AH prog (Instr.mapUpdate 76 (.map (some S.ml)) (.string tS) (.slice zz z6 z7)) EU (λ_ QI=>KK QI)):=by
 obtain⟨ρ,T,h1,A,h3,rfl⟩:=h;obtain⟨L0,gR,YJ⟩:∃L0,MS ELo ρ S.ml L0/\∀y,Jt L0 tS y=[(tS,y)]:=by
  rcases A.Vv with ⟨e,m⟩|⟨e,m⟩
  .exact⟨[],m,λy=>rfl⟩
  .exact⟨_,m,λy=>by simp[Jt]⟩
 have TV:=A.own;have htt:=A.ts;generalize AcY:S.loc=l0 at TV htt ⊢;obtain⟨p,n,c⟩:=l0;dsimp only at TV htt ⊢;have hnl:n=S.ids.length:=by have:=TV.1;simpa using this.symm
 have AUe:ρ jP=none:=AT h1.ext h97;have x97:=Ext.set AUe (o:=.cells #[.U u] 23 (0,0));have Pf:=h1.R9 (o:=.cells #[.U u] 23 (0,0)) h97;refine Pf.PJ (CF (ys:=[.U u]) (TV.mono x97) (q:=aD jP 0) ⟨rfl,by decide,.inr ⟨jP,0,rfl,Bm.of_cells (c:=[.U u]) (Hp.AA _ _ _)⟩⟩ (λv hv=>by rw[Aev.1 hv];rfl) (by omega) λp' c' ρ2 By BD=>λZ222 Rl=>⟨p',n+1,c',rfl,?_,?_⟩)
 all_goals
  have other:∀y o,ρ y=some o->(∀a,p=some a->y≠a.block)->ρ2 y=some o/\∀a,p'=some a->y≠a.block:=λy o hy hn=>let ⟨a,b⟩:=AF.1 (BD y o (AF.2 ⟨hn,x97 _ _ hy⟩));⟨b,a⟩;have same:∀y t,T y=some t->t≠.s->ρ2 y=ρ y/\∀a,p'=some a->y≠a.block:=λy t hy hn=>by
   cases hs:ρ y with
   | none=>exact absurd hs (h3.kn y (by rw[hy];simp))
   | some o=>exact other y o hs λa ha=>C9 hy (htt a ha) hn
 .intro k hk o ho;rw[Aev]at hk;subst hk;have:=Pf.ext _ _ (x97 _ _ A.box);rw[this]at ho;cases ho;exact Rl.ext _ _ ((same _ _ A.tg (by simp)).1.trans A.box)
 .obtain⟨a,rfl⟩:∃a,p'=some a:=by
   rcases By.2.2 with ⟨_,h0,_⟩|⟨b,o,_,_,rfl,_⟩
   .omega
   .exact⟨_,rfl⟩
  have WJ:=gR.loc (same _ _ A.tl (by simp)).1;refine Rl.PJ (MS.put (x:=(some a,n+1,c')) WJ rfl λo ho=>λZ3 hl3=>?_);rw[YJ]at ho;have AUg:S.ml≠a.block:=(same _ _ A.tl (by simp)).2 a rfl;have kp:∀y t,T y=some t->t≠.s->y≠S.ml->(ρ2.set S.ml o) y=ρ y:=λy t hy hn AR=>by rw[Hp.AB AR];exact(same y t hy hn).1
  have tT:∀y t,T y=some t->t≠.s->qR T a.block y=some t:=λy t hy hn=>AGc hy hn ((same y t hy hn).2 a rfl);have AUh:A2 .u64 (ρ2.set S.ml o) (some a) (n+1) c' (S.ids++[u]):=by
   have e:(S.ids++[u]).map (Value.int .u64)=S.ids.map (.int .u64)++[.U u]:=by rw[AfF];rfl
   unfold A2;rw[e];exact Own.here By λx G=>by cases G;exact Hp.AB (AfT AUg)
  refine K Z3 ((ρ2.set S.ml o).rest (qR T a.block)) (some a,n+1,c') ⟨_,qR T a.block,hl3,⟨(kp _ _ A.tg (by simp) (C9 A.tg A.tl (by simp))).trans A.box,tT _ _ A.tg (by simp),tT _ _ A.th (by simp),tT _ _ A.tl (by simp),A.KG.loc (kp _ _ A.th (by simp) (C9 A.th A.tl (by simp))),.inr ⟨by simp,ho⟩,AUh,λx G=>by cases G;unfold qR;rw[Aex rfl],λe=>by simp at e⟩,h3.ANB (λx t G hd=>?_) (λx t G hd=>?_) (λx G=>?_),rfl⟩ λx v G=>?_
  .have hs:t≠.s:=λe=>by rw[e]at hd;cases hd
   exact⟨kp x t G hs (C9 G A.tl (λe=>by rw[e]at hd;cases hd)),tT x t G hs⟩
  .by_cases e:x=a.block
   .have:qR T a.block x=some .s:=by unfold qR;rw[Aex e]
    rw[this]at G;cases G;cases hd
   .exact(nA G e).1
  .by_cases e:x=S.ml
   .rw[e,Hp.AA];simp
   rw[Hp.AB e];by_cases e2:x=a.block
   .rw[e2];exact By.block a rfl
   .cases hT:qR T a.block x with
    | none=>exact absurd hT G
    | some t=>
     obtain⟨a1,a2⟩:=nA hT e2;rw[(same x t a1 a2).1];exact h3.kn x (by rw[a1];simp)
  .obtain⟨a1,a2⟩:=AZ.1 G;obtain⟨b1,b2⟩:=other x v a2 λu hu e=>by rw[e,htt u hu]at a1;cases a1
   exact AZ.2 ⟨wg a1 (b2 a rfl),by rw[Hp.AB (λe=>by rw[e,A.tl]at a1;cases a1)];exact b1⟩
end
end TwW
end
section
namespace TwW
open Go Tw Go.MapKept Go.RowKit Go.Proofs.Tryz
section
variable {Z22 Z'2 N ρ:Hp}{d b g:Nat}{hp:Option Nat}{S:Vu}{R:Rr}
theorem Bd.grow (h:Bd Z22 N d b g hp S)(A:Ext Z22 Z'2):∃N',Bd Z'2 N' d b g hp S/\Ext N N'/\Ext (Z22.new Z'2) N':=by
 obtain⟨ρ,T,h1,h2,h3,rfl⟩:=h;obtain⟨ρ',l1,l2,l3⟩:=h1.grow A;have same:∀x t,T x=some t->ρ' x=ρ x:=λx t G=>by
  cases hs:ρ x with
  | none=>exact absurd hs (h3.kn x (by rw[G];simp))
  | some o=>exact l2 _ _ hs
 refine⟨ρ'.rest T,⟨ρ',T,l1,h2.mv (λx t G _=>same x t G) (λ_ _ h _=>h),h3.loc (λx t G _=>same x t G) (λx A=>?_),rfl⟩,λx o A=>?_,λx o A=>?_⟩
 .cases hT:T x with
  | none=>exact absurd hT A
  | some t=>rw[same x t hT];exact h3.kn x A
 .obtain⟨a1,a2⟩:=AZ.1 A;exact AZ.2 ⟨a1,l2 _ _ a2⟩
 .exact AZ.2 ⟨h3.off (AT h1.ext (AW.1 A).1),l3 _ _ A⟩
theorem Bd.read {s:ByteArray}{f:Fl}(h:Bd Z22 N d b g hp S)(CA:S.D.up=true)(hn:Ab s=true)(hf:S.D.files s=some f)
  (K:∀Z'2 N' p c,Bd Z'2 N' d b g hp S->Ext N N'->Be .u8 (N.new N') p f.data.length f.data->f.data.length<=c->R (.T #[.slice p f.data.length c,.I 0]) Z'2):Spec prog 29 #[.pointer (aD d 0),.string s] Z22 R:=by
 have h0:=h;obtain⟨ρ,T,⟨Sd,_,_,_,_,hd,_⟩,_,_,_⟩:=h0;refine Xl hd CA hn hf λp c Z'2 G A=>?_;obtain⟨N',a1,a2,a3⟩:=h.grow A;exact K Z'2 N' p c a1 a2 ((A2.rd G).mono λx o A=>AW.2 ⟨AT h.ext (AW.1 A).1,a3 _ _ A⟩) (Own.cap G)
theorem Bd.list {pre:ByteArray}(h:Bd Z22 N d b g hp S)(G:S.D.up=true)(hc:S.D.cnt<=67108864)
  (K:∀Z'2 N' p n c L,Bd Z'2 N' d b g hp S->Ext N N'->BB 1 (λ_=>Wg) N' p n L->Names S.D.files pre L->R (.returned (.slice p n c)) Z'2):Spec prog 27 #[.pointer (aD d 0),.string pre] Z22 R:=by
 have h0:=h;obtain⟨ρ,T,⟨Sd,_,_,_,_,hd,_⟩,_,_,_⟩:=h0;refine Xn hd G hc λp n c L Z'2 A hN hx _=>?_;obtain⟨N',a1,a2,a3⟩:=h.grow hx;have hl:=A.1;refine K Z'2 N' p n c L a1 a2 ⟨by simpa using hl,_,(Own.rd A).mono a3,by simp,λi x hi=>?_⟩ hN;have e:(L.map Value.string)[i]?=some (.string x):=by rw[AfZ,hi];rfl
 show(((L.map Value.string).drop (i*1)).take 1)=[.string x]
 rw[Afa,Agr (Ae0.1 e).1,AhH,Af6,(Ae0.1 e).2]
theorem Bd.make {D:Dk}{W:Wl}{lim:Int}{mh ml:Nat}(h:Ad Z22 d b D W ρ)(h1:Z22 mh=none)(h2:(Z22.set mh (.map #[] 0)) ml=none)(h3:((Z22.set mh (.map #[] 0)).set ml (.map #[] 0)) g=none):
  ∃N,Bd (((Z22.set mh (.map #[] 0)).set ml (.map #[] 0)).set g (mc (.pointer (aD b 0)) (.pointer (aD d 0)) (.map (some mh)) (.map (some ml)) lim 0 false 78)) N d b g none ⟨D,W,lim,0,false,[],0,[],(none,0,0),mh,ml⟩/\Ext ρ N:=by
 have e1:ml≠mh:=λe=>by rw[e,Hp.AA]at h2;cases h2
 have e2:g≠ml:=λe=>by rw[e,Hp.AA]at h3;cases h3
 rw[Hp.AB e2]at h3;have e3:g≠mh:=λe=>by rw[e,Hp.AA]at h3;cases h3
 have l3:=((h.R9 (o:=.map #[] 0) h1).R9 (o:=.map #[] 0) h2).R9 (o:=mc (.pointer (aD b 0)) (.pointer (aD d 0)) (.map (some mh)) (.map (some ml)) lim 0 false 78) (by rw[Hp.AB e2];exact h3);rw[Hp.AB e3]at h3;rw[Hp.AB e1]at h2;have r1:=AT h.ext h1;have r2:=AT h.ext h2;have r3:=AT h.ext h3;have g1:(((ρ.set mh (.map #[] 0)).set ml (.map #[] 0)).set g (mc (.pointer (aD b 0)) (.pointer (aD d 0)) (.map (some mh)) (.map (some ml)) lim 0 false 78)) mh=some (.map #[] 0):=by rw[Hp.AB (AfT e3),Hp.AB (AfT e1),Hp.AA]
 have g2:(((ρ.set mh (.map #[] 0)).set ml (.map #[] 0)).set g (mc (.pointer (aD b 0)) (.pointer (aD d 0)) (.map (some mh)) (.map (some ml)) lim 0 false 78)) ml=some (.map #[] 0):=by rw[Hp.AB (AfT e2),Hp.AA]
 have g3:=Hp.AA ((ρ.set mh (.map #[] 0)).set ml (.map #[] 0)) g (mc (.pointer (aD b 0)) (.pointer (aD d 0)) (.map (some mh)) (.map (some ml)) lim 0 false 78)
 let T:JX:=Ho (Ho (Ho (λ_=>none) mh .h) ml .l) g .g
 have t3:T g=some .g:=EH _ _ _;have t2:T ml=some .l:=(CH (AfT e2)).trans (EH _ _ _);have t1:T mh=some .h:=(CH (AfT e3)).trans ((CH (AfT e1)).trans (EH _ _ _));have tn:∀x,x≠mh->x≠ml->x≠g->T x=none:=λx G a2 a3=>(CH a3).trans ((CH a2).trans (CH G));have cas:∀x,x=mh\/x=ml\/x=g\/(x≠mh/\x≠ml/\x≠g):=λx=>by
  by_cases G:x=mh
  .exact .inl G
  by_cases a2:x=ml
  .exact .inr (.inl a2)
  by_cases a3:x=g
  .exact .inr (.inr (.inl a3))
  exact .inr (.inr (.inr ⟨G,a2,a3⟩))
 refine⟨_,⟨_,T,l3,⟨g3,t3,t1,t2,⟨[],0,⟨g1,stamped_empty 0,by simp⟩,rfl,λi e x hi=>by simp at hi⟩,.inl ⟨rfl,[],0,⟨g2,stamped_empty 0,by simp⟩,rfl,λi e x hi=>by simp at hi⟩,Own.nil,λa ha=>(by cases ha),λ_=>rfl⟩,⟨rfl,λx A=>?_,λx t A=>?_⟩,rfl⟩,λx o A=>?_⟩
 .rcases cas x with rfl|rfl|rfl|⟨G,a2,a3⟩
  .rw[g1];simp
  .rw[g2];simp
  .rw[g3];simp
  .exact absurd (tn x G a2 a3) A
 .rcases cas x with rfl|rfl|rfl|⟨G,a2,a3⟩
  .rw[t1]at A;cases A;rfl
  .rw[t2]at A;cases A;rfl
  .rw[t3]at A;cases A;rfl
  .rw[tn x G a2 a3]at A;cases A
 .have b1:x≠mh:=λe=>by rw[e,r1]at A;cases A
  have b2:x≠ml:=λe=>by rw[e,r2]at A;cases A
  have b3:x≠g:=λe=>by rw[e,r3]at A;cases A
  exact AZ.2 ⟨tn x b1 b2 b3,by rw[Hp.AB b3,Hp.AB b2,Hp.AB b1];exact A⟩
end
end TwW
end
section
namespace TwW
open Go Tw Go.MapKept Go.RowKit Go.Proofs.Tryz
section
variable {Z22 Z'2 N ρ:Hp}{d b g:Nat}{hp:Option Nat}{S:Vu}{R:Rr}
theorem Bd.ids {O2:Hp}{F:Option Addr->Nat->Nat->Hp->Prop}(h:Bd Z22 N d b g hp S)(hx:Ext Z22 O2)(G:F S.loc.1 S.loc.2.1 S.loc.2.2 O2):AH prog (Instr.lookup 76 (.map (some S.ml)) (.string tS) false) O2 (CS F):=by
 have hz:∀w,(zeroValue 88).run prog w=.ok (.N) w:=λw=>by kernel_rfl
 obtain⟨ρ,T,h1,h2,_,_⟩:=h;have Rg:=h1.ext.trans hx;rcases h2.Vv with ⟨e,m⟩|⟨_,m⟩
 .rw[h2.nil e]at G;exact MS.look (z:=.N) (m.mono Rg) hz (λ_=>⟨none,0,0,rfl,G⟩) λv x A _=>by cases A
 .refine MS.look (z:=.N) (m.mono Rg) hz (λA9=>by simp[BQ]at A9) λv x A hv=>?_;simp[BQ]at A;subst A;exact⟨_,_,_,hv,G⟩
theorem Bd.kE (h:Bd Z22 N d b g hp S):Be .u64 Z22 S.loc.1 S.loc.2.1 S.ids:=by
 obtain⟨ρ,T,A,G,_,_⟩:=h;exact(A2.rd G.own).mono A.ext
theorem Bd.note {u:Int}{KK:Hp->Prop}(h:Bd Z22 N d b g hp S)(hn:S.ids.length<=1000000)
  (K:∀Z'2 N' (l':Option Addr×Nat×Nat),Bd Z'2 N' d b g hp { S with ids:=S.ids++[u],loc:=l' }->Ext N N'->KK Z'2) :
  (AH prog (Instr.lookup 76 (.map (some S.ml)) (.string tS) false) Z22 (CS λp87 n87 c87 Cn=>Kp [g] Z22 Cn/\Al Cn λA=>AH prog (Builtin.append_ #[88,88] 88 #[.slice p87 n87 c87,(.slice (aD A 0) 1 1)]) (Hp.set Cn A (.cells #[.U u] 23 (0,0))) (CS λzz z6 z7 EU=>Kp [g] (Hp.set Cn A (.cells #[.U u] 23 (0,0))) EU/\AH prog (Instr.mapUpdate 76 (.map (some S.ml)) (.string tS) (.slice zz z6 z7)) EU (λ_ QI=>KK QI))))/\
  (Al Z22 λA=>AH prog (Instr.lookup 76 (.map (some S.ml)) (.string tS) false) (Hp.set Z22 A (.cells #[.U u] 23 (0,0))) (CS λp87 n87 c87 Cn=>Kp [g] (Hp.set Z22 A (.cells #[.U u] 23 (0,0))) Cn/\AH prog (Builtin.append_ #[88,88] 88 #[.slice p87 n87 c87,(.slice (aD A 0) 1 1)]) Cn (CS λzz z6 z7 EU=>Kp [g] Cn EU/\AH prog (Instr.mapUpdate 76 (.map (some S.ml)) (.string tS) (.slice zz z6 z7)) EU (λ_ QI=>KK QI)))):=by
 have look:∀(O2:Hp) (F:Option Addr->Nat->Nat->Hp->Prop),Ext Z22 O2->F S.loc.1 S.loc.2.1 S.loc.2.2 O2->AH prog (Instr.lookup 76 (.map (some S.ml)) (.string tS) false) O2 (CS F):=λO2 F hx hF=>h.ids hx hF;exact⟨look Z22 _ (.refl _) ⟨Kp.CV (.refl _),λA G=>h.X9 G hn K⟩,λA G=>look _ _ (Ext.set G) ⟨Kp.CV (.refl _),h.X9 G hn K⟩⟩
def AGd (D:Dk)(us:List Nat):Prop:=∀u∈us,AGa u/\∃ss f,I4 ss/\D.files (BX tS u)=some f/\f.data=EL ss
theorem RA {u:Nat}(hu:u<100000000):Ab (BX tS u)=true:=by
 have e:(BX tS u).data.toList=[98,47,116,47]++DW u:=by
  unfold BX;rw[Ag8,Agl];exact Ae4 (·++DW u) (by kernel_rfl)
 have G:(BX tS u).size=14:=by
  show(BX tS u).data.size=14
  rw[<-Ahw,e,Aet,My hu];rfl
 unfold Ab;rw[G,e,Agb];have hd:(DW u).all jc=true:=Afu.2 λx hx=>by
  have A:=Afu.1 (px u) x hx;unfold DV at A;unfold jc;rw[A,Bool.or_true,AiT,AiT,AiT]
 rw[hd];rfl
theorem wh {br o cr ct:Nat}{pt:Option Addr}{e st:Int}(h:Bd Z22 N d b g hp S)(hm:Bm N br o [.I 0,.I st,.slice pt 1 ct])(hs:1<=st/\st<=3)(he:S.ep<=e)
  (K:∀Z'2 N',Bd Z'2 N' d b g hp { S with ep:=e,act:=decide (st=2) }->Ext N N'->R (.T #[.pointer (aD g 0),.I 0]) Z'2):Spec prog 11 #[.pointer (aD g 0),.agg #[.U e,.slice (aD br o) 1 cr]] Z22 (BI R (λz A=>z=(.tuple #[])/\R (.T #[.pointer (aD g 0),.I 0]) A)):=
 h.learn hm hs (λhn=>absurd he hn) λ_ Z'2 N' G x'=>⟨rfl,K Z'2 N' G x'⟩
theorem qS {br o cr ct:Nat}{pt:Option Addr}{e st:Int}(h:Bd Z22 N d b g hp S)(hm:Bm N br o [.I 0,.I st,.slice pt 1 ct])(hs:1<=st/\st<=3)(he:S.ep<=e)(NS:S.ids.length<=1)
  (K:∀Z'2 N',Bd Z'2 N' d b g hp { S with ep:=e,act:=decide (st=2) }->Ext N N'->R (.T #[.pointer (aD g 0),.I 0]) Z'2) :
  Pq (aD g 0) λtV tW=>LM Z22 tV (tW+7) λAFK=>AH prog (Instr.range 76 (.map AFK)) Z22 (λz y=>∃Re,Re=z/\A6.od R e (aD br o) 1 cr (aD tV tW) Re y):=by
 have h0:=h;obtain⟨ρ,T,h1,h2,_,_⟩:=h0;have hg:=h1.ext _ _ h2.box;have fin:∀(i:Nat) (A:Obj),Z22 i=none->PE ELo (Z22.set i A) i S.ml []->A6.od R e (aD br o) 1 cr (aD g 0) (.pointer (some ⟨i,0,none⟩)) (Z22.set i A):=λi A hi hit=>by
  have hb:=h.box (o:=A) hi;have x1:Ext N (N.set i A):=Ext.set (AT h.ext hi);refine A6.lY (PE.next hit (λ_=>.inl ⟨rfl,wh hb (hm.mono x1) hs he λZ'2 N' h' x'=>K Z'2 N' h' (x1.trans x')⟩) λW1 x W2 v o G=>?_);cases W1<;>cases G
 have go:∀(L:List (ByteArray×Option Addr×Nat×Nat)),MS ELo Z22 S.ml L->(L=[]\/∃p n c,L=[(tS,(p,n,c))]/\n<=1)->AH prog (Instr.range 76 (.map (some S.ml))) Z22 (λz y=>∃Re,Re=z/\A6.od R e (aD br o) 1 cr (aD g 0) Re y):=λL hL hc=>by
  refine MS.range hL λi A hi hit=>⟨_,rfl,?_⟩;rcases hc with rfl|⟨p,n,c,rfl,hn⟩
  .exact fin i A hi hit
  .refine A6.lY (PE.next hit (λG=>by cases G) λW1 x W2 v o2 G hv Vk Ga=>.inr ?_);obtain⟨rfl,rfl,rfl⟩:W1=[]/\x=(tS,(p,n,c))/\W2=[]:=by
    cases W1 with
    | nil=>cases G;exact⟨rfl,rfl,rfl⟩
    | cons y W1=>
     have:=Ae4 List.length G;simp at this
   obtain rfl:v=.slice p n c:=hv;have RJ:S.ml≠i:=λe=>by
    obtain⟨l,c,hm9,_⟩:=hL;have:=hm9.1;rw[e,hi]at this;cases this
   rw[Hp.set_set]at *;have qT:=Vk (Z22.set i o2) (Hp.AA _ _ _) (by rw[Hp.AB RJ,Hp.AB RJ]);exact⟨_,p,n,c,rfl,Ga (Z22.set i o2) (Hp.AA _ _ _) (by rw[Hp.AB RJ,Hp.AB RJ]) ⟨_,p,n,c,rfl,Vx hn ⟨rfl,fin i o2 hi qT⟩⟩⟩
 refine⟨g,0,rfl,some S.ml,AD hg rfl,?_⟩;have hl:=h2.own.1;rcases h2.Vv with ⟨_,m⟩|⟨_,m⟩
 .exact go [] (m.mono h1.ext) (.inl rfl)
 .exact go _ (m.mono h1.ext) (.inr ⟨S.loc.1,S.loc.2.1,S.loc.2.2,rfl,by simp at hl;omega⟩)
end
end TwW
end
