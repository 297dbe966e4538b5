/-
  Part 6 of the proof that the law EvalRangesUptoCardSaid of the given program answers true for every input of the given statement; the input reads behind the call as it did. (The texts: packed from 29 texts. Names are shortened by the packing program, for the bound on size.)
-/
import Derived.Test.YtamakbhlhpaiiaaGreatDoorA5
import Ieee.Arith
import Derived.Lib.SplitLaws
import Derived.Laws.MakeOwn
set_option linter.all false
section
namespace TwW
open Ieee
theorem Sx {m k:Nat}(hm:m≠0):(m*2^k).log2=m.log2+k:=by
 have A:m*2^k≠0:=AqM hm (ApK.1 (Ao1 (by decide)));apply Nat.le_antisymm
 .have:=(AqO A (k:=m.log2+k+1)).2 (by
   rw[show m.log2+k+1=(m.log2+1)+k by omega,Ao2];exact Ap5 Nat.lt_log2_self (Ao1 (by decide)))
  omega
 .rw[Nat.le_log2 A,Ao2];exact AnM _ (Nat.log2_self_le hm)
theorem Qh (w:Toward)(s:Bool)(n:Nat):w.cut s n 0=n:=by
 unfold Toward.cut;simp only[Nat.zero_min,Aox,Nat.div_one,Nat.mod_one];cases w<;>simp
theorem xd {s:Bool}{q d:Nat}(A:q≠0):Toward.even.cut s (q*2^d) d=q:=by
 have hp:0<2^d:=Ao1 (by decide);unfold Toward.cut;rw[Sx A,AoK (by omega),Ap8];simp only[Nat.mul_div_cancel _ hp,Nat.mul_mod_left];have:(2^d==2*0)=false:=by
  rw[AoN];omega
 simp[this]
theorem xe {s:Bool}{m d k:Nat}(hm:m≠0):Toward.even.cut s (m*2^k) (d+k)=Toward.even.cut s m d:=by
 have A:0<2^k:=Ao1 (by decide);unfold Toward.cut;rw[Sx hm,show min (d+k) (m.log2+k+2)=min d (m.log2+2)+k by omega];generalize min d (m.log2+2)=g;rw[Ap8,Ap8,Ao2];have hg:0<2^g:=Ao1 (by decide);have C:m*2^k/(2^g*2^k)=m/2^g:=Nat.mul_div_mul_right _ _ A;have G:m*2^k%(2^g*2^k)=m%2^g*2^k:=Nat.mul_mod_mul_right _ _ _;simp only[C,G];have e3:decide (2^g*2^k<2*(m%2^g*2^k))=decide (2^g<2*(m%2^g)):=Ane.2 (by
  rw[<-ApH];exact Nat.mul_lt_mul_right A)
 have e4:(2^g*2^k==2*(m%2^g*2^k))=(2^g==2*(m%2^g)):=by
  rw[<-ApH,ApM,AoA,AoA];exact Nat.mul_left_inj (ApK.1 A)
 rw[e3,e4]
theorem lpD:double.leastPlace=-1074:=rfl
theorem fb:((double.fractionBits:Nat):Int)=52:=by kernel_rfl
theorem dn {s:Bool}{m k:Nat}{p:Int}:double.nearest s (m*2^k) (p-k)=double.nearest s m p:=by
 by_cases hm:m=0
 .subst hm;rw[Anz];unfold Format.nearest;simp
 have A:m*2^k≠0:=AqM hm (ApK.1 (Ao1 (by decide)));unfold Format.nearest;rw[Amb hm,Amb A,Sx hm,show p-(k:Int)+((m.log2+k:Nat):Int)-((double.fractionBits:Nat):Int)=p+(m.log2:Nat)-((double.fractionBits:Nat):Int) by omega];generalize max (p+(m.log2:Nat)-((double.fractionBits:Nat):Int)) double.leastPlace=L;have key:Toward.even.cut s ((m*2^k) <<< (p-k-L).toNat) (L-(p-k)).toNat=Toward.even.cut s (m <<< (p-L).toNat) (L-p).toNat:=by
  by_cases G:L<=p
  .have C:(L-p).toNat=0:=by omega
   rw[C,Qh,Api,Api];by_cases h2:L<=p-k
   .rw[show(L-(p-k)).toNat=0 by omega,Qh,ApH,<-Ao2]
    congr 2;omega
   .rw[show(p-k-L).toNat=0 by omega,Nat.pow_zero,An5];have:m*2^k=m*2^(p-L).toNat*2^(L-(p-k)).toNat:=by
     rw[ApH,<-Ao2]
     congr 2;omega
    rw[this,xd (AqM hm (ApK.1 (Ao1 (by decide))))]
  .rw[show(p-k-L).toNat=0 by omega,show(p-L).toNat=0 by omega,Aox,Aox,show(L-(p-k)).toNat=(L-p).toNat+k by omega,xe hm]
 dsimp only;rw[key]
theorem rk {x:Nat}(hx:x<18446744073709551616)(G:(double.read x).isNaN=false):double.write (double.read x)=x:=by
 have e1:double.signWeight=9223372036854775808:=by kernel_rfl
 have e2:double.binade=4503599627370496:=by kernel_rfl
 have A:double.infRung=9218868437227405312:=by kernel_rfl
 have hw:∀r,r=x%9223372036854775808->double.word (x/9223372036854775808%2==1) r=x:=λr hr=>by
  subst hr;unfold Format.word;rw[e1];split
  .rename_i h;rw[AoA]at h;omega
  .rename_i h;rw[AoA]at h;omega
 unfold Format.read at G ⊢;simp only[e1,e2,A]at G ⊢;split
 .rename_i C;simp only[Format.write];unfold Format.nearest;split
  .rename_i h0;exact hw 0 h0.symm
  .rename_i h0;have hl:(x%9223372036854775808).log2<52:=(AqO h0).2 (by omega);dsimp only;rw[lpD,fb,show max ((-1074:Int)+((x%9223372036854775808).log2:Nat)-52) (-1074)=-1074 by omega];simp only[Int.sub_self,Int.toNat_zero,Aox,Qh,Anz,Anq,A];rw[AoK (by omega)];exact hw _ rfl
 .split
  .rename_i C h2;simp only[Format.write];unfold Format.nearest;have hm:4503599627370496+x%9223372036854775808%4503599627370496≠0:=by omega
   have hl:(4503599627370496+x%9223372036854775808%4503599627370496).log2=52:=by
    rw[Nat.log2_eq_iff hm];omega
   rw[Amb hm,hl,lpD,fb];dsimp only;have hd:1<=x%9223372036854775808/4503599627370496:=by omega
   rw[show max ((-1074:Int)+((x%9223372036854775808/4503599627370496-1:Nat):Int)+((52:Nat):Int)-52) (-1074)=-1074+((x%9223372036854775808/4503599627370496-1:Nat):Int) by omega];simp only[Int.sub_self,Int.toNat_zero,Aox,Qh,e2,A];rw[show((-1074:Int)+((x%9223372036854775808/4503599627370496-1:Nat):Int) - -1074).toNat=x%9223372036854775808/4503599627370496-1 by omega];refine hw _ ?_;rw[AoK (by omega)];omega
  .split
   .rename_i C h2 h3;simp only[Format.write,A];exact hw _ h3.symm
   .rename_i C h2 h3;rw[Amb C,Amb h2,Amb h3]at G;simp[Datum.isNaN]at G
def flN (n:Int):Nat:=double.nearest (decide (n<0)) n.natAbs 0
theorem AGu {n:Int}(hn:n.natAbs<9007199254740992):∃k:Nat,double.read (flN n)=.number (decide (n<0)) (n.natAbs*2^k) (0-(k:Int)):=by
 have e1:double.signWeight=9223372036854775808:=by kernel_rfl
 have e2:double.binade=4503599627370496:=by kernel_rfl
 have e3:double.infRung=9218868437227405312:=by kernel_rfl
 by_cases h0:n=0
 .subst h0;obtain⟨kq,C⟩:∃k:Nat,(k:Int)=1074:=⟨1074,rfl⟩;refine⟨kq,?_⟩;have:flN 0=0:=by unfold flN Format.nearest;rfl
  rw[this];have:double.read 0=.number false 0 (-1074):=by kernel_rfl
  rw[this,show(0:Int).natAbs=0 from rfl,Anz,C];rfl
 .have hm:n.natAbs≠0:=by omega
  have hl:n.natAbs.log2<53:=(AqO hm).2 (by omega);have G:=Nat.log2_self_le hm;have Av:=Nat.lt_log2_self (n:=n.natAbs);have hz:n.natAbs*2^(52-n.natAbs.log2)<9007199254740992/\4503599627370496<=n.natAbs*2^(52-n.natAbs.log2):=by
   constructor
   .have A:=Ap5 Av (Ao1 (n:=52-n.natAbs.log2) (show 0<2 by decide));rw[<-Ao2,show n.natAbs.log2+1+(52-n.natAbs.log2)=53 by omega]at A;exact A
   .have A:=AnM (2^(52-n.natAbs.log2)) G;rw[<-Ao2,show n.natAbs.log2+(52-n.natAbs.log2)=52 by omega]at A;exact A
  refine⟨52-n.natAbs.log2,?_⟩;have hf:flN n=double.word (decide (n<0)) ((1022+n.natAbs.log2)*4503599627370496+n.natAbs*2^(52-n.natAbs.log2)):=by
   unfold flN Format.nearest;rw[Amb hm,lpD,fb];dsimp only;rw[show max ((0:Int)+(n.natAbs.log2:Nat)-52) (-1074)=(n.natAbs.log2:Nat)-52 by omega,show((0:Int)-((n.natAbs.log2:Nat)-52)).toNat=52-n.natAbs.log2 by omega,show(((n.natAbs.log2:Nat):Int)-52-0).toNat=0 by omega,Qh,Api,e2,e3,show((((n.natAbs.log2:Nat):Int)-52) - -1074).toNat=1022+n.natAbs.log2 by omega,AoK (by omega)]
  rw[hf];generalize n.natAbs*2^(52-n.natAbs.log2)=M at *;generalize hg:n.natAbs.log2=g at *;have hw:∀s,double.word s ((1022+g)*4503599627370496+M)%9223372036854775808=(1022+g)*4503599627370496+M/\(double.word s ((1022+g)*4503599627370496+M)/9223372036854775808%2==1)=s:=by
   intro s;unfold Format.word;rw[e1];cases s
   .rw[Amb (by decide)];refine⟨by omega,?_⟩;rw[AoN];omega
   .rw[Amc rfl];refine⟨by omega,?_⟩;rw[AoA];omega
  unfold Format.read;simp only[e1,e2,e3];rw[(hw _).1,(hw _).2,Amb (by omega),Amc (by omega),lpD]
  congr 1
  .omega
  .omega
end TwW
end
section
namespace TwW
open Go Tw Go.RowKit Go.Proofs.Tryz
structure Cl where
 kind:Int
 text:ByteArray
 span:Int
 op:Nat
 fn:Nat
 ag:Nat
 kept:Bool
 big:Bool
 name:Bool
 lp:Bool
 rp:Bool
 comma:Bool
 lsq:Bool
 rsq:Bool
 lbr:Bool
 minus:Bool
 bool:Bool
 on:Bool
 ign:Bool
 by_:Bool
 out:Bool
 off:Bool
end TwW
end
section
namespace TwW
open Go Tw
def Oct (l:List Int):Prop:=∀x∈l,0<=x/\x<256
theorem UE {l:List Int}(h:Oct l):(l.map λx=>UInt8.ofNat x.toNat).map (λb=>(b.toNat:Int))=l:=by
 rw[Apt]
 conv=>rhs;rw[<-List.map_id l]
 refine List.map_congr_left λx A=>?_;have:=h x A;simp only[Function.comp,id,Ap3];omega
theorem str_inj {l m:List Int}(A:Oct l)(hm:Oct m)(h:strOfNums l=strOfNums m):l=m:=by
 rw[<-UE A,<-UE hm,bL,bL]at h;have:=Amz (λb:ByteArray=>b.data.toList) h;rw[<-UE A,<-UE hm];exact Amz _ this
theorem rm:∀n:Nat,Oct (uv n):=by
 intro n
 induction n using Nat.strongRecOn with
 | _ n C=>
  by_cases h:128<=n
  .rw[Si h];intro x A;rcases Aml.1 A with rfl|A
   .omega
   .exact C _ (by omega) x A
  .rw[Hh h];intro x A;rw[Amo]at A;omega
theorem uf (s:ByteArray):Oct (oW s):=λx A=>by
 obtain⟨u,_,rfl⟩:=AnA.1 A;have:=u.toNat_lt;omega
theorem Oct.app {l m:List Int}(h:Oct l)(g:Oct m):Oct (l++m):=λx A=>by
 rcases Am6.1 A with A|A
 .exact h x A
 .exact g x A
theorem mu (ls:List Lb):Oct (wm ls):=by
 unfold wm;refine(rm _).app λx A=>?_;obtain⟨y,_,C⟩:=AqI.1 A;exact(((rm _).app (uf _)).app ((rm _).app (uf _))) x C
theorem mz:∀{a b:List Lb},a.length=b.length->a.flatMap SA=b.flatMap SA->a=b
 | [],[],_,_=>rfl
 | [],_::_,h,_=>by simp at h
 | _::_,[],h,_=>by simp at h
 | x::a,y::b,hl,h=>by
  rw[AoI,AoI,show SA x=uv x.1.size++oW x.1++(uv x.2.size++oW x.2) from rfl,show SA y=uv y.1.size++oW y.1++(uv y.2.size++oW y.2) from rfl]at h;simp only[AnO]at h;obtain⟨A,h⟩:=qj _ _ _ _ h;obtain⟨C,h⟩:=List.append_inj h (by rw[RB,RB];exact A);obtain⟨G,h⟩:=qj _ _ _ _ h;obtain⟨h4,h⟩:=List.append_inj h (by rw[RB,RB];exact G);have e:x=y:=Prod.ext (uB C) (uB h4);rw[e,mz (by simpa using hl) h]
theorem Qi {a b:List Lb}(h:Dy a=Dy b):a=b:=by
 have:=str_inj (mu a) (mu b) h;unfold wm at this;obtain⟨A,C⟩:=qj _ _ _ _ this;exact mz A C
theorem nB {ls:List Lb}{v:Int}:∀{gs:List Rg},(∀g∈gs,g.ls≠ls)->EO ls v gs=gs++[⟨ls,[v]⟩]
 | [],_=>rfl
 | g::gs,h=>by
  unfold EO;rw[Amb (λe=>h g (Amu ..) (Qi e)),nB λx A=>h x (Amk _ A)];rfl
end TwW
end
section
namespace TwW
open Go Tw
section
variable {w:ByteArray}{ss:List Sr}{t:Int}
theorem cD {α:Type}{k:ByteArray}{x:α}:∀{m:List (ByteArray×α)},(∀y∈m,y.1≠k)->KY m k x=m++[(k,x)]
 | [],_=>rfl
 | (a,b)::m,h=>by
  unfold KY;rw[Amb (h (a,b) (Amu ..)),cD λy A=>h y (Amk _ A)];rfl
theorem nC {n:Nd}:∀{L:List El} {m:List (ByteArray×El)},L.Pairwise (λa b=>EG n a.ls≠EG n b.ls)->(∀y∈m,∀x∈L,y.1≠Dy (EG n x.ls))->L.foldl (λm x=>KY m (Dy (EG n x.ls)) x) m=m++L.map λx=>(Dy (EG n x.ls),x)
 | [],m,_,_=>by simp
 | x::L,m,h,hm=>by
  obtain⟨G,h2⟩:=AnH.1 h;rw[AoC,cD λy A=>hm y A x (Amu ..),nC h2 (λy A z C=>?_),AnT,AnO]
  .rfl
  .rcases Am6.1 A with A|A
   .exact hm y A z (Amk _ C)
   .rw[Amo]at A;subst A;exact λe=>G z C (Qi e)
theorem Vg {α:Type}{f:α->Option α}{p:α->Bool}:∀{l:List α},(∀x∈l,f x=if p x=true then some x else none)->l.filterMap f=l.filter p
 | [],_=>rfl
 | x::l,h=>by
  rw[List.filterMap_cons,h x (Amu ..),Aoq,Vg λy A=>h y (Amk _ A)];cases p x<;>rfl
end
end TwW
end
section
namespace TwW
open Go Tw Go.RowKit Go.Proofs.Tryz
theorem ADM:∀x y:List UInt8,Lib.compareBytes x y=if Op.bytesLess x y=true then -1 else if x=y then 0 else 1
 | [],[]=>rfl
 | [],_::_=>rfl
 | _::_,[]=>by simp[Lib.compareBytes,Op.bytesLess]
 | a::x,b::y=>by
  have C:=ADM x y;unfold Lib.compareBytes Op.bytesLess;by_cases h:a=b
  .subst h;simp[C]
  .by_cases A:a<b
   .simp[h,A]
   .have:b<a:=by
     have G:a.toNat≠b.toNat:=λe=>h (AoM.1 e);have h2:¬a.toNat<b.toNat:=A;show b.toNat<a.toNat
     omega
    simp[h,A,this]
theorem toList_eq (a:ByteArray):a.toList=a.data.toList:=by
 exact ByteArray.toList_eq a
section
variable {Z:Hp}{R:Rr}
theorem cE {a b:ByteArray}(h:R (.returned (.I (GF a b))) Z):Spec prog 65 #[.string a,.string b] Z R:=by
 have e:GF a b=if Op.bytesLess a.toList b.toList=true then -1 else if a.toList=b.toList then 0 else 1:=by
  unfold GF;rw[ADM,toList_eq,toList_eq]
 rw[e]at h;refine YQ.start ⟨Op.bytesLess a.toList b.toList,λw _=>by simp[eqGuard,binOp,Op.stringOp],λht=>?_,λC=>⟨!(sle a b),λw _=>by simp[eqGuard,binOp,Op.stringOp,sle],λht=>?_,λG=>?_⟩⟩
 .rw[Amc ht]at h;exact h
 .have A:sle a b=false:=by simpa using ht
  rw[Amb (by rw[C];decide),Amb (λe=>by unfold sle at A;rw[e]at A;simp at A)]at h;exact h
 .have A:sle a b=true:=by simpa using G
  have:a.toList=b.toList:=by
   unfold sle at A;rw[C]at A;simpa using A
  rw[Amb (by rw[C];decide),Amc this]at h;exact h
theorem IZ {p q:Option Addr}{n c m d:Nat}{ls C:List Lb}(hr:Db Z p n ls)(hs:Db Z q m C)(h:R (.returned (.I (Ap ls C))) Z):Spec prog 44 #[.slice p n c,.slice q m d] Z R:=by
 have hl:ls.length=n:=hr.1;have hm:C.length=m:=hs.1;refine F6.start ?_
 suffices H:∀g k:Nat,n-k=g->k<=n->k<=m->Ap ls C=Ap (ls.drop k) (C.drop k)->F6.E5 R p n c q m d (k:Int) Z from H n 0 rfl (Amh _) (Amh _) rfl
 intro g
 induction g with
 | zero=>
  intro k hg hk bO A;have Rm:k=n:=by omega
  rw[Amm (by omega)]at A;refine F6.Ag ⟨λhh=>by omega,λ_=>⟨λh1=>?_,λh1=>⟨λh2=>by omega,λh2=>?_⟩⟩⟩
  .obtain⟨y,hy⟩:=hs.ex (k:=k) (by omega);rw[BF hy]at A;rw[A]at h;exact h
  .rw[Amm (by omega)]at A;rw[A]at h;exact h
 | succ g ih=>
  intro k hg hk bO A;have Rm:k<n:=by omega
  obtain⟨x,hx⟩:=hr.ex Rm;obtain⟨b,o,hp,KZ⟩:=Db.at hr hx;by_cases hm':k<m
  .obtain⟨y,hy⟩:=hs.ex hm';obtain⟨b',o',hq,Nz⟩:=Db.at hs hy;subst hp;subst hq;rw[BF hx,BF hy]at A;have A:Ap ls C=if NR GF GF x y=0 then Ap (ls.drop (k+1)) (C.drop (k+1)) else NR GF GF x y:=A
   refine F6.Ag ⟨λ_=>⟨λ_=>⟨b,o,rfl,by omega,x.1,by simpa using KZ.1,b',o',rfl,by omega,y.1,by simpa using Nz.1,cE ⟨_,rfl,λAi=>?_,λheq=>⟨by omega,x.2,by simpa using KZ.2.1,by omega,y.2,by simpa using Nz.2.1,cE ⟨_,rfl,λAi=>?_,λAcy=>⟨AI Rm hr.big,ih (k+1) (by omega) (by omega) (by omega) ?_⟩⟩⟩⟩⟩,λhh=>by omega⟩,λhh=>by omega⟩
   .have G:NR GF GF x y=GF x.1 y.1:=by unfold NR;rw[Amb Ai]
    rw[G,Amb Ai]at A;rw[A]at h;exact h
   .have G:NR GF GF x y=GF x.2 y.2:=by unfold NR;rw[Amc (Amy.1 heq)]
    rw[G,Amb Ai]at A;rw[A]at h;exact h
   .have G:NR GF GF x y=GF x.2 y.2:=by unfold NR;rw[Amc (Amy.1 heq)]
    rw[G,Amc (Amy.1 Acy)]at A;exact A
  .rw[BF hx,show C.drop k=[] from Amm (by omega)]at A;refine F6.Ag ⟨λ_=>⟨λhh=>by omega,λ_=>⟨λh1=>by omega,λh1=>⟨λh2=>?_,λh2=>by omega⟩⟩⟩,λhh=>by omega⟩;rw[A]at h;exact h
theorem cG {p:Nat->Bool}(h:(List.range 256).all p=true)(u:UInt8):p u.toNat=true:=AnJ.1 h _ (Aoe.2 u.toNat_lt)
theorem AKE (u:UInt8):Go.bits .and .u8 ((u.toNat:Nat):Int) 31=((u.toNat%32:Nat):Int):=Amg (cG (p:=λn=>decide (Go.bits .and .u8 (n:Int) 31=((n%32:Nat):Int))) (by kernel_rfl) u)
theorem AKF (u:UInt8):Go.bits .and .u8 ((u.toNat:Nat):Int) 15=((u.toNat%16:Nat):Int):=Amg (cG (p:=λn=>decide (Go.bits .and .u8 (n:Int) 15=((n%16:Nat):Int))) (by kernel_rfl) u)
theorem AW9 (u:UInt8):Go.bits .and .u8 ((u.toNat:Nat):Int) 7=((u.toNat%8:Nat):Int):=Amg (cG (p:=λn=>decide (Go.bits .and .u8 (n:Int) 7=((n%8:Nat):Int))) (by kernel_rfl) u)
theorem AXA (u:UInt8):Go.bits .and .u8 ((u.toNat:Nat):Int) 63=((u.toNat%64:Nat):Int):=Amg (cG (p:=λn=>decide (Go.bits .and .u8 (n:Int) 63=((n%64:Nat):Int))) (by kernel_rfl) u)
theorem ADN (u:UInt8):Go.bits .and .u8 ((u.toNat:Nat):Int) 192=((u.toNat/64*64:Nat):Int):=Amg (cG (p:=λn=>decide (Go.bits .and .u8 (n:Int) 192=((n/64*64:Nat):Int))) (by kernel_rfl) u)
theorem wrap32 {x:Int}(h:0<=x/\x<2147483648):IntKind.i32.wrap x=x:=by
 simp[IntKind.wrap,IntKind.bits,IntKind.signed];omega
theorem Acz {a b:Nat}(ha:a<1048576)(hb:b<64):Go.bits .or .i32 ((a*64:Nat):Int) (b:Int)=((a*64+b:Nat):Int):=by
 have e:Go.bits .or .i32 ((a*64:Nat):Int) (b:Int)=IntKind.i32.wrap (((BitVec.ofInt 32 ((a*64:Nat):Int)) ||| (BitVec.ofInt 32 (b:Int))).toNat:Int):=rfl;have A:(BitVec.ofInt 32 ((a*64:Nat):Int)).toNat=a*64:=by
  rw[ApR];have:(((2^32:Nat):Int))=4294967296:=by decide
  omega
 have C:(BitVec.ofInt 32 (b:Int)).toNat=b:=by
  rw[ApR];have:(((2^32:Nat):Int))=4294967296:=by decide
  omega
 have G:=Nat.two_pow_add_eq_or_of_lt (i:=6) hb a;rw[e,BitVec.toNat_or,A,C,Apr a 64,show(64:Nat)=2^6 from rfl,<-G,Apr (2^6) a];exact wrap32 (by omega)
theorem Aj {s:ByteArray}{k i n v:Nat}{A:Int}{u:UInt8}(hk:k+i<=1000000000)(hi:i<n)(hu:s.data.toList[k+i]?=some u)(h1:128<=u.toNat/\u.toNat<=191)(hv:v<32768)
  (h:AO.bD R s (k:Int) (n:Int) A ((v*64+(u.toNat-128):Nat):Int) ((i+1:Nat):Int) Z):AO.bD R s (k:Int) (n:Int) A (v:Int) (i:Int) Z:=by
 have D4:s.data[Int.toNat ((k:Int)+(i:Int))]?=some u:=by
  rw[show Int.toNat ((k:Int)+(i:Int))=k+i by omega];simpa using hu
 refine AO.XX ⟨λ_=>⟨by unfold AF;omega,u,by omega,D4,λdT h62=>⟨λAi=>?_,λ_=>⟨by decide,λx65 h65=>⟨by unfold AF;omega,u,by omega,D4,λx71 C yN h72 x73 h73=>?_⟩⟩⟩⟩,λhh=>by omega⟩
 .rw[h62,ADN]at Ai;exact absurd (by omega) Ai
 .have G:x65=((v*64:Nat):Int):=by
   rw[h65];have:(v:Int)*2^Int.toNat 6=((v*64:Nat):Int):=by
    show(v:Int)*64=_
    omega
   rw[this];exact wrap32 (by omega)
  rw[AXA]at C;have e72:yN=((u.toNat%64:Nat):Int):=by
   rw[h72,C];exact wrap32 (by omega)
  have e73:x73=((v*64+(u.toNat-128):Nat):Int):=by
   rw[h73,G,e72,Acz (by omega) (by omega)];omega
  rw[e73];refine⟨by unfold AF;omega,?_⟩;rw[show((i+1:Nat):Int)=(i:Int)+1 by omega]at h;exact h
theorem RI {m lo hi:Nat}{L:List UInt8}{k:Nat}(h:vl (m+1) lo hi (L.drop k)=true):∃u,L[k]?=some u/\(lo<=u.toNat/\u.toNat<=hi)/\vl m 128 191 (L.drop (k+1))=true:=by
 cases C:L[k]? with
 | none=>
  rw[Amm (AoB.1 C)]at h;cases h
 | some u=>
  rw[BF C,vl]at h;by_cases A:u.toNat<lo\/hi<u.toNat
  .rw[Amc A]at h;cases h
  .rw[Amb A]at h;exact⟨u,rfl,by omega,h⟩
theorem cH {s:ByteArray}{k:Int}{n:Nat}{A v:Int}(h:R (.returned (.I (n:Int))) Z)(h1:A<=v)(h2:v<=1114111)(G:¬(55296<=v/\v<=57343)):AO.bD R s k (n:Int) A v (n:Int) Z:=
 AO.XX ⟨λC=>by omega,λ_=>⟨λC=>by omega,λ_=>⟨λC=>by omega,λ_=>⟨λh4=>⟨λh5=>absurd ⟨h4,h5⟩ G,λ_=>h⟩,λ_=>h⟩⟩⟩⟩
theorem AGv {s:ByteArray}{k:Nat}(hk:k<s.size)(hs:s.size<=1000000)(A:vl 0 128 191 (s.data.toList.drop k)=true):
  ∃m:Nat,1<=m/\k+m<=s.size/\vl 0 128 191 (s.data.toList.drop (k+m))=true/\∀{Z:Hp} {R:Rr},R (.returned (.I (m:Int))) Z->Spec prog 102 #[.string s,.I (k:Int)] Z R:=by
 have J2:s.data.toList.length=s.size:=rfl;obtain⟨u,hu⟩:∃u,s.data.toList[k]?=some u:=⟨_,Amf (by omega)⟩;have D4:s.data[Int.toNat (k:Int)]?=some u:=by simpa using hu
 rw[BF hu,vl]at A;have lt:∀{j:Nat} {w:UInt8},s.data.toList[j]?=some w->j<s.size:=λh=>by
  have:=(Amd.1 h).1;omega
 have two:∀{lo hi:Nat},192<=u.toNat/\u.toNat<224->vl 1 lo hi (s.data.toList.drop (k+1))=true->128<=lo->hi<=191->(∀v:Nat,lo<=v->v<=hi->128<=(u.toNat%32)*64+(v-128))->∃m:Nat,1<=m/\k+m<=s.size/\vl 0 128 191 (s.data.toList.drop (k+m))=true/\∀{Z:Hp} {R:Rr},R (.returned (.I (m:Int))) Z->Spec prog 102 #[.string s,.I (k:Int)] Z R:=fun {lo hi} hc h1 fl W7 hb=>by
  obtain⟨u1,a1,b1,c1⟩:=RI h1;have d1:=hb u1.toNat b1.1 b1.2;have:=lt a1;refine⟨2,by decide,by omega,c1,fun {Z R} h=>AO.start ⟨u,by omega,D4,λC=>by omega,λ_=>⟨λ_=>⟨λ_ JT h24 Ki h25=>?_,λC=>by omega⟩,λC=>by omega⟩⟩⟩;rw[AKE]at h24;have e:Ki=((u.toNat%32:Nat):Int):=by rw[h25,h24];exact wrap32 (by omega)
  rw[e];refine AO.FA ⟨by unfold AF;omega,λC=>by omega,λ_=>?_⟩;refine Aj (n:=2) (i:=1) (by omega) (by decide) a1 (by omega) (by omega) ?_;exact cH (n:=2) h (by omega) (by omega) (by omega)
 have G:∀{lo hi:Nat},224<=u.toNat/\u.toNat<240->vl 2 lo hi (s.data.toList.drop (k+1))=true->128<=lo->hi<=191->(∀v w:Nat,lo<=v->v<=hi->128<=w->w<=191->2048<=((u.toNat%16)*64+(v-128))*64+(w-128)/\¬(55296<=((u.toNat%16)*64+(v-128))*64+(w-128)/\((u.toNat%16)*64+(v-128))*64+(w-128)<=57343))->∃m:Nat,1<=m/\k+m<=s.size/\vl 0 128 191 (s.data.toList.drop (k+m))=true/\∀{Z:Hp} {R:Rr},R (.returned (.I (m:Int))) Z->Spec prog 102 #[.string s,.I (k:Int)] Z R:=fun {lo hi} hc h1 fl W7 hb=>by
  obtain⟨u1,a1,b1,c1⟩:=RI h1;obtain⟨u2,a2,b2,c2⟩:=RI c1;have d1:=hb u1.toNat u2.toNat b1.1 b1.2 b2.1 b2.2;have:=lt a2;refine⟨3,by decide,by omega,c2,fun {Z R} h=>AO.start ⟨u,by omega,D4,λC=>by omega,λ_=>⟨λ_=>⟨λC=>by omega,λ_=>⟨λ_=>⟨λ_ UX h34 Q1 h35=>?_,λC=>by omega⟩,λC=>by omega⟩⟩,λC=>by omega⟩⟩⟩;rw[AKF]at h34;have e:Q1=((u.toNat%16:Nat):Int):=by rw[h35,h34];exact wrap32 (by omega)
  rw[e];refine AO.FA ⟨by unfold AF;omega,λC=>by omega,λ_=>?_⟩;refine Aj (n:=3) (i:=1) (by omega) (by decide) a1 (by omega) (by omega) ?_;refine Aj (n:=3) (i:=2) (by omega) (by decide) a2 (by omega) (by omega) ?_;exact cH (n:=3) h (by omega) (by omega) (by omega)
 have four:∀{lo hi:Nat},240<=u.toNat/\u.toNat<248->vl 3 lo hi (s.data.toList.drop (k+1))=true->128<=lo->hi<=191->(∀v w y:Nat,lo<=v->v<=hi->128<=w->w<=191->128<=y->y<=191->65536<=(((u.toNat%8)*64+(v-128))*64+(w-128))*64+(y-128)/\(((u.toNat%8)*64+(v-128))*64+(w-128))*64+(y-128)<=1114111)->∃m:Nat,1<=m/\k+m<=s.size/\vl 0 128 191 (s.data.toList.drop (k+m))=true/\∀{Z:Hp} {R:Rr},R (.returned (.I (m:Int))) Z->Spec prog 102 #[.string s,.I (k:Int)] Z R:=fun {lo hi} hc h1 fl W7 hb=>by
  obtain⟨u1,a1,b1,c1⟩:=RI h1;obtain⟨u2,a2,b2,c2⟩:=RI c1;obtain⟨u3,a3,b3,c3⟩:=RI c2;have d1:=hb u1.toNat u2.toNat u3.toNat b1.1 b1.2 b2.1 b2.2 b3.1 b3.2;have:=lt a3;refine⟨4,by decide,by omega,c3,fun {Z R} h=>AO.start ⟨u,by omega,D4,λC=>by omega,λ_=>⟨λ_=>⟨λC=>by omega,λ_=>⟨λ_=>⟨λC=>by omega,λ_=>⟨λ_=>⟨λ_ Wr h44 jt h45=>?_,λC=>by omega⟩,λC=>by omega⟩⟩,λC=>by omega⟩⟩,λC=>by omega⟩⟩⟩;rw[AW9]at h44;have e:jt=((u.toNat%8:Nat):Int):=by rw[h45,h44];exact wrap32 (by omega)
  rw[e];refine AO.FA ⟨by unfold AF;omega,λC=>by omega,λ_=>?_⟩;refine Aj (n:=4) (i:=1) (by omega) (by decide) a1 (by omega) (by omega) ?_;refine Aj (n:=4) (i:=2) (by omega) (by decide) a2 (by omega) (by omega) ?_;refine Aj (n:=4) (i:=3) (by omega) (by decide) a3 (by omega) (by omega) ?_;exact cH (n:=4) h (by omega) (by omega) (by omega)
 by_cases h1:u.toNat<128
 .rw[Amc h1]at A;exact⟨1,by decide,by omega,A,fun {Z R} h=>AO.start ⟨u,by omega,D4,λ_=>h,λC=>by omega⟩⟩
 rw[Amb h1]at A;by_cases h2:194<=u.toNat/\u.toNat<=223
 .rw[Amc h2]at A;exact two (by omega) A (by decide) (by decide) λv a b=>by omega
 rw[Amb h2]at A;by_cases h3:224<=u.toNat/\u.toNat<=239
 .rw[Amc h3]at A;by_cases h4:u.toNat=224
  .rw[Amc h4]at A;exact G (by omega) A (by decide) (by decide) λv w a b c d=>by omega
  rw[Amb h4]at A;by_cases h5:u.toNat=237
  .rw[Amc h5]at A;exact G (by omega) A (by decide) (by decide) λv w a b c d=>by omega
  rw[Amb h5]at A;exact G (by omega) A (by decide) (by decide) λv w a b c d=>by omega
 rw[Amb h3]at A;by_cases h6:240<=u.toNat/\u.toNat<=244
 .rw[Amc h6]at A;by_cases h7:u.toNat=240
  .rw[Amc h7]at A;exact four (by omega) A (by decide) (by decide) λv w y a b c d e f=>by omega
  rw[Amb h7]at A;by_cases h8:u.toNat=244
  .rw[Amc h8]at A;exact four (by omega) A (by decide) (by decide) λv w y a b c d e f=>by omega
  rw[Amb h8]at A;exact four (by omega) A (by decide) (by decide) λv w y a b c d e f=>by omega
 rw[Amb h6]at A;cases A
theorem nE {s:ByteArray}(h1:¬(s.size=0\/256<s.size))(G:MN s=true)(h:R (.B true) Z):Spec prog 64 #[.string s] Z R:=by
 refine Ee.start ⟨λA=>by omega,λ_=>⟨λA=>by omega,λ_=>?_⟩⟩
 suffices H:∀g k:Nat,s.size-k=g->k<=s.size->vl 0 128 191 (s.data.toList.drop k)=true->Ee.Au R s (k:Int) Z from H s.size 0 rfl (Amh _) G
 intro g
 induction g using Nat.strongRecOn with
 | ind g ih=>
  intro k hg hk hv;by_cases C:k<s.size
  .obtain⟨m,m1,m2,m3,m4⟩:=AGv C (by omega) hv;refine Ee.Aq ⟨λ_=>m4 ⟨_,rfl,λA=>by omega,λ_=>⟨by unfold AF;omega,?_⟩⟩,λA=>by omega⟩;have:=ih (s.size-(k+m)) (by omega) (k+m) rfl m2 m3;rw[show((k+m:Nat):Int)=(k:Int)+(m:Int) by omega]at this;exact this
  .exact Ee.Aq ⟨λA=>by omega,λ_=>h⟩
end
section
variable {Z:Hp}{R:Rr}
theorem Nf {s:ByteArray}(h:R (.returned (.bool (DR s))) Z):Spec prog 63 #[.string s] Z R:=by
 have J2:s.data.toList.length=s.size:=rfl;refine Jt.start ⟨λh0=>?_,λh0=>⟨λh1=>?_,λh1=>?_⟩⟩
 .have:s.size=0:=by omega
  simpa[DR,this] using h
 .have:¬s.size<=64:=by omega
  simpa[DR,this] using h
 .obtain⟨u,hu⟩:∃u,s.data.toList[0]?=some u:=⟨_,Amf (by omega)⟩;have D4:s.data[Int.toNat (0:Int)]?=some u:=by simpa using hu
  have hh:s.data.toList.head?=some u:=by rw[<-hu];cases s.data.toList<;>rfl
  have C:dgt u=false->Jt.Au R s 0 Z:=λhd=>by
   have e:DR s=s.data.toList.all nch:=by simp[DR,show 0<s.size by omega,show s.size<=64 by omega,hh,hd]
   rw[e]at h;refine uC (s:=s) (pt:=λk=>Jt.Au R s k Z) (ok:=nch) (G:=λt=>R (.B t) Z) (λg=>Jt.Aq ⟨λAv=>by omega,λ_=>g⟩) (λk u hk hu hi A bad=>?_) h (by omega);simp only[nch,Amq,Am2]at A bad;refine Jt.Aq ⟨λAv=>⟨u,by omega,hu,?_⟩,λbH=>by omega⟩;clear h;generalize u.toNat=n at A bad
   repeat' (first|refine⟨λ_=>?_,λ_=>?_⟩|exact⟨hi,A (by omega)⟩|exact bad (by omega))
  simp only[dgt,Am2]at C;refine⟨u,by omega,D4,λh2=>⟨u,by omega,D4,λh3=>?_,λh3=>C (by omega)⟩,λh2=>C (by omega)⟩;have:dgt u=true:=by simp[dgt];omega
  simpa[DR,hh,this] using h
theorem nF {p:Option Addr}{n c:Nat}{ls:List Lb}(A:Db Z p n ls)(hc:FD ls=0)(h:R (.returned (.I 0)) Z):Spec prog 43 #[.slice p n c] Z R:=by
 have hn:ls.length=n:=A.1;have hl:ls.length<=16:=(Ac.of hc).1;have hc0:Fc none ls=0:=by
  unfold FD at hc;rwa[Amb (by omega)]at hc
 refine DP.start ⟨λhh=>by omega,λ_=>?_⟩
 suffices H:∀g k:Nat,n-k=g->k<=n->Fc (if k=0 then none else(ls[k-1]?).map (·.1)) (ls.drop k)=0->DP.Au R p n c (k:Int) Z from H n 0 rfl (Amh _) hc0
 intro g
 induction g with
 | zero=>
  intro k hg hk he;exact DP.Aq ⟨λhh=>by omega,λ_=>h⟩
 | succ g ih=>
  intro k hg hk he;have DI:k<n:=by omega
  obtain⟨x,hx⟩:=A.ex DI;obtain⟨b,o,rfl,KZ⟩:=Db.at A hx;rw[BF hx,Qg]at he;obtain⟨e1,e2,e3,e4⟩:=he;have e1:DR x.1=true:=by simpa using e1
  have next:DP.Au R (aD b o) n c ((k:Int)+1) Z:=by
   have:=ih (k+1) (by omega) (by omega) (by rw[Amb (by omega),AoT,hx];exact e4);rw[show((k+1:Nat):Int)=(k:Int)+1 by omega]at this;exact this
  have C:AF ((k:Int)+1):=AI DI A.big;have e2v:MN x.2=true:=by
   cases hq:MN x.2 with
   | true=>rfl
   | false=>exact absurd (.inr (.inr hq)) e2
  refine DP.Aq ⟨λ_=>⟨b,o,rfl,by omega,x.1,by simpa using KZ.1,Nf ⟨_,rfl,λG=>?_,λ_=>⟨by omega,x.2,by simpa using KZ.2.1,nE (λhh=>e2 (hh.imp id .inl)) e2v ⟨_,rfl,λG=>(by cases G),λ_=>⟨λUp=>?_,λ_=>⟨C,next⟩⟩⟩⟩⟩⟩,λhh=>by omega⟩
  .rw[e1]at G;cases G
  .obtain⟨y,hy⟩:=A.ex (show k-1<n by omega);obtain⟨b',o',hp',Nz⟩:=Db.at A hy;cases hp';have ek:Int.toNat ((k:Int)-1)=k-1:=by omega
   refine⟨by omega,x.1,by simpa using KZ.1,by unfold AF;omega,by unfold In;omega,y.1,by rw[ek];simpa using Nz.1,_,qm,λht=>?_,λ_=>⟨C,next⟩⟩;rw[Amb (by omega),hy]at e3;exact absurd ht e3
theorem UF {p:Option Addr}{n c:Nat}{ss:List Sr}(C:AT 2 Cd Z p n ss)(hc:DJ none ss=true)(h:R (.returned (.I 0)) Z):Spec prog 18 #[.slice p n c] Z R:=by
 have hn:ss.length=n:=C.1;refine Ay.start ?_
 suffices H:∀g k:Nat,n-k=g->k<=n->DJ (if k=0 then none else(ss[k-1]?).map (·.ls)) (ss.drop k)=true->Ay.E5 R p n c (k:Int) Z from H n 0 rfl (Amh _) hc
 intro g
 induction g with
 | zero=>
  intro k hg hk he;exact Ay.Ag ⟨λhh=>by omega,λ_=>h⟩
 | succ g ih=>
  intro k hg hk he;have DI:k<n:=by omega
  obtain⟨s,hs⟩:=C.ex DI;obtain⟨b,o,p1,n1,c1,q,m,d,rfl,A,h1,G,h3⟩:=Cd.at C hs;rw[BA hs,IS]at he;simp only[Amn,Amq]at he;obtain⟨⟨⟨f1,f2⟩,f3⟩,f4⟩:=he;have hm:s.ps.length=m:=G.1;obtain⟨g1,g2⟩:=(Hj _).1 f2;have next:Ay.E5 R (aD b o) n c ((k:Int)+1) Z:=by
   have:=ih (k+1) (by omega) (by omega) (by rw[Amb (by omega),AoT,hs];exact f4);rw[show((k+1:Nat):Int)=(k:Int)+1 by omega]at this;exact this
  have cA:∀g i:Nat,m-i=g->1<=i->i<=m->Ay.Nx R (aD b o) n c (k:Int) (i:Int) Z:=by
   intro g
   induction g with
   | zero=>
    intro i mX h1i hi;exact Ay.Jg ⟨b,o,rfl,by unfold In;omega,q,m,d,by simpa using A.2.1,λhh=>by omega,λ_=>⟨AI DI C.big,next⟩⟩
   | succ g ihp=>
    intro i mX h1i hi;obtain⟨x,hx⟩:=G.ex (show i<m by omega);obtain⟨y,hy⟩:=G.ex (show i-1<m by omega);obtain⟨b2,o2,rfl,KZ⟩:=Ff.at G hx;obtain⟨b3,o3,hq,Nz⟩:=Ff.at G hy;cases hq;have ei:Int.toNat ((i:Int)-1)=i-1:=by omega
    have Av:=g2 (i-1) y x hy (by rw[show i-1+1=i by omega];exact hx);have fD:=G.big;refine Ay.Jg ⟨b,o,rfl,by unfold In;omega,_,m,d,by simpa using A.2.1,λ_=>⟨by unfold In;omega,_,m,d,by simpa using A.2.1,b2,o2,rfl,by unfold In;omega,x.1,by simpa using KZ.1,by unfold In;omega,_,m,d,by simpa using A.2.1,by unfold AF;omega,b2,o2,rfl,by unfold In;omega,y.1,by rw[ei];simpa using Nz.1,λhle=>by omega,λ_=>⟨by unfold AF;omega,?_⟩⟩,λhh=>by omega⟩;have:=ihp (i+1) (by omega) (by omega) (by omega);rw[show((i+1:Nat):Int)=(i:Int)+1 by omega]at this;exact this
  have AXE:Ay.Nx R (aD b o) n c (k:Int) 1 Z:=cA (m-1) 1 rfl (Amr _) (by omega);refine Ay.Ag ⟨λ_=>⟨b,o,rfl,by unfold In;omega,p1,n1,c1,by simpa using A.1,nF h1 f1 ⟨_,rfl,λhh=>absurd rfl hh,λ_=>⟨by unfold In;omega,q,m,d,by simpa using A.2.1,λhh=>by omega,λ_=>⟨λUp=>⟨by unfold AF;have:=C.big;omega,by unfold In;omega,?_⟩,λ_=>AXE⟩⟩⟩⟩,λhh=>by omega⟩;obtain⟨s',Uq⟩:=C.ex (k:=k-1) (by omega);obtain⟨_,_,p1',n1',c1',_,_,_,WO,q6,wv,_,_⟩:=Cd.at C Uq;cases WO;have e1:Int.toNat ((k:Int)-1)=k-1:=by omega
  rw[Amb (by omega),Uq]at f3;refine⟨p1',n1',c1',by rw[e1];simpa using q6.1,by unfold In;omega,p1,n1,c1,by simpa using A.1,IZ wv h1 ⟨_,rfl,λbH=>?_,λ_=>AXE⟩⟩;have f3:Ap s'.ls s.ls<0:=by simpa using f3
  omega
end
section
variable {Z:Hp}{R:Rr}
abbrev ChA (s:ByteArray)(k:Nat):Prop:=∃m:Nat,((m=0/\vl 0 128 191 (s.data.toList.drop k)=false)\/(1<=m/\k+m<=s.size/\vl 0 128 191 (s.data.toList.drop k)=vl 0 128 191 (s.data.toList.drop (k+m))))/\∀{Z:Hp} {R:Rr},R (.returned (.I (m:Int))) Z->Spec prog 102 #[.string s,.I (k:Int)] Z R
theorem Hm {s:ByteArray}{k i n v:Nat}{A:Int}{u:UInt8}(hk:k+i<=1000000000)(hi:i<n)(hu:s.data.toList[k+i]?=some u)(h1:¬(128<=u.toNat/\u.toNat<=191))(h:R (.returned (.I 0)) Z):AO.bD R s (k:Int) (n:Int) A (v:Int) (i:Int) Z:=by
 have D4:s.data[Int.toNat ((k:Int)+(i:Int))]?=some u:=by
  rw[show Int.toNat ((k:Int)+(i:Int))=k+i by omega];simpa using hu
 refine AO.XX ⟨λ_=>⟨by unfold AF;omega,u,by omega,D4,λdT G=>⟨λAi=>h,λC=>?_⟩⟩,λhh=>by omega⟩;rw[G,ADN]at C;have Av:u.toNat<256:=u.toNat_lt;exact absurd (show((u.toNat/64*64:Nat):Int)≠128 by omega) C
theorem KK {s:ByteArray}{k:Int}{n:Nat}{A v:Int}(G:(A<=v/\v<=1114111/\¬(55296<=v/\v<=57343))->R (.returned (.I (n:Int))) Z)(C:¬(A<=v/\v<=1114111/\¬(55296<=v/\v<=57343))->R (.returned (.I 0)) Z):AO.bD R s k (n:Int) A v (n:Int) Z:=by
 refine AO.XX ⟨λhh=>by omega,λ_=>⟨λh2=>C (by omega),λh2=>⟨λh3=>C (by omega),λh3=>⟨λh4=>⟨λh5=>C (by omega),λh5=>G (by omega)⟩,λh4=>G (by omega)⟩⟩⟩⟩
theorem Hn {m lo hi:Nat}{L:List UInt8}{k:Nat}{u:UInt8}(A:L[k]?=some u):vl (m+1) lo hi (L.drop k)=if u.toNat<lo\/hi<u.toNat then false else vl m 128 191 (L.drop (k+1)):=by
 rw[BF A,vl]
theorem Mc {m lo hi:Nat}{L:List UInt8}{k:Nat}(h:L.length<=k):vl (m+1) lo hi (L.drop k)=false:=by
 rw[Amm h];rfl
theorem RJ {m lo hi:Nat}{L:List UInt8}{k:Nat}{u:UInt8}(A:L[k]?=some u)(h1:¬(128<=u.toNat/\u.toNat<=191))(G:128<=lo)(C:hi<=191):vl (m+1) lo hi (L.drop k)=false:=by
 rw[Hn A,Amc (by omega)]
theorem ADO {s:ByteArray}{k:Nat}(hk:k<s.size)(hs:s.size<=1000000):ChA s k:=by
 have J2:s.data.toList.length=s.size:=rfl;obtain⟨u,hu⟩:∃u,s.data.toList[k]?=some u:=⟨_,Amf (by omega)⟩;have D4:s.data[Int.toNat (k:Int)]?=some u:=by simpa using hu
 have Av:u.toNat<256:=u.toNat_lt;have get:∀j,j<s.size->∃w,s.data.toList[j]?=some w:=λj hj=>⟨_,Amf (by omega)⟩;have A:vl 0 128 191 (s.data.toList.drop k)=if u.toNat<128 then vl 0 128 191 (s.data.toList.drop (k+1)) else if 194<=u.toNat/\u.toNat<=223 then vl 1 128 191 (s.data.toList.drop (k+1)) else if 224<=u.toNat/\u.toNat<=239 then(if u.toNat=224 then vl 2 160 191 (s.data.toList.drop (k+1)) else if u.toNat=237 then vl 2 128 159 (s.data.toList.drop (k+1)) else vl 2 128 191 (s.data.toList.drop (k+1))) else if 240<=u.toNat/\u.toNat<=244 then(if u.toNat=240 then vl 3 144 191 (s.data.toList.drop (k+1)) else if u.toNat=244 then vl 3 128 143 (s.data.toList.drop (k+1)) else vl 3 128 191 (s.data.toList.drop (k+1))) else false:=by
  rw[BF hu,vl]
 by_cases h1:u.toNat<128
 .rw[Amc h1]at A;exact⟨1,.inr ⟨by decide,by omega,A⟩,fun {Z R} h=>AO.start ⟨u,by omega,D4,λ_=>h,λhh=>by omega⟩⟩
 rw[Amb h1]at A;by_cases h2:192<=u.toNat/\u.toNat<224
 ·
  have C:∀{Z:Hp} {R:Rr},AO.Gt R s (k:Int) 2 128 ((u.toNat%32:Nat):Int) Z->Spec prog 102 #[.string s,.I (k:Int)] Z R:=fun {Z R} h=>AO.start ⟨u,by omega,D4,λhh=>by omega,λ_=>⟨λ_=>⟨λ_ JT h24 Ki h25=>by
   rw[AKE]at h24;have e:Ki=((u.toNat%32:Nat):Int):=by rw[h25,h24];exact wrap32 (by omega)
   rw[e];exact h,λhh=>by omega⟩,λhh=>by omega⟩⟩
  have bad:vl 0 128 191 (s.data.toList.drop k)=false->(∀{Z:Hp} {R:Rr},R (.returned (.I 0)) Z->AO.Gt R s (k:Int) 2 128 ((u.toNat%32:Nat):Int) Z)->ChA s k:=λhf hb=>⟨0,.inl ⟨rfl,hf⟩,fun {Z R} h=>C (hb h)⟩;by_cases rn:s.size<k+2
  .refine bad ?_ fun {Z R} h=>AO.FA ⟨by unfold AF;omega,λ_=>h,λhh=>by omega⟩;rw[A];split
   .exact Mc (by omega)
   .rw[Amb (by omega),Amb (by omega)]
  obtain⟨u1,G⟩:=get (k+1) (by omega);have Aj3:u1.toNat<256:=u1.toNat_lt;have rq:∀{Z:Hp} {R:Rr},AO.bD R s (k:Int) ((2:Nat):Int) 128 ((u.toNat%32:Nat):Int) ((1:Nat):Int) Z->AO.Gt R s (k:Int) 2 128 ((u.toNat%32:Nat):Int) Z:=fun {Z R} h=>AO.FA ⟨by unfold AF;omega,λhh=>by omega,λ_=>h⟩;by_cases c1:128<=u1.toNat/\u1.toNat<=191
  .by_cases h94:194<=u.toNat
   .rw[Amc (by omega),Hn G,Amb (by omega)]at A;exact⟨2,.inr ⟨by decide,by omega,A⟩,fun {Z R} h=>C (rq (Aj (by omega) (by decide) G c1 (by omega) (KK (n:=2) (λ_=>h) λCU=>absurd (by omega) CU)))⟩
   .rw[Amb (by omega),Amb (by omega),Amb (by omega)]at A;exact bad A fun {Z R} h=>rq (Aj (by omega) (by decide) G c1 (by omega) (KK (n:=2) (λANt=>by omega) λ_=>h))
  .refine bad ?_ fun {Z R} h=>rq (Hm (by omega) (by decide) G c1 h);rw[A];split
   .exact RJ G c1 (by decide) (by decide)
   .rw[Amb (by omega),Amb (by omega)]
 rw[Amb (by omega)]at A;by_cases h3:224<=u.toNat/\u.toNat<240
 ·
  rw[Amc (by omega)]at A;have C:∀{Z:Hp} {R:Rr},AO.Gt R s (k:Int) 3 2048 ((u.toNat%16:Nat):Int) Z->Spec prog 102 #[.string s,.I (k:Int)] Z R:=fun {Z R} h=>AO.start ⟨u,by omega,D4,λhh=>by omega,λ_=>⟨λ_=>⟨λhh=>by omega,λ_=>⟨λ_=>⟨λ_ UX h34 Q1 h35=>by
   rw[AKF]at h34;have e:Q1=((u.toNat%16:Nat):Int):=by rw[h35,h34];exact wrap32 (by omega)
   rw[e];exact h,λhh=>by omega⟩,λhh=>by omega⟩⟩,λhh=>by omega⟩⟩
  have bad:vl 0 128 191 (s.data.toList.drop k)=false->(∀{Z:Hp} {R:Rr},R (.returned (.I 0)) Z->AO.Gt R s (k:Int) 3 2048 ((u.toNat%16:Nat):Int) Z)->ChA s k:=λhf hb=>⟨0,.inl ⟨rfl,hf⟩,fun {Z R} h=>C (hb h)⟩;obtain⟨lo,hi,fl,W7,hlh,A⟩:∃lo hi,128<=lo/\hi<=191/\((u.toNat=224/\lo=160/\hi=191)\/(u.toNat=237/\lo=128/\hi=159)\/(u.toNat≠224/\u.toNat≠237/\lo=128/\hi=191))/\vl 0 128 191 (s.data.toList.drop k)=vl 2 lo hi (s.data.toList.drop (k+1)):=by
   by_cases e1:u.toNat=224
   .rw[Amc e1]at A;exact⟨160,191,by decide,by decide,.inl ⟨e1,rfl,rfl⟩,A⟩
   .rw[Amb e1]at A;by_cases e2:u.toNat=237
    .rw[Amc e2]at A;exact⟨128,159,by decide,by decide,.inr (.inl ⟨e2,rfl,rfl⟩),A⟩
    .rw[Amb e2]at A;exact⟨128,191,by decide,by decide,.inr (.inr ⟨e1,e2,rfl,rfl⟩),A⟩
  have rq:s.size>=k+3->∀{Z:Hp} {R:Rr},AO.bD R s (k:Int) ((3:Nat):Int) 2048 ((u.toNat%16:Nat):Int) ((1:Nat):Int) Z->AO.Gt R s (k:Int) 3 2048 ((u.toNat%16:Nat):Int) Z:=λhh {Z R} h=>AO.FA ⟨by unfold AF;omega,λhh=>by omega,λ_=>h⟩;by_cases rn:s.size<k+3
  .refine bad ?_ fun {Z R} h=>AO.FA ⟨by unfold AF;omega,λ_=>h,λhh=>by omega⟩;rw[A];by_cases hs2:s.size<k+2
   .exact Mc (by omega)
   .obtain⟨u1,G⟩:=get (k+1) (by omega);rw[Hn G];split
    .rfl
    .exact Mc (by omega)
  obtain⟨u1,G⟩:=get (k+1) (by omega);obtain⟨u2,a2⟩:=get (k+2) (by omega);by_cases c1:128<=u1.toNat/\u1.toNat<=191
  .by_cases c2:128<=u2.toNat/\u2.toNat<=191
   .rw[Hn G]at A;by_cases Ba:u1.toNat<lo\/hi<u1.toNat
    .rw[Amc Ba]at A;exact bad A fun {Z R} h=>rq (by omega) (Aj (by omega) (by decide) G c1 (by omega) (Aj (by omega) (by decide) a2 c2 (by omega) (KK (n:=3) (λANt=>by omega) λ_=>h)))
    .rw[Amb Ba,Hn a2,Amb (by omega)]at A;exact⟨3,.inr ⟨by decide,by omega,A⟩,fun {Z R} h=>C (rq (by omega) (Aj (by omega) (by decide) G c1 (by omega) (Aj (by omega) (by decide) a2 c2 (by omega) (KK (n:=3) (λ_=>h) λCU=>absurd (by omega) CU))))⟩
   .refine bad ?_ fun {Z R} h=>rq (by omega) (Aj (by omega) (by decide) G c1 (by omega) (Hm (by omega) (by decide) a2 c2 h));rw[A,Hn G];split
    .rfl
    .exact RJ a2 c2 (by decide) (by decide)
  .refine bad ?_ fun {Z R} h=>rq (by omega) (Hm (by omega) (by decide) G c1 h);rw[A];exact RJ G c1 fl W7
 rw[Amb (by omega)]at A;by_cases h4:240<=u.toNat/\u.toNat<248
 ·
  have C:∀{Z:Hp} {R:Rr},AO.Gt R s (k:Int) 4 65536 ((u.toNat%8:Nat):Int) Z->Spec prog 102 #[.string s,.I (k:Int)] Z R:=fun {Z R} h=>AO.start ⟨u,by omega,D4,λhh=>by omega,λ_=>⟨λ_=>⟨λhh=>by omega,λ_=>⟨λ_=>⟨λhh=>by omega,λ_=>⟨λ_=>⟨λ_ Wr h44 jt h45=>by
   rw[AW9]at h44;have e:jt=((u.toNat%8:Nat):Int):=by rw[h45,h44];exact wrap32 (by omega)
   rw[e];exact h,λhh=>by omega⟩,λhh=>by omega⟩⟩,λhh=>by omega⟩⟩,λhh=>by omega⟩⟩
  have bad:vl 0 128 191 (s.data.toList.drop k)=false->(∀{Z:Hp} {R:Rr},R (.returned (.I 0)) Z->AO.Gt R s (k:Int) 4 65536 ((u.toNat%8:Nat):Int) Z)->ChA s k:=λhf hb=>⟨0,.inl ⟨rfl,hf⟩,fun {Z R} h=>C (hb h)⟩;have rq:s.size>=k+4->∀{Z:Hp} {R:Rr},AO.bD R s (k:Int) ((4:Nat):Int) 65536 ((u.toNat%8:Nat):Int) ((1:Nat):Int) Z->AO.Gt R s (k:Int) 4 65536 ((u.toNat%8:Nat):Int) Z:=λhh {Z R} h=>AO.FA ⟨by unfold AF;omega,λhh=>by omega,λ_=>h⟩;by_cases h44:u.toNat<=244
  .rw[Amc (by omega)]at A;obtain⟨lo,hi,fl,W7,hlh,A⟩:∃lo hi,128<=lo/\hi<=191/\((u.toNat=240/\lo=144/\hi=191)\/(u.toNat=244/\lo=128/\hi=143)\/(u.toNat≠240/\u.toNat≠244/\lo=128/\hi=191))/\vl 0 128 191 (s.data.toList.drop k)=vl 3 lo hi (s.data.toList.drop (k+1)):=by
    by_cases e1:u.toNat=240
    .rw[Amc e1]at A;exact⟨144,191,by decide,by decide,.inl ⟨e1,rfl,rfl⟩,A⟩
    .rw[Amb e1]at A;by_cases e2:u.toNat=244
     .rw[Amc e2]at A;exact⟨128,143,by decide,by decide,.inr (.inl ⟨e2,rfl,rfl⟩),A⟩
     .rw[Amb e2]at A;exact⟨128,191,by decide,by decide,.inr (.inr ⟨e1,e2,rfl,rfl⟩),A⟩
   by_cases rn:s.size<k+4
   .refine bad ?_ fun {Z R} h=>AO.FA ⟨by unfold AF;omega,λ_=>h,λhh=>by omega⟩;rw[A];by_cases hs2:s.size<k+2
    .exact Mc (by omega)
    obtain⟨u1,G⟩:=get (k+1) (by omega);rw[Hn G];split
    .rfl
    by_cases hs3:s.size<k+3
    .exact Mc (by omega)
    obtain⟨u2,a2⟩:=get (k+2) (by omega);rw[Hn a2];split
    .rfl
    .exact Mc (by omega)
   obtain⟨u1,G⟩:=get (k+1) (by omega);obtain⟨u2,a2⟩:=get (k+2) (by omega);obtain⟨u3,a3⟩:=get (k+3) (by omega);by_cases c1:128<=u1.toNat/\u1.toNat<=191
   .by_cases c2:128<=u2.toNat/\u2.toNat<=191
    .by_cases c3:128<=u3.toNat/\u3.toNat<=191
     .rw[Hn G]at A;by_cases Ba:u1.toNat<lo\/hi<u1.toNat
      .rw[Amc Ba]at A;exact bad A fun {Z R} h=>rq (by omega) (Aj (by omega) (by decide) G c1 (by omega) (Aj (by omega) (by decide) a2 c2 (by omega) (Aj (by omega) (by decide) a3 c3 (by omega) (KK (n:=4) (λANt=>by omega) λ_=>h))))
      .rw[Amb Ba,Hn a2,Amb (by omega),Hn a3,Amb (by omega)]at A;exact⟨4,.inr ⟨by decide,by omega,A⟩,fun {Z R} h=>C (rq (by omega) (Aj (by omega) (by decide) G c1 (by omega) (Aj (by omega) (by decide) a2 c2 (by omega) (Aj (by omega) (by decide) a3 c3 (by omega) (KK (n:=4) (λ_=>h) λCU=>absurd (by omega) CU)))))⟩
     .refine bad ?_ fun {Z R} h=>rq (by omega) (Aj (by omega) (by decide) G c1 (by omega) (Aj (by omega) (by decide) a2 c2 (by omega) (Hm (by omega) (by decide) a3 c3 h)));rw[A,Hn G];split
      .rfl
      rw[Hn a2];split
      .rfl
      .exact RJ a3 c3 (by decide) (by decide)
    .refine bad ?_ fun {Z R} h=>rq (by omega) (Aj (by omega) (by decide) G c1 (by omega) (Hm (by omega) (by decide) a2 c2 h));rw[A,Hn G];split
     .rfl
     .exact RJ a2 c2 (by decide) (by decide)
   .refine bad ?_ fun {Z R} h=>rq (by omega) (Hm (by omega) (by decide) G c1 h);rw[A];exact RJ G c1 fl W7
  ·
   rw[Amb (by omega)]at A;refine bad A fun {Z R} h=>?_;by_cases rn:s.size<k+4
   .exact AO.FA ⟨by unfold AF;omega,λ_=>h,λhh=>by omega⟩
   obtain⟨u1,G⟩:=get (k+1) (by omega);obtain⟨u2,a2⟩:=get (k+2) (by omega);obtain⟨u3,a3⟩:=get (k+3) (by omega);refine rq (by omega) ?_;by_cases c1:128<=u1.toNat/\u1.toNat<=191
   .by_cases c2:128<=u2.toNat/\u2.toNat<=191
    .by_cases c3:128<=u3.toNat/\u3.toNat<=191
     .exact Aj (by omega) (by decide) G c1 (by omega) (Aj (by omega) (by decide) a2 c2 (by omega) (Aj (by omega) (by decide) a3 c3 (by omega) (KK (n:=4) (λANt=>by omega) λ_=>h)))
     .exact Aj (by omega) (by decide) G c1 (by omega) (Aj (by omega) (by decide) a2 c2 (by omega) (Hm (by omega) (by decide) a3 c3 h))
    .exact Aj (by omega) (by decide) G c1 (by omega) (Hm (by omega) (by decide) a2 c2 h)
   .exact Hm (by omega) (by decide) G c1 h
 .rw[Amb (by omega)]at A;refine⟨0,.inl ⟨rfl,A⟩,fun {Z R} h=>AO.start ⟨u,by omega,D4,λhh=>by omega,λ_=>⟨λ_=>⟨λhh=>by omega,λ_=>⟨λ_=>⟨λhh=>by omega,λ_=>⟨λ_=>⟨λhh=>by omega,λ_=>h⟩,λhh=>by omega⟩⟩,λhh=>by omega⟩⟩,λ_=>⟨λhh=>by omega,λ_=>⟨λhh=>by omega,λ_=>h⟩⟩⟩⟩⟩
theorem rr {s:ByteArray}(h:R (.returned (.bool (decide (1<=s.size/\s.size<=256)&&MN s))) Z):Spec prog 64 #[.string s] Z R:=by
 refine Ee.start ⟨λC=>?_,λh1=>⟨λC=>?_,λh2=>?_⟩⟩
 .rw[Ams (by omega),Anv]at h;exact h
 .rw[Ams (by omega),Anv]at h;exact h
 rw[Amt (by omega),Anw]at h
 suffices H:∀g k:Nat,s.size-k=g->k<=s.size->MN s=vl 0 128 191 (s.data.toList.drop k)->Ee.Au R s (k:Int) Z from H s.size 0 rfl (Amh _) rfl
 intro g
 induction g using Nat.strongRecOn with
 | ind g ih=>
  intro k hg hk A;by_cases Av:k<s.size
  .obtain⟨m,hm,m4⟩:=ADO Av (by omega);refine Ee.Aq ⟨λ_=>m4 ⟨_,rfl,λh0=>?_,λAi=>?_⟩,λC=>by omega⟩
   .rcases hm with ⟨_,hf⟩|⟨G,_⟩
    .rw[A,hf]at h;exact h
    .omega
   .rcases hm with ⟨G,_⟩|⟨m1,m2,m3⟩
    .subst G;exact absurd rfl Ai
    .refine⟨by unfold AF;omega,?_⟩;have:=ih (s.size-(k+m)) (by omega) (k+m) rfl m2 (A.trans m3);rw[show((k+m:Nat):Int)=(k:Int)+(m:Int) by omega]at this;exact this
  .refine Ee.Aq ⟨λC=>by omega,λ_=>?_⟩;rw[Amm (by show s.size<=k;omega)]at A;rw[A]at h;exact h
end
section
variable {Z:Hp}{R:Rr}
theorem ru {p:Option Addr}{n c:Nat}{ls:List Lb}(hr:Db Z p n ls)(h:R (.returned (.I (FD ls))) Z):Spec prog 43 #[.slice p n c] Z R:=by
 have hn:ls.length=n:=hr.1;refine DP.start ⟨λh1=>?_,λh1=>?_⟩
 .rw[FD,Amc (by omega)]at h;exact h
 rw[FD,Amb (by omega)]at h
 suffices H:∀g k:Nat,n-k=g->k<=n->Fc none ls=Fc (if k=0 then none else(ls[k-1]?).map (·.1)) (ls.drop k)->DP.Au R p n c (k:Int) Z from H n 0 rfl (Amh _) rfl
 intro g
 induction g with
 | zero=>
  intro k hg hk he;refine DP.Aq ⟨λhh=>by omega,λ_=>?_⟩;rw[Amm (by omega)]at he;have e:Fc none ls=0:=by
   rw[he];cases(if k=0 then none else(ls[k-1]?).map (·.1))<;>rfl
  rw[e]at h;exact h
 | succ g ih=>
  intro k hg hk he;have DI:k<n:=by omega
  obtain⟨x,hx⟩:=hr.ex DI;obtain⟨b,o,rfl,KZ⟩:=Db.at hr hx;rw[BF hx]at he;have A:Fc none ls=if DR x.1=false then 31 else if x.2.size=0\/256<x.2.size\/MN x.2=false then 32 else if(if k=0 then none else(ls[k-1]?).map (·.1)).any (sle x.1 ·)=true then 33 else Fc (some x.1) (ls.drop (k+1)):=by
   rw[he];cases(if k=0 then none else(ls[k-1]?).map (·.1))<;>rfl
  have next:DR x.1=true->¬(x.2.size=0\/256<x.2.size\/MN x.2=false)->¬(if k=0 then none else(ls[k-1]?).map (·.1)).any (sle x.1 ·)=true->AF ((k:Int)+1)/\DP.Au R (aD b o) n c ((k:Int)+1) Z:=λG e2 e3=>by
   rw[Amb (by rw[G];decide),Amb e2,Amb e3]at A;have:=ih (k+1) (by omega) (by omega) (by rw[Amb (by omega),AoT,hx];exact A);rw[show((k+1:Nat):Int)=(k:Int)+1 by omega]at this;exact⟨AI DI hr.big,this⟩
  refine DP.Aq ⟨λ_=>⟨b,o,rfl,by unfold In;omega,x.1,by simpa using KZ.1,Nf ⟨_,rfl,λC=>?_,λG=>⟨by unfold In;omega,x.2,by simpa using KZ.2.1,rr ⟨_,rfl,λC=>?_,λht=>?_⟩⟩⟩⟩,λhh=>by omega⟩
  .rw[Amc C]at A;rw[A]at h;exact h
  .rw[Amb (by rw[G];decide),Amc]at A
   .rw[A]at h;exact h
   .rw[An4,Am2]at C;rcases C with C|C
    .omega
    .exact .inr (.inr C)
  .rw[Amn,Amq]at ht;have e2:¬(x.2.size=0\/256<x.2.size\/MN x.2=false):=by
    rintro(h4|h4|h4)
    .omega
    .omega
    .rw[ht.2]at h4;cases h4
   refine⟨λUp=>?_,λh0=>next G e2 ?_⟩
   .obtain⟨y,hy⟩:=hr.ex (show k-1<n by omega);obtain⟨b',o',hp',Nz⟩:=Db.at hr hy;cases hp';have ek:Int.toNat ((k:Int)-1)=k-1:=by omega
    have hpv:(if k=0 then none else(ls[k-1]?).map (·.1))=some y.1:=by rw[Amb (by omega),hy];rfl
    rw[hpv]at A;refine⟨by unfold In;omega,x.1,by simpa using KZ.1,by unfold AF;omega,by unfold In;omega,y.1,by rw[ek];simpa using Nz.1,_,qm,λht2=>?_,λhf2=>next G e2 ?_⟩
    .rw[Amb (by rw[G];decide),Amb e2,Amc (show(some y.1).any (sle x.1 ·)=true from ht2)]at A;rw[A]at h;exact h
    .rw[hpv];show ¬sle x.1 y.1=true
     rw[hf2];decide
   .have hk0:k=0:=by omega
    rw[Amc hk0];simp
def AGw (q:Option (List Lb))(l:List Lb):Bool:=match q with
 | none=>true
 | some q=>decide (Ap q l<0)
theorem AGx {ps:List Pt}{i:Nat}{x y:Pt}(C:ps[i]?=some x)(G:ps[i+1]?=some y)(h:y.1<=x.1):Ji ps=false:=by
 cases A:Ji ps with
 | false=>rfl
 | true=>
  have:=((Hj _).1 A).2 i x y C G;omega
theorem Wc {p:Option Addr}{n c:Nat}{ss:List Sr}(hr:AT 2 Cd Z p n ss)(h:R (.returned (.I (if DJ none ss then 0 else 100))) Z):Spec prog 18 #[.slice p n c] Z R:=by
 have hn:ss.length=n:=hr.1;refine Ay.start ?_
 suffices H:∀g k:Nat,n-k=g->k<=n->DJ none ss=DJ (if k=0 then none else(ss[k-1]?).map (·.ls)) (ss.drop k)->Ay.E5 R p n c (k:Int) Z from H n 0 rfl (Amh _) rfl
 intro g
 induction g with
 | zero=>
  intro k hg hk C;refine Ay.Ag ⟨λhh=>by omega,λ_=>?_⟩;rw[Amm (by omega)]at C;have e:DJ none ss=true:=by
   rw[C];cases(if k=0 then none else(ss[k-1]?).map (·.ls))<;>rfl
  rw[e]at h;exact h
 | succ g ih=>
  intro k hg hk C;have DI:k<n:=by omega
  obtain⟨s,hs⟩:=hr.ex DI;obtain⟨b,o,p1,n1,c1,q,m,d,rfl,G,h1,h2,h3⟩:=Cd.at hr hs;have C:DJ none ss=(decide (FD s.ls=0)&&Ji s.ps&&AGw (if k=0 then none else(ss[k-1]?).map (·.ls)) s.ls&&DJ (some s.ls) (ss.drop (k+1))):=by
   rw[C,BA hs,IS];cases(if k=0 then none else(ss[k-1]?).map (·.ls))<;>rfl
  have hm:s.ps.length=m:=h2.1;have A:(decide (FD s.ls=0)&&Ji s.ps&&(AGw (if k=0 then none else(ss[k-1]?).map (·.ls)) s.ls))=false->R (.returned (.I 100)) Z:=λhf=>by
   rw[hf,Anv]at C;rw[C]at h;exact h
  have next:FD s.ls=0->Ji s.ps=true->(AGw (if k=0 then none else(ss[k-1]?).map (·.ls)) s.ls)=true->Ay.E5 R (aD b o) n c ((k:Int)+1) Z:=λe1 e2 e3=>by
   rw[e3,e2,Amt e1]at C;have:=ih (k+1) (by omega) (by omega) (by rw[Amb (by omega),AoT,hs];simpa using C);rw[show((k+1:Nat):Int)=(k:Int)+1 by omega]at this;exact this
  have cA:FD s.ls=0->0<m->(AGw (if k=0 then none else(ss[k-1]?).map (·.ls)) s.ls)=true->∀g i:Nat,m-i=g->1<=i->i<=m->(∀j a b,j+1<i->s.ps[j]?=some a->s.ps[j+1]?=some b->a.1<b.1)->Ay.Nx R (aD b o) n c (k:Int) (i:Int) Z:=by
   intro e1 hm0 e3 g
   induction g with
   | zero=>
    intro i mX h1i hi rU;have Gq:Ji s.ps=true:=(Hj _).2 ⟨by omega,λj a b ha hb=>rU j a b (by have:=(Amd.1 hb).1;omega) ha hb⟩;exact Ay.Jg ⟨b,o,rfl,by unfold In;omega,q,m,d,by simpa using G.2.1,λhh=>by omega,λ_=>⟨AI DI hr.big,next e1 Gq e3⟩⟩
   | succ g ihp=>
    intro i mX h1i hi rU;obtain⟨x,hx⟩:=h2.ex (show i<m by omega);obtain⟨y,hy⟩:=h2.ex (show i-1<m by omega);obtain⟨b2,o2,hq2,KZ⟩:=Ff.at h2 hx;obtain⟨b3,o3,hq,Nz⟩:=Ff.at h2 hy;rw[hq2]at hq;cases hq;subst hq2;have ei:Int.toNat ((i:Int)-1)=i-1:=by omega
    have fD:=h2.big;refine Ay.Jg ⟨b,o,rfl,by unfold In;omega,_,m,d,by simpa using G.2.1,λ_=>⟨by unfold In;omega,_,m,d,by simpa using G.2.1,b2,o2,rfl,by unfold In;omega,x.1,by simpa using KZ.1,by unfold In;omega,_,m,d,by simpa using G.2.1,by unfold AF;omega,b2,o2,rfl,by unfold In;omega,y.1,by rw[ei];simpa using Nz.1,λhle=>A ?_,λhgt=>⟨by unfold AF;omega,?_⟩⟩,λhh=>by omega⟩
    .rw[AGx hy (by rw[show i-1+1=i by omega];exact hx) hle];simp
    .have:=ihp (i+1) (by omega) (by omega) (by omega) λj a b hj ha hb=>by
      by_cases dF:j+1=i
      .have eH:j=i-1:=by omega
       subst eH;rw[hy]at ha;rw[show i-1+1=i by omega,hx]at hb;cases ha;cases hb;omega
      .exact rU j a b (by omega) ha hb
     rw[show((i+1:Nat):Int)=(i:Int)+1 by omega]at this;exact this
  refine Ay.Ag ⟨λ_=>⟨b,o,rfl,by unfold In;omega,p1,n1,c1,by simpa using G.1,ru h1 ⟨_,rfl,λAi=>A (by simp[Ai]),λh0=>⟨by unfold In;omega,q,m,d,by simpa using G.2.1,λhz=>A ?_,λhnz=>⟨λUp=>⟨by unfold AF;have:=hr.big;omega,by unfold In;omega,?_⟩,λhz=>cA (Amy.1 h0) (by omega) ?_ (m-1) 1 rfl (Amr _) (by omega) λj a b hj=>by omega⟩⟩⟩⟩,λhh=>by omega⟩
  .have:s.ps=[]:=AnS (by omega);rw[this];show(decide (FD s.ls=0)&&false&&_)=false
   simp
  .obtain⟨s',Uq⟩:=hr.ex (k:=k-1) (by omega);obtain⟨_,_,p1',n1',c1',_,_,_,WO,q6,wv,_,_⟩:=Cd.at hr Uq;cases WO;have e1:Int.toNat ((k:Int)-1)=k-1:=by omega
   have hpv:(if k=0 then none else(ss[k-1]?).map (·.ls))=some s'.ls:=by rw[Amb (by omega),Uq];rfl
   refine⟨p1',n1',c1',by rw[e1];simpa using q6.1,by unfold In;omega,p1,n1,c1,by simpa using G.1,IZ wv h1 ⟨_,rfl,λbH=>A ?_,λAv=>cA (Amy.1 h0) (by omega) ?_ (m-1) 1 rfl (Amr _) (by omega) λj a b hj=>by omega⟩⟩
   .rw[hpv];show(decide (FD s.ls=0)&&Ji s.ps&&decide (Ap s'.ls s.ls<0))=false
    rw[show decide (Ap s'.ls s.ls<0)=false from Ams (by omega),AoR]
   .rw[hpv];show decide (Ap s'.ls s.ls<0)=true
    exact Amt (by omega)
  .rw[Amc (by omega)];rfl
end
theorem Aw.rv {P:Program}{s:Nat}{Z:Hp}{b o n c j:Nat}{cs:List Value}{v:Value}{T:TypeId}{Φ:Unit->Hp->Prop}(ho:Aw s Z (some ⟨b,o,none⟩) n c cs)(hj:j<n*s)(hz:∀w,(Go.sizeOf T).run P w=.ok 1 w)(G:v.cells=#[v])(h1:v.oneCell'=true)
  (hΦ:∀obj,Aw s (Z.set b obj) (some ⟨b,o,none⟩) n c (cs.set j v)->Φ () (Z.set b obj)):AJ P (Instr.storeAt T (.pointer (some ⟨b,o+j,none⟩)) v) Z Φ:=by
 obtain⟨hl,C,h⟩:=ho;rcases h with ⟨hp,_⟩|⟨b',o',A,T',hp,hb,sb,J2,LC⟩
 .cases hp
 .cases hp;have hns:n*s<=c*s:=AnM s sb;refine AJ.store hz hb (by rw[G];rfl) (by omega) (by rw[G];simpa using h1) (hΦ _ ⟨by rw[AoF];exact hl,C,.inr ⟨b,o,_,T',rfl,Hp.AA _ _ _,sb,by simp[Is];exact J2,?_⟩⟩);rw[G,<-LC];refine Ani λi=>?_;simp only[SP,Ap7];rw[Am5,An9,Am5];by_cases hi:i<n*s
  .rw[Amc hi,Amc hi,Am3,Am3,An9];by_cases JZ:j=i
   .subst JZ;have Av:o+j<A.size:=by omega
    simp[Av];exact Nat.lt_min.2 ⟨hj,by omega⟩
   .rw[Amb (by omega),Amb JZ]
  .rw[Amb hi,Amb hi];split
   .omega
   .rfl
theorem Ff.one (Z:Hp)(vs:List Value)(x:Pt)(h:Ff Z vs x):HH vs:=by
 rw[show vs=[.I x.1,.U x.2] from h];intro u A;simp only[Aml,AnF,Anp]at A;rcases A with rfl|rfl<;>rfl
theorem KH.one (Z:Hp)(vs:List Value)(x:Mt)(h:KH Z vs x):HH vs:=by
 rw[show vs=[.I x.kind,.string x.name,.string x.val] from h];intro u A;simp only[Aml,AnF,Anp]at A;rcases A with rfl|rfl|rfl<;>rfl
section
variable {Z Z' Z0:Hp}{R:Rr}
theorem Md {T Et ty:TypeId}{s bs:Nat}[KT prog T Et s bs]{q:Option Addr}{j c b:Nat}{cs:List Value}{Φ:Value->Hp->Prop}(LC:HP s Z q j cs)(h1:HH cs)(hb:j*bs<=140737488355328)
  (hΦ:∀C c' Z',Aw s (Z.new Z') C j c' cs->Ext Z Z'->Φ (.slice C j c') Z') (A:Z b=none) :
  AJ prog (Builtin.append_ #[T,T] ty #[.slice (some ⟨b,0,none⟩) 0 0,.slice q j c]) (Z.set b (.cells #[] Et (0,0))) Φ:=by
 refine Ea Aw.empty (LC.mono (.set A)) h1 (by rw[Anq];exact hb) λC c' Z' G JO=>?_;have hq:∀a:Addr,(some (⟨b,0,none⟩:Addr))=some a->Z a.block=none:=λa ha=>by cases ha;exact A
 rw[Anq]at G ⊢;rw[Anm]at G;exact hΦ C c' Z' (Aw.Ur G (IA hq JO (.set A))) (Mv hq JO (.set A))
theorem xf {p:Option Addr}{n c:Nat}{ms:List Mt}(hr:AT 3 KH Z p n ms)(hn:n<=1000000000)(h:∀A c' Z',AT 3 KH (Z.new Z') A n ms->Ext Z Z'->R (.returned (.slice A n c')) Z'):Spec prog 21 #[.slice p n c] Z R:=by
 obtain⟨h1,cs,h2,C⟩:=hr;exact Kk.start λb hb=>Md h2 (Ch.Us KH.one C (by decide)) (by omega) (λA c' Z' ho G=>⟨_,_,_,rfl,h A c' Z' ⟨h1,cs,Aw.rd ho,C.1,λi x G=>C.2 i x G⟩ G⟩) hb
theorem nG {p:Option Addr}{n c:Nat}{ls:List ByteArray}(G:HP 1 Z p n (ls.map .string))(hn:n<=1000000000)(h:∀A c' Z',HP 1 (Z.new Z') A n (ls.map .string)->Ext Z Z'->R (.returned (.slice A n c')) Z'):Spec prog 22 #[.slice p n c] Z R:=
 PD.start λb hb=>Md G (λu hu=>by obtain⟨x,_,rfl⟩:=AnA.1 hu;rfl) (by omega) (λA c' Z' C hx=>⟨_,_,_,rfl,h A c' Z' (Aw.rd C) hx⟩) hb
theorem jI {p:Option Addr}{n c:Nat}{ls:List Lb}(hr:Db Z p n ls)(C:n<=1000000000)(h:∀A c' Z',Db (Z.new Z') A n ls->Ext Z Z'->R (.returned (.slice A n c')) Z'):Spec prog 23 #[.slice p n c] Z R:=
 Nq.start λb hb=>EF hr C (λA c' Z' G hx=>⟨_,_,_,rfl,h A c' Z' (G.rd A9.mono) hx⟩) hb
theorem jJ {p:Option Addr}{n c:Nat}{ps:List Pt}(hr:AT 2 Ff Z p n ps)(hn:n<=1000000000)(h:∀A c' Z',Hr 2 Ff (Z.new Z') A n c' ps->Ext Z Z'->R (.returned (.slice A n c')) Z'):Spec prog 24 #[.slice p n c] Z R:=by
 obtain⟨h1,cs,h2,C⟩:=hr;exact Nr.start λb hb=>Md h2 (Ch.Us Ff.one C (by decide)) (by omega) (λA c' Z' ho G=>⟨_,_,_,rfl,h A c' Z' ⟨h1,cs,ho,C.1,λi x G=>C.2 i x G⟩ G⟩) hb
theorem IQ.one (Z:Hp)(vs:List Value)(x:Nd)(h:IQ Z vs x):HH vs:=by
 obtain⟨p,k,c,q,m,d,rfl,_⟩:=h;intro u A;simp only[Aml,AnF,Anp]at A;rcases A with rfl|rfl|rfl|rfl|rfl|rfl|rfl|rfl|rfl|rfl<;>rfl
theorem Cd.one (Z:Hp)(vs:List Value)(x:Sr)(h:Cd Z vs x):HH vs:=by
 obtain⟨p,n,c,q,m,d,rfl,_⟩:=h;intro u A;simp only[Aml,AnF,Anp]at A;rcases A with rfl|rfl<;>rfl
structure TOk (T:List Nd):Prop where
 t:T.length<=2000000
 mt:∀x∈T,x.mt.length<=1000000000
 nm:∀x∈T,x.names.length<=1000000000
theorem nH {p:Option Addr}{n c:Nat}{T:List Nd}(hr:AT 10 IQ Z p n T)(hT:TOk T)(h:∀p' c' Z',AL 10 IQ Z Z' p' n c' T->R (.returned (.slice p' n c')) Z'):Spec prog 6 #[.slice p n c] Z R:=by
 have hl:T.length=n:=hr.1;have ht:=hT.t;refine Fb.start ?_
 suffices H:∀g i:Nat,∀p3 n3 c3 Z',n-i=g->i<=n->AL 10 IQ Z Z' p3 n3 c3 (T.take i)->Fb.AR R p n c p3 n3 c3 i Z' from H n 0 none 0 0 Z rfl (Amh _) (AL.nil (.refl _))
 intro g
 induction g with
 | zero=>
  intro i p3 n3 c3 Z' hg hi A;rw[Amj (by omega)]at A;have hn3:n=n3:=hl.symm.trans A.1.1;subst hn3;exact Fb.AM ⟨λAv=>by omega,λ_=>h p3 c3 Z' A⟩
 | succ g ih=>
  intro i p3 n3 c3 Z' hg hi A;have BT:i<n:=by omega
  obtain⟨x,hx⟩:=hr.ex BT;obtain⟨b,o,p1,k1,c1,q1,m1,d1,rfl,CH,G,qz⟩:=IQ.at hr hx;have mS:=Ame hx;have a1:=hT.mt x mS;have a2:=hT.nm x mS;have a3:x.mt.length=k1:=G.1;have a4:(x.names.map Value.string).length=m1*1:=qz.1;rw[Amw]at a4;have hn3:n3=i:=by have:=A.1.1;rw[Amp]at this;omega
  refine Fb.AM ⟨λ_=>⟨b,o,rfl,by omega,_,_,_,_,_,_,_,_,_,_,_,_,_,_,by simpa using CH.mono A.up,λ_=>xf (G.mono KH.mono A.up) (by omega) λp4 c4 Z2 Gw C=>⟨_,_,_,rfl,nG ((qz.mono A.up).mono C) (by omega) λp5 c5 Z3 Ss BO=>⟨_,_,_,rfl,λXT ANv=>?_⟩⟩⟩,λhh=>by omega⟩;have Cm:=A.mono IQ.mono (C.trans BO);have he:IQ (Z3.del p3) [.I x.kind,.I x.op,.string x.text,.slice p4 k1 c4,.I x.width,.I x.back,.I x.Be,.slice p5 m1 c5,.bool x.bool,.I x.parts] x:=
   ⟨p4,k1,c4,p5,m1,c5,rfl,Gw.mono KH.mono ((Ext.HO BO).trans (A.new (C.trans BO))),Ss.mono ((Ext.Dc C).trans (A.new (C.trans BO)))⟩
  refine AL.HI IQ.mono Cm rfl (IQ.one _ _ _ he) he (by omega) (λp' c' Z4 FE _=>⟨_,_,_,rfl,AI BT hr.big,ih (i+1) _ _ _ _ (by omega) (by omega) (by rw[AQ hx];exact FE)⟩) ANv
structure SOk (ss:List Sr):Prop where
 s:ss.length<=1000000000000
 ls:∀s∈ss,s.ls.length<=1000000000
 ps:∀s∈ss,s.ps.length<=1000000000
theorem jK {p:Option Addr}{n c:Nat}{ss:List Sr}(hr:AT 2 Cd Z p n ss)(hS:SOk ss)(h:∀p' c' Z',AT 2 Cd Z' p' n ss->Ext Z Z'->R (.returned (.slice p' n c')) Z'):Spec prog 7 #[.slice p n c] Z R:=by
 have hl:ss.length=n:=hr.1;have ht:=hS.s;refine Ek.start ?_
 suffices H:∀g i:Nat,∀p3 n3 c3 Z',n-i=g->i<=n->AL 2 Cd Z Z' p3 n3 c3 (ss.take i)->Ek.AR R p n c p3 n3 c3 i Z' from H n 0 none 0 0 Z rfl (Amh _) (AL.nil (.refl _))
 intro g
 induction g with
 | zero=>
  intro i p3 n3 c3 Z' hg hi A;rw[Amj (by omega)]at A;have G:n=n3:=hl.symm.trans A.1.1;subst G;exact Ek.AM ⟨λAv=>by omega,λ_=>h p3 c3 Z' (A.rd Cd.mono) A.up⟩
 | succ g ih=>
  intro i p3 n3 c3 Z' hg hi A;have BT:i<n:=by omega
  obtain⟨x,hx⟩:=hr.ex BT;obtain⟨b,o,p1,k1,c1,q1,m1,d1,rfl,CH,Eg,hps,hmd⟩:=Cd.at hr hx;have mS:=Ame hx;have a1:=hS.ls x mS;have a2:=hS.ps x mS;have a3:x.ls.length=k1:=Eg.1;have a4:x.ps.length=m1:=hps.1;have G:n3=i:=by have:=A.1.1;rw[Amp]at this;omega
  have Re:=CH.mono A.up;refine Ek.AM ⟨λ_=>⟨b,o,rfl,by omega,p1,k1,c1,by simpa using Re.1,by omega,q1,m1,d1,by simpa using Re.2.1,jI (Eg.mono A9.mono A.up) (by omega) λp4 c4 Z2 Gw C=>⟨_,_,_,rfl,Kp.H9 C,jJ ((hps.mono Ff.mono A.up).mono Ff.mono C) (by omega) λp5 c5 Z3 Ss BO=>⟨_,_,_,rfl,λXT ANv=>?_⟩⟩⟩,λhh=>by omega⟩;have Cm:=A.mono Cd.mono (C.trans BO);have he:Cd (Z3.del p3) [.slice p4 k1 c4,.slice p5 m1 c5] x:=
   ⟨p4,k1,c4,p5,m1,c5,rfl,Gw.mono A9.mono ((Ext.HO BO).trans (A.new (C.trans BO))),(Ss.rd Ff.mono).mono Ff.mono ((Ext.Dc C).trans (A.new (C.trans BO))),by obtain⟨cs,KI,_⟩:=Ss.2;exact Aw.cap KI⟩
  refine AL.HI Cd.mono Cm rfl (Cd.one _ _ _ he) he (by omega) (λp' c' Z4 FE _=>⟨_,_,_,rfl,AI BT hr.big,ih (i+1) _ _ _ _ (by omega) (by omega) (by rw[AQ hx];exact FE)⟩) ANv
end
section
variable {Z Z0 O:Hp}{R:Rr}
theorem Wd {p q:Option Addr}{n c m d b3 G:Nat}{ls:List Lb}{ps:List Pt}(hl:Db Z p n ls)(hp:AT 2 Ff Z q m ps)(hn:n<=1000000000)(hm:m<=1000000000)
  (h:∀p' c' q' d' Z',Db (Z.new Z') p' n ls->AT 2 Ff (Z.new Z') q' m ps->m<=d'->Ext Z Z'->R (.returned (.agg #[.slice p' n c',.slice q' m d'])) Z') (h7:Z G=none) (h3:(Z.set G (.cells #[] 61 (0,0))) b3=none) :
  AJ prog (Builtin.append_ #[47,47] 47 #[(.slice (aD b3 0) 0 0),.slice p n c]) ((Z.set G (.cells #[] 61 (0,0))).set b3 (.cells #[] 71 (0,0))) (CS λp6 n6 c6 y=>AJ prog (Builtin.append_ #[49,49] 49 #[(.slice (aD G 0) 0 0),.slice q m d]) y (CS λN3 n10 MF AB=>R (.returned (.agg #[.slice p6 n6 c6,.slice N3 n10 MF])) AB)):=by
 have x7:=Ext.set (o:=.cells #[] 61 (0,0)) h7;obtain⟨Lk,cs,mT,C⟩:=hp;refine EF (hl.mono A9.mono x7) hn (λp' c' Z2 A7 Ao=>⟨_,_,_,rfl,?_⟩) h3;have A:=x7.trans Ao;refine Ea (Aw.mono Ao Aw.empty) (mT.mono A) (Ch.Us Ff.one C (by decide)) (by omega) λq' d' Z3 Cm BO=>?_;have hq:∀a:Addr,(some (⟨G,0,none⟩:Addr))=some a->Z a.block=none:=λa ha=>by cases ha;exact h7
 rw[Anq]at Cm ⊢;rw[Anm]at Cm;refine⟨_,_,_,rfl,h p' c' q' d' Z3 ?_ ⟨Lk,cs,Aw.rd (Aw.Ur Cm (IA hq BO A)),C.1,λi x hx=>C.2 i x hx⟩ (Aw.cap Cm) (Mv hq BO A)⟩;refine(A7.rd A9.mono).mono A9.mono λk u hk=>?_;obtain⟨k1,k2⟩:=AW.1 hk;obtain⟨k3,k4⟩:=Hp.DG k1;have:=BO k u (AU.2 ⟨λa ha=>by cases ha;exact k3,k2⟩);exact AW.2 ⟨k4,(AU.1 this).2⟩
theorem nI {p q:Option Addr}{n c m d:Nat}{ls:List Lb}{ps:List Pt}(hl:Db Z p n ls)(hp:AT 2 Ff Z q m ps)(hn:n<=1000000000)(hm:m<=1000000000)
  (h:∀p' c' q' d' Z',Db (Z.new Z') p' n ls->AT 2 Ff (Z.new Z') q' m ps->m<=d'->Ext Z Z'->R (.returned (.agg #[.slice p' n c',.slice q' m d'])) Z') :
  Spec prog 87 #[.agg #[.slice p n c,.slice q m d]] Z R:=by
 refine Tc.start λ_ _=>⟨λb3 G=>⟨?_,λb7 C=>?_⟩,λb7 C b3 G=>Wd hl hp hn hm h C G⟩
 .refine EF hl hn (λp' c' Z2 A7 Ao=>⟨_,_,_,rfl,λb7 C=>?_⟩) G;obtain⟨Lk,cs,mT,A⟩:=hp;refine Md (mT.mono Ao) (Ch.Us Ff.one A (by decide)) (by omega) (λq' d' Z3 Cm BO=>⟨_,_,_,rfl,?_⟩) C;exact h p' c' q' d' Z3 ((A7.rd A9.mono).mono A9.mono (Ext.HO BO)) ⟨Lk,cs,(Aw.rd Cm).mono (Ext.Dc Ao),A.1,λi x hx=>A.2 i x hx⟩ (Aw.cap Cm) (Ao.trans BO)
 .obtain⟨e1,e2⟩:=Hp.DG C;rw[Hp.MM (Ann e1)];exact Wd hl hp hn hm h e2 (by rw[Hp.AN (Ann e1)];exact G)
structure MOk (a:List Sr):Prop where
 len:a.length<=10000000
 each:∀s∈a,s.ls.length<=1000000000/\s.ps.length<=1000000000
abbrev ltS (x y:Sr):Prop:=Ap x.ls y.ls<0
theorem ug {p5:Option Addr}{n5 c5:Nat}{out:List Sr}{x:Sr}{p q:Option Addr}{n c m d:Nat}{F:Option Addr->Nat->Nat->Hp->Prop}(ho:AL 2 Cd Z O p5 n5 c5 out)(h5:n5<=2900000000000)(hl:Db O p n x.ls)(hp:AT 2 Ff O q m x.ps)(hn:n<=1000000000)(hm:m<=1000000000)
  (h:∀p' c' O',AL 2 Cd Z O' p' (n5+1) c' (out++[x])->Ext Z O'->F p' (n5+1) c' O') :
  Spec prog 87 #[.agg #[.slice p n c,.slice q m d]] O (BV R (λz y=>∃A C G AAj AAk AAl,z=(.agg #[.slice A C G,.slice AAj AAk AAl])/\Al y λoQ=>AJ prog (Builtin.append_ #[23,23] 23 #[.slice p5 n5 c5,(.slice (aD oQ 0) 1 1)]) (Hp.set y oQ (.cells #[.slice A C G,.slice AAj AAk AAl] 51 (0,0))) (CS λzn zo zp AB=>F zn zo zp AB))):=by
 refine nI hl hp hn hm λp' c' q' d' Z3 r1 r2 hd BO=>⟨_,_,_,_,_,_,rfl,λoQ h75=>?_⟩;have Cm:=ho.mono Cd.mono BO;have he:Cd (Z3.del p5) [.slice p' n c',.slice q' m d'] x:=
  ⟨p',n,c',q',m,d',rfl,r1.mono A9.mono (ho.new BO),r2.mono Ff.mono (ho.new BO),hd⟩
 exact AL.HI Cd.mono Cm rfl (Cd.one _ _ _ he) he (by omega) (λp6 c6 Z4 FE _=>⟨_,_,_,rfl,h p6 c6 Z4 FE FE.up⟩) h75
end
end TwW
end
section
namespace TwW
open Go Tw
section
variable {F:Fl}{ss ss':List Sr}{t:Int}
def Ia:List (Int×Int)->List (Int×Int)->List (Int×Int)
 | [],b=>b
 | a,[]=>a
 | x::a,y::b=>if x.1<y.1 then x::Ia a (y::b) else if y.1<x.1 then y::Ia (x::a) b else(x.1,if x.2<y.2 then y.2 else x.2)::Ia a b
termination_by a b=>a.length+b.length
def HJ:List Sr->List Sr->List Sr
 | [],b=>b
 | a,[]=>a
 | x::a,y::b=>if Ap x.ls y.ls<0 then x::HJ a (y::b) else if 0<Ap x.ls y.ls then y::HJ (x::a) b else⟨x.ls,Ia x.ps y.ps⟩::HJ a b
termination_by a b=>a.length+b.length
theorem Ho (b:List Sr):HJ [] b=b:=by rw[HJ]
end
end TwW
end
section
namespace TwW
open Go Tw Go.RowKit Go.Proofs.Tryz
theorem UG (a:List Pt):Ia a []=a:=by cases a<;>rw[Ia];intro h;cases h
theorem Vh (b:List Pt):Ia [] b=b:=by rw[Ia]
theorem gC {x y:Pt}{a b:List Pt}:Ia (x::a) (y::b)=if x.1<y.1 then x::Ia a (y::b) else if y.1<x.1 then y::Ia (x::a) b else(x.1,if x.2<y.2 then y.2 else x.2)::Ia a b:=by rw[Ia]
theorem Me (a:List Sr):HJ a []=a:=by cases a<;>rw[HJ];intro h;cases h
theorem Jx {x y:Sr}{a b:List Sr}:HJ (x::a) (y::b)=if Ap x.ls y.ls<0 then x::HJ a (y::b) else if 0<Ap x.ls y.ls then y::HJ (x::a) b else⟨x.ls,Ia x.ps y.ps⟩::HJ a b:=by rw[HJ]
section
variable {Z O:Hp}{R:Rr}
theorem ry {p q:Option Addr}{n c m d:Nat}{a b:List Pt}(hr:AT 2 Ff Z p n a)(hs:AT 2 Ff Z q m b)(hn1:n<=1000000000)(Lk:m<=1000000000)
  (h:∀G n' c' Z',AL 2 Ff Z Z' G n' c' (Ia a b)->R (.returned (.slice G n' c')) Z'):Spec prog 88 #[.slice p n c,.slice q m d] Z R:=by
 have hn:a.length=n:=hr.1;have hm:b.length=m:=hs.1;refine Cb.start ?_
 suffices H:∀g i k:Nat,∀(O:Hp) (p5:Option Addr) (n5 c5:Nat) (out:List Pt),(n-i)+(m-k)<=g->i<=n->k<=m->AL 2 Ff Z O p5 n5 c5 out->n5<=i+k->out++Ia (a.drop i) (b.drop k)=Ia a b->Cb.AR R p n c q m d p5 n5 c5 (i:Int) (k:Int) O from
  H (n+m) 0 0 Z none 0 0 [] (by omega) (Amh _) (Amh _) (AL.nil (.refl _)) (Amr _) (by simp)
 intro g
 induction g with
 | zero=>
  intro i k O p5 n5 c5 out hg hi hk ho h5 C;rw[Amm (by omega),Amm (by omega),UG,AoD]at C;subst C;exact Cb.AM ⟨λA=>by omega,λ_=>⟨λA=>by omega,λ_=>h p5 n5 c5 O ho⟩⟩
 | succ g ih=>
  intro i k O p5 n5 c5 out hg hi hk ho h5 C;have nJ:=ho.up;have hbn:=hr.big;have push:∀(x:Pt) (i' k':Nat),(n-i')+(m-k')<=g->i'<=n->k'<=m->i+k+1<=i'+k'->(out++[x])++Ia (a.drop i') (b.drop k')=Ia a b->∀{F:Option Addr->Nat->Nat->Hp->Prop},(∀G c' O',Cb.AR R p n c q m d G (n5+1) c' (i':Int) (k':Int) O'->F G (n5+1) c' O')->∀bb,O bb=none->AJ prog (Builtin.append_ #[49,49] 49 #[.slice p5 n5 c5,(.slice (aD bb 0) 1 1)]) (Hp.set O bb (.cells #[.I x.1,.U x.2] 61 (0,0))) (CS F):=λx i' k' h1 h2 h3 h4 h6 {F} hF bb rz=>
   AL.HI (vs:=[.I x.1,.U x.2]) (x:=x) Ff.mono ho rfl (Ff.one O _ x rfl) rfl (by omega) (λG c' O' Mk _=>⟨_,_,_,rfl,hF G c' O' (ih i' k' O' G (n5+1) c' (out++[x]) h1 h2 h3 Mk (by omega) h6)⟩) rz
  by_cases Ba:i<n
  .obtain⟨x,hx⟩:=hr.ex Ba;obtain⟨bb,o,hpe,KZ⟩:=Ff.at hr hx;have ix:AF ((i:Int)+1):=AI Ba hr.big;by_cases bO:k<m
   .obtain⟨y,hy⟩:=hs.ex bO;obtain⟨bb',o',hqe,Nz⟩:=Ff.at hs hy;have iy:AF ((k:Int)+1):=AI bO hs.big;have lx:=KZ.mono nJ;have ly:=Nz.mono nJ;rw[BF hx,BF hy,gC]at C;subst hpe;subst hqe;refine Cb.AM ⟨λ_=>⟨λA=>by omega,λ_=>⟨λ_=>⟨bb,o,rfl,by unfold In;omega,x.1,by simpa using lx.1,bb',o',rfl,by unfold In;omega,y.1,by simpa using ly.1,λAv=>?_,λbH=>⟨λA=>by omega,λ_=>⟨by unfold In;omega,y.1,by simpa using ly.1,by unfold In;omega,x.1,by simpa using lx.1,λANi=>?_,λAc7=>?_⟩⟩⟩,λA=>by omega⟩⟩,λA=>by omega⟩
    .rw[Amc Av]at C;refine⟨by unfold In;omega,x.1,x.2,by simpa using lx,push x (i+1) k (by omega) (by omega) hk (by omega) ?_ λG c' O' A=>⟨ix,?_⟩⟩
     .rw[BF hy,AnO];exact C
     .rw[show((i+1:Nat):Int)=(i:Int)+1 by omega]at A;exact A
    .rw[Amb bH,Amc ANi]at C;refine⟨by unfold In;omega,y.1,y.2,by simpa using ly,push y i (k+1) (by omega) hi (by omega) (by omega) ?_ λG c' O' A=>⟨iy,?_⟩⟩
     .rw[BF hx,AnO];exact C
     .rw[show((k+1:Nat):Int)=(k:Int)+1 by omega]at A;exact A
    .rw[Amb bH,Amb Ac7]at C;refine⟨by unfold In;omega,x.1,by simpa using lx.1,by unfold In;omega,x.2,by simpa using lx.2.1,by unfold In;omega,y.2,by simpa using ly.2.1,push (x.1,if x.2<y.2 then y.2 else x.2) (i+1) (k+1) (by omega) (by omega) (by omega) (by omega) ?_ λG c' O' A=>⟨ix,iy,?_⟩⟩
     .rw[AnO];exact C
     .rw[show((i+1:Nat):Int)=(i:Int)+1 by omega,show((k+1:Nat):Int)=(k:Int)+1 by omega]at A;exact A
   .have Ac8:k=m:=by omega
    have lx:=KZ.mono nJ;rw[BF hx,show b.drop k=[] from Amm (by omega),UG]at C;subst hpe;refine Cb.AM ⟨λ_=>⟨λ_=>⟨bb,o,rfl,by unfold In;omega,x.1,x.2,by simpa using lx,push x (i+1) k (by omega) (by omega) hk (by omega) ?_ λG c' O' A=>⟨ix,?_⟩⟩,λA=>by omega⟩,λA=>by omega⟩
    .rw[show b.drop k=[] from Amm (by omega),UG,AnO];exact C
    .rw[show((i+1:Nat):Int)=(i:Int)+1 by omega]at A;exact A
  .by_cases bO:k<m
   .obtain⟨y,hy⟩:=hs.ex bO;obtain⟨bb',o',hqe,Nz⟩:=Ff.at hs hy;have iy:AF ((k:Int)+1):=AI bO hs.big;have ly:=Nz.mono nJ;rw[BF hy,show a.drop i=[] from Amm (by omega),Vh]at C;subst hqe;have fin:In (k:Int) (m:Int)/\∃I1 Hb,Af O bb' (o'+Int.toNat (k:Int)*2) [.I I1,.U Hb]/\Al O λS6=>AJ prog (Builtin.append_ #[49,49] 49 #[.slice p5 n5 c5,(.slice (aD S6 0) 1 1)]) (Hp.set O S6 (.cells #[.I I1,.U Hb] 61 (0,0))) (CS λiD n99 iE y=>AF ((k:Int)+1)/\Cb.AR R p n c (aD bb' o') m d iD n99 iE (i:Int) ((k:Int)+1) y):=by
     refine⟨by unfold In;omega,y.1,y.2,by simpa using ly,push y i (k+1) (by omega) hi (by omega) (by omega) ?_ λG c' O' A=>⟨iy,?_⟩⟩
     .rw[show a.drop i=[] from Amm (by omega),Vh,AnO];exact C
     .rw[show((k+1:Nat):Int)=(k:Int)+1 by omega]at A;exact A
    exact Cb.AM ⟨λA=>by omega,λ_=>⟨λ_=>⟨λA=>by omega,λ_=>⟨λA=>by omega,λ_=>⟨λ_=>⟨bb',o',rfl,fin⟩,λA=>by omega⟩⟩⟩,λA=>by omega⟩⟩
   .rw[Amm (by omega),Amm (by omega),UG,AoD]at C;subst C;exact Cb.AM ⟨λA=>by omega,λ_=>⟨λA=>by omega,λ_=>h p5 n5 c5 O ho⟩⟩
end
end TwW
end
section
namespace TwW
open Go Tw
theorem Aw.jL {s:Nat}{Z Z':Hp}{p:Option Addr}{n c:Nat}{cs:List Value}(C:Aw s Z p n c cs)(h:∀a,p=some a->Z' a.block=Z a.block):Aw s Z' p n c cs:=
 ⟨C.1,C.2.1,C.2.2.imp id λ⟨G,o',A,T,hp,hb,r⟩=>⟨G,o',A,T,hp,by rw[h _ hp];exact hb,r⟩⟩
theorem Hp.ADQ {Z Z':Hp}{p:Option Addr}(G:Ext Z (Z'.del p)):∀a,p=some a->(Z.new Z') a.block=Z' a.block:=λa C=>by
 subst C;cases A:Z a.block with
 | none=>simp only[Hp.new,A]
 | some u=>
  have:=G _ _ A;simp[Hp.del]at this
theorem AL.uh {α:Type}{s:Nat}{E:Hp->List Value->α->Prop}{Z0 Z:Hp}{p:Option Addr}{n c:Nat}{xs:List α}(hE:∀Z Z' vs x,E Z vs x->E Z' vs x)(h:AL s E Z0 Z p n c xs):AT s E (Z0.new Z) p n xs:=by
 obtain⟨⟨C,cs,G,A⟩,h4⟩:=h;exact⟨C,cs,(Aw.jL G (Hp.ADQ h4)).rd,A.1,λi x hi=>hE _ _ _ _ (A.2 i x hi)⟩
end TwW
end
section
namespace TwW
open Go Tw Go.RowKit Go.Proofs.Tryz
section
variable {Z O:Hp}{R:Rr}
structure MEa (a:List Sr):Prop where
 each:∀s∈a,s.ls.length<=1000000000/\s.ps.length<=1000000000
theorem gD {p q:Option Addr}{n c m d:Nat}{a b:List Sr}(hr:AT 2 Cd Z p n a)(hs:AT 2 Cd Z q m b)(ma:MEa a)(mb:MEa b)(uG:a.length+b.length<=2900000000000)
  (h:∀p' n' c' Z',AT 2 Cd Z' p' n' (HJ a b)->Ext Z Z'->R (.returned (.slice p' n' c')) Z'):Spec prog 54 #[.slice p n c,.slice q m d] Z R:=by
 have hn:a.length=n:=hr.1;have hm:b.length=m:=hs.1;refine DH.start ?_
 suffices H:∀g i k:Nat,∀(O:Hp) (p5:Option Addr) (n5 c5:Nat) (out:List Sr),(n-i)+(m-k)<=g->i<=n->k<=m->AL 2 Cd Z O p5 n5 c5 out->n5<=i+k->out++HJ (a.drop i) (b.drop k)=HJ a b->DH.AR R p n c q m d p5 n5 c5 (i:Int) (k:Int) O from
  H (n+m) 0 0 Z none 0 0 [] (by omega) (Amh _) (Amh _) (AL.nil (.refl _)) (Amr _) (by simp)
 intro g
 induction g with
 | zero=>
  intro i k O p5 n5 c5 out hg hi hk ho h5 C;rw[Amm (by omega),Amm (by omega),Ho,AoD]at C;subst C;exact DH.AM ⟨λA=>by omega,λ_=>⟨λA=>by omega,λ_=>h p5 n5 c5 O (ho.rd Cd.mono) ho.up⟩⟩
 | succ g ih=>
  intro i k O p5 n5 c5 out hg hi hk ho h5 C;have nJ:=ho.up;have left:∀x,a[i]?=some x->out++x::HJ (a.drop (i+1)) (b.drop k)=HJ a b->∀v:Int,v<0->DH.IH R p n c q m d p5 n5 c5 (i:Int) (k:Int) v O:=λx G Ug v hv=>by
   have Ba:i<n:=by have:=(Amd.1 G).1;omega
   obtain⟨bb,o,p1,n1,c1,q1,m1,d1,hpe,Eg,h1,h2,h3⟩:=Cd.at hr G;obtain⟨z1,z2⟩:=ma.each x (Ame G);have hn1:x.ls.length=n1:=h1.1;have Lk:x.ps.length=m1:=h2.1;subst hpe;refine DH.Io ⟨λ_=>⟨bb,o,rfl,by unfold In;omega,_,_,_,_,_,_,by simpa using Eg.mono nJ,ug ho (by omega) (h1.mono A9.mono nJ) (h2.mono Ff.mono nJ) (by omega) (by omega) λp' c' O' Mk Ju=>⟨AI Ba hr.big,?_⟩⟩,λA=>absurd hv A⟩;have:=ih (i+1) k O' p' (n5+1) c' (out++[x]) (by omega) (by omega) hk Mk (by omega) (by rw[AnO];exact Ug);rw[show((i+1:Nat):Int)=(i:Int)+1 by omega]at this;exact this
  have right:∀x,b[k]?=some x->out++x::HJ (a.drop i) (b.drop (k+1))=HJ a b->∀v:Int,0<v->DH.IH R p n c q m d p5 n5 c5 (i:Int) (k:Int) v O:=λx G Ug v hv=>by
   have bO:k<m:=by have:=(Amd.1 G).1;omega
   obtain⟨bb,o,p1,n1,c1,q1,m1,d1,hqe,Eg,h1,h2,h3⟩:=Cd.at hs G;obtain⟨z1,z2⟩:=mb.each x (Ame G);have hn1:x.ls.length=n1:=h1.1;have Lk:x.ps.length=m1:=h2.1;subst hqe;refine DH.Io ⟨λA=>by omega,λ_=>⟨λ_=>⟨bb,o,rfl,by unfold In;omega,_,_,_,_,_,_,by simpa using Eg.mono nJ,ug ho (by omega) (h1.mono A9.mono nJ) (h2.mono Ff.mono nJ) (by omega) (by omega) λp' c' O' Mk Ju=>⟨AI bO hs.big,?_⟩⟩,λA=>absurd hv A⟩⟩;have:=ih i (k+1) O' p' (n5+1) c' (out++[x]) (by omega) hi (by omega) Mk (by omega) (by rw[AnO];exact Ug);rw[show((k+1:Nat):Int)=(k:Int)+1 by omega]at this;exact this
  by_cases Ba:i<n
  .obtain⟨x,G⟩:=hr.ex Ba;by_cases bO:k<m
   .obtain⟨y,hy⟩:=hs.ex bO;obtain⟨bb,o,p1,n1,c1,q1,m1,d1,hpe,Eg,h1,h2,h3⟩:=Cd.at hr G;obtain⟨bb',o',p1',n1',c1',q1',m1',d1',hqe,q6,wv,h2',h3'⟩:=Cd.at hs hy;obtain⟨z1,z2⟩:=ma.each x (Ame G);obtain⟨z1',z2'⟩:=mb.each y (Ame hy);have hn1:x.ls.length=n1:=h1.1;have Lk:x.ps.length=m1:=h2.1;have Aj7:y.ps.length=m1':=h2'.1;rw[BF G,BF hy,Jx]at C;have L:=left x G;have Rr:=right y hy;have lx:=Eg.mono nJ;have ly:=q6.mono nJ;subst hpe;subst hqe;refine DH.AM ⟨λ_=>⟨λA=>by omega,λ_=>⟨λA=>by omega,λ_=>⟨bb,o,rfl,by unfold In;omega,p1,n1,c1,by simpa using lx.1,bb',o',rfl,by unfold In;omega,p1',n1',c1',by simpa using ly.1,IZ (h1.mono A9.mono nJ) (wv.mono A9.mono nJ) ⟨_,rfl,?_⟩⟩⟩⟩,λA=>by omega⟩;by_cases c1:Ap x.ls y.ls<0
    .rw[Amc c1]at C;exact L (by rw[BF hy];exact C) _ c1
    rw[Amb c1]at C;by_cases c2:0<Ap x.ls y.ls
    .rw[Amc c2]at C;exact Rr (by rw[BF G];exact C) _ c2
    rw[Amb c2]at C;refine DH.Io ⟨λA=>absurd A c1,λ_=>⟨λA=>absurd A c2,λ_=>⟨bb,o,rfl,by unfold In;omega,p1,n1,_,by simpa using lx.1,by unfold In;omega,q1,m1,d1,by simpa using lx.2.1,bb',o',rfl,by unfold In;omega,q1',m1',d1',by simpa using ly.2.1,λb41 h41=>EF (h1.mono A9.mono nJ) (by omega) (λp4 c4 O1 FE x1=>⟨_,_,_,rfl,?_,?_⟩) h41⟩⟩⟩
    .intro kb Jb ko hko;have k1:O bb≠none:=λe=>by have:=lx.1;simp[Hp.ld,e]at this
     have k2:O bb'≠none:=λe=>by have:=ly.1;simp[Hp.ld,e]at this
     have Ai:kb≠b41:=λe=>by
      simp only[Aml,AnF,Anp]at Jb;rcases Jb with e2|e2
      .rw[<-e2,e]at k2;exact k2 h41
      .rw[<-e2,e]at k1;exact k1 h41
     rw[Hp.AN Ai]at hko;exact x1 kb ko hko
    .have AXG:=nJ.trans x1;refine ry (h2.mono Ff.mono AXG) (h2'.mono Ff.mono AXG) (by omega) (by omega) λp6 n6 c6 ρ KS=>⟨_,_,_,rfl,λS5 h60=>?_⟩;have rX:n6<=c6:=by obtain⟨cs,KI,_⟩:=KS.1.2;exact Aw.cap KI
     have Cm:=ho.mono Cd.mono (x1.trans KS.up);have eT:=ho.new (x1.trans KS.up);have rl:Db (ρ.del p5) p4 n1 x.ls:=(FE.rd A9.mono).mono A9.mono ((Ext.HO KS.up).trans eT);have rp:AT 2 Ff (ρ.del p5) p6 n6 (Ia x.ps y.ps):=(AL.uh (λ_ _ _ _ h=>h) KS).mono Ff.mono ((Ext.Dc x1).trans eT);have hee:Cd (ρ.del p5) [.slice p4 n1 c4,.slice p6 n6 c6] ⟨x.ls,Ia x.ps y.ps⟩:=⟨p4,n1,c4,p6,n6,c6,rfl,rl,rp,rX⟩;refine AL.HI Cd.mono Cm rfl (Cd.one _ _ _ hee) hee (by omega) (λp' c' O' Mk _=>⟨_,_,_,rfl,AI Ba hr.big,AI bO hs.big,?_⟩) h60;have:=ih (i+1) (k+1) O' p' (n5+1) c' (out++[⟨x.ls,Ia x.ps y.ps⟩]) (by omega) (by omega) (by omega) Mk (by omega) (by rw[AnO];exact C);rw[show((i+1:Nat):Int)=(i:Int)+1 by omega,show((k+1:Nat):Int)=(k:Int)+1 by omega]at this;exact this
   .have Ac8:k=m:=by omega
    rw[BF G,show b.drop k=[] from Amm (by omega),Me]at C;exact DH.AM ⟨λ_=>⟨λ_=>left x G (by rw[show b.drop k=[] from Amm (by omega),Me];exact C) (-1) (by decide),λA=>by omega⟩,λA=>by omega⟩
  .by_cases bO:k<m
   .obtain⟨y,hy⟩:=hs.ex bO;rw[BF hy,show a.drop i=[] from Amm (by omega),Ho]at C;exact DH.AM ⟨λA=>by omega,λ_=>⟨λ_=>⟨λA=>by omega,λ_=>⟨λ_=>right y hy (by rw[show a.drop i=[] from Amm (by omega),Ho];exact C) 1 (by decide),λA=>by omega⟩⟩,λA=>by omega⟩⟩
   .rw[Amm (by omega),Amm (by omega),Ho,AoD]at C;subst C;exact DH.AM ⟨λA=>by omega,λ_=>⟨λA=>by omega,λ_=>h p5 n5 c5 O (ho.rd Cd.mono) ho.up⟩⟩
theorem nK {p q:Option Addr}{n c m d lb:Nat}{a b:List Sr}{T:TypeId}(C:Z lb=some (.cells #[.slice p n c,.slice q m d] T (0,0)))(hr:AT 2 Cd Z p n a)(G:AT 2 Cd Z q m b)(ma:MEa a)(mb:MEa b)(uG:a.length+b.length<=2900000000000)(oa:DJ none a=true)
  (h:DJ none b=true->∀p' n' c' Z',AT 2 Cd Z' p' n' (HJ a b)->Ext Z Z'->R (.T #[.slice p' n' c',.I 0]) Z') (h':DJ none b=false->R (.T #[.N,.I 100]) Z):Spec prog 37 #[.slice (aD lb 0) 2 2] Z R:=by
 have l0:Hp.ld Z ⟨lb,0,none⟩=some (.slice p n c):=Ak C rfl;have l1:Hp.ld Z ⟨lb,1,none⟩=some (.slice q m d):=Ak C rfl;refine Dl.start (Dl.Ag ⟨λ_=>⟨lb,0,rfl,by decide,p,n,c,l0,UF hr oa ⟨_,rfl,λA=>absurd rfl A,λ_=>⟨by unfold AF;omega,?_⟩⟩⟩,λA=>absurd (by decide) A⟩);cases ob:DJ none b with
 | false=>exact Dl.Ag ⟨λ_=>⟨lb,0,rfl,by decide,q,m,d,l1,Wc G ⟨_,rfl,λA=>by rw[ob];exact h' ob,λA=>by rw[ob]at A;exact absurd (by decide) A⟩⟩,λA=>absurd (by decide) A⟩
 | true=>
  refine Dl.Ag ⟨λ_=>⟨lb,0,rfl,by decide,q,m,d,l1,UF G ob ⟨_,rfl,λA=>absurd rfl A,λ_=>⟨by unfold AF;omega,?_⟩⟩⟩,λA=>absurd (by decide) A⟩;refine Dl.Ag ⟨λA=>absurd A (by decide),λ_=>?_⟩;refine Dl.Jd ⟨λ_=>⟨lb,0,rfl,by decide,p,n,c,l0,?_⟩,λA=>absurd (by decide) A⟩;refine gD (a:=[]) AT.nil hr ⟨λs G=>(by cases G)⟩ ma (by rw[Apo];omega) λp1 n1 c1 Z1 Gq Bc=>⟨_,_,_,rfl,by unfold AF;omega,?_⟩;rw[Ho]at Gq;refine Dl.Jd ⟨λ_=>⟨lb,0,rfl,by decide,q,m,d,by simpa using Bc.ld l1,?_⟩,λA=>absurd (by decide) A⟩;refine gD Gq (G.mono Cd.mono Bc) ma mb uG λp2 n2 c2 Z2 Gw Ao=>⟨_,_,_,rfl,by unfold AF;omega,?_⟩;exact Dl.Jd ⟨λA=>absurd A (by decide),λ_=>h ob p2 n2 c2 Z2 Gw (Bc.trans Ao)⟩
end
end TwW
end
section
namespace TwW
open Go Tw
theorem ADS:∀{l:List Sr} {q:Option (List Lb)},(∀s∈l,FD s.ls=0/\Ji s.ps=true)->l.Pairwise ltS->(∀k,q=some k->∀s∈l,Ap k s.ls<0)->DJ q l=true
 | [],q,_,_,_=>by cases q<;>rfl
 | e::l,q,G,A,h3=>by
  have A:=AnH.1 A;rw[IS];simp only[Amn,Amq];refine⟨⟨G e (by simp),?_⟩,ADS (λu C=>G u (Amk _ C)) A.2 λk hk u C=>by cases hk;exact A.1 u C⟩;cases q with
  | none=>rfl
  | some k=>exact Amt (h3 k rfl e (by simp))
abbrev ltP (x y:Pt):Prop:=x.1<y.1
theorem ANz {ps:List Pt}(A:ps≠[])(h:ps.Pairwise ltP):Ji ps=true:=(Hj _).2 ⟨List.length_pos_iff.2 A,λj a b C hb=>by
 obtain⟨G,i2⟩:=Amd.1 C;obtain⟨k1,k2⟩:=Amd.1 hb;have:=AnG.1 h j (j+1) G k1 (by omega);rwa[i2,k2]at this⟩
theorem AN0 {ps:List Pt}(h:Ji ps=true):ps≠[]/\ps.Pairwise ltP:=by
 refine⟨λe=>(by rw[e]at h;cases h),?_⟩;have C:=((Hj _).1 h).2;refine AnG.2 λi j hi A JZ=>?_;have key:∀d i (hi:i<ps.length) (A:i+d+1<ps.length),ps[i].1<ps[i+d+1].1:=λd=>by
  induction d with
  | zero=>exact λi hi A=>C i _ _ (Amf hi) (Amf A)
  | succ d G=>
   intro i hi A;have h1:=G i hi (by omega);have h2:=C (i+d+1) _ _ (Amf (by omega)) (Amf (by omega:i+d+1+1<ps.length));have e:i+(d+1)+1=i+d+1+1:=by omega
   simp only[e];omega
 have:=key (j-i-1) i hi (by omega);have e:i+(j-i-1)+1=j:=by omega
 simp only[e]at this;exact this
theorem JH:∀(a b:List Sr),∀s∈HJ a b,s∈a\/s∈b\/∃x∈a,∃y∈b,s=⟨x.ls,Ia x.ps y.ps⟩/\x.ls=y.ls
 | [],b=>λs A=>by rw[Ho]at A;exact .inr (.inl A)
 | x::a,[]=>λs A=>by rw[Me]at A;exact .inl A
 | x::a,y::b=>λs A=>by
  rw[Jx]at A;split at A
  .rcases Aml.1 A with rfl|A
   .exact .inl (Amu ..)
   .rcases JH a (y::b) s A with C|C|⟨w,C,v,G,h3⟩
    .exact .inl (Amk _ C)
    .exact .inr (.inl C)
    .exact .inr (.inr ⟨w,Amk _ C,v,G,h3⟩)
  .rename_i h;split at A
   .rcases Aml.1 A with rfl|A
    .exact .inr (.inl (Amu ..))
    .rcases JH (x::a) b s A with C|C|⟨w,C,v,G,h3⟩
     .exact .inl C
     .exact .inr (.inl (Amk _ C))
     .exact .inr (.inr ⟨w,C,v,Amk _ G,h3⟩)
   .rename_i h';rcases Aml.1 A with rfl|A
    .exact .inr (.inr ⟨x,Amu ..,y,Amu ..,rfl,(AS.eq _ _).1 (by omega)⟩)
    .rcases JH a b s A with C|C|⟨w,C,v,G,h3⟩
     .exact .inl (Amk _ C)
     .exact .inr (.inl (Amk _ C))
     .exact .inr (.inr ⟨w,Amk _ C,v,Amk _ G,h3⟩)
termination_by a b=>a.length+b.length
theorem RL:∀(a b:List Sr),a.Pairwise ltS->b.Pairwise ltS->(HJ a b).Pairwise ltS
 | [],b,_,hb=>by rw[Ho];exact hb
 | x::a,[],ha,_=>by rw[Me];exact ha
 | x::a,y::b,ha,hb=>by
  obtain⟨C,a2⟩:=AnH.1 ha;obtain⟨b1,b2⟩:=AnH.1 hb;rw[Jx];split
  .rename_i h;refine AnH.2 ⟨λz hz=>?_,RL a (y::b) a2 hb⟩;rcases JH a (y::b) z hz with A|A|⟨w,A,v,h2,G,_⟩
   .exact C z A
   .rcases Aml.1 A with rfl|A
    .exact h
    .exact AS.trans _ _ _ h (b1 z A)
   .subst G;exact C w A
  .rename_i h;split
   .rename_i h';have h4:ltS y x:=(AS.Ra _ _).2 h';refine AnH.2 ⟨λz hz=>?_,RL (x::a) b ha b2⟩;rcases JH (x::a) b z hz with A|A|⟨w,A,v,h2,G,h5⟩
    .rcases Aml.1 A with rfl|A
     .exact h4
     .exact AS.trans _ _ _ h4 (C z A)
    .exact b1 z A
    .subst G;show Ap y.ls w.ls<0
     rw[h5];exact b1 v h2
   .rename_i h';have RD:x.ls=y.ls:=(AS.eq _ _).1 (by omega);refine AnH.2 ⟨λz hz=>?_,RL a b a2 b2⟩;rcases JH a b z hz with A|A|⟨w,A,v,h2,G,h5⟩
    .exact C z A
    .show Ap x.ls z.ls<0
     rw[RD];exact b1 z A
    .subst G;exact C w A
termination_by a b=>a.length+b.length
def Fj:List Sr->List Lb->Option (List Pt)
 | [],_=>none
 | s::M,k=>if s.ls=k then some s.ps else Fj M k
def LD:List Sr->List Lb->Pt->List Sr
 | [],k,x=>[⟨k,[x]⟩]
 | s::M,k,x=>if s.ls=k then⟨k,s.ps++[x]⟩::M else s::LD M k x
abbrev cI (M:List Sr):Prop:=(M.map (·.ls)).Nodup
theorem RM:∀{M:List Sr} {k:List Lb},(∀s∈M,s.ls≠k)->Fj M k=none
 | [],_,_=>rfl
 | s::M,k,h=>by rw[Fj,Amb (h s (by simp))];exact RM λu A=>h u (Amk _ A)
theorem Qj:∀{M:List Sr} {k:List Lb} {p:List Pt},Fj M k=some p->(⟨k,p⟩:Sr)∈M
 | s::M,k,p,h=>by
  rw[Fj]at h;split at h
  .rename_i e;cases h;subst e;exact Amu ..
  .exact Amk _ (Qj h)
theorem ui:∀{M:List Sr} {s:Sr},cI M->s∈M->Fj M s.ls=some s.ps
 | u::M,s,hn,A=>by
  obtain⟨C,G⟩:=AnY.1 (show(u.ls::M.map (·.ls)).Nodup from hn);rw[Fj];rcases Aml.1 A with rfl|A
  .rw[Amc rfl]
  .rw[Amb λe=>C (by rw[e];exact AnA.2 ⟨s,A,rfl⟩)];exact ui G A
theorem AGz {M N:List Sr}(h:M.Perm N)(A:cI N)(k:List Lb):Fj M k=Fj N k:=by
 have hm:cI M:=(h.map _).nodup_iff.2 A;cases C:Fj N k with
 | some p=>exact ui (s:=⟨k,p⟩) hm (h.mem_iff.2 (Qj C))
 | none=>
  cases hp:Fj M k with
  | none=>rfl
  | some p=>
   have:Fj N k=some p:=ui (s:=⟨k,p⟩) A (h.mem_iff.1 (Qj hp));rw[C]at this;cases this
theorem cJ {x y:Sr}(h:ltS x y):x.ls≠y.ls:=λe=>by
 have:=(AS.eq _ _).2 e;omega
theorem ADT:∀{M N:List Sr},M.Pairwise ltS->N.Pairwise ltS->(∀k,Fj M k=Fj N k)->M=N
 | [],[],_,_,_=>rfl
 | [],s::N,_,_,h=>by have:=h s.ls;rw[Fj,Fj,Amc rfl]at this;cases this
 | s::M,[],_,_,h=>by have:=h s.ls;rw[Fj,Fj,Amc rfl]at this;cases this
 | x::M,y::N,hm,hn,h=>by
  obtain⟨m1,m2⟩:=AnH.1 hm;obtain⟨n1,n2⟩:=AnH.1 hn;have hx:Fj (y::N) x.ls=some x.ps:=by rw[<-h,Fj,Amc rfl]
  have hy:Fj (x::M) y.ls=some y.ps:=by rw[h,Fj,Amc rfl]
  have e:x.ls=y.ls:=by
   rcases Aml.1 (Qj hx) with e|e
   .exact Amz Sr.ls e
   .rcases Aml.1 (Qj hy) with A|A
    .exact(Amz Sr.ls A).symm
    .have h1:Ap y.ls x.ls<0:=n1 _ e;have h2:Ap x.ls y.ls<0:=m1 _ A;have:=(AS.Ra _ _).1 h1;omega
  have hp:x.ps=y.ps:=by
   rw[e,Fj,Amc rfl]at hx;exact(Am1 hx).symm
  have RD:x=y:=by cases x;cases y;simp only at e hp;rw[e,hp]
  subst RD;rw[ADT m2 n2 λk=>by
   by_cases C:x.ls=k
   .subst C;rw[RM λs G=>(cJ (m1 s G)).symm,RM λs G=>(cJ (n1 s G)).symm]
   .have:=h k;rw[Fj,Fj,Amb C,Amb C]at this;exact this]
theorem ADU:∀(M:List Sr) (k:List Lb) (x:Pt) (j:List Lb),Fj (LD M k x) j=if k=j then some ((Fj M k).getD []++[x]) else Fj M j
 | [],k,x,j=>by rw[LD,Fj];rfl
 | s::M,k,x,j=>by
  rw[LD];split
  .rename_i e;subst e;rw[Fj,Fj,Amc rfl,Fj];by_cases A:s.ls=j
   .rw[Amc A,Amc A];rfl
   .rw[Amb A,Amb A,Amb A]
  .rename_i e;rw[Fj,ADU M k x j,Fj,Fj,Amb e];by_cases A:s.ls=j
   .rw[Amc A,Amb λC=>e (A.trans C.symm),Amc A]
   .rw[Amb A,Amb A]
theorem RN:∀(M:List Sr) (k:List Lb) (x:Pt),(∃j s,M[j]?=some s/\s.ls=k/\LD M k x=M.set j ⟨k,s.ps++[x]⟩)\/((∀s∈M,s.ls≠k)/\LD M k x=M++[⟨k,[x]⟩])
 | [],k,x=>.inr ⟨λs hs=>(by cases hs),rfl⟩
 | s::M,k,x=>by
  by_cases e:s.ls=k
  .exact .inl ⟨0,s,rfl,e,by rw[LD,Amc e];rfl⟩
  .rcases RN M k x with ⟨j,u,A,C,h3⟩|⟨A,C⟩
   .exact .inl ⟨j+1,u,A,C,by rw[LD,Amb e,h3];rfl⟩
   .exact .inr ⟨λu G=>by rcases Aml.1 G with rfl|G;exact e;exact A u G,by rw[LD,Amb e,C];rfl⟩
theorem ADV {M:List Sr}{j:Nat}{s:Sr}{p:List Pt}(h:M[j]?=some s):(M.set j ⟨s.ls,p⟩).map (·.ls)=M.map (·.ls):=by
 refine Ani λi=>?_;rw[Am8,Am8,An9];split
 .rename_i e;subst e;rw[h,Amc (Amd.1 h).1];rfl
 .rfl
theorem AG0 {M:List Sr}(k:List Lb)(x:Pt)(h:cI M):cI (LD M k x):=by
 rcases RN M k x with ⟨j,u,A,rfl,G⟩|⟨A,C⟩
 .rw[G];unfold cI;rw[ADV A];exact h
 .rw[C];unfold cI;rw[Am7,Ao4];exact⟨h,by simp,λa ha b hb e=>by
   rw[An1,Amo]at hb;obtain⟨s,hs,rfl⟩:=AnA.1 ha;exact A s hs (e.trans hb)⟩
def cK:Nat->List Sr->List (ByteArray×Nat)
 | _,[]=>[]
 | n,s::M=>(Dy s.ls,n)::cK (n+1) M
theorem nL:∀{M:List Sr} {n i:Nat} {k:List Lb} (x:Pt),Cz (cK n M) (Dy k)=some i->∃j s,i=n+j/\M[j]?=some s/\s.ls=k/\LD M k x=M.set j ⟨k,s.ps++[x]⟩
 | s::M,n,i,k,x,h=>by
  rw[cK,Cz]at h;split at h
  .rename_i e;cases h;have e:=Qi e;exact⟨0,s,rfl,rfl,e,by rw[LD,Amc e];rfl⟩
  .rename_i e;obtain⟨j,u,h1,C,G,h4⟩:=nL x h;exact⟨j+1,u,by omega,C,G,by rw[LD,Amb λA=>e (by rw[A]),h4];rfl⟩
theorem ADW:∀{M:List Sr} {n:Nat} {k:List Lb},Cz (cK n M) (Dy k)=none->(∀s∈M,s.ls≠k)/\∀a∈cK n M,a.1≠Dy k
 | [],n,k,_=>⟨λs C=>(by cases C),λs C=>(by cases C)⟩
 | s::M,n,k,h=>by
  rw[cK,Cz]at h;split at h
  .cases h
  .rename_i e;obtain⟨h1,h2⟩:=ADW h;exact⟨λu A=>by rcases Aml.1 A with rfl|A;exact λG=>e (by rw[G]);exact h1 u A,λu A=>by rcases Aml.1 A with rfl|A;exact e;exact h2 u A⟩
theorem AG1 {M:List Sr}{k:List Lb}(x:Pt)(h:∀s∈M,s.ls≠k):LD M k x=M++[⟨k,[x]⟩]:=by
 rcases RN M k x with ⟨j,u,C,A,G⟩|⟨_,A⟩
 .exact absurd A (h u (Ame C))
 .exact A
theorem nM:∀{M:List Sr} {n:Nat} {s:Sr},cK n (M++[s])=cK n M++[(Dy s.ls,n+M.length)]
 | [],n,s=>rfl
 | u::M,n,s=>by rw[AnQ,cK,nM,cK,AnN,show n+1+M.length=n+(M.length+1) by omega];rfl
theorem r5:∀{M N:List Sr} {n:Nat},M.map (·.ls)=N.map (·.ls)->cK n M=cK n N
 | [],[],_,_=>rfl
 | s::M,u::N,n,h=>by
  rw[AnT,AnT,AoL]at h;rw[cK,cK,h.1,r5 h.2]
 | [],u::N,_,h=>by cases h
 | u::M,[],_,h=>by cases h
abbrev SG (t:Int)(l:List El):List Sr:=l.map λe=>⟨e.ls,[(t,e.v)]⟩
def cL (M:List Sr)(t:Int)(l:List El):List Sr:=l.foldl (λM x=>LD M x.ls (t,x.v)) M
theorem uj {t:Int}:∀{l:List El} {M:List Sr},cI M->cI (cL M t l)
 | [],M,h=>h
 | x::l,M,h=>uj (t:=t) (l:=l) (AG0 x.ls (t,x.v) h)
abbrev Bd (M:List Sr)(N:Nat):Prop:=M.length<=N/\∀s∈M,s.ps.length<=N
theorem AN1 {M:List Sr}{N:Nat}(k:List Lb)(x:Pt)(h:Bd M N):Bd (LD M k x) (N+1):=by
 obtain⟨h0,C⟩:=h;rcases RN M k x with ⟨j,u,G,rfl,h3⟩|⟨G,h2⟩
 .rw[h3];refine⟨by rw[AoF];omega,λs A=>?_⟩;rcases Aoj A with A|rfl
  .have:=C s A;omega
  .have:=C u (Ame G);dsimp only;rw[Amv,AnW];omega
 .rw[h2];refine⟨by rw[Amv,AnW];omega,λs A=>?_⟩;rcases Am6.1 A with A|A
  .have:=C s A;omega
  .rw[Amo]at A;subst A;show 1<=N+1;omega
theorem r6 {t:Int}:∀{l:List El} {M:List Sr} {N:Nat},Bd M N->Bd (cL M t l) (N+l.length)
 | [],M,N,h=>h
 | x::l,M,N,h=>by
  have:=r6 (t:=t) (l:=l) (AN1 x.ls (t,x.v) h);rw[AnN,show N+(l.length+1)=N+1+l.length by omega];exact this
theorem Bd.le {M:List Sr}{N A:Nat}(h:Bd M N)(C:N<=A):Bd M A:=⟨AnL h.1 C,λs G=>AnL (h.2 s G) C⟩
theorem ADX {t:Int}{k:List Lb}:∀{l:List El} {M:List Sr},l.Pairwise (λa b=>a.ls≠b.ls)->Fj (cL M t l) k=match Fj (SG t l) k with
  | none=>Fj M k
  | some q=>some ((Fj M k).getD []++q)
 | [],M,_=>rfl
 | x::l,M,h=>by
  obtain⟨C,G⟩:=AnH.1 h;show Fj (cL (LD M x.ls (t,x.v)) t l) k=_
  rw[ADX G,ADU];show _=match (if x.ls=k then some [(t,x.v)] else Fj (SG t l) k) with
   | none=>Fj M k
   | some q=>some ((Fj M k).getD []++q)
  by_cases A:x.ls=k
  .subst A;rw[Amc rfl,Amc rfl,RM λs hs=>by
    obtain⟨e,he,rfl⟩:=AnA.1 hs;exact(C e he).symm]
  .rw[Amb A,Amb A];cases Fj (SG t l) k<;>rfl
theorem jM:∀(a b:List Sr),a.Pairwise ltS->b.Pairwise ltS->∀k,Fj (HJ a b) k=match Fj a k,Fj b k with
  | none,o=>o
  | some p,none=>some p
  | some p,some q=>some (Ia p q)
 | [],b,_,_,k=>by rw[Ho];rfl
 | x::a,[],_,_,k=>by rw[Me,show Fj [] k=none from rfl];cases Fj (x::a) k<;>rfl
 | x::a,y::b,ha,hb,k=>by
  obtain⟨a1,a2⟩:=AnH.1 ha;obtain⟨b1,b2⟩:=AnH.1 hb;rw[Jx];split
  .rename_i h;rw[Fj,jM a (y::b) a2 hb k];by_cases A:x.ls=k
   .have e:Fj (y::b) k=none:=RM λs C e=>by
     subst A;rcases Aml.1 C with rfl|C
     .exact cJ h e.symm
     .exact cJ (AS.trans _ _ _ h (b1 s C)) e.symm
    rw[Amc A,e,Fj,Amc A]
   .rw[Amb A,show Fj (x::a) k=Fj a k by rw[Fj,Amb A]]
  .rename_i h;split
   .rename_i h';have h4:ltS y x:=(AS.Ra _ _).2 h';rw[Fj,jM (x::a) b ha b2 k];by_cases A:y.ls=k
    .have e:Fj (x::a) k=none:=RM λs C e=>by
      subst A;rcases Aml.1 C with rfl|C
      .exact cJ h4 e.symm
      .exact cJ (AS.trans _ _ _ h4 (a1 s C)) e.symm
     rw[Amc A,e,Fj,Amc A]
    .rw[Amb A,show Fj (y::b) k=Fj b k by rw[Fj,Amb A]]
   .have G:x.ls=y.ls:=(AS.eq _ _).1 (by omega);rw[Fj,jM a b a2 b2 k,Fj,Fj];by_cases A:x.ls=k
    .rw[Amc A,Amc A,Amc (G▸A)]
    .rw[Amb A,Amb A,Amb (G▸A)]
termination_by a b=>a.length+b.length
theorem Mf:∀{a:List Pt} {t v:Int},(∀p∈a,p.1<t)->Ia a [(t,v)]=a++[(t,v)]
 | [],t,v,_=>by rw[Vh];rfl
 | x::a,t,v,h=>by rw[gC,Amc (h x (by simp)),Mf λp hp=>h p (Amk _ hp)];rfl
theorem UH:∀(a b:List Sr),(HJ a b).length<=a.length+b.length
 | [],b=>by rw[Ho];simp
 | x::a,[]=>by rw[Me];simp
 | x::a,y::b=>by
  rw[Jx];have A:=UH a (y::b);have C:=UH (x::a) b;have G:=UH a b;simp only[AnN]at A C G ⊢;split
  .simp only[AnN];omega
  .split<;>(simp only[AnN];omega)
termination_by a b=>a.length+b.length
structure Iv (t:Int)(c:Nat)(G M:List Sr):Prop where
 key:cI G
 ok:DJ none M=true
 lk:∀k,Fj G k=Fj M k
 tm:∀s∈M,(∀p∈s.ps,p.1<t)/\s.ps.length<=c
theorem Iv.nil {t:Int}:Iv t 0 [] []:=⟨ApT,rfl,λ_=>rfl,λs A=>(by cases A)⟩
theorem Iv.step {t t':Int}{c:Nat}{G M:List Sr}{l:List El}(h:Iv t c G M)(hl:DJ none (SG t l)=true)(ht:t<t'):Iv t' (c+1) (cL G t l) (HJ M (SG t l)):=by
 have sM:=(Mb h.ok).2;have sL:=(Mb hl).2;have pl:l.Pairwise λa b=>a.ls≠b.ls:=(AoY.1 sL).imp λh=>cJ h;have one:∀{s:Sr},s∈SG t l->∃v,s.ps=[(t,v)]:=λhs=>by
  obtain⟨e,_,rfl⟩:=AnA.1 hs;exact⟨_,rfl⟩
 refine⟨uj h.key,ADS (λs hs=>?_) (RL _ _ sM sL) λk hk=>(by cases hk),λk=>?_,λs hs=>?_⟩
 .rcases JH _ _ s hs with A|A|⟨x,A,y,h2,rfl,h3⟩
  .exact Fh h.ok s A
  .exact Fh hl s A
  .obtain⟨c1,c2⟩:=Fh h.ok x A;obtain⟨v,C⟩:=one h2;obtain⟨e1,e2⟩:=AN0 c2;have tx:=(h.tm x A).1;rw[C,Mf tx];exact⟨c1,ANz (by simp) (Apv.2 ⟨e2,ApW ..,λa ha b hb=>by rw[Amo]at hb;subst hb;exact tx a ha⟩)⟩
 .rw[ADX pl,jM _ _ sM sL,h.lk k];cases hb:Fj (SG t l) k with
  | none=>cases Fj M k<;>rfl
  | some q=>
   cases ha:Fj M k with
   | none=>rfl
   | some p=>
    obtain⟨v,C⟩:=one (Qj hb);have C:q=[(t,v)]:=C;subst C;show some (p++[(t,v)])=some (Ia p [(t,v)])
    rw[Mf (h.tm _ (Qj ha)).1]
 .rcases JH _ _ s hs with A|A|⟨x,A,y,h2,rfl,h3⟩
  .obtain⟨g1,g2⟩:=h.tm s A;exact⟨λp hp=>by have:=g1 p hp;omega,by omega⟩
  .obtain⟨v,C⟩:=one A;rw[C];exact⟨λp hp=>by rw[Amo]at hp;subst hp;exact ht,by simp⟩
  .obtain⟨v,C⟩:=one h2;obtain⟨g1,g2⟩:=h.tm x A;dsimp only;rw[C,Mf g1];exact⟨λp hp=>by
    rcases Am6.1 hp with hp|hp
    .have:=g1 p hp;omega
    .rw[Amo]at hp;subst hp;exact ht,by rw[Amv,AnW];omega⟩
theorem Iv.sorted {t:Int}{c:Nat}{G M S:List Sr}(h:Iv t c G M)(hp:S.Perm G)(hs:S.Pairwise λx y=>¬Ap y.ls x.ls<0):S=M:=by
 have hk:cI S:=(hp.map _).nodup_iff.2 h.key;refine ADT ((hs.and (AoY.1 hk)).imp fun {x y} A=>?_) (Mb h.ok).2 λk=>(AGz hp h.key k).trans (h.lk k);obtain⟨h1,C⟩:=A;have h3:Ap y.ls x.ls≠0:=λe=>C ((AS.eq _ _).1 e).symm;exact(AS.Ra _ _).2 (by omega)
def JQ (T:List Nd)(ss:List Sr)(a d:Int):Nat->Option (List Sr×List Sr)
 | 0=>some ([],[])
 | n+1=>(JQ T ss a d n).bind λx=>(A3 FF T ss (a+n*d)).map λl=>(cL x.1 (a+n*d) l,HJ x.2 (SG (a+n*d) l))
abbrev Fi (t:Int):Prop:=-1099511627776<=t/\t<=1099511627776
theorem r8 {T:List Nd}{ss:List Sr}{a d:Int}(hM:Modest T ss)(A:EH T ss=0)(hT:T.length<=4096)(xg:ss.length<=1048576){k:Int}(G:DS T []=some [k])(hS:mi ss)(hd:1<=d):∀{n:Nat} {x:List Sr×List Sr},(∀i:Nat,i<n->Fi (a+i*d))->JQ T ss a d n=some x->
  Iv (a+n*d) n x.1 x.2/\Bd x.1 (n*4294967297)/\x.2.length<=n*4294967297
 | 0,x,_,h=>by cases h;exact⟨Iv.nil,⟨Amh _,λs hs=>(by cases hs)⟩,Amh _⟩
 | n+1,x,ht,h=>by
  rw[JQ]at h;cases C:JQ T ss a d n with
  | none=>rw[C]at h;cases h
  | some y=>
   rw[C]at h;cases hm:A3 FF T ss (a+n*d) with
   | none=>rw[hm]at h;cases h
   | some l=>
    rw[hm]at h;cases h;obtain⟨h1,h2,h3⟩:=r8 hM A hT xg G hS hd (λi hi=>ht i (by omega)) C;have e:instF T ss (a+n*d)=(0,l):=by unfold instF;rw[A,Amb (by decide),Amb (by rw[Amy];exact ht n (by omega)),hm]
    have DZ:=(inst_shape hM (by rw[e])).2.2.1;rw[e]at DZ;have hl:l.length<=4294967297:=by
     have h4:=(Jv hS G hm).2;have:=AoS hT xg;omega
    refine⟨h1.step DZ (by rw[AqN,Int.add_mul];omega),?_,?_⟩
    .exact(r6 h2).le (by omega)
    .have h5:=UH y.2 (SG (a+n*d) l);rw[Amw]at h5;dsimp only;omega
theorem cM {T:List Nd}{ss:List Sr}{a d:Int}{n:Nat}(h:JQ T ss a d n=none):∀{m:Nat},n<=m->JQ T ss a d m=none
 | 0,hm=>by
   have:n=0:=by omega
   subst this;exact h
 | m+1,hm=>by
  by_cases e:n=m+1
  .subst e;exact h
  .rw[JQ,cM h (by omega)];rfl
def Jn (T:List Nd)(ss:List Sr)(a b d:Int):Int×List Sr:=
 if EH T ss≠0 then(EH T ss,[]) else if ¬(Fi a/\Fi b/\a<=b/\1<=d) then(221,[]) else if 512<=(b-a)/d then(222,[]) else
  match JQ T ss a d (((b-a)/d).toNat+1) with
  | none=>(223,[])
  | some x=>(0,x.2)
end TwW
end
section
namespace TwW
open Go Tw Go.RowKit Go.Proofs.Tryz
structure Qk where
 p:Option Addr
 n:Nat
 c:Nat
def EIw (O:Hp)(vs:List Value)(x:El×Nat×Qk):Prop:=vs=[.slice x.2.2.p x.2.2.n x.2.2.c,.slice (aD x.2.1 0) 1 1]/\Db O x.2.2.p x.2.2.n x.1.ls
structure AkA (t:Int)(O0 O Z:Hp)(p:Option Addr)(n c:Nat)(l:List El)(bs:List Nat)(ws:List Qk):Prop where
 len:bs.length=l.length
 wl:ws.length=l.length
 own:∃cs,Aw 2 Z p n c cs/\Ch 2 EIw O cs (l.zip (bs.zip ws))
 cA:∀(i b:Nat) (e:El),bs[i]?=some b->l[i]?=some e->Z b=some (.cells #[.I t,.U e.v] 61 (0,0))
 op:∀a,p=some a->O a.block=none/\a.block ∉ bs
 tb:∀b∈bs,O b=none
 nd:bs.Nodup
 ext:Ext O Z
 base:Ext O0 O
 wr:∀w∈ws,∃cs,Aw 2 O w.p w.n w.c cs
 w0:∀w∈ws,∀a,w.p=some a->O0 a.block=none
 wd:∀(i j:Nat) (w v:Qk),ws[i]?=some w->ws[j]?=some v->i≠j->∀a a',w.p=some a->v.p=some a'->a.block≠a'.block
section
variable {Z Z' O0:Hp}{R:Rr}{t:Int}{O:Hp}{p:Option Addr}{n c:Nat}{l:List El}{bs:List Nat}{ws:List Qk}
end
section
variable {Z Z':Hp}{R:Rr}
theorem ADY:∀w,(Go.sizeOf 61).run prog w=.ok 2 w:=λw=>by kernel_rfl
theorem uo:∀w,(Go.sizeOf 71).run prog w=.ok 2 w:=λw=>by kernel_rfl
theorem AN2:∀w,(Go.sizeOf 51).run prog w=.ok 2 w:=λw=>by kernel_rfl
theorem Aw.two {b o n c j:Nat}{cs:List Value}{v0 v1:Value}{T:TypeId}{Φ:Unit->Hp->Prop}(ho:Aw 2 Z (some ⟨b,o,none⟩) n c cs)(hj:j<n)(hz:∀w,(Go.sizeOf T).run prog w=.ok 2 w)(G:(Value.agg #[v0,v1]).cells=#[v0,v1])(h1:v0.oneCell'=true/\v1.oneCell'=true)
  (hΦ:∀Z' cs',Aw 2 Z' (some ⟨b,o,none⟩) n c cs'->(∀i,i≠j*2->i≠j*2+1->cs'[i]?=cs[i]?)->(∀k,k≠b->Z' k=Z k)->Φ () Z'):AJ prog (Instr.storeAt T (.pointer (some ⟨b,o+j*2,none⟩)) (.agg #[v0,v1])) Z Φ:=by
 obtain⟨hl,C,h⟩:=ho;rcases h with ⟨hp,_⟩|⟨b',o',A,T',hp,hb,sb,J2,LC⟩
 .cases hp
 .cases hp;refine AJ.store hz hb (by rw[G];rfl) (by omega) (by rw[G];intro u hu;simp at hu;rcases hu with rfl|rfl;exact h1.1;exact h1.2) (hΦ _ (((SP A (o+j*2) (Value.agg #[v0,v1]).cells.toList).toList.drop o).take (n*2)) ⟨?_,C,.inr ⟨b,o,_,T',rfl,Hp.AA _ _ _,sb,by simp[Is];exact J2,rfl⟩⟩ (λi h2 h3=>?_) λk hk=>Hp.AN hk)
  .rw[Amp,Amx,Anf,Is];omega
  .rw[G,<-LC];simp only[SP,Ap7];rw[Am5,Am5];by_cases hi:i<n*2
   .rw[Amc hi,Amc hi,Am3,Am3,An9,An9,Amb (by omega),Amb (by omega)]
   .rw[Amb hi,Amb hi]
def Rf (p:Option Addr)(Z Z':Hp):Prop:=∀k u,Z k=some u->(∀a,p=some a->k≠a.block)->Z' k=some u
theorem Rf.trans {p:Option Addr}{Z1 C G:Hp}(h:Rf p Z1 C)(h':Rf p C G):Rf p Z1 G:=λk u hk A=>h' k u (h k u hk A) A
theorem Vi {p:Option Addr}{n c:Nat}{cs:List Value}(ho:Aw 2 Z p n c cs)(hn:n<=100000000)(h:∀Z',Rf p Z Z'->R (.T #[]) Z'):Spec prog 34 #[.slice p n c] Z R:=by
 refine Bq.start λb7 hb7=>?_;have x7:=Ext.set (o:=.cells #[(.string (ByteArray.mk #[115,112,111,105,108,116])),(.string (ByteArray.mk #[115,112,111,105,108,116]))] 71 (0,0)) hb7;refine Xo (ho.mono x7) (q:=aD b7 0) (ys:=[(.string (ByteArray.mk #[115,112,111,105,108,116])),(.string (ByteArray.mk #[115,112,111,105,108,116]))]) ⟨rfl,by decide,.inr ⟨b7,0,rfl,Af.C0 (c:=[(.string (ByteArray.mk #[115,112,111,105,108,116])),(.string (ByteArray.mk #[115,112,111,105,108,116]))]) (Hp.AA _ _ _)⟩⟩ (λu A=>by
  simp only[Aml,AnF,Anp]at A;rcases A with rfl|rfl<;>rfl) (by omega) λp8 c8 y SH hx8 G=>⟨_,_,_,rfl,?_⟩
 have C:∀(g i:Nat) (Z1:Hp) (es:List Value),n-i=g->i<=n->Aw 2 Z1 p n c es->Rf p Z Z1->Bq.iA R p n c (i:Int) Z1:=by
  intro g
  induction g with
  | zero=>exact λi Z1 es hg hi Qy hx=>Bq.TJ ⟨λhh=>by omega,λ_=>h Z1 hx⟩
  | succ g ih=>
   intro i Z1 es hg hi Qy hx;have Ba:i<n:=by omega
   have hp:∃b o,p=some ⟨b,o,none⟩:=by
    rcases Qy.2.2 with ⟨_,h0,_⟩|⟨b,o,_,_,hp,_⟩
    .omega
    .exact⟨b,o,hp⟩
   obtain⟨b,o,rfl⟩:=hp;refine Bq.TJ ⟨λ_=>⟨b,o,rfl,by unfold In;omega,?_⟩,λhh=>by omega⟩;rw[AnE];refine Aw.two Qy Ba uo rfl ⟨rfl,rfl⟩ λZ2 es2 A7 _ hk=>⟨by unfold AF;omega,?_⟩;have:=ih (i+1) Z2 es2 (by omega) (by omega) A7 (hx.trans λk u A Ai=>by rw[hk k (Ai _ rfl)];exact A);rw[show((i+1:Nat):Int)=(i:Int)+1 by omega]at this;exact this
 have first:∀(g i:Nat) (Z1:Hp) (es:List Value),n+1-i=g->i<=n+1->Aw 2 Z1 p8 (n+1) c8 es->(∃r9,Aw 2 Z1 p n c r9)->Rf p Z Z1->Bq.E5 R p n c p8 (n+1) c8 (i:Int) Z1:=by
  intro g
  induction g with
  | zero=>exact λi Z1 es hg hi Qy ⟨r9,sB⟩ hx=>Bq.Ag ⟨λhh=>by omega,λ_=>C n 0 Z1 r9 rfl (Amh _) sB hx⟩
  | succ g ih=>
   intro i Z1 es hg hi Qy sB hx;have Ba:i<n+1:=by omega
   have hp:∃b o,p8=some ⟨b,o,none⟩:=by
    rcases Qy.2.2 with ⟨_,h0,_⟩|⟨b,o,_,_,hp,_⟩
    .omega
    .exact⟨b,o,hp⟩
   obtain⟨b,o,rfl⟩:=hp;refine Bq.Ag ⟨λ_=>⟨b,o,rfl,by unfold In;omega,?_⟩,λhh=>by omega⟩;rw[AnE];refine Aw.two Qy Ba uo rfl ⟨rfl,rfl⟩ λZ2 es2 A7 _ hk=>⟨by unfold AF;omega,?_⟩;have VX:(∃r9,Aw 2 Z2 p n c r9)/\Rf p Z Z2:=by
    rcases G with ⟨rfl,rfl,hcc⟩|⟨_,_,hnb⟩
    .exact⟨⟨_,A7.take (m:=n) (by omega)⟩,hx.trans λk u A Ai=>by rw[hk k (Ai _ rfl)];exact A⟩
    .have jF:Z b=none:=A0 x7 (hnb _ rfl);obtain⟨r9,UI⟩:=sB;refine⟨⟨r9,Aw.jL UI λa ha=>hk _ λe=>?_⟩,λk u A Ai=>?_⟩
     .have:=ho.block a ha;rw[e]at this;exact this jF
     .rw[hk k (λe=>by rw[e,jF]at A;cases A)];exact hx k u A Ai
   have:=ih (i+1) Z2 es2 (by omega) (by omega) A7 VX.1 VX.2;rw[show((i+1:Nat):Int)=(i:Int)+1 by omega]at this;exact this
 refine first (n+1) 0 y _ rfl (Amh _) SH ?_ ?_
 .rcases G with ⟨rfl,rfl,hcc⟩|⟨_,RD,hnb⟩
  .exact⟨_,SH.take (m:=n) (by omega)⟩
  .exact⟨cs,(ho.mono x7).mono RD⟩
 .intro k u A Ai;exact(AU.1 (hx8 k u (AU.2 ⟨Ai,x7 _ _ A⟩))).2
theorem Vj {p:Option Addr}{n c:Nat}{cs:List Value}(ho:Aw 2 Z p n c cs)(hn:n<=100000000)(h:∀Z',Rf p Z Z'->R (.T #[]) Z'):Spec prog 35 #[.slice p n c] Z R:=by
 refine Bp.start λb7 hb7=>?_;have x7:=Ext.set (o:=.cells #[(.I (-7)),.U 77] 61 (0,0)) hb7;refine Xo (ho.mono x7) (q:=aD b7 0) (ys:=[(.I (-7)),.U 77]) ⟨rfl,by decide,.inr ⟨b7,0,rfl,Af.C0 (c:=[(.I (-7)),.U 77]) (Hp.AA _ _ _)⟩⟩ (λu A=>by
  simp only[Aml,AnF,Anp]at A;rcases A with rfl|rfl<;>rfl) (by omega) λp8 c8 y SH hx8 G=>⟨_,_,_,rfl,?_⟩
 have C:∀(g i:Nat) (Z1:Hp) (es:List Value),n-i=g->i<=n->Aw 2 Z1 p n c es->Rf p Z Z1->Bp.iA R p n c (i:Int) Z1:=by
  intro g
  induction g with
  | zero=>exact λi Z1 es hg hi Qy hx=>Bp.TJ ⟨λhh=>by omega,λ_=>h Z1 hx⟩
  | succ g ih=>
   intro i Z1 es hg hi Qy hx;have Ba:i<n:=by omega
   have hp:∃b o,p=some ⟨b,o,none⟩:=by
    rcases Qy.2.2 with ⟨_,h0,_⟩|⟨b,o,_,_,hp,_⟩
    .omega
    .exact⟨b,o,hp⟩
   obtain⟨b,o,rfl⟩:=hp;refine Bp.TJ ⟨λ_=>⟨b,o,rfl,by unfold In;omega,?_⟩,λhh=>by omega⟩;rw[AnE];refine Aw.two Qy Ba ADY rfl ⟨rfl,rfl⟩ λZ2 es2 A7 _ hk=>⟨by unfold AF;omega,?_⟩;have:=ih (i+1) Z2 es2 (by omega) (by omega) A7 (hx.trans λk u A Ai=>by rw[hk k (Ai _ rfl)];exact A);rw[show((i+1:Nat):Int)=(i:Int)+1 by omega]at this;exact this
 have first:∀(g i:Nat) (Z1:Hp) (es:List Value),n+1-i=g->i<=n+1->Aw 2 Z1 p8 (n+1) c8 es->(∃r9,Aw 2 Z1 p n c r9)->Rf p Z Z1->Bp.E5 R p n c p8 (n+1) c8 (i:Int) Z1:=by
  intro g
  induction g with
  | zero=>exact λi Z1 es hg hi Qy ⟨r9,sB⟩ hx=>Bp.Ag ⟨λhh=>by omega,λ_=>C n 0 Z1 r9 rfl (Amh _) sB hx⟩
  | succ g ih=>
   intro i Z1 es hg hi Qy sB hx;have Ba:i<n+1:=by omega
   have hp:∃b o,p8=some ⟨b,o,none⟩:=by
    rcases Qy.2.2 with ⟨_,h0,_⟩|⟨b,o,_,_,hp,_⟩
    .omega
    .exact⟨b,o,hp⟩
   obtain⟨b,o,rfl⟩:=hp;refine Bp.Ag ⟨λ_=>⟨b,o,rfl,by unfold In;omega,?_⟩,λhh=>by omega⟩;rw[AnE];refine Aw.two Qy Ba ADY rfl ⟨rfl,rfl⟩ λZ2 es2 A7 _ hk=>⟨by unfold AF;omega,?_⟩;have VX:(∃r9,Aw 2 Z2 p n c r9)/\Rf p Z Z2:=by
    rcases G with ⟨rfl,rfl,hcc⟩|⟨_,_,hnb⟩
    .exact⟨⟨_,A7.take (m:=n) (by omega)⟩,hx.trans λk u A Ai=>by rw[hk k (Ai _ rfl)];exact A⟩
    .have jF:Z b=none:=A0 x7 (hnb _ rfl);obtain⟨r9,UI⟩:=sB;refine⟨⟨r9,Aw.jL UI λa ha=>hk _ λe=>?_⟩,λk u A Ai=>?_⟩
     .have:=ho.block a ha;rw[e]at this;exact this jF
     .rw[hk k (λe=>by rw[e,jF]at A;cases A)];exact hx k u A Ai
   have:=ih (i+1) Z2 es2 (by omega) (by omega) A7 VX.1 VX.2;rw[show((i+1:Nat):Int)=(i:Int)+1 by omega]at this;exact this
 refine first (n+1) 0 y _ rfl (Amh _) SH ?_ ?_
 .rcases G with ⟨rfl,rfl,hcc⟩|⟨_,RD,hnb⟩
  .exact⟨_,SH.take (m:=n) (by omega)⟩
  .exact⟨cs,(ho.mono x7).mono RD⟩
 .intro k u A Ai;exact(AU.1 (hx8 k u (AU.2 ⟨Ai,x7 _ _ A⟩))).2
theorem Rf.own {q p:Option Addr}{s n c:Nat}{cs:List Value}(h:Rf q Z Z')(G:Aw s Z p n c cs)(Ai:∀a a',p=some a->q=some a'->a.block≠a'.block):Aw s Z' p n c cs:=
 Aw.jL G λa A=>by
  cases C:Z a.block with
  | none=>exact absurd C (G.block a A)
  | some u=>exact h a.block u C λa' Hx=>Ai a a' A Hx
end
theorem nN {s:Bool}{r:Nat}(h:r<=9218868437227405312):(Ieee.double.read (Ieee.double.word s r)).isNaN=false:=by
 have A:Ieee.double.signWeight=9223372036854775808:=by kernel_rfl
 have C:Ieee.double.binade=4503599627370496:=by kernel_rfl
 have G:Ieee.double.infRung=9218868437227405312:=by kernel_rfl
 have hw:Ieee.double.word s r%9223372036854775808=r:=by
  unfold Ieee.Format.word;rw[A];split<;>omega
 unfold Ieee.Format.read;simp only[A,C,G,hw];split
 .rfl
 .split
  .rfl
  .rw[Amc (by omega)];rfl
theorem ADZ {s:Bool}{m:Nat}{p:Int}:(Ieee.double.read (Ieee.double.nearest s m p)).isNaN=false:=by
 have A:Ieee.double.infRung=9218868437227405312:=by kernel_rfl
 unfold Ieee.Format.nearest;split
 .exact nN (by decide)
 .exact nN (by rw[A];exact Aph _ _)
theorem toF_whole (n:Int):toF (FloatKind.f64.nearest n)=FloatKind.f64.nearest n:=by
 have h:GN (FloatKind.f64.nearest n)=false:=by
  rw[VQ];exact ADZ (s:=decide (n<0)) (m:=n.natAbs) (p:=0)
 unfold toF;rw[h,Amb (by decide)]
theorem AKH {a b:Nat}(h:GN b=true):Ieee.double.order a b=none:=by
 obtain⟨s,t,A⟩:=bT h;unfold Ieee.Format.order;rw[A];cases Ieee.double.read a<;>rfl
theorem gE (a:Int):(Rb a).toNat=toF a.toNat:=by unfold Rb;exact AnE _
theorem toF_no {a:Nat}(h:GN a=false):toF a=a:=by unfold toF;rw[h,Amb (by decide)]
theorem toF_na {a:Nat}(h:GN a=true):toF a=9221120237041090560:=by unfold toF;rw[h];rfl
theorem AG2 {op v a:Int}:IT op v (Rb a)=IT op v a:=by
 unfold IT fCm;rw[gE];cases h:GN a.toNat with
 | false=>rw[toF_no h]
 | true=>rw[toF_na h,AKH h,AKH QU]
theorem AdC (a:Int):IT 6 a a=GN a.toNat:=by
 show(Ieee.double.order a.toNat a.toNat != some .eq)=!(Ieee.double.order a.toNat a.toNat==some .eq)
 rfl
theorem uq {a:Int}:Rb a=9221120237041090560↔GN a.toNat=true:=by
 constructor
 .intro h;cases A:GN a.toNat with
  | true=>rfl
  | false=>
   unfold Rb at h;rw[toF_no A]at h;have:a.toNat=9221120237041090560:=by omega
   rw[this,QU]at A;cases A
 .intro h;unfold Rb;rw[toF_na h];rfl
def cP (op:Int)(out v:Int):Int:=if IT op v out=true\/IT 6 out out=true then Rb v else out
theorem AG3 (op a v:Int):cP op (Rb a) v=Rb (W3 op a v):=by
 unfold cP W3;rw[AG2,AdC,gE];by_cases C:IT op v a=true
 .rw[Amc (.inl C),Amc (.inl C)]
 .by_cases A:GN a.toNat=true
  .rw[Amc (.inr (by rw[toF_na A];exact QU)),Amc (.inr (uq.2 A))]
  .rw[Amb,Amb]
   .rintro(h|h)
    .exact C h
    .exact A (uq.1 h)
   .rintro(h|h)
    .exact C h
    .rw[toF_no (by simpa using A)]at h;exact A h
theorem cQ (op:Int):∀(l:List Int) (a:Int),l.foldl (cP op) (Rb a)=Rb (l.foldl (W3 op) a)
 | [],a=>rfl
 | v::l,a=>by rw[AoC,AoC,AG3,cQ op l]
section
variable {Z:Hp}{R:Rr}
theorem CF {x:Int}(h:R (.returned (.float .f64 x.toNat)) Z):Spec prog 147 #[.U x] Z R:=tM.start (.y q8 ⟨_,rfl,h⟩)
theorem Co {x:Nat}(h:R (.returned (.U (toF x:Nat))) Z):Spec prog 103 #[.float .f64 x] Z R:=by
 refine tu.start ⟨GN x,λw _=>rfl,λC=>?_,λA=>.y QV ⟨_,rfl,?_⟩⟩
 .rw[toF_na C]at h;exact h
 .rw[toF_no A]at h;exact h
theorem nO {op a b:Int}(h:R (.returned (if 1<=op/\op<=4 then .tuple #[.U (N0 op a b),.bool true] else .tuple #[.U 0,.bool false])) Z):Spec prog 153 #[.I op,.U a,.U b] Z R:=by
 refine WG.start (CF ⟨_,rfl,CF ⟨_,rfl,λC=>Hk λx A=>⟨_,rfl,Co ⟨_,rfl,?_⟩⟩,λC=>⟨λG=>uH λx A=>⟨_,rfl,Co ⟨_,rfl,?_⟩⟩,λG=>⟨λh3=>D6 λx A=>⟨_,rfl,Co ⟨_,rfl,?_⟩⟩,λh3=>⟨λh4=>XZ λx A=>⟨_,rfl,Co ⟨_,rfl,?_⟩⟩,λh4=>?_⟩⟩⟩⟩⟩)
 .subst C;rw[A];exact h
 .subst G;rw[A];exact h
 .subst h3;rw[A];exact h
 .subst h4;rw[A];exact h
 .rw[Amb (by omega)]at h;exact h
theorem dq {op a b:Int}(h:R (.T #[.bool (IT op a b),.bool (decide (5<=op/\op<=10))]) Z):Spec prog 152 #[.I op,.U a,.U b] Z R:=by
 have fin:∀{k:Int} {t:Bool},op=k->5<=k->k<=10->fCm k a.toNat b.toNat=t->R (.T #[.bool t,.bool true]) Z:=λhk A W0 ht=>by
  subst hk;rw[show IT op a b=fCm op a.toNat b.toNat from rfl,ht,show decide (5<=op/\op<=10)=true from Amt ⟨A,W0⟩]at h;exact h
 refine R0.start (CF ⟨_,rfl,CF ⟨_,rfl,
  λC=>⟨_,λw _=>rfl,fin C (by decide) (by decide) rfl⟩,λC=>
  ⟨λG=>⟨_,λw _=>rfl,fin G (by decide) (by decide) rfl⟩,λG=>
  ⟨λh3=>⟨_,λw _=>rfl,fin h3 (by decide) (by decide) rfl⟩,λh3=>
  ⟨λh4=>⟨_,λw _=>rfl,fin h4 (by decide) (by decide) rfl⟩,λh4=>
  ⟨λA=>⟨_,λw _=>rfl,fin A (by decide) (by decide) rfl⟩,λA=>
  ⟨λh6=>⟨_,λw _=>rfl,fin h6 (by decide) (by decide) rfl⟩,λh6=>?_⟩⟩⟩⟩⟩⟩⟩)
 rw[show decide (5<=op/\op<=10)=false from Ams (by omega),show IT op a b=false by unfold IT fCm;simp only[C,G,h3,h4,A,h6,AoH]]at h;exact h
theorem Ku {op a b:Int}(A:1<=op/\op<=4)(h:R (.returned (.U (N0 op a b))) Z):Spec prog 115 #[.I op,.U a,.U b] Z R:=by
 refine kx.start (nO ?_);rw[Amc A];exact⟨_,_,rfl,h⟩
theorem Dz {op a b:Int}(h:R (.returned (.bool (IT op a b))) Z):Spec prog 114 #[.I op,.U a,.U b] Z R:=
 V5.start (dq ⟨_,_,rfl,h⟩)
theorem Kv {n:Int}(h:R (.returned (.U (AY n))) Z):Spec prog 151 #[.I n] Z R:=
 WM.start (MU (v:=.float .f64 (FloatKind.f64.nearest n)) (λw=>by kernel_rfl) ⟨_,rfl,Co ⟨_,rfl,by rw[toF_whole];exact h⟩⟩)
theorem Vk {b:Bool}(h:R (.returned (.U (if b then AY 1 else AY 0))) Z):Spec prog 113 #[.bool b] Z R:=
 fM.start ⟨λC=>Kv ⟨_,rfl,by rw[C]at h;exact h⟩,λA=>by
  rw[A]at h;have e:AY 0=0:=by kernel_rfl
  rw[Amb (by decide),e]at h;exact h⟩
theorem KL {op:Int}(h:R (.returned (.bool (BR op))) Z):Spec prog 112 #[.I op] Z R:=by
 unfold BR at h;refine PT.start ⟨λA=>?_,λA=>?_⟩
 .rw[Amt A,Anw]at h;exact h
 .rw[Ams A,Anv]at h;exact h
theorem ADa {x:Int}(A:0<=x)(C:x<18446744073709551616):Go.bits .xor .u64 x 9223372036854775808=((x.toNat ^^^ 9223372036854775808:Nat):Int):=by
 have e:Go.bits .xor .u64 x 9223372036854775808=IntKind.u64.wrap (((BitVec.ofInt 64 x) ^^^ (BitVec.ofInt 64 9223372036854775808)).toNat:Int):=rfl;have G:(BitVec.ofInt 64 9223372036854775808).toNat=9223372036854775808:=rfl;have h3:(BitVec.ofInt 64 x).toNat=x.toNat:=by
  rw[ApR];show(x%18446744073709551616).toNat=x.toNat
  rw[Int.emod_eq_of_lt A C]
 have Av:((BitVec.ofInt 64 x) ^^^ (BitVec.ofInt 64 9223372036854775808)).toNat<18446744073709551616:=BitVec.isLt _;rw[e,T7 (Anh _) (by omega),BitVec.toNat_xor,G,h3]
theorem ADb {x:Int}(A:0<=x)(C:x<18446744073709551616):Go.bits .andNot .u64 x 9223372036854775808=((x.toNat%9223372036854775808:Nat):Int):=by
 have e:Go.bits .andNot .u64 x 9223372036854775808=IntKind.u64.wrap (((BitVec.ofInt 64 x) &&& ~~~(BitVec.ofInt 64 9223372036854775808)).toNat:Int):=rfl;have G:(~~~(BitVec.ofInt 64 9223372036854775808)).toNat=2^63-1:=rfl;have h3:(BitVec.ofInt 64 x).toNat=x.toNat:=by
  rw[ApR];show(x%18446744073709551616).toNat=x.toNat
  rw[Int.emod_eq_of_lt A C]
 have Av:((BitVec.ofInt 64 x) &&& ~~~(BitVec.ofInt 64 9223372036854775808)).toNat<18446744073709551616:=BitVec.isLt _;rw[e,T7 (Anh _) (by omega),BitVec.toNat_and,G,h3,Nat.and_two_pow_sub_one_eq_mod]
theorem UJ {x:Int}(A:0<=x)(C:x<18446744073709551616)(h:R (.returned (.U (QW x))) Z):Spec prog 111 #[.U x] Z R:=by
 refine Tp.start (CF ⟨_,rfl,x.toNat ^^^ 9223372036854775808,NY rfl,Co ⟨_,rfl,?_⟩⟩);unfold QW Rb at h;rw[ADa A C,AnE]at h;exact h
theorem xh {x:Int}(G:0<=x)(h1:x<18446744073709551616)(h:R (.returned (.U (Rc x))) Z):Spec prog 105 #[.U x] Z R:=by
 have e:=ADb G h1;have A:GN (x.toNat%9223372036854775808)=GN x.toNat:=by
  rw[ApM,JE,JE,Nat.mod_mod]
 unfold Rc at h;rw[e,AnE]at h;refine fX.start (CF ⟨_,rfl,GN x.toNat,λw _=>rfl,λht=>?_,λhf x10 C=>?_⟩)
 .rw[toF_na (A.trans ht)]at h;exact h
 .rw[C,e];rw[toF_no (A.trans hf)]at h;exact h
theorem nP {x:Int}(h:R (.returned (.U (Hl x))) Z):Spec prog 106 #[.U x] Z R:=
 WK.start (CF ⟨_,rfl,Sd.start (mF λy A=>⟨_,rfl,_,rfl,Co ⟨_,rfl,by rw[A];exact h⟩⟩)⟩)
theorem Ib {op:Int}{p:Option Addr}{n c:Nat}{vs:List Int}(ho:1<=op/\op<=5)(hr:Eh .u64 Z p n vs)(h0:0<n)(h:R (.returned (.U (foldI op vs))) Z):Spec prog 110 #[.I op,.slice p n c] Z R:=by
 have hl:vs.length=n:=hr.1;have IP:=hr.big;obtain⟨v,hv⟩:=hr.ex h0;obtain⟨b,o,rfl,CH⟩:=Eh.at hr hv;have dJ:vs=v::vs.drop 1:=by
  cases vs with
  | nil=>cases hv
  | cons a l=>simp only[AnD,Ami]at hv;rw[hv];rfl
 obtain⟨A,C⟩:∃A:Int->Int->Int,A=if op=2 then cP 7 else if op=3 then cP 9 else N0 1:=⟨_,rfl⟩
 have Xi:∀a,a=(vs.drop 1).foldl A (Rb v)->(op=4->foldI op vs=N0 4 a (AY n))/\(op=5->foldI op vs=AY n)/\(op≠4->op≠5->foldI op vs=a):=λa ha=>by
  have es:N0 1=A->VR vs=a:=λe=>by rw[dJ,ha,<-e];rfl
  refine⟨λe4=>?_,λe5=>?_,λn4 n5=>?_⟩
  .subst e4;show N0 4 (VR vs) (AY vs.length)=_
   rw[es (by rw[C,Amb (by decide),Amb (by decide)]),hl]
  .subst e5;show AY vs.length=_
   rw[hl]
  .rcases(by omega:op=1\/op=2\/op=3) with e|e|e
   .subst e;exact es (by rw[C,Amb (by decide),Amb (by decide)])
   .subst e;rw[Amc rfl]at C;show Kr 7 vs=a
    rw[ha,C,cQ];rw[dJ];rfl
   .subst e;rw[Amb (by decide),Amc rfl]at C;show Kr 9 vs=a
    rw[ha,C,cQ];rw[dJ];rfl
 refine FQ.start ⟨b,o,rfl,by omega,v,by simpa using CH,CF ⟨_,rfl,Co ⟨_,rfl,?_⟩⟩⟩;show FQ.AR R op (aD b o) n c (Rb v) 1 Z
 suffices H:∀g k:Nat,∀a:Int,n-k=g->1<=k->k<=n->(vs.drop 1).foldl A (Rb v)=(vs.drop k).foldl A a->FQ.AR R op (aD b o) n c a (k:Int) Z from H (n-1) 1 (Rb v) rfl (Amr _) h0 rfl
 intro g
 induction g with
 | zero=>
  intro k a hg h1 hk he;have hdk:vs.drop k=[]:=Amm (by omega);rw[hdk]at he;obtain⟨f4,f5,f0⟩:=Xi a he.symm;refine FQ.AM ⟨λAv=>by omega,λ_=>⟨λe4=>Kv ⟨_,rfl,Ku (by decide) ⟨_,rfl,?_⟩⟩,λn4=>⟨λe5=>Kv ⟨_,rfl,?_⟩,λn5=>?_⟩⟩⟩
  .rw[f4 e4]at h;exact h
  .rw[f5 e5]at h;exact h
  .rw[f0 n4 n5]at h;exact h
 | succ g ih=>
  intro k a hg h1 hk he;have Rm:k<n:=by omega
  obtain⟨x,hx⟩:=hr.ex Rm;obtain⟨_,_,hp,KZ⟩:=Eh.at hr hx;cases hp;rw[BA hx,AoC]at he;have go:∀y,A a x=y->FQ.GL R op (aD b o) n c y (k:Int) Z:=λy hy=>FQ.Ih ⟨AI Rm IP,ih (k+1) y (by omega) (by omega) (by omega) (by rw[<-hy];exact he)⟩;have sC:Hp.ld Z ⟨b,o+Int.toNat (k:Int)*1,none⟩=some (.U x):=by simpa using KZ
  have G:In (k:Int) (n:Int):=by unfold In;omega
  refine FQ.AM ⟨λ_=>⟨λe2=>⟨b,o,rfl,G,x,sC,Dz ⟨_,rfl,λht=>⟨G,x,sC,CF ⟨_,rfl,Co ⟨_,rfl,go _ ?_⟩⟩⟩,λhf=>Dz ⟨_,rfl,λht=>⟨G,x,sC,CF ⟨_,rfl,Co ⟨_,rfl,go _ ?_⟩⟩⟩,λyI=>go _ ?_⟩⟩⟩,λn2=>⟨λe3=>⟨b,o,rfl,G,x,sC,Dz ⟨_,rfl,λht=>⟨G,x,sC,CF ⟨_,rfl,Co ⟨_,rfl,go _ ?_⟩⟩⟩,λhf=>Dz ⟨_,rfl,λht=>⟨G,x,sC,CF ⟨_,rfl,Co ⟨_,rfl,go _ ?_⟩⟩⟩,λyI=>go _ ?_⟩⟩⟩,λn3=>⟨b,o,rfl,G,x,sC,Ku (by decide) ⟨_,rfl,go _ ?_⟩⟩⟩⟩,λhh=>by omega⟩
  .rw[C,Amc e2];unfold cP;rw[Amc (.inl ht)];rfl
  .rw[C,Amc e2];unfold cP;rw[Amc (.inr ht)];rfl
  .rw[C,Amc e2];unfold cP;rw[Amb (by rw[hf,yI];decide)]
  .rw[C,Amb n2,Amc e3];unfold cP;rw[Amc (.inl ht)];rfl
  .rw[C,Amb n2,Amc e3];unfold cP;rw[Amc (.inr ht)];rfl
  .rw[C,Amb n2,Amc e3];unfold cP;rw[Amb (by rw[hf,yI];decide)]
  .rw[C,Amb n2,Amb n3]
end
theorem gF {cs:List Value}{v:Value}{s i j r:Nat}(hr:r<s):((cs.set (i*s+r) v).drop (j*s)).take s=if i=j then((cs.drop (j*s)).take s).set r v else(cs.drop (j*s)).take s:=by
 refine Ani λk=>?_;by_cases G:i=j
 .subst G;rw[Amc rfl,Am5,An9,Am5,Am3,Am3,An9];by_cases A:k<s
  .rw[Amc A,Amc A];by_cases C:r=k
   .subst C;rw[Amc rfl,Amc rfl,Amp,Amx];by_cases Av:i*s+r<cs.length
    .rw[Amc Av,Amc (by omega)]
    .rw[Amb Av,Amb (by omega)]
   .rw[Amb (by omega),Amb C]
  .rw[Amb A,Amb A,Amb (by omega)]
 .rw[Amb G,Am5,Am5,Am3,Am3,An9];by_cases A:k<s
  .rw[Amc A,Amc A,Amb];intro e;rcases Ao3 i j with h|h|h
   .have:=AnM s (show i+1<=j from h);rw[Aog]at this;omega
   .exact G h
   .have:=AnM s (show j+1<=i from h);rw[Aog]at this;omega
  .rw[Amb A,Amb A]
def Awk:Prop:=∀(Z:Hp) (R:Rr),Gl Z->(∀Z',Ext Z Z'->R (.B true) Z')->Spec prog 14 #[] Z R
def sX:ByteArray:=⟨#[120]⟩
def sA:ByteArray:=⟨#[97]⟩
def s1_:ByteArray:=⟨#[49]⟩
def s2_:ByteArray:=⟨#[50]⟩
def nV:Nd:=⟨2,0,ByteArray.mk #[],[⟨1,Tv,sX⟩],0,0,0,[],false,0⟩
def nA:Nd:=⟨5,1,ByteArray.mk #[],[],0,0,0,[],false,1⟩
def T0:List Nd:=[nV,nA]
def AN4:List Lb:=[(Tv,sX),(sA,s1_)]
def AN5:List Lb:=[(Tv,sX),(sA,s2_)]
abbrev v1:Int:=4607182418800017408
abbrev v3:Int:=4613937818241073152
abbrev v5:Int:=4617315517961601024
abbrev v8:Int:=4620693217682128896
def ur:List Sr:=[⟨AN4,[(0,v1),(60,v3)]⟩,⟨AN5,[(60,v5)]⟩]
theorem ty0:Jm T0=some 2:=by kernel_rfl
theorem AXI:A3 FF T0 ur 60=some [⟨[],v8⟩]:=by kernel_rfl
theorem AdE:A3 FF T0 ur 0=some [⟨[],v1⟩]:=by kernel_rfl
theorem jN:Modest T0 ur:=by
 refine⟨by decide,λx C=>?_,by decide,λs A=>?_,λs A p hp=>?_⟩
 .simp only[T0,Aml,AnF,Anp]at C;rcases C with rfl|rfl<;>decide
 .simp only[ur,Aml,AnF,Anp]at A;rcases A with rfl|rfl<;>decide
 .simp only[ur,Aml,AnF,Anp]at A;rcases A with rfl|rfl<;>simp at hp<;>(try rcases hp with rfl|rfl)<;>(try subst hp)<;>decide
theorem inst60:instF T0 ur 60=(0,[⟨[],v8⟩]):=by kernel_rfl
structure Bx where
 b5:Nat
 b6:Nat
 E2:Nat
 Bu:Nat
 D0:Nat
 DL:Nat
 D:Nat
 l:Nat
 m:Nat
 p:Option Addr
 n:Nat
 c:Nat
 q:Option Addr
 k:Nat
 d:Nat
 r0:Loop
theorem Aw.here {s:Nat}{Z Z':Hp}{p:Option Addr}{n c:Nat}{cs:List Value}(h:Aw s Z p n c cs)(hs:∀a,p=some a->Z' a.block=Z a.block):Aw s Z' p n c cs:=by
 obtain⟨C,G,h3|⟨b,o,A,T,rfl,hb,r⟩⟩:=h
 .exact⟨C,G,.inl h3⟩
 .exact⟨C,G,.inr ⟨b,o,A,T,rfl,(hs _ rfl).trans hb,r⟩⟩
theorem kpL {A B:Hp}{L:List (Nat×Obj)}{i b:Nat}{o:Obj}(hn:(names L).Nodup)(hi:L[i]?=some (b,o)):Kp [b] (Az A L) (Az B L):=λx G u C=>by
 rw[Amo]at G;subst G;rw[Dm hn hi]at C ⊢;exact C
structure St (Z B:Hp)(m b o e k:Nat):Prop where
 ext:Ext Z B
 own:∃pl cl pp cc ds,Aw 2 B (some ⟨b,o,none⟩) 1 e [.slice pl 0 cl,.slice pp k cc]/\Aw 2 B pp k cc ds/\(∀a,pp=some a->a.block≠b/\a.block≠m/\Z a.block=none)
 map:MS (λv _=>v=.I 0) B m [(Dy [],(0:Int))]
 hb:Z b=none
 hm:Z m=none
 ne:m≠b
theorem AN6 (w:World):(Go.sizeOf 59).run prog w=.ok 2 w:=by kernel_rfl
theorem AN7 (w:World):(Go.sizeOf 49).run prog w=.ok 1 w:=by kernel_rfl
theorem Xf (w:World):(Go.sizeOf 23).run prog w=.ok 1 w:=by kernel_rfl
theorem jO (w:World):(Go.sizeOf 24).run prog w=.ok 1 w:=by kernel_rfl
section
variable {Z B:Hp}{R:Rr}{X:Bx}
end
structure xi (O Z:Hp)(p:Option Addr)(n c:Nat)(xs:List Int)(q:Option Addr)(m d:Nat)(ys:List Int):Prop where
 l:Eb .u64 Z p n c xs
 r:Eb .u64 Z q m d ys
 sep:∀a a',p=some a->q=some a'->a.block≠a'.block
 pl:∀a,p=some a->O a.block=none
 qr:∀a,q=some a->O a.block=none
 ext:Ext O Z
section
variable {Z Z' O:Hp}{R:Rr}{p q:Option Addr}{n c m d:Nat}{xs ys:List Int}
theorem xi.symm (h:xi O Z p n c xs q m d ys):xi O Z q m d ys p n c xs:=⟨h.r,h.l,λa a' C A=>(h.sep a' a A C).symm,h.qr,h.pl,h.ext⟩
theorem xi.mono (h:xi O Z p n c xs q m d ys)(A:Ext Z Z'):xi O Z' p n c xs q m d ys:=⟨Aw.mono A h.l,Aw.mono A h.r,h.sep,h.pl,h.qr,h.ext.trans A⟩
theorem xi.app {T Et ty:TypeId}{bs:Nat}[KT prog T Et 1 bs]{v:Int}{b:Nat}{Φ:Value->Hp->Prop}(h:xi O Z p n c xs q m d ys)(hb:Z b=none)(hn:(n+1)*bs<=140737488355328)
  (hΦ:∀G c' Z',xi O Z' G (n+1) c' (xs++[v]) q m d ys->Φ (.slice G (n+1) c') Z'):AJ prog (Builtin.append_ #[T,T] ty #[.slice p n c,.slice (aD b 0) 1 1]) (Z.set b (.cells #[.U v] Et (0,0))) Φ:=by
 have hl:Aw 1 Z p n c (xs.map (.int .u64)):=h.l;have hr:Aw 1 Z q m d (ys.map (.int .u64)):=h.r;have xb:=Ext.set (o:=.cells #[.U v] Et (0,0)) hb;refine Ea (Aw.mono xb hl) (q:=aD b 0) (ys:=[.U v]) ⟨rfl,by omega,.inr ⟨b,0,rfl,Af.C0 (c:=[.U v]) (Hp.AA _ _ _)⟩⟩ (λu hu=>by rw[Amo.1 hu];rfl) hn λG c' Z' ho hx=>?_;have K:∀k,Z k≠none->(∀a,p=some a->k≠a.block)->Z' k=Z k/\∀a,G=some a->k≠a.block:=λk C Ai=>by
  cases hh:Z k with
  | none=>exact absurd hh C
  | some u=>
   obtain⟨a1,a2⟩:=AU.1 (hx k u (AU.2 ⟨Ai,xb k u hh⟩));exact⟨a2,a1⟩
 have kq:=hr.block;have kt:∀k,O k≠none->Z' k=Z k/\∀a,G=some a->k≠a.block:=λk C=>by
  refine K k (λe=>C (A0 h.ext e)) λa A e=>?_;rw[e]at C;exact C (h.pl a A)
 refine hΦ G c' Z' ⟨by simpa[Eb] using ho,Aw.here hr λa A=>(K a.block (kq a A) λa' Hx=>(h.sep a' a Hx A).symm).1,λa a' A Hx e=>(K a'.block (kq a' Hx) λa0 ha0=>(h.sep a0 a' ha0 Hx).symm).2 a A e.symm,λa A=>?_,h.qr,λk u C=>?_⟩
 .cases hh:O a.block with
  | none=>rfl
  | some u=>exact absurd rfl ((kt a.block (by rw[hh];simp)).2 a A)
 .rw[(kt k (by rw[C];simp)).1];exact h.ext k u C
theorem dt {n k:Nat}(hn:n=1\/n=2\/n=4\/n=8)(hk:k<n)(h:∀Z',Ext Z Z'->R (.T #[.float .f64 (W4.getD (k*(8/n)) (0,0)).1,.float .f64 (W4.getD (k*(8/n)) (0,0)).2]) Z'):Spec prog 227 #[.I n,.I k] Z R:=by
 have e:∀x,x=IntKind.i64.wrap (Int.tdiv 8 (n:Int))->x=((8/n:Nat):Int):=λx hx=>by rw[hx];rcases hn with h|h|h|h<;>subst h<;>rfl
 have hq:k*(8/n)<8:=by rcases hn with h|h|h|h<;>subst h<;>simp<;>omega
 refine R4.start (CF ⟨_,rfl,dN,NY (by decide),dN,NY (by decide),λHy h16=>⟨dN,NY (by decide),dN,NY (by decide),λJc h23=>⟨by omega,λLY A=>?_⟩⟩⟩);have x1:=Ext.set (o:=.cells #[.float .f64 4607182418800017408,(Value.float .f64 (Int.toNat 4604544271217802189)),.float .f64 0,(Value.float .f64 dN),.float .f64 13830554455654793216,(Value.float .f64 dN),.float .f64 0,(Value.float .f64 (Int.toNat 4604544271217802189))] 73 (0,0)) h16;have c1:=Hp.AA Z Hy (.cells #[.float .f64 4607182418800017408,(Value.float .f64 (Int.toNat 4604544271217802189)),.float .f64 0,(Value.float .f64 dN),.float .f64 13830554455654793216,(Value.float .f64 dN),.float .f64 0,(Value.float .f64 (Int.toNat 4604544271217802189))] 73 (0,0));have x2:=Ext.set (o:=.cells #[.float .f64 0,(Value.float .f64 dN),.float .f64 13830554455654793216,(Value.float .f64 dN),.float .f64 0,(Value.float .f64 (Int.toNat 4604544271217802189)),.float .f64 4607182418800017408,(Value.float .f64 (Int.toNat 4604544271217802189))] 73 (0,0)) h23;have c2:=Hp.AA (Hp.set Z Hy (.cells #[.float .f64 4607182418800017408,(Value.float .f64 (Int.toNat 4604544271217802189)),.float .f64 0,(Value.float .f64 dN),.float .f64 13830554455654793216,(Value.float .f64 dN),.float .f64 0,(Value.float .f64 (Int.toNat 4604544271217802189))] 73 (0,0))) Jc (.cells #[.float .f64 0,(Value.float .f64 dN),.float .f64 13830554455654793216,(Value.float .f64 dN),.float .f64 0,(Value.float .f64 (Int.toNat 4604544271217802189)),.float .f64 4607182418800017408,(Value.float .f64 (Int.toNat 4604544271217802189))] 73 (0,0));have c1':=x2 _ _ c1;have X:=x1.trans x2;have A:=e _ A;have ep:(k:Int)*LY=((k*(8/n):Nat):Int):=by rw[A];push_cast;rfl
 dsimp only;rw[ep];have fin:∀(G:Hp) (re im:Nat),(re,im)=W4.getD (k*(8/n)) (0,0)->Ext Z G->R (.T #[.float .f64 re,.float .f64 im]) G:=λG re im hri hx=>by
  have:=h G hx;rw[<-hri]at this;exact this
 generalize k*(8/n)=j at *;refine⟨by unfold AF;omega,by unfold In;omega,(W4.getD j (0,0)).1,?_,by omega,λUX C=>?_⟩
 .rcases(by omega:j=0\/j=1\/j=2\/j=3\/j=4\/j=5\/j=6\/j=7) with h|h|h|h|h|h|h|h<;>subst h<;>exact Ak c1' rfl
 have C:=e _ C;dsimp only;rw[C,<-A,ep];refine⟨by unfold AF;omega,by unfold In;omega,(W4.getD j (0,0)).2,?_,fin _ _ _ rfl X⟩;rcases(by omega:j=0\/j=1\/j=2\/j=3\/j=4\/j=5\/j=6\/j=7) with h|h|h|h|h|h|h|h<;>subst h<;>exact Ak c2 rfl
def reL (n:Nat)(vs:List Int)(j:Nat):Int:=((H6 j n vs 0 (0,0)).1:Nat)
def imL (n:Nat)(vs:List Int)(j:Nat):Int:=((H6 j n vs 0 (0,0)).2:Nat)
theorem toF_zero:toF 0=0:=by
 unfold toF;rw[Amb];rw[JE];decide
theorem du {vs:List Int}(hr:Eh .u64 Z p n vs)(hn:n=1\/n=2\/n=4\/n=8)
  (h:∀p' c' q' d' Z',Ext Z Z'->Eh .u64 Z' p' n ((List.range n).map (reL n vs))->Eh .u64 Z' q' n ((List.range n).map (imL n vs))->R (.T #[.slice p' n c',.slice q' n d',.I 0]) Z'):Spec prog 187 #[.slice p n c] Z R:=by
 have hl:vs.length=n:=hr.1
 suffices H:∀g j:Nat,∀(Z1:Hp) (p6 p7:Option Addr) (c6 c7:Nat),n-j=g->j<=n->xi Z Z1 p6 j c6 ((List.range j).map (reL n vs)) p7 j c7 ((List.range j).map (imL n vs))->Cg.Ws R p n c (n:Int) p6 j c6 p7 j c7 (j:Int) Z1 by
  have h0:=H n 0 Z none none 0 0 rfl (Amh _) ⟨Eb.nil,Eb.nil,λa a' ha=>(by cases ha),λa ha=>(by cases ha),λa ha=>(by cases ha),.refl _⟩;exact Cg.start ⟨λh1=>⟨λh2=>⟨λh4=>⟨λh8=>by omega,λ_=>h0⟩,λ_=>h0⟩,λ_=>h0⟩,λ_=>h0⟩
 intro g
 induction g with
 | zero=>
  intro j Z1 p6 p7 c6 c7 hg hj ho;have:j=n:=by omega
  subst this;exact Cg.TM ⟨λhh=>by omega,λ_=>h _ _ _ _ Z1 ho.ext (Eb.rd ho.l) (Eb.rd ho.r)⟩
 | succ g ih=>
  intro j Z1 p6 p7 c6 c7 hg hj ho;have eF:j<n:=by omega
  refine Cg.TM ⟨λ_=>?_,λhh=>by omega⟩
  suffices K:∀g' k:Nat,∀(Z2:Hp) (re im:Nat) (a:Nat×Nat),n-k=g'->k<=n->xi Z Z2 p6 j c6 ((List.range j).map (reL n vs)) p7 j c7 ((List.range j).map (imL n vs))->toF re=a.1->toF im=a.2->H6 j n vs 0 (0,0)=H6 j n (vs.drop k) k a->Cg.AFn R p n c (n:Int) p6 j c6 p7 j c7 (j:Int) (.float .f64 re) (.float .f64 im) (k:Int) Z2 from K n 0 Z1 0 0 (0,0) rfl (Amh _) ho toF_zero toF_zero rfl
  intro g'
  induction g' with
  | zero=>
   intro k Z2 re im a xD hk A7 h1 h2 C;have Rm:k=n:=by omega
   subst Rm;rw[Amm (by omega)]at C;have eR:((toF re:Nat):Int)=reL k vs j:=by unfold reL;rw[C,h1];rfl
   have eI:((toF im:Nat):Int)=imL k vs j:=by unfold imL;rw[C,h2];rfl
   refine Cg.tV ⟨λhh=>by omega,λ_=>Co ⟨_,rfl,λNj h71=>?_⟩⟩;rw[eR];refine xi.app A7 h71 (by omega) λp' c' A Cm=>⟨_,_,_,rfl,Co ⟨_,rfl,λb76 h76=>?_⟩⟩;rw[eI];refine xi.app Cm.symm h76 (by omega) λq' d' Z4 FE=>⟨_,_,_,rfl,by unfold AF;omega,?_⟩;have:=ih (j+1) Z4 p' q' c' d' (by omega) (by omega) (by rw[List.range_succ,Am7,Am7];exact FE.symm);rw[show((j+1:Nat):Int)=(j:Int)+1 by omega]at this;exact this
  | succ g' ihk=>
   intro k Z2 re im a xD hk A7 h1 h2 C;have Rm:k<n:=by omega
   obtain⟨x,hx⟩:=hr.ex Rm;obtain⟨b',o',rfl,CH⟩:=Eh.at hr hx;rw[BA hx]at C;have ht:(j:Int)*k=((j*k:Nat):Int):=by push_cast;rfl
   have jl:j*k<=64:=AnL (AoS (show j<=8 by omega) (show k<=8 by omega)) (by decide);have hm:=Aok (j*k) (show 0<n by omega);have Ba:In (k:Int) (n:Int):=by unfold In;omega
   have Re:∀A,Ext Z2 A->Hp.ld A ⟨b',o'+Int.toNat (k:Int)*1,none⟩=some (.U x):=λA G=>by simpa using(A7.ext.trans G).ld CH
   refine Cg.tV ⟨λ_=>⟨by rw[ht];unfold AF;omega,by omega,λhY ik=>?_⟩,λhh=>by omega⟩;have e46:hY=((j*k%n:Nat):Int):=by rw[ik,ht,ApF (by omega)];omega
   subst e46;refine dt hn hm λA G=>⟨_,_,rfl,b',o',rfl,Ba,x,Re A G,CF ⟨_,rfl,D6 λy hy=>⟨_,rfl,Hk λz hz=>⟨_,rfl,Ba,x,Re A G,CF ⟨_,rfl,D6 λy' hy'=>⟨_,rfl,Hk λz' rF=>⟨_,rfl,by unfold AF;omega,?_⟩⟩⟩⟩⟩⟩⟩;rw[H6]at C;have:=ihk (k+1) A z z' _ (by omega) (by omega) (A7.mono G) (by rw[hz,<-QX,h1,hy]) (by rw[rF,<-QX,h2,hy']) C;rw[show((k+1:Nat):Int)=(k:Int)+1 by omega]at this;exact this
theorem nQ {vs:List Int}(hr:Eh .u64 Z p n vs)(hn:n=1\/n=2\/n=4\/n=8)
  (h:∀Z',Ext Z Z'->R (.T #[.U (ij vs:Nat),.I 0]) Z'):Spec prog 150 #[.slice p n c] Z R:=by
 have hl:vs.length=n:=hr.1;refine WL.start (du hr hn λp1 c1 q1 d1 Z1 hx r1 r2=>⟨_,_,_,_,_,_,_,rfl,λhh=>absurd rfl hh,λ_=>⟨by unfold AF;omega,?_⟩⟩);have ej:(if(1:Int)<((n:Int)-1) then(1:Int) else((n:Int)-1))=((1%n:Nat):Int):=by rcases hn with h|h|h|h<;>subst h<;>rfl
 rw[ej];have hj:1%n<n:=Aok _ (by omega);have at1:∀f:Nat->Int,((List.range n).map f)[1%n]?=some (f (1%n)):=λf=>by
  rw[Am8,Apy hj];rfl
 obtain⟨b1,o1,rfl,l1⟩:=Eh.at r1 (at1 _);obtain⟨b2,o2,rfl,l2⟩:=Eh.at r2 (at1 _);generalize hJ:1%n=J at *;have Ba:In ((J:Nat):Int) ((n:Nat):Int):=by unfold In;omega
 have l1':Hp.ld Z1 ⟨b1,o1+Int.toNat ((J:Nat):Int)*1,none⟩=some (.U (reL n vs J)):=by simpa using l1
 have l2':Hp.ld Z1 ⟨b2,o2+Int.toNat ((J:Nat):Int)*1,none⟩=some (.U (imL n vs J)):=by simpa using l2
 have eR:(reL n vs J).toNat=(H6 J n vs 0 (0,0)).1:=AnE _;have eI:(imL n vs J).toNat=(H6 J n vs 0 (0,0)).2:=AnE _;have fin:∀y z u:Nat,toF y=S7 3 (reL n vs J).toNat (reL n vs J).toNat->toF z=S7 3 (imL n vs J).toNat (imL n vs J).toNat->toF u=S7 1 y z->R (.T #[.U (toF u:Nat),.I 0]) Z1:=λy z u C G A=>by
  have e:toF u=ij vs:=by
   rw[A,<-QX,C,G,eR,eI];unfold ij;rw[hl,hJ]
  rw[e];exact h Z1 hx
 have kp:∀{L:List Nat},Kp L Z1 Z1:=.H9 (.refl _);refine⟨b1,o1,rfl,Ba,_,l1',Ba,_,l1',b2,o2,rfl,Ba,_,l2',Ba,_,l2',CF ⟨_,rfl,kp,CF ⟨_,rfl,kp,D6 λy C=>⟨_,rfl,kp,CF ⟨_,rfl,kp,CF ⟨_,rfl,D6 λz G=>⟨_,rfl,Hk λu A=>⟨_,rfl,Co ⟨_,rfl,fin y z u C G A⟩⟩⟩⟩⟩⟩,CF ⟨_,rfl,kp,D6 λy C=>⟨_,rfl,kp,CF ⟨_,rfl,D6 λz G=>⟨_,rfl,Hk λu A=>⟨_,rfl,Co ⟨_,rfl,fin y z u C G A⟩⟩⟩⟩⟩,CF ⟨_,rfl,D6 λy C=>⟨_,rfl,D6 λz G=>⟨_,rfl,Hk λu A=>⟨_,rfl,Co ⟨_,rfl,fin y z u C G A⟩⟩⟩⟩,D6 λz G=>⟨_,rfl,D6 λy C=>⟨_,rfl,Hk λu A=>⟨_,rfl,Co ⟨_,rfl,fin y z u C G A⟩⟩⟩⟩⟩⟩⟩⟩⟩
theorem sD {op w:Int}{vs:List Int}(ho:1<=op/\op<=10)(C:Eh .u64 Z p n vs)(h0:0<n)(hc:n<=c)
  (h:∀x ok Z',(Ey op vs (AY w)=some x/\ok=true\/Ey op vs (AY w)=none/\ok=false)->Ext Z Z'->R (.T #[.U x,.bool ok]) Z') :
  Spec prog 108 #[.I op,.slice p n c,.I w] Z R:=by
 have hl:vs.length=n:=C.1;have IP:=C.big;obtain⟨v,hv⟩:=C.ex h0;obtain⟨z,hz⟩:=C.ex (k:=n-1) (by omega);obtain⟨b,o,rfl,CH⟩:=Eh.at C hv;obtain⟨_,_,he,hlz⟩:=Eh.at C hz;cases he;have e1:Int.toNat ((n:Int)-1)=n-1:=by omega
 have Qb:vs.getLast?.getD 0=z:=by rw[AoE,hl,hz];rfl
 have AKI:vs.head?.getD 0=v:=by rw[Aoy,hv];rfl
 have A:∀{x:Int} {Z':Hp},Ext Z Z'->Ey op vs (AY w)=some x->R (.T #[.U x,.bool true]) Z':=λhx e=>h _ _ _ (.inl ⟨e,rfl⟩) hx;refine CX.start ⟨λe=>Ib (by decide) C h0 ⟨_,rfl,A (.refl _) (by rw[e];rfl)⟩,λn4=>⟨λe=>Ib (by decide) C h0 ⟨_,rfl,A (.refl _) (by rw[e];rfl)⟩,λn5=>⟨λe=>Ib (by decide) C h0 ⟨_,rfl,A (.refl _) (by rw[e];rfl)⟩,λn6=>⟨λe=>Ib (by decide) C h0 ⟨_,rfl,A (.refl _) (by rw[e];rfl)⟩,λn7=>⟨λe=>Ib (by decide) C h0 ⟨_,rfl,A (.refl _) (by rw[e];rfl)⟩,λn8=>⟨λe=>⟨by unfold AF;omega,b,o,rfl,by unfold In;omega,z,by rw[e1];simpa using hlz,CF ⟨_,rfl,Co ⟨_,rfl,A (.refl _) (by
   rw[e];show some (Rb (vs.getLast?.getD 0))=_
   rw[Qb];rfl)⟩⟩⟩,λn9=>⟨λe=>?_,λn10=>⟨λh2=>h 0 false Z (.inr ⟨?_,rfl⟩) (.refl _),λh2=>⟨by unfold AF;omega,b,o,rfl,by unfold In;omega,z,by rw[e1];simpa using hlz,by unfold In;omega,v,by simpa using CH,Ku (by decide) ⟨_,rfl,λe=>A (.refl _) ?_,λn3=>?_⟩⟩⟩⟩⟩⟩⟩⟩⟩⟩
 ·
  subst e;have G:∀m:Nat,EY n=m->m<=n->(m=1\/m=2\/m=4\/m=8)->AF ((n:Int)-m)/\((0:Int)<=((n:Int)-m)/\((n:Int)-m)<=(n:Int))/\Spec prog 150 #[(.slice (Mp (aD b o) (Int.toNat ((n:Int)-m)) c 1) (n-Int.toNat ((n:Int)-m)) (c-Int.toNat ((n:Int)-m)))] Z (BV R (λz y=>∃lC AAI,z=(.tuple #[.U lC,.I AAI])/\R (.T #[.U lC,.bool true]) y)):=λm hm hmn hk=>by
   have e:Int.toNat ((n:Int)-m)=n-m:=by omega
   rw[e];refine⟨by unfold AF;omega,by omega,?_⟩;have hs:=AT.sub (i:=n-m) (m:=m) C (by decide) (by omega) hc;rw[Amj (by rw[Amx];omega)]at hs;rw[show n-(n-m)=m by omega];refine nQ hs hk λZ' hx=>⟨_,_,rfl,A hx ?_⟩;show some (Ks vs)=_
   unfold Ks;rw[hl,hm]
  refine CX.M0 ⟨by unfold AF;omega,λh2=>⟨λ_=>⟨by unfold AF;omega,?_⟩,λhh=>absurd (by decide) hh⟩,λh2=>G 1 (by unfold EY;rw[Amb (by omega),Amb (by omega),Amb (by omega)]) (by omega) (by omega)⟩;refine CX.M0 ⟨by unfold AF;omega,λh4=>⟨λ_=>⟨by unfold AF;omega,?_⟩,λhh=>absurd (by decide) hh⟩,λh4=>G 2 (by unfold EY;rw[Amb (by omega),Amb (by omega),Amc (by omega)]) (by omega) (by omega)⟩;refine CX.M0 ⟨by unfold AF;omega,λh8=>⟨λ_=>⟨by unfold AF;omega,?_⟩,λhh=>absurd (by decide) hh⟩,λh8=>G 4 (by unfold EY;rw[Amb (by omega),Amc (by omega)]) (by omega) (by omega)⟩;exact CX.M0 ⟨by unfold AF;omega,λh16=>⟨λhh=>absurd hh (by decide),λ_=>G 8 (by unfold EY;rw[Amc (by omega)]) (by omega) (by omega)⟩,λh16=>G 8 (by unfold EY;rw[Amc (by omega)]) (by omega) (by omega)⟩
 .rcases(by omega:op=1\/op=2\/op=3) with e|e|e<;>subst e<;>exact Amc (show vs.length<2 by omega)
 .subst e;show(if vs.length<2 then none else some (N0 2 (vs.getLast?.getD 0) (vs.head?.getD 0)))=_
  rw[Amb (by omega),Qb,AKI]
 ·
  have ACK:H5 vs=(vs.zip vs.tail).foldl H4 (N0 2 z v):=by
   unfold H5;rw[Qb,AKI]
  have hlen:(vs.zip vs.tail).length=n-1:=by rw[Anx,AoP];omega
  suffices H:∀g k:Nat,∀a:Int,n-1-k=g->k<=n-1->H5 vs=((vs.zip vs.tail).drop k).foldl H4 a->CX.VB R op (aD b o) n c w (n:Int) a ((k+1:Nat):Int) Z from H (n-1) 0 _ rfl (Amh _) ACK
  intro g
  induction g with
  | zero=>
   intro k a hg hk he;rw[Amm (by omega)]at he;refine CX.Q2 ⟨λAv=>by omega,λ_=>⟨λe=>Kv ⟨_,rfl,Ku (by decide) ⟨_,rfl,CX.lB (A (.refl _) ?_)⟩⟩,λn1=>CX.lB (A (.refl _) ?_)⟩⟩
   .subst e;show(if vs.length<2 then none else some (N0 4 (H5 vs) (AY w)))=_
    rw[Amb (by omega),he];rfl
   .obtain rfl:op=2:=by omega
    show(if vs.length<2 then none else some (H5 vs))=_
    rw[Amb (by omega),he];rfl
  | succ g ih=>
   intro k a hg hk he;obtain⟨x,hx⟩:=C.ex (k:=k) (by omega);obtain⟨y,hy⟩:=C.ex (k:=k+1) (by omega);obtain⟨_,_,h1,KZ⟩:=Eh.at C hx;obtain⟨_,_,h2',Nz⟩:=Eh.at C hy;cases h1;cases h2';have ANQ:(vs.zip vs.tail)[k]?=some (x,y):=by
    rw[Ana];exact⟨hx,by rw[List.getElem?_tail];exact hy⟩
   rw[BA ANQ,AoC]at he;have e2:Int.toNat (((k+1:Nat):Int)-1)=k:=by omega
   have e3:Int.toNat ((k+1:Nat):Int)=k+1:=by omega
   have lx:Hp.ld Z ⟨b,o+Int.toNat (((k+1:Nat):Int)-1)*1,none⟩=some (.U x):=by rw[e2];simpa using KZ
   have ly:Hp.ld Z ⟨b,o+Int.toNat ((k+1:Nat):Int)*1,none⟩=some (.U y):=by rw[e3];simpa using Nz
   have go:∀u,H4 a (x,y)=u->CX.tU R op (aD b o) n c w (n:Int) u ((k+1:Nat):Int) Z:=λu hu=>CX.AAH ⟨AI (by omega:k+1<n) C.big,ih (k+1) u (by omega) (by omega) (by rw[<-hu];exact he)⟩;refine CX.Q2 ⟨λ_=>⟨b,o,rfl,by unfold In;omega,y,ly,by unfold AF;omega,by unfold In;omega,x,lx,Dz ⟨_,rfl,λht=>⟨by unfold AF;omega,by unfold In;omega,x,lx,Ku (by decide) ⟨_,rfl,go _ ?_⟩⟩,λhf=>go _ ?_⟩⟩,λhh=>by omega⟩
   .unfold H4;rw[Amc ht]
   .unfold H4;rw[Amb (by rw[hf];decide)]
end
section
variable {Z Z' Z0:Hp}{R:Rr}{p q:Option Addr}{n c m d:Nat}
theorem ADc {ns:List ByteArray}{s:ByteArray}(hr:HP 1 Z p n (ns.map .string))(hn:n<=4611686018427387904)(h:R (.returned (.bool (Hw s ns))) Z):Spec prog 186 #[.slice p n c,.string s] Z R:=by
 have hl:ns.length=n:=by have:=hr.1;rw[Amw]at this;omega
 refine TO.start ?_
 suffices H:∀g i:Nat,n-i=g->i<=n->s ∉ ns.take i->TO.E5 R p n c s (i:Int) Z from H n 0 rfl (Amh _) (by simp)
 intro g
 induction g with
 | zero=>
  intro i hg hi A;rw[Amj (by omega)]at A;refine TO.Ag ⟨λhh=>by omega,λ_=>?_⟩;rw[show Hw s ns=false by rw[An2,ne_eq,bM];exact A]at h;exact h
 | succ g ih=>
  intro i hg hi A;have BT:i<n:=by omega
  obtain⟨x,C⟩:∃x,ns[i]?=some x:=⟨_,Amf (by omega)⟩;obtain⟨b,o,rfl,CH⟩:=HP.at1 hr (k:=i) (v:=.string x) (by rw[Am8,C];rfl);refine TO.Ag ⟨λ_=>⟨b,o,rfl,by unfold In;omega,x,by rw[AnE];exact CH,λht=>?_,λG=>⟨AI BT hn,ih (i+1) (by omega) (by omega) λhm=>?_⟩⟩,λhh=>by omega⟩
  .rw[ql,Amq]at ht;rw[show Hw s ns=true by rw[bM,<-ht];exact Ame C]at h;exact h
  .rw[ql,Am2]at G;rw[AQ C]at hm;rcases Am6.1 hm with hm|hm
   .exact A hm
   .exact G (Amo.1 hm).symm
theorem Sz {ls:List Lb}{ns:List ByteArray}{t:Bool}(hr:Db Z p n ls)(hn:n<=1000000)(hs:HP 1 Z q m (ns.map .string))(hm:m<=4611686018427387904)
  (h:∀p' n' c' Z',Db (Z.new Z') p' n' (ls.filter λx=>Hw x.1 ns==t)->Ext Z Z'->R (.returned (.slice p' n' c')) Z'):Spec prog 149 #[.slice p n c,.slice q m d,.bool t] Z R:=by
 have hl:ls.length=n:=hr.1;have IP:=hr.big;refine IL.start ?_
 suffices H:∀g i:Nat,∀p7 n7 c7 Z',n-i=g->i<=n->AL 2 A9 Z Z' p7 n7 c7 ((ls.take i).filter λx=>Hw x.1 ns==t)->IL.AR R p n c q m d t p7 n7 c7 (i:Int) Z' from H n 0 none 0 0 Z rfl (Amh _) (AL.nil (.refl _))
 intro g
 induction g with
 | zero=>
  intro i p7 n7 c7 Z' hg hi A;rw[Amj (by omega)]at A;exact IL.AM ⟨λhh=>by omega,λ_=>h _ _ _ Z' (A.uh λ_ _ _ _ h=>h) A.up⟩
 | succ g ih=>
  intro i p7 n7 c7 Z' hg hi A;have BT:i<n:=by omega
  obtain⟨x,hx⟩:=hr.ex BT;obtain⟨b,o,rfl,CH⟩:=Db.at hr hx;have Re:=CH.mono A.up;have hn7:n7<=i:=by
   have h1:=A.1.1;have h2:=AnI (λx:Lb=>Hw x.1 ns==t) (ls.take i);rw[Amp]at h2;omega
  have next:∀p8 n8 c8 G,AL 2 A9 Z G p8 n8 c8 (((ls.take i).filter λx=>Hw x.1 ns==t)++if(Hw x.1 ns==t)=true then[x] else[])->IL.JK R (aD b o) n c q m d t p8 n8 c8 (i:Int) G:=λp8 n8 c8 G A7=>
   IL.Gn ⟨AI BT IP,by
    have:=ih (i+1) p8 n8 c8 G (by omega) (by omega) (by
     rw[AQ hx,AoG,Aoq];exact A7)
    rw[show((i+1:Nat):Int)=(i:Int)+1 by omega]at this;exact this⟩
  have Ba:In (i:Int) (n:Int):=by unfold In;omega
  refine IL.AM ⟨λ_=>⟨b,o,rfl,Ba,x.1,by simpa using Re.1,ADc (hs.mono A.up) hm ⟨_,rfl,λht=>⟨λtt=>⟨Ba,x.1,x.2,by simpa using Re,λLy C=>?_⟩,λtf=>?_⟩,λhf=>⟨λtt=>?_,λtf=>⟨Ba,x.1,x.2,by simpa using Re,λLy C=>?_⟩⟩⟩⟩,λhh=>by omega⟩
  .subst tt;refine AL.HI A9.mono A rfl (A9.one Z _ x rfl) (x:=x) rfl (by omega) (λp' c' Z4 FE _=>⟨_,_,_,rfl,next _ _ _ _ ?_⟩) C;rw[ht];exact FE
  .subst tf;refine next _ _ _ _ ?_
   rw[ht];simpa using A
  .subst tt;refine next _ _ _ _ ?_
   rw[hf];simpa using A
  .subst tf;refine AL.HI A9.mono A rfl (A9.one Z _ x rfl) (x:=x) rfl (by omega) (λp' c' Z4 FE _=>⟨_,_,_,rfl,next _ _ _ _ ?_⟩) C;rw[hf];exact FE
theorem Ic {ls:List Lb}(hr:Db Z p n ls)(hn:n<=1000000)(h:∀C A c' Z',Db (Z.new Z') C A (Bg ls)->Ext Z Z'->R (.returned (.slice C A c')) Z'):Spec prog 107 #[.slice p n c] Z R:=by
 refine YR.start λb hb=>?_;have G:=Ext.set (o:=.cells #[(.string (ByteArray.mk #[95,95,110,97,109,101,95,95]))] 9 (0,0)) hb;refine Sz (ns:=[Tv]) (hr.mono A9.mono G) hn (bN (Hp.AA _ _ _)) (by decide) λC A c' Z' ho Ju=>⟨_,_,_,rfl,h C A c' Z' ?_ (G.trans Ju)⟩;have e:(ls.filter λx=>Hw x.1 [Tv]==false)=Bg ls:=by
  unfold Bg;exact AqA λx _=>by cases Hw x.1 [Tv]<;>rfl
 rw[<-e];exact ho.mono A9.mono (Ext.Dc G)
theorem SI {g:Int}{ls:List Lb}{ns:List ByteArray}(hr:Db Z p n ls)(hn:n<=1000000)(hs:HP 1 Z q m (ns.map .string))(hm:m<=4611686018427387904)
  (h:∀p' n' c' Z',Db (Z.new Z') p' n' (if g=1\/g=3 then Tx ns ls else if g=2\/g=4 then Bg (SB ns ls) else[])->Ext Z Z'->R (.returned (.slice p' n' c')) Z'):Spec prog 109 #[.I g,.slice q m d,.slice p n c] Z R:=by
 have ek:(ls.filter λx=>Hw x.1 ns==true)=Tx ns ls:=by
  unfold Tx;exact AqA λx _=>by cases Hw x.1 ns<;>rfl
 have ed:(ls.filter λx=>Hw x.1 ns==false)=SB ns ls:=by
  unfold SB;exact AqA λx _=>by cases Hw x.1 ns<;>rfl
 have A:(g=1\/g=3)->Spec prog 149 #[.slice p n c,.slice q m d,.bool true] Z (BV R (CS λp13 n13 c13 y=>R (.returned (.slice p13 n13 c13)) y)):=λhg=>
  Sz hr hn hs hm λp' n' c' Z' ho hx=>⟨_,_,_,rfl,h p' n' c' Z' (by rw[Amc hg,<-ek];exact ho) hx⟩
 have drp:¬(g=1\/g=3)->(g=2\/g=4)->Spec prog 149 #[.slice p n c,.slice q m d,.bool false] Z (BV R (CS λvh n19 pq y=>Spec prog 107 #[.slice vh n19 pq] y (BV R (CS λp20 n20 c20 AB=>R (.returned (.slice p20 n20 c20)) AB)))):=λhg mY=>
  Sz hr hn hs hm λp' n' c' Z' ho hx=>⟨_,_,_,rfl,Ic (ho.mono A9.mono (Ext.Cf _ _)) (by
   have h1:=ho.1;have h2:=AnI (λx:Lb=>Hw x.1 ns==false) ls;have h3:ls.length=n:=hr.1;omega) λp2 n2 c2 Z2 Gw Ao=>⟨_,_,_,rfl,h p2 n2 c2 Z2 (by
    rw[Amb hg,Amc mY,<-ed];exact Gw.mono A9.mono (Ext.Dc hx)) (hx.trans Ao)⟩⟩
 have G:¬(g=1\/g=3)->¬(g=2\/g=4)->R (.returned (.N)) Z:=λh1 h2=>h none 0 0 Z (by rw[Amb h1,Amb h2];exact AT.nil) (.refl _);refine Ez.start ⟨λh1=>Ez.Fv ⟨λ_=>A (.inl h1),λC=>by cases C⟩,λh1=>Ez.Fv ⟨λht=>A (.inr (Amg ht)),λhf=>?_⟩⟩;have h3:=Am4 hf;have CU:¬(g=1\/g=3):=λC=>C.elim h1 h3;exact⟨λh2=>Ez.Gn ⟨λ_=>drp CU (.inl h2),λC=>by cases C⟩,λh2=>Ez.Gn ⟨λht=>drp CU (.inr (Amg ht)),λhf=>G CU λC=>C.elim h2 (Am4 hf)⟩⟩
theorem AL.eld {T Et ty:TypeId}{bs:Nat}[KT prog T Et 2 bs]{xs:List El}{ls:List Lb}{v:Int}{Φ:Value->Hp->Prop}(ho:AL 2 Ad Z0 Z p n c xs)(hr:Db (Z.del p) q m ls)(hn:(n+1)*bs<=140737488355328)
  (A:∀C c' Z',AL 2 Ad Z0 Z' C (n+1) c' (xs++[⟨ls,v⟩])->Ext (Z.del p) (Z'.del C)->Φ (.slice C (n+1) c') Z') {b:Nat} (hb:Z b=none) :
  AJ prog (Builtin.append_ #[T,T] ty #[.slice p n c,.slice (some ⟨b,0,none⟩) 1 1]) (Z.set b (.cells #[.slice q m d,.U v] Et (0,0))) Φ:=by
 have G:Ad (Z.del p) [.slice q m d,.U v] ⟨ls,v⟩:=⟨q,m,d,rfl,hr⟩;exact AL.HI Ad.mono ho rfl (Ad.one _ _ _ G) G hn A hb
structure S8 where
 kind:Int
 v:Int
 es:List El
 w:Int
 rs:List Rg
def nR (Z:Hp)(vs:List Value)(x:S8):Prop:=∃p n c q m d,vs=[.I x.kind,.U x.v,.slice p n c,.I x.w,.slice q m d]/\AT 2 Ad Z p n x.es/\AT 2 Kq Z q m x.rs/\n<=c
theorem nR.mono:Iu nR:=λ_ _ _ _ A ⟨p,n,c,q,m,d,hv,C,G,h3⟩=>⟨p,n,c,q,m,d,hv,C.mono Ad.mono A,G.mono Kq.mono A,h3⟩
abbrev cR (k v:Int)(p:Option Addr)(n c:Nat)(w:Int)(q:Option Addr)(m d:Nat):Value:=.agg #[.I k,.U v,.slice p n c,.I w,.slice q m d]
def sE (R:Rr)(Z:Hp)(x:S8):Prop:=∀Z' p n c q m d,Ext Z Z'->AT 2 Ad Z' p n x.es->AT 2 Kq Z' q m x.rs->n<=c->R (.returned (cR x.kind x.v p n c x.w q m d)) Z'
theorem RO {x:Nd}{a e:Option Addr}{k1 c1 k2 c2:Nat}{ls:List Lb}(hr:Db Z p n ls)(hn:n<=1000000)(hs:HP 1 Z e k2 (x.names.map .string))(hm:k2<=4611686018427387904)(A:x.Be=0/\x.names=[]\/x.Be=3\/x.Be=4)
  (h:∀p' G c' Z',Db (Z.new Z') p' G (EG x ls)->Ext Z Z'->R (.returned (.slice p' G c')) Z'):Spec prog 155 #[Ka x a k1 c1 e k2 c2,.slice p n c] Z R:=by
 refine fT.start λ_=>⟨λh0=>Ic hr hn λp' G c' Z' C hx=>⟨_,_,_,rfl,h p' G c' Z' ?_ hx⟩,λh0=>SI hr hn hs hm λp' G c' Z' C hx=>⟨_,_,_,rfl,h p' G c' Z' ?_ hx⟩⟩
 .have qz:x.names=[]:=by
   rcases A with A|A|A
   .exact A.2
   .omega
   .omega
  have e:EG x ls=Bg ls:=by
   unfold EG;rw[Amb (by omega),qz];unfold SB;rw[List.filter_eq_self.2 λx _=>by simp[Hw]]
  rw[e];exact C
 .unfold EG;rcases A with A|A|A
  .exact absurd A.1 h0
  .rw[Amc A];rw[Amc (.inr A)]at C;exact C
  .rw[Amb (by omega)];rw[Amb (by omega),Amc (.inr A)]at C;exact C
end
def JI (x:Int):Prop:=0<=x/\x<18446744073709551616
theorem word_lt {s:Bool}{r:Nat}(h:r<9223372036854775808):Ieee.double.word s r<18446744073709551616:=by
 have A:Ieee.double.signWeight=9223372036854775808:=by kernel_rfl
 unfold Ieee.Format.word;rw[A];split<;>omega
theorem write_lt (d:Ieee.Datum):Ieee.double.write d<18446744073709551616:=by
 have C:Ieee.double.binade=4503599627370496:=by kernel_rfl
 have A:Ieee.double.infRung=9218868437227405312:=by kernel_rfl
 cases d with
 | nan s t=>
  have:=Aok t (show 0<4503599627370496 by decide);refine word_lt ?_;rw[C,A];omega
 | infinity s=>exact word_lt (by rw[A];decide)
 | number s m p=>
  show Ieee.double.nearest s m p<_
  unfold Ieee.Format.nearest;split
  .exact word_lt (by decide)
  .refine word_lt ?_;have:=Aph (((m.log2:Nat):Nat)) 0;exact Nat.lt_of_le_of_lt (Aph _ _) (by rw[A];decide)
theorem map_lt {o:Option Ieee.Datum}{r:Nat}(h:o.map Ieee.double.write=some r):r<18446744073709551616:=by
 cases o with
 | none=>cases h
 | some d=>rw[AnK,Ami]at h;rw[<-h];exact write_lt d
theorem toF_64 {x:Nat}(h:x<18446744073709551616):JI (toF x:Nat):=⟨Anh _,by have:=toF_lt h;omega⟩
theorem sF (op:Int)(a b:Nat):S7 op a b<18446744073709551616:=by
 unfold S7;have key:∀o:Option Nat,(∀r,o=some r->r<18446744073709551616)->ANP o<18446744073709551616:=λo C=>by
  cases o with
  | none=>exact(by decide:9221120237041090560<18446744073709551616)
  | some r=>exact toF_lt (C r rfl)
 refine key _ λr A=>?_;unfold fAr at A;split at A
 .exact map_lt A
 .split at A
  .exact map_lt A
  .split at A
   .exact map_lt A
   .exact map_lt A
theorem Ql (op a b:Int):JI (N0 op a b):=⟨Anh _,by have:=sF op a.toNat b.toNat;unfold N0;omega⟩
theorem jP {x:Int}(h:JI x):JI (Rb x):=toF_64 (by have A:=h.1;have C:=h.2;omega)
theorem UK (n:Int):JI (AY n):=by
 have:=write_lt (.number (decide (n<0)) n.natAbs 0);exact⟨Anh _,by
  have e:((FloatKind.f64.nearest n:Nat):Int)=AY n:=rfl;have A:FloatKind.f64.nearest n=Ieee.double.write (.number (decide (n<0)) n.natAbs 0):=rfl;rw[<-e,A];omega⟩
theorem jQ {f:Int->Int->Int}(A:∀a b,JI a->JI b->JI (f a b)):∀(l:List Int) (a:Int),JI a->(∀x∈l,JI x)->JI (l.foldl f a)
 | [],a,h,_=>h
 | x::l,a,h,C=>jQ A l _ (A a x h (C x (Amu ..))) λy G=>C y (Amk _ G)
theorem ADd {vs:List Int}(h:∀x∈vs,JI x):JI (VR vs):=by
 cases vs with
 | nil=>exact⟨ApI _,by decide⟩
 | cons v l=>exact jQ (λa b _ _=>Ql 1 a b) l _ (jP (h v (Amu ..))) λy A=>h y (Amk _ A)
theorem Xg {op:Int}{vs:List Int}(h:∀x∈vs,JI x):JI (Kr op vs):=by
 cases vs with
 | nil=>exact⟨ApI _,show(0:Int)<18446744073709551616 by decide⟩
 | cons v l=>
  refine jP (jQ (λa b A hb=>?_) l _ (h v (Amu ..)) λy C=>h y (Amk _ C));unfold W3;split
  .exact hb
  .exact A
theorem ADe {op:Int}{vs:List Int}(h:∀x∈vs,JI x):JI (foldI op vs):=by
 unfold foldI;split
 .exact ADd h
 .split
  .exact Xg h
  .split
   .exact Xg h
   .split
    .exact Ql _ _ _
    .exact UK _
theorem AG8 (vs:List Int):JI (H5 vs):=by
 unfold H5;have key:∀(l:List (Int×Int)) (a:Int),JI a->JI (l.foldl H4 a):=λl=>by
  induction l with
  | nil=>exact λa h=>h
  | cons x l A=>
   intro a h;refine A _ ?_;unfold H4;split
   .exact Ql _ _ _
   .exact h
 exact key _ _ (Ql _ _ _)
theorem xj (vs:List Int):JI (Ks vs):=⟨Anh _,by
 have:=sF 1 (S7 3 (H6 (1%(vs.drop (vs.length-EY vs.length)).length) (vs.drop (vs.length-EY vs.length)).length (vs.drop (vs.length-EY vs.length)) 0 (0,0)).1 (H6 (1%(vs.drop (vs.length-EY vs.length)).length) (vs.drop (vs.length-EY vs.length)).length (vs.drop (vs.length-EY vs.length)) 0 (0,0)).1) (S7 3 (H6 (1%(vs.drop (vs.length-EY vs.length)).length) (vs.drop (vs.length-EY vs.length)).length (vs.drop (vs.length-EY vs.length)) 0 (0,0)).2 (H6 (1%(vs.drop (vs.length-EY vs.length)).length) (vs.drop (vs.length-EY vs.length)).length (vs.drop (vs.length-EY vs.length)) 0 (0,0)).2);have e:Ks vs=(ij (vs.drop (vs.length-EY vs.length)):Nat):=rfl;have A:ij (vs.drop (vs.length-EY vs.length))<18446744073709551616:=this;rw[e];omega⟩
theorem AG9 {vs:List Int}(h:∀x∈vs,JI x):JI (vs.getLast?.getD 0):=by
 cases A:vs.getLast? with
 | none=>exact⟨ApI _,by decide⟩
 | some z=>exact h z (Aom A)
theorem AHA {op:Int}{vs:List Int}{w x:Int}(A:∀x∈vs,JI x)(h:Ey op vs w=some x):JI x:=by
 unfold Ey at h;split at h
 .rw[<-Am1 h];exact ADd A
 split at h
 .rw[<-Am1 h];exact Ql _ _ _
 split at h
 .rw[<-Am1 h];exact Xg A
 split at h
 .rw[<-Am1 h];exact Xg A
 split at h
 .rw[<-Am1 h];exact UK _
 split at h
 .rw[<-Am1 h];exact jP (AG9 A)
 split at h
 .rw[<-Am1 h];exact xj _
 split at h
 .exact absurd h.symm (Apx _)
 split at h
 .rw[<-Am1 h];exact Ql _ _ _
 split at h
 .rw[<-Am1 h];exact AG8 _
 .rw[<-Am1 h];exact Ql _ _ _
theorem uu (op:BinOp)(x y:Int):JI (Go.bits op .u64 x y):=by
 have h:=bits_within op .u64 x y;have A:IntKind.min .u64=0:=rfl;have C:IntKind.max .u64=18446744073709551615:=rfl;rw[A,C]at h;exact⟨h.1,by have:=h.2;omega⟩
theorem AN8 (x:Int):JI (Rc x):=toF_64 (by have h:=uu .andNot x 9223372036854775808;have A:=h.1;have C:=h.2;omega)
theorem uw (x:Int):JI (QW x):=jP (uu .xor x 9223372036854775808)
theorem ADf (x:Int):JI (Hl x):=by
 have:La x.toNat<18446744073709551616:=by
  unfold La;cases Ieee.double.read x.toNat with
  | nan s t=>exact(by decide:9221120237041090560<18446744073709551616)
  | infinity s=>exact toF_lt (write_lt _)
  | number s m i=>exact toF_lt (write_lt _)
 exact⟨Anh _,by unfold Hl;omega⟩
theorem AN9 (s:ByteArray):JI (Sn s):=by
 unfold Sn;dsimp only;split
 .exact toF_64 (by decide)
 .split
  .exact toF_64 (write_lt (.number _ _ 0))
  .exact⟨Anh _,by have:=sF 4 (FloatKind.f64.nearest (Gh s).m) (T3.getD (-T5 (Gh s)).toNat 0);omega⟩
theorem Xh (op a b:Int):JI (A5 op a b).1:=by
 unfold A5;split
 .exact Ql _ _ _
 .dsimp only;split<;>exact UK _
structure yc (x:Vv):Prop where
 v:JI x.v
 es:∀e∈x.vec,JI e.v
 rs:∀r∈x.TE,∀v∈r.vs,JI v
end TwW
end
section
namespace TwW
open Go Tw
def Plc:List (List UInt8)->List UInt8->Prop
 | [],_=>True
 | x::l,s=>∃i,i<=s.length/\Lib.occAt s x i=true/\Plc l (s.drop (i+x.length))
theorem nS {s x:List UInt8}{i j:Nat}:Lib.occAt (s.drop i) x j=Lib.occAt s x (i+j):=by
 unfold Lib.occAt;rw[Anu]
theorem Plc.mono:∀{l:List (List UInt8)} {s:List UInt8} {i j:Nat},i<=j->Plc l (s.drop j)->Plc l (s.drop i)
 | [],_,_,_,_,_=>trivial
 | x::l,s,i,j,JZ,⟨k,h1,A,C⟩=>by
  rw[nS]at A;rw[Amx]at h1;rw[Anu]at C;by_cases hj:j<=s.length
  .refine⟨k+(j-i),by rw[Amx];omega,by rw[nS,show i+(k+(j-i))=j+k by omega];exact A,?_⟩;rw[Anu,show i+(k+(j-i)+x.length)=j+(k+x.length) by omega];exact C
  .have hd:s.drop (j+k)=[]:=Amm (by omega);unfold Lib.occAt at A;rw[hd]at A;have hx:x=[]:=by
    cases x with
    | nil=>rfl
    | cons a b=>simp at A
   subst hx;have G:s.drop (j+(k+([]:List UInt8).length))=[]:=Amm (by simp;omega);rw[G]at C;refine⟨(s.drop i).length,Amr _,by simp[Lib.occAt],?_⟩;rw[Amm (by simp)];exact C
theorem ux (s:ByteArray)(i:Nat):(s.extract i s.size).data.toList=s.data.toList.drop i:=by
 rw[An8,ApD];have h:s.data.toList.length=s.size:=rfl;show(s.data.toList.drop i).take (s.size-i)=_
 exact Amj (by rw[Amx,h];exact Amr _)
theorem uy:∀(l:List ByteArray) (s:ByteArray),de l s=true↔Plc (l.map (·.data.toList)) s.data.toList
 | [],s=>by simp[de,Plc]
 | t::r,s=>by
  rw[de,AnT];rcases Lib.index_spec s.data.toList t.data.toList with ⟨C,G⟩|⟨i,C,G,h3,h4⟩
  .rw[C,Amc (by decide)]
   constructor
   .intro h;cases h
   .rintro⟨j,hj,A,_⟩
    rw[G j hj]at A;cases A
  .have ct:t.data.toList.length=t.size:=rfl;rw[C,Amb (by omega),AnE,uy r,ux]
   constructor
   .intro h;exact⟨i,G,h3,by rw[ct];exact h⟩
   .rintro⟨j,hj,A,hp⟩
    have JZ:i<=j:=Nat.le_of_not_lt λAv=>by rw[h4 j Av]at A;cases A
    rw[ct]at hp;exact hp.mono (by omega)
def Dn:List UInt8->List UInt8->Prop
 | [],s=>s=[]
 | c::p,s=>if c=42 then ∃i,i<=s.length/\Dn p (s.drop i) else ∃A,s=c::A/\Dn p A
def Rh:List UInt8->List (List UInt8)
 | []=>[[]]
 | c::p=>if c=42 then[]::Rh p else match Rh p with
  | []=>[[c]]
  | x::l=>(c::x)::l
theorem jR:∀p,Rh p≠[]
 | []=>by simp[Rh]
 | c::p=>by
  unfold Rh;split
  .simp
  .cases Rh p<;>simp
def dw:List (List UInt8)->List UInt8->Prop
 | [],_=>True
 | [z],s=>∃i,i<=s.length/\s.drop i=z
 | x::l,s=>∃i,i<=s.length/\Lib.occAt s x i=true/\dw l (s.drop (i+x.length))
def Pcs:List (List UInt8)->List UInt8->Prop
 | [],_=>True
 | [x],s=>s=x
 | x::l,s=>x.isPrefixOf s=true/\dw l (s.drop x.length)
theorem AHB:∀(l:List (List UInt8)) (s:List UInt8),l≠[]->(dw l s↔∃i,i<=s.length/\Pcs l (s.drop i))
 | [],_,h=>absurd rfl h
 | [z],s,_=>Apz
 | x::y::l,s,_=>by
  constructor
  .rintro⟨i,C,G,A⟩
   exact⟨i,C,G,by rw[Anu];exact A⟩
  .rintro⟨i,C,G,A⟩
   rw[Anu]at A;exact⟨i,C,G,A⟩
theorem UL:∀(p s:List UInt8),Dn p s↔Pcs (Rh p) s
 | [],s=>Apz
 | c::p,s=>by
  unfold Dn Rh;split
  .have h:=jR p;have hf:=AHB (Rh p) s h;have e:Pcs ([]::Rh p) s↔dw (Rh p) s:=by
    cases hc:Rh p with
    | nil=>exact absurd hc h
    | cons y l=>
     show([].isPrefixOf s=true/\dw (y::l) (s.drop 0))↔_
     simp
   rw[e,hf]
   constructor
   .rintro⟨i,h1,C⟩;exact⟨i,h1,(UL p _).1 C⟩
   .rintro⟨i,h1,C⟩;exact⟨i,h1,(UL p _).2 C⟩
  .have h:=jR p;have ih:=λs'=>UL p s';cases hc:Rh p with
   | nil=>exact absurd hc h
   | cons x l=>
    rw[hc]at ih
    constructor
    .rintro⟨s',rfl,C⟩
     have A:=(ih s').1 C;cases l with
     | nil=>exact Amz (c::·) A
     | cons y l=>exact⟨by simp[A.1],A.2⟩
    .intro A;cases l with
     | nil=>exact⟨x,A,(ih x).2 rfl⟩
     | cons y l=>
      obtain⟨G,h5⟩:=A;cases s with
      | nil=>simp at G
      | cons d s=>
       simp only[List.isPrefixOf,Amn,AoA]at G;obtain⟨rfl,G⟩:=G;exact⟨s,rfl,(ih s).2 ⟨G,h5⟩⟩
theorem ADh {x:List UInt8}{l:List (List UInt8)}{s:List UInt8}(h:l≠[]):dw (x::l) s↔∃i,i<=s.length/\Lib.occAt s x i=true/\dw l (s.drop (i+x.length)):=by
 cases l with
 | nil=>exact absurd rfl h
 | cons y l=>exact Apz
theorem uz {s x:List UInt8}{i:Nat}(h:Lib.occAt s x i=true)(hi:i<=s.length):i+x.length<=s.length:=by
 unfold Lib.occAt at h;have:=(Aoi.1 h).length_le;rw[Amx]at this;omega
theorem nT {s x:List UInt8}{i n:Nat}(h:i+x.length<=n):Lib.occAt (s.take n) x i=Lib.occAt s x i:=by
 unfold Lib.occAt;rw[Aoo];refine ApM.2 ?_;rw[Aoi,Aoi,List.prefix_take_iff];exact⟨λA=>A.1,λA=>⟨A,by omega⟩⟩
theorem jS:∀(r:List (List UInt8)) (z s:List UInt8),dw (r++[z]) s↔z.length<=s.length/\s.drop (s.length-z.length)=z/\Plc r (s.take (s.length-z.length))
 | [],z,s=>by
  show(∃i,i<=s.length/\s.drop i=z)↔_
  constructor
  .rintro⟨i,h1,rfl⟩
   rw[Amx];exact⟨by omega,by rw[show s.length-(s.length-i)=i by omega],trivial⟩
  .rintro⟨h1,A,_⟩
   exact⟨_,by omega,A⟩
 | x::r,z,s=>by
  rw[AnQ,ADh (by simp)]
  constructor
  .rintro⟨i,h1,A,h3⟩
   have hk:=uz A h1;obtain⟨G,C,h6⟩:=(jS r z _).1 h3;rw[Amx]at G C h6;rw[Anu]at C;refine⟨by omega,by rw[show s.length-z.length=i+x.length+(s.length-(i+x.length)-z.length) by omega];exact C,i,by rw[Amp];omega,by rw[nT (by omega)];exact A,?_⟩;rw[Aoo,show s.length-z.length-(i+x.length)=s.length-(i+x.length)-z.length by omega];exact h6
  .rintro⟨h1,A,i,h3,G,C⟩
   have hk:=uz G h3;rw[Amp]at h3 hk;rw[nT (by omega)]at G;rw[Aoo]at C;refine⟨i,by omega,G,(jS r z _).2 ⟨by rw[Amx];omega,?_,?_⟩⟩
   .rw[Amx,Anu,show i+x.length+(s.length-(i+x.length)-z.length)=s.length-z.length by omega];exact A
   .rw[Amx,show s.length-(i+x.length)-z.length=s.length-z.length-(i+x.length) by omega];exact C
theorem u4 (s:ByteArray)(i j:Nat):(s.extract i j).data.toList=(s.data.toList.drop i).take (j-i):=by
 rw[An8,ApD]
theorem ADi {a b:ByteArray}:a=b↔a.data.toList=b.data.toList:=⟨λh=>by rw[h],λh=>by
 obtain⟨a⟩:=a;obtain⟨b⟩:=b
 congr 1
 exact AnB.1 h⟩
theorem AHC {l:List ByteArray}{s:ByteArray}(h:l≠[]):yV l s=true↔Pcs (l.map (·.data.toList)) s.data.toList:=by
 match l,h with
 | [a],_=>
  have e:yV [a] s=decide (s=a):=rfl;rw[e,Amq,ADi];exact Apz
 | a::y::r,_=>
  obtain⟨G,z,hm⟩:∃G z,y::r=G++[z]:=⟨(y::r).dropLast,(y::r).getLast (by simp),(List.dropLast_concat_getLast (by simp)).symm⟩;have J2:s.data.toList.length=s.size:=rfl;have C:a.data.toList.length=a.size:=rfl;have hzz:z.data.toList.length=z.size:=rfl;have e1:yV (a::y::r) s=(if s.size<a.size+z.size\/s.extract 0 a.size≠a\/s.extract (s.size-z.size) s.size≠z then false else de G (s.extract a.size (s.size-z.size))):=by
   unfold yV;rw[hm];simp only[Aov,AqF,List.tail_cons,List.dropLast_concat,AnN,Amv];rw[Amb (by omega),show(a::(G++[z])).getLast?=some z by rw[<-AnQ,List.getLast?_concat]];rfl
  have e2:Pcs ((a::y::r).map (·.data.toList)) s.data.toList↔a.data.toList.isPrefixOf s.data.toList=true/\dw (G.map (·.data.toList)++[z.data.toList]) (s.data.toList.drop a.size):=by
   have e3:(y::r).map (·.data.toList)=G.map (·.data.toList)++[z.data.toList]:=by rw[hm,Am7];rfl
   rw[AnT];show a.data.toList.isPrefixOf s.data.toList=true/\dw ((y::r).map (·.data.toList)) _↔_
   rw[e3,C]
  rw[e1,e2,jS,Aoi,Amx,J2,hzz,Anu];have xl:(s.extract 0 a.size=a)↔s.data.toList.take a.size=a.data.toList:=by rw[ADi,u4,Ao7,Aqi]
  have AXL:(s.extract (s.size-z.size) s.size=z)↔s.data.toList.drop (s.size-z.size)=z.data.toList:=by rw[ADi,ux]
  by_cases A:s.size<a.size+z.size\/s.extract 0 a.size≠a\/s.extract (s.size-z.size) s.size≠z
  .rw[Amc A];refine⟨λhh=>(by cases hh),?_⟩
   rintro⟨h1,h2,h3,h4⟩
   exfalso;have hal:=h1.length_le;rcases A with A|A|A
   .omega
   .exact A (xl.2 (by rw[<-C];exact(Aot.1 h1).symm))
   .refine A (AXL.2 ?_);rw[<-h3];congr 1;omega
  .rw[Amb A];simp only[Ap1,Amy]at A;obtain⟨c1,c2,c3⟩:=A;rw[uy,u4]
   constructor
   .intro hp;refine⟨Aot.2 (by rw[C];exact(xl.1 c2).symm),by omega,?_,?_⟩
    .rw[<-AXL.1 c3];congr 1;omega
    .rw[show s.size-a.size-z.size=s.size-z.size-a.size by omega];exact hp
   .rintro⟨_,_,_,hp⟩
    rw[show s.size-a.size-z.size=s.size-z.size-a.size by omega]at hp;exact hp
theorem nU {p:List UInt8}{l:List ByteArray}{s:ByteArray}(h:l.map (·.data.toList)=Rh p):yV l s=true↔Dn p s.data.toList:=by
 rw[AHC (λe=>jR p (by rw[<-h,e];rfl)),h,UL]
theorem Mg {p s:List UInt8}:Dn (42::p) s↔∃i,i<=s.length/\Dn p (s.drop i):=by
 show(if(42:UInt8)=42 then _ else _)↔_
 rw[Amc rfl]
theorem Qm {c:UInt8}{p s:List UInt8}(h:c≠42):Dn (c::p) s↔∃A,s=c::A/\Dn p A:=by
 show(if c=42 then _ else _)↔_
 rw[Amb h]
theorem Mh:∀(p q s:List UInt8),Dn (p++q) s↔∃j,j<=s.length/\Dn p (s.take j)/\Dn q (s.drop j)
 | [],q,s=>by
  constructor
  .intro h;exact⟨0,Amh _,rfl,h⟩
  .rintro⟨j,h1,A,G⟩
   have A:s.take j=[]:=A;have hl:=Amz List.length A;rw[Amp]at hl;have hl:min j s.length=0:=hl;have hj:j=0:=by omega
   subst hj;exact G
 | c::p,q,s=>by
  rw[AnQ];by_cases hc:c=42
  .subst hc;rw[Mg]
   constructor
   .rintro⟨i,h1,A⟩
    obtain⟨j,G,C,h5⟩:=(Mh p q _).1 A;rw[Amx]at G;rw[Anu]at h5;exact⟨i+j,by omega,Mg.2 ⟨i,by rw[Amp];omega,by rw[Aoo,show i+j-i=j by omega];exact C⟩,h5⟩
   .rintro⟨J,h1,A,G⟩
    obtain⟨i,C,h5⟩:=Mg.1 A;rw[Amp]at C;rw[Aoo]at h5;exact⟨i,by omega,(Mh p q _).2 ⟨J-i,by rw[Amx];omega,h5,by rw[Anu,show i+(J-i)=J by omega];exact G⟩⟩
  .rw[Qm hc]
   constructor
   .rintro⟨s',rfl,A⟩
    obtain⟨j,G,C,h5⟩:=(Mh p q _).1 A;exact⟨j+1,by simpa using G,(Qm hc).2 ⟨s'.take j,rfl,C⟩,h5⟩
   .rintro⟨J,h1,A,G⟩
    obtain⟨s',C,h5⟩:=(Qm hc).1 A;cases s with
    | nil=>simp at C
    | cons d s=>
     cases J with
     | zero=>simp at C
     | succ J=>
      simp only[List.take_succ_cons,AoL]at C;obtain⟨rfl,rfl⟩:=C;exact⟨s,rfl,(Mh p q _).2 ⟨J,by simpa using h1,h5,G⟩⟩
theorem KM {p s:List UInt8}:Dn (p++[42]) s↔∃j,j<=s.length/\Dn p (s.take j):=by
 rw[Mh]
 constructor
 .rintro⟨j,A,C,_⟩;exact⟨j,A,C⟩
 .rintro⟨j,A,C⟩
  exact⟨j,A,C,Mg.2 ⟨(s.drop j).length,Amr _,Amm (Amr _)⟩⟩
theorem SJ {c:UInt8}{p s:List UInt8}(hc:c≠42):Dn (p++[c]) s↔∃A,s=A++[c]/\Dn p A:=by
 rw[Mh]
 constructor
 .rintro⟨j,h1,C,h3⟩
  obtain⟨u,h4,G⟩:=(Qm hc).1 h3;have G:u=[]:=G;subst G;exact⟨s.take j,by rw[<-h4,Anc],C⟩
 .rintro⟨A,rfl,C⟩
  exact⟨A.length,by simp,by rw[Ap0];exact C,by rw[List.drop_left];exact(Qm hc).2 ⟨[],rfl,rfl⟩⟩
def Ri (c:UInt8):List UInt8->List (List UInt8)
 | []=>[[]]
 | b::p=>if b=c then[]::Ri c p else match Ri c p with
  | []=>[[b]]
  | x::l=>(b::x)::l
theorem jT:∀p,Ri 42 p=Rh p
 | []=>rfl
 | c::p=>by unfold Ri Rh;rw[jT p]
theorem cS (c:UInt8):∀s:List UInt8,Lib.splitK [c] 0 (s.count c) s=Ri c s
 | []=>rfl
 | b::l=>by
  have C:=cS c l;by_cases hb:b=c
  .subst hb;have e:(b::l).count b=l.count b+1:=List.count_cons_self;have hi:Lib.index (b::l) [b]=0:=by unfold Lib.index;simp
   rw[e,Lib.splitK,hi];unfold Ri;rw[Amc rfl,<-C];rfl
  .have e:(b::l).count c=l.count c:=List.count_cons_of_ne hb;have hi:Lib.index (b::l) [c]=if Lib.index l [c]==-1 then -1 else Lib.index l [c]+1:=by
    rw[Lib.index,Amb (by simpa using λh=>hb h.symm)]
   rw[e];unfold Ri;rw[Amb hb,<-C];cases hk:l.count c with
   | zero=>rfl
   | succ k=>
    rw[Lib.splitK,Lib.splitK,hi];have bH:=Lib.index_ge l [c];by_cases A:Lib.index l [c]=-1
    .rw[A];rfl
    .have G:(Lib.index l [c]==-1)=false:=by simpa using A
     have h2:(Lib.index l [c]+1==-1)=false:=by
      rw[AoN];omega
     simp only[G,h2,Aof,AoH];rw[show(Lib.index l [c]+1).toNat=(Lib.index l [c]).toNat+1 by omega];simp only[AnW,Ank,List.take_succ_cons,List.drop_succ_cons]
theorem UM (c:UInt8)(s:ByteArray):(Ge c s).map (·.data.toList)=Ri c s.data.toList:=by
 unfold Ge;rw[Lib.splitB_data];have h:Lib.countB s ⟨#[c]⟩=s.data.toList.count c:=Lib.count_one c s.data.toList;rw[h];exact cS c _
theorem xm {p s:ByteArray}:MT p s=true↔∃x∈Ri 124 p.data.toList,Dn x s.data.toList:=by
 unfold MT;rw[List.any_eq_true]
 constructor
 .rintro⟨x,A,h⟩
  refine⟨x.data.toList,by rw[<-UM];exact AnA.2 ⟨x,A,rfl⟩,(nU ?_).1 h⟩;rw[UM,jT]
 .rintro⟨x,A,h⟩
  rw[<-UM]at A;obtain⟨y,C,rfl⟩:=AnA.1 A;exact⟨y,C,(nU (by rw[UM,jT])).2 h⟩
def Pl (p:List UInt8)(i:Nat):List UInt8:=if p[i]?=some 42 then p.take (i+1) else p.take i
theorem Mi {p:List UInt8}{i:Nat}{c:UInt8}(h:p[i]?=some c):p.take (i+1)=p.take i++[c]:=by
 rw[List.take_succ,h];rfl
theorem xn {p s:List UInt8}{i:Nat}{c d:UInt8}(h:p[i]?=some c):Dn (p.take (i+1)) (s++[d])↔if c=42 then Dn (Pl p i) (s++[d]) else c=d/\Dn (Pl p i) s:=by
 by_cases A:c=42
 .subst A;rw[Amc rfl];unfold Pl;rw[Amc h]
 .rw[Amb A,Mi h,SJ A];unfold Pl;rw[Amb (by rw[h];simpa using A)]
  constructor
  .rintro⟨s',e,C⟩
   have G:=List.append_inj' e rfl;obtain⟨rfl,h4⟩:=G;exact⟨by simpa using h4.symm,C⟩
  .rintro⟨rfl,C⟩
   exact⟨s,rfl,C⟩
theorem u5 {p s:List UInt8}{i:Nat}{d:UInt8}:Dn (Pl p i) (s++[d])↔(p[i]?=some 42/\Dn (Pl p i) s)\/Dn (p.take i) (s++[d]):=by
 by_cases h:p[i]?=some 42
 .have e:Pl p i=p.take i++[42]:=by unfold Pl;rw[Amc h,Mi h]
  rw[e,KM,KM]
  constructor
  .rintro⟨j,C,A⟩
   rw[Amv,AnW]at C;by_cases G:j<=s.length
   .rw[Aoa G]at A;exact .inl ⟨h,j,G,A⟩
   .have e9:(s++[d]).take j=s++[d]:=Amj (by rw[Amv,AnW];omega);rw[e9]at A;exact .inr A
  .rintro(⟨_,j,C,A⟩|A)
   .exact⟨j,by simp;omega,by rw[Aoa C];exact A⟩
   .exact⟨(s++[d]).length,Amr _,by rw[Apg];exact A⟩
 .have e:Pl p i=p.take i:=by unfold Pl;rw[Amb h]
  rw[e];exact⟨λA=>.inr A,λA=>A.elim (λh3=>absurd h3.1 h) id⟩
theorem AOB {p:List UInt8}:Pl p p.length=p:=by
 unfold Pl;rw[Amb (by simp),Apg]
end TwW
end
section
namespace TwW
open Go Tw Go.RowKit Go.Proofs.Tryz
theorem KN (s:ByteArray)(i j:Nat):(s.extract i j).data.toList=(s.data.toList.drop i).take (j-i):=by
 rw[An8,ApD,List.extract_eq_drop_take]
def XA (_:Hp)(vs:List Value)(b:Bool):Prop:=vs=[.bool b]
theorem XA.mono:Iu XA:=λ_ _ _ _ _ h=>h
section
variable {Z Z0 O:Hp}{R:Rr}
theorem cU {n:Nat}{Φ:Value->Hp->Prop}(hn:n<=1000000)(h:∀b,Z b=none->Φ (.slice (some ⟨b,0,none⟩) n n) (Z.set b (.cells (List.replicate n (Value.bool false)).toArray 4 (0,0)))):AJ prog (Instr.makeSlice 251 (.I (n:Int)) (.I (n:Int))) Z Φ:=by
 have A:((prog.info? 4).map λi=>(i.zero,i.size,i.bytes))=some (some (.bool false),1,1):=by kernel_rfl
 cases hi:prog.info? 4 with
 | none=>rw[hi]at A;cases A
 | some i=>
  rw[hi]at A;simp only[AnK,Ami,AoZ]at A;obtain⟨G,h2,h3⟩:=A;refine AJ.new (v:=λb=>.slice (some ⟨b,0,none⟩) n n) (o:=.cells (List.replicate n (Value.bool false)).toArray 4 (0,0)) (λw _=>?_) h;have:=run_make (P:=prog) w 251 4 i (.bool false) underlying251 hi G .i64 .i64 (n:Int) (n:Int) (by omega) (ApI _) (by rw[h3];omega) (by omega);rw[this,AnE,h2,An5];have e:madeCells (Value.bool false).cells n=(List.replicate n (Value.bool false)).toArray:=by
   apply AnB.1
   unfold madeCells;rw[Array.toList_map];refine Ani λk=>?_;rw[Am8,Aob,Array.toList_range];by_cases C:k<n
   .rw[Amc C,Apy C];show some ((Value.bool false).cells[k%1]!)=_
    rw[Nat.mod_one];rfl
   .rw[Amb C,AoB.2 (by rw[AqB];omega)];rfl
  rw[e]
theorem gG {b n:Nat}(C:n<=1000000)(hb:Z b=none):AL 1 XA Z (Z.set b (.cells (List.replicate n (Value.bool false)).toArray 4 (0,0))) (some ⟨b,0,none⟩) n n (List.replicate n false):=by
 refine⟨⟨AoU,List.replicate n (Value.bool false),⟨by rw[AoU,An5],by omega,.inr ⟨b,0,_,_,rfl,Hp.AA _ _ _,Amr _,by simp,by simp⟩⟩,by rw[AoU,AoU,An5],λi x A=>?_⟩,by rw[Hp.Mu hb];exact .refl _⟩;rw[Aob]at A;split at A
 .rename_i hi;cases A;show((List.replicate n (Value.bool false)).drop (i*1)).take 1=[.bool false]
  rw[An5,List.drop_replicate,List.take_replicate,AoK (by omega)];rfl
 .cases A
theorem AL.Wh {b o n c i:Nat}{bs:List Bool}{x:Bool}{Φ:Unit->Hp->Prop}(ho:AL 1 XA Z0 Z (some ⟨b,o,none⟩) n c bs)(hi:i<n)
  (hΦ:∀Z',AL 1 XA Z0 Z' (some ⟨b,o,none⟩) n c (bs.set i x)->Φ () Z'):AJ prog (Instr.storeAt 4 (.pointer (some ⟨b,o+i*1,none⟩)) (.bool x)) Z Φ:=by
 obtain⟨⟨hl,cs,KI,hc⟩,ya⟩:=ho;refine Aw.rv (j:=i*1) KI (by omega) AJy rfl rfl λobj A7=>hΦ _ ⟨⟨by rw[AoF];exact hl,_,A7,?_,λj y A=>?_⟩,by rw[Hp.Ja];exact ya⟩
 .rw[AoF,AoF];exact hc.1
 .have e:=gF (cs:=cs) (v:=Value.bool x) (s:=1) (i:=i) (j:=j) (r:=0) (by decide);rw[Ank]at e;show((cs.set (i*1) (Value.bool x)).drop (j*1)).take 1=[.bool y]
  rw[e];by_cases G:i=j
  .subst G;rw[Amc rfl];rw[AnP (by omega)]at A;cases A;obtain⟨C,hy0⟩:∃C,bs[i]?=some C:=⟨_,Amf (by omega)⟩;have h3:(cs.drop (i*1)).take 1=[.bool C]:=hc.2 i C hy0;rw[h3];rfl
  .rw[Amb G];rw[AnR G]at A;exact hc.2 j y A
theorem AXN {p:Option Addr}{n i:Nat}{bs:List Bool}{x:Bool}(C:AT 1 XA Z p n bs)(G:bs[i]?=some x):∃b o,p=some ⟨b,o,none⟩/\Hp.ld Z ⟨b,o+i*1,none⟩=some (.bool x):=by
 obtain⟨b,o,vs,hp,rfl,A⟩:=AT.idx C G;exact⟨b,o,hp,A.1⟩
end
theorem AHD {p:List UInt8}:Dn (Pl p 0) []:=by
 unfold Pl;split
 .rename_i h;rw[Mi h,Aop,Anm];exact Mg.2 ⟨0,Amr _,rfl⟩
 .exact rfl
theorem ADj {p:List UInt8}{i:Nat}{c:UInt8}(h:p[i]?=some c):Dn (Pl p (i+1)) []↔c=42/\Dn (Pl p i) []:=by
 have h1:Dn (Pl p (i+1)) []↔Dn (p.take (i+1)) []:=by
  unfold Pl;split
  .rename_i A;rw[Mi A,KM]
   constructor
   .rintro⟨j,hj,C⟩
    simpa using C
   .exact λC=>⟨0,Amr _,C⟩
  .exact Apz
 rw[h1];by_cases G:c=42
 .subst G;have e:Pl p i=p.take (i+1):=by unfold Pl;rw[Amc h]
  rw[e];exact⟨λA=>⟨rfl,A⟩,λA=>A.2⟩
 .rw[Mi h,SJ G]
  constructor
  .rintro⟨s',e,_⟩
   exact absurd (Amz List.length e) (by simp)
  .exact λA=>absurd A.1 G
theorem AXO {p s:List UInt8}{d:UInt8}:¬Dn (p.take 0) (s++[d]):=λh=>by
 have h:s++[d]=[]:=h;exact absurd (Amz List.length h) (by simp)
def preB (p:List UInt8)(av:List Bool)(d:UInt8)(i j:Nat):Prop:=(j<i/\av[j]?=some true/\p[j]?=some 42)\/(0<j/\j-1<i/\av[j-1]?=some true/\p[j-1]?=some d/\d≠42)
theorem AHE {p s:List UInt8}{av:List Bool}{d:UInt8}{i:Nat}{c:UInt8}(hi:p[i]?=some c)(hl:av.length=p.length+1)(ha:∀j,j<=p.length->(av[j]?=some true↔Dn (Pl p j) s)):
  Dn (Pl p (i+1)) (s++[d])↔preB p av d p.length (i+1)\/(c=42/\Dn (Pl p i) (s++[d])):=by
 have hip:=(Amd.1 hi).1;rw[u5,xn hi,<-ha (i+1) (by omega)];unfold preB;rw[AoT];by_cases G:c=42
 .subst G;rw[Amc rfl]
  constructor
  .rintro(⟨A,C⟩|A)
   .exact .inl (.inl ⟨(Amd.1 A).1,C,A⟩)
   .exact .inr ⟨rfl,A⟩
  .rintro((⟨_,C,A⟩|⟨_,_,_,A,C⟩)|⟨_,A⟩)
   .exact .inl ⟨A,C⟩
   .rw[hi]at A;exact absurd (Am1 A).symm C
   .exact .inr A
 .rw[Amb G,<-ha i (by omega)]
  constructor
  .rintro(⟨A,C⟩|⟨A,C⟩)
   .exact .inl (.inl ⟨(Amd.1 A).1,C,A⟩)
   .subst A;exact .inl (.inr ⟨by omega,hip,C,hi,G⟩)
  .rintro((⟨_,C,A⟩|⟨_,_,h3,A,C⟩)|⟨A,_⟩)
   .exact .inl ⟨A,C⟩
   .rw[hi]at A;exact .inr ⟨Am1 A,h3⟩
   .exact absurd A G
theorem ADk {p s:List UInt8}{av:List Bool}{d:UInt8}(G:∀j,j<=p.length->(av[j]?=some true↔Dn (Pl p j) s)):Dn (Pl p 0) (s++[d])↔preB p av d p.length 0:=by
 rw[u5,<-G 0 (Amh _)];unfold preB
 constructor
 .rintro(⟨A,C⟩|A)
  .exact .inl ⟨(Amd.1 A).1,C,A⟩
  .exact absurd A AXO
 .rintro(⟨_,C,A⟩|⟨A,_⟩)
  .exact .inl ⟨A,C⟩
  .omega
theorem gH {p:List UInt8}{av:List Bool}{d:UInt8}{i j:Nat}:preB p av d (i+1) j↔preB p av d i j\/(j=i/\av[i]?=some true/\p[i]?=some 42)\/(j=i+1/\av[i]?=some true/\p[i]?=some d/\d≠42):=by
 unfold preB
 constructor
 .rintro(⟨G,C,A⟩|⟨G,C,A,h4,h5⟩)
  .by_cases hj:j=i
   .subst hj;exact .inr (.inl ⟨rfl,C,A⟩)
   .exact .inl (.inl ⟨by omega,C,A⟩)
  .by_cases hj:j-1=i
   .rw[hj]at A h4;exact .inr (.inr ⟨by omega,A,h4,h5⟩)
   .exact .inl (.inr ⟨G,by omega,A,h4,h5⟩)
 .rintro((⟨G,C,A⟩|⟨G,C,A,h4,h5⟩)|⟨G,C,A⟩|⟨G,C,A,h4⟩)
  .exact .inl ⟨by omega,C,A⟩
  .exact .inr ⟨G,by omega,A,h4,h5⟩
  .subst G;exact .inl ⟨by omega,C,A⟩
  .subst G;exact .inr ⟨by omega,by omega,by rw[AoT];exact C,by rw[AoT];exact A,h4⟩
theorem nW {ns:List Bool}{i j:Nat}(hi:i<ns.length):(ns.set i true)[j]?=some true↔j=i\/ns[j]?=some true:=by
 by_cases A:i=j
 .subst A;rw[AnP hi];simp
 .rw[AnR A]
  constructor
  .exact .inr
  .rintro(h|h)
   .exact absurd h.symm A
   .exact h
theorem tn1 (i:Nat):Int.toNat ((i:Int)+1)=i+1:=by omega
section
variable {Z Z0 O:Hp}{R:Rr}{p s:ByteArray}
theorem cV {b o n i:Nat}{bs:List Bool}{x:Bool}(C:AT 1 XA Z (some ⟨b,o,none⟩) n bs)(G:bs[i]?=some x):Hp.ld Z ⟨b,o+i*1,none⟩=some (.bool x):=by
 obtain⟨b',o',hp,A⟩:=AXN C G;cases hp;exact A
theorem xo {b o n:Nat}(hn:n=p.size+1)(hp:p.size<=100000)(h:∀O bs,AL 1 XA Z O (some ⟨b,o,none⟩) n n bs->(∀j,j<=p.size->(bs[j]?=some true↔Dn (Pl p.data.toList j) []))->A8.Nw R p s (aD b o) n n 0 O):
  ∀(g i:Nat) (O:Hp) (bs:List Bool),p.size-i=g->i<=p.size->AL 1 XA Z O (some ⟨b,o,none⟩) n n bs->(∀j,j<=i->(bs[j]?=some true↔Dn (Pl p.data.toList j) []))->(∀j,i<j->j<n->bs[j]?=some false)->A8.J6 R p s (aD b o) n n (i:Int) O:=by
 have J2:p.data.toList.length=p.size:=rfl;intro g
 induction g with
 | zero=>
  intro i O bs hg hi C G h2;have:i=p.size:=by omega
  subst this;exact A8.HX ⟨λhh=>by omega,λ_=>h O bs C G⟩
 | succ g ih=>
  intro i O bs hg hi C G h2;have hlb:bs.length=n:=C.1.1;have BT:i<p.size:=by omega
  obtain⟨u,hu⟩:∃u,p.data.toList[i]?=some u:=⟨_,Amf (by omega)⟩;have D4:p.data[Int.toNat (i:Int)]?=some u:=by simpa using hu
  obtain⟨x,hx⟩:∃x,bs[i]?=some x:=⟨_,Amf (by omega)⟩;have r1:=cV (C.rd XA.mono) (h2 (i+1) (by omega) (by omega));have r2:=cV (C.rd XA.mono) hx;have next:∀v:Bool,(v=true↔Dn (Pl p.data.toList (i+1)) [])->AJ prog (Instr.storeAt 4 (.pointer (some ⟨b,o+(i+1)*1,none⟩)) (.bool v)) O (λ_ y=>AF ((i:Int)+1)/\A8.J6 R p s (aD b o) n n ((i:Int)+1) y):=λv hv=>by
   refine AL.Wh C (by omega) λZ' Mk=>⟨by unfold AF;omega,?_⟩;have:=ih (i+1) Z' (bs.set (i+1) v) (by omega) (by omega) Mk (λj hj=>?_) (λj hj sZ=>?_)
   .rw[show((i+1:Nat):Int)=(i:Int)+1 by omega]at this;exact this
   .by_cases dF:j=i+1
    .subst dF;rw[AnP (by omega),Ami];exact hv
    .rw[AnR (by omega)];exact G j (by omega)
   .rw[AnR (by omega)];exact h2 j (by omega) sZ
  have hf:=ADj (p:=p.data.toList) hu;refine A8.HX ⟨λ_=>?_,λhh=>by omega⟩;rw[tn1,AnE];refine⟨by unfold AF;omega,by unfold AF;omega,b,o,rfl,by unfold In;omega,false,r1,λhh=>(by cases hh),λ_=>⟨by unfold In;omega,x,r2,λjz=>?_,λhxf=>?_⟩⟩
  .refine⟨u,by omega,D4,by unfold In;omega,next _ ?_⟩;rw[hf,Amq];have:=(G i (Amr _)).1 (by rw[hx,jz])
   constructor
   .intro A;exact⟨AoM.1 (by show u.toNat=42;omega),this⟩
   .rintro⟨A,_⟩
    rw[A];rfl
  .refine⟨by unfold In;omega,next _ ?_⟩;rw[hf]
   constructor
   .intro A;cases A
   .rintro⟨_,A⟩
    have:=(G i (Amr _)).2 A;rw[hx,hxf]at this;cases this
theorem AHF {b5 o5 G o8 n k:Nat}{av:List Bool}{d:UInt8}(hn:n=p.size+1)(hp:p.size<=100000)(hr:AT 1 XA O (some ⟨b5,o5,none⟩) n av)(hd:s.data.toList[k]?=some d)
  (h:∀ρ ns,AL 1 XA O ρ (some ⟨G,o8,none⟩) n n ns->(∀j,j<n->(ns[j]?=some true↔preB p.data.toList av d p.size j))->A8.lV R p s (k:Int) (aD G o8) n n 0 ρ) :
  ∀(g i:Nat) (ρ:Hp) (ns:List Bool),p.size-i=g->i<=p.size->AL 1 XA O ρ (some ⟨G,o8,none⟩) n n ns->(∀j,j<n->(ns[j]?=some true↔preB p.data.toList av d i j))->A8.Yq R p s (aD b5 o5) n n (k:Int) (aD G o8) n n (i:Int) ρ:=by
 have J2:p.data.toList.length=p.size:=rfl;have hla:av.length=n:=hr.1;have hd':s.data[Int.toNat (k:Int)]?=some d:=by simpa using hd
 intro g
 induction g with
 | zero=>
  intro i ρ ns hg hi ho h1;have:i=p.size:=by omega
  subst this;exact A8.XU ⟨λhh=>by omega,λ_=>h ρ ns ho h1⟩
 | succ g ih=>
  intro i ρ ns hg hi ho h1;have BT:i<p.size:=by omega
  obtain⟨u,hu⟩:∃u,p.data.toList[i]?=some u:=⟨_,Amf (by omega)⟩;have D4:p.data[Int.toNat (i:Int)]?=some u:=by simpa using hu
  obtain⟨x,hx⟩:∃x,av[i]?=some x:=⟨_,Amf (by omega)⟩;have next:∀ρ' yd,AL 1 XA O ρ' (some ⟨G,o8,none⟩) n n yd->(∀j,j<n->(yd[j]?=some true↔preB p.data.toList av d (i+1) j))->A8.Wy R p s (aD b5 o5) n n (k:Int) (aD G o8) n n (i:Int) ρ':=λρ' yd Mk h2=>by
   have:=ih (i+1) ρ' yd (by omega) (by omega) Mk h2;rw[show((i+1:Nat):Int)=(i:Int)+1 by omega]at this;exact A8.XV ⟨by unfold AF;omega,this⟩
  have u42:((u.toNat:Int):Int)=42↔u=42:=by
   constructor
   .intro A;exact AoM.1 (by show u.toNat=42;omega)
   .intro A;rw[A];rfl
  have C:∀ρ' yd,AL 1 XA O ρ' (some ⟨G,o8,none⟩) n n yd->(∀j,j<n->(yd[j]?=some true↔preB p.data.toList av d i j\/(j=i/\av[i]?=some true/\p.data.toList[i]?=some 42)))->A8.wc R p s (aD b5 o5) n n (k:Int) (aD G o8) n n (i:Int) ρ':=λρ' yd Mk h2=>by
   have Vz:yd.length=n:=Mk.1.1;have r:=cV (hr.mono XA.mono Mk.up) hx;have skip:¬(av[i]?=some true/\p.data.toList[i]?=some d/\d≠42)->A8.Wy R p s (aD b5 o5) n n (k:Int) (aD G o8) n n (i:Int) ρ':=λCU=>next ρ' yd Mk λj hj=>by
    rw[h2 j hj,gH]
    constructor
    .rintro(A|A)
     .exact .inl A
     .exact .inr (.inl A)
    .rintro(A|A|⟨_,A⟩)
     .exact .inl A
     .exact .inr A
     .exact absurd A CU
   refine A8.AF1 ?_;rw[tn1,AnE];refine⟨b5,o5,rfl,by unfold In;omega,x,r,λjz=>⟨u,by omega,D4,λAi=>⟨u,by omega,D4,d,by omega,hd',λheq=>⟨by unfold AF;omega,G,o8,rfl,by unfold In;omega,?_⟩,λAHG=>skip ?_⟩,λh42=>skip ?_⟩,λhxf=>skip ?_⟩
   .have hud:u=d:=AoM.1 (by omega);refine AL.Wh Mk (by omega) λZ' A7=>next Z' _ A7 λj hj=>?_
    rw[nW (by omega),h2 j hj,gH];have AdN:d≠42:=λe=>Ai (u42.2 (hud.trans e))
    constructor
    .rintro(A|A|A)
     .exact .inr (.inr ⟨A,by rw[hx,jz],by rw[hu,hud],AdN⟩)
     .exact .inl A
     .exact .inr (.inl A)
    .rintro(A|A|⟨A,_⟩)
     .exact .inr (.inl A)
     .exact .inr (.inr A)
     .exact .inl A
   .rintro⟨_,A,_⟩
    rw[hu]at A;exact AHG (by rw[Am1 A])
   .rintro⟨_,A,h5⟩
    rw[hu]at A;exact h5 ((Am1 A).symm.trans (u42.1 (Amy.1 h42)))
   .rintro⟨A,_⟩
    rw[hx,hxf]at A;cases A
  have r:=cV (hr.mono XA.mono ho.up) hx;have hl:ns.length=n:=ho.1.1;have skip:¬(av[i]?=some true/\p.data.toList[i]?=some 42)->A8.wc R p s (aD b5 o5) n n (k:Int) (aD G o8) n n (i:Int) ρ:=λCU=>C ρ ns ho λj hj=>by
   rw[h1 j hj]
   constructor
   .exact .inl
   .rintro(A|⟨_,A⟩)
    .exact A
    .exact absurd A CU
  refine A8.XU ⟨λ_=>?_,λhh=>by omega⟩;rw[AnE];rw[AnE]at D4;refine⟨b5,o5,rfl,by unfold In;omega,x,r,λjz=>⟨u,by omega,D4,λh42=>⟨G,o8,rfl,by unfold In;omega,?_⟩,λAi=>skip ?_⟩,λhxf=>skip ?_⟩
  .refine AL.Wh ho (by omega) λZ' A7=>C Z' _ A7 λj hj=>?_;rw[nW (by omega),h1 j hj]
   constructor
   .rintro(A|A)
    .exact .inr ⟨A,by rw[hx,jz],by rw[hu,u42.1 h42]⟩
    .exact .inl A
   .rintro(A|⟨A,_⟩)
    .exact .inr A
    .exact .inl A
  .rintro⟨_,A⟩
   rw[hu]at A;exact Ai (u42.2 (Am1 A))
  .rintro⟨A,_⟩
   rw[hx,hxf]at A;cases A
theorem ADl {C G n k:Nat}{av:List Bool}{d:UInt8}{S:List UInt8}(hn:n=p.size+1)(hp:p.size<=100000)(hk:k<s.size)(hs:s.size<=4611686018427387904)(hla:av.length=n)(ha:∀j,j<=p.size->(av[j]?=some true↔Dn (Pl p.data.toList j) S))
  (h:∀ρ ns,AL 1 XA O ρ (some ⟨C,G,none⟩) n n ns->(∀j,j<=p.size->(ns[j]?=some true↔Dn (Pl p.data.toList j) (S++[d])))->A8.Nw R p s (aD C G) n n ((k:Int)+1) ρ) :
  ∀(g i:Nat) (ρ:Hp) (ns:List Bool),p.size-i=g->i<=p.size->AL 1 XA O ρ (some ⟨C,G,none⟩) n n ns->(∀j,j<=i->(ns[j]?=some true↔Dn (Pl p.data.toList j) (S++[d])))->(∀j,i<j->j<n->(ns[j]?=some true↔preB p.data.toList av d p.size j))->A8.lV R p s (k:Int) (aD C G) n n (i:Int) ρ:=by
 have J2:p.data.toList.length=p.size:=rfl;intro g
 induction g with
 | zero=>
  intro i ρ ns hg hi ho h1 h2;have:i=p.size:=by omega
  subst this;exact A8.ti ⟨λhh=>by omega,λ_=>⟨by unfold AF;omega,h ρ ns ho h1⟩⟩
 | succ g ih=>
  intro i ρ ns hg hi ho h1 h2;have hl:ns.length=n:=ho.1.1;have BT:i<p.size:=by omega
  obtain⟨u,hu⟩:∃u,p.data.toList[i]?=some u:=⟨_,Amf (by omega)⟩;have D4:p.data[i]?=some u:=by simpa using hu
  obtain⟨x,hx⟩:∃x,ns[i]?=some x:=⟨_,Amf (by omega)⟩;obtain⟨z,hz⟩:∃z,ns[i+1]?=some z:=⟨_,Amf (by omega)⟩;have r1:=cV (ho.rd XA.mono) hz;have r2:=cV (ho.rd XA.mono) hx;have cu:=AHE (p:=p.data.toList) (s:=S) (av:=av) (d:=d) hu (by omega) ha;rw[J2]at cu;have next:∀v:Bool,(v=true↔Dn (Pl p.data.toList (i+1)) (S++[d]))->AJ prog (Instr.storeAt 4 (.pointer (some ⟨C,G+(i+1)*1,none⟩)) (.bool v)) ρ (λ_ y=>AF ((i:Int)+1)/\A8.lV R p s (k:Int) (aD C G) n n ((i:Int)+1) y):=λv hv=>by
   refine AL.Wh ho (by omega) λZ' Mk=>⟨by unfold AF;omega,?_⟩;have:=ih (i+1) Z' (ns.set (i+1) v) (by omega) (by omega) Mk (λj hj=>?_) (λj hj sZ=>?_)
   .rw[show((i+1:Nat):Int)=(i:Int)+1 by omega]at this;exact this
   .by_cases dF:j=i+1
    .subst dF;rw[AnP (by omega),Ami];exact hv
    .rw[AnR (by omega)];exact h1 j (by omega)
   .rw[AnR (by omega)];exact h2 j (by omega) sZ
  have xl:=h2 (i+1) (by omega) (by omega);have AXP:=h1 i (Amr _);refine A8.ti ⟨λ_=>?_,λhh=>by omega⟩;rw[tn1,AnE];refine⟨by unfold AF;omega,by unfold AF;omega,C,G,rfl,by unfold In;omega,z,r1,λhzt=>⟨by unfold In;omega,next _ ?_⟩,λhzf=>⟨by unfold In;omega,x,r2,λjz=>⟨u,by omega,D4,by unfold In;omega,next _ ?_⟩,λhxf=>⟨by unfold In;omega,next _ ?_⟩⟩⟩
  .rw[cu];exact⟨λ_=>.inl (xl.1 (by rw[hz,hzt])),λ_=>rfl⟩
  .rw[cu,Amq];have mY:=AXP.1 (by rw[hx,jz])
   constructor
   .intro A;exact .inr ⟨AoM.1 (by show u.toNat=42;omega),mY⟩
   .rintro(A|⟨A,_⟩)
    .have:=xl.2 A;rw[hz,hzf]at this;cases this
    .rw[A];rfl
  .rw[cu]
   constructor
   .intro A;cases A
   .rintro(A|⟨_,A⟩)
    .have:=xl.2 A;rw[hz,hzf]at this;cases this
    .have:=AXP.2 A;rw[hx,hxf]at this;cases this
theorem gI (hp:p.size<=100000)(hs:s.size<=4611686018427387904)(h:∀(b:Bool) (Z':Hp),(b=true↔Dn p.data.toList s.data.toList)->Ext Z Z'->R (.B b) Z'):Spec prog 182 #[.string p,.string s] Z R:=by
 have AdO:p.data.toList.length=p.size:=rfl;have AkK:s.data.toList.length=s.size:=rfl;have C:∀(g k:Nat) (O:Hp) (b o:Nat) (av:List Bool),s.size-k=g->k<=s.size->Ext Z O->AT 1 XA O (some ⟨b,o,none⟩) (p.size+1) av->(∀j,j<=p.size->(av[j]?=some true↔Dn (Pl p.data.toList j) (s.data.toList.take k)))->A8.Nw R p s (aD b o) (p.size+1) (p.size+1) (k:Int) O:=by
  intro g
  induction g with
  | zero=>
   intro k O b o av hg hk hx A ha;have:k=s.size:=by omega
   subst this;have hla:av.length=p.size+1:=A.1;obtain⟨x,Ao⟩:∃x,av[p.size]?=some x:=⟨_,Amf (by omega)⟩;have r:=cV A Ao;refine A8.NH ⟨λhh=>by omega,λ_=>⟨b,o,rfl,by unfold In;omega,x,by rw[AnE];exact r,h x O ?_ hx⟩⟩;have:=ha p.size (Amr _);rw[Ao,Ami,Amj (by omega),<-AdO,AOB]at this;exact this
  | succ g ih=>
   intro k O b o av hg hk hx A ha;have DI:k<s.size:=by omega
   obtain⟨d,hd⟩:∃d,s.data.toList[k]?=some d:=⟨_,Amf (by omega)⟩;refine A8.NH ⟨λ_=>⟨by unfold AF;omega,?_⟩,λhh=>by omega⟩;rw[show((p.size:Nat):Int)+1=((p.size+1:Nat):Int) by omega];refine cU (by omega) λb8 h8=>⟨_,_,_,rfl,?_⟩;have ho:=gG (n:=p.size+1) (by omega) h8;have e0:((0:Nat):Int)=0:=rfl;refine AHF (O:=O) (av:=av) (d:=d) rfl hp A hd (λρ ns G h2=>?_) p.size 0 _ _ rfl (Amh _) ho λj hj=>?_
   .refine ADl (O:=O) (av:=av) (d:=d) (S:=s.data.toList.take k) rfl hp DI hs A.1 ha (λρ' yd Cm h3=>?_) p.size 0 ρ ns rfl (Amh _) G (λj hj=>?_) λj _ sZ=>h2 j sZ
    .have:=ih (k+1) ρ' b8 0 yd (by omega) (by omega) (hx.trans Cm.up) (Cm.rd XA.mono) (by rw[AQ hd];exact h3);rw[show((k+1:Nat):Int)=(k:Int)+1 by omega]at this;exact this
    .have:j=0:=by omega
     subst this;rw[h2 0 (by omega)];exact(ADk (p:=p.data.toList) ha).symm
   .rw[Aob,Amc hj]
    constructor
    .intro h4;cases h4
    .rintro(⟨h4,_⟩|⟨_,h4,_⟩)
     .omega
     .omega
 refine A8.start ⟨by unfold AF;omega,?_⟩;rw[show((p.size:Nat):Int)+1=((p.size+1:Nat):Int) by omega];refine cU (by omega) λb hb=>⟨_,_,_,rfl,b,0,rfl,by unfold In;omega,?_⟩;have ho:=gG (n:=p.size+1) (by omega) hb;refine AL.Wh (i:=0) ho (by omega) λZ' Mk=>?_;refine xo (Z:=Z) rfl hp (λO bs G h2=>C s.size 0 O b 0 bs rfl (Amh _) G.up (G.rd XA.mono) (by rw[Aop];exact h2)) p.size 0 Z' _ rfl (Amh _) Mk (λj hj=>?_) λj hj sZ=>?_
 .have:j=0:=by omega
  subst this;rw[AnP (by rw[AoU];omega)];exact⟨λ_=>AHD,λ_=>rfl⟩
 .rw[AnR (by omega),Aob,Amc sZ]
end
theorem u6 {c:UInt8}:∀{w:List UInt8},(∀u∈w,u≠c)->Ri c w=[w]
 | [],_=>rfl
 | b::w,h=>by
  unfold Ri;rw[Amb (h b (Amu ..)),u6 λu A=>h u (Amk _ A)]
theorem nX {c:UInt8}{r:List UInt8}:∀{w:List UInt8},(∀u∈w,u≠c)->Ri c (w++c::r)=w::Ri c r
 | [],_=>by
  rw[Anm,Ri,Amc rfl]
 | b::w,h=>by
  rw[AnQ,Ri,Amb (h b (Amu ..)),nX λu A=>h u (Amk _ A)]
section
variable {Z:Hp}{R:Rr}
theorem cW {p v:ByteArray}(hp:p.size<=100000)(hs:v.size<=4611686018427387904)(h:∀Z',Ext Z Z'->R (.returned (.bool (MT p v))) Z'):Spec prog 146 #[.string p,.string v] Z R:=by
 have J2:p.data.toList.length=p.size:=rfl;have main:∀(g i f:Nat) (O:Hp),p.size-i=g->i<=p.size->f<=i->(∀u∈(p.data.toList.drop f).take (i-f),u≠124)->Ext Z O->(MT p v=true↔∃x∈Ri 124 (p.data.toList.drop f),Dn x v.data.toList)->F7.AR R p v (f:Int) (i:Int) O:=by
  intro g
  induction g with
  | zero=>
   intro i f O hg hi hf CU hx C;have:i=p.size:=by omega
   subst this;have A:(p.data.toList.drop f).take (p.size-f)=p.data.toList.drop f:=Amj (by rw[Amx];omega);rw[A]at CU;rw[u6 CU]at C;refine F7.AM ⟨λ_=>⟨λ_=>⟨_,rO hf (Amr _),gI (by rw[AnX];omega) hs λb Z' hb Ju=>⟨_,rfl,λht=>?_,λhf2=>⟨by unfold AF;omega,?_⟩⟩⟩,λhh=>absurd rfl hh⟩,λhh=>by omega⟩
   .rw[KN,A]at hb;have:=h Z' (hx.trans Ju);rw[C.2 ⟨_,Amo.2 rfl,hb.1 ht⟩]at this;exact this
   .rw[KN,A]at hb;refine F7.Fu ⟨by unfold AF;omega,F7.AM ⟨λhh=>by omega,λ_=>?_⟩⟩;have hlf:MT p v=false:=by
     cases hq:MT p v with
     | false=>rfl
     | true=>
      obtain⟨x,G,Ao⟩:=C.1 hq;obtain rfl:=Amo.1 G;have:=hb.2 Ao;rw[hf2]at this;cases this
    have:=h Z' (hx.trans Ju);rw[hlf]at this;exact this
  | succ g ih=>
   intro i f O hg hi hf CU hx C;have BT:i<p.size:=by omega
   obtain⟨u,hu⟩:∃u,p.data.toList[i]?=some u:=⟨_,Amf (by omega)⟩;have D4:p.data[Int.toNat (i:Int)]?=some u:=by simpa using hu
   have hd:(p.data.toList.drop f)[i-f]?=some u:=by rw[Am3,show f+(i-f)=i by omega];exact hu
   refine F7.AM ⟨λ_=>⟨λhh=>by omega,λ_=>⟨u,by omega,D4,λAkM=>?_,λAi=>?_⟩⟩,λhh=>by omega⟩
   .have AdP:u=124:=AoM.1 (by show u.toNat=124;omega);subst AdP;have hsp:p.data.toList.drop f=(p.data.toList.drop f).take (i-f)++124::p.data.toList.drop (i+1):=by
     conv=>lhs;rw[<-Anc (i-f) (p.data.toList.drop f)]
     rw[BF hd,Anu,show f+(i-f+1)=i+1 by omega]
    rw[hsp,nX CU]at C;refine⟨_,rO hf hi,gI (by rw[AnX];omega) hs λb Z' hb Ju=>⟨_,rfl,λht=>?_,λhf2=>⟨by unfold AF;omega,?_⟩⟩⟩
    .rw[KN]at hb;have:=h Z' (hx.trans Ju);rw[C.2 ⟨_,Amu ..,hb.1 ht⟩]at this;exact this
    .rw[KN]at hb;have:=ih (i+1) (i+1) Z' (by omega) (by omega) (Amr _) (by simp) (hx.trans Ju) (C.trans ⟨λ⟨x,G,Ao⟩=>by
      rcases Aml.1 G with rfl|G
      .have:=hb.2 Ao;rw[hf2]at this;cases this
      .exact⟨x,G,Ao⟩,λ⟨x,G,Ao⟩=>⟨x,Amk _ G,Ao⟩⟩)
     rw[show((i+1:Nat):Int)=(i:Int)+1 by omega]at this;exact F7.Fu ⟨by unfold AF;omega,this⟩
   .have:=ih (i+1) f O (by omega) (by omega) (by omega) (λw A=>by
     rw[show i+1-f=(i-f)+1 by omega,AQ hd]at A;rcases Am6.1 A with A|A
     .exact CU w A
     .obtain rfl:=Amo.1 A;intro e;rw[e]at Ai;exact Ai rfl) hx C
    rw[show((i+1:Nat):Int)=(i:Int)+1 by omega]at this;exact F7.Fu ⟨by unfold AF;omega,this⟩
 exact F7.start (main p.size 0 0 Z rfl (Amh _) (Amr _) (by simp) (.refl _) xm)
theorem xp {p:Option Addr}{n c:Nat}{ls:List Lb}{k:ByteArray}(G:Db Z p n ls)(h:R (.returned (.string (D3 ls k))) Z):Spec prog 145 #[.slice p n c,.string k] Z R:=by
 refine QK.start ?_
 suffices H:∀d i:Nat,n-i=d->i<=n->D3 ls k=D3 (ls.drop i) k->QK.E5 R p n c k (i:Int) Z from H n 0 rfl (Amh _) rfl
 intro d
 induction d with
 | zero=>
  intro i hd hi A;refine QK.Ag ⟨λAv=>by omega,λ_=>?_⟩;rw[AoO (by rw[G.1];omega)]at A;rw[A]at h;exact h
 | succ d ih=>
  intro i hd hi A;have BT:i<n:=by omega
  obtain⟨x,hx⟩:=G.ex BT;obtain⟨b,o,rfl,hl⟩:=Db.at G hx;rw[BF hx,D3]at A;refine QK.Ag ⟨λ_=>⟨b,o,rfl,by unfold In;omega,x.1,by simpa using hl.1,λC=>⟨by unfold In;omega,x.2,by simpa using hl.2.1,?_⟩,λC=>⟨AI BT G.big,?_⟩⟩,λhh=>by omega⟩
  .rw[ql,Amq]at C;rw[Amc C]at A;rw[A]at h;exact h
  .rw[ql,Am2]at C;rw[Amb C]at A;have:=ih (i+1) (by omega) (by omega) A;rw[show((i+1:Nat):Int)=(i:Int)+1 by omega]at this;exact this
theorem xq {ls:List Lb}(h:∀x∈ls,x.2.size<=4611686018427387904)(k:ByteArray):(D3 ls k).size<=4611686018427387904:=by
 induction ls with
 | nil=>show 0<=_;omega
 | cons x l C=>
  unfold D3;split
  .exact h x (Amu ..)
  .exact C λy A=>h y (Amk _ A)
theorem KH.at' {p:Option Addr}{n i:Nat}{A:List Mt}{x:Mt}(G:AT 3 KH Z p n A)(hx:A[i]?=some x):∃b o,p=some ⟨b,o,none⟩/\Af Z b (o+i*3) [.I x.kind,.string x.name,.string x.val]:=by
 obtain⟨b,o,vs,hp,rfl,C⟩:=AT.idx G hx;exact⟨b,o,hp,C⟩
theorem cX {p q:Option Addr}{n c m d:Nat}{C:List Mt}{ls:List Lb}(hr:AT 3 KH Z p n C)(hl:Db Z q m ls)(hv:∀x∈C,x.val.size<=100000)(hs:∀x∈ls,x.2.size<=4611686018427387904)(h:∀Z',Ext Z Z'->R (.returned (.bool (Gf C ls))) Z'):
  Spec prog 104 #[.slice p n c,.slice q m d] Z R:=by
 refine II.start ?_
 suffices H:∀(g i:Nat) (O:Hp),n-i=g->i<=n->Ext Z O->Gf C ls=Gf (C.drop i) ls->II.E5 R p n c q m d (i:Int) O from H n 0 Z rfl (Amh _) (.refl _) rfl
 intro g
 induction g with
 | zero=>
  intro i O hg hi hx he;refine II.Ag ⟨λAv=>by omega,λ_=>?_⟩;rw[AoO (by rw[hr.1];omega)]at he;have:=h O hx;rw[he]at this;exact this
 | succ g ih=>
  intro i O hg hi hx he;have BT:i<n:=by omega
  obtain⟨x,A⟩:=hr.ex BT;obtain⟨b,o,rfl,CH⟩:=KH.at' hr A;have hxv:=hv x (Ame A);have yY:=xq hs x.name;have e:Gf C ls=(QQ x ls&&Gf (C.drop (i+1)) ls):=by rw[he,BF A];rfl
  have fin:∀(t:Bool) (O':Hp),t=QQ x ls->Ext O O'->II.Wx R (aD b o) n c q m d (i:Int) t O':=λt O' ht G=>by
   refine II.iK ⟨λhf=>?_,λhtt=>⟨AI BT hr.big,?_⟩⟩
   .have:=h O' (hx.trans G);rw[e,<-ht,hf,Anv]at this;exact this
   .have:=ih (i+1) O' (by omega) (by omega) (hx.trans G) (by rw[e,<-ht,htt,Anw]);rw[show((i+1:Nat):Int)=(i:Int)+1 by omega]at this;exact this
  have Re:=CH.mono hx;have e1:QQ x ls=if x.kind=1 then decide (D3 ls x.name=x.val) else if x.kind=2 then decide (D3 ls x.name≠x.val) else if x.kind=3 then MT x.val (D3 ls x.name) else if x.kind=4 then !MT x.val (D3 ls x.name) else false:=rfl
  refine II.Ag ⟨λ_=>⟨b,o,rfl,by unfold In;omega,x.name,by simpa using Re.2.1,xp (hl.mono A9.mono hx) ⟨_,rfl,by unfold In;omega,x.kind,by simpa using Re.1,λk1=>⟨by unfold In;omega,x.val,by simpa using Re.2.2.1,fin _ O ?_ (.refl _)⟩,λk1=>⟨λk2=>⟨by unfold In;omega,x.val,by simpa using Re.2.2.1,fin _ O ?_ (.refl _)⟩,λk2=>⟨λk3=>⟨by unfold In;omega,x.val,by simpa using Re.2.2.1,cW hxv yY λZ' G=>⟨_,rfl,fin _ Z' ?_ G⟩⟩,λk3=>⟨λk4=>⟨by unfold In;omega,x.val,by simpa using Re.2.2.1,cW hxv yY λZ' G=>⟨_,rfl,fin _ Z' ?_ G⟩⟩,λk4=>fin _ O ?_ (.refl _)⟩⟩⟩⟩⟩,λhh=>by omega⟩
  .rw[ql,e1,Amc k1]
  .rw[ql,e1,Amb k1,Amc k2];by_cases hq:D3 ls x.name=x.val
   .rw[Amt hq];simp[hq]
   .rw[Ams hq];simp[hq]
  .rw[e1,Amb k1,Amb k2,Amc k3]
  .rw[e1,Amb k1,Amb k2,Amb k3,Amc k4]
  .rw[e1,Amb k1,Amb k2,Amb k3,Amb k4]
end
def gJ (q:Pt->Bool)(ps:List Pt)(k:Nat)(A:Int):Prop:=(A=-1/\(ps.take k).filter q=[])\/∃(l:Nat) (y:Pt),A=l/\ps[l]?=some y/\((ps.take k).filter q).getLast?=some y
theorem gJ.step {q:Pt->Bool}{ps:List Pt}{k:Nat}{A:Int}{x:Pt}(h:gJ q ps k A)(G:ps[k]?=some x):gJ q ps (k+1) (if q x=true then(k:Int) else A):=by
 have e:(ps.take (k+1)).filter q=(ps.take k).filter q++if q x=true then[x] else[]:=by
  rw[AQ G,AoG,Aoq]
  congr 1
 unfold gJ;rw[e];by_cases C:q x=true
 .rw[Amc C,Amc C];exact .inr ⟨k,x,rfl,G,List.getLast?_concat⟩
 .rw[Amb C,Amb C,AoD];exact h
structure SsD (ss:List Sr):Prop where
 sm:∀s∈ss,Ac s.ls
 len:ss.length<=10000000
 pl:∀s∈ss,s.ps.length<=1000000000
section
variable {Z Z' Z0:Hp}{R:Rr}
theorem jU {n:Nd}{p q l:Option Addr}{k c m d j e:Nat}{ss:List Sr}{t:Int}(hm:AT 3 KH Z p k n.mt)(hr:AT 2 Cd Z l j ss)(hS:SsD ss)(hN:ACc n)(hmv:∀x∈n.mt,x.val.size<=100000)(ht:-4611686018427387904<=t/\t<=4611686018427387904)
  (h:sE R Z ⟨2,0,Hi FF n ss t,0,[]⟩):Spec prog 67 #[Ka n p k c q m d,.slice l j e,.I t] Z R:=by
 have hl:ss.length=j:=hr.1;have IP:=hr.big;have hb:=hN.back;have hlen:=hS.len
 let f:Sr->Option El:=λs=>match (Fe s.ps (t-n.back-300) (t-n.back)).getLast? with
  | none=>none
  | some p=>if p.2=HE\/Gf n.mt s.ls=false then none else some ⟨s.ls,p.2⟩
 have hf:Hi FF n ss t=ss.filterMap f:=rfl;rw[hf]at h;refine Bb.start λ_ _ _=>?_
 suffices H:∀g i:Nat,∀p7 n7 c7 Z',j-i=g->i<=j->AL 2 Ad Z Z' p7 n7 c7 ((ss.take i).filterMap f)->Bb.AR R l j e t n.kind n.op n.text p k c n.width n.back n.Be q m d n.bool n.parts 0 0 none 0 0 0 none 0 0 2 0 p7 n7 c7 0 none 0 0 (i:Int) Z' from H j 0 none 0 0 Z rfl (Amh _) (AL.nil (.refl _))
 intro g
 induction g with
 | zero=>
  intro i p7 n7 c7 Z' mX hi ho;rw[Amj (by omega)]at ho;refine Bb.AM ⟨λhh=>by omega,λ_=>?_⟩;exact h Z' p7 n7 c7 none 0 0 ho.up (ho.rd Ad.mono) AT.nil (by obtain⟨cs,KI,_⟩:=ho.1.2;exact Aw.cap KI)
 | succ g ih=>
  intro i p7 n7 c7 Z' mX hi ho;have BT:i<j:=by omega
  obtain⟨s,hs⟩:=hr.ex BT;obtain⟨b,o,p1,n1,c1,q1,m1,d1,rfl,Eg,h1,h2,h3⟩:=Cd.at hr hs;have Rp:=hS.sm s (Ame hs);have hpl:=hS.pl s (Ame hs);have hps:s.ps.length=m1:=h2.1;have hx:=ho.up;have hn7:n7<=i:=by
   have:=ho.1.1;have h9:=Am0 f (ss.take i);rw[Amp]at h9;omega
  have next:∀p8 n8 c8 A,AL 2 Ad Z A p8 n8 c8 ((ss.take i).filterMap f++(f s).toList)->Bb.LJ R (aD b o) j e t n.kind n.op n.text p k c n.width n.back n.Be q m d n.bool n.parts 0 0 none 0 0 0 none 0 0 2 0 p8 n8 c8 0 none 0 0 (i:Int) A:=λp8 n8 c8 A A7=>
   Bb.M3 ⟨AI BT IP,by
    have:=ih (i+1) p8 n8 c8 A (by omega) (by omega) (by rw[Cn hs];exact A7);rw[show((i+1:Nat):Int)=(i:Int)+1 by omega]at this;exact this⟩
  have Ba:In (i:Int) (j:Int):=by unfold In;omega
  have G:∀A,Ext Z A->Af A b (o+Int.toNat (i:Int)*2) [.slice p1 n1 c1,.slice q1 m1 d1]:=λA h=>by simpa using Eg.mono h
  refine Bb.AM ⟨λ_=>⟨b,o,rfl,Ba,p1,n1,c1,(G Z' hx).1,cX (hm.mono KH.mono hx) (h1.mono A9.mono hx) hmv (λx hx=>by have:=(Rp.2 x hx).2;omega) λA Ao=>⟨_,rfl,λhfa=>next _ _ _ _ ?_,λhtr=>?_⟩⟩,λhh=>by omega⟩
  .have ef:f s=none:=by
    show(match (Fe s.ps (t-n.back-300) (t-n.back)).getLast? with | none=>none | some p=>_)=none
    cases(Fe s.ps (t-n.back-300) (t-n.back)).getLast? with
    | none=>rfl
    | some y=>exact Amc (.inr hfa)
   rw[ef];simpa using ho.mono Ad.mono Ao
  have A7:=ho.mono Ad.mono Ao;have BO:=hx.trans Ao;have h2':=h2.mono Ff.mono BO
  let qq:Pt->Bool:=λp=>decide (t-n.back-300<p.1)&&decide (p.1<=t-n.back)
  have hqq:Fe s.ps (t-n.back-300) (t-n.back)=s.ps.filter qq:=rfl
  suffices K:∀g' k':Nat,∀C:Int,m1-k'=g'->k'<=m1->gJ qq s.ps k' C->Bb.Nv R (aD b o) j e t n.kind n.op n.text p k c n.width n.back n.Be q m d n.bool n.parts 0 0 none 0 0 0 none 0 0 2 0 p7 n7 c7 0 none 0 0 (i:Int) C (k':Int) A from K m1 0 (-1) rfl (Amh _) (.inl ⟨rfl,rfl⟩)
  intro g'
  induction g' with
  | zero=>
   intro k' C xD DI hL;unfold gJ at hL;rw[Amj (by omega),<-hqq]at hL;refine Bb.Ii ⟨b,o,rfl,Ba,q1,m1,d1,(G A BO).2.1,λhh=>by omega,λ_=>⟨λh0=>?_,λh0=>next _ _ _ _ ?_⟩⟩
   .rcases hL with ⟨Rn,_⟩|⟨lk,y,rfl,hy,Qb⟩
    .omega
    obtain⟨b2,o2,rfl,Wa⟩:=Ff.at h2' hy;have hlk:=(Amd.1 hy).1;have AXR:In (lk:Int) (m1:Int):=by unfold In;omega
    have mc:Af A b2 (o2+Int.toNat (lk:Int)*2) [.I y.1,.U y.2]:=by simpa using Wa
    have ef:f s=if y.2=HE\/Gf n.mt s.ls=false then none else some ⟨s.ls,y.2⟩:=by
     show(match (Fe s.ps (t-n.back-300) (t-n.back)).getLast? with | none=>none | some p=>_)=_
     rw[Qb]
    refine⟨Ba,aD b2 o2,m1,d1,(G A BO).2.1,b2,o2,rfl,AXR,y.2,mc.2.1,λHG=>⟨Ba,p1,n1,c1,(G A BO).1,Ba,aD b2 o2,m1,d1,(G A BO).2.1,b2,o2,rfl,AXR,y.2,mc.2.1,λb94 AdS=>?_⟩,λHG=>next _ _ _ _ ?_⟩
    .refine AL.eld A7 (h1.mono A9.mono A7.2) (by omega) (λp' c' Z3 Cm _=>⟨_,_,_,rfl,next _ _ _ _ ?_⟩) AdS;rw[ef,Amb (by
      rintro(h5|h5)
      .exact HG h5
      .rw[htr]at h5;cases h5)]
     exact Cm
    .rw[ef,Amc (.inl (Amy.1 HG))];simpa using A7
   .rcases hL with ⟨Rn,AOD⟩|⟨lk,y,hlk,_⟩
    .have ef:f s=none:=by
      show(match (Fe s.ps (t-n.back-300) (t-n.back)).getLast? with | none=>none | some p=>_)=none
      rw[AOD];rfl
     rw[ef];simpa using A7
    .omega
  | succ g' ihk=>
   intro k' C xD DI hL;have yb:k'<m1:=by omega
   obtain⟨x,WS⟩:=h2'.ex yb;obtain⟨b2,o2,rfl,Wa⟩:=Ff.at h2' WS;have mc:Af A b2 (o2+Int.toNat (k':Int)*2) [.I x.1,.U x.2]:=by simpa using Wa
   have go:∀u7,u7=(if qq x=true then(k':Int) else C)->Bb.Gt R (aD b o) j e t n.kind n.op n.text p k c n.width n.back n.Be q m d n.bool n.parts 0 0 none 0 0 0 none 0 0 2 0 p7 n7 c7 0 none 0 0 (i:Int) u7 (k':Int) A:=λu7 Vz=>by
    have:=ihk (k'+1) u7 (by omega) (by omega) (by rw[Vz];exact hL.step WS);rw[show((k'+1:Nat):Int)=(k':Int)+1 by omega]at this;exact Bb.FA ⟨by unfold AF;omega,this⟩
   have qx:qq x=(decide (t-n.back-300<x.1)&&decide (x.1<=t-n.back)):=rfl;refine Bb.Ii ⟨b,o,rfl,Ba,aD b2 o2,m1,d1,(G A BO).2.1,λ_=>⟨Ba,aD b2 o2,m1,d1,(G A BO).2.1,b2,o2,rfl,by unfold In;omega,x.1,mc.1,by unfold AF;omega,by unfold AF;omega,λfl=>⟨by unfold AF;omega,λW7=>go _ ?_,λW7=>go _ ?_⟩,λfl=>go _ ?_⟩,λhh=>by omega⟩
   .rw[qx,Amt fl,Amt W7];rfl
   .rw[qx,Ams W7,AoR,Amb (by decide)]
   .rw[qx,Ams fl,Anv,Amb (by decide)]
theorem jV {n:Nd}{p q l:Option Addr}{k c m d j e:Nat}{ss:List Sr}{t:Int}(hm:AT 3 KH Z p k n.mt)(hr:AT 2 Cd Z l j ss)(hS:SsD ss)(hN:ACc n)(hmv:∀x∈n.mt,x.val.size<=100000)(ht:-4611686018427387904<=t/\t<=4611686018427387904)
  (h:sE R Z ⟨3,0,[],n.width,QP FF n ss t⟩):Spec prog 68 #[Ka n p k c q m d,.slice l j e,.I t] Z R:=by
 have hl:ss.length=j:=hr.1;have IP:=hr.big;have hb:=hN.back;have hw:=hN.width;have hlen:=hS.len
 let G:Sr->List Int:=λs=>((Fe s.ps (t-n.back-n.width) (t-n.back)).filter λp=>decide (p.2≠HE)).map Prod.snd
 let f:Sr->Option Rg:=λs=>bif !(G s).isEmpty&&Gf n.mt s.ls then some ⟨s.ls,G s⟩ else none
 have hf:QP FF n ss t=ss.filterMap f:=rfl;rw[hf]at h;refine BN.start λ_ _ _=>?_
 suffices H:∀g i:Nat,∀p7 n7 c7 Z',j-i=g->i<=j->AL 2 Kq Z Z' p7 n7 c7 ((ss.take i).filterMap f)->BN.AR R l j e t n.kind n.op n.text p k c n.width n.back n.Be q m d n.bool n.parts 0 0 none 0 0 0 none 0 0 3 0 none 0 0 n.width p7 n7 c7 (i:Int) Z' from H j 0 none 0 0 Z rfl (Amh _) (AL.nil (.refl _))
 intro g
 induction g with
 | zero=>
  intro i p7 n7 c7 Z' mX hi ho;rw[Amj (by omega)]at ho;refine BN.AM ⟨λhh=>by omega,λ_=>?_⟩;exact h Z' none 0 0 p7 n7 c7 ho.up AT.nil (ho.rd Kq.mono) (Amr _)
 | succ g ih=>
  intro i p7 n7 c7 Z' mX hi ho;have BT:i<j:=by omega
  obtain⟨s,hs⟩:=hr.ex BT;obtain⟨b,o,p1,n1,c1,q1,m1,d1,rfl,Eg,h1,h2,h3⟩:=Cd.at hr hs;have Rp:=hS.sm s (Ame hs);have hpl:=hS.pl s (Ame hs);have hps:s.ps.length=m1:=h2.1;have hx:=ho.up;have hn7:n7<=i:=by
   have:=ho.1.1;have h9:=Am0 f (ss.take i);rw[Amp]at h9;omega
  have next:∀p8 n8 c8 A,AL 2 Kq Z A p8 n8 c8 ((ss.take i).filterMap f++(f s).toList)->BN.LJ R (aD b o) j e t n.kind n.op n.text p k c n.width n.back n.Be q m d n.bool n.parts 0 0 none 0 0 0 none 0 0 3 0 none 0 0 n.width p8 n8 c8 (i:Int) A:=λp8 n8 c8 A A7=>
   BN.M3 ⟨AI BT IP,by
    have:=ih (i+1) p8 n8 c8 A (by omega) (by omega) (by rw[Cn hs];exact A7);rw[show((i+1:Nat):Int)=(i:Int)+1 by omega]at this;exact this⟩
  have Ba:In (i:Int) (j:Int):=by unfold In;omega
  have ld1:∀A,Ext Z A->Af A b (o+Int.toNat (i:Int)*2) [.slice p1 n1 c1,.slice q1 m1 d1]:=λA h=>by simpa using Eg.mono h
  refine BN.AM ⟨λ_=>⟨b,o,rfl,Ba,p1,n1,c1,(ld1 Z' hx).1,cX (hm.mono KH.mono hx) (h1.mono A9.mono hx) hmv (λx hx=>by have:=(Rp.2 x hx).2;omega) λA Ao=>⟨_,rfl,λhfa=>next _ _ _ _ ?_,λhtr=>⟨Ba,p1,n1,c1,(ld1 A (hx.trans Ao)).1,λ_=>?_⟩⟩⟩,λhh=>by omega⟩
  .have ef:f s=none:=by
    show(bif !(G s).isEmpty&&Gf n.mt s.ls then some _ else none)=none
    rw[hfa,AoR];rfl
   rw[ef];simpa using ho.mono Kq.mono Ao
  have A7:=ho.mono Kq.mono Ao;have BO:=hx.trans Ao;have h2':=h2.mono Ff.mono BO
  let gv:Pt->Option Int:=λp=>if(t-n.back-n.width<p.1/\p.1<=t-n.back)/\p.2≠HE then some p.2 else none
  have hgv:∀l:List Pt,(((Fe l (t-n.back-n.width) (t-n.back)).filter λp=>decide (p.2≠HE)).map Prod.snd)=l.filterMap gv:=λl=>by
   unfold Fe;rw[List.filter_filter]
   induction l with
   | nil=>rfl
   | cons a l ih=>
    by_cases ha:(t-n.back-n.width<a.1/\a.1<=t-n.back)/\a.2≠HE
    .rw[AqK (by simpa[and_comm,and_assoc,and_left_comm] using ha),AnT,ih,AqG (show gv a=some a.2 from Amc ha)]
    .rw[AqL (by simpa[and_comm,and_assoc,and_left_comm] using ha),ih,AqH (show gv a=none from Amb ha)]
  have hfv:G s=s.ps.filterMap gv:=hgv s.ps
  suffices K:∀g' k':Nat,∀p9 n9 c9 Z3,m1-k'=g'->k'<=m1->AL 1 (Ms .u64) A Z3 p9 n9 c9 ((s.ps.take k').filterMap gv)->BN.Nv R (aD b o) j e t n.kind n.op n.text p k c n.width n.back n.Be q m d n.bool n.parts 0 0 none 0 0 0 none 0 0 3 0 none 0 0 n.width p7 n7 c7 (i:Int) p1 n1 c1 p9 n9 c9 (k':Int) Z3 from K m1 0 none 0 0 A rfl (Amh _) (AL.nil (.refl _))
  intro g'
  induction g' with
  | zero=>
   intro k' p9 n9 c9 Z3 xD DI C;rw[Amj (by omega),<-hfv]at C;have hlv:(G s).length=n9:=C.1.1;have MP:=BO.trans C.up;have Cm:=A7.mono Kq.mono C.up;refine BN.Ii ⟨b,o,rfl,Ba,q1,m1,d1,(ld1 Z3 MP).2.1,λhh=>by omega,λ_=>⟨λh0 b92 AdT=>?_,λh0=>next _ _ _ _ ?_⟩⟩
   .obtain⟨oY,hv2⟩:=A7.sep C;have he:Kq (Z3.del p7) [.slice p1 n1 c1,.slice p9 n9 c9] ⟨s.ls,G s⟩:=⟨p1,n1,c1,p9,n9,c9,rfl,h1.mono A9.mono Cm.2,oY,hv2⟩;refine AL.HI Kq.mono Cm rfl (Kq.one _ _ _ he) he (by omega) (λp' c' Z4 FE _=>⟨_,_,_,rfl,next _ _ _ _ ?_⟩) AdT;have ef:f s=some ⟨s.ls,G s⟩:=by
     show(bif !(G s).isEmpty&&Gf n.mt s.ls then some _ else none)=_
     rw[htr];cases hfe:G s with
     | nil=>rw[hfe]at hlv;simp at hlv;omega
     | cons a l=>rfl
    rw[ef];exact FE
   .have AOD:G s=[]:=AnS (by omega);have ef:f s=none:=by
     show(bif !(G s).isEmpty&&Gf n.mt s.ls then some _ else none)=none
     rw[AOD];rfl
    rw[ef];simpa using Cm
  | succ g' ihk=>
   intro k' p9 n9 c9 Z3 xD DI C;have yb:k'<m1:=by omega
   have MP:=BO.trans C.up;obtain⟨x,WS⟩:=h2'.ex yb;obtain⟨b2,o2,rfl,Wa⟩:=Ff.at (h2'.mono Ff.mono C.up) WS;have mc:Af Z3 b2 (o2+Int.toNat (k':Int)*2) [.I x.1,.U x.2]:=by simpa using Wa
   have hn9:n9<=k':=by
    have:=C.1.1;have h9:=Am0 gv (s.ps.take k');rw[Amp]at h9;omega
   have go:∀p' n' c' Z4,AL 1 (Ms .u64) A Z4 p' n' c' ((s.ps.take k').filterMap gv++(gv x).toList)->BN.Gt R (aD b o) j e t n.kind n.op n.text p k c n.width n.back n.Be q m d n.bool n.parts 0 0 none 0 0 0 none 0 0 3 0 none 0 0 n.width p7 n7 c7 (i:Int) p1 n1 c1 p' n' c' (k':Int) Z4:=λp' n' c' Z4 FE=>by
    have:=ihk (k'+1) p' n' c' Z4 (by omega) (by omega) (by rw[Cn WS];exact FE);rw[show((k'+1:Nat):Int)=(k':Int)+1 by omega]at this;exact BN.FA ⟨by unfold AF;omega,this⟩
   have no:¬((t-n.back-n.width<x.1/\x.1<=t-n.back)/\x.2≠HE)->BN.Gt R (aD b o) j e t n.kind n.op n.text p k c n.width n.back n.Be q m d n.bool n.parts 0 0 none 0 0 0 none 0 0 3 0 none 0 0 n.width p7 n7 c7 (i:Int) p1 n1 c1 p9 n9 c9 (k':Int) Z3:=λhh=>go _ _ _ _ (by rw[show gv x=none from Amb hh];simpa using C);refine BN.Ii ⟨b,o,rfl,Ba,aD b2 o2,m1,d1,(ld1 Z3 MP).2.1,λ_=>⟨Ba,aD b2 o2,m1,d1,(ld1 Z3 MP).2.1,b2,o2,rfl,by unfold In;omega,x.1,x.2,mc,λ_=>⟨by unfold AF;omega,by unfold AF;omega,λfl=>⟨by unfold AF;omega,λW7=>⟨λHG lE AdU=>?_,λHG=>no λhh=>HG hh.2⟩,λW7=>no λhh=>W7 hh.1.2⟩,λfl=>no λhh=>fl hh.1.1⟩⟩,λhh=>by omega⟩;refine AL.HI (vs:=[.U x.2]) (Ms.mono _) C rfl (λu hu=>by rw[Amo.1 hu];rfl) (x:=x.2) rfl (by omega) (λp' c' Z4 FE _=>⟨_,_,_,rfl,go _ _ _ _ ?_⟩) AdU;rw[show gv x=some x.2 from Amc ⟨⟨fl,W7⟩,HG⟩];exact FE
theorem sG {n:Nd}{x:S8}{pc pe:Option Addr}{nc cc ne ce:Nat}(h1:AT 2 Ad Z pc nc x.es)(h2:AT 2 Kq Z pe ne x.rs)(hes:x.es≠[]->n.op=11\/n.op=12)(hrs:x.rs≠[]->1<=n.op/\n.op<=10)(Rp:∀y∈x.es,Ac y.ls/\JI y.v)(hsr:∀r∈x.rs,Ac r.ls/\0<r.vs.length)(hlen:x.es.length+x.rs.length<=1000000000000)
  (h:sE R Z ⟨2,0,JW FF n ⟨x.kind,AY x.w,x.es,x.rs⟩,0,[]⟩):Spec prog 69 #[.I n.op,cR x.kind x.v pc nc cc x.w pe ne ce] Z R:=by
 have Rn:x.es.length=nc:=h1.1;have Wa:x.rs.length=ne:=h2.1
 let fe:El->El:=λy=>⟨Bg y.ls,if n.op=11 then Rc y.v else Hl y.v⟩
 let fr:Rg->Option El:=λs=>(Ey n.op s.vs (AY x.w)).map λv=>⟨Bg s.ls,v⟩
 have zF:JW FF n ⟨x.kind,AY x.w,x.es,x.rs⟩=x.es.map fe++x.rs.filterMap fr:=rfl;rw[zF]at h;refine Cq.start λ_ _ _=>?_;have second:∀(g i:Nat) p5 n5 c5 Z',ne-i=g->i<=ne->AL 2 Ad Z Z' p5 n5 c5 (x.es.map fe++(x.rs.take i).filterMap fr)->Cq.VD R n.op x.kind x.v pc nc cc x.w pe ne ce 0 0 none 0 0 0 none 0 0 2 0 p5 n5 c5 0 none 0 0 (i:Int) Z':=by
  intro g
  induction g with
  | zero=>
   intro i p5 n5 c5 Z' hg hi C;rw[Amj (by omega)]at C;exact Cq.Jd ⟨λhh=>by omega,λ_=>h Z' p5 n5 c5 none 0 0 C.up (C.rd Ad.mono) AT.nil (by obtain⟨cs,KI,_⟩:=C.1.2;exact Aw.cap KI)⟩
  | succ g ih=>
   intro i p5 n5 c5 Z' hg hi C;have BT:i<ne:=by omega
   obtain⟨s,hs⟩:=h2.ex BT;have ADm:=hsr s (Ame hs);have KS:=hrs λe=>by rw[e]at hs;simp at hs
   obtain⟨b,o,q1,m1,d1,q2,m2,d2,rfl,CH,Eg,dJ,hcp⟩:=Kq.at h2 hs;have hvl:s.vs.length=m2:=dJ.1;have hx:=C.up;have hn5:n5<=nc+i:=by
    have h3:=C.1.1;have h4:=Am0 fr (x.rs.take i);rw[Amv,Amw]at h3;rw[Amp]at h4;omega
   have Ba:In (i:Int) (ne:Int):=by unfold In;omega
   have G:∀A,Ext Z A->Af A b (o+Int.toNat (i:Int)*2) [.slice q1 m1 d1,.slice q2 m2 d2]:=λA h=>by simpa using CH.mono h
   have next:∀p6 n6 c6 A,AL 2 Ad Z A p6 n6 c6 (x.es.map fe++(x.rs.take i).filterMap fr++(fr s).toList)->Cq.LX R n.op x.kind x.v pc nc cc x.w (aD b o) ne ce 0 0 none 0 0 0 none 0 0 2 0 p6 n6 c6 0 none 0 0 (i:Int) A:=λp6 n6 c6 A A7=>by
    have:=ih (i+1) p6 n6 c6 A (by omega) (by omega) (by rw[Cn hs,<-AnO];exact A7);rw[show((i+1:Nat):Int)=(i:Int)+1 by omega]at this;exact Cq.Jf ⟨by unfold AF;omega,this⟩
   refine Cq.Jd ⟨λ_=>⟨b,o,rfl,Ba,q2,m2,d2,(G Z' hx).2.1,sD KS (dJ.mono hx) (by omega) hcp λz ok A hz Ao=>⟨_,_,rfl,λDZ=>?_,λDZ=>next _ _ _ _ ?_⟩⟩,λhh=>by omega⟩
   .have hX:=hx.trans Ao;have A7:=C.mono Ad.mono Ao;have rF:Ey n.op s.vs (AY x.w)=some z:=by
     rcases hz with ⟨h1,_⟩|⟨_,h1⟩
     .exact h1
     .rw[h1]at DZ;cases DZ
    refine⟨Ba,q1,m1,d1,(G A hX).1,Ic (Eg.mono A9.mono hX) (by have h3:s.ls.length=m1:=Eg.1;have:=ADm.1.1;omega) λp' n' c' Z3 Ss BO=>⟨_,_,_,rfl,λb81 AdW=>?_⟩⟩;have Cm:=A7.mono Ad.mono BO;refine AL.eld Cm (Ss.mono A9.mono (A7.new BO)) (by omega) (λp6 c6 Z4 FE _=>⟨_,_,_,rfl,next _ _ _ _ ?_⟩) AdW;rw[show fr s=some ⟨Bg s.ls,z⟩ by show(Ey n.op s.vs (AY x.w)).map _=_;rw[rF];rfl];exact FE
   .have rF:Ey n.op s.vs (AY x.w)=none:=by
     rcases hz with ⟨_,h1⟩|⟨h1,_⟩
     .rw[h1]at DZ;cases DZ
     .exact h1
    rw[show fr s=none by show(Ey n.op s.vs (AY x.w)).map _=_;rw[rF];rfl];simpa using C.mono Ad.mono Ao
 suffices H:∀g i:Nat,∀p5 n5 c5 Z',nc-i=g->i<=nc->AL 2 Ad Z Z' p5 n5 c5 ((x.es.take i).map fe)->Cq.AR R n.op x.kind x.v pc nc cc x.w pe ne ce 0 0 none 0 0 0 none 0 0 2 0 p5 n5 c5 0 none 0 0 (i:Int) Z' from H nc 0 none 0 0 Z rfl (Amh _) (AL.nil (.refl _))
 intro g
 induction g with
 | zero=>
  intro i p5 n5 c5 Z' hg hi C;rw[Amj (by omega)]at C;exact Cq.AM ⟨λhh=>by omega,λ_=>second ne 0 p5 n5 c5 Z' rfl (Amh _) (by simpa using C)⟩
 | succ g ih=>
  intro i p5 n5 c5 Z' hg hi C;have BT:i<nc:=by omega
  obtain⟨y,hy⟩:=h1.ex BT;have hym:=Rp y (Ame hy);have KS:=hes λe=>by rw[e]at hy;simp at hy
  obtain⟨b,o,q1,m1,d1,rfl,CH,Eg⟩:=Ad.at h1 hy;have hx:=C.up;have hn5:n5<=i:=by
   have h3:=C.1.1;rw[Amw,Amp]at h3;omega
  have Ba:In (i:Int) (nc:Int):=by unfold In;omega
  have G:∀A,Ext Z A->Af A b (o+Int.toNat (i:Int)*2) [.slice q1 m1 d1,.U y.v]:=λA h=>by simpa using CH.mono h
  have fin:∀v A,Ext Z' A->v=(if n.op=11 then Rc y.v else Hl y.v)->Cq.AFk R n.op x.kind x.v (aD b o) nc cc x.w pe ne ce 0 0 none 0 0 0 none 0 0 2 0 p5 n5 c5 0 none 0 0 (i:Int) v A:=λv A Ao hv=>by
   have hX:=hx.trans Ao;have A7:=C.mono Ad.mono Ao;refine Cq.AFl ⟨b,o,rfl,Ba,q1,m1,d1,(G A hX).1,Ic (Eg.mono A9.mono hX) (by have h3:y.ls.length=m1:=Eg.1;have:=hym.1.1;omega) λp' n' c' Z3 Ss BO=>⟨_,_,_,rfl,λk8 AdX=>?_⟩⟩;have Cm:=A7.mono Ad.mono BO;refine AL.eld Cm (Ss.mono A9.mono (A7.new BO)) (by omega) (λp6 c6 Z4 FE _=>⟨_,_,_,rfl,by unfold AF;omega,?_⟩) AdX;have:=ih (i+1) p6 (n5+1) c6 Z4 (by omega) (by omega) (by
    rw[AQ hy,Am7];show AL 2 Ad Z Z4 p6 (n5+1) c6 ((x.es.take i).map fe++[⟨Bg y.ls,if n.op=11 then Rc y.v else Hl y.v⟩])
    rw[<-hv];exact FE)
   rw[show((i+1:Nat):Int)=(i:Int)+1 by omega]at this;exact this
  refine Cq.AM ⟨λ_=>⟨b,o,rfl,Ba,y.v,(G Z' hx).2.1,xh hym.2.1 hym.2.2 ⟨_,rfl,λKR=>⟨Ba,y.v,(G Z' hx).2.1,nP ⟨_,rfl,fin _ Z' (.refl _) ?_⟩⟩,λKR=>fin _ Z' (.refl _) ?_⟩⟩,λhh=>by omega⟩
  .rw[Amb (by omega)]
  .rw[Amc (by omega)]
theorem xr {x:S8}{pc pe:Option Addr}{C cc ne ce:Nat}(h1:AT 2 Ad Z pc C x.es)(hv:x.kind=1->JI x.v)(Rp:∀y∈x.es,Ac y.ls/\JI y.v)(hlen:x.es.length<=1000000000000)
  (h:sE R Z (if x.kind=1 then⟨1,QW x.v,[],0,[]⟩ else⟨2,0,x.es.map λy=>⟨Bg y.ls,QW y.v⟩,0,[]⟩)):Spec prog 71 #[cR x.kind x.v pc C cc x.w pe ne ce] Z R:=by
 have Rn:x.es.length=C:=h1.1;refine ME.start λ_ _=>⟨λhk=>UJ (hv hk).1 (hv hk).2 ⟨_,rfl,?_⟩,λhk _=>?_⟩
 .rw[Amc hk]at h;exact h Z none 0 0 none 0 0 (.refl _) AT.nil AT.nil (Amr _)
 rw[Amb hk]at h
 suffices H:∀g i:Nat,∀p3 n3 c3 Z',C-i=g->i<=C->AL 2 Ad Z Z' p3 n3 c3 ((x.es.take i).map λy=>⟨Bg y.ls,QW y.v⟩)->ME.kv R x.kind x.v pc C cc x.w pe ne ce 0 0 none 0 0 0 none 0 0 2 0 p3 n3 c3 0 none 0 0 (i:Int) Z' from H C 0 none 0 0 Z rfl (Amh _) (AL.nil (.refl _))
 intro g
 induction g with
 | zero=>
  intro i p3 n3 c3 Z' hg hi A;rw[Amj (by omega)]at A;exact ME.XO ⟨λhh=>by omega,λ_=>h Z' p3 n3 c3 none 0 0 A.up (A.rd Ad.mono) AT.nil (by obtain⟨cs,KI,_⟩:=A.1.2;exact Aw.cap KI)⟩
 | succ g ih=>
  intro i p3 n3 c3 Z' hg hi A;have BT:i<C:=by omega
  obtain⟨y,hy⟩:=h1.ex BT;have G:=Rp y (Ame hy);obtain⟨b,o,q1,m1,d1,rfl,CH,Eg⟩:=Ad.at h1 hy;have hx:=A.up;have hn3:n3<=i:=by
   have h3:=A.1.1;rw[Amw,Amp]at h3;omega
  have Ba:In (i:Int) (C:Int):=by unfold In;omega
  have ld1:Af Z' b (o+Int.toNat (i:Int)*2) [.slice q1 m1 d1,.U y.v]:=by simpa using CH.mono hx
  refine ME.XO ⟨λ_=>⟨b,o,rfl,Ba,q1,m1,d1,ld1.1,Ba,y.v,ld1.2.1,Ic (Eg.mono A9.mono hx) (by have h3:y.ls.length=m1:=Eg.1;have:=G.1.1;omega) λp' n' c' Z3 Ss BO=>⟨_,_,_,rfl,.H9 BO,UJ G.2.1 G.2.2 ⟨_,rfl,λb37 AdY=>?_⟩⟩⟩,λhh=>by omega⟩;have Cm:=A.mono Ad.mono BO;refine AL.eld Cm (Ss.mono A9.mono (A.new BO)) (by omega) (λp6 c6 Z4 FE _=>⟨_,_,_,rfl,by unfold AF;omega,?_⟩) AdY;have:=ih (i+1) p6 (n3+1) c6 Z4 (by omega) (by omega) (by rw[AQ hy,Am7];exact FE);rw[show((i+1:Nat):Int)=(i:Int)+1 by omega]at this;exact this
end
end TwW
end
