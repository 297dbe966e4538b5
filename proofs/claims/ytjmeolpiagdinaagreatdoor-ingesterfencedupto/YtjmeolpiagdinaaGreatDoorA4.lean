/-
  Part 4 of the proof that the law IngesterFencedUptoCardSaid of the given program answers true for every input of the given statement; the input reads behind the call as it did. (The texts: packed from 28 texts. Names are shortened by the packing program, for the bound on size.)
-/
import Derived.Test.YtjmeolpiagdinaaGreatDoorA3
import Derived.Shelf.Strings.Builder1
import Derived.Shelf.Strings.Builder2
import Derived.Shelf.Small.Bits
import Derived.Shelf.Small.Wraps
import Derived.Shelf.Strings.BuilderF
import Derived.Shelf.Strings.BuilderK
import Derived.Shelf.Strings.Builder2Cap
import Derived.Shelf.Strconv.Atoi
import Derived.Shelf.Strconv.Itoa0
import Derived.Shelf.Strconv.Itoa1
import Derived.Shelf.LaysM
import Derived.Shelf.Strconv.Itoa2
import Derived.Shelf.Strconv.Itoa3
import Derived.Shelf.Strconv.AtoiErrFast
import Derived.Shelf.Strconv.ParseIntEmpty
import Derived.Shelf.Strconv.AtoiFail
import Derived.Shelf.Strconv.Clone
import Derived.Shelf.Strconv.SyntaxError
import Derived.Shelf.LaysC
import Derived.Shelf.Strconv.ToError
import Derived.Shelf.Strconv.AtoiErr
import Derived.Shelf.Strconv.Lower
import Derived.Shelf.Strconv.ParseUint10
import Derived.Shelf.Strconv.ParseUint10Empty
import Derived.Shelf.Strconv.ParseUint10Any
import Derived.Shelf.Strconv.ParseInt10
import Derived.Shelf.Strconv.RangeError
import Derived.Shelf.Strconv.ToErrorRange
import Derived.Shelf.Strconv.ParseUintEmpty
import Derived.Shelf.Strconv.ParseUint10b64
import Derived.Shelf.Strconv.ParseUint10b32
import Derived.Shelf.Strconv.ParseUint10b16
import Derived.Shelf.Strconv.ParseUint10b8
import Derived.Shelf.Strconv.ParseUint10At
import Derived.Shelf.Strconv.ParseInt10At64
import Derived.Shelf.Strconv.ParseInt10At32
import Derived.Shelf.Strconv.ParseInt10At16
import Derived.Shelf.Strconv.ParseInt10At8
import Derived.Shelf.Sort.Plain
import Derived.Shelf.Strings.Prefix
import Derived.Shelf.Bits.Mul64
import Derived.Shelf.Strings.Repeat
import Derived.Shelf.Strings.BuilderCap
import Derived.Shelf.Slices.Turned
import Derived.Ground.Names2Prog
import Derived.Shelf.Slices.CompactI
import Derived.Shelf.Slices.SearchI
import Derived.Shelf.Slices.Cells
import Derived.Shelf.Slices.In.SortNone
import Derived.Shelf.Bytes.SlSearch0
import Derived.Shelf.Bytes.SlEqualAll
import Derived.Shelf.Bytes.Small
import Derived.Laws.FloatBits
import Derived.Lib.SmallJoins
import Derived.Lib.ItoaLen
import Derived.Lib.ItoaMem
import Derived.WalkKit
import Derived.Defers
import Derived.Recover
set_option linter.all false
section
namespace TwW
open Go Tw Go.RowKit Go.Proofs.Tryz
section
variable {O2 O'2 Z22:Hp}{b:Nat}{vs:List Value}{T:TypeId}{L:List Int}{R:Rr}
theorem JK.alloc {b7:Nat}{o:Obj}(h:JK O2 Z22 b vs T L)(h7:Z22 b7=none):JK (O2.set b7 o) (Z22.set b7 o) b vs T L:=by
 obtain⟨p,c,hb,ho,hp⟩:=h.at_;have AR:b≠b7:=λe=>by rw[<-e,hb]at h7;cases h7
 have hq:∀a,p=some a->a.block≠b7:=λa A e=>Own.block ho a A (by rw[e];exact h7);refine⟨⟨p,c,by rw[Hp.AB AR];exact hb,Own.here ho λa A=>Hp.AB (hq a A),λa A=>⟨(hp a A).1,by rw[Hp.AB (hq a A)];exact(hp a A).2⟩⟩,λk v G=>?_,by rw[Hp.AB AR];exact h.new⟩;by_cases e:k=b7
 .subst e;rw[Hp.AA]at G ⊢;exact G
 .rw[Hp.AB e]at G ⊢;exact h.ext _ _ G
theorem JK.JL (h:JK O'2 Z22 b vs T L)(A:Ext O2 O'2):JK O2 Z22 b vs T L:=by
 obtain⟨p,c,hb,ho,hp⟩:=h.at_;exact⟨⟨p,c,hb,ho,λa G=>⟨(hp a G).1,AT A (hp a G).2⟩⟩,A.trans h.ext,AT A h.new⟩
theorem JK.ALe {s:ByteArray}{G:Hp->Prop}{ty:TypeId}(h:JK O2 Z22 b vs T L)(hl:L.length+s.size<=140737488355328)(hG:∀Z'2,JK O2 Z'2 b vs T (L++Rh s)->G Z'2):
  ∃p c,Hp.ld Z22 ⟨b,0,none⟩=some (.slice p L.length c)/\AH prog (Builtin.append_ #[79,9] ty #[.slice p L.length c,.string s]) Z22 (CS λp' n' c' y=>AH prog (Instr.storeAt 79 (.pointer (aD b 0)) (.slice p' n' c')) y (λ_=>G)):=by
 obtain⟨p,c,hb,ho,hp⟩:=h.at_;refine⟨p,c,AD hb rfl,lh underlying9 ho rfl dm (by omega) λp' c' y A E4 _=>⟨p',L.length+s.size,c',rfl,?_⟩⟩;have e1:L.length+s.size=(L++Rh s).length:=by rw[Aet,Bb]
 rw[e1]at A ⊢;rw[<-AfF]at A;exact JK.put h hb hp A E4 hG
theorem AFe {b7:Nat}{x:Int}{A:TypeId}(h:Z22 b7=some (.cells #[.I x] A (0,0))):Be .i64 Z22 (aD b7 0) 1 [x]:=.KO ⟨rfl,by decide,.inr ⟨b7,0,rfl,Bm.of_cells (c:=[.I x]) h⟩⟩
theorem Pj {v:Nat}{b7:Nat}(h:EB O2 Z22 b L)(G:Z22 b7=none)(hv:v<9223372036854775808)(hl:L.length<=700000000000)(hR:∀Z'2,EB O2 Z'2 b (L++uv v)->R (.T #[]) Z'2):Spec prog 122 #[.pointer (aD b 0),.slice (aD b7 0) 1 1] (Z22.set b7 (.cells #[.I (v:Int)] 3 (0,0))) R:=by
 have h1:=h.alloc (o:=.cells #[.I (v:Int)] 3 (0,0)) G;have t7:O2 b7=none:=AT h.ext G;refine Nw h1 (AFe (Hp.AA _ _ _)) (λx hx=>by rw[Aev.1 hx];omega) (by decide) (by omega) λZ'2 A=>hR Z'2 ?_;have e:qq [(v:Int)]=uv v:=by simp[qq]
 rw[e] at A;exact A.JL (Ext.set t7)
theorem U7 {s:ByteArray}(h:EB O2 Z22 b L)(hs:s.size<=4611686018427387904)(bR:s.size<=100000000000)(hl:L.length<=600000000000)(hR:∀Z'2,EB O2 Z'2 b (L++uv s.size++Rh s)->R (.T #[]) Z'2):Spec prog 123 #[.pointer (aD b 0),.string s] Z22 R:=by
 have h10:=Ai (x:=s.size) (by omega);refine Iy.start λb7 h7=>Pj h h7 (by omega) (by omega) λA h1=>⟨rfl,b,0,rfl,?_⟩;obtain⟨p,c,k1,k2⟩:=h1.ALe (s:=s) (ty:=79) (G:=R (.T #[])) (by rw[Aet];omega) hR;exact⟨p,_,c,k1,k2⟩
end
structure I4 (ss:List Sr):Prop where
 ne:ss≠[]
 n:ss.length<=1024
 ls:∀s∈ss,Pe s.ls=0
 ps:∀s∈ss,s.ps≠[]/\jZ s.ps
 up:∀(i:Nat) (a b:Sr),ss[i]?=some a->ss[i+1]?=some b->BN a.ls b.ls<0
section
variable {Z22:Hp}{R:Rr}
theorem dz {p:Option Addr}{n c:Nat}{ss:List Sr}(hr:BB 2 CW Z22 p n ss)(hb:I4 ss)(hR:∀Z'2,Ext Z22 Z'2->R (.returned (.I 0)) Z'2):Spec prog 120 #[.slice p n c] Z22 R:=by
 have hn:ss.length=n:=hr.1;have h1:=hb.n;have h0:n≠0:=λe=>hb.ne (Ae6 (hn.trans e))
 suffices H:∀(d i:Nat) (Z'2:Hp),n-i=d->i<=n->Ext Z22 Z'2->CY.Ui R p n c p n c (n:Int) (i:Int) Z'2 from CY.start ⟨λG=>by omega,λ_=>⟨λG=>by omega,λ_=>H n 0 Z22 rfl (AfI _) (.refl _)⟩⟩
 intro d
 induction d with
 | zero=>intro i Z'2 hd hi hx;exact CY.QM ⟨λG=>by omega,λ_=>hR Z'2 hx⟩
 | succ d ih=>
  intro i Z'2 hd hi hx;have IN:i<n:=by omega
  obtain⟨s,hs⟩:=hr.ex IN;have KJ:=Ae2 hs;obtain⟨b,o,p1,n1,c1,q1,A,d1,rfl,Dt,I2,U6,Xf⟩:=CW.at hr hs;have eA:s.ps.length=A:=U6.1;obtain⟨g1,g2⟩:=hb.ps s KJ;have g3:=g2.n;have gR:A≠0:=λe=>g1 (Ae6 (eA.trans e));have pts:∀Z222,Ext Z22 Z222->CY.di R (aD b o) n c p1 n1 c1 q1 A d1 (aD b o) n c (n:Int) (i:Int) q1 A d1 (A:Int) 0 Z222:=λZ222 BD=>by
   suffices H:∀(e k:Nat),A-k=e->k<=A->CY.di R (aD b o) n c p1 n1 c1 q1 A d1 (aD b o) n c (n:Int) (i:Int) q1 A d1 (A:Int) (k:Int) Z222 from H A 0 rfl (AfI _)
   have Ta:=U6.mono Bp.mono BD;intro e
   induction e with
   | zero=>
    intro k he hk;have:=ih (i+1) Z222 (by omega) (by omega) BD;rw[show((i+1:Nat):Int)=(i:Int)+1 by omega]at this;exact CY.lZ ⟨λG=>by omega,λ_=>⟨by unfold AK;omega,this⟩⟩
   | succ e ihe=>
    intro k he hk;have JO:k<A:=by omega
    obtain⟨x,Ri⟩:=Ta.ex JO;obtain⟨b2,o2,rfl,ja⟩:=Bp.at Ta Ri;obtain⟨t1,t2⟩:=g2.t x (Ae2 Ri);have next:=ihe (k+1) (by omega) (by omega)
    rw[show((k+1:Nat):Int)=(k:Int)+1 by omega]at next
    have hI:AK ((k:Int)+1):=by unfold AK;omega
    refine CY.lZ ⟨λ_=>⟨b2,o2,rfl,by unfold In;omega,x.1,x.2,by simpa using ja,λ_=>⟨λG=>by omega,λ_=>⟨λG=>by omega,λ_=>⟨λWY=>?_,λ_=>⟨hI,next⟩⟩⟩⟩⟩,λG=>by omega⟩;obtain⟨j,rfl⟩:∃j,k=j+1:=⟨k-1,by omega⟩;obtain⟨y,hy⟩:=Ta.ex (show j<A by omega);obtain⟨b3,o3,e3,AFf⟩:=Bp.at Ta hy;cases e3;have CA:=g2.up j y x hy Ri;have oz:((j+1:Nat):Int)-1=(j:Int):=by omega
    rw[oz];exact⟨by unfold AK;omega,b2,o2,rfl,by unfold In;omega,y.1,by simpa using AFf.1,λG=>by omega,λ_=>⟨hI,next⟩⟩
  have rest:∀Z222,Ext Z22 Z222->Br ((A:Int)=0) (R (.returned (.I 90)) Z222) (Br (8191<(A:Int)) (R (.returned (.I 90)) Z222) (CY.di R (aD b o) n c p1 n1 c1 q1 A d1 (aD b o) n c (n:Int) (i:Int) q1 A d1 (A:Int) 0 Z222)):=λZ222 BD=>⟨λG=>by omega,λ_=>⟨λG=>by omega,λ_=>pts Z222 BD⟩⟩;refine CY.QM ⟨λ_=>⟨b,o,rfl,by unfold In;omega,p1,n1,c1,q1,A,d1,by simpa using Dt.mono hx,λ_=>FR (I2.mono Eh.mono hx) ⟨_,rfl,λG=>absurd (hb.ls s KJ) G,λ_=>⟨λh0=>?_,λ_=>rest Z'2 hx⟩⟩⟩,λG=>by omega⟩;obtain⟨j,rfl⟩:∃j,i=j+1:=⟨i-1,by omega⟩;obtain⟨a,ha⟩:=hr.ex (show j<n by omega);obtain⟨b3,o3,p3,n3,c3,q3,m3,d3,e3,AFf,ASQ,_,_⟩:=CW.at hr ha;cases e3;have CA:=hb.up j a s ha hs;have oz:((j+1:Nat):Int)-1=(j:Int):=by omega
  rw[oz];exact⟨by unfold AK;omega,b,o,rfl,by unfold In;omega,p3,n3,c3,by simpa using(AFf.mono hx).1,Jv (ASQ.mono Eh.mono hx) (I2.mono Eh.mono hx) λZ222 BD=>⟨_,rfl,λG=>by omega,λ_=>rest Z222 (hx.trans BD)⟩⟩
end
def eC:Option ByteArray->List ByteArray->List ByteArray
 | _,[]=>[]
 | pv,x::l=>if pv=some x then eC (some x) l else x::eC (some x) l
theorem eD (x:ByteArray):∀(l:List ByteArray) (pv:Option ByteArray),eC pv (l++[x])=eC pv l++if(l.getLast?.or pv)=some x then[] else[x]
 | [],pv=>by
  rw[AgG,eC];show(if pv=some x then eC (some x) [] else x::eC (some x) [])=eC pv []++if pv=some x then[] else[x]
  split<;>rfl
 | y::l,pv=>by
  have e:(y::l).getLast?.or pv=l.getLast?.or (some y):=by
   cases l with
   | nil=>rfl
   | cons z l=>rw[List.getLast?_cons_cons];cases h:(z::l).getLast? with
    | none=>simp at h
    | some u=>rfl
  rw[Af3,eC,eC,eD x l (some y),e];split<;>rfl
abbrev mC (l:List ByteArray):List ByteArray:=eC none l
theorem mD:∀(l:List ByteArray) (pv:Option ByteArray),(eC pv l).length<=l.length
 | [],_=>Ae1 _
 | x::l,pv=>by
  rw[eC];have:=mD l (some x);split<;>simp only[Aez]<;>omega
theorem eE {xs:List ByteArray}{k:Nat}{x y:ByteArray}(G:xs[k]?=some y)(A:xs[k+1]?=some x):mC (xs.take (k+2))=mC (xs.take (k+1))++if y=x then[] else[x]:=by
 rw[AL A];unfold mC;rw[eD];have:(xs.take (k+1)).getLast?=some y:=by rw[AL G,Ahp];rfl
 rw[this];simp only[Option.some_or,AfL]
theorem AAK:∀z w,(zeroValue 9).run prog w=.ok z w->Ej z.cells.toList:=λz w h=>by
 rw[show(zeroValue 9).run prog w=_ from Go.Proofs.Tryz.zeroValue9 w]at h;cases h;intro u A;simp[Value.cells]at A;subst A;rfl
theorem AAL:∀w,(Go.sizeOf 9).run prog w=.ok 1 w:=λw=>by kernel_rfl
section
variable {Z22:Hp}{R:Rr}
theorem Nx {p:Option Addr}{n c:Nat}{xs:List ByteArray}(ho:Own 1 Z22 p n c (xs.map .string))(hl:xs.length=n)(hn:n<=1000000000)
  (h:∀Z'2 m,Own 1 Z'2 p m c ((mC xs).map .string)->(mC xs).length=m->m<=n->Ext (Z22.del p) (Z'2.del p)->R (.returned (.slice p m c)) Z'2):Spec prog 97 #[.slice p n c] Z22 R:=by
 have gt:∀{O2:Hp} {zs:List ByteArray} {k:Nat} {x:ByteArray},Own 1 O2 p n c (zs.map .string)->zs[k]?=some x->∃b o,p=some ⟨b,o,none⟩/\Hp.ld O2 ⟨b,o+k*1,none⟩=some (.string x):=λho hx=>Kt.at1 ho.rd (by rw[AfZ,hx];rfl);have done:∀zs:List ByteArray,mC zs=zs->zs=xs->R (.returned (.slice p n c)) Z22:=λzs h1 h2=>h Z22 n (by rw[<-h2,h1,h2];exact ho) (by rw[<-h2,h1,h2];exact hl) (Ae1 _) (Ext.refl _);refine slices_Compact_string.start ⟨λAq=>done xs ?_ rfl,λIb=>?_⟩
 .cases xs with
  | nil=>rfl
  | cons x xs=>
   cases xs with
   | nil=>rfl
   | cons y xs=>simp only[Aez]at hl;omega
 have ex:∀k,k<n->∃x,xs[k]?=some x:=λk hk=>⟨_,Ae3 (by omega)⟩
 suffices H:∀d k:Nat,n-(k+1)=d->k+1<=n->mC (xs.take (k+1))=xs.take (k+1)->slices_Compact_string.BM R p n c ((k+1:Nat):Int) Z22 from H (n-1) 0 rfl (by omega) (by
  obtain⟨x,hx⟩:=ex 0 (by omega);rw[AL hx];rfl)
 intro d
 induction d with
 | zero=>
  intro k hd hk A;exact slices_Compact_string.Bg ⟨λAq=>by omega,λ_=>done _ A (Ae7 (by omega))⟩
 | succ d ih=>
  intro k hd hk A;have JO:k+1<n:=by omega
  obtain⟨x,hx⟩:=ex (k+1) JO;obtain⟨y,hy⟩:=ex k (by omega);obtain⟨b,o,hp,ov⟩:=gt ho hx;obtain⟨b',o',he,hly⟩:=gt ho hy;rw[hp]at he;cases he;have hs:=eE hy hx;have e1:((k+1:Nat):Int)-1=(k:Int):=by omega
  refine slices_Compact_string.Bg ⟨λAq=>?_,λIb=>by omega⟩;rw[e1];refine⟨b,o,hp,by unfold In;omega,x,by rw[AfR];exact ov,by unfold AK;omega,by unfold In;omega,y,by rw[AfR];exact hly,λG=>⟨by omega,?_⟩,λAR=>⟨by unfold AK;omega,?_⟩⟩
  rotate_left
  .have Ic:¬y=x:=λe=>by rw[e,eqS,Afz rfl]at AR;cases AR
   rw[NW hp];have:=ih (k+1) (by omega) (by omega) (by rw[hs,Aeu Ic,A,AL hx]);rw[show((k+1+1:Nat):Int)=((k+1:Nat):Int)+1 by omega]at this;exact this
  have Ic:y=x:=by
   rw[eqS,AfQ]at G;exact G.symm
  rw[NW hp,AfR];have U8:n<=c:=ho.room.1;generalize hK:k+1=K at *
  suffices H2:∀d2 i j:Nat,∀Z'2 (zs:List ByteArray),n-i=d2->i<=n->j<i->K<i->Own 1 Z'2 p n c (zs.map .string)->zs.length=n->Ext (Z22.del p) (Z'2.del p)->(∀a,i<=a+1->zs[a]?=xs[a]?)->zs.take j=mC (xs.take i)->(mC (xs.take i)).length=j->
    slices_Compact_string.iq R p n c (j:Int) (ET p K c 1) (n-K) (c-K) ((i-K:Nat):Int) Z'2 by
   have:=H2 (n-(K+1)) (K+1) K Z22 xs rfl (by omega) (by omega) (by omega) ho hl (Ext.refl _) (λ_ _=>rfl) (by rw[<-hK]at hs A ⊢;rw[hs,Aex Ic,AfG,A]) (by rw[<-hK]at hs A ⊢;rw[hs,Aex Ic,AfG,A,AfE];omega);rw[show((K+1-K:Nat):Int)=1 by omega]at this;exact this
  intro d2
  induction d2 with
  | zero=>
   intro i j Z'2 zs WC Fy gm hki Bu hzl jb qs hz hj;have ASS:i=n:=by omega
   subst ASS;have e5:xs.take i=xs:=Ae7 (by omega);rw[e5]at hz hj;refine slices_Compact_string.Ti ⟨λAq=>by omega,λ_=>⟨by omega,?_⟩⟩;rw[AfR];obtain⟨_,L,hC,hL⟩:=Bu.room;refine Wt (s:=1) (j:=j) (n:=i-j) (L:=L) hC (by omega) AAK λZ222 ws hws hC2 BD=>⟨by omega,?_⟩;refine h Z222 j ?_ hj (by omega) (jb.trans BD);have:=hC2.own (n:=j) (by omega) (by omega);have hLl:L.length=c*1:=hC.1
   suffices he:List.take (j*1) (over L (j*1) ws)=(mC xs).map .string by rw[<-he];exact this
   unfold over;rw[Aew,AgE (by simp;omega),Agf,Nat.min_self,<-hz,Ah9,<-hL,Agf,Afa,Afa,AgS (by omega)]
  | succ d2 ih2=>
   intro i j Z'2 zs WC Fy gm hki Bu hzl jb qs hz hj;have IN:i<n:=by omega
   obtain⟨u,huo⟩:=ex i IN;obtain⟨v,hvo⟩:=ex (i-1) (by omega);have hu:zs[i]?=some u:=by rw[qs i (by omega)];exact huo
   have hv:zs[i-1]?=some v:=by rw[qs (i-1) (by omega)];exact hvo
   obtain⟨b1,o1,he1,fz⟩:=gt Bu hu;obtain⟨b2,o2,he2,Rl⟩:=gt Bu hv;rw[hp]at he1 he2;cases he1;cases he2;have qt:ET p K c 1=some ⟨b,o+K,none⟩:=by rw[hp];simp[ET,show c≠K by omega,bj]
   have e1:o+K+(i-K)=o+i:=by omega
   have e2:((i-K:Nat):Int)-1=((i-1-K:Nat):Int):=by omega
   have e3:o+K+(i-1-K)=o+(i-1):=by omega
   have hlu:Hp.ld Z'2 ⟨b,o+K+Int.toNat ((i-K:Nat):Int)*1,none⟩=some (.string u):=by
    rw[AfR,Afa,e1];simpa using fz
   have hlv:Hp.ld Z'2 ⟨b,o+K+Int.toNat (((i-K:Nat):Int)-1)*1,none⟩=some (.string v):=by
    rw[e2,AfR,Afa,e3];simpa using Rl
   have HZ:mC (xs.take (i+1))=mC (xs.take i)++if v=u then[] else[u]:=by
    obtain⟨i',rfl⟩:∃i',i=i'+1:=⟨i-1,by omega⟩;exact eE hvo huo
   have e4:((i+1-K:Nat):Int)=((i-K:Nat):Int)+1:=by omega
   refine slices_Compact_string.Ti ⟨λAq=>⟨b,o+K,qt,by unfold In;omega,u,hlu,by unfold AK;omega,by unfold In;omega,v,hlv,λAR=>⟨by unfold In;omega,u,hlu,b,o,hp,by unfold In;omega,?_⟩,λG=>slices_Compact_string.QK ⟨by unfold AK;omega,?_⟩⟩,λIb=>by omega⟩
   .have hvu:¬v=u:=λe=>by rw[e,eqS,Afz rfl]at AR;cases AR
    rw[Aeu hvu]at HZ;rw[AfR,Afa];rw[hp]at Bu;refine Own.aG Bu (j:=j) (by omega) AAL rfl rfl λobj uW=>⟨by unfold AK;omega,slices_Compact_string.QK ⟨by unfold AK;omega,?_⟩⟩;rw[<-hp]at uW;rw[NW hp,NW qt];have BD:Ext (Z'2.del p) ((Z'2.set b obj).del p):=by rw[hp,Hp.Dd];exact Ext.refl _
    have hm:(zs.map Value.string).set j (.string u)=(zs.set j u).map .string:=by rw[Ahm]
    rw[hm]at uW;have:=ih2 (i+1) (j+1) _ (zs.set j u) (by omega) (by omega) (by omega) (by omega) uW (by rw[Af2];exact hzl) (jb.trans BD) (λa ha=>by rw[List.getElem?_set_ne (by omega)];exact qs a (by omega)) (by
     rw[HZ,<-hz];have huj:(zs.set j u)[j]?=some u:=Ahc (by omega);rw[AL huj,List.take_set_of_le (Ae1 _)]) (by rw[HZ,Aet,hj];rfl)
    rw[e4,show((j+1:Nat):Int)=(j:Int)+1 by omega]at this;exact this
   .have hvu:v=u:=by rw[eqS,AfQ]at G;exact G.symm
    rw[Aex hvu,AfG]at HZ;rw[NW qt];have:=ih2 (i+1) j Z'2 zs (by omega) (by omega) (by omega) (by omega) Bu hzl jb (λa ha=>qs a (by omega)) (by rw[HZ];exact hz) (by rw[HZ];exact hj);rw[e4]at this;exact this
end
end TwW
end
section
namespace TwW
open Go Tw Go.Proofs.Tryz
theorem AFg:∀w,(zeroValue 157).run prog w=.ok (.pointer none) w:=λw=>by
 have h:prog.info? 157=some t157:=by kernel_rfl
 have A:t157.zero=some (.pointer none):=by kernel_rfl
 simp[zeroValue,typeInfo,h,A,Result.andThen]
def jc (u:UInt8):Bool:=(97<=u.toNat&&u.toNat<=122)||(48<=u.toNat&&u.toNat<=57)||u.toNat==47||u.toNat==46||u.toNat==45
def Ab (s:ByteArray):Bool:=decide (0<s.size)&&decide (s.size<=64)&&s.data.toList.all jc
structure Fl where
 data:List Int
 HU:Nat
structure Dk where
 files:ByteArray->Option Fl
 up:Bool
 armed:Bool
 cnt:Nat
structure Row where
 name:ByteArray
 f:Nat
 born:Nat
 T:TypeId
 p:Option Addr
 c:Nat
 fl:Fl
abbrev Row.n (r:Row):Nat:=r.fl.data.length
def Row.CP (r:Row):MapEntry:=Tw.CP r.name (.pointer (some ⟨r.f,0,none⟩)) r.born
def Row.blocks (r:Row):List Nat:=r.f::FB r.p
structure Ql (Z22:Hp)(r:Row):Prop where
 obj:Z22 r.f=some (.cells #[.slice r.p r.n r.c,.I r.fl.HU] r.T (0,0))
 own:A2 .u8 Z22 r.p r.n r.c r.fl.data
 HU:r.fl.HU<=r.n
 small:r.n<=4194304
 nm:Ab r.name=true
def Row.look (rows:List Row)(s:ByteArray):Option Fl:=(rows.find? λr=>decide (r.name=s)).map (·.fl)
def FX (d m:Nat)(rows:List Row):List Nat:=d::m::rows.flatMap Row.blocks
structure Au (Z22:Hp)(d:Nat)(D:Dk)(S:List Nat)(m clock:Nat)(rows:List Row)(T:TypeId)(left keep writes:Int):Prop where
 FX:S=FX d m rows
 ne:m≠d
 sep:rows.Pairwise λr s=>∀b∈r.blocks,b ∉ s.blocks
 out:∀r∈rows,r.f ∉ FB r.p/\d ∉ r.blocks/\m ∉ r.blocks
 obj:Z22 d=some (.cells #[.map (some m),.bool D.up,.bool D.armed,.I left,.I keep,.U writes] T (0,0))
 map:Ak Z22 m (rows.map Row.CP) clock
 row:∀r∈rows,Ql Z22 r
 files:D.files=Row.look rows
 cnt:rows.length<=D.cnt
def A1 (Z22:Hp)(d:Nat)(D:Dk)(S:List Nat):Prop:=∃m clock rows T left keep writes,Au Z22 d D S m clock rows T left keep writes
theorem Own.loc {s:Nat}{Z22 Z'2:Hp}{p:Option Addr}{n c:Nat}{cs:List Value}(h:Own s Z22 p n c cs)(A:∀b∈FB p,Z'2 b=Z22 b):Own s Z'2 p n c cs:=by
 refine⟨h.1,h.2.1,h.2.2.imp id ?_⟩
 rintro⟨b,o,arr,T,rfl,hb,r⟩
 exact⟨b,o,arr,T,rfl,(A b (by simp[FB])).trans hb,r⟩
theorem Ql.loc {Z22 Z'2:Hp}{r:Row}(h:Ql Z22 r)(A:∀b∈r.blocks,Z'2 b=Z22 b):Ql Z'2 r:=
 ⟨(A _ (by simp[Row.blocks])).trans h.obj,Own.loc h.own λb hb=>A b (by simp[Row.blocks,hb]),h.HU,h.small,h.nm⟩
theorem Ql.known {Z22:Hp}{r:Row}(h:Ql Z22 r):∀b∈r.blocks,Z22 b≠none:=by
 intro b hb;rcases Ae5.1 hb with rfl|hb
 .rw[h.obj];simp
 .cases hp:r.p with
  | none=>rw[hp]at hb;cases hb
  | some a=>rw[hp]at hb;simp[FB]at hb;subst hb;exact h.own.block a hp
theorem HE {d m b:Nat}{rows:List Row}:b∈FX d m rows↔b=d\/b=m\/∃r∈rows,b∈r.blocks:=by simp[FX]
section
variable {Z22 Z'2:Hp}{d:Nat}{D:Dk}{S:List Nat}{m clock:Nat}{rows:List Row}{T:TypeId}{left keep writes:Int}
theorem Au.loc (h:Au Z22 d D S m clock rows T left keep writes)(A:∀b∈S,Z'2 b=Z22 b):Au Z'2 d D S m clock rows T left keep writes:=by
 have hS:=h.FX;subst hS;refine⟨rfl,h.ne,h.sep,h.out,(A d (by simp[TwW.FX])).trans h.obj,h.map.loc (A m (by simp[TwW.FX])),λr G=>(h.row r G).loc λb hb=>A b (HE.2 (.inr (.inr ⟨r,G,hb⟩))),h.files,h.cnt⟩
theorem Au.known (h:Au Z22 d D S m clock rows T left keep writes):∀b∈S,Z22 b≠none:=by
 have A:=h.FX;subst A;intro b hb;rcases HE.1 hb with rfl|rfl|⟨r,G,hb⟩
 .rw[h.obj];simp
 .rw[h.map.1];simp
 .exact(h.row r G).known b hb
theorem Au.mono (h:Au Z22 d D S m clock rows T left keep writes)(G:Ext Z22 Z'2):Au Z'2 d D S m clock rows T left keep writes:=h.loc λb hb=>by
 cases A:Z22 b with
 | none=>exact absurd A (h.known b hb)
 | some o=>exact G b o A
theorem A1.mono (h:A1 Z22 d D S)(A:Ext Z22 Z'2):A1 Z'2 d D S:=by
 obtain⟨m,c,r,T,a,b,e,h⟩:=h;exact⟨m,c,r,T,a,b,e,h.mono A⟩
theorem A1.known (h:A1 Z22 d D S):∀b∈S,Z22 b≠none:=by obtain⟨m,c,r,T,a,b,e,h⟩:=h;exact h.known
theorem A1.loc (h:A1 Z22 d D S)(A:∀b∈S,Z'2 b=Z22 b):A1 Z'2 d D S:=by
 obtain⟨m,c,r,T,a,b,e,h⟩:=h;exact⟨m,c,r,T,a,b,e,h.loc A⟩
theorem Au.U9 (h:Au Z22 d D S m clock rows T left keep writes):d∈S:=by rw[h.FX];simp[TwW.FX]
theorem Au.Qm (h:Au Z22 d D S m clock rows T left keep writes):m∈S:=by rw[h.FX];simp[TwW.FX]
theorem Au.Sn (h:Au Z22 d D S m clock rows T left keep writes){r:Row}(A:r∈rows){b:Nat}(hb:b∈r.blocks):b∈S:=by rw[h.FX];exact HE.2 (.inr (.inr ⟨r,A,hb⟩))
theorem Au.put (h:Au Z22 d D S m clock rows T left keep writes){up armed:Bool}{left' A writes':Int}{cnt:Nat}(hc:rows.length<=cnt):
  Au (Z22.set d (.cells #[.map (some m),.bool up,.bool armed,.I left',.I A,.U writes'] T (0,0))) d ⟨D.files,up,armed,cnt⟩ S m clock rows T left' A writes':=by
 have hS:=h.FX;subst hS;refine⟨rfl,h.ne,h.sep,h.out,Hp.AA _ _ _,h.map.loc (Hp.AB h.ne),λr G=>(h.row r G).loc λb hb=>Hp.AB λe=>(h.out r G).2.1 (e▸hb),h.files,hc⟩
theorem Row.Es {s:ByteArray}(h:∀r∈rows,r.name≠s):Row.look rows s=none:=by
 unfold Row.look;rw[AhK.2 (by simpa using h)];rfl
theorem Row.mE {r:Row}{r1 r2:List Row}(A:((r1++r::r2).map (·.name)).Nodup):Row.look (r1++r::r2) r.name=some r.fl:=by
 unfold Row.look;have:∀x∈r1,¬(decide (x.name=r.name))=true:=λx G=>by
  simp only[AfF,AfN]at A;have:=(AgC.1 A).2.2 x.name (AfC.2 ⟨x,G,rfl⟩) r.name (by simp);simpa using this
 rw[List.find?_append,AhK.2 this];simp
theorem Au.names (h:Au Z22 d D S m clock rows T left keep writes):(rows.map (·.name)).Nodup:=by
 have:=h.map.nodup;rw[Afg]at this;have e:(rows.map ((λe:MapEntry=>e.key) ∘ Row.CP))=(rows.map (·.name)).map Value.string:=by rw[Afg];rfl
 rw[e]at this;rw[List.Nodup,AgD]at this;exact this.imp λA e=>A (by rw[e])
def A8 (fs:ByteArray->Option Fl)(s:ByteArray)(x:Option Fl):ByteArray->Option Fl:=λn=>if n=s then x else fs n
theorem Row.Rm {r:Row}{s:ByteArray}:Row.look (r::rows) s=if r.name=s then some r.fl else Row.look rows s:=by
 unfold Row.look;rw[Ahq];by_cases h:r.name=s<;>simp[h]
theorem Row.MG {r1 r2:List Row}{s:ByteArray}:Row.look (r1++r2) s=(Row.look r1 s).or (Row.look r2 s):=by
 unfold Row.look;rw[List.find?_append];cases List.find? (λr=>decide (r.name=s)) r1<;>simp
theorem I5 {r:Row}{r1 r2:List Row}(G:((r1++r::r2).map (·.name)).Nodup):(∀x∈r1,x.name≠r.name)/\∀x∈r2,x.name≠r.name:=by
 simp only[AfF,AfN]at G;have h:=AgC.1 G;have h2:=Afe.1 h.2.1;exact⟨λx A=>h.2.2 x.name (AfC.2 ⟨x,A,rfl⟩) r.name (by simp),λx A e=>h2.1 (e▸AfC.2 ⟨x,A,rfl⟩)⟩
theorem Row.Sp {r r':Row}{r1 r2:List Row}(hn:((r1++r::r2).map (·.name)).Nodup)(h:r'.name=r.name):Row.look (r1++r'::r2)=A8 (Row.look (r1++r::r2)) r.name (some r'.fl):=by
 funext s
 have G:=(I5 hn).1;simp only[Row.MG,Row.Rm,A8,h];by_cases A:s=r.name
 .subst A;simp[Row.Es G]
 .simp[A,AfT A]
theorem Row.Xj {r:Row}(h:∀x∈rows,x.name≠r.name):Row.look (rows++[r])=A8 (Row.look rows) r.name (some r.fl):=by
 funext s
 simp only[Row.MG,Row.Rm,A8];by_cases A:s=r.name
 .subst A;simp[Row.Es h]
 .simp[A,AfT A,Row.look]
theorem Row.eG {r:Row}{r1 r2:List Row}(hn:((r1++r::r2).map (·.name)).Nodup):Row.look (r1++r2)=A8 (Row.look (r1++r::r2)) r.name none:=by
 funext s
 have G:=I5 hn;simp only[Row.MG,Row.Rm,A8];by_cases A:s=r.name
 .subst A;simp[Row.Es G.1,Row.Es G.2]
 .simp[A,AfT A]
theorem Au.change {r r':Row}{r1 r2:List Row}(h:Au Z22 d D S m clock (r1++r::r2) T left keep writes)(GO:r'.name=r.name)(hf:r'.f=r.f)(hb:r'.born=r.born)(hr:Ql Z'2 r')(AR:r'.f ∉ FB r'.p)
  (A:Ext (Z22.off r.blocks) (Z'2.off r'.blocks)) :
  Au Z'2 d { D with files:=A8 D.files r.name (some r'.fl) } (TwW.FX d m (r1++r'::r2)) m clock (r1++r'::r2) T left keep writes/\Ext (Z22.off S) (Z'2.off (TwW.FX d m (r1++r'::r2))):=by
 have Hh:=h.out;have eI:=h.sep;have pB:=h.row;have Fy:r∈r1++r::r2:=by simp
 have keep:∀b,b ∉ r.blocks->Z22 b≠none->Z'2 b=Z22 b/\b ∉ r'.blocks:=λb h1 h2=>by
  cases hs:Z22 b with
  | none=>exact absurd hs h2
  | some o=>
   have:=Hp.AI.1 (A b o (Hp.AI.2 ⟨h1,hs⟩));exact⟨this.2,this.1⟩
 have hd:=keep d (Hh r Fy).2.1 (by rw[h.obj];simp);have hm:=keep m (Hh r Fy).2.2 (by rw[h.map.1];simp);rw[Afl,Afb]at eI;have o1:∀x∈r1,∀b∈x.blocks,Z'2 b=Z22 b/\b ∉ r'.blocks:=λx A b hb=>keep b (eI.2.2 x A r (by simp) b hb) ((pB x (by simp[A])).known b hb);have o2:∀x∈r2,∀b∈x.blocks,Z'2 b=Z22 b/\b ∉ r'.blocks:=λx A b hb=>keep b (λG=>eI.2.1.1 x A b G hb) ((pB x (by simp[A])).known b hb);refine⟨⟨rfl,h.ne,?_,?_,hd.1.trans h.obj,?_,?_,?_,?_⟩,?_⟩
 .rw[Afl,Afb];refine⟨eI.1,⟨λx A b hb G=>(o2 x A b G).2 hb,eI.2.1.2⟩,λx Ct y hy b KL=>?_⟩;rcases Ae5.1 hy with rfl|hy
  .exact(o1 x Ct b KL).2
  .exact eI.2.2 x Ct y (by simp[hy]) b KL
 .intro x A;rcases Ae9.1 A with A|A
  .exact Hh x (by simp[A])
  .rcases Ae5.1 A with rfl|A
   .exact⟨AR,hd.2,hm.2⟩
   .exact Hh x (by simp[A])
 .have:(r1++r'::r2).map Row.CP=(r1++r::r2).map Row.CP:=by simp[Row.CP,GO,hf,hb]
  rw[this];exact h.map.loc hm.1
 .intro x A;rcases Ae9.1 A with A|A
  .exact(pB x (by simp[A])).loc λb hb=>(o1 x A b hb).1
  .rcases Ae5.1 A with rfl|A
   .exact hr
   .exact(pB x (by simp[A])).loc λb hb=>(o2 x A b hb).1
 .show A8 D.files r.name _=_
  rw[h.files,Row.Sp h.names GO]
 .have:=h.cnt;simpa using this
 .intro b o hb;obtain⟨bT,hbo⟩:=Hp.AI.1 hb;rw[h.FX,HE]at bT;have hk:=keep b (λG=>bT (.inr (.inr ⟨r,Fy,G⟩))) (by rw[hbo];simp);refine Hp.AI.2 ⟨λG=>?_,hk.1.trans hbo⟩;rcases HE.1 G with e|e|⟨x,A,pC⟩
  .exact bT (.inl e)
  .exact bT (.inr (.inl e))
  .rcases Ae9.1 A with A|A
   .exact bT (.inr (.inr ⟨x,by simp[A],pC⟩))
   .rcases Ae5.1 A with rfl|A
    .exact hk.2 pC
    .exact bT (.inr (.inr ⟨x,by simp[A],pC⟩))
theorem Au.uX (h:Au Z22 d D S m clock rows T left keep writes){rows':List Row}{clock':Nat}{fs:ByteArray->Option Fl}{cnt:Nat}(A:∀b,b≠m->Z'2 b=Z22 b)(hm:Ak Z'2 m (rows'.map Row.CP) clock')
  (pB:∀r∈rows',Ql Z22 r) (Fy:∀r∈rows',∀b∈r.blocks,b∈S/\b≠d/\b≠m) (ALg:∀r∈rows',r.f ∉ FB r.p) (eI:rows'.Pairwise λr s=>∀b∈r.blocks,b ∉ s.blocks) (I3:fs=Row.look rows') (hc:rows'.length<=cnt) :
  Au Z'2 d ⟨fs,D.up,D.armed,cnt⟩ (TwW.FX d m rows') m clock' rows' T left keep writes/\Ext (Z22.off S) (Z'2.off (TwW.FX d m rows')):=by
 refine⟨⟨rfl,h.ne,eI,λr G=>⟨ALg r G,λhd=>(Fy r G d hd).2.1 rfl,λhm=>(Fy r G m hm).2.2 rfl⟩,(A d (AfT h.ne)).trans h.obj,hm,λr G=>(pB r G).loc λb hb=>A b (Fy r G b hb).2.2,I3,hc⟩,λb o hb=>?_⟩;obtain⟨bT,hbo⟩:=Hp.AI.1 hb;refine Hp.AI.2 ⟨λLl=>?_,(A b λe=>bT (e▸h.Qm)).trans hbo⟩;rcases HE.1 Ll with e|e|⟨x,hx,pC⟩
 .exact bT (e▸h.U9)
 .exact bT (e▸h.Qm)
 .exact bT (Fy x hx b pC).1
theorem Au.push (h:Au Z22 d D S m clock rows T left keep writes){r:Row}(A9:∀x∈rows,x.name≠r.name)(hb:Z22 r.f=none)(hp:r.p=none)(hσ:∀b,b≠m->b≠r.f->Z'2 b=Z22 b)(hr:Ql Z'2 r){clock':Nat}(hm:Ak Z'2 m ((rows++[r]).map Row.CP) clock'):
  Au Z'2 d ⟨A8 D.files r.name (some r.fl),D.up,D.armed,D.cnt+1⟩ (TwW.FX d m (rows++[r])) m clock' (rows++[r]) T left keep writes/\Ext (Z22.off S) (Z'2.off (TwW.FX d m (rows++[r]))):=by
 have TQ:r.blocks=[r.f]:=by simp[Row.blocks,hp,FB]
 have hS:r.f ∉ S:=λhs=>h.known _ hs hb;have hk:∀x∈rows,∀b∈x.blocks,b≠r.f:=λx A b G e=>hS (e▸h.Sn A G);refine⟨⟨rfl,h.ne,?_,?_,(hσ d (AfT h.ne) λe=>hS (e▸h.U9)).trans h.obj,hm,?_,?_,?_⟩,λb o G=>?_⟩
 .rw[Afl];refine⟨h.sep,by simp,λx A y hy b G=>?_⟩;simp only[Aev]at hy;subst hy;rw[TQ];simpa using hk x A b G
 .intro x A;rcases Ae9.1 A with A|A
  .exact h.out x A
  .simp only[Aev]at A;subst A;rw[TQ,hp];exact⟨by simp[FB],λe=>hS (Aev.1 e▸h.U9),λe=>hS (Aev.1 e▸h.Qm)⟩
 .intro x A;rcases Ae9.1 A with A|A
  .exact(h.row x A).loc λb G=>hσ b (λe=>(h.out x A).2.2 (e▸G)) (hk x A b G)
  .simp only[Aev]at A;subst A;exact hr
 .show A8 D.files r.name _=_
  rw[h.files,Row.Xj A9]
 .have:=h.cnt;simpa using this
 .obtain⟨bT,hbo⟩:=Hp.AI.1 G;have h1:b≠r.f:=λe=>by rw[e,hb]at hbo;cases hbo
  refine Hp.AI.2 ⟨λKL=>?_,(hσ b (λe=>bT (e▸h.Qm)) h1).trans hbo⟩;rcases HE.1 KL with e|e|⟨x,A,pC⟩
  .exact bT (e▸h.U9)
  .exact bT (e▸h.Qm)
  .rcases Ae9.1 A with A|A
   .exact bT (h.Sn A pC)
   .simp only[Aev]at A;subst A;rw[TQ]at pC;exact h1 (by simpa using pC)
theorem FY {A G:List MapEntry}{e:MapEntry}(h:rows.map Row.CP=A++e::G):∃r1 r r2,rows=r1++r::r2/\r1.map Row.CP=A/\r.CP=e/\r2.map Row.CP=G:=by
 obtain⟨r1,r',rfl,h1,h2⟩:=Ag3.1 h;obtain⟨r,r2,rfl,h3,h4⟩:=AhB.1 h2;exact⟨r1,r,r2,rfl,h1,h3,h4⟩
theorem Hn {r:Row}{s:ByteArray}:r.CP.key=.string s↔r.name=s:=by simp[Row.CP]
theorem Jw {s:ByteArray}(h:∀x∈rows.map Row.CP,x.key≠.string s):∀r∈rows,r.name≠s:=λr A e=>h r.CP (AfC.2 ⟨r,A,rfl⟩) (Hn.2 e)
theorem A1.names (h:A1 Z22 d D S):∀s,(D.files s).isSome=true->Ab s=true:=λs G=>by
 obtain⟨m,c,rows,T,a,b,e,h⟩:=h;rw[h.files,Row.look]at G;cases A:rows.find? (λr=>decide (r.name=s)) with
 | none=>rw[A]at G;cases G
 | some r=>
  have h1:=(h.row r (AhC A)).nm;have h2:=AiZ A;simp only[AfQ]at h2;rw[<-h2];exact h1
theorem Au.look (h:Au Z22 d D S m clock rows T left keep writes){s:ByteArray}{Φ:Value->Hp->Prop}(h0:(∀r∈rows,r.name≠s)->D.files s=none->Φ (.pointer none) Z22)
  (h1:∀r1 r r2,rows=r1++r::r2->r.name=s->D.files s=some r.fl->Φ (.pointer (some ⟨r.f,0,none⟩)) Z22):AH prog (Instr.lookup 91 (.map (some m)) (.string s) false) Z22 Φ:=by
 refine Kg h.map AFg (λA=>h0 (Jw A) (by rw[h.files];exact Row.Es (Jw A))) λl1 e l2 hl he=>?_;obtain⟨r1,r,r2,G,_,rfl,_⟩:=FY hl;have A:=h.names;rw[G]at A;refine h1 r1 r r2 G (Hn.1 he) ?_;rw[h.files,G,<-Hn.1 he,Row.mE A]
end
end TwW
end
section
namespace TwW
open Go Tw Go.Proofs.Tryz
theorem aK:∀w,(Go.sizeOf 79).run prog w=.ok 1 w:=λw=>by
 have h:prog.info? 79=some t79:=by kernel_rfl
 simp[Go.sizeOf,typeInfo,h,show t79.size=1 from rfl]
theorem uY:∀w,(Go.sizeOf 4).run prog w=.ok 1 w:=λw=>by
 have h:prog.info? 4=some t4:=by kernel_rfl
 simp[Go.sizeOf,typeInfo,h,show t4.size=1 from rfl]
theorem Ss:∀w,(Go.sizeOf 3).run prog w=.ok 1 w:=λw=>by
 have h:prog.info? 3=some t3:=by kernel_rfl
 simp[Go.sizeOf,typeInfo,h,show t3.size=1 from rfl]
theorem uZ:∀w,(Go.sizeOf 23).run prog w=.ok 1 w:=λw=>by
 have h:prog.info? 23=some t23:=by kernel_rfl
 simp[Go.sizeOf,typeInfo,h,show t23.size=1 from rfl]
theorem Mr {R:Rr}{Z22:Hp}{s:ByteArray}(h:R (.returned (.bool (Ab s))) Z22):Spec prog 71 #[.string s] Z22 R:=by
 refine Gs.start ⟨λh0=>?_,λh0=>⟨λh1=>?_,λh1=>?_⟩⟩
 .have:Ab s=false:=by
   have:s=⟨#[]⟩:=by
    have:=eq_of_beq h0;rw[ByteArray.toList_eq,ByteArray.toList_eq]at this;exact Agx (AfM.1 this)
   subst this;rfl
  rwa[this]at h
 .have:Ab s=false:=by
   have:¬s.size<=64:=by omega
   simp[Ab,this]
  rwa[this]at h
 .have ua:0<s.size:=by
   rcases Af4 s.size with hz|hz
   .exfalso;have:s=⟨#[]⟩:=Agx (Agu hz);subst this;simp at h0
   .exact hz
  have WT:s.size<=64:=by omega
  have Dz:s.data.toList.length=s.size:=rfl
  suffices H:∀d k:Nat,s.size-k=d->k<=s.size->(s.data.toList.take k).all jc=true->Gs.BM R s k Z22 from H s.size 0 rfl (AfI _) rfl
  intro d
  induction d with
  | zero=>
   intro k hd hk G6;rw[Ae7 (by omega)]at G6;have hn:Ab s=true:=by simp only[Ab,G6,Afz ua,Afz WT,Ahi]
   rw[hn]at h;exact Gs.Bg ⟨λAq=>by omega,λ_=>h⟩
  | succ d ih=>
   intro k hd hk G6;have JO:k<s.size:=by omega
   obtain⟨u,hu⟩:∃u,s.data.toList[k]?=some u:=⟨_,Ae3 (by omega)⟩;have bO:s.data[Int.toNat (k:Int)]?=some u:=by simpa using hu
   have hi:AK ((k:Int)+1):=by unfold AK;omega
   have step:jc u=true->Gs.BM R s ((k:Int)+1) Z22:=λA=>ih (k+1) (by omega) (by omega) (by rw[AL hu,Agb,G6];simpa using A);have bad:jc u=false->R (.B false) Z22:=λA=>by
    have:Ab s=false:=by
     have:s.data.toList.all jc=false:=by
      rw[AiF];exact⟨u,Ae2 hu,by simp[A]⟩
     simp[Ab,this]
    rwa[this]at h
   have e1:(jc u=true)↔((97<=u.toNat/\u.toNat<=122)\/(48<=u.toNat/\u.toNat<=57)\/u.toNat=47\/u.toNat=46\/u.toNat=45):=by
    simp[jc,or_assoc]
   have good:((97<=u.toNat/\u.toNat<=122)\/(48<=u.toNat/\u.toNat<=57)\/u.toNat=47\/u.toNat=46\/u.toNat=45)->AK ((k:Int)+1)/\Gs.BM R s ((k:Int)+1) Z22:=λA=>⟨hi,step (e1.2 A)⟩;have G:¬((97<=u.toNat/\u.toNat<=122)\/(48<=u.toNat/\u.toNat<=57)\/u.toNat=47\/u.toNat=46\/u.toNat=45)->R (.B false) Z22:=λA=>bad (by
    cases ho:jc u with
    | false=>rfl
    | true=>exact absurd (e1.1 ho) A)
   clear step bad e1 h ih;refine Gs.Bg ⟨λAq=>⟨u,by omega,bO,?_⟩,λIb=>by omega⟩;generalize u.toNat=n at good G
   repeat' (first|refine⟨λ_=>?_,λ_=>?_⟩|exact good (by omega)|exact G (by omega))
def Gg (fs gs:ByteArray->Option Fl):Prop:=∀s,(fs s=none->gs s=none)/\∀f,fs s=some f->∃k,f.HU<=k/\k<=f.data.length/\gs s=some ⟨f.data.take k,k⟩
section
variable {Z22:Hp}{d:Nat}{D:Dk}{S:List Nat}{R:Rr}
theorem IP {s:ByteArray}(hd:A1 Z22 d D S)(h0:Ab s=false->R (.returned (.I 61)) Z22)(h1:Ab s=true->D.files s=none->R (.returned (.I 62)) Z22)(h2:∀f,Ab s=true->D.files s=some f->R (.returned (.I 0)) Z22):
  Spec prog 86 #[.pointer (some ⟨d,0,none⟩),.string s] Z22 R:=by
 refine Ky.start (Mr ⟨_,rfl,λhf=>h0 hf,λht=>?_⟩);obtain⟨m,c,rows,T,a,b,e,h⟩:=hd;refine⟨d,0,rfl,some m,AD h.obj rfl,h.look (λhn A=>⟨none,rfl,λ_=>h1 ht A,λG=>by simp at G⟩) λr1 r r2 _ _ A=>⟨_,rfl,λG=>by simp at G,λ_=>h2 _ ht A⟩⟩
theorem VA {s:ByteArray}{p:Option Addr}{n c b2:Nat}{xs:List Int}{m clock:Nat}{r1 r2:List Row}{r:Row}{T:TypeId}{a b e:Int}(hd:Au Z22 d D S m clock (r1++r::r2) T a b e)
  (h2:(Z22.off S) b2=some (.cells #[.slice p n c] 79 (0,0))) (hx:Be .u8 (Z22.off S) p n xs) (G:r.fl.data.length+n<=4194304) (hs:r.name=s)
  (h:∀Z'2 S',A1 Z'2 d { D with files:=A8 D.files s (some ⟨r.fl.data++xs,r.fl.HU⟩) } S'->Ext (Z22.off S) (Z'2.off S')->R (.T #[]) Z'2) :
  Dn.A3 R b2 (some ⟨r.f,0,none⟩) Z22:=by
 have hr:=hd.row r (by simp);have Hh:=hd.out r (by simp);refine Dn.AY ⟨r.f,0,rfl,r.p,r.n,r.c,AD hr.obj rfl,p,n,c,AD (Hp.AI.1 h2).2 rfl,?_⟩;refine QB (T:=79) hr.own (Kt.of_map (hx.mono (Ext.FW _ _))) Ej.Gz (by simp only[Row.n];omega) λp' c' Z'2 Bu Hm _=>⟨p',r.n+n,c',rfl,?_⟩;have A:Z'2 r.f=some (.cells #[.slice r.p r.n r.c,.I r.fl.HU] r.T (0,0))/\r.f ∉ FB p':=by
  rw[Hp.ER,Hp.ER]at Hm;have:=Hp.AI.1 (Hm r.f _ (Hp.AI.2 ⟨Hh.1,hr.obj⟩));exact⟨this.2,this.1⟩
 refine AH.store (v:=.slice p' (r.n+n) c') aK A.1 rfl (by simp) (by simp[Value.cells,Value.oneCell']) ?_;have ov:(r.fl.data++xs).length=r.n+n:=by rw[Aet,hx.1]
 have hw:F0 #[Value.slice r.p r.n r.c,.I r.fl.HU] 0 (Value.slice p' (r.n+n) c').cells.toList=#[.slice p' (r.n+n) c',.I r.fl.HU]:=rfl;rw[hw];have key:=hd.change (Z'2:=Z'2.set r.f (.cells #[.slice p' (r.n+n) c',.I r.fl.HU] r.T (0,0))) (r':={ r with p:=p',c:=c',fl:=⟨r.fl.data++xs,r.fl.HU⟩ }) rfl rfl rfl
  ⟨by simp[Hp.AA,ov],?_,by simp only[ov];have:=hr.HU;omega,by show(r.fl.data++xs).length<=_;rw[ov];exact G,hr.nm⟩ A.2 ?_
 .rw[<-hs]at h;exact h _ _ ⟨_,_,_,_,_,_,_,key.1⟩ key.2
 .have:A2 .u8 Z'2 p' (r.n+n) c' (r.fl.data++xs):=by simpa[A2] using Bu
  simp only[ov];refine Own.loc this λb hb=>Hp.AB λe=>A.2 (e▸hb)
 .intro b o hb;obtain⟨h3,h4⟩:=Hp.AI.1 hb;simp only[Row.blocks,Ae5,not_or]at h3;rw[Hp.ER,Hp.ER]at Hm;have:=Hp.AI.1 (Hm b o (Hp.AI.2 ⟨h3.2,h4⟩));exact Hp.AI.2 ⟨by simp[Row.blocks,h3.1,this.1],by rw[Hp.AB h3.1];exact this.2⟩
def E6 (fs:ByteArray->Option Fl)(s:ByteArray)(xs:List Int):ByteArray->Option Fl:=A8 fs s (some ⟨((fs s).getD ⟨[],0⟩).data++xs,((fs s).getD ⟨[],0⟩).HU⟩)
theorem Qo {s:ByteArray}{p:Option Addr}{n c b0 b1 b2:Nat}{xs:List Int}(Ie:Ab s=true)(hd:A1 Z22 d D S)(h0:(Z22.off S) b0=some (.cells #[.pointer (some ⟨d,0,none⟩)] 36 (0,0)))(h1:(Z22.off S) b1=some (.cells #[.string s] 9 (0,0)))
  (h2:(Z22.off S) b2=some (.cells #[.slice p n c] 79 (0,0))) (hx:Be .u8 (Z22.off S) p n xs) (G:((D.files s).getD ⟨[],0⟩).data.length+n<=4194304)
  (h:∀Z'2 S',A1 Z'2 d ⟨E6 D.files s xs,D.up,D.armed,D.cnt+1⟩ S'->Ext (Z22.off S) (Z'2.off S')->R (.T #[]) Z'2) :
  Spec prog 180 #[.pointer (some ⟨b0,0,none⟩),.pointer (some ⟨b1,0,none⟩),.pointer (some ⟨b2,0,none⟩)] Z22 R:=by
 obtain⟨m,cl,rows,T,a,b,e,hd⟩:=hd;have bP:=Hp.AI.1 h0;have Pf:=Hp.AI.1 h1;refine Dn.start ⟨_,AD bP.2 rfl,d,0,rfl,some m,AD hd.obj rfl,s,AD Pf.2 rfl,hd.look (λhn I3=>⟨none,rfl,λ_ HR A=>?_,λhh=>by simp at hh⟩) λr1 r r2 Gf GO I3=>⟨_,rfl,λhh=>by simp at hh,λ_=>?_⟩⟩
 .have ASV:b0≠HR:=λe=>by rw[e,A]at bP;cases bP.2
  have ALi:b1≠HR:=λe=>by rw[e,A]at Pf;cases Pf.2
  have hS:HR ∉ S:=λhs=>hd.known _ hs A;have hdn:d≠HR:=λe=>hS (e▸hd.U9);have hmn:m≠HR:=λe=>hS (e▸hd.Qm);refine⟨_,AD (by rw[Hp.AB ASV];exact bP.2) rfl,d,0,rfl,some m,AD (by rw[Hp.AB hdn];exact hd.obj) rfl,s,AD (by rw[Hp.AB ALi];exact Pf.2) rfl,?_⟩;have yX:Ak (Z22.set HR (.cells #[.N,.I 0] 156 (0,0))) m (rows.map Row.CP) cl:=hd.map.loc (Hp.AB hmn);refine FI yX (λ_ Z'2 nV bQ=>?_) λl1 e l2 hl he=>?_
  .have key:=hd.push (Z'2:=Z'2) (r:=⟨s,HR,cl,156,none,0,⟨[],0⟩⟩) hn A rfl (λb h1 h2=>by rw[nV,Hp.AB h1,Hp.AB h2]) ⟨by rw[nV,Hp.AB (AfT hmn),Hp.AA];rfl,Own.nil,Ae1 _,AfI _,Ie⟩ (clock':=cl+1) (by simpa[Row.CP] using bQ);refine VA (r2:=[]) key.1 (key.2 _ _ h2) (hx.mono key.2) ?_ rfl λrK S'' hD hE=>h rK S'' ?_ (key.2.trans hE)
   .simpa[I3] using G
   .have:E6 D.files s xs=A8 (A8 D.files s (some ⟨[],0⟩)) s (some ⟨[]++xs,0⟩):=by
     funext k;simp only[E6,I3,A8,Option.getD_none];split<;>rfl
    rw[this];exact hD
  .exfalso;obtain⟨r1,r,r2,Gf,_,rfl,_⟩:=FY hl;exact hn r (by simp[Gf]) (Hn.1 he)
 .subst Gf;refine VA hd h2 hx (by simpa[I3] using G) GO λZ'2 S' hD hE=>h Z'2 S' ?_ hE;have:E6 D.files s xs=A8 D.files s (some ⟨r.fl.data++xs,r.fl.HU⟩):=by simp[E6,I3]
  rw[this];obtain⟨m,cl,rows,T,a,b,e,hD⟩:=hD;exact⟨m,cl,rows,T,a,b,e,{ hD with cnt:=by have:=hD.cnt;simp only at this ⊢;omega }⟩
end
end TwW
end
section
namespace TwW
open Go Tw Go.Proofs.Tryz
section
variable {Z22:Hp}{d:Nat}{D:Dk}{S:List Nat}{R:Rr}
theorem Au.AAP {m clock:Nat}{rows:List Row}{T:TypeId}{left keep writes:Int}(h:Au Z22 d D S m clock rows T left keep writes){o:Obj}:Ext (Z22.off S) ((Z22.set d o).off S):=Ext.Kf h.U9
theorem Au.st {m clock:Nat}{rows:List Row}{T:TypeId}{left keep writes:Int}(h:Au Z22 d D S m clock rows T left keep writes){i:Nat}{E:TypeId}{v:Value}{up armed:Bool}{left' G writes':Int}(hz:∀w,(Go.sizeOf E).run prog w=.ok 1 w)(hv:v.cells.size=1)
  (hi:i+1<=6) (h1:∀u∈v.cells.toList,u.oneCell'=true)
  (hw:F0 #[.map (some m),.bool D.up,.bool D.armed,.I left,.I keep,.U writes] i v.cells.toList=#[.map (some m),.bool up,.bool armed,.I left',.I G,.U writes'])
  {Φ:Unit->Hp->Prop} (A:∀Z'2,Au Z'2 d ⟨D.files,up,armed,D.cnt⟩ S m clock rows T left' G writes'->Ext (Z22.off S) (Z'2.off S)->(∀b,b≠d->Z'2 b=Z22 b)->Φ () Z'2):AH prog (Instr.storeAt E (.pointer (some ⟨d,i,none⟩)) v) Z22 Φ:=by
 refine AH.store hz h.obj hv (by simp;omega) h1 ?_;rw[hw];exact A _ (h.put h.cnt) h.AAP λb hb=>Hp.AB hb
def ASY (x1:Int)(fs gs:ByteArray->Option Fl)(L:List MapEntry):Prop:=
 ∀s,(fs s=none->gs s=none)/\∀f,fs s=some f->(gs s=some f/\∃e∈L,e.key=.string s)\/∃k,f.HU<=k/\k<=f.data.length/\gs s=some ⟨f.data.take k,k⟩/\(x1=0->k=f.HU)
def jd (fs gs:ByteArray->Option Fl):Prop:=∀s f,fs s=some f->gs s=some ⟨f.data.take f.HU,f.HU⟩
theorem Ms {x n:Int}(A:0<=x)(hn:0<=n):0<=Int.tmod x (n+1)/\Int.tmod x (n+1)<=n:=by
 rw[Int.tmod_eq_emod_of_nonneg A];have G:=Int.emod_nonneg x (show n+1≠0 by omega);have h2:=Int.emod_lt_of_pos x (show 0<n+1 by omega);omega
theorem Own.shrink {Z22:Hp}{p:Option Addr}{n c k:Nat}{xs:List Int}{A:IntKind}(h:A2 A Z22 p n c xs)(G:k<=n):A2 A Z22 p k c (xs.take k):=by
 have:=Own.take h G;rw[Afa,<-Ah9]at this;exact this
theorem AFh {Z0:Hp}{S0:List Nat}{i m clock:Nat}{x1:Int}{fs:ByteArray->Option Fl}{cnt:Nat}(pD:Z0 i=none)
  (hR:∀Z'2 S' gs,Gg fs gs->(x1=0->jd fs gs)->A1 Z'2 d ⟨gs,false,false,cnt⟩ S'->Ext (Z0.off S0) (Z'2.off S')->R (.T #[]) Z'2) :
  ∀(n:Nat) (Z22:Hp) (D:Dk) (S:List Nat) (rows:List Row) (L:List MapEntry) (T:TypeId) (a b e:Int),L.length=n->D.cnt=cnt->Au Z22 d D S m clock rows T a b e->Cs Z22 i m (rows.map Row.CP) L clock->(∀x∈L,x∈rows.map Row.CP)->i ∉ S->ASY x1 fs D.files L->
   Ext (Z0.off S0) (Z22.off S)->EF.dU R (some ⟨d,0,none⟩) x1 (.pointer (some ⟨i,0,none⟩)) Z22:=by
 intro n
 induction n using Nat.strongRecOn with
 | _ n ih=>
 intro Z22 D S rows L T a b e hL NK hd hi je yG hh A;refine EF.Kb (ME hd.map hi (λh0=>.inl ⟨rfl,d,0,rfl,?_⟩) λen Ga AAQ o hit AFi=>.inr ?_)
 .subst h0;refine hd.st (i:=1) (up:=false) (armed:=D.armed) uY rfl (by omega) (by simp[Value.cells,Value.oneCell']) rfl λZ12 h1 e1 _=>?_;refine h1.st (i:=2) (up:=false) (armed:=false) uY rfl (by omega) (by simp[Value.cells,Value.oneCell']) rfl λZ222 h2 e2 _=>?_;have G6:∀s f,fs s=some f->∃k,f.HU<=k/\k<=f.data.length/\D.files s=some ⟨f.data.take k,k⟩/\(x1=0->k=f.HU):=λs f hf=>by
   rcases(hh s).2 f hf with ⟨_,e,he,_⟩|h
   .cases he
   .exact h
  refine hR Z222 S D.files (λs=>⟨(hh s).1,λf hf=>?_⟩) (λhz s f hf=>?_) ⟨_,_,_,_,_,_,_,NK▸h2⟩ (A.trans (e1.trans e2))
  .obtain⟨k,h1,h2,h3,_⟩:=G6 s f hf;exact⟨k,h1,h2,h3⟩
  .obtain⟨k,h1,h2,h3,h4⟩:=G6 s f hf;rw[h3,h4 hz]
 .obtain⟨l1,l2,hl⟩:=Ag5 AAQ;obtain⟨r1,r,r2,rfl,_,rfl,_⟩:=FY hl;have hτ:∀b∈S,(Z22.set i o) b=Z22 b:=λb hb=>Hp.AB λe=>yG (e▸hb);have AFj:=hd.loc hτ;have RJ:m≠i:=λe=>yG (e▸hd.Qm);have ASZ:Ext (Z0.off S0) ((Z22.set i o).off S):=λb u hb=>by
   have hbi:b≠i:=λe=>by rw[e,Hp.Qf pD]at hb;cases hb
   have h2:=Hp.AI.1 (A b u hb);exact Hp.AI.2 ⟨h2.1,by rw[Hp.AB hbi];exact h2.2⟩
  have G:=AFj.row r (by simp);have Hh:=AFj.out r (by simp);have ALj:=G.HU;have EW:=G.own.rd.big;have U8:=Own.cap G.own;have AXD:=hit _ (Hp.AA Z22 i o);have main:∀y:Int,0<=y->y<=(r.n:Int)-r.fl.HU->(x1=0->y=0)->EF.TJ R (some ⟨d,0,none⟩) x1 (some ⟨r.f,0,none⟩) y (.pointer (some ⟨i,0,none⟩)) (Z22.set i o):=by
   intro y hy0 hy1 NI;obtain⟨k,hk⟩:∃k:Nat,(k:Int)=(r.fl.HU:Int)+y:=⟨((r.fl.HU:Int)+y).toNat,by omega⟩;refine EF.Mi ⟨r.f,0,rfl,r.p,r.n,r.c,AD G.obj rfl,r.fl.HU,AD G.obj rfl,by unfold AK;omega,by omega,?_⟩;refine AH.store (v:=.slice r.p (Int.toNat ((r.fl.HU:Int)+y)) r.c) aK G.obj rfl (by simp) (by simp[Value.cells,Value.oneCell']) ?_;have hkt:Int.toNat ((r.fl.HU:Int)+y)=k:=by omega
   rw[hkt];have hw:F0 #[Value.slice r.p r.n r.c,.I r.fl.HU] 0 (Value.slice r.p k r.c).cells.toList=#[.slice r.p k r.c,.I r.fl.HU]:=rfl;rw[hw];refine⟨r.p,k,r.c,AD (Hp.AA _ _ _) rfl,?_⟩;refine AH.store (v:=.I k) Ss (Hp.AA _ _ _) rfl (by simp) (by simp[Value.cells,Value.oneCell']) ?_;have hw:F0 #[Value.slice r.p k r.c,.I r.fl.HU] (0+1) (Value.int .i64 k).cells.toList=#[.slice r.p k r.c,.I k]:=rfl;rw[hw,Hp.set_set];have nR:k<=r.fl.data.length:=by simp only[Row.n]at hy1;omega
   have Wo:(r.fl.data.take k).length=k:=by rw[AfE,AgS nR]
   have key:=AFj.change (Z'2:=(Z22.set i o).set r.f (.cells #[.slice r.p k r.c,.I k] r.T (0,0))) (r':={ r with fl:=⟨r.fl.data.take k,k⟩ }) rfl rfl rfl
    ⟨by simp only[Hp.AA,Wo],?_,by simp[Row.n,Wo],by simp only[Row.n,Wo];exact AfU nR G.small,G.nm⟩ Hh.1 ?_
   .have hri:r.f≠i:=λe=>yG (e▸hd.Sn (r:=r) (by simp) (by simp[Row.blocks]));have ACz:(r1++{ r with fl:=⟨r.fl.data.take k,k⟩ }::r2).map Row.CP=(r1++r::r2).map Row.CP:=by simp[Row.CP]
    have ASa:((Z22.set i o).set r.f (.cells #[.slice r.p k r.c,.I k] r.T (0,0))) i=some o:=by rw[Hp.AB (AfT hri),Hp.AA]
    refine ih _ (hL▸Y8 Ga) _ { D with files:=A8 D.files r.name (some ⟨r.fl.data.take k,k⟩) } _ _ _ _ _ _ _ rfl NK key.1 (by rw[ACz];exact hit _ ASa) (λx A=>by rw[ACz];exact je x (Agk.1 A).1) (λIN=>?_) (λs=>?_) (ASZ.trans key.2)
    .rcases HE.1 IN with e|e|⟨x,A,pC⟩
     .exact yG (e▸hd.U9)
     .exact RJ e.symm
     .rcases Ae9.1 A with A|A
      .exact yG (hd.Sn (by simp[A]) pC)
      .rcases Ae5.1 A with rfl|A
       .exact yG (hd.Sn (r:=r) (by simp) pC)
       .exact yG (hd.Sn (by simp[A]) pC)
    .have RP:D.files r.name=some r.fl:=by rw[hd.files,Row.mE hd.names]
     have hhs:=hh s;by_cases hs:s=r.name
     .subst hs;refine⟨λh0=>?_,λf hf=>.inr ?_⟩
      .rw[hhs.1 h0]at RP;cases RP
      .simp only[A8,AhY];rcases hhs.2 f hf with ⟨h1,_⟩|⟨k',h1,h2,h3,h4⟩
       .rw[h1]at RP;cases RP;exact⟨k,by omega,nR,rfl,λhz=>by have:=NI hz;omega⟩
       .rw[h3]at RP;have gT:r.fl=⟨f.data.take k',k'⟩:=(Option.some.inj RP).symm;refine⟨k,?_,?_,?_,λhz=>?_⟩
        .rw[gT]at hk;simp only at hk;omega
        .rw[gT]at nR;simp at nR;omega
        .rw[gT,Agf,AgS];rw[gT]at nR;simp at nR;omega
        .have e1:=NI hz;have e2:=h4 hz;rw[gT]at hk;simp only at hk;omega
     .simp only[A8,hs,AgO];refine⟨hhs.1,λf hf=>(hhs.2 f hf).imp (λ⟨h1,x,A,hk⟩=>⟨h1,x,Agk.2 ⟨A,?_⟩,hk⟩) id⟩;have:x.born≠r.CP.born:=λe=>by
       have:=born_inj hd.map.tz (je x A) AAQ e;rw[this,Hn]at hk;exact hs hk.symm
      simpa using this
   .simp only[Wo];exact Own.loc (Own.shrink G.own nR) λb hb=>Hp.AB λe=>Hh.1 (e▸hb)
   .intro b u hb;have h3:=Hp.AI.1 hb;exact Hp.AI.2 ⟨h3.1,by rw[Hp.AB λe=>h3.1 (by simp[Row.blocks,e])];exact h3.2⟩
  refine⟨_,_,rfl,AFi _ (Hp.AA _ _ _) (Hp.AB RJ) ⟨_,_,rfl,λh0=>⟨r.f,0,rfl,r.p,r.n,r.c,AD G.obj rfl,r.fl.HU,AD G.obj rfl,by unfold AK;omega,by unfold AK;omega,by omega,?_⟩,λ_=>main 0 (by omega) (by omega) (λ_=>rfl)⟩⟩
  rintro x rfl
  have:=Ms h0 (show 0<=(r.n:Int)-r.fl.HU by omega);exact main _ this.1 this.2 (λhz=>by rw[hz,Int.zero_tmod])
theorem eJ {x1:Int}(hd:A1 Z22 d D S)(hR:∀Z'2 S' gs,Gg D.files gs->(x1=0->jd D.files gs)->A1 Z'2 d ⟨gs,false,false,D.cnt⟩ S'->Ext (Z22.off S) (Z'2.off S')->R (.T #[]) Z'2):
  Spec prog 63 #[.pointer (some ⟨d,0,none⟩),.I x1] Z22 R:=by
 obtain⟨m,cl,rows,T,a,b,e,hd⟩:=hd;refine EF.start ⟨d,0,rfl,some m,AD hd.obj rfl,Js hd.map λi o hi hit=>⟨_,rfl,?_⟩⟩;have yG:i ∉ S:=λhs=>hd.known _ hs hi;refine AFh hi hR _ _ D S rows _ T a b e rfl rfl (hd.loc λb hb=>Hp.AB λe=>yG (e▸hb)) hit (λx hx=>hx) yG (λs=>⟨id,λf A=>.inl ⟨A,?_⟩⟩) ((Ext.set hi).off S);rw[hd.files,Row.look]at A;cases G:rows.find? (λr=>decide (r.name=s)) with
 | none=>rw[G]at A;cases A
 | some r=>exact⟨r.CP,AfC.2 ⟨r,AhC G,rfl⟩,Hn.2 (by simpa using AiZ G)⟩
end
end TwW
end
section
namespace TwW
open Go Tw Go.Proofs.Tryz
structure Wr (Z22:Hp)(S:List Nat)(d:Nat)(D:Dk)(fs IW:ByteArray->Option Fl)(c:Nat)(R:Rr):Prop where
 ok:∀Z'2 S',A1 Z'2 d ⟨fs,true,D.armed,c⟩ S'->Ext (Z22.off S) (Z'2.off S')->R (.returned (.I 0)) Z'2
 bad:D.armed=true->∀Z'2 S' gs,Gg IW gs->A1 Z'2 d ⟨gs,false,false,c⟩ S'->Ext (Z22.off S) (Z'2.off S')->R (.returned (.I 60)) Z'2
section
variable {Z22:Hp}{d:Nat}{D:Dk}{S:List Nat}{R:Rr}
def pE (Z22:Hp)(d:Nat)(D:Dk)(S:List Nat)(f:Nat)(cap:Array Value)(fs:ByteArray->Option Fl)(c:Nat):Prop:=
 ∀A,A1 A d D S->Ext (Z22.off S) (A.off S)->∀R:Rr,(∀Z'2 S',A1 Z'2 d ⟨fs,D.up,D.armed,c⟩ S'->Ext (A.off S) (Z'2.off S')->R (.T #[]) Z'2)->Spec prog f cap A R
theorem Au.ALk {m clock:Nat}{rows:List Row}{T:TypeId}{left keep writes:Int}{c:Nat}(h:Au Z22 d D S m clock rows T left keep writes)(A:D.cnt<=c):Au Z22 d { D with cnt:=c } S m clock rows T left keep writes:=
 { h with cnt:=AfU h.cnt A }
theorem Kj {f1 f2 f3:Nat}{c1 c2 c3:Array Value}{fs IW:ByteArray->Option Fl}{c:Nat}(hd:A1 Z22 d D S)(CA:D.up=true)(e1:Enters prog f1)(e2:Enters prog f2)(e3:Enters prog f3)
  (h1:∀R:Rr,R (.returned (.I 0)) Z22->Spec prog f1 c1 Z22 R) (h2:pE Z22 d D S f2 c2 fs c) (h3:pE Z22 d D S f3 c3 IW c) (hw:Wr Z22 S d D fs IW c R) :
  Spec prog 90 #[.pointer (some ⟨d,0,none⟩),.func (.func f1) #[] c1,.func (.func f2) #[] c2,.func (.func f3) #[] c3] Z22 R:=by
 obtain⟨m,cl,rows,T,a,b,e,hd⟩:=hd;obtain⟨dfs,dup,G,ASb⟩:=D;simp only at CA;subst CA;have kZ:∀(A:Hp) (e':Int),Au A d ⟨dfs,true,G,ASb⟩ S m cl rows T a b e'->Ext (Z22.off S) (A.off S)->∀(x:Int),x=IntKind.i64.wrap (a-1)->AH prog (Instr.storeAt 3 (.pointer (some ⟨d,0+3,none⟩)) (.I x)) A (λ_ E0=>∃(f54:Nat) (SS SU:Array Value),Value.func (.func f2) #[] c2=.func (.func f54) SS SU/\Enters prog f54/\Spec prog f54 (SS++#[]++SU) E0 (BI R (λbB Ha=>bB=(.tuple #[])/\R (.returned (.I 0)) Ha))):=by
  intro A e' h e1 x _;refine h.st (i:=0+3) (up:=true) (armed:=G) (left':=x) Ss rfl (by omega) (by simp[Value.cells,Value.oneCell']) rfl λZ222 h' e2' _=>?_;refine⟨f2,#[],c2,rfl,e2,?_⟩;have:=h2 Z222 ⟨m,cl,rows,T,x,b,e',h'⟩ (e1.trans e2');simp only[Ag4];exact this _ λZ'2 S' hD hE=>⟨rfl,hw.ok Z'2 S' hD (e1.trans (e2'.trans hE))⟩
 refine HQ.start ⟨d,0,rfl,true,AD hd.obj rfl,λh=>by simp at h,λ_=>⟨f1,#[],c1,rfl,e1,?_⟩⟩;simp only[Ag4];refine h1 _ ⟨0,rfl,λh=>absurd rfl h,λ_=>⟨e,AD hd.obj rfl,λEJ _=>?_⟩⟩;refine hd.st (i:=0+5) (up:=true) (armed:=G) (writes':=EJ) uZ rfl (by omega) (by simp[Value.cells,Value.oneCell']) rfl λA h ex _=>?_;refine⟨G,AD h.obj rfl,λht=>⟨a,AD h.obj rfl,λha=>⟨f3,#[],c3,rfl,e3,?_⟩,λ_=>⟨a,AD h.obj rfl,λx hx=>kZ A EJ h ex x hx⟩⟩,λ_=>⟨a,AD h.obj rfl,λx hx=>kZ A EJ h ex x hx⟩⟩;simp only[Ag4];refine h3 A ⟨m,cl,rows,T,a,b,EJ,h⟩ ex _ λZ222 S2 hD hE=>⟨rfl,?_⟩;have hD':=hD;obtain⟨m2,cl2,AXF,T2,a2,b2,e2',hDi⟩:=hD';refine⟨b2,AD hDi.obj rfl,?_⟩;exact eJ hD λZ3 S3 gs hc _ hD3 hE3=>⟨rfl,hw.bad ht Z3 S3 gs hc hD3 (ex.trans (hE.trans hE3))⟩
theorem ALl:Enters prog 180:=λargs w=>call180 args w
theorem ASe:Enters prog 181:=λargs w=>call181 args w
theorem ASf:Enters prog 178:=λargs w=>call178 args w
theorem ASg:Enters prog 179:=λargs w=>call179 args w
theorem AFk:Enters prog 93:=λargs w=>call93 args w
theorem ASh:Enters prog 91:=λargs w=>call91 args w
theorem ASi:Enters prog 92:=λargs w=>call92 args w
theorem ALm:Enters prog 244:=λargs w=>call244 args w
theorem ALn:Enters prog 245:=λargs w=>call245 args w
theorem Kk {c:Nat}(G:D.cnt<=c):pE Z22 d D S 93 #[] D.files c:=λA hd _ R h=>by
 refine QJ.start (h A S ?_ (Ext.refl _));obtain⟨m,cl,rows,T,a,b,e,hd⟩:=hd;exact⟨m,cl,rows,T,a,b,e,hd.ALk G⟩
theorem uc {L M:List ByteArray}(G:L.Nodup)(h:∀x∈L,x∈M):L.length<=M.length:=by
 induction L generalizing M with
 | nil=>simp
 | cons a L ih=>
  rw[Afe]at G;obtain⟨m1,m2,rfl⟩:=Ag5 (h a (by simp));have:=ih G.2 (M:=m1++m2) λx hx=>by
   have A:=h x (by simp[hx]);simp only[Ae9,Ae5]at A ⊢;rcases A with A|rfl|A
   .exact .inl A
   .exact absurd hx G.1
   .exact .inr A
  simp only[Aet,Aez]at this ⊢;omega
def aL (D:Dk):Prop:=D.cnt<1048576\/∃F:List ByteArray,F.length<1048576/\∀s,(D.files s).isSome=true->s∈F
theorem aL.sub {D D':Dk}(h:aL D)(hc:D'.cnt<=D.cnt)(hs:∀s,(D'.files s).isSome=true->(D.files s).isSome=true):aL D':=by
 rcases h with h|⟨F,A,G⟩
 .exact .inl (by omega)
 .exact .inr ⟨F,A,λs h=>G s (hs s h)⟩
theorem ud {rows:List Row}(G:D.files=Row.look rows)(hn:(rows.map (·.name)).Nodup)(hc:rows.length<=D.cnt)(h:aL D):rows.length<1048576:=by
 rcases h with h|⟨F,h1,A⟩
 .omega
 .have:=uc hn (M:=F) λs hs=>A s (by
   rw[G,Row.look];cases hh:rows.find? (λr=>decide (r.name=s)) with
   | some r=>rfl
   | none=>
    obtain⟨r,hr,rfl⟩:=AfC.1 hs;have:=AhK.1 hh r hr;simp at this)
  rw[AfO]at this;omega
theorem aM {s:ByteArray}{p:Option Addr}{n c b0 b1 b2:Nat}(hd:A1 Z22 d D S)(h0:(Z22.off S) b0=some (.cells #[.pointer (some ⟨d,0,none⟩)] 36 (0,0)))(h1:(Z22.off S) b1=some (.cells #[.string s] 9 (0,0)))
  (h2:(Z22.off S) b2=some (.cells #[.slice p n c] 79 (0,0))) (hn:Ab s=true) (hc:aL D) (A:((D.files s).getD ⟨[],0⟩).data.length+n<=4194304) (h:R (.returned (.I 0)) Z22) :
  Spec prog 181 #[.pointer (some ⟨b1,0,none⟩),.pointer (some ⟨b0,0,none⟩),.pointer (some ⟨b2,0,none⟩)] Z22 R:=by
 obtain⟨m,cl,rows,T,a,b,e,hd⟩:=hd;have bP:=Hp.AI.1 h0;have Pf:=Hp.AI.1 h1;have h2':=Hp.AI.1 h2;have WB:(rows.map (·.name)).Nodup:=by
  have:=hd.map.nodup;rw[Afg]at this;have e:(rows.map ((λe:MapEntry=>e.key) ∘ Row.CP))=(rows.map (·.name)).map Value.string:=by rw[Afg];rfl
  rw[e,List.Nodup,AgD]at this;exact this.imp λAR e=>AR (by rw[e])
 have uf:=ud hd.files WB hd.cnt hc;refine H7.start ⟨s,AD Pf.2 rfl,Mr ⟨_,rfl,λhf=>(by rw[hn]at hf;cases hf),λ_=>⟨_,AD bP.2 rfl,d,0,rfl,some m,AD hd.obj rfl,s,AD Pf.2 rfl,hd.look (λ_ I3=>⟨none,rfl,λ_=>?_,λG=>by simp at G⟩) λr1 r r2 Gf GO I3=>⟨_,rfl,λG=>by simp at G,λ_=>?_⟩⟩⟩⟩
 .refine⟨_,AD bP.2 rfl,d,0,rfl,some m,AD hd.obj rfl,_,Y7 hd.map,λG=>?_,λ_=>⟨p,n,c,AD h2'.2 rfl,λG=>?_,λ_=>⟨λG=>by simp at G,λ_=>h⟩⟩⟩
  .simp at G;omega
  .rw[I3]at A;simp at A;omega
 .rw[I3]at A;simp only[AhQ]at A;have hr:=hd.row r (by simp[Gf]);refine⟨λ_=>⟨p,n,c,AD h2'.2 rfl,r.f,0,rfl,r.p,r.n,r.c,AD hr.obj rfl,by unfold AK;simp only[Row.n];omega,λG=>?_,λ_=>h⟩,λG=>by simp at G⟩;simp only[Row.n]at G;omega
theorem G4 {o:Obj}{b:Nat}(hd:A1 Z22 d D S)(hb:Z22 b=none):((Z22.set b o).off S) b=some o/\A1 (Z22.set b o) d D S/\Ext (Z22.off S) ((Z22.set b o).off S):=by
 have A:b ∉ S:=λG=>hd.known _ G hb;exact⟨by rw[Hp.GJ A,Hp.AA],hd.mono (.set hb),(Ext.set hb).off S⟩
theorem Su {s:ByteArray}{p:Option Addr}{n c:Nat}{xs:List Int}(hd:A1 Z22 d D S)(CA:D.up=true)(hn:Ab s=true)(hc:aL D)(hx:Be .u8 (Z22.off S) p n xs)(A:((D.files s).getD ⟨[],0⟩).data.length+n<=4194304)
  (hw:Wr Z22 S d D (E6 D.files s xs) (E6 D.files s xs) (D.cnt+1) R):Spec prog 110 #[.pointer (some ⟨d,0,none⟩),.string s,.slice p n c] Z22 R:=by
 refine Jo.start λb3 To b4 pF b5 mF=>?_;obtain⟨q3,d3,x3⟩:=G4 (o:=.cells #[.pointer (some ⟨d,0,none⟩)] 36 (0,0)) hd To;obtain⟨q4,d4,x4⟩:=G4 (o:=.cells #[.string s] 9 (0,0)) d3 pF;obtain⟨q5,d5,x5⟩:=G4 (o:=.cells #[.slice p n c] 79 (0,0)) d4 mF;have gU:=x5 _ _ (x4 _ _ q3);have q4':=x5 _ _ q4;have E4:=hx.mono (x3.trans (x4.trans x5));refine⟨_,AD (Hp.AI.1 gU).2 rfl,Kj d5 CA ASe ALl ALl (λR h=>aM d5 gU q4' q5 hn hc A h) (λZ12 bU G R h=>Qo hn bU (G _ _ gU) (G _ _ q4') (G _ _ q5) (E4.mono G) A h)
  (λZ12 bU G R h=>Qo hn bU (G _ _ gU) (G _ _ q4') (G _ _ q5) (E4.mono G) A h) ⟨λZ'2 S' hD hE=>⟨0,rfl,hw.ok Z'2 S' hD (x3.trans (x4.trans (x5.trans hE)))⟩,λha Z'2 S' gs hg hD hE=>⟨60,rfl,hw.bad ha Z'2 S' gs hg hD (x3.trans (x4.trans (x5.trans hE)))⟩⟩⟩
theorem jf {s:ByteArray}{f:Fl}{b0 b1:Nat}(h0:(Z22.off S) b0=some (.cells #[.pointer (some ⟨d,0,none⟩)] 36 (0,0)))(h1:(Z22.off S) b1=some (.cells #[.string s] 9 (0,0)))(hf:D.files s=some f):
  pE Z22 d D S 179 #[.pointer (some ⟨b0,0,none⟩),.pointer (some ⟨b1,0,none⟩)] (A8 D.files s (some ⟨f.data,f.data.length⟩)) D.cnt:=λZ12 hd hx R h=>by
 obtain⟨m,cl,rows,T,a,b,e,hd⟩:=hd;have bP:=Hp.AI.1 (hx _ _ h0);have Pf:=Hp.AI.1 (hx _ _ h1);refine Jk.start ⟨_,AD bP.2 rfl,d,0,rfl,some m,AD hd.obj rfl,s,AD Pf.2 rfl,hd.look (λhn A=>(by rw[hf]at A;cases A)) λr1 r r2 Gf GO A=>⟨_,rfl,r.f,0,rfl,r.p,r.n,r.c,?_⟩⟩;subst Gf;have G:=hd.row r (by simp);have Hh:=hd.out r (by simp);rw[hf]at A;cases A;refine⟨AD G.obj rfl,AH.store (v:=.I r.n) Ss G.obj rfl (by simp) (by simp[Value.cells,Value.oneCell']) ?_⟩;have hw:F0 #[Value.slice r.p r.n r.c,.I r.fl.HU] (0+1) (Value.int .i64 r.n).cells.toList=#[.slice r.p r.n r.c,.I r.n]:=rfl;rw[hw];have key:=hd.change (Z'2:=Z12.set r.f (.cells #[.slice r.p r.n r.c,.I r.n] r.T (0,0))) (r':={ r with fl:=⟨r.fl.data,r.n⟩ }) rfl rfl rfl
  ⟨Hp.AA _ _ _,Own.loc G.own λb hb=>Hp.AB λe=>Hh.1 (e▸hb),Ae1 _,G.small,G.nm⟩ Hh.1 (λb u hb=>by
   have h3:=Hp.AI.1 hb;exact Hp.AI.2 ⟨h3.1,by rw[Hp.AB λe=>h3.1 (by simp[Row.blocks,e])];exact h3.2⟩)
 rw[GO]at key;exact h _ _ ⟨_,_,_,_,_,_,_,key.1⟩ key.2
theorem Xk {s:ByteArray}{f:Fl}(hd:A1 Z22 d D S)(CA:D.up=true)(hn:Ab s=true)(hf:D.files s=some f)
  (hw:Wr Z22 S d D (A8 D.files s (some ⟨f.data,f.data.length⟩)) D.files D.cnt R):Spec prog 109 #[.pointer (some ⟨d,0,none⟩),.string s] Z22 R:=by
 refine Lx.start λb3 To b4 pF=>?_;obtain⟨q3,d3,x3⟩:=G4 (o:=.cells #[.pointer (some ⟨d,0,none⟩)] 36 (0,0)) hd To;obtain⟨q4,d4,x4⟩:=G4 (o:=.cells #[.string s] 9 (0,0)) d3 pF;have G:=x4 _ _ q3;refine⟨_,AD (Hp.AI.1 G).2 rfl,Kj d4 CA ASf ASg AFk (λR h=>Jl.start ⟨_,AD (Hp.AI.1 G).2 rfl,s,AD (Hp.AI.1 q4).2 rfl,IP d4 (λA=>by rw[hn]at A;cases A) (λ_ A=>by rw[hf]at A;cases A) λf' _ _=>⟨0,rfl,h⟩⟩)
  (jf G q4 hf) (Kk (Ae1 _)) ⟨λZ'2 S' hD hE=>⟨0,rfl,hw.ok Z'2 S' hD (x3.trans (x4.trans hE))⟩,λha Z'2 S' gs hg hD hE=>⟨60,rfl,hw.bad ha Z'2 S' gs hg hD (x3.trans (x4.trans hE))⟩⟩⟩
theorem Au.ASj {m cl:Nat}{r1 r2:List Row}{r:Row}{T:TypeId}{a b e:Int}(hd:Au Z22 d D S m cl (r1++r::r2) T a b e){Z'2:Hp}(hσ:∀b,b≠m->Z'2 b=Z22 b){cl':Nat}(hm:Ak Z'2 m ((r1++r2).map Row.CP) cl'):
  Au Z'2 d { D with files:=A8 D.files r.name none } (TwW.FX d m (r1++r2)) m cl' (r1++r2) T a b e/\Ext (Z22.off S) (Z'2.off (TwW.FX d m (r1++r2))):=by
 have G:∀x∈r1++r2,x∈r1++r::r2:=λx A=>by
  rcases Ae9.1 A with h|h<;>simp[h]
 refine hd.uX hσ hm (λx A=>hd.row x (G x A)) (λx A b hb=>⟨hd.Sn (G x A) hb,λe=>(hd.out x (G x A)).2.1 (e▸hb),λe=>(hd.out x (G x A)).2.2 (e▸hb)⟩) (λx A=>(hd.out x (G x A)).1) ?_ ?_ ?_
 .exact hd.sep.sublist (AhW (AhM ..) _)
 .rw[hd.files,Row.eG hd.names]
 .have:=hd.cnt;simp at this ⊢;omega
theorem aN {s:ByteArray}{f:Fl}{b0 b1:Nat}(h0:(Z22.off S) b0=some (.cells #[.pointer (some ⟨d,0,none⟩)] 36 (0,0)))(h1:(Z22.off S) b1=some (.cells #[.string s] 9 (0,0)))(hf:D.files s=some f):
  pE Z22 d D S 92 #[.pointer (some ⟨b0,0,none⟩),.pointer (some ⟨b1,0,none⟩)] (A8 D.files s none) D.cnt:=λZ12 hd A R h=>by
 obtain⟨m,cl,rows,T,a,b,e,hd⟩:=hd;have bP:=Hp.AI.1 (A _ _ h0);have Pf:=Hp.AI.1 (A _ _ h1);refine H9.start ⟨_,AD bP.2 rfl,d,0,rfl,some m,AD hd.obj rfl,s,AD Pf.2 rfl,IM (T:=91) hd.map (λhn=>?_) (λl1 x l2 hl A Z'2 G hm=>?_) rfl⟩
 .exfalso;rw[hd.files,Row.Es (Jw hn)]at hf;cases hf
 .obtain⟨r1,r,r2,rfl,rfl,rfl,rfl⟩:=FY hl;have key:=hd.ASj (Z'2:=Z'2) (λb hb=>by rw[G,Hp.AB hb]) (by simpa using hm);rw[Hn.1 A]at key;exact h _ _ ⟨_,_,_,_,_,_,_,key.1⟩ key.2
theorem Sv {s:ByteArray}{f:Fl}(hd:A1 Z22 d D S)(CA:D.up=true)(hn:Ab s=true)(hf:D.files s=some f)
  (hw:Wr Z22 S d D (A8 D.files s none) D.files D.cnt R):Spec prog 31 #[.pointer (some ⟨d,0,none⟩),.string s] Z22 R:=by
 refine Gq.start λb3 To b4 pF=>?_;obtain⟨q3,d3,x3⟩:=G4 (o:=.cells #[.pointer (some ⟨d,0,none⟩)] 36 (0,0)) hd To;obtain⟨q4,d4,x4⟩:=G4 (o:=.cells #[.string s] 9 (0,0)) d3 pF;have G:=x4 _ _ q3;refine⟨_,AD (Hp.AI.1 G).2 rfl,Kj d4 CA ASh ASi AFk (λR h=>Cg.start ⟨_,AD (Hp.AI.1 G).2 rfl,s,AD (Hp.AI.1 q4).2 rfl,IP d4 (λA=>by rw[hn]at A;cases A) (λ_ A=>by rw[hf]at A;cases A) λf' _ _=>⟨0,rfl,h⟩⟩)
  (aN G q4 hf) (Kk (Ae1 _)) ⟨λZ'2 S' hD hE=>⟨0,rfl,hw.ok Z'2 S' hD (x3.trans (x4.trans hE))⟩,λha Z'2 S' gs hg hD hE=>⟨60,rfl,hw.bad ha Z'2 S' gs hg hD (x3.trans (x4.trans hE))⟩⟩⟩
def pG (L:List (List Nat)):Prop:=L.Pairwise λa b=>∀x∈a,x ∉ b
theorem Rn {L A:List (List Nat)}(h:L.Perm A)(g:pG L):pG A:=(h.pairwise_iff (fun {x y} G b hb Ll=>G b Ll hb)).1 g
theorem Ro {rows:List Row}:(rows.Pairwise λr s=>∀b∈r.blocks,b ∉ s.blocks)↔pG (rows.map Row.blocks):=by rw[pG,AgD]
theorem VB {r q:Row}:∀{r1 r2 q1 q2:List Row},((r1++r::r2).map (·.name)).Nodup->r1++r::r2=q1++q::q2->r.name=q.name->r1=q1/\r=q/\r2=q2
 | [],_,[],_,_,h,_=>by simp at h;exact⟨rfl,h⟩
 | [],r2,c::q1,q2,A,h,G=>by
  simp at h;obtain⟨rfl,rfl⟩:=h;exact absurd G.symm ((I5 (r1:=[]) A).2 q (by simp))
 | c::r1,r2,[],q2,A,h,G=>by
  simp at h;obtain⟨rfl,rfl⟩:=h;exact absurd G.symm ((I5 A).1 c (by simp))
 | c::r1,r2,c'::q1,q2,A,h,G=>by
  simp at h;obtain⟨rfl,h⟩:=h;have:=VB (by simp at A ⊢;exact A.2) h G;exact⟨by rw[this.1],this.2⟩
theorem aO {s t:ByteArray}{f:Fl}{b0 b1 b2:Nat}(hnt:Ab t=true)(h0:(Z22.off S) b0=some (.cells #[.pointer (some ⟨d,0,none⟩)] 36 (0,0)))(h1:(Z22.off S) b1=some (.cells #[.string s] 9 (0,0)))(h2:(Z22.off S) b2=some (.cells #[.string t] 9 (0,0)))(hf:D.files s=some f):
  pE Z22 d D S 245 #[.pointer (some ⟨b0,0,none⟩),.pointer (some ⟨b1,0,none⟩),.pointer (some ⟨b2,0,none⟩)] (A8 (A8 D.files s none) t (some f)) D.cnt:=λZ12 hd A R h=>by
 obtain⟨m,cl,rows,T,a,b,e,hd⟩:=hd;have h0:=A _ _ h0;have h1:=A _ _ h1;have h2:=A _ _ h2;have bP:=Hp.AI.1 h0;have Pf:=Hp.AI.1 h1;have h2':=Hp.AI.1 h2;have n0:b0≠m:=λe=>bP.1 (e▸hd.Qm);have n2:b2≠m:=λe=>h2'.1 (e▸hd.Qm);refine IK.start ⟨_,AD bP.2 rfl,d,0,rfl,some m,AD hd.obj rfl,s,AD Pf.2 rfl,hd.look (λhn I3=>(by rw[hf]at I3;cases I3)) λr1 r r2 Gf GO I3=>⟨_,rfl,_,AD bP.2 rfl,d,0,rfl,some m,AD hd.obj rfl,s,AD Pf.2 rfl,?_⟩⟩;refine IM (T:=91) hd.map (λhn=>?_) (λl1 x l2 hl BD Z222 Yk WJ=>?_) rfl
 .exfalso;rw[hd.files,Row.Es (Jw hn)]at hf;cases hf
 .obtain⟨q1,q,q2,AFl,rfl,rfl,rfl⟩:=FY hl;have WB:=hd.names;rw[Gf]at WB;obtain⟨rfl,rfl,rfl⟩:=VB WB (Gf.symm.trans AFl) (GO.trans (Hn.1 BD).symm);subst Gf;have Fy:∀x∈r1++r2,x∈r1++r::r2:=λx A=>by
   rcases Ae9.1 A with h|h<;>simp[h]
  have Kl:∀x∈r1++r::r2,∀b∈x.blocks,b∈S/\b≠d/\b≠m:=λx A b hb=>⟨hd.Sn A hb,λe=>(hd.out x A).2.1 (e▸hb),λe=>(hd.out x A).2.2 (e▸hb)⟩;have ALo:((r1++r2).map (·.name)).Nodup:=WB.sublist ((AhW (AhM ..) _).map _);rw[hf]at I3;cases I3;have ug:pG ((r::(r1++r2)).map Row.blocks):=Rn (List.perm_middle.map _) (Ro.1 hd.sep);have NV:A8 D.files s none=Row.look (r1++r2):=by rw[hd.files,Row.eG WB,GO]
  have G:(r1++r2).length+1<=D.cnt:=by have:=hd.cnt;simp at this ⊢;omega
  have bV:Ak Z222 m ((r1++r2).map Row.CP) cl:=by simpa using WJ
  refine⟨_,AD (by rw[Yk,Hp.AB n0];exact bP.2) rfl,d,0,rfl,some m,AD (by rw[Yk,Hp.AB (AfT hd.ne)];exact hd.obj) rfl,t,AD (by rw[Yk,Hp.AB n2];exact h2'.2) rfl,FI bV (λA9 Z3 AFm hm=>?_) λk1 x k2 hk jb Z3 AFm hm=>?_⟩
  .have key:=hd.uX (Z'2:=Z3) (rows':=(r1++r2)++[{ r with name:=t,born:=cl }]) (clock':=cl+1) (fs:=A8 (A8 D.files s none) t (some r.fl)) (cnt:=D.cnt) (λb hb=>by rw[AFm,Hp.AB hb,Yk,Hp.AB hb]) (by simpa[Row.CP] using hm) ?_ ?_ ?_ ?_ ?_ ?_
   .exact h Z3 _ ⟨_,_,_,_,_,_,_,key.1⟩ key.2
   .intro x A;rcases Ae9.1 A with A|A
    .exact hd.row x (Fy x A)
    .rw[Aev]at A;subst A;have:=hd.row r (by simp);exact⟨this.obj,this.own,this.HU,this.small,hnt⟩
   .intro x A;rcases Ae9.1 A with A|A
    .exact Kl x (Fy x A)
    .rw[Aev]at A;subst A;exact Kl r (by simp)
   .intro x A;rcases Ae9.1 A with A|A
    .exact(hd.out x (Fy x A)).1
    .rw[Aev]at A;subst A;exact(hd.out r (by simp)).1
   .rw[Ro];refine Rn ?_ ug;rw[AfN,AfF (l₁:=r1++r2)];exact(AiA (Row.blocks r) _).symm
   .rw[NV];exact(Row.Xj (r:={ r with name:=t,born:=cl }) (λx A=>Jw A9 x A)).symm
   .simp at G ⊢;omega
  .obtain⟨q1,q,q2,hq,rfl,rfl,rfl⟩:=FY hk;rw[hq]at Fy ALo ug NV G;have key:=hd.uX (Z'2:=Z3) (rows':=q1++{ r with name:=t,born:=q.born }::q2) (clock':=cl) (fs:=A8 (A8 D.files s none) t (some r.fl)) (cnt:=D.cnt) (λb hb=>by rw[AFm,Hp.AB hb,Yk,Hp.AB hb]) (by simpa[Row.CP] using hm) ?_ ?_ ?_ ?_ ?_ ?_
   .exact h Z3 _ ⟨_,_,_,_,_,_,_,key.1⟩ key.2
   .intro x A;rcases Ae9.1 A with A|A
    .exact hd.row x (Fy x (by simp[A]))
    .rcases Ae5.1 A with rfl|A
     .have:=hd.row r (by simp);exact⟨this.obj,this.own,this.HU,this.small,hnt⟩
     .exact hd.row x (Fy x (by simp[A]))
   .intro x A;rcases Ae9.1 A with A|A
    .exact Kl x (Fy x (by simp[A]))
    .rcases Ae5.1 A with rfl|A
     .exact Kl r (by simp)
     .exact Kl x (Fy x (by simp[A]))
   .intro x A;rcases Ae9.1 A with A|A
    .exact(hd.out x (Fy x (by simp[A]))).1
    .rcases Ae5.1 A with rfl|A
     .exact(hd.out r (by simp)).1
     .exact(hd.out x (Fy x (by simp[A]))).1
   .rw[Ro];have h1:pG ((r::(q1++q2)).map Row.blocks):=ug.sublist (((AhW (AhM ..) _).cons₂ r).map _);refine Rn ?_ h1;rw[AfN,AfF,AfF,AfN];exact AhR.symm
   .rw[NV,<-Hn.1 jb];exact(Row.Sp (r':={ r with name:=q.name,born:=q.born }) ALo rfl).symm
   .simp at G ⊢;omega
theorem eK {s t:ByteArray}{f:Fl}(hd:A1 Z22 d D S)(CA:D.up=true)(hn:Ab s=true)(rG:Ab t=true)(hf:D.files s=some f)
  (hw:Wr Z22 S d D (A8 (A8 D.files s none) t (some f)) D.files D.cnt R):Spec prog 200 #[.pointer (some ⟨d,0,none⟩),.string s,.string t] Z22 R:=by
 refine Jh.start λb3 To b4 pF b5 mF=>?_;obtain⟨q3,d3,x3⟩:=G4 (o:=.cells #[.pointer (some ⟨d,0,none⟩)] 36 (0,0)) hd To;obtain⟨q4,d4,x4⟩:=G4 (o:=.cells #[.string s] 9 (0,0)) d3 pF;obtain⟨q5,d5,x5⟩:=G4 (o:=.cells #[.string t] 9 (0,0)) d4 mF;have gU:=x5 _ _ (x4 _ _ q3);have G:=x5 _ _ q4;refine⟨_,AD (Hp.AI.1 gU).2 rfl,Kj d5 CA ALm ALn AFk (λR h=>IJ.start ⟨t,AD (Hp.AI.1 q5).2 rfl,Mr ⟨_,rfl,λA=>(by rw[rG]at A;cases A),λ_=>⟨_,AD (Hp.AI.1 gU).2 rfl,s,AD (Hp.AI.1 G).2 rfl,
   IP d5 (λA=>by rw[hn]at A;cases A) (λ_ A=>by rw[hf]at A;cases A) λf' _ _=>⟨0,rfl,h⟩⟩⟩⟩)
  (aO rG gU G q5 hf) (Kk (Ae1 _)) ⟨λZ'2 S' hD hE=>⟨0,rfl,hw.ok Z'2 S' hD (x3.trans (x4.trans (x5.trans hE)))⟩,λha Z'2 S' gs hg hD hE=>⟨60,rfl,hw.bad ha Z'2 S' gs hg hD (x3.trans (x4.trans (x5.trans hE)))⟩⟩⟩
end
end TwW
end
section
namespace TwW
open Go Tw Go.Proofs.Tryz
section
variable {Z22:Hp}{d:Nat}{D:Dk}{S:List Nat}{R:Rr}
theorem Ny (h:∀d Z'2 S',A1 Z'2 d ⟨λ_=>none,true,false,0⟩ S'->Ext Z22 (Z'2.off S')->R (.returned (.pointer (some ⟨d,0,none⟩))) Z'2):Spec prog 9 #[] Z22 R:=by
 refine dP.start (Db λm G=>⟨m,rfl,λd hd=>?_⟩);have A:m≠d:=λe=>by rw[e,Hp.AA]at hd;cases hd
 have dj:Z22 d=none:=by rw[Hp.AB (AfT A)]at hd;exact hd
 refine h d _ [d,m] ⟨m,0,[],93,0,0,0,⟨rfl,A,by simp,by simp,Hp.AA _ _ _,?_,by simp,rfl,Ae1 _⟩⟩ ((Ext.set G).trans (Ext.set hd) |>.tw (by simp[G,dj]));exact Ak.fresh.loc (Hp.AB A)
theorem mG (hd:A1 Z22 d D S)(h:R (.returned (.bool D.up)) Z22):Spec prog 16 #[.pointer (some ⟨d,0,none⟩)] Z22 R:=by
 obtain⟨m,cl,rows,T,a,b,e,hd⟩:=hd;exact QU.start ⟨d,0,rfl,_,AD hd.obj rfl,h⟩
theorem Xl {s:ByteArray}{f:Fl}(hd:A1 Z22 d D S)(CA:D.up=true)(hn:Ab s=true)(hf:D.files s=some f)
  (h:∀p c Z'2,A2 .u8 (Z22.new Z'2) p f.data.length c f.data->Ext Z22 Z'2->R (.T #[.slice p f.data.length c,.I 0]) Z'2):Spec prog 29 #[.pointer (some ⟨d,0,none⟩),.string s] Z22 R:=by
 have dj:=hd;obtain⟨m,cl,rows,T,a,b,e,hdi⟩:=dj;refine L5.start ⟨d,0,rfl,_,AD hdi.obj rfl,λA=>(by rw[CA]at A;cases A),λ_=>IP hd (λA=>by rw[hn]at A;cases A) (λ_ A=>by rw[hf]at A;cases A) λf' _ _=>⟨0,rfl,λA=>absurd rfl A,λ_ PS hb=>?_⟩⟩;have WC:=hdi.mono (Z'2:=Z22.set PS (.cells #[] 5 (0,0))) (.set hb);refine⟨some m,AD WC.obj rfl,WC.look (λ_ G=>by rw[hf]at G;cases G) λr1 r r2 Gf GO G=>⟨_,rfl,r.f,0,rfl,r.p,r.n,r.c,?_⟩⟩;rw[hf]at G;cases G;have hr:=WC.row r (by simp[Gf]);refine⟨AD hr.obj rfl,?_⟩;have EW:r.n<=140737488355328:=AfU hr.small (by decide);have hq:∀a:Addr,(some (⟨PS,0,none⟩:Addr))=some a->Z22 a.block=none:=λa ha=>by cases ha;exact hb
 refine CF (T:=79) Own.empty (Own.rd hr.own) Ej.Gz (by rw[AfW,Afa];exact EW) λp' c' Z'2 Bu Hm=>⟨p',_,c',rfl,?_⟩;rw[AfW]at Bu ⊢;exact h p' c' Z'2 (Own.HL Bu (EC hq Hm (.set hb))) (Ek hq Hm (.set hb))
theorem ALp {s:ByteArray}{h:Nat}(G:h<=s.size):YF prog (Instr.sliceAt 9 (.string s) none (some (.I (h:Int))) none) Z22 (.string (s.extract 0 h)):=λw _=>by
 rw[run_sliceAt_string (h:=underlying9)];have A:(h:Int)<=s.size:=by omega
 simp[Instr.slice,run_underlying underlying9,Instr.sliceBounds,run_sliceBound,A,Result.andThen]
theorem AAU {s:ByteArray}{l:Nat}(G:l<=s.size):YF prog (Instr.sliceAt 9 (.string s) (some (.I (l:Int))) none none) Z22 (.string (s.extract l s.size)):=λw _=>by
 rw[run_sliceAt_string (h:=underlying9)];have A:(l:Int)<=s.size:=by omega
 simp[Instr.slice,run_underlying underlying9,Instr.sliceBounds,run_sliceBound,A,Result.andThen]
def Am (s t:ByteArray):Bool:=decide (t.data.toList <+: s.data.toList)
theorem eM {s:ByteArray}{i j:Nat}:(s.extract i j).data.toList=(s.data.toList.drop i).take (j-i):=by
 rw[ByteArray.data_extract,Array.toList_extract,List.extract]
theorem VC {a b:ByteArray}:(ByteArray.toList a==ByteArray.toList b)=decide (a.data.toList=b.data.toList):=by
 rw[ByteArray.toList_eq,ByteArray.toList_eq];by_cases h:a.data.toList=b.data.toList
 .simp[h]
 .rw[Aga h];exact Ag1.2 h
theorem VD {s t:ByteArray}(h:R (.returned (.bool (Am s t))) Z22):Spec prog 142 #[.string s,.string t] Z22 R:=by
 have hs:s.data.toList.length=s.size:=rfl;have ht:t.data.toList.length=t.size:=rfl;refine DR.start ⟨λG=>⟨_,ALp (by omega),?_⟩,λA=>?_⟩
 .rw[VC,eM];have:(List.take (t.size-0) (List.drop 0 s.data.toList)=t.data.toList)↔t.data.toList <+: s.data.toList:=by
   rw[Ago,Nat.sub_zero,<-ht];exact⟨λe=>e▸List.take_prefix _ _,λe=>(List.prefix_iff_eq_take.1 e).symm⟩
  rw[show decide (List.take (t.size-0) (List.drop 0 s.data.toList)=t.data.toList)=Am s t from decide_eq_decide.2 this];exact h
 .have:Am s t=false:=by
   unfold Am;rw[AgA];intro e;have:=e.length_le;omega
  rwa[this]at h
theorem pH {s t:ByteArray}(h:R (.returned (.bool (Am s t))) Z22):Spec prog 82 #[.string s,.string t] Z22 R:=
 strings_HasPrefix.start (VD ⟨_,rfl,h⟩)
theorem pI {s t:ByteArray}(G:Am s t=false->R (.T #[.string s,.bool false]) Z22)(h1:Am s t=true->R (.T #[.string (s.extract t.size s.size),.bool true]) Z22):Spec prog 202 #[.string s,.string t] Z22 R:=by
 refine strings_CutPrefix.start (DK.start (VD ⟨_,rfl,λhf=>⟨_,_,rfl,G hf⟩,λA=>⟨_,AAU ?_,_,_,rfl,h1 A⟩⟩));have:t.data.toList <+: s.data.toList:=by simpa[Am] using A
 exact this.length_le
end
end TwW
end
section
namespace Go.Proofs
open Go.Shelf
def Tryz.Sx:Go.Shelf.Ren:=⟨λ|172=>203|244=>248|245=>146|247=>281|279=>219|280=>220|281=>221|282=>222|287=>145|316=>258|171=>260|205=>259|321=>217|322=>218|243=>291|246=>307|283=>276|284=>277|285=>278|286=>279|129=>168|317=>300|318=>301|319=>302|320=>303|337=>311|338=>312|n=>n,λ|9=>9|3=>3|75=>152|76=>291|4=>4|5=>5|167=>300|37=>79|0=>0|85=>365|2=>2|168=>302|53=>23|175=>153|46=>163|210=>344|127=>374|145=>377|143=>375|21=>21|171=>360|173=>362|212=>386|51=>70|20=>20|213=>387|232=>399|233=>400|80=>213|n=>n,λ|15=>1|16=>2|17=>3|18=>6|19=>7|n=>n⟩
theorem Tryz.mH:Go.Proofs.Lays.n172 Tryz.prog Tryz.Sx:={
 mixed:=by kernel_rfl
 f129:=Tryz.func168.trans (Ae4 some (by kernel_rfl))
 f171:=Tryz.func260.trans (Ae4 some (by kernel_rfl))
 f172:=Tryz.func203.trans (Ae4 some (by kernel_rfl))
 f205:=Tryz.func259.trans (Ae4 some (by kernel_rfl))
 f243:=Tryz.func291.trans (Ae4 some (by kernel_rfl))
 f244:=Tryz.func248.trans (Ae4 some (by kernel_rfl))
 f245:=Tryz.func146.trans (Ae4 some (by kernel_rfl))
 f246:=Tryz.func307.trans (Ae4 some (by kernel_rfl))
 f247:=Tryz.func281.trans (Ae4 some (by kernel_rfl))
 f279:=Tryz.func219.trans (Ae4 some (by kernel_rfl))
 f280:=Tryz.func220.trans (Ae4 some (by kernel_rfl))
 f281:=Tryz.func221.trans (Ae4 some (by kernel_rfl))
 f282:=Tryz.func222.trans (Ae4 some (by kernel_rfl))
 f283:=Tryz.func276.trans (Ae4 some (by kernel_rfl))
 f284:=Tryz.func277.trans (Ae4 some (by kernel_rfl))
 f285:=Tryz.func278.trans (Ae4 some (by kernel_rfl))
 f286:=Tryz.func279.trans (Ae4 some (by kernel_rfl))
 f287:=Tryz.func145.trans (Ae4 some (by kernel_rfl))
 f316:=Tryz.func258.trans (Ae4 some (by kernel_rfl))
 f317:=Tryz.func300.trans (Ae4 some (by kernel_rfl))
 f318:=Tryz.func301.trans (Ae4 some (by kernel_rfl))
 f319:=Tryz.func302.trans (Ae4 some (by kernel_rfl))
 f320:=Tryz.func303.trans (Ae4 some (by kernel_rfl))
 f321:=Tryz.func217.trans (Ae4 some (by kernel_rfl))
 f322:=Tryz.func218.trans (Ae4 some (by kernel_rfl))
 f337:=Tryz.func311.trans (Ae4 some (by kernel_rfl))
 f338:=Tryz.func312.trans (Ae4 some (by kernel_rfl))
 t0:=Tryz.underlying0
 a0:=Tryz.isAgg0
 z0:=Tryz.sizeOf0
 v0:=Tryz.zeroValue0
 t2:=Tryz.underlying2
 a2:=Tryz.isAgg2
 z2:=Tryz.sizeOf2
 v2:=Tryz.zeroValue2
 t3:=Tryz.underlying3
 a3:=Tryz.isAgg3
 z3:=Tryz.sizeOf3
 v3:=Tryz.zeroValue3
 t4:=Tryz.underlying4
 a4:=Tryz.isAgg4
 z4:=Tryz.sizeOf4
 v4:=Tryz.zeroValue4
 t5:=Tryz.underlying5
 a5:=Tryz.isAgg5
 z5:=Tryz.sizeOf5
 v5:=Tryz.zeroValue5
 t9:=Tryz.underlying9
 a9:=Tryz.isAgg9
 z9:=Tryz.sizeOf9
 v9:=Tryz.zeroValue9
 t20:=Tryz.underlying20
 a20:=Tryz.isAgg20
 z20:=Tryz.sizeOf20
 v20:=Tryz.zeroValue20
 t21:=Tryz.underlying21
 a21:=Tryz.isAgg21
 z21:=Tryz.sizeOf21
 v21:=Tryz.zeroValue21
 t37:=Tryz.underlying79
 a37:=Tryz.isAgg79
 z37:=Tryz.sizeOf79
 v37:=Tryz.zeroValue79
 t46:=Tryz.underlying163
 a46:=Tryz.isAgg163
 z46:=Tryz.sizeOf163
 v46:=Tryz.zeroValue163
 t51:=Tryz.underlying70
 a51:=Tryz.isAgg70
 z51:=Tryz.sizeOf70
 v51:=Tryz.zeroValue70
 t53:=Tryz.underlying23
 a53:=Tryz.isAgg23
 z53:=Tryz.sizeOf23
 v53:=Tryz.zeroValue23
 t75:=Tryz.underlying152
 a75:=Tryz.isAgg152
 z75:=Tryz.sizeOf152
 v75:=Tryz.zeroValue152
 t76:=Tryz.underlying291
 a76:=Tryz.isAgg291
 z76:=Tryz.sizeOf291
 v76:=Tryz.zeroValue291
 t85:=Tryz.underlying365
 a85:=Tryz.isAgg365
 z85:=Tryz.sizeOf365
 v85:=Tryz.zeroValue365
 t127:=Tryz.underlying374
 a127:=Tryz.isAgg374
 z127:=Tryz.sizeOf374
 v127:=Tryz.zeroValue374
 t143:=Tryz.underlying375
 a143:=Tryz.isAgg375
 z143:=Tryz.sizeOf375
 v143:=Tryz.zeroValue375
 t145:=Tryz.underlying377
 a145:=Tryz.isAgg377
 z145:=Tryz.sizeOf377
 v145:=Tryz.zeroValue377
 t167:=Tryz.underlying300
 a167:=Tryz.isAgg300
 z167:=Tryz.sizeOf300
 v167:=Tryz.zeroValue300
 t168:=Tryz.underlying302
 a168:=Tryz.isAgg302
 z168:=Tryz.sizeOf302
 v168:=Tryz.zeroValue302
 t171:=Tryz.underlying360
 a171:=Tryz.isAgg360
 z171:=Tryz.sizeOf360
 v171:=Tryz.zeroValue360
 t173:=Tryz.underlying362
 a173:=Tryz.isAgg362
 z173:=Tryz.sizeOf362
 v173:=Tryz.zeroValue362
 t175:=Tryz.underlying153
 a175:=Tryz.isAgg153
 z175:=Tryz.sizeOf153
 v175:=Tryz.zeroValue153
 t210:=Tryz.underlying344
 a210:=Tryz.isAgg344
 z210:=Tryz.sizeOf344
 v210:=Tryz.zeroValue344
 t212:=Tryz.underlying386
 a212:=Tryz.isAgg386
 z212:=Tryz.sizeOf386
 v212:=Tryz.zeroValue386
 t213:=Tryz.underlying387
 a213:=Tryz.isAgg387
 z213:=Tryz.sizeOf387
 t232:=Tryz.underlying399
 a232:=Tryz.isAgg399
 z232:=Tryz.sizeOf399
 v232:=Tryz.zeroValue399
 t233:=Tryz.underlying400
 a233:=Tryz.isAgg400
 z233:=Tryz.sizeOf400
 v233:=Tryz.zeroValue400
 g15:=by kernel_rfl
 g16:=by kernel_rfl
 g17:=by kernel_rfl
 g18:=by kernel_rfl
 g19:=by kernel_rfl }
open Go.RowKit in
theorem Tryz.strconv_Atoi (s:ByteArray)(n:Int)(A:s.size<=18)(h:Lib.atoi s.data.toList=some n)(w:World):
 Calls Tryz.prog 203 #[.string s] w λe G=>e=.T #[.I n,.nilIface]/\∃t,G=Lib.bytesWorld w 5 t:=Any.strconv_Atoi Tryz.mH s n A h w
def Tryz.eO:Go.Shelf.Ren:=⟨λ|283=>276|n=>n,λ|3=>3|9=>9|4=>4|n=>n,λ|n=>n⟩
theorem Tryz.AAV:Go.Proofs.Lays.n283 Tryz.prog Tryz.eO:={
 mixed:=by kernel_rfl
 f283:=Tryz.func276.trans (Ae4 some (by kernel_rfl))
 t3:=Tryz.underlying3
 a3:=Tryz.isAgg3
 z3:=Tryz.sizeOf3
 v3:=Tryz.zeroValue3
 t4:=Tryz.underlying4
 a4:=Tryz.isAgg4
 z4:=Tryz.sizeOf4
 v4:=Tryz.zeroValue4
 t9:=Tryz.underlying9
 a9:=Tryz.isAgg9
 z9:=Tryz.sizeOf9
 v9:=Tryz.zeroValue9 }
open Go.Lib in
theorem Tryz.internal_strconv_small (i:Nat)(h:i<100)(w:World):
 Calls Tryz.prog 276 #[.I i] w λe A=>e=.returned (.string ⟨(Lib.decDigits i).toArray⟩)/\A=w:=Any.internal_strconv_small Tryz.AAV i h w
def Tryz.aP:Go.Shelf.Ren:=⟨λ|284=>277|129=>168|317=>300|318=>301|n=>n,λ|53=>23|3=>3|212=>386|0=>0|4=>4|46=>163|5=>5|9=>9|n=>n,λ|17=>3|n=>n⟩
theorem Tryz.uh:Go.Proofs.LaysM.n284 Tryz.prog Tryz.aP:={
 mixed:=by kernel_rfl
 f129:=Tryz.func168.trans (Ae4 some (by kernel_rfl))
 f284:=Tryz.func277.trans (Ae4 some (by kernel_rfl))
 f317:=Tryz.func300.trans (Ae4 some (by kernel_rfl))
 f318:=Tryz.func301.trans (Ae4 some (by kernel_rfl))
 t0:=Tryz.underlying0
 a0:=Tryz.isAgg0
 z0:=Tryz.sizeOf0
 v0:=Tryz.zeroValue0
 t3:=Tryz.underlying3
 a3:=Tryz.isAgg3
 z3:=Tryz.sizeOf3
 v3:=Tryz.zeroValue3
 t4:=Tryz.underlying4
 a4:=Tryz.isAgg4
 z4:=Tryz.sizeOf4
 v4:=Tryz.zeroValue4
 t5:=Tryz.underlying5
 a5:=Tryz.isAgg5
 z5:=Tryz.sizeOf5
 v5:=Tryz.zeroValue5
 t9:=Tryz.underlying9
 a9:=Tryz.isAgg9
 z9:=Tryz.sizeOf9
 v9:=Tryz.zeroValue9
 t46:=Tryz.underlying163
 a46:=Tryz.isAgg163
 z46:=Tryz.sizeOf163
 v46:=Tryz.zeroValue163
 t53:=Tryz.underlying23
 a53:=Tryz.isAgg23
 z53:=Tryz.sizeOf23
 v53:=Tryz.zeroValue23
 t212:=Tryz.underlying386
 a212:=Tryz.isAgg386
 z212:=Tryz.sizeOf386
 v212:=Tryz.zeroValue386
 g17:=by kernel_rfl
 i0:=by kernel_rfl
 i3:=by kernel_rfl
 i4:=by kernel_rfl
 i5:=by kernel_rfl
 i9:=by kernel_rfl
 i46:=by kernel_rfl
 i53:=by kernel_rfl
 i212:=by kernel_rfl
 m17:=by kernel_rfl }
open Go.Lib in
theorem Tryz.internal_strconv_numDigits (u : Nat) (h1 : 1 ≤ u) (h2 : u < 18446744073709551616) (w : World) (ASk : Lib.TabIs Tryz.prog w "internal/strconv.uint64pow10" .u64 Lib.pow10Tab) :
   Calls Tryz.prog 277 #[.U u] w λe w' => e = .returned (.I (Lib.nDigits u)) /\ w' = w := Any.internal_strconv_numDigits Tryz.uh u h1 h2 w ASk
def Tryz.eP:Go.Shelf.Ren:=⟨λ|285=>278|n=>n,λ|37=>79|53=>23|3=>3|4=>4|51=>70|9=>9|5=>5|0=>0|n=>n,λ|n=>n⟩
theorem Tryz.AAW:Go.Proofs.Lays.n285 Tryz.prog Tryz.eP:={
 mixed:=by kernel_rfl
 f285:=Tryz.func278.trans (Ae4 some (by kernel_rfl))
 t0:=Tryz.underlying0
 a0:=Tryz.isAgg0
 z0:=Tryz.sizeOf0
 v0:=Tryz.zeroValue0
 t3:=Tryz.underlying3
 a3:=Tryz.isAgg3
 z3:=Tryz.sizeOf3
 v3:=Tryz.zeroValue3
 t4:=Tryz.underlying4
 a4:=Tryz.isAgg4
 z4:=Tryz.sizeOf4
 v4:=Tryz.zeroValue4
 t5:=Tryz.underlying5
 a5:=Tryz.isAgg5
 z5:=Tryz.sizeOf5
 v5:=Tryz.zeroValue5
 t9:=Tryz.underlying9
 a9:=Tryz.isAgg9
 z9:=Tryz.sizeOf9
 v9:=Tryz.zeroValue9
 t37:=Tryz.underlying79
 a37:=Tryz.isAgg79
 z37:=Tryz.sizeOf79
 v37:=Tryz.zeroValue79
 t51:=Tryz.underlying70
 a51:=Tryz.isAgg70
 z51:=Tryz.sizeOf70
 v51:=Tryz.zeroValue70
 t53:=Tryz.underlying23
 a53:=Tryz.isAgg23
 z53:=Tryz.sizeOf23
 v53:=Tryz.zeroValue23 }
open Go.RowKit Go.Sort Go.Lib in
theorem Tryz.internal_strconv_formatBase10 (FB off cap:Nat)(u:Nat)(d:Array UInt8)(w:World)(hH:Holds (λ(b:UInt8)=>Value.int .u8 (b.toNat:Int)) w FB off d)(hu:u<10^d.size)(A:u<18446744073709551616)(G:d.size<4611686018427387904):
 Calls Tryz.prog 278 #[.slice (some ⟨FB,off,none⟩) d.size cap,.U u] w λe w'=>
  e=.T #[]/\∃(n v':Nat) (dk:Array UInt8),w'=(putRow (λ(b:UInt8)=>Value.int .u8 (b.toNat:Int)) w FB off dk).drewN n/\FmtInv d.size u 0 v' dk:=Any.internal_strconv_formatBase10 Tryz.AAW FB off cap u d w hH hu A G
def Tryz.eQ:Go.Shelf.Ren:=⟨λ|190=>83|125=>95|258=>143|128=>167|129=>168|302=>205|303=>206|304=>207|305=>208|306=>209|307=>210|308=>211|309=>212|310=>213|333=>250|329=>227|330=>228|334=>251|335=>252|336=>253|344=>285|n=>n,λ|31=>81|9=>9|3=>3|46=>163|0=>0|51=>70|53=>23|4=>4|183=>234|182=>233|131=>239|5=>5|218=>316|222=>319|228=>348|229=>164|n=>n,λ|n=>n⟩
theorem Tryz.mI:Go.Proofs.Lays.n190 Tryz.prog Tryz.eQ:={
 mixed:=by kernel_rfl
 f125:=Tryz.func95.trans (Ae4 some (by kernel_rfl))
 f128:=Tryz.func167.trans (Ae4 some (by kernel_rfl))
 f129:=Tryz.func168.trans (Ae4 some (by kernel_rfl))
 f190:=Tryz.func83.trans (Ae4 some (by kernel_rfl))
 f258:=Tryz.func143.trans (Ae4 some (by kernel_rfl))
 f302:=Tryz.func205.trans (Ae4 some (by kernel_rfl))
 f303:=Tryz.func206.trans (Ae4 some (by kernel_rfl))
 f304:=Tryz.func207.trans (Ae4 some (by kernel_rfl))
 f305:=Tryz.func208.trans (Ae4 some (by kernel_rfl))
 f306:=Tryz.func209.trans (Ae4 some (by kernel_rfl))
 f307:=Tryz.func210.trans (Ae4 some (by kernel_rfl))
 f308:=Tryz.func211.trans (Ae4 some (by kernel_rfl))
 f309:=Tryz.func212.trans (Ae4 some (by kernel_rfl))
 f310:=Tryz.func213.trans (Ae4 some (by kernel_rfl))
 f329:=Tryz.func227.trans (Ae4 some (by kernel_rfl))
 f330:=Tryz.func228.trans (Ae4 some (by kernel_rfl))
 f333:=Tryz.func250.trans (Ae4 some (by kernel_rfl))
 f334:=Tryz.func251.trans (Ae4 some (by kernel_rfl))
 f335:=Tryz.func252.trans (Ae4 some (by kernel_rfl))
 f336:=Tryz.func253.trans (Ae4 some (by kernel_rfl))
 f344:=Tryz.func285.trans (Ae4 some (by kernel_rfl))
 t0:=Tryz.underlying0
 a0:=Tryz.isAgg0
 z0:=Tryz.sizeOf0
 v0:=Tryz.zeroValue0
 t3:=Tryz.underlying3
 a3:=Tryz.isAgg3
 z3:=Tryz.sizeOf3
 v3:=Tryz.zeroValue3
 t4:=Tryz.underlying4
 a4:=Tryz.isAgg4
 z4:=Tryz.sizeOf4
 v4:=Tryz.zeroValue4
 t5:=Tryz.underlying5
 a5:=Tryz.isAgg5
 z5:=Tryz.sizeOf5
 v5:=Tryz.zeroValue5
 t9:=Tryz.underlying9
 a9:=Tryz.isAgg9
 z9:=Tryz.sizeOf9
 v9:=Tryz.zeroValue9
 t31:=Tryz.underlying81
 a31:=Tryz.isAgg81
 z31:=Tryz.sizeOf81
 v31:=Tryz.zeroValue81
 t46:=Tryz.underlying163
 a46:=Tryz.isAgg163
 z46:=Tryz.sizeOf163
 v46:=Tryz.zeroValue163
 t51:=Tryz.underlying70
 a51:=Tryz.isAgg70
 z51:=Tryz.sizeOf70
 v51:=Tryz.zeroValue70
 t53:=Tryz.underlying23
 a53:=Tryz.isAgg23
 z53:=Tryz.sizeOf23
 v53:=Tryz.zeroValue23
 t131:=Tryz.underlying239
 a131:=Tryz.isAgg239
 z131:=Tryz.sizeOf239
 v131:=Tryz.zeroValue239
 t182:=Tryz.underlying233
 a182:=Tryz.isAgg233
 z182:=Tryz.sizeOf233
 v182:=Tryz.zeroValue233
 t183:=Tryz.underlying234
 a183:=Tryz.isAgg234
 z183:=Tryz.sizeOf234
 v183:=Tryz.zeroValue234
 t218:=Tryz.underlying316
 a218:=Tryz.isAgg316
 z218:=Tryz.sizeOf316
 v218:=Tryz.zeroValue316
 t222:=Tryz.underlying319
 a222:=Tryz.isAgg319
 z222:=Tryz.sizeOf319
 v222:=Tryz.zeroValue319
 t228:=Tryz.underlying348
 a228:=Tryz.isAgg348
 z228:=Tryz.sizeOf348
 v228:=Tryz.zeroValue348
 t229:=Tryz.underlying164
 a229:=Tryz.isAgg164
 z229:=Tryz.sizeOf164
 v229:=Tryz.zeroValue164 }
open Go.Sort Go.RowKit in
theorem Tryz.slices_Sort_string (FB off cap:Nat)(ss:List (List UInt8))(w:World)(hH:Holds encStr w FB off ss.toArray)(A:FB<w.heap.size)(G:ss.length<4611686018427387904):
 Calls Tryz.prog 83 #[.slice (some ⟨FB,off,none⟩) ss.length cap] w λe w'=>
  e=.T #[]/\∃n os,w'=grow (putRow encStr (Sort.ahead w n) FB off (ss.mergeSort λx y=>decide (x<=y)).toArray) os:=Any.slices_Sort_string Tryz.mI FB off cap ss w hH A G
def Tryz.Sz:Go.Shelf.Ren:=⟨λ|105=>235|212=>271|99=>82|165=>272|166=>273|170=>274|169=>275|263=>296|264=>297|206=>142|240=>298|241=>299|276=>309|277=>310|n=>n,λ|9=>9|3=>3|4=>4|20=>20|0=>0|46=>163|109=>355|5=>5|72=>359|76=>291|51=>70|146=>381|53=>23|148=>383|70=>357|37=>79|75=>152|127=>374|164=>396|80=>213|n=>n,λ|n=>n⟩
theorem Tryz.AAX:Go.Proofs.Lays.n105 Tryz.prog Tryz.Sz:={
 mixed:=by kernel_rfl
 f99:=Tryz.func82.trans (Ae4 some (by kernel_rfl))
 f105:=Tryz.func235.trans (Ae4 some (by kernel_rfl))
 f165:=Tryz.func272.trans (Ae4 some (by kernel_rfl))
 f166:=Tryz.func273.trans (Ae4 some (by kernel_rfl))
 f169:=Tryz.func275.trans (Ae4 some (by kernel_rfl))
 f170:=Tryz.func274.trans (Ae4 some (by kernel_rfl))
 f206:=Tryz.func142.trans (Ae4 some (by kernel_rfl))
 f212:=Tryz.func271.trans (Ae4 some (by kernel_rfl))
 f240:=Tryz.func298.trans (Ae4 some (by kernel_rfl))
 f241:=Tryz.func299.trans (Ae4 some (by kernel_rfl))
 f263:=Tryz.func296.trans (Ae4 some (by kernel_rfl))
 f264:=Tryz.func297.trans (Ae4 some (by kernel_rfl))
 f276:=Tryz.func309.trans (Ae4 some (by kernel_rfl))
 f277:=Tryz.func310.trans (Ae4 some (by kernel_rfl))
 t0:=Tryz.underlying0
 a0:=Tryz.isAgg0
 z0:=Tryz.sizeOf0
 v0:=Tryz.zeroValue0
 t3:=Tryz.underlying3
 a3:=Tryz.isAgg3
 z3:=Tryz.sizeOf3
 v3:=Tryz.zeroValue3
 t4:=Tryz.underlying4
 a4:=Tryz.isAgg4
 z4:=Tryz.sizeOf4
 v4:=Tryz.zeroValue4
 t5:=Tryz.underlying5
 a5:=Tryz.isAgg5
 z5:=Tryz.sizeOf5
 v5:=Tryz.zeroValue5
 t9:=Tryz.underlying9
 a9:=Tryz.isAgg9
 z9:=Tryz.sizeOf9
 v9:=Tryz.zeroValue9
 t20:=Tryz.underlying20
 a20:=Tryz.isAgg20
 z20:=Tryz.sizeOf20
 v20:=Tryz.zeroValue20
 t37:=Tryz.underlying79
 a37:=Tryz.isAgg79
 z37:=Tryz.sizeOf79
 v37:=Tryz.zeroValue79
 t46:=Tryz.underlying163
 a46:=Tryz.isAgg163
 z46:=Tryz.sizeOf163
 v46:=Tryz.zeroValue163
 t51:=Tryz.underlying70
 a51:=Tryz.isAgg70
 z51:=Tryz.sizeOf70
 v51:=Tryz.zeroValue70
 t53:=Tryz.underlying23
 a53:=Tryz.isAgg23
 z53:=Tryz.sizeOf23
 v53:=Tryz.zeroValue23
 t70:=Tryz.underlying357
 a70:=Tryz.isAgg357
 z70:=Tryz.sizeOf357
 v70:=Tryz.zeroValue357
 t72:=Tryz.underlying359
 a72:=Tryz.isAgg359
 z72:=Tryz.sizeOf359
 v72:=Tryz.zeroValue359
 t75:=Tryz.underlying152
 a75:=Tryz.isAgg152
 z75:=Tryz.sizeOf152
 v75:=Tryz.zeroValue152
 t76:=Tryz.underlying291
 a76:=Tryz.isAgg291
 z76:=Tryz.sizeOf291
 v76:=Tryz.zeroValue291
 t109:=Tryz.underlying355
 a109:=Tryz.isAgg355
 z109:=Tryz.sizeOf355
 v109:=Tryz.zeroValue355
 t127:=Tryz.underlying374
 a127:=Tryz.isAgg374
 z127:=Tryz.sizeOf374
 v127:=Tryz.zeroValue374
 t146:=Tryz.underlying381
 a146:=Tryz.isAgg381
 z146:=Tryz.sizeOf381
 v146:=Tryz.zeroValue381
 t148:=Tryz.underlying383
 a148:=Tryz.isAgg383
 z148:=Tryz.sizeOf383
 v148:=Tryz.zeroValue383
 t164:=Tryz.underlying396
 a164:=Tryz.isAgg396
 z164:=Tryz.sizeOf396
 v164:=Tryz.zeroValue396 }
theorem Tryz.Qp:Builder.Extra Tryz.prog Tryz.Sz:={
 sizeBuilder:=by kernel_rfl
 liesBuilder:=by kernel_rfl
 t5:=Tryz.underlying5
 a5:=Tryz.isAgg5
 z5:=Tryz.sizeOf5
 v5:=Tryz.zeroValue5
 infoByte:=by kernel_rfl
 cellsByte:=by kernel_rfl
 sizeByte:=by kernel_rfl
 neB5:=by decide }
open Go.RowKit Go.Lib in
theorem Tryz.strings_Repeat (s:ByteArray)(c:Nat)(w:World)(G:c<=9223372036854775807)(A:s.size*c<=140737488355328):
 Calls Tryz.prog 235 #[.string s,.I c] w λe w'=>e=.returned (.string ⟨(Lib.repeatL s.data.toList c).toArray⟩)/\Below w.heap.size w w':=Any.strings_Repeat Tryz.AAX Tryz.Qp s c w G A
open Go.RowKit Go.Sort in
theorem Tryz.slices_Sort_string_none (p:Option Addr)(cap:Nat)(w:World):
 Calls Tryz.prog 83 #[.slice p 0 cap] w λe A=>e=.T #[]/\A=w:=Any.slices_Sort_string_none Tryz.mI p cap w
end Go.Proofs
end
section
namespace TwW
open Go Tw Go.Proofs.Tryz
abbrev VE (l:List UInt8):Value:=.string ⟨l.toArray⟩
def Eu (xs:List (List UInt8)):List (List UInt8):=xs.mergeSort λx y=>decide (x<=y)
theorem HF (xs:List (List UInt8)):(Eu xs).length=xs.length:=by simp[Eu]
theorem Nz {α:Type}[Inhabited α](enc:α->Value)(F:Array α)(arr:Array Value)(o j:Nat):(Sort.putCells enc o F arr)[j]?=if o<=j/\j<o+F.size then(arr[j]?).map λ_=>enc F[j-o]! else arr[j]?:=by
 simp only[Sort.putCells,Aie];by_cases h:o<=j/\j<o+F.size
 .rw[Aex h];simp[h]
 .rw[Aeu h];cases arr[j]? with
  | none=>rfl
  | some v=>simp only[Afv];rw[Aeu h]
section
variable {Z22:Hp}{R:Rr}
theorem Km {q:Option Addr}{m d:Nat}{xs:List (List UInt8)}(ho:Own 1 Z22 q m d (xs.map VE))(hm:xs.length=m)(Dz:m<4611686018427387904)
  (h:∀Z'2,Own 1 Z'2 q m d ((Eu xs).map VE)->Ext (Z22.del q) (Z'2.del q)->R (.T #[]) Z'2):Spec prog 83 #[.slice q m d] Z22 R:=by
 intro w F hs hF;by_cases gR:m=0
 .subst gR;have hx:xs=[]:=Ae6 hm;subst hx;have WW:=Go.Proofs.Tryz.slices_Sort_string_none q d w;refine WW.mono ?_
  rintro e w' ⟨rfl,rfl⟩
  exact⟨Z22,h Z22 (by simpa[Eu] using ho) (Ext.refl _),hs,λb hb=>⟨(hF b hb).2,rfl⟩,.same rfl rfl rfl,rfl,Ae1 _⟩
 .obtain⟨b,o,arr,T,rfl,hb,Xf,nS,KI⟩:∃b o arr T,q=some ⟨b,o,none⟩/\Z22 b=some (.cells arr T (0,0))/\m<=d/\o+d*1<=arr.size/\(arr.toList.drop o).take (m*1)=xs.map VE:=by
   rcases ho.2.2 with ⟨_,h2,_⟩|h
   .exact absurd h2 gR
   .exact h
  have hw:=hs _ _ hb;have uH:∀(j:Nat) (hj:j<xs.length),arr[o+j]?=some (VE xs[j]):=λj hj=>by
   have h1:(xs.map VE)[j]?=some (VE xs[j]):=by simp[hj]
   rw[<-KI,AfP,Aex (by omega),AfX,Afc]at h1;exact h1
  have hH:Sort.Holds Go.Proofs.encStr w b o xs.toArray:=λj hj=>by
   have YL:j<xs.length:=by simpa using hj
   refine⟨?_,by simp[World.frozen?,hw]⟩;have e1:xs.toArray[j]! = xs[j]:=by simp[YL]
   simp only[World.cell?,hw,e1];simpa using uH j YL
  have A:b<w.heap.size:=(AfA.1 hw).1;have WW:=Go.Proofs.Tryz.slices_Sort_string b o d xs w hH A (by omega);rw[hm]at WW;refine WW.mono ?_
  rintro e w' ⟨rfl,n,os,rfl⟩
  let F2:Array (List UInt8):=(Eu xs).toArray
  have uI:F2.size=m:=by simp[F2,HF,hm]
  have DH:∀k,(Sort.grow (Sort.putRow Go.Proofs.encStr (Sort.ahead w n) b o F2) os).heap[k]?=if k<w.heap.size then(if b=k then(w.heap[k]?).map (Sort.onCells (Sort.putCells Go.Proofs.encStr o F2)) else w.heap[k]?) else os[k-w.heap.size]?:=λk=>by
   simp only[Sort.grow,Sort.putRow,Sort.mapBlock,Sort.ahead,Agn,AiG,Af5]
  refine⟨Z22.set b (.cells (Sort.putCells Go.Proofs.encStr o F2 arr) T (0,0)),h _ ⟨by simp[HF,hm],by omega,.inr ⟨b,o,_,T,rfl,Hp.AA _ _ _,Xf,by simpa[Sort.putCells] using nS,?_⟩⟩ (by rw[Hp.Dd];exact Ext.refl _),?_⟩
  .refine Afo λj=>?_;rw[AfP];by_cases hj:j<m*1
   .have yZ:j<(Eu xs).length:=by rw[HF];omega
    rw[Aex hj,AfX,Afc,Nz,Aex (by omega),uH j (by omega)];simp[F2,yZ]
   .rw[Aeu hj,Afq (by simp[HF];omega)]
  .refine⟨λk u G=>?_,λk G=>?_,⟨rfl,rfl,λ_=>⟨n,rfl⟩⟩,rfl,by simp[Sort.grow,Sort.putRow,Sort.mapBlock,Sort.ahead]⟩
   .rw[show(Sort.grow (Sort.putRow Go.Proofs.encStr (Sort.ahead w n) b o (xs.mergeSort λx y=>decide (x<=y)).toArray) os).heap[k]?=_ from DH k];by_cases D1:k=b
    .subst D1;rw[Hp.AA]at G;cases G;rw[Aex A,Aex rfl,hw];rfl
    .rw[Hp.AB D1]at G;have:=hs k u G;rw[Aex (AfA.1 this).1,Aeu (AfT D1)];exact this
   .have D1:k≠b:=λe=>by have:=(hF k G).2;rw[e,hb]at this;cases this
    refine⟨by rw[Hp.AB D1];exact(hF k G).2,?_⟩;rw[show(Sort.grow (Sort.putRow Go.Proofs.encStr (Sort.ahead w n) b o (xs.mergeSort λx y=>decide (x<=y)).toArray) os).heap[k]?=_ from DH k,Aex (hF k G).1,Aeu (AfT D1)]
theorem Cs.sub {i b clock:Nat}{l L:List MapEntry}(h:Cs Z22 i b l L clock):L.Sublist l:=by
 obtain⟨seen,c0,_,_,rfl⟩:=h;simp only[leftOf,List.filter_toArray];exact List.filter_sublist
theorem Xm {e:MapEntry}:∀{L:List MapEntry},(L.map (·.born)).Nodup->e∈L->L.Perm (e::L.filter λx=>x.born != e.born)
 | a::L,G,A=>by
  simp only[AfN,Afe]at G;rcases Ae5.1 A with rfl|A
  .have:(e::L).filter (λx=>x.born != e.born)=L:=by
    rw[AgI (by simp)];refine AgM.2 λx hx=>?_;simp only[bne_iff_ne];exact λh=>G.1 (h▸AfC.2 ⟨x,hx,rfl⟩)
   rw[this]
  .have AR:a.born≠e.born:=λh=>G.1 (h▸AfC.2 ⟨e,A,rfl⟩);rw[AgX (by simpa using AR)];exact((Xm G.2 A).cons a).trans (List.Perm.swap ..)
def nm (e:MapEntry):ByteArray:=match e.key with
 | .string s=>s
 | _=>⟨#[]⟩
def hit (pre:ByteArray)(L:List MapEntry):List ByteArray:=(L.map nm).filter (Am · pre)
structure Names (fs:ByteArray->Option Fl)(pre:ByteArray)(L:List ByteArray):Prop where
 sorted:L.Pairwise λa b=>a.data.toList<=b.data.toList
 nodup:L.Nodup
 mem:∀s,s∈L↔(fs s).isSome=true/\Am s pre=true
theorem pJ (a b:List UInt8):(decide (a<=b)||decide (b<=a))=true:=by
 rcases Std.le_total (a:=a) (b:=b) with h|h<;>simp[h]
theorem ui {rows:List Row}{pre:ByteArray}{xs:List ByteArray}(hn:(rows.map (·.name)).Nodup)(hp:xs.Perm ((rows.map (·.name)).filter (Am · pre))):
  Names (Row.look rows) pre ((Eu (xs.map (·.data.toList))).map λl=>⟨l.toArray⟩):=by
 have lr:((Eu (xs.map (·.data.toList))).map λl=>(⟨l.toArray⟩:ByteArray)).Perm xs:=by
  have A:=(List.mergeSort_perm (xs.map (·.data.toList)) λx y=>decide (x<=y)).map λl=>(⟨l.toArray⟩:ByteArray);rw[Afg]at A;have G:xs.map ((λl=>(⟨l.toArray⟩:ByteArray)) ∘ λs:ByteArray=>s.data.toList)=xs:=by
   conv=>rhs;rw[<-Ah0 xs]
   exact Af8 λa _=>rfl
  rw[G]at A;exact A
 refine⟨?_,?_,λs=>?_⟩
 .rw[AgD];have:=List.pairwise_mergeSort (le:=λx y:List UInt8=>decide (x<=y)) (λa b c A G=>by simp only[AfQ]at A G ⊢;exact Std.le_trans A G) (λa b=>pJ a b) (xs.map (·.data.toList));exact this.imp λh=>by simpa using h
 .exact(lr.nodup_iff).2 (hp.nodup_iff.2 (hn.filter _))
 .rw[lr.mem_iff,hp.mem_iff,Agk,and_congr_left_iff];intro _;unfold Row.look;cases hf:rows.find? (λr=>decide (r.name=s)) with
  | none=>
   simp only[Option.map_none,Option.isSome_none,AgV,iff_false];intro hm;obtain⟨r,hr,rfl⟩:=AfC.1 hm;have:=AhK.1 hf r hr;simp at this
  | some r=>
   simp only[Afv,Option.isSome_some,iff_true];exact AfC.2 ⟨r,AhC hf,by simpa using AiZ hf⟩
abbrev Rp (Z22:Hp)(p:Option Addr)(n c:Nat)(L:List ByteArray):Prop:=Own 1 Z22 p n c (L.map .string)
theorem AAY {Z0:Hp}{pre:ByteArray}{i m clock:Nat}{rows:List Row}(gR:Ak Z0 m (rows.map Row.CP) clock)(hrl:rows.length<=67108864)
  (hR:∀p n c L Z'2,Rp (Z0.new Z'2) p n c L->Names (Row.look rows) pre L->Ext Z0 Z'2->n<=rows.length->R (.returned (.slice p n c)) Z'2) :
  ∀(k:Nat) (Z22:Hp) (L:List MapEntry) (xs:List ByteArray) (p:Option Addr) (c:Nat),L.length=k->Ext Z0 Z22->Cs (Z0.new Z22) i m (rows.map Row.CP) L clock->Rp (Z0.new Z22) p xs.length c xs->(xs++hit pre L).Perm (hit pre (rows.map Row.CP))->
   GC.Ep R pre p xs.length c (.pointer (some ⟨i,0,none⟩)) Z22:=by
 intro k
 induction k using Nat.strongRecOn with
 | _ k ih=>
 intro Z22 L xs p c hL hx hi ho hp;have ALq:hit pre (rows.map Row.CP)=(rows.map (·.name)).filter (Am · pre):=by simp only[hit,Afg];rfl
 have hlen:xs.length<=rows.length:=by
  have:=hp.length_eq;rw[ALq]at this;have h2:=AgR (Am · pre) (rows.map (·.name));simp at this h2;omega
 have hm:=gR.mono hx;have WB:(rows.map (·.name)).Nodup:=by
  have:=gR.nodup;rw[Afg]at this;have e:(rows.map ((λe:MapEntry=>e.key) ∘ Row.CP))=(rows.map (·.name)).map Value.string:=by rw[Afg];rfl
  rw[e,List.Nodup,AgD]at this;exact this.imp λAR e=>AR (by rw[e])
 refine GC.FQ (ME hm (hi.mono (Ext.Cp _ _)) (λh0=>.inl ⟨rfl,?_⟩) λe Ga AAQ o eR AFi=>.inr ?_)
 .subst h0;simp only[hit,AhF,AgU,AfG]at hp;rw[<-hit,ALq]at hp;have By:Own 1 Z22 p xs.length c ((xs.map (·.data.toList)).map VE):=by
   rw[Afg];exact ho.mono (Ext.Cp _ _)
  refine Km By (by simp) (by omega) λZ'2 hs hsx=>⟨rfl,?_⟩;refine hR p _ c _ Z'2 ?_ (ui WB hp) (Ek ho.Lr hsx hx) hlen;have:=Own.HL hs (Z22:=Z0) ho.Lr;unfold Rp;rw[Afg];exact this
 .obtain⟨seen,c0,A,_⟩:=hi;obtain⟨pD,_⟩:=AW.1 A;have hpi:∀a,p=some a->a.block≠i:=λa G e=>by
   rcases ho.2.2 with ⟨h1,_⟩|⟨b,o',arr,T,h1,h2,_⟩
   .rw[h1]at G;cases G
   .rw[h1]at G;cases G;simp only at e;subst e;rw[A]at h2;cases h2
  have RJ:m≠i:=λe=>by rw[<-e,gR.1]at pD;cases pD
  obtain⟨l1,l2,hl⟩:=Ag5 AAQ;obtain⟨r1,r,r2,Gf,_,rfl,_⟩:=FY hl;have BD:Ext Z0 (Z22.set i o):=λb u hb=>by rw[Hp.AB λe=>by rw[e,pD]at hb;cases hb];exact hx b u hb
  have pK:(Z0.new (Z22.set i o)) i=some o:=AW.2 ⟨pD,Hp.AA _ _ _⟩;have By:Rp (Z0.new (Z22.set i o)) p xs.length c xs:=TwW.Own.loc ho λb hb=>by
   cases p with
   | none=>cases hb
   | some a=>
    simp only[FB,Aev]at hb;subst hb;simp only[Hp.new,Hp.AB (hpi a rfl)]
  have ALr:(L.map (·.born)).Nodup:=gR.tz.sublist ((Cs.sub ⟨seen,c0,A,by assumption⟩).map _);have hpk:=Xm ALr Ga;have uj:(hit pre L).Perm (hit pre (r.CP::L.filter λx=>x.born != r.CP.born)):=(hpk.map nm).filter _;have ALs:∀M,hit pre (r.CP::M)=if Am r.name pre=true then r.name::hit pre M else hit pre M:=λM=>by
   have:nm r.CP=r.name:=rfl;simp only[hit,AfN,AiQ,this]
  rw[ALs]at uj;refine⟨_,_,rfl,AFi _ (Hp.AA _ _ _) (Hp.AB RJ) ⟨_,_,rfl,pH ⟨_,rfl,λht HP uo=>?_,λhf=>?_⟩⟩⟩
  .rw[Aex ht]at uj;refine Ma (T:=81) (ys:=[.string r.name]) BD By rfl (λu hu=>by simp at hu;subst hu;rfl) (by omega) (λp' c' Z'2 DG Ev hd3=>⟨p',_,c',rfl,?_⟩) uo;have hi3:(Z0.new Z'2) i=some o:=by
    have:=hd3 i o (AF.2 ⟨λa G=>AfT (hpi a G),pK⟩);exact(AF.1 this).2
   have:=ih _ (hL▸Y8 Ga) Z'2 _ (xs++[r.name]) p' c' rfl Ev (eR _ hi3) (by simpa[Rp] using DG) (by
    rw[Aew];exact(uj.append_left xs).symm.trans hp)
   simpa using this
  .rw[Aeu (by rw[hf];simp)]at uj;exact ih _ (hL▸Y8 Ga) _ _ xs p c rfl BD (eR _ pK) By ((uj.append_left xs).symm.trans hp)
theorem Xn {d:Nat}{D:Dk}{S:List Nat}{pre:ByteArray}(hd:A1 Z22 d D S)(G:D.up=true)(hc:D.cnt<=67108864)
  (h:∀p n c L Z'2,Rp (Z22.new Z'2) p n c L->Names D.files pre L->Ext Z22 Z'2->n<=D.cnt->R (.returned (.slice p n c)) Z'2):Spec prog 27 #[.pointer (some ⟨d,0,none⟩),.string pre] Z22 R:=by
 obtain⟨m,cl,rows,T,a,b,e,hd⟩:=hd;refine GC.start ⟨d,0,rfl,_,AD hd.obj rfl,λA=>(by rw[G]at A;cases A),λ_=>⟨some m,AD hd.obj rfl,Js hd.map λi o hi hit=>⟨_,rfl,?_⟩⟩⟩;have I3:=hd.files;exact AAY hd.map (AfU hd.cnt hc) (λp n c L Z'2 ho hN hx hn=>h p n c L Z'2 ho (I3▸hN) hx (AfU hn hd.cnt)) _ _ _ [] none 0 rfl (.set hi) (hit.loc (by simp[Hp.new,hi])) Own.nil (by simp)
end
end TwW
end
section
namespace TwW
open Go Tw Go.RowKit Go.Proofs.Tryz
theorem Pk {α:Type}:∀(L:List (ByteArray×α)) (k:ByteArray) (x:α) (j:ByteArray),BQ (Jt L k x) j=if k=j then some x else BQ L j
 | [],k,x,j=>by rw[Jt,BQ];rfl
 | (a,b)::L,k,x,j=>by
  rw[Jt];by_cases h:a=k
  .rw[Aex h,BQ,BQ];by_cases A:k=j
   .rw[Aex A,Aex A]
   .rw[Aeu A,Aeu A,Aeu (λe=>A (h.symm.trans e))]
  .rw[Aeu h,BQ,BQ,Pk L k x j];by_cases A:a=j
   .rw[Aex A,Aex A,Aeu (λe=>h (A.trans e.symm))]
   .rw[Aeu A,Aeu A]
def WZ (ls:List Lb):List ByteArray:=ls.flatMap λl=>[l.1,l.2]
def JV (ss:List Sr):List ByteArray:=ss.flatMap λs=>WZ s.ls
def aQ (ws:List ByteArray):List ByteArray:=(Eu (ws.map λw=>w.data.toList)).map λl=>⟨l.toArray⟩
def CN (ss:List Sr):List ByteArray:=mC (aQ (JV ss))
theorem VF (ws:List ByteArray):(aQ ws).length=ws.length:=by unfold aQ;rw[AfO,HF,AfO]
theorem eS {ws:List ByteArray}{w:ByteArray}:w∈aQ ws↔w∈ws:=by
 unfold aQ Eu;simp only[AfC,List.mem_mergeSort]
 constructor
 .rintro⟨l,⟨u,A,rfl⟩,rfl⟩;exact A
 .intro h;exact⟨_,⟨w,h,rfl⟩,rfl⟩
theorem mJ {w:ByteArray}:∀{l:List ByteArray} {pv:Option ByteArray},w∈l->w∈eC pv l\/pv=some w
 | x::l,pv,h=>by
  rw[eC];rcases Ae5.1 h with rfl|h
  .by_cases e:pv=some w
   .exact .inr e
   .rw[Aeu e];exact .inl (AfB ..)
  .rcases mJ (pv:=some x) h with A|A
   .left
    split
    .exact A
    .exact Aey _ A
   .cases A;by_cases e:pv=some w
    .exact .inr e
    .rw[Aeu e];exact .inl (AfB ..)
theorem AAZ {ss:List Sr}{w:ByteArray}(h:w∈JV ss):w∈CN ss:=by
 rcases mJ (pv:=none) (eS.2 h) with h|h
 .exact h
 .cases h
def noK (l:List ByteArray):Nat->List (ByteArray×Int)
 | 0=>[]
 | k+1=>match l[k]? with
  | some s=>Jt (noK l k) s (k:Int)
  | none=>noK l k
abbrev noF (l:List ByteArray):List (ByteArray×Int):=noK l l.length
theorem VG {l:List ByteArray}{s:ByteArray}{x:Int}:∀(k:Nat),BQ (noK l k) s=some x->∃i:Nat,x=(i:Int)/\l[i]?=some s
 | 0,h=>by cases h
 | k+1,h=>by
  rw[noK]at h;cases A:l[k]? with
  | none=>rw[A]at h;exact VG k h
  | some u=>
   rw[A]at h;dsimp only at h;rw[Pk]at h;by_cases e:u=s
   .rw[Aex e]at h;cases h;subst e;exact⟨k,rfl,A⟩
   .rw[Aeu e]at h;exact VG k h
theorem aR {l:List ByteArray}{s:ByteArray}:∀(k i:Nat),i<k->l[i]?=some s->∃x,BQ (noK l k) s=some x
 | k+1,i,h,hi=>by
  rw[noK];cases A:l[k]? with
  | none=>
   have:i≠k:=λe=>by rw[e,A]at hi;cases hi
   exact aR k i (by omega) hi
  | some u=>
   dsimp only;rw[Pk];by_cases e:u=s
   .exact⟨_,Aex e⟩
   .rw[Aeu e];have:i≠k:=λe2=>by rw[e2,A]at hi;cases hi;exact e rfl
    exact aR k i (by omega) hi
def jg (ss:List Sr)(s:ByteArray):Int:=(BQ (noF (CN ss)) s).getD 0
theorem Pm {ss:List Sr}{w:ByteArray}(h:w∈JV ss):BQ (noF (CN ss)) w=some (jg ss w)/\∃i:Nat,jg ss w=(i:Int)/\(CN ss)[i]?=some w:=by
 obtain⟨i,hi,G⟩:=AhU (AAZ h);obtain⟨x,A⟩:=aR (l:=CN ss) (s:=w) _ i hi (by rw[Ae3 hi,G]);have e:jg ss w=x:=by unfold jg;rw[A];rfl
 rw[e];exact⟨A,VG _ A⟩
def EIv (v:Value)(x:Int):Prop:=v=.I x
structure mK (O2 Z22:Hp)(m:Nat)(L:List (ByteArray×Int))(p:Option Addr)(c:Nat)(ws:List ByteArray):Prop where
 own:Own 1 Z22 p ws.length c (ws.map .string)
 mp:MS EIv Z22 m L
 pm:∀a,p=some a->a.block≠m/\O2 a.block=none
 ext:Ext O2 Z22
 nm:O2 m=none
section
variable {O2 Z22 Z'2:Hp}{m:Nat}{L:List (ByteArray×Int)}{p p':Option Addr}{c c':Nat}{ws ws':List ByteArray}{R:Rr}
theorem mK.AFp (h:mK O2 Z22 m L p c ws)(hx:Ext (Z22.del p) (Z'2.del p'))(ho:Own 1 Z'2 p' ws'.length c' (ws'.map .string)):mK O2 Z'2 m L p' c' ws':=by
 have km:∀v,Z22 m=some v->Z'2 m=some v/\∀a,p'=some a->m≠a.block:=λv hv=>JK.keep hx hv λa A e=>(h.pm a A).1 e.symm;obtain⟨v,hv⟩:=Option.ne_none_iff_exists'.1 h.mp.known;have kτ:∀k v,O2 k=some v->Z'2 k=some v/\∀a,p'=some a->k≠a.block:=λk v G=>JK.keep hx (h.ext _ _ G) λa A e=>by rw[e,(h.pm a A).2]at G;cases G
 refine⟨ho,h.mp.loc ((km v hv).1.trans hv.symm),λa A=>⟨λe=>(km v hv).2 a A e.symm,?_⟩,λk v G=>(kτ k v G).1,h.nm⟩;cases hh:O2 a.block with
 | none=>rfl
 | some v=>exact absurd rfl ((kτ _ _ hh).2 a A)
theorem mK.put {s:ByteArray}{x:Int}{G:Unit->Hp->Prop}(h:mK O2 Z22 m L p c ws)(hG:∀Z'2,mK O2 Z'2 m (Jt L s x) p c ws->G () Z'2):AH prog (Instr.mapUpdate 194 (.map (some m)) (.string s) (.I x)) Z22 G:=
 MS.put h.mp rfl λo ho=>hG _ ⟨Own.here h.own λa ha=>Hp.AB (h.pm a ha).1,ho,h.pm,λk v A=>by rw[Hp.AB (λe=>by rw[e,h.nm]at A;cases A)];exact h.ext _ _ A,h.nm⟩
theorem jh {p:Option Addr}{n c:Nat}{ss:List Sr}(hr:BB 2 CW Z22 p n ss)(hn:n<=1024)(hs:∀s∈ss,s.ls.length<=16)(hR:∀Z'2 m p' c',mK Z22 Z'2 m (noF (CN ss)) p' c' (CN ss)->(CN ss).length<=c'->R (.T #[.slice p' (CN ss).length c',.map (some m)]) Z'2):Spec prog 121 #[.slice p n c] Z22 R:=by
 have hlen:ss.length=n:=hr.1;have wl:∀l:List Lb,(WZ l).length=2*l.length:=λl=>by
  induction l with
  | nil=>rfl
  | cons x l ih=>show([x.1,x.2]++WZ l).length=_;rw[Aet,ih,Aez];simp;omega
 have wf:∀l:List Sr,(∀s∈l,s.ls.length<=16)->(JV l).length<=32*l.length:=λl=>by
  induction l with
  | nil=>intro _;exact Ae1 _
  | cons x l ih=>
   intro hl;have h1:=ih λs hs=>hl s (Aey _ hs);have G:=hl x (AfB ..);have h3:=wl x.ls;show(WZ x.ls++JV l).length<=_
   rw[Aet,Aez];omega
 refine B7.start (Db λm hm=>⟨m,rfl,?_⟩);have h0:mK Z22 (Z22.set m (.map #[] 0)) m [] none 0 []:=⟨Own.nil,MS.fresh,λa ha=>(by cases ha),Ext.set hm,hm⟩;have nums:∀(d k:Nat) (Z222:Hp) (p5:Option Addr) (c5:Nat),(CN ss).length-k=d->k<=(CN ss).length->(CN ss).length<=1000000->mK Z22 Z222 m (noK (CN ss) k) p5 c5 (CN ss)->B7.dL R (some m) p5 (CN ss).length c5 p5 (CN ss).length c5 ((CN ss).length:Int) (k:Int) Z222:=by
  intro d
  induction d with
  | zero=>
   intro k Z222 p5 c5 hd hk hb h;obtain rfl:k=(CN ss).length:=by omega
   exact B7.QK ⟨λhh=>by omega,λ_=>hR Z222 m p5 c5 h (Own.cap h.own)⟩
  | succ d ih=>
   intro k Z222 p5 c5 hd hk hb h;have JO:k<(CN ss).length:=by omega
   have hx:(CN ss)[k]?=some (CN ss)[k]:=Ae3 JO;obtain⟨b,o,hp,hl⟩:=Kt.at1 h.own.rd (k:=k) (v:=.string (CN ss)[k]) (by rw[AfZ,hx];rfl);refine B7.QK ⟨λ_=>⟨b,o,hp,by unfold In;omega,(CN ss)[k],by rw[AfR];exact hl,h.put λZ3 h3=>⟨by unfold AK;omega,?_⟩⟩,λhh=>by omega⟩;rw[NW hp];have:=ih (k+1) Z3 p5 c5 (by omega) (by omega) hb (by rw[noK,hx];exact h3);rw[show((k+1:Nat):Int)=(k:Int)+1 by omega]at this;exact this
 suffices H:∀(d i:Nat) (A:Hp) (p5:Option Addr) (c5:Nat),n-i=d->i<=n->mK Z22 A m [] p5 c5 (JV (ss.take i))->B7.Rb R (some m) p5 (JV (ss.take i)).length c5 p n c (n:Int) (i:Int) A from H n 0 _ none 0 rfl (AfI _) h0
 intro d
 induction d with
 | zero=>
  intro i A p5 c5 hd hi h;have e5:ss.take i=ss:=Ae7 (by omega);rw[e5]at h ⊢;have hw:=wf ss hs;refine B7.KY ⟨λhh=>by omega,λ_=>?_⟩;have ho:Own 1 A p5 (JV ss).length c5 (((JV ss).map λw=>w.data.toList).map VE):=by
   rw[Afg];exact h.own
  refine Km ho (by rw[AfO]) (by omega) λZ222 By BD=>⟨rfl,?_⟩;have e6:(Eu ((JV ss).map λw=>w.data.toList)).map VE=(aQ (JV ss)).map Value.string:=by unfold aQ;rw[Afg];rfl
  rw[e6]at By;have G:mK Z22 Z222 m [] p5 c5 (aQ (JV ss)):=h.AFp BD (by rw[VF];exact By);refine Nx By (VF _) (by omega) λZ3 k DG hk nR Ev=>⟨p5,k,c5,rfl,?_⟩;have hk:(CN ss).length=k:=hk;subst hk;exact nums _ 0 Z3 p5 c5 rfl (AfI _) (by omega) (G.AFp Ev DG)
 | succ d ih=>
  intro i A p5 c5 hd hi h;have IN:i<n:=by omega
  obtain⟨s,WT⟩:=hr.ex IN;obtain⟨b,o,p1,n1,c1,q1,m1,d1,rfl,Dt,I2,U6,Xf⟩:=CW.at hr WT;have Xo:s.ls.length=n1:=I2.1;have og:=hs s (Ae2 WT);have hwi:=wf (ss.take i) λs bR=>hs s (AgF bR);rw[AfE]at hwi;refine B7.KY ⟨λ_=>⟨b,o,rfl,by unfold In;omega,p1,n1,c1,q1,m1,d1,by simpa using Dt.mono h.ext,λ_=>?_⟩,λhh=>by omega⟩
  suffices H2:∀(e j:Nat) (Z222:Hp) (p5:Option Addr) (c5:Nat),n1-j=e->j<=n1->mK Z22 Z222 m [] p5 c5 (JV (ss.take i)++WZ (s.ls.take j))->B7.Rc R (some m) p5 (JV (ss.take i)++WZ (s.ls.take j)).length c5 (aD b o) n c (n:Int) (i:Int) p1 n1 c1 (n1:Int) (j:Int) Z222 by
   have:=H2 n1 0 A p5 c5 rfl (AfI _) (by rw[Af6];show mK Z22 A m [] p5 c5 (JV (ss.take i)++[]);rw[AfG];exact h);rw[Af6]at this;have e7:JV (ss.take i)++WZ []=JV (ss.take i):=AfG _;rw[e7]at this;exact this
  intro e
  induction e with
  | zero=>
   intro j Z222 p5 c5 he hj G;have e11:s.ls.take j=s.ls:=Ae7 (by omega);rw[e11]at G ⊢;have e8:JV (ss.take (i+1))=JV (ss.take i)++WZ s.ls:=by
    rw[AL WT];unfold JV;rw[Af9];simp
   rw[<-e8]at G ⊢;have:=ih (i+1) Z222 p5 c5 (by omega) (by omega) G;rw[show((i+1:Nat):Int)=(i:Int)+1 by omega]at this;exact B7.Iu ⟨λhh=>by omega,λ_=>⟨by unfold AK;omega,this⟩⟩
  | succ e ihe=>
   intro j Z222 p5 c5 he hj G;have YL:j<n1:=by omega
   obtain⟨x,hx⟩:=I2.ex YL;obtain⟨b2,o2,rfl,ja⟩:=I1.at I2 hx;have hwj:=wl (s.ls.take j);rw[AfE]at hwj;have Rl:(JV (ss.take i)++WZ (s.ls.take j)).length<=1000000:=by rw[Aet];omega
   refine B7.Iu ⟨λ_=>⟨b2,o2,rfl,by unfold In;omega,x.1,x.2,by simpa using ja.mono G.ext,λ_ F8 qu=>?_⟩,λhh=>by omega⟩;have LN:=Ext.set (o:=.cells #[.string x.1,.string x.2] 9 (0,0)) qu;refine CF (Own.mono LN G.own) (q:=aD F8 0) (ys:=[.string x.1,.string x.2]) ⟨rfl,by decide,.inr ⟨F8,0,rfl,Bm.of_cells (c:=[.string x.1,.string x.2]) (Hp.AA _ _ _)⟩⟩ (λv hv=>by
    simp only[Ae5,Afj,Agd]at hv;rcases hv with rfl|rfl<;>rfl) (by omega) λp' c' y Cq E4=>⟨p',_,c',rfl,by unfold AK;omega,?_⟩
   have e9:JV (ss.take i)++WZ (s.ls.take (j+1))=(JV (ss.take i)++WZ (s.ls.take j))++[x.1,x.2]:=by
    rw[AL hx,Aew];unfold WZ;rw[Af9];simp
   have e10:(JV (ss.take i)++WZ (s.ls.take (j+1))).length=(JV (ss.take i)++WZ (s.ls.take j)).length+2:=by rw[e9,Aet];rfl
   have h3:mK Z22 y m [] p' c' (JV (ss.take i)++WZ (s.ls.take (j+1))):=G.AFp (Ext.trans (Ext.del LN p5) E4) (by rw[e10,e9,AfF];exact Cq);have:=ihe (j+1) y p' c' (by omega) (by omega) h3;rw[show((j+1:Nat):Int)=(j:Int)+1 by omega,e10]at this;exact this
end
end TwW
end
section
namespace TwW
open Go Tw Go.Proofs.Tryz
def Ft (bs:List Int):Prop:=∀x∈bs,0<=x/\x<256
def DU (bs:List Int)(i w:Nat):Prop:=w<18446744073709551616/\∃rest,bs.drop i=uv w++rest
theorem mM (x:Nat):∃c t,uv x=c::t/\(128<=x->c=((x%128+128:Nat):Int)/\t=uv (x/128))/\(x<128->c=(x:Int)/\t=[]):=by
 by_cases h:128<=x
 .exact⟨_,_,GL h,λ_=>⟨rfl,rfl⟩,λA=>by omega⟩
 .exact⟨_,_,Ci h,λA=>by omega,λ_=>⟨rfl,rfl⟩⟩
theorem uq:∀(k x:Nat),x<128^(k+1)->Ft (uv x)
 | 0,x,h=>by
  rw[Ci (by simpa using h)];intro y A;simp at A;subst A;simp at h;omega
 | k+1,x,h=>by
  by_cases G:128<=x
  .rw[GL G];intro y A;rcases Ae5.1 A with rfl|A
   .omega
   .exact uq k (x/128) (by rw[Agc (by decide)];rw[AgP]at h;exact h) y A
  .rw[Ci G];intro y A;simp at A;subst A;omega
theorem Rq (x:Nat):0<(uv x).length:=by
 obtain⟨c,t,h,_⟩:=mM x;rw[h];simp
set_option maxRecDepth 100000 in
theorem AFq:∀y:Fin 256,Go.bits .and .u8 (y.1:Int) 127=((y.1%128:Nat):Int):=by decide
theorem ur {A c k:Nat}(G:A<2^(7*k))(hk:k<=9)(hc:c*2^(7*k)<18446744073709551616):Go.bits .or .u64 (A:Int) ((c*2^(7*k):Nat):Int)=((A+c*2^(7*k):Nat):Int):=by
 have hp:2^(7*k)<=2^63:=Agg (by decide) (by omega);rw[bits_or_u64_nat A _ (by omega) hc]
 congr 1
 rw[Nat.or_comm,AgK,<-AhP G,Nat.add_comm]
def So (bs:List Int)(i k A:Nat):Prop:=∀w,DU bs i w->A=w%2^(7*k)/\(∃rest,bs.drop (i+k)=uv (w/2^(7*k))++rest)/\(0<k->0<w/2^(7*k))/\(uv w).length=k+(uv (w/2^(7*k))).length
theorem So.zero {bs:List Int}{i:Nat}:So bs i 0 0:=λw ⟨G,rest,A⟩=>by
 refine⟨by simp[Ahz],⟨rest,by simpa using A⟩,λh=>by omega,by simp⟩
theorem So.byte {bs:List Int}{i k A w:Nat}{c:Int}(h:So bs i k A)(hw:DU bs i w)(hc:bs[i+k]?=some c):
  (128<=w/2^(7*k)->c=((w/2^(7*k)%128+128:Nat):Int))/\(w/2^(7*k)<128->c=((w/2^(7*k):Nat):Int)):=by
 obtain⟨_,⟨rest,hr⟩,_,_⟩:=h w hw;obtain⟨c',t,he,G,h2⟩:=mM (w/2^(7*k));have:(bs.drop (i+k))[0]?=some c:=by rw[AfX];simpa using hc
 rw[hr,he]at this;simp at this;subst this;exact⟨λh=>(G h).1,λh=>(h2 h).1⟩
theorem So.next {bs:List Int}{i k A a':Nat}{c:Nat}(h:So bs i k A)(hc:bs[i+k]?=some (c:Int))(Ib:128<=c)(Xp:A<2^(7*k)->a'=A+(c%128)*2^(7*k)):So bs i (k+1) a':=λw hw=>by
 obtain⟨h1,⟨rest,hr⟩,h3,h4⟩:=h w hw;obtain⟨g1,g2⟩:=h.byte hw hc;have hp:0<2^(7*k):=AiY _;have G:128<=w/2^(7*k):=by
  rcases Afp (w/2^(7*k)) 128 with Aq|uu
  .have:=g2 Aq;omega
  .exact uu
 have hcv:c=w/2^(7*k)%128+128:=by have:=g1 G;omega
 have e1:2^(7*(k+1))=2^(7*k)*128:=by rw[AiR,Ahf]
 have e2:w/2^(7*(k+1))=w/2^(7*k)/128:=by rw[e1,Nat.div_div_eq_div_mul]
 rw[e2];rw[GL G]at hr h4;refine⟨?_,⟨rest,?_⟩,λ_=>by omega,by simp at h4;omega⟩
 .rw[Xp (by rw[h1];exact AhA _ hp),e1,Aic,<-h1,show c%128=w/2^(7*k)%128 by omega,AgK (2^(7*k))]
 .rw[show i+(k+1)=(i+k)+1 by omega,<-Afx,hr];rfl
def uw (bs:List Int)(i k A:Nat):Prop:=∀hi:Nat,(0<hi\/k=0)->uv (A+hi*2^(7*k))=(bs.drop i).take k++uv hi
theorem uw.zero {bs:List Int}{i:Nat}:uw bs i 0 0:=λhi _=>by simp
theorem Xq {bs:List Int}{i k:Nat}{c:Int}(A:bs[i+k]?=some c):(bs.drop i).take (k+1)=(bs.drop i).take k++[c]:=AL (by rw[AfX];exact A)
theorem uw.next {bs:List Int}{i k A c:Nat}(h:uw bs i k A)(hc:bs[i+k]?=some (c:Int))(Ib:128<=c)(G:c<256):uw bs i (k+1) (A+c%128*2^(7*k)):=λhi hh=>by
 have Gb:0<hi:=hh.resolve_right (by omega);have h1:=h (c%128+hi*128) (.inl (by omega));have e1:A+c%128*2^(7*k)+hi*2^(7*(k+1))=A+(c%128+hi*128)*2^(7*k):=by
  rw[show 2^(7*(k+1))=128*2^(7*k) by rw[AiR,Ahf,AgK],Afn,AhS,AgJ]
 rw[e1,h1,GL (by omega),Xq hc];have e2:(c%128+hi*128)%128+128=c:=by omega
 have e3:(c%128+hi*128)/128=hi:=by omega
 rw[e2,e3];simp
theorem uw.last {bs:List Int}{i k A c:Nat}(h:uw bs i k A)(hc:bs[i+k]?=some (c:Int))(Aq:c<128)(G:0<c\/k=0):uv (A+c*2^(7*k))=(bs.drop i).take (k+1):=by
 rw[h c G,Ci (by omega),Xq hc]
structure VH (bs:List Int)(i:Nat)(Φ:Int->Int->Int->Prop):Prop where
 err:(∀w,¬DU bs i w)->∀code:Int,code≠0->Φ 0 0 code
 ok:∀v:Nat,DU bs i v->Φ v ((i+(uv v).length:Nat)) 0
theorem VH.no9 {bs:List Int}{i A:Nat}{c:Int}(h:So bs i 9 A)(hc:bs[i+9]?=some c)(h1:1<c):∀w,¬DU bs i w:=λw G=>by
 obtain⟨g1,g2⟩:=h.byte G hc;have:w/2^(7*9)<2:=by have:=G.1;omega
 have:=g2 (by omega);omega
theorem VH.no0 {bs:List Int}{i k A:Nat}{c:Int}(h:So bs i k A)(hk:0<k)(hc:bs[i+k]?=some c)(h0:c=0):∀w,¬DU bs i w:=λw G=>by
 obtain⟨g1,g2⟩:=h.byte G hc;have:=(h w G).2.2.1 hk;rcases Afp (w/2^(7*k)) 128 with Aq|uu
 .have:=g2 Aq;omega
 .have:=g1 uu;omega
theorem VH.ALu {bs:List Int}{i k A:Nat}(h:So bs i k A)(he:bs.length<=i+k):∀w,¬DU bs i w:=λw hw=>by
 obtain⟨_,⟨rest,G⟩,_,_⟩:=h w hw;rw[Aft he]at G;have:=Rq (w/2^(7*k));have:=Ae4 List.length G;simp at this;omega
theorem pL {bs:List Int}{n i k A c:Nat}(hk:k<=9)(G:c<256)(h9:k=9->c<=1)(VI:A<2^(7*k)):
  IntKind.u64.wrap (IntKind.u64.wrap (Go.bits .and .u8 (c:Int) 127)*2^Int.toNat (7*(k:Int)))=((c%128*2^(7*k):Nat):Int)/\c%128*2^(7*k)<18446744073709551616/\A+c%128*2^(7*k)<2^(7*(k+1))/\A+c%128*2^(7*k)<18446744073709551616:=by
 have e0:IntKind.u64.wrap (Go.bits .and .u8 (c:Int) 127)=((c%128:Nat):Int):=by
  rw[AFq ⟨c,G⟩];simp[IntKind.wrap,IntKind.bits,IntKind.signed];omega
 have e1:Int.toNat (7*(k:Int))=7*k:=by omega
 have hm:c%128<128:=AhA _ (by decide);have Aq:c%128*2^(7*k)<18446744073709551616:=by
  by_cases h:k=9
  .subst h;have:=h9 rfl;have:c%128<=1:=by omega
   exact AgW (AfK (2^(7*9)) this) (by decide)
  .have hp:2^(7*k)<=2^56:=Agg (by decide) (by omega);exact AgW (Aif (show c%128<=127 by omega) hp) (by decide)
 refine⟨?_,Aq,?_,?_⟩
 .rw[e0,e1,show(((c%128:Nat):Int)*2^(7*k))=((c%128*2^(7*k):Nat):Int) by rw[Int.natCast_mul,AiX];rfl];generalize c%128*2^(7*k)=y at Aq;simp[IntKind.wrap,IntKind.bits,IntKind.signed];omega
 .rw[show 2^(7*(k+1))=2^(7*k)*128 by rw[AiR,Ahf]];have:c%128*2^(7*k)<=127*2^(7*k):=AfK _ (by omega);omega
 .by_cases h:k=9
  .subst h;have:=h9 rfl;have h1:c%128<=1:=by omega
   have h2:c%128*2^(7*9)<=1*2^(7*9):=AfK _ h1;have h3:A<9223372036854775808:=VI;have h4:1*2^(7*9)=9223372036854775808:=by decide
   omega
  .have hp:2^(7*k)<=2^56:=Agg (by decide) (by omega);have h2:c%128*2^(7*k)<=127*2^56:=Aif (by omega) hp;have h3:(2:Nat)^56=72057594037927936:=by decide
   omega
theorem Rs {R:Rr}{Z22:Hp}{p:Option Addr}{n c0 i:Nat}{bs:List Int}(hr:Be .u8 Z22 p n bs)(h8:Ft bs)(hi:i<=n)
  (h:VH bs i λv t code=>R (.T #[.U v,.I t,.I code]) Z22):Spec prog 81 #[.slice p n c0,.I i] Z22 R:=by
 have TQ:bs.length=n:=hr.1;have EW:=hr.big;refine FU.start ⟨λh0=>by omega,λ_=>⟨λh0=>by omega,λ_=>?_⟩⟩
 suffices H:∀d k A:Nat,9-k=d->k<=9->i+k<=n->A<2^(7*k)->So bs i k A->uw bs i k A->FU.KX R p n c0 i A k Z22 from H 9 0 0 rfl (by omega) (by omega) (by decide) So.zero uw.zero
 intro d;have body:∀k A:Nat,(∀a',k<9->i+(k+1)<=n->a'<2^(7*(k+1))->So bs i (k+1) a'->uw bs i (k+1) a'->FU.KX R p n c0 i a' (k+1:Nat) Z22)->k<=9->i+k<=n->A<2^(7*k)->So bs i k A->uw bs i k A->FU.KX R p n c0 i A k Z22:=by
  intro k A rec hk Fy VI yI NL;have Aa1:2^(7*k)<=2^63:=Agg (by decide) (by omega);refine FU.Mk ⟨by unfold AK;omega,λAq=>?_,λIb=>h.err (VH.ALu yI (by omega)) 20 (by decide)⟩;obtain⟨x,hx⟩:=hr.ex (k:=i+k) (by omega);obtain⟨b,o,rfl,hl⟩:=hr.at hx;have hx8:=h8 x (Ae2 hx);obtain⟨c,rfl⟩:∃c:Nat,x=c:=⟨x.toNat,by omega⟩;have e0:Int.toNat ((i:Int)+(k:Int))=i+k:=by omega
  have G:(k=9->c<=1)->((0:Int)<(k:Int)->¬((c:Int)=0))->∀Lj:Int,Lj=Go.bits .and .u8 (c:Int) 127->∀Yl:Int,Yl=IntKind.u64.wrap Lj->AK (7*(k:Int))/\((0:Int)<=(7*(k:Int))/\(7*(k:Int))<=((IntKind.bits .u64:Nat):Int))/\∀XR:Int,XR=IntKind.u64.wrap (Yl*2^Int.toNat (7*(k:Int)))->∀JH:Int,JH=Go.bits .or .u64 (A:Int) XR->(((c:Int):Int)<128->AK ((i:Int)+(k:Int))/\AK (((i:Int)+(k:Int))+1)/\R (.T #[(.U JH),(.I (((i:Int)+(k:Int))+1)),(.I 0)]) Z22)/\(¬(((c:Int):Int)<128)->AK ((k:Int)+1)/\FU.KX R (some ⟨b,o,none⟩) n c0 i JH ((k:Int)+1) Z22):=by
   intro h9 hnz Lj ASp Yl ASq;refine⟨by unfold AK;omega,⟨by omega,by simp[IntKind.bits];omega⟩,λXR ALw JH ALx=>?_⟩;obtain⟨f1,f2,f3,f4⟩:=pL (bs:=bs) (n:=n) (i:=i) hk (by omega) h9 VI;rw[ASq,ASp,f1]at ALw;subst ALw;rw[ur VI hk f2]at ALx;subst ALx;refine⟨λhc=>⟨by unfold AK;omega,by unfold AK;omega,?_⟩,λhc=>⟨by unfold AK;omega,?_⟩⟩
   .have hc':c<128:=by omega
    have e5:c%128=c:=AfY hc';have hz:0<c\/k=0:=by
     rcases Af4 k with h1|h1
     .exact .inr h1
     .exact .inl (Nat.pos_of_ne_zero λh2=>hnz (by omega) (by omega))
    have hu:=NL.last hx hc' hz;have hlk:((bs.drop i).take (k+1)).length=k+1:=by rw[AfE,AfV];omega
    have:=h.ok (A+c*2^(7*k)) ⟨by rw[<-e5];omega,(bs.drop i).drop (k+1),by rw[hu,Afi]⟩;rw[hu,hlk]at this;have e4:(((i+(k+1):Nat)):Int)=(i:Int)+k+1:=by omega
    rw[e4]at this;rw[e5];exact this
   .exact rec _ (by
      rcases Afp k 9 with h1|h1;· exact h1
      .have:=h9 (by omega);omega) (by omega) f3 (yI.next hx (by omega) λ_=>rfl) (NL.next hx (by omega) (by omega))
  have rest:(k=9->c<=1)->((0:Int)<(k:Int)->(((c:Int))=0->R (.T #[(.U 0),(.I 0),(.I 21)]) Z22)/\(¬(((c:Int))=0)->_))/\(¬((0:Int)<(k:Int))->_):=λh9=>
   ⟨λWY=>⟨λhc0=>h.err (VH.no0 yI (by omega) hx hc0) 21 (by decide),λhc0=>G h9 λ_=>hc0⟩,λWY=>G h9 λhk1=>absurd hk1 WY⟩
  refine⟨by unfold AK;omega,b,o,rfl,by omega,c,by rw[e0];simpa using hl,λhk9=>⟨λpM=>?_,λpM=>rest λ_=>by omega⟩,λhk9=>rest λh=>by omega⟩;have:k=9:=by omega
  subst this;exact h.err (VH.no9 yI hx pM) 21 (by decide)
 induction d with
 | zero=>
  intro k A hd hk Fy VI yI NL;exact body k A (λa' h1=>by omega) hk Fy VI yI NL
 | succ d ih=>
  intro k A hd hk Fy VI yI NL;exact body k A (λa' h1 h2 h3 h4 h5=>ih (k+1) a' (by omega) (by omega) h2 h3 h4 h5) hk Fy VI yI NL
end TwW
end
section
namespace TwW
open Go Tw Go.Proofs.Tryz
def GQ (x:Int):Int:=if Go.bits .and .u32 x 1=0 then x/2 else Go.bits .xor .u32 (x/2) 3988292384
def Jx (i:Nat):Int:=GQ (GQ (GQ (GQ i)))
def AC2 (c:Int)(t:Int):Int:=Go.bits .xor .u32 (c/16) t
def nib (c:Int):Nat:=(Go.bits .and .u32 c 15).toNat
def AC3 (c x:Int):Int:=let a:=Go.bits .xor .u32 c (IntKind.u32.wrap x);let b:=AC2 a (Jx (nib a));AC2 b (Jx (nib b))
def TR (xs:List Int):Int:=Go.bits .xor .u32 4294967295 (xs.foldl AC3 4294967295)
theorem ux (op:BinOp)(a b:Int):0<=Go.bits op .u32 a b/\Go.bits op .u32 a b<4294967296:=by
 have h:=bits_within op .u32 a b;have A:IntKind.min .u32=0:=rfl;have e2:IntKind.max .u32=4294967295:=rfl;rw[A,e2]at h;omega
theorem Rt (xs:List Int):0<=TR xs/\TR xs<4294967296:=ux _ _ _
theorem ji (c:Int):(0:Int)<=Go.bits .and .u32 c 15/\Go.bits .and .u32 c 15<16:=by
 refine⟨(ux _ _ _).1,?_⟩;have G:(BitVec.ofInt 32 15).toNat=15:=rfl;have:Go.bits .and .u32 c 15=IntKind.u32.wrap (((BitVec.ofInt 32 c) &&& (BitVec.ofInt 32 15)).toNat:Int):=rfl;rw[this,BitVec.toNat_and,G];have A:(BitVec.ofInt 32 c).toNat &&& 15<=15:=Nat.and_le_right;generalize (BitVec.ofInt 32 c).toNat &&& 15=y at A;simp[IntKind.wrap,IntKind.bits,IntKind.signed];omega
theorem mN (c:Int):nib c<16:=by have:=ji c;unfold nib;omega
def Qq:List Value:=(List.range 16).map λj=>.int .u32 (Jx j)
section
variable {Z22:Hp}{R:Rr}
theorem AFr:∀w,(Go.sizeOf 70).run prog w=.ok 1 w:=λw=>by
 have h:prog.info? 70=some t70:=by kernel_rfl
 simp[Go.sizeOf,typeInfo,h,show t70.size=1 from rfl]
theorem AAc:∀w,(Go.sizeOf 322).run prog w=.ok 16 w:=λw=>by
 have h:prog.info? 322=some t322:=by kernel_rfl
 simp[Go.sizeOf,typeInfo,h,show t322.size=16 from rfl]
theorem eU:∀(n:Nat) (x:Int),Nat.repeat GQ n (GQ x)=Nat.repeat GQ (n+1) x
 | 0,_=>rfl
 | n+1,x=>by
  show GQ (Nat.repeat GQ n (GQ x))=GQ (Nat.repeat GQ (n+1) x)
  rw[eU n x]
theorem eV {b1:Nat}{i:Nat}{x5:Int}:∀(n:Nat) (x3:Int) (j:Int),j=4-(n:Int)->n<=4->(∀y,y=(Nat.repeat GQ n x3)->B8.JI R 0 0 0 0 0 0 0 0 0 0 0 0 0 0 0 0 b1 i y 4 x5 Z22)->B8.JI R 0 0 0 0 0 0 0 0 0 0 0 0 0 0 0 0 b1 i x3 j x5 Z22
 | 0,x3,j,hj,_,h=>by
  have:j=4:=by simpa using hj
  subst this;exact h x3 rfl
 | n+1,x3,j,hj,hn,h=>by
  have step:B8.zI R 0 0 0 0 0 0 0 0 0 0 0 0 0 0 0 0 b1 i (GQ x3) j x5 Z22:=by
   refine B8.zJ ⟨by unfold AK;omega,eV n (GQ x3) (j+1) (by omega) (by omega) λy hy=>h y ?_⟩;rw[hy,eU]
  refine B8.G2 ⟨λ_ DA A=>⟨λh0=>⟨by simp[IntKind.bits],λTI G=>?_⟩,λh0=>⟨by simp[IntKind.bits],λQH ASs En uD=>?_⟩⟩,λhh=>by omega⟩
  .have:TI=GQ x3:=by rw[GQ,Aex (by rw[<-A];exact h0),G];rfl
   rw[this];exact step
  .have:En=GQ x3:=by rw[GQ,Aeu (by rw[<-A];exact h0),uD,ASs];rfl
   rw[this];exact step
theorem ASt {A:Array Value}{i j:Nat}{v:Value}(hi:i<A.size):(F0 A i [v])[j]?=if j=i then some v else A[j]?:=by
 simp only[F0];by_cases h:j=i
 .subst h;simp[hi]
 .simp[h,AfT h]
theorem jj (h:∀Z'2,Ext Z22 Z'2->R (.returned (.agg Qq.toArray)) Z'2):Spec prog 233 #[] Z22 R:=by
 refine B8.start λ_ b1 Ru=>?_
 suffices H:∀(d i:Nat) (A:Array Value),16-i=d->i<=16->A.size=16->(∀j,j<i->A[j]?=some (.int .u32 (Jx j)))->B8.A3 R 0 0 0 0 0 0 0 0 0 0 0 0 0 0 0 0 b1 i (Z22.set b1 (.cells A 322 (0,0))) from
  H 16 0 _ rfl (by omega) rfl (λj hj=>by omega)
 intro d
 induction d with
 | zero=>
  intro i A hd hi hA hj;have:i=16:=by omega
  subst this;refine B8.AY ⟨λhh=>by omega,λ_=>⟨Jx 0,Jx 1,Jx 2,Jx 3,Jx 4,Jx 5,Jx 6,Jx 7,Jx 8,Jx 9,Jx 10,Jx 11,Jx 12,Jx 13,Jx 14,Jx 15,Bm.of λj v hv=>?_,h _ (.set Ru)⟩⟩;have G:Qq[j]?=some v:=hv;have Aq:j<16:=by
   have:=(Ae0.1 G).1;simpa[Qq] using this
  have:Qq[j]?=some (.int .u32 (Jx j)):=by simp[Qq,Aq]
  rw[this] at G;cases G;rw[AfW];exact AD (Hp.AA _ _ _) (hj j Aq)
 | succ d ih=>
  intro i A hd hi hA hj;refine B8.AY ⟨λ_ x9 hx9=>?_,λhh=>by omega⟩;have h9:x9=(i:Int):=by rw[hx9];simp[IntKind.wrap,IntKind.bits,IntKind.signed];omega
  subst h9;refine eV 4 (i:Int) 0 rfl (Ae1 _) λy hy=>?_;refine B8.G2 ⟨λhh=>by omega,λ_=>⟨by omega,?_⟩⟩;refine AH.store (v:=.int .u32 y) AFr (Hp.AA _ _ _) rfl (by omega) (by simp[Value.cells,Value.oneCell']) ⟨by unfold AK;omega,?_⟩;rw[Hp.set_set];have e0:0+Int.toNat (i:Int)*1=i:=by omega
  rw[e0];have e1:(Value.int .u32 y).cells.toList=[.int .u32 y]:=rfl;rw[e1];refine ih (i+1) _ (by omega) (by omega) (by rw[G7];exact hA) λj YL=>?_;rw[ASt (by omega)];by_cases gm:j=i
  .subst gm;rw[Aex rfl,hy];rfl
  .rw[Aeu gm];exact hj j (by omega)
theorem VJ {p:Option Addr}{n c:Nat}{xs:List Int}(hr:Be .u8 Z22 p n xs)(h:∀Z'2,Ext Z22 Z'2->R (.returned (.int .u32 (TR xs))) Z'2):Spec prog 177 #[.slice p n c] Z22 R:=by
 refine Ji.start (jj λG hx=>⟨Jx 0,Jx 1,Jx 2,Jx 3,Jx 4,Jx 5,Jx 6,Jx 7,Jx 8,Jx 9,Jx 10,Jx 11,Jx 12,Jx 13,Jx 14,Jx 15,rfl,λb3 To=>?_⟩);refine AH.store (v:=.agg Qq.toArray) (c:=(List.replicate 16 (Value.int .u32 0)).toArray) AAc (Hp.AA _ _ _) (by simp[Value.cells,Qq]) (by simp) (by simp[Value.cells,Qq,Value.oneCell']) ?_;rw[Hp.set_set];have hw:F0 (List.replicate 16 (Value.int .u32 0)).toArray 0 (Value.agg Qq.toArray).cells.toList=Qq.toArray:=by kernel_rfl
 rw[hw];have BD:Ext Z22 (G.set b3 (.cells Qq.toArray 322 (0,0))):=hx.trans (.set To);have Ta:=hr.mono BD;have ht:∀k:Nat,k<16->(G.set b3 (.cells Qq.toArray 322 (0,0))).ld ⟨b3,k,none⟩=some (.int .u32 (Jx k)):=λk hk=>AD (Hp.AA _ _ _) (by simp[Qq,hk]);generalize (G.set b3 (.cells Qq.toArray 322 (0,0)))=O2 at BD Ta ht
 suffices H:∀(d k:Nat) (A:Int),n-k=d->k<=n->A=(xs.take k).foldl AC3 4294967295->Ji.Rb R b3 A p n c n k O2 from H n 0 _ rfl (by omega) rfl
 intro d
 induction d with
 | zero=>
  intro k A hd hk ha;refine Ji.KY ⟨λhh=>by omega,λ_=>⟨TR xs,λw _=>?_,h O2 BD⟩⟩;rw[Ae7 (by rw[hr.1];omega)]at ha;subst ha;simp[Op.unary,intBits_xor,TR,IntKind.signed,IntKind.max,IntKind.bits]
 | succ d ih=>
  intro k A hd hk ha;refine Ji.KY ⟨λ_=>?_,λhh=>by omega⟩;obtain⟨y,hy⟩:=Ta.ex (k:=k) (by omega);obtain⟨b,o,rfl,hl⟩:=Ta.at hy;refine⟨b,o,rfl,by omega,y,by simpa using hl,λEl og C3 h17=>⟨by simp[IntKind.bits],λNF uS En h21=>?_⟩⟩;subst og h17 uS h21;refine⟨ji _,Jx (nib (Go.bits .xor .u32 A (IntKind.u32.wrap y))),?_,λEJ h24=>⟨by simp[IntKind.bits],λJj h26 Hv h28=>?_⟩⟩
  .rw[AfW,Afa];exact ht (nib _) (mN _)
  subst h24 h26 h28;refine⟨ji _,Jx (nib (Go.bits .xor .u32 (Go.bits .xor .u32 A (IntKind.u32.wrap y)/2^Int.toNat 4) (Jx (nib (Go.bits .xor .u32 A (IntKind.u32.wrap y)))))),?_,λLN qu=>⟨E8 (by omega) hr.big,?_⟩⟩
  .rw[AfW,Afa];exact ht (nib _) (mN _)
  subst qu;refine ih (k+1) _ (by omega) (by omega) ?_;rw[AL hy,Agi,<-ha];rfl
def Qr (x:Int):List Int:=[x/16777216%256,x/65536%256,x/256%256,x%256]
def frame (r:List Int):List Int:=uv r.length++Qr (TR r)++r
theorem Fk (r:List Int):(frame r).length=(uv r.length).length+4+r.length:=by simp[frame,Qr];omega
theorem eW {r:List Int}(h:r.length<=65536):(frame r).length<=r.length+7:=by
 have:=jS 2 r.length (by omega);rw[Fk];omega
theorem VK {p:Option Addr}{n c:Nat}{xs:List Int}(hr:Be .u8 Z22 p n xs)(h0:65536<n->R (.T #[.N,.I 23]) Z22)
  (h1:n<=65536->∀p' A c' Z'2,A2 .u8 (Z22.new Z'2) p' A c' (frame xs)->Ext Z22 Z'2->R (.T #[.slice p' A c',.I 0]) Z'2):Spec prog 106 #[.slice p n c] Z22 R:=by
 have hn:xs.length=n:=hr.1;refine Sb.start ⟨λh=>h0 (by omega),λhle=>VJ hr λZ12 Ct=>⟨_,rfl,λJU h13=>?_⟩⟩;have e13:JU=(n:Int):=by rw[h13];simp[IntKind.wrap,IntKind.bits,IntKind.signed];omega
 subst e13;have uy:Be .u8 Z12 none 0 []:=BB.nil;refine GM uy (by omega) (by omega) λp' A c' Z222 ho BD=>⟨p',A,c',rfl,by simp[IntKind.bits],λEl og C3 h17=>⟨by simp[IntKind.bits],λNF uS QH h20=>⟨by simp[IntKind.bits],λIr h22 bF h23 Ue h25 HP uo=>?_⟩⟩⟩;rw[AgG]at ho;have hcr:=Rt xs;have ec:[Value.int .u8 C3,.int .u8 QH,.int .u8 bF,.int .u8 Ue]=(Qr (TR xs)).map (.int .u8):=by
  subst og h17 uS h20 h22 h23 h25;simp[Qr,IntKind.wrap,IntKind.bits,IntKind.signed]
 have hnl:A<=10:=by have:=ho.1;have h2:=Ai (x:=n) (by omega);simp at this;omega
 have G:=Ct.trans BD;have By:Own 1 (Z22.new Z222) p' A c' ((uv n).map (.int .u8)):=ho.mono (Ext.Hq Ct);refine Ma (T:=79) G By (m:=4) rfl (λu hu=>by simp at hu;rcases hu with rfl|rfl|rfl|rfl<;>rfl) (by omega) (λp3 c3 Z3 DG Ev _=>⟨p3,_,c3,rfl,?_⟩) uo;refine YM (T:=79) Ev DG (Kt.of_map (hr.mono Ev)) Ej.Gz (by omega) λp4 c4 Z4 Tn hx4 _=>⟨p4,_,c4,rfl,h1 (by omega) p4 _ c4 Z4 ?_ hx4⟩;rw[ec]at Tn;unfold A2 frame;rw[AfF,AfF,hn];exact Tn
end
end TwW
end
section
namespace TwW
open Go Tw Go.RowKit Go.Proofs.Tryz
theorem uz {P:Program}{T E ty:TypeId}{s bs:Nat}[h:MZ P T E s bs]{Z22:Hp}{p q:Option Addr}{n c m d:Nat}{cs ys:List Value}{Φ:Value->Hp->Prop}(hp:Kt s Z22 p n cs)(E9:¬n+m<=c)(hy:Kt s Z22 q m ys)(hb:(n+m)*bs<=140737488355328)
  (hΦ:∀p' c' Z'2,Own s Z'2 p' (n+m) c' (cs++ys)->Ext Z22 Z'2->(∀a,p'=some a->Z22 a.block=none)->Φ (.slice p' (n+m) c') Z'2) :
  AH P (Builtin.append_ #[T,T] ty #[.slice p n c,.slice q m d]) Z22 Φ:=by
 obtain⟨ht,⟨i,z,hi,hz,rfl,rfl,hzs⟩,Gb,Ws⟩:=h;have h62:n+m<=140737488355328:=AfU (Agz _ Ws) hb;intro w F hs hF;have RM:=λG (hw:Sat Z22 G)=>Hr (P:=P) (d:=d) G hw hy;have Cq:=λG (hw:Sat Z22 G)=>Hr (P:=P) (d:=c) G hw hp;have A:(cs++ys).length=(n+m)*i.size:=by rw[Aet,hp.1,hy.1,Afn]
 have ABe:Builtin.nextslicecap (n+m) c*i.bytes<=281474976710656:=growslice_fits (by omega) hb;have hgc:=grownCap_ge w (n+m) c E;have PL:Sat Z22 w.drew:=hs;have Cd:(Builtin.append_ #[T,T] ty #[.slice p n c,.slice q m d]).run P w =
   .ok (.slice (some ⟨w.heap.size,0,none⟩) (n+m) (grownCap w (n+m) c E))
    (w.drew.alloc (.cells (cs.toArray++ys.toArray++Builtin.zeroCells z.cells (grownCap w (n+m) c E-(n+m))) E)):=by
  have rN:¬(9223372036854775807<((n:Int)+(m:Int))):=by omega
  have rO:¬(281474976710656<Builtin.nextslicecap (n+m) c*i.bytes):=by omega
  simp[Builtin.append_,run_underlying ht,Go.sizeOf,typeInfo,zeroValue,hi,hz,Builtin.lenOf,E9,rN,rO,Question.forced,RM _ PL,Cq _ PL,newRow,grownCap]
  congr 2
  apply AiJ
  simp[Aew]
 refine⟨_,_,Z22.set w.heap.size _,Cd,hΦ _ _ _ ⟨A,by omega,.inr ⟨w.heap.size,0,_,E,rfl,Hp.AA _ _ _,hgc,?_,?_⟩⟩ (Ext.set (DI hs)) (λa ha=>by cases ha;exact DI hs),Fin.alloc hs hF _ rfl ⟨rfl,rfl,λ_=>⟨1,rfl⟩⟩ rfl⟩
 .simp only[Aha,Agh,size_zeroCells,hzs,hp.1,hy.1,<-Afn];have:n+m+(grownCap w (n+m) c E-(n+m))=grownCap w (n+m) c E:=by omega
  rw[this];omega
 .simp only[Agl,Ago];rw[<-A];exact AhD
theorem Xr {a:Array Obj}{b k:Nat}{f:Obj->Obj}:(a.modify b f)[k]?=if b=k then(a[k]?).map f else a[k]?:=by rw[Af5]
theorem u0 {Z22:Hp}{b n c:Nat}{C:Array Value}{Φ:Value->Hp->Prop}(hb:Z22 b=some (.cells C 5 (0,0)))(h:Φ (.slice (aD b 0) n c) (Z22.set b (.cells C 5 (C.size,C.size+1)))):AH prog (convert 79 79 (.slice (aD b 0) n c)) Z22 Φ:=λw F UB hF=>by
 have hw:=UB _ _ hb;have Ig:w.shape? b=some (5,C.size):=by unfold World.shape?;rw[hw]
 have RP:(w.freeze ⟨b,C.size,none⟩ 1).heap=w.heap.modify b fun
   | .cells c G (lo,hi)=>.cells c G (if lo==hi then(C.size,C.size+1) else(min lo C.size,max hi (C.size+1)))
   | o=>o:=by
  unfold World.freeze;rw[Aeu (by decide)];rfl
 have Cd:(convert 79 79 (.slice (some ⟨b,0,none⟩) n c)).run prog w=.ok (.slice (some ⟨b,0,none⟩) n c) (w.freeze ⟨b,C.size,none⟩ 1):=by
  simp[convert,run_underlying underlying79,run_underlying underlying5,markStringish,Ig]
 refine⟨_,_,_,Cd,h,λk o A=>?_,λk A=>?_,?_,?_,?_⟩
 .rw[RP,Xr];by_cases e:b=k
  .subst e;rw[Aex rfl,hw];rw[Hp.AA]at A;cases A;rfl
  .rw[Aeu e];rw[Hp.AB (AfT e)]at A;exact UB k o A
 .have AR:b≠k:=λe=>by have:=(hF k A).2;rw[<-e,hb]at this;cases this
  exact⟨by rw[Hp.AB (AfT AR)];exact(hF k A).2,by rw[RP,Xr,Aeu AR]⟩
 .exact .same rfl rfl rfl
 .rfl
 .rw[RP,AiG];exact Ae1 _
end TwW
end
section
namespace TwW
open Go Tw Go.Proofs.Tryz
theorem Be.sub {k:IntKind}{Z22:Hp}{p:Option Addr}{n c i m:Nat}{xs:List Int}(h:Be k Z22 p n xs)(him:i+m<=n)(hc:n<=c):Be k Z22 (ET p i c 1) m ((xs.drop i).take m):=by
 have hl:xs.length=n:=h.1;obtain⟨_,cs,⟨h2,h3,A⟩,h5⟩:=h;rw[gw.1 h5]at A;refine Be.KO ⟨by simp;omega,by omega,?_⟩;rcases Af4 m with G|G
 .exact .inl G
 .rcases A with A|⟨b,o,rfl,A⟩
  .omega
  .refine .inr ⟨b,o+i,?_,?_⟩
   .unfold ET;rw[Aeu (by omega)];simp[Cm]
   .rw[Ah9,List.map_drop];exact A.part
theorem TS (a b:Nat)(ha:a<4294967296)(hb:b<4294967296):Go.bits .or .u32 (a:Int) (b:Int)=((a ||| b:Nat):Int):=by
 have hx:a ||| b<2^32:=Nat.or_lt_two_pow (by omega) (by omega);have A:(BitVec.ofInt 32 (a:Int)).toNat=a:=by
  rw[BitVec.ofInt_natCast,BitVec.toNat_ofNat];exact AfY (by omega)
 have G:(BitVec.ofInt 32 (b:Int)).toNat=b:=by
  rw[BitVec.ofInt_natCast,BitVec.toNat_ofNat];exact AfY (by omega)
 show IntKind.u32.wrap ((BitVec.ofInt 32 (a:Int) ||| BitVec.ofInt 32 (b:Int)).toNat:Int)=_
 rw[BitVec.toNat_or,A,G];generalize a ||| b=y at hx;simp[IntKind.wrap,IntKind.bits,IntKind.signed];omega
theorem AAd {a c:Nat}(ha:a<16777216)(G:c<256):Go.bits .or .u32 (IntKind.u32.wrap ((a:Int)*2^Int.toNat 8)) (IntKind.u32.wrap (c:Int))=((a*256+c:Nat):Int):=by
 have A:IntKind.u32.wrap ((a:Int)*2^Int.toNat 8)=((a*256:Nat):Int):=by
  simp[IntKind.wrap,IntKind.bits,IntKind.signed];omega
 have e2:IntKind.u32.wrap (c:Int)=(c:Int):=by simp[IntKind.wrap,IntKind.bits,IntKind.signed];omega
 rw[A,e2,TS _ _ (by omega) (by omega),show a*256=2^8*a by omega,<-AhP (show c<2^8 from G)]
def u3 (l:List Int):Int:=l.foldl (λa c=>a*256+c) 0
theorem AAe {x:Int}(h:0<=x/\x<4294967296):u3 (Qr x)=x:=by simp[u3,Qr];omega
theorem AAf {l:List Int}(h:l.length=4)(h8:Ft l):Qr (u3 l)=l:=by
 match l,h with
 | [a,b,c,d],_=>
  have A:=h8 a (by simp);have hb:=h8 b (by simp);have G:=h8 c (by simp);have hd:=h8 d (by simp);simp[u3,Qr];omega
theorem DU.uniq {bs:List Int}{i v w:Nat}(h:DU bs i v)(g:DU bs i w):v=w:=by
 obtain⟨_,r,A⟩:=h;obtain⟨_,s,G⟩:=g;exact(uE v w r s (A.symm.trans G)).1
def Jy (bs:List Int)(i:Nat)(r:List Int):Prop:=r.length<=65536/\∃rest,bs.drop i=frame r++rest
theorem Jy.uv {bs:List Int}{i:Nat}{r:List Int}(h:Jy bs i r):DU bs i r.length:=by
 obtain⟨G,rest,A⟩:=h;exact⟨by omega,_,by rw[A,frame,Aew,Aew]⟩
theorem Jy.parts {bs:List Int}{i:Nat}{r:List Int}(h:Jy bs i r):((bs.drop (i+(TwW.uv r.length).length)).take 4=Qr (TR r))/\(bs.drop (i+(TwW.uv r.length).length+4)).take r.length=r/\i+(TwW.uv r.length).length+4+r.length<=bs.length\/bs.length<=i:=by
 obtain⟨h1,rest,G⟩:=h;rcases Afp i bs.length with hi|hi
 .left
  have A:bs.drop (i+(TwW.uv r.length).length)=Qr (TR r)++(r++rest):=by
   rw[<-Afx,G,frame,Aew,Aew,Afr]
  have e2:bs.drop (i+(TwW.uv r.length).length+4)=r++rest:=by
   rw[<-Afx,A,show 4=(Qr (TR r)).length from rfl,Afr]
  refine⟨by rw[A,show 4=(Qr (TR r)).length from rfl,AhD],by rw[e2,AhD],?_⟩;have:=Ae4 List.length G;rw[Aet,Fk,AfV]at this;omega
 .exact .inr hi
theorem Jy.lt {bs:List Int}{i:Nat}{r:List Int}(h:Jy bs i r):i<bs.length:=by
 obtain⟨G,rest,A⟩:=h;have:=Ae4 List.length A;have h3:=Fk r;rw[Aet,AfV]at this;omega
theorem Ft.part {bs:List Int}(h:Ft bs)(i m:Nat):Ft ((bs.drop i).take m):=λx A=>h x (List.mem_of_mem_drop (AgF A))
theorem Jy.of {bs:List Int}{i len:Nat}(h8:Ft bs)(hu:DU bs i len)(hle:len<=65536)(E9:i+(TwW.uv len).length+4+len<=bs.length)
  (hs:TR ((bs.drop (i+(TwW.uv len).length+4)).take len)=u3 ((bs.drop (i+(TwW.uv len).length)).take 4)):Jy bs i ((bs.drop (i+(TwW.uv len).length+4)).take len):=by
 have hl:((bs.drop (i+(TwW.uv len).length+4)).take len).length=len:=by rw[AfE,AfV];omega
 refine⟨by omega,(bs.drop (i+(TwW.uv len).length+4)).drop len,?_⟩;obtain⟨_,rest,A⟩:=hu;have G:rest=bs.drop (i+(TwW.uv len).length):=by rw[<-Afx,A,Afr]
 have e4:Qr (TR ((bs.drop (i+(TwW.uv len).length+4)).take len))=(bs.drop (i+(TwW.uv len).length)).take 4:=by
  rw[hs,AAf (by rw[AfE,AfV];omega) (h8.part _ _)]
 rw[frame,hl,e4,A,G,Aew,Aew,Afi,show bs.drop (i+(TwW.uv len).length+4)=(bs.drop (i+(TwW.uv len).length)).drop 4 from Afx.symm,Afi]
section
variable {Z22:Hp}{R:Rr}
theorem AL1:Enters prog 283:=λargs w=>call283 args w
theorem AL2:Enters prog 284:=λargs w=>call284 args w
theorem eX {b i len:Nat}{p:Option Addr}{n c:Nat}{bs:List Int}(hb:Z22 b=none)(hr:Be .u8 Z22 p n bs)(h8:Ft bs)(hc:n<=c)(hi:i<=n)(hle:len<=65536)
  (AFt:n<i+4+len->∀Z'2,Ext Z22 Z'2->R (.T #[.N,.I 20]) Z'2)
  (u4:i+4+len<=n->TR ((bs.drop (i+4)).take len)≠u3 ((bs.drop i).take 4)->∀Z'2,Ext Z22 Z'2->R (.T #[.N,.I 22]) Z'2)
  (A4:i+4+len<=n->TR ((bs.drop (i+4)).take len)=u3 ((bs.drop i).take 4)->∀p' c' Z'2,A2 .u8 (Z22.new Z'2) p' len c' ((bs.drop (i+4)).take len)->Ext (Z22.set b (.cells #[.slice p n c,.I (i+4+len:Nat)] 369 (0,0))) Z'2->R (.T #[.slice p' len c',.I 0]) Z'2) :
  Spec prog 284 #[.pointer (some ⟨b,0,none⟩),.I len] (Z22.set b (.cells #[.slice p n c,.I i] 369 (0,0))) R:=by
 have TQ:bs.length=n:=hr.1;have EW:=hr.big;have hx:Ext Z22 (Z22.set b (.cells #[.slice p n c,.I i] 369 (0,0))):=.set hb;have Dt:∀{O2:Hp} {k:Int} {T:TypeId},(O2.set b (.cells #[.slice p n c,.I k] T (0,0))).ld ⟨b,0,none⟩=some (.slice p n c):=fun {O2 k T}=>AD (Hp.AA _ _ _) rfl;have Wb:∀{O2:Hp} {k:Int} {T:TypeId},(O2.set b (.cells #[.slice p n c,.I k] T (0,0))).ld ⟨b,0+1,none⟩=some (.I k):=fun {O2 k T}=>AD (Hp.AA _ _ _) rfl;refine Bl.start ⟨b,0,rfl,p,n,c,Dt,i,Wb,by unfold AK;omega,by unfold AK;omega,λh=>AFt (by omega) _ hx,λh=>⟨p,n,c,Dt,i,Wb,i,Wb,by unfold AK;omega,by omega,?_⟩⟩;have E9:i+4+len<=n:=by omega
 have e1:Int.toNat (i:Int)=i:=by omega
 have e2:Int.toNat ((i:Int)+4)-i=4:=by omega
 rw[e1,e2];have h4:Be .u8 (Z22.set b (.cells #[.slice p n c,.I i] 369 (0,0))) (ET p i c 1) 4 ((bs.drop i).take 4):=Be.sub (hr.mono hx) (by omega) hc;have h48:Ft ((bs.drop i).take 4):=h8.part _ _;have fin:Bl.Ep R (some ⟨b,0,none⟩) len (u3 ((bs.drop i).take 4)) (ET p i c 1) 4 (c-i) ((4:Nat):Int) ((4:Nat):Int) (Z22.set b (.cells #[.slice p n c,.I i] 369 (0,0))):=by
  refine Bl.FQ ⟨λhh=>by omega,λ_=>⟨b,0,rfl,p,n,c,Dt,i,Wb,by unfold AK;omega,i,Wb,by unfold AK;omega,by unfold AK;omega,by omega,i,Wb,by unfold AK;omega,by unfold AK;omega,?_⟩⟩;refine AH.store (v:=.I ((i:Int)+(4+(len:Int)))) Ss (Hp.AA _ _ _) rfl (by simp) (by simp[Value.cells,Value.oneCell']) ?_;rw[Hp.set_set];have hw:F0 #[Value.slice p n c,.I i] (0+1) (Value.int .i64 ((i:Int)+(4+(len:Int)))).cells.toList=#[.slice p n c,.I ((i+4+len:Nat):Int)]:=by
   rw[show((i+4+len:Nat):Int)=(i:Int)+(4+(len:Int)) by omega];rfl
  rw[hw];have e3:Int.toNat ((i:Int)+4)=i+4:=by omega
  have e4:Int.toNat ((i:Int)+4+(len:Int))-(i+4)=len:=by omega
  rw[e3,e4];have BD:Ext Z22 (Z22.set b (.cells #[.slice p n c,.I ((i+4+len:Nat):Int)] 369 (0,0))):=.set hb;have AL3:Be .u8 (Z22.set b (.cells #[.slice p n c,.I ((i+4+len:Nat):Int)] 369 (0,0))) (ET p (i+4) c 1) len ((bs.drop (i+4)).take len):=Be.sub (hr.mono BD) (by omega) hc;refine VJ AL3 λZ3 Ev=>⟨_,rfl,λAR=>u4 E9 AR _ (BD.trans Ev),λheq=>?_⟩;intro sZ G;have hq:∀a:Addr,(some (⟨sZ,0,none⟩:Addr))=some a->Z3 a.block=none:=λa ha=>by cases ha;exact G
  refine CF (T:=79) Own.empty ((Kt.of_map (AL3.mono Ev)).mono (.set G)) Ej.Gz (by omega) λp' c' Z'2 Bu Hm=>⟨p',_,c',rfl,?_⟩;rw[AfW]at Bu ⊢;have ho:=Own.HL Bu (EC hq Hm (.set G));have he:=Ek hq Hm (.set G);exact A4 E9 (AiL heq) p' c' Z'2 (ho.mono (Ext.Hq (BD.trans Ev))) (Ev.trans he)
 have step:∀(d k:Nat) (A:Nat),4-k=d->k<=4->A<256^k->(A:Int)=u3 (((bs.drop i).take 4).take k)->Bl.Ep R (some ⟨b,0,none⟩) len A (ET p i c 1) 4 (c-i) ((4:Nat):Int) k (Z22.set b (.cells #[.slice p n c,.I i] 369 (0,0))):=by
  intro d
  induction d with
  | zero=>
   intro k A hd hk VI ha;have:k=4:=by omega
   subst this;rw[Agf,Nat.min_self]at ha;rw[ha];exact fin
  | succ d ih=>
   intro k A hd hk VI ha;refine Bl.FQ ⟨λ_=>?_,λhh=>by omega⟩;obtain⟨y,hy⟩:=h4.ex (k:=k) (by omega);obtain⟨b2,o2,hp,hl⟩:=h4.at hy;have hy8:=h48 y (Ae2 hy);obtain⟨cc,rfl⟩:∃cc:Nat,y=cc:=⟨y.toNat,by omega⟩;refine⟨b2,o2,hp,by omega,cc,by simpa using hl,by simp[IntKind.bits],λx43 h43 XX h45 x46 h46=>⟨by unfold AK;omega,?_⟩⟩;subst h43 h45 h46;have AL4:A<16777216:=Nat.lt_of_lt_of_le VI (AfU (Agg (by decide) (show k<=3 by omega)) (by decide));rw[AAd AL4 (by omega),show aD b2 o2=_ from hp.symm];refine ih (k+1) (A*256+cc) (by omega) (by omega) (by rw[AgP];omega) ?_;rw[AL hy,u3,Agi,<-u3,<-ha];simp
 exact step 4 0 0 rfl (by omega) (by decide) rfl
theorem Qt {i:Nat}{p:Option Addr}{n c:Nat}{bs:List Int}(hr:Be .u8 Z22 p n bs)(h8:Ft bs)(hc:n<=c)(hi:i<=n)
  (A4:∀r,Jy bs i r->∀p' c' Z'2,A2 .u8 (Z22.new Z'2) p' r.length c' r->Ext Z22 Z'2->R (.T #[.slice p' r.length c',.I (i+(frame r).length:Nat),.I 0]) Z'2)
  (Pn:(∀r,¬Jy bs i r)->∀Z'2 (A:Int),A≠0->Ext Z22 Z'2->R (.T #[.N,.I 0,.I A]) Z'2) :
  Spec prog 249 #[.slice p n c,.I i] Z22 R:=by
 have TQ:bs.length=n:=hr.1;refine Np.start λb hb=>?_;have hx:∀k:Int,Ext Z22 (Z22.set b (.cells #[.slice p n c,.I k] 369 (0,0))):=λk=>.set hb;refine Uu.start ⟨_,_,_,rfl,AL1,?_⟩;simp only[Ah4];refine Hc.start ⟨b,0,rfl,p,n,c,AD (Hp.AA _ _ _) rfl,i,AD (Hp.AA _ _ _) rfl,Rs (hr.mono (hx i)) h8 hi ⟨λA9 A Xt=>⟨0,0,A,rfl,?_⟩,λv hv=>⟨v,_,0,rfl,?_⟩⟩⟩
 .refine AH.store (v:=.I 0) Ss (Hp.AA _ _ _) rfl (by simp) (by simp[Value.cells,Value.oneCell']) ?_;rw[Hp.set_set];refine⟨λ_=>⟨_,_,rfl,λ_=>⟨_,_,_,_,rfl,λ_=>Pn (λr G=>A9 _ G.uv) _ A Xt (hx 0),λh=>absurd Xt h⟩,λh=>absurd Xt h⟩,λh=>absurd Xt h⟩
 .refine AH.store (v:=.I ((i+(uv v).length:Nat):Int)) Ss (Hp.AA _ _ _) rfl (by simp) (by simp[Value.cells,Value.oneCell']) ?_;rw[Hp.set_set];have hw:F0 #[Value.slice p n c,.I i] (0+1) (Value.int .i64 ((i+(uv v).length:Nat):Int)).cells.toList=#[.slice p n c,.I ((i+(uv v).length:Nat):Int)]:=rfl;rw[hw];have hto:i+(uv v).length<=n:=by
   obtain⟨_,rest,h2⟩:=hv;have:=Ae4 List.length h2;rw[Aet,AfV]at this;rw[<-TQ];rcases Afp i bs.length with h|h
   .omega
   .have:=Rq v;omega
  refine⟨λh=>absurd rfl h,λ_=>⟨λEW=>⟨_,_,rfl,λ_=>⟨_,_,_,_,rfl,λ_=>Pn (λr G=>?_) _ 23 (by decide) (hx _),λh=>absurd (by decide) h⟩,λh=>absurd (by decide) h⟩,λKJ Tl h32=>?_⟩⟩
  .have:=hv.uniq G.uv;have:=G.1;omega
  .have e32:Tl=(v:Int):=by rw[h32];simp[IntKind.wrap,IntKind.bits,IntKind.signed];omega
   subst e32;refine⟨_,_,rfl,λh=>absurd rfl h,λ_=>⟨_,_,_,rfl,AL2,?_⟩⟩;have hle:v<=65536:=by omega
   have AC4:∀r,Jy bs i r->r.length=v:=λr G=>(hv.uniq G.uv).symm;simp only[Ah4];refine eX hb hr h8 hc hto hle (λhs Z'2 E4=>⟨_,_,_,_,rfl,_,_,_,_,rfl,λ_=>Pn (λr G=>?_) Z'2 20 (by decide) E4,λh=>absurd (by decide) h⟩) (λE9 AR Z'2 E4=>⟨_,_,_,_,rfl,_,_,_,_,rfl,λ_=>Pn (λr G=>?_) Z'2 22 (by decide) E4,λh=>absurd (by decide) h⟩)
    λE9 heq p' c' Z'2 ho E4=>⟨_,_,_,_,rfl,_,_,_,_,rfl,λh=>absurd rfl h,λ_=>⟨_,AD (E4 _ _ (Hp.AA _ _ _)) rfl,?_⟩⟩
   .have:=AC4 r G;rcases G.parts with ⟨_,_,h3⟩|h3
    .rw[this]at h3;omega
    .have:=G.lt;omega
   .have:=AC4 r G;rcases G.parts with ⟨h1,h2,h3⟩|h3
    .rw[this]at h1 h2;rw[h2,h1,AAe (Rt r)]at AR;exact AR rfl
    .have:=G.lt;omega
   .have G:=Jy.of h8 hv hle (by omega) heq;have hrl:((bs.drop (i+(uv v).length+4)).take v).length=v:=by rw[AfE,AfV];omega
    have:=A4 _ G p' c' Z'2 (by rw[hrl];exact ho) ((hx _).trans E4);rw[Fk,hrl]at this;rw[show i+(uv v).length+4+v=i+((uv v).length+4+v) by omega];exact this
end
end TwW
end
section
namespace Twz
open Go Go.MapKept Tw
variable [I9]
section
variable {P:Program}{Z22:Hp}{ik:IntKind}
class MpJ (P:Program)(T:TypeId)(ik:outParam IntKind)(K V:outParam TypeId):Prop where
 P9:P.underlying T=some (.map K V)
 key:P.underlying K=some (.int ik)
def Ak (ik:IntKind)(Z22:Hp)(b:Nat)(l:List MapEntry)(clock:Nat):Prop:=Z22 b=some (.map l.toArray clock)/\Stamped l.toArray clock/\∀x∈l,IsKey (.int ik) x.key
theorem CL {s:Int}{l:List MapEntry}(hk:∀x∈l,IsKey (.int ik) x.key):
  (Instr.findNow (.int ik) (.int ik s) l 0=some none/\∀x∈l,x.key≠.int ik s)\/∃A e l2,l=A++e::l2/\e.key=.int ik s/\Instr.findNow (.int ik) (.int ik s) l 0=some (some (A.length,e.val)):=by
 rcases findNow_spec (d:=.int ik) (k:=.int ik s) rfl l 0 hk with h|⟨j,e,G,h2,h3⟩
 .exact .inl h
 .obtain⟨hj,rfl⟩:=Ae0.1 h2;refine .inr ⟨l.take j,l[j],l.drop (j+1),?_,h3,?_⟩
  .rw[AhL,Afi]
  .rw[G];simp[AgS (Ain hj)]
section
variable {T K V ty:TypeId}{b clock:Nat}{l:List MapEntry}{s:Int}
theorem Ak.fresh {b:Nat}{Z22:Hp}:Ak ik (Z22.set b (.map #[] 0)) b [] 0:=⟨Hp.AA _ _ _,stamped_empty 0,by simp⟩
theorem Jr [t:MpJ P T ik K V](G:Ak ik Z22 b l clock){z:Value}(hz:∀w,(zeroValue V).run P w=.ok z w){Q:Value->Prop}
  (h0:(∀x∈l,x.key≠.int ik s)->Q z) (h1:∀l1 e l2,l=l1++e::l2->e.key=.int ik s->Q e.val):∃v,Q v/\YF P (Instr.lookup T (.map (some b)) (.int ik s) false) Z22 v:=by
 rcases CL (s:=s) G.2.2 with ⟨A,hn⟩|⟨l1,e,l2,hl,he,A⟩
 .refine⟨z,h0 hn,λw hs=>?_⟩;have:=hs _ _ G.1;simp[Instr.lookup,run_underlying t.P9,run_getObj_map this,run_checkKey t.key (k:=.int ik s) rfl,run_findKey t.key A,hz,Result.andThen]
 .refine⟨e.val,h1 l1 e l2 hl he,λw hs=>?_⟩;have:=hs _ _ G.1;simp[Instr.lookup,run_underlying t.P9,run_getObj_map this,run_checkKey t.key (k:=.int ik s) rfl,run_findKey t.key A,Result.andThen]
theorem Kg [t:MpJ P T ik K V](hm:Ak ik Z22 b l clock){z:Value}(hz:∀w,(zeroValue V).run P w=.ok z w){Φ:Value->Hp->Prop}
  (A:(∀x∈l,x.key≠.int ik s)->Φ z Z22) (G:∀l1 e l2,l=l1++e::l2->e.key=.int ik s->Φ e.val Z22):AH P (Instr.lookup T (.map (some b)) (.int ik s) false) Z22 Φ:=by
 obtain⟨v,hq,hy⟩:=Jr (T:=T) (K:=K) (s:=s) (Q:=λv=>Φ v Z22) hm hz A G;exact AH.pu hy hq
theorem Y7 [t:MpJ P T ik K V](A:Ak ik Z22 b l clock):YF P (Builtin.len_ #[T] ty #[.map (some b)]) Z22 (.int .i64 l.length):=λw G=>by
 have:=G _ _ A.1;simp[Builtin.len_,run_underlying t.P9,run_getObj_map this,goInt,Result.andThen]
abbrev CP (ik:IntKind)(s:Int)(v:Value)(n:Nat):MapEntry:={ key:=.int ik s,val:=v,born:=n }
theorem FI [t:MpJ P T ik K V](hm:Ak ik Z22 b l clock){v:Value}{Φ:Unit->Hp->Prop}
  (h0:(∀x∈l,x.key≠.int ik s)->∀Z'2,Z'2=Z22.set b (.map (l++[CP ik s v clock]).toArray (clock+1))->Ak ik Z'2 b (l++[CP ik s v clock]) (clock+1)->Φ () Z'2)
  (h1:∀A e l2,l=A++e::l2->e.key=.int ik s->∀Z'2,Z'2=Z22.set b (.map (A++CP ik s v e.born::l2).toArray clock)->Ak ik Z'2 b (A++CP ik s v e.born::l2) clock->Φ () Z'2) :
  AH P (Instr.mapUpdate T (.map (some b)) (.int ik s) v) Z22 Φ:=by
 obtain⟨hb,Ei,hk⟩:=hm;rcases CL (s:=s) hk with ⟨hf,hn⟩|⟨A,e,l2,hl,he,hf⟩
 .have MD:(l++[CP ik s v clock]).toArray=l.toArray.push (CP ik s v clock):=by simp
  refine AH.obj (v:=()) (o':=.map (l++[CP ik s v clock]).toArray (clock+1)) hb (λw hs=>⟨w,.inl rfl,?_⟩) (h0 hn _ rfl ⟨Hp.AA _ _ _,?_,?_⟩)
  .have:=hs _ _ hb;rw[MD];simp only[Instr.mapUpdate,Sem.run_bind,run_underlying t.P9,run_getObj_map this,run_checkKey t.key (k:=.int ik s) rfl,run_findKey t.key hf,Result.andThen_ok];simp[setObj,Sem.run,this,ChangeMaps.setBlock]
  .rw[MD];exact stamped_push Ei (by simpa using hn)
  .intro x G;rcases Ae9.1 G with G|G
   .exact hk x G
   .rw[Aev]at G;subst G;rfl
 .subst hl;have IL:(A++CP ik s v e.born::l2).toArray=(A++e::l2).toArray.modify A.length (λe=>{ e with key:=.int ik s,val:=v }):=by
   rw[<-AfM];apply Afo
   intro j;simp only[Afc,Af5,AgQ];by_cases hj:A.length=j
   .subst hj;simp
   .rw[Aeu hj];rcases Afp j A.length with h|h
    .rw[Ae8 h,Ae8 h]
    .have:∃k,j=A.length+(k+1):=⟨j-A.length-1,by omega⟩;obtain⟨k,rfl⟩:=this;simp[AfJ]
  have Ib:(A++e::l2).toArray[A.length]?=some e:=by simp
  refine AH.obj (v:=()) (o':=.map (A++CP ik s v e.born::l2).toArray clock) hb (λw hs=>⟨w,.inl rfl,?_⟩) (h1 A e l2 rfl he _ rfl ⟨Hp.AA _ _ _,?_,?_⟩)
  .have:=hs _ _ hb;rw[IL];simp only[Instr.mapUpdate,Sem.run_bind,run_underlying t.P9,run_getObj_map this,run_checkKey t.key (k:=.int ik s) rfl,run_findKey t.key hf,Result.andThen_ok,Ib,Afv,AhQ,he,
    run_keyThatStays (d:=.int ik) (k:=.int ik s) rfl]
   simp[setObj,Sem.run,this,ChangeMaps.setBlock]
  .rw[IL];exact stamped_modify Ei _ _ (λ_ _=>rfl) (λe' _ oe=>by rw[Ib]at oe;cases oe;exact he.symm)
  .intro x G;rcases Ae9.1 G with G|G
   .exact hk x (Afk _ G)
   .rcases Ae5.1 G with rfl|G
    .rfl
    .exact hk x (Afs _ (Aey _ G))
theorem IM [t:MpJ P T ik K V](hm:Ak ik Z22 b l clock){Φ:Value->Hp->Prop}
  (h0:(∀x∈l,x.key≠.int ik s)->∀Z'2,Z'2=Z22.set b (.map l.toArray clock)->Ak ik Z'2 b l clock->Φ (.tuple #[]) Z'2)
  (h1:∀G e l2,l=G++e::l2->e.key=.int ik s->∀Z'2,Z'2=Z22.set b (.map (G++l2).toArray clock)->Ak ik Z'2 b (G++l2) clock->Φ (.tuple #[]) Z'2) {A:Array TypeId} (hA:A[0]?=some T) :
  AH P (Builtin.delete_ A ty #[.map (some b),.int ik s]) Z22 Φ:=by
 obtain⟨hb,Ei,hk⟩:=hm;rcases CL (s:=s) hk with ⟨hf,hn⟩|⟨G,e,l2,hl,he,hf⟩
 .refine AH.obj (v:=.tuple #[]) (o':=.map l.toArray clock) hb (λw hs=>⟨w,.inl rfl,?_⟩) (h0 hn _ rfl ⟨Hp.AA _ _ _,Ei,hk⟩);have:=hs _ _ hb;simp[Builtin.delete_,hA,run_underlying t.P9,run_getObj_map this,run_checkKey t.key (k:=.int ik s) rfl,run_findKey t.key hf,Result.andThen,setObj,Sem.run,this,ChangeMaps.setBlock]
 .subst hl;have IL:(G++l2).toArray=(G++e::l2).toArray.eraseIdxIfInBounds G.length:=by
   rw[<-AfM];simp[Array.eraseIdxIfInBounds,Agm]
  refine AH.obj (v:=.tuple #[]) (o':=.map (G++l2).toArray clock) hb (λw hs=>⟨w,.inl rfl,?_⟩) (h1 G e l2 rfl he _ rfl ⟨Hp.AA _ _ _,?_,?_⟩)
  .have:=hs _ _ hb;rw[IL];simp only[Builtin.delete_,hA,AgQ,Af0,Afd,Sem.run_bind,run_underlying t.P9,run_getObj_map this,run_checkKey t.key (k:=.int ik s) rfl,run_findKey t.key hf,Result.andThen_ok];simp[setObj,Sem.run,this,ChangeMaps.setBlock,Result.andThen]
  .rw[IL];exact stamped_erase Ei _
  .intro x hx;rcases Ae9.1 hx with hx|hx
   .exact hk x (Afk _ hx)
   .exact hk x (Afs _ (Aey _ hx))
theorem Js [t:MpJ P T ik K V](A:Ak ik Z22 b l clock){Φ:Value->Hp->Prop}(h:∀i o,Z22 i=none->Cs (Z22.set i o) i b l l clock->Φ (.pointer (some ⟨i,0,none⟩)) (Z22.set i o)):AH P (Instr.range T (.map (some b))) Z22 Φ:=
 AH.new (v:=λi=>.pointer (some ⟨i,0,none⟩)) (o:=.mapIter (some b) clock #[] clock) (λw G=>by
  have:=G _ _ A.1;simp[Instr.range,run_underlying t.P9,run_getObj_map this,Result.andThen]) λi hi=>h i _ hi ⟨#[],clock,Hp.AA _ _ _,Ae1 _,by simp[leftOf,AgM.2]⟩
theorem ME (hm:Ak ik Z22 b l clock){i:Nat}{L:List MapEntry}(hi:Cs Z22 i b l L clock){Φ:Value->Hp->Prop}
  (h0:L=[]->Φ (.tuple #[.bool false]) Z22)
  (h1:∀e∈L,e∈l->∀o,(∀O2,O2 i=some o->Cs O2 i b l (L.filter λx=>x.born != e.born) clock)->
   (∀O2,O2 i=some o->O2 b=Z22 b->∀{Ψ:Value->Hp->Prop},Ψ (.tuple #[e.key,e.val]) O2->AH P (Instr.entry (.pointer (some ⟨i,0,none⟩))) O2 Ψ)->Φ (.tuple #[.bool true,e.key,e.val]) (Z22.set i o)) :
  AH P (Instr.next (.pointer (some ⟨i,0,none⟩)) false ty) Z22 Φ:=by
 obtain⟨seen,c0,hi,hc,rfl⟩:=hi;obtain⟨hb,Ei,A⟩:=hm;have hold:∀x∈l.toArray.toList,x.born<clock:=Ei.1;intro w F hs hF;rcases run_next_at (P:=P) w ty i b clock c0 seen l.toArray clock (hs _ _ hi) (hs _ _ hb) hold hc with ⟨h,Cd⟩|⟨e,he,w1,Uv,Cd⟩
 .exact⟨_,w,Z22,Cd,h0 (Ae6 (by simpa using h)),hs,λk A=>⟨(hF k A).2,rfl⟩,.same rfl rfl rfl,rfl,Ae1 _⟩
 .have hel:=(mem_left he).1;have h2:=h1 e he (by simpa using hel) (.mapIter (some b) clock (seen.push e.born) clock) (λO2 hτ=>⟨_,_,hτ,Ae1 _,Rf.symm⟩) (λO2 hτ uA Ψ hΨ=>AH.pu (λw' PL=>run_entry_at w' i b clock seen l.toArray clock e (PL _ _ hτ) (PL _ _ (uA.trans hb)) hel Ei.2.1) hΨ);have Aq:i<w.heap.size:=(AfA.1 (hs _ _ hi)).1;have DH:w1.heap=w.heap:=by rcases Uv with rfl|rfl<;>rfl
  refine⟨_,_,_,Cd,h2,λk u A=>?_,λk A=>?_,?_,?_,?_⟩
  .simp only[ChangeMaps.setBlock,DH];by_cases G:k=i
   .subst G;rw[Hp.AA]at A;cases A;simp[Aq]
   .rw[Hp.AB G]at A;simp[AfT G,hs k u A]
  .have G:k≠i:=λe=>by have:=(hF k A).2;rw[e,hi]at this;cases this
   refine⟨by rw[Hp.AB G];exact(hF k A).2,?_⟩;simp[ChangeMaps.setBlock,DH,AfT G]
  .rcases Uv with rfl|rfl
   .exact .same rfl rfl rfl
   .exact⟨rfl,rfl,λ_=>⟨1,rfl⟩⟩
  .rcases Uv with rfl|rfl<;>rfl
  .simp[ChangeMaps.setBlock,DH]
end
end
end Twz
end
section
namespace TwW
open Go Tw Go.RowKit Go.Proofs.Tryz
theorem Xu:∀{ss:List Sr} {q:Option (List Lb)},MF q ss=true->(∀k,q=some k->∀s∈ss,BN k s.ls<0)/\ss.Pairwise λa b=>BN a.ls b.ls<0
 | [],q,_=>⟨λk _ s hs=>(by cases hs),.nil⟩
 | s::l,q,h=>by
  rw[Xc]at h;simp only[AfH]at h;obtain⟨G,h2⟩:=Xu h.2;refine⟨λk hk u A=>?_,Afb.2 ⟨λu A=>G s.ls rfl u A,h2⟩⟩;subst hk;have h3:BN k s.ls<0:=AfS h.1.2;rcases Ae5.1 A with rfl|A
  .exact h3
  .exact Ax.trans _ _ _ h3 (G s.ls rfl u A)
theorem AH.stq {P:Program}{Z22:Hp}{b n o:Nat}{T t:TypeId}{c c':Array Value}{v:Value}{Φ:Unit->Hp->Prop}(hz:∀w,(Go.sizeOf T).run P w=.ok n w)(hb:Z22 b=some (.cells c t (0,0)))
  (hv:v.cells.size=n) (hl:Nat.ble (o+n) c.size=true) (A:(v.cells.toList.all λu=>u.oneCell')=true) (G:F0 c o v.cells.toList=c') (h:Φ () (Z22.set b (.cells c' t (0,0)))) :
  AH P (Instr.storeAt T (.pointer (some ⟨b,o,none⟩)) v) Z22 Φ:=by
 subst G;exact AH.store hz hb hv (Afh hl) (λu hu=>Afu.1 A u hu) h
def EG (w:ByteArray):List Int:=uv w.size++Rh w
def pN (ss:List Sr)(l:Lb):List Int:=qq [jg ss l.1,jg ss l.2]
def Tp (ss:List Sr)(ls:List Lb):List Int:=uv ls.length++ls.flatMap (pN ss)
def PA (ps:List Pt):List Int:=uv (JP (E5 ps)).length++JP (E5 ps)
def C1 (ss:List Sr):List Int:=[84,87,66,1]++uv (CN ss).length++(CN ss).flatMap EG++uv ss.length++(ss.flatMap λs=>Tp ss s.ls)++ss.flatMap λs=>PA s.ps
def EL (ss:List Sr):List Int:=C1 ss++Qr (TR (C1 ss))
theorem aT {w:ByteArray}:∀{l:List ByteArray} {pv:Option ByteArray},w∈eC pv l->w∈l
 | x::l,pv,h=>by
  rw[eC]at h;split at h
  .exact Aey _ (aT h)
  .rcases Ae5.1 h with rfl|h
   .exact AfB ..
   .exact Aey _ (aT h)
theorem mO {ss:List Sr}{w:ByteArray}(h:w∈CN ss):w∈JV ss:=eS.1 (aT h)
theorem aU (ss:List Sr):(CN ss).length<=(JV ss).length:=by
 have:=mD (aQ (JV ss)) none;rw[VF]at this;exact this
theorem u5 {w:qp}{x:Nat}:(Gx w x).1.length<=100:=by
 unfold Gx;split
 .simp
 .split<;>(simp only[Aet,AfD,Bz];omega)
theorem u6 (z:Int):(TP z).length<=128:=by
 unfold TP;have:=uO z;rw[Aet,Bz,Bz];omega
theorem mP:∀(ps:List Pt) (p:Pt) (d:Int) (w:qp),(gS p d w ps).length<=228*ps.length
 | [],_,_,_=>Ae1 _
 | q::ps,p,d,w=>by
  rw[gS,Aet,Aet,Aez];have A:=u6 (q.1-p.1-d);have G:=u5 (w:=w) (x:=q.2.toNat ^^^ p.2.toNat);have h3:=mP ps q (q.1-p.1) (Gx w (q.2.toNat ^^^ p.2.toNat)).2;omega
theorem Jz (ps:List Pt):(E5 ps).length<=141+228*ps.length:=by
 unfold E5;rw[Aet,Bz];cases ps with
 | nil=>simp
 | cons p ps=>
  dsimp only;rw[Aet,Aet,Bz,Bz,Aez];have:=mP ps p 0 ⟨0,0,false⟩;omega
theorem mQ (l:List Bool):Ft (JP l):=λx A=>by
 unfold JP at A;obtain⟨i,_,rfl⟩:=AfC.1 A;have:=Yf l i;omega
theorem Fm {xs:List Int}(h:Ft xs):Rh (strOfNums xs)=xs:=by
 have e:(xs.map λx=>UInt8.ofNat x.toNat).map (λb=>(b.toNat:Int))=xs:=by
  rw[Afg]
  conv=>rhs;rw[<-Ah0 xs]
  refine Af8 λx G=>?_;have h1:=h x G;have A:(UInt8.ofNat x.toNat).toNat=x.toNat%256:=by simp
  show((UInt8.ofNat x.toNat).toNat:Int)=x
  rw[A];omega
 rw[<-e,Uz];simp[Rh]
theorem u7:∀w,(zeroValue 3).run prog w=.ok (.I 0) w:=λw=>by kernel_rfl
section
variable {O2 O'2 Z22 Z'2:Hp}{b:Nat}{vs:List Value}{T:TypeId}{L:List Int}{R:Rr}
theorem JK.grow (h:JK O2 Z22 b vs T L)(A:Ext Z22 Z'2):JK O2 Z'2 b vs T L:=by
 obtain⟨p,c,hb,G,hp⟩:=h.at_;exact⟨⟨p,c,A _ _ hb,Own.mono A G,hp⟩,h.ext.trans A,h.new⟩
theorem AFu {b7:Nat}{x y:Int}{A:TypeId}(h:Z22 b7=some (.cells #[.I x,.I y] A (0,0))):Be .i64 Z22 (aD b7 0) 2 [x,y]:=.KO ⟨rfl,by decide,.inr ⟨b7,0,rfl,Bm.of_cells (c:=[.I x,.I y]) h⟩⟩
theorem jk {x y:Int}{b7:Nat}(h:EB O2 Z22 b L)(A:Z22 b7=none)(hx:0<=x/\x<9223372036854775808)(hy:0<=y/\y<9223372036854775808)(hl:L.length<=700000000000)(hR:∀Z'2,EB O2 Z'2 b (L++qq [x,y])->R (.T #[]) Z'2):Spec prog 122 #[.pointer (aD b 0),.slice (aD b7 0) 2 2] (Z22.set b7 (.cells #[.I x,.I y] 3 (0,0))) R:=by
 have h1:=h.alloc (o:=.cells #[.I x,.I y] 3 (0,0)) A;have t7:O2 b7=none:=AT h.ext A;refine Nw h1 (AFu (Hp.AA _ _ _)) (λz G=>?_) (by decide) (by omega) λZ'2 h'=>hR Z'2 (h'.JL (Ext.set t7));simp only[Ae5,Afj,Agd]at G;rcases G with rfl|rfl
 .exact hx
 .exact hy
theorem S4 {p:Option Addr}{n c:Nat}{xs:List Int}(ho:A2 .u8 Z22 p n c xs)(hn:n<=1000000000000)(h:∀p' c' Z'2,A2 .u8 Z'2 p' (n+4) c' (xs++Qr (TR xs))->Ext (Z22.del p) (Z'2.del p')->R (.returned (.slice p' (n+4) c')) Z'2):Spec prog 125 #[.slice p n c] Z22 R:=by
 refine Qc.start (VJ ho.rd λZ12 Ct=>⟨_,rfl,by decide,λx8 h8 x9 h9=>⟨by decide,λGp A CR G=>⟨by decide,λDY h14 DA h15 C3 h17 PS h18=>?_⟩⟩⟩);have hcr:=Rt xs;have ec:[Value.int .u8 x9,.int .u8 CR,.int .u8 DA,.int .u8 C3]=(Qr (TR xs)).map (.int .u8):=by
  subst h8 h9 A G h14 h15 h17;simp[Qr,IntKind.wrap,IntKind.bits,IntKind.signed]
 have TI:=Ext.set (o:=.cells #[.int .u8 x9,.int .u8 CR,.int .u8 DA,.int .u8 C3] 5 (0,0)) h18;refine CF (Own.mono (Ct.trans TI) ho) (q:=aD PS 0) (ys:=[.int .u8 x9,.int .u8 CR,.int .u8 DA,.int .u8 C3]) ⟨rfl,by decide,.inr ⟨PS,0,rfl,Bm.of_cells (c:=[.int .u8 x9,.int .u8 CR,.int .u8 DA,.int .u8 C3]) (Hp.AA _ _ _)⟩⟩ (λu hu=>by simp at hu;rcases hu with rfl|rfl|rfl|rfl<;>rfl) (by omega) λp' c' y Cq E4=>⟨p',_,c',rfl,?_⟩;rw[ec]at Cq;exact h p' c' y (by unfold A2;rw[AfF];exact Cq) (Ext.trans (Ext.del (Ct.trans TI) p) E4)
end
theorem AAh (l:List Bool)(i:Nat){r:Nat}(A:r<8):RE l i/2^(7-r)%2=bt l (8*i+r):=by
 have G:=EO l (8*i);have h1:=EO l (8*i+1);have h2:=EO l (8*i+2);have h3:=EO l (8*i+3);have h4:=EO l (8*i+4);have h5:=EO l (8*i+5);have h6:=EO l (8*i+6);have h7:=EO l (8*i+7);unfold RE
 match r,A with
 | 0,_=>show _/2^7%2=bt l (8*i);omega
 | 1,_=>show _/2^6%2=bt l (8*i+1);omega
 | 2,_=>show _/2^5%2=bt l (8*i+2);omega
 | 3,_=>show _/2^4%2=bt l (8*i+3);omega
 | 4,_=>show _/2^3%2=bt l (8*i+4);omega
 | 5,_=>show _/2^2%2=bt l (8*i+5);omega
 | 6,_=>show _/2^1%2=bt l (8*i+6);omega
 | 7,_=>show _/2^0%2=bt l (8*i+7);omega
set_option maxRecDepth 100000 in
theorem u9:∀m:Fin 256,Go.bits .and .u8 (m.1:Int) 1=(m.1:Int)%2:=by decide +kernel
theorem AAi (l:List Bool)(j:Nat):IntKind.u64.wrap (Go.bits .and .u8 (RE l (j/8)/2^(7-j%8)) 1)=bt l j:=by
 have h1:=Yf l (j/8);have hr:j%8<8:=AhA _ (by decide);obtain⟨m,G⟩:∃m:Nat,RE l (j/8)/2^(7-j%8)=(m:Int):=⟨(RE l (j/8)/2^(7-j%8)).toNat,(Int.toNat_of_nonneg (Int.ediv_nonneg h1.1 (Int.le_of_lt (Int.pow_pos (by decide))))).symm⟩;have h2:(m:Int)<=RE l (j/8):=by rw[<-G];exact Int.ediv_le_self _ h1.1
 have e:=AAh l (j/8) hr;rw[show 8*(j/8)+j%8=j by omega,G]at e;rw[G,u9 ⟨m,by omega⟩];show IntKind.u64.wrap ((m:Int)%2)=_
 rw[e];have:=EO l j;have A:bt l j=0\/bt l j=1:=by omega
 rcases A with A|A<;>rw[A]<;>decide
theorem vA {u y:Nat}(A:2*u<18446744073709551616)(G:y<2):Go.bits .or .u64 ((2*u:Nat):Int) (y:Int)=((2*u+y:Nat):Int):=by
 rw[bits_or_u64_nat _ _ A (by omega)];have:=AhP (i:=1) (b:=y) (by omega) u;rw[Nat.pow_one]at this;rw[this]
theorem AFv:∀l:List Bool,dA l<2^l.length:=λl=>by
 suffices H:∀(l:List Bool) (a:Nat),l.foldl (λa x=>2*a+if x then 1 else 0) a<(a+1)*2^l.length by
  have:=H l 0;rw[AfW,Aia]at this;exact this
 intro l
 induction l with
 | nil=>intro a;simp
 | cons x l A=>
  intro a;rw[AgT,Aez,AgP];refine Nat.lt_of_lt_of_le (A _) ?_;rw[AgK (2^l.length) 2,<-AhS];refine AfK _ ?_;split<;>omega
structure Fu (O2 Z22:Hp)(b:Nat)(p:Option Addr)(n c:Nat)(l:List Bool)(j:Nat):Prop where
 g:Z22 b=some (.cells #[.slice p n c,.I (8*(n:Int)),.I (j:Int),.bool false] 311 (0,0))
 ext:Ext O2 Z22
 new:O2 b=none
 rd:Be .u8 O2 p n (JP l)
section
variable {O2 Z22:Hp}{b:Nat}{p:Option Addr}{n c j:Nat}{l:List Bool}{R:Rr}
theorem Fu.size (h:Fu O2 Z22 b p n c l j):n=(l.length+7)/8:=by rw[<-FM];exact h.rd.1.symm
theorem AC5:∀w,(Go.sizeOf 4).run prog w=.ok 1 w:=λw=>by kernel_rfl
theorem Fu.put {k:Nat}{G:Hp->Prop}(h:Fu O2 Z22 b p n c l j)(hG:∀Z'2,Fu O2 Z'2 b p n c l k->G Z'2):AH prog (Instr.storeAt 3 (.pointer (aD b (0+2))) (.I (k:Int))) Z22 (λ_=>G):=by
 refine AH.store (P:=prog) lu h.g rfl (by simp) (λv hv=>by rw[Aev.1 (show v∈[Value.int .i64 (k:Int)] from hv)];rfl) (hG _ ⟨?_,λk v A=>?_,h.new,h.rd⟩)
 .rw[Hp.AA];rfl
 .rw[Hp.AB (λe=>by rw[e,h.new]at A;cases A)];exact h.ext _ _ A
theorem Fu.good {x:Bool}{G:Hp->Prop}(h:Fu O2 Z22 b p n c l j)(hx:x=false)(hG:∀Z'2,Fu O2 Z'2 b p n c l j->G Z'2):AH prog (Instr.storeAt 4 (.pointer (aD b (0+3))) (.bool x)) Z22 (λ_=>G):=by
 subst hx;refine AH.store (P:=prog) AC5 h.g rfl (by simp) (λv hv=>by rw[Aev.1 (show v∈[Value.bool false] from hv)];rfl) (hG _ ⟨?_,λk v A=>?_,h.new,h.rd⟩)
 .rw[Hp.AA];rfl
 .rw[Hp.AB (λe=>by rw[e,h.new]at A;cases A)];exact h.ext _ _ A
theorem AFw (pre m post:List Bool)(x:Bool):bt (pre++(x::m)++post) pre.length=sA x:=by
 unfold bt;rw[Aew,AfJ (Ae1 _),AgB];rfl
theorem pO:∀(m pre post a:List Bool) (Z22:Hp),l=pre++m++post->l.length<=1000000000000->(a++m).length<=64->Fu O2 Z22 b p n c l pre.length->(∀Z'2,Fu O2 Z'2 b p n c l (pre++m).length->R (.T #[.U (dA (a++m):Int),.bool true]) Z'2)->DS.BM R (aD b 0) (m.length:Int) (dA a:Int) Z22:=by
 intro m
 induction m with
 | nil=>
  intro pre post a Z22 hl hn ha h hR;refine DS.Bg ⟨λ_=>?_,λhh=>absurd rfl hh⟩;rw[AfG]at hR;rw[AfG]at hR;exact hR Z22 h
 | cons x m ih=>
  intro pre post a Z22 hl hn ha h hR;have A:a.length<=63/\m.length<=63:=by rw[Aet,Aez]at ha;omega
  obtain⟨A,WJ⟩:=A;have hu:2*dA a<18446744073709551616:=by
   have h1:=AFv a;have h2:2^a.length<=2^63:=Agg (by decide) A;have h3:(2:Nat)^63=9223372036854775808:=by decide
   omega
  have hj:pre.length<l.length:=by rw[hl,Aet,Aet,Aez];omega
  have Dz:=h.size;obtain⟨b',o',e,Dt⟩:=Be.at h.rd (Yg (l:=l) (i:=pre.length/8) (by omega));refine DS.Bg ⟨λhh=>absurd hh (by rw[Aez];omega),λ_=>⟨by rw[Aez];unfold AK;omega,⟨by decide,by decide⟩,λC3 e17=>⟨b,0,rfl,p,n,c,AD h.g rfl,(pre.length:Int),AD h.g rfl,by decide,λJj uU=>⟨b',o',e,?_⟩⟩⟩⟩;rw[ACv (by omega)]at uU;subst uU;refine⟨⟨by omega,by omega⟩,RE l (pre.length/8),by rw[AfR];exact h.ext.ld Dt,(pre.length:Int),AD h.g rfl,by decide,λIE G=>?_⟩;rw[uJ]at G;subst G;have e2:Int.toNat (7-((pre.length%8:Nat):Int))=7-pre.length%8:=by omega
  refine⟨by unfold AK;omega,⟨by omega,show _<=((8:Nat):Int) by omega⟩,λxl e35 gF e36 Yn e37 JR e38=>⟨(pre.length:Int),AD h.g rfl,by unfold AK;omega,?_⟩⟩;have e3:JR=(dA (a++[x]):Int):=by
   have hb:bt l pre.length=sA x:=by rw[hl];exact AFw _ _ _ _
   rw[e38,e37,e36,e35,e2,AAi,hb,e17];have e4:IntKind.u64.wrap ((dA a:Int)*2^Int.toNat 1)=((2*dA a:Nat):Int):=by
    rw[show(2:Int)^Int.toNat 1=2 from rfl];simp[IntKind.wrap,IntKind.bits,IntKind.signed];omega
   rw[e4,sE];cases x
   .exact vA hu (y:=0) (by decide)
   .exact vA hu (y:=1) (by decide)
  subst e3;have e5:((x::m).length:Int)-1=(m.length:Int):=by rw[Aez];omega
  have e6:(pre.length:Int)+1=((pre++[x]).length:Int):=by rw[Aet,AfD];omega
  rw[e5,e6];refine h.put λZ'2 h'=>ih (pre++[x]) post (a++[x]) Z'2 (by rw[hl];simp) hn (by rw[Aew];exact ha) h' λZ222 h2=>?_;rw[Aew]at h2;rw[Aew];exact hR Z222 h2
theorem Rv {m pre post:List Bool}(h:Fu O2 Z22 b p n c l pre.length)(hl:l=pre++m++post)(hn:l.length<=1000000000000)(hm:m.length<=64)(hR:∀Z'2,Fu O2 Z'2 b p n c l (pre++m).length->R (.returned (.U (dA m:Int))) Z'2):Spec prog 223 #[.pointer (aD b 0),.I (m.length:Int)] Z22 R:=by
 have Dz:=h.size;have hle:pre.length+m.length<=l.length:=by rw[hl,Aet,Aet];omega
 refine Iw.start ⟨b,0,rfl,DS.start (Jn.start ⟨b,0,rfl,8*(n:Int),AD h.g rfl,(pre.length:Int),AD h.g rfl,by unfold AK;omega,⟨_,rfl,λG=>by omega,λ_=>pO m pre post [] Z22 hl hn hm h λZ'2 A=>⟨_,_,rfl,false,AD A.g rfl,λG=>absurd G (by decide),λ_=>A.good rfl λZ222 h2=>hR Z222 h2⟩⟩⟩)⟩
end
theorem AS0 {z:Int}(h:-64<=z/\z<=63):IntKind.i64.wrap (IntKind.u64.wrap (((Gd z%128:Nat):Int)*144115188075855872))/144115188075855872=z:=by
 unfold Gd;simp[IntKind.wrap,IntKind.bits,IntKind.signed];omega
theorem AS1 {z:Int}(h:-256<=z/\z<=255):IntKind.i64.wrap (IntKind.u64.wrap (((Gd z%512:Nat):Int)*36028797018963968))/36028797018963968=z:=by
 unfold Gd;simp[IntKind.wrap,IntKind.bits,IntKind.signed];omega
theorem AL6 {z:Int}(h:-2048<=z/\z<=2047):IntKind.i64.wrap (IntKind.u64.wrap (((Gd z%4096:Nat):Int)*4503599627370496))/4503599627370496=z:=by
 unfold Gd;simp[IntKind.wrap,IntKind.bits,IntKind.signed];omega
theorem AL7 {z:Int}(h:-4611686018427387904<=z/\z<=4611686018427387904):IntKind.i64.wrap (IntKind.u64.wrap (((Gd z%18446744073709551616:Nat):Int)*1))/1=z:=by
 unfold Gd;simp[IntKind.wrap,IntKind.bits,IntKind.signed];omega
def Cl (z:Int)(n W:Nat):Prop:=(n=0/\W=0/\z=0)\/(n=1/\W=7/\-64<=z/\z<=63)\/(n=2/\W=9/\-256<=z/\z<=255)\/(n=3/\W=12/\-2048<=z/\z<=2047)\/(n=4/\W=64/\-4611686018427387904<=z/\z<=4611686018427387904)
def VL (n:Nat):List Bool:=List.replicate n true++if n<4 then[false] else[]
theorem AL8 {z:Int}(h:-4611686018427387904<=z/\z<=4611686018427387904):∃n W,Cl z n W/\TP z=VL n++Du (Gd z) W:=by
 unfold TP Qk;by_cases A:z=0
 .exact⟨0,0,.inl ⟨rfl,rfl,A⟩,by rw[Aex A];rfl⟩
 rw[Aeu A];by_cases G:-64<=z/\z<=63
 .exact⟨1,7,.inr (.inl ⟨rfl,rfl,G⟩),by rw[Aex G];rfl⟩
 rw[Aeu G];by_cases h2:-256<=z/\z<=255
 .exact⟨2,9,.inr (.inr (.inl ⟨rfl,rfl,h2⟩)),by rw[Aex h2];rfl⟩
 rw[Aeu h2];by_cases h3:-2048<=z/\z<=2047
 .exact⟨3,12,.inr (.inr (.inr (.inl ⟨rfl,rfl,h3⟩))),by rw[Aex h3];rfl⟩
 rw[Aeu h3];exact⟨4,64,.inr (.inr (.inr (.inr ⟨rfl,rfl,h⟩))),rfl⟩
section
variable {O2 Z22:Hp}{b:Nat}{p:Option Addr}{n c j:Nat}{l pre post:List Bool}{R:Rr}{z:Int}
theorem Fu.alloc {k:Nat}{o:Obj}(h:Fu O2 Z22 b p n c l j)(A:Z22 k=none):Fu O2 (Z22.set k o) b p n c l j:=
 ⟨by rw[Hp.AB (λe=>by rw[<-e,h.g]at A;cases A)];exact h.g,h.ext.trans (.set A),h.new,h.rd⟩
theorem Xv {k W:Nat}(hc:Cl z k W)(h:Fu O2 Z22 b p n c l pre.length)(hl:l=pre++Du (Gd z) W++post)(hn:l.length<=1000000000000)(hR:∀Z'2,Fu O2 Z'2 b p n c l (pre++Du (Gd z) W).length->R (.returned (.I z)) Z'2):
  Al Z22 λF9=>In (k:Int) 5/\LI .i64 (Hp.set Z22 F9 (.cells #[.I 0,.I 7,.I 9,.I 12,.I 64] 3 (0,0))) F9 (0+Int.toNat (k:Int)*1) λEJ=>Br (EJ=0) (R (.returned (.I 0)) (Hp.set Z22 F9 (.cells #[.I 0,.I 7,.I 9,.I 12,.I 64] 3 (0,0)))) (Spec prog 223 #[.pointer (aD b 0),.I EJ] (Hp.set Z22 F9 (.cells #[.I 0,.I 7,.I 9,.I 12,.I 64] 3 (0,0))) (BI R (CI .u64 λSa y=>AK (64-EJ)/\((0:Int)<=(64-EJ)/\(64-EJ)<=((IntKind.bits .u64:Nat):Int))/\Df (IntKind.u64.wrap (Sa*2^Int.toNat (64-EJ))) λTl=>Df (IntKind.i64.wrap Tl) λIE=>AK (64-EJ)/\((0:Int)<=(64-EJ)/\(64-EJ)<=((IntKind.bits .i64:Nat):Int))/\Df (IE/2^Int.toNat (64-EJ)) λgF=>R (.returned (.I gF)) y))):=by
 intro F9 h21;have h':=h.alloc (o:=.cells #[.I 0,.I 7,.I 9,.I 12,.I 64] 3 (0,0)) h21;have A:(Z22.set F9 (.cells #[.I 0,.I 7,.I 9,.I 12,.I 64] 3 (0,0))) F9=some (.cells #[.I 0,.I 7,.I 9,.I 12,.I 64] 3 (0,0)):=Hp.AA _ _ _;generalize Z22.set F9 (.cells #[.I 0,.I 7,.I 9,.I 12,.I 64] 3 (0,0))=Z12 at *;have go:∀S:Int,W<=64->(∀x:Int,x=(dA (Du (Gd z) W):Int)->IntKind.i64.wrap (IntKind.u64.wrap (x*2^Int.toNat (64-(W:Int))))/2^Int.toNat (64-(W:Int))=z)->Spec prog 223 #[.pointer (aD b 0),.I (W:Int)] Z12 (BI R (CI .u64 λSa y=>AK (64-(W:Int))/\((0:Int)<=(64-(W:Int))/\(64-(W:Int))<=((IntKind.bits .u64:Nat):Int))/\Df (IntKind.u64.wrap (Sa*2^Int.toNat (64-(W:Int)))) λTl=>Df (IntKind.i64.wrap Tl) λIE=>AK (64-(W:Int))/\((0:Int)<=(64-(W:Int))/\(64-(W:Int))<=((IntKind.bits .i64:Nat):Int))/\Df (IE/2^Int.toNat (64-(W:Int))) λgF=>R (.returned (.I gF)) y)):=λ_ hW hx=>by
  have hs:=Rv (m:=Du (Gd z) W) (R:=(BI R (CI .u64 λSa y=>AK (64-(W:Int))/\((0:Int)<=(64-(W:Int))/\(64-(W:Int))<=((IntKind.bits .u64:Nat):Int))/\Df (IntKind.u64.wrap (Sa*2^Int.toNat (64-(W:Int)))) λTl=>Df (IntKind.i64.wrap Tl) λIE=>AK (64-(W:Int))/\((0:Int)<=(64-(W:Int))/\(64-(W:Int))<=((IntKind.bits .i64:Nat):Int))/\Df (IE/2^Int.toNat (64-(W:Int))) λgF=>R (.returned (.I gF)) y))) h' hl hn (by rw[Bz];exact hW) λZ222 h2=>⟨_,rfl,by unfold AK;omega,⟨by omega,show _<=((64:Nat):Int) by omega⟩,λTl e32 IE e33=>⟨by unfold AK;omega,⟨by omega,show _<=((64:Nat):Int) by omega⟩,λgF e36=>by rw[e36,e33,e32,hx _ rfl];exact hR Z222 h2⟩⟩;rw[Bz]at hs;exact hs
 rcases hc with ⟨rfl,rfl,rfl⟩|⟨rfl,rfl,hz⟩|⟨rfl,rfl,hz⟩|⟨rfl,rfl,hz⟩|⟨rfl,rfl,hz⟩
 .exact⟨⟨by decide,by decide⟩,0,AD A rfl,λ_=>hR Z12 (by rw[Du,AfG];exact h'),λG=>absurd rfl G⟩
 .exact⟨⟨by decide,by decide⟩,7,AD A rfl,λG=>absurd G (by decide),λ_=>go 0 (by decide) λx hx=>by rw[hx,Mq];exact AS0 hz⟩
 .exact⟨⟨by decide,by decide⟩,9,AD A rfl,λG=>absurd G (by decide),λ_=>go 0 (by decide) λx hx=>by rw[hx,Mq];exact AS1 hz⟩
 .exact⟨⟨by decide,by decide⟩,12,AD A rfl,λG=>absurd G (by decide),λ_=>go 0 (by decide) λx hx=>by rw[hx,Mq];exact AL6 hz⟩
 .exact⟨⟨by decide,by decide⟩,64,AD A rfl,λG=>absurd G (by decide),λ_=>go 0 (by decide) λx hx=>by rw[hx,Mq];exact AL7 hz⟩
theorem IQ {x:Bool}{G:Int->Hp->Prop}(h:Fu O2 Z22 b p n c l pre.length)(hl:l=pre++[x]++post)(hn:l.length<=1000000000000)(hR:∀Z'2,Fu O2 Z'2 b p n c l (pre++[x]).length->G (sA x) Z'2):Spec prog 223 #[.pointer (aD b 0),.I 1] Z22 (BI R (CI .u64 G)):=
 Rv (m:=[x]) h hl hn (by simp) λZ'2 A=>⟨_,rfl,by
  have:=hR Z'2 A;cases x<;>exact this⟩
theorem pP (hz:-4611686018427387904<=z/\z<=4611686018427387904)(h:Fu O2 Z22 b p n c l pre.length)(A:l=pre++TP z++post)(hn:l.length<=1000000000000)(G:∀Z'2,Fu O2 Z'2 b p n c l (pre++TP z).length->R (.returned (.I z)) Z'2):Spec prog 224 #[.pointer (aD b 0)] Z22 R:=by
 obtain⟨k,W,hc,ht⟩:=AL8 hz;rw[ht]at A G;have hk:k<=4:=by unfold Cl at hc;omega
 suffices H:∀(d i:Nat) (Z22:Hp),k-i=d->i<=k->Fu O2 Z22 b p n c l (pre++List.replicate i true).length->C0.HT R (aD b 0) (i:Int) Z22 from C0.start (H k 0 Z22 rfl (AfI _) (by simpa using h))
 intro d
 induction d with
 | zero=>
  intro i Z22 hd hi h;obtain rfl:i=k:=by omega
  refine C0.CJ ⟨λh4=>?_,λh4=>?_⟩
  .have e:VL i=List.replicate i true++[false]:=by unfold VL;rw[Aex (by omega)]
   rw[e]at A G;refine IQ (x:=false) (pre:=pre++List.replicate i true) (post:=Du (Gd z) W++post) h (by rw[A];simp) hn λZ'2 h'=>⟨λhh=>absurd hh (by decide),λ_=>Xv hc (pre:=pre++List.replicate i true++[false]) (post:=post) h' (by rw[A];simp) hn λZ222 h2=>G Z222 (by simpa only[Aew] using h2)⟩
  .have e:VL i=List.replicate i true:=by unfold VL;rw[Aeu (by omega),AfG]
   rw[e]at A G;exact Xv hc (pre:=pre++List.replicate i true) (post:=post) h (by rw[A];simp) hn λZ222 h2=>G Z222 (by simpa only[Aew] using h2)
 | succ d ih=>
  intro i Z22 hd hi h;have e:∃r,VL k=List.replicate i true++[true]++r:=⟨List.replicate (k-i-1) true++if k<4 then[false] else[],by
   have JO:k=i+(1+(k-i-1)):=by omega
   have e0:List.replicate k true=List.replicate i true++(List.replicate 1 true++List.replicate (k-i-1) true):=by rw[Ahl,Ahl,<-JO]
   unfold VL;rw[e0];simp only[Aew];rfl⟩
  obtain⟨r,e⟩:=e;refine C0.CJ ⟨λh4=>?_,λh4=>by omega⟩;refine IQ (x:=true) (pre:=pre++List.replicate i true) (post:=r++(Du (Gd z) W++post)) h (by rw[A,e];simp) hn λZ'2 h'=>⟨λ_=>⟨b,0,rfl,false,AD h'.g rfl,λ_=>⟨by unfold AK;omega,?_⟩,λhh=>absurd hh (by decide)⟩,λhh=>absurd rfl hh⟩;have e2:(i:Int)+1=((i+1:Nat):Int):=by omega
  rw[e2];refine ih (i+1) Z'2 (by omega) (by omega) ?_;rw[List.replicate_succ',<-Aew];exact h'
end
theorem pQ {k:Nat}(h:k<4611686018427387904):IntKind.i64.wrap (k:Int)=(k:Int):=by
 simp[IntKind.wrap,IntKind.bits,IntKind.signed];omega
section
variable {O2 Z22:Hp}{b:Nat}{p:Option Addr}{n c j:Nat}{l pre post:List Bool}{R:Rr}
theorem takeN {v w:Nat}(h:Fu O2 Z22 b p n c l pre.length)(hl:l=pre++Du v w++post)(hn:l.length<=1000000000000)(hw:w<=64)(G:∀Z'2,Fu O2 Z'2 b p n c l (pre++Du v w).length->R (.returned (.U ((v%2^w:Nat):Int))) Z'2):Spec prog 223 #[.pointer (aD b 0),.I (w:Int)] Z22 R:=by
 have:=Rv (m:=Du v w) (R:=R) h hl hn (by rw[Bz];exact hw) λZ'2 A=>by rw[Mq];exact G Z'2 A
 rw[Bz]at this;exact this
theorem mR {a e x:Nat}{x5a x5b:Int}{t5:Bool}(G:x*2^a<18446744073709551616)(hd:x%2^e=0)(uN:a+e<=63)(h:Fu O2 Z22 b p n c l pre.length)(hl:l=pre++Du (x/2^e) (64-a-e)++post)(hn:l.length<=1000000000000)
  (hR:∀Z'2,Fu O2 Z'2 b p n c l (pre++Du (x/2^e) (64-a-e)).length->R (.T #[.U (x:Int),.agg #[.I (a:Int),.I (e:Int),.bool true]]) Z'2):Dm.dR R (aD b 0) (a:Int) (e:Int) true x5a x5b t5 Z22:=by
 refine Dm.Tj ⟨λhh=>(by cases hh),λ_=>⟨by unfold AK;omega,by unfold AK;omega,?_⟩⟩;have c1:(64-(a:Int))-(e:Int)=((64-a-e:Nat):Int):=by omega
 rw[c1];refine takeN (v:=x/2^e) (w:=64-a-e) h hl hn (by omega) λZ222 h2=>⟨_,rfl,⟨by omega,show(e:Int)<=((64:Nat):Int) by omega⟩,λJH A=>?_⟩;have hm:=AFa G hd (by omega);have hx:x<18446744073709551616:=AgW (Agz _ (AiY a)) G;rw[Mq]at hm;rw[shl,hm,AfY hx]at A;subst A;exact hR Z222 h2
theorem eY {w:qp}{x:Nat}(hw:Xh w)(U4:x<18446744073709551616)(h:Fu O2 Z22 b p n c l pre.length)(hl:l=pre++(Gx w x).1++post)(hn:l.length<=1000000000000)
  (hR:∀Z'2,Fu O2 Z'2 b p n c l (pre++(Gx w x).1).length->R (.T #[.U (x:Int),pA (Gx w x).2]) Z'2):Spec prog 225 #[.pointer (aD b 0),pA w] Z22 R:=by
 refine Dm.start λb3 b5=>?_;by_cases h0:x=0
 .subst h0;have e:Gx w 0=([false],w):=by unfold Gx;rw[Aex rfl]
  rw[e]at hl hR;exact IQ (x:=false) h hl hn λZ12 h1=>⟨λ_=>hR Z12 h1,λG=>absurd rfl G⟩
 have nx:=nou h0 U4;by_cases h1:w.has=true/\w.a<=Ph x/\w.b<=LY x
 .have e:Gx w x=([true]++[false]++Du (x/2^w.b) (64-w.a-w.b),w):=by unfold Gx;rw[Aeu h0,Aex h1]
  rw[e]at hl hR;refine IQ (x:=true) (post:=[false]++Du (x/2^w.b) (64-w.a-w.b)++post) h (by rw[hl];simp) hn λZ12 g1=>⟨λG=>absurd G (by decide),λ_=>?_⟩;refine IQ (x:=false) (pre:=pre++[true]) (post:=Du (x/2^w.b) (64-w.a-w.b)++post) g1 (by rw[hl];simp) hn λZ222 g2=>⟨λG=>absurd G (by decide),λ_=>?_⟩;have G:=h1.1;have ew:pA w=.agg #[.I (w.a:Int),.I (w.b:Int),.bool true]:=by rw[<-G]
  rw[G];refine mR (a:=w.a) (e:=w.b) (x:=x) (pre:=pre++[true]++[false]) (post:=post) (AgW (Nat.mul_le_mul_left _ (Agg (by decide) h1.2.1)) nx.lt) (Nat.mod_eq_zero_of_dvd (Nat.dvd_trans (Nat.pow_dvd_pow 2 h1.2.2) (Nat.dvd_of_mod_eq_zero nx.dv))) hw.ab g2 (by rw[hl];simp) hn λZ3 g3=>?_;have:=hR Z3 (by simpa only[Aew] using g3);rw[ew]at this;exact this
 .have e:Gx w x=([true]++[true]++Du (Ph x) 5++Du (64-Ph x-LY x-1) 6++Du (x/2^LY x) (64-Ph x-LY x),⟨Ph x,LY x,true⟩):=by unfold Gx;rw[Aeu h0,Aeu h1]
  rw[e]at hl hR;obtain⟨n1,n2,n3,n4,n5⟩:=nx;generalize Ph x=A at *;generalize LY x=lb at *;refine IQ (x:=true) (post:=[true]++Du A 5++Du (64-A-lb-1) 6++Du (x/2^lb) (64-A-lb)++post) h (by rw[hl];simp) hn λZ12 g1=>⟨λG=>absurd G (by decide),λ_=>?_⟩;refine IQ (x:=true) (pre:=pre++[true]) (post:=Du A 5++Du (64-A-lb-1) 6++Du (x/2^lb) (64-A-lb)++post) g1 (by rw[hl];simp) hn λZ222 g2=>⟨λ_=>?_,λG=>absurd rfl G⟩;refine takeN (v:=A) (w:=5) (pre:=pre++[true]++[true]) (post:=Du (64-A-lb-1) 6++Du (x/2^lb) (64-A-lb)++post) g2 (by rw[hl];simp) hn (by decide) λZ3 g3=>⟨_,rfl,λC3 e17=>?_⟩;rw[AfY (by omega),pQ (by omega)]at e17;subst e17;refine takeN (v:=64-A-lb-1) (w:=6) (pre:=pre++[true]++[true]++Du A 5) (post:=Du (x/2^lb) (64-A-lb)++post) g3 (by rw[hl];simp) hn (by decide) λZ4 g4=>⟨_,rfl,λQH e20=>?_⟩;rw[AfY (by omega),pQ (by omega)]at e20;subst e20;refine⟨by unfold AK;omega,by unfold AK;omega,λG=>by omega,λ_=>⟨by unfold AK;omega,by unfold AK;omega,?_⟩⟩;have c2:(64-(A:Int))-(((64-A-lb-1:Nat):Int)+1)=(lb:Int):=by omega
  rw[c2];refine mR (a:=A) (e:=lb) (x:=x) (pre:=pre++[true]++[true]++Du A 5++Du (64-A-lb-1) 6) (post:=post) n2 n4 n5 g4 (by rw[hl];simp) hn λZ5 g5=>hR Z5 ?_;simpa only[Aew] using g5
end
def J1 (bs:List Int)(i:Nat)(s:ByteArray):Prop:=∃rest,bs.drop i=EG s++rest
theorem Ft.sub {bs:List Int}(h:Ft bs)(i m:Nat):Ft ((bs.drop i).take m):=λx A=>h x (List.mem_of_mem_drop (AgF A))
theorem J1.uv {bs:List Int}{i:Nat}{s:ByteArray}(h:J1 bs i s)(hb:bs.length<18446744073709551616):DU bs i s.size:=by
 obtain⟨rest,A⟩:=h;have G:=Ae4 List.length A;unfold EG at A G;rw[AfV,Aet,Aet,Bb]at G;exact⟨by omega,Rh s++rest,by rw[A,Aew]⟩
theorem J1.len {bs:List Int}{i:Nat}{s:ByteArray}(h:J1 bs i s)(hi:i<=bs.length):i+(EG s).length<=bs.length:=by
 obtain⟨rest,G⟩:=h;have A:=Ae4 List.length G;rw[AfV,Aet]at A;omega
section
variable {Z22:Hp}{p:Option Addr}{n c0 i:Nat}{bs:List Int}{R:Rr}
theorem pR (hr:Be .u8 Z22 p n bs)(h8:Ft bs)(hi:i<=n)(Wp:n<=c0)(hn:n<=1099511627776)
  (Pn:(∀s,¬J1 bs i s)->∀A:Int,A≠0->R (.T #[.string (ByteArray.mk #[]),.I 0,.I A]) Z22)
  (A4:∀s,J1 bs i s->R (.T #[.string s,.I ((i+(EG s).length:Nat):Int),.I 0]) Z22):Spec prog 78 #[.slice p n c0,.I (i:Int)] Z22 R:=by
 have TQ:bs.length=n:=hr.1;refine Um.start (Rs hr h8 hi ⟨λA9 A hc=>⟨_,_,_,rfl,λ_=>Pn (λs hs=>A9 _ (hs.uv (by omega))) A hc,λhh=>absurd hc hh⟩,λv hv=>⟨_,_,_,rfl,λhh=>absurd rfl hh,λ_=>?_⟩⟩);obtain⟨AS2,rest,VM⟩:=hv;have hl:=Ae4 List.length VM;rw[AfV,Aet,TQ]at hl;have hto:bs.drop (i+(uv v).length)=rest:=by rw[<-Afx,VM,Afr]
 have CA:=Rq v;generalize hT:i+(uv v).length=T at hto;refine⟨by unfold AK;omega,λUe e25=>?_⟩;have e25:Ue=((n-T:Nat):Int):=by
  rw[e25,show(n:Int)-(T:Int)=((n-T:Nat):Int) by omega,U5,AfY (by omega)]
 subst e25;refine⟨λAq=>Pn (λs hs=>?_) 20 (by decide),λIb LN e31=>?_⟩
 .have e:=DU.uniq ⟨AS2,rest,VM⟩ (hs.uv (by omega));have h1:=hs.len (by omega);unfold EG at h1;rw[Aet,Bb,<-e]at h1;omega
 .have hvn:T+v<=n:=by omega
  rw[pQ (by omega)]at e31;subst e31;have hs:=Be.sub hr hvn Wp;have e1:Int.toNat (T:Int)=T:=AfR _;have e2:Int.toNat ((T:Int)+(v:Int))-T=v:=by omega
  refine⟨by unfold AK;omega,⟨by omega,by omega,by omega⟩,?_⟩;rw[e1,e2];refine Ed hs ⟨_,rfl,λYn G=>⟨?_,?_⟩⟩
  .rw[pQ (by omega)]at G;subst G;unfold AK;omega
  .rw[pQ (by omega)]at G;subst G;have hby:Rh (strOfNums ((bs.drop T).take v))=(bs.drop T).take v:=Fm (h8.sub T v);have Dz:(strOfNums ((bs.drop T).take v)).size=v:=by rw[<-Bb,hby,AfE,AfV];omega
   have:=A4 (strOfNums ((bs.drop T).take v)) ⟨rest.drop v,by
    unfold EG;rw[Dz,hby,VM,hto,Aew,Afi]⟩
   have e3:i+(EG (strOfNums ((bs.drop T).take v))).length=T+v:=by
    unfold EG;rw[Aet,Dz,Bb,Dz];omega
   rw[e3]at this;exact this
end
end TwW
end
section
namespace TwW
open Go Tw Go.Proofs.Tryz
def Xw (Z22:Hp)(vs:List Value)(x:List Int):Prop:=∃p n c,vs=[.slice p n c]/\n<=c/\Be .u8 Z22 p n x
theorem Xw.mono:Lq Xw:=λ_ _ _ _ h ⟨p,n,c,A,G,h3⟩=>⟨p,n,c,A,G,h3.mono h⟩
abbrev Kn:=BB 1 Xw
abbrev PC:=B6 1 Xw
theorem Kn.mono {Z22 Z'2:Hp}(h:Ext Z22 Z'2){p:Option Addr}{n:Nat}{xs:List (List Int)}(A:Kn Z22 p n xs):Kn Z'2 p n xs:=BB.mono Xw.mono h A
theorem Kn.at {Z22:Hp}{p:Option Addr}{n i:Nat}{xs:List (List Int)}{x:List Int}(hr:Kn Z22 p n xs)(hx:xs[i]?=some x):∃b o p' A c',p=some ⟨b,o,none⟩/\Z22.ld ⟨b,o+i*1,none⟩=some (.slice p' A c')/\A<=c'/\Be .u8 Z22 p' A x:=by
 obtain⟨b,o,vs,hp,⟨p',A,c',rfl,G,h3⟩,hl⟩:=BB.idx hr hx;exact⟨b,o,p',A,c',hp,hl.1,G,h3⟩
def AU (rs:List (List Int)):List Int:=rs.flatMap frame
theorem Xx:AU []=[]:=rfl
theorem Cj (r:List Int)(rs:List (List Int)):AU (r::rs)=frame r++AU rs:=by simp[AU]
theorem GR (rs ss:List (List Int)):AU (rs++ss)=AU rs++AU ss:=by simp[AU]
def pS (t:List Int):Prop:=∀r,¬Jy t 0 r
theorem FJ:pS []:=λr h=>by have:=h.lt;simp at this
abbrev VN (rs:List (List Int)):Prop:=∀r∈rs,r.length<=65536
theorem Jy.here {bs:List Int}{i:Nat}{r rest:List Int}(h:r.length<=65536)(hd:bs.drop i=frame r++rest):Jy bs i r:=⟨h,rest,hd⟩
theorem Jy.uniq {bs:List Int}{i:Nat}{r s:List Int}(h:Jy bs i r)(g:Jy bs i s):r=s:=by
 have hl:=h.uv.uniq g.uv;rcases h.parts with ⟨_,G,_⟩|h3
 .rcases g.parts with ⟨_,A,_⟩|g3
  .rw[<-hl]at A;exact G.symm.trans A
  .have:=h.lt;omega
 .have:=h.lt;omega
section
variable {Z22:Hp}{R:Rr}
theorem S5 {p:Option Addr}{n c:Nat}{bs t:List Int}{BZ:List (List Int)}(hr:Be .u8 Z22 p n bs)(h8:Ft bs)(hc:n<=c)(hn:n<=4194304)(qw:bs=AU BZ++t)(hs:VN BZ)(ht:pS t)
  (h:∀p' A c' Z'2,PC (Z22.new Z'2) p' A c' BZ->Ext Z22 Z'2->R (.T #[.slice p' A c',.bool (decide (t≠[]))]) Z'2):Spec prog 204 #[.slice p n c] Z22 R:=by
 have TQ:bs.length=n:=hr.1;refine IF.start ?_;have hle:∀rs:List (List Int),rs.length<=(AU rs).length:=λrs=>by
  induction rs with
  | nil=>simp
  | cons r rs ih=>rw[Cj,Aet,Fk];simp;omega
 suffices H:∀(d:List (List Int)) (k:List (List Int)) (p':Option Addr) (A c':Nat) (Z'2:Hp),BZ=k++d->PC (Z22.new Z'2) p' A c' k->Ext Z22 Z'2->IF.EK R p n c p' A c' ((AU k).length:Nat) Z'2 from
  H BZ [] none 0 0 Z22 rfl B6.nil (Ext.refl _)
 intro d
 induction d with
 | nil=>
  intro k p' A c' Z'2 G ho hx;rw[AfG]at G;subst G;refine IF.DB ⟨λhe=>?_,λAR=>?_⟩
  .have:t=[]:=by
    have h1:=Ae4 List.length qw;rw[Aet]at h1;exact Ae6 (by omega)
   subst this;simpa using h p' A c' Z'2 ho hx
  .have h1:=Ae4 List.length qw;rw[Aet]at h1;have htn:t≠[]:=λe=>by subst e;simp at h1;omega
   have hdr:bs.drop (AU BZ).length=t:=by rw[qw,Afr]
   refine Qt (hr.mono hx) h8 hc (by omega) (λr hf=>absurd ?_ (ht r)) (λ_ Z222 code Xt BD=>⟨_,_,_,_,_,rfl,λ_=>?_,λhh=>absurd Xt hh⟩)
   .obtain⟨g1,rest,g2⟩:=hf;exact⟨g1,rest,by rw[Ago,<-hdr,g2]⟩
   .have:=h p' A c' Z222 (B6.mono Xw.mono (Ext.E7 BD) ho) (hx.trans BD);simpa[htn] using this
 | cons r d ih=>
  intro k p' A c' Z'2 G ho hx;have h1:=Ae4 List.length qw;rw[G,Aet,GR,Aet,Cj,Aet,Fk]at h1;have hrl:r.length<=65536:=hs r (by rw[G];simp);have RP:Jy bs (AU k).length r:=Jy.here (rest:=AU d++t) hrl (by rw[qw,G,GR,Cj,Aew,Afr,Aew]);have kV:=hle k;have nR:k.length=A:=ho.1;refine IF.DB ⟨λhe=>by omega,λ_=>?_⟩;refine Qt (hr.mono hx) h8 hc (by omega) (λr' hf p2 c2 Z222 By BD=>⟨_,_,_,_,_,rfl,λhh=>absurd rfl hh,λ_ HP uo=>?_⟩) (λA9=>absurd RP (A9 r));have:=hf.uniq RP;subst this;have Ev:=hx.trans BD;have DG:PC (Z22.new Z222) p' A c' k:=B6.mono Xw.mono (Ext.E7 BD) ho;have KL:∀a,p'=some a->Z'2 a.block≠none:=λa ha e=>ho.block a ha (by
   cases hh:(Z22.new Z'2) a.block with
   | none=>rfl
   | some o=>rw[(AW.1 hh).2]at e;cases e)
  refine B6.G8 (T:=72) Xw.mono Ev DG rfl (λu hu=>by simp at hu;subst hu;rfl) (x:=r') ⟨p2,r'.length,c2,rfl,Own.cap By,(A2.rd By).mono ?_⟩ (by omega) (λp3 c3 Z3 Tn hx4=>⟨p3,_,c3,rfl,?_⟩) uo
  .exact Ext.UE hx KL
  .have:=ih (k++[r']) p3 (A+1) c3 Z3 (by rw[G];simp) Tn hx4;rw[GR,Cj,Xx,AfG,Aet]at this;exact this
theorem pT {p:Option Addr}{n c:Nat}{A:List (List Int)}(hr:Kn Z22 p n A)(hs:VN A)(hb:(AU A).length<=70368744177664)
  (h:∀p' G c' Z'2,A2 .u8 (Z22.new Z'2) p' G c' (AU A)->Ext Z22 Z'2->R (.returned (.slice p' G c')) Z'2):Spec prog 199 #[.slice p n c] Z22 R:=by
 refine Lw.start ?_;have hln:A.length=n:=hr.1
 suffices H:∀(d k:Nat) (p':Option Addr) (G c':Nat) (Z'2:Hp),n-k=d->k<=n->A2 .u8 (Z22.new Z'2) p' G c' (AU (A.take k))->Ext Z22 Z'2->Lw.A3 R p' G c' p n c n k Z'2 from H n 0 none 0 0 Z22 rfl (by omega) Own.nil (Ext.refl _)
 intro d
 induction d with
 | zero=>
  intro k p' G c' Z'2 hd hk ho hx;rw[Ae7 (by omega)]at ho;exact Lw.AY ⟨λhh=>by omega,λ_=>h p' G c' Z'2 ho hx⟩
 | succ d ih=>
  intro k p' G c' Z'2 hd hk ho hx;refine Lw.AY ⟨λ_=>?_,λhh=>by omega⟩;obtain⟨x,Ri⟩:=hr.ex (k:=k) (by omega);obtain⟨b,o,p2,n2,c2,rfl,hl,PM,JW⟩:=hr.at Ri;have Y9:x.length<=65536:=hs x (Ae2 Ri);have mS:x.length=n2:=JW.1;refine⟨b,o,rfl,by omega,p2,n2,c2,by simpa using hx.ld hl,VK (JW.mono hx) (λhh=>by omega) λ_ p3 n3 c3 Z3 DG Ev=>⟨p3,n3,c3,0,rfl,?_⟩⟩;have e1:AU (A.take (k+1))=AU (A.take k)++frame x:=by rw[AL Ri,GR,Cj,Xx,AfG]
  have hlen:(AU (A.take (k+1))).length<=70368744177664:=by
   refine AfU ?_ hb;have:AU A=AU (A.take (k+1))++AU (A.drop (k+1)):=by rw[<-GR,Afi]
   rw[this,Aet];omega
  rw[e1,Aet]at hlen;have fz:=ho.1;have hl3:=DG.1;simp at fz hl3;have Tn:A2 .u8 (Z22.new Z3) p' G c' (AU (A.take k)):=ho.mono (Ext.E7 Ev);refine YM (T:=79) (hx.trans Ev) Tn ((Kt.of_map (A2.rd DG)).mono (Ext.Cp _ _)) Ej.Gz (by omega) λp4 c4 Z4 oq hx5 _=>⟨p4,_,c4,rfl,E8 (by omega) hr.big,?_⟩;refine ih (k+1) p4 _ c4 Z4 (by omega) (by omega) ?_ hx5;rw[e1];unfold A2;rw[AfF];exact oq
end
end TwW
end
section
namespace TwW
open Go Tw Go.RowKit Go.Proofs.Tryz
section
variable {P:Program}{f:FuncId}{args:Array Value}{Z22:Hp}{R:Rr}{v:Value}
theorem Spec.below (h:∀w,Sat Z22 w->Calls P f args w λe w'=>e=.returned v/\Below w.heap.size w w')(hR:R (.returned v) Z22):Spec P f args Z22 R:=λw F hs hF=>
 (h w hs).mono λe w' ⟨he,hb⟩=>⟨Z22,he▸hR,λb o ho=>by
  have G:=hs b o ho;rw[hb.block b (AfA.1 G).1];exact G,λb A=>⟨(hF b A).2,hb.block b (hF b A).1⟩,⟨hb.os,hb.tape,λh=>h.elim⟩,hb.output,hb.size⟩
theorem Spec.same (h:∀w,Sat Z22 w->Calls P f args w λe A=>e=.returned v/\A=w)(G:R (.returned v) Z22):Spec P f args Z22 R:=
 Spec.below (λw hs=>(h w hs).mono λe A ⟨he,hw⟩=>⟨he,hw▸Below.refl _ _⟩) G
end
def Tb (Z22 : Hp) : Prop := ∃ g T fr,prog.globalNamed "internal/strconv.uint64pow10" = some g ∧ Z22 g = some (.cells (Lib.pow10Tab.map fun z => Value.int .u64 z).toArray T fr)
theorem Tb.mono {Z22 Z'2:Hp}(h:Tb Z22)(A:Ext Z22 Z'2):Tb Z'2:=let ⟨g,T,fr,h1,h2⟩:=h;⟨g,T,fr,h1,A _ _ h2⟩
theorem Tb.is {Z22 : Hp} (h : Tb Z22) {w : World} (hs : Sat Z22 w) : Lib.TabIs prog w "internal/strconv.uint64pow10" .u64 Lib.pow10Tab := by
 obtain ⟨g,T,fr,h1,h2⟩ := h
 simp [Lib.TabIs,World.var?,h1,hs _ _ h2]
section
variable {Z22:Hp}{R:Rr}
theorem AFy:prog.underlying 360=some (.array 24 5):=underlying360
theorem eZ {b T u:Nat}(hb:Z22 b=none)(hu:u<18446744073709551616){c:Nat}(h:∀Z'2,Ext Z22 Z'2->Be .u8 Z'2 (some ⟨b,0,none⟩) (Lib.nDigits u) ((Lib.decDigits u).map λx=>(x.toNat:Int))->R (.T #[]) Z'2):
  Spec prog 278 #[.slice (some ⟨b,0,none⟩) (Lib.nDigits u) c,.U u] (Z22.set b (.cells Lib.zeros24 T (0,0))) R:=λw F hs hF=>by
 have LZ:Lib.nDigits u<=20:=Lib.nDigits_le20 u hu;have hw:=hs b _ (Hp.AA _ _ _)
 let d:Array UInt8:=Array.replicate (Lib.nDigits u) 0
 have hH:Sort.Holds (λ(b:UInt8)=>Value.int .u8 (b.toNat:Int)) w b 0 d:=λj hj=>by
  have YL:j<Lib.nDigits u:=by simpa[d] using hj
  refine⟨?_,by simp[World.frozen?,hw]⟩;have:d[j]! = 0:=by simp[d,YL]
  simp only[World.cell?,hw,this,AfW];simpa using Lib.zeros24_at j (by omega)
 have WW:=Go.Proofs.Tryz.internal_strconv_formatBase10 b 0 c u d w hH (by simpa[d] using Lib.lt_pow_nDigits u) hu (by simp[d];omega);rw[show d.size=Lib.nDigits u by simp[d]]at WW;refine WW.mono ?_
 rintro e w' ⟨rfl,n,v',dk,rfl,hI⟩
 have Dz:dk.size=Lib.nDigits u:=hI.size;have hblk:b<w.heap.size:=(AfA.1 hw).1;have DH:∀k,((Sort.putRow (λ(b:UInt8)=>Value.int .u8 (b.toNat:Int)) w b 0 dk).drewN n).heap[k]?=if b=k then(w.heap[k]?).map (Sort.onCells (Sort.putCells (λ(b:UInt8)=>Value.int .u8 (b.toNat:Int)) 0 dk)) else w.heap[k]?:=λk=>by
  simp only[Sort.putRow,Sort.mapBlock,World.drewN,Af5]
 refine⟨Z22.set b (.cells (Sort.putCells (λ(b:UInt8)=>Value.int .u8 (b.toNat:Int)) 0 dk Lib.zeros24) T (0,0)),h _ (.set hb) ?_,λk o G=>?_,λk G=>?_,⟨rfl,rfl,λ_=>⟨n,rfl⟩⟩,rfl,by simp[Sort.putRow,Sort.mapBlock,World.drewN]⟩
 .have hlen:(Lib.decDigits u).length=Lib.nDigits u:=Lib.decDigits_length u;refine Be.KO ⟨by simp[hlen],by omega,.inr ⟨b,0,rfl,Bm.of λj x hx=>AD (Hp.AA _ _ _) ?_⟩⟩;have hj:j<(Lib.decDigits u).length:=by
   have:=(Ae0.1 hx).1;simpa using this
  rw[Nz,Aex (by omega),AfW,Lib.zeros24_at j (by omega),Nat.sub_zero,<-Lib.row_is_numeral hI j hj];simp[hj]at hx ⊢;exact hx
 .rw[DH];by_cases A:k=b
  .subst A;rw[Hp.AA]at G;cases G;rw[Aex rfl,hw];rfl
  .rw[Hp.AB A]at G;rw[Aeu (AfT A)];exact hs k o (by rw[Hp.AB A];exact G)
 .have A:k≠b:=λe=>by have:=(hF k G).2;rw[e,Hp.AA]at this;cases this
  refine⟨by rw[Hp.AB A];have:=(hF k G).2;rwa[Hp.AB A]at this,?_⟩;rw[DH,Aeu (AfT A)]
theorem AC6 {b k:Nat}(hk:k<=24){O2:Hp}:YF prog (Instr.sliceAt 360 (.pointer (some ⟨b,0,none⟩)) none (some (.I (k:Int))) none) O2 (.slice (some ⟨b,0,none⟩) k 24):=λw _=>by
 have A:∀w,(Go.sizeOf 5).run prog w=.ok 1 w:=λw=>by
  have h:prog.info? 5=some t5:=by kernel_rfl
  simp[Go.sizeOf,typeInfo,h,show t5.size=1 from rfl]
 have G:(k:Int)<=24:=by omega
 simp[Instr.sliceAt,run_underlying AFy,Instr.sliceBounds,run_sliceBound,G,Instr.slice,Result.andThen,A,Instr.sureAddr,Addr.add]
theorem Xy {u:Nat}(hu:u<9223372036854775808)(ht:Tb Z22)(h:∀Z'2,Ext Z22 Z'2->R (.returned (.string ⟨(Lib.decDigits u).toArray⟩)) Z'2):Spec prog 185 #[.U u,.I 10] Z22 R:=by
 refine IB.start (EP.start ⟨λ_=>⟨λG DY A=>?_,λhb b5 mF=>?_⟩,λhh=>absurd rfl hh⟩)
 .have du:DY=(u:Int):=by rw[A];simp[IntKind.wrap,IntKind.bits,IntKind.signed];omega
  subst du;exact Spec.same (λw _=>Go.Proofs.Tryz.internal_strconv_small u (by omega) w) ⟨_,rfl,_,rfl,h Z22 (Ext.refl _)⟩
 .have hx:Ext Z22 (Z22.set b5 (.cells Lib.zeros24 360 (0,0))):=.set mF;refine Spec.same (λw G=>Go.Proofs.Tryz.internal_strconv_numDigits u (by omega) (by omega) w ((ht.mono hx).is G)) ⟨_,rfl,some ⟨b5,0,none⟩,Lib.nDigits u,24,?_,?_⟩
  .exact AC6 (by have:=Lib.nDigits_le20 u (by omega);omega)
  .refine eZ mF (by omega) λZ'2 E4 hr=>⟨rfl,some ⟨b5,0,none⟩,Lib.nDigits u,24,?_,Ed hr ⟨_,rfl,_,rfl,?_⟩⟩
   .exact AC6 (by have:=Lib.nDigits_le20 u (by omega);omega)
   .rw[Uz];exact h Z'2 E4
end
def DV (b:UInt8):Bool:=decide (48<=b.toNat)&&decide (b.toNat<=57)
def Mu (a:Nat)(l:List UInt8):Nat:=l.foldl (λa b=>a*10+(b.toNat-48)) a
abbrev dv (l:List UInt8):Nat:=Mu 0 l
theorem Ee (a:Nat)(b:UInt8)(l:List UInt8):Mu a (b::l)=Mu (a*10+(b.toNat-48)) l:=by unfold Mu;rw[AgT]
theorem VO (a:Nat)(l m:List UInt8):Mu a (l++m)=Mu (Mu a l) m:=by simp[Mu,Agi]
theorem pU (k:Nat):Mu 0 (List.replicate k 48)=0:=by
 induction k with
 | zero=>rfl
 | succ k A=>
  rw[List.replicate_succ,Ee];have e:0*10+((48:UInt8).toNat-48)=0:=by decide
  rw[e,A]
theorem Gy:∀(l:List UInt8) (a:Nat),Mu a l=a*10^l.length+Mu 0 l
 | [],a=>by simp[Mu]
 | b::l,a=>by
  rw[Ee,Ee,Gy l,Gy l (0*10+(b.toNat-48)),Aez,AgP,Afn,AgZ,AfW,AhS,AgK 10,AgJ]
theorem VP:∀(l:List UInt8),l.all DV=true->Mu 0 l<10^l.length
 | [],_=>by simp[Mu]
 | b::l,h=>by
  simp only[Agw,AfH]at h;have A:=VP l h.2;have hb:b.toNat-48<=9:=by have:=h.1;simp[DV]at this;omega
  rw[Ee,Gy,Aez,AgP,AgZ,AfW];have:(b.toNat-48)*10^l.length<=9*10^l.length:=AfK _ hb;omega
theorem vB:∀(l m:List UInt8),l.length=m.length->l.all DV=true->m.all DV=true->Mu 0 l=Mu 0 m->l=m
 | [],[],_,_,_,_=>rfl
 | b::l,c::m,A,h,g,G=>by
  simp only[Aez,Nat.succ.injEq]at A;simp only[Agw,AfH]at h g;rw[Ee,Ee,Gy,Gy m,A,AgZ,AfW,AfW]at G;have h1:=VP l h.2;have h2:=VP m g.2;rw[A]at h1;have hb:=h.1;have hc:=g.1;simp[DV]at hb hc;have hp:0<10^m.length:=Nat.pow_pos (by decide);have e1:b.toNat-48=c.toNat-48:=by
   have d1:((b.toNat-48)*10^m.length+Mu 0 l)/10^m.length=b.toNat-48:=by
    rw[AgK,Nat.mul_add_div hp,AiP h1,AgY]
   have d2:((c.toNat-48)*10^m.length+Mu 0 m)/10^m.length=c.toNat-48:=by
    rw[AgK,Nat.mul_add_div hp,AiP h2,AgY]
   rw[<-d1,<-d2,G]
  have e2:Mu 0 l=Mu 0 m:=by rw[e1]at G;omega
  have e3:b=c:=UInt8.toNat_inj.1 (by omega);rw[e3,vB l m A h.2 g.2 e2]
theorem AC7:∀(l m:List UInt8),l.length=m.length->l.all DV=true->m.all DV=true->l<=m->Mu 0 l<=Mu 0 m
 | [],[],_,_,_,_=>Ae1 _
 | b::l,c::m,A,h,g,he=>by
  simp only[Aez,Nat.succ.injEq]at A;simp only[Agw,AfH]at h g;rw[Ee,Ee,Gy,Gy m,A,AgZ,AfW,AfW];have h1:=VP l h.2;rw[A]at h1;have hb:=h.1;have hc:=g.1;simp[DV]at hb hc;rcases Aig.1 he with Aq|⟨rfl,G⟩
  .have VQ:b.toNat<c.toNat:=Agp.1 Aq;have:(b.toNat-48+1)*10^m.length<=(c.toNat-48)*10^m.length:=AfK _ (by omega);rw[Afn]at this;omega
  .have:=AC7 l m A h.2 g.2 G;omega
theorem vC {d:Nat}(h:d<10):DV (UInt8.ofNat (48+d))=true/\(UInt8.ofNat (48+d)).toNat-48=d:=by
 have:(UInt8.ofNat (48+d)).toNat=48+d:=by rw[UInt8.toNat_ofNat'];omega
 simp[DV,this];omega
theorem Tq (u:Nat):(Lib.decDigits u).all DV=true/\Mu 0 (Lib.decDigits u)=u:=by
 induction u using Nat.strongRecOn with
 | _ u ih=>
  rw[Lib.decDigits];by_cases h:u<10
  .rw[dif_pos h];have:=vC h;refine⟨by rw[Agw,this.1];rfl,?_⟩;rw[Ee,this.2];simp[Mu]
  .rw[dif_neg h];have A:=ih (u/10) (by omega);have G:=vC (show u%10<10 by omega);rw[Agb,A.1,VO,A.2];refine⟨by rw[Agw,G.1];rfl,?_⟩;rw[Ee,G.2];simp only[Mu,List.foldl_nil];omega
def La (u:Nat):List UInt8:=List.replicate (8-(Lib.decDigits u).length) 48++Lib.decDigits u
theorem Tr {u:Nat}(h:u<100000000):(Lib.decDigits u).length<=8:=by
 rw[Lib.decDigits_length];rcases Afp 8 (Lib.nDigits u) with h1|h1
 .exfalso;have hd:=Tq u;have:∀(k:Nat) (v:Nat),v<10^k->0<k->Lib.nDigits v<=k:=by
   intro k
   induction k with
   | zero=>intro v _ h;omega
   | succ k ih=>
    intro v hv _;by_cases A:v<10
    .rw[Lib.nDigits_small A];omega
    .rw[Lib.nDigits_big A];have G:0<k:=by
      rcases Af4 k with rfl|G
      .simp at hv;omega
      .exact G
     have:=ih (v/10) (by rw[Agc (by decide)];rw[AgP]at hv;exact hv) G;omega
  have:=this 8 u (by omega) (by decide);omega
 .exact h1
theorem J2 {u:Nat}(h:u<100000000):(La u).length=8:=by
 have:=Tr h;simp[La];omega
theorem MH (u:Nat):(La u).all DV=true:=by
 rw[La,Agb,(Tq u).1,Ahi];rw[Afu];intro x A;rw[AiS A];rfl
theorem Qu (u:Nat):Mu 0 (La u)=u:=by rw[La,VO,pU,(Tq u).2]
theorem AAj {l:List UInt8}(G:l.length=8)(hd:l.all DV=true):La (Mu 0 l)=l/\Mu 0 l<100000000:=by
 have Aq:=VP l hd;rw[G]at Aq;have A:Mu 0 l<100000000:=by omega
 exact⟨vB _ _ (by rw[J2 A,G]) (MH _) hd (Qu _),A⟩
theorem Ts (c:Nat):Lib.repeatL [48] c=List.replicate c 48:=by
 induction c with
 | zero=>rfl
 | succ c A=>rw[Lib.repeatL,A,List.replicate_succ];rfl
section
variable {Z22:Hp}{R:Rr}
theorem vD {u:Nat}(hu:u<100000000)(G:Tb Z22)(h:∀Z'2,Ext Z22 Z'2->R (.returned (.string ⟨(La u).toArray⟩)) Z'2):Spec prog 114 #[.U u,.I 8] Z22 R:=by
 have hl:=Tr hu;refine Pb.start (Xy (by omega) G λZ'2 hx=>⟨_,rfl,L9.start ⟨?_,?_⟩⟩)
 .have:(ByteArray.size ⟨(Lib.decDigits u).toArray⟩)=(Lib.decDigits u).length:=by simp[ByteArray.size]
  rw[this];unfold AK;omega
 .have A:(ByteArray.size ⟨(Lib.decDigits u).toArray⟩)=(Lib.decDigits u).length:=by simp[ByteArray.size]
  rw[A];have e2:(if(8-((Lib.decDigits u).length:Int))<0 then(0:Int) else 8-((Lib.decDigits u).length:Int))=((8-(Lib.decDigits u).length:Nat):Int):=by split<;>omega
  rw[e2];refine Spec.below (λw _=>Go.Proofs.Tryz.strings_Repeat ⟨#[48]⟩ (8-(Lib.decDigits u).length) w (by omega) ?_) ⟨_,rfl,?_,_,rfl,?_⟩
  .have:ByteArray.size ⟨#[48]⟩=1:=rfl;rw[this];omega
  .have:ByteArray.size ⟨(Lib.repeatL (ByteArray.mk #[48]).data.toList (8-(Lib.decDigits u).length)).toArray⟩=8-(Lib.decDigits u).length:=by
    show(List.toArray (Lib.repeatL [48] _)).size=_
    rw[Ts];simp
   rw[this];omega
  .have:(⟨(Lib.repeatL (ByteArray.mk #[48]).data.toList (8-(Lib.decDigits u).length)).toArray⟩++⟨(Lib.decDigits u).toArray⟩:ByteArray)=⟨(La u).toArray⟩:=by
    apply Agx
    show _=(La u).toArray
    rw[Ag8];show(List.toArray (Lib.repeatL [48] _))++_=_
    rw[Ts,La];simp
   rw[this];exact h Z'2 hx
end
def CG:ByteArray:=⟨#[47]⟩
def kc:ByteArray:=⟨#[99]⟩
def ks:ByteArray:=⟨#[115]⟩
def cat (dir kind:ByteArray):ByteArray:=dir++CG++kind
def AJ (dir kind:ByteArray)(no:Nat):ByteArray:=cat dir kind++⟨(La no).toArray⟩
def BO (dir:ByteArray):ByteArray:=dir++⟨#[47,110,101,119]⟩
def rest (s t:ByteArray):List UInt8:=s.data.toList.drop t.size
def numOf (dir kind s:ByteArray):Nat:=if Am s (cat dir kind)=true/\(rest s (cat dir kind)).length=8/\(rest s (cat dir kind)).all DV=true then Mu 0 (rest s (cat dir kind)) else 0
theorem Dc (a b:ByteArray):(a++b).data.toList=a.data.toList++b.data.toList:=by rw[Ag8,Agl]
theorem vE {a b:ByteArray}(h:a.data.toList=b.data.toList):a=b:=Agx (AfM.1 h)
theorem MI (dir kind:ByteArray):(cat dir kind).data.toList=dir.data.toList++47::kind.data.toList:=by
 rw[cat,Dc,Dc];simp[CG]
theorem C7 (dir kind:ByteArray)(no:Nat):(AJ dir kind no).data.toList=(cat dir kind).data.toList++La no:=by rw[AJ,Dc]
theorem J5 (s:ByteArray):s.size=s.data.toList.length:=rfl
theorem aV (dir kind:ByteArray)(no:Nat):Am (AJ dir kind no) (cat dir kind)=true/\rest (AJ dir kind no) (cat dir kind)=La no:=by
 refine⟨?_,?_⟩
 .rw[Am,C7];simp
 .rw[rest,C7,J5,Afr]
theorem CC {dir kind:ByteArray}{no:Nat}(h:no<100000000):numOf dir kind (AJ dir kind no)=no:=by
 have A:=aV dir kind no;rw[numOf,A.1,A.2,Aex ⟨rfl,J2 h,MH no⟩,Qu]
theorem Ew {dir kind s:ByteArray}(h:0<numOf dir kind s):s=AJ dir kind (numOf dir kind s)/\numOf dir kind s<100000000:=by
 unfold numOf at h ⊢;split at h
 .rename_i A;rw[Aex A];have h8:=AAj A.2.1 A.2.2;refine⟨vE ?_,h8.2⟩;rw[C7,h8.1];have hp:(cat dir kind).data.toList <+: s.data.toList:=by simpa[Am] using A.1
  obtain⟨t,G⟩:=hp;rw[rest,<-G,J5,Afr]
 .omega
theorem Fo {dir kind:ByteArray}{a b:Nat}(A:a<100000000)(hb:b<100000000)(h:AJ dir kind a=AJ dir kind b):a=b:=by
 rw[<-CC (dir:=dir) (kind:=kind) A,h,CC hb]
theorem BR {dir:ByteArray}{a b:Nat}:AJ dir kc a≠AJ dir ks b:=λh=>by
 have:=Ae4 (λs:ByteArray=>s.data.toList) h;simp only[C7,MI,Aew,AhT]at this;simp[kc,ks]at this
theorem B4 {dir kind:ByteArray}{a:Nat}(A:kind=kc\/kind=ks):BO dir≠AJ dir kind a:=λh=>by
 have:=Ae4 (λs:ByteArray=>s.data.toList) h;simp only[BO,C7,MI,Dc,Aew,AhT]at this;rcases A with rfl|rfl<;>simp[kc,ks]at this
theorem J6 {dir s:ByteArray}(h:0<numOf dir kc s):numOf dir ks s=0:=by
 rcases Af4 (numOf dir ks s) with A|A
 .exact A
 .exact absurd ((Ew h).1.symm.trans (Ew A).1) BR
theorem Mw {dir kind:ByteArray}(G:kind=kc\/kind=ks):numOf dir kind (BO dir)=0:=by
 rcases Af4 (numOf dir kind (BO dir)) with A|A
 .exact A
 .exact absurd (Ew A).1 (B4 G)
def Co (dir:ByteArray):Bool:=Ab dir&&decide (dir.size<=32)
theorem AAk {b:UInt8}(h:DV b=true):jc b=true:=by
 have A:(decide (48<=b.toNat)&&decide (b.toNat<=57))=true:=h;unfold jc;rw[A];simp only[Bool.or_true,AiT]
theorem GU {dir kind:ByteArray}{no:Nat}(hd:Co dir=true)(A:kind=kc\/kind=ks)(hn:no<100000000):Ab (AJ dir kind no)=true:=by
 simp only[Co,Ab,AfH,AfQ]at hd;obtain⟨⟨⟨h1,h2⟩,G⟩,h4⟩:=hd;have hl:(AJ dir kind no).size=dir.size+10:=by
  rw[J5,C7,MI,Aet,Aet,J2 hn,Aez];rcases A with rfl|rfl<;>rfl
 have ha:(AJ dir kind no).data.toList.all jc=true:=by
  rw[C7,MI,Agb,Agb,G];have hd:(La no).all jc=true:=by
   have:=MH no;rw[Afu]at this ⊢;exact λx hx=>AAk (this x hx)
  rw[hd];rcases A with rfl|rfl<;>rfl
 simp only[Ab,ha,hl,Ahi,AfH,AfQ];omega
theorem AAl {dir:ByteArray}(hd:Co dir=true):Ab (BO dir)=true:=by
 simp only[Co,Ab,AfH,AfQ]at hd;obtain⟨⟨⟨h1,h2⟩,A⟩,h4⟩:=hd;have hl:(BO dir).size=dir.size+4:=by rw[J5,BO,Dc,Aet];rfl
 have G:(BO dir).data.toList.all jc=true:=by
  rw[BO,Dc,Agb,A];rfl
 simp only[Ab,G,hl,Ahi,AfH,AfQ];omega
section
variable {Z22:Hp}{R:Rr}
theorem Dq {b:Nat}{dir kind:ByteArray}{no:Nat}(hl:Z22.ld ⟨b,0+1,none⟩=some (.string dir))(hd:dir.size<=32)(hk:kind=kc\/kind=ks)(hn:no<100000000)(ht:Tb Z22)
  (h:∀Z'2,Ext Z22 Z'2->R (.returned (.string (AJ dir kind no))) Z'2):Spec prog 76 #[.pointer (some ⟨b,0,none⟩),.string kind,.I no] Z22 R:=by
 have mT:kind.size=1:=by rcases hk with rfl|rfl<;>rfl
 have A:(CG).size=1:=rfl;refine Qe.start ⟨b,0,rfl,dir,hl,?_,?_,λDA G=>?_⟩
 .show dir.size+CG.size<=_;rw[A];omega
 .rw[Af7,mT];show dir.size+CG.size+1<=_;rw[A];omega
 .have yF:DA=(no:Int):=by rw[G];simp[IntKind.wrap,IntKind.bits,IntKind.signed];omega
  subst yF;refine vD hn ht λZ'2 hx=>⟨_,rfl,Kp.CV hx,?_,?_⟩
  .have:(ByteArray.size ⟨(La no).toArray⟩)=8:=by
    show(La no).toArray.size=8
    rw[Agh,J2 hn]
   rw[Af7,Af7,this,mT];show dir.size+CG.size+1+8<=_;rw[A];omega
  .exact h Z'2 hx
theorem VR {b:Nat}{dir:ByteArray}(A:Z22.ld ⟨b,0+1,none⟩=some (.string dir))(hd:dir.size<=32)(h:R (.returned (.string (BO dir))) Z22):Spec prog 139 #[.pointer (some ⟨b,0,none⟩)] Z22 R:=by
 refine Nq.start ⟨b,0,rfl,dir,A,?_,h⟩;have:ByteArray.size ⟨#[47,110,101,119]⟩=4:=rfl;rw[this];omega
theorem S6:∀(l:List UInt8) (a:Nat),l.all DV=true->Lib.decFrom a l=some (Mu a l)
 | [],a,_=>rfl
 | b::l,a,h=>by
  simp only[Agw,AfH]at h;have hb:=h.1;simp[DV]at hb;rw[Lib.decFrom,Lib.digitVal,Aex hb];simp only;rw[S6 l _ h.2,Ee]
theorem vF {l:List UInt8}(A:l≠[])(h:l.all DV=true):Lib.atoi l=some (Mu 0 l:Nat):=by
 match l,A with
 | b::r,_=>
  have hb:=h;simp only[Agw,AfH]at hb;have hb:=hb.1;simp[DV]at hb;have n1:(b==45)=false:=by
   rw[Ag1];intro e;subst e;simp at hb
  have n2:(b==43)=false:=by
   rw[Ag1];intro e;subst e;simp at hb
  simp only[Lib.atoi,n1,n2,Lib.decNat,List.isEmpty_cons,S6 _ 0 h];rfl
theorem MJ {b:Nat}{dir kind s:ByteArray}(hl:Z22.ld ⟨b,0+1,none⟩=some (.string dir))(hd:dir.size<=32)(hk:kind=kc\/kind=ks)
  (h:R (.returned (.I (numOf dir kind s))) Z22):Spec prog 140 #[.pointer (some ⟨b,0,none⟩),.string kind,.string s] Z22 R:=by
 have mT:kind.size=1:=by rcases hk with rfl|rfl<;>rfl
 have WT:(CG).size=1:=rfl;refine DP.start ⟨b,0,rfl,dir,hl,?_,?_,pI (λhf=>⟨_,_,rfl,λ_=>?_,λhh=>(by cases hh)⟩) λht=>⟨_,_,rfl,λhh=>(by cases hh),λ_=>⟨λh8=>?_,λh8=>?_⟩⟩⟩
 .show dir.size+CG.size<=_;rw[WT];omega
 .rw[Af7,mT];show dir.size+CG.size+1<=_;rw[WT];omega
 .have RM:Am s (cat dir kind)=false:=hf;have:numOf dir kind s=0:=by simp[numOf,RM]
  rw[this]at h;exact h
 all_goals
  have ht':Am s (cat dir kind)=true:=ht;have hr:(s.extract (cat dir kind).size s.size).data.toList=rest s (cat dir kind):=by
   rw[eM,rest,Ae7 (by rw[AfV];exact Ae1 _)]
  have Dz:(s.extract (cat dir kind).size s.size).size=(rest s (cat dir kind)).length:=by rw[J5,hr]
 .have:numOf dir kind s=0:=by
   have:(rest s (cat dir kind)).length≠8:=λe=>h8 (by show((s.extract (cat dir kind).size s.size).size:Int)=8;rw[Dz,e];rfl);simp[numOf,this]
  rw[this]at h;exact h
 .have A:(rest s (cat dir kind)).length=8:=by
   have:¬(((s.extract (cat dir kind).size s.size).size:Int)≠8):=h8;rw[Dz]at this;omega
  show DP.KX R (s.extract (cat dir kind).size s.size) 0 Z22
  generalize s.extract (cat dir kind).size s.size=t at hr Dz;have bad:(∃(k:Nat) (u:UInt8),(rest s (cat dir kind))[k]?=some u/\DV u=false)->R (.returned (.I 0)) Z22:=λ⟨k,u,hu,hdg⟩=>by
   have G:(rest s (cat dir kind)).all DV=false:=by
    rw[AiF];exact⟨u,Ae2 hu,by simp[hdg]⟩
   have:numOf dir kind s=0:=by simp[numOf,G]
   rw[this]at h;exact h
  suffices H:∀d k:Nat,8-k=d->k<=8->((rest s (cat dir kind)).take k).all DV=true->DP.KX R t k Z22 from H 8 0 rfl (by omega) rfl
  intro d
  induction d with
  | zero=>
   intro k hd hk G;rw[Ae7 (by omega)]at G;refine DP.Mk ⟨λhh=>by omega,λ_=>?_⟩;have AFz:numOf dir kind s=Mu 0 (rest s (cat dir kind)):=by rw[numOf,Aex ⟨ht',A,G⟩]
   rw[AFz]at h;refine Spec.below (v:=.tuple #[.I (Mu 0 (rest s (cat dir kind)):Nat),.nilIface]) (λw _=>(Go.Proofs.Tryz.strconv_Atoi t _ (by omega) (by rw[hr];exact vF (λe=>by rw[e]at A;cases A) G) w).mono ?_) ⟨_,_,rfl,h⟩
   rintro e w' ⟨he,t',hw⟩
   exact⟨he,hw▸Go.Joins.below_bytesWorld _ _ _ _ (Ae1 _)⟩
  | succ d ih=>
   intro k hd hk G;obtain⟨u,hu⟩:∃u,(rest s (cat dir kind))[k]?=some u:=⟨_,Ae3 (by omega)⟩;have bO:t.data[Int.toNat (k:Int)]?=some u:=by
    rw[<-hr]at hu;simpa using hu
   refine DP.Mk ⟨λ_=>⟨u,by omega,bO,λhlo=>bad ⟨k,u,hu,by simp[DV];omega⟩,λhlo=>⟨u,by omega,bO,λhhi=>bad ⟨k,u,hu,by simp[DV];omega⟩,λhhi=>⟨by unfold AK;omega,ih (k+1) (by omega) (by omega) ?_⟩⟩⟩,λhh=>by omega⟩;rw[AL hu,Agb,G];simp[DV];omega
end
abbrev gi (A:Int):List PanicEntry:=[{ v:=.iface 211 (.agg #[.I A]),recovered:=false }]
theorem mU (w:World):(binOp BinOp.neq 20 .nilIface .nilIface).run prog w=.ok (.bool false) w:=by kernel_rfl
theorem vG (c:Int)(w:World):(binOp BinOp.neq 20 (.iface 211 (.agg #[.I c])) .nilIface).run prog w=.ok (.bool true) w:=by kernel_rfl
theorem jl (p:Addr)(w:World):
  CallsD prog 138 #[.pointer (some p)] .returning w λe u' w'=>e=.T #[]/\u'=.returning/\w'=w:=by
 refine callsD_of_wpS func138 rfl λA cs G=>?_;apply wpS_seq
 apply wpS_region
 simp[wpOpsS,go_sem,recoverD,G,Exit.thenS];apply wpS_seq
 apply wpS_region
 simp[wpOpsS,go_sem,Exit.thenS,mU];refine wpS_cond (t:=false) (by simp[Act.eval,Array.replicate,ntmps138]) ?_;simp only[AgV,AgO];refine wpS_of_wp (wp_skip ?_);cases A
 simp_all [bodyPostS,results,results138,Exit.thenS]
theorem vH (c:Int)(w:World):(Instr.typeAssert (.iface 211 (.agg #[.I c])) 20 211 true).run prog w=.ok (.tuple #[.agg #[.I c],.bool true]) w:=by
 simp[Instr.typeAssert,run_underlying underlying211]
theorem jm (b:Nat)(A:Int)(w:World){x:Value}{T:TypeId}(hb:w.heap[b]?=some (.cells #[x] T (0,0))):
  CallsD prog 138 #[.pointer (some ⟨b,0,none⟩)] (.panicking (gi A)) w λe u' w'=>e=.T #[]/\u'=.panicking [{ v:=.iface 211 (.agg #[.I A]),recovered:=true }]/\
   w'=(w.alloc (.cells #[.I A] 211)).setCell ⟨b,0,none⟩ (.I A):=by
 have Aq:b<w.heap.size:=(AfA.1 hb).1;have hh:(w.alloc (.cells #[.I A] 211)).heap[b]?=some (.cells #[x] T (0,0)):=by
  have e:(w.alloc (.cells #[.I A] 211)).heap=w.heap.push (.cells #[.I A] 211):=rfl;rw[e,Af1,Aeu (by omega)];exact hb
 have hc:(w.alloc (.cells #[.I A] 211)).cell? ⟨b,0,none⟩=some x:=by simp only[World.cell?,hh];rfl
 have G:(w.alloc (.cells #[.I A] 211)).frozen? ⟨b,0,none⟩=false:=by simp only[World.frozen?,hh];rfl
 refine callsD_of_wpS func138 rfl λc₀ cs hu=>?_;apply wpS_seq
 apply wpS_region
 simp[wpOpsS,go_sem,recoverD,hu,Exit.thenS];apply wpS_seq
 apply wpS_region
 simp[wpOpsS,go_sem,Exit.thenS,vG];refine wpS_cond (t:=true) (by simp[Act.eval,Array.replicate,ntmps138]) ?_;simp only[AhY];apply wpS_seq
 apply wpS_region
 simp[wpOpsS,go_sem,Exit.thenS,vH];apply wpS_seq
 apply wpS_seq
 apply wpS_region
 simp[wpOpsS,go_sem,Exit.thenS];refine wpS_cond (t:=false) (by simp[Act.eval,Array.replicate,ntmps138]) ?_;simp only[AgV,AgO];refine wpS_of_wp (wp_skip ?_);simp only[Exit.thenS];apply wpS_region
 simp[wpOpsS,go_sem,Exit.thenS,hc,G];simp[bodyPostS,results,results138]
theorem J7 {w:World}{b:Nat}{x v:Value}{T:TypeId}(h:w.heap[b]?=some (.cells #[x] T (0,0))):(w.setCell ⟨b,0,none⟩ v).heap[b]?=some (.cells #[v] T (0,0))/\∀k,k≠b->(w.setCell ⟨b,0,none⟩ v).heap[k]?=w.heap[k]?:=by
 have G:b<w.heap.size:=(AfA.1 h).1;refine⟨?_,λk A=>?_⟩
 .simp only[World.setCell,Af5,AhY,h];rfl
 .simp only[World.setCell,Af5,Aeu (AfT A)]
theorem pV (f:Nat) (cap:Array Value) (w:World) (Ga:∀w,(callFunc f cap).run prog w=.ok (.enter f cap) w) {R:Ending->World->Prop} (h:Calls prog f cap (w.alloc (.cells #[.I 0] 33)) λe G=>G.heap[w.heap.size]?=some (.cells #[.I 0] 33 (0,0))/\
   ((e=.T #[]/\R (.returned (.I 0)) (G.setCell ⟨w.heap.size,0,none⟩ (.I 0)))\/(∃A,e=.panicked (gi A)/\R (.returned (.I A)) ((G.alloc (.cells #[.I A] 211)).setCell ⟨w.heap.size,0,none⟩ (.I A))))) :
  Calls prog 72 #[.func (.func f) #[] cap] w R:=by
 have hmf:∀(fn:Fn) (first cap:Array Value) (w:World),(Instr.makeFunc fn first cap).run prog w=.ok (.func fn first cap) w:=λ_ _ _ _=>rfl
 go_enter_defers func72,ntmps72
 go_wp2
 rename_i K1 ha1 K2 ha2;refine h.mono ?_
 rintro e G ⟨Dy,⟨rfl,hR⟩|⟨A,rfl,hR⟩⟩
 .have hc:G.cell? ⟨w.heap.size,0,none⟩=some (.I 0):=by simp only[World.cell?,Dy];rfl
  have hfz:G.frozen? ⟨w.heap.size,0,none⟩=false:=by simp only[World.frozen?,Dy];rfl
  apply ha2
  simp only[wpList,Exit.then];apply ha1
  go_wp2
  have PM:(G.setCell ⟨w.heap.size,0,none⟩ (.I 0)).cell? ⟨w.heap.size,0,none⟩=some (.I 0):=by simp only[World.cell?,(J7 Dy).1];rfl
  simp only[bodyPostD];refine leaves_cons (f:=138) (args:=#[.pointer (some ⟨w.heap.size,0,none⟩)]) (by simp) (by simp[go_sem]) ?_;refine(jl ⟨w.heap.size,0,none⟩ _).mono ?_
  rintro e u' yS ⟨rfl,rfl,rfl⟩
  simp[Leaves,settle,results,results72,go_sem,PM];exact hR
 .simp only[bodyPostD];refine leaves_cons (f:=138) (args:=#[.pointer (some ⟨w.heap.size,0,none⟩)]) (by simp) (by simp[go_sem]) ?_;refine(jm w.heap.size A G Dy).mono ?_
  rintro e u' yS ⟨rfl,rfl,rfl⟩
  have hh:(G.alloc (.cells #[.I A] 211)).heap[w.heap.size]?=some (.cells #[.I 0] 33 (0,0)):=by
   have Aq:w.heap.size<G.heap.size:=(AfA.1 Dy).1;have e:(G.alloc (.cells #[.I A] 211)).heap=G.heap.push (.cells #[.I A] 211):=rfl;rw[e,Af1,Aeu (by omega)];exact Dy
  have PM:((G.alloc (.cells #[.I A] 211)).setCell ⟨w.heap.size,0,none⟩ (.I A)).cell? ⟨w.heap.size,0,none⟩=some (.I A):=by simp only[World.cell?,(J7 hh).1];rfl
  simp[Leaves,settle,results,results72,go_sem,PM];exact hR
theorem MK {Z22:Hp}{R:Rr}{f:Nat}{cap:Array Value}(Ga:Enters prog f)
  (h:Spec prog f cap Z22 λe Z'2=>(e=.T #[]/\R (.returned (.I 0)) Z'2)\/∃A,e=.panicked (gi A)/\R (.returned (.I A)) Z'2):Spec prog 72 #[.func (.func f) #[] cap] Z22 R:=λw F hs hF=>by
 have Dz:(w.alloc (.cells #[.I 0] 33)).heap.size=w.heap.size+1:=by
  have e:(w.alloc (.cells #[.I 0] 33)).heap=w.heap.push (.cells #[.I 0] 33):=rfl;rw[e];simp
 have hold:∀k:Nat,k<w.heap.size->(w.alloc (.cells #[.I 0] 33)).heap[k]?=w.heap[k]?:=λk hk=>by
  have e:(w.alloc (.cells #[.I 0] 33)).heap=w.heap.push (.cells #[.I 0] 33):=rfl;rw[e,Af1,Aeu (by omega)]
 have Fv:(w.alloc (.cells #[.I 0] 33)).heap[w.heap.size]?=some (.cells #[.I 0] 33 (0,0)):=by
  have e:(w.alloc (.cells #[.I 0] 33)).heap=w.heap.push (.cells #[.I 0] 33):=rfl;rw[e];simp
 have Aq:∀b o,Z22 b=some o->b<w.heap.size:=λb o hb=>(AfA.1 (hs b o hb)).1;refine pV f cap w (λw=>Ga cap w) ((h (w.alloc (.cells #[.I 0] 33)) (λk=>F k\/k=w.heap.size) (λb o hb=>by rw[hold b (Aq b o hb)];exact hs b o hb) (λk hk=>?_)).mono ?_)
 .rw[Dz];rcases hk with hk|rfl
  .exact⟨by have:=(hF k hk).1;omega,(hF k hk).2⟩
  .exact⟨by omega,DI hs⟩
 .rintro e G ⟨Z'2,hr,hf⟩
  have hp:=hf.Cc w.heap.size (.inr rfl);have Dy:=hp.2.trans Fv;have key:∀(w2:World) (v:Value),w2.heap[w.heap.size]?=some (.cells #[.I 0] 33 (0,0))->(∀(k:Nat) (o:Obj),G.heap[k]?=some o->w2.heap[k]?=some o)->(∀k:Nat,k<G.heap.size->w2.heap[k]?=G.heap[k]?)->G.heap.size<=w2.heap.size->w2.os=G.os->w2.tape=G.tape->w2.output=G.output->
    Fin Z'2 F w (w2.setCell ⟨w.heap.size,0,none⟩ v):=by
   intro w2 v h1 h2 h2' h3 h4 h5 h6;have YJ:=J7 (v:=v) h1;refine⟨λb o hb=>?_,λk hk=>?_,⟨h4.trans hf.os.1,h5.trans hf.os.2.1,λh=>h.elim⟩,h6.trans hf.out,?_⟩
   .have AR:b≠w.heap.size:=λe=>by rw[e,hp.1]at hb;cases hb
    rw[YJ.2 b AR];exact h2 b o (hf.sat b o hb)
   .have kV:=(hF k hk).1;have AR:k≠w.heap.size:=by omega
    have hpk:=hf.Cc k (.inl hk);refine⟨hpk.1,?_⟩;rw[YJ.2 k AR,h2' k (by have:=hf.grow;rw[Dz]at this;omega),hpk.2,hold k kV]
   .have:=hf.grow;rw[Dz]at this;have e:(w2.setCell ⟨w.heap.size,0,none⟩ v).heap.size=w2.heap.size:=by simp[World.setCell]
    omega
  refine⟨Dy,?_⟩;rcases hr with ⟨rfl,hr⟩|⟨A,rfl,hr⟩
  .exact .inl ⟨rfl,Z'2,hr,key G _ Dy (λk o h=>h) (λk _=>rfl) (Ae1 _) rfl rfl rfl⟩
  .have e:(G.alloc (.cells #[.I A] 211)).heap=G.heap.push (.cells #[.I A] 211):=rfl;have hg:∀k:Nat,k<G.heap.size->(G.alloc (.cells #[.I A] 211)).heap[k]?=G.heap[k]?:=λk hk=>by rw[e,Af1,Aeu (by omega)]
   have vI:w.heap.size<G.heap.size:=(AfA.1 Dy).1;exact .inr ⟨A,rfl,Z'2,hr,key _ _ (by rw[hg _ vI];exact Dy) (λk o h=>by rw[hg k (AfA.1 h).1];exact h) hg (by rw[e];simp) rfl rfl rfl⟩
abbrev NM:List PanicEntry:=[{ v:=.iface 222 (.agg #[]),recovered:=false }]
theorem pW (w:World):(binOp BinOp.neq 20 (.iface 222 (.agg #[])) .nilIface).run prog w=.ok (.bool true) w:=by kernel_rfl
theorem ed (p:Addr)(w:World):
  CallsD prog 147 #[.pointer (some p)] .returning w λe u' w'=>e=.T #[]/\u'=.returning/\w'=w:=by
 refine callsD_of_wpS func147 rfl λA cs G=>?_;apply wpS_seq
 apply wpS_region
 simp[wpOpsS,go_sem,recoverD,G,Exit.thenS];apply wpS_seq
 apply wpS_region
 simp[wpOpsS,go_sem,Exit.thenS,mU];refine wpS_cond (t:=false) (by simp[Act.eval,Array.replicate,ntmps147]) ?_;simp only[AgV,AgO];refine wpS_of_wp (wp_skip ?_);cases A
 simp_all [bodyPostS,results,results147,Exit.thenS]
theorem pX (w:World):(Instr.typeAssert (.iface 222 (.agg #[])) 20 222 true).run prog w=.ok (.tuple #[.agg #[],.bool true]) w:=by
 simp[Instr.typeAssert,run_underlying underlying222]
theorem ef (b:Nat)(w:World){x:Value}{T:TypeId}(hb:w.heap[b]?=some (.cells #[x] T (0,0))):
  CallsD prog 147 #[.pointer (some ⟨b,0,none⟩)] (.panicking NM) w λe u' w'=>e=.T #[]/\u'=.panicking [{ v:=.iface 222 (.agg #[]),recovered:=true }]/\
   w'=(w.alloc (.cells #[] 222)).setCell ⟨b,0,none⟩ (.bool false):=by
 have Aq:b<w.heap.size:=(AfA.1 hb).1;have hh:(w.alloc (.cells #[] 222)).heap[b]?=some (.cells #[x] T (0,0)):=by
  have e:(w.alloc (.cells #[] 222)).heap=w.heap.push (.cells #[] 222):=rfl;rw[e,Af1,Aeu (by omega)];exact hb
 have hc:(w.alloc (.cells #[] 222)).cell? ⟨b,0,none⟩=some x:=by simp only[World.cell?,hh];rfl
 have A:(w.alloc (.cells #[] 222)).frozen? ⟨b,0,none⟩=false:=by simp only[World.frozen?,hh];rfl
 refine callsD_of_wpS func147 rfl λG cs hu=>?_;apply wpS_seq
 apply wpS_region
 simp[wpOpsS,go_sem,recoverD,hu,Exit.thenS];apply wpS_seq
 apply wpS_region
 simp[wpOpsS,go_sem,Exit.thenS,pW];refine wpS_cond (t:=true) (by simp[Act.eval,Array.replicate,ntmps147]) ?_;simp only[AhY];apply wpS_seq
 apply wpS_seq
 apply wpS_region
 simp[wpOpsS,go_sem,Exit.thenS,pX];apply wpS_seq
 apply wpS_region
 simp[wpOpsS,go_sem,Exit.thenS];refine wpS_cond (t:=false) (by simp[Act.eval,Array.replicate,ntmps147]) ?_;simp only[AgV,AgO];refine wpS_of_wp (wp_skip ?_);simp only[Exit.thenS];apply wpS_region
 simp[wpOpsS,go_sem,Exit.thenS,hc,A];simp[bodyPostS,results,results147]
theorem jn (f:Nat) (cap:Array Value) (w:World) (Ga:∀w,(callFunc f cap).run prog w=.ok (.enter f cap) w) {R:Ending->World->Prop} (h:Calls prog f cap (w.alloc (.cells #[.bool false] 4)) λe A=>A.heap[w.heap.size]?=some (.cells #[.bool false] 4 (0,0))/\
   ((e=.T #[]/\R (.B true) (A.setCell ⟨w.heap.size,0,none⟩ (.bool true)))\/(e=.panicked NM/\R (.B false) ((A.alloc (.cells #[] 222)).setCell ⟨w.heap.size,0,none⟩ (.bool false))))) :
  Calls prog 87 #[.func (.func f) #[] cap] w R:=by
 have hmf:∀(fn:Fn) (first cap:Array Value) (w:World),(Instr.makeFunc fn first cap).run prog w=.ok (.func fn first cap) w:=λ_ _ _ _=>rfl
 go_enter_defers func87,ntmps87
 go_wp2
 rename_i K1 ha1 K2 ha2;refine h.mono ?_
 rintro e A ⟨G,⟨rfl,hR⟩|⟨rfl,hR⟩⟩
 .have hc:A.cell? ⟨w.heap.size,0,none⟩=some (.bool false):=by simp only[World.cell?,G];rfl
  have hfz:A.frozen? ⟨w.heap.size,0,none⟩=false:=by simp only[World.frozen?,G];rfl
  apply ha2
  simp only[wpList,Exit.then];apply ha1
  go_wp2
  have PM:(A.setCell ⟨w.heap.size,0,none⟩ (.bool true)).cell? ⟨w.heap.size,0,none⟩=some (.bool true):=by simp only[World.cell?,(J7 G).1];rfl
  simp only[bodyPostD];refine leaves_cons (f:=147) (args:=#[.pointer (some ⟨w.heap.size,0,none⟩)]) (by simp) (by simp[go_sem]) ?_;refine(ed ⟨w.heap.size,0,none⟩ _).mono ?_
  rintro e u' yS ⟨rfl,rfl,rfl⟩
  simp[Leaves,settle,results,results87,go_sem,PM];exact hR
 .simp only[bodyPostD];refine leaves_cons (f:=147) (args:=#[.pointer (some ⟨w.heap.size,0,none⟩)]) (by simp) (by simp[go_sem]) ?_;refine(ef w.heap.size A G).mono ?_
  rintro e u' yS ⟨rfl,rfl,rfl⟩
  have hh:(A.alloc (.cells #[] 222)).heap[w.heap.size]?=some (.cells #[.bool false] 4 (0,0)):=by
   have Aq:w.heap.size<A.heap.size:=(AfA.1 G).1;have e:(A.alloc (.cells #[] 222)).heap=A.heap.push (.cells #[] 222):=rfl;rw[e,Af1,Aeu (by omega)];exact G
  have PM:((A.alloc (.cells #[] 222)).setCell ⟨w.heap.size,0,none⟩ (.bool false)).cell? ⟨w.heap.size,0,none⟩=some (.bool false):=by simp only[World.cell?,(J7 hh).1];rfl
  simp[Leaves,settle,results,results87,go_sem,PM];exact hR
theorem aW {Z22:Hp}{R:Rr}{f:Nat}{cap:Array Value}(Ga:Enters prog f)
  (h:Spec prog f cap Z22 λe Z'2=>(e=.T #[]/\R (.B true) Z'2)\/e=.panicked NM/\R (.B false) Z'2):Spec prog 87 #[.func (.func f) #[] cap] Z22 R:=λw F hs hF=>by
 have Dz:(w.alloc (.cells #[.bool false] 4)).heap.size=w.heap.size+1:=by
  have e:(w.alloc (.cells #[.bool false] 4)).heap=w.heap.push (.cells #[.bool false] 4):=rfl;rw[e];simp
 have hold:∀k:Nat,k<w.heap.size->(w.alloc (.cells #[.bool false] 4)).heap[k]?=w.heap[k]?:=λk hk=>by
  have e:(w.alloc (.cells #[.bool false] 4)).heap=w.heap.push (.cells #[.bool false] 4):=rfl;rw[e,Af1,Aeu (by omega)]
 have Fv:(w.alloc (.cells #[.bool false] 4)).heap[w.heap.size]?=some (.cells #[.bool false] 4 (0,0)):=by
  have e:(w.alloc (.cells #[.bool false] 4)).heap=w.heap.push (.cells #[.bool false] 4):=rfl;rw[e];simp
 have Aq:∀b o,Z22 b=some o->b<w.heap.size:=λb o hb=>(AfA.1 (hs b o hb)).1;refine jn f cap w (λw=>Ga cap w) ((h (w.alloc (.cells #[.bool false] 4)) (λk=>F k\/k=w.heap.size) (λb o hb=>by rw[hold b (Aq b o hb)];exact hs b o hb) (λk hk=>?_)).mono ?_)
 .rw[Dz];rcases hk with hk|rfl
  .exact⟨by have:=(hF k hk).1;omega,(hF k hk).2⟩
  .exact⟨by omega,DI hs⟩
 .rintro e A ⟨Z'2,hr,hf⟩
  have hp:=hf.Cc w.heap.size (.inr rfl);have Dy:=hp.2.trans Fv;have key:∀(G:World) (v:Value),G.heap[w.heap.size]?=some (.cells #[.bool false] 4 (0,0))->(∀(k:Nat) (o:Obj),A.heap[k]?=some o->G.heap[k]?=some o)->(∀k:Nat,k<A.heap.size->G.heap[k]?=A.heap[k]?)->A.heap.size<=G.heap.size->G.os=A.os->G.tape=A.tape->G.output=A.output->
    Fin Z'2 F w (G.setCell ⟨w.heap.size,0,none⟩ v):=by
   intro G v h1 h2 h2' h3 h4 h5 h6;have YJ:=J7 (v:=v) h1;refine⟨λb o hb=>?_,λk hk=>?_,⟨h4.trans hf.os.1,h5.trans hf.os.2.1,λh=>h.elim⟩,h6.trans hf.out,?_⟩
   .have AR:b≠w.heap.size:=λe=>by rw[e,hp.1]at hb;cases hb
    rw[YJ.2 b AR];exact h2 b o (hf.sat b o hb)
   .have kV:=(hF k hk).1;have AR:k≠w.heap.size:=by omega
    have hpk:=hf.Cc k (.inl hk);refine⟨hpk.1,?_⟩;rw[YJ.2 k AR,h2' k (by have:=hf.grow;rw[Dz]at this;omega),hpk.2,hold k kV]
   .have:=hf.grow;rw[Dz]at this;have e:(G.setCell ⟨w.heap.size,0,none⟩ v).heap.size=G.heap.size:=by simp[World.setCell]
    omega
  refine⟨Dy,?_⟩;rcases hr with ⟨rfl,hr⟩|⟨rfl,hr⟩
  .exact .inl ⟨rfl,Z'2,hr,key A _ Dy (λk o h=>h) (λk _=>rfl) (Ae1 _) rfl rfl rfl⟩
  .have e:(A.alloc (.cells #[] 222)).heap=A.heap.push (.cells #[] 222):=rfl;have hg:∀k:Nat,k<A.heap.size->(A.alloc (.cells #[] 222)).heap[k]?=A.heap[k]?:=λk hk=>by rw[e,Af1,Aeu (by omega)]
   have vI:w.heap.size<A.heap.size:=(AfA.1 Dy).1;exact .inr ⟨rfl,Z'2,hr,key _ _ (by rw[hg _ vI];exact Dy) (λk o h=>by rw[hg k (AfA.1 h).1];exact h) hg (by rw[e];simp) rfl rfl rfl⟩
end TwW
end
