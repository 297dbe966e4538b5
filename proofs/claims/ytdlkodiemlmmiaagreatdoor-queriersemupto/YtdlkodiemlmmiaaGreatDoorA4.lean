/-
  Part 4 of the proof that the law QuerierSemUptoCardSaid of the given program answers true for every input of the given statement; the input reads behind the call as it did. (The texts: packed from 31 texts. Names are shortened by the packing program, for the bound on size.)
-/
import Derived.Test.YtdlkodiemlmmiaaGreatDoorA3
import Derived.Lib.Bytealg
import Derived.Lib.Split
import Derived.Lib.Index
import Derived.Shelf.Strings.Search3
import Derived.Shelf.Strings.Split
import Derived.Lib.IndexMore
import Derived.Shelf.SlSortCmp.NoneTotal
import Derived.Shelf.SlGeneric
import Derived.Ground.SlsfProg
set_option linter.all false
section
namespace TwW
open Go Tw
structure Mt where
 kind:Int
 name:ByteArray
 val:ByteArray
structure Nd where
 kind:Int
 op:Int
 text:ByteArray
 mt:List Mt
 width:Int
 back:Int
 GH:Int
 names:List ByteArray
 bool:Bool
 parts:Int
structure Sr where
 ls:List Lb
 ps:List (Int×Int)
structure El where
 ls:List Lb
 v:Int
structure Rg where
 ls:List Lb
 vs:List Int
structure Vv where
 kind:Int
 v:Int
 vec:List El
 Q5:List Rg
structure Fl where
 num:ByteArray->Int
 abs:Int->Int
 floor:Int->Int
 whole:Int->Int
 AA8:Int->Int
 over:Int->List Int->Int->Option Int
 fold:Int->List Int->Int
 VI:Int->Int->Int->Int×Bool
 vL:List Mt->List Lb->Bool
 cmpL:List Lb->List Lb->Int
abbrev ML:Int:=9218868437227405314
def EV:ByteArray:=⟨#[95,95,110,97,109,101,95,95]⟩
def JQ (ls:List Lb):ByteArray:=strOfNums (AK9 ls)
section
variable {α:Type}
def fK:List (ByteArray×α)->ByteArray->α->List (ByteArray×α)
 | [],k,x=>[(k,x)]
 | (a,b)::l,k,x=>if a=k then(k,x)::l else(a,b)::fK l k x
def FQ:List (ByteArray×α)->ByteArray->Option α
 | [],_=>none
 | (a,b)::l,k=>if a=k then some b else FQ l k
end
def FR (ls:List Lb):List Lb:=ls.filter λx=>!FP x.1 [EV]
def j9 (ns:List ByteArray)(ls:List Lb):List Lb:=ls.filter λx=>FP x.1 ns
def kD (ns:List ByteArray)(ls:List Lb):List Lb:=ls.filter λx=>!FP x.1 ns
section
variable (F:Fl)
def oR (x:El):List El->List El
 | []=>[x]
 | y::l=>if F.cmpL x.ls y.ls<=0 then x::y::l else y::oR x l
def AA9 (l:List El):List El:=l.foldr (oR F) []
def HQ (l:List El):Option (List El):=if l.Pairwise (λa b=>F.cmpL a.ls b.ls≠0) then some (AA9 F l) else none
def H6 (ps:List (Int×Int))(G Iz:Int):List (Int×Int):=ps.filter λp=>decide (G<p.1)&&decide (p.1<=Iz)
def fL (n:Nd)(ss:List Sr)(at_:Int):List El:=ss.filterMap λs=>match (H6 s.ps (at_-n.back-300) (at_-n.back)).getLast? with
 | none=>none
 | some p=>if p.2=ML\/F.vL n.mt s.ls=false then none else some ⟨s.ls,p.2⟩
def oS (n:Nd)(ss:List Sr)(at_:Int):List Rg:=ss.filterMap λs=>
 let vs:=((H6 s.ps (at_-n.back-n.width) (at_-n.back)).filter λp=>decide (p.2≠ML)).map Prod.snd
 bif !vs.isEmpty&&F.vL n.mt s.ls then some ⟨s.ls,vs⟩ else none
def cZ (n:Nd)(p:Vv):List El:=(p.vec.map λx=>⟨FR x.ls,if n.op=11 then F.abs x.v else F.floor x.v⟩)++p.Q5.filterMap λs=>(F.over n.op s.vs p.v).map λv=>⟨FR s.ls,v⟩
def H7 (n:Nd)(ls:List Lb):List Lb:=if n.GH=1 then j9 n.names ls else if n.GH=2 then FR (kD n.names ls) else[]
def QP (ls:List Lb)(v:Int):List Rg->List Rg
 | []=>[⟨ls,[v]⟩]
 | g::l=>if JQ g.ls=JQ ls then⟨g.ls,g.vs++[v]⟩::l else g::QP ls v l
def vM (n:Nd)(p:Vv):List El:=(p.vec.foldl (λgs x=>QP (H7 n x.ls) x.v gs) []).map λg=>⟨g.ls,F.fold n.op g.vs⟩
def Hm (op:Int):Bool:=decide (5<=op)&&decide (op<=10)
def kE (n:Nd)(vec:List El)(f:Int->Int×Bool):List El:=vec.filterMap λx=>
 if Hm n.op=false\/n.bool=true then some ⟨FR x.ls,(f x.v).1⟩ else if(f x.v).2 then some x else none
def S1 (n:Nd)(ls:List Lb):List Lb:=if n.GH=3 then j9 n.names ls else FR (kD n.names ls)
def fM (n:Nd)(l:List El):List (ByteArray×El):=l.foldl (λm x=>fK m (JQ (S1 n x.ls)) x) []
def cd (n:Nd)(l:List El)(k:List Lb):Option El:=FQ (fM n l) (JQ k)
def vN (n:Nd)(l:List El):Bool:=decide ((fM n l).length=l.length)
def Xt (n:Nd)(x y:List El):List El:=
 (x.filter λe=>decide (n.op=12)||((cd n y (S1 n e.ls)).isSome==decide (n.op=11)))++y.filter λe=>(cd n x (S1 n e.ls)).isNone&&decide (n.op=12)
def cg (n:Nd)(x y:List El):Option (List El):=if vN n x&&vN n y then some (x.filterMap λe=>match cd n y (S1 n e.ls) with
 | none=>none
 | some o=>if Hm n.op=false\/n.bool=true then some ⟨S1 n e.ls,(F.VI n.op e.v o.v).1⟩ else if(F.VI n.op e.v o.v).2 then some e else none) else none
def AE1 (n:Nd)(x y:Vv):Option Vv:=
 if x.kind=1/\y.kind=1 then some ⟨1,(F.VI n.op x.v y.v).1,[],[]⟩
 else((if x.kind=1 then some (kE n y.vec (F.VI n.op x.v)) else if y.kind=1 then some (kE n x.vec λv=>F.VI n.op v y.v) else if 11<=n.op/\n.op<=13 then some (Xt n x.vec y.vec) else cg F n x.vec y.vec).bind (HQ F)).map λl=>⟨2,0,l,[]⟩
def ABA (p:Vv):Option Vv:=if p.kind=1 then some ⟨1,F.AA8 p.v,[],[]⟩ else(HQ F (p.vec.map λx=>⟨FR x.ls,F.AA8 x.v⟩)).map λl=>⟨2,0,l,[]⟩
def SQ (ss:List Sr)(at_:Int)(n:Nd)(l:List Vv):Option Vv:=
 if n.kind=1 then some ⟨1,F.num n.text,[],[]⟩
 else if n.kind=2 then some ⟨2,0,fL F n ss at_,[]⟩
 else if n.kind=3 then some ⟨3,F.whole n.width,[],oS F n ss at_⟩
 else match l with
  | [p]=>if n.kind=4 then(HQ F (cZ F n p)).map λl=>⟨2,0,l,[]⟩ else if n.kind=5 then(HQ F (vM F n p)).map λl=>⟨2,0,l,[]⟩ else if n.kind=7 then ABA F p else none
  | [p,q]=>if n.kind=6 then AE1 F n p q else none
  | _=>none
def VJ (ss:List Sr)(at_:Int):List Nd->List Vv->Option (List Vv)
 | [],st=>some st
 | n::t,st=>(SQ F ss at_ n (st.drop (st.length-n.parts.toNat))).bind λv=>VJ ss at_ t (st.take (st.length-n.parts.toNat)++[v])
def IP (t:List Nd)(ss:List Sr)(at_:Int):Option (List El):=(VJ F ss at_ t []).bind λst=>st.head?.map λv=>if v.kind=1 then[⟨[],v.v⟩] else v.vec
end
section
variable {F:Fl}
end
end TwW
end
section
namespace TwW
open Go Tw
structure Qm {α:Type}(c:α->α->Int):Prop where
 eq:∀x y,c x y=0↔x=y
 RO:∀x y,c x y<0↔0<c y x
 trans:∀x y z,c x y<0->c y z<0->c x z<0
def Ka {α:Type}(c:α->α->Int):List α->List α->Int
 | [],[]=>0
 | [],_::_=>-1
 | _::_,[]=>1
 | x::l,y::m=>if c x y=0 then Ka c l m else c x y
def Xu {α β:Type}(c:α->α->Int)(d:β->β->Int)(x y:α×β):Int:=if c x.1 y.1=0 then d x.2 y.2 else c x.1 y.1
theorem Qm.Ka {α:Type}{c:α->α->Int}(h:Qm c):Qm (Ka c):=by
 refine⟨λl=>?_,λl=>?_,λl=>?_⟩
 .induction l with
  | nil=>intro m;cases m<;>simp[TwW.Ka]
  | cons x l ih=>
   intro m;cases m with
   | nil=>simp[TwW.Ka]
   | cons y m=>
    unfold TwW.Ka;by_cases hc:c x y=0
    .rw[Aiy hc,ih];simp[(h.eq x y).1 hc]
    .rw[Aiw hc];simp[hc,mt (h.eq x y).2 hc]
 .induction l with
  | nil=>intro m;cases m<;>simp[TwW.Ka]
  | cons x l ih=>
   intro m;cases m with
   | nil=>simp[TwW.Ka]
   | cons y m=>
    unfold TwW.Ka;by_cases hc:c x y=0
    .have Gz:=(h.eq x y).1 hc;rw[Aiy hc,Aiy ((h.eq y x).2 Gz.symm),ih]
    .have hc':c y x≠0:=λe=>hc ((h.eq x y).2 ((h.eq y x).1 e).symm);rw[Aiw hc,Aiw hc',h.RO]
 .induction l with
  | nil=>
   intro m k h1 G;cases m with
   | nil=>simp[TwW.Ka]at h1
   | cons y m=>
    cases k with
    | nil=>simp[TwW.Ka]at G
    | cons z k=>simp[TwW.Ka]
  | cons x l ih=>
   intro m k h1 G;cases m with
   | nil=>simp[TwW.Ka]at h1
   | cons y m=>
    cases k with
    | nil=>simp[TwW.Ka]at G
    | cons z k=>
     unfold TwW.Ka at h1 G ⊢;by_cases Gz:c x y=0
     .rw[Aiy Gz]at h1;have e:=(h.eq x y).1 Gz;subst e;by_cases Rh:c x z=0
      .rw[Aiy Rh]at G ⊢;exact ih m k h1 G
      .rw[Aiw Rh]at G ⊢;exact G
     .rw[Aiw Gz]at h1;by_cases Rh:c y z=0
      .rw[Aiy Rh]at G;have e:=(h.eq y z).1 Rh;subst e;rw[Aiw Gz];exact h1
      .rw[Aiw Rh]at G;have h3:=h.trans x y z h1 G;rw[Aiw (by omega)];exact h3
theorem Qm.Xu {α β:Type}{c:α->α->Int}{d:β->β->Int}(h:Qm c)(g:Qm d):Qm (Xu c d):=by
 refine⟨λx y=>?_,λx y=>?_,λx y z h1 h2=>?_⟩
 .obtain⟨x1,x2⟩:=x;obtain⟨y1,y2⟩:=y;unfold TwW.Xu;by_cases G:c x1 y1=0
  .simp only[G,Aiy];rw[g.eq];simp[(h.eq x1 y1).1 G]
  .simp only[G,AkO];simp[G,mt (h.eq x1 y1).2 G]
 .unfold TwW.Xu;by_cases G:c x.1 y.1=0
  .rw[Aiy G,Aiy ((h.eq _ _).2 ((h.eq _ _).1 G).symm),g.RO]
  .rw[Aiw G,Aiw (λe=>G ((h.eq _ _).2 ((h.eq _ _).1 e).symm)),h.RO]
 .unfold TwW.Xu at h1 h2 ⊢;by_cases Gz:c x.1 y.1=0
  .rw[Aiy Gz]at h1;rw[(h.eq _ _).1 Gz];by_cases Rh:c y.1 z.1=0
   .rw[Aiy Rh]at h2 ⊢;exact g.trans _ _ _ h1 h2
   .rw[Aiw Rh]at h2 ⊢;exact h2
  .rw[Aiw Gz]at h1;by_cases Rh:c y.1 z.1=0
   .rw[Aiy Rh]at h2;rw[<-(h.eq _ _).1 Rh,Aiw Gz];exact h1
   .rw[Aiw Rh]at h2;have h3:=h.trans _ _ _ h1 h2;rw[Aiw (by omega)];exact h3
def oT (a b:UInt8):Int:=if a<b then -1 else if b<a then 1 else 0
theorem fN {a b:UInt8}:oT a b<0↔a.toNat<b.toNat:=by
 unfold oT;by_cases h:a<b
 .have:=Akp.1 h;simp[h,this]
 .have G:=mt Akp.2 h;rw[Aiw h];by_cases g:b<a<;>simp[g]<;>omega
theorem sK {a b:UInt8}:0<oT a b↔b.toNat<a.toNat:=by
 unfold oT;by_cases h:a<b
 .have:=Akp.1 h;simp[h];omega
 .rw[Aiw h];by_cases g:b<a
  .have:=Akp.1 g;simp[g,this]
  .have G:=mt Akp.2 g;simp[g];omega
theorem AE2:Qm oT:=by
 refine⟨λx y=>?_,λx y=>?_,λx y z G h2=>?_⟩
 .have G:=@fN x y;have h2:=@sK x y;rw[<-AmA];omega
 .rw[fN,sK]
 .rw[fN]at *;omega
theorem ABB:∀a b:List UInt8,Ka oT a b=Lib.compareBytes a b
 | [],[]=>rfl
 | [],_::_=>rfl
 | _::_,[]=>rfl
 | x::l,y::m=>by
  unfold Ka Lib.compareBytes;rw[<-ABB l m];unfold oT;by_cases G:x<y
  .simp[G]
  .by_cases h2:y<x<;>simp[G,h2]
def MV (a b:ByteArray):Int:=Lib.compareBytes a.data.toList b.data.toList
theorem sL:Qm MV:=by
 have h:=AE2.Ka;refine⟨λx y=>?_,λx y=>?_,λx y z G h2=>?_⟩
 .unfold MV;rw[<-ABB,h.eq];exact⟨λe=>by cases x;cases y;simp at e;rw[e],λe=>by rw[e]⟩
 .unfold MV;rw[<-ABB,<-ABB];exact h.RO _ _
 .unfold MV at *;rw[<-ABB]at *;exact h.trans _ _ _ G h2
def A3:List Lb->List Lb->Int:=Ka (Xu MV MV)
theorem Aa:Qm A3:=(sL.Xu sL).Ka
section
variable {F:Fl}(hF:F.cmpL=A3)
theorem Ta (x:El):∀l:List El,(oR F x l).Perm (x::l)
 | []=>AmI _
 | y::l=>by
  unfold oR;split
  .exact AmI _
  .exact((Ta x l).cons y).trans (List.Perm.swap ..)
theorem Lk:∀l:List El,(AA9 F l).Perm l
 | []=>AmI _
 | x::l=>(Ta x _).trans ((Lk l).cons x)
include hF
theorem le_trans' {x y z:El}(h1:F.cmpL x.ls y.ls<=0)(h2:F.cmpL y.ls z.ls<=0):F.cmpL x.ls z.ls<=0:=by
 rw[hF]at *;rcases Int.lt_or_eq_of_le h1 with G|G
 .rcases Int.lt_or_eq_of_le h2 with g2|g2
  .exact AmZ (Aa.trans _ _ _ G g2)
  .rw[<-(Aa.eq _ _).1 g2];exact h1
 .rw[(Aa.eq _ _).1 G];exact h2
theorem UX (x:El):∀l:List El,l.Pairwise (λa b=>F.cmpL a.ls b.ls<=0)->(oR F x l).Pairwise λa b=>F.cmpL a.ls b.ls<=0
 | [],_=>by simp[oR]
 | y::l,h=>by
  rw[AjY]at h;unfold oR;split
  .rename_i Gz;refine AjY.2 ⟨λz G=>?_,AjY.2 h⟩;rcases Ai1.1 G with rfl|G
   .exact Gz
   .exact le_trans' hF Gz (h.1 z G)
  .rename_i Gz;refine AjY.2 ⟨λz G=>?_,UX x l h.2⟩;rcases Ai1.1 ((Ta x l).mem_iff.1 G) with rfl|G
   .have h1:0<F.cmpL z.ls y.ls:=by omega
    rw[hF]at *;exact AmZ ((Aa.RO _ _).2 h1)
   .exact h.1 z G
theorem SR:∀l:List El,(AA9 F l).Pairwise λa b=>F.cmpL a.ls b.ls<=0
 | []=>List.Pairwise.nil
 | x::l=>UX hF x _ (SR l)
theorem vO {l m:List El}(hp:m.Perm l)(hs:m.Pairwise λa b=>F.cmpL a.ls b.ls<0):HQ F l=some m:=by
 have Ad:m.Pairwise λa b=>F.cmpL a.ls b.ls≠0:=hs.imp λh=>by omega
 have AZe:l.Pairwise λa b=>F.cmpL a.ls b.ls≠0:=(hp.pairwise_iff fun {a b} h e=>by
  rw[hF]at *;exact h ((Aa.eq _ _).2 ((Aa.eq _ _).1 e).symm)).1 Ad
 unfold HQ;rw[Aiy AZe];refine Ai8 some (List.Perm.eq_of_pairwise (le:=λa b:El=>F.cmpL a.ls b.ls<=0) (λa b ha hb h1 h2=>?_) (SR hF l) (hs.imp λh=>AmZ h) ((Lk l).trans hp.symm));have G:F.cmpL a.ls b.ls=0:=by
  refine Int.le_antisymm h1 (Int.not_lt.1 λh3=>?_);rw[hF]at *;have:=(Aa.RO _ _).1 h3;omega
 have ham:=((Lk (F:=F) l).trans hp.symm).mem_iff.1 ha;obtain⟨i,hi,rfl⟩:=AlY.1 ham;obtain⟨j,hj,rfl⟩:=AlY.1 hb;have hpw:=Ajx.1 Ad;rcases Aly i j with h|h|h
 .exact absurd G (hpw i j hi hj h)
 .subst h;rfl
 .have h4:=hpw j i hj hi h;rw[hF]at G h4;exact absurd ((Aa.eq _ _).2 ((Aa.eq _ _).1 G).symm) h4
theorem vP {l m:List El}(hp:m.Perm l)(h:¬m.Pairwise λa b=>F.cmpL a.ls b.ls≠0):HQ F l=none:=by
 unfold HQ;rw[Aiw λG=>h ((hp.pairwise_iff fun {a b} h e=>by
  rw[hF]at *;exact h ((Aa.eq _ _).2 ((Aa.eq _ _).1 e).symm)).2 G)]
end
end TwW
end
section
namespace TwW
open Go Tw
def GB (c:UInt8)(s:ByteArray):List ByteArray:=Lib.splitB ⟨#[c]⟩ 0 (Lib.countB s ⟨#[c]⟩) s
def vQ:List ByteArray->ByteArray->Bool
 | [],_=>true
 | t::r,s=>if Lib.index s.data.toList t.data.toList<0 then false else vQ r (s.extract ((Lib.index s.data.toList t.data.toList).toNat+t.size) s.size)
def isK (l:List ByteArray)(s:ByteArray):Bool:=
 let a:=l.head?.getD ⟨#[]⟩
 let z:=l.getLast?.getD ⟨#[]⟩
 if l.length=1 then decide (s=a) else
  if s.size<a.size+z.size\/s.extract 0 a.size≠a\/s.extract (s.size-z.size) s.size≠z then false else vQ l.tail.dropLast (s.extract a.size (s.size-z.size))
def kF (p s:ByteArray):Bool:=(GB 124 p).any λx=>isK (GB 42 x) s
def UY (m:Mt)(ls:List Lb):Bool:=
 let v:=Fa ls m.name
 if m.kind=1 then decide (v=m.val) else if m.kind=2 then decide (v≠m.val) else if m.kind=3 then kF m.val v else if m.kind=4 then !kF m.val v else false
def Qo (ms:List Mt)(ls:List Lb):Bool:=ms.all λm=>UY m ls
def Cz (u:UInt8):Bool:=decide (48<=u.toNat/\u.toNat<=57)
end TwW
end
section
namespace TwW
open Go Tw
def MM (v G:Int):Bool:=decide (G<=v)&&decide (v<2147483648)
section
variable (ABC:ByteArray->Bool)(AdK:ByteArray->Bool)
def Tc (n:Nd):Bool:=n.names.all ABC&&(decide (n.names.length=0)||decide (n.GH≠0))
def F0 (ms:List Mt):Int:=if 8<ms.length then 41 else if ms.all (λm=>decide (1<=m.kind/\m.kind<=4)&&ABC m.name&&decide (m.val.size<=256)) then 0 else 40
end
end TwW
end
section
namespace TwW
open Go Tw Go.RowKit Go.Proofs.Tryz
abbrev Pt:=Int×Int
def C9 (_:Hp)(vs:List Value)(x:Pt):Prop:=vs=[.I x.1,.U x.2]
theorem C9.mono:HA C9:=λ_ _ _ _ _ h=>h
def BT (Z2:Hp)(vs:List Value)(s:Sr):Prop:=∃p n c q m d,vs=[.slice p n c,.slice q m d]/\Gy Z2 p n s.ls/\Af 2 C9 Z2 q m s.ps/\m<=d
theorem BT.mono:HA BT:=λ_ _ _ _ G ⟨p,n,c,q,m,d,hv,h1,h2,h3⟩=>⟨p,n,c,q,m,d,hv,h1.mono CW.mono G,h2.mono C9.mono G,h3⟩
def Jj (_:Hp)(vs:List Value)(m:Mt):Prop:=vs=[.I m.kind,.string m.name,.string m.val]
theorem Jj.mono:HA Jj:=λ_ _ _ _ _ h=>h
def H8 (Z2:Hp)(vs:List Value)(n:Nd):Prop:=∃p k c q m d,vs=[.I n.kind,.I n.op,.string n.text,.slice p k c,.I n.width,.I n.back,.I n.GH,.slice q m d,.bool n.bool,.I n.parts]/\Af 3 Jj Z2 p k n.mt/\Fj 1 Z2 q m (n.names.map .string)
theorem H8.mono:HA H8:=λ_ _ _ _ G ⟨p,k,c,q,m,d,hv,h1,h2⟩=>⟨p,k,c,q,m,d,hv,h1.mono Jj.mono G,h2.mono G⟩
def DH (Z2:Hp)(vs:List Value)(x:El):Prop:=∃p n c,vs=[.slice p n c,.U x.v]/\Gy Z2 p n x.ls
theorem DH.mono:HA DH:=λ_ _ _ _ G ⟨p,n,c,hv,h⟩=>⟨p,n,c,hv,h.mono CW.mono G⟩
def Xv (Z2:Hp)(vs:List Value)(x:Rg):Prop:=∃p n c q m d,vs=[.slice p n c,.slice q m d]/\Gy Z2 p n x.ls/\Dc .u64 Z2 q m x.vs/\m<=d
theorem Xv.mono:HA Xv:=λ_ _ _ _ G ⟨p,n,c,q,m,d,hv,h1,h2,h3⟩=>⟨p,n,c,q,m,d,hv,h1.mono CW.mono G,h2.mono G,h3⟩
def RP (Z2:Hp)(vs:List Value)(x:Vv):Prop:=∃p n c q m d,vs=[.I x.kind,.U x.v,.slice p n c,.slice q m d]/\Af 2 DH Z2 p n x.vec/\Af 2 Xv Z2 q m x.Q5
theorem RP.mono:HA RP:=λ_ _ _ _ G ⟨p,n,c,q,m,d,hv,h1,h2⟩=>⟨p,n,c,q,m,d,hv,h1.mono DH.mono G,h2.mono Xv.mono G⟩
theorem Af.sub {α:Type}{s:Nat}{E:Hp->List Value->α->Prop}{Z2:Hp}{p:Option Addr}{n c i m:Nat}{xs:List α}(h:Af s E Z2 p n xs)(hs:0<s)(G:i+m<=n)(hc:n<=c):Af s E Z2 (E4 p i c s) m ((xs.drop i).take m):=by
 obtain⟨h1,cs,⟨h2,h3,h4⟩,h5,h6⟩:=h;refine⟨by rw[AjJ,AjN];omega,(cs.drop (i*s)).take (m*s),⟨?_,by omega,?_⟩,?_,λj x hj=>?_⟩
 .have:i*s+m*s<=n*s:=by rw[<-AkB];exact Ajk _ G
  rw[AjJ,AjN];omega
 .rcases Alp m with hm|hm
  .exact .inl hm
  .rcases h4 with h4|⟨b,o,rfl,h4⟩
   .omega
   .refine .inr ⟨b,o+i*s,?_,?_⟩
    .unfold E4;rw[Aiw (by omega)];simp[Cm]
    .exact h4.part
 .have:i*s+m*s<=n*s:=by rw[<-AkB];exact Ajk _ G
  rw[AjJ,AjN,AjJ,AjN];have:min m (xs.length-i)=m:=by omega
  rw[this];omega
 .rw[AjQ]at hj;split at hj
  .rename_i hjm;rw[Aja]at hj;have:=h6 (i+j) x hj;have e:((((cs.drop (i*s)).take (m*s)).drop (j*s)).take s)=(cs.drop ((i+j)*s)).take s:=by
    have hle:j*s+s<=m*s:=by rw[<-Akj];exact Ajk _ hjm
    rw[List.drop_take,AmF,AmH,AkB]
    congr 1
    omega
   rw[e];exact this
  .cases hj
section
variable {Z2 Z' O22:Hp}{R:Rr}
theorem vR {a b:ByteArray}:YN prog 124 #[.string a,.string b] Z2 (.I (MV a b)):=λw _=>by
 rw[run_callFunc_extern Go.Proofs.Tryz.func124 (by kernel_rfl) (by kernel_rfl) (by kernel_rfl) (e:=Extern.BytealgCompare.compare) (by kernel_rfl),Lib.run_compareString];rfl
theorem UZ [GF]{a b:ByteArray}(h:R (.returned (.I (MV a b))) Z2):Spec prog 75 #[.string a,.string b] Z2 R:=
 MF.start (DL.start (.y vR ⟨_,rfl,_,rfl,h⟩))
theorem oU [GF]{x y:Lb}(h:∀Z',Ext Z2 Z'->R (.returned (.I (Xu MV MV x y))) Z'):Spec prog 73 #[.agg #[.string x.1,.string x.2],.agg #[.string y.1,.string y.2]] Z2 R:=by
 refine MJ.start λ_ _=>UZ ⟨_,rfl,UZ ⟨_,rfl,λb hb=>?_⟩⟩;have G:=h _ (.set hb (o:=.cells #[.I (MV x.1 y.1),.I (MV x.2 y.2)] 3 (0,0)));unfold Xu at G;generalize MV x.1 y.1=u at *;generalize MV x.2 y.2=v at *;refine Is.start (Is.AX ⟨λ_=>⟨b,0,rfl,by omega,u,by simp[Hp.ld,Hp.AA],λh0=>⟨_,rfl,?_⟩,λh0=>⟨by unfold AL;omega,Is.AX ⟨λ_=>⟨b,0,rfl,by omega,v,by simp[Hp.ld,Hp.AA],λh1=>⟨_,rfl,?_⟩,λh1=>⟨by unfold AL;omega,Is.AX ⟨λh2=>by omega,λ_=>⟨_,rfl,?_⟩⟩⟩⟩,λh2=>by omega⟩⟩⟩,λh2=>by omega⟩)
 .rw[Aiw h0]at G;exact G
 .rw[Aiy (AjZ.1 h0)]at G;exact G
 .have h1':v=0:=AjZ.1 h1;rw[Aiy (AjZ.1 h0),h1']at G;rw[<-h1']at G ⊢;exact G
theorem AZf:Enters prog 73:=λargs w=>call73 args w
theorem BZ {α:Type}{xs:List α}{k:Nat}{y:α}(G:xs[k]?=some y):xs.drop k=y::xs.drop (k+1):=by
 obtain⟨h,rfl⟩:=Ai0.1 G;exact AlB h
theorem Kb [GF]{p q:Option Addr}{n c m d:Nat}{ls ms:List Lb}(hr:Gy Z2 p n ls)(hs:Gy Z2 q m ms)(h:∀Z',Ext Z2 Z'->R (.returned (.I (A3 ls ms))) Z'):Spec prog 36 #[.slice p n c,.slice q m d] Z2 R:=by
 have hl:ls.length=n:=hr.1;have hm:ms.length=m:=hs.1;refine Qf.start (BW.start ?_)
 suffices H:∀g k:Nat,∀Z',n-k=g->k<=n->k<=m->Ext Z2 Z'->A3 ls ms=A3 (ls.drop k) (ms.drop k)->BW.GG (Ab R (CI .i64 λx7 y=>R (.returned (.I x7)) y)) p n c q m d (.func (.func 73) #[] #[]) p n c n k Z' from H n 0 Z2 rfl (AjB _) (AjB _) (.refl _) rfl
 intro g
 induction g with
 | zero=>
  intro k Z' hg hk hkm hx G;have ma:k=n:=by omega
  rw[AjW (by omega)]at G;refine BW.BG ⟨λAx=>by omega,λ_=>⟨λhnm=>⟨_,rfl,?_⟩,λhnm=>⟨_,rfl,?_⟩⟩⟩
  .obtain⟨y,hy⟩:=hs.ex (k:=k) (by omega);rw[BZ hy]at G;have:=h Z' hx;rw[G]at this;exact this
  .rw[AjW (by omega)]at G;have:=h Z' hx;rw[G]at this;exact this
 | succ g ih=>
  intro k Z' hg hk hkm hx G;obtain⟨x,aq⟩:=hr.ex (k:=k) (by omega);obtain⟨b,o,rfl,au⟩:=Gy.at hr aq;rw[BZ aq]at G;refine BW.BG ⟨λ_=>⟨b,o,rfl,by omega,x.1,x.2,by simpa using au.mono hx,λ_=>⟨λhmk=>⟨_,rfl,?_⟩,λhmk=>?_⟩⟩,λhh=>by omega⟩
  .rw[show ms.drop k=[] from AjW (by omega)]at G;have:=h Z' hx;rw[G]at this;exact this
  .obtain⟨y,hyk⟩:=hs.ex (k:=k) (by omega);obtain⟨b',o',rfl,gq⟩:=Gy.at hs hyk;rw[BZ hyk]at G;have L4:A3 ls ms=if Xu MV MV x y=0 then A3 (ls.drop (k+1)) (ms.drop (k+1)) else Xu MV MV x y:=G
   refine⟨b',o',rfl,by omega,y.1,y.2,by simpa using gq.mono hx,λ_=>⟨73,#[],#[],rfl,AZf,oU λZ22 Aw=>⟨_,rfl,λAd=>⟨_,rfl,?_⟩,λheq=>⟨AO (by omega:k<n) hr.big,ih (k+1) Z22 (by omega) (by omega) (by omega) (hx.trans Aw) ?_⟩⟩⟩⟩
   .have:=h Z22 (hx.trans Aw);rw[L4,Aiw Ad]at this;exact this
   .rw[L4,Aiy (AjZ.1 heq)]
def PD:List Pt->Bool
 | []=>false
 | [_]=>true
 | a::b::l=>decide (a.1<b.1)&&PD (b::l)
theorem Kc:∀ps:List Pt,PD ps=true↔0<ps.length/\∀j a b,ps[j]?=some a->ps[j+1]?=some b->a.1<b.1
 | []=>by simp[PD]
 | [a]=>by simp[PD]
 | a::b::l=>by
  simp only[PD,AjD,AjH];rw[Kc (b::l)]
  constructor
  .rintro⟨h1,h2,h3⟩
   refine⟨by simp,λj x y G hy=>?_⟩;cases j with
   | zero=>simp at G hy;subst G;subst hy;exact h1
   | succ j=>exact h3 j x y (by simpa using G) (by simpa using hy)
  .rintro⟨h1,h2⟩
   exact⟨h2 0 a b rfl rfl,by simp,λj x y G hy=>h2 (j+1) x y (by simpa using G) (by simpa using hy)⟩
theorem C9.at {p:Option Addr}{n i:Nat}{ps:List Pt}{x:Pt}(hr:Af 2 C9 Z2 p n ps)(hx:ps[i]?=some x):∃b o,p=some ⟨b,o,none⟩/\Az Z2 b (o+i*2) [.I x.1,.U x.2]:=by
 obtain⟨b,o,vs,hp,rfl,G⟩:=Af.idx hr hx;exact⟨b,o,hp,G⟩
theorem kG {p:Option Addr}{n c:Nat}{ps:List Pt}(G:Af 2 C9 Z2 p n ps)(h:R (.returned (.bool (PD ps))) Z2):Spec prog 51 #[.slice p n c] Z2 R:=by
 have hl:ps.length=n:=G.1;refine FM.start ?_;have fin:(∀j a b,ps[j]?=some a->ps[j+1]?=some b->a.1<b.1)->R (.returned (.bool (decide (0<(n:Int))))) Z2:=λhh=>by
  have e:PD ps=decide (0<(n:Int)):=by
   rw[Bool.eq_iff_iff,Kc,AjH];exact⟨λh=>by omega,λh=>⟨by omega,hh⟩⟩
  rw[e]at h;exact h
 suffices H:∀g k:Nat,n-k=g->1<=k->(∀j a b,j+1<k->ps[j]?=some a->ps[j+1]?=some b->a.1<b.1)->FM.FV R p n c k Z2 from H (n-1) 1 rfl (Ai7 _) (λj a b hj=>by omega)
 intro g
 induction g with
 | zero=>
  intro k hg hk AZ;refine FM.A9 ⟨λAx=>by omega,λ_=>fin λj a b ha hb=>AZ j a b ?_ ha hb⟩;have:=(Ai0.1 hb).1;omega
 | succ g ih=>
  intro k hg hk AZ;obtain⟨x,hx⟩:=G.ex (k:=k) (by omega);obtain⟨y,hy⟩:=G.ex (k:=k-1) (by omega);obtain⟨b,o,rfl,au⟩:=C9.at G hx;obtain⟨_,_,he,gq⟩:=C9.at G hy;cases he;have e1:Int.toNat ((k:Int)-1)=k-1:=by omega
  refine FM.A9 ⟨λ_=>⟨b,o,rfl,by omega,x.1,by simpa using au.1,by unfold AL;have:=G.big;omega,by omega,y.1,by rw[e1];simpa using gq.1,λhle=>?_,λhgt=>⟨AO (by omega:k<n) G.big,ih (k+1) (by omega) (by omega) λj a b' hj ha hb=>?_⟩⟩,λhh=>by omega⟩
  .have e:PD ps=false:=by
    rw[Bool.eq_false_iff,ne_eq,Kc];exact λhh=>by
     have:=hh.2 (k-1) y x hy (by rw[show k-1+1=k by omega];exact hx);omega
   rw[e]at h;exact h
  .by_cases hjk:j+1=k
   .rw[hjk,hx]at hb;cases hb;rw[show j=k-1 by omega,hy]at ha;cases ha;omega
   .exact AZ j a b' (by omega) ha hb
def Da:Option (List Lb)->List Sr->Bool
 | _,[]=>true
 | q,s::l=>decide (VF s.ls=0)&&PD s.ps&&(match q with | none=>true | some q=>decide (A3 q s.ls<0))&&Da (some s.ls) l
theorem Pu (q:Option (List Lb))(s:Sr)(l:List Sr):Da q (s::l)=(decide (VF s.ls=0)&&PD s.ps&&(match q with | none=>true | some q=>decide (A3 q s.ls<0))&&Da (some s.ls) l):=by
 cases q<;>rfl
theorem BT.at {p:Option Addr}{n i:Nat}{ss:List Sr}{s:Sr}(hr:Af 2 BT Z2 p n ss)(hx:ss[i]?=some s):∃b o p1 n1 c1 q m d,p=some ⟨b,o,none⟩/\Az Z2 b (o+i*2) [.slice p1 n1 c1,.slice q m d]/\Gy Z2 p1 n1 s.ls/\Af 2 C9 Z2 q m s.ps/\m<=d:=by
 obtain⟨b,o,vs,hp,⟨p1,n1,c1,q,m,d,rfl,G,h2,h3⟩,hl⟩:=Af.idx hr hx;exact⟨b,o,p1,n1,c1,q,m,d,hp,hl,G,h2,h3⟩
theorem PE {p:Option Addr}{n c:Nat}{ss:List Sr}(hr:Af 2 BT Z2 p n ss)(h:∀Z',Ext Z2 Z'->R (.returned (.I (if Da none ss then 0 else 100))) Z'):Spec prog 19 #[.slice p n c] Z2 R:=by
 have hl:ss.length=n:=hr.1;refine Eh.start ?_
 suffices H:∀g k:Nat,∀Z',n-k=g->k<=n->Ext Z2 Z'->Da none ss=Da (if k=0 then none else(ss[k-1]?).map (·.ls)) (ss.drop k)->Eh.GG R p n c p n c n k Z' from H n 0 Z2 rfl (AjB _) (.refl _) rfl
 intro g
 induction g with
 | zero=>
  intro k Z' hg hk hx he;rw[AjW (by omega)]at he;refine Eh.BG ⟨λAx=>by omega,λ_=>?_⟩;have:=h Z' hx;rw[he]at this;exact this
 | succ g ih=>
  intro k Z' hg hk hx he;have C8:k<n:=by omega
  obtain⟨s,hs⟩:=hr.ex C8;obtain⟨b,o,p1,n1,c1,q,m,d,rfl,Vd,h1,h2,h3⟩:=BT.at hr hs;rw[BZ hs,Pu]at he;have bad:(decide (VF s.ls=0)&&PD s.ps&&(match (if k=0 then none else(ss[k-1]?).map (·.ls)) with | none=>true | some q=>decide (A3 q s.ls<0)))=false->∀G,Ext Z2 G->R (.returned (.I 100)) G:=λhf G Aw=>by
   have:=h G Aw;rw[he,hf]at this;exact this
  refine Eh.BG ⟨λ_=>⟨b,o,rfl,by omega,p1,n1,c1,q,m,d,by simpa using Vd.mono hx,λ_=>VH (h1.mono CW.mono hx) ⟨_,rfl,λAd=>bad (by simp[Ad]) Z' hx,λh0=>kG (h2.mono C9.mono hx) ⟨_,rfl,λhf=>bad (by simp[hf]) Z' hx,λht=>?_⟩⟩⟩,λhh=>by omega⟩;have sM:=AjZ.1 h0;have oV:PD s.ps=true:=ht;have next:∀G,Ext Z2 G->(match (if k=0 then none else(ss[k-1]?).map (·.ls)) with | none=>true | some q=>decide (A3 q s.ls<0))=true->AL ((k:Int)+1)/\Eh.GG R (aD b o) n c (aD b o) n c n ((k:Int)+1) G:=λG Aw hm=>by
   refine⟨AO C8 hr.big,ih (k+1) G (by omega) (by omega) Aw ?_⟩;rw[he,hm,sM,oV];simp[hs]
  refine⟨λHu=>⟨by unfold AL;have:=hr.big;omega,b,o,rfl,by omega,?_⟩,λHu=>next Z' hx (by rw[Aiy (by omega)])⟩;obtain⟨s',Pb⟩:=hr.ex (k:=k-1) (by omega);obtain⟨_,_,p1',n1',c1',_,_,_,VD,AZh,h1',_,_⟩:=BT.at hr Pb;cases VD;have e1:Int.toNat ((k:Int)-1)=k-1:=by omega
  refine⟨p1',n1',c1',by rw[e1];simpa using(AZh.mono hx).1,Kb (h1'.mono CW.mono hx) (h1.mono CW.mono hx) λG Aw=>⟨_,rfl,λTW=>bad ?_ G (hx.trans Aw),λAx=>next G (hx.trans Aw) ?_⟩⟩
  .rw[Aiw (by omega),Pb];simp;omega
  .rw[Aiw (by omega),Pb];simp;omega
end
def QQ (x:Nat):Bool:=!(FloatKind.f64.format.order x x==some .eq)
def toF (x:Nat):Nat:=if QQ x then 9221120237041090560 else x
theorem Xw (d:Ieee.Datum):d.order d=if d.isNaN then none else some .eq:=by
 cases d with
 | nan=>rfl
 | infinity s=>cases s<;>rfl
 | number s m i=>simp[Ieee.Datum.order,Ieee.Datum.isNaN,Std.ReflCmp.compare_self]
theorem SS (x:Nat):QQ x=true↔9218868437227405312<x%9223372036854775808:=by
 have h1:QQ x=(Ieee.double.read x).isNaN:=by
  show(!((Ieee.double.read x).order (Ieee.double.read x)==some .eq))=_
  rw[Xw];cases(Ieee.double.read x).isNaN<;>rfl
 rw[h1];have G:Ieee.double.signWeight=9223372036854775808:=by decide
 have e2:Ieee.double.binade=4503599627370496:=by decide
 have e3:Ieee.double.infRung=9218868437227405312:=by decide
 unfold Ieee.Format.read;simp only[G,e2,e3];split
 .simp[Ieee.Datum.isNaN];omega
 .split
  .simp[Ieee.Datum.isNaN];omega
  .split
   .simp[Ieee.Datum.isNaN];omega
   .simp[Ieee.Datum.isNaN];omega
theorem kH:QQ 9221120237041090560=true:=(SS _).2 (by decide)
theorem oW (a b t:Nat):QQ (Question.cut (.nanBits .f64 a b) t)=true:=by
 rw[SS];show 9218868437227405312<((t%2)*9223372036854775808+9218868437227405312+1+(t/2)%4503599627370495)%9223372036854775808
 have G:=AlJ (t/2) (show 0<4503599627370495 by decide);generalize (t/2)%4503599627370495=r at *;rcases Nat.mod_two_eq_zero_or_one t with h|h<;>rw[h]<;>omega
theorem toF_drawn (a b t:Nat):toF (Question.cut (.nanBits .f64 a b) t)=9221120237041090560:=by unfold toF;rw[oW];rfl
def fAr (op:Int)(a b:Nat):Option Nat:=if op=1 then Ieee.double.add a b else if op=2 then Ieee.double.sub a b else if op=3 then Ieee.double.mul a b else Ieee.double.div a b
def AS9:Option Nat->Nat
 | some r=>toF r
 | none=>9221120237041090560
def AZi (a b:Nat):Option Nat->Sem Value
 | some r=>pure (.float .f64 r)
 | none=>do pure (.float .f64 (<-choose (.nanBits .f64 a b)))
def kI (op:Int)(a b:Nat):Nat:=AS9 (fAr op a b)
def fCm (op:Int)(a b:Nat):Bool:=
 let c:=Ieee.double.order a b
 if op=5 then c==some .eq else if op=6 then c != some .eq else if op=7 then c==some .lt else if op=8 then c==some .lt||c==some .eq else if op=9 then c==some .gt else if op=10 then c==some .gt||c==some .eq else false
section
variable [GF]{Z2:Hp}{R:Rr}
theorem Xx {b:Nat}:YN prog 190 #[.float .f64 b] Z2 (.U b):=λw _=>by
 rw[run_callFunc_extern Go.Proofs.Tryz.func190 (by kernel_rfl) (by kernel_rfl) (by kernel_rfl) (e:=Extern.MathFloatBits.float64bits) (by kernel_rfl)];rfl
theorem ABE {x:Int}:YN prog 230 #[.U x] Z2 (.float .f64 x.toNat):=λw _=>by
 rw[run_callFunc_extern Go.Proofs.Tryz.func230 (by kernel_rfl) (by kernel_rfl) (by kernel_rfl) (e:=Extern.MathFloatBits.float64frombits) (by kernel_rfl)];rfl
theorem oX {x:Nat}(h:R (.returned (.bool (QQ x))) Z2):Spec prog 224 #[.float .f64 x] Z2 R:=
 Xo.start ⟨QQ x,λw _=>rfl,h⟩
theorem IQ {x:Int}(h:R (.returned (.float .f64 x.toNat)) Z2):Spec prog 192 #[.U x] Z2 R:=
 rZ.start (.y ABE ⟨_,rfl,h⟩)
theorem IS {x:Nat}(h:R (.returned (.U (toF x:Nat))) Z2):Spec prog 183 #[.float .f64 x] Z2 R:=by
 refine r8.start (oX ⟨_,rfl,λht=>?_,λG=>.y Xx ⟨_,rfl,?_⟩⟩)
 .rw[show toF x=9221120237041090560 by unfold toF;rw[ht];rfl]at h;exact h
 .rw[show toF x=x by unfold toF;rw[G];rfl]at h;exact h
def sN (x:Int):Int:=(toF x.toNat:Nat)
theorem Hn {x:Int}(h:R (.returned (.U (sN x))) Z2):Spec prog 196 #[.U x] Z2 R:=
 UM.start (IQ ⟨_,rfl,IS ⟨_,rfl,h⟩⟩)
theorem ABF {m:Sem Value}{q:Question}{f:Nat->Value}{Φ:Value->Hp->Prop}(hm:∀w,m.run prog w=.ok (f (q.cut (w.tape w.drawn q))) { w with drawn:=w.drawn+1 })(h:∀t,Φ (f (q.cut t)) Z2):AI prog m Z2 Φ:=λw F G hF=>
 ⟨_,_,Z2,hm w,h _,⟨λb o hb=>G b o hb,λb hb=>⟨(hF b hb).2,rfl⟩,(Bj.same rfl rfl rfl).drew,rfl,Ai7 _⟩⟩
theorem Xy {m:Sem Value}{v:Value}{Φ:Value->Hp->Prop}(hm:∀w,m.run prog w=.ok v w)(h:Φ v Z2):AI prog m Z2 Φ:=λw F G hF=>
 ⟨_,_,Z2,hm w,h,⟨G,λb hb=>⟨(hF b hb).2,rfl⟩,.same rfl rfl rfl,rfl,Ai7 _⟩⟩
theorem Pv {op:BinOp}{a b:Nat}{Φ:Value->Hp->Prop}(r:Option Nat)(G:∀w,(Go.binOp op 258 (.float .f64 a) (.float .f64 b)).run prog w=(AZi a b r).run prog w)
  (h:∀x:Nat,toF x=AS9 r->Φ (.float .f64 x) Z2):AI prog (Go.binOp op 258 (.float .f64 a) (.float .f64 b)) Z2 Φ:=by
 cases r with
 | some r=>exact Xy (v:=.float .f64 r) (λw=>(G w).trans rfl) (h r rfl)
 | none=>exact ABF (q:=.nanBits .f64 a b) (f:=λx=>.float .f64 x) (λw=>(G w).trans rfl) (λt=>h _ (toF_drawn a b t))
theorem Ve {a b:Nat}{Φ:Value->Hp->Prop}(h:∀x:Nat,toF x=kI 1 a b->Φ (.float .f64 x) Z2):AI prog (Go.binOp .add 258 (.float .f64 a) (.float .f64 b)) Z2 Φ:=
 Pv (Ieee.double.add a b) (λw=>by refine(show _=(Op.floatArith .add .f64 a b).run prog w from rfl).trans ?_;unfold Op.floatArith;simp only[FloatKind.format];cases Ieee.double.add a b<;>rfl) h
theorem AE6 {a b:Nat}{Φ:Value->Hp->Prop}(h:∀x:Nat,toF x=kI 2 a b->Φ (.float .f64 x) Z2):AI prog (Go.binOp .sub 258 (.float .f64 a) (.float .f64 b)) Z2 Φ:=
 Pv (Ieee.double.sub a b) (λw=>by refine(show _=(Op.floatArith .sub .f64 a b).run prog w from rfl).trans ?_;unfold Op.floatArith;simp only[FloatKind.format];cases Ieee.double.sub a b<;>rfl) h
theorem SU {a b:Nat}{Φ:Value->Hp->Prop}(h:∀x:Nat,toF x=kI 3 a b->Φ (.float .f64 x) Z2):AI prog (Go.binOp .mul 258 (.float .f64 a) (.float .f64 b)) Z2 Φ:=
 Pv (Ieee.double.mul a b) (λw=>by refine(show _=(Op.floatArith .mul .f64 a b).run prog w from rfl).trans ?_;unfold Op.floatArith;simp only[FloatKind.format];cases Ieee.double.mul a b<;>rfl) h
theorem sO {a b:Nat}{Φ:Value->Hp->Prop}(h:∀x:Nat,toF x=kI 4 a b->Φ (.float .f64 x) Z2):AI prog (Go.binOp .quo 258 (.float .f64 a) (.float .f64 b)) Z2 Φ:=
 Pv (Ieee.double.div a b) (λw=>by refine(show _=(Op.floatArith .quo .f64 a b).run prog w from rfl).trans ?_;unfold Op.floatArith;simp only[FloatKind.format];cases Ieee.double.div a b<;>rfl) h
def Xz (op a b:Int):Int:=(kI op a.toNat b.toNat:Nat)
theorem Ll {op a b:Int}(h:R (.returned (if 1<=op/\op<=4 then .tuple #[.U (Xz op a b),.bool true] else .tuple #[.U 0,.bool false])) Z2):Spec prog 213 #[.I op,.U a,.U b] Z2 R:=by
 refine Xe.start (IQ ⟨_,rfl,IQ ⟨_,rfl,λh1=>Ve λx G=>⟨_,rfl,IS ⟨_,rfl,?_⟩⟩,λh1=>⟨λh2=>AE6 λx G=>⟨_,rfl,IS ⟨_,rfl,?_⟩⟩,λh2=>⟨λh3=>SU λx G=>⟨_,rfl,IS ⟨_,rfl,?_⟩⟩,λh3=>⟨λh4=>sO λx G=>⟨_,rfl,IS ⟨_,rfl,?_⟩⟩,λh4=>?_⟩⟩⟩⟩⟩)
 .subst h1;rw[G];exact h
 .subst h2;rw[G];exact h
 .subst h3;rw[G];exact h
 .subst h4;rw[G];exact h
 .rw[Aiw (by omega)]at h;exact h
end
section
variable [GF]{Z2:Hp}{R:Rr}
def kJ (op a b:Int):Bool:=fCm op a.toNat b.toNat
theorem Lm {op a b:Int}(h:R (.T #[.bool (kJ op a b),.bool (decide (5<=op/\op<=10))]) Z2):Spec prog 214 #[.I op,.U a,.U b] Z2 R:=by
 have fin:∀{k:Int} {t:Bool},op=k->5<=k->k<=10->fCm k a.toNat b.toNat=t->R (.T #[.bool t,.bool true]) Z2:=λhk G MK ht=>by
  subst hk;rw[show kJ op a b=fCm op a.toNat b.toNat from rfl,ht,show decide (5<=op/\op<=10)=true from AjC ⟨G,MK⟩]at h;exact h
 refine SJ.start (IQ ⟨_,rfl,IQ ⟨_,rfl,
  λh1=>⟨_,λw _=>rfl,fin h1 (by decide) (by decide) rfl⟩,λh1=>
  ⟨λh2=>⟨_,λw _=>rfl,fin h2 (by decide) (by decide) rfl⟩,λh2=>
  ⟨λh3=>⟨_,λw _=>rfl,fin h3 (by decide) (by decide) rfl⟩,λh3=>
  ⟨λh4=>⟨_,λw _=>rfl,fin h4 (by decide) (by decide) rfl⟩,λh4=>
  ⟨λG=>⟨_,λw _=>rfl,fin G (by decide) (by decide) rfl⟩,λG=>
  ⟨λh6=>⟨_,λw _=>rfl,fin h6 (by decide) (by decide) rfl⟩,λh6=>?_⟩⟩⟩⟩⟩⟩⟩)
 rw[show decide (5<=op/\op<=10)=false from AjE (by omega),show kJ op a b=false by unfold kJ fCm;simp only[h1,h2,h3,h4,G,h6,AkO]]at h;exact h
def oY (x:Int):Int:=(toF (Go.bits .andNot .u64 x 9223372036854775808).toNat:Nat)
theorem ABG {x:Int}(hx:0<=x)(h:R (.returned (.U (oY x))) Z2):Spec prog 156 #[.U x] Z2 R:=by
 refine SH.start (IQ ⟨_,rfl,jY.start (.y Xx ⟨_,rfl,λx5 G=>.y ABE ⟨_,rfl,_,rfl,IS ⟨_,rfl,?_⟩⟩⟩)⟩);rw[show oY x=(toF x5.toNat:Nat) by unfold oY;rw[G,Int.toNat_of_nonneg hx]]at h;exact h
def RQ (x:Nat):Nat:=match Ieee.double.read x with
 | .nan _ _=>9221120237041090560
 | d=>toF (Ieee.double.write (d.integral .down))
def fO (x:Int):Int:=(RQ x.toNat:Nat)
theorem ck (x:Nat):QQ x=(Ieee.double.read x).isNaN:=by
 show(!((Ieee.double.read x).order (Ieee.double.read x)==some .eq))=_
 rw[Xw];cases(Ieee.double.read x).isNaN<;>rfl
theorem oZ (s:Bool)(t:Nat):QQ (Ieee.double.write (.nan s (Ieee.double.quiet t)))=true:=by
 rw[SS];have G:Ieee.double.signWeight=9223372036854775808:=by decide
 have e2:Ieee.double.binade=4503599627370496:=by decide
 have e3:Ieee.double.infRung=9218868437227405312:=by decide
 have hp:(Ieee.double.quiet t%4503599627370496).testBit 51=true:=by
  rw[show 4503599627370496=2^52 from rfl,Nat.testBit_mod_two_pow];show(decide (51<52)&&(t ||| 2^51).testBit 51)=true
  rw[Nat.testBit_or,Nat.testBit_two_pow_self];simp
 have oa:0<Ieee.double.quiet t%4503599627370496:=by
  apply Nat.pos_of_ne_zero
  intro h0;rw[h0]at hp;simp at hp
 have Ax:=AlJ (Ieee.double.quiet t) (show 0<4503599627370496 by decide);show 9218868437227405312<Ieee.double.word s (Ieee.double.infRung+Ieee.double.quiet t%Ieee.double.binade)%9223372036854775808
 unfold Ieee.Format.word;rw[G,e2,e3];generalize Ieee.double.quiet t%4503599627370496=p at *;cases s
 .rw[Aiw (by decide)];omega
 .rw[Aiy rfl];omega
def flo (x : Nat) : Sem Value := match Ieee.double.read x with
 | .nan s t => if Ieee.double.quiet t = t then pure (.float .f64 x) else do
   let kept ← choose (.extern "math.Floor,Ceil,Trunc,RoundToEven.signallingNaN kept" 2)
   pure (.float .f64 (if kept == 1 then x else Ieee.double.write (.nan s (Ieee.double.quiet t))))
 | d => pure (.float .f64 (Ieee.double.write (d.integral .down)))
theorem ABH {x : Nat} {Φ : Value -> Hp -> Prop} (h : ∀ y : Nat,toF y = RQ x -> Φ (.float .f64 y) Z2) : EN prog 231 #[.float .f64 x] Z2 Φ := by
 have CD : ∀ w,(callFunc 231 #[.float .f64 x]).run prog w = ((flo x).run prog w).andThen λv w' => .ok (.value v) w' := λw => by
   rw [run_callFunc_extern Go.Proofs.Tryz.func231 (by kernel_rfl) (by kernel_rfl) (by kernel_rfl) (e := Extern.MathFloor.toIntegral "math.archFloor" .down) (by kernel_rfl)]
   rfl
 have same : ∀ y,flo x = pure (.float .f64 y) -> toF y = RQ x -> EN prog 231 #[.float .f64 x] Z2 Φ := λy hy hf => .y (v := .float .f64 y) (λw _ => by rw [CD,hy]; rfl) (h y hf)
 cases hd : Ieee.double.read x with
 | number s m i => exact same _ (by unfold flo; rw [hd]) (by unfold RQ; rw [hd])
 | infinity s => exact same _ (by unfold flo; rw [hd]) (by unfold RQ; rw [hd])
 | nan s t =>
   have hx : QQ x = true := by rw [ck,hd]; rfl
   have hn : RQ x = 9221120237041090560 := by unfold RQ; rw [hd]
   have e1 : toF x = 9221120237041090560 := by unfold toF; rw [hx]; rfl
   by_cases hq : Ieee.double.quiet t = t
   · exact same x (by unfold flo; rw [hd]; simp only [hq,AkQ]) (by rw [e1,hn])
   · intro w F hs hF
     refine ⟨.float .f64 (if (Question.cut (.extern "math.Floor,Ceil,Trunc,RoundToEven.signallingNaN kept" 2) (w.tape w.drawn (.extern "math.Floor,Ceil,Trunc,RoundToEven.signallingNaN kept" 2))) == 1 then x else Ieee.double.write (.nan s (Ieee.double.quiet t))),{ w with drawn := w.drawn + 1 },Z2,?_,?_,⟨fun b o hb => hs b o hb,fun b hb => ⟨(hF b hb).2,rfl⟩,(Bj.same rfl rfl rfl).drew,rfl,Nat.le_refl _⟩⟩
     · rw [CD]
       unfold flo
       rw [hd]
       simp only [hq,AkO]
       rfl
     · refine h _ ?_
       rw [hn]
       split
       · exact e1
       · unfold toF; rw [oZ]; rfl
theorem od {x:Int}(h:R (.returned (.U (fO x))) Z2):Spec prog 157 #[.U x] Z2 R:=
 LJ.start (IQ ⟨_,rfl,Wa.start (ABH λy G=>⟨_,rfl,_,rfl,IS ⟨_,rfl,by rw[G];exact h⟩⟩)⟩)
def Cg (n:Int):Int:=(FloatKind.f64.nearest n:Nat)
theorem Ln {n:Int}(h:R (.returned (.U (Cg n))) Z2):Spec prog 155 #[.I n] Z2 R:=
 WY.start (Xy (v:=.float .f64 (FloatKind.f64.nearest n)) (λw=>by kernel_rfl) ⟨_,rfl,.y Xx ⟨_,rfl,h⟩⟩)
theorem oe {b:Bool}(h:R (.returned (.U (if b then Cg 1 else Cg 0))) Z2):Spec prog 215 #[.bool b] Z2 R:=
 Xn.start ⟨λht=>Ln ⟨_,rfl,by rw[ht]at h;exact h⟩,λG=>Ln ⟨_,rfl,by rw[G]at h;exact h⟩⟩
theorem kK {a b:Int}(h:R (.returned (.U (Xz 1 a b))) Z2):Spec prog 211 #[.U a,.U b] Z2 R:=eval_add.start (Ll ⟨_,_,rfl,h⟩)
theorem kM {a b:Int}(h:R (.returned (.U (Xz 2 a b))) Z2):Spec prog 200 #[.U a,.U b] Z2 R:=jy.start (Ll ⟨_,_,rfl,h⟩)
theorem kN {a b:Int}(h:R (.returned (.U (Xz 4 a b))) Z2):Spec prog 204 #[.U a,.U b] Z2 R:=j4.start (Ll ⟨_,_,rfl,h⟩)
theorem ABI {a:Int}(h:R (.returned (.bool (decide (sN a=9221120237041090560)))) Z2):Spec prog 238 #[.U a] Z2 R:=jb.start (Hn ⟨_,rfl,h⟩)
def AH6 (x:Int):Int:=sN (Go.bits .xor .u64 x 9223372036854775808)
theorem Ua {x:Int}(h:R (.returned (.U (AH6 x))) Z2):Spec prog 174 #[.U x] Z2 R:=UF.start λx4 G=>Hn ⟨_,rfl,by rw[G];exact h⟩
end
section
variable [GF]{Z2:Hp}{R:Rr}
def fP:List Int->Int
 | []=>0
 | v::l=>l.foldl (Xz 1) (sN v)
theorem X0 {p:Option Addr}{n c:Nat}{vs:List Int}(hr:Dc .u64 Z2 p n vs)(h0:0<n)(hc:n<=c)(h:R (.returned (.U (fP vs))) Z2):Spec prog 163 #[.slice p n c] Z2 R:=by
 have hl:vs.length=n:=hr.1;obtain⟨v,hv⟩:=hr.ex h0;obtain⟨b,o,rfl,DD⟩:=Dc.at hr hv;refine Hh.start ⟨b,o,rfl,by omega,v,by simpa using DD,Hn ⟨_,rfl,by omega,?_⟩⟩;have hs:Dc .u64 Z2 (E4 (aD b o) 1 c 1) (n-1) ((vs.drop 1).take (n-1)):=Af.sub hr (by decide) (by omega) hc;have hd:(vs.drop 1).take (n-1)=vs.tail:=by rw[AmR,Ai4 (by rw[Akg];omega)]
 rw[hd]at hs;have gb:vs=v::vs.tail:=by
  cases vs with
  | nil=>cases hv
  | cons a l=>simp only[Ajj,Ai9]at hv;rw[hv];rfl
 rw[gb]at h
 change R (.returned (.U (vs.tail.foldl (Xz 1) (sN v)))) Z2 at h
 generalize E4 (aD b o) 1 c 1=q at *
 suffices H:∀g k:Nat,∀(q':Option Addr) (a:Int),(0<n-1->q'=q)->n-1-k=g->k<=n-1->vs.tail.foldl (Xz 1) (sN v)=(vs.tail.drop k).foldl (Xz 1) a->Hh.A0 R a q (n-1) (c-1) ((n-1:Nat):Int) k Z2 from H (n-1) 0 q (sN v) (λ_=>rfl) (by omega) (by omega) rfl
 intro g
 induction g with
 | zero=>
  intro k q' a _ hg hk G;refine Hh.AX ⟨λAx=>by omega,λ_=>?_⟩;rw[AjW (by rw[Akg];omega)]at G;rw[G]at h;exact h
 | succ g ih=>
  intro k q' a hq hg hk G;obtain⟨x,hx⟩:=hs.ex (k:=k) (by omega);obtain⟨b',o',rfl,au⟩:=Dc.at hs hx;rw[BZ hx]at G;refine Hh.AX ⟨λ_=>⟨b',o',rfl,by omega,x,by simpa using au,kK ⟨_,rfl,AO (by omega:k<n-1) hs.big,ih (k+1) _ _ (λ_=>rfl) (by omega) (by omega) G⟩⟩,λhh=>by omega⟩
theorem RR {p:Option Addr}{n c:Nat}(h:R (.returned (.U (Cg n))) Z2):Spec prog 167 #[.slice p n c] Z2 R:=
 Ih.start (Ln ⟨_,rfl,h⟩)
theorem SX {p:Option Addr}{n c:Nat}{vs:List Int}(hr:Dc .u64 Z2 p n vs)(G:0<n)(hc:n<=c)(h:R (.returned (.U (Xz 4 (fP vs) (Cg n)))) Z2):Spec prog 166 #[.slice p n c] Z2 R:=
 GX.start (X0 hr G hc ⟨_,rfl,RR ⟨_,rfl,kN ⟨_,rfl,h⟩⟩⟩)
def kO (op:Int)(out v:Int):Int:=if kJ op v out=true\/sN out=9221120237041090560 then v else out
def Qp (op:Int):List Int->Int
 | []=>0
 | v::l=>sN (l.foldl (kO op) v)
theorem cp {op:Int}{p:Option Addr}{n c:Nat}{vs:List Int}(hr:Dc .u64 Z2 p n vs)(h0:0<n)(hc:n<=c)(h:R (.returned (.U (Qp op vs))) Z2):Spec prog 212 #[.I op,.slice p n c] Z2 R:=by
 have hl:vs.length=n:=hr.1;obtain⟨v,hv⟩:=hr.ex h0;obtain⟨b,o,rfl,DD⟩:=Dc.at hr hv;refine HK.start ⟨b,o,rfl,by omega,v,by simpa using DD,by omega,?_⟩;have hs:Dc .u64 Z2 (E4 (aD b o) 1 c 1) (n-1) ((vs.drop 1).take (n-1)):=Af.sub hr (by decide) (by omega) hc;have hd:(vs.drop 1).take (n-1)=vs.tail:=by rw[AmR,Ai4 (by rw[Akg];omega)]
 rw[hd]at hs;have gb:vs=v::vs.tail:=by
  cases vs with
  | nil=>cases hv
  | cons a l=>simp only[Ajj,Ai9]at hv;rw[hv];rfl
 rw[gb]at h
 change R (.returned (.U (sN (vs.tail.foldl (kO op) v)))) Z2 at h
 generalize E4 (aD b o) 1 c 1=q at *
 suffices H:∀g k:Nat,∀(a:Int),n-1-k=g->k<=n-1->vs.tail.foldl (kO op) v=(vs.tail.drop k).foldl (kO op) a->HK.A0 R op a q (n-1) (c-1) ((n-1:Nat):Int) k Z2 from H (n-1) 0 v (by omega) (by omega) rfl
 intro g
 induction g with
 | zero=>
  intro k a hg hk G;refine HK.AX ⟨λAx=>by omega,λ_=>Hn ⟨_,rfl,?_⟩⟩;rw[AjW (by rw[Akg];omega)]at G;rw[G]at h;exact h
 | succ g ih=>
  intro k a hg hk G;obtain⟨x,hx⟩:=hs.ex (k:=k) (by omega);obtain⟨b',o',rfl,au⟩:=Dc.at hs hx;rw[BZ hx,Akz]at G;have go:∀y,kO op a x=y->HK.RH R op y (aD b' o') (n-1) (c-1) ((n-1:Nat):Int) k Z2:=λy hy=>HK.R4 ⟨AO (by omega:k<n-1) hs.big,ih (k+1) y (by omega) (by omega) (by rw[<-hy];exact G)⟩;refine HK.AX ⟨λ_=>⟨b',o',rfl,by omega,x,by simpa using au,Lm ⟨_,_,rfl,λht=>go x (by unfold kO;rw[Aiy (.inl ht)]),λhf=>ABI ⟨_,rfl,λht=>go x ?_,λhn=>go a ?_⟩⟩⟩,λhh=>by omega⟩
  .unfold kO;rw[Aiy (.inr (AjA ht))]
  .unfold kO;rw[Aiw (by
   rintro(h1|h1)
   .rw[h1]at hf;cases hf
   .exact absurd h1 (AjX hn))]
theorem X5 {p:Option Addr}{n c:Nat}{vs:List Int}(hr:Dc .u64 Z2 p n vs)(G:0<n)(hc:n<=c)(h:R (.returned (.U (Qp 7 vs))) Z2):Spec prog 164 #[.slice p n c] Z2 R:=Iu.start (cp hr G hc ⟨_,rfl,h⟩)
theorem Qq {p:Option Addr}{n c:Nat}{vs:List Int}(hr:Dc .u64 Z2 p n vs)(G:0<n)(hc:n<=c)(h:R (.returned (.U (Qp 9 vs))) Z2):Spec prog 165 #[.slice p n c] Z2 R:=FL.start (cp hr G hc ⟨_,rfl,h⟩)
def SY (out:Int)(p:Int×Int):Int:=if kJ 7 p.2 p.1=true then Xz 1 out p.1 else out
def SZ (vs:List Int):Int:=(vs.zip vs.tail).foldl SY (Xz 2 (vs.getLast?.getD 0) (vs.head?.getD 0))
theorem YA {p:Option Addr}{n c:Nat}{vs:List Int}(G:Dc .u64 Z2 p n vs)(h0:0<n)(h:R (.returned (.U (SZ vs))) Z2):Spec prog 202 #[.slice p n c] Z2 R:=by
 have hl:vs.length=n:=G.1;have SP:=G.big;obtain⟨v,hv⟩:=G.ex h0;obtain⟨z,hz⟩:=G.ex (k:=n-1) (by omega);obtain⟨b,o,rfl,DD⟩:=Dc.at G hv;obtain⟨_,_,he,hlz⟩:=Dc.at G hz;cases he;have e1:Int.toNat ((n:Int)-1)=n-1:=by omega
 refine Ff.start ⟨by unfold AL;omega,b,o,rfl,by omega,z,by rw[e1];exact hlz,by omega,v,by simpa using DD,kM ⟨_,rfl,?_⟩⟩;have ATA:SZ vs=(vs.zip vs.tail).foldl SY (Xz 2 z v):=by
  unfold SZ;rw[AkY,hl,hz,AlN,hv];rfl
 rw[ATA]at h
 suffices H:∀g k:Nat,∀a:Int,n-1-k=g->k<=n-1->(vs.zip vs.tail).foldl SY (Xz 2 z v)=((vs.zip vs.tail).drop k).foldl SY a->Ff.CA R (aD b o) n c a ((k+1:Nat):Int) Z2 from H (n-1) 0 _ (by omega) (by omega) rfl
 have hlen:(vs.zip vs.tail).length=n-1:=by rw[AlZ,Akg];omega
 intro g
 induction g with
 | zero=>
  intro k a hg hk he;refine Ff.A1 ⟨λAx=>by omega,λ_=>?_⟩;rw[AjW (by omega)]at he;rw[he]at h;exact h
 | succ g ih=>
  intro k a hg hk he;obtain⟨x,hx⟩:=G.ex (k:=k) (by omega);obtain⟨y,hy⟩:=G.ex (k:=k+1) (by omega);obtain⟨_,_,h1,au⟩:=Dc.at G hx;obtain⟨_,_,h2,gq⟩:=Dc.at G hy;cases h1;cases h2;have AZj:(vs.zip vs.tail)[k]?=some (x,y):=by
   rw[Al4];exact⟨hx,by rw[List.getElem?_tail];exact hy⟩
  rw[BZ AZj,Akz]at he;have e2:Int.toNat (((k+1:Nat):Int)-1)=k:=by omega
  have e3:Int.toNat ((k+1:Nat):Int)=k+1:=by omega
  have go:∀w,SY a (x,y)=w->Ff.Ii R (aD b o) n c w ((k+1:Nat):Int) Z2:=λw hw=>Ff.Eg ⟨AO (by omega:k+1<n) G.big,ih (k+1) w (by omega) (by omega) (by rw[<-hw];exact he)⟩;refine Ff.A1 ⟨λ_=>⟨b,o,rfl,by omega,y,by rw[e3];exact gq,by unfold AL;omega,by omega,x,by rw[e2];exact au,Lm ⟨_,_,rfl,λht=>⟨by unfold AL;omega,by omega,x,by rw[e2];exact au,kK ⟨_,rfl,go _ ?_⟩⟩,λhf=>go _ ?_⟩⟩,λhh=>by omega⟩
  .unfold SY;rw[Aiy ht]
  .unfold SY;rw[Aiw (by rw[hf];decide)]
end
theorem kP {x:Nat}(h:QQ x=true):∃s t,Ieee.double.read x=.nan s t:=by
 rw[ck]at h;cases hd:Ieee.double.read x with
 | nan s t=>exact⟨s,t,rfl⟩
 | number=>rw[hd]at h;cases h
 | infinity=>rw[hd]at h;cases h
theorem AH7 {op:Int}{a b:Nat}(h:QQ a=true):fAr op a b=none:=by
 obtain⟨s,t,G⟩:=kP h;unfold fAr Ieee.Format.add Ieee.Format.sub Ieee.Format.mul Ieee.Format.div;rw[G];simp[Ieee.Datum.sum,Ieee.Datum.product,Ieee.Datum.quotient]
theorem AH8 {op:Int}{a b:Nat}(h:QQ b=true):fAr op a b=none:=by
 obtain⟨s,t,G⟩:=kP h;unfold fAr Ieee.Format.add Ieee.Format.sub Ieee.Format.mul Ieee.Format.div;rw[G];cases Ieee.double.read a<;>simp[Ieee.Datum.sum,Ieee.Datum.product,Ieee.Datum.quotient,Ieee.Datum.opposite]
theorem YB (op:Int)(a b:Nat):kI op (toF a) (toF b)=kI op a b:=by
 unfold kI;by_cases G:QQ a=true
 .rw[AH7 G,show toF a=9221120237041090560 by unfold toF;rw[G];rfl,AH7 kH]
 .rw[show toF a=a by unfold toF;rw[Aiw G]];by_cases hb:QQ b=true
  .rw[AH8 hb,show toF b=9221120237041090560 by unfold toF;rw[hb];rfl,AH8 kH]
  .rw[show toF b=b by unfold toF;rw[Aiw hb]]
abbrev cN:Nat:=4604544271217802189
abbrev dN:Nat:=13827916308072577997
abbrev ATB:Nat:=4607182418800017408
abbrev ATC:Nat:=13830554455654793216
def og:List (Nat×Nat):=[(ATB,0),(cN,dN),(0,ATC),(dN,dN),(ATC,0),(dN,cN),(0,ATB),(cN,cN)]
def YC (j n:Nat):List Int->Nat->Nat×Nat->Nat×Nat
 | [],_,a=>a
 | x::l,k,a=>
  let w:=og.getD ((j*k%n)*(8/n)) (0,0)
  YC j n l (k+1) (kI 1 a.1 (kI 3 x.toNat w.1),kI 1 a.2 (kI 3 x.toNat w.2))
def AE7 (vs:List Int):Nat:=
 let l:=YC (1%vs.length) vs.length vs 0 (0,0)
 kI 1 (kI 3 l.1 l.1) (kI 3 l.2 l.2)
section
variable [GF]{Z2:Hp}{R:Rr}
theorem fQ {x y:Nat}(h:x ^^^ 9223372036854775808=y):YF prog (Op.unary .neg (.float .f64 x)) Z2 (.float .f64 y):=λw _=>by subst h;rfl
theorem av (h:∀b T Z',Z2 b=none->Z'=Z2.set b (.cells (og.map λp=>.complex .f64 p.1 p.2).toArray T (0,0))->R (.returned (.slice (aD b 0) 8 8)) Z'):Spec prog 278 #[] Z2 R:=by
 refine Qk.start (IQ ⟨_,rfl,dN,fQ (by decide),_,_,λw _=>rfl,dN,fQ (by decide),dN,fQ (by decide),_,_,λw _=>rfl,dN,fQ (by decide),_,_,λw _=>rfl,_,_,λw _=>rfl,λb hb=>?_⟩);exact h b _ _ hb rfl
theorem vS {j:Nat}(hj:j<=1){p:Option Addr}{n c:Nat}{vs:List Int}(hr:Dc .u64 Z2 p n vs)(hn:n=1\/n=2\/n=4\/n=8)
  (h:∀re G Z',Ext Z2 Z'->toF re=(YC j n vs 0 (0,0)).1->toF G=(YC j n vs 0 (0,0)).2->R (.returned (.complex .f64 re G)) Z'):Spec prog 253 #[.slice p n c,.I j] Z2 R:=by
 have hl:vs.length=n:=hr.1;have z0:toF 0=0:=by
  unfold toF;rw[Aiw];rw[SS];decide
 refine KV.start (av λb T Z1 hb MU=>⟨_,_,_,rfl,?_⟩);have BS:Ext Z2 Z1:=by rw[MU];exact .set hb
 have hlb:∀k,k<8->∀re G,og[k]?=some (re,G)->Z1.ld ⟨b,0+k*1,none⟩=some (.complex .f64 re G):=λk hk re G hw=>by
  rw[MU];unfold Hp.ld;simp only[Hp.AA];have:(og.map λp=>Value.complex .f64 p.1 p.2)[k]?=some (.complex .f64 re G):=by rw[Aj7,hw];rfl
  simpa using this
 clear MU
 suffices H:∀g k:Nat,∀re G,∀a:Nat×Nat,n-k=g->k<=n->toF re=a.1->toF G=a.2->YC j n vs 0 (0,0)=YC j n (vs.drop k) k a->KV.AES R p n c j (aD b 0) 8 8 (.complex .f64 re G) k Z1 from H n 0 0 0 (0,0) rfl (AjB _) z0 z0 rfl
 intro g
 induction g with
 | zero=>
  intro k re G a hg hk h1 h2 he;have ma:k=n:=by omega
  subst ma;rw[AjW (by omega)]at he;refine KV.ra ⟨λ_=>?_,λhh=>by omega⟩;rw[he]at h;exact h re G Z1 BS h1 h2
 | succ g ih=>
  intro k re G a hg hk h1 h2 he;have ma:k<n:=by omega
  obtain⟨x,hx⟩:=hr.ex ma;obtain⟨b',o',rfl,DD⟩:=Dc.at hr hx;rw[BZ hx]at he;have ht:(j:Int)*k=((j*k:Nat):Int):=by push_cast;rfl
  have hjk:j*k<=8:=by
   rcases Nat.le_one_iff_eq_zero_or_eq_one.1 hj with h|h<;>subst h<;>omega
  refine KV.ra ⟨λhh=>by omega,λ_=>⟨b',o',rfl,by omega,x,by simpa using BS.ld DD,by unfold AL;omega,by omega,λJH h27=>⟨by omega,λxL h30=>?_⟩⟩⟩;have e27:JH=((j*k%n:Nat):Int):=by rw[h27,ht,Als (by omega)];omega
  have e30:xL=((8/n:Nat):Int):=by rw[h30];rcases hn with h|h|h|h<;>subst h<;>rfl
  have hm:(j*k%n)*(8/n)<8:=by
   have:=AlJ (j*k) (show 0<n by omega);rcases hn with h|h|h|h<;>subst h<;>simp at*<;> omega
  have ep:JH*xL=(((j*k%n)*(8/n):Nat):Int):=by rw[e27,e30];push_cast;rfl
  dsimp only;rw[ep];generalize hq:(j*k%n)*(8/n)=q at *;obtain⟨⟨wr,wi⟩,hw⟩:∃w,og[q]?=some w:=⟨_,Ai3 (show q<og.length from hm)⟩;have hgd:og.getD q (0,0)=(wr,wi):=by rw[Alu,hw];rfl
  rw[YC,hq,hgd]at he;refine⟨by unfold AL;omega,b,0,rfl,by omega,wr,wi,by simpa using hlb q hm wr wi hw,IQ ⟨_,rfl,λ_ _ _ h=>h,re,λw _=>rfl,wr,λw _=>rfl,SU λy hy=>⟨_,rfl,Ve λz hz=>⟨_,rfl,G,λw _=>rfl,wi,λw _=>rfl,SU λy' hy'=>⟨_,rfl,Ve λz' hz'=>⟨_,rfl,z,z',λw _=>rfl,AO ma hr.big,?_⟩⟩⟩⟩⟩⟩;refine ih (k+1) z z' _ (by omega) (by omega) ?_ ?_ he
  .rw[hz,<-YB,h1,hy]
  .rw[hz',<-YB,h2,hy']
theorem oh {p:Option Addr}{n c:Nat}{vs:List Int}(hr:Dc .u64 Z2 p n vs)(hn:n=1\/n=2\/n=4\/n=8)
  (h:∀Z',Ext Z2 Z'->R (.T #[.U (AE7 vs:Nat),.I 0]) Z'):Spec prog 234 #[.slice p n c] Z2 R:=by
 have hl:vs.length=n:=hr.1;have J1:∀{t:Bool} {Q:Rr},Q (.B true) Z2->Spec prog 252 #[.I n] Z2 Q:=λG=>cL.start ⟨λ_=>G,λh1=>⟨λ_=>G,λh2=>⟨λ_=>G,λh4=>by rw[show decide ((n:Int)=8)=true from AjC (by omega)];exact G⟩⟩⟩;refine Xa.start (J1 (t:=true) ?_);refine⟨true,rfl,λhf=>(by cases hf),λ_=>⟨by omega,λx12 TZ=>?_⟩⟩;have e12:x12=((1%n:Nat):Int):=by rw[TZ,Als (by omega)];exact(Int.natCast_emod 1 n).symm
 rw[e12];refine vS (Nat.mod_le 1 n) hr hn λre im Z1 hx h1 h2=>⟨_,_,rfl,re,λw _=>rfl,re,λw _=>rfl,SU λy hy=>⟨_,rfl,im,λw _=>rfl,im,λw _=>rfl,SU λz hz=>⟨_,rfl,Ve λu hu=>⟨_,rfl,IS ⟨_,rfl,?_⟩⟩⟩⟩⟩;have e:toF u=AE7 vs:=by
  rw[hu,<-YB,hy,hz];unfold AE7;rw[hl];dsimp only;rw[<-h1,<-h2,YB,YB]
 rw[e];exact h Z1 hx
def cu (n:Nat):Nat:=if 8<=n then 8 else if 4<=n then 4 else if 2<=n then 2 else 1
def Vf (vs:List Int):Int:=(AE7 (vs.drop (vs.length-cu vs.length)):Nat)
theorem ax {p:Option Addr}{n c:Nat}{vs:List Int}(hr:Dc .u64 Z2 p n vs)(h0:0<n)(hc:n<=c)
  (h:∀Z',Ext Z2 Z'->R (.returned (.U (Vf vs))) Z'):Spec prog 197 #[.slice p n c] Z2 R:=by
 have hl:vs.length=n:=hr.1;have SP:=hr.big;have G:∀m:Nat,cu n=m->m<=n->(m=1\/m=2\/m=4\/m=8)->AL ((n:Int)-m)/\((0:Int)<=((n:Int)-m)/\((n:Int)-m)<=(n:Int))/\Spec prog 234 #[(.slice (E4 p (Int.toNat ((n:Int)-m)) c 1) (n-Int.toNat ((n:Int)-m)) (c-Int.toNat ((n:Int)-m)))] Z2 (Ab R (λz y=>∃Ju KR,z=(.tuple #[.U Ju,.I KR])/\R (.returned (.U Ju)) y)):=λm hm hmn hk=>by
  have e:Int.toNat ((n:Int)-m)=n-m:=by omega
  rw[e];refine⟨by unfold AL;omega,by omega,?_⟩;have hs:=Af.sub (i:=n-m) (m:=m) hr (by decide) (by omega) hc;rw[Ai4 (by rw[AjN];omega)]at hs;rw[show n-(n-m)=m by omega];refine oh hs hk λZ' hx=>⟨_,_,rfl,?_⟩;have:=h Z' hx;unfold Vf at this;rw[hl,hm]at this;exact this
 have two:∀m x:Int,x=IntKind.i64.wrap (Int.tdiv m 2)->(m=8\/m=4\/m=2)->x=m/2:=λm x hx hm=>by
  rw[hx];rcases hm with h|h|h<;>subst h<;>rfl
 refine CO.start (CO.A9 ⟨λh8=>⟨by decide,λx1 e1=>?_⟩,λh8=>G 8 (by unfold cu;rw[Aiy (by omega)]) (by omega) (by omega)⟩);have e1:=two _ _ e1 (.inl rfl);subst e1;refine CO.A9 ⟨λh4=>⟨by decide,λx2 e2=>?_⟩,λh4=>G 4 (by unfold cu;rw[Aiw (by omega),Aiy (by omega)]) (by omega) (by omega)⟩;have e2:=two _ _ e2 (.inr (.inl (by decide)));subst e2;refine CO.A9 ⟨λh2=>⟨by decide,λx3 e3=>?_⟩,λh2=>G 2 (by unfold cu;rw[Aiw (by omega),Aiw (by omega),Aiy (by omega)]) (by omega) (by omega)⟩;have e3:=two _ _ e3 (.inr (.inr (by decide)));subst e3;exact CO.A9 ⟨λh1=>by omega,λh1=>G 1 (by unfold cu;rw[Aiw (by omega),Aiw (by omega),Aiw (by omega)]) (by omega) (by omega)⟩
end
def IT (ps:List Pt)(x:Int):Nat:=ps.countP λq=>decide (q.1<=x)
theorem sP {ps:List Pt}{x:Int}{i:Nat}(hi:i<=ps.length)(h1:∀k q,k<i->ps[k]?=some q->q.1<=x)(h2:∀k q,i<=k->ps[k]?=some q->x<q.1):IT ps x=i:=by
 unfold IT;rw[<-Aj4 i ps,List.countP_append];have e1:(ps.take i).countP (λq=>decide (q.1<=x))=(ps.take i).length:=List.countP_eq_length.2 λq hq=>by
  obtain⟨k,G⟩:=Ajg.1 hq;rw[AjQ]at G;split at G
  .rename_i hki;exact AjC (h1 k q hki G)
  .cases G
 have e2:(ps.drop i).countP (λq=>decide (q.1<=x))=0:=List.countP_eq_zero.2 λq hq=>by
  obtain⟨k,G⟩:=Ajg.1 hq;rw[Aja]at G;have:=h2 _ q (AlT i k) G;simp;omega
 rw[e1,e2,AjJ];omega
def kQ (ps:List Pt):Prop:=ps.Pairwise λa b=>a.1<b.1
theorem vT {ps:List Pt}(h:PD ps=true):kQ ps:=by
 have hh:=((Kc ps).1 h).2;unfold kQ;rw[Ajx];intro i j hi hj Vq
 induction j with
 | zero=>omega
 | succ j ih=>
  have G:=hh j ps[j] ps[j+1] (Ai3 _) (Ai3 _);by_cases h:i=j
  .subst h;exact G
  .exact Int.lt_trans (ih (by omega) (by omega)) G
theorem sQ {ps:List Pt}(h:kQ ps){i j:Nat}{a b:Pt}(G:i<j)(ha:ps[i]?=some a)(hb:ps[j]?=some b):a.1<b.1:=by
 obtain⟨h1,rfl⟩:=Ai0.1 ha;obtain⟨h2,rfl⟩:=Ai0.1 hb;exact Ajx.1 h i j h1 h2 G
theorem ATE {x:Int}(G:0<=x)(h1:x<18446744073709551616):IntKind.u64.wrap x=x:=by simp[IntKind.wrap,IntKind.bits,IntKind.signed];omega
theorem ATF {x:Int}(G:0<=x)(h1:x<9223372036854775808):IntKind.i64.wrap x=x:=by simp[IntKind.wrap,IntKind.bits,IntKind.signed];omega
section
variable [GF]{Z2:Hp}{R:Rr}
theorem sR {f:Nat}(hf:Enters prog f)(AE9:∀a b x Z' R',R' (.returned (.I (if a<=x then -1 else 1))) Z'->Spec prog f #[.agg #[.I a,.U b],.I x] Z' R'){p:Option Addr}{n c:Nat}{ps:List Pt}{x:Int}(hr:Af 2 C9 Z2 p n ps)(hs:kQ ps)
  (h:∀t,R (.T #[.I (IT ps x),.bool t]) Z2):Spec prog 184 #[.slice p n c,.I x,.func (.func f) #[] #[]] Z2 R:=by
 have hl:ps.length=n:=hr.1;have SP:=hr.big;refine BU.start ?_
 suffices H:∀g i j:Nat,j-i=g->i<=j->j<=n->(∀k q,k<i->ps[k]?=some q->q.1<=x)->(∀k q,j<=k->ps[k]?=some q->x<q.1)->BU.CA R p n c x (.func (.func f) #[] #[]) n i j Z2 from
  H n 0 n rfl (AjB _) (Ai7 _) (λk q hk=>by omega) (λk q hk hq=>by have:=(Ai0.1 hq).1;omega)
 intro g
 induction g using Nat.strongRecOn with
 | _ g ih=>
  intro i j hg Vq hj h1 h2;refine BU.A1 ⟨λAx=>⟨by unfold AL;omega,λaF e21=>⟨by decide,λFK e22 GA e23=>?_⟩⟩,λTW=>⟨λTz=>?_,λTz=>?_⟩⟩
  .rw[ATE (by omega) (by omega)]at e21;have AZl:FK=((i+j)/2:Nat):=by rw[e22,e21];show((i:Int)+j)/2^1=_;omega
   rw[AZl,ATF (by omega) (by omega)]at e23;generalize hm:(i+j)/2=m at *;have him:i<=m/\m<j:=by omega
   obtain⟨q,hq⟩:=hr.ex (k:=m) (by omega);obtain⟨b,o,rfl,DD⟩:=C9.at hr hq;rw[e23];refine⟨b,o,rfl,by omega,q.1,q.2,by simpa using DD,f,#[],#[],rfl,hf,AE9 _ _ _ _ _ ⟨_,rfl,λALD=>⟨by unfold AL;omega,?_⟩,λHu=>?_⟩⟩
   .have hq1:q.1<=x:=by
     by_cases hh:q.1<=x
     .exact hh
     .rw[Aiw hh]at ALD;omega
    refine ih (j-(m+1)) (by omega) (m+1) j rfl (by omega) hj (λk r hk G=>?_) h2;by_cases hkm:k=m
    .rw[hkm,hq]at G;cases G;exact hq1
    .have:=sQ hs (by omega:k<m) G hq;omega
   .have hq1:x<q.1:=by
     by_cases hh:q.1<=x
     .rw[Aiy hh]at Hu;omega
     .omega
    refine ih (m-i) (by omega) i m rfl (by omega) (by omega) h1 (λk r hk G=>?_);by_cases hkm:k=m
    .rw[hkm,hq]at G;cases G;exact hq1
    .have:=sQ hs (by omega:m<k) hq G;omega
  .have e:i=j:=by omega
   subst e;have hc:=sP (by omega) h1 h2;obtain⟨q,hq⟩:=hr.ex (k:=i) (by omega);obtain⟨b,o,rfl,DD⟩:=C9.at hr hq;refine⟨b,o,rfl,by omega,q.1,q.2,by simpa using DD,f,#[],#[],rfl,hf,AE9 _ _ _ _ _ ⟨_,rfl,?_⟩⟩;have:=h (decide ((if q.1<=x then(-1:Int) else 1)=0));rw[hc]at this;exact this
  .have e:i=j:=by omega
   subst e;have hc:=sP (by omega) h1 h2;have:=h false;rw[hc]at this;exact this
omit [GF] in
theorem Kd {x:Int}:∀{ps:List Pt},kQ ps->IT ps x<=ps.length/\(∀k q,k<IT ps x->ps[k]?=some q->q.1<=x)/\(∀k q,IT ps x<=k->ps[k]?=some q->x<q.1)
 | [],_=>⟨Ai7 _,λk q hk=>by simp[IT]at hk,λk q _ G=>by simp at G⟩
 | a::l,h=>by
  have hl:=AjY.1 h;obtain⟨h1,h2,h3⟩:=Kd (x:=x) (ps:=l) hl.2;by_cases ha:a.1<=x
  .have e:IT (a::l) x=IT l x+1:=by unfold IT;rw[List.countP_cons_of_pos (by simpa using ha)]
   rw[e];refine⟨by simp;exact h1,λk q hk G=>?_,λk q hk G=>?_⟩
   .cases k with
    | zero=>simp at G;subst G;exact ha
    | succ k=>exact h2 k q (by omega) (by simpa using G)
   .cases k with
    | zero=>omega
    | succ k=>exact h3 k q (by omega) (by simpa using G)
  .have e:IT (a::l) x=0:=by
    unfold IT;rw[List.countP_eq_zero];intro q G;rcases Ai1.1 G with rfl|G
    .simpa using ha
    .have:=hl.1 q G;simp;omega
   rw[e];refine⟨AjB _,λk q hk=>by omega,λk q _ G=>?_⟩;cases k with
   | zero=>simp at G;subst G;omega
   | succ k=>
    have:=hl.1 q (Ai6 (by simpa using G));omega
omit [GF] in
theorem AFA {ps:List Pt}(hs:kQ ps)(FT Iz:Int){i m:Nat}(hi:i=min (IT ps FT) (IT ps Iz))(hm:m=IT ps Iz-i):(ps.drop i).take m=H6 ps FT Iz:=by
 obtain⟨a1,a2,a3⟩:=Kd (x:=FT) hs;obtain⟨m1,m2,m3⟩:=Kd (x:=Iz) hs;have e:ps=ps.take i++((ps.drop i).take m++(ps.drop i).drop m):=by rw[Aj4,Aj4]
 have hf:H6 ps FT Iz=H6 (ps.take i) FT Iz++(H6 ((ps.drop i).take m) FT Iz++H6 ((ps.drop i).drop m) FT Iz):=by
  conv=>lhs;rw[e]
  unfold H6;rw[Ajy,Ajy]
 rw[hf];have f1:H6 (ps.take i) FT Iz=[]:=AmB.2 λq hq=>by
  obtain⟨k,G⟩:=Ajg.1 hq;rw[AjQ]at G;split at G
  .have:=a2 k q (by omega) G;simp;omega
  .cases G
 have f2:H6 ((ps.drop i).take m) FT Iz=(ps.drop i).take m:=Akv.2 λq hq=>by
  obtain⟨k,G⟩:=Ajg.1 hq;rw[AjQ]at G;split at G
  .rename_i hkm;rw[Aja]at G;have g1:=m2 _ q (by omega) G;have g2:=a3 _ q (by omega) G;simp;omega
  .cases G
 have f3:H6 ((ps.drop i).drop m) FT Iz=[]:=AmB.2 λq hq=>by
  obtain⟨k,G⟩:=Ajg.1 hq;rw[Aja,Aja]at G;have:=m3 _ q (by omega) G;simp;omega
 rw[f1,f2,f3];simp
theorem Ub {p:Option Addr}{n c:Nat}{ps:List Pt}{FT Iz:Int}(hr:Af 2 C9 Z2 p n ps)(hc:n<=c)(hs:kQ ps)
  (h:∀q m d,Af 2 C9 Z2 q m (H6 ps FT Iz)->m<=d->R (.returned (.slice q m d)) Z2):Spec prog 153 #[.slice p n c,.I FT,.I Iz] Z2 R:=by
 have hl:ps.length=n:=hr.1;have c1:∀a b x Z' R',R' (.returned (.I (if a<=x then -1 else 1))) Z'->Spec prog 185 #[.agg #[.I a,.U b],.I x] Z' R':=λa b x Z' R' hh=>Qd.start λ_=>⟨λG=>by rw[Aiy G]at hh;exact hh,λG=>by rw[Aiw G]at hh;exact hh⟩;have c2:∀a b x Z' R',R' (.returned (.I (if a<=x then -1 else 1))) Z'->Spec prog 186 #[.agg #[.I a,.U b],.I x] Z' R':=λa b x Z' R' hh=>Qj.start λ_=>⟨λG=>by rw[Aiy G]at hh;exact hh,λG=>by rw[Aiw G]at hh;exact hh⟩;have ha:=(Kd (x:=FT) hs).1;have hm:=(Kd (x:=Iz) hs).1;refine UJ.start (sR (λargs w=>call185 args w) c1 hr hs λt=>⟨_,_,rfl,sR (λargs w=>call186 args w) c2 hr hs λt'=>⟨_,_,rfl,?_⟩⟩);have e:(if((IT ps Iz:Nat):Int)<(IT ps FT:Nat) then((IT ps Iz:Nat):Int) else(IT ps FT:Nat))=((min (IT ps FT) (IT ps Iz):Nat):Int):=by split<;>omega
 rw[e];generalize hi:min (IT ps FT) (IT ps Iz)=i;have RS:=Af.sub (i:=i) (m:=IT ps Iz-i) hr (by decide) (by omega) hc;rw[AFA hs FT Iz hi.symm rfl]at RS;refine⟨by omega,?_⟩;have:=h _ _ (c-i) RS (by omega);simpa using this
end
theorem Ke {α:Type}{P:α->Bool}:∀{l:List α} {k:Nat},k<=l.length->(∀j u,j<k->l[j]?=some u->P u=true)->(∀u,l[k]?=some u->P u=false)->(l.takeWhile P).length=k
 | [],k,G,_,_=>by simp at G;subst G;rfl
 | a::l,0,_,_,h2=>by simp[List.takeWhile,h2 a rfl]
 | a::l,k+1,G,h1,h2=>by
  have ha:P a=true:=h1 0 a (by omega) rfl;simp only[List.takeWhile,ha,Aix];rw[Ke (k:=k) (by simp at G;omega) (λj u hj hu=>h1 (j+1) u (by omega) (by simpa using hu)) (λu hu=>h2 u (by simpa using hu))]
def AU (s:ByteArray):Nat:=(s.data.toList.takeWhile Cz).length
theorem Pw (s:ByteArray):AU s<=s.size:=by
 unfold AU;exact Aj3 (AlO (List.takeWhile_sublist _)) (Al6 (Ajd (xs:=s.data)))
section
variable [GF]{Z2:Hp}{R:Rr}
omit [GF] in
theorem YD {s:ByteArray}{h:Nat}(hh:h<=s.size):YF prog (Instr.sliceAt 9 (.string s) none (some (.I (h:Int))) none) Z2 (.string (s.extract 0 h)):=λw _=>by
 rw[run_sliceAt_string (h:=underlying9)];have G:(h:Int)<=s.size:=by omega
 simp[Instr.slice,run_underlying underlying9,Instr.sliceBounds,run_sliceBound,G,Result.andThen]
omit [GF] in
theorem Px {s:ByteArray}{l:Nat}(hl:l<=s.size):YF prog (Instr.sliceAt 9 (.string s) (some (.I (l:Int))) none none) Z2 (.string (s.extract l s.size)):=λw _=>by
 rw[run_sliceAt_string (h:=underlying9)];have G:(l:Int)<=s.size:=by omega
 simp[Instr.slice,run_underlying underlying9,Instr.sliceBounds,run_sliceBound,G,Result.andThen]
omit [GF] in
theorem byte_at {s:ByteArray}{k:Nat}(G:k<s.size):∃u,s.data[k]?=some u/\s.data.toList[k]?=some u:=⟨s.data[k]'G,by rw[AkN],by rw[Aje,AkN]⟩
theorem I0 {s:ByteArray}(hb:s.size<=4611686018427387904)(h:R (.returned (.I (AU s))) Z2):Spec prog 93 #[.string s] Z2 R:=by
 have hlen:s.data.toList.length=s.size:=Ajd (xs:=s.data);refine Im.start ?_
 suffices H:∀g k:Nat,s.size-k=g->k<=s.size->(∀j u,j<k->s.data.toList[j]?=some u->Cz u=true)->Im.FV R s k Z2 from H s.size 0 rfl (AjB _) (λj u hj=>by omega)
 intro g
 induction g with
 | zero=>
  intro k hg hk h1;have e:AU s=k:=Ke (by omega) h1 (λu hu=>by have:=(Ai0.1 hu).1;omega);rw[e]at h;exact Im.A9 ⟨λAx=>by omega,λ_=>h⟩
 | succ g ih=>
  intro k hg hk h1;obtain⟨u,hu,Bi⟩:=byte_at (show k<s.size by omega);have G:Cz u=false->R (.returned (.I k)) Z2:=λhd=>by
   have e:AU s=k:=Ke (by omega) h1 (λv hv=>by rw[Bi]at hv;cases hv;exact hd);rw[e]at h;exact h
  refine Im.A9 ⟨λ_=>⟨u,by omega,by simpa using hu,TS.start ⟨λkR=>⟨_,rfl,λht=>?_,λhf=>G ?_⟩,λkR=>⟨false,rfl,⟨λht=>(by cases ht),λ_=>G ?_⟩⟩⟩⟩,λhh=>by omega⟩
  .refine⟨AO (by omega:k<s.size) hb,ih (k+1) (by omega) (by omega) λj v hj hv=>?_⟩;by_cases hjk:j=k
   .rw[hjk,Bi]at hv;cases hv;have:=AjA ht;exact AjC (by omega)
   .exact h1 j v (by omega) hv
  .have:=AjX hf;exact AjE (by omega)
  .exact AjE (by omega)
end
abbrev QR (n:Nd)(p:Option Addr)(k c:Nat)(q:Option Addr)(m d:Nat):Value:=.agg #[.I n.kind,.I n.op,.string n.text,.slice p k c,.I n.width,.I n.back,.I n.GH,.slice q m d,.bool n.bool,.I n.parts]
def B8 (n:Nd):Nd:=
 if n.kind=1 then⟨n.kind,0,n.text,[],0,0,0,[],false,0⟩
 else if n.kind=2 then⟨n.kind,0,ByteArray.mk #[],[],0,n.back,0,[],false,0⟩
 else if n.kind=3 then⟨n.kind,0,ByteArray.mk #[],[],n.width,n.back,0,[],false,0⟩
 else if n.kind=4 then⟨n.kind,n.op,ByteArray.mk #[],[],0,0,0,[],false,n.parts⟩
 else if n.kind=5 then⟨n.kind,n.op,ByteArray.mk #[],[],0,0,n.GH,[],false,n.parts⟩
 else if n.kind=6 then⟨n.kind,n.op,ByteArray.mk #[],[],0,0,n.GH,[],n.bool,n.parts⟩
 else⟨n.kind,0,ByteArray.mk #[],[],0,0,0,[],false,n.parts⟩
theorem ABK:∀w,(Go.sizeOf 2).run prog w=.ok 1 w:=λw=>by kernel_rfl
theorem I1:∀w,(Go.sizeOf 3).run prog w=.ok 1 w:=λw=>by kernel_rfl
theorem ABL:∀w,(Go.sizeOf 4).run prog w=.ok 1 w:=λw=>by kernel_rfl
theorem ATG:∀w,(Go.sizeOf 9).run prog w=.ok 1 w:=λw=>by kernel_rfl
theorem sS:∀w,(Go.sizeOf 127).run prog w=.ok 10 w:=λw=>by kernel_rfl
theorem YE {c:Array Value}{l:List Value}(h:l.length=c.size):Ks c 0 l=l.toArray:=by
 apply Array.ext_getElem?
 intro j;rw[VP l c 0 j (by omega)];split
 .simp
 .rename_i G;rw[AlM (by omega),Ak5,AkF (by omega)]
section
variable [GF]{Z2:Hp}{R:Rr}
omit [GF] in
theorem ABM {O22:Hp}{b T:Nat}:∀{l:List Value} {c:Array Value} {o:Nat},O22 b=some (.cells c T (0,0))->(∀j v,l[j]?=some v->c[o+j]?=some v)->Az O22 b o l
 | [],_,_,_,_=>trivial
 | v::l,c,o,hb,h=>⟨by unfold Hp.ld;rw[hb];simpa using h 0 v rfl,ABM hb λj u G=>by have:=h (j+1) u (by simpa using G);rwa[show o+(j+1)=o+1+j by omega]at this⟩
omit [GF] in
theorem sT {O22:Hp}{b:Nat}{o:Obj}(hb:Z2 b=none)(h:Ext Z2 O22):Ext Z2 (O22.set b o):=λk u G=>by
 rw[Hp.AB (λe=>by rw[e,hb]at G;cases G)];exact h k u G
set_option maxHeartbeats 4000000 in
theorem vU {n:Nd}{p q:Option Addr}{k c m d:Nat}(h:∀Z',Ext Z2 Z'->R (.returned (QR (B8 n) none 0 0 none 0 0)) Z'):Spec prog 113 #[QR n p k c q m d] Z2 R:=by
 refine Xl.start λ_ _ b hb=>?_;have fin:∀(O22:Hp) (c:Array Value) (T:Nat),O22 b=some (.cells c T (0,0))->Ext Z2 O22->c=#[.I (B8 n).kind,.I (B8 n).op,.string (B8 n).text,.N,.I (B8 n).width,.I (B8 n).back,.I (B8 n).GH,.N,.bool (B8 n).bool,.I (B8 n).parts]->
   ∃Q9 RA oC AAc AAd AAe AAf AAg AAh AAi AAj AAk AAl AAm,Az O22 b 0 [.I Q9,.I RA,.string oC,.slice AAc AAd AAe,.I AAf,.I AAg,.I AAh,.slice AAi AAj AAk,.bool AAl,.I AAm]/\R (.returned (.agg #[.I Q9,.I RA,.string oC,.slice AAc AAd AAe,.I AAf,.I AAg,.I AAh,.slice AAi AAj AAk,.bool AAl,.I AAm])) O22:=λO22 c T hτ hx hc=>
  ⟨_,_,_,_,_,_,_,_,_,_,_,_,_,_,ABM hτ λj v hv=>by rw[hc,Ajz];simpa using hv,h O22 hx⟩
 have st:∀{O22:Hp} {c:Array Value} {T U o:Nat} {v:Value} {Φ:Unit->Hp->Prop},(∀w,(Go.sizeOf U).run prog w=.ok 1 w)->O22 b=some (.cells c T (0,0))->Ext Z2 O22->o+1<=c.size->v.cells=#[v]->v.oneCell'=true->
   (∀(O'2:Hp) (c':Array Value),c'=Ks c o [v]->c'.size=c.size->O'2 b=some (.cells c' T (0,0))->Ext Z2 O'2->Φ () O'2)->AI prog (Instr.storeAt U (.pointer (aD b o)) v) O22 Φ:=fun {O22 c T U o v Φ} hz hτ hx ho h1 h2 hk=>by
  refine AI.store hz hτ (by rw[h1];rfl) (by simpa using ho) (λu hu=>by rw[h1]at hu;simp at hu;rw[hu];exact h2) ?_;rw[h1];exact hk _ _ rfl (KH _ _ _) (Hp.AA _ _ _) (sT hb hx)
 have st0:∀{Φ:Unit->Hp->Prop},(∀(O22:Hp) (c:Array Value),c=#[.I n.kind,.I 0,(.string (ByteArray.mk #[])),.N,.I 0,.I 0,.I 0,.N,.bool false,.I 0]->c.size=10->O22 b=some (.cells c 127 (0,0))->Ext Z2 O22->Φ () O22)->
   AI prog (Instr.storeAt 127 (.pointer (aD b 0)) (.agg #[.I n.kind,.I 0,(.string (ByteArray.mk #[])),.N,.I 0,.I 0,.I 0,.N,.bool false,.I 0])) (Hp.set Z2 b (.cells #[.I 0,.I 0,(.string (ByteArray.mk #[])),.N,.I 0,.I 0,.I 0,.N,.bool false,.I 0] 127 (0,0))) Φ:=fun {Φ} hk=>by
  refine AI.store sS (Hp.AA _ _ _) rfl (by simp) (by simp[Value.cells,Value.oneCell']) ?_;exact hk _ _ (YE rfl) (by rw[KH];rfl) (Hp.AA _ _ _) (sT hb (Ext.set hb))
 refine st0 λO22 c0 e0 z0 g0 x0=>?_;refine⟨λh1=>?_,λh1=>⟨λh2=>?_,λh2=>⟨λh3=>?_,λh3=>⟨λh4=>?_,λh4=>⟨λh5=>?_,λh5=>⟨λh6=>?_,λh6=>?_⟩⟩⟩⟩⟩⟩
 .refine st ATG g0 x0 (by omega) rfl rfl λO1 c1 G z1 g1 x1=>fin O1 c1 _ g1 x1 ?_;subst e0 G;unfold B8;simp only[h1,AkQ];rfl
 .refine st ABK g0 x0 (by omega) rfl rfl λO1 c1 G z1 g1 x1=>fin O1 c1 _ g1 x1 ?_;subst e0 G;unfold B8;simp only[h2,AkQ];rfl
 .refine st ABK g0 x0 (by omega) rfl rfl λO1 c1 G z1 g1 x1=>?_;refine st ABK g1 x1 (by omega) rfl rfl λO2 c2 e2 z2 g2 x2=>fin O2 c2 _ g2 x2 ?_;subst e0 G e2;unfold B8;simp only[h3,AkQ];rfl
 .refine st I1 g0 x0 (by omega) rfl rfl λO1 c1 G z1 g1 x1=>?_;refine st I1 g1 x1 (by omega) rfl rfl λO2 c2 e2 z2 g2 x2=>fin O2 c2 _ g2 x2 ?_;subst e0 G e2;unfold B8;simp only[h4,AkQ];rfl
 .refine st I1 g0 x0 (by omega) rfl rfl λO1 c1 G z1 g1 x1=>?_;refine st I1 g1 x1 (by omega) rfl rfl λO2 c2 e2 z2 g2 x2=>?_;refine st I1 g2 x2 (by omega) rfl rfl λO3 c3 e3 z3 g3 x3=>fin O3 c3 _ g3 x3 ?_;subst e0 G e2 e3;unfold B8;simp only[h5,AkQ];rfl
 .refine st I1 g0 x0 (by omega) rfl rfl λO1 c1 G z1 g1 x1=>?_;refine st I1 g1 x1 (by omega) rfl rfl λO2 c2 e2 z2 g2 x2=>?_;refine st ABL g2 x2 (by omega) rfl rfl λO3 c3 e3 z3 g3 x3=>?_;refine st I1 g3 x3 (by omega) rfl rfl λO4 c4 e4 z4 g4 x4=>fin O4 c4 _ g4 x4 ?_;subst e0 G e2 e3 e4;unfold B8;simp only[h6,AkQ];rfl
 .refine st I1 g0 x0 (by omega) rfl rfl λO1 c1 G z1 g1 x1=>fin O1 c1 _ g1 x1 ?_;subst e0 G;unfold B8;simp only[h1,h2,h3,h4,h5,h6,AkO];rfl
end
section
variable {Z2:Hp}{R:Rr}
theorem D5 {k:Int}(h:R (.returned (.bool (Hm k))) Z2):Spec prog 116 #[.I k] Z2 R:=by
 refine N6.start ⟨λG=>?_,λG=>?_⟩
 .rw[show Hm k=decide (k<=10) by unfold Hm;rw[AjC G];rfl]at h;exact h
 .rw[show Hm k=false by unfold Hm;rw[AjE G];rfl]at h;exact h
theorem Uc {k:Int}(h:R (.returned (.bool (decide (11<=k/\k<=13)))) Z2):Spec prog 120 #[.I k] Z2 R:=by
 refine WS.start ⟨λG=>?_,λG=>?_⟩
 .rw[show decide (11<=k/\k<=13)=decide (k<=13) from Aj2.2 ⟨λh=>h.2,λh=>⟨G,h⟩⟩]at h;exact h
 .rw[show decide (11<=k/\k<=13)=false from AjE (λhh=>G hh.1)]at h;exact h
theorem Td {v l:Int}(h:R (.returned (.bool (MM v l))) Z2):Spec prog 115 #[.I v,.I l] Z2 R:=by
 refine Xd.start ⟨λG=>?_,λG=>?_⟩
 .rw[show MM v l=decide (v<2147483648) by unfold MM;rw[AjC G];rfl]at h;exact h
 .rw[show MM v l=false by unfold MM;rw[AjE G];rfl]at h;exact h
theorem cw {k:Int}(h:R (.returned (.bool (decide (1<=k/\k<=4)))) Z2):Spec prog 117 #[.I k] Z2 R:=by
 refine Xg.start ⟨λG=>?_,λG=>?_⟩
 .rw[show decide (1<=k/\k<=4)=decide (k<=4) from Aj2.2 ⟨λh=>h.2,λh=>⟨G,h⟩⟩]at h;exact h
 .rw[show decide (1<=k/\k<=4)=false from AjE (λhh=>G hh.1)]at h;exact h
theorem Py {s:ByteArray}(h:R (.returned (.bool (Du s))) Z2):Spec prog 118 #[.string s] Z2 R:=by
 refine WK.start (PA ?_);exact⟨_,rfl,h⟩
theorem Jj.at {p:Option Addr}{n i:Nat}{ms:List Mt}{x:Mt}(hr:Af 3 Jj Z2 p n ms)(hx:ms[i]?=some x):∃b o,p=some ⟨b,o,none⟩/\Az Z2 b (o+i*3) [.I x.kind,.string x.name,.string x.val]:=by
 obtain⟨b,o,vs,hp,rfl,G⟩:=Af.idx hr hx;exact⟨b,o,hp,G⟩
def ot (m:Mt):Bool:=decide (1<=m.kind/\m.kind<=4)&&Du m.name&&decide (m.val.size<=256)
theorem PF {p:Option Addr}{n c:Nat}{ms:List Mt}(hr:Af 3 Jj Z2 p n ms)(h:R (.returned (.I (F0 Du ms))) Z2):Spec prog 86 #[.slice p n c] Z2 R:=by
 have hl:ms.length=n:=hr.1;refine Hi.start ⟨λh8=>?_,λh8=>?_⟩
 .rw[show F0 Du ms=41 by unfold F0;rw[Aiy (by omega)]]at h;exact h
 have hm:F0 Du ms=if ms.all ot then 0 else 40:=by unfold F0;rw[Aiw (by omega)];rfl
 rw[hm]at h
 suffices H:∀g k:Nat,n-k=g->k<=n->ms.all ot=(ms.drop k).all ot->Hi.GQ R p n c n k Z2 from H n 0 rfl (AjB _) rfl
 intro g
 induction g with
 | zero=>
  intro k hg hk G;rw[AjW (by omega)]at G;rw[G]at h;exact Hi.EA ⟨λAx=>by omega,λ_=>h⟩
 | succ g ih=>
  intro k hg hk G;have C8:k<n:=by omega
  obtain⟨x,hx⟩:=hr.ex C8;obtain⟨b,o,rfl,DD⟩:=Jj.at hr hx;rw[BZ hx,AlQ]at G;have bad:ot x=false->R (.returned (.I 40)) Z2:=λhf=>by
   rw[hf]at G;rw[G]at h;exact h
  refine Hi.EA ⟨λ_=>⟨b,o,rfl,by omega,x.kind,x.name,x.val,by simpa using DD,λ_=>cw ⟨_,rfl,λhf=>bad ?_,λht=>Py ⟨_,rfl,λhf=>bad ?_,λhn=>⟨λhv=>bad ?_,λhv=>⟨AO C8 hr.big,ih (k+1) (by omega) (by omega) ?_⟩⟩⟩⟩⟩,λhh=>by omega⟩
  .unfold ot;rw[hf];rfl
  .unfold ot;rw[hf];simp
  .unfold ot;rw[show decide (x.val.size<=256)=false from AjE (by omega)];simp
  .rw[G,show ot x=true by unfold ot;rw[ht,hn,show decide (x.val.size<=256)=true from AjC (by omega)];rfl,AkE]
end
section
variable {Z2:Hp}{R:Rr}
theorem ou {n:Nd}{p q:Option Addr}{k c m d:Nat}(hr:Fj 1 Z2 q m (n.names.map .string))(h:R (.returned (.bool (Tc Du n))) Z2):Spec prog 114 #[QR n p k c q m d] Z2 R:=by
 have hl:n.names.length=m:=by have:=hr.1;simpa using this
 refine Hg.start λ_=>?_
 suffices H:∀g i:Nat,m-i=g->i<=m->n.names.all Du=(n.names.drop i).all Du->Hg.GG R n.kind n.op n.text p k c n.width n.back n.GH q m d n.bool n.parts q m d m i Z2 from H m 0 rfl (AjB _) rfl
 have SP:m<=4611686018427387904:=hr.2.1;intro g
 induction g with
 | zero=>
  intro i hg hi G;rw[AjW (by omega)]at G;have e:Tc Du n=(decide (m=0)||decide (n.GH≠0)):=by unfold Tc;rw[G,hl];rfl
  rw[e]at h;refine Hg.BG ⟨λAx=>by omega,λ_=>⟨λh0=>?_,λh0=>?_⟩⟩
  .rw[AjC (show m=0 by omega)]at h;exact h
  .rw[AjE (show ¬m=0 by omega)]at h;exact h
 | succ g ih=>
  intro i hg hi G;have CF:i<m:=by omega
  obtain⟨x,hx⟩:∃x,n.names[i]?=some x:=⟨_,Ai3 (by omega)⟩;obtain⟨b,o,rfl,DD⟩:=Fj.at1 hr (k:=i) (v:=.string x) (by rw[Aj7,hx];rfl);rw[BZ hx,AlQ]at G;refine Hg.BG ⟨λ_=>⟨b,o,rfl,by omega,x,by simpa using DD,Py ⟨_,rfl,λhf=>?_,λht=>⟨AO CF SP,ih (i+1) (by omega) (by omega) ?_⟩⟩⟩,λhh=>by omega⟩
  .have e:Tc Du n=false:=by unfold Tc;rw[G,hf];rfl
   rw[e]at h;exact h
  .rw[G,ht,AkE]
theorem ABN {a b:ByteArray}:(ByteArray.toList a==ByteArray.toList b)=decide (a.data.toList=b.data.toList):=by
 rw[ByteArray.toList_eq,ByteArray.toList_eq];by_cases h:a.data.toList=b.data.toList
 .simp[h]
 .rw[AjE h];exact Alk.2 h
theorem ATH {a b:ByteArray}:(ByteArray.toList a==ByteArray.toList b)=decide (a=b):=by
 rw[ABN];exact Aj2.2 ⟨λh=>AlR (AjS.1 h),λh=>by rw[h]⟩
def HR (a b:Nd):Bool:=decide (a.kind=b.kind/\a.op=b.op/\a.text=b.text/\a.width=b.width/\a.back=b.back/\a.GH=b.GH/\a.bool=b.bool/\a.parts=b.parts)
theorem ov {a b:Nd}{p p' q q':Option Addr}{k c k' c' m d m' d':Nat}(h:R (.returned (.bool (HR a b))) Z2):Spec prog 112 #[QR a p k c q m d,QR b p' k' c' q' m' d'] Z2 R:=by
 have no:¬(a.kind=b.kind/\a.op=b.op/\a.text=b.text/\a.width=b.width/\a.back=b.back/\a.GH=b.GH/\a.bool=b.bool/\a.parts=b.parts)->R (.B false) Z2:=λhn=>by
  rw[show HR a b=false from AjE hn]at h;exact h
 have last:a.kind=b.kind/\a.op=b.op/\a.text=b.text/\a.width=b.width/\a.back=b.back/\a.GH=b.GH/\a.bool=b.bool->R (.returned (.bool (decide (a.parts=b.parts)))) Z2:=λhh=>by
  rw[show HR a b=decide (a.parts=b.parts) from Aj2.2 ⟨λg=>g.2.2.2.2.2.2.2,λg=>⟨hh.1,hh.2.1,hh.2.2.1,hh.2.2.2.1,hh.2.2.2.2.1,hh.2.2.2.2.2.1,hh.2.2.2.2.2.2,g⟩⟩]at h;exact h
 refine UO.start λ_ _=>⟨λh1=>⟨λh2=>⟨λG=>?_,λG=>no ?_⟩,λh2=>no λg=>h2 g.2.1⟩,λh1=>no λg=>h1 g.1⟩
 .rw[ATH]at G;have G:=AjA G;refine⟨λh4=>⟨λh5=>⟨λh6=>⟨λt1=>⟨λt2=>last ⟨h1,h2,G,h4,h5,h6,t1.trans t2.symm⟩,λt2=>no λg=>?_⟩,λt1=>⟨λt2=>no λg=>?_,λt2=>last ⟨h1,h2,G,h4,h5,h6,t1.trans t2.symm⟩⟩⟩,λh6=>no λg=>h6 g.2.2.2.2.2.1⟩,λh5=>no λg=>h5 g.2.2.2.2.1⟩,λh4=>no λg=>h4 g.2.2.2.1⟩
  .have:=g.2.2.2.2.2.2.1;rw[t1,t2]at this;cases this
  .have:=g.2.2.2.2.2.2.1;rw[t1,t2]at this;cases this
 .rw[ATH]at G;exact λg=>AjX G g.2.2.1
end
def Gj (s:ByteArray):Bool:=
 if AU s=0 then false else if 1<AU s/\s.data[0]?=some 48 then false else if AU s=s.size then decide (AU s<=15)
 else decide (s.data[AU s]?=some 46/\0<AU (s.extract (AU s+1) s.size)/\AU s+1+AU (s.extract (AU s+1) s.size)=s.size/\AU s+AU (s.extract (AU s+1) s.size)<=15)
theorem Lp {u:UInt8}{k:Nat}(G:k<256):((u.toNat:Nat):Int)=k↔u=UInt8.ofNat k:=by
 constructor
 .intro h;apply AmA.1
  rw[AlH];omega
 .rintro rfl
  rw[AlH];omega
section
variable {Z2:Hp}{R:Rr}
theorem I2 {s:ByteArray}(hb:s.size<=4611686018427387904)(h:R (.returned (.bool (Gj s))) Z2):Spec prog 62 #[.string s] Z2 R:=by
 have hle:=Pw s;refine Xf.start (I0 hb ⟨_,rfl,λh0=>?_,λh0=>⟨_,YD hle,?_⟩⟩)
 .rw[show Gj s=false by unfold Gj;rw[Aiy (by omega)]]at h;exact h
 have J1:(s.extract 0 (AU s)).size=AU s:=by rw[AkM];omega
 have G:¬(1<AU s/\s.data[0]?=some 48)->Br ((AU s:Int)=(s.size:Int)) (R (.returned (.bool (decide ((AU s:Int)<=15)))) Z2) (AL ((AU s:Int)+1)/\∃s24,YF prog (Instr.sliceAt 9 (.string s) (some (.I ((AU s:Int)+1))) none none) Z2 (.string s24)/\Spec prog 93 #[.string s24] Z2 (Ab R (CI .i64 λaV AK=>∃u28:UInt8,0<=(AU s:Int)/\(ByteArray.data s)[Int.toNat (AU s:Int)]?=some u28/\Br (((u28.toNat:Int):Int)=46) (Br (0<aV) (AL ((AU s:Int)+1)/\AL (((AU s:Int)+1)+aV)/\Br (((((AU s:Int)+1)+aV):Int)=(s.size:Int)) (AL ((AU s:Int)+aV)/\R (.returned (.bool (decide ((((AU s:Int)+aV):Int)<=15)))) AK) (R (.B false) AK)) (R (.B false) AK)) (R (.B false) AK)))):=λhn=>by
  refine⟨λhe=>?_,λhe=>⟨by unfold AL;omega,s.extract (AU s+1) s.size,Px (l:=AU s+1) (by omega),?_⟩⟩
  .rw[show Gj s=decide ((AU s:Int)<=15) by unfold Gj;rw[Aiw (by omega),Aiw hn,Aiy (by omega)];exact Aj2.2 (by omega)]at h;exact h
  have AZn:(s.extract (AU s+1) s.size).size=s.size-(AU s+1):=by rw[AkM];omega
  have hm:=Pw (s.extract (AU s+1) s.size);refine I0 (by omega) ?_;obtain⟨u,hu,_⟩:=byte_at (show AU s<s.size by omega);have hO:Gj s=decide (s.data[AU s]?=some 46/\0<AU (s.extract (AU s+1) s.size)/\AU s+1+AU (s.extract (AU s+1) s.size)=s.size/\AU s+AU (s.extract (AU s+1) s.size)<=15):=by unfold Gj;rw[Aiw (by omega),Aiw hn,Aiw (by omega)]
  rw[hO,hu]at h;generalize AU (s.extract (AU s+1) s.size)=m at *;have b46:=Lp (u:=u) (k:=46) (by decide);have no:¬(u=46/\0<m/\AU s+1+m=s.size/\AU s+m<=15)->R (.B false) Z2:=λhh=>by
   rw[AjE (by rw[Ai9];exact hh)]at h;exact h
  refine⟨_,rfl,u,by omega,by simpa using hu,λYG=>⟨λh0m=>⟨by unfold AL;omega,by unfold AL;omega,λhs=>⟨by unfold AL;omega,?_⟩,λhs=>no λg=>hs (by omega)⟩,λh0m=>no λg=>h0m (by omega)⟩,λYG=>no λg=>YG (b46.2 g.1)⟩;rw[show decide (some u=some 46/\0<m/\AU s+1+m=s.size/\AU s+m<=15)=decide (((AU s:Int)+m)<=15) from Aj2.2 ⟨λg=>by omega,λg=>⟨by rw[b46.1 YG];rfl,by omega,by omega,by omega⟩⟩]at h;exact h
 refine R7.start ⟨λh1=>?_,λh1=>⟨false,rfl,λht=>(by cases ht),λ_=>G (by omega)⟩⟩;obtain⟨u,hu,_⟩:=byte_at (show 0<s.size by omega);have U8:=Lp (u:=u) (k:=48) (by decide);have Bi:(s.extract 0 (AU s)).data[0]?=some u:=by
  rw[AlP,AmC];rw[Aiy (by have:s.data.size=s.size:=rfl;omega)];simpa using hu
 refine⟨u,by omega,by simpa using Bi,_,rfl,λht=>?_,λhf=>G ?_⟩
 .have:=U8.1 (AjA ht);rw[show Gj s=false by unfold Gj;rw[Aiw (by omega),Aiy ⟨by omega,by rw[hu,this];rfl⟩]]at h;exact h
 .rintro⟨_,g⟩
  rw[hu,Ai9]at g;exact AjX hf (U8.2 g)
end
def G7 (n:Nd):Bool:=
 if n.kind=1 then Gj n.text else if n.kind=2 then MM n.back 0 else if n.kind=3 then MM n.width 1&&MM n.back 0
 else if n.kind=4 then decide (n.parts=1/\1<=n.op/\n.op<=12)
 else if n.kind=5 then decide (n.parts=1/\1<=n.op/\n.op<=5/\(n.GH=0\/n.GH=1\/n.GH=2))
 else if n.kind=6 then decide (n.parts=2/\1<=n.op/\n.op<=13/\(n.GH=0\/n.GH=3\/n.GH=4))&&(!n.bool||Hm n.op)
 else decide (n.kind=7/\n.parts=1)
def Ew (n:Nd):Bool:=HR n (B8 n)&&Tc Du n&&!(decide (0<n.mt.length)&&decide (n.kind≠2)&&decide (n.kind≠3))&&G7 n
section
variable {Z2:Hp}{R:Rr}
theorem vV {n:Nd}{p q:Option Addr}{k c m d:Nat}(hk:n.mt.length=k)(hr:Fj 1 Z2 q m (n.names.map .string))(hb:n.text.size<=4611686018427387904)(h:∀Z',Ext Z2 Z'->R (.returned (.bool (Ew n))) Z'):Spec prog 85 #[QR n p k c q m d] Z2 R:=by
 refine Wt.start λ_=>vU λZ1 hx=>⟨_,_,_,_,_,_,_,_,_,_,_,_,_,_,rfl,ov ⟨_,rfl,λhf=>?_,λht=>ou (hr.mono hx) ⟨_,rfl,λhf=>?_,λhn=>?_⟩⟩⟩
 .have:=h Z1 hx;rw[show Ew n=false by unfold Ew;rw[hf];rfl]at this;exact this
 .have:=h Z1 hx;rw[show Ew n=false by unfold Ew;rw[ht,hf];rfl]at this;exact this
 have G:=h Z1 hx;have e:Ew n=(!(decide (0<n.mt.length)&&decide (n.kind≠2)&&decide (n.kind≠3))&&G7 n):=by unfold Ew;rw[ht,hn];rfl
 rw[e]at G;clear e h;have fin:¬(0<n.mt.length/\n.kind≠2/\n.kind≠3)->∀t,G7 n=t->R (.B t) Z1:=λAZ t ht=>by
  have e2:(!(decide (0<n.mt.length)&&decide (n.kind≠2)&&decide (n.kind≠3)))=true:=by
   rw[Bool.not_eq_true',Bool.eq_false_iff];intro hc;simp only[AjD,AjH]at hc;exact AZ ⟨hc.1.1,hc.1.2,hc.2⟩
  rw[e2,AkE,ht]at G;exact G
 refine⟨λhm=>⟨λh2=>⟨λh3=>?_,λh3=>?_⟩,λh2=>?_⟩,λhm=>?_⟩
 .rw[show(!(decide (0<n.mt.length)&&decide (n.kind≠2)&&decide (n.kind≠3)))=false by rw[AjC (show 0<n.mt.length by omega),AjC h2,AjC h3];rfl,Aj8]at G;exact G
 all_goals
  have fin:=fin (by omega);clear G ht hn;refine⟨λk1=>I2 hb ⟨_,rfl,?_⟩,λk1=>⟨λk2=>Td ⟨_,rfl,?_⟩,λk2=>⟨λk3=>Td ⟨_,rfl,λht=>Td ⟨_,rfl,?_⟩,λhf=>?_⟩,λk3=>⟨λk4=>⟨λhp=>⟨λho=>?_,λho=>?_⟩,λhp=>?_⟩,λk4=>⟨λk5=>⟨λhp=>⟨λho=>⟨λBq=>⟨λg0=>?_,λg0=>⟨λg1=>?_,λg1=>?_⟩⟩,λBq=>?_⟩,λho=>?_⟩,λhp=>?_⟩,λk5=>⟨λk6=>⟨λhp=>⟨λho=>⟨λBq=>⟨λg0=>⟨λbf=>?_,λbt=>D5 ⟨_,rfl,?_⟩⟩,λg0=>⟨λg3=>⟨λbf=>?_,λbt=>D5 ⟨_,rfl,?_⟩⟩,λg3=>⟨λg4=>⟨λbf=>?_,λbt=>D5 ⟨_,rfl,?_⟩⟩,λg4=>?_⟩⟩⟩,λBq=>?_⟩,λho=>?_⟩,λhp=>?_⟩,λk6=>⟨λk7=>?_,λk7=>?_⟩⟩⟩⟩⟩⟩⟩<;>(refine fin _ ?_;clear fin;unfold G7;simp[*])
end
section
variable {Z2:Hp}{R:Rr}
abbrev tyV (x:Int×Int):Value:=.tuple #[.I x.1,.I x.2]
def kS (n:Nd)(a:Int):Int×Int:=if a=(if n.op=11\/n.op=12 then 2 else 3) then(2,0) else(0,191)
def sU (a:Int):Int×Int:=if a=2 then(2,0) else(0,191)
def ABO (a:Int):Int×Int:=if a=3 then(0,191) else(a,0)
theorem oz {w:Option Addr}{n:Nd}{p q r:Option Addr}{k c m d s t:Nat}{l:List Int}{a:Int}(hr:Dc .i64 Z2 r s l)(ha:l[0]?=some a)(h:R (.returned (tyV (kS n a))) Z2):Spec prog 88 #[.pointer w,QR n p k c q m d,.slice r s t] Z2 R:=by
 have hs:l.length=s:=hr.1;have h0:=(Ai0.1 ha).1;obtain⟨b,o,rfl,DD⟩:=Dc.at hr ha;have go:∀z:Int,(if n.op=11\/n.op=12 then 2 else 3)=z->Cj.Dq R (some ⟨b,o,none⟩) s t z Z2:=λz hz=>by
  unfold kS at h;rw[hz]at h;refine Cj.Bk ⟨b,o,rfl,by omega,a,by simpa using DD,λAd=>?_,λG=>?_⟩
  .rw[Aiw Ad]at h;exact h
  .rw[Aiy (AjZ.1 G)]at h;exact h
 exact Cj.start λ_=>⟨λh1=>go 2 (Aiy (.inl h1)),λh1=>⟨λh2=>go 2 (Aiy (.inr h2)),λh2=>go 3 (Aiw (by omega))⟩⟩
theorem vW {w:Option Addr}{n:Nd}{p q r:Option Addr}{k c m d s t:Nat}{l:List Int}{a:Int}(hr:Dc .i64 Z2 r s l)(ha:l[0]?=some a)(h:R (.returned (tyV (sU a))) Z2):Spec prog 89 #[.pointer w,QR n p k c q m d,.slice r s t] Z2 R:=by
 have hs:l.length=s:=hr.1;have h0:=(Ai0.1 ha).1;obtain⟨b,o,rfl,DD⟩:=Dc.at hr ha;unfold sU at h;refine Gh.start λ_=>⟨b,o,rfl,by omega,a,by simpa using DD,λAd=>?_,λG=>?_⟩
 .rw[Aiw Ad]at h;exact h
 .rw[Aiy (AjZ.1 G)]at h;exact h
theorem vX {w:Option Addr}{n:Nd}{p q r:Option Addr}{k c m d s t:Nat}{l:List Int}{a:Int}(hr:Dc .i64 Z2 r s l)(ha:l[0]?=some a)(h:R (.returned (tyV (ABO a))) Z2):Spec prog 91 #[.pointer w,QR n p k c q m d,.slice r s t] Z2 R:=by
 have hs:l.length=s:=hr.1;have h0:=(Ai0.1 ha).1;obtain⟨b,o,rfl,DD⟩:=Dc.at hr ha;unfold ABO at h;refine GU.start λ_=>⟨b,o,rfl,by omega,a,by simpa using DD,λG=>?_,λAd=>⟨by omega,a,by simpa using DD,?_⟩⟩
 .rw[Aiy G]at h;exact h
 .rw[Aiw Ad]at h;exact h
end
section
variable {Z2:Hp}{R:Rr}
def vY (n:Nd)(a b:Int):Int×Int:=if a=3\/b=3\/((11<=n.op/\n.op<=13\/n.GH≠0)/\¬(a=2/\b=2))\/(a=1/\b=1/\Hm n.op=true/\n.bool=false) then(0,192) else(if a<b then b else a,0)
theorem vZ {w:Option Addr}{n:Nd}{p q r:Option Addr}{k c m d s t:Nat}{l:List Int}{a b:Int}(hr:Dc .i64 Z2 r s l)(ha:l[0]?=some a)(hb:l[1]?=some b)(h:R (.returned (tyV (vY n a b))) Z2):Spec prog 90 #[.pointer w,QR n p k c q m d,.slice r s t] Z2 R:=by
 have hs:l.length=s:=hr.1;have h1:=(Ai0.1 hb).1;obtain⟨b1,o,rfl,DD⟩:=Dc.at hr ha;obtain⟨_,_,he,ALE⟩:=Dc.at hr hb;cases he;have bad:a=3\/b=3\/((11<=n.op/\n.op<=13\/n.GH≠0)/\¬(a=2/\b=2))\/(a=1/\b=1/\Hm n.op=true/\n.bool=false)->R (.T #[.I 0,.I 192]) Z2:=λhh=>by
  unfold vY at h;rw[Aiy hh]at h;exact h
 have G:¬(a=3\/b=3\/((11<=n.op/\n.op<=13\/n.GH≠0)/\¬(a=2/\b=2))\/(a=1/\b=1/\Hm n.op=true/\n.bool=false))->R (.T #[.I (if a<b then b else a),.I 0]) Z2:=λhh=>by
  unfold vY at h;rw[Aiw hh]at h;exact h
 clear h;refine Gb.start λ_=>⟨b1,o,rfl,by omega,a,by simpa using DD,by omega,b,by simpa using ALE,?_⟩
 repeat' first
  | (apply Uc;refine Exists.intro _ (And.intro rfl ?_))
  | (apply D5;refine Exists.intro _ (And.intro rfl ?_))
  | (apply And.intro<;>intro _)
 all_goals first
  | (refine bad ?_;simp_all;done)
  | (refine G ?_;simp_all;done)
  | (refine bad ?_;simp_all;omega)
  | (refine G ?_;simp_all;omega)
end
theorem GU.en:Enters prog 91:=λargs w=>call91 args w
theorem Ih.en:Enters prog 167:=λargs w=>call167 args w
theorem Eb.en:Enters prog 170:=λargs w=>call170 args w
theorem Ec.en:Enters prog 199:=λargs w=>call199 args w
theorem FW.en:Enters prog 227:=λargs w=>call227 args w
theorem BO.en:Enters prog 262:=λargs w=>call262 args w
theorem GX.en:Enters prog 166:=λargs w=>call166 args w
theorem CO.en:Enters prog 197:=λargs w=>call197 args w
theorem Ee.en:Enters prog 203:=λargs w=>call203 args w
theorem FX.en:Enters prog 228:=λargs w=>call228 args w
theorem DE.en:Enters prog 360:=λargs w=>call360 args w
theorem A2.en:Enters prog 130:=λargs w=>call130 args w
theorem Ah.en:Enters prog 131:=λargs w=>call131 args w
theorem LJ.en:Enters prog 157:=λargs w=>call157 args w
theorem Hh.en:Enters prog 163:=λargs w=>call163 args w
theorem Ef.en:Enters prog 171:=λargs w=>call171 args w
theorem GY.en:Enters prog 225:=λargs w=>call225 args w
theorem DW.en:Enters prog 359:=λargs w=>call359 args w
theorem DF.en:Enters prog 361:=λargs w=>call361 args w
theorem DX.en:Enters prog 362:=λargs w=>call362 args w
theorem Aj.en:Enters prog 132:=λargs w=>call132 args w
theorem Ga.en:Enters prog 226:=λargs w=>call226 args w
theorem Gb.en:Enters prog 90:=λargs w=>call90 args w
theorem Ej.en:Enters prog 119:=λargs w=>call119 args w
theorem Ek.en:Enters prog 123:=λargs w=>call123 args w
theorem Cq.en:Enters prog 129:=λargs w=>call129 args w
theorem ET.en:Enters prog 134:=λargs w=>call134 args w
theorem ED.en:Enters prog 139:=λargs w=>call139 args w
theorem FL.en:Enters prog 165:=λargs w=>call165 args w
theorem Bb.en:Enters prog 175:=λargs w=>call175 args w
theorem Em.en:Enters prog 195:=λargs w=>call195 args w
theorem Ao.en:Enters prog 43:=λargs w=>call43 args w
theorem Ep.en:Enters prog 64:=λargs w=>call64 args w
theorem Ag.en:Enters prog 133:=λargs w=>call133 args w
theorem SH.en:Enters prog 156:=λargs w=>call156 args w
theorem IM.en:Enters prog 208:=λargs w=>call208 args w
theorem BC.en:Enters prog 68:=λargs w=>call68 args w
theorem Er.en:Enters prog 101:=λargs w=>call101 args w
theorem Es.en:Enters prog 201:=λargs w=>call201 args w
theorem HW.en:Enters prog 233:=λargs w=>call233 args w
theorem Lf.en:Enters prog 235:=λargs w=>call235 args w
theorem DG.en:Enters prog 363:=λargs w=>call363 args w
theorem Cj.en:Enters prog 88:=λargs w=>call88 args w
theorem Gh.en:Enters prog 89:=λargs w=>call89 args w
theorem B7.en:Enters prog 135:=λargs w=>call135 args w
theorem Iu.en:Enters prog 164:=λargs w=>call164 args w
instance:xR.xS prog 69 3 3:=⟨underlying69,underlying3⟩
instance:xR.xS prog 179 3 177:=⟨underlying179,underlying3⟩
instance:xP prog 199 9 3:=⟨underlying199,underlying9⟩
instance:xR.xS prog 236 3 235:=⟨underlying236,underlying3⟩
instance:xP prog 242 9 245:=⟨underlying242,underlying9⟩
instance:xR.xS prog 247 3 246:=⟨underlying247,underlying3⟩
instance:xP prog 291 9 109:=⟨underlying291,underlying9⟩
end TwW
end
section
namespace TwW
open Go Go.MapKept Tw Go.RowKit Go.Proofs.Tryz
section
variable {P:Program}{Z2 Z':Hp}{R:Rr}
def pC (x:Int×Value)(n:Nat):MapEntry:={ key:=.I x.1,val:=x.2,born:=n }
def MI (Z2:Hp)(m:Nat)(l:List (Int×Value)):Prop:=∃(bs:List Nat) (clock:Nat),bs.length=l.length/\xR.Ay Z2 m (List.zipWith pC l bs) clock
theorem MI.loc {m:Nat}{l:List (Int×Value)}(h:MI Z2 m l)(G:Z' m=Z2 m):MI Z' m l:=let ⟨bs,c,h1,h2⟩:=h;⟨bs,c,h1,h2.loc G⟩
theorem MI.known {m:Nat}{l:List (Int×Value)}(h:MI Z2 m l):Z2 m≠none:=let ⟨bs,c,h1,h2⟩:=h;by rw[h2.1];simp
theorem MI.fresh {m:Nat}:MI (Z2.set m (.map #[] 0)) m []:=⟨[],0,rfl,xR.Ay.fresh⟩
theorem MI.put {T K V:TypeId}[xR.xS P T K V]{m:Nat}{l:List (Int×Value)}{x:Int}{v:Value}{Φ:Unit->Hp->Prop}(h:MI Z2 m l)(hn:∀a∈l,a.1≠x)
  (hΦ:∀o,MI (Z2.set m o) m (l++[(x,v)])->Φ () (Z2.set m o)):AI P (Instr.mapUpdate T (.map (some m)) (.I x) v) Z2 Φ:=by
 obtain⟨bs,clock,hb,hm⟩:=h;refine xR.FO hm (λAZ Z' hσ mJ=>?_) λl1 e l2 hl he Z' hσ mJ=>?_
 .subst hσ;refine hΦ _ ⟨bs++[clock],clock+1,by simp[hb],?_⟩;rw[List.zipWith_append hb.symm];exact mJ
 .have VK:e∈List.zipWith pC l bs:=by rw[hl];simp
  obtain⟨i,hi⟩:=Ajg.1 VK;rw[AlW]at hi;cases G:l[i]? with
  | none=>rw[G]at hi;cases hi
  | some a=>
   cases hbi:bs[i]? with
   | none=>rw[G,hbi]at hi;cases hi
   | some b=>
    rw[G,hbi]at hi;simp only[Ai9]at hi;subst hi;have:=hn a (Ai6 G);simp only[pC,Value.int.injEq,true_and]at he;exact absurd he this
theorem MI.look {T K V:TypeId}[xR.xS P T K V]{m:Nat}{l:List (Int×Value)}{x:Int}{z:Value}{Φ:Value->Hp->Prop}(h:MI Z2 m l)(hz:∀w,(zeroValue V).run P w=.ok z w)
  (h0:(∀a∈l,a.1≠x)->Φ z Z2) (h1:∀v,(x,v)∈l->Φ v Z2):AI P (Instr.lookup T (.map (some m)) (.I x) false) Z2 Φ:=by
 obtain⟨bs,clock,hb,hm⟩:=h;refine xR.Li hm hz (λAZ=>h0 λa ha hax=>?_) λl1 e l2 hl he=>?_
 .obtain⟨i,hi⟩:=Ajg.1 ha;have Ax:=(Ai0.1 hi).1;have hm:pC a (bs[i]'(by omega))∈List.zipWith pC l bs:=Ajg.2 ⟨i,by rw[AlW,hi,Ai3 (by omega)]⟩;exact AZ _ hm (by rw[<-hax];rfl)
 .have VK:e∈List.zipWith pC l bs:=by rw[hl];simp
  obtain⟨i,hi⟩:=Ajg.1 VK;rw[AlW]at hi;cases G:l[i]? with
  | none=>rw[G]at hi;cases hi
  | some a=>
   cases hbi:bs[i]? with
   | none=>rw[G,hbi]at hi;cases hi
   | some b=>
    rw[G,hbi]at hi;simp only[Ai9]at hi;subst hi;simp only[pC,Value.int.injEq,true_and]at he;subst he;exact h1 a.2 (Ai6 G)
def Stg (O22 Z2:Hp)(m:Nat)(l:List (Int×Value)):Prop:=Ext O22 Z2/\O22 m=none/\MI Z2 m l
theorem Stg.fresh {O22:Hp}{m:Nat}(h:O22 m=none):Stg O22 (O22.set m (.map #[] 0)) m []:=⟨.set h,h,MI.fresh⟩
theorem Stg.alloc {O22:Hp}{m b:Nat}{l:List (Int×Value)}{o:Obj}(h:Stg O22 Z2 m l)(hb:Z2 b=none):Stg (O22.set b o) (Z2.set b o) m l:=by
 have Ad:m≠b:=λe=>h.2.2.known (by rw[e];exact hb);refine⟨λk u G=>?_,by rw[Hp.AB Ad];exact h.2.1,h.2.2.loc (Hp.AB Ad)⟩;by_cases FB:k=b
 .subst FB;rw[Hp.AA]at G ⊢;exact G
 .rw[Hp.AB FB]at G ⊢;exact h.1 _ _ G
theorem Stg.put {O22:Hp}{T K V:TypeId}[xR.xS P T K V]{m:Nat}{l:List (Int×Value)}{x:Int}{v:Value}{Φ:Unit->Hp->Prop}(h:Stg O22 Z2 m l)(hn:∀a∈l,a.1≠x)
  (hΦ:∀Z',Stg O22 Z' m (l++[(x,v)])->Φ () Z'):AI P (Instr.mapUpdate T (.map (some m)) (.I x) v) Z2 Φ:=
 h.2.2.put hn λo ho=>hΦ _ ⟨λk u G=>by rw[Hp.AB (λe=>by rw[e,h.2.1]at G;cases G)];exact h.1 _ _ G,h.2.1,ho⟩
section
variable {α:Type}
theorem YH {l:List (ByteArray×α)}{k:ByteArray}(h:∀a∈l,a.1≠k):FQ l k=none:=by
 induction l with
 | nil=>rfl
 | cons a l G=>rw[FQ,Aiw (h a (by simp))];exact G λb hb=>h b (Aiz _ hb)
theorem cz {l m:List (ByteArray×α)}{k:ByteArray}{y:α}(h:∀a∈l,a.1≠k):FQ (l++(k,y)::m) k=some y:=by
 induction l with
 | nil=>simp[FQ]
 | cons a l G=>rw[Ajp,FQ,Aiw (h a (by simp))];exact G λb hb=>h b (Aiz _ hb)
theorem Te {l:List (ByteArray×α)}{k:ByteArray}{y:α}(h:∀a∈l,a.1≠k):fK l k y=l++[(k,y)]:=by
 induction l with
 | nil=>rfl
 | cons a l G=>rw[fK,Aiw (h a (by simp)),G λb hb=>h b (Aiz _ hb)];rfl
theorem kT {l m:List (ByteArray×α)}{k:ByteArray}{y z:α}(h:∀a∈l,a.1≠k):fK (l++(k,z)::m) k y=l++(k,y)::m:=by
 induction l with
 | nil=>simp[fK]
 | cons a l G=>rw[Ajp,fK,Aiw (h a (by simp)),G λb hb=>h b (Aiz _ hb)];rfl
def MS (E:Value->α->Prop)(Z2:Hp)(m:Nat)(L:List (ByteArray×α)):Prop:=
 ∃(l:List MapEntry) (clock:Nat),Ay Z2 m l clock/\l.length=L.length/\∀(i:Nat) (e:MapEntry) (x:ByteArray×α),l[i]?=some e->L[i]?=some x->e.key=.string x.1/\E e.val x.2
theorem MS.mono {E:Value->α->Prop}{m:Nat}{L:List (ByteArray×α)}(h:MS E Z2 m L)(G:Ext Z2 Z'):MS E Z' m L:=let ⟨l,c,h1,h2⟩:=h;⟨l,c,h1.mono G,h2⟩
theorem MS.loc {E:Value->α->Prop}{m:Nat}{L:List (ByteArray×α)}(h:MS E Z2 m L)(G:Z' m=Z2 m):MS E Z' m L:=let ⟨l,c,h1,h2⟩:=h;⟨l,c,h1.loc G,h2⟩
theorem MS.imp {E G:Value->α->Prop}{m:Nat}{L:List (ByteArray×α)}(h:MS E Z2 m L)(hE:∀v x,E v x->G v x):MS G Z2 m L:=let ⟨l,c,h1,h2,h3⟩:=h;⟨l,c,h1,h2,λi e x he hx=>⟨(h3 i e x he hx).1,hE _ _ (h3 i e x he hx).2⟩⟩
theorem MS.known {E:Value->α->Prop}{m:Nat}{L:List (ByteArray×α)}(h:MS E Z2 m L):Z2 m≠none:=let ⟨l,c,h1,h2⟩:=h;by rw[h1.1];simp
theorem MS.fresh {E:Value->α->Prop}{m:Nat}:MS E (Z2.set m (.map #[] 0)) m []:=⟨[],0,Ay.fresh,rfl,λi e x G=>by simp at G⟩
theorem MS.len {E:Value->α->Prop}{T K V ty:TypeId}[xP P T K V]{m:Nat}{L:List (ByteArray×α)}(h:MS E Z2 m L):YF P (Builtin.len_ #[T] ty #[.map (some m)]) Z2 (.I L.length):=by
 obtain⟨l,c,G,h2,h3⟩:=h;rw[<-h2];exact oQ G
theorem YI {E:Value->α->Prop}{l G l2:List MapEntry}{e:MapEntry}{L:List (ByteArray×α)}{s:ByteArray}(hn:(l.map (·.key)).Nodup)(h2:l.length=L.length)(h3:∀(i:Nat) (e:MapEntry) (x:ByteArray×α),l[i]?=some e->L[i]?=some x->e.key=.string x.1/\E e.val x.2)(hl:l=G++e::l2)(he:e.key=.string s):
  ∃L1 x L2,L=L1++(s,x)::L2/\L1.length=G.length/\(∀a∈L1,a.1≠s)/\E e.val x:=by
 subst hl;have Ax:G.length<L.length:=by rw[<-h2];simp
 have RT:L=L.take G.length++L[G.length]::L.drop (G.length+1):=by rw[Ak2,Aj4]
 have hx:=h3 G.length e L[G.length] (by simp) (Ai3 _);rw[he]at hx;have hk:L[G.length].1=s:=by simpa using hx.1.symm
 refine⟨L.take G.length,L[G.length].2,L.drop (G.length+1),?_,by rw[AjJ];omega,λa ha has=>?_,hx.2⟩
 .rw[<-hk];exact RT
 .obtain⟨i,hi⟩:=Ajg.1 ha;rw[AjQ]at hi;split at hi
  .rename_i hil;have hle:(G++e::l2)[i]?=some (G[i]'hil):=by rw[AjV hil,Ai3 hil]
   have h4:=(h3 i _ a hle hi).1;rw[AjP,AjR,Aks]at hn;exact hn.2.2 _ (Ajf.2 ⟨G[i]'hil,AlU hil,rfl⟩) _ (by simp;exact .inl rfl) (by rw[h4,he,has])
  .cases hi
theorem MS.AFB {E:Value->α->Prop}{l:List MapEntry}{L:List (ByteArray×α)}{s:ByteArray}(h2:l.length=L.length)(h3:∀(i:Nat) (e:MapEntry) (x:ByteArray×α),l[i]?=some e->L[i]?=some x->e.key=.string x.1/\E e.val x.2)(AZ:∀e∈l,e.key≠.string s):∀a∈L,a.1≠s:=λa ha G=>by
 obtain⟨i,hi⟩:=Ajg.1 ha;have Ax:=(Ai0.1 hi).1;have:=(h3 i (l[i]'(by omega)) a (Ai3 _) hi).1;exact AZ _ (AlU _) (by rw[this,G])
theorem MS.look {E:Value->α->Prop}{T K V:TypeId}[xP P T K V]{m:Nat}{L:List (ByteArray×α)}{s:ByteArray}{z:Value}{Φ:Value->Hp->Prop}(h:MS E Z2 m L)(hz:∀w,(zeroValue V).run P w=.ok z w)
  (h0:FQ L s=none->Φ z Z2) (h1:∀v x,FQ L s=some x->E v x->Φ v Z2):AI P (Instr.lookup T (.map (some m)) (.string s) false) Z2 Φ:=by
 obtain⟨l,c,hm,h2,h3⟩:=h;refine Li hm hz (λG=>h0 (YH (MS.AFB h2 h3 G))) λl1 e l2 hl he=>?_;obtain⟨L1,x,L2,rfl,_,G,hE⟩:=YI hm.nodup h2 h3 hl he;exact h1 e.val x (cz G) hE
theorem MS.ABR {E:Value->α->Prop}{T K V:TypeId}[t:xP P T K V]{m:Nat}{L:List (ByteArray×α)}{s:ByteArray}{z:Value}{Φ:Value->Hp->Prop}(h:MS E Z2 m L)(hz:∀w,(zeroValue V).run P w=.ok z w)
  (h0:FQ L s=none->Φ (.tuple #[z,.bool false]) Z2) (h1:∀v x,FQ L s=some x->E v x->Φ (.tuple #[v,.bool true]) Z2):AI P (Instr.lookup T (.map (some m)) (.string s) true) Z2 Φ:=by
 obtain⟨l,c,hm,h2,h3⟩:=h;rcases C7 (s:=s) hm.2.2 with ⟨hf,G⟩|⟨l1,e,l2,hl,he,hf⟩
 .refine AI.pu (λw hs=>?_) (h0 (YH (MS.AFB h2 h3 G)));have:=hs _ _ hm.1;simp[Instr.lookup,run_underlying t.Us,run_getObj_map this,run_checkKey t.key (k:=.string s) trivial,run_findKey t.key hf,hz,Result.andThen]
 .obtain⟨L1,x,L2,rfl,_,G,hE⟩:=YI hm.nodup h2 h3 hl he;refine AI.pu (λw hs=>?_) (h1 e.val x (cz G) hE);have:=hs _ _ hm.1;simp[Instr.lookup,run_underlying t.Us,run_getObj_map this,run_checkKey t.key (k:=.string s) trivial,run_findKey t.key hf,Result.andThen]
theorem MS.put {E:Value->α->Prop}{T K V:TypeId}[xP P T K V]{m:Nat}{L:List (ByteArray×α)}{s:ByteArray}{v:Value}{x:α}{Φ:Unit->Hp->Prop}(h:MS E Z2 m L)(hv:E v x)
  (hΦ:∀o,MS E (Z2.set m o) m (fK L s x)->Φ () (Z2.set m o)):AI P (Instr.mapUpdate T (.map (some m)) (.string s) v) Z2 Φ:=by
 obtain⟨l,c,hm,h2,h3⟩:=h;refine FO hm (λAZ Z' hσ mJ=>?_) λl1 e l2 hl he Z' hσ mJ=>?_
 .subst hσ;refine hΦ _ ⟨_,_,mJ,?_,λi e y hi G=>?_⟩
  .rw[Te (MS.AFB h2 h3 AZ)];simp[h2]
  .rw[Te (MS.AFB h2 h3 AZ)]at G;rw[AkJ]at hi G;split at hi
   .rename_i Ax;rw[Aiy (by omega)]at G;exact h3 i e y hi G
   .rename_i Ax;rw[Aiw (by omega)]at G;rw[<-h2]at G;cases hj:i-l.length with
    | zero=>
     rw[hj]at hi G;simp only[Ajj,Ai9]at hi G;subst hi;subst G;exact⟨rfl,hv⟩
    | succ j=>rw[hj]at hi;simp at hi
 .obtain⟨L1,y,L2,rfl,hlen,AZ,hE⟩:=YI hm.nodup h2 h3 hl he;subst hσ;subst hl;refine hΦ _ ⟨_,_,mJ,?_,λi e' z hi hz=>?_⟩
  .rw[kT AZ];simp at h2 ⊢;omega
  .rw[kT AZ]at hz;by_cases hil:i=l1.length
   .subst hil;rw[<-hlen]at hz;simp at hi hz;subst hi;subst hz;exact⟨rfl,hv⟩
   .have e1:(l1++Tw.Ky s v e.born::l2)[i]?=(l1++e::l2)[i]?:=by
     rcases Aku i l1.length with h|h
     .rw[AjV h,AjV h]
     .obtain⟨k,rfl⟩:∃k,i=l1.length+(k+1):=⟨i-l1.length-1,by omega⟩;simp[Ajm]
    have e2:(L1++(s,x)::L2)[i]?=(L1++(s,y)::L2)[i]?:=by
     rcases Aku i L1.length with h|h
     .rw[AjV h,AjV h]
     .obtain⟨k,rfl⟩:∃k,i=L1.length+(k+1):=⟨i-L1.length-1,by omega⟩;simp[Ajm]
    exact h3 i e' z (by rw[<-e1];exact hi) (by rw[<-e2];exact hz)
end
end
end TwW
end
section
namespace TwW
open Go Tw Go.RowKit Go.Proofs.Tryz
def Tf (n:Nd)(l:List Int):Int×Int:=
 if n.kind=1 then(1,0) else if n.kind=2 then(2,0) else if n.kind=3 then(3,0) else if n.kind=4 then kS n (l[0]?.getD 0) else if n.kind=5 then sU (l[0]?.getD 0)
 else if n.kind=6 then vY n (l[0]?.getD 0) (l[1]?.getD 0) else ABO (l[0]?.getD 0)
def Bp (n:Nd)(st:List Int):Int×List Int:=
 if Ew n=false\/(st.length:Int)<n.parts then(190,st) else if F0 Du n.mt≠0 then(193,st) else
  ((Tf n (st.drop (st.length-n.parts.toNat))).2,st.take (st.length-n.parts.toNat)++[(Tf n (st.drop (st.length-n.parts.toNat))).1])
theorem I3 {n:Nd}(h:Ew n=true):G7 n=true:=by
 unfold Ew at h;simp only[AjD]at h;exact h.2
theorem Pz {n:Nd}(h:Ew n=true):HR n (B8 n)=true:=by
 unfold Ew at h;simp only[AjD]at h;exact h.1.1.1
theorem BH.AB {s b:Nat}{o:Obj}{Z2:Hp}{p:Option Addr}{n c:Nat}{cs:List Value}(G:BH s Z2 p n c cs)(h:∀a,p=some a->a.block≠b):BH s (Z2.set b o) p n c cs:=
 ⟨G.1,G.2.1,G.2.2.imp id λ⟨b',o',arr,T,hp,hb,r⟩=>⟨b',o',arr,T,hp,by rw[Hp.AB (h _ hp)];exact hb,r⟩⟩
theorem AFC:∀w,(zeroValue 177).run prog w=.ok .nilFunc w:=λw=>by
 have h:prog.info? 177=some t177:=by kernel_rfl
 simp[zeroValue,typeInfo,h];rfl
structure kU (Z0 Z2:Hp)(wb:Nat)(p:Option Addr)(n c:Nat)(st:List Int):Prop where
 cell:Z2 wb=some (.cells #[.slice p n c] 124 (0,0))
 own:DS .i64 Z2 p n c st
 off:∀a,p=some a->a.block≠wb/\Z0 a.block=none
 new:Z0 wb=none
 ext:Ext Z0 Z2
section
variable {Z2 Z' Z0:Hp}{R:Rr}
theorem kU.mono {wb:Nat}{p:Option Addr}{n c:Nat}{st:List Int}(h:kU Z0 Z2 wb p n c st)(G:Ext Z2 Z'):kU Z0 Z' wb p n c st:=⟨G _ _ h.cell,h.own.mono G,h.off,h.new,h.ext.trans G⟩
theorem Tg {k:Int}(h:∀b,Z2 b=none->R (.returned (.func (.func 119) #[] #[.pointer (aD b 0)])) (Z2.set b (.cells #[.I k] 3 (0,0)))):Spec prog 87 #[.I k] Z2 R:=WT.start h
theorem RU {n:Nd}{p q r:Option Addr}{k c m d s t b:Nat}{v:Int}(hb:Z2 b=some (.cells #[.I v] 3 (0,0)))(h:R (.returned (tyV (v,0))) Z2):Spec prog 119 #[QR n p k c q m d,.slice r s t,.pointer (aD b 0)] Z2 R:=
 Ej.start λ_=>⟨v,AJ hb rfl,h⟩
theorem AFD:∀w,(Go.sizeOf 122).run prog w=.ok 1 w:=λw=>by kernel_rfl
theorem dA {wb:Nat}{p q r:Option Addr}{k c m d j e:Nat}{st:List Int}{n:Nd}(hW:kU Z0 Z2 wb r j e st)(hm:Af 3 Jj Z0 p k n.mt)(hr:Fj 1 Z0 q m (n.names.map .string))(hb:n.text.size<=4611686018427387904)(hj:j<=1000000000000)
  (h:∀r' j' e' Z',(Bp n st).1=0->kU Z0 Z' wb r' j' e' (Bp n st).2->R (.returned (.I 0)) Z') (h':∀Z',(Bp n st).1≠0->Ext Z0 Z'->R (.returned (.I (Bp n st).1)) Z') :
  Spec prog 54 #[.pointer (some ⟨wb,0,none⟩),QR n p k c q m d] Z2 R:=by
 have hk:n.mt.length=k:=hm.1;have hsl:st.length=j:=by have:=hW.own.1;simpa using this
 refine MD.start λ_=>vV hk (hr.mono hW.ext) hb λZ1 BS=>⟨_,rfl,λhf=>?_,λht=>?_⟩
 .have e1:Bp n st=(190,st):=by unfold Bp;rw[Aiy (.inl hf)]
  rw[e1] at h';exact h' Z1 (by dsimp only;decide) (hW.ext.trans BS)
 have hW1:=hW.mono BS;refine⟨wb,0,rfl,r,j,e,AJ hW1.cell rfl,λAx=>?_,λTW=>PF (hm.mono Jj.mono hW1.ext) ⟨_,rfl,λAd=>?_,λh0=>?_⟩⟩
 .have e1:Bp n st=(190,st):=by unfold Bp;rw[Aiy (.inr (by omega))]
  rw[e1] at h';exact h' Z1 (by dsimp only;decide) hW1.ext
 .have e1:Bp n st=(193,st):=by unfold Bp;rw[Aiw (by rw[ht];simp;omega),Aiy Ad]
  rw[e1] at h';exact h' Z1 (by dsimp only;decide) hW1.ext
 have sM:=AjZ.1 h0;have eS:Bp n st=((Tf n (st.drop (st.length-n.parts.toNat))).2,st.take (st.length-n.parts.toNat)++[(Tf n (st.drop (st.length-n.parts.toNat))).1]):=by
  unfold Bp;rw[Aiw (by rw[ht];simp;omega),Aiw h0]
 rw[eS]at h h';dsimp only at h h';have G:=I3 ht;have AZp:0<=n.parts:=by
  unfold G7 at G;have hp:=Pz ht;by_cases h1:n.kind=1
  .unfold HR B8 at hp;simp[h1]at hp;omega
  by_cases h2:n.kind=2
  .unfold HR B8 at hp;simp[h2]at hp;omega
  by_cases h3:n.kind=3
  .unfold HR B8 at hp;simp[h3]at hp;omega
  rw[Aiw h1,Aiw h2,Aiw h3]at G;split at G
  .simp at G;omega
  .split at G
   .simp at G;omega
   .split at G
    .simp at G;omega
    .simp at G;omega
 obtain⟨t,hpt⟩:∃t:Nat,n.parts=t:=⟨n.parts.toNat,by omega⟩;have htj:t<=j:=by omega
 have htn:n.parts.toNat=t:=by omega
 rw[htn,hsl]at h h';refine Cy λmb hmb=>⟨mb,rfl,?_⟩;have s0:=Stg.fresh hmb;refine Tg λb1 I4=>⟨_,_,_,rfl,?_⟩;have s1:=s0.alloc (o:=.cells #[.I 1] 3 (0,0)) I4;refine s1.put (by simp) λZ22 s2=>Tg λb2 F7=>⟨_,_,_,rfl,?_⟩;have s3:=s2.alloc (o:=.cells #[.I 2] 3 (0,0)) F7;refine s3.put (by simp) λZ4 s4=>Tg λb3 UW=>⟨_,_,_,rfl,?_⟩;have s5:=s4.alloc (o:=.cells #[.I 3] 3 (0,0)) UW;refine s5.put (by simp) λZ6 s6=>s6.put (by simp) λZ7 s7=>s7.put (by simp) λZ8 s8=>s8.put (by simp) λZ9 s9=>s9.put (by simp) λZA sA=>?_;clear s0 s1 s3 s5 s6 s7 s8 s9;have n1:Z1 b1=none:=(Hp.AM I4).2;have n2:(Z1.set b1 (.cells #[.I 1] 3 (0,0))) b2=none:=A4 s2.1 F7;have n3:((Z1.set b1 (.cells #[.I 1] 3 (0,0))).set b2 (.cells #[.I 2] 3 (0,0))) b3=none:=A4 s4.1 UW;have x1:Ext Z1 ZA:=(Ext.set n1).trans ((Ext.set n2).trans ((Ext.set n3).trans sA.1));have c3:=sA.1 b3 _ (Hp.AA _ _ _);have c2:=sA.1 b2 _ ((Ext.set n3) _ _ (Hp.AA _ _ _));have c1:=sA.1 b1 _ ((Ext.set n3) _ _ ((Ext.set n2) _ _ (Hp.AA _ _ _)));have va:=hW1.mono x1;have hlA:=sA.2.2;clear s2 s4 sA n1 n2 n3 I4 F7 UW;simp only[Aj9,Ajp]at hlA;have e1:Int.toNat ((j:Int)-n.parts)=j-t:=by omega
 refine⟨r,j,e,AJ va.cell rfl,by unfold AL;omega,r,j,e,AJ va.cell rfl,by omega,?_⟩;have hce:j<=e:=BH.cap va.own;have RS:Dc .i64 ZA (E4 r (j-t) e 1) (j-(j-t)) (st.drop (j-t)):=by
  have:=Af.sub (i:=j-t) (m:=j-(j-t)) (DS.rd va.own) (by decide) (by omega) hce;rwa[Ai4 (by rw[AjN];omega)]at this
 have RS:Dc .i64 ZA (E4 r (Int.toNat ((j:Int)-n.parts)) e 1) (j-Int.toNat ((j:Int)-n.parts)) (st.drop (j-t)):=by rw[e1];exact RS
 have fin:∀x:Int×Int,x=Tf n (st.drop (j-t))->Ab R (λz WJ=>∃Wb Io,z=(.tuple #[.I Wb,.I Io])/\LS WJ wb 0 λp66 zj ry=>((0:Int)<=((j:Int)-n.parts)/\((j:Int)-n.parts)<=(ry:Int))/\Al WJ λb71=>AI prog (Builtin.append_ #[122,122] 122 #[(.slice p66 (Int.toNat ((j:Int)-n.parts)) ry),(.slice (aD b71 0) 1 1)]) (Hp.set WJ b71 (.cells #[.I Wb] 130 (0,0))) (CS λp72 n72 c72 ai=>AI prog (Instr.storeAt 122 (.pointer (aD wb 0)) (.slice p72 n72 c72)) ai (λ_ jg=>R (.returned (.I Io)) jg))) (.returned (tyV x)) ZA:=λx hx=>by
  rw[<-hx]at h h';refine⟨x.1,x.2,rfl,r,j,e,AJ va.cell rfl,by omega,λb71 ABS=>?_⟩;rw[e1];have CR:=(BH.take (m:=j-t) va.own (by omega)).mono (Ext.set (o:=.cells #[.I x.1] 130 (0,0)) ABS);refine D9 CR (fJ (f:=.int .i64) (x:=x.1) (Hp.AA _ _ _)) FZ.Rm (by omega) λp' c' ZB hoB hxB=>⟨_,_,_,rfl,?_⟩;have hwb:∀a,r=some a->wb≠a.block:=λa ha=>AjI (va.off a ha).1;have HS:wb≠b71:=λe=>by rw[<-e,va.cell]at ABS;cases ABS
  obtain⟨g1,g2⟩:=Aq.1 (hxB wb _ (Aq.2 ⟨hwb,(Ext.set ABS) _ _ va.cell⟩));have hE0:Ext Z0 (ZB.del p'):=λk u hk=>hxB k u (Aq.2 ⟨λa ha xT=>(by rw[xT,(va.off a ha).2]at hk;cases hk),(Ext.set ABS) _ _ (va.ext _ _ hk)⟩);refine AI.store AFD g2 rfl (by simp) (by simp[Value.cells,Value.oneCell']) ?_;have AFF:kU Z0 (ZB.set wb (.cells (Ks #[.slice r j e] 0 (Value.slice p' (j-t+1) c').cells.toList) 124 (0,0))) wb p' (j-t+1) c' (st.take (j-t)++[x.1]):=by
   refine⟨by rw[Hp.AA];simp[Ks,Value.cells],?_,λa ha=>⟨λe=>g1 a ha e.symm,?_⟩,va.new,λk u hk=>?_⟩
   .have:=BH.AB (b:=wb) (o:=.cells (Ks #[.slice r j e] 0 (Value.slice p' (j-t+1) c').cells.toList) 124 (0,0)) hoB (λa ha e=>g1 a ha e.symm);unfold DS;rw[AjP,AmS];simpa using this
   .cases hh:Z0 a.block with
    | none=>rfl
    | some u=>exact absurd rfl ((Aq.1 (hE0 _ _ hh)).1 a ha)
   .rw[Hp.AB (λe=>by rw[e,va.new]at hk;cases hk)];exact(Aq.1 (hE0 _ _ hk)).2
  by_cases hz:x.2=0
  .rw[hz];exact h _ _ _ _ hz AFF
  .exact h' _ hz AFF.ext
 have part:∀i,i<t->∃v,(st.drop (j-t))[i]?=some v:=λi hi=>⟨_,Ai3 (by rw[AjN];omega)⟩;refine hlA.look AFC (λAZ=>?_) λv hv=>⟨v,rfl,Kp.S7 (.refl _),?_⟩
 .exfalso;unfold G7 at G;have g:=λi=>AZ i;simp only[Ai1,AjK,Ajl,forall_eq_or_imp,forall_eq]at AZ;obtain⟨a1,a2,a3,a4,a5,a6,a7⟩:=AZ;rw[Aiw (AjI a1),Aiw (AjI a2),Aiw (AjI a3),Aiw (AjI a4),Aiw (AjI a5),Aiw (AjI a6)]at G;exact a7 (AjA G).1.symm
 simp only[Ai1,AjK,Ajl,Ajs]at hv;rcases hv with ⟨hn,rfl⟩|⟨hn,rfl⟩|⟨hn,rfl⟩|⟨hn,rfl⟩|⟨hn,rfl⟩|⟨hn,rfl⟩|⟨hn,rfl⟩
 .exact⟨119,_,_,rfl,Ej.en,RU c1 (fin _ (by unfold Tf;rw[Aiy hn]))⟩
 .exact⟨119,_,_,rfl,Ej.en,RU c2 (fin _ (by unfold Tf;rw[Aiw (by omega),Aiy hn]))⟩
 .exact⟨119,_,_,rfl,Ej.en,RU c3 (fin _ (by unfold Tf;rw[Aiw (by omega),Aiw (by omega),Aiy hn]))⟩
 .have ht1:t=1:=by unfold G7 at G;simp[hn]at G;omega
  obtain⟨v,hv⟩:=part 0 (by omega);exact⟨88,_,_,rfl,Cj.en,oz RS hv (fin _ (by unfold Tf;rw[Aiw (by omega),Aiw (by omega),Aiw (by omega),Aiy hn,hv];rfl))⟩
 .have ht1:t=1:=by unfold G7 at G;simp[hn]at G;omega
  obtain⟨v,hv⟩:=part 0 (by omega);exact⟨89,_,_,rfl,Gh.en,vW RS hv (fin _ (by unfold Tf;rw[Aiw (by omega),Aiw (by omega),Aiw (by omega),Aiw (by omega),Aiy hn,hv];rfl))⟩
 .have ht1:t=2:=by unfold G7 at G;simp[hn]at G;omega
  obtain⟨v,hv⟩:=part 0 (by omega);obtain⟨u,hu⟩:=part 1 (by omega);exact⟨90,_,_,rfl,Gb.en,vZ RS hv hu (fin _ (by unfold Tf;rw[Aiw (by omega),Aiw (by omega),Aiw (by omega),Aiw (by omega),Aiw (by omega),Aiy hn,hv,hu];rfl))⟩
 .have ht1:t=1:=by unfold G7 at G;simp[hn]at G;omega
  obtain⟨v,hv⟩:=part 0 (by omega);exact⟨91,_,_,rfl,GU.en,vX RS hv (fin _ (by unfold Tf;rw[Aiw (by omega),Aiw (by omega),Aiw (by omega),Aiw (by omega),Aiw (by omega),Aiw (by omega),hv];rfl))⟩
def Ex:List Nd->List Int->Option (List Int)
 | [],st=>some st
 | n::t,st=>if(Bp n st).1=0 then Ex t (Bp n st).2 else none
def ABT (t:List Nd):Option (List Int)->Option Int
 | some [k]=>if t.length<=4096 then some k else none
 | _=>none
def HT (t:List Nd):Option Int:=ABT t (Ex t [])
theorem H8.at {p:Option Addr}{n i:Nat}{t:List Nd}{x:Nd}(hr:Af 10 H8 Z2 p n t)(hx:t[i]?=some x):∃b o p1 k c q m d,p=some ⟨b,o,none⟩/\Az Z2 b (o+i*10) [.I x.kind,.I x.op,.string x.text,.slice p1 k c,.I x.width,.I x.back,.I x.GH,.slice q m d,.bool x.bool,.I x.parts]/\Af 3 Jj Z2 p1 k x.mt/\Fj 1 Z2 q m (x.names.map .string):=by
 obtain⟨b,o,vs,hp,⟨p1,k,c,q,m,d,rfl,G,h2⟩,hl⟩:=Af.idx hr hx;exact⟨b,o,p1,k,c,q,m,d,hp,hl,G,h2⟩
theorem kV {n:Nd}{st:List Int}:(Bp n st).2.length<=st.length+1:=by
 unfold Bp;split
 .exact Nat.le_succ _
 .split
  .exact Nat.le_succ _
  .simp only[Ai5,AjJ,Ajc];omega
theorem Lq {p:Option Addr}{n c:Nat}{t:List Nd}(hr:Af 10 H8 Z2 p n t)(hn:n<=1000000000)(hb:∀x∈t,x.text.size<=4611686018427387904)
  (h:∀k Z',HT t=some k->Ext Z2 Z'->R (.T #[.I k,.I 0,.I 0]) Z') (h':∀k j e Z',HT t=none->e≠0->Ext Z2 Z'->R (.T #[.I k,.I j,.I e]) Z') :
  Spec prog 24 #[.slice p n c] Z2 R:=by
 have hl:t.length=n:=hr.1;refine Cr.start λwb hwb=>?_
 suffices H:∀g k:Nat,∀r j e st Z',n-k=g->k<=n->j<=k->kU Z2 Z' wb r j e st->Ex t []=Ex (t.drop k) st->Cr.A0 R p n c (aD wb 0) p n c n k Z' from
  H n 0 none 0 0 [] _ rfl (AjB _) (Ai7 _) ⟨Hp.AA _ _ _,DS.nil,λa ha=>(by cases ha),hwb,.set hwb⟩ rfl
 intro g
 induction g with
 | zero=>
  intro k r j e st Z' hg hk hj G he;rw[AjW (by omega)]at he;have B9:st.length=j:=by have:=G.own.1;simpa using this
  have ht:HT t=ABT t (some st):=by unfold HT;rw[he];rfl
  refine Cr.AX ⟨λAx=>by omega,λ_=>⟨wb,0,rfl,r,j,e,AJ G.cell rfl,λh1=>h' _ _ _ Z' ?_ (by decide) G.ext,λh1=>⟨λSP=>h' _ _ _ Z' ?_ (by decide) G.ext,λia=>?_⟩⟩⟩
  .rw[ht]
   match st,B9 with
   | [],_=>rfl
   | [_],B9=>simp at B9;omega
   | _::_::_,_=>rfl
  .rw[ht]
   match st,B9 with
   | [],_=>rfl
   | [_],B9=>exact Aiw (by omega)
   | _::_::_,_=>rfl
  .have hj1:j=1:=by omega
   subst hj1
   match st,B9 with
   | [x],_=>
    obtain⟨b,o,rfl,DD⟩:=Dc.at (DS.rd G.own) (i:=0) (x:=x) rfl;exact⟨_,1,e,AJ G.cell rfl,b,o,rfl,by omega,x,by simpa using DD,h x Z' (by rw[ht];exact Aiy (by omega)) G.ext⟩
 | succ g ih=>
  intro k r j e st Z' hg hk hj G he;have C8:k<n:=by omega
  obtain⟨x,hx⟩:=hr.ex C8;obtain⟨b,o,p1,k1,c1,q1,m1,d1,rfl,DD,h1,h2⟩:=H8.at hr hx;rw[BZ hx,Ex]at he;refine Cr.AX ⟨λ_=>⟨b,o,rfl,by omega,_,_,_,_,_,_,_,_,_,_,_,_,_,_,by simpa using DD.mono G.ext,λ_=>?_⟩,λhh=>by omega⟩;refine dA G h1 h2 (hb x (Ai6 hx)) (by omega) (λr' j' e' Z22 h0 hW2=>⟨0,rfl,λhh=>absurd rfl hh,λ_=>⟨AO C8 hr.big,ih (k+1) r' j' e' _ Z22 (by omega) (by omega) ?_ hW2 ?_⟩⟩) λZ22 h0 Aw=>⟨_,rfl,λ_=>h' _ _ _ Z22 ?_ h0 Aw,λhh=>absurd h0 hh⟩
  .have h3:=kV (n:=x) (st:=st);have h4:(Bp x st).2.length=j':=by have:=hW2.own.1;simpa using this
   have h5:st.length=j:=by have:=G.own.1;simpa using this
   omega
  .rw[he,Aiy h0]
  .unfold HT;rw[he,Aiw h0];rfl
end
end TwW
end
section
namespace Go.Proofs
open Go.Shelf
def Tryz.kW:Go.Shelf.Ren:=⟨λ|143=>275|219=>301|217=>121|225=>324|224=>325|267=>326|266=>136|314=>335|n=>n,λ|9=>9|3=>3|4=>4|5=>5|46=>215|146=>404|51=>52|n=>n,λ|1=>0|n=>n⟩
theorem Tryz.AFG:Go.Proofs.Lays.n143 Tryz.prog Tryz.kW:={
 mixed:=by kernel_rfl
 f143:=Tryz.func275.trans (Ai8 some (by kernel_rfl))
 f217:=Tryz.func121.trans (Ai8 some (by kernel_rfl))
 f219:=Tryz.func301.trans (Ai8 some (by kernel_rfl))
 f224:=Tryz.func325.trans (Ai8 some (by kernel_rfl))
 f225:=Tryz.func324.trans (Ai8 some (by kernel_rfl))
 f266:=Tryz.func136.trans (Ai8 some (by kernel_rfl))
 f267:=Tryz.func326.trans (Ai8 some (by kernel_rfl))
 f314:=Tryz.func335.trans (Ai8 some (by kernel_rfl))
 t3:=Tryz.underlying3
 a3:=Tryz.isAgg3
 z3:=Tryz.sizeOf3
 v3:=Tryz.zeroValue3
 t4:=Tryz.underlying4
 a4:=Tryz.isAgg4
 z4:=Tryz.sizeOf4
 v4:=Tryz.zeroValue4
 t5:=Tryz.underlying5
 a5:=Tryz.isAgg5
 z5:=Tryz.sizeOf5
 v5:=Tryz.zeroValue5
 t9:=Tryz.underlying9
 a9:=Tryz.isAgg9
 z9:=Tryz.sizeOf9
 v9:=Tryz.zeroValue9
 t46:=Tryz.underlying215
 a46:=Tryz.isAgg215
 z46:=Tryz.sizeOf215
 v46:=Tryz.zeroValue215
 t51:=Tryz.underlying52
 a51:=Tryz.isAgg52
 z51:=Tryz.sizeOf52
 v51:=Tryz.zeroValue52
 t146:=Tryz.underlying404
 a146:=Tryz.isAgg404
 z146:=Tryz.sizeOf404
 v146:=Tryz.zeroValue404
 g1:=by kernel_rfl }
open Go.RowKit Go.Lib in
theorem Tryz.strings_Index (s sub:ByteArray)(m:Int)(w:World)(G:s.size<4294967281)(hm:w.cell? ⟨0,0,none⟩=some (.I m)):
 Calls Tryz.prog 275 #[.string s,.string sub] w λe w'=>e=.returned (.I (Lib.index s.data.toList sub.data.toList))/\w'=w:=Any.strings_Index Tryz.AFG s sub m w G hm
def Tryz.kY:Go.Shelf.Ren:=⟨λ|146=>229|221=>249|268=>273|138=>274|143=>275|195=>298|197=>299|218=>300|219=>301|260=>323|217=>121|225=>324|224=>325|267=>326|266=>136|314=>335|n=>n,λ|9=>9|31=>125|3=>3|4=>4|0=>0|105=>368|21=>21|5=>5|46=>215|119=>400|139=>403|138=>402|146=>404|51=>52|n=>n,λ|1=>0|3=>11|4=>12|n=>n⟩
theorem Tryz.AFH:Go.Proofs.Lays.n146 Tryz.prog Tryz.kY:={
 mixed:=by kernel_rfl
 f138:=Tryz.func274.trans (Ai8 some (by kernel_rfl))
 f143:=Tryz.func275.trans (Ai8 some (by kernel_rfl))
 f146:=Tryz.func229.trans (Ai8 some (by kernel_rfl))
 f195:=Tryz.func298.trans (Ai8 some (by kernel_rfl))
 f197:=Tryz.func299.trans (Ai8 some (by kernel_rfl))
 f217:=Tryz.func121.trans (Ai8 some (by kernel_rfl))
 f218:=Tryz.func300.trans (Ai8 some (by kernel_rfl))
 f219:=Tryz.func301.trans (Ai8 some (by kernel_rfl))
 f221:=Tryz.func249.trans (Ai8 some (by kernel_rfl))
 f224:=Tryz.func325.trans (Ai8 some (by kernel_rfl))
 f225:=Tryz.func324.trans (Ai8 some (by kernel_rfl))
 f260:=Tryz.func323.trans (Ai8 some (by kernel_rfl))
 f266:=Tryz.func136.trans (Ai8 some (by kernel_rfl))
 f267:=Tryz.func326.trans (Ai8 some (by kernel_rfl))
 f268:=Tryz.func273.trans (Ai8 some (by kernel_rfl))
 f314:=Tryz.func335.trans (Ai8 some (by kernel_rfl))
 t0:=Tryz.underlying0
 a0:=Tryz.isAgg0
 z0:=Tryz.sizeOf0
 v0:=Tryz.zeroValue0
 t3:=Tryz.underlying3
 a3:=Tryz.isAgg3
 z3:=Tryz.sizeOf3
 v3:=Tryz.zeroValue3
 t4:=Tryz.underlying4
 a4:=Tryz.isAgg4
 z4:=Tryz.sizeOf4
 v4:=Tryz.zeroValue4
 t5:=Tryz.underlying5
 a5:=Tryz.isAgg5
 z5:=Tryz.sizeOf5
 v5:=Tryz.zeroValue5
 t9:=Tryz.underlying9
 a9:=Tryz.isAgg9
 z9:=Tryz.sizeOf9
 v9:=Tryz.zeroValue9
 t21:=Tryz.underlying21
 a21:=Tryz.isAgg21
 z21:=Tryz.sizeOf21
 v21:=Tryz.zeroValue21
 t31:=Tryz.underlying125
 a31:=Tryz.isAgg125
 z31:=Tryz.sizeOf125
 v31:=Tryz.zeroValue125
 t46:=Tryz.underlying215
 a46:=Tryz.isAgg215
 z46:=Tryz.sizeOf215
 v46:=Tryz.zeroValue215
 t51:=Tryz.underlying52
 a51:=Tryz.isAgg52
 z51:=Tryz.sizeOf52
 v51:=Tryz.zeroValue52
 t105:=Tryz.underlying368
 a105:=Tryz.isAgg368
 z105:=Tryz.sizeOf368
 v105:=Tryz.zeroValue368
 t119:=Tryz.underlying400
 a119:=Tryz.isAgg400
 z119:=Tryz.sizeOf400
 t138:=Tryz.underlying402
 a138:=Tryz.isAgg402
 z138:=Tryz.sizeOf402
 v138:=Tryz.zeroValue402
 t139:=Tryz.underlying403
 a139:=Tryz.isAgg403
 z139:=Tryz.sizeOf403
 v139:=Tryz.zeroValue403
 t146:=Tryz.underlying404
 a146:=Tryz.isAgg404
 z146:=Tryz.sizeOf404
 v146:=Tryz.zeroValue404
 g1:=by kernel_rfl
 g3:=by kernel_rfl
 g4:=by kernel_rfl }
open Go.RowKit Go.Lib in
theorem Tryz.strings_Split (s sep:ByteArray)(m:Int)(w:World)(hs:s.size<4294967281)(hm:w.cell? ⟨0,0,none⟩=some (.I m))(G:1<=sep.size):
 Calls Tryz.prog 229 #[.string s,.string sep] w λe w'=>
  e=.returned (.slice (some ⟨w.heap.size,0,none⟩) (Lib.countB s sep+1) (Lib.countB s sep+1))/\w'=w.alloc (.cells ((Lib.splitB sep 0 (Lib.countB s sep) s).map Value.string).toArray 9):=Any.strings_Split Tryz.AFH (by kernel_rfl) s sep m w hs hm G
end Go.Proofs
end
section
namespace TwW
open Go Tw Go.RowKit Go.Proofs.Tryz
section
variable {P:Program}{f:FuncId}{args:Array Value}{Z2 Z':Hp}{R:Rr}
theorem Spec.below {v:Value}(h:∀w,Sat Z2 w->Calls P f args w λe w'=>e=.returned v/\Below w.heap.size w w')(hR:R (.returned v) Z2):Spec P f args Z2 R:=λw F hs hF=>
 (h w hs).mono λe w' ⟨he,hb⟩=>⟨Z2,he▸hR,λb o ho=>by
  have h1:=hs b o ho;rw[hb.block b (AjF.1 h1).1];exact h1,λb G=>⟨(hF b G).2,hb.block b (hF b G).1⟩,⟨hb.os,hb.tape,λh=>h.elim⟩,hb.output,hb.size⟩
theorem Spec.same {v:Value}(h:∀w,Sat Z2 w->Calls P f args w λe G=>e=.returned v/\G=w)(hR:R (.returned v) Z2):Spec P f args Z2 R:=
 Spec.below (λw hs=>(h w hs).mono λe G ⟨he,hw⟩=>⟨he,hw▸Below.refl _ _⟩) hR
theorem Spec.ALH {o:Obj}{v:Nat->Value}(h:∀w,Sat Z2 w->Calls P f args w λe w'=>e=.returned (v w.heap.size)/\w'=w.alloc o)(hR:∀b,Z2 b=none->R (.returned (v b)) (Z2.set b o)):Spec P f args Z2 R:=λw F G hF=>
 (h w G).mono λe w' ⟨he,hw⟩=>⟨Z2.set w.heap.size o,he▸hR _ (Hb G),by subst hw;exact Fin.alloc G hF _ rfl (.same rfl rfl rfl) rfl⟩
theorem cell_of {w:World}{b o:Nat}{v:Value}(G:Sat Z2 w)(h:Z2.ld ⟨b,o,none⟩=some v):w.cell? ⟨b,o,none⟩=some v:=by
 have:=bL (ys:=[v]) G ⟨h,trivial⟩ 0 v rfl;simpa[Cm] using this
end
def YJ:List Nat:=[4607182418800017408,4621819117588971520,4636737291354636288,4652007308841189376,4666723172467343360,4681608360884174848,4696837146684686336,4711630319722168320,4726483295884279808,4741671816366391296,4756540486875873280,4771362005757984768,4786511204640096256,4801453603149578240,4816244402031689728,4831355200913801216]
structure Gl (Z2:Hp):Prop where
 len:∃m:Int,Z2.ld ⟨0,0,none⟩=some (.I m)
 opt:Z2.ld ⟨5,0,none⟩=some (.bool true)
 bits:Z2.ld ⟨6,0,none⟩=some (.U 52)
 pow:∃b o n c,Z2.ld ⟨9,0,none⟩=some (.slice (some ⟨b,o,none⟩) n c)/\16<=n/\∀i v,YJ[i]?=some v->Z2.ld ⟨b,o+i*1,none⟩=some (.float .f64 v)
theorem Gl.mono {Z2 Z':Hp}(h:Gl Z2)(G:Ext Z2 Z'):Gl Z':=⟨h.len.imp λ_=>G.ld,G.ld h.opt,G.ld h.bits,let ⟨b,o,n,c,h1,h2,h3⟩:=h.pow;⟨b,o,n,c,G.ld h1,h2,λi v hv=>G.ld (h3 i v hv)⟩⟩
section
variable {Z2 Z':Hp}{R:Rr}
theorem index_spec {s t:ByteArray}(G:Gl Z2)(hs:s.size<4294967281)(h:R (.returned (.I (Lib.index s.data.toList t.data.toList))) Z2):Spec prog 275 #[.string s,.string t] Z2 R:=by
 obtain⟨m,hm⟩:=G.len;exact Spec.same (λw hw=>Go.Proofs.Tryz.strings_Index s t m w hs (cell_of hw hm)) h
theorem YK {s:ByteArray}{c:UInt8}(hg:Gl Z2)(hs:s.size<4294967281)(h:∀b T,Z2 b=none->R (.returned (.slice (aD b 0) (GB c s).length (GB c s).length)) (Z2.set b (.cells ((GB c s).map Value.string).toArray T (0,0)))):Spec prog 229 #[.string s,.string ⟨#[c]⟩] Z2 R:=by
 obtain⟨m,hm⟩:=hg.len;have hl:(GB c s).length=Lib.countB s ⟨#[c]⟩+1:=Lib.splitB_all ⟨#[c]⟩ (Ai7 1) 0 _ s rfl;have G:=λb=>h b 9;rw[hl] at G;exact Spec.ALH (v:=λb=>.slice (aD b 0) _ _) (λw hw=>Go.Proofs.Tryz.strings_Split s ⟨#[c]⟩ m w hs (cell_of hw hm) (Ai7 1)) G
theorem fR {s:ByteArray}{l h:Nat}(hl:l<=h)(hh:h<=s.size):YF prog (Instr.sliceAt 9 (.string s) (some (.I (l:Int))) (some (.I (h:Int))) none) Z2 (.string (s.extract l h)):=λw _=>by
 rw[run_sliceAt_string (h:=underlying9)];have G:(h:Int)<=s.size:=by omega
 have h2:(l:Int)<=h:=by omega
 simp[Instr.slice,run_underlying underlying9,Instr.sliceBounds,run_sliceBound,G,h2,Result.andThen]
theorem kZ {s t:ByteArray}(h:R (.returned (.bool (decide (t.size<=s.size/\s.extract 0 t.size=t)))) Z2):Spec prog 296 #[.string s,.string t] Z2 R:=by
 refine Jd.start (DN.start ⟨λhle=>⟨_,YD (by omega),_,rfl,?_⟩,λG=>⟨_,rfl,?_⟩⟩)
 .rw[gm,show decide (s.extract 0 t.size=t)=decide (t.size<=s.size/\s.extract 0 t.size=t) from Aj2.2 ⟨λh=>⟨by omega,h⟩,λh=>h.2⟩];exact h
 .rw[show false=decide (t.size<=s.size/\s.extract 0 t.size=t) from(AjE λhh=>G (by omega)).symm];exact h
theorem ka {s t:ByteArray}(hs:s.size<=4611686018427387904)(h:R (.returned (.bool (decide (t.size<=s.size/\s.extract (s.size-t.size) s.size=t)))) Z2):Spec prog 297 #[.string s,.string t] Z2 R:=by
 refine Jh.start (DM.start ⟨λhle=>⟨by unfold AL;omega,s.extract (s.size-t.size) s.size,?_,_,rfl,?_⟩,λG=>⟨_,rfl,?_⟩⟩)
 .rw[show((s.size:Nat):Int)-((t.size:Nat):Int)=((s.size-t.size:Nat):Int) by omega];exact Px (by omega)
 .rw[gm,show decide (s.extract (s.size-t.size) s.size=t)=decide (t.size<=s.size/\s.extract (s.size-t.size) s.size=t) from Aj2.2 ⟨λh=>⟨by omega,h⟩,λh=>h.2⟩];exact h
 .rw[show false=decide (t.size<=s.size/\s.extract (s.size-t.size) s.size=t) from(AjE λhh=>G (by omega)).symm];exact h
def ETx (_:Hp)(vs:List Value)(x:ByteArray):Prop:=vs=[.string x]
theorem ETx.mono:HA ETx:=λ_ _ _ _ _ h=>h
abbrev sV:=Af 1 ETx
theorem sV.at {p:Option Addr}{n i:Nat}{ls:List ByteArray}{x:ByteArray}(hr:sV Z2 p n ls)(hx:ls[i]?=some x):∃b o,p=some ⟨b,o,none⟩/\Z2.ld ⟨b,o+i*1,none⟩=some (.string x):=by
 obtain⟨b,o,vs,hp,rfl,G⟩:=Af.idx hr hx;exact⟨b,o,hp,G.1⟩
theorem sV.ABU {b:Nat}{T:TypeId}{L:List ByteArray}(h:Z2 b=some (.cells (L.map Value.string).toArray T (0,0)))(hb:L.length<=4611686018427387904):sV Z2 (aD b 0) L.length L:=by
 refine⟨rfl,L.map .string,⟨by simp,hb,.inr ⟨b,0,rfl,Az.of λj v hj=>?_⟩⟩,by simp,λi x hx=>?_⟩
 .rw[Ajz];exact AJ h (by simpa using hj)
 .have G:(L.map Value.string)[i]?=some (.string x):=by rw[Aj7,hx];rfl
  rw[AkG,BZ G];rfl
theorem AFI {p:Option Addr}{n c:Nat}{l:List ByteArray}{s:ByteArray}(hg:Gl Z2)(hr:sV Z2 p n l)(h0:0<n)(hc:n<=c)(hs:s.size<4294967281)(hl:∀x∈l,x.size<=4294967296)(h:R (.returned (.bool (isK l s))) Z2):
  Spec prog 272 #[.agg #[.slice p n c],.string s] Z2 R:=by
 have hn:l.length=n:=hr.1;have SP:=hr.big;obtain⟨a,ha⟩:=hr.ex h0;obtain⟨z,hz⟩:=hr.ex (k:=n-1) (by omega);obtain⟨b,o,rfl,hla⟩:=sV.at hr ha;obtain⟨_,_,G,hlz⟩:=sV.at hr hz;cases G;have ea:l.head?.getD ⟨#[]⟩=a:=by rw[AlN,ha];rfl
 have ez:l.getLast?.getD ⟨#[]⟩=z:=by rw[AkY,hn,hz];rfl
 have e1:Int.toNat ((n:Int)-1)=n-1:=by omega
 have hsa:=hl a (Ai6 ha);have J1:=hl z (Ai6 hz);have eK:isK l s=if n=1 then decide (s=a) else if s.size<a.size+z.size\/s.extract 0 a.size≠a\/s.extract (s.size-z.size) s.size≠z then false else vQ l.tail.dropLast (s.extract a.size (s.size-z.size)):=by
  unfold isK;rw[ea,ez,hn]
 rw[eK]at h;refine EU.start λ_=>⟨b,o,rfl,by omega,a,by simpa using hla,by unfold AL;omega,by omega,z,by rw[e1];exact hlz,λh1=>?_,λh1=>?_⟩
 .rw[Aiy (by omega)]at h;rw[gm];exact h
 rw[Aiw (by omega)]at h;refine⟨by unfold AL;omega,λAx=>?_,λTW=>kZ ⟨_,rfl,λhp=>?_,λhp=>ka (by omega) ⟨_,rfl,λhq=>?_,λhq=>?_⟩⟩⟩
 .rw[Aiy (.inl (by omega))]at h;exact h
 .have:=AjX hp;rw[Aiy (.inr (.inl λe=>this ⟨by omega,e⟩))]at h;exact h
 .have:=AjX hq;rw[Aiy (.inr (.inr λe=>this ⟨by omega,e⟩))]at h;exact h
 have hp':=AjA hp;have hq':=AjA hq;rw[Aiw (by
    rintro(h3|h3|h3)
    .omega
    .exact h3 hp'.2
    .exact h3 hq'.2)]at h
 have AFJ:sV Z2 (E4 (aD b o) 1 c 1) (n-2) (l.tail.dropLast):=by
  have:=Af.sub (i:=1) (m:=n-2) hr (by decide) (by omega) hc;rwa[AmR,show n-2=l.tail.length-1 by rw[Akg];omega,<-List.dropLast_eq_take,Akg,show l.length-1-1=n-2 by omega]at this
 refine⟨by unfold AL;omega,s.extract a.size (s.size-z.size),?_,by unfold AL;omega,by omega,?_⟩
 .rw[show((s.size:Nat):Int)-((z.size:Nat):Int)=((s.size-z.size:Nat):Int) by omega];exact fR (by omega) (by omega)
 rw[e1,show n-1-1=n-2 by omega];generalize hu:s.extract a.size (s.size-z.size)=u at *;have hus:u.size<4294967281:=by rw[<-hu,AkM];omega
 generalize E4 (aD b o) 1 c 1=q at *;generalize l.tail.dropLast=ms at *;clear hu hla hlz ha hz ea ez eK
 suffices H:∀g k:Nat,∀(q':Option Addr) (v:ByteArray),(0<n-2->q'=q)->n-2-k=g->k<=n-2->v.size<4294967281->vQ ms u=vQ (ms.drop k) v->EU.HF R v q' (n-2) (c-1) ((n-2:Nat):Int) k Z2 from H (n-2) 0 q u (λ_=>rfl) rfl (AjB _) hus rfl
 have hml:ms.length=n-2:=AFJ.1;intro g
 induction g with
 | zero=>
  intro k q' v hq hgk hk hv G;rw[AjW (by omega)]at G;rw[G]at h;exact EU.Ea ⟨λAx=>by omega,λ_=>h⟩
 | succ g ih=>
  intro k q' v hq hgk hk hv G;have C8:k<n-2:=by omega
  obtain⟨t,ht⟩:=AFJ.ex C8;obtain⟨b2,o2,hq2,Ax⟩:=sV.at AFJ ht;rw[hq (by omega),hq2];rw[BZ ht,vQ]at G;refine EU.Ea ⟨λ_=>⟨b2,o2,rfl,by omega,t,by simpa using Ax,index_spec hg hv ⟨_,rfl,λALD=>?_,λHu=>?_⟩⟩,λhh=>by omega⟩
  .rw[Aiy ALD]at G;rw[G]at h;exact h
  .rw[Aiw Hu]at G;have JX:=Lib.index_room v.data.toList t.data.toList (by omega);have hv1:v.data.toList.length=v.size:=Ajd (xs:=v.data);have ht1:t.data.toList.length=t.size:=Ajd (xs:=t.data);generalize hi:Lib.index v.data.toList t.data.toList=i at *;refine⟨by unfold AL;omega,v.extract (i.toNat+t.size) v.size,?_,AO C8 AFJ.big,ih (k+1) _ _ (λ_=>hq2.symm) (by omega) (by omega) (by rw[AkM];omega) G⟩;rw[show i+((t.size:Nat):Int)=((i.toNat+t.size:Nat):Int) by omega];exact Px (by omega)
def EPc (Z2:Hp)(vs:List Value)(l:List ByteArray):Prop:=∃p n c,vs=[.slice p n c]/\sV Z2 p n l/\0<n/\n<=c
theorem EPc.mono:HA EPc:=λ_ _ _ _ hx ⟨p,n,c,hv,G,h2⟩=>⟨p,n,c,hv,G.mono ETx.mono hx,h2⟩
theorem vd {p:Option Addr}{n c:Nat}{L:List (List ByteArray)}{s:ByteArray}(hg:Gl Z2)(hr:Af 1 EPc Z2 p n L)(hs:s.size<4294967281)(hl:∀l∈L,∀x∈l,x.size<=4294967296)(h:R (.returned (.bool (L.any λl=>isK l s))) Z2):
  Spec prog 248 #[.agg #[.slice p n c],.string s] Z2 R:=by
 have hn:L.length=n:=hr.1;refine Ca.start λ_=>?_
 suffices H:∀g k:Nat,n-k=g->k<=n->(L.any λl=>isK l s)=((L.drop k).any λl=>isK l s)->Ca.GG R s p n c n k Z2 from H n 0 rfl (AjB _) rfl
 intro g
 induction g with
 | zero=>
  intro k hg' hk G;rw[AjW (by omega)]at G;rw[G]at h;exact Ca.BG ⟨λAx=>by omega,λ_=>h⟩
 | succ g ih=>
  intro k hg' hk G;have C8:k<n:=by omega
  obtain⟨l,hx⟩:=hr.ex C8;obtain⟨b,o,vs,rfl,⟨p1,n1,c1,rfl,h1,h2,h3⟩,DD⟩:=Af.idx hr hx;rw[BZ hx,AmT]at G;refine Ca.BG ⟨λ_=>⟨b,o,rfl,by omega,p1,n1,c1,by simpa using DD,λ_=>AFI hg h1 h2 h3 hs (hl l (Ai6 hx)) ⟨_,rfl,λht=>?_,λhf=>⟨AO C8 hr.big,ih (k+1) (by omega) (by omega) ?_⟩⟩⟩,λhh=>by omega⟩
  .rw[ht]at G;rw[G]at h;exact h
  .rw[hf]at G;exact G
theorem Th {c:UInt8}{s:ByteArray}:∀x∈GB c s,x.size<=s.size:=by
 unfold GB;generalize Lib.countB s ⟨#[c]⟩=k
 induction k generalizing s with
 | zero=>intro x G;rw[Lib.splitB_zero,Ai2]at G;rw[G];exact Ai7 _
 | succ k ih=>
  intro x G;unfold Lib.splitB at G;split at G
  .rw[Ai2]at G;rw[G];exact Ai7 _
  .rcases Ai1.1 G with rfl|G
   .rw[AkM];omega
   .have:=ih x G;rw[AkM]at this;omega
theorem ke {c:UInt8}{s:ByteArray}:(GB c s).length<=s.size+1/\0<(GB c s).length:=by
 have G:=Lib.splitB_all ⟨#[c]⟩ (Ai7 1) 0 _ s rfl;have h2:=Lib.countB_le ⟨#[c]⟩ (Ai7 1) s.size s (Ai7 _);unfold GB;omega
theorem fS {s:ByteArray}(hg:Gl Z2)(hs:s.size<=1000000)(h:∀p n c Z',Af 1 EPc Z' p n ((GB 124 s).map (GB 42))->Ext Z2 Z'->R (.returned (.agg #[.slice p n c])) Z'):Spec prog 188 #[.string s] Z2 R:=by
 refine FG.start λ_ _=>YK hg (by omega) λb T hb=>⟨_,_,_,rfl,?_⟩;have BS:Ext Z2 (Z2.set b (.cells ((GB 124 s).map Value.string).toArray T (0,0))):=.set hb;obtain⟨hlen,_⟩:=ke (c:=124) (s:=s);have hr:sV (Z2.set b (.cells ((GB 124 s).map Value.string).toArray T (0,0))) (aD b 0) (GB 124 s).length (GB 124 s):=sV.ABU (Hp.AA _ _ _) (by omega);generalize AZr:Z2.set b (.cells ((GB 124 s).map Value.string).toArray T (0,0))=Z1 at *;have J1:=Th (c:=124) (s:=s);generalize GB 124 s=L at *
 suffices H:∀g k:Nat,∀p3 n3 c3 Z',L.length-k=g->k<=L.length->II 1 EPc (Z1.new Z') p3 n3 c3 ((L.take k).map (GB 42))->Ext Z1 Z'->FG.A0 R none 0 0 p3 n3 c3 (aD b 0) L.length L.length L.length k Z' from H L.length 0 none 0 0 Z1 rfl (AjB _) II.nil (.refl _)
 intro g
 induction g with
 | zero=>
  intro k p3 n3 c3 Z' hg' hk ho hx;rw[Ai4 (by omega)]at ho;exact FG.AX ⟨λAx=>by omega,λ_=>h p3 n3 c3 Z' ((ho.rd EPc.mono).mono EPc.mono (Ext.CX _ _)) (BS.trans hx)⟩
 | succ g ih=>
  intro k p3 n3 c3 Z' hg' hk ho hx;have C8:k<L.length:=by omega
  obtain⟨x,aq⟩:=hr.ex C8;obtain⟨b2,o2,he,au⟩:=sV.at hr aq;cases he;have hxs:=J1 x (Ai6 aq);have QS:n3=k:=by have:=ho.1;rw[Ajn,AjJ]at this;omega
  refine FG.AX ⟨λ_=>⟨b,0,rfl,by omega,x,by simpa using hx.ld au,YK (hg.mono (BS.trans hx)) (by omega) λb4 T4 G=>⟨_,_,_,rfl,λbz AZs=>?_⟩⟩,λhh=>by omega⟩;obtain⟨AdR,ATP⟩:=ke (c:=42) (s:=x);have KB:Ext Z' (Z'.set b4 (.cells ((GB 42 x).map Value.string).toArray T4 (0,0))):=.set G;have hp3:∀a,p3=some a->Z' a.block≠none:=λa ha=>by
   have:=ho.block a ha;cases hh:(Z1.new Z') a.block with
   | none=>exact absurd hh this
   | some oo=>rw[(Ae.1 hh).2];simp
  have AZt:(Z1.new (Z'.set b4 (.cells ((GB 42 x).map Value.string).toArray T4 (0,0))) |>.del p3) b4=some (.cells ((GB 42 x).map Value.string).toArray T4 (0,0)):=Aq.2 ⟨λa ha e=>hp3 a ha (by rw[<-e];exact G),Ae.2 ⟨A4 hx G,Hp.AA _ _ _⟩⟩;refine II.Ey EPc.mono (vs:=[.slice (aD b4 0) (GB 42 x).length (GB 42 x).length]) (x:=GB 42 x) (hx.trans KB) (ho.mono EPc.mono (Ext.Ha KB)) rfl (λu hu=>by rw[Ai2]at hu;subst hu;rfl) ⟨_,_,_,rfl,sV.ABU AZt (by omega),ATP,Ai7 _⟩ (by omega) (λp' c' Z22 Bq Aw=>⟨_,_,_,rfl,AO C8 hr.big,ih (k+1) _ _ _ _ (by omega) (by omega) ?_ Aw⟩) AZs;rw[AR aq,AjP];exact Bq
theorem dB {p q:Option Addr}{n c m d:Nat}{ms:List Mt}{ls:List Lb}(hg:Gl Z2)(hr:Af 3 Jj Z2 p n ms)(hq:Gy Z2 q m ls)(hm:∀x∈ms,x.val.size<=1000000)(Vd:∀x∈ls,x.2.size<=1000000)(hk:∀x∈ms,1<=x.kind/\x.kind<=4)(h:∀Z',Ext Z2 Z'->R (.returned (.bool (Qo ms ls))) Z'):
  Spec prog 154 #[.slice p n c,.slice q m d] Z2 R:=by
 have hl:ms.length=n:=hr.1;refine Fe.start (UL.start λkb FB=>⟨_,_,_,rfl,?_⟩);have BS:=Ext.set (o:=.cells #[.nilFunc,(.func (.func 225) #[] #[]),(.func (.func 226) #[] #[]),(.func (.func 227) #[] #[]),(.func (.func 228) #[] #[])] 268 (0,0)) FB;have hc:=Hp.AA Z2 kb (.cells #[.nilFunc,(.func (.func 225) #[] #[]),(.func (.func 226) #[] #[]),(.func (.func 227) #[] #[]),(.func (.func 228) #[] #[])] 268 (0,0));generalize AZr:Z2.set kb (.cells #[.nilFunc,(.func (.func 225) #[] #[]),(.func (.func 226) #[] #[]),(.func (.func 227) #[] #[]),(.func (.func 228) #[] #[])] 268 (0,0))=Z1 at *;have hgs:∀k:ByteArray,(Fa ls k).size<=1000000:=λk=>by
  clear hq h
  induction ls with
  | nil=>unfold Fa;decide
  | cons a l ih=>
   unfold Fa;split
   .exact Vd a (by simp)
   .exact ih λx hx=>Vd x (Aiz _ hx)
 suffices H:∀g k:Nat,∀Z',n-k=g->k<=n->Ext Z1 Z'->Qo ms ls=Qo (ms.drop k) ls->Fe.A0 R q m d (aD kb 0) 5 5 p n c n k Z' from H n 0 Z1 rfl (AjB _) (.refl _) rfl
 intro g
 induction g with
 | zero=>
  intro k Z' hg' C8 hx he;have:=h Z' (BS.trans hx);rw[he,AjW (by omega)]at this;exact Fe.AX ⟨λAx=>by omega,λ_=>this⟩
 | succ g ih=>
  intro k Z' hg' ma hx he;have C8:k<n:=by omega
  obtain⟨x,aq⟩:=hr.ex C8;obtain⟨b,o,rfl,DD⟩:=Jj.at hr aq;have xU:=Ai6 aq;have hk4:=hk x xU;have VD:Qo ms ls=(UY x ls&&Qo (ms.drop (k+1)) ls):=by rw[he,BZ aq];rfl
  have step:∀(t:Bool) (G:Hp),t=UY x ls->Ext Z1 G->Ab R (CB λt35 Am=>Bn t35 (R (.B false) Am) (AL ((k:Int)+1)/\Fe.A0 R q m d (aD kb 0) 5 5 (aD b o) n c n ((k:Int)+1) Am)) (.B t) G:=λt G ht Aw=>by
   refine⟨t,rfl,λhf=>?_,λhtt=>⟨AO C8 hr.big,ih (k+1) G (by omega) (by omega) Aw ?_⟩⟩
   .have:=h G (BS.trans Aw);rw[VD,<-ht,hf]at this;exact this
   .rw[VD,<-ht,htt];rfl
  refine Fe.AX ⟨λ_=>⟨b,o,rfl,by omega,x.kind,x.name,x.val,by simpa using(DD.mono (BS.trans hx)),λ_=>cw ⟨_,rfl,λhf=>?_,λht=>⟨kb,0,rfl,by omega,?_⟩⟩⟩,λhh=>by omega⟩
  .exact absurd hk4 (AjX hf)
  have Kr:∀G p1 n1 c1,Af 1 EPc G p1 n1 ((GB 124 x.val).map (GB 42))->Ext Z1 G->∀R2:Rr,R2 (.returned (.bool (kF x.val (Fa ls x.name)))) G->Spec prog 248 #[.agg #[.slice p1 n1 c1],.string (Fa ls x.name)] G R2:=λG p1 n1 c1 cD Aw R2 hR2=>by
   refine vd (hg.mono (BS.trans Aw)) cD (by have:=hgs x.name;omega) (λl hl y hy=>?_) ?_
   .obtain⟨z,hz,rfl⟩:=Ajf.1 hl;have h1:=Th y hy;have h2:=Th z hz;have h3:=hm x xU;omega
   .rw[List.any_map];exact hR2
  have row:∀(i:Nat) (f:FuncId) (t:Bool),x.kind=i->(#[.nilFunc,(.func (.func 225) #[] #[]),(.func (.func 226) #[] #[]),(.func (.func 227) #[] #[]),(.func (.func 228) #[] #[])]:Array Value)[i]?=some (.func (.func f) #[] #[])->Enters prog f->t=UY x ls->
    (∀p1 n1 c1 G (R2:Rr),Af 1 EPc G p1 n1 ((GB 124 x.val).map (GB 42))->Ext Z1 G->R2 (.B t) G->Spec prog f #[.agg #[.slice p1 n1 c1,.string x.val],.string (Fa ls x.name)] G R2)->
    ∃v24,Hp.ld Z' ⟨kb,(0+Int.toNat x.kind*1),none⟩=some v24/\Spec prog 188 #[.string x.val] Z' (Ab R (λz AE=>∃RF QL RG,z=(.agg #[.slice RF QL RG])/\Kp [kb] Z' AE/\Spec prog 189 #[.slice q m d,.string x.name] AE (Ab R (CT λs34 AK=>Kp [kb] AE AK/\∃(f35:Nat) (jW jX:Array Value),v24=.func (.func f35) jW jX/\Enters prog f35/\Spec prog f35 (jW++#[.agg #[.slice RF QL RG,.string x.val],.string s34]++jX) AK (Ab R (CB λt35 Am=>Bn t35 (R (.B false) Am) (AL ((k:Int)+1)/\Fe.A0 R q m d (aD kb 0) 5 5 (aD b o) n c n ((k:Int)+1) Am)))))) ):=λi f t hi hv KG ht hf=>by
   refine⟨.func (.func f) #[] #[],?_,?_⟩
   rotate_left
   .refine fS (hg.mono (BS.trans hx)) (hm x xU) λp1 n1 c1 G cD Aw=>⟨p1,n1,c1,rfl,Kp.S7 Aw,ak (hq.mono CW.mono (BS.trans (hx.trans Aw))) ⟨_,rfl,Kp.S7 (.refl _),f,#[],#[],rfl,KG,hf p1 n1 c1 G _ cD (hx.trans Aw) (step t G ht (hx.trans Aw))⟩⟩
   rw[hi];exact AJ (hx _ _ hc) (by simpa using hv)
  have ABW:x.kind=1\/x.kind=2\/x.kind=3\/x.kind=4:=by omega
  rcases ABW with h1|h1|h1|h1
  .exact row 1 225 (decide (Fa ls x.name=x.val)) h1 rfl GY.en (by unfold UY;rw[Aiy h1]) λp1 n1 c1 G R2 _ _ hR2=>GY.start λ_=>by rw[gm];exact hR2
  .exact row 2 226 (!decide (Fa ls x.name=x.val)) h1 rfl Ga.en (by unfold UY;rw[Aiw (by omega),Aiy h1];simp) λp1 n1 c1 G R2 _ _ hR2=>Ga.start λ_=>by rw[gm];exact hR2
  .exact row 3 227 (kF x.val (Fa ls x.name)) h1 rfl FW.en (by unfold UY;rw[Aiw (by omega),Aiw (by omega),Aiy h1]) λp1 n1 c1 G R2 cD Aw hR2=>FW.start λ_=>Kr G p1 n1 c1 cD Aw _ ⟨_,rfl,hR2⟩
  .exact row 4 228 (!kF x.val (Fa ls x.name)) h1 rfl FX.en (by unfold UY;rw[Aiw (by omega),Aiw (by omega),Aiw (by omega),Aiy h1]) λp1 n1 c1 G R2 cD Aw hR2=>FX.start λ_=>Kr G p1 n1 c1 cD Aw _ ⟨_,rfl,hR2⟩
end
structure Rs where
 m:Nat
 dot:Bool
 nd:Nat
 dp:Int
def EF (st:Rs)(u:UInt8):Rs:=if u=46 then { st with dot:=true,dp:=st.nd } else if u=48/\st.nd=0 then { st with dp:=st.dp-1 } else { st with m:=st.m*10+(u.toNat-48),nd:=st.nd+1 }
def Jk (s:ByteArray):Rs:=s.data.toList.foldl EF ⟨0,false,0,0⟩
def YL (r:Rs):Int:=if r.m=0 then 0 else(if r.dot then r.dp else r.nd)-r.nd
def ve (s:ByteArray):Int:=
 let r:=Jk s
 if r.m=0 then(toF 0:Nat) else if YL r=0 then(toF (FloatKind.f64.nearest r.m):Nat) else(kI 4 (FloatKind.f64.nearest r.m) (YJ.getD (-YL r).toNat 0):Nat)
section
variable {Z2 Z':Hp}{R:Rr}
theorem Sa {s:ByteArray}(hb:s.size<=4611686018427387904)(h:R (.returned (.I (AU s))) Z2):Spec prog 221 #[.string s] Z2 R:=by
 have hlen:s.data.toList.length=s.size:=Ajd (xs:=s.data);refine Hj.start ?_
 suffices H:∀g k:Nat,s.size-k=g->k<=s.size->(∀j u,j<k->s.data.toList[j]?=some u->Cz u=true)->Hj.FV R s k Z2 from H s.size 0 rfl (AjB _) (λj u hj=>by omega)
 intro g
 induction g with
 | zero=>
  intro k hg hk h1;have e:AU s=k:=Ke (by omega) h1 (λu hu=>by have:=(Ai0.1 hu).1;omega);rw[e]at h;exact Hj.A9 ⟨λAx=>by omega,λ_=>h⟩
 | succ g ih=>
  intro k hg hk h1;obtain⟨u,hu,Bi⟩:=byte_at (show k<s.size by omega);have G:Cz u=false->R (.returned (.I k)) Z2:=λhd=>by
   have e:AU s=k:=Ke (by omega) h1 (λv hv=>by rw[Bi]at hv;cases hv;exact hd);rw[e]at h;exact h
  refine Hj.A9 ⟨λ_=>⟨u,by omega,by simpa using hu,λkR=>⟨u,by omega,by simpa using hu,λh57=>?_,λh57=>G ?_⟩,λkR=>G ?_⟩,λhh=>by omega⟩
  .refine⟨AO (by omega:k<s.size) hb,ih (k+1) (by omega) (by omega) λj v hj hv=>?_⟩;by_cases hjk:j=k
   .rw[hjk,Bi]at hv;cases hv;exact AjC (by omega)
   .exact h1 j v (by omega) hv
  .exact AjE (by omega)
  .exact AjE (by omega)
theorem fT {s:ByteArray}(hb:s.size<=4611686018427387904)(G:Gj s=true)(h:R (.B true) Z2):Spec prog 181 #[.string s] Z2 R:=by
 have hle:=Pw s;have h0:AU s≠0:=λe=>by unfold Gj at G;rw[Aiy e]at G;cases G
 have h1:¬(1<AU s/\s.data[0]?=some 48):=λe=>by unfold Gj at G;rw[Aiw h0,Aiy e]at G;cases G
 obtain⟨u0,hu0,_⟩:=byte_at (show 0<s.size by omega);have U8:=Lp (u:=u0) (k:=48) (by decide);have tail:Br ((AU s:Int)=(s.size:Int)) (R (.returned (.bool (decide ((AU s:Int)<=15)))) Z2) (AL ((AU s:Int)+1)/\∃s27,YF prog (Instr.sliceAt 9 (.string s) (some (.I ((AU s:Int)+1))) none none) Z2 (.string s27)/\Spec prog 221 #[.string s27] Z2 (Ab R (CI .i64 λMe AE=>∃u31:UInt8,0<=(AU s:Int)/\(ByteArray.data s)[Int.toNat (AU s:Int)]?=some u31/\Br (((u31.toNat:Int):Int)=46) (Br (0<Me) (AL ((AU s:Int)+1)/\AL (((AU s:Int)+1)+Me)/\Br (((((AU s:Int)+1)+Me):Int)=(s.size:Int)) (AL ((AU s:Int)+Me)/\R (.returned (.bool (decide ((((AU s:Int)+Me):Int)<=15)))) AE) (R (.B false) AE)) (R (.B false) AE)) (R (.B false) AE)))):=by
  unfold Gj at G;rw[Aiw h0,Aiw h1]at G;refine⟨λhe=>?_,λhe=>⟨by unfold AL;omega,s.extract (AU s+1) s.size,Px (l:=AU s+1) (by omega),?_⟩⟩
  .rw[Aiy (by omega)]at G;rw[AjC (by have:=AjA G;omega)];exact h
  .rw[Aiw (by omega)]at G;have G:=AjA G;have AZn:(s.extract (AU s+1) s.size).size=s.size-(AU s+1):=by rw[AkM];omega
   have hm:=Pw (s.extract (AU s+1) s.size);refine Sa (by omega) ?_;obtain⟨u,hu,_⟩:=byte_at (show AU s<s.size by omega);rw[hu]at G;have b46:=Lp (u:=u) (k:=46) (by decide);generalize AU (s.extract (AU s+1) s.size)=m at *;refine⟨_,rfl,u,by omega,by simpa using hu,λYG=>⟨λh0m=>⟨by unfold AL;omega,by unfold AL;omega,λhs=>⟨by unfold AL;omega,?_⟩,λhs=>absurd (by omega) hs⟩,λh0m=>absurd (by omega) h0m⟩,λYG=>absurd (b46.2 (by have:=G.1;simpa using this)) YG⟩;rw[AjC (by omega)];exact h
 refine UK.start (Sa hb ⟨_,rfl,λhh=>absurd hh (by omega),λ_=>⟨λh1n=>⟨u0,by omega,by simpa using hu0,λkR=>?_,λ_=>tail⟩,λ_=>tail⟩⟩);exact absurd ⟨by omega,by rw[hu0,U8.1 kR];rfl⟩ h1
theorem pD {α:Type}{p:α->Bool}:∀{l:List α} {u:α},u∈l.takeWhile p->p u=true
 | [],u,h=>by cases h
 | a::l,u,h=>by
  unfold List.takeWhile at h;split at h
  .rename_i G;rcases Ai1.1 h with rfl|h
   .exact G
   .exact pD h
  .cases h
theorem P0 {s:ByteArray}(h:Gj s=true):0<s.size/\s.size<=16/\(∃u,s.data.toList[0]?=some u/\Cz u=true)/\(∀u∈s.data.toList,Cz u=true\/u=46)/\(s.data.toList.filter Cz).length<=15/\(∀j k:Nat,s.data.toList[j]?=some 46->s.data.toList[k]?=some 46->j=k):=by
 have hlen:s.data.toList.length=s.size:=Ajd (xs:=s.data);have hle:=Pw s;have h0:AU s≠0:=λe=>by unfold Gj at h;rw[Aiy e]at h;cases h
 have h1:¬(1<AU s/\s.data[0]?=some 48):=λe=>by unfold Gj at h;rw[Aiw h0,Aiy e]at h;cases h
 unfold Gj at h;rw[Aiw h0,Aiw h1]at h;have hT:s.data.toList.takeWhile Cz=s.data.toList.take (AU s):=by
  unfold AU;exact(List.prefix_iff_eq_take.1 (Akq _))
 have fU:∀u∈s.data.toList.take (AU s),Cz u=true:=λu G=>by rw[<-hT]at G;exact pD G
 have d46:Cz 46=false:=by decide
 have ex0:∃u,s.data.toList[0]?=some u/\Cz u=true:=by
  obtain⟨u,_,Bi⟩:=byte_at (show 0<s.size by omega);refine⟨u,Bi,fU u (Ai6 (i:=0) ?_)⟩;rw[AjQ,Aiy (by omega)];exact Bi
 by_cases he:AU s=s.size
 .rw[Aiy he]at h;have h15:=AjA h;have Kr:∀u∈s.data.toList,Cz u=true:=λu G=>fU u (by rw[Ai4 (by omega)];exact G);refine⟨by omega,by omega,ex0,λu G=>.inl (Kr u G),by have:=Ajb Cz s.data.toList;omega,λj k hj _=>?_⟩;have:=Kr 46 (Ai6 hj);rw[d46]at this;cases this
 .rw[Aiw he]at h;have hh:=AjA h;generalize hm:AU (s.extract (AU s+1) s.size)=m at hh;have hm2:m<=15:=by omega
  have RT:s.data.toList=s.data.toList.take (AU s)++46::s.data.toList.drop (AU s+1):=by
   obtain⟨u,G,Bi⟩:=byte_at (show AU s<s.size by omega);have e46:u=46:=by have:=hh.1;rw[G]at this;simpa using this
   rw[<-e46,<-BZ Bi,Aj4]
  have N9:(s.extract (AU s+1) s.size).data.toList=s.data.toList.drop (AU s+1):=by
   rw[AlP,Ala,Al3];rw[Ai4 (by rw[AjN];omega)]
  have kg:∀u∈s.data.toList.drop (AU s+1),Cz u=true:=λu G=>by
   rw[<-N9]at G;have hp:=Akq (p:=Cz) (l:=(s.extract (AU s+1) s.size).data.toList);have hl:((s.extract (AU s+1) s.size).data.toList.takeWhile Cz).length=(s.extract (AU s+1) s.size).data.toList.length:=by
    rw[show((s.extract (AU s+1) s.size).data.toList.takeWhile Cz).length=AU (s.extract (AU s+1) s.size) from rfl,hm,N9,AjN];omega
   have:=hp.eq_of_length hl;rw[<-this]at G;exact pD G
  refine⟨by omega,by omega,ex0,λu G=>?_,?_,λj k hj hk=>?_⟩
  .rw[RT]at G;rcases AjU.1 G with G|G
   .exact .inl (fU u G)
   .rcases Ai1.1 G with rfl|G
    .exact .inr rfl
    .exact .inl (kg u G)
  .rw[RT,Ajy,List.filter_cons,d46];have a1:=Ajb Cz (s.data.toList.take (AU s));have a2:=Ajb Cz (s.data.toList.drop (AU s+1));rw[AjJ]at a1;rw[AjN]at a2;simp only[Ai5];simp;omega
  .have only:∀i:Nat,s.data.toList[i]?=some 46->i=AU s:=λi hi=>by
    rw[RT]at hi;have gX:(s.data.toList.take (AU s)).length=AU s:=by rw[AjJ];omega
    rcases Aly i (AU s) with Ax|Ax|Ax
    .rw[AjV (by omega)]at hi;have:=fU 46 (Ai6 hi);rw[d46]at this;cases this
    .exact Ax
    .rw[Ajm (by omega),gX]at hi;obtain⟨d,hd⟩:∃d,i-AU s=d+1:=⟨i-AU s-1,by omega⟩;rw[hd,Ajq]at hi;have:=kg 46 (Ai6 hi);rw[d46]at this;cases this
   rw[only j hj,only k hk]
def pE (s:ByteArray)(k:Nat):Nat:=((s.data.toList.take k).filter Cz).length
structure ROk (s:ByteArray)(k:Nat)(r:Rs):Prop where
 is:r=(s.data.toList.take k).foldl EF ⟨0,false,0,0⟩
 nd:r.nd<=pE s k
 m:r.m<10^r.nd
 lo:(r.nd:Int)-r.dp<=pE s k
 hi:r.dp<=r.nd
 sw:r.dot=true->∃j,j<k/\s.data.toList[j]?=some 46
theorem IZ {u:UInt8}(h:Cz u=true):48<=u.toNat/\u.toNat<=57:=AjA h
theorem ROk.zero {s:ByteArray}:ROk s 0 ⟨0,false,0,0⟩:=⟨rfl,AjB _,by decide,by simp,by simp,λh=>by cases h⟩
theorem vf {s:ByteArray}{k:Nat}{u:UInt8}(G:s.data.toList[k]?=some u):pE s (k+1)=pE s k+if Cz u then 1 else 0:=by
 unfold pE;rw[AR G,Ajy,Ai5]
 congr 1
 by_cases h:Cz u=true<;>simp[h]
theorem ROk.step {s:ByteArray}{k:Nat}{r:Rs}{u:UInt8}(h:ROk s k r)(hu:s.data.toList[k]?=some u)(hd:Cz u=true\/u=46):ROk s (k+1) (EF r u):=by
 have hc:=vf hu;have G:EF r u=(s.data.toList.take (k+1)).foldl EF ⟨0,false,0,0⟩:=by rw[AR hu,Akd,<-h.is];rfl
 have h1:=h.nd;have h2:=h.m;have h3:=h.lo;have h4:=h.hi;by_cases YG:u=46
 .subst YG;have e:EF r 46={ r with dot:=true,dp:=r.nd }:=by unfold EF;rw[Aiy rfl]
  rw[show Cz 46=false from by decide]at hc;simp only[AkP,AkO,AkK]at hc;rw[e]at G ⊢;exact⟨G,by rw[hc];exact h1,h2,by dsimp only;omega,Alm _,λ_=>⟨k,by omega,hu⟩⟩
 have hdg:=hd.resolve_right YG;have hn:=IZ hdg;rw[hdg]at hc;simp only[AkQ]at hc;by_cases kR:u=48/\r.nd=0
 .have e:EF r u={ r with dp:=r.dp-1 }:=by unfold EF;rw[Aiw YG,Aiy kR]
  rw[e]at G ⊢;exact⟨G,by dsimp only;omega,h2,by dsimp only;omega,by dsimp only;omega,λhh=>let ⟨j,h5,h6⟩:=h.sw hh;⟨j,by omega,h6⟩⟩
 .have e:EF r u={ r with m:=r.m*10+(u.toNat-48),nd:=r.nd+1 }:=by unfold EF;rw[Aiw YG,Aiw kR]
  rw[e]at G ⊢;exact⟨G,by dsimp only;omega,by dsimp only;rw[AmY];omega,by dsimp only;omega,by dsimp only;omega,λhh=>let ⟨j,h5,h6⟩:=h.sw hh;⟨j,by omega,h6⟩⟩
theorem ABX {x:Int}(G:0<=x)(h1:x<18446744073709551616):IntKind.u64.wrap x=x:=by simp[IntKind.wrap,IntKind.bits,IntKind.signed];omega
theorem ATQ {x:Int}(G:0<=x)(h1:x<256):IntKind.u8.wrap x=x:=by simp[IntKind.wrap,IntKind.bits,IntKind.signed];omega
theorem kh {n:Nat}(h:n<=15):10^n<=1000000000000000:=Aj3 (Alb (by decide) h) (by decide)
theorem vg {s:ByteArray}(ht:Gj s=true)(h:R (.T #[.U ((Jk s).m:Nat),.I (YL (Jk s)),.bool false,.bool false,.bool false,.I (s.size:Nat),.bool true]) Z2):Spec prog 283 #[.string s] Z2 R:=by
 obtain⟨hs0,ALL,⟨u0,hu0,VL⟩,xV,AFL,ATR⟩:=P0 ht;have hlen:s.data.toList.length=s.size:=Ajd (xs:=s.data);have hn0:=IZ VL;have hg0:s.data[0]?=some u0:=by rw[<-Aje];exact hu0
 have ATS:∀k,pE s k<=15:=λk=>Aj3 (AlO ((List.take_sublist _ _).filter _)) AFL;have fV:AF.AAn R s 0 0 false false false 0 false false 10 19 101 false false 0 0 0 Z2:=by
  suffices H:∀g k:Nat,∀r:Rs,s.size-k=g->k<=s.size->ROk s k r->AF.AAn R s (r.m:Nat) 0 false false false (k:Nat) false false 10 19 101 r.dot (decide (0<k)) (r.nd:Nat) (r.nd:Nat) r.dp Z2 from H s.size 0 ⟨0,false,0,0⟩ rfl (AjB _) .zero
  intro g
  induction g with
  | zero=>
   intro k r hg hk hr;have ma:k=s.size:=by omega
   have er:r=Jk s:=by rw[hr.is,Ai4 (by omega)];rfl
   have hc:=ATS k;have h1:=hr.nd;have h3:=hr.lo;have h4:=hr.hi;refine AF.sH ⟨λAx=>by omega,λ_=>?_⟩;rw[show decide (0<k)=true from AjC (by omega)];have fin:∀x17:Int,(r.m≠0->x17-r.nd=YL r)->-100<=x17->x17<=100->AF.sG R s (r.m:Nat) 0 false false false (k:Nat) false false 10 101 (r.nd:Nat) x17 Z2:=λx17 hx hlo hhi=>by
    refine AF.AAt ⟨λG=>absurd G (by decide),λ_=>AF.AAu ⟨λAx=>by omega,λ_=>⟨λG=>absurd G (by decide),λ_=>AF.AAv ⟨λhm=>⟨by unfold AL;omega,AF.j5 ⟨λG=>(by cases G),λ_=>?_⟩⟩,λhm=>AF.j5 ⟨λG=>(by cases G),λ_=>?_⟩⟩⟩⟩⟩
    .rw[hx (by omega),ma,er];exact h
    .have hm0:r.m=0:=by omega
     have:YL (Jk s)=0:=by rw[<-er];unfold YL;rw[Aiy hm0]
     rw[this,<-ma,<-er]at h;exact h
   refine AF.AAs ⟨λG=>(by cases G),λ_=>⟨λhf=>fin _ (λhm=>?_) (by omega) (by omega),λhf=>fin _ (λhm=>?_) (by omega) (by omega)⟩⟩
   .unfold YL;rw[Aiw hm,hf];rfl
   .unfold YL;rw[Aiw hm,hf];rfl
  | succ g ih=>
   intro k r hg hk hr;obtain⟨u,hu,Bi⟩:=byte_at (show k<s.size by omega);have aP:=xV u (Ai6 Bi);have B9:=hr.step Bi aP;have Ud:=λmK=>AF.AAw (R:=R) (Z2:=Z2) (s0:=s) (x2:=((EF r u).m:Nat)) (x3:=0) (t4:=false) (t5:=false) (t6:=false) (x7:=(k:Nat)) (t8:=false) (t9:=false) (x10:=10) (x11:=19) (x12:=101) (t13:=(EF r u).dot) (t14:=true) (x15:=((EF r u).nd:Nat)) (x16:=((EF r u).nd:Nat)) (x17:=(EF r u).dp) ⟨mK,by
    have:=ih (k+1) (EF r u) (by omega) (by omega) B9;rw[show decide (0<k+1)=true from AjC (by omega)]at this
    exact_mod_cast this⟩
   have Ud:=Ud (by unfold AL;omega);have hc:=ATS k;have h1:=hr.nd;have h3:=hr.lo;have h4:=hr.hi;refine AF.sH ⟨λ_=>⟨u,by omega,by simpa using hu,λh95=>?_,λh95=>⟨λYG=>⟨λATT=>?_,λATT=>?_⟩,λYG=>?_⟩⟩,λG=>by omega⟩
   .exfalso;rcases aP with hd|rfl
    .have:=IZ hd;omega
    .exact absurd h95 (by decide)
   .exfalso;obtain⟨j,hj,Sz⟩:=hr.sw ATT;have e:u=46:=(Lp (k:=46) (by decide)).1 YG;rw[e]at Bi;have:=ATR j k Sz Bi;omega
   .have e:u=46:=(Lp (k:=46) (by decide)).1 YG;have hk0:0<k:=by
     rcases Alp k with h0|h0
     .subst h0;rw[hu0]at Bi;cases Bi;rw[e]at VL;exact absurd VL (by decide)
     .exact h0
    rw[show decide (0<k)=true from AjC hk0];rw[show EF r u={ r with dot:=true,dp:=r.nd } by unfold EF;rw[Aiy e]]at Ud;exact Ud
   have hd:=aP.resolve_right λe=>YG ((Lp (k:=46) (by decide)).2 e);have hn:=IZ hd;have AIE:u≠46:=λe=>YG ((Lp (k:=46) (by decide)).2 e);have U8:=Lp (u:=u) (k:=48) (by decide);refine⟨λ_=>⟨λ_=>?_,λG=>by omega⟩,λG=>by omega⟩;have Af2:=Nat.lt_of_lt_of_le hr.m (kh (show r.nd<=15 by omega));have digit:¬(u=48/\r.nd=0)->AL ((r.nd:Int)+1)/\Br ((r.nd:Int)<19) (Df (IntKind.u64.wrap ((r.m:Int)*10)) λx99=>Df (IntKind.u8.wrap ((u.toNat:Int)-48)) λvH=>Df (IntKind.u64.wrap vH) λvI=>Df (IntKind.u64.wrap (x99+vI)) λoP=>AL ((r.nd:Int)+1)/\AF.Hl R s oP 0 false false false (k:Nat) false false 10 19 101 r.dot true ((r.nd:Int)+1) ((r.nd:Int)+1) r.dp Z2) (Br (((u.toNat:Int):Int)≠48) (AF.Hl R s (r.m:Nat) 0 false true false (k:Nat) false false 10 19 101 r.dot true ((r.nd:Int)+1) (r.nd:Nat) r.dp Z2) (AF.Hl R s (r.m:Nat) 0 false false false (k:Nat) false false 10 19 101 r.dot true ((r.nd:Int)+1) (r.nd:Nat) r.dp Z2)):=λAZ=>by
    refine⟨by unfold AL;omega,λ_=>λx99 e99 vH AZy vI AZz oP AZ0=>⟨by unfold AL;omega,?_⟩,λG=>absurd (by omega) G⟩;rw[ABX (by omega) (by omega)]at e99;rw[ATQ (by omega) (by omega)]at AZy;rw[ABX (by omega) (by omega)]at AZz;rw[ABX (by omega) (by omega)]at AZ0;rw[show EF r u={ r with m:=r.m*10+(u.toNat-48),nd:=r.nd+1 } by unfold EF;rw[Aiw AIE,Aiw AZ]]at Ud;have:oP=((r.m*10+(u.toNat-48):Nat):Int):=by omega
    rw[this]
    exact_mod_cast Ud
   refine⟨λkR=>⟨λhz=>⟨by unfold AL;omega,?_⟩,λhz=>digit λG=>hz (by omega)⟩,λkR=>digit λG=>kR (U8.2 G.1)⟩;rw[show EF r u={ r with dp:=r.dp-1 } by unfold EF;rw[Aiw AIE,Aiy ⟨U8.1 kR,by omega⟩]]at Ud;exact Ud
 have AZ1:AF.NB R s 0 0 false false false 0 false false Z2:=by
  refine AF.LG ⟨by unfold AL;omega,λAx=>⟨u0,by omega,by simpa using hg0,λkR=>⟨by unfold AL;omega,?_⟩,λ_=>AF.LH fV⟩,λ_=>AF.LH fV⟩;obtain⟨u1,Ql,AZ2⟩:=byte_at (show 1<s.size by omega);refine⟨u1,by decide,by simpa using Ql,GV.start λx4 e4=>⟨_,rfl,λAZ3=>?_,λ_=>AF.LH fV⟩⟩;exfalso;have low:∀i:Fin 12,Go.bits .or .u8 (((46+i.1:Nat)):Int) 32≠120:=by decide
  have D7:46<=u1.toNat/\u1.toNat<58:=by
   rcases xV u1 (Ai6 AZ2) with hd|rfl
   .have:=IZ hd;omega
   .decide
  have:=low ⟨u1.toNat-46,by omega⟩;rw[show 46+(u1.toNat-46)=u1.toNat by omega]at this;exact this (by rw[<-e4];exact AZ3)
 refine AF.start ⟨λG=>by omega,λ_=>⟨u0,by decide,by simpa using hg0,λG=>by omega,λ_=>⟨λG=>by omega,λ_=>AZ1⟩⟩⟩
theorem fW {s:ByteArray}(ht:Gj s=true)(h:R (.T #[.float .f64 0,.I 0,.bool false]) Z2):Spec prog 282 #[.string s] Z2 R:=by
 obtain⟨hs0,ALL,⟨u0,hu0,VL⟩,xV,AFL,ATR⟩:=P0 ht;have hn0:=IZ VL;have hg0:s.data[0]?=some u0:=by rw[<-Aje];exact hu0
 refine BD.start ⟨λG=>by omega,λ_=>⟨u0,by decide,by simpa using hg0,λG=>by omega,λ_=>BD.LF ⟨λG=>?_,λ_=>⟨λG=>by omega,λ_=>BD.AEw ⟨λG=>?_,λ_=>⟨λG=>by omega,λ_=>BD.Pp ⟨λG=>?_,λ_=>BD.AEx h⟩⟩⟩⟩⟩⟩⟩
 .have:=AjA G;omega
 .have:=AjA G;omega
 .have:=AjA G;omega
theorem AFM {x:Int}:YN prog 292 #[.U x] Z2 (.float .f64 x.toNat):=λw _=>by
 rw[run_callFunc_extern Go.Proofs.Tryz.func292 (by kernel_rfl) (by kernel_rfl) (by kernel_rfl) (e:=Extern.MathFloatBits.float64frombits) (by kernel_rfl)];rfl
theorem AFN {s:ByteArray}(ht:Gj s=true):-15<=YL (Jk s)/\YL (Jk s)<=0/\(Jk s).m<1000000000000000:=by
 obtain⟨hs0,ALL,_,xV,AFL,_⟩:=P0 ht;have hlen:s.data.toList.length=s.size:=Ajd (xs:=s.data);have H:∀k,k<=s.size->ROk s k ((s.data.toList.take k).foldl EF ⟨0,false,0,0⟩):=λk=>by
  induction k with
  | zero=>intro _;exact .zero
  | succ k ih=>
   intro hk;obtain⟨u,hu,Bi⟩:=byte_at (show k<s.size by omega);have:=(ih (by omega)).step Bi (xV u (Ai6 Bi));rwa[AR Bi,Akd]
 have G:=H s.size (Ai7 _);rw[Ai4 (by omega)]at G;have hc:pE s s.size<=15:=Aj3 (AlO ((List.take_sublist _ _).filter _)) AFL;have h1:=G.nd;have h3:=G.lo;have h4:=G.hi;have hm:=Nat.lt_of_lt_of_le G.m (kh (show _<=15 by omega))
 change (Jk s).m<_ at hm
 change (Jk s).nd<=_ at h1
 change ((Jk s).nd:Int)-(Jk s).dp<=_ at h3
 change (Jk s).dp<=(Jk s).nd at h4
 unfold YL;split
 .exact⟨by decide,by decide,hm⟩
 .split<;>omega
theorem pF {m:Nat}{e:Int}(hg:Gl Z2)(hm:m<1000000000000000)(h1:-15<=e)(h2:e<=0)(h:∀x:Nat,(toF x:Nat)=(if e=0 then toF (FloatKind.f64.nearest m) else kI 4 (FloatKind.f64.nearest m) (YJ.getD (-e).toNat 0))->R (.T #[.float .f64 x,.bool true]) Z2):
  Spec prog 293 #[.U (m:Nat),.I e,.bool false] Z2 R:=by
 refine CE.start ⟨52,hg.bits,by decide,λx11 vh=>⟨λG=>?_,λ_=>?_⟩⟩
 .exfalso;apply G
  rw[vh];exact Int.ediv_eq_zero_of_lt (by omega) (by show(m:Int)<4503599627370496;omega)
 refine Xy (v:=.float .f64 (FloatKind.f64.nearest m)) (λw=>by kernel_rfl) ⟨_,rfl,λG=>(by cases G),λ_=>CE.AEL ⟨λh0=>h _ (by rw[Aiy h0]),λh0=>⟨λG=>by omega,λ_=>⟨λ_=>⟨λ_=>?_,λG=>absurd (by omega) G⟩,λG=>absurd (by omega) G⟩⟩⟩⟩;obtain⟨b,o,n,c,hp,hn,hl⟩:=hg.pow;refine⟨_,n,c,hp,λx60 e60=>?_⟩;have AZ4:x60=-e:=by rw[e60];simp[IntKind.wrap,IntKind.bits,IntKind.signed];omega
 have Ax:(-e).toNat<YJ.length:=by show _<16;omega
 refine⟨b,o,rfl,by omega,YJ.getD (-e).toNat 0,?_,sO λy hy=>⟨_,rfl,h y (by rw[Aiw h0];exact hy)⟩⟩;rw[AZ4];exact hl _ _ (by rw[Alu,Ai3 Ax];rfl)
theorem vi {s:ByteArray}(hg:Gl Z2)(ht:Gj s=true)(h:∀x:Nat,((toF x:Nat):Int)=ve s->R (.T #[.float .f64 x,.I (s.size:Nat),.nilIface]) Z2):Spec prog 268 #[.string s] Z2 R:=by
 obtain⟨h1,h2,hm⟩:=AFN ht;refine Fu.start (fW ht ⟨_,_,_,rfl,λG=>(by cases G),λ_=>vg ht ⟨_,_,_,_,_,_,_,rfl,λG=>(by cases G),λ_=>⟨λG=>(by cases G),λ_=>⟨true,hg.opt,λ_=>DQ.start ⟨λG=>(by cases G),λ_=>⟨_,rfl,by decide,λoL e67=>?_⟩⟩,λG=>(by cases G)⟩⟩⟩⟩);have AZ5:oL=0:=by rw[e67];rfl
 subst AZ5;refine⟨λh0=>λx71 e71=>.y AFM ⟨_,rfl,h _ ?_⟩,λh0=>⟨λG=>by omega,λ_=>⟨λG=>by omega,λ_=>⟨λ_=>pF hg hm h1 h2 λx hx=>⟨_,_,rfl,λ_=>h x ?_,λG=>(by cases G)⟩,λG=>(by cases G)⟩⟩⟩⟩
 .have:x71=0:=by rw[e71];decide
  rw[this];unfold ve;rw[Aiy (by omega)];rfl
 .unfold ve;dsimp only;rw[Aiw (by omega),hx];split<;>rfl
theorem ki {s:ByteArray}(hg:Gl Z2)(ht:Gj s=true)(h:R (.T #[.U (ve s),.bool true]) Z2):Spec prog 152 #[.string s] Z2 R:=by
 obtain⟨_,ALL,_⟩:=P0 ht;refine UP.start (fT (by omega) ht ⟨_,rfl,λG=>(by cases G),λ_=>Iw.start (EE.start (Ce.start ⟨λG=>absurd G (by decide),λ_=>vi hg ht λx hx=>⟨_,_,_,rfl,_,_,_,rfl,λG=>absurd rfl G,λ_=>⟨_,_,rfl,false,λw _=>by kernel_rfl,λG=>(by cases G),λ_=>⟨_,_,rfl,IS ⟨_,rfl,by rw[hx];exact h⟩⟩⟩⟩⟩))⟩)
end
def AN {α:Type}(s:Nat)(E:Hp->List Value->α->Prop)(Z0 Z2:Hp)(p:Option Addr)(n c:Nat)(xs:List α):Prop:=II s E Z2 p n c xs/\Ext Z0 (Z2.del p)
section
variable {α:Type}{s bs:Nat}{E:Hp->List Value->α->Prop}{Z0 Z2 Z':Hp}{p:Option Addr}{n c:Nat}{xs:List α}
theorem AN.nil (G:Ext Z0 Z2):AN s E Z0 Z2 none 0 0 []:=⟨II.nil,G⟩
theorem AN.mono (hE:HA E)(h:AN s E Z0 Z2 p n c xs)(G:Ext Z2 Z'):AN s E Z0 Z' p n c xs:=⟨h.1.mono hE G,h.2.trans (G.del p)⟩
theorem AN.up (h:AN s E Z0 Z2 p n c xs):Ext Z0 Z2:=h.2.trans (Ext.Kt _ _)
theorem AN.rd (G:HA E)(h:AN s E Z0 Z2 p n c xs):Af s E Z2 p n xs:=h.1.rd G
theorem AN.new (h:AN s E Z0 Z2 p n c xs)(hx:Ext Z2 Z'):Ext (Z2.new Z') (Z'.del p):=Ext.ADi (λa G=>h.1.block a G)
theorem AN.Ey {P:Program}{T Et ty:TypeId}{vs:List Value}{x:α}{Φ:Value->Hp->Prop}(hE:HA E)[J2 P T Et s bs](h:AN s E Z0 Z2 p n c xs)(hl:vs.length=s)(h1:FZ vs)(hx:E (Z2.del p) vs x)(hb:(n+1)*bs<=140737488355328)
  (hΦ:∀G c' Z',AN s E Z0 Z' G (n+1) c' (xs++[x])->Ext (Z2.del p) (Z'.del G)->Φ (.slice G (n+1) c') Z') {b:Nat} (hn:Z2 b=none) :
  AI P (Builtin.append_ #[T,T] ty #[.slice p n c,.slice (some ⟨b,0,none⟩) 1 1]) (Z2.set b (.cells vs.toArray Et (0,0))) Φ:=by
 obtain⟨⟨hlen,cs,ho,hc⟩,sW⟩:=h;refine D9 (ho.mono (.set hn)) ⟨by rw[hl,Nat.one_mul],by omega,.inr ⟨b,0,rfl,Az.of λj v hj=>?_⟩⟩ h1 hb λG c' Z' Di QO=>?_
 .simp[Hp.ld,Hp.AA,hj]
 .have e:Ext (Z2.del p) (Z'.del G):=((Ext.set hn).del p).trans QO;exact hΦ G c' Z' ⟨⟨by simp[hlen],_,Di,(hc.snoc hl hx).mono hE e⟩,sW.trans e⟩ e
end
theorem DH.one (Z2:Hp)(vs:List Value)(x:El)(h:DH Z2 vs x):FZ vs:=by
 obtain⟨p,n,c,rfl,_⟩:=h;intro u G;simp only[Ai1,AjK,Ajl]at G;rcases G with rfl|rfl<;>rfl
theorem DH.at {Z2:Hp}{p:Option Addr}{n i:Nat}{l:List El}{x:El}(hr:Af 2 DH Z2 p n l)(hx:l[i]?=some x):∃b o q m d,p=some ⟨b,o,none⟩/\Az Z2 b (o+i*2) [.slice q m d,.U x.v]/\Gy Z2 q m x.ls:=by
 obtain⟨b,o,vs,hp,⟨q,m,d,rfl,h⟩,G⟩:=Af.idx hr hx;exact⟨b,o,q,m,d,hp,G,h⟩
section
variable {Z2 Z' Z0:Hp}{R:Rr}
theorem kj {p:Option Addr}{n c:Nat}{xs:List Int}{Φ:Value->Hp->Prop}(G:Dc .u8 Z2 p n xs)(h:Φ (.string (strOfNums xs)) Z2):AI prog (convert 134 9 (.slice p n c)) Z2 Φ:=by
 refine AI.pu (λw hs=>?_) h;have h1:=underlying134;have h2:=underlying9;by_cases hn:n=0
 .subst hn;have hx:xs=[]:=AjL G.1;subst hx;rw[run_convert_bytes_string w 134 9 _ p 0 c h1 underlying5 h2];cases p<;>simp[Conv.bytesToString,loadCells]<;>rfl
 .obtain⟨x0,sW⟩:=G.ex (k:=0) (by omega);obtain⟨b,o,rfl,_⟩:=G.at sW;refine run_convert_bytes_arg w 134 _ h1 underlying5 b o n c xs G.1 (λi hi=>?_) 9 h2;obtain⟨x,hx⟩:=G.ex hi;obtain⟨b',o',he,hl⟩:=G.at hx;cases he;have:=cell_of hs hl;simpa[Cm,hx] using this
theorem Ia {p:Option Addr}{n c:Nat}{ls:List Lb}(hr:Gy Z2 p n ls)(hs:BM ls)(h:∀Z',Ext Z2 Z'->R (.returned (.string (JQ ls))) Z'):Spec prog 107 #[.slice p n c] Z2 R:=
 jE.start (fI hr hs λp' n' c' Z' G hx=>⟨_,_,_,rfl,kj (DS.rd (BH.mono (Ext.CX _ _) G)) ⟨_,rfl,h Z' hx⟩⟩)
theorem HU {p:Option Addr}{n c:Nat}{ls:List Lb}(hr:Gy Z2 p n ls)(hn:n<=1000000)(h:∀p' G c' Z',Gy (Z2.new Z') p' G (FR ls)->Ext Z2 Z'->R (.returned (.slice p' G c')) Z'):Spec prog 158 #[.slice p n c] Z2 R:=by
 refine cK.start λb hb=>?_;have hx:=Ext.set (o:=.cells #[(.string (ByteArray.mk #[95,95,110,97,109,101,95,95]))] 9 (0,0)) hb;refine Lj (ns:=[EV]) (hr.mono CW.mono hx) hn (fJ (Hp.AA _ _ _)) λp' G c' Z' ho QO=>⟨_,_,_,rfl,h p' G c' Z' ((ho.rd CW.mono).mono CW.mono (Ext.Ci hx)) (hx.trans QO)⟩
theorem dC {p q:Option Addr}{n c m d:Nat}{ls:List Lb}{ns:List ByteArray}(hr:Gy Z2 p n ls)(hn:n<=1000000)(hs:Fj 1 Z2 q m (ns.map .string))
  (h:∀p' n' c' Z',Gy (Z2.new Z') p' n' (j9 ns ls)->Ext Z2 Z'->R (.returned (.slice p' n' c')) Z'):Spec prog 161 #[.slice p n c,.slice q m d] Z2 R:=by
 refine Xm.start λb3 UW=>?_;have G:Ext Z2 (Z2.set b3 (.cells #[.slice q m d] 125 (0,0))):=.set UW;refine UU (f:=208) (g:=λx=>FP x.1 ns) IM.en (hr.mono CW.mono G) hn (λZ' x R' hx Mf=>?_) λp' n' c' Z' ho hx=>⟨_,_,_,rfl,h p' n' c' Z' ?_ (G.trans hx)⟩
 .refine IM.start λ_=>⟨q,m,d,AJ (hx _ _ (Hp.AA _ _ _)) rfl,PC (hs.mono (G.trans hx)) ⟨_,rfl,Mf⟩⟩
 .exact(ho.rd CW.mono).mono CW.mono (Ext.Ci G)
theorem vj {p q:Option Addr}{n c m d:Nat}{ls:List Lb}{ns:List ByteArray}(hr:Gy Z2 p n ls)(hn:n<=1000000)(hs:Fj 1 Z2 q m (ns.map .string))
  (h:∀p' G c' Z',Gy (Z2.new Z') p' G (FR (kD ns ls))->Ext Z2 Z'->R (.returned (.slice p' G c')) Z') {R':Rr} (hR:∀p' G c' Z',R (.returned (.slice p' G c')) Z'->R' (.returned (.slice p' G c')) Z') :
  Spec prog 162 #[.slice p n c,.slice q m d] Z2 (Ab R' (CS λVW n15 TM y=>Spec prog 158 #[.slice VW n15 TM] y (Ab R' (CS λRe n16 P9 AE=>R' (.returned (.slice Re n16 P9)) AE)))):=by
 refine Lj hr hn hs λp' G c' Z1 ho hx=>⟨_,_,_,rfl,?_⟩;have hl:G<=n:=by
  have h1:=ho.1;have h2:=Ajb (λx:Lb=>!FP x.1 ns) ls;have h3:ls.length=n:=hr.1;omega
 refine HU ((ho.rd CW.mono).mono CW.mono (Ext.CX _ _)) (by omega) λp2 n2 c2 Z22 G0 Aw=>⟨_,_,_,rfl,hR _ _ _ _ (h p2 n2 c2 Z22 (G0.mono CW.mono (Ext.Ci hx)) (hx.trans Aw))⟩
theorem Vg {n:Nd}{p q r:Option Addr}{k c m d j e:Nat}{ls:List Lb}(hr:Gy Z2 r j ls)(hj:j<=1000000)(hs:Fj 1 Z2 q m (n.names.map .string))
  (h:∀p' G c' Z',Gy (Z2.new Z') p' G (S1 n ls)->Ext Z2 Z'->R (.returned (.slice p' G c')) Z'):Spec prog 217 #[QR n p k c q m d,.slice r j e] Z2 R:=by
 refine sF.start λ_=>⟨λh3=>dC hr hj hs λp' G c' Z' gY hx=>⟨_,_,_,rfl,h p' G c' Z' ?_ hx⟩,λh3=>vj hr hj hs (λp' G c' Z' gY hx=>h p' G c' Z' ?_ hx) λ_ _ _ _ hh=>hh⟩
 .unfold S1;rw[Aiy h3];exact gY
 .unfold S1;rw[Aiw h3];exact gY
theorem BM.filter {ls:List Lb}(g:Lb->Bool)(h:BM ls):BM (ls.filter g):=⟨Aj3 (Ajb _ _) h.1,λx G=>h.2 x (AkU.1 G).1⟩
theorem BM.bare {ls:List Lb}(h:BM ls):BM (FR ls):=h.filter _
theorem BM.S1 {n:Nd}{ls:List Lb}(h:BM ls):BM (TwW.S1 n ls):=by
 unfold TwW.S1 j9 FR kD;split
 .exact h.filter _
 .exact(h.filter _).filter _
structure Kf (R:Rr)(Z2:Hp)(X:Option Vv):Prop where
 ok:∀x Z' p n c q m d,X=some x->Ext Z2 Z'->Af 2 DH Z' p n x.vec->Af 2 Xv Z' q m x.Q5->n<=c->m<=d->R (.T #[.agg #[.I x.kind,.U x.v,.slice p n c,.slice q m d],.I 0]) Z'
 no:X=none->∀Z',Ext Z2 Z'->R (.T #[.agg #[.I 0,.U 0,.N,.N],.I 223]) Z'
theorem Kf.vk {X:Option Vv}(h:Kf R Z2 X)(hx:Ext Z2 Z'):Kf R Z' X:=⟨λx G p n c q m d h0 h1 h2 h3=>h.ok x G p n c q m d h0 (hx.trans h1) h2 h3,λh0 G h1=>h.no h0 G (hx.trans h1)⟩
theorem Kf.ay {X:Option Vv}(h:Kf R Z2 X):Kf (Ab R (λz y=>∃jq jr js jt ju jv jw jx ah,z=(.tuple #[.agg #[.I jq,.U jr,.slice js jt ju,.slice jv jw jx],.I ah])/\R (.T #[.agg #[.I jq,.U jr,.slice js jt ju,.slice jv jw jx],.I ah]) y)) Z2 X:=
 ⟨λx Z' p n c q m d G h1 h2 h3 h4 h5=>⟨_,_,_,_,_,_,_,_,_,rfl,h.ok x Z' p n c q m d G h1 h2 h3 h4 h5⟩,λG Z' h1=>⟨_,_,_,_,_,_,_,_,_,rfl,h.no G Z' h1⟩⟩
theorem vm [GF]{p q:Option Addr}{n c m d:Nat}{v u:Int}{ls ms:List Lb}(G:Gy Z2 p n ls)(hs:Gy Z2 q m ms)(h:∀Z',Ext Z2 Z'->R (.returned (.I (A3 ls ms))) Z'):Spec prog 206 #[.agg #[.slice p n c,.U v],.agg #[.slice q m d,.U u]] Z2 R:=
 Qi.start λ_ _=>Kb G hs λZ' hx=>⟨_,rfl,h Z' hx⟩
end
def Sb (op:Int)(vs:List Int)(w:Int):Option Int:=
 if op=4 then some (fP vs) else if op=5 then some (Xz 4 (fP vs) (Cg vs.length)) else if op=6 then some (Qp 7 vs) else if op=7 then some (Qp 9 vs) else if op=8 then some (Cg vs.length)
 else if op=9 then some (sN (vs.getLast?.getD 0)) else if op=10 then some (Vf vs) else if vs.length<2 then none
 else if op=3 then some (Xz 2 (vs.getLast?.getD 0) (vs.head?.getD 0)) else if op=2 then some (SZ vs) else some (Xz 4 (SZ vs) w)
def foldI (op:Int)(vs:List Int):Int:=if op=1 then fP vs else if op=2 then Qp 7 vs else if op=3 then Qp 9 vs else if op=4 then Xz 4 (fP vs) (Cg vs.length) else Cg vs.length
def PH (op a b:Int):Int×Bool:=if 1<=op/\op<=4 then(Xz op a b,true) else(if kJ op a b then Cg 1 else Cg 0,kJ op a b)
def FF:Fl:={ num:=ve,abs:=oY,floor:=fO,whole:=Cg,AA8:=AH6,over:=Sb,fold:=foldI,VI:=PH,vL:=Qo,cmpL:=A3 }
structure Ue (Z2:Hp)(ab:Nat)(ss:List Sr)(t:Int):Prop where
 aI:∃p n c,Z2.ld ⟨ab,0,none⟩=some (.slice p n c)/\Af 2 BT Z2 p n ss
 at_:Z2.ld ⟨ab,1,none⟩=some (.I t)
theorem Ue.mono {Z2 Z':Hp}{ab:Nat}{ss:List Sr}{t:Int}(h:Ue Z2 ab ss t)(G:Ext Z2 Z'):Ue Z' ab ss t:=⟨let ⟨p,n,c,h1,h2⟩:=h.aI;⟨p,n,c,G.ld h1,h2.mono BT.mono G⟩,G.ld h.at_⟩
structure AFO (ss:List Sr):Prop where
 ris:∀s∈ss,kQ s.ps
 sm:∀s∈ss,BM s.ls
 len:ss.length<=10000000
structure ALM (n:Nd):Prop where
 mki:∀x∈n.mt,1<=x.kind/\x.kind<=4
 mv:∀x∈n.mt,x.val.size<=1000000
 back:0<=n.back/\n.back<2147483648
 width:0<=n.width/\n.width<2147483648
section
variable {Z2 Z' Z0:Hp}{R:Rr}
theorem Sc {n:Nd}{a p q l:Option Addr}{k c m d j e:Nat}(G:Gl Z2)(ht:Gj n.text=true)(h:Kf R Z2 (some ⟨1,ve n.text,[],[]⟩)):Spec prog 129 #[.pointer a,QR n p k c q m d,.slice l j e] Z2 R:=
 Cq.start λ_ _=>ki G ht ⟨_,_,rfl,h.ok _ Z2 none 0 0 none 0 0 rfl (.refl _) Af.nil Af.nil (Ai7 _) (Ai7 _)⟩
theorem Jl {n:Nd}{p q:Option Addr}{k c m d:Nat}{a b:Int}(h:R (.T #[.U (PH n.op a b).1,.bool (PH n.op a b).2]) Z2):Spec prog 168 #[QR n p k c q m d,.U a,.U b] Z2 R:=by
 refine UQ.start λ_=>Ll ?_;unfold PH at h;by_cases h1:1<=n.op/\n.op<=4
 .rw[Aiy h1]at h ⊢;exact⟨_,_,rfl,λ_=>h,λG=>(by cases G)⟩
 .rw[Aiw h1]at h ⊢;exact⟨_,_,rfl,λG=>(by cases G),λ_=>Lm ⟨_,_,rfl,oe ⟨_,rfl,h⟩⟩⟩
theorem Ib {α β:Type}{f:α->Option β}{xs:List α}{k:Nat}{x:α}(G:xs[k]?=some x):(xs.take (k+1)).filterMap f=(xs.take k).filterMap f++(f x).toList:=by
 rw[AR G,List.filterMap_append];cases h:f x<;>simp[List.filterMap_cons,h]
theorem ko {n:Nd}{p q l:Option Addr}{k c m d j e ab:Nat}{ss:List Sr}{t:Int}(hA:Ue Z2 ab ss t)(hg:Gl Z2)(hm:Af 3 Jj Z2 p k n.mt)(hS:AFO ss)(hN:ALM n)(ht:-4611686018427387904<=t/\t<=4611686018427387904)
  (h:Kf R Z2 (some ⟨2,0,fL FF n ss t,[]⟩)):Spec prog 130 #[.pointer (some ⟨ab,0,none⟩),QR n p k c q m d,.slice l j e] Z2 R:=by
 obtain⟨pss,VM,css,DD,hr⟩:=hA.aI;have hl:ss.length=VM:=hr.1;have hlen:=hS.len;have hb:=hN.back
 let f:Sr->Option El:=λs=>match (H6 s.ps (t-n.back-300) (t-n.back)).getLast? with
  | none=>none
  | some p=>if p.2=ML\/FF.vL n.mt s.ls=false then none else some ⟨s.ls,p.2⟩
 have hf:fL FF n ss t=ss.filterMap f:=rfl;rw[hf]at h;refine A2.start λ_ _ _=>⟨ab,0,rfl,pss,VM,css,DD,?_⟩
 suffices H:∀g i:Nat,∀p8 n8 c8 Z',VM-i=g->i<=VM->AN 2 DH Z2 Z' p8 n8 c8 ((ss.take i).filterMap f)->A2.A0 R (aD ab 0) n.kind n.op n.text p k c n.width n.back n.GH q m d n.bool n.parts 0 0 none 0 0 none 0 0 2 0 p8 n8 c8 none 0 0 pss VM css VM i Z' from H VM 0 none 0 0 Z2 rfl (AjB _) (AN.nil (.refl _))
 intro g
 induction g with
 | zero=>
  intro i p8 n8 c8 Z' hgi hi ho;rw[Ai4 (by omega)]at ho;exact A2.AX ⟨λAx=>by omega,λ_=>h.ok _ Z' p8 n8 c8 none 0 0 rfl ho.up (ho.rd DH.mono) Af.nil (by obtain⟨cs,Qr,_⟩:=ho.1.2;exact BH.cap Qr) (Ai7 _)⟩
 | succ g ih=>
  intro i p8 n8 c8 Z' hgi hi ho;have CF:i<VM:=by omega
  obtain⟨s,hs⟩:=hr.ex CF;obtain⟨b,o,p1,n1,c1,q1,m1,d1,rfl,Vd,h1,h2,h3⟩:=BT.at hr hs;have ia:=hS.sm s (Ai6 hs);have ALO:=hS.ris s (Ai6 hs);have hx:=ho.up;have QT:n8<=i:=by
   have:=ho.1.1;have h9:=Ajh f (ss.take i);rw[AjJ]at h9;omega
  have next:∀p9 n9 c9 G,AN 2 DH Z2 G p9 n9 c9 ((ss.take i).filterMap f++(f s).toList)->A2.HF R (aD ab 0) n.kind n.op n.text p k c n.width n.back n.GH q m d n.bool n.parts 0 0 none 0 0 none 0 0 2 0 p9 n9 c9 none 0 0 (aD b o) VM css VM i G:=λp9 n9 c9 G Bq=>
   A2.Ea ⟨AO CF hr.big,ih (i+1) _ _ _ _ (by omega) (by omega) (by rw[Ib hs];exact Bq)⟩
  refine A2.AX ⟨λ_=>⟨b,o,rfl,by omega,p1,n1,c1,q1,m1,d1,by simpa using Vd.mono hx,λ_=>⟨ab,0,rfl,t,hx.ld hA.at_,by unfold AL;omega,by unfold AL;omega,t,hx.ld hA.at_,by unfold AL;omega,Ub (h2.mono C9.mono hx) h3 ALO λq2 m2 d2 G0 kr=>⟨q2,m2,d2,rfl,λh0=>?_,λh0=>?_⟩⟩⟩,λhh=>by omega⟩
  .refine next _ _ _ _ ?_
   have e:f s=none:=by
    show(match (H6 s.ps (t-n.back-300) (t-n.back)).getLast? with | none=>none | some p=>_)=none
    have fX:(H6 s.ps (t-n.back-300) (t-n.back)).length=m2:=G0.1;rw[AkH.1 (show(H6 s.ps (t-n.back-300) (t-n.back)).length=0 by omega)];rfl
   rw[e];simpa using ho
  have fX:(H6 s.ps (t-n.back-300) (t-n.back)).length=m2:=G0.1;obtain⟨y,hy⟩:=G0.ex (k:=m2-1) (by omega);obtain⟨b2,o2,rfl,gq⟩:=C9.at G0 hy;have e1:Int.toNat ((m2:Int)-1)=m2-1:=by omega
  have SP:=G0.big;have ATW:(H6 s.ps (t-n.back-300) (t-n.back)).getLast?=some y:=by rw[AkY,fX,hy]
  have ef:f s=if y.2=ML\/Qo n.mt s.ls=false then none else some ⟨s.ls,y.2⟩:=by
   show(match (H6 s.ps (t-n.back-300) (t-n.back)).getLast? with | none=>none | some p=>_)=_
   rw[ATW];rfl
  refine⟨by unfold AL;omega,b2,o2,rfl,by omega,y.2,by rw[e1];exact gq.2.1,λB9=>?_,λB9=>dB ((hg.mono hx)) (hm.mono Jj.mono hx) (h1.mono CW.mono hx) hN.mv (λx hx=>by have:=(ia.2 x hx).2;omega) hN.mki λG Aw=>⟨_,rfl,λhf=>?_,λhtr=>?_⟩⟩
  .refine next _ _ _ _ ?_
   rw[ef,Aiy (.inl B9)];simpa using ho
  .refine next _ _ _ _ ?_
   rw[ef,Aiy (.inr hf)];simpa using ho.mono DH.mono Aw
  .refine⟨by unfold AL;omega,by omega,y.2,by rw[e1];exact Aw.ld gq.2.1,λb73 ALP=>?_⟩;have Bq:=ho.mono DH.mono Aw;have he:DH (G.del p8) [.slice p1 n1 c1,.U y.2] ⟨s.ls,y.2⟩:=⟨p1,n1,c1,rfl,h1.mono CW.mono Bq.2⟩;refine AN.Ey DH.mono Bq rfl (DH.one _ _ _ he) he (by omega) (λp' c' Z3 Dh _=>⟨_,_,_,rfl,next _ _ _ _ ?_⟩) ALP;rw[ef,Aiw (by
     rintro(h5|h5)
     .exact B9 h5
     .rw[htr]at h5;cases h5)]
   exact Dh
theorem BH.ABY {s:Nat}{p q:Option Addr}{n c:Nat}{cs:List Value}(G:BH s Z2 q n c cs)(h:∀a,q=some a->∀a',p=some a'->a.block≠a'.block):BH s (Z2.del p) q n c cs:=
 ⟨G.1,G.2.1,G.2.2.imp id λ⟨b',o',arr,T,hp,hb,r⟩=>⟨b',o',arr,T,hp,Aq.2 ⟨λa' sY=>h _ hp a' sY,hb⟩,r⟩⟩
theorem AN.sep {α:Type}{s:Nat}{E:Hp->List Value->α->Prop}{p q:Option Addr}{n c m d:Nat}{xs:List α}{ys:List Int}(h:AN s E Z0 Z2 p n c xs)(g:AN 1 (F6 .u64) Z2 Z' q m d ys):Dc .u64 (Z'.del p) q m ys/\m<=d:=by
 obtain⟨⟨_,cs,ho,hc⟩,hx⟩:=g;have hp:=h.1.block;refine⟨?_,BH.cap ho⟩;have Rc:=mh.1 hc;subst Rc;refine Dc.du (BH.rd (BH.ABY ho λa ha a' sY e=>?_));cases G:Z2 a'.block with
 | none=>exact hp a' sY G
 | some u=>exact(Aq.1 (hx _ _ G)).1 a ha e.symm
theorem Xv.one (Z2:Hp)(vs:List Value)(x:Rg)(h:Xv Z2 vs x):FZ vs:=by
 obtain⟨p,n,c,q,m,d,rfl,_⟩:=h;intro u G;simp only[Ai1,AjK,Ajl]at G;rcases G with rfl|rfl<;>rfl
theorem pG {n:Nd}{p q l:Option Addr}{k c m d j e ab:Nat}{ss:List Sr}{t:Int}(hA:Ue Z2 ab ss t)(hg:Gl Z2)(hm:Af 3 Jj Z2 p k n.mt)(hS:AFO ss)(hN:ALM n)(ht:-4611686018427387904<=t/\t<=4611686018427387904)(hpl:∀s∈ss,s.ps.length<=1000000000)
  (h:Kf R Z2 (some ⟨3,Cg n.width,[],oS FF n ss t⟩)):Spec prog 131 #[.pointer (some ⟨ab,0,none⟩),QR n p k c q m d,.slice l j e] Z2 R:=by
 obtain⟨pss,VM,css,DD,hr⟩:=hA.aI;have hl:ss.length=VM:=hr.1;have hlen:=hS.len;have hb:=hN.back;have hw:=hN.width
 let fv:Sr->List Int:=λs=>((H6 s.ps (t-n.back-n.width) (t-n.back)).filter λp=>decide (p.2≠ML)).map Prod.snd
 let f:Sr->Option Rg:=λs=>bif !(fv s).isEmpty&&FF.vL n.mt s.ls then some ⟨s.ls,fv s⟩ else none
 have hf:oS FF n ss t=ss.filterMap f:=rfl;rw[hf]at h;refine Ah.start λ_ _=>Ln ⟨_,rfl,λ_=>⟨ab,0,rfl,pss,VM,css,DD,?_⟩⟩
 suffices H:∀g i:Nat,∀p8 n8 c8 Z',VM-i=g->i<=VM->AN 2 Xv Z2 Z' p8 n8 c8 ((ss.take i).filterMap f)->Ah.A0 R (aD ab 0) n.kind n.op n.text p k c n.width n.back n.GH q m d n.bool n.parts 0 0 none 0 0 none 0 0 3 (Cg n.width) none 0 0 p8 n8 c8 pss VM css VM i Z' from H VM 0 none 0 0 Z2 rfl (AjB _) (AN.nil (.refl _))
 intro g
 induction g with
 | zero=>
  intro i p8 n8 c8 Z' hgi hi ho;rw[Ai4 (by omega)]at ho;exact Ah.AX ⟨λAx=>by omega,λ_=>h.ok _ Z' none 0 0 p8 n8 c8 rfl ho.up Af.nil (ho.rd Xv.mono) (Ai7 _) (by obtain⟨cs,Qr,_⟩:=ho.1.2;exact BH.cap Qr)⟩
 | succ g ih=>
  intro i p8 n8 c8 Z' hgi hi ho;have CF:i<VM:=by omega
  obtain⟨s,hs⟩:=hr.ex CF;obtain⟨b,o,p1,n1,c1,q1,m1,d1,rfl,Vd,h1,h2,h3⟩:=BT.at hr hs;have ia:=hS.sm s (Ai6 hs);have ALO:=hS.ris s (Ai6 hs);have Af7:=hpl s (Ai6 hs);have hx:=ho.up;have QT:n8<=i:=by
   have:=ho.1.1;have h9:=Ajh f (ss.take i);rw[AjJ]at h9;omega
  have next:∀p9 n9 c9 G,AN 2 Xv Z2 G p9 n9 c9 ((ss.take i).filterMap f++(f s).toList)->Ah.QK R (aD ab 0) n.kind n.op n.text p k c n.width n.back n.GH q m d n.bool n.parts 0 0 none 0 0 none 0 0 3 (Cg n.width) none 0 0 p9 n9 c9 (aD b o) VM css VM i G:=λp9 n9 c9 G Bq=>
   Ah.LH ⟨AO CF hr.big,ih (i+1) _ _ _ _ (by omega) (by omega) (by rw[Ib hs];exact Bq)⟩
  refine Ah.AX ⟨λ_=>⟨b,o,rfl,by omega,p1,n1,c1,q1,m1,d1,by simpa using Vd.mono hx,λ_=>⟨ab,0,rfl,t,hx.ld hA.at_,by unfold AL;omega,by unfold AL;omega,t,hx.ld hA.at_,by unfold AL;omega,Ub (h2.mono C9.mono hx) h3 ALO λq2 m2 d2 G0 kr=>⟨q2,m2,d2,rfl,?_⟩⟩⟩,λhh=>by omega⟩;have fX:(H6 s.ps (t-n.back-n.width) (t-n.back)).length=m2:=G0.1;have hm2:m2<=1000000000:=by
   have:=Ajb (λp:Int×Int=>decide (t-n.back-n.width<p.1)&&decide (p.1<=t-n.back)) s.ps;rw[<-fX];unfold H6;omega
  have hfv:fv s=((H6 s.ps (t-n.back-n.width) (t-n.back)).filter λp=>decide (p.2≠ML)).map Prod.snd:=rfl;generalize H6 s.ps (t-n.back-n.width) (t-n.back)=ps at *
  let gv:Pt->Option Int:=λp=>if p.2≠ML then some p.2 else none
  have hgv:∀l:List Pt,((l.filter λp=>decide (p.2≠ML)).map Prod.snd)=l.filterMap gv:=λl=>by
   induction l with
   | nil=>rfl
   | cons a l ih=>
    by_cases ha:a.2≠ML
    .rw[Aj5 (by simpa using ha),AjR,ih,List.filterMap_cons_some (by show(if a.2≠ML then some a.2 else none)=some a.2;rw[Aiy ha])]
    .rw[Aj6 (by simpa using ha),ih,List.filterMap_cons_none (by show(if a.2≠ML then some a.2 else none)=none;rw[Aiw ha])]
  rw[hgv]at hfv
  suffices H2:∀g2 i2:Nat,∀q2' Mb n11 Mc G,(0<m2->q2'=q2)->m2-i2=g2->i2<=m2->AN 1 (F6 .u64) Z' G Mb n11 Mc ((ps.take i2).filterMap gv)->Ah.NB R (aD ab 0) n.kind n.op n.text p k c n.width n.back n.GH q m d n.bool n.parts 0 0 none 0 0 none 0 0 3 (Cg n.width) none 0 0 p8 n8 c8 p1 n1 c1 q1 m1 d1 Mb n11 Mc (aD b o) VM css VM i q2' m2 d2 m2 i2 G from H2 m2 0 q2 none 0 0 Z' (λ_=>rfl) rfl (AjB _) (AN.nil (.refl _))
  intro g2
  induction g2 with
  | zero=>
   intro i2 q2' Mb n11 Mc G hq mM hi2 Bq;rw[Ai4 (by omega),<-hfv]at Bq;have hlv:(fv s).length=n11:=Bq.1.1;have Qr:=ho.mono Xv.mono Bq.up;refine Ah.LG ⟨λAx=>by omega,λ_=>⟨λHu=>dB (hg.mono (hx.trans Bq.up)) (hm.mono Jj.mono (hx.trans Bq.up)) (h1.mono CW.mono (hx.trans Bq.up)) hN.mv (λx hx=>by have:=(ia.2 x hx).2;omega) hN.mki λZ3 B0=>⟨_,rfl,λhtr=>?_,λhfa=>?_⟩,λHu=>?_⟩⟩
   .intro b77 AZ7;obtain⟨hv1,hv2⟩:=ho.sep (Bq.mono (F6.mono _) B0);have Dh:=Qr.mono Xv.mono B0;have he:Xv (Z3.del p8) [.slice p1 n1 c1,.slice Mb n11 Mc] ⟨s.ls,fv s⟩:=⟨p1,n1,c1,Mb,n11,Mc,rfl,h1.mono CW.mono Dh.2,hv1,hv2⟩;refine AN.Ey Xv.mono Dh rfl (Xv.one _ _ _ he) he (by omega) (λp' c' Z4 Iy _=>⟨_,_,_,rfl,next _ _ _ _ ?_⟩) AZ7;have ef:f s=some ⟨s.ls,fv s⟩:=by
     show(bif !(fv s).isEmpty&&Qo n.mt s.ls then some _ else none)=_
     rw[htr];cases hfe:fv s with
     | nil=>rw[hfe]at hlv;simp at hlv;omega
     | cons a l=>rfl
    rw[ef];exact Iy
   .refine next _ _ _ _ ?_
    have ef:f s=none:=by
     show(bif !(fv s).isEmpty&&Qo n.mt s.ls then some _ else none)=_
     rw[hfa,AkC];rfl
    rw[ef];simpa using Qr.mono Xv.mono B0
   .refine next _ _ _ _ ?_
    have ef:f s=none:=by
     show(bif !(fv s).isEmpty&&Qo n.mt s.ls then some _ else none)=_
     rw[AkH.1 (show(fv s).length=0 by omega)];rfl
    rw[ef];simpa using Qr
  | succ g2 ih2=>
   intro i2 q2' Mb n11 Mc G hq mM hi2 Bq;have ATY:i2<m2:=by omega
   obtain⟨y,hy⟩:=G0.ex ATY;obtain⟨b2,o2,he2,gq⟩:=C9.at G0 hy;have AFQ:n11<=i2:=by
    have:=Bq.1.1;have h9:=Ajh gv (ps.take i2);rw[AjJ]at h9;omega
   rw[hq (by omega),he2];have nx:∀p9 n9 c9 Z3,AN 1 (F6 .u64) Z' Z3 p9 n9 c9 ((ps.take i2).filterMap gv++(gv y).toList)->Ah.aU R (aD ab 0) n.kind n.op n.text p k c n.width n.back n.GH q m d n.bool n.parts 0 0 none 0 0 none 0 0 3 (Cg n.width) none 0 0 p8 n8 c8 p1 n1 c1 q1 m1 d1 p9 n9 c9 (aD b o) VM css VM i (aD b2 o2) m2 d2 m2 i2 Z3:=λp9 n9 c9 Z3 Dh=>
    Ah.AER ⟨AO ATY G0.big,ih2 (i2+1) _ _ _ _ _ (λ_=>he2.symm) (by omega) (by omega) (by rw[Ib hy];exact Dh)⟩
   refine Ah.LG ⟨λ_=>⟨b2,o2,rfl,by omega,y.1,y.2,by simpa using gq.mono Bq.up,λ_=>⟨λAd=>λb58 AZ8=>?_,λheq=>nx _ _ _ _ ?_⟩⟩,λhh=>by omega⟩
   .refine AN.Ey (F6.mono _) Bq (vs:=[.U y.2]) (x:=y.2) rfl (λu hu=>by rw[Ai2]at hu;subst hu;rfl) rfl (by omega) (λp' c' Z4 Iy _=>⟨_,_,_,rfl,nx _ _ _ _ ?_⟩) AZ8;rw[show gv y=some y.2 from Aiy Ad];exact Iy
   .rw[show gv y=none from Aiw (by simpa using heq)];simpa using Bq
end
def fnT:List (Nat×Nat):=[(235,203),(235,201),(235,199),(233,163),(233,166),(233,164),(233,165),(233,167),(233,195),(233,197)]
def YM (Z2:Hp)(fb:Nat):Prop:=∀i g f,fnT[i]?=some (g,f)->∃b T,Z2.ld ⟨fb,i+1,none⟩=some (.func (.func g) #[] #[.pointer (aD b 0)])/\Z2 b=some (.cells #[.func (.func f) #[] #[]] T (0,0))
theorem YM.mono {Z2 Z':Hp}{fb:Nat}(h:YM Z2 fb)(G:Ext Z2 Z'):YM Z' fb:=λi g f hi=>let ⟨b,T,h1,h2⟩:=h i g f hi;⟨b,T,G.ld h1,G _ _ h2⟩
section
variable {Z2 Z' Z0:Hp}{R:Rr}
theorem YO (h:∀fb Z',YM (Z2.new Z') fb->Ext Z2 Z'->R (.returned (.slice (aD fb 0) 11 11)) Z'):Spec prog 159 #[] Z2 R:=by
 refine N7.start ?_;refine DR.start λb1 h1=>⟨_,_,_,rfl,?_⟩;refine DR.start λb2 h2=>⟨_,_,_,rfl,?_⟩;refine DR.start λb3 h3=>⟨_,_,_,rfl,?_⟩;refine DR.start λb4 h4=>⟨_,_,_,rfl,?_⟩;refine DR.start λb5 h5=>⟨_,_,_,rfl,?_⟩;refine DR.start λb6 h6=>⟨_,_,_,rfl,?_⟩;refine DR.start λb7 h7=>⟨_,_,_,rfl,?_⟩;refine R6.start λb8 h8=>⟨_,_,_,rfl,?_⟩;refine R6.start λb9 h9=>⟨_,_,_,rfl,?_⟩;refine R6.start λDk MK=>⟨_,_,_,rfl,?_⟩;intro fb G;have x10:=Ext.set (o:=.cells #[.nilFunc,.func (.func 235) #[] #[.pointer (aD Dk 0)],.func (.func 235) #[] #[.pointer (aD b9 0)],.func (.func 235) #[] #[.pointer (aD b8 0)],.func (.func 233) #[] #[.pointer (aD b1 0)],.func (.func 233) #[] #[.pointer (aD b2 0)],.func (.func 233) #[] #[.pointer (aD b3 0)],.func (.func 233) #[] #[.pointer (aD b4 0)],.func (.func 233) #[] #[.pointer (aD b5 0)],.func (.func 233) #[] #[.pointer (aD b6 0)],.func (.func 233) #[] #[.pointer (aD b7 0)]] 240 (0,0)) G;have L6:=x10 _ _ (Hp.AA _ Dk _);have x9:=(Ext.set MK).trans x10;have c9:=x9 _ _ (Hp.AA _ b9 _);have x8:=(Ext.set h9).trans x9;have c8:=x8 _ _ (Hp.AA _ b8 _);have x7:=(Ext.set h8).trans x8;have c7:=x7 _ _ (Hp.AA _ b7 _);have x6:=(Ext.set h7).trans x7;have c6:=x6 _ _ (Hp.AA _ b6 _);have x5:=(Ext.set h6).trans x6;have c5:=x5 _ _ (Hp.AA _ b5 _);have x4:=(Ext.set h5).trans x5;have c4:=x4 _ _ (Hp.AA _ b4 _);have x3:=(Ext.set h4).trans x4;have c3:=x3 _ _ (Hp.AA _ b3 _);have x2:=(Ext.set h3).trans x3;have c2:=x2 _ _ (Hp.AA _ b2 _);have x1:=(Ext.set h2).trans x2;have c1:=x1 _ _ (Hp.AA _ b1 _);have x0:=(Ext.set h1).trans x1;have n1:Z2 b1=none:=h1;have z1:=Ext.set (o:=.cells #[.func (.func 163) #[] #[]] 246 (0,0)) h1;have n2:Z2 b2=none:=A4 z1 h2;have z2:=z1.trans (Ext.set (o:=.cells #[.func (.func 166) #[] #[]] 246 (0,0)) h2);have n3:Z2 b3=none:=A4 z2 h3;have z3:=z2.trans (Ext.set (o:=.cells #[.func (.func 164) #[] #[]] 246 (0,0)) h3);have n4:Z2 b4=none:=A4 z3 h4;have z4:=z3.trans (Ext.set (o:=.cells #[.func (.func 165) #[] #[]] 246 (0,0)) h4);have n5:Z2 b5=none:=A4 z4 h5;have z5:=z4.trans (Ext.set (o:=.cells #[.func (.func 167) #[] #[]] 246 (0,0)) h5);have n6:Z2 b6=none:=A4 z5 h6;have z6:=z5.trans (Ext.set (o:=.cells #[.func (.func 195) #[] #[]] 246 (0,0)) h6);have n7:Z2 b7=none:=A4 z6 h7;have z7:=z6.trans (Ext.set (o:=.cells #[.func (.func 197) #[] #[]] 246 (0,0)) h7);have n8:Z2 b8=none:=A4 z7 h8;have z8:=z7.trans (Ext.set (o:=.cells #[.func (.func 199) #[] #[]] 280 (0,0)) h8);have n9:Z2 b9=none:=A4 z8 h9;have z9:=z8.trans (Ext.set (o:=.cells #[.func (.func 201) #[] #[]] 280 (0,0)) h9);have n10:Z2 Dk=none:=A4 z9 MK;have z10:=z9.trans (Ext.set (o:=.cells #[.func (.func 203) #[] #[]] 280 (0,0)) MK);have nf:Z2 fb=none:=A4 z10 G;refine h fb _ (λi g f hi=>?_) x0;clear x0 x1 x2 x3 x4 x5 x6 x7 x8 x9 x10 z1 z2 z3 z4 z5 z6 z7 z8 z9 z10
 match i,hi with
 | 0,hi=>cases hi;exact⟨Dk,_,AJ (Ae.2 ⟨nf,Hp.AA _ _ _⟩) rfl,Ae.2 ⟨n10,L6⟩⟩
 | 1,hi=>cases hi;exact⟨b9,_,AJ (Ae.2 ⟨nf,Hp.AA _ _ _⟩) rfl,Ae.2 ⟨n9,c9⟩⟩
 | 2,hi=>cases hi;exact⟨b8,_,AJ (Ae.2 ⟨nf,Hp.AA _ _ _⟩) rfl,Ae.2 ⟨n8,c8⟩⟩
 | 3,hi=>cases hi;exact⟨b1,_,AJ (Ae.2 ⟨nf,Hp.AA _ _ _⟩) rfl,Ae.2 ⟨n1,c1⟩⟩
 | 4,hi=>cases hi;exact⟨b2,_,AJ (Ae.2 ⟨nf,Hp.AA _ _ _⟩) rfl,Ae.2 ⟨n2,c2⟩⟩
 | 5,hi=>cases hi;exact⟨b3,_,AJ (Ae.2 ⟨nf,Hp.AA _ _ _⟩) rfl,Ae.2 ⟨n3,c3⟩⟩
 | 6,hi=>cases hi;exact⟨b4,_,AJ (Ae.2 ⟨nf,Hp.AA _ _ _⟩) rfl,Ae.2 ⟨n4,c4⟩⟩
 | 7,hi=>cases hi;exact⟨b5,_,AJ (Ae.2 ⟨nf,Hp.AA _ _ _⟩) rfl,Ae.2 ⟨n5,c5⟩⟩
 | 8,hi=>cases hi;exact⟨b6,_,AJ (Ae.2 ⟨nf,Hp.AA _ _ _⟩) rfl,Ae.2 ⟨n6,c6⟩⟩
 | 9,hi=>cases hi;exact⟨b7,_,AJ (Ae.2 ⟨nf,Hp.AA _ _ _⟩) rfl,Ae.2 ⟨n7,c7⟩⟩
theorem ABZ {p:Option Addr}{m c:Nat}{vs:List Int}(G:Dc .u64 Z2 p m vs)(h0:0<m)(h:R (.returned (.U (sN (vs.getLast?.getD 0)))) Z2):Spec prog 195 #[.slice p m c] Z2 R:=by
 have hl:vs.length=m:=G.1;have SP:=G.big;obtain⟨z,hz⟩:=G.ex (k:=m-1) (by omega);obtain⟨b,o,rfl,hlz⟩:=Dc.at G hz;rw[AkY,hl,hz]at h;exact Em.start ⟨by unfold AL;omega,b,o,rfl,by omega,z,by rw[show Int.toNat ((m:Int)-1)=m-1 by omega];exact hlz,Hn ⟨_,rfl,h⟩⟩
theorem ABa {p q:Option Addr}{m c j e:Nat}{vs:List Int}(G:Dc .u64 Z2 p m vs)(h0:0<m)(h:R (.returned (.U (Xz 2 (vs.getLast?.getD 0) (vs.head?.getD 0)))) Z2):Spec prog 199 #[.slice p m c,.slice q j e] Z2 R:=by
 have hl:vs.length=m:=G.1;have SP:=G.big;obtain⟨z,hz⟩:=G.ex (k:=m-1) (by omega);obtain⟨y,hy⟩:=G.ex (k:=0) (by omega);obtain⟨b,o,rfl,hlz⟩:=Dc.at G hz;obtain⟨_,_,he,gq⟩:=Dc.at G hy;cases he;rw[AkY,hl,hz,AlN,hy]at h;exact Ec.start ⟨by unfold AL;omega,b,o,rfl,by omega,z,by rw[show Int.toNat ((m:Int)-1)=m-1 by omega];exact hlz,by omega,y,by simpa using gq,kM ⟨_,rfl,h⟩⟩
theorem vo {n:Nd}{p q r:Option Addr}{k c m d lb lo j e fb u v:Nat}{vs:List Int}{w:Int}(ho:1<=n.op/\n.op<=10)(hF:YM Z2 fb)(hr:Dc .u64 Z2 r u vs)(h0:0<u)(hc:u<=v)(hj:0<j)(hw:Z2.ld ⟨lb,lo+1,none⟩=some (.U w))
  (h:∀x ok Z',(Sb n.op vs w=some x/\ok=true\/Sb n.op vs w=none/\ok=false)->Ext Z2 Z'->R (.T #[.U x,.bool ok]) Z') :
  ∃v58,Hp.ld Z2 ⟨fb,(0+Int.toNat n.op*1),none⟩=some v58/\∃(f63:Nat) (NC ND:Array Value),v58=.func (.func f63) NC ND/\Enters prog f63/\Spec prog f63 (NC++#[.slice r u v,QR n p k c q m d,.slice (some ⟨lb,lo,none⟩) j e]++ND) Z2 R:=by
 have hl:vs.length=u:=hr.1;have G:∀(i f:Nat) (x:Int),n.op=i+1->fnT[i]?=some (233,f)->Sb n.op vs w=some x->Enters prog f->(∀R':Rr,(∀Z',Ext Z2 Z'->R' (.returned (.U x)) Z')->Spec prog f #[.slice r u v] Z2 R')->
   ∃v58,Hp.ld Z2 ⟨fb,(0+Int.toNat n.op*1),none⟩=some v58/\∃(f63:Nat) (NC ND:Array Value),v58=.func (.func f63) NC ND/\Enters prog f63/\Spec prog f63 (NC++#[.slice r u v,QR n p k c q m d,.slice (some ⟨lb,lo,none⟩) j e]++ND) Z2 R:=λi f x hi hf hx KG hs=>by
  obtain⟨b,T,h1,h2⟩:=hF i _ _ hf;refine⟨_,by rw[show 0+Int.toNat n.op*1=i+1 by omega];exact h1,233,#[],#[.pointer (aD b 0)],rfl,HW.en,HW.start λ_=>⟨_,AJ h2 rfl,f,#[],#[],rfl,KG,hs _ λZ' QO=>⟨_,rfl,h x true Z' (.inl ⟨hx,rfl⟩) QO⟩⟩⟩
 have two:∀(i f:Nat) (x:Int),n.op=i+1->fnT[i]?=some (235,f)->(Sb n.op vs w=if vs.length<2 then none else some x)->Enters prog f->(2<=u->∀R':Rr,R' (.returned (.U x)) Z2->Spec prog f #[.slice r u v,.slice (some ⟨lb,lo,none⟩) j e] Z2 R')->
   ∃v58,Hp.ld Z2 ⟨fb,(0+Int.toNat n.op*1),none⟩=some v58/\∃(f63:Nat) (NC ND:Array Value),v58=.func (.func f63) NC ND/\Enters prog f63/\Spec prog f63 (NC++#[.slice r u v,QR n p k c q m d,.slice (some ⟨lb,lo,none⟩) j e]++ND) Z2 R:=λi f x hi hf hx KG hs=>by
  obtain⟨b,T,h1,h2⟩:=hF i _ _ hf;refine⟨_,by rw[show 0+Int.toNat n.op*1=i+1 by omega];exact h1,235,#[],#[.pointer (aD b 0)],rfl,Lf.en,Lf.start λ_=>⟨λAx=>h 0 false Z2 (.inr ⟨by rw[hx,Aiy (by omega)],rfl⟩) (.refl _),λTW=>⟨_,AJ h2 rfl,f,#[],#[],rfl,KG,hs (by omega) _ ⟨_,rfl,h x true Z2 (.inl ⟨by rw[hx,Aiw (by omega)],rfl⟩) (.refl _)⟩⟩⟩⟩
 have ABW:n.op=1\/n.op=2\/n.op=3\/n.op=4\/n.op=5\/n.op=6\/n.op=7\/n.op=8\/n.op=9\/n.op=10:=by omega
 rcases ABW with e1|e1|e1|e1|e1|e1|e1|e1|e1|e1
 .exact two 0 _ (Xz 4 (SZ vs) w) e1 rfl (by rw[e1];rfl) Ee.en λh2 R' Mf=>Ee.start ⟨lb,lo,rfl,by omega,w,hw,YA hr h0 ⟨_,rfl,Kp.S7 (.refl _),kN ⟨_,rfl,Mf⟩⟩⟩
 .exact two 1 _ (SZ vs) e1 rfl (by rw[e1];rfl) Es.en λh2 R' Mf=>Es.start (YA hr h0 ⟨_,rfl,Mf⟩)
 .exact two 2 _ (Xz 2 (vs.getLast?.getD 0) (vs.head?.getD 0)) e1 rfl (by rw[e1];rfl) Ec.en λh2 R' Mf=>ABa hr h0 Mf
 .exact G 3 _ (fP vs) e1 rfl (by rw[e1];rfl) Hh.en λR' Mf=>X0 hr h0 hc (Mf Z2 (.refl _))
 .exact G 4 _ (Xz 4 (fP vs) (Cg vs.length)) e1 rfl (by rw[e1];rfl) GX.en λR' Mf=>SX hr h0 hc (by rw[<-hl];exact Mf Z2 (.refl _))
 .exact G 5 _ (Qp 7 vs) e1 rfl (by rw[e1];rfl) Iu.en λR' Mf=>X5 hr h0 hc (Mf Z2 (.refl _))
 .exact G 6 _ (Qp 9 vs) e1 rfl (by rw[e1];rfl) FL.en λR' Mf=>Qq hr h0 hc (Mf Z2 (.refl _))
 .exact G 7 _ (Cg vs.length) e1 rfl (by rw[e1];rfl) Ih.en λR' Mf=>RR (by rw[<-hl];exact Mf Z2 (.refl _))
 .exact G 8 _ (sN (vs.getLast?.getD 0)) e1 rfl (by rw[e1];rfl) Em.en λR' Mf=>ABZ hr h0 (Mf Z2 (.refl _))
 .exact G 9 _ (Vf vs) e1 rfl (by rw[e1];rfl) CO.en λR' Mf=>ax hr h0 hc Mf
end
theorem Spec.ALR {P:Program}{f:FuncId}{args:Array Value}{R:Ending->Prop}{Z0:Hp}(h:@Spec ⟨True⟩ P f args Z0 (λe Z'=>R e/\Ext Z0 Z')){w:World}(hs:Sat Z0 w):
  Calls P f args w (λe G=>R e/\∃q os,G={ w with heap:=w.heap++os,drawn:=w.drawn+q }):=by
 refine(h w (λb=>b<w.heap.size/\Z0 b=none) hs (λb hb=>hb)).mono ?_
 rintro e G ⟨Z2,⟨hr,hx⟩,hf⟩
 refine⟨hr,?_⟩;obtain⟨h1,h2,h30⟩:=@Fin.os ⟨True⟩ _ _ _ _ hf;have hfp:=@Fin.BI ⟨True⟩ _ _ _ _ hf;have hfs:=@Fin.sat ⟨True⟩ _ _ _ _ hf;have hfg:=@Fin.grow ⟨True⟩ _ _ _ _ hf;have hfo:=@Fin.out ⟨True⟩ _ _ _ _ hf;obtain⟨q,h3⟩:=h30 trivial;refine⟨q,G.heap.extract w.heap.size G.heap.size,?_⟩;have hh:G.heap=w.heap++G.heap.extract w.heap.size G.heap.size:=by
  apply Array.ext_getElem?
  intro i;rw[Ako];split
  .rename_i hi;cases hσ:Z0 i with
   | none=>exact(hfp i ⟨hi,hσ⟩).2
   | some o=>exact(hfs i o (hx i o hσ)).trans (hs i o hσ).symm
  .rename_i hi;rw[AmC];have:=hfg;split
   .congr 1;omega
   .rename_i h2;exact AlM (by omega)
 cases w with
 | mk heap tape drawn os output=>
  cases G with
  | mk AdY AdZ AaA os' AVo=>
   have h4:=hfo;simp only at h1 h2 h3 h4 hh ⊢;subst h1 h2 h3 h4;rw[<-hh]
theorem YQ {α:Type}{enc:α->List Value}{k:Nat}(hk:∀x,(enc x).length=k)(h0:0<k):∀(xs:List α) (j:Nat),(xs.flatMap enc)[j]?=(xs[j/k]?).bind λx=>(enc x)[j%k]?
 | [],j=>by simp
 | x::xs,j=>by
  rw[Akr,AkJ,hk];by_cases G:j<k
  .rw[Aiy G,Nat.div_eq_of_lt G,Nat.mod_eq_of_lt G];simp
  .rw[Aiw G,YQ hk h0 xs,show j/k=(j-k)/k+1 by rw[<-Nat.add_div_right _ h0];congr 1;omega,show(j-k)%k=j%k by rw[Nat.mod_eq_sub_mod (by omega:j>=k)]];simp
theorem Ti {α:Type}{enc:α->List Value}{k:Nat}(G:∀x,(enc x).length=k):∀(xs:List α),(xs.flatMap enc).length=xs.length*k
 | []=>by simp
 | x::xs=>by rw[Akr,Ai5,Ti G xs,G,Aix,AkB];omega
theorem dD {α:Type}[Inhabited α]{enc:α->List Value}(hk:∀x,(enc x).length=2)(d:List α)(j:Nat)(hj:j<d.length*2):(d.flatMap enc)[j]?=some (Sort.flatK enc 2 d.toArray)[j]! := by
 rw[YQ (k:=2) hk (by decide),Sort.get_flatK _ _ _ _ (by simpa using hj)];have G:j/2<d.length:=by omega
 rw[Ai3 G];have h2:j%2<(enc d[j/2]).length:=by rw[hk];exact AlJ _ (by decide)
 simp only[AlS];rw[Ai3 h2];have e1:d.toArray[j/2]! = d[j/2]:=by simp[G]
 rw[e1,Alc (enc d[j/2]) (j%2) h2]
theorem fY (F arr:Array Value)(o j:Nat):(Sort.putCells id o F arr)[j]?=if o<=j/\j<o+F.size then(arr[j]?).map λ_=>F[j-o]! else arr[j]?:=by
 simp only[Sort.putCells,Array.getElem?_mapIdx,id];by_cases h:o<=j/\j<o+F.size
 .rw[Aiy h];simp[h]
 .rw[Aiw h];cases arr[j]? with
  | none=>rfl
  | some v=>simp only[Aju];rw[Aiw h]
section
variable {Z2:Hp}{R:Rr}
theorem AFR {ρ:Go.Shelf.Ren}(L:Go.Proofs.SlLaysF0.n6 prog ρ)(aE:∀w,(isAgg (ρ.t 24)).run prog w=.ok true w)(zE:∀w,(Go.sizeOf (ρ.t 24)).run prog w=.ok 2 w){α:Type}[Inhabited α]{enc:α->List Value}(G:∀x,(enc x).length=2)(h1:∀x,∀v∈enc x,v.oneCell'=true){cf:α->α->Int}(hO:Sort.SWO (Proofs.ltOf cf)){g:Nat}
  (eg:∀args w,(callFunc g args).run prog w=.ok (.enter g args) w) {b o m d:Nat} {ds:List α} (ho:BH 2 Z2 (some ⟨b,o,none⟩) m d (ds.flatMap enc)) (hm:ds.length=m) (hm0:m≠0) (J1:m<4611686018427387904)
  (AE9:∀w,Sat (Z2.del (some ⟨b,o,none⟩)) w->∀x y,Calls prog g #[.agg (enc x).toArray,.agg (enc y).toArray] w λe w'=>e=.returned (.I (cf x y))/\∃n os,w'=Sort.grow (w.drewN n) os)
  (h:∀(Z':Hp) (ds':List α),ds'.Perm ds->ds'.Pairwise (λx y=>Proofs.ltOf cf y x=false)->BH 2 Z' (some ⟨b,o,none⟩) m d (ds'.flatMap enc)->Ext (Z2.del (some ⟨b,o,none⟩)) (Z'.del (some ⟨b,o,none⟩))->R (.T #[]) Z') :
  Spec prog (ρ.f 6) #[.slice (some ⟨b,o,none⟩) m d,.func (.func g) #[] #[]] Z2 R:=by
 intro w F hs hF;obtain⟨arr,T,hb,hw,kr,iB,Rc⟩:∃arr T,Z2 b=some (.cells arr T (0,0))/\w.heap[b]?=some (.cells arr T (0,0))/\m<=d/\o+d*2<=arr.size/\(arr.toList.drop o).take (m*2)=ds.flatMap enc:=by
  rcases ho.2.2 with ⟨h1,h2,_⟩|⟨b',o',arr,T,hp,hb,kr,J1,Rc⟩
  .exact absurd h2 hm0
  .cases hp;exact⟨arr,T,hb,hs _ _ hb,kr,J1,Rc⟩
 have ATZ:∀j,j<m*2->arr[o+j]?=some (Sort.flatK enc 2 ds.toArray)[j]! := λj hj=>by
  rw[<-dD G ds j (by omega),<-Rc,AjQ,Aiy hj,Aja,Aje]
 have hH:Sort.HoldsK enc 2 w b o ds.toArray:=λj hj=>by
  have Sz:j<m*2:=by simpa[hm] using hj
  refine⟨?_,by simp[World.frozen?,hw]⟩;simp only[World.cell?,hw,id];simpa using ATZ j Sz
 have hblk:b<w.heap.size:=(AjF.1 hw).1;have FA:∀(n:Nat) (dk:Array α) (os:Array Obj) k,(Proofs.sortWorldK enc 2 w b o n dk os).heap[k]?=if k<w.heap.size then(if b=k then(w.heap[k]?).map (Sort.onCells (Sort.putCells id o (Sort.flatK enc 2 dk))) else w.heap[k]?) else os[k-w.heap.size]?:=λn dk os k=>by
  simp only[Proofs.sortWorldK,Sort.grow,Sort.putRowK,Sort.putRow,Sort.mapBlock,Sort.ahead,Ako,Array.size_modify,AkW]
 have hcm:Proofs.CmpLays prog g #[] enc 2 cf b o ds.toArray.size w:=λn os dk _ x y=>AE9 _ (λk u G=>by
  obtain⟨FB,hku⟩:=Aq.1 G;have AaC:b≠k:=λe=>FB _ rfl e.symm;have:=hs k u hku;rw[FA,Aiy (AjF.1 this).1,Aiw AaC];exact this) x y
 have ATa:=Proofs.AnyQ.slices_SortFunc L 2 aE zE enc G h1 cf hO g #[] b o d ds.toArray w eg hcm hH hblk (by simpa[hm] using J1);rw[show ds.toArray.size=m by simpa using hm]at ATa;refine ATa.mono ?_
 rintro e w' ⟨rfl,d',n,os,ATb,ATc,rfl⟩
 obtain⟨xW,_,hp3⟩:=ATb;have hd':d'.size=m:=by rw[xW];simpa using hm
 have hP:d'.toList.Perm ds:=by
  rw[show m=d'.size from hd'.symm]at hp3;rw[Alo]at hp3;rw[show d'.size=ds.toArray.size from xW,Alo]at hp3;exact hp3
 have Q7:d'.toList.length=m:=by simpa using hd'
 have hF2:(Sort.flatK enc 2 d').size=m*2:=by simp[hd']
 have hpw:d'.toList.Pairwise (λx y=>Proofs.ltOf cf y x=false):=Ajx.2 λi j hi hj Vq=>by
  have Sz:j<d'.size:=by simpa using hj
  have CF:i<d'.size:=by simpa using hi
  have:=ATc i j (AjB _) Vq (by omega);rw[Alc d' j Sz,Alc d' i CF]at this;simpa using this
 have aP:((Sort.putCells id o (Sort.flatK enc 2 d') arr).toList.drop o).take (m*2)=d'.toList.flatMap enc:=by
  refine AkA λj=>?_;rw[AjQ];by_cases hj:j<m*2
  .have:=dD G d'.toList j (by omega);rw[Aiy hj,Aja,Aje,fY,Aiy (by omega),this,ATZ j hj];simp
  .rw[Aiw hj,AkF (by rw[Ti (k:=2) G,Q7];omega)]
 refine⟨Z2.set b (.cells (Sort.putCells id o (Sort.flatK enc 2 d') arr) T (0,0)),h _ d'.toList hP hpw ⟨by rw[Ti (k:=2) G,Q7],by have:=ho.2.1;omega,.inr ⟨b,o,_,T,rfl,Hp.AA _ _ _,kr,by simpa[Sort.putCells] using iB,aP⟩⟩ (by rw[Hp.Ku];exact Ext.refl _),?_⟩
 .refine⟨λk u G=>?_,λk G=>?_,⟨rfl,rfl,λ_=>⟨n,rfl⟩⟩,rfl,by simp[Proofs.sortWorldK,Sort.grow,Sort.putRowK,Sort.putRow,Sort.mapBlock,Sort.ahead]⟩
  .rw[FA];by_cases FB:k=b
   .subst FB;rw[Hp.AA]at G;cases G;rw[Aiy hblk,Aiy rfl,hw];rfl
   .rw[Hp.AB FB]at G;have:=hs k u G;rw[Aiy (AjF.1 this).1,Aiw (AjI FB)];exact this
  .have FB:k≠b:=λe=>by have:=(hF k G).2;rw[e,hb]at this;cases this
   refine⟨by rw[Hp.AB FB];exact(hF k G).2,?_⟩;rw[FA,Aiy (hF k G).1,Aiw (AjI FB)]
end
end TwW
end
section
namespace Go.Proofs
open Go.Shelf
def Tryz.YR:Go.Shelf.Ren:=⟨λ|6=>205|15=>128|14=>236|28=>150|29=>151|20=>254|21=>255|22=>256|23=>257|24=>258|25=>259|26=>260|27=>261|46=>279|47=>177|48=>178|49=>280|50=>281|57=>304|n=>n,λ|22=>105|24=>109|25=>282|3=>3|39=>215|0=>0|53=>52|55=>27|4=>4|46=>223|45=>222|50=>101|5=>5|9=>9|66=>252|70=>256|76=>297|77=>298|n=>n,λ|n=>n⟩
theorem Tryz.ABb:Go.Proofs.SlLaysF0.n6 Tryz.prog Tryz.YR:={
 mixed:=by kernel_rfl
 f6:=⟨Tryz.f205.name,by decide,Tryz.func205.trans (Ai8 some (by kernel_rfl))⟩
 f14:=⟨Tryz.f236.name,by decide,Tryz.func236.trans (Ai8 some (by kernel_rfl))⟩
 f15:=Tryz.func128.trans (Ai8 some (by kernel_rfl))
 f20:=⟨Tryz.f254.name,by decide,Tryz.func254.trans (Ai8 some (by kernel_rfl))⟩
 f21:=⟨Tryz.f255.name,by decide,Tryz.func255.trans (Ai8 some (by kernel_rfl))⟩
 f22:=⟨Tryz.f256.name,by decide,Tryz.func256.trans (Ai8 some (by kernel_rfl))⟩
 f23:=⟨Tryz.f257.name,by decide,Tryz.func257.trans (Ai8 some (by kernel_rfl))⟩
 f24:=⟨Tryz.f258.name,by decide,Tryz.func258.trans (Ai8 some (by kernel_rfl))⟩
 f25:=⟨Tryz.f259.name,by decide,Tryz.func259.trans (Ai8 some (by kernel_rfl))⟩
 f26:=⟨Tryz.f260.name,by decide,Tryz.func260.trans (Ai8 some (by kernel_rfl))⟩
 f27:=⟨Tryz.f261.name,by decide,Tryz.func261.trans (Ai8 some (by kernel_rfl))⟩
 f28:=Tryz.func150.trans (Ai8 some (by kernel_rfl))
 f29:=Tryz.func151.trans (Ai8 some (by kernel_rfl))
 f46:=⟨Tryz.f279.name,by decide,Tryz.func279.trans (Ai8 some (by kernel_rfl))⟩
 f47:=Tryz.func177.trans (Ai8 some (by kernel_rfl))
 f48:=Tryz.func178.trans (Ai8 some (by kernel_rfl))
 f49:=⟨Tryz.f280.name,by decide,Tryz.func280.trans (Ai8 some (by kernel_rfl))⟩
 f50:=⟨Tryz.f281.name,by decide,Tryz.func281.trans (Ai8 some (by kernel_rfl))⟩
 f57:=⟨Tryz.f304.name,by decide,Tryz.func304.trans (Ai8 some (by kernel_rfl))⟩
 t0:=Tryz.underlying0
 a0:=Tryz.isAgg0
 z0:=Tryz.sizeOf0
 v0:=Tryz.zeroValue0
 t3:=Tryz.underlying3
 a3:=Tryz.isAgg3
 z3:=Tryz.sizeOf3
 v3:=Tryz.zeroValue3
 t4:=Tryz.underlying4
 a4:=Tryz.isAgg4
 z4:=Tryz.sizeOf4
 v4:=Tryz.zeroValue4
 t5:=Tryz.underlying5
 a5:=Tryz.isAgg5
 z5:=Tryz.sizeOf5
 v5:=Tryz.zeroValue5
 t9:=Tryz.underlying9
 a9:=Tryz.isAgg9
 z9:=Tryz.sizeOf9
 v9:=Tryz.zeroValue9
 t22:=Tryz.underlying105
 a22:=Tryz.isAgg105
 z22:=Tryz.sizeOf105
 v22:=Tryz.zeroValue105
 t25:=Tryz.underlying282
 a25:=Tryz.isAgg282
 z25:=Tryz.sizeOf282
 v25:=Tryz.zeroValue282
 t39:=Tryz.underlying215
 a39:=Tryz.isAgg215
 z39:=Tryz.sizeOf215
 v39:=Tryz.zeroValue215
 t45:=Tryz.underlying222
 a45:=Tryz.isAgg222
 z45:=Tryz.sizeOf222
 v45:=Tryz.zeroValue222
 t46:=Tryz.underlying223
 a46:=Tryz.isAgg223
 z46:=Tryz.sizeOf223
 v46:=Tryz.zeroValue223
 t50:=Tryz.underlying101
 a50:=Tryz.isAgg101
 z50:=Tryz.sizeOf101
 v50:=Tryz.zeroValue101
 t53:=Tryz.underlying52
 a53:=Tryz.isAgg52
 z53:=Tryz.sizeOf52
 v53:=Tryz.zeroValue52
 t55:=Tryz.underlying27
 a55:=Tryz.isAgg27
 z55:=Tryz.sizeOf27
 v55:=Tryz.zeroValue27
 t66:=Tryz.underlying252
 a66:=Tryz.isAgg252
 z66:=Tryz.sizeOf252
 v66:=Tryz.zeroValue252
 t70:=Tryz.underlying256
 a70:=Tryz.isAgg256
 z70:=Tryz.sizeOf256
 v70:=Tryz.zeroValue256
 t76:=Tryz.underlying297
 a76:=Tryz.isAgg297
 z76:=Tryz.sizeOf297
 v76:=Tryz.zeroValue297
 t77:=Tryz.underlying298
 a77:=Tryz.isAgg298
 z77:=Tryz.sizeOf298
 v77:=Tryz.zeroValue298 }
end Go.Proofs
end
section
namespace TwW
open Go Tw Go.RowKit Go.Proofs.Tryz
section
variable {Z2 Z' Z0:Hp}{R:Rr}
theorem AaE {α:Type}{f:α->List Lb}:Sort.SWO (Proofs.ltOf λx y=>A3 (f x) (f y)) where
 irrefl x:=by
  have h1:A3 (f x) (f x)=0:=(Aa.eq _ _).2 rfl;exact AjE (by show ¬A3 (f x) (f x)<0;omega)
 trans x y z h1 h2:=by
  unfold Proofs.ltOf at *;exact AjC (Aa.trans _ _ _ (AjA h1) (AjA h2))
 ntrans x y z h1 h2:=by
  unfold Proofs.ltOf at *;have h1:=AjX h1;have h2:=AjX h2;dsimp only at h1 h2;refine AjE λh3=>?_;dsimp only at h3;rcases AkT (A3 (f x) (f y)) 0 with h|h|h
  .exact h1 h
  .rw[(Aa.eq _ _).1 h]at h3;exact h2 h3
  .have h4:=(Aa.RO _ _).2 h;exact h2 (Aa.trans _ _ _ h4 h3)
theorem ABc {cs:List Value}{m:Nat}(h:cs.length=m*2):(List.finRange m).flatMap (λi=>(cs.drop (i.1*2)).take 2)=cs:=by
 have hk:∀i:Fin m,((cs.drop (i.1*2)).take 2).length=2:=λi=>by
  have:=i.2;rw[AjJ,AjN];omega
 refine AkA λj=>?_;rw[YQ hk (by decide)];by_cases hj:j<m*2
 .have G:j/2<m:=by omega
  rw[Ai3 (by rw[Ald];exact G)];simp only[List.getElem_finRange,AlS,Fin.val_cast];rw[AjQ,Aiy (AlJ _ (by decide)),Aja]
  congr 1
  omega
 .rw[AkF (by rw[Ald];omega),AkF (by omega)];rfl
theorem sZ {α:Type}{enc:α->List Value}(G:∀x,(enc x).length=2):∀(xs:List α) (i:Nat) (x:α),xs[i]?=some x->((xs.flatMap enc).drop (i*2)).take 2=enc x
 | [],i,x,h=>by simp at h
 | a::xs,0,x,h=>by
  simp only[Ajj,Ai9]at h;subst h;rw[Akr,Akl,AlI,<-G a,AmG]
 | a::xs,i+1,x,h=>by
  rw[Akr,show(i+1)*2=(enc a).length+i*2 by rw[G];omega,List.drop_append];simp only[AlL,AjW (AlT _ _),Aj9];exact sZ G xs i x (by simpa using h)
theorem AFT {α:Type}(l:List α){n:Nat}(G:l.length=n):(List.finRange n).map (λi=>l[i.1]'(by rw[G];exact i.2))=l:=by
 subst G;refine List.ext_getElem (by simp) λi h1 h2=>?_;simp
theorem vq {l:List El}(h:∀i a b,l[i]?=some a->l[i+1]?=some b->A3 a.ls b.ls<0):l.Pairwise λa b=>A3 a.ls b.ls<0:=by
 rw[Ajx];intro i j hi hj Vq
 induction j with
 | zero=>omega
 | succ j ih=>
  have G:=h j l[j] l[j+1] (Ai3 _) (Ai3 _);by_cases he:i=j
  .subst he;exact G
  .exact Aa.trans _ _ _ (ih (by omega) (by omega)) G
theorem ABd:HQ FF []=some []:=by unfold HQ;rw[Aiy List.Pairwise.nil];rfl
theorem F2 {p:Option Addr}{n c:Nat}{l:List El}(ho:AN 2 DH Z0 Z2 p n c l)(hn:n<=1000000000000)(h:Kf R Z0 ((HQ FF l).map λl=>⟨2,0,l,[]⟩)):Spec prog 160 #[.slice p n c] Z2 R:=by
 have sW:=ho.up;obtain⟨⟨hl,cs,Qr,hc⟩,hx⟩:=ho;refine Fp.start λ_=>?_;by_cases h0:n=0
 .subst h0;have vK:l=[]:=AkH.1 hl;subst vK;rw[ABd]at h;refine Spec.same (v:=.tuple #[]) (λw _=>Go.Proofs.AnyF.slices_SortFunc_none Go.Proofs.Tryz.ABb p c _ w) ⟨rfl,Fp.A1 ⟨λAx=>by omega,λ_=>?_⟩⟩;exact h.ok _ Z2 p 0 c none 0 0 rfl sW Af.nil Af.nil (AjB _) (Ai7 _)
 obtain⟨b,o,rfl⟩:∃b o,p=some ⟨b,o,none⟩:=by
  rcases Qr.2.2 with ⟨_,h2,_⟩|⟨b,o,_,_,hp,_⟩
  .exact absurd h2 h0
  .exact⟨b,o,hp⟩
 have aP:cs.length=n*2:=Qr.1
 let enc:Fin n->List Value:=λi=>(cs.drop (i.1*2)).take 2
 let at_:Fin n->El:=λi=>l[i.1]'(by rw[hl];exact i.2)
 have hE:∀i:Fin n,DH (Z2.del (some ⟨b,o,none⟩)) (enc i) (at_ i):=λi=>hc.2 i.1 (at_ i) (Ai3 _);have hk:∀i,(enc i).length=2:=λi=>by
  have:=i.2;show((cs.drop (i.1*2)).take 2).length=2
  rw[AjJ,AjN];omega
 have AIF:(List.finRange n).flatMap enc=cs:=ABc aP;haveI:Inhabited (Fin n):=⟨⟨0,by omega⟩⟩;refine AFR (ρ:=Go.Proofs.Tryz.YR) Go.Proofs.Tryz.ABb (λw=>by kernel_rfl) (λw=>by kernel_rfl) (α:=Fin n) (enc:=enc) hk (λi=>DH.one _ _ _ (hE i)) (cf:=λi j=>A3 (at_ i).ls (at_ j).ls) AaE (g:=206) (λargs w=>call206 args w) (b:=b) (o:=o) (ds:=List.finRange n) (by rw[AIF];exact Qr) Ald h0 (by omega) (λw hw i j=>?_) λZ1 ds hp hpw CR N9=>⟨rfl,?_⟩
 .obtain⟨q1,m1,d1,hv1,D7⟩:=hE i;obtain⟨q2,m2,d2,hv2,G0⟩:=hE j;rw[hv1,hv2];exact Spec.ALR (R:=λe=>e=.returned (.I (A3 (at_ i).ls (at_ j).ls))) (@vm _ _ ⟨True⟩ _ _ _ _ _ _ _ _ _ _ D7 G0 λZ' QO=>⟨rfl,QO⟩) hw
 let l2:List El:=ds.map at_
 have mN:l2.Perm l:=by
  have:=hp.map at_;rwa[AFT l hl]at this
 have fX:l2.length=n:=mN.length_eq.trans hl;have hdl:ds.length=n:=by have h9:(ds.map at_).length=n:=fX;rwa[Ajn]at h9
 have hO:AN 2 DH Z0 Z1 (some ⟨b,o,none⟩) n c l2:=by
  refine⟨⟨fX,_,CR,?_,λi x hi=>?_⟩,hx.trans N9⟩
  .rw[CR.1,fX]
  .have CF:(ds.map at_)[i]?=some x:=hi;rw[Aj7]at CF;cases hd:ds[i]? with
   | none=>rw[hd]at CF;cases CF
   | some k=>
    rw[hd]at CF;simp only[Aju,Ai9]at CF;rw[sZ hk ds i k hd,<-CF];exact DH.mono _ _ _ _ N9 (hE k)
 have hle:∀i a b',l2[i]?=some a->l2[i+1]?=some b'->¬A3 b'.ls a.ls<0:=λi a b' ha hb=>by
  have hq:l2.Pairwise (λa b'=>¬A3 b'.ls a.ls<0):=by
   refine Alz.2 (hpw.imp fun {x y} Gz=>?_);exact AjX Gz
  obtain⟨h1,rfl⟩:=Ai0.1 ha;obtain⟨h2,rfl⟩:=Ai0.1 hb;exact Ajx.1 hq i (i+1) h1 h2 (by omega)
 clear_value l2
 clear CR hpw hp AIF hE hk hdl
 suffices H:∀g k:Nat,∀Z',n-k=g->1<=k->k<=n->AN 2 DH Z0 Z' (some ⟨b,o,none⟩) n c l2->(∀i a b',i+1<k->l2[i]?=some a->l2[i+1]?=some b'->A3 a.ls b'.ls<0)->Fp.CA R (some ⟨b,o,none⟩) n c 0 0 none 0 0 none 0 0 k Z' from H (n-1) 1 Z1 rfl (Ai7 _) (by omega) hO (λi a b' hi=>by omega)
 intro g
 induction g with
 | zero=>
  intro k Z' hg h1 ma G Ax;have hr:HQ FF l=some l2:=vO rfl mN (vq λi a b' ha hb=>Ax i a b' (by have:=(Ai0.1 hb).1;omega) ha hb);rw[hr]at h;exact Fp.A1 ⟨λAx=>by omega,λ_=>h.ok _ Z' _ n c none 0 0 rfl G.up (G.rd DH.mono) Af.nil (by obtain⟨cs',AaF,_⟩:=G.1.2;exact BH.cap AaF) (Ai7 _)⟩
 | succ g ih=>
  intro k Z' hg h1 ma G Ax;have hr:=G.rd DH.mono;obtain⟨y,hy⟩:=hr.ex (k:=k) (by omega);obtain⟨x,QO⟩:=hr.ex (k:=k-1) (by omega);obtain⟨_,_,q1,m1,d1,gu,Sx,D7⟩:=DH.at hr QO;cases gu;obtain⟨_,_,q2,m2,d2,he2,AaG,G0⟩:=DH.at hr hy;cases he2;have e1:Int.toNat ((k:Int)-1)=k-1:=by omega
  refine Fp.A1 ⟨λ_=>⟨by unfold AL;omega,b,o,rfl,by omega,q1,m1,d1,by rw[e1];exact Sx.1,by omega,q2,m2,d2,by simpa using AaG.1,Kb D7 G0 λZ22 Aw=>⟨_,rfl,λhz=>?_,λhnz=>⟨by unfold AL;omega,?_⟩⟩⟩,λhh=>by omega⟩
  .refine h.no ?_ Z22 (G.up.trans Aw);have:HQ FF l=none:=vP rfl mN λhpw=>by
    obtain⟨h3,rfl⟩:=Ai0.1 QO;obtain⟨h4,rfl⟩:=Ai0.1 hy;exact Ajx.1 hpw (k-1) k h3 h4 (by omega) hz
   rw[this];rfl
  .have:=ih (k+1) Z22 (by omega) (by omega) (by omega) (G.mono DH.mono Aw) λi a b' hi ha hb=>by
    by_cases hik:i+1=k
    .rw[hik,hy]at hb;cases hb;rw[show i=k-1 by omega,QO]at ha;cases ha;have h5:=hle (k-1) _ _ QO (by rw[show k-1+1=k by omega];exact hy);have h6:=(Aa.RO x.ls y.ls);have h7:=(Aa.RO y.ls x.ls);omega
    .exact Ax i a b' (by omega) ha hb
   exact_mod_cast this
end
structure vr (x:Vv):Prop where
 el:∀e∈x.vec,BM e.ls/\0<=e.v
 rg:∀r∈x.Q5,BM r.ls/\0<r.vs.length
 len:x.vec.length+x.Q5.length<=100000000000
theorem BM.rd {Z2:Hp}{p:Option Addr}{n:Nat}{ls:List Lb}(h:BM ls)(G:Gy Z2 p n ls):n<=1000000:=by
 have h1:=h.1;have h2:ls.length=n:=G.1;omega
theorem AFU:∀w,(zeroValue 235).run prog w=.ok .nilFunc w:=λw=>by
 have h:prog.info? 235=some t235:=by kernel_rfl
 simp[zeroValue,typeInfo,h];rfl
section
variable {Z2 Z' Z0:Hp}{R:Rr}
theorem RP.at {p2:Option Addr}{n2 i:Nat}{l:List Vv}{x:Vv}(hr:Af 4 RP Z2 p2 n2 l)(hx:l[i]?=some x):∃b o p n c q m d,p2=some ⟨b,o,none⟩/\Z2.ld ⟨b,o+i*4,none⟩=some (.I x.kind)/\Z2.ld ⟨b,o+i*4+1,none⟩=some (.U x.v)/\Z2.ld ⟨b,o+i*4+2,none⟩=some (.slice p n c)/\Z2.ld ⟨b,o+i*4+3,none⟩=some (.slice q m d)/\Af 2 DH Z2 p n x.vec/\Af 2 Xv Z2 q m x.Q5:=by
 obtain⟨b,o,vs,hp,⟨p,n,c,q,m,d,rfl,h1,h2⟩,G⟩:=Af.idx hr hx;exact⟨b,o,p,n,c,q,m,d,hp,G.1,G.2.1,G.2.2.1,G.2.2.2.1,h1,h2⟩
theorem Xv.at {p:Option Addr}{n i:Nat}{l:List Rg}{x:Rg}(hr:Af 2 Xv Z2 p n l)(hx:l[i]?=some x):∃b o q m d q2 G d2,p=some ⟨b,o,none⟩/\Az Z2 b (o+i*2) [.slice q m d,.slice q2 G d2]/\Gy Z2 q m x.ls/\Dc .u64 Z2 q2 G x.vs/\G<=d2:=by
 obtain⟨b,o,vs,hp,⟨q,m,d,q2,G,d2,rfl,h1,h2,h3⟩,hl⟩:=Af.idx hr hx;exact⟨b,o,q,m,d,q2,G,d2,hp,hl,h1,h2,h3⟩
theorem AN.el {p:Option Addr}{n c:Nat}{xs:List El}{q:Option Addr}{m d:Nat}{ls:List Lb}{v:Int}{ty:TypeId}{Φ:Value->Hp->Prop}(ho:AN 2 DH Z0 Z2 p n c xs)(hr:Gy (Z2.del p) q m ls)(hn:n<=1000000000000)
  (G:∀p' c' Z',AN 2 DH Z0 Z' p' (n+1) c' (xs++[⟨ls,v⟩])->Ext (Z2.del p) (Z'.del p')->Φ (.slice p' (n+1) c') Z') {b:Nat} (hb:Z2 b=none) :
  AI prog (Builtin.append_ #[105,105] ty #[.slice p n c,.slice (some ⟨b,0,none⟩) 1 1]) (Z2.set b (.cells #[.slice q m d,.U v] 109 (0,0))) Φ:=by
 have he:DH (Z2.del p) [.slice q m d,.U v] ⟨ls,v⟩:=⟨q,m,d,rfl,hr⟩;exact AN.Ey DH.mono ho rfl (DH.one _ _ _ he) he (by omega) G hb
theorem ABe {n:Nd}{p q a l:Option Addr}{k c m d j e:Nat}{L:List Vv}{x:Vv}(hr:Af 4 RP Z2 l j L)(hx:L[0]?=some x)(hV:vr x)(h:Kf R Z2 (ABA FF x)):Spec prog 135 #[.pointer a,QR n p k c q m d,.slice l j e] Z2 R:=by
 have hj:0<j:=by have h1:L.length=j:=hr.1;have:=(Ai0.1 hx).1;omega
 obtain⟨b,o,pv,nv,cv,qv,mv,dv,rfl,h1,h2,h3,h4,h5,h6⟩:=RP.at hr hx;simp only[Akl,AkK]at h1 h2 h3 h4;refine B7.start λ_ _=>⟨b,o,rfl,by omega,x.kind,h1,λhk=>⟨by omega,x.v,h2,Ua ⟨_,rfl,?_⟩⟩,λhk=>⟨by omega,pv,nv,cv,h3,?_⟩⟩
 .unfold ABA at h;rw[Aiy hk]at h;exact h.ok _ Z2 none 0 0 none 0 0 rfl (.refl _) Af.nil Af.nil (Ai7 _) (Ai7 _)
 unfold ABA at h;rw[Aiw hk]at h;have hl:x.vec.length=nv:=h5.1;have hlen:=hV.len
 suffices H:∀g i:Nat,∀p8 n8 c8 Z',nv-i=g->i<=nv->AN 2 DH Z2 Z' p8 n8 c8 ((x.vec.take i).map λx=>⟨FR x.ls,FF.AA8 x.v⟩)->B7.AEv R 0 0 none 0 0 none 0 0 p8 n8 c8 pv nv cv nv i Z' from H nv 0 none 0 0 Z2 rfl (AjB _) (AN.nil (.refl _))
 intro g
 induction g with
 | zero=>
  intro i p8 n8 c8 Z' hg hi G;rw[Ai4 (by omega)]at G;have QT:=G.1.1;rw[Ajn]at QT;exact B7.sE ⟨λAx=>by omega,λ_=>F2 G (by omega) h.ay⟩
 | succ g ih=>
  intro i p8 n8 c8 Z' hg hi G;have CF:i<nv:=by omega
  obtain⟨y,hy⟩:=h5.ex CF;obtain⟨b1,o1,q1,m1,d1,rfl,Sx,D7⟩:=DH.at h5 hy;have MU:=hV.el y (Ai6 hy);have QT:=G.1.1;rw[Ajn,AjJ]at QT;refine B7.sE ⟨λ_=>⟨b1,o1,rfl,by omega,q1,m1,d1,y.v,by simpa using Sx.mono G.up,λ_=>HU (D7.mono CW.mono G.up) (MU.1.rd D7) λp' n' c' Z22 G0 Aw=>⟨_,_,_,rfl,Ua ⟨_,rfl,λaH AaH=>?_⟩⟩⟩,λhh=>by omega⟩;refine AN.el (G.mono DH.mono Aw) (G0.mono CW.mono (G.new Aw)) (by omega) (λp9 c9 Z3 Dh _=>⟨_,_,_,rfl,AO CF h5.big,ih (i+1) _ _ _ _ (by omega) (by omega) ?_⟩) AaH;rw[AR hy,AjP];exact Dh
theorem vt {n:Nd}{p q a l:Option Addr}{k c m d j e:Nat}{L:List Vv}{x:Vv}(hr:Af 4 RP Z2 l j L)(hx:L[0]?=some x)(hV:vr x)(hv:x.vec≠[]->n.op=11\/n.op=12)(hw:x.Q5≠[]->1<=n.op/\n.op<=10)
  (h:Kf R Z2 ((HQ FF (cZ FF n x)).map λl=>⟨2,0,l,[]⟩)):Spec prog 132 #[.pointer a,QR n p k c q m d,.slice l j e] Z2 R:=by
 have hj:0<j:=by have h1:L.length=j:=hr.1;have:=(Ai0.1 hx).1;omega
 obtain⟨b,o,pv,nv,cv,qv,mv,dv,rfl,h1,h2,h3,h4,h5,h6⟩:=RP.at hr hx;simp only[Akl,AkK]at h1 h2 h3 h4;have hl:x.vec.length=nv:=h5.1;have hlr:x.Q5.length=mv:=h6.1;have hlen:=hV.len;refine Aj.start λ_ _=>Cy λmb hmb=>⟨mb,rfl,?_⟩;have s0:=Stg.fresh hmb;refine s0.put (by simp) λZ1 s1=>s1.put (by simp) λZ22 s2=>?_;have Aw:=s2.1;have hml:=s2.2.2;have cont:∀v21,(n.op=11->v21=.func (.func 156) #[] #[])->(n.op=12->v21=.func (.func 157) #[] #[])->∃v,v=v21/\Pq (some ⟨b,o,none⟩) λTR U5=>In 0 (j:Int)/\LS Z22 TR (U5+2) λeR n25 eU=>Aj.Dq R (aD TR U5) j e n.kind n.op n.text p k c n.width n.back n.GH q m d n.bool n.parts 0 0 none 0 0 none 0 0 none 0 0 v eR n25 eU (n25:Int) 0 Z22:=λv21 ha hf=>by
  refine⟨v21,rfl,b,o,rfl,by omega,pv,nv,cv,Aw.ld h3,?_⟩
  let g1:El->El:=λx=>⟨FR x.ls,if n.op=11 then FF.abs x.v else FF.floor x.v⟩
  let g2:Rg->Option El:=λs=>(FF.over n.op s.vs x.v).map λv=>⟨FR s.ls,v⟩
  have hc:cZ FF n x=x.vec.map g1++x.Q5.filterMap g2:=rfl;rw[hc]at h;have second:∀g i:Nat,∀fb p8 n8 c8 Z',mv-i=g->i<=mv->YM (Z'.del p8) fb->AN 2 DH Z2 Z' p8 n8 c8 (x.vec.map g1++(x.Q5.take i).filterMap g2)->Aj.Fg R (aD b o) j e n.kind n.op n.text p k c n.width n.back n.GH q m d n.bool n.parts 0 0 none 0 0 none 0 0 p8 n8 c8 (aD fb 0) 11 11 qv mv dv mv i Z':=by
   intro g
   induction g with
   | zero=>
    intro i fb p8 n8 c8 Z' hg hi hF G;rw[Ai4 (by omega)]at G;have QT:=G.1.1;rw[Ai5,Ajn]at QT;have h9:=Ajh g2 x.Q5;exact Aj.FY ⟨λAx=>by omega,λ_=>F2 G (by omega) h.ay⟩
   | succ g ih=>
    intro i fb p8 n8 c8 Z' hg hi hF G;have CF:i<mv:=by omega
    obtain⟨y,hy⟩:=h6.ex CF;obtain⟨b1,o1,q1,m1,d1,q2,m2,d2,rfl,Sx,D7,G0,kr⟩:=Xv.at h6 hy;have MU:=hV.rg y (Ai6 hy);have Ht:=hw λe=>by rw[e]at hlr;simp at hlr;omega
    have hlv:y.vs.length=m2:=G0.1;have QT:=G.1.1;rw[Ai5,Ajn]at QT;have h9:=Ajh g2 (x.Q5.take i);rw[AjJ]at h9;have next:∀p9 n9 c9 Z3,YM (Z3.del p9) fb->AN 2 DH Z2 Z3 p9 n9 c9 (x.vec.map g1++(x.Q5.take i).filterMap g2++(g2 y).toList)->Aj.QK R (aD b o) j e n.kind n.op n.text p k c n.width n.back n.GH q m d n.bool n.parts 0 0 none 0 0 none 0 0 p9 n9 c9 (aD fb 0) 11 11 (aD b1 o1) mv dv mv i Z3:=λp9 n9 c9 Z3 hF3 Dh=>
     Aj.LH ⟨AO CF h6.big,ih (i+1) _ _ _ _ _ (by omega) (by omega) hF3 (by rw[Ib hy,<-AjT];exact Dh)⟩
    refine Aj.FY ⟨λ_=>⟨b1,o1,rfl,by omega,q1,m1,d1,q2,m2,d2,by simpa using Sx.mono G.up,λ_=>⟨fb,0,rfl,by omega,vo (w:=x.v) Ht (hF.mono (Ext.Kt _ _)) (G0.mono G.up) (by omega) kr hj (G.up.ld h2) λz ok Z3 hz B0=>⟨z,ok,rfl,λAW=>?_,λAW=>next _ _ _ _ (hF.mono (B0.del _)) ?_⟩⟩⟩,λhh=>by omega⟩
    .have hz':FF.over n.op y.vs x.v=some z:=by
      rcases hz with ⟨h7,_⟩|⟨_,h8⟩
      .exact h7
      .rw[AW]at h8;cases h8
     refine HU (D7.mono CW.mono (G.up.trans B0)) (MU.1.rd D7) λp' n' c' Z4 gw KB=>⟨_,_,_,rfl,λb73 ALP=>?_⟩;have Dh:=G.mono DH.mono B0;refine AN.el (Dh.mono DH.mono KB) (gw.mono CW.mono (Dh.new KB)) (by omega) (λp9 c9 Z5 SO gn=>⟨_,_,_,rfl,next _ _ _ _ (hF.mono (((B0.trans KB).del _).trans gn)) ?_⟩) ALP;rw[show g2 y=some ⟨FR y.ls,z⟩ by show(FF.over n.op y.vs x.v).map _=_;rw[hz'];rfl];exact SO
    .have hz':FF.over n.op y.vs x.v=none:=by
      rcases hz with ⟨_,h8⟩|⟨h7,_⟩
      .rw[AW]at h8;cases h8
      .exact h7
     rw[show g2 y=none by show(FF.over n.op y.vs x.v).map _=_;rw[hz'];rfl];simpa using G.mono DH.mono B0
  suffices H:∀g i:Nat,∀p8 n8 c8 Z',nv-i=g->i<=nv->AN 2 DH Z2 Z' p8 n8 c8 ((x.vec.take i).map g1)->Aj.Dq R (aD b o) j e n.kind n.op n.text p k c n.width n.back n.GH q m d n.bool n.parts 0 0 none 0 0 none 0 0 p8 n8 c8 v21 pv nv cv nv i Z' from H nv 0 none 0 0 Z22 rfl (AjB _) (AN.nil Aw)
  intro g
  induction g with
  | zero=>
   intro i p8 n8 c8 Z' hg hi G;rw[Ai4 (by omega)]at G;refine Aj.Bk ⟨λAx=>by omega,λ_=>YO λfb Z3 hF B0=>⟨_,_,_,rfl,b,o,rfl,by omega,qv,mv,dv,(G.up.trans B0).ld h4,second mv 0 fb p8 n8 c8 Z3 rfl (AjB _) (hF.mono (G.new B0)) (by simpa using G.mono DH.mono B0)⟩⟩
  | succ g ih=>
   intro i p8 n8 c8 Z' hg hi G;have CF:i<nv:=by omega
   obtain⟨y,hy⟩:=h5.ex CF;obtain⟨b1,o1,q1,m1,d1,rfl,Sx,D7⟩:=DH.at h5 hy;have MU:=hV.el y (Ai6 hy);have QT:=G.1.1;rw[Ajn,AjJ]at QT;have Ht:=hv λe=>by rw[e]at hl;simp at hl;omega
   refine Aj.Bk ⟨λ_=>⟨b1,o1,rfl,by omega,q1,m1,d1,y.v,by simpa using Sx.mono G.up,λ_=>HU (D7.mono CW.mono G.up) (MU.1.rd D7) λp' n' c' Z3 Uf B0=>⟨_,_,_,rfl,?_⟩⟩,λhh=>by omega⟩;have app:∀z,(g1 y).v=z->Ab R (CI .u64 λaS AE=>Al AE λaT=>AI prog (Builtin.append_ #[105,105] 105 #[.slice p8 n8 c8,(.slice (aD aT 0) 1 1)]) (Hp.set AE aT (.cells #[.slice p' n' c',.U aS] 109 (0,0))) (CS λrP n41 jK AK=>AL ((i:Int)+1)/\Aj.Dq R (aD b o) j e n.kind n.op n.text p k c n.width n.back n.GH q m d n.bool n.parts 0 0 none 0 0 none 0 0 rP n41 jK v21 (aD b1 o1) nv cv nv ((i:Int)+1) AK)) (.returned (.U z)) Z3:=λz hz=>by
    refine⟨z,rfl,λaT vu=>AN.el (G.mono DH.mono B0) (Uf.mono CW.mono (G.new B0)) (by omega) (λp9 c9 Z5 SO gn=>⟨_,_,_,rfl,AO CF h5.big,ih (i+1) _ _ _ _ (by omega) (by omega) ?_⟩) vu⟩;rw[AR hy,AjP];have:g1 y=⟨FR y.ls,z⟩:=by rw[<-hz]
    simpa[this] using SO
   rcases Ht with Ht|Ht
   .exact⟨156,#[],#[],ha Ht,SH.en,ABG MU.2 (app _ (by show(if n.op=11 then oY y.v else _)=_;rw[Aiy Ht]))⟩
   .exact⟨157,#[],#[],hf Ht,LJ.en,od (app _ (by show(if n.op=11 then oY y.v else fO y.v)=_;rw[Aiw (by omega)]))⟩
 refine hml.look AFU (λAZ=>cont _ (λh9=>?_) λh9=>?_) λv hv=>?_
 .exact absurd h9.symm (AZ (11,.func (.func 156) #[] #[]) (by simp))
 .exact absurd h9.symm (AZ (12,.func (.func 157) #[] #[]) (by simp))
 .simp only[Aj9,Ajp,Ai1,AjK,Ajl,Ajs]at hv;rcases hv with ⟨h9,rfl⟩|⟨h9,rfl⟩
  .exact cont _ (λ_=>rfl) λh8=>by omega
  .exact cont _ (λh8=>by omega) λ_=>rfl
end
end TwW
end
