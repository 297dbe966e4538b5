/-
  Part 4 of the proof that the law QuerierOrderUptoCardSaid of the given program answers true for every input of the given statement; the input reads behind the call as it did. (The texts: packed from 31 texts. Names are shortened by the packing program, for the bound on size.)
-/
import Derived.Test.YtdlkodiemlmmiaaGreatDoorA3
import Derived.Lib.Bytealg
import Derived.Lib.Split
import Derived.Lib.Index
import Derived.Shelf.Strings.Search3
import Derived.Shelf.Strings.Split
import Derived.Lib.IndexMore
import Derived.Shelf.SlSortCmp.NoneTotal
import Derived.Shelf.SlGeneric
import Derived.Ground.SlsfProg
set_option linter.all false
section
namespace TwW
open Go Tw
structure Mt where
 kind:Int
 name:ByteArray
 val:ByteArray
structure Nd where
 kind:Int
 op:Int
 text:ByteArray
 mt:List Mt
 width:Int
 back:Int
 GU:Int
 names:List ByteArray
 bool:Bool
 parts:Int
structure Sr where
 ls:List Lb
 ps:List (Int×Int)
structure El where
 ls:List Lb
 v:Int
structure Rg where
 ls:List Lb
 vs:List Int
structure Vv where
 kind:Int
 v:Int
 vec:List El
 RG:List Rg
structure Fl where
 num:ByteArray->Int
 abs:Int->Int
 floor:Int->Int
 whole:Int->Int
 ABo:Int->Int
 over:Int->List Int->Int->Option Int
 fold:Int->List Int->Int
 VN:Int->Int->Int->Int×Bool
 vk:List Mt->List Lb->Bool
 cmpL:List Lb->List Lb->Int
abbrev MY:Int:=9218868437227405314
def Eb:ByteArray:=⟨#[95,95,110,97,109,101,95,95]⟩
def JZ (ls:List Lb):ByteArray:=strOfNums (ALh ls)
section
variable {α:Type}
def fQ:List (ByteArray×α)->ByteArray->α->List (ByteArray×α)
 | [],k,x=>[(k,x)]
 | (a,b)::l,k,x=>if a=k then(k,x)::l else(a,b)::fQ l k x
def Fb:List (ByteArray×α)->ByteArray->Option α
 | [],_=>none
 | (a,b)::l,k=>if a=k then some b else Fb l k
end
def Fc (ls:List Lb):List Lb:=ls.filter λx=>!Fa x.1 [Eb]
def ka (ns:List ByteArray)(ls:List Lb):List Lb:=ls.filter λx=>Fa x.1 ns
def ke (ns:List ByteArray)(ls:List Lb):List Lb:=ls.filter λx=>!Fa x.1 ns
section
variable (F:Fl)
def pQ (x:El):List El->List El
 | []=>[x]
 | y::l=>if F.cmpL x.ls y.ls<=0 then x::y::l else y::pQ x l
def ABp (l:List El):List El:=l.foldr (pQ F) []
def Ha (l:List El):Option (List El):=if l.Pairwise (λa b=>F.cmpL a.ls b.ls≠0) then some (ABp F l) else none
def IG (ps:List (Int×Int))(G I9:Int):List (Int×Int):=ps.filter λp=>decide (G<p.1)&&decide (p.1<=I9)
def fR (n:Nd)(ss:List Sr)(at_:Int):List El:=ss.filterMap λs=>match (IG s.ps (at_-n.back-300) (at_-n.back)).getLast? with
 | none=>none
 | some p=>if p.2=MY\/F.vk n.mt s.ls=false then none else some ⟨s.ls,p.2⟩
def pR (n:Nd)(ss:List Sr)(at_:Int):List Rg:=ss.filterMap λs=>
 let vs:=((IG s.ps (at_-n.back-n.width) (at_-n.back)).filter λp=>decide (p.2≠MY)).map Prod.snd
 bif !vs.isEmpty&&F.vk n.mt s.ls then some ⟨s.ls,vs⟩ else none
def cp (n:Nd)(p:Vv):List El:=(p.vec.map λx=>⟨Fc x.ls,if n.op=11 then F.abs x.v else F.floor x.v⟩)++p.RG.filterMap λs=>(F.over n.op s.vs p.v).map λv=>⟨Fc s.ls,v⟩
def IH (n:Nd)(ls:List Lb):List Lb:=if n.GU=1 then ka n.names ls else if n.GU=2 then Fc (ke n.names ls) else[]
def Qa (ls:List Lb)(v:Int):List Rg->List Rg
 | []=>[⟨ls,[v]⟩]
 | g::l=>if JZ g.ls=JZ ls then⟨g.ls,g.vs++[v]⟩::l else g::Qa ls v l
def vm (n:Nd)(p:Vv):List El:=(p.vec.foldl (λgs x=>Qa (IH n x.ls) x.v gs) []).map λg=>⟨g.ls,F.fold n.op g.vs⟩
def Hz (op:Int):Bool:=decide (5<=op)&&decide (op<=10)
def kg (n:Nd)(vec:List El)(f:Int->Int×Bool):List El:=vec.filterMap λx=>
 if Hz n.op=false\/n.bool=true then some ⟨Fc x.ls,(f x.v).1⟩ else if(f x.v).2 then some x else none
def S9 (n:Nd)(ls:List Lb):List Lb:=if n.GU=3 then ka n.names ls else Fc (ke n.names ls)
def fS (n:Nd)(l:List El):List (ByteArray×El):=l.foldl (λm x=>fQ m (JZ (S9 n x.ls)) x) []
def cu (n:Nd)(l:List El)(k:List Lb):Option El:=Fb (fS n l) (JZ k)
def vo (n:Nd)(l:List El):Bool:=decide ((fS n l).length=l.length)
def X0 (n:Nd)(x y:List El):List El:=
 (x.filter λe=>decide (n.op=12)||((cu n y (S9 n e.ls)).isSome==decide (n.op=11)))++y.filter λe=>(cu n x (S9 n e.ls)).isNone&&decide (n.op=12)
def cw (n:Nd)(x y:List El):Option (List El):=if vo n x&&vo n y then some (x.filterMap λe=>match cu n y (S9 n e.ls) with
 | none=>none
 | some o=>if Hz n.op=false\/n.bool=true then some ⟨S9 n e.ls,(F.VN n.op e.v o.v).1⟩ else if(F.VN n.op e.v o.v).2 then some e else none) else none
def AFG (n:Nd)(x y:Vv):Option Vv:=
 if x.kind=1/\y.kind=1 then some ⟨1,(F.VN n.op x.v y.v).1,[],[]⟩
 else((if x.kind=1 then some (kg n y.vec (F.VN n.op x.v)) else if y.kind=1 then some (kg n x.vec λv=>F.VN n.op v y.v) else if 11<=n.op/\n.op<=13 then some (X0 n x.vec y.vec) else cw F n x.vec y.vec).bind (Ha F)).map λl=>⟨2,0,l,[]⟩
def ABq (p:Vv):Option Vv:=if p.kind=1 then some ⟨1,F.ABo p.v,[],[]⟩ else(Ha F (p.vec.map λx=>⟨Fc x.ls,F.ABo x.v⟩)).map λl=>⟨2,0,l,[]⟩
def Sd (ss:List Sr)(at_:Int)(n:Nd)(l:List Vv):Option Vv:=
 if n.kind=1 then some ⟨1,F.num n.text,[],[]⟩
 else if n.kind=2 then some ⟨2,0,fR F n ss at_,[]⟩
 else if n.kind=3 then some ⟨3,F.whole n.width,[],pR F n ss at_⟩
 else match l with
  | [p]=>if n.kind=4 then(Ha F (cp F n p)).map λl=>⟨2,0,l,[]⟩ else if n.kind=5 then(Ha F (vm F n p)).map λl=>⟨2,0,l,[]⟩ else if n.kind=7 then ABq F p else none
  | [p,q]=>if n.kind=6 then AFG F n p q else none
  | _=>none
def VO (ss:List Sr)(at_:Int):List Nd->List Vv->Option (List Vv)
 | [],st=>some st
 | n::t,st=>(Sd F ss at_ n (st.drop (st.length-n.parts.toNat))).bind λv=>VO ss at_ t (st.take (st.length-n.parts.toNat)++[v])
def IZ (t:List Nd)(ss:List Sr)(at_:Int):Option (List El):=(VO F ss at_ t []).bind λst=>st.head?.map λv=>if v.kind=1 then[⟨[],v.v⟩] else v.vec
end
section
variable {F:Fl}
end
end TwW
end
section
namespace TwW
open Go Tw
structure Qz {α:Type}(c:α->α->Int):Prop where
 eq:∀x y,c x y=0↔x=y
 Qb:∀x y,c x y<0↔0<c y x
 trans:∀x y z,c x y<0->c y z<0->c x z<0
def Ki {α:Type}(c:α->α->Int):List α->List α->Int
 | [],[]=>0
 | [],_::_=>-1
 | _::_,[]=>1
 | x::l,y::m=>if c x y=0 then Ki c l m else c x y
def X5 {α β:Type}(c:α->α->Int)(d:β->β->Int)(x y:α×β):Int:=if c x.1 y.1=0 then d x.2 y.2 else c x.1 y.1
theorem Qz.Ki {α:Type}{c:α->α->Int}(h:Qz c):Qz (Ki c):=by
 refine⟨λl=>?_,λl=>?_,λl=>?_⟩
 .induction l with
  | nil=>intro m;cases m<;>simp[TwW.Ki]
  | cons x l ih=>
   intro m;cases m with
   | nil=>simp[TwW.Ki]
   | cons y m=>
    unfold TwW.Ki;by_cases hc:c x y=0
    .rw[Ajl hc,ih];simp[(h.eq x y).1 hc]
    .rw[Ajj hc];simp[hc,mt (h.eq x y).2 hc]
 .induction l with
  | nil=>intro m;cases m<;>simp[TwW.Ki]
  | cons x l ih=>
   intro m;cases m with
   | nil=>simp[TwW.Ki]
   | cons y m=>
    unfold TwW.Ki;by_cases hc:c x y=0
    .have G9:=(h.eq x y).1 hc;rw[Ajl hc,Ajl ((h.eq y x).2 G9.symm),ih]
    .have hc':c y x≠0:=λe=>hc ((h.eq x y).2 ((h.eq y x).1 e).symm);rw[Ajj hc,Ajj hc',h.Qb]
 .induction l with
  | nil=>
   intro m k h1 G;cases m with
   | nil=>simp[TwW.Ki]at h1
   | cons y m=>
    cases k with
    | nil=>simp[TwW.Ki]at G
    | cons z k=>simp[TwW.Ki]
  | cons x l ih=>
   intro m k h1 G;cases m with
   | nil=>simp[TwW.Ki]at h1
   | cons y m=>
    cases k with
    | nil=>simp[TwW.Ki]at G
    | cons z k=>
     unfold TwW.Ki at h1 G ⊢;by_cases G9:c x y=0
     .rw[Ajl G9]at h1;have e:=(h.eq x y).1 G9;subst e;by_cases Rq:c x z=0
      .rw[Ajl Rq]at G ⊢;exact ih m k h1 G
      .rw[Ajj Rq]at G ⊢;exact G
     .rw[Ajj G9]at h1;by_cases Rq:c y z=0
      .rw[Ajl Rq]at G;have e:=(h.eq y z).1 Rq;subst e;rw[Ajj G9];exact h1
      .rw[Ajj Rq]at G;have h3:=h.trans x y z h1 G;rw[Ajj (by omega)];exact h3
theorem Qz.X5 {α β:Type}{c:α->α->Int}{d:β->β->Int}(h:Qz c)(g:Qz d):Qz (X5 c d):=by
 refine⟨λx y=>?_,λx y=>?_,λx y z h1 h2=>?_⟩
 .obtain⟨x1,x2⟩:=x;obtain⟨y1,y2⟩:=y;unfold TwW.X5;by_cases G:c x1 y1=0
  .simp only[G,Ajl];rw[g.eq];simp[(h.eq x1 y1).1 G]
  .simp only[G,AlE];simp[G,mt (h.eq x1 y1).2 G]
 .unfold TwW.X5;by_cases G:c x.1 y.1=0
  .rw[Ajl G,Ajl ((h.eq _ _).2 ((h.eq _ _).1 G).symm),g.Qb]
  .rw[Ajj G,Ajj (λe=>G ((h.eq _ _).2 ((h.eq _ _).1 e).symm)),h.Qb]
 .unfold TwW.X5 at h1 h2 ⊢;by_cases G9:c x.1 y.1=0
  .rw[Ajl G9]at h1;rw[(h.eq _ _).1 G9];by_cases Rq:c y.1 z.1=0
   .rw[Ajl Rq]at h2 ⊢;exact g.trans _ _ _ h1 h2
   .rw[Ajj Rq]at h2 ⊢;exact h2
  .rw[Ajj G9]at h1;by_cases Rq:c y.1 z.1=0
   .rw[Ajl Rq]at h2;rw[<-(h.eq _ _).1 Rq,Ajj G9];exact h1
   .rw[Ajj Rq]at h2;have h3:=h.trans _ _ _ h1 h2;rw[Ajj (by omega)];exact h3
def pS (a b:UInt8):Int:=if a<b then -1 else if b<a then 1 else 0
theorem fT {a b:UInt8}:pS a b<0↔a.toNat<b.toNat:=by
 unfold pS;by_cases h:a<b
 .have:=AlY.1 h;simp[h,this]
 .have G:=mt AlY.2 h;rw[Ajj h];by_cases g:b<a<;>simp[g]<;>omega
theorem sq {a b:UInt8}:0<pS a b↔b.toNat<a.toNat:=by
 unfold pS;by_cases h:a<b
 .have:=AlY.1 h;simp[h];omega
 .rw[Ajj h];by_cases g:b<a
  .have:=AlY.1 g;simp[g,this]
  .have G:=mt AlY.2 g;simp[g];omega
theorem AFH:Qz pS:=by
 refine⟨λx y=>?_,λx y=>?_,λx y z G h2=>?_⟩
 .have G:=@fT x y;have h2:=@sq x y;rw[<-Amx];omega
 .rw[fT,sq]
 .rw[fT]at *;omega
theorem ABr:∀a b:List UInt8,Ki pS a b=Lib.compareBytes a b
 | [],[]=>rfl
 | [],_::_=>rfl
 | _::_,[]=>rfl
 | x::l,y::m=>by
  unfold Ki Lib.compareBytes;rw[<-ABr l m];unfold pS;by_cases G:x<y
  .simp[G]
  .by_cases h2:y<x<;>simp[G,h2]
def Mm (a b:ByteArray):Int:=Lib.compareBytes a.data.toList b.data.toList
theorem sr:Qz Mm:=by
 have h:=AFH.Ki;refine⟨λx y=>?_,λx y=>?_,λx y z G h2=>?_⟩
 .unfold Mm;rw[<-ABr,h.eq];exact⟨λe=>by cases x;cases y;simp at e;rw[e],λe=>by rw[e]⟩
 .unfold Mm;rw[<-ABr,<-ABr];exact h.Qb _ _
 .unfold Mm at *;rw[<-ABr]at *;exact h.trans _ _ _ G h2
def Ay:List Lb->List Lb->Int:=Ki (X5 Mm Mm)
theorem Ad:Qz Ay:=(sr.X5 sr).Ki
section
variable {F:Fl}(hF:F.cmpL=Ay)
theorem Tp (x:El):∀l:List El,(pQ F x l).Perm (x::l)
 | []=>Am5 _
 | y::l=>by
  unfold pQ;split
  .exact Am5 _
  .exact((Tp x l).cons y).trans (List.Perm.swap ..)
theorem Lt:∀l:List El,(ABp F l).Perm l
 | []=>Am5 _
 | x::l=>(Tp x _).trans ((Lt l).cons x)
include hF
theorem le_trans' {x y z:El}(h1:F.cmpL x.ls y.ls<=0)(h2:F.cmpL y.ls z.ls<=0):F.cmpL x.ls z.ls<=0:=by
 rw[hF]at *;rcases Int.lt_or_eq_of_le h1 with G|G
 .rcases Int.lt_or_eq_of_le h2 with g2|g2
  .exact AnL (Ad.trans _ _ _ G g2)
  .rw[<-(Ad.eq _ _).1 g2];exact h1
 .rw[(Ad.eq _ _).1 G];exact h2
theorem Ui (x:El):∀l:List El,l.Pairwise (λa b=>F.cmpL a.ls b.ls<=0)->(pQ F x l).Pairwise λa b=>F.cmpL a.ls b.ls<=0
 | [],_=>by simp[pQ]
 | y::l,h=>by
  rw[AkN]at h;unfold pQ;split
  .rename_i G9;refine AkN.2 ⟨λz G=>?_,AkN.2 h⟩;rcases Ajo.1 G with rfl|G
   .exact G9
   .exact le_trans' hF G9 (h.1 z G)
  .rename_i G9;refine AkN.2 ⟨λz G=>?_,Ui x l h.2⟩;rcases Ajo.1 ((Tp x l).mem_iff.1 G) with rfl|G
   .have h1:0<F.cmpL z.ls y.ls:=by omega
    rw[hF]at *;exact AnL ((Ad.Qb _ _).2 h1)
   .exact h.1 z G
theorem Se:∀l:List El,(ABp F l).Pairwise λa b=>F.cmpL a.ls b.ls<=0
 | []=>List.Pairwise.nil
 | x::l=>Ui hF x _ (Se l)
theorem vq {l m:List El}(hp:m.Perm l)(hs:m.Pairwise λa b=>F.cmpL a.ls b.ls<0):Ha F l=some m:=by
 have Av:m.Pairwise λa b=>F.cmpL a.ls b.ls≠0:=hs.imp λh=>by omega
 have AaK:l.Pairwise λa b=>F.cmpL a.ls b.ls≠0:=(hp.pairwise_iff fun {a b} h e=>by
  rw[hF]at *;exact h ((Ad.eq _ _).2 ((Ad.eq _ _).1 e).symm)).1 Av
 unfold Ha;rw[Ajl AaK];refine Ajw some (List.Perm.eq_of_pairwise (le:=λa b:El=>F.cmpL a.ls b.ls<=0) (λa b ha hb h1 h2=>?_) (Se hF l) (hs.imp λh=>AnL h) ((Lt l).trans hp.symm));have yM:F.cmpL a.ls b.ls=0:=by
  refine Int.le_antisymm h1 (Int.not_lt.1 λh3=>?_);rw[hF]at *;have:=(Ad.Qb _ _).1 h3;omega
 have ham:=((Lt (F:=F) l).trans hp.symm).mem_iff.1 ha;obtain⟨i,hi,rfl⟩:=AmM.1 ham;obtain⟨j,hj,rfl⟩:=AmM.1 hb;have G:=Akm.1 Av;rcases Amn i j with h|h|h
 .exact absurd yM (G i j hi hj h)
 .subst h;rfl
 .have h4:=G j i hj hi h;rw[hF]at yM h4;exact absurd ((Ad.eq _ _).2 ((Ad.eq _ _).1 yM).symm) h4
theorem vr {l m:List El}(hp:m.Perm l)(h:¬m.Pairwise λa b=>F.cmpL a.ls b.ls≠0):Ha F l=none:=by
 unfold Ha;rw[Ajj λG=>h ((hp.pairwise_iff fun {a b} h e=>by
  rw[hF]at *;exact h ((Ad.eq _ _).2 ((Ad.eq _ _).1 e).symm)).2 G)]
end
end TwW
end
section
namespace TwW
open Go Tw
def GM (c:UInt8)(s:ByteArray):List ByteArray:=Lib.splitB ⟨#[c]⟩ 0 (Lib.countB s ⟨#[c]⟩) s
def vt:List ByteArray->ByteArray->Bool
 | [],_=>true
 | t::r,s=>if Lib.index s.data.toList t.data.toList<0 then false else vt r (s.extract ((Lib.index s.data.toList t.data.toList).toNat+t.size) s.size)
def isK (l:List ByteArray)(s:ByteArray):Bool:=
 let a:=l.head?.getD ⟨#[]⟩
 let z:=l.getLast?.getD ⟨#[]⟩
 if l.length=1 then decide (s=a) else
  if s.size<a.size+z.size\/s.extract 0 a.size≠a\/s.extract (s.size-z.size) s.size≠z then false else vt l.tail.dropLast (s.extract a.size (s.size-z.size))
def kh (p s:ByteArray):Bool:=(GM 124 p).any λx=>isK (GM 42 x) s
def Uj (m:Mt)(ls:List Lb):Bool:=
 let v:=Fp ls m.name
 if m.kind=1 then decide (v=m.val) else if m.kind=2 then decide (v≠m.val) else if m.kind=3 then kh m.val v else if m.kind=4 then !kh m.val v else false
def Q3 (ms:List Mt)(ls:List Lb):Bool:=ms.all λm=>Uj m ls
def C8 (u:UInt8):Bool:=decide (48<=u.toNat/\u.toNat<=57)
end TwW
end
section
namespace TwW
open Go Tw
def Ma (v G:Int):Bool:=decide (G<=v)&&decide (v<2147483648)
section
variable (ABs:ByteArray->Bool)(Ad9:ByteArray->Bool)
def Tq (n:Nd):Bool:=n.names.all ABs&&(decide (n.names.length=0)||decide (n.GU≠0))
def GH (ms:List Mt):Int:=if 8<ms.length then 41 else if ms.all (λm=>decide (1<=m.kind/\m.kind<=4)&&ABs m.name&&decide (m.val.size<=256)) then 0 else 40
end
end TwW
end
section
namespace TwW
open Go Tw Go.RowKit Go.Proofs.Tryz
abbrev Pt:=Int×Int
def DX (_:Hp)(vs:List Value)(x:Pt):Prop:=vs=[.I x.1,.U x.2]
theorem DX.mono:Hk DX:=λ_ _ _ _ _ h=>h
def BX (Z22:Hp)(vs:List Value)(s:Sr):Prop:=∃p n c q m d,vs=[.slice p n c,.slice q m d]/\HG Z22 p n s.ls/\Ae 2 DX Z22 q m s.ps/\m<=d
theorem BX.mono:Hk BX:=λ_ _ _ _ G ⟨p,n,c,q,m,d,hv,h1,h2,h3⟩=>⟨p,n,c,q,m,d,hv,h1.mono Cg.mono G,h2.mono DX.mono G,h3⟩
def Js (_:Hp)(vs:List Value)(m:Mt):Prop:=vs=[.I m.kind,.string m.name,.string m.val]
theorem Js.mono:Hk Js:=λ_ _ _ _ _ h=>h
def Ia (Z22:Hp)(vs:List Value)(n:Nd):Prop:=∃p k c q m d,vs=[.I n.kind,.I n.op,.string n.text,.slice p k c,.I n.width,.I n.back,.I n.GU,.slice q m d,.bool n.bool,.I n.parts]/\Ae 3 Js Z22 p k n.mt/\Fo 1 Z22 q m (n.names.map .string)
theorem Ia.mono:Hk Ia:=λ_ _ _ _ G ⟨p,k,c,q,m,d,hv,h1,h2⟩=>⟨p,k,c,q,m,d,hv,h1.mono Js.mono G,h2.mono G⟩
def DJ (Z22:Hp)(vs:List Value)(x:El):Prop:=∃p n c,vs=[.slice p n c,.U x.v]/\HG Z22 p n x.ls
theorem DJ.mono:Hk DJ:=λ_ _ _ _ G ⟨p,n,c,hv,h⟩=>⟨p,n,c,hv,h.mono Cg.mono G⟩
def X9 (Z22:Hp)(vs:List Value)(x:Rg):Prop:=∃p n c q m d,vs=[.slice p n c,.slice q m d]/\HG Z22 p n x.ls/\DB .u64 Z22 q m x.vs/\m<=d
theorem X9.mono:Hk X9:=λ_ _ _ _ G ⟨p,n,c,q,m,d,hv,h1,h2,h3⟩=>⟨p,n,c,q,m,d,hv,h1.mono Cg.mono G,h2.mono G,h3⟩
def RW (Z22:Hp)(vs:List Value)(x:Vv):Prop:=∃p n c q m d,vs=[.I x.kind,.U x.v,.slice p n c,.slice q m d]/\Ae 2 DJ Z22 p n x.vec/\Ae 2 X9 Z22 q m x.RG
theorem RW.mono:Hk RW:=λ_ _ _ _ G ⟨p,n,c,q,m,d,hv,h1,h2⟩=>⟨p,n,c,q,m,d,hv,h1.mono DJ.mono G,h2.mono X9.mono G⟩
theorem Ae.sub {α:Type}{s:Nat}{E:Hp->List Value->α->Prop}{Z22:Hp}{p:Option Addr}{n c i m:Nat}{xs:List α}(h:Ae s E Z22 p n xs)(hs:0<s)(G:i+m<=n)(hc:n<=c):Ae s E Z22 (Ee p i c s) m ((xs.drop i).take m):=by
 obtain⟨h1,cs,⟨h2,h3,h4⟩,h5,h6⟩:=h;refine⟨by rw[AkA,Aj6];omega,(cs.drop (i*s)).take (m*s),⟨?_,by omega,?_⟩,?_,λj x hj=>?_⟩
 .have:i*s+m*s<=n*s:=by rw[<-Akw];exact AkZ _ G
  rw[AkA,Aj6];omega
 .rcases Amf m with hm|hm
  .exact .inl hm
  .rcases h4 with h4|⟨b,o,rfl,h4⟩
   .omega
   .refine .inr ⟨b,o+i*s,?_,?_⟩
    .unfold Ee;rw[Ajj (by omega)];simp[Cv]
    .exact h4.part
 .have:i*s+m*s<=n*s:=by rw[<-Akw];exact AkZ _ G
  rw[AkA,Aj6,AkA,Aj6];have:min m (xs.length-i)=m:=by omega
  rw[this];omega
 .rw[AkE]at hj;split at hj
  .rename_i hjm;rw[AkL]at hj;have:=h6 (i+j) x hj;have e:((((cs.drop (i*s)).take (m*s)).drop (j*s)).take s)=(cs.drop ((i+j)*s)).take s:=by
    have hle:j*s+s<=m*s:=by rw[<-Ale];exact AkZ _ hjm
    rw[List.drop_take,Am2,Am4,Akw]
    congr 1
    omega
   rw[e];exact this
  .cases hj
section
variable {Z22 Z' O2:Hp}{R:Rr}
theorem vu {a b:ByteArray}:YN prog 124 #[.string a,.string b] Z22 (.I (Mm a b)):=λw _=>by
 rw[run_callFunc_extern Go.Proofs.Tryz.func124 (by kernel_rfl) (by kernel_rfl) (by kernel_rfl) (e:=Extern.BytealgCompare.compare) (by kernel_rfl),Lib.run_compareString];rfl
theorem Uk [GO]{a b:ByteArray}(h:R (.returned (.I (Mm a b))) Z22):Spec prog 75 #[.string a,.string b] Z22 R:=
 MT.start (DN.start (.y vu ⟨_,rfl,_,rfl,h⟩))
theorem pT [GO]{x y:Lb}(h:∀Z',Ext Z22 Z'->R (.returned (.I (X5 Mm Mm x y))) Z'):Spec prog 73 #[.agg #[.string x.1,.string x.2],.agg #[.string y.1,.string y.2]] Z22 R:=by
 refine MW.start λ_ _=>Uk ⟨_,rfl,Uk ⟨_,rfl,λb hb=>?_⟩⟩;have G:=h _ (.set hb (o:=.cells #[.I (Mm x.1 y.1),.I (Mm x.2 y.2)] 3 (0,0)));unfold X5 at G;generalize Mm x.1 y.1=u at *;generalize Mm x.2 y.2=v at *;refine I5.start (I5.AX ⟨λ_=>⟨b,0,rfl,by omega,u,by simp[Hp.ld,Hp.AA],λh0=>⟨_,rfl,?_⟩,λh0=>⟨by unfold AL;omega,I5.AX ⟨λ_=>⟨b,0,rfl,by omega,v,by simp[Hp.ld,Hp.AA],λh1=>⟨_,rfl,?_⟩,λh1=>⟨by unfold AL;omega,I5.AX ⟨λh2=>by omega,λ_=>⟨_,rfl,?_⟩⟩⟩⟩,λh2=>by omega⟩⟩⟩,λh2=>by omega⟩)
 .rw[Ajj h0]at G;exact G
 .rw[Ajl (AkK.1 h0)]at G;exact G
 .have h1':v=0:=AkK.1 h1;rw[Ajl (AkK.1 h0),h1']at G;rw[<-h1']at G ⊢;exact G
theorem AaL:Enters prog 73:=λargs w=>call73 args w
theorem BR {α:Type}{xs:List α}{k:Nat}{y:α}(G:xs[k]?=some y):xs.drop k=y::xs.drop (k+1):=by
 obtain⟨h,rfl⟩:=Ajn.1 G;exact Aly h
theorem Kj [GO]{p q:Option Addr}{n c m d:Nat}{ls ms:List Lb}(hr:HG Z22 p n ls)(hs:HG Z22 q m ms)(h:∀Z',Ext Z22 Z'->R (.returned (.I (Ay ls ms))) Z'):Spec prog 36 #[.slice p n c,.slice q m d] Z22 R:=by
 have hl:ls.length=n:=hr.1;have hm:ms.length=m:=hs.1;refine Qr.start (Bb.start ?_)
 suffices H:∀g k:Nat,∀Z',n-k=g->k<=n->k<=m->Ext Z22 Z'->Ay ls ms=Ay (ls.drop k) (ms.drop k)->Bb.Gf (AY R (CI .i64 λx7 y=>R (.returned (.I x7)) y)) p n c q m d (.func (.func 73) #[] #[]) p n c n k Z' from H n 0 Z22 rfl (Ajy _) (Ajy _) (.refl _) rfl
 intro g
 induction g with
 | zero=>
  intro k Z' hg hk hkm hx G;have iP:k=n:=by omega
  rw[AkF (by omega)]at G;refine Bb.A0 ⟨λAx=>by omega,λ_=>⟨λhnm=>⟨_,rfl,?_⟩,λhnm=>⟨_,rfl,?_⟩⟩⟩
  .obtain⟨y,hy⟩:=hs.ex (k:=k) (by omega);rw[BR hy]at G;have:=h Z' hx;rw[G]at this;exact this
  .rw[AkF (by omega)]at G;have:=h Z' hx;rw[G]at this;exact this
 | succ g ih=>
  intro k Z' hg hk hkm hx G;obtain⟨x,Ug⟩:=hr.ex (k:=k) (by omega);obtain⟨b,o,rfl,YA⟩:=HG.at hr Ug;rw[BR Ug]at G;refine Bb.A0 ⟨λ_=>⟨b,o,rfl,by omega,x.1,x.2,by simpa using YA.mono hx,λ_=>⟨λhmk=>⟨_,rfl,?_⟩,λhmk=>?_⟩⟩,λhh=>by omega⟩
  .rw[show ms.drop k=[] from AkF (by omega)]at G;have:=h Z' hx;rw[G]at this;exact this
  .obtain⟨y,hyk⟩:=hs.ex (k:=k) (by omega);obtain⟨b',o',rfl,fU⟩:=HG.at hs hyk;rw[BR hyk]at G;have MH:Ay ls ms=if X5 Mm Mm x y=0 then Ay (ls.drop (k+1)) (ms.drop (k+1)) else X5 Mm Mm x y:=G
   refine⟨b',o',rfl,by omega,y.1,y.2,by simpa using fU.mono hx,λ_=>⟨73,#[],#[],rfl,AaL,pT λZ2 Ao=>⟨_,rfl,λAv=>⟨_,rfl,?_⟩,λheq=>⟨AO (by omega:k<n) hr.big,ih (k+1) Z2 (by omega) (by omega) (by omega) (hx.trans Ao) ?_⟩⟩⟩⟩
   .have:=h Z2 (hx.trans Ao);rw[MH,Ajj Av]at this;exact this
   .rw[MH,Ajl (AkK.1 heq)]
def PZ:List Pt->Bool
 | []=>false
 | [_]=>true
 | a::b::l=>decide (a.1<b.1)&&PZ (b::l)
theorem Kk:∀ps:List Pt,PZ ps=true↔0<ps.length/\∀j a b,ps[j]?=some a->ps[j+1]?=some b->a.1<b.1
 | []=>by simp[PZ]
 | [a]=>by simp[PZ]
 | a::b::l=>by
  simp only[PZ,Ajz,Aj3];rw[Kk (b::l)]
  constructor
  .rintro⟨h1,h2,h3⟩
   refine⟨by simp,λj x y G hy=>?_⟩;cases j with
   | zero=>simp at G hy;subst G;subst hy;exact h1
   | succ j=>exact h3 j x y (by simpa using G) (by simpa using hy)
  .rintro⟨h1,h2⟩
   exact⟨h2 0 a b rfl rfl,by simp,λj x y G hy=>h2 (j+1) x y (by simpa using G) (by simpa using hy)⟩
theorem DX.at {p:Option Addr}{n i:Nat}{ps:List Pt}{x:Pt}(hr:Ae 2 DX Z22 p n ps)(hx:ps[i]?=some x):∃b o,p=some ⟨b,o,none⟩/\A2 Z22 b (o+i*2) [.I x.1,.U x.2]:=by
 obtain⟨b,o,vs,hp,rfl,G⟩:=Ae.idx hr hx;exact⟨b,o,hp,G⟩
theorem ki {p:Option Addr}{n c:Nat}{ps:List Pt}(G:Ae 2 DX Z22 p n ps)(h:R (.returned (.bool (PZ ps))) Z22):Spec prog 51 #[.slice p n c] Z22 R:=by
 have hl:ps.length=n:=G.1;refine FX.start ?_;have fin:(∀j a b,ps[j]?=some a->ps[j+1]?=some b->a.1<b.1)->R (.returned (.bool (decide (0<(n:Int))))) Z22:=λhh=>by
  have e:PZ ps=decide (0<(n:Int)):=by
   rw[Bool.eq_iff_iff,Kk,Aj3];exact⟨λh=>by omega,λh=>⟨by omega,hh⟩⟩
  rw[e]at h;exact h
 suffices H:∀g k:Nat,n-k=g->1<=k->(∀j a b,j+1<k->ps[j]?=some a->ps[j+1]?=some b->a.1<b.1)->FX.GQ R p n c k Z22 from H (n-1) 1 rfl (Ajt _) (λj a b hj=>by omega)
 intro g
 induction g with
 | zero=>
  intro k hg hk Ab;refine FX.BI ⟨λAx=>by omega,λ_=>fin λj a b ha hb=>Ab j a b ?_ ha hb⟩;have:=(Ajn.1 hb).1;omega
 | succ g ih=>
  intro k hg hk Ab;obtain⟨x,hx⟩:=G.ex (k:=k) (by omega);obtain⟨y,hy⟩:=G.ex (k:=k-1) (by omega);obtain⟨b,o,rfl,YA⟩:=DX.at G hx;obtain⟨_,_,he,fU⟩:=DX.at G hy;cases he;have e1:Int.toNat ((k:Int)-1)=k-1:=by omega
  refine FX.BI ⟨λ_=>⟨b,o,rfl,by omega,x.1,by simpa using YA.1,by unfold AL;have:=G.big;omega,by omega,y.1,by rw[e1];simpa using fU.1,λhle=>?_,λvv=>⟨AO (by omega:k<n) G.big,ih (k+1) (by omega) (by omega) λj a b' hj ha hb=>?_⟩⟩,λhh=>by omega⟩
  .have e:PZ ps=false:=by
    rw[Bool.eq_false_iff,ne_eq,Kk];exact λhh=>by
     have:=hh.2 (k-1) y x hy (by rw[show k-1+1=k by omega];exact hx);omega
   rw[e]at h;exact h
  .by_cases hjk:j+1=k
   .rw[hjk,hx]at hb;cases hb;rw[show j=k-1 by omega,hy]at ha;cases ha;omega
   .exact Ab j a b' (by omega) ha hb
def DU:Option (List Lb)->List Sr->Bool
 | _,[]=>true
 | q,s::l=>decide (VL s.ls=0)&&PZ s.ps&&(match q with | none=>true | some q=>decide (Ay q s.ls<0))&&DU (some s.ls) l
theorem P5 (q:Option (List Lb))(s:Sr)(l:List Sr):DU q (s::l)=(decide (VL s.ls=0)&&PZ s.ps&&(match q with | none=>true | some q=>decide (Ay q s.ls<0))&&DU (some s.ls) l):=by
 cases q<;>rfl
theorem BX.at {p:Option Addr}{n i:Nat}{ss:List Sr}{s:Sr}(hr:Ae 2 BX Z22 p n ss)(hx:ss[i]?=some s):∃b o p1 n1 c1 q m d,p=some ⟨b,o,none⟩/\A2 Z22 b (o+i*2) [.slice p1 n1 c1,.slice q m d]/\HG Z22 p1 n1 s.ls/\Ae 2 DX Z22 q m s.ps/\m<=d:=by
 obtain⟨b,o,vs,hp,⟨p1,n1,c1,q,m,d,rfl,G,h2,h3⟩,hl⟩:=Ae.idx hr hx;exact⟨b,o,p1,n1,c1,q,m,d,hp,hl,G,h2,h3⟩
theorem Ec {p:Option Addr}{n c:Nat}{ss:List Sr}(hr:Ae 2 BX Z22 p n ss)(h:∀Z',Ext Z22 Z'->R (.returned (.I (if DU none ss then 0 else 100))) Z'):Spec prog 19 #[.slice p n c] Z22 R:=by
 have hl:ss.length=n:=hr.1;refine Eo.start ?_
 suffices H:∀g k:Nat,∀Z',n-k=g->k<=n->Ext Z22 Z'->DU none ss=DU (if k=0 then none else(ss[k-1]?).map (·.ls)) (ss.drop k)->Eo.Gf R p n c p n c n k Z' from H n 0 Z22 rfl (Ajy _) (.refl _) rfl
 intro g
 induction g with
 | zero=>
  intro k Z' hg hk G he;rw[AkF (by omega)]at he;refine Eo.A0 ⟨λAx=>by omega,λ_=>?_⟩;have:=h Z' G;rw[he]at this;exact this
 | succ g ih=>
  intro k Z' hg hk G he;have Cs:k<n:=by omega
  obtain⟨s,hs⟩:=hr.ex Cs;obtain⟨b,o,p1,n1,c1,q,m,d,rfl,Vn,h1,h2,h3⟩:=BX.at hr hs;rw[BR hs,P5]at he;have bad:(decide (VL s.ls=0)&&PZ s.ps&&(match (if k=0 then none else(ss[k-1]?).map (·.ls)) with | none=>true | some q=>decide (Ay q s.ls<0)))=false->∀Z2,Ext Z22 Z2->R (.returned (.I 100)) Z2:=λhf Z2 Ao=>by
   have:=h Z2 Ao;rw[he,hf]at this;exact this
  refine Eo.A0 ⟨λ_=>⟨b,o,rfl,by omega,p1,n1,c1,q,m,d,by simpa using Vn.mono G,λ_=>VM (h1.mono Cg.mono G) ⟨_,rfl,λAv=>bad (by simp[Av]) Z' G,λh0=>ki (h2.mono DX.mono G) ⟨_,rfl,λhf=>bad (by simp[hf]) Z' G,λht=>?_⟩⟩⟩,λhh=>by omega⟩;have su:=AkK.1 h0;have pU:PZ s.ps=true:=ht;have next:∀Z2,Ext Z22 Z2->(match (if k=0 then none else(ss[k-1]?).map (·.ls)) with | none=>true | some q=>decide (Ay q s.ls<0))=true->AL ((k:Int)+1)/\Eo.Gf R (aD b o) n c (aD b o) n c n ((k:Int)+1) Z2:=λZ2 Ao hm=>by
   refine⟨AO Cs hr.big,ih (k+1) Z2 (by omega) (by omega) Ao ?_⟩;rw[he,hm,su,pU];simp[hs]
  refine⟨λIs=>⟨by unfold AL;have:=hr.big;omega,b,o,rfl,by omega,?_⟩,λIs=>next Z' G (by rw[Ajl (by omega)])⟩;obtain⟨s',Ms⟩:=hr.ex (k:=k-1) (by omega);obtain⟨_,_,p1',n1',c1',_,_,_,VJ,AaM,h1',_,_⟩:=BX.at hr Ms;cases VJ;have e1:Int.toNat ((k:Int)-1)=k-1:=by omega
  refine⟨p1',n1',c1',by rw[e1];simpa using(AaM.mono G).1,Kj (h1'.mono Cg.mono G) (h1.mono Cg.mono G) λZ2 Ao=>⟨_,rfl,λRU=>bad ?_ Z2 (G.trans Ao),λAx=>next Z2 (G.trans Ao) ?_⟩⟩
  .rw[Ajj (by omega),Ms];simp;omega
  .rw[Ajj (by omega),Ms];simp;omega
end
def Qc (x:Nat):Bool:=!(FloatKind.f64.format.order x x==some .eq)
def toF (x:Nat):Nat:=if Qc x then 9221120237041090560 else x
theorem YB (d:Ieee.Datum):d.order d=if d.isNaN then none else some .eq:=by
 cases d with
 | nan=>rfl
 | infinity s=>cases s<;>rfl
 | number s m i=>simp[Ieee.Datum.order,Ieee.Datum.isNaN,Std.ReflCmp.compare_self]
theorem Sf (x:Nat):Qc x=true↔9218868437227405312<x%9223372036854775808:=by
 have h1:Qc x=(Ieee.double.read x).isNaN:=by
  show(!((Ieee.double.read x).order (Ieee.double.read x)==some .eq))=_
  rw[YB];cases(Ieee.double.read x).isNaN<;>rfl
 rw[h1];have G:Ieee.double.signWeight=9223372036854775808:=by decide
 have e2:Ieee.double.binade=4503599627370496:=by decide
 have e3:Ieee.double.infRung=9218868437227405312:=by decide
 unfold Ieee.Format.read;simp only[G,e2,e3];split
 .simp[Ieee.Datum.isNaN];omega
 .split
  .simp[Ieee.Datum.isNaN];omega
  .split
   .simp[Ieee.Datum.isNaN];omega
   .simp[Ieee.Datum.isNaN];omega
theorem kj:Qc 9221120237041090560=true:=(Sf _).2 (by decide)
theorem pV (a b t:Nat):Qc (Question.cut (.nanBits .f64 a b) t)=true:=by
 rw[Sf];show 9218868437227405312<((t%2)*9223372036854775808+9218868437227405312+1+(t/2)%4503599627370495)%9223372036854775808
 have G:=Al4 (t/2) (show 0<4503599627370495 by decide);generalize (t/2)%4503599627370495=r at *;rcases Nat.mod_two_eq_zero_or_one t with h|h<;>rw[h]<;>omega
theorem toF_drawn (a b t:Nat):toF (Question.cut (.nanBits .f64 a b) t)=9221120237041090560:=by unfold toF;rw[pV];rfl
def fAr (op:Int)(a b:Nat):Option Nat:=if op=1 then Ieee.double.add a b else if op=2 then Ieee.double.sub a b else if op=3 then Ieee.double.mul a b else Ieee.double.div a b
def ATf:Option Nat->Nat
 | some r=>toF r
 | none=>9221120237041090560
def AaN (a b:Nat):Option Nat->Sem Value
 | some r=>pure (.float .f64 r)
 | none=>do pure (.float .f64 (<-choose (.nanBits .f64 a b)))
def kl (op:Int)(a b:Nat):Nat:=ATf (fAr op a b)
def fCm (op:Int)(a b:Nat):Bool:=
 let c:=Ieee.double.order a b
 if op=5 then c==some .eq else if op=6 then c != some .eq else if op=7 then c==some .lt else if op=8 then c==some .lt||c==some .eq else if op=9 then c==some .gt else if op=10 then c==some .gt||c==some .eq else false
section
variable [GO]{Z22:Hp}{R:Rr}
theorem YC {b:Nat}:YN prog 190 #[.float .f64 b] Z22 (.U b):=λw _=>by
 rw[run_callFunc_extern Go.Proofs.Tryz.func190 (by kernel_rfl) (by kernel_rfl) (by kernel_rfl) (e:=Extern.MathFloatBits.float64bits) (by kernel_rfl)];rfl
theorem ABt {x:Int}:YN prog 230 #[.U x] Z22 (.float .f64 x.toNat):=λw _=>by
 rw[run_callFunc_extern Go.Proofs.Tryz.func230 (by kernel_rfl) (by kernel_rfl) (by kernel_rfl) (e:=Extern.MathFloatBits.float64frombits) (by kernel_rfl)];rfl
theorem pW {x:Nat}(h:R (.returned (.bool (Qc x))) Z22):Spec prog 224 #[.float .f64 x] Z22 R:=
 Xw.start ⟨Qc x,λw _=>rfl,h⟩
theorem Ib {x:Int}(h:R (.returned (.float .f64 x.toNat)) Z22):Spec prog 192 #[.U x] Z22 R:=
 sG.start (.y ABt ⟨_,rfl,h⟩)
theorem Ic {x:Nat}(h:R (.returned (.U (toF x:Nat))) Z22):Spec prog 183 #[.float .f64 x] Z22 R:=by
 refine sT.start (pW ⟨_,rfl,λht=>?_,λG=>.y YC ⟨_,rfl,?_⟩⟩)
 .rw[show toF x=9221120237041090560 by unfold toF;rw[ht];rfl]at h;exact h
 .rw[show toF x=x by unfold toF;rw[G];rfl]at h;exact h
def sv (x:Int):Int:=(toF x.toNat:Nat)
theorem H0 {x:Int}(h:R (.returned (.U (sv x))) Z22):Spec prog 196 #[.U x] Z22 R:=
 UX.start (Ib ⟨_,rfl,Ic ⟨_,rfl,h⟩⟩)
theorem ABu {m:Sem Value}{q:Question}{f:Nat->Value}{Φ:Value->Hp->Prop}(hm:∀w,m.run prog w=.ok (f (q.cut (w.tape w.drawn q))) { w with drawn:=w.drawn+1 })(h:∀t,Φ (f (q.cut t)) Z22):AI prog m Z22 Φ:=λw F G hF=>
 ⟨_,_,Z22,hm w,h _,⟨λb o hb=>G b o hb,λb hb=>⟨(hF b hb).2,rfl⟩,(Bl.same rfl rfl rfl).drew,rfl,Ajt _⟩⟩
theorem YD {m:Sem Value}{v:Value}{Φ:Value->Hp->Prop}(hm:∀w,m.run prog w=.ok v w)(h:Φ v Z22):AI prog m Z22 Φ:=λw F G hF=>
 ⟨_,_,Z22,hm w,h,⟨G,λb hb=>⟨(hF b hb).2,rfl⟩,.same rfl rfl rfl,rfl,Ajt _⟩⟩
theorem P6 {op:BinOp}{a b:Nat}{Φ:Value->Hp->Prop}(r:Option Nat)(G:∀w,(Go.binOp op 258 (.float .f64 a) (.float .f64 b)).run prog w=(AaN a b r).run prog w)
  (h:∀x:Nat,toF x=ATf r->Φ (.float .f64 x) Z22):AI prog (Go.binOp op 258 (.float .f64 a) (.float .f64 b)) Z22 Φ:=by
 cases r with
 | some r=>exact YD (v:=.float .f64 r) (λw=>(G w).trans rfl) (h r rfl)
 | none=>exact ABu (q:=.nanBits .f64 a b) (f:=λx=>.float .f64 x) (λw=>(G w).trans rfl) (λt=>h _ (toF_drawn a b t))
theorem Vo {a b:Nat}{Φ:Value->Hp->Prop}(h:∀x:Nat,toF x=kl 1 a b->Φ (.float .f64 x) Z22):AI prog (Go.binOp .add 258 (.float .f64 a) (.float .f64 b)) Z22 Φ:=
 P6 (Ieee.double.add a b) (λw=>by refine(show _=(Op.floatArith .add .f64 a b).run prog w from rfl).trans ?_;unfold Op.floatArith;simp only[FloatKind.format];cases Ieee.double.add a b<;>rfl) h
theorem AFL {a b:Nat}{Φ:Value->Hp->Prop}(h:∀x:Nat,toF x=kl 2 a b->Φ (.float .f64 x) Z22):AI prog (Go.binOp .sub 258 (.float .f64 a) (.float .f64 b)) Z22 Φ:=
 P6 (Ieee.double.sub a b) (λw=>by refine(show _=(Op.floatArith .sub .f64 a b).run prog w from rfl).trans ?_;unfold Op.floatArith;simp only[FloatKind.format];cases Ieee.double.sub a b<;>rfl) h
theorem Sg {a b:Nat}{Φ:Value->Hp->Prop}(h:∀x:Nat,toF x=kl 3 a b->Φ (.float .f64 x) Z22):AI prog (Go.binOp .mul 258 (.float .f64 a) (.float .f64 b)) Z22 Φ:=
 P6 (Ieee.double.mul a b) (λw=>by refine(show _=(Op.floatArith .mul .f64 a b).run prog w from rfl).trans ?_;unfold Op.floatArith;simp only[FloatKind.format];cases Ieee.double.mul a b<;>rfl) h
theorem tA {a b:Nat}{Φ:Value->Hp->Prop}(h:∀x:Nat,toF x=kl 4 a b->Φ (.float .f64 x) Z22):AI prog (Go.binOp .quo 258 (.float .f64 a) (.float .f64 b)) Z22 Φ:=
 P6 (Ieee.double.div a b) (λw=>by refine(show _=(Op.floatArith .quo .f64 a b).run prog w from rfl).trans ?_;unfold Op.floatArith;simp only[FloatKind.format];cases Ieee.double.div a b<;>rfl) h
def YE (op a b:Int):Int:=(kl op a.toNat b.toNat:Nat)
theorem Lu {op a b:Int}(h:R (.returned (if 1<=op/\op<=4 then .tuple #[.U (YE op a b),.bool true] else .tuple #[.U 0,.bool false])) Z22):Spec prog 213 #[.I op,.U a,.U b] Z22 R:=by
 refine Xl.start (Ib ⟨_,rfl,Ib ⟨_,rfl,λh1=>Vo λx G=>⟨_,rfl,Ic ⟨_,rfl,?_⟩⟩,λh1=>⟨λh2=>AFL λx G=>⟨_,rfl,Ic ⟨_,rfl,?_⟩⟩,λh2=>⟨λh3=>Sg λx G=>⟨_,rfl,Ic ⟨_,rfl,?_⟩⟩,λh3=>⟨λh4=>tA λx G=>⟨_,rfl,Ic ⟨_,rfl,?_⟩⟩,λh4=>?_⟩⟩⟩⟩⟩)
 .subst h1;rw[G];exact h
 .subst h2;rw[G];exact h
 .subst h3;rw[G];exact h
 .subst h4;rw[G];exact h
 .rw[Ajj (by omega)]at h;exact h
end
section
variable [GO]{Z22:Hp}{R:Rr}
def ko (op a b:Int):Bool:=fCm op a.toNat b.toNat
theorem Lv {op a b:Int}(h:R (.T #[.bool (ko op a b),.bool (decide (5<=op/\op<=10))]) Z22):Spec prog 214 #[.I op,.U a,.U b] Z22 R:=by
 have fin:∀{k:Int} {t:Bool},op=k->5<=k->k<=10->fCm k a.toNat b.toNat=t->R (.T #[.bool t,.bool true]) Z22:=λhk G MX ht=>by
  subst hk;rw[show ko op a b=fCm op a.toNat b.toNat from rfl,ht,show decide (5<=op/\op<=10)=true from Aj0 ⟨G,MX⟩]at h;exact h
 refine SU.start (Ib ⟨_,rfl,Ib ⟨_,rfl,
  λh1=>⟨_,λw _=>rfl,fin h1 (by decide) (by decide) rfl⟩,λh1=>
  ⟨λh2=>⟨_,λw _=>rfl,fin h2 (by decide) (by decide) rfl⟩,λh2=>
  ⟨λh3=>⟨_,λw _=>rfl,fin h3 (by decide) (by decide) rfl⟩,λh3=>
  ⟨λh4=>⟨_,λw _=>rfl,fin h4 (by decide) (by decide) rfl⟩,λh4=>
  ⟨λG=>⟨_,λw _=>rfl,fin G (by decide) (by decide) rfl⟩,λG=>
  ⟨λh6=>⟨_,λw _=>rfl,fin h6 (by decide) (by decide) rfl⟩,λh6=>?_⟩⟩⟩⟩⟩⟩⟩)
 rw[show decide (5<=op/\op<=10)=false from Aj1 (by omega),show ko op a b=false by unfold ko fCm;simp only[h1,h2,h3,h4,G,h6,AlE]]at h;exact h
def pX (x:Int):Int:=(toF (Go.bits .andNot .u64 x 9223372036854775808).toNat:Nat)
theorem ABv {x:Int}(hx:0<=x)(h:R (.returned (.U (pX x))) Z22):Spec prog 156 #[.U x] Z22 R:=by
 refine SR.start (Ib ⟨_,rfl,jt.start (.y YC ⟨_,rfl,λx5 G=>.y ABt ⟨_,rfl,_,rfl,Ic ⟨_,rfl,?_⟩⟩⟩)⟩);rw[show pX x=(toF x5.toNat:Nat) by unfold pX;rw[G,Int.toNat_of_nonneg hx]]at h;exact h
def RX (x:Nat):Nat:=match Ieee.double.read x with
 | .nan _ _=>9221120237041090560
 | d=>toF (Ieee.double.write (d.integral .down))
def fV (x:Int):Int:=(RX x.toNat:Nat)
theorem cz (x:Nat):Qc x=(Ieee.double.read x).isNaN:=by
 show(!((Ieee.double.read x).order (Ieee.double.read x)==some .eq))=_
 rw[YB];cases(Ieee.double.read x).isNaN<;>rfl
theorem pY (s:Bool)(t:Nat):Qc (Ieee.double.write (.nan s (Ieee.double.quiet t)))=true:=by
 rw[Sf];have G:Ieee.double.signWeight=9223372036854775808:=by decide
 have e2:Ieee.double.binade=4503599627370496:=by decide
 have e3:Ieee.double.infRung=9218868437227405312:=by decide
 have hp:(Ieee.double.quiet t%4503599627370496).testBit 51=true:=by
  rw[show 4503599627370496=2^52 from rfl,Nat.testBit_mod_two_pow];show(decide (51<52)&&(t ||| 2^51).testBit 51)=true
  rw[Nat.testBit_or,Nat.testBit_two_pow_self];simp
 have vw:0<Ieee.double.quiet t%4503599627370496:=by
  apply Nat.pos_of_ne_zero
  intro h0;rw[h0]at hp;simp at hp
 have Ax:=Al4 (Ieee.double.quiet t) (show 0<4503599627370496 by decide);show 9218868437227405312<Ieee.double.word s (Ieee.double.infRung+Ieee.double.quiet t%Ieee.double.binade)%9223372036854775808
 unfold Ieee.Format.word;rw[G,e2,e3];generalize Ieee.double.quiet t%4503599627370496=p at *;cases s
 .rw[Ajj (by decide)];omega
 .rw[Ajl rfl];omega
def flo (x : Nat) : Sem Value := match Ieee.double.read x with
 | .nan s t => if Ieee.double.quiet t = t then pure (.float .f64 x) else do
   let kept ← choose (.extern "math.Floor,Ceil,Trunc,RoundToEven.signallingNaN kept" 2)
   pure (.float .f64 (if kept == 1 then x else Ieee.double.write (.nan s (Ieee.double.quiet t))))
 | d => pure (.float .f64 (Ieee.double.write (d.integral .down)))
theorem ABw {x : Nat} {Φ : Value -> Hp -> Prop} (h : ∀ y : Nat,toF y = RX x -> Φ (.float .f64 y) Z22) : EN prog 231 #[.float .f64 x] Z22 Φ := by
 have CG : ∀ w,(callFunc 231 #[.float .f64 x]).run prog w = ((flo x).run prog w).andThen λv w' => .ok (.value v) w' := λw => by
   rw [run_callFunc_extern Go.Proofs.Tryz.func231 (by kernel_rfl) (by kernel_rfl) (by kernel_rfl) (e := Extern.MathFloor.toIntegral "math.archFloor" .down) (by kernel_rfl)]
   rfl
 have same : ∀ y,flo x = pure (.float .f64 y) -> toF y = RX x -> EN prog 231 #[.float .f64 x] Z22 Φ := λy hy hf => .y (v := .float .f64 y) (λw _ => by rw [CG,hy]; rfl) (h y hf)
 cases hd : Ieee.double.read x with
 | number s m i => exact same _ (by unfold flo; rw [hd]) (by unfold RX; rw [hd])
 | infinity s => exact same _ (by unfold flo; rw [hd]) (by unfold RX; rw [hd])
 | nan s t =>
   have hx : Qc x = true := by rw [cz,hd]; rfl
   have hn : RX x = 9221120237041090560 := by unfold RX; rw [hd]
   have e1 : toF x = 9221120237041090560 := by unfold toF; rw [hx]; rfl
   by_cases hq : Ieee.double.quiet t = t
   · exact same x (by unfold flo; rw [hd]; simp only [hq,AlG]) (by rw [e1,hn])
   · intro w F hs hF
     refine ⟨.float .f64 (if (Question.cut (.extern "math.Floor,Ceil,Trunc,RoundToEven.signallingNaN kept" 2) (w.tape w.drawn (.extern "math.Floor,Ceil,Trunc,RoundToEven.signallingNaN kept" 2))) == 1 then x else Ieee.double.write (.nan s (Ieee.double.quiet t))),{ w with drawn := w.drawn + 1 },Z22,?_,?_,⟨fun b o hb => hs b o hb,fun b hb => ⟨(hF b hb).2,rfl⟩,(Bl.same rfl rfl rfl).drew,rfl,Nat.le_refl _⟩⟩
     · rw [CG]
       unfold flo
       rw [hd]
       simp only [hq,AlE]
       rfl
     · refine h _ ?_
       rw [hn]
       split
       · exact e1
       · unfold toF; rw [pY]; rfl
theorem pZ {x:Int}(h:R (.returned (.U (fV x))) Z22):Spec prog 157 #[.U x] Z22 R:=
 LX.start (Ib ⟨_,rfl,Wh.start (ABw λy G=>⟨_,rfl,_,rfl,Ic ⟨_,rfl,by rw[G];exact h⟩⟩)⟩)
def Co (n:Int):Int:=(FloatKind.f64.nearest n:Nat)
theorem Lw {n:Int}(h:R (.returned (.U (Co n))) Z22):Spec prog 155 #[.I n] Z22 R:=
 Wf.start (YD (v:=.float .f64 (FloatKind.f64.nearest n)) (λw=>by kernel_rfl) ⟨_,rfl,.y YC ⟨_,rfl,h⟩⟩)
theorem pd {b:Bool}(h:R (.returned (.U (if b then Co 1 else Co 0))) Z22):Spec prog 215 #[.bool b] Z22 R:=
 Xv.start ⟨λht=>Lw ⟨_,rfl,by rw[ht]at h;exact h⟩,λG=>Lw ⟨_,rfl,by rw[G]at h;exact h⟩⟩
theorem kr {a b:Int}(h:R (.returned (.U (YE 1 a b))) Z22):Spec prog 211 #[.U a,.U b] Z22 R:=eval_add.start (Lu ⟨_,_,rfl,h⟩)
theorem ks {a b:Int}(h:R (.returned (.U (YE 2 a b))) Z22):Spec prog 200 #[.U a,.U b] Z22 R:=kM.start (Lu ⟨_,_,rfl,h⟩)
theorem kt {a b:Int}(h:R (.returned (.U (YE 4 a b))) Z22):Spec prog 204 #[.U a,.U b] Z22 R:=kU.start (Lu ⟨_,_,rfl,h⟩)
theorem ABx {a:Int}(h:R (.returned (.bool (decide (sv a=9221120237041090560)))) Z22):Spec prog 238 #[.U a] Z22 R:=jw.start (H0 ⟨_,rfl,h⟩)
def AIY (x:Int):Int:=sv (Go.bits .xor .u64 x 9223372036854775808)
theorem Ul {x:Int}(h:R (.returned (.U (AIY x))) Z22):Spec prog 174 #[.U x] Z22 R:=UP.start λx4 G=>H0 ⟨_,rfl,by rw[G];exact h⟩
end
section
variable [GO]{Z22:Hp}{R:Rr}
def fW:List Int->Int
 | []=>0
 | v::l=>l.foldl (YE 1) (sv v)
theorem YG {p:Option Addr}{n c:Nat}{vs:List Int}(hr:DB .u64 Z22 p n vs)(h0:0<n)(hc:n<=c)(h:R (.returned (.U (fW vs))) Z22):Spec prog 163 #[.slice p n c] Z22 R:=by
 have hl:vs.length=n:=hr.1;obtain⟨v,hv⟩:=hr.ex h0;obtain⟨b,o,rfl,Dy⟩:=DB.at hr hv;refine Ht.start ⟨b,o,rfl,by omega,v,by simpa using Dy,H0 ⟨_,rfl,by omega,?_⟩⟩;have hs:DB .u64 Z22 (Ee (aD b o) 1 c 1) (n-1) ((vs.drop 1).take (n-1)):=Ae.sub hr (by decide) (by omega) hc;have hd:(vs.drop 1).take (n-1)=vs.tail:=by rw[AnC,Ajq (by rw[AlP];omega)]
 rw[hd]at hs;have iC:vs=v::vs.tail:=by
  cases vs with
  | nil=>cases hv
  | cons a l=>simp only[AkO,Ajv]at hv;rw[hv];rfl
 rw[iC]at h
 change R (.returned (.U (vs.tail.foldl (YE 1) (sv v)))) Z22 at h
 generalize Ee (aD b o) 1 c 1=q at *
 suffices H:∀g k:Nat,∀(q':Option Addr) (a:Int),(0<n-1->q'=q)->n-1-k=g->k<=n-1->vs.tail.foldl (YE 1) (sv v)=(vs.tail.drop k).foldl (YE 1) a->Ht.A4 R a q (n-1) (c-1) ((n-1:Nat):Int) k Z22 from H (n-1) 0 q (sv v) (λ_=>rfl) (by omega) (by omega) rfl
 intro g
 induction g with
 | zero=>
  intro k q' a _ hg hk G;refine Ht.AX ⟨λAx=>by omega,λ_=>?_⟩;rw[AkF (by rw[AlP];omega)]at G;rw[G]at h;exact h
 | succ g ih=>
  intro k q' a hq hg hk G;obtain⟨x,hx⟩:=hs.ex (k:=k) (by omega);obtain⟨b',o',rfl,YA⟩:=DB.at hs hx;rw[BR hx]at G;refine Ht.AX ⟨λ_=>⟨b',o',rfl,by omega,x,by simpa using YA,kr ⟨_,rfl,AO (by omega:k<n-1) hs.big,ih (k+1) _ _ (λ_=>rfl) (by omega) (by omega) G⟩⟩,λhh=>by omega⟩
theorem RY {p:Option Addr}{n c:Nat}(h:R (.returned (.U (Co n))) Z22):Spec prog 167 #[.slice p n c] Z22 R:=
 Ix.start (Lw ⟨_,rfl,h⟩)
theorem Si {p:Option Addr}{n c:Nat}{vs:List Int}(hr:DB .u64 Z22 p n vs)(G:0<n)(hc:n<=c)(h:R (.returned (.U (YE 4 (fW vs) (Co n)))) Z22):Spec prog 166 #[.slice p n c] Z22 R:=
 Gi.start (YG hr G hc ⟨_,rfl,RY ⟨_,rfl,kt ⟨_,rfl,h⟩⟩⟩)
def ku (op:Int)(out v:Int):Int:=if ko op v out=true\/sv out=9221120237041090560 then v else out
def Q4 (op:Int):List Int->Int
 | []=>0
 | v::l=>sv (l.foldl (ku op) v)
theorem dA {op:Int}{p:Option Addr}{n c:Nat}{vs:List Int}(hr:DB .u64 Z22 p n vs)(h0:0<n)(hc:n<=c)(h:R (.returned (.U (Q4 op vs))) Z22):Spec prog 212 #[.I op,.slice p n c] Z22 R:=by
 have hl:vs.length=n:=hr.1;obtain⟨v,hv⟩:=hr.ex h0;obtain⟨b,o,rfl,Dy⟩:=DB.at hr hv;refine HU.start ⟨b,o,rfl,by omega,v,by simpa using Dy,by omega,?_⟩;have hs:DB .u64 Z22 (Ee (aD b o) 1 c 1) (n-1) ((vs.drop 1).take (n-1)):=Ae.sub hr (by decide) (by omega) hc;have hd:(vs.drop 1).take (n-1)=vs.tail:=by rw[AnC,Ajq (by rw[AlP];omega)]
 rw[hd]at hs;have iC:vs=v::vs.tail:=by
  cases vs with
  | nil=>cases hv
  | cons a l=>simp only[AkO,Ajv]at hv;rw[hv];rfl
 rw[iC]at h
 change R (.returned (.U (sv (vs.tail.foldl (ku op) v)))) Z22 at h
 generalize Ee (aD b o) 1 c 1=q at *
 suffices H:∀g k:Nat,∀(a:Int),n-1-k=g->k<=n-1->vs.tail.foldl (ku op) v=(vs.tail.drop k).foldl (ku op) a->HU.A4 R op a q (n-1) (c-1) ((n-1:Nat):Int) k Z22 from H (n-1) 0 v (by omega) (by omega) rfl
 intro g
 induction g with
 | zero=>
  intro k a hg hk G;refine HU.AX ⟨λAx=>by omega,λ_=>H0 ⟨_,rfl,?_⟩⟩;rw[AkF (by rw[AlP];omega)]at G;rw[G]at h;exact h
 | succ g ih=>
  intro k a hg hk G;obtain⟨x,hx⟩:=hs.ex (k:=k) (by omega);obtain⟨b',o',rfl,YA⟩:=DB.at hs hx;rw[BR hx,Alj]at G;have go:∀y,ku op a x=y->HU.RR R op y (aD b' o') (n-1) (c-1) ((n-1:Nat):Int) k Z22:=λy hy=>HU.SD ⟨AO (by omega:k<n-1) hs.big,ih (k+1) y (by omega) (by omega) (by rw[<-hy];exact G)⟩;refine HU.AX ⟨λ_=>⟨b',o',rfl,by omega,x,by simpa using YA,Lv ⟨_,_,rfl,λht=>go x (by unfold ku;rw[Ajl (.inl ht)]),λhf=>ABx ⟨_,rfl,λht=>go x ?_,λhn=>go a ?_⟩⟩⟩,λhh=>by omega⟩
  .unfold ku;rw[Ajl (.inr (Ajx ht))]
  .unfold ku;rw[Ajj (by
   rintro(h1|h1)
   .rw[h1]at hf;cases hf
   .exact absurd h1 (AkM hn))]
theorem YH {p:Option Addr}{n c:Nat}{vs:List Int}(hr:DB .u64 Z22 p n vs)(G:0<n)(hc:n<=c)(h:R (.returned (.U (Q4 7 vs))) Z22):Spec prog 164 #[.slice p n c] Z22 R:=I6.start (dA hr G hc ⟨_,rfl,h⟩)
theorem Q5 {p:Option Addr}{n c:Nat}{vs:List Int}(hr:DB .u64 Z22 p n vs)(G:0<n)(hc:n<=c)(h:R (.returned (.U (Q4 9 vs))) Z22):Spec prog 165 #[.slice p n c] Z22 R:=FW.start (dA hr G hc ⟨_,rfl,h⟩)
def Sj (out:Int)(p:Int×Int):Int:=if ko 7 p.2 p.1=true then YE 1 out p.1 else out
def Sk (vs:List Int):Int:=(vs.zip vs.tail).foldl Sj (YE 2 (vs.getLast?.getD 0) (vs.head?.getD 0))
theorem YI {p:Option Addr}{n c:Nat}{vs:List Int}(G:DB .u64 Z22 p n vs)(h0:0<n)(h:R (.returned (.U (Sk vs))) Z22):Spec prog 202 #[.slice p n c] Z22 R:=by
 have hl:vs.length=n:=G.1;have RV:=G.big;obtain⟨v,hv⟩:=G.ex h0;obtain⟨z,hz⟩:=G.ex (k:=n-1) (by omega);obtain⟨b,o,rfl,Dy⟩:=DB.at G hv;obtain⟨_,_,he,hlz⟩:=DB.at G hz;cases he;have e1:Int.toNat ((n:Int)-1)=n-1:=by omega
 refine Ft.start ⟨by unfold AL;omega,b,o,rfl,by omega,z,by rw[e1];exact hlz,by omega,v,by simpa using Dy,ks ⟨_,rfl,?_⟩⟩;have ATg:Sk vs=(vs.zip vs.tail).foldl Sj (YE 2 z v):=by
  unfold Sk;rw[AlM,hl,hz,Alo,hv];rfl
 rw[ATg]at h
 suffices H:∀g k:Nat,∀a:Int,n-1-k=g->k<=n-1->(vs.zip vs.tail).foldl Sj (YE 2 z v)=((vs.zip vs.tail).drop k).foldl Sj a->Ft.CD R (aD b o) n c a ((k+1:Nat):Int) Z22 from H (n-1) 0 _ (by omega) (by omega) rfl
 have hlen:(vs.zip vs.tail).length=n-1:=by rw[AmN,AlP];omega
 intro g
 induction g with
 | zero=>
  intro k a hg hk he;refine Ft.A5 ⟨λAx=>by omega,λ_=>?_⟩;rw[AkF (by omega)]at he;rw[he]at h;exact h
 | succ g ih=>
  intro k a hg hk he;obtain⟨x,hx⟩:=G.ex (k:=k) (by omega);obtain⟨y,hy⟩:=G.ex (k:=k+1) (by omega);obtain⟨_,_,h1,YA⟩:=DB.at G hx;obtain⟨_,_,h2,fU⟩:=DB.at G hy;cases h1;cases h2;have AaO:(vs.zip vs.tail)[k]?=some (x,y):=by
   rw[Amr];exact⟨hx,by rw[List.getElem?_tail];exact hy⟩
  rw[BR AaO,Alj]at he;have e2:Int.toNat (((k+1:Nat):Int)-1)=k:=by omega
  have e3:Int.toNat ((k+1:Nat):Int)=k+1:=by omega
  have go:∀w,Sj a (x,y)=w->Ft.Iy R (aD b o) n c w ((k+1:Nat):Int) Z22:=λw hw=>Ft.Em ⟨AO (by omega:k+1<n) G.big,ih (k+1) w (by omega) (by omega) (by rw[<-hw];exact he)⟩;refine Ft.A5 ⟨λ_=>⟨b,o,rfl,by omega,y,by rw[e3];exact fU,by unfold AL;omega,by omega,x,by rw[e2];exact YA,Lv ⟨_,_,rfl,λht=>⟨by unfold AL;omega,by omega,x,by rw[e2];exact YA,kr ⟨_,rfl,go _ ?_⟩⟩,λhf=>go _ ?_⟩⟩,λhh=>by omega⟩
  .unfold Sj;rw[Ajl ht]
  .unfold Sj;rw[Ajj (by rw[hf];decide)]
end
theorem kv {x:Nat}(h:Qc x=true):∃s t,Ieee.double.read x=.nan s t:=by
 rw[cz]at h;cases hd:Ieee.double.read x with
 | nan s t=>exact⟨s,t,rfl⟩
 | number=>rw[hd]at h;cases h
 | infinity=>rw[hd]at h;cases h
theorem AIZ {op:Int}{a b:Nat}(h:Qc a=true):fAr op a b=none:=by
 obtain⟨s,t,G⟩:=kv h;unfold fAr Ieee.Format.add Ieee.Format.sub Ieee.Format.mul Ieee.Format.div;rw[G];simp[Ieee.Datum.sum,Ieee.Datum.product,Ieee.Datum.quotient]
theorem AIa {op:Int}{a b:Nat}(h:Qc b=true):fAr op a b=none:=by
 obtain⟨s,t,G⟩:=kv h;unfold fAr Ieee.Format.add Ieee.Format.sub Ieee.Format.mul Ieee.Format.div;rw[G];cases Ieee.double.read a<;>simp[Ieee.Datum.sum,Ieee.Datum.product,Ieee.Datum.quotient,Ieee.Datum.opposite]
theorem YJ (op:Int)(a b:Nat):kl op (toF a) (toF b)=kl op a b:=by
 unfold kl;by_cases G:Qc a=true
 .rw[AIZ G,show toF a=9221120237041090560 by unfold toF;rw[G];rfl,AIZ kj]
 .rw[show toF a=a by unfold toF;rw[Ajj G]];by_cases hb:Qc b=true
  .rw[AIa hb,show toF b=9221120237041090560 by unfold toF;rw[hb];rfl,AIa kj]
  .rw[show toF b=b by unfold toF;rw[Ajj hb]]
abbrev cN:Nat:=4604544271217802189
abbrev dN:Nat:=13827916308072577997
abbrev ATh:Nat:=4607182418800017408
abbrev ATi:Nat:=13830554455654793216
def pf:List (Nat×Nat):=[(ATh,0),(cN,dN),(0,ATi),(dN,dN),(ATi,0),(dN,cN),(0,ATh),(cN,cN)]
def YK (j n:Nat):List Int->Nat->Nat×Nat->Nat×Nat
 | [],_,a=>a
 | x::l,k,a=>
  let w:=pf.getD ((j*k%n)*(8/n)) (0,0)
  YK j n l (k+1) (kl 1 a.1 (kl 3 x.toNat w.1),kl 1 a.2 (kl 3 x.toNat w.2))
def AFM (vs:List Int):Nat:=
 let l:=YK (1%vs.length) vs.length vs 0 (0,0)
 kl 1 (kl 3 l.1 l.1) (kl 3 l.2 l.2)
section
variable [GO]{Z22:Hp}{R:Rr}
theorem fX {x y:Nat}(h:x ^^^ 9223372036854775808=y):YF prog (Op.unary .neg (.float .f64 x)) Z22 (.float .f64 y):=λw _=>by subst h;rfl
theorem az (h:∀b T Z',Z22 b=none->Z'=Z22.set b (.cells (pf.map λp=>.complex .f64 p.1 p.2).toArray T (0,0))->R (.returned (.slice (aD b 0) 8 8)) Z'):Spec prog 278 #[] Z22 R:=by
 refine Qw.start (Ib ⟨_,rfl,dN,fX (by decide),_,_,λw _=>rfl,dN,fX (by decide),dN,fX (by decide),_,_,λw _=>rfl,dN,fX (by decide),_,_,λw _=>rfl,_,_,λw _=>rfl,λb hb=>?_⟩);exact h b _ _ hb rfl
theorem vx {j:Nat}(hj:j<=1){p:Option Addr}{n c:Nat}{vs:List Int}(hr:DB .u64 Z22 p n vs)(hn:n=1\/n=2\/n=4\/n=8)
  (h:∀re G Z',Ext Z22 Z'->toF re=(YK j n vs 0 (0,0)).1->toF G=(YK j n vs 0 (0,0)).2->R (.returned (.complex .f64 re G)) Z'):Spec prog 253 #[.slice p n c,.I j] Z22 R:=by
 have hl:vs.length=n:=hr.1;have z0:toF 0=0:=by
  unfold toF;rw[Ajj];rw[Sf];decide
 refine Ke.start (az λb T Z1 hb Ml=>⟨_,_,_,rfl,?_⟩);have BC:Ext Z22 Z1:=by rw[Ml];exact .set hb
 have yN:∀k,k<8->∀re G,pf[k]?=some (re,G)->Z1.ld ⟨b,0+k*1,none⟩=some (.complex .f64 re G):=λk hk re G hw=>by
  rw[Ml];unfold Hp.ld;simp only[Hp.AA];have:(pf.map λp=>Value.complex .f64 p.1 p.2)[k]?=some (.complex .f64 re G):=by rw[Akt,hw];rfl
  simpa using this
 clear Ml
 suffices H:∀g k:Nat,∀re G,∀a:Nat×Nat,n-k=g->k<=n->toF re=a.1->toF G=a.2->YK j n vs 0 (0,0)=YK j n (vs.drop k) k a->Ke.AEg R p n c j (aD b 0) 8 8 (.complex .f64 re G) k Z1 from H n 0 0 0 (0,0) rfl (Ajy _) z0 z0 rfl
 intro g
 induction g with
 | zero=>
  intro k re G a hg hk h1 h2 he;have iP:k=n:=by omega
  subst iP;rw[AkF (by omega)]at he;refine Ke.sH ⟨λ_=>?_,λhh=>by omega⟩;rw[he]at h;exact h re G Z1 BC h1 h2
 | succ g ih=>
  intro k re G a hg hk h1 h2 he;have iP:k<n:=by omega
  obtain⟨x,hx⟩:=hr.ex iP;obtain⟨b',o',rfl,Dy⟩:=DB.at hr hx;rw[BR hx]at he;have ht:(j:Int)*k=((j*k:Nat):Int):=by push_cast;rfl
  have hjk:j*k<=8:=by
   rcases Nat.le_one_iff_eq_zero_or_eq_one.1 hj with h|h<;>subst h<;>omega
  refine Ke.sH ⟨λhh=>by omega,λ_=>⟨b',o',rfl,by omega,x,by simpa using BC.ld Dy,by unfold AL;omega,by omega,λJS h27=>⟨by omega,λyC h30=>?_⟩⟩⟩;have e27:JS=((j*k%n:Nat):Int):=by rw[h27,ht,Ami (by omega)];omega
  have e30:yC=((8/n:Nat):Int):=by rw[h30];rcases hn with h|h|h|h<;>subst h<;>rfl
  have hm:(j*k%n)*(8/n)<8:=by
   have:=Al4 (j*k) (show 0<n by omega);rcases hn with h|h|h|h<;>subst h<;>simp at*<;> omega
  have ep:JS*yC=(((j*k%n)*(8/n):Nat):Int):=by rw[e27,e30];push_cast;rfl
  dsimp only;rw[ep];generalize hq:(j*k%n)*(8/n)=q at *;obtain⟨⟨wr,wi⟩,hw⟩:∃w,pf[q]?=some w:=⟨_,Ajs (show q<pf.length from hm)⟩;have hgd:pf.getD q (0,0)=(wr,wi):=by rw[Amj,hw];rfl
  rw[YK,hq,hgd]at he;refine⟨by unfold AL;omega,b,0,rfl,by omega,wr,wi,by simpa using yN q hm wr wi hw,Ib ⟨_,rfl,λ_ _ _ h=>h,re,λw _=>rfl,wr,λw _=>rfl,Sg λy hy=>⟨_,rfl,Vo λz hz=>⟨_,rfl,G,λw _=>rfl,wi,λw _=>rfl,Sg λy' hy'=>⟨_,rfl,Vo λz' hz'=>⟨_,rfl,z,z',λw _=>rfl,AO iP hr.big,?_⟩⟩⟩⟩⟩⟩;refine ih (k+1) z z' _ (by omega) (by omega) ?_ ?_ he
  .rw[hz,<-YJ,h1,hy]
  .rw[hz',<-YJ,h2,hy']
theorem pg {p:Option Addr}{n c:Nat}{vs:List Int}(hr:DB .u64 Z22 p n vs)(hn:n=1\/n=2\/n=4\/n=8)
  (h:∀Z',Ext Z22 Z'->R (.T #[.U (AFM vs:Nat),.I 0]) Z'):Spec prog 234 #[.slice p n c] Z22 R:=by
 have hl:vs.length=n:=hr.1;have KD:∀{t:Bool} {Q:Rr},Q (.B true) Z22->Spec prog 252 #[.I n] Z22 Q:=λG=>cQ.start ⟨λ_=>G,λh1=>⟨λ_=>G,λh2=>⟨λ_=>G,λh4=>by rw[show decide ((n:Int)=8)=true from Aj0 (by omega)];exact G⟩⟩⟩;refine Xh.start (KD (t:=true) ?_);refine⟨true,rfl,λhf=>(by cases hf),λ_=>⟨by omega,λx12 To=>?_⟩⟩;have e12:x12=((1%n:Nat):Int):=by rw[To,Ami (by omega)];exact(Int.natCast_emod 1 n).symm
 rw[e12];refine vx (Nat.mod_le 1 n) hr hn λre im Z1 hx h1 h2=>⟨_,_,rfl,re,λw _=>rfl,re,λw _=>rfl,Sg λy hy=>⟨_,rfl,im,λw _=>rfl,im,λw _=>rfl,Sg λz hz=>⟨_,rfl,Vo λu hu=>⟨_,rfl,Ic ⟨_,rfl,?_⟩⟩⟩⟩⟩;have e:toF u=AFM vs:=by
  rw[hu,<-YJ,hy,hz];unfold AFM;rw[hl];dsimp only;rw[<-h1,<-h2,YJ,YJ]
 rw[e];exact h Z1 hx
def dB (n:Nat):Nat:=if 8<=n then 8 else if 4<=n then 4 else if 2<=n then 2 else 1
def Vp (vs:List Int):Int:=(AFM (vs.drop (vs.length-dB vs.length)):Nat)
theorem bD {p:Option Addr}{n c:Nat}{vs:List Int}(hr:DB .u64 Z22 p n vs)(h0:0<n)(hc:n<=c)
  (h:∀Z',Ext Z22 Z'->R (.returned (.U (Vp vs))) Z'):Spec prog 197 #[.slice p n c] Z22 R:=by
 have hl:vs.length=n:=hr.1;have RV:=hr.big;have G:∀m:Nat,dB n=m->m<=n->(m=1\/m=2\/m=4\/m=8)->AL ((n:Int)-m)/\((0:Int)<=((n:Int)-m)/\((n:Int)-m)<=(n:Int))/\Spec prog 234 #[(.slice (Ee p (Int.toNat ((n:Int)-m)) c 1) (n-Int.toNat ((n:Int)-m)) (c-Int.toNat ((n:Int)-m)))] Z22 (AY R (λz y=>∃J8 KZ,z=(.tuple #[.U J8,.I KZ])/\R (.returned (.U J8)) y)):=λm hm hmn hk=>by
  have e:Int.toNat ((n:Int)-m)=n-m:=by omega
  rw[e];refine⟨by unfold AL;omega,by omega,?_⟩;have hs:=Ae.sub (i:=n-m) (m:=m) hr (by decide) (by omega) hc;rw[Ajq (by rw[Aj6];omega)]at hs;rw[show n-(n-m)=m by omega];refine pg hs hk λZ' hx=>⟨_,_,rfl,?_⟩;have:=h Z' hx;unfold Vp at this;rw[hl,hm]at this;exact this
 have two:∀m x:Int,x=IntKind.i64.wrap (Int.tdiv m 2)->(m=8\/m=4\/m=2)->x=m/2:=λm x hx hm=>by
  rw[hx];rcases hm with h|h|h<;>subst h<;>rfl
 refine CR.start (CR.BI ⟨λh8=>⟨by decide,λx1 e1=>?_⟩,λh8=>G 8 (by unfold dB;rw[Ajl (by omega)]) (by omega) (by omega)⟩);have e1:=two _ _ e1 (.inl rfl);subst e1;refine CR.BI ⟨λh4=>⟨by decide,λx2 e2=>?_⟩,λh4=>G 4 (by unfold dB;rw[Ajj (by omega),Ajl (by omega)]) (by omega) (by omega)⟩;have e2:=two _ _ e2 (.inr (.inl (by decide)));subst e2;refine CR.BI ⟨λh2=>⟨by decide,λx3 e3=>?_⟩,λh2=>G 2 (by unfold dB;rw[Ajj (by omega),Ajj (by omega),Ajl (by omega)]) (by omega) (by omega)⟩;have e3:=two _ _ e3 (.inr (.inr (by decide)));subst e3;exact CR.BI ⟨λh1=>by omega,λh1=>G 1 (by unfold dB;rw[Ajj (by omega),Ajj (by omega),Ajj (by omega)]) (by omega) (by omega)⟩
end
def Ie (ps:List Pt)(x:Int):Nat:=ps.countP λq=>decide (q.1<=x)
theorem tB {ps:List Pt}{x:Int}{i:Nat}(hi:i<=ps.length)(h1:∀k q,k<i->ps[k]?=some q->q.1<=x)(h2:∀k q,i<=k->ps[k]?=some q->x<q.1):Ie ps x=i:=by
 unfold Ie;rw[<-Aks i ps,List.countP_append];have e1:(ps.take i).countP (λq=>decide (q.1<=x))=(ps.take i).length:=List.countP_eq_length.2 λq hq=>by
  obtain⟨k,G⟩:=AkW.1 hq;rw[AkE]at G;split at G
  .rename_i hki;exact Aj0 (h1 k q hki G)
  .cases G
 have e2:(ps.drop i).countP (λq=>decide (q.1<=x))=0:=List.countP_eq_zero.2 λq hq=>by
  obtain⟨k,G⟩:=AkW.1 hq;rw[AkL]at G;have:=h2 _ q (AmG i k) G;simp;omega
 rw[e1,e2,AkA];omega
def kx (ps:List Pt):Prop:=ps.Pairwise λa b=>a.1<b.1
theorem vy {ps:List Pt}(h:PZ ps=true):kx ps:=by
 have hh:=((Kk ps).1 h).2;unfold kx;rw[Akm];intro i j hi hj eA
 induction j with
 | zero=>omega
 | succ j ih=>
  have G:=hh j ps[j] ps[j+1] (Ajs _) (Ajs _);by_cases h:i=j
  .subst h;exact G
  .exact Int.lt_trans (ih (by omega) (by omega)) G
theorem tC {ps:List Pt}(h:kx ps){i j:Nat}{a b:Pt}(G:i<j)(ha:ps[i]?=some a)(hb:ps[j]?=some b):a.1<b.1:=by
 obtain⟨h1,rfl⟩:=Ajn.1 ha;obtain⟨h2,rfl⟩:=Ajn.1 hb;exact Akm.1 h i j h1 h2 G
theorem ATk {x:Int}(G:0<=x)(h1:x<18446744073709551616):IntKind.u64.wrap x=x:=by simp[IntKind.wrap,IntKind.bits,IntKind.signed];omega
theorem ATl {x:Int}(G:0<=x)(h1:x<9223372036854775808):IntKind.i64.wrap x=x:=by simp[IntKind.wrap,IntKind.bits,IntKind.signed];omega
section
variable [GO]{Z22:Hp}{R:Rr}
theorem tD {f:Nat}(hf:Enters prog f)(AFO:∀a b x Z' R',R' (.returned (.I (if a<=x then -1 else 1))) Z'->Spec prog f #[.agg #[.I a,.U b],.I x] Z' R'){p:Option Addr}{n c:Nat}{ps:List Pt}{x:Int}(hr:Ae 2 DX Z22 p n ps)(hs:kx ps)
  (h:∀t,R (.T #[.I (Ie ps x),.bool t]) Z22):Spec prog 184 #[.slice p n c,.I x,.func (.func f) #[] #[]] Z22 R:=by
 have hl:ps.length=n:=hr.1;have RV:=hr.big;refine BY.start ?_
 suffices H:∀g i j:Nat,j-i=g->i<=j->j<=n->(∀k q,k<i->ps[k]?=some q->q.1<=x)->(∀k q,j<=k->ps[k]?=some q->x<q.1)->BY.CD R p n c x (.func (.func f) #[] #[]) n i j Z22 from
  H n 0 n rfl (Ajy _) (Ajt _) (λk q hk=>by omega) (λk q hk hq=>by have:=(Ajn.1 hq).1;omega)
 intro g
 induction g using Nat.strongRecOn with
 | _ g ih=>
  intro i j hg eA hj h1 h2;refine BY.A5 ⟨λAx=>⟨by unfold AL;omega,λaO e21=>⟨by decide,λFV e22 GL e23=>?_⟩⟩,λRU=>⟨λUD=>?_,λUD=>?_⟩⟩
  .rw[ATk (by omega) (by omega)]at e21;have AaQ:FV=((i+j)/2:Nat):=by rw[e22,e21];show((i:Int)+j)/2^1=_;omega
   rw[AaQ,ATl (by omega) (by omega)]at e23;generalize hm:(i+j)/2=m at *;have him:i<=m/\m<j:=by omega
   obtain⟨q,hq⟩:=hr.ex (k:=m) (by omega);obtain⟨b,o,rfl,Dy⟩:=DX.at hr hq;rw[e23];refine⟨b,o,rfl,by omega,q.1,q.2,by simpa using Dy,f,#[],#[],rfl,hf,AFO _ _ _ _ _ ⟨_,rfl,λALm=>⟨by unfold AL;omega,?_⟩,λIs=>?_⟩⟩
   .have hq1:q.1<=x:=by
     by_cases hh:q.1<=x
     .exact hh
     .rw[Ajj hh]at ALm;omega
    refine ih (j-(m+1)) (by omega) (m+1) j rfl (by omega) hj (λk r hk G=>?_) h2;by_cases hkm:k=m
    .rw[hkm,hq]at G;cases G;exact hq1
    .have:=tC hs (by omega:k<m) G hq;omega
   .have hq1:x<q.1:=by
     by_cases hh:q.1<=x
     .rw[Ajl hh]at Is;omega
     .omega
    refine ih (m-i) (by omega) i m rfl (by omega) (by omega) h1 (λk r hk G=>?_);by_cases hkm:k=m
    .rw[hkm,hq]at G;cases G;exact hq1
    .have:=tC hs (by omega:m<k) hq G;omega
  .have e:i=j:=by omega
   subst e;have hc:=tB (by omega) h1 h2;obtain⟨q,hq⟩:=hr.ex (k:=i) (by omega);obtain⟨b,o,rfl,Dy⟩:=DX.at hr hq;refine⟨b,o,rfl,by omega,q.1,q.2,by simpa using Dy,f,#[],#[],rfl,hf,AFO _ _ _ _ _ ⟨_,rfl,?_⟩⟩;have:=h (decide ((if q.1<=x then(-1:Int) else 1)=0));rw[hc]at this;exact this
  .have e:i=j:=by omega
   subst e;have hc:=tB (by omega) h1 h2;have:=h false;rw[hc]at this;exact this
omit [GO] in
theorem Kl {x:Int}:∀{ps:List Pt},kx ps->Ie ps x<=ps.length/\(∀k q,k<Ie ps x->ps[k]?=some q->q.1<=x)/\(∀k q,Ie ps x<=k->ps[k]?=some q->x<q.1)
 | [],_=>⟨Ajt _,λk q hk=>by simp[Ie]at hk,λk q _ G=>by simp at G⟩
 | a::l,h=>by
  have hl:=AkN.1 h;obtain⟨h1,h2,h3⟩:=Kl (x:=x) (ps:=l) hl.2;by_cases ha:a.1<=x
  .have e:Ie (a::l) x=Ie l x+1:=by unfold Ie;rw[List.countP_cons_of_pos (by simpa using ha)]
   rw[e];refine⟨by simp;exact h1,λk q hk G=>?_,λk q hk G=>?_⟩
   .cases k with
    | zero=>simp at G;subst G;exact ha
    | succ k=>exact h2 k q (by omega) (by simpa using G)
   .cases k with
    | zero=>omega
    | succ k=>exact h3 k q (by omega) (by simpa using G)
  .have e:Ie (a::l) x=0:=by
    unfold Ie;rw[List.countP_eq_zero];intro q G;rcases Ajo.1 G with rfl|G
    .simpa using ha
    .have:=hl.1 q G;simp;omega
   rw[e];refine⟨Ajy _,λk q hk=>by omega,λk q _ G=>?_⟩;cases k with
   | zero=>simp at G;subst G;omega
   | succ k=>
    have:=hl.1 q (Aju (by simpa using G));omega
omit [GO] in
theorem AFP {ps:List Pt}(hs:kx ps)(Fe I9:Int){i m:Nat}(hi:i=min (Ie ps Fe) (Ie ps I9))(hm:m=Ie ps I9-i):(ps.drop i).take m=IG ps Fe I9:=by
 obtain⟨a1,a2,a3⟩:=Kl (x:=Fe) hs;obtain⟨m1,m2,m3⟩:=Kl (x:=I9) hs;have e:ps=ps.take i++((ps.drop i).take m++(ps.drop i).drop m):=by rw[Aks,Aks]
 have hf:IG ps Fe I9=IG (ps.take i) Fe I9++(IG ((ps.drop i).take m) Fe I9++IG ((ps.drop i).drop m) Fe I9):=by
  conv=>lhs;rw[e]
  unfold IG;rw[Ak0,Ak0]
 rw[hf];have f1:IG (ps.take i) Fe I9=[]:=Al9.2 λq hq=>by
  obtain⟨k,G⟩:=AkW.1 hq;rw[AkE]at G;split at G
  .have:=a2 k q (by omega) G;simp;omega
  .cases G
 have f2:IG ((ps.drop i).take m) Fe I9=(ps.drop i).take m:=Alf.2 λq hq=>by
  obtain⟨k,G⟩:=AkW.1 hq;rw[AkE]at G;split at G
  .rename_i hkm;rw[AkL]at G;have g1:=m2 _ q (by omega) G;have g2:=a3 _ q (by omega) G;simp;omega
  .cases G
 have f3:IG ((ps.drop i).drop m) Fe I9=[]:=Al9.2 λq hq=>by
  obtain⟨k,G⟩:=AkW.1 hq;rw[AkL,AkL]at G;have:=m3 _ q (by omega) G;simp;omega
 rw[f1,f2,f3];simp
theorem Um {p:Option Addr}{n c:Nat}{ps:List Pt}{Fe I9:Int}(hr:Ae 2 DX Z22 p n ps)(hc:n<=c)(hs:kx ps)
  (h:∀q m d,Ae 2 DX Z22 q m (IG ps Fe I9)->m<=d->R (.returned (.slice q m d)) Z22):Spec prog 153 #[.slice p n c,.I Fe,.I I9] Z22 R:=by
 have hl:ps.length=n:=hr.1;have c1:∀a b x Z' R',R' (.returned (.I (if a<=x then -1 else 1))) Z'->Spec prog 185 #[.agg #[.I a,.U b],.I x] Z' R':=λa b x Z' R' hh=>Qp.start λ_=>⟨λG=>by rw[Ajl G]at hh;exact hh,λG=>by rw[Ajj G]at hh;exact hh⟩;have c2:∀a b x Z' R',R' (.returned (.I (if a<=x then -1 else 1))) Z'->Spec prog 186 #[.agg #[.I a,.U b],.I x] Z' R':=λa b x Z' R' hh=>Qv.start λ_=>⟨λG=>by rw[Ajl G]at hh;exact hh,λG=>by rw[Ajj G]at hh;exact hh⟩;have ha:=(Kl (x:=Fe) hs).1;have hm:=(Kl (x:=I9) hs).1;refine UT.start (tD (λargs w=>call185 args w) c1 hr hs λt=>⟨_,_,rfl,tD (λargs w=>call186 args w) c2 hr hs λt'=>⟨_,_,rfl,?_⟩⟩);have e:(if((Ie ps I9:Nat):Int)<(Ie ps Fe:Nat) then((Ie ps I9:Nat):Int) else(Ie ps Fe:Nat))=((min (Ie ps Fe) (Ie ps I9):Nat):Int):=by split<;>omega
 rw[e];generalize hi:min (Ie ps Fe) (Ie ps I9)=i;have Pa:=Ae.sub (i:=i) (m:=Ie ps I9-i) hr (by decide) (by omega) hc;rw[AFP hs Fe I9 hi.symm rfl]at Pa;refine⟨by omega,?_⟩;have:=h _ _ (c-i) Pa (by omega);simpa using this
end
theorem Km {α:Type}{P:α->Bool}:∀{l:List α} {k:Nat},k<=l.length->(∀j u,j<k->l[j]?=some u->P u=true)->(∀u,l[k]?=some u->P u=false)->(l.takeWhile P).length=k
 | [],k,G,_,_=>by simp at G;subst G;rfl
 | a::l,0,_,_,h2=>by simp[List.takeWhile,h2 a rfl]
 | a::l,k+1,G,h1,h2=>by
  have ha:P a=true:=h1 0 a (by omega) rfl;simp only[List.takeWhile,ha,Ajk];rw[Km (k:=k) (by simp at G;omega) (λj u hj hu=>h1 (j+1) u (by omega) (by simpa using hu)) (λu hu=>h2 u (by simpa using hu))]
def AV (s:ByteArray):Nat:=(s.data.toList.takeWhile C8).length
theorem P7 (s:ByteArray):AV s<=s.size:=by
 unfold AV;exact Ake (AmA (List.takeWhile_sublist _)) (Amt (AkP (xs:=s.data)))
section
variable [GO]{Z22:Hp}{R:Rr}
omit [GO] in
theorem YL {s:ByteArray}{h:Nat}(hh:h<=s.size):YF prog (Instr.sliceAt 9 (.string s) none (some (.I (h:Int))) none) Z22 (.string (s.extract 0 h)):=λw _=>by
 rw[run_sliceAt_string (h:=underlying9)];have G:(h:Int)<=s.size:=by omega
 simp[Instr.slice,run_underlying underlying9,Instr.sliceBounds,run_sliceBound,G,Result.andThen]
omit [GO] in
theorem P8 {s:ByteArray}{l:Nat}(hl:l<=s.size):YF prog (Instr.sliceAt 9 (.string s) (some (.I (l:Int))) none none) Z22 (.string (s.extract l s.size)):=λw _=>by
 rw[run_sliceAt_string (h:=underlying9)];have G:(l:Int)<=s.size:=by omega
 simp[Instr.slice,run_underlying underlying9,Instr.sliceBounds,run_sliceBound,G,Result.andThen]
omit [GO] in
theorem byte_at {s:ByteArray}{k:Nat}(G:k<s.size):∃u,s.data[k]?=some u/\s.data.toList[k]?=some u:=⟨s.data[k]'G,by rw[AlD],by rw[AkQ,AlD]⟩
theorem JA {s:ByteArray}(hb:s.size<=4611686018427387904)(h:R (.returned (.I (AV s))) Z22):Spec prog 93 #[.string s] Z22 R:=by
 have hlen:s.data.toList.length=s.size:=AkP (xs:=s.data);refine I1.start ?_
 suffices H:∀g k:Nat,s.size-k=g->k<=s.size->(∀j u,j<k->s.data.toList[j]?=some u->C8 u=true)->I1.GQ R s k Z22 from H s.size 0 rfl (Ajy _) (λj u hj=>by omega)
 intro g
 induction g with
 | zero=>
  intro k hg hk h1;have e:AV s=k:=Km (by omega) h1 (λu hu=>by have:=(Ajn.1 hu).1;omega);rw[e]at h;exact I1.BI ⟨λAx=>by omega,λ_=>h⟩
 | succ g ih=>
  intro k hg hk h1;obtain⟨u,hu,Bt⟩:=byte_at (show k<s.size by omega);have G:C8 u=false->R (.returned (.I k)) Z22:=λhd=>by
   have e:AV s=k:=Km (by omega) h1 (λv hv=>by rw[Bt]at hv;cases hv;exact hd);rw[e]at h;exact h
  refine I1.BI ⟨λ_=>⟨u,by omega,by simpa using hu,Ti.start ⟨λky=>⟨_,rfl,λht=>?_,λhf=>G ?_⟩,λky=>⟨false,rfl,⟨λht=>(by cases ht),λ_=>G ?_⟩⟩⟩⟩,λhh=>by omega⟩
  .refine⟨AO (by omega:k<s.size) hb,ih (k+1) (by omega) (by omega) λj v hj hv=>?_⟩;by_cases hjk:j=k
   .rw[hjk,Bt]at hv;cases hv;have:=Ajx ht;exact Aj0 (by omega)
   .exact h1 j v (by omega) hv
  .have:=AkM hf;exact Aj1 (by omega)
  .exact Aj1 (by omega)
end
abbrev Qd (n:Nd)(p:Option Addr)(k c:Nat)(q:Option Addr)(m d:Nat):Value:=.agg #[.I n.kind,.I n.op,.string n.text,.slice p k c,.I n.width,.I n.back,.I n.GU,.slice q m d,.bool n.bool,.I n.parts]
def B9 (n:Nd):Nd:=
 if n.kind=1 then⟨n.kind,0,n.text,[],0,0,0,[],false,0⟩
 else if n.kind=2 then⟨n.kind,0,ByteArray.mk #[],[],0,n.back,0,[],false,0⟩
 else if n.kind=3 then⟨n.kind,0,ByteArray.mk #[],[],n.width,n.back,0,[],false,0⟩
 else if n.kind=4 then⟨n.kind,n.op,ByteArray.mk #[],[],0,0,0,[],false,n.parts⟩
 else if n.kind=5 then⟨n.kind,n.op,ByteArray.mk #[],[],0,0,n.GU,[],false,n.parts⟩
 else if n.kind=6 then⟨n.kind,n.op,ByteArray.mk #[],[],0,0,n.GU,[],n.bool,n.parts⟩
 else⟨n.kind,0,ByteArray.mk #[],[],0,0,0,[],false,n.parts⟩
theorem ABy:∀w,(Go.sizeOf 2).run prog w=.ok 1 w:=λw=>by kernel_rfl
theorem JB:∀w,(Go.sizeOf 3).run prog w=.ok 1 w:=λw=>by kernel_rfl
theorem ABz:∀w,(Go.sizeOf 4).run prog w=.ok 1 w:=λw=>by kernel_rfl
theorem ATm:∀w,(Go.sizeOf 9).run prog w=.ok 1 w:=λw=>by kernel_rfl
theorem tE:∀w,(Go.sizeOf 127).run prog w=.ok 10 w:=λw=>by kernel_rfl
theorem YM {c:Array Value}{l:List Value}(h:l.length=c.size):LF c 0 l=l.toArray:=by
 apply Array.ext_getElem?
 intro j;rw[VW l c 0 j (by omega)];split
 .simp
 .rename_i G;rw[Al8 (by omega),Als,Ak2 (by omega)]
section
variable [GO]{Z22:Hp}{R:Rr}
omit [GO] in
theorem AB0 {O2:Hp}{b T:Nat}:∀{l:List Value} {c:Array Value} {o:Nat},O2 b=some (.cells c T (0,0))->(∀j v,l[j]?=some v->c[o+j]?=some v)->A2 O2 b o l
 | [],_,_,_,_=>trivial
 | v::l,c,o,hb,h=>⟨by unfold Hp.ld;rw[hb];simpa using h 0 v rfl,AB0 hb λj u G=>by have:=h (j+1) u (by simpa using G);rwa[show o+(j+1)=o+1+j by omega]at this⟩
omit [GO] in
theorem tF {O2:Hp}{b:Nat}{o:Obj}(hb:Z22 b=none)(h:Ext Z22 O2):Ext Z22 (O2.set b o):=λk u G=>by
 rw[Hp.AB (λe=>by rw[e,hb]at G;cases G)];exact h k u G
set_option maxHeartbeats 4000000 in
theorem vz {n:Nd}{p q:Option Addr}{k c m d:Nat}(h:∀Z',Ext Z22 Z'->R (.returned (Qd (B9 n) none 0 0 none 0 0)) Z'):Spec prog 113 #[Qd n p k c q m d] Z22 R:=by
 refine Xt.start λ_ _ b hb=>?_;have fin:∀(O2:Hp) (c:Array Value) (T:Nat),O2 b=some (.cells c T (0,0))->Ext Z22 O2->c=#[.I (B9 n).kind,.I (B9 n).op,.string (B9 n).text,.N,.I (B9 n).width,.I (B9 n).back,.I (B9 n).GU,.N,.bool (B9 n).bool,.I (B9 n).parts]->
   ∃RL RM oZ ABH ABI ABJ ABK ABL ABM ABN ABO ABP ABQ ABR,A2 O2 b 0 [.I RL,.I RM,.string oZ,.slice ABH ABI ABJ,.I ABK,.I ABL,.I ABM,.slice ABN ABO ABP,.bool ABQ,.I ABR]/\R (.returned (.agg #[.I RL,.I RM,.string oZ,.slice ABH ABI ABJ,.I ABK,.I ABL,.I ABM,.slice ABN ABO ABP,.bool ABQ,.I ABR])) O2:=λO2 c T hτ hx hc=>
  ⟨_,_,_,_,_,_,_,_,_,_,_,_,_,_,AB0 hτ λj v hv=>by rw[hc,Akn];simpa using hv,h O2 hx⟩
 have st:∀{O2:Hp} {c:Array Value} {T U o:Nat} {v:Value} {Φ:Unit->Hp->Prop},(∀w,(Go.sizeOf U).run prog w=.ok 1 w)->O2 b=some (.cells c T (0,0))->Ext Z22 O2->o+1<=c.size->v.cells=#[v]->v.oneCell'=true->
   (∀(O'2:Hp) (c':Array Value),c'=LF c o [v]->c'.size=c.size->O'2 b=some (.cells c' T (0,0))->Ext Z22 O'2->Φ () O'2)->AI prog (Instr.storeAt U (.pointer (aD b o)) v) O2 Φ:=fun {O2 c T U o v Φ} hz hτ hx ho h1 h2 hk=>by
  refine AI.store hz hτ (by rw[h1];rfl) (by simpa using ho) (λu hu=>by rw[h1]at hu;simp at hu;rw[hu];exact h2) ?_;rw[h1];exact hk _ _ rfl (KR _ _ _) (Hp.AA _ _ _) (tF hb hx)
 have st0:∀{Φ:Unit->Hp->Prop},(∀(O2:Hp) (c:Array Value),c=#[.I n.kind,.I 0,(.string (ByteArray.mk #[])),.N,.I 0,.I 0,.I 0,.N,.bool false,.I 0]->c.size=10->O2 b=some (.cells c 127 (0,0))->Ext Z22 O2->Φ () O2)->
   AI prog (Instr.storeAt 127 (.pointer (aD b 0)) (.agg #[.I n.kind,.I 0,(.string (ByteArray.mk #[])),.N,.I 0,.I 0,.I 0,.N,.bool false,.I 0])) (Hp.set Z22 b (.cells #[.I 0,.I 0,(.string (ByteArray.mk #[])),.N,.I 0,.I 0,.I 0,.N,.bool false,.I 0] 127 (0,0))) Φ:=fun {Φ} hk=>by
  refine AI.store tE (Hp.AA _ _ _) rfl (by simp) (by simp[Value.cells,Value.oneCell']) ?_;exact hk _ _ (YM rfl) (by rw[KR];rfl) (Hp.AA _ _ _) (tF hb (Ext.set hb))
 refine st0 λO2 c0 e0 z0 g0 x0=>?_;refine⟨λh1=>?_,λh1=>⟨λh2=>?_,λh2=>⟨λh3=>?_,λh3=>⟨λh4=>?_,λh4=>⟨λh5=>?_,λh5=>⟨λh6=>?_,λh6=>?_⟩⟩⟩⟩⟩⟩
 .refine st ATm g0 x0 (by omega) rfl rfl λO1 c1 G z1 g1 x1=>fin O1 c1 _ g1 x1 ?_;subst e0 G;unfold B9;simp only[h1,AlG];rfl
 .refine st ABy g0 x0 (by omega) rfl rfl λO1 c1 G z1 g1 x1=>fin O1 c1 _ g1 x1 ?_;subst e0 G;unfold B9;simp only[h2,AlG];rfl
 .refine st ABy g0 x0 (by omega) rfl rfl λO1 c1 G z1 g1 x1=>?_;refine st ABy g1 x1 (by omega) rfl rfl λO22 c2 e2 z2 g2 x2=>fin O22 c2 _ g2 x2 ?_;subst e0 G e2;unfold B9;simp only[h3,AlG];rfl
 .refine st JB g0 x0 (by omega) rfl rfl λO1 c1 G z1 g1 x1=>?_;refine st JB g1 x1 (by omega) rfl rfl λO22 c2 e2 z2 g2 x2=>fin O22 c2 _ g2 x2 ?_;subst e0 G e2;unfold B9;simp only[h4,AlG];rfl
 .refine st JB g0 x0 (by omega) rfl rfl λO1 c1 G z1 g1 x1=>?_;refine st JB g1 x1 (by omega) rfl rfl λO22 c2 e2 z2 g2 x2=>?_;refine st JB g2 x2 (by omega) rfl rfl λO3 c3 e3 z3 g3 x3=>fin O3 c3 _ g3 x3 ?_;subst e0 G e2 e3;unfold B9;simp only[h5,AlG];rfl
 .refine st JB g0 x0 (by omega) rfl rfl λO1 c1 G z1 g1 x1=>?_;refine st JB g1 x1 (by omega) rfl rfl λO22 c2 e2 z2 g2 x2=>?_;refine st ABz g2 x2 (by omega) rfl rfl λO3 c3 e3 z3 g3 x3=>?_;refine st JB g3 x3 (by omega) rfl rfl λO4 c4 e4 z4 g4 x4=>fin O4 c4 _ g4 x4 ?_;subst e0 G e2 e3 e4;unfold B9;simp only[h6,AlG];rfl
 .refine st JB g0 x0 (by omega) rfl rfl λO1 c1 G z1 g1 x1=>fin O1 c1 _ g1 x1 ?_;subst e0 G;unfold B9;simp only[h1,h2,h3,h4,h5,h6,AlE];rfl
end
section
variable {Z22:Hp}{R:Rr}
theorem EA {k:Int}(h:R (.returned (.bool (Hz k))) Z22):Spec prog 116 #[.I k] Z22 R:=by
 refine PR.start ⟨λG=>?_,λG=>?_⟩
 .rw[show Hz k=decide (k<=10) by unfold Hz;rw[Aj0 G];rfl]at h;exact h
 .rw[show Hz k=false by unfold Hz;rw[Aj1 G];rfl]at h;exact h
theorem Un {k:Int}(h:R (.returned (.bool (decide (11<=k/\k<=13)))) Z22):Spec prog 120 #[.I k] Z22 R:=by
 refine Wa.start ⟨λG=>?_,λG=>?_⟩
 .rw[show decide (11<=k/\k<=13)=decide (k<=13) from Akr.2 ⟨λh=>h.2,λh=>⟨G,h⟩⟩]at h;exact h
 .rw[show decide (11<=k/\k<=13)=false from Aj1 (λhh=>G hh.1)]at h;exact h
theorem Ts {v l:Int}(h:R (.returned (.bool (Ma v l))) Z22):Spec prog 115 #[.I v,.I l] Z22 R:=by
 refine Xk.start ⟨λG=>?_,λG=>?_⟩
 .rw[show Ma v l=decide (v<2147483648) by unfold Ma;rw[Aj0 G];rfl]at h;exact h
 .rw[show Ma v l=false by unfold Ma;rw[Aj1 G];rfl]at h;exact h
theorem dC {k:Int}(h:R (.returned (.bool (decide (1<=k/\k<=4)))) Z22):Spec prog 117 #[.I k] Z22 R:=by
 refine Xo.start ⟨λG=>?_,λG=>?_⟩
 .rw[show decide (1<=k/\k<=4)=decide (k<=4) from Akr.2 ⟨λh=>h.2,λh=>⟨G,h⟩⟩]at h;exact h
 .rw[show decide (1<=k/\k<=4)=false from Aj1 (λhh=>G hh.1)]at h;exact h
theorem P9 {s:ByteArray}(h:R (.returned (.bool (Dt s))) Z22):Spec prog 118 #[.string s] Z22 R:=by
 refine WT.start (PW ?_);exact⟨_,rfl,h⟩
theorem Js.at {p:Option Addr}{n i:Nat}{ms:List Mt}{x:Mt}(hr:Ae 3 Js Z22 p n ms)(hx:ms[i]?=some x):∃b o,p=some ⟨b,o,none⟩/\A2 Z22 b (o+i*3) [.I x.kind,.string x.name,.string x.val]:=by
 obtain⟨b,o,vs,hp,rfl,G⟩:=Ae.idx hr hx;exact⟨b,o,hp,G⟩
def ph (m:Mt):Bool:=decide (1<=m.kind/\m.kind<=4)&&Dt m.name&&decide (m.val.size<=256)
theorem Pb {p:Option Addr}{n c:Nat}{ms:List Mt}(hr:Ae 3 Js Z22 p n ms)(h:R (.returned (.I (GH Dt ms))) Z22):Spec prog 86 #[.slice p n c] Z22 R:=by
 have hl:ms.length=n:=hr.1;refine Hu.start ⟨λh8=>?_,λh8=>?_⟩
 .rw[show GH Dt ms=41 by unfold GH;rw[Ajl (by omega)]]at h;exact h
 have hm:GH Dt ms=if ms.all ph then 0 else 40:=by unfold GH;rw[Ajj (by omega)];rfl
 rw[hm]at h
 suffices H:∀g k:Nat,n-k=g->k<=n->ms.all ph=(ms.drop k).all ph->Hu.Gc R p n c n k Z22 from H n 0 rfl (Ajy _) rfl
 intro g
 induction g with
 | zero=>
  intro k hg hk G;rw[AkF (by omega)]at G;rw[G]at h;exact Hu.EE ⟨λAx=>by omega,λ_=>h⟩
 | succ g ih=>
  intro k hg hk G;have Cs:k<n:=by omega
  obtain⟨x,hx⟩:=hr.ex Cs;obtain⟨b,o,rfl,Dy⟩:=Js.at hr hx;rw[BR hx,AmD]at G;have bad:ph x=false->R (.returned (.I 40)) Z22:=λhf=>by
   rw[hf]at G;rw[G]at h;exact h
  refine Hu.EE ⟨λ_=>⟨b,o,rfl,by omega,x.kind,x.name,x.val,by simpa using Dy,λ_=>dC ⟨_,rfl,λhf=>bad ?_,λht=>P9 ⟨_,rfl,λhf=>bad ?_,λhn=>⟨λhv=>bad ?_,λhv=>⟨AO Cs hr.big,ih (k+1) (by omega) (by omega) ?_⟩⟩⟩⟩⟩,λhh=>by omega⟩
  .unfold ph;rw[hf];rfl
  .unfold ph;rw[hf];simp
  .unfold ph;rw[show decide (x.val.size<=256)=false from Aj1 (by omega)];simp
  .rw[G,show ph x=true by unfold ph;rw[ht,hn,show decide (x.val.size<=256)=true from Aj0 (by omega)];rfl,Ak1]
end
section
variable {Z22:Hp}{R:Rr}
theorem pj {n:Nd}{p q:Option Addr}{k c m d:Nat}(hr:Fo 1 Z22 q m (n.names.map .string))(h:R (.returned (.bool (Tq Dt n))) Z22):Spec prog 114 #[Qd n p k c q m d] Z22 R:=by
 have hl:n.names.length=m:=by have:=hr.1;simpa using this
 refine Hr.start λ_=>?_
 suffices H:∀g i:Nat,m-i=g->i<=m->n.names.all Dt=(n.names.drop i).all Dt->Hr.Gf R n.kind n.op n.text p k c n.width n.back n.GU q m d n.bool n.parts q m d m i Z22 from H m 0 rfl (Ajy _) rfl
 have RV:m<=4611686018427387904:=hr.2.1;intro g
 induction g with
 | zero=>
  intro i hg hi G;rw[AkF (by omega)]at G;have e:Tq Dt n=(decide (m=0)||decide (n.GU≠0)):=by unfold Tq;rw[G,hl];rfl
  rw[e]at h;refine Hr.A0 ⟨λAx=>by omega,λ_=>⟨λh0=>?_,λh0=>?_⟩⟩
  .rw[Aj0 (show m=0 by omega)]at h;exact h
  .rw[Aj1 (show ¬m=0 by omega)]at h;exact h
 | succ g ih=>
  intro i hg hi G;have CO:i<m:=by omega
  obtain⟨x,hx⟩:∃x,n.names[i]?=some x:=⟨_,Ajs (by omega)⟩;obtain⟨b,o,rfl,Dy⟩:=Fo.at1 hr (k:=i) (v:=.string x) (by rw[Akt,hx];rfl);rw[BR hx,AmD]at G;refine Hr.A0 ⟨λ_=>⟨b,o,rfl,by omega,x,by simpa using Dy,P9 ⟨_,rfl,λhf=>?_,λht=>⟨AO CO RV,ih (i+1) (by omega) (by omega) ?_⟩⟩⟩,λhh=>by omega⟩
  .have e:Tq Dt n=false:=by unfold Tq;rw[G,hf];rfl
   rw[e]at h;exact h
  .rw[G,ht,Ak1]
theorem AB1 {a b:ByteArray}:(ByteArray.toList a==ByteArray.toList b)=decide (a.data.toList=b.data.toList):=by
 rw[ByteArray.toList_eq,ByteArray.toList_eq];by_cases h:a.data.toList=b.data.toList
 .simp[h]
 .rw[Aj1 h];exact Amb.2 h
theorem ATn {a b:ByteArray}:(ByteArray.toList a==ByteArray.toList b)=decide (a=b):=by
 rw[AB1];exact Akr.2 ⟨λh=>AmE (AkD.1 h),λh=>by rw[h]⟩
def Hb (a b:Nd):Bool:=decide (a.kind=b.kind/\a.op=b.op/\a.text=b.text/\a.width=b.width/\a.back=b.back/\a.GU=b.GU/\a.bool=b.bool/\a.parts=b.parts)
theorem po {a b:Nd}{p p' q q':Option Addr}{k c k' c' m d m' d':Nat}(h:R (.returned (.bool (Hb a b))) Z22):Spec prog 112 #[Qd a p k c q m d,Qd b p' k' c' q' m' d'] Z22 R:=by
 have no:¬(a.kind=b.kind/\a.op=b.op/\a.text=b.text/\a.width=b.width/\a.back=b.back/\a.GU=b.GU/\a.bool=b.bool/\a.parts=b.parts)->R (.B false) Z22:=λhn=>by
  rw[show Hb a b=false from Aj1 hn]at h;exact h
 have last:a.kind=b.kind/\a.op=b.op/\a.text=b.text/\a.width=b.width/\a.back=b.back/\a.GU=b.GU/\a.bool=b.bool->R (.returned (.bool (decide (a.parts=b.parts)))) Z22:=λhh=>by
  rw[show Hb a b=decide (a.parts=b.parts) from Akr.2 ⟨λg=>g.2.2.2.2.2.2.2,λg=>⟨hh.1,hh.2.1,hh.2.2.1,hh.2.2.2.1,hh.2.2.2.2.1,hh.2.2.2.2.2.1,hh.2.2.2.2.2.2,g⟩⟩]at h;exact h
 refine UZ.start λ_ _=>⟨λh1=>⟨λh2=>⟨λG=>?_,λG=>no ?_⟩,λh2=>no λg=>h2 g.2.1⟩,λh1=>no λg=>h1 g.1⟩
 .rw[ATn]at G;have G:=Ajx G;refine⟨λh4=>⟨λh5=>⟨λh6=>⟨λt1=>⟨λt2=>last ⟨h1,h2,G,h4,h5,h6,t1.trans t2.symm⟩,λt2=>no λg=>?_⟩,λt1=>⟨λt2=>no λg=>?_,λt2=>last ⟨h1,h2,G,h4,h5,h6,t1.trans t2.symm⟩⟩⟩,λh6=>no λg=>h6 g.2.2.2.2.2.1⟩,λh5=>no λg=>h5 g.2.2.2.2.1⟩,λh4=>no λg=>h4 g.2.2.2.1⟩
  .have:=g.2.2.2.2.2.2.1;rw[t1,t2]at this;cases this
  .have:=g.2.2.2.2.2.2.1;rw[t1,t2]at this;cases this
 .rw[ATn]at G;exact λg=>AkM G g.2.2.1
end
def Gv (s:ByteArray):Bool:=
 if AV s=0 then false else if 1<AV s/\s.data[0]?=some 48 then false else if AV s=s.size then decide (AV s<=15)
 else decide (s.data[AV s]?=some 46/\0<AV (s.extract (AV s+1) s.size)/\AV s+1+AV (s.extract (AV s+1) s.size)=s.size/\AV s+AV (s.extract (AV s+1) s.size)<=15)
theorem Ly {u:UInt8}{k:Nat}(G:k<256):((u.toNat:Nat):Int)=k↔u=UInt8.ofNat k:=by
 constructor
 .intro h;apply Amx.1
  rw[Al3];omega
 .rintro rfl
  rw[Al3];omega
section
variable {Z22:Hp}{R:Rr}
theorem JC {s:ByteArray}(hb:s.size<=4611686018427387904)(h:R (.returned (.bool (Gv s))) Z22):Spec prog 62 #[.string s] Z22 R:=by
 have hle:=P7 s;refine Xn.start (JA hb ⟨_,rfl,λh0=>?_,λh0=>⟨_,YL hle,?_⟩⟩)
 .rw[show Gv s=false by unfold Gv;rw[Ajl (by omega)]]at h;exact h
 have KD:(s.extract 0 (AV s)).size=AV s:=by rw[AlA];omega
 have G:¬(1<AV s/\s.data[0]?=some 48)->Br ((AV s:Int)=(s.size:Int)) (R (.returned (.bool (decide ((AV s:Int)<=15)))) Z22) (AL ((AV s:Int)+1)/\∃s24,YF prog (Instr.sliceAt 9 (.string s) (some (.I ((AV s:Int)+1))) none none) Z22 (.string s24)/\Spec prog 93 #[.string s24] Z22 (AY R (CI .i64 λml AK=>∃u28:UInt8,0<=(AV s:Int)/\(ByteArray.data s)[Int.toNat (AV s:Int)]?=some u28/\Br (((u28.toNat:Int):Int)=46) (Br (0<ml) (AL ((AV s:Int)+1)/\AL (((AV s:Int)+1)+ml)/\Br (((((AV s:Int)+1)+ml):Int)=(s.size:Int)) (AL ((AV s:Int)+ml)/\R (.returned (.bool (decide ((((AV s:Int)+ml):Int)<=15)))) AK) (R (.B false) AK)) (R (.B false) AK)) (R (.B false) AK)))):=λhn=>by
  refine⟨λhe=>?_,λhe=>⟨by unfold AL;omega,s.extract (AV s+1) s.size,P8 (l:=AV s+1) (by omega),?_⟩⟩
  .rw[show Gv s=decide ((AV s:Int)<=15) by unfold Gv;rw[Ajj (by omega),Ajj hn,Ajl (by omega)];exact Akr.2 (by omega)]at h;exact h
  have AaS:(s.extract (AV s+1) s.size).size=s.size-(AV s+1):=by rw[AlA];omega
  have hm:=P7 (s.extract (AV s+1) s.size);refine JA (by omega) ?_;obtain⟨u,hu,_⟩:=byte_at (show AV s<s.size by omega);have hO:Gv s=decide (s.data[AV s]?=some 46/\0<AV (s.extract (AV s+1) s.size)/\AV s+1+AV (s.extract (AV s+1) s.size)=s.size/\AV s+AV (s.extract (AV s+1) s.size)<=15):=by unfold Gv;rw[Ajj (by omega),Ajj hn,Ajj (by omega)]
  rw[hO,hu]at h;generalize AV (s.extract (AV s+1) s.size)=m at *;have b46:=Ly (u:=u) (k:=46) (by decide);have no:¬(u=46/\0<m/\AV s+1+m=s.size/\AV s+m<=15)->R (.B false) Z22:=λhh=>by
   rw[Aj1 (by rw[Ajv];exact hh)]at h;exact h
  refine⟨_,rfl,u,by omega,by simpa using hu,λYO=>⟨λh0m=>⟨by unfold AL;omega,by unfold AL;omega,λhs=>⟨by unfold AL;omega,?_⟩,λhs=>no λg=>hs (by omega)⟩,λh0m=>no λg=>h0m (by omega)⟩,λYO=>no λg=>YO (b46.2 g.1)⟩;rw[show decide (some u=some 46/\0<m/\AV s+1+m=s.size/\AV s+m<=15)=decide (((AV s:Int)+m)<=15) from Akr.2 ⟨λg=>by omega,λg=>⟨by rw[b46.1 YO];rfl,by omega,by omega,by omega⟩⟩]at h;exact h
 refine SG.start ⟨λh1=>?_,λh1=>⟨false,rfl,λht=>(by cases ht),λ_=>G (by omega)⟩⟩;obtain⟨u,hu,_⟩:=byte_at (show 0<s.size by omega);have VE:=Ly (u:=u) (k:=48) (by decide);have Bt:(s.extract 0 (AV s)).data[0]?=some u:=by
  rw[AmB,Amy];rw[Ajl (by have:s.data.size=s.size:=rfl;omega)];simpa using hu
 refine⟨u,by omega,by simpa using Bt,_,rfl,λht=>?_,λhf=>G ?_⟩
 .have:=VE.1 (Ajx ht);rw[show Gv s=false by unfold Gv;rw[Ajj (by omega),Ajl ⟨by omega,by rw[hu,this];rfl⟩]]at h;exact h
 .rintro⟨_,g⟩
  rw[hu,Ajv]at g;exact AkM hf (VE.2 g)
end
def HH (n:Nd):Bool:=
 if n.kind=1 then Gv n.text else if n.kind=2 then Ma n.back 0 else if n.kind=3 then Ma n.width 1&&Ma n.back 0
 else if n.kind=4 then decide (n.parts=1/\1<=n.op/\n.op<=12)
 else if n.kind=5 then decide (n.parts=1/\1<=n.op/\n.op<=5/\(n.GU=0\/n.GU=1\/n.GU=2))
 else if n.kind=6 then decide (n.parts=2/\1<=n.op/\n.op<=13/\(n.GU=0\/n.GU=3\/n.GU=4))&&(!n.bool||Hz n.op)
 else decide (n.kind=7/\n.parts=1)
def E5 (n:Nd):Bool:=Hb n (B9 n)&&Tq Dt n&&!(decide (0<n.mt.length)&&decide (n.kind≠2)&&decide (n.kind≠3))&&HH n
section
variable {Z22:Hp}{R:Rr}
theorem v7 {n:Nd}{p q:Option Addr}{k c m d:Nat}(hk:n.mt.length=k)(hr:Fo 1 Z22 q m (n.names.map .string))(hb:n.text.size<=4611686018427387904)(h:∀Z',Ext Z22 Z'->R (.returned (.bool (E5 n))) Z'):Spec prog 85 #[Qd n p k c q m d] Z22 R:=by
 refine W0.start λ_=>vz λZ1 hx=>⟨_,_,_,_,_,_,_,_,_,_,_,_,_,_,rfl,po ⟨_,rfl,λhf=>?_,λht=>pj (hr.mono hx) ⟨_,rfl,λhf=>?_,λhn=>?_⟩⟩⟩
 .have:=h Z1 hx;rw[show E5 n=false by unfold E5;rw[hf];rfl]at this;exact this
 .have:=h Z1 hx;rw[show E5 n=false by unfold E5;rw[ht,hf];rfl]at this;exact this
 have G:=h Z1 hx;have e:E5 n=(!(decide (0<n.mt.length)&&decide (n.kind≠2)&&decide (n.kind≠3))&&HH n):=by unfold E5;rw[ht,hn];rfl
 rw[e]at G;clear e h;have fin:¬(0<n.mt.length/\n.kind≠2/\n.kind≠3)->∀t,HH n=t->R (.B t) Z1:=λAb t ht=>by
  have e2:(!(decide (0<n.mt.length)&&decide (n.kind≠2)&&decide (n.kind≠3)))=true:=by
   rw[Bool.not_eq_true',Bool.eq_false_iff];intro hc;simp only[Ajz,Aj3]at hc;exact Ab ⟨hc.1.1,hc.1.2,hc.2⟩
  rw[e2,Ak1,ht]at G;exact G
 refine⟨λhm=>⟨λh2=>⟨λh3=>?_,λh3=>?_⟩,λh2=>?_⟩,λhm=>?_⟩
 .rw[show(!(decide (0<n.mt.length)&&decide (n.kind≠2)&&decide (n.kind≠3)))=false by rw[Aj0 (show 0<n.mt.length by omega),Aj0 h2,Aj0 h3];rfl,Aku]at G;exact G
 all_goals
  have fin:=fin (by omega);clear G ht hn;refine⟨λk1=>JC hb ⟨_,rfl,?_⟩,λk1=>⟨λk2=>Ts ⟨_,rfl,?_⟩,λk2=>⟨λk3=>Ts ⟨_,rfl,λht=>Ts ⟨_,rfl,?_⟩,λhf=>?_⟩,λk3=>⟨λk4=>⟨λhp=>⟨λho=>?_,λho=>?_⟩,λhp=>?_⟩,λk4=>⟨λk5=>⟨λhp=>⟨λho=>⟨λB6=>⟨λg0=>?_,λg0=>⟨λg1=>?_,λg1=>?_⟩⟩,λB6=>?_⟩,λho=>?_⟩,λhp=>?_⟩,λk5=>⟨λk6=>⟨λhp=>⟨λho=>⟨λB6=>⟨λg0=>⟨λbf=>?_,λbt=>EA ⟨_,rfl,?_⟩⟩,λg0=>⟨λg3=>⟨λbf=>?_,λbt=>EA ⟨_,rfl,?_⟩⟩,λg3=>⟨λg4=>⟨λbf=>?_,λbt=>EA ⟨_,rfl,?_⟩⟩,λg4=>?_⟩⟩⟩,λB6=>?_⟩,λho=>?_⟩,λhp=>?_⟩,λk6=>⟨λk7=>?_,λk7=>?_⟩⟩⟩⟩⟩⟩⟩<;>(refine fin _ ?_;clear fin;unfold HH;simp[*])
end
section
variable {Z22:Hp}{R:Rr}
abbrev tyV (x:Int×Int):Value:=.tuple #[.I x.1,.I x.2]
def kz (n:Nd)(a:Int):Int×Int:=if a=(if n.op=11\/n.op=12 then 2 else 3) then(2,0) else(0,191)
def tG (a:Int):Int×Int:=if a=2 then(2,0) else(0,191)
def AB2 (a:Int):Int×Int:=if a=3 then(0,191) else(a,0)
theorem pq {w:Option Addr}{n:Nd}{p q r:Option Addr}{k c m d s t:Nat}{l:List Int}{a:Int}(hr:DB .i64 Z22 r s l)(ha:l[0]?=some a)(h:R (.returned (tyV (kz n a))) Z22):Spec prog 88 #[.pointer w,Qd n p k c q m d,.slice r s t] Z22 R:=by
 have hs:l.length=s:=hr.1;have h0:=(Ajn.1 ha).1;obtain⟨b,o,rfl,Dy⟩:=DB.at hr ha;have go:∀z:Int,(if n.op=11\/n.op=12 then 2 else 3)=z->Cr.Dp R (some ⟨b,o,none⟩) s t z Z22:=λz hz=>by
  unfold kz at h;rw[hz]at h;refine Cr.Bp ⟨b,o,rfl,by omega,a,by simpa using Dy,λAv=>?_,λG=>?_⟩
  .rw[Ajj Av]at h;exact h
  .rw[Ajl (AkK.1 G)]at h;exact h
 exact Cr.start λ_=>⟨λh1=>go 2 (Ajl (.inl h1)),λh1=>⟨λh2=>go 2 (Ajl (.inr h2)),λh2=>go 3 (Ajj (by omega))⟩⟩
theorem wC {w:Option Addr}{n:Nd}{p q r:Option Addr}{k c m d s t:Nat}{l:List Int}{a:Int}(hr:DB .i64 Z22 r s l)(ha:l[0]?=some a)(h:R (.returned (tyV (tG a))) Z22):Spec prog 89 #[.pointer w,Qd n p k c q m d,.slice r s t] Z22 R:=by
 have hs:l.length=s:=hr.1;have h0:=(Ajn.1 ha).1;obtain⟨b,o,rfl,Dy⟩:=DB.at hr ha;unfold tG at h;refine Gu.start λ_=>⟨b,o,rfl,by omega,a,by simpa using Dy,λAv=>?_,λG=>?_⟩
 .rw[Ajj Av]at h;exact h
 .rw[Ajl (AkK.1 G)]at h;exact h
theorem wD {w:Option Addr}{n:Nd}{p q r:Option Addr}{k c m d s t:Nat}{l:List Int}{a:Int}(hr:DB .i64 Z22 r s l)(ha:l[0]?=some a)(h:R (.returned (tyV (AB2 a))) Z22):Spec prog 91 #[.pointer w,Qd n p k c q m d,.slice r s t] Z22 R:=by
 have hs:l.length=s:=hr.1;have h0:=(Ajn.1 ha).1;obtain⟨b,o,rfl,Dy⟩:=DB.at hr ha;unfold AB2 at h;refine Ge.start λ_=>⟨b,o,rfl,by omega,a,by simpa using Dy,λG=>?_,λAv=>⟨by omega,a,by simpa using Dy,?_⟩⟩
 .rw[Ajl G]at h;exact h
 .rw[Ajj Av]at h;exact h
end
section
variable {Z22:Hp}{R:Rr}
def wE (n:Nd)(a b:Int):Int×Int:=if a=3\/b=3\/((11<=n.op/\n.op<=13\/n.GU≠0)/\¬(a=2/\b=2))\/(a=1/\b=1/\Hz n.op=true/\n.bool=false) then(0,192) else(if a<b then b else a,0)
theorem wF {w:Option Addr}{n:Nd}{p q r:Option Addr}{k c m d s t:Nat}{l:List Int}{a b:Int}(hr:DB .i64 Z22 r s l)(ha:l[0]?=some a)(hb:l[1]?=some b)(h:R (.returned (tyV (wE n a b))) Z22):Spec prog 90 #[.pointer w,Qd n p k c q m d,.slice r s t] Z22 R:=by
 have hs:l.length=s:=hr.1;have h1:=(Ajn.1 hb).1;obtain⟨b1,o,rfl,Dy⟩:=DB.at hr ha;obtain⟨_,_,he,ALn⟩:=DB.at hr hb;cases he;have bad:a=3\/b=3\/((11<=n.op/\n.op<=13\/n.GU≠0)/\¬(a=2/\b=2))\/(a=1/\b=1/\Hz n.op=true/\n.bool=false)->R (.T #[.I 0,.I 192]) Z22:=λhh=>by
  unfold wE at h;rw[Ajl hh]at h;exact h
 have G:¬(a=3\/b=3\/((11<=n.op/\n.op<=13\/n.GU≠0)/\¬(a=2/\b=2))\/(a=1/\b=1/\Hz n.op=true/\n.bool=false))->R (.T #[.I (if a<b then b else a),.I 0]) Z22:=λhh=>by
  unfold wE at h;rw[Ajj hh]at h;exact h
 clear h;refine Gn.start λ_=>⟨b1,o,rfl,by omega,a,by simpa using Dy,by omega,b,by simpa using ALn,?_⟩
 repeat' first
  | (apply Un;refine Exists.intro _ (And.intro rfl ?_))
  | (apply EA;refine Exists.intro _ (And.intro rfl ?_))
  | (apply And.intro<;>intro _)
 all_goals first
  | (refine bad ?_;simp_all;done)
  | (refine G ?_;simp_all;done)
  | (refine bad ?_;simp_all;omega)
  | (refine G ?_;simp_all;omega)
end
theorem Ge.en:Enters prog 91:=λargs w=>call91 args w
theorem Ix.en:Enters prog 167:=λargs w=>call167 args w
theorem Eh.en:Enters prog 170:=λargs w=>call170 args w
theorem Ei.en:Enters prog 199:=λargs w=>call199 args w
theorem Fj.en:Enters prog 227:=λargs w=>call227 args w
theorem BU.en:Enters prog 262:=λargs w=>call262 args w
theorem Gi.en:Enters prog 166:=λargs w=>call166 args w
theorem CR.en:Enters prog 197:=λargs w=>call197 args w
theorem Ej.en:Enters prog 203:=λargs w=>call203 args w
theorem Fk.en:Enters prog 228:=λargs w=>call228 args w
theorem DI.en:Enters prog 360:=λargs w=>call360 args w
theorem A6.en:Enters prog 130:=λargs w=>call130 args w
theorem Ah.en:Enters prog 131:=λargs w=>call131 args w
theorem LX.en:Enters prog 157:=λargs w=>call157 args w
theorem Ht.en:Enters prog 163:=λargs w=>call163 args w
theorem Ek.en:Enters prog 171:=λargs w=>call171 args w
theorem Gj.en:Enters prog 225:=λargs w=>call225 args w
theorem Db.en:Enters prog 359:=λargs w=>call359 args w
theorem Bs.en:Enters prog 361:=λargs w=>call361 args w
theorem Ca.en:Enters prog 362:=λargs w=>call362 args w
theorem Ak.en:Enters prog 132:=λargs w=>call132 args w
theorem Gm.en:Enters prog 226:=λargs w=>call226 args w
theorem Gn.en:Enters prog 90:=λargs w=>call90 args w
theorem Er.en:Enters prog 119:=λargs w=>call119 args w
theorem Es.en:Enters prog 123:=λargs w=>call123 args w
theorem C1.en:Enters prog 129:=λargs w=>call129 args w
theorem EZ.en:Enters prog 134:=λargs w=>call134 args w
theorem EG.en:Enters prog 139:=λargs w=>call139 args w
theorem FW.en:Enters prog 165:=λargs w=>call165 args w
theorem Be.en:Enters prog 175:=λargs w=>call175 args w
theorem Ev.en:Enters prog 195:=λargs w=>call195 args w
theorem An.en:Enters prog 43:=λargs w=>call43 args w
theorem Ex.en:Enters prog 64:=λargs w=>call64 args w
theorem Ag.en:Enters prog 133:=λargs w=>call133 args w
theorem SR.en:Enters prog 156:=λargs w=>call156 args w
theorem IX.en:Enters prog 208:=λargs w=>call208 args w
theorem AQ.en:Enters prog 68:=λargs w=>call68 args w
theorem Ey.en:Enters prog 101:=λargs w=>call101 args w
theorem Ez.en:Enters prog 201:=λargs w=>call201 args w
theorem Hg.en:Enters prog 233:=λargs w=>call233 args w
theorem Ln.en:Enters prog 235:=λargs w=>call235 args w
theorem CM.en:Enters prog 363:=λargs w=>call363 args w
theorem Cr.en:Enters prog 88:=λargs w=>call88 args w
theorem Gu.en:Enters prog 89:=λargs w=>call89 args w
theorem B8.en:Enters prog 135:=λargs w=>call135 args w
theorem I6.en:Enters prog 164:=λargs w=>call164 args w
instance:yK.yL prog 69 3 3:=⟨underlying69,underlying3⟩
instance:yK.yL prog 179 3 177:=⟨underlying179,underlying3⟩
instance:yI prog 199 9 3:=⟨underlying199,underlying9⟩
instance:yK.yL prog 236 3 235:=⟨underlying236,underlying3⟩
instance:yI prog 242 9 245:=⟨underlying242,underlying9⟩
instance:yK.yL prog 247 3 246:=⟨underlying247,underlying3⟩
instance:yI prog 291 9 109:=⟨underlying291,underlying9⟩
end TwW
end
section
namespace TwW
open Go Go.MapKept Tw Go.RowKit Go.Proofs.Tryz
section
variable {P:Program}{Z22 Z':Hp}{R:Rr}
def pw (x:Int×Value)(n:Nat):MapEntry:={ key:=.I x.1,val:=x.2,born:=n }
def MI (Z22:Hp)(m:Nat)(l:List (Int×Value)):Prop:=∃(bs:List Nat) (clock:Nat),bs.length=l.length/\yK.Az Z22 m (List.zipWith pw l bs) clock
theorem MI.loc {m:Nat}{l:List (Int×Value)}(h:MI Z22 m l)(G:Z' m=Z22 m):MI Z' m l:=let ⟨bs,c,h1,h2⟩:=h;⟨bs,c,h1,h2.loc G⟩
theorem MI.known {m:Nat}{l:List (Int×Value)}(h:MI Z22 m l):Z22 m≠none:=let ⟨bs,c,h1,h2⟩:=h;by rw[h2.1];simp
theorem MI.fresh {m:Nat}:MI (Z22.set m (.map #[] 0)) m []:=⟨[],0,rfl,yK.Az.fresh⟩
theorem MI.put {T K V:TypeId}[yK.yL P T K V]{m:Nat}{l:List (Int×Value)}{x:Int}{v:Value}{Φ:Unit->Hp->Prop}(h:MI Z22 m l)(hn:∀a∈l,a.1≠x)
  (hΦ:∀o,MI (Z22.set m o) m (l++[(x,v)])->Φ () (Z22.set m o)):AI P (Instr.mapUpdate T (.map (some m)) (.I x) v) Z22 Φ:=by
 obtain⟨bs,clock,hb,hm⟩:=h;refine yK.FZ hm (λAb Z' hσ mq=>?_) λl1 e l2 hl he Z' hσ mq=>?_
 .subst hσ;refine hΦ _ ⟨bs++[clock],clock+1,by simp[hb],?_⟩;rw[List.zipWith_append hb.symm];exact mq
 .have VP:e∈List.zipWith pw l bs:=by rw[hl];simp
  obtain⟨i,hi⟩:=AkW.1 VP;rw[AmJ]at hi;cases G:l[i]? with
  | none=>rw[G]at hi;cases hi
  | some a=>
   cases hbi:bs[i]? with
   | none=>rw[G,hbi]at hi;cases hi
   | some b=>
    rw[G,hbi]at hi;simp only[Ajv]at hi;subst hi;have:=hn a (Aju G);simp only[pw,Value.int.injEq,true_and]at he;exact absurd he this
theorem MI.look {T K V:TypeId}[yK.yL P T K V]{m:Nat}{l:List (Int×Value)}{x:Int}{z:Value}{Φ:Value->Hp->Prop}(h:MI Z22 m l)(hz:∀w,(zeroValue V).run P w=.ok z w)
  (h0:(∀a∈l,a.1≠x)->Φ z Z22) (h1:∀v,(x,v)∈l->Φ v Z22):AI P (Instr.lookup T (.map (some m)) (.I x) false) Z22 Φ:=by
 obtain⟨bs,clock,hb,hm⟩:=h;refine yK.Lr hm hz (λAb=>h0 λa ha hax=>?_) λl1 e l2 hl he=>?_
 .obtain⟨i,hi⟩:=AkW.1 ha;have Ax:=(Ajn.1 hi).1;have hm:pw a (bs[i]'(by omega))∈List.zipWith pw l bs:=AkW.2 ⟨i,by rw[AmJ,hi,Ajs (by omega)]⟩;exact Ab _ hm (by rw[<-hax];rfl)
 .have VP:e∈List.zipWith pw l bs:=by rw[hl];simp
  obtain⟨i,hi⟩:=AkW.1 VP;rw[AmJ]at hi;cases G:l[i]? with
  | none=>rw[G]at hi;cases hi
  | some a=>
   cases hbi:bs[i]? with
   | none=>rw[G,hbi]at hi;cases hi
   | some b=>
    rw[G,hbi]at hi;simp only[Ajv]at hi;subst hi;simp only[pw,Value.int.injEq,true_and]at he;subst he;exact h1 a.2 (Aju G)
def Stg (O2 Z22:Hp)(m:Nat)(l:List (Int×Value)):Prop:=Ext O2 Z22/\O2 m=none/\MI Z22 m l
theorem Stg.fresh {O2:Hp}{m:Nat}(h:O2 m=none):Stg O2 (O2.set m (.map #[] 0)) m []:=⟨.set h,h,MI.fresh⟩
theorem Stg.alloc {O2:Hp}{m b:Nat}{l:List (Int×Value)}{o:Obj}(h:Stg O2 Z22 m l)(hb:Z22 b=none):Stg (O2.set b o) (Z22.set b o) m l:=by
 have Av:m≠b:=λe=>h.2.2.known (by rw[e];exact hb);refine⟨λk u G=>?_,by rw[Hp.AB Av];exact h.2.1,h.2.2.loc (Hp.AB Av)⟩;by_cases FM:k=b
 .subst FM;rw[Hp.AA]at G ⊢;exact G
 .rw[Hp.AB FM]at G ⊢;exact h.1 _ _ G
theorem Stg.put {O2:Hp}{T K V:TypeId}[yK.yL P T K V]{m:Nat}{l:List (Int×Value)}{x:Int}{v:Value}{Φ:Unit->Hp->Prop}(h:Stg O2 Z22 m l)(hn:∀a∈l,a.1≠x)
  (hΦ:∀Z',Stg O2 Z' m (l++[(x,v)])->Φ () Z'):AI P (Instr.mapUpdate T (.map (some m)) (.I x) v) Z22 Φ:=
 h.2.2.put hn λo ho=>hΦ _ ⟨λk u G=>by rw[Hp.AB (λe=>by rw[e,h.2.1]at G;cases G)];exact h.1 _ _ G,h.2.1,ho⟩
section
variable {α:Type}
theorem YQ {l:List (ByteArray×α)}{k:ByteArray}(h:∀a∈l,a.1≠k):Fb l k=none:=by
 induction l with
 | nil=>rfl
 | cons a l G=>rw[Fb,Ajj (h a (by simp))];exact G λb hb=>h b (Ajm _ hb)
theorem dD {l m:List (ByteArray×α)}{k:ByteArray}{y:α}(h:∀a∈l,a.1≠k):Fb (l++(k,y)::m) k=some y:=by
 induction l with
 | nil=>simp[Fb]
 | cons a l G=>rw[Akl,Fb,Ajj (h a (by simp))];exact G λb hb=>h b (Ajm _ hb)
theorem Tt {l:List (ByteArray×α)}{k:ByteArray}{y:α}(h:∀a∈l,a.1≠k):fQ l k y=l++[(k,y)]:=by
 induction l with
 | nil=>rfl
 | cons a l G=>rw[fQ,Ajj (h a (by simp)),G λb hb=>h b (Ajm _ hb)];rfl
theorem k8 {l m:List (ByteArray×α)}{k:ByteArray}{y z:α}(h:∀a∈l,a.1≠k):fQ (l++(k,z)::m) k y=l++(k,y)::m:=by
 induction l with
 | nil=>simp[fQ]
 | cons a l G=>rw[Akl,fQ,Ajj (h a (by simp)),G λb hb=>h b (Ajm _ hb)];rfl
def MS (E:Value->α->Prop)(Z22:Hp)(m:Nat)(L:List (ByteArray×α)):Prop:=
 ∃(l:List MapEntry) (clock:Nat),Az Z22 m l clock/\l.length=L.length/\∀(i:Nat) (e:MapEntry) (x:ByteArray×α),l[i]?=some e->L[i]?=some x->e.key=.string x.1/\E e.val x.2
theorem MS.mono {E:Value->α->Prop}{m:Nat}{L:List (ByteArray×α)}(h:MS E Z22 m L)(G:Ext Z22 Z'):MS E Z' m L:=let ⟨l,c,h1,h2⟩:=h;⟨l,c,h1.mono G,h2⟩
theorem MS.loc {E:Value->α->Prop}{m:Nat}{L:List (ByteArray×α)}(h:MS E Z22 m L)(G:Z' m=Z22 m):MS E Z' m L:=let ⟨l,c,h1,h2⟩:=h;⟨l,c,h1.loc G,h2⟩
theorem MS.imp {E G:Value->α->Prop}{m:Nat}{L:List (ByteArray×α)}(h:MS E Z22 m L)(hE:∀v x,E v x->G v x):MS G Z22 m L:=let ⟨l,c,h1,h2,h3⟩:=h;⟨l,c,h1,h2,λi e x he hx=>⟨(h3 i e x he hx).1,hE _ _ (h3 i e x he hx).2⟩⟩
theorem MS.known {E:Value->α->Prop}{m:Nat}{L:List (ByteArray×α)}(h:MS E Z22 m L):Z22 m≠none:=let ⟨l,c,h1,h2⟩:=h;by rw[h1.1];simp
theorem MS.fresh {E:Value->α->Prop}{m:Nat}:MS E (Z22.set m (.map #[] 0)) m []:=⟨[],0,Az.fresh,rfl,λi e x G=>by simp at G⟩
theorem MS.len {E:Value->α->Prop}{T K V ty:TypeId}[yI P T K V]{m:Nat}{L:List (ByteArray×α)}(h:MS E Z22 m L):YF P (Builtin.len_ #[T] ty #[.map (some m)]) Z22 (.I L.length):=by
 obtain⟨l,c,G,h2,h3⟩:=h;rw[<-h2];exact pN G
theorem YR {E:Value->α->Prop}{l G l2:List MapEntry}{e:MapEntry}{L:List (ByteArray×α)}{s:ByteArray}(hn:(l.map (·.key)).Nodup)(h2:l.length=L.length)(h3:∀(i:Nat) (e:MapEntry) (x:ByteArray×α),l[i]?=some e->L[i]?=some x->e.key=.string x.1/\E e.val x.2)(hl:l=G++e::l2)(he:e.key=.string s):
  ∃L1 x L2,L=L1++(s,x)::L2/\L1.length=G.length/\(∀a∈L1,a.1≠s)/\E e.val x:=by
 subst hl;have Ax:G.length<L.length:=by rw[<-h2];simp
 have RZ:L=L.take G.length++L[G.length]::L.drop (G.length+1):=by rw[Alm,Aks]
 have hx:=h3 G.length e L[G.length] (by simp) (Ajs _);rw[he]at hx;have hk:L[G.length].1=s:=by simpa using hx.1.symm
 refine⟨L.take G.length,L[G.length].2,L.drop (G.length+1),?_,by rw[AkA];omega,λa ha has=>?_,hx.2⟩
 .rw[<-hk];exact RZ
 .obtain⟨i,hi⟩:=AkW.1 ha;rw[AkE]at hi;split at hi
  .rename_i hil;have hle:(G++e::l2)[i]?=some (G[i]'hil):=by rw[AkJ hil,Ajs hil]
   have h4:=(h3 i _ a hle hi).1;rw[AkI,AkR,Alb]at hn;exact hn.2.2 _ (AkT.2 ⟨G[i]'hil,AmH hil,rfl⟩) _ (by simp;exact .inl rfl) (by rw[h4,he,has])
  .cases hi
theorem MS.AFR {E:Value->α->Prop}{l:List MapEntry}{L:List (ByteArray×α)}{s:ByteArray}(h2:l.length=L.length)(h3:∀(i:Nat) (e:MapEntry) (x:ByteArray×α),l[i]?=some e->L[i]?=some x->e.key=.string x.1/\E e.val x.2)(Ab:∀e∈l,e.key≠.string s):∀a∈L,a.1≠s:=λa ha G=>by
 obtain⟨i,hi⟩:=AkW.1 ha;have Ax:=(Ajn.1 hi).1;have:=(h3 i (l[i]'(by omega)) a (Ajs _) hi).1;exact Ab _ (AmH _) (by rw[this,G])
theorem MS.look {E:Value->α->Prop}{T K V:TypeId}[yI P T K V]{m:Nat}{L:List (ByteArray×α)}{s:ByteArray}{z:Value}{Φ:Value->Hp->Prop}(h:MS E Z22 m L)(hz:∀w,(zeroValue V).run P w=.ok z w)
  (h0:Fb L s=none->Φ z Z22) (h1:∀v x,Fb L s=some x->E v x->Φ v Z22):AI P (Instr.lookup T (.map (some m)) (.string s) false) Z22 Φ:=by
 obtain⟨l,c,hm,h2,h3⟩:=h;refine Lr hm hz (λG=>h0 (YQ (MS.AFR h2 h3 G))) λl1 e l2 hl he=>?_;obtain⟨L1,x,L2,rfl,_,G,hE⟩:=YR hm.nodup h2 h3 hl he;exact h1 e.val x (dD G) hE
theorem MS.AB5 {E:Value->α->Prop}{T K V:TypeId}[t:yI P T K V]{m:Nat}{L:List (ByteArray×α)}{s:ByteArray}{z:Value}{Φ:Value->Hp->Prop}(h:MS E Z22 m L)(hz:∀w,(zeroValue V).run P w=.ok z w)
  (h0:Fb L s=none->Φ (.tuple #[z,.bool false]) Z22) (h1:∀v x,Fb L s=some x->E v x->Φ (.tuple #[v,.bool true]) Z22):AI P (Instr.lookup T (.map (some m)) (.string s) true) Z22 Φ:=by
 obtain⟨l,c,hm,h2,h3⟩:=h;rcases DE (s:=s) hm.2.2 with ⟨hf,G⟩|⟨l1,e,l2,hl,he,hf⟩
 .refine AI.pu (λw hs=>?_) (h0 (YQ (MS.AFR h2 h3 G)));have:=hs _ _ hm.1;simp[Instr.lookup,run_underlying t.U1,run_getObj_map this,run_checkKey t.key (k:=.string s) trivial,run_findKey t.key hf,hz,Result.andThen]
 .obtain⟨L1,x,L2,rfl,_,G,hE⟩:=YR hm.nodup h2 h3 hl he;refine AI.pu (λw hs=>?_) (h1 e.val x (dD G) hE);have:=hs _ _ hm.1;simp[Instr.lookup,run_underlying t.U1,run_getObj_map this,run_checkKey t.key (k:=.string s) trivial,run_findKey t.key hf,Result.andThen]
theorem MS.put {E:Value->α->Prop}{T K V:TypeId}[yI P T K V]{m:Nat}{L:List (ByteArray×α)}{s:ByteArray}{v:Value}{x:α}{Φ:Unit->Hp->Prop}(h:MS E Z22 m L)(hv:E v x)
  (hΦ:∀o,MS E (Z22.set m o) m (fQ L s x)->Φ () (Z22.set m o)):AI P (Instr.mapUpdate T (.map (some m)) (.string s) v) Z22 Φ:=by
 obtain⟨l,c,hm,h2,h3⟩:=h;refine FZ hm (λAb Z' hσ mq=>?_) λl1 e l2 hl he Z' hσ mq=>?_
 .subst hσ;refine hΦ _ ⟨_,_,mq,?_,λi e y hi G=>?_⟩
  .rw[Tt (MS.AFR h2 h3 Ab)];simp[h2]
  .rw[Tt (MS.AFR h2 h3 Ab)]at G;rw[Ak5]at hi G;split at hi
   .rename_i Ax;rw[Ajl (by omega)]at G;exact h3 i e y hi G
   .rename_i Ax;rw[Ajj (by omega)]at G;rw[<-h2]at G;cases hj:i-l.length with
    | zero=>
     rw[hj]at hi G;simp only[AkO,Ajv]at hi G;subst hi;subst G;exact⟨rfl,hv⟩
    | succ j=>rw[hj]at hi;simp at hi
 .obtain⟨L1,y,L2,rfl,hlen,Ab,hE⟩:=YR hm.nodup h2 h3 hl he;subst hσ;subst hl;refine hΦ _ ⟨_,_,mq,?_,λi e' z hi hz=>?_⟩
  .rw[k8 Ab];simp at h2 ⊢;omega
  .rw[k8 Ab]at hz;by_cases hil:i=l1.length
   .subst hil;rw[<-hlen]at hz;simp at hi hz;subst hi;subst hz;exact⟨rfl,hv⟩
   .have e1:(l1++Tw.LN s v e.born::l2)[i]?=(l1++e::l2)[i]?:=by
     rcases Alc i l1.length with h|h
     .rw[AkJ h,AkJ h]
     .obtain⟨k,rfl⟩:∃k,i=l1.length+(k+1):=⟨i-l1.length-1,by omega⟩;simp[Akf]
    have e2:(L1++(s,x)::L2)[i]?=(L1++(s,y)::L2)[i]?:=by
     rcases Alc i L1.length with h|h
     .rw[AkJ h,AkJ h]
     .obtain⟨k,rfl⟩:∃k,i=L1.length+(k+1):=⟨i-L1.length-1,by omega⟩;simp[Akf]
    exact h3 i e' z (by rw[<-e1];exact hi) (by rw[<-e2];exact hz)
end
end
end TwW
end
section
namespace TwW
open Go Tw Go.RowKit Go.Proofs.Tryz
def Tu (n:Nd)(l:List Int):Int×Int:=
 if n.kind=1 then(1,0) else if n.kind=2 then(2,0) else if n.kind=3 then(3,0) else if n.kind=4 then kz n (l[0]?.getD 0) else if n.kind=5 then tG (l[0]?.getD 0)
 else if n.kind=6 then wE n (l[0]?.getD 0) (l[1]?.getD 0) else AB2 (l[0]?.getD 0)
def Bq (n:Nd)(st:List Int):Int×List Int:=
 if E5 n=false\/(st.length:Int)<n.parts then(190,st) else if GH Dt n.mt≠0 then(193,st) else
  ((Tu n (st.drop (st.length-n.parts.toNat))).2,st.take (st.length-n.parts.toNat)++[(Tu n (st.drop (st.length-n.parts.toNat))).1])
theorem JD {n:Nd}(h:E5 n=true):HH n=true:=by
 unfold E5 at h;simp only[Ajz]at h;exact h.2
theorem QA {n:Nd}(h:E5 n=true):Hb n (B9 n)=true:=by
 unfold E5 at h;simp only[Ajz]at h;exact h.1.1.1
theorem BL.AB {s b:Nat}{o:Obj}{Z22:Hp}{p:Option Addr}{n c:Nat}{cs:List Value}(G:BL s Z22 p n c cs)(h:∀a,p=some a->a.block≠b):BL s (Z22.set b o) p n c cs:=
 ⟨G.1,G.2.1,G.2.2.imp id λ⟨b',o',arr,T,hp,hb,r⟩=>⟨b',o',arr,T,hp,by rw[Hp.AB (h _ hp)];exact hb,r⟩⟩
theorem AFS:∀w,(zeroValue 177).run prog w=.ok .nilFunc w:=λw=>by
 have h:prog.info? 177=some t177:=by kernel_rfl
 simp[zeroValue,typeInfo,h];rfl
structure k9 (Z0 Z22:Hp)(wb:Nat)(p:Option Addr)(n c:Nat)(st:List Int):Prop where
 cell:Z22 wb=some (.cells #[.slice p n c] 124 (0,0))
 own:DS .i64 Z22 p n c st
 off:∀a,p=some a->a.block≠wb/\Z0 a.block=none
 new:Z0 wb=none
 ext:Ext Z0 Z22
section
variable {Z22 Z' Z0:Hp}{R:Rr}
theorem k9.mono {wb:Nat}{p:Option Addr}{n c:Nat}{st:List Int}(h:k9 Z0 Z22 wb p n c st)(G:Ext Z22 Z'):k9 Z0 Z' wb p n c st:=⟨G _ _ h.cell,h.own.mono G,h.off,h.new,h.ext.trans G⟩
theorem Tv {k:Int}(h:∀b,Z22 b=none->R (.returned (.func (.func 119) #[] #[.pointer (aD b 0)])) (Z22.set b (.cells #[.I k] 3 (0,0)))):Spec prog 87 #[.I k] Z22 R:=Wb.start h
theorem Ra {n:Nd}{p q r:Option Addr}{k c m d s t b:Nat}{v:Int}(hb:Z22 b=some (.cells #[.I v] 3 (0,0)))(h:R (.returned (tyV (v,0))) Z22):Spec prog 119 #[Qd n p k c q m d,.slice r s t,.pointer (aD b 0)] Z22 R:=
 Er.start λ_=>⟨v,AJ hb rfl,h⟩
theorem AFT:∀w,(Go.sizeOf 122).run prog w=.ok 1 w:=λw=>by kernel_rfl
theorem dE {wb:Nat}{p q r:Option Addr}{k c m d j e:Nat}{st:List Int}{n:Nd}(hW:k9 Z0 Z22 wb r j e st)(hm:Ae 3 Js Z0 p k n.mt)(hr:Fo 1 Z0 q m (n.names.map .string))(hb:n.text.size<=4611686018427387904)(hj:j<=1000000000000)
  (h:∀r' j' e' Z',(Bq n st).1=0->k9 Z0 Z' wb r' j' e' (Bq n st).2->R (.returned (.I 0)) Z') (h':∀Z',(Bq n st).1≠0->Ext Z0 Z'->R (.returned (.I (Bq n st).1)) Z') :
  Spec prog 54 #[.pointer (some ⟨wb,0,none⟩),Qd n p k c q m d] Z22 R:=by
 have hk:n.mt.length=k:=hm.1;have hsl:st.length=j:=by have:=hW.own.1;simpa using this
 refine MQ.start λ_=>v7 hk (hr.mono hW.ext) hb λZ1 BC=>⟨_,rfl,λhf=>?_,λht=>?_⟩
 .have e1:Bq n st=(190,st):=by unfold Bq;rw[Ajl (.inl hf)]
  rw[e1] at h';exact h' Z1 (by dsimp only;decide) (hW.ext.trans BC)
 have hW1:=hW.mono BC;refine⟨wb,0,rfl,r,j,e,AJ hW1.cell rfl,λAx=>?_,λRU=>Pb (hm.mono Js.mono hW1.ext) ⟨_,rfl,λAv=>?_,λh0=>?_⟩⟩
 .have e1:Bq n st=(190,st):=by unfold Bq;rw[Ajl (.inr (by omega))]
  rw[e1] at h';exact h' Z1 (by dsimp only;decide) hW1.ext
 .have e1:Bq n st=(193,st):=by unfold Bq;rw[Ajj (by rw[ht];simp;omega),Ajl Av]
  rw[e1] at h';exact h' Z1 (by dsimp only;decide) hW1.ext
 have su:=AkK.1 h0;have eS:Bq n st=((Tu n (st.drop (st.length-n.parts.toNat))).2,st.take (st.length-n.parts.toNat)++[(Tu n (st.drop (st.length-n.parts.toNat))).1]):=by
  unfold Bq;rw[Ajj (by rw[ht];simp;omega),Ajj h0]
 rw[eS]at h h';dsimp only at h h';have G:=JD ht;have AaU:0<=n.parts:=by
  unfold HH at G;have hp:=QA ht;by_cases h1:n.kind=1
  .unfold Hb B9 at hp;simp[h1]at hp;omega
  by_cases h2:n.kind=2
  .unfold Hb B9 at hp;simp[h2]at hp;omega
  by_cases h3:n.kind=3
  .unfold Hb B9 at hp;simp[h3]at hp;omega
  rw[Ajj h1,Ajj h2,Ajj h3]at G;split at G
  .simp at G;omega
  .split at G
   .simp at G;omega
   .split at G
    .simp at G;omega
    .simp at G;omega
 obtain⟨t,hpt⟩:∃t:Nat,n.parts=t:=⟨n.parts.toNat,by omega⟩;have htj:t<=j:=by omega
 have htn:n.parts.toNat=t:=by omega
 rw[htn,hsl]at h h';refine C7 λmb hmb=>⟨mb,rfl,?_⟩;have s0:=Stg.fresh hmb;refine Tv λb1 JE=>⟨_,_,_,rfl,?_⟩;have s1:=s0.alloc (o:=.cells #[.I 1] 3 (0,0)) JE;refine s1.put (by simp) λZ2 s2=>Tv λb2 Fi=>⟨_,_,_,rfl,?_⟩;have s3:=s2.alloc (o:=.cells #[.I 2] 3 (0,0)) Fi;refine s3.put (by simp) λZ4 s4=>Tv λb3 Uh=>⟨_,_,_,rfl,?_⟩;have s5:=s4.alloc (o:=.cells #[.I 3] 3 (0,0)) Uh;refine s5.put (by simp) λZ6 s6=>s6.put (by simp) λZ7 s7=>s7.put (by simp) λZ8 s8=>s8.put (by simp) λZ9 s9=>s9.put (by simp) λZA sA=>?_;clear s0 s1 s3 s5 s6 s7 s8 s9;have n1:Z1 b1=none:=(Hp.AM JE).2;have n2:(Z1.set b1 (.cells #[.I 1] 3 (0,0))) b2=none:=A7 s2.1 Fi;have n3:((Z1.set b1 (.cells #[.I 1] 3 (0,0))).set b2 (.cells #[.I 2] 3 (0,0))) b3=none:=A7 s4.1 Uh;have x1:Ext Z1 ZA:=(Ext.set n1).trans ((Ext.set n2).trans ((Ext.set n3).trans sA.1));have c3:=sA.1 b3 _ (Hp.AA _ _ _);have c2:=sA.1 b2 _ ((Ext.set n3) _ _ (Hp.AA _ _ _));have c1:=sA.1 b1 _ ((Ext.set n3) _ _ ((Ext.set n2) _ _ (Hp.AA _ _ _)));have wG:=hW1.mono x1;have hlA:=sA.2.2;clear s2 s4 sA n1 n2 n3 JE Fi Uh;simp only[Akp,Akl]at hlA;have e1:Int.toNat ((j:Int)-n.parts)=j-t:=by omega
 refine⟨r,j,e,AJ wG.cell rfl,by unfold AL;omega,r,j,e,AJ wG.cell rfl,by omega,?_⟩;have hce:j<=e:=BL.cap wG.own;have Pa:DB .i64 ZA (Ee r (j-t) e 1) (j-(j-t)) (st.drop (j-t)):=by
  have:=Ae.sub (i:=j-t) (m:=j-(j-t)) (DS.rd wG.own) (by decide) (by omega) hce;rwa[Ajq (by rw[Aj6];omega)]at this
 have Pa:DB .i64 ZA (Ee r (Int.toNat ((j:Int)-n.parts)) e 1) (j-Int.toNat ((j:Int)-n.parts)) (st.drop (j-t)):=by rw[e1];exact Pa
 have fin:∀x:Int×Int,x=Tu n (st.drop (j-t))->AY R (λz WS=>∃Wi I2,z=(.tuple #[.I Wi,.I I2])/\LS WS wb 0 λp66 n66 sQ=>((0:Int)<=((j:Int)-n.parts)/\((j:Int)-n.parts)<=(sQ:Int))/\Al WS λb71=>AI prog (Builtin.append_ #[122,122] 122 #[(.slice p66 (Int.toNat ((j:Int)-n.parts)) sQ),(.slice (aD b71 0) 1 1)]) (Hp.set WS b71 (.cells #[.I Wi] 130 (0,0))) (CS λp72 n72 c72 AAd=>AI prog (Instr.storeAt 122 (.pointer (aD wb 0)) (.slice p72 n72 c72)) AAd (λ_ AAe=>R (.returned (.I I2)) AAe))) (.returned (tyV x)) ZA:=λx hx=>by
  rw[<-hx]at h h';refine⟨x.1,x.2,rfl,r,j,e,AJ wG.cell rfl,by omega,λb71 AB6=>?_⟩;rw[e1];have CV:=(BL.take (m:=j-t) wG.own (by omega)).mono (Ext.set (o:=.cells #[.I x.1] 130 (0,0)) AB6);refine ED CV (fP (f:=.int .i64) (x:=x.1) (Hp.AA _ _ _)) FL.Pr (by omega) λp' c' ZB hoB hxB=>⟨_,_,_,rfl,?_⟩;have hwb:∀a,r=some a->wb≠a.block:=λa ha=>Aj4 (wG.off a ha).1;have Hc:wb≠b71:=λe=>by rw[<-e,wG.cell]at AB6;cases AB6
  obtain⟨g1,g2⟩:=Aq.1 (hxB wb _ (Aq.2 ⟨hwb,(Ext.set AB6) _ _ wG.cell⟩));have hE0:Ext Z0 (ZB.del p'):=λk u hk=>hxB k u (Aq.2 ⟨λa ha yO=>(by rw[yO,(wG.off a ha).2]at hk;cases hk),(Ext.set AB6) _ _ (wG.ext _ _ hk)⟩);refine AI.store AFT g2 rfl (by simp) (by simp[Value.cells,Value.oneCell']) ?_;have AFV:k9 Z0 (ZB.set wb (.cells (LF #[.slice r j e] 0 (Value.slice p' (j-t+1) c').cells.toList) 124 (0,0))) wb p' (j-t+1) c' (st.take (j-t)++[x.1]):=by
   refine⟨by rw[Hp.AA];simp[LF,Value.cells],?_,λa ha=>⟨λe=>g1 a ha e.symm,?_⟩,wG.new,λk u hk=>?_⟩
   .have:=BL.AB (b:=wb) (o:=.cells (LF #[.slice r j e] 0 (Value.slice p' (j-t+1) c').cells.toList) 124 (0,0)) hoB (λa ha e=>g1 a ha e.symm);unfold DS;rw[AkI,AnD];simpa using this
   .cases hh:Z0 a.block with
    | none=>rfl
    | some u=>exact absurd rfl ((Aq.1 (hE0 _ _ hh)).1 a ha)
   .rw[Hp.AB (λe=>by rw[e,wG.new]at hk;cases hk)];exact(Aq.1 (hE0 _ _ hk)).2
  by_cases hz:x.2=0
  .rw[hz];exact h _ _ _ _ hz AFV
  .exact h' _ hz AFV.ext
 have part:∀i,i<t->∃v,(st.drop (j-t))[i]?=some v:=λi hi=>⟨_,Ajs (by rw[Aj6];omega)⟩;refine hlA.look AFS (λAb=>?_) λv hv=>⟨v,rfl,Kp.TI (.refl _),?_⟩
 .exfalso;unfold HH at G;have g:=λi=>Ab i;simp only[Ajo,Aj7,Akc,forall_eq_or_imp,forall_eq]at Ab;obtain⟨a1,a2,a3,a4,a5,a6,a7⟩:=Ab;rw[Ajj (Aj4 a1),Ajj (Aj4 a2),Ajj (Aj4 a3),Ajj (Aj4 a4),Ajj (Aj4 a5),Ajj (Aj4 a6)]at G;exact a7 (Ajx G).1.symm
 simp only[Ajo,Aj7,Akc,Akh]at hv;rcases hv with ⟨hn,rfl⟩|⟨hn,rfl⟩|⟨hn,rfl⟩|⟨hn,rfl⟩|⟨hn,rfl⟩|⟨hn,rfl⟩|⟨hn,rfl⟩
 .exact⟨119,_,_,rfl,Er.en,Ra c1 (fin _ (by unfold Tu;rw[Ajl hn]))⟩
 .exact⟨119,_,_,rfl,Er.en,Ra c2 (fin _ (by unfold Tu;rw[Ajj (by omega),Ajl hn]))⟩
 .exact⟨119,_,_,rfl,Er.en,Ra c3 (fin _ (by unfold Tu;rw[Ajj (by omega),Ajj (by omega),Ajl hn]))⟩
 .have ht1:t=1:=by unfold HH at G;simp[hn]at G;omega
  obtain⟨v,hv⟩:=part 0 (by omega);exact⟨88,_,_,rfl,Cr.en,pq Pa hv (fin _ (by unfold Tu;rw[Ajj (by omega),Ajj (by omega),Ajj (by omega),Ajl hn,hv];rfl))⟩
 .have ht1:t=1:=by unfold HH at G;simp[hn]at G;omega
  obtain⟨v,hv⟩:=part 0 (by omega);exact⟨89,_,_,rfl,Gu.en,wC Pa hv (fin _ (by unfold Tu;rw[Ajj (by omega),Ajj (by omega),Ajj (by omega),Ajj (by omega),Ajl hn,hv];rfl))⟩
 .have ht1:t=2:=by unfold HH at G;simp[hn]at G;omega
  obtain⟨v,hv⟩:=part 0 (by omega);obtain⟨u,hu⟩:=part 1 (by omega);exact⟨90,_,_,rfl,Gn.en,wF Pa hv hu (fin _ (by unfold Tu;rw[Ajj (by omega),Ajj (by omega),Ajj (by omega),Ajj (by omega),Ajj (by omega),Ajl hn,hv,hu];rfl))⟩
 .have ht1:t=1:=by unfold HH at G;simp[hn]at G;omega
  obtain⟨v,hv⟩:=part 0 (by omega);exact⟨91,_,_,rfl,Ge.en,wD Pa hv (fin _ (by unfold Tu;rw[Ajj (by omega),Ajj (by omega),Ajj (by omega),Ajj (by omega),Ajj (by omega),Ajj (by omega),hv];rfl))⟩
def E6:List Nd->List Int->Option (List Int)
 | [],st=>some st
 | n::t,st=>if(Bq n st).1=0 then E6 t (Bq n st).2 else none
def AB7 (t:List Nd):Option (List Int)->Option Int
 | some [k]=>if t.length<=4096 then some k else none
 | _=>none
def Hd (t:List Nd):Option Int:=AB7 t (E6 t [])
theorem Ia.at {p:Option Addr}{n i:Nat}{t:List Nd}{x:Nd}(hr:Ae 10 Ia Z22 p n t)(hx:t[i]?=some x):∃b o p1 k c q m d,p=some ⟨b,o,none⟩/\A2 Z22 b (o+i*10) [.I x.kind,.I x.op,.string x.text,.slice p1 k c,.I x.width,.I x.back,.I x.GU,.slice q m d,.bool x.bool,.I x.parts]/\Ae 3 Js Z22 p1 k x.mt/\Fo 1 Z22 q m (x.names.map .string):=by
 obtain⟨b,o,vs,hp,⟨p1,k,c,q,m,d,rfl,G,h2⟩,hl⟩:=Ae.idx hr hx;exact⟨b,o,p1,k,c,q,m,d,hp,hl,G,h2⟩
theorem lA {n:Nd}{st:List Int}:(Bq n st).2.length<=st.length+1:=by
 unfold Bq;split
 .exact Nat.le_succ _
 .split
  .exact Nat.le_succ _
  .simp only[Ajr,AkA,AkS];omega
theorem Lz {p:Option Addr}{n c:Nat}{t:List Nd}(hr:Ae 10 Ia Z22 p n t)(hn:n<=1000000000)(hb:∀x∈t,x.text.size<=4611686018427387904)
  (h:∀k Z',Hd t=some k->Ext Z22 Z'->R (.T #[.I k,.I 0,.I 0]) Z') (h':∀k j e Z',Hd t=none->e≠0->Ext Z22 Z'->R (.T #[.I k,.I j,.I e]) Z') :
  Spec prog 24 #[.slice p n c] Z22 R:=by
 have hl:t.length=n:=hr.1;refine C2.start λwb hwb=>?_
 suffices H:∀g k:Nat,∀r j e st Z',n-k=g->k<=n->j<=k->k9 Z22 Z' wb r j e st->E6 t []=E6 (t.drop k) st->C2.A4 R p n c (aD wb 0) p n c n k Z' from
  H n 0 none 0 0 [] _ rfl (Ajy _) (Ajt _) ⟨Hp.AA _ _ _,DS.nil,λa ha=>(by cases ha),hwb,.set hwb⟩ rfl
 intro g
 induction g with
 | zero=>
  intro k r j e st Z' hg hk hj G he;rw[AkF (by omega)]at he;have CA:st.length=j:=by have:=G.own.1;simpa using this
  have ht:Hd t=AB7 t (some st):=by unfold Hd;rw[he];rfl
  refine C2.AX ⟨λAx=>by omega,λ_=>⟨wb,0,rfl,r,j,e,AJ G.cell rfl,λh1=>h' _ _ _ Z' ?_ (by decide) G.ext,λh1=>⟨λRV=>h' _ _ _ Z' ?_ (by decide) G.ext,λjD=>?_⟩⟩⟩
  .rw[ht]
   match st,CA with
   | [],_=>rfl
   | [_],CA=>simp at CA;omega
   | _::_::_,_=>rfl
  .rw[ht]
   match st,CA with
   | [],_=>rfl
   | [_],CA=>exact Ajj (by omega)
   | _::_::_,_=>rfl
  .have hj1:j=1:=by omega
   subst hj1
   match st,CA with
   | [x],_=>
    obtain⟨b,o,rfl,Dy⟩:=DB.at (DS.rd G.own) (i:=0) (x:=x) rfl;exact⟨_,1,e,AJ G.cell rfl,b,o,rfl,by omega,x,by simpa using Dy,h x Z' (by rw[ht];exact Ajl (by omega)) G.ext⟩
 | succ g ih=>
  intro k r j e st Z' hg hk hj G he;have Cs:k<n:=by omega
  obtain⟨x,hx⟩:=hr.ex Cs;obtain⟨b,o,p1,k1,c1,q1,m1,d1,rfl,Dy,h1,h2⟩:=Ia.at hr hx;rw[BR hx,E6]at he;refine C2.AX ⟨λ_=>⟨b,o,rfl,by omega,_,_,_,_,_,_,_,_,_,_,_,_,_,_,by simpa using Dy.mono G.ext,λ_=>?_⟩,λhh=>by omega⟩;refine dE G h1 h2 (hb x (Aju hx)) (by omega) (λr' j' e' Z2 h0 hW2=>⟨0,rfl,λhh=>absurd rfl hh,λ_=>⟨AO Cs hr.big,ih (k+1) r' j' e' _ Z2 (by omega) (by omega) ?_ hW2 ?_⟩⟩) λZ2 h0 Ao=>⟨_,rfl,λ_=>h' _ _ _ Z2 ?_ h0 Ao,λhh=>absurd h0 hh⟩
  .have h3:=lA (n:=x) (st:=st);have h4:(Bq x st).2.length=j':=by have:=hW2.own.1;simpa using this
   have h5:st.length=j:=by have:=G.own.1;simpa using this
   omega
  .rw[he,Ajl h0]
  .unfold Hd;rw[he,Ajj h0];rfl
end
end TwW
end
section
namespace Go.Proofs
open Go.Shelf
def Tryz.lB:Go.Shelf.Ren:=⟨λ|143=>275|219=>301|217=>121|225=>324|224=>325|267=>326|266=>136|314=>335|n=>n,λ|9=>9|3=>3|4=>4|5=>5|46=>215|146=>404|51=>52|n=>n,λ|1=>0|n=>n⟩
theorem Tryz.AFW:Go.Proofs.Lays.n143 Tryz.prog Tryz.lB:={
 mixed:=by kernel_rfl
 f143:=Tryz.func275.trans (Ajw some (by kernel_rfl))
 f217:=Tryz.func121.trans (Ajw some (by kernel_rfl))
 f219:=Tryz.func301.trans (Ajw some (by kernel_rfl))
 f224:=Tryz.func325.trans (Ajw some (by kernel_rfl))
 f225:=Tryz.func324.trans (Ajw some (by kernel_rfl))
 f266:=Tryz.func136.trans (Ajw some (by kernel_rfl))
 f267:=Tryz.func326.trans (Ajw some (by kernel_rfl))
 f314:=Tryz.func335.trans (Ajw some (by kernel_rfl))
 t3:=Tryz.underlying3
 a3:=Tryz.isAgg3
 z3:=Tryz.sizeOf3
 v3:=Tryz.zeroValue3
 t4:=Tryz.underlying4
 a4:=Tryz.isAgg4
 z4:=Tryz.sizeOf4
 v4:=Tryz.zeroValue4
 t5:=Tryz.underlying5
 a5:=Tryz.isAgg5
 z5:=Tryz.sizeOf5
 v5:=Tryz.zeroValue5
 t9:=Tryz.underlying9
 a9:=Tryz.isAgg9
 z9:=Tryz.sizeOf9
 v9:=Tryz.zeroValue9
 t46:=Tryz.underlying215
 a46:=Tryz.isAgg215
 z46:=Tryz.sizeOf215
 v46:=Tryz.zeroValue215
 t51:=Tryz.underlying52
 a51:=Tryz.isAgg52
 z51:=Tryz.sizeOf52
 v51:=Tryz.zeroValue52
 t146:=Tryz.underlying404
 a146:=Tryz.isAgg404
 z146:=Tryz.sizeOf404
 v146:=Tryz.zeroValue404
 g1:=by kernel_rfl }
open Go.RowKit Go.Lib in
theorem Tryz.strings_Index (s sub:ByteArray)(m:Int)(w:World)(G:s.size<4294967281)(hm:w.cell? ⟨0,0,none⟩=some (.I m)):
 Calls Tryz.prog 275 #[.string s,.string sub] w λe w'=>e=.returned (.I (Lib.index s.data.toList sub.data.toList))/\w'=w:=Any.strings_Index Tryz.AFW s sub m w G hm
def Tryz.lD:Go.Shelf.Ren:=⟨λ|146=>229|221=>249|268=>273|138=>274|143=>275|195=>298|197=>299|218=>300|219=>301|260=>323|217=>121|225=>324|224=>325|267=>326|266=>136|314=>335|n=>n,λ|9=>9|31=>125|3=>3|4=>4|0=>0|105=>368|21=>21|5=>5|46=>215|119=>400|139=>403|138=>402|146=>404|51=>52|n=>n,λ|1=>0|3=>11|4=>12|n=>n⟩
theorem Tryz.AFX:Go.Proofs.Lays.n146 Tryz.prog Tryz.lD:={
 mixed:=by kernel_rfl
 f138:=Tryz.func274.trans (Ajw some (by kernel_rfl))
 f143:=Tryz.func275.trans (Ajw some (by kernel_rfl))
 f146:=Tryz.func229.trans (Ajw some (by kernel_rfl))
 f195:=Tryz.func298.trans (Ajw some (by kernel_rfl))
 f197:=Tryz.func299.trans (Ajw some (by kernel_rfl))
 f217:=Tryz.func121.trans (Ajw some (by kernel_rfl))
 f218:=Tryz.func300.trans (Ajw some (by kernel_rfl))
 f219:=Tryz.func301.trans (Ajw some (by kernel_rfl))
 f221:=Tryz.func249.trans (Ajw some (by kernel_rfl))
 f224:=Tryz.func325.trans (Ajw some (by kernel_rfl))
 f225:=Tryz.func324.trans (Ajw some (by kernel_rfl))
 f260:=Tryz.func323.trans (Ajw some (by kernel_rfl))
 f266:=Tryz.func136.trans (Ajw some (by kernel_rfl))
 f267:=Tryz.func326.trans (Ajw some (by kernel_rfl))
 f268:=Tryz.func273.trans (Ajw some (by kernel_rfl))
 f314:=Tryz.func335.trans (Ajw some (by kernel_rfl))
 t0:=Tryz.underlying0
 a0:=Tryz.isAgg0
 z0:=Tryz.sizeOf0
 v0:=Tryz.zeroValue0
 t3:=Tryz.underlying3
 a3:=Tryz.isAgg3
 z3:=Tryz.sizeOf3
 v3:=Tryz.zeroValue3
 t4:=Tryz.underlying4
 a4:=Tryz.isAgg4
 z4:=Tryz.sizeOf4
 v4:=Tryz.zeroValue4
 t5:=Tryz.underlying5
 a5:=Tryz.isAgg5
 z5:=Tryz.sizeOf5
 v5:=Tryz.zeroValue5
 t9:=Tryz.underlying9
 a9:=Tryz.isAgg9
 z9:=Tryz.sizeOf9
 v9:=Tryz.zeroValue9
 t21:=Tryz.underlying21
 a21:=Tryz.isAgg21
 z21:=Tryz.sizeOf21
 v21:=Tryz.zeroValue21
 t31:=Tryz.underlying125
 a31:=Tryz.isAgg125
 z31:=Tryz.sizeOf125
 v31:=Tryz.zeroValue125
 t46:=Tryz.underlying215
 a46:=Tryz.isAgg215
 z46:=Tryz.sizeOf215
 v46:=Tryz.zeroValue215
 t51:=Tryz.underlying52
 a51:=Tryz.isAgg52
 z51:=Tryz.sizeOf52
 v51:=Tryz.zeroValue52
 t105:=Tryz.underlying368
 a105:=Tryz.isAgg368
 z105:=Tryz.sizeOf368
 v105:=Tryz.zeroValue368
 t119:=Tryz.underlying400
 a119:=Tryz.isAgg400
 z119:=Tryz.sizeOf400
 t138:=Tryz.underlying402
 a138:=Tryz.isAgg402
 z138:=Tryz.sizeOf402
 v138:=Tryz.zeroValue402
 t139:=Tryz.underlying403
 a139:=Tryz.isAgg403
 z139:=Tryz.sizeOf403
 v139:=Tryz.zeroValue403
 t146:=Tryz.underlying404
 a146:=Tryz.isAgg404
 z146:=Tryz.sizeOf404
 v146:=Tryz.zeroValue404
 g1:=by kernel_rfl
 g3:=by kernel_rfl
 g4:=by kernel_rfl }
open Go.RowKit Go.Lib in
theorem Tryz.strings_Split (s sep:ByteArray)(m:Int)(w:World)(hs:s.size<4294967281)(hm:w.cell? ⟨0,0,none⟩=some (.I m))(G:1<=sep.size):
 Calls Tryz.prog 229 #[.string s,.string sep] w λe w'=>
  e=.returned (.slice (some ⟨w.heap.size,0,none⟩) (Lib.countB s sep+1) (Lib.countB s sep+1))/\w'=w.alloc (.cells ((Lib.splitB sep 0 (Lib.countB s sep) s).map Value.string).toArray 9):=Any.strings_Split Tryz.AFX (by kernel_rfl) s sep m w hs hm G
end Go.Proofs
end
section
namespace TwW
open Go Tw Go.RowKit Go.Proofs.Tryz
section
variable {P:Program}{f:FuncId}{args:Array Value}{Z22 Z':Hp}{R:Rr}
theorem Spec.below {v:Value}(h:∀w,Sat Z22 w->Calls P f args w λe w'=>e=.returned v/\Below w.heap.size w w')(hR:R (.returned v) Z22):Spec P f args Z22 R:=λw F hs hF=>
 (h w hs).mono λe w' ⟨he,hb⟩=>⟨Z22,he▸hR,λb o ho=>by
  have h1:=hs b o ho;rw[hb.block b (Aj2.1 h1).1];exact h1,λb G=>⟨(hF b G).2,hb.block b (hF b G).1⟩,⟨hb.os,hb.tape,λh=>h.elim⟩,hb.output,hb.size⟩
theorem Spec.same {v:Value}(h:∀w,Sat Z22 w->Calls P f args w λe G=>e=.returned v/\G=w)(hR:R (.returned v) Z22):Spec P f args Z22 R:=
 Spec.below (λw hs=>(h w hs).mono λe G ⟨he,hw⟩=>⟨he,hw▸Below.refl _ _⟩) hR
theorem Spec.ALq {o:Obj}{v:Nat->Value}(h:∀w,Sat Z22 w->Calls P f args w λe w'=>e=.returned (v w.heap.size)/\w'=w.alloc o)(hR:∀b,Z22 b=none->R (.returned (v b)) (Z22.set b o)):Spec P f args Z22 R:=λw F G hF=>
 (h w G).mono λe w' ⟨he,hw⟩=>⟨Z22.set w.heap.size o,he▸hR _ (Hl G),by subst hw;exact Fin.alloc G hF _ rfl (.same rfl rfl rfl) rfl⟩
theorem cell_of {w:World}{b o:Nat}{v:Value}(G:Sat Z22 w)(h:Z22.ld ⟨b,o,none⟩=some v):w.cell? ⟨b,o,none⟩=some v:=by
 have:=bO (ys:=[v]) G ⟨h,trivial⟩ 0 v rfl;simpa[Cv] using this
end
def YS:List Nat:=[4607182418800017408,4621819117588971520,4636737291354636288,4652007308841189376,4666723172467343360,4681608360884174848,4696837146684686336,4711630319722168320,4726483295884279808,4741671816366391296,4756540486875873280,4771362005757984768,4786511204640096256,4801453603149578240,4816244402031689728,4831355200913801216]
structure Gl (Z22:Hp):Prop where
 len:∃m:Int,Z22.ld ⟨0,0,none⟩=some (.I m)
 opt:Z22.ld ⟨5,0,none⟩=some (.bool true)
 bits:Z22.ld ⟨6,0,none⟩=some (.U 52)
 pow:∃b o n c,Z22.ld ⟨9,0,none⟩=some (.slice (some ⟨b,o,none⟩) n c)/\16<=n/\∀i v,YS[i]?=some v->Z22.ld ⟨b,o+i*1,none⟩=some (.float .f64 v)
theorem Gl.mono {Z22 Z':Hp}(h:Gl Z22)(G:Ext Z22 Z'):Gl Z':=⟨h.len.imp λ_=>G.ld,G.ld h.opt,G.ld h.bits,let ⟨b,o,n,c,h1,h2,h3⟩:=h.pow;⟨b,o,n,c,G.ld h1,h2,λi v hv=>G.ld (h3 i v hv)⟩⟩
section
variable {Z22 Z':Hp}{R:Rr}
theorem index_spec {s t:ByteArray}(G:Gl Z22)(hs:s.size<4294967281)(h:R (.returned (.I (Lib.index s.data.toList t.data.toList))) Z22):Spec prog 275 #[.string s,.string t] Z22 R:=by
 obtain⟨m,hm⟩:=G.len;exact Spec.same (λw hw=>Go.Proofs.Tryz.strings_Index s t m w hs (cell_of hw hm)) h
theorem YT {s:ByteArray}{c:UInt8}(hg:Gl Z22)(hs:s.size<4294967281)(h:∀b T,Z22 b=none->R (.returned (.slice (aD b 0) (GM c s).length (GM c s).length)) (Z22.set b (.cells ((GM c s).map Value.string).toArray T (0,0)))):Spec prog 229 #[.string s,.string ⟨#[c]⟩] Z22 R:=by
 obtain⟨m,hm⟩:=hg.len;have hl:(GM c s).length=Lib.countB s ⟨#[c]⟩+1:=Lib.splitB_all ⟨#[c]⟩ (Ajt 1) 0 _ s rfl;have G:=λb=>h b 9;rw[hl] at G;exact Spec.ALq (v:=λb=>.slice (aD b 0) _ _) (λw hw=>Go.Proofs.Tryz.strings_Split s ⟨#[c]⟩ m w hs (cell_of hw hm) (Ajt 1)) G
theorem fY {s:ByteArray}{l h:Nat}(hl:l<=h)(hh:h<=s.size):YF prog (Instr.sliceAt 9 (.string s) (some (.I (l:Int))) (some (.I (h:Int))) none) Z22 (.string (s.extract l h)):=λw _=>by
 rw[run_sliceAt_string (h:=underlying9)];have G:(h:Int)<=s.size:=by omega
 have h2:(l:Int)<=h:=by omega
 simp[Instr.slice,run_underlying underlying9,Instr.sliceBounds,run_sliceBound,G,h2,Result.andThen]
theorem lE {s t:ByteArray}(h:R (.returned (.bool (decide (t.size<=s.size/\s.extract 0 t.size=t)))) Z22):Spec prog 296 #[.string s,.string t] Z22 R:=by
 refine Jk.start (DP.start ⟨λG=>⟨_,YL (by omega),_,rfl,?_⟩,λvv=>⟨_,rfl,?_⟩⟩)
 .rw[iH,show decide (s.extract 0 t.size=t)=decide (t.size<=s.size/\s.extract 0 t.size=t) from Akr.2 ⟨λh=>⟨by omega,h⟩,λh=>h.2⟩];exact h
 .rw[show false=decide (t.size<=s.size/\s.extract 0 t.size=t) from(Aj1 λhh=>vv (by omega)).symm];exact h
theorem lF {s t:ByteArray}(hs:s.size<=4611686018427387904)(h:R (.returned (.bool (decide (t.size<=s.size/\s.extract (s.size-t.size) s.size=t)))) Z22):Spec prog 297 #[.string s,.string t] Z22 R:=by
 refine Jq.start (DO.start ⟨λG=>⟨by unfold AL;omega,s.extract (s.size-t.size) s.size,?_,_,rfl,?_⟩,λvv=>⟨_,rfl,?_⟩⟩)
 .rw[show((s.size:Nat):Int)-((t.size:Nat):Int)=((s.size-t.size:Nat):Int) by omega];exact P8 (by omega)
 .rw[iH,show decide (s.extract (s.size-t.size) s.size=t)=decide (t.size<=s.size/\s.extract (s.size-t.size) s.size=t) from Akr.2 ⟨λh=>⟨by omega,h⟩,λh=>h.2⟩];exact h
 .rw[show false=decide (t.size<=s.size/\s.extract (s.size-t.size) s.size=t) from(Aj1 λhh=>vv (by omega)).symm];exact h
def ETx (_:Hp)(vs:List Value)(x:ByteArray):Prop:=vs=[.string x]
theorem ETx.mono:Hk ETx:=λ_ _ _ _ _ h=>h
abbrev tH:=Ae 1 ETx
theorem tH.at {p:Option Addr}{n i:Nat}{ls:List ByteArray}{x:ByteArray}(hr:tH Z22 p n ls)(hx:ls[i]?=some x):∃b o,p=some ⟨b,o,none⟩/\Z22.ld ⟨b,o+i*1,none⟩=some (.string x):=by
 obtain⟨b,o,vs,hp,rfl,G⟩:=Ae.idx hr hx;exact⟨b,o,hp,G.1⟩
theorem tH.AB8 {b:Nat}{T:TypeId}{L:List ByteArray}(h:Z22 b=some (.cells (L.map Value.string).toArray T (0,0)))(hb:L.length<=4611686018427387904):tH Z22 (aD b 0) L.length L:=by
 refine⟨rfl,L.map .string,⟨by simp,hb,.inr ⟨b,0,rfl,A2.of λj v hj=>?_⟩⟩,by simp,λi x hx=>?_⟩
 .rw[Akn];exact AJ h (by simpa using hj)
 .have G:(L.map Value.string)[i]?=some (.string x):=by rw[Akt,hx];rfl
  rw[AlQ,BR G];rfl
theorem AFY {p:Option Addr}{n c:Nat}{l:List ByteArray}{s:ByteArray}(hg:Gl Z22)(hr:tH Z22 p n l)(h0:0<n)(hc:n<=c)(hs:s.size<4294967281)(hl:∀x∈l,x.size<=4294967296)(h:R (.returned (.bool (isK l s))) Z22):
  Spec prog 272 #[.agg #[.slice p n c],.string s] Z22 R:=by
 have hn:l.length=n:=hr.1;have RV:=hr.big;obtain⟨a,ha⟩:=hr.ex h0;obtain⟨z,hz⟩:=hr.ex (k:=n-1) (by omega);obtain⟨b,o,rfl,hla⟩:=tH.at hr ha;obtain⟨_,_,G,hlz⟩:=tH.at hr hz;cases G;have ea:l.head?.getD ⟨#[]⟩=a:=by rw[Alo,ha];rfl
 have ez:l.getLast?.getD ⟨#[]⟩=z:=by rw[AlM,hn,hz];rfl
 have e1:Int.toNat ((n:Int)-1)=n-1:=by omega
 have hsa:=hl a (Aju ha);have KD:=hl z (Aju hz);have eK:isK l s=if n=1 then decide (s=a) else if s.size<a.size+z.size\/s.extract 0 a.size≠a\/s.extract (s.size-z.size) s.size≠z then false else vt l.tail.dropLast (s.extract a.size (s.size-z.size)):=by
  unfold isK;rw[ea,ez,hn]
 rw[eK]at h;refine Ea.start λ_=>⟨b,o,rfl,by omega,a,by simpa using hla,by unfold AL;omega,by omega,z,by rw[e1];exact hlz,λh1=>?_,λh1=>?_⟩
 .rw[Ajl (by omega)]at h;rw[iH];exact h
 rw[Ajj (by omega)]at h;refine⟨by unfold AL;omega,λAx=>?_,λRU=>lE ⟨_,rfl,λhp=>?_,λhp=>lF (by omega) ⟨_,rfl,λhq=>?_,λhq=>?_⟩⟩⟩
 .rw[Ajl (.inl (by omega))]at h;exact h
 .have:=AkM hp;rw[Ajl (.inr (.inl λe=>this ⟨by omega,e⟩))]at h;exact h
 .have:=AkM hq;rw[Ajl (.inr (.inr λe=>this ⟨by omega,e⟩))]at h;exact h
 have hp':=Ajx hp;have hq':=Ajx hq;rw[Ajj (by
    rintro(h3|h3|h3)
    .omega
    .exact h3 hp'.2
    .exact h3 hq'.2)]at h
 have AFZ:tH Z22 (Ee (aD b o) 1 c 1) (n-2) (l.tail.dropLast):=by
  have:=Ae.sub (i:=1) (m:=n-2) hr (by decide) (by omega) hc;rwa[AnC,show n-2=l.tail.length-1 by rw[AlP];omega,<-List.dropLast_eq_take,AlP,show l.length-1-1=n-2 by omega]at this
 refine⟨by unfold AL;omega,s.extract a.size (s.size-z.size),?_,by unfold AL;omega,by omega,?_⟩
 .rw[show((s.size:Nat):Int)-((z.size:Nat):Int)=((s.size-z.size:Nat):Int) by omega];exact fY (by omega) (by omega)
 rw[e1,show n-1-1=n-2 by omega];generalize hu:s.extract a.size (s.size-z.size)=u at *;have hus:u.size<4294967281:=by rw[<-hu,AlA];omega
 generalize Ee (aD b o) 1 c 1=q at *;generalize l.tail.dropLast=ms at *;clear hu hla hlz ha hz ea ez eK
 suffices H:∀g k:Nat,∀(q':Option Addr) (v:ByteArray),(0<n-2->q'=q)->n-2-k=g->k<=n-2->v.size<4294967281->vt ms u=vt (ms.drop k) v->Ea.HQ R v q' (n-2) (c-1) ((n-2:Nat):Int) k Z22 from H (n-2) 0 q u (λ_=>rfl) rfl (Ajy _) hus rfl
 have hml:ms.length=n-2:=AFZ.1;intro g
 induction g with
 | zero=>
  intro k q' v hq hgk hk hv G;rw[AkF (by omega)]at G;rw[G]at h;exact Ea.DZ ⟨λAx=>by omega,λ_=>h⟩
 | succ g ih=>
  intro k q' v hq hgk hk hv G;have Cs:k<n-2:=by omega
  obtain⟨t,ht⟩:=AFZ.ex Cs;obtain⟨b2,o2,hq2,Ax⟩:=tH.at AFZ ht;rw[hq (by omega),hq2];rw[BR ht,vt]at G;refine Ea.DZ ⟨λ_=>⟨b2,o2,rfl,by omega,t,by simpa using Ax,index_spec hg hv ⟨_,rfl,λALm=>?_,λIs=>?_⟩⟩,λhh=>by omega⟩
  .rw[Ajl ALm]at G;rw[G]at h;exact h
  .rw[Ajj Is]at G;have Je:=Lib.index_room v.data.toList t.data.toList (by omega);have hv1:v.data.toList.length=v.size:=AkP (xs:=v.data);have ht1:t.data.toList.length=t.size:=AkP (xs:=t.data);generalize hi:Lib.index v.data.toList t.data.toList=i at *;refine⟨by unfold AL;omega,v.extract (i.toNat+t.size) v.size,?_,AO Cs AFZ.big,ih (k+1) _ _ (λ_=>hq2.symm) (by omega) (by omega) (by rw[AlA];omega) G⟩;rw[show i+((t.size:Nat):Int)=((i.toNat+t.size:Nat):Int) by omega];exact P8 (by omega)
def EPc (Z22:Hp)(vs:List Value)(l:List ByteArray):Prop:=∃p n c,vs=[.slice p n c]/\tH Z22 p n l/\0<n/\n<=c
theorem EPc.mono:Hk EPc:=λ_ _ _ _ hx ⟨p,n,c,hv,G,h2⟩=>⟨p,n,c,hv,G.mono ETx.mono hx,h2⟩
theorem wH {p:Option Addr}{n c:Nat}{L:List (List ByteArray)}{s:ByteArray}(hg:Gl Z22)(hr:Ae 1 EPc Z22 p n L)(hs:s.size<4294967281)(hl:∀l∈L,∀x∈l,x.size<=4294967296)(h:R (.returned (.bool (L.any λl=>isK l s))) Z22):
  Spec prog 248 #[.agg #[.slice p n c],.string s] Z22 R:=by
 have hn:L.length=n:=hr.1;refine Cc.start λ_=>?_
 suffices H:∀g k:Nat,n-k=g->k<=n->(L.any λl=>isK l s)=((L.drop k).any λl=>isK l s)->Cc.Gf R s p n c n k Z22 from H n 0 rfl (Ajy _) rfl
 intro g
 induction g with
 | zero=>
  intro k hg' hk G;rw[AkF (by omega)]at G;rw[G]at h;exact Cc.A0 ⟨λAx=>by omega,λ_=>h⟩
 | succ g ih=>
  intro k hg' hk G;have Cs:k<n:=by omega
  obtain⟨l,hx⟩:=hr.ex Cs;obtain⟨b,o,vs,rfl,⟨p1,n1,c1,rfl,h1,h2,h3⟩,Dy⟩:=Ae.idx hr hx;rw[BR hx,AnE]at G;refine Cc.A0 ⟨λ_=>⟨b,o,rfl,by omega,p1,n1,c1,by simpa using Dy,λ_=>AFY hg h1 h2 h3 hs (hl l (Aju hx)) ⟨_,rfl,λht=>?_,λhf=>⟨AO Cs hr.big,ih (k+1) (by omega) (by omega) ?_⟩⟩⟩,λhh=>by omega⟩
  .rw[ht]at G;rw[G]at h;exact h
  .rw[hf]at G;exact G
theorem Tx {c:UInt8}{s:ByteArray}:∀x∈GM c s,x.size<=s.size:=by
 unfold GM;generalize Lib.countB s ⟨#[c]⟩=k
 induction k generalizing s with
 | zero=>intro x G;rw[Lib.splitB_zero,Ajp]at G;rw[G];exact Ajt _
 | succ k ih=>
  intro x G;unfold Lib.splitB at G;split at G
  .rw[Ajp]at G;rw[G];exact Ajt _
  .rcases Ajo.1 G with rfl|G
   .rw[AlA];omega
   .have:=ih x G;rw[AlA]at this;omega
theorem lG {c:UInt8}{s:ByteArray}:(GM c s).length<=s.size+1/\0<(GM c s).length:=by
 have G:=Lib.splitB_all ⟨#[c]⟩ (Ajt 1) 0 _ s rfl;have h2:=Lib.countB_le ⟨#[c]⟩ (Ajt 1) s.size s (Ajt _);unfold GM;omega
theorem fZ {s:ByteArray}(hg:Gl Z22)(hs:s.size<=1000000)(h:∀p n c Z',Ae 1 EPc Z' p n ((GM 124 s).map (GM 42))->Ext Z22 Z'->R (.returned (.agg #[.slice p n c])) Z'):Spec prog 188 #[.string s] Z22 R:=by
 refine FR.start λ_ _=>YT hg (by omega) λb T hb=>⟨_,_,_,rfl,?_⟩;have BC:Ext Z22 (Z22.set b (.cells ((GM 124 s).map Value.string).toArray T (0,0))):=.set hb;obtain⟨hlen,_⟩:=lG (c:=124) (s:=s);have hr:tH (Z22.set b (.cells ((GM 124 s).map Value.string).toArray T (0,0))) (aD b 0) (GM 124 s).length (GM 124 s):=tH.AB8 (Hp.AA _ _ _) (by omega);generalize AaW:Z22.set b (.cells ((GM 124 s).map Value.string).toArray T (0,0))=Z1 at *;have KD:=Tx (c:=124) (s:=s);generalize GM 124 s=L at *
 suffices H:∀g k:Nat,∀p3 n3 c3 Z',L.length-k=g->k<=L.length->IT 1 EPc (Z1.new Z') p3 n3 c3 ((L.take k).map (GM 42))->Ext Z1 Z'->FR.A4 R none 0 0 p3 n3 c3 (aD b 0) L.length L.length L.length k Z' from H L.length 0 none 0 0 Z1 rfl (Ajy _) IT.nil (.refl _)
 intro g
 induction g with
 | zero=>
  intro k p3 n3 c3 Z' hg' hk ho hx;rw[Ajq (by omega)]at ho;exact FR.AX ⟨λAx=>by omega,λ_=>h p3 n3 c3 Z' ((ho.rd EPc.mono).mono EPc.mono (Ext.CY _ _)) (BC.trans hx)⟩
 | succ g ih=>
  intro k p3 n3 c3 Z' hg' hk ho hx;have Cs:k<L.length:=by omega
  obtain⟨x,Ug⟩:=hr.ex Cs;obtain⟨b2,o2,he,YA⟩:=tH.at hr Ug;cases he;have hxs:=KD x (Aju Ug);have Qe:n3=k:=by have:=ho.1;rw[Akb,AkA]at this;omega
  refine FR.AX ⟨λ_=>⟨b,0,rfl,by omega,x,by simpa using hx.ld YA,YT (hg.mono (BC.trans hx)) (by omega) λb4 T4 G=>⟨_,_,_,rfl,λcD AaX=>?_⟩⟩,λhh=>by omega⟩;obtain⟨AeF,ATv⟩:=lG (c:=42) (s:=x);have KK:Ext Z' (Z'.set b4 (.cells ((GM 42 x).map Value.string).toArray T4 (0,0))):=.set G;have hp3:∀a,p3=some a->Z' a.block≠none:=λa ha=>by
   have:=ho.block a ha;cases hh:(Z1.new Z') a.block with
   | none=>exact absurd hh this
   | some oo=>rw[(Af.1 hh).2];simp
  have AaY:(Z1.new (Z'.set b4 (.cells ((GM 42 x).map Value.string).toArray T4 (0,0))) |>.del p3) b4=some (.cells ((GM 42 x).map Value.string).toArray T4 (0,0)):=Aq.2 ⟨λa ha e=>hp3 a ha (by rw[<-e];exact G),Af.2 ⟨A7 hx G,Hp.AA _ _ _⟩⟩;refine IT.FN EPc.mono (vs:=[.slice (aD b4 0) (GM 42 x).length (GM 42 x).length]) (x:=GM 42 x) (hx.trans KK) (ho.mono EPc.mono (Ext.Ir KK)) rfl (λu hu=>by rw[Ajp]at hu;subst hu;rfl) ⟨_,_,_,rfl,tH.AB8 AaY (by omega),ATv,Ajt _⟩ (by omega) (λp' c' Z2 B6 Ao=>⟨_,_,_,rfl,AO Cs hr.big,ih (k+1) _ _ _ _ (by omega) (by omega) ?_ Ao⟩) AaX;rw[AU Ug,AkI];exact B6
theorem dF {p q:Option Addr}{n c m d:Nat}{ms:List Mt}{ls:List Lb}(hg:Gl Z22)(hr:Ae 3 Js Z22 p n ms)(hq:HG Z22 q m ls)(hm:∀x∈ms,x.val.size<=1000000)(Vn:∀x∈ls,x.2.size<=1000000)(hk:∀x∈ms,1<=x.kind/\x.kind<=4)(h:∀Z',Ext Z22 Z'->R (.returned (.bool (Q3 ms ls))) Z'):
  Spec prog 154 #[.slice p n c,.slice q m d] Z22 R:=by
 have hl:ms.length=n:=hr.1;refine Fs.start (UW.start λkb FM=>⟨_,_,_,rfl,?_⟩);have BC:=Ext.set (o:=.cells #[.nilFunc,(.func (.func 225) #[] #[]),(.func (.func 226) #[] #[]),(.func (.func 227) #[] #[]),(.func (.func 228) #[] #[])] 268 (0,0)) FM;have hc:=Hp.AA Z22 kb (.cells #[.nilFunc,(.func (.func 225) #[] #[]),(.func (.func 226) #[] #[]),(.func (.func 227) #[] #[]),(.func (.func 228) #[] #[])] 268 (0,0));generalize AaW:Z22.set kb (.cells #[.nilFunc,(.func (.func 225) #[] #[]),(.func (.func 226) #[] #[]),(.func (.func 227) #[] #[]),(.func (.func 228) #[] #[])] 268 (0,0))=Z1 at *;have hgs:∀k:ByteArray,(Fp ls k).size<=1000000:=λk=>by
  clear hq h
  induction ls with
  | nil=>unfold Fp;decide
  | cons a l ih=>
   unfold Fp;split
   .exact Vn a (by simp)
   .exact ih λx hx=>Vn x (Ajm _ hx)
 suffices H:∀g k:Nat,∀Z',n-k=g->k<=n->Ext Z1 Z'->Q3 ms ls=Q3 (ms.drop k) ls->Fs.A4 R q m d (aD kb 0) 5 5 p n c n k Z' from H n 0 Z1 rfl (Ajy _) (.refl _) rfl
 intro g
 induction g with
 | zero=>
  intro k Z' hg' Cs hx he;have:=h Z' (BC.trans hx);rw[he,AkF (by omega)]at this;exact Fs.AX ⟨λAx=>by omega,λ_=>this⟩
 | succ g ih=>
  intro k Z' hg' iP hx he;have Cs:k<n:=by omega
  obtain⟨x,Ug⟩:=hr.ex Cs;obtain⟨b,o,rfl,Dy⟩:=Js.at hr Ug;have yP:=Aju Ug;have hk4:=hk x yP;have VJ:Q3 ms ls=(Uj x ls&&Q3 (ms.drop (k+1)) ls):=by rw[he,BR Ug];rfl
  have step:∀(t:Bool) (G:Hp),t=Uj x ls->Ext Z1 G->AY R (CB λt35 Ai=>Bn t35 (R (.B false) Ai) (AL ((k:Int)+1)/\Fs.A4 R q m d (aD kb 0) 5 5 (aD b o) n c n ((k:Int)+1) Ai)) (.B t) G:=λt G ht Ao=>by
   refine⟨t,rfl,λhf=>?_,λhtt=>⟨AO Cs hr.big,ih (k+1) G (by omega) (by omega) Ao ?_⟩⟩
   .have:=h G (BC.trans Ao);rw[VJ,<-ht,hf]at this;exact this
   .rw[VJ,<-ht,htt];rfl
  refine Fs.AX ⟨λ_=>⟨b,o,rfl,by omega,x.kind,x.name,x.val,by simpa using(Dy.mono (BC.trans hx)),λ_=>dC ⟨_,rfl,λhf=>?_,λht=>⟨kb,0,rfl,by omega,?_⟩⟩⟩,λhh=>by omega⟩
  .exact absurd hk4 (AkM hf)
  have Mg:∀G p1 n1 c1,Ae 1 EPc G p1 n1 ((GM 124 x.val).map (GM 42))->Ext Z1 G->∀R2:Rr,R2 (.returned (.bool (kh x.val (Fp ls x.name)))) G->Spec prog 248 #[.agg #[.slice p1 n1 c1],.string (Fp ls x.name)] G R2:=λG p1 n1 c1 cH Ao R2 lH=>by
   refine wH (hg.mono (BC.trans Ao)) cH (by have:=hgs x.name;omega) (λl hl y hy=>?_) ?_
   .obtain⟨z,hz,rfl⟩:=AkT.1 hl;have h1:=Tx y hy;have h2:=Tx z hz;have h3:=hm x yP;omega
   .rw[List.any_map];exact lH
  have row:∀(i:Nat) (f:FuncId) (t:Bool),x.kind=i->(#[.nilFunc,(.func (.func 225) #[] #[]),(.func (.func 226) #[] #[]),(.func (.func 227) #[] #[]),(.func (.func 228) #[] #[])]:Array Value)[i]?=some (.func (.func f) #[] #[])->Enters prog f->t=Uj x ls->
    (∀p1 n1 c1 G (R2:Rr),Ae 1 EPc G p1 n1 ((GM 124 x.val).map (GM 42))->Ext Z1 G->R2 (.B t) G->Spec prog f #[.agg #[.slice p1 n1 c1,.string x.val],.string (Fp ls x.name)] G R2)->
    ∃v24,Hp.ld Z' ⟨kb,(0+Int.toNat x.kind*1),none⟩=some v24/\Spec prog 188 #[.string x.val] Z' (AY R (λz AE=>∃RP QX RQ,z=(.agg #[.slice RP QX RQ])/\Kp [kb] Z' AE/\Spec prog 189 #[.slice q m d,.string x.name] AE (AY R (CT λs34 AK=>Kp [kb] AE AK/\∃(f35:Nat) (jr js:Array Value),v24=.func (.func f35) jr js/\Enters prog f35/\Spec prog f35 (jr++#[.agg #[.slice RP QX RQ,.string x.val],.string s34]++js) AK (AY R (CB λt35 Ai=>Bn t35 (R (.B false) Ai) (AL ((k:Int)+1)/\Fs.A4 R q m d (aD kb 0) 5 5 (aD b o) n c n ((k:Int)+1) Ai)))))) ):=λi f t hi hv KQ ht hf=>by
   refine⟨.func (.func f) #[] #[],?_,?_⟩
   rotate_left
   .refine fZ (hg.mono (BC.trans hx)) (hm x yP) λp1 n1 c1 G cH Ao=>⟨p1,n1,c1,rfl,Kp.TI Ao,ax (hq.mono Cg.mono (BC.trans (hx.trans Ao))) ⟨_,rfl,Kp.TI (.refl _),f,#[],#[],rfl,KQ,hf p1 n1 c1 G _ cH (hx.trans Ao) (step t G ht (hx.trans Ao))⟩⟩
   rw[hi];exact AJ (hx _ _ hc) (by simpa using hv)
  have ACA:x.kind=1\/x.kind=2\/x.kind=3\/x.kind=4:=by omega
  rcases ACA with h1|h1|h1|h1
  .exact row 1 225 (decide (Fp ls x.name=x.val)) h1 rfl Gj.en (by unfold Uj;rw[Ajl h1]) λp1 n1 c1 G R2 _ _ lH=>Gj.start λ_=>by rw[iH];exact lH
  .exact row 2 226 (!decide (Fp ls x.name=x.val)) h1 rfl Gm.en (by unfold Uj;rw[Ajj (by omega),Ajl h1];simp) λp1 n1 c1 G R2 _ _ lH=>Gm.start λ_=>by rw[iH];exact lH
  .exact row 3 227 (kh x.val (Fp ls x.name)) h1 rfl Fj.en (by unfold Uj;rw[Ajj (by omega),Ajj (by omega),Ajl h1]) λp1 n1 c1 G R2 cH Ao lH=>Fj.start λ_=>Mg G p1 n1 c1 cH Ao _ ⟨_,rfl,lH⟩
  .exact row 4 228 (!kh x.val (Fp ls x.name)) h1 rfl Fk.en (by unfold Uj;rw[Ajj (by omega),Ajj (by omega),Ajj (by omega),Ajl h1]) λp1 n1 c1 G R2 cH Ao lH=>Fk.start λ_=>Mg G p1 n1 c1 cH Ao _ ⟨_,rfl,lH⟩
end
structure Rs where
 m:Nat
 dot:Bool
 nd:Nat
 dp:Int
def EJ (st:Rs)(u:UInt8):Rs:=if u=46 then { st with dot:=true,dp:=st.nd } else if u=48/\st.nd=0 then { st with dp:=st.dp-1 } else { st with m:=st.m*10+(u.toNat-48),nd:=st.nd+1 }
def Jt (s:ByteArray):Rs:=s.data.toList.foldl EJ ⟨0,false,0,0⟩
def YU (r:Rs):Int:=if r.m=0 then 0 else(if r.dot then r.dp else r.nd)-r.nd
def wJ (s:ByteArray):Int:=
 let r:=Jt s
 if r.m=0 then(toF 0:Nat) else if YU r=0 then(toF (FloatKind.f64.nearest r.m):Nat) else(kl 4 (FloatKind.f64.nearest r.m) (YS.getD (-YU r).toNat 0):Nat)
section
variable {Z22 Z':Hp}{R:Rr}
theorem Sl {s:ByteArray}(hb:s.size<=4611686018427387904)(h:R (.returned (.I (AV s))) Z22):Spec prog 221 #[.string s] Z22 R:=by
 have hlen:s.data.toList.length=s.size:=AkP (xs:=s.data);refine Hv.start ?_
 suffices H:∀g k:Nat,s.size-k=g->k<=s.size->(∀j u,j<k->s.data.toList[j]?=some u->C8 u=true)->Hv.GQ R s k Z22 from H s.size 0 rfl (Ajy _) (λj u hj=>by omega)
 intro g
 induction g with
 | zero=>
  intro k hg hk h1;have e:AV s=k:=Km (by omega) h1 (λu hu=>by have:=(Ajn.1 hu).1;omega);rw[e]at h;exact Hv.BI ⟨λAx=>by omega,λ_=>h⟩
 | succ g ih=>
  intro k hg hk h1;obtain⟨u,hu,Bt⟩:=byte_at (show k<s.size by omega);have G:C8 u=false->R (.returned (.I k)) Z22:=λhd=>by
   have e:AV s=k:=Km (by omega) h1 (λv hv=>by rw[Bt]at hv;cases hv;exact hd);rw[e]at h;exact h
  refine Hv.BI ⟨λ_=>⟨u,by omega,by simpa using hu,λky=>⟨u,by omega,by simpa using hu,λh57=>?_,λh57=>G ?_⟩,λky=>G ?_⟩,λhh=>by omega⟩
  .refine⟨AO (by omega:k<s.size) hb,ih (k+1) (by omega) (by omega) λj v hj hv=>?_⟩;by_cases hjk:j=k
   .rw[hjk,Bt]at hv;cases hv;exact Aj0 (by omega)
   .exact h1 j v (by omega) hv
  .exact Aj1 (by omega)
  .exact Aj1 (by omega)
theorem fa {s:ByteArray}(hb:s.size<=4611686018427387904)(G:Gv s=true)(h:R (.B true) Z22):Spec prog 181 #[.string s] Z22 R:=by
 have hle:=P7 s;have h0:AV s≠0:=λe=>by unfold Gv at G;rw[Ajl e]at G;cases G
 have h1:¬(1<AV s/\s.data[0]?=some 48):=λe=>by unfold Gv at G;rw[Ajj h0,Ajl e]at G;cases G
 obtain⟨u0,hu0,_⟩:=byte_at (show 0<s.size by omega);have VE:=Ly (u:=u0) (k:=48) (by decide);have tail:Br ((AV s:Int)=(s.size:Int)) (R (.returned (.bool (decide ((AV s:Int)<=15)))) Z22) (AL ((AV s:Int)+1)/\∃s27,YF prog (Instr.sliceAt 9 (.string s) (some (.I ((AV s:Int)+1))) none none) Z22 (.string s27)/\Spec prog 221 #[.string s27] Z22 (AY R (CI .i64 λMP AE=>∃u31:UInt8,0<=(AV s:Int)/\(ByteArray.data s)[Int.toNat (AV s:Int)]?=some u31/\Br (((u31.toNat:Int):Int)=46) (Br (0<MP) (AL ((AV s:Int)+1)/\AL (((AV s:Int)+1)+MP)/\Br (((((AV s:Int)+1)+MP):Int)=(s.size:Int)) (AL ((AV s:Int)+MP)/\R (.returned (.bool (decide ((((AV s:Int)+MP):Int)<=15)))) AE) (R (.B false) AE)) (R (.B false) AE)) (R (.B false) AE)))):=by
  unfold Gv at G;rw[Ajj h0,Ajj h1]at G;refine⟨λhe=>?_,λhe=>⟨by unfold AL;omega,s.extract (AV s+1) s.size,P8 (l:=AV s+1) (by omega),?_⟩⟩
  .rw[Ajl (by omega)]at G;rw[Aj0 (by have:=Ajx G;omega)];exact h
  .rw[Ajj (by omega)]at G;have G:=Ajx G;have AaS:(s.extract (AV s+1) s.size).size=s.size-(AV s+1):=by rw[AlA];omega
   have hm:=P7 (s.extract (AV s+1) s.size);refine Sl (by omega) ?_;obtain⟨u,hu,_⟩:=byte_at (show AV s<s.size by omega);rw[hu]at G;have b46:=Ly (u:=u) (k:=46) (by decide);generalize AV (s.extract (AV s+1) s.size)=m at *;refine⟨_,rfl,u,by omega,by simpa using hu,λYO=>⟨λh0m=>⟨by unfold AL;omega,by unfold AL;omega,λhs=>⟨by unfold AL;omega,?_⟩,λhs=>absurd (by omega) hs⟩,λh0m=>absurd (by omega) h0m⟩,λYO=>absurd (b46.2 (by have:=G.1;simpa using this)) YO⟩;rw[Aj0 (by omega)];exact h
 refine UU.start (Sl hb ⟨_,rfl,λhh=>absurd hh (by omega),λ_=>⟨λh1n=>⟨u0,by omega,by simpa using hu0,λky=>?_,λ_=>tail⟩,λ_=>tail⟩⟩);exact absurd ⟨by omega,by rw[hu0,VE.1 ky];rfl⟩ h1
theorem qA {α:Type}{p:α->Bool}:∀{l:List α} {u:α},u∈l.takeWhile p->p u=true
 | [],u,h=>by cases h
 | a::l,u,h=>by
  unfold List.takeWhile at h;split at h
  .rename_i G;rcases Ajo.1 h with rfl|h
   .exact G
   .exact qA h
  .cases h
theorem QB {s:ByteArray}(h:Gv s=true):0<s.size/\s.size<=16/\(∃u,s.data.toList[0]?=some u/\C8 u=true)/\(∀u∈s.data.toList,C8 u=true\/u=46)/\(s.data.toList.filter C8).length<=15/\(∀j k:Nat,s.data.toList[j]?=some 46->s.data.toList[k]?=some 46->j=k):=by
 have hlen:s.data.toList.length=s.size:=AkP (xs:=s.data);have hle:=P7 s;have h0:AV s≠0:=λe=>by unfold Gv at h;rw[Ajl e]at h;cases h
 have h1:¬(1<AV s/\s.data[0]?=some 48):=λe=>by unfold Gv at h;rw[Ajj h0,Ajl e]at h;cases h
 unfold Gv at h;rw[Ajj h0,Ajj h1]at h;have hT:s.data.toList.takeWhile C8=s.data.toList.take (AV s):=by
  unfold AV;exact(List.prefix_iff_eq_take.1 (AlZ _))
 have fc:∀u∈s.data.toList.take (AV s),C8 u=true:=λu G=>by rw[<-hT]at G;exact qA G
 have d46:C8 46=false:=by decide
 have ex0:∃u,s.data.toList[0]?=some u/\C8 u=true:=by
  obtain⟨u,_,Bt⟩:=byte_at (show 0<s.size by omega);refine⟨u,Bt,fc u (Aju (i:=0) ?_)⟩;rw[AkE,Ajl (by omega)];exact Bt
 by_cases he:AV s=s.size
 .rw[Ajl he]at h;have h15:=Ajx h;have Mg:∀u∈s.data.toList,C8 u=true:=λu G=>fc u (by rw[Ajq (by omega)];exact G);refine⟨by omega,by omega,ex0,λu G=>.inl (Mg u G),by have:=AkG C8 s.data.toList;omega,λj k hj _=>?_⟩;have:=Mg 46 (Aju hj);rw[d46]at this;cases this
 .rw[Ajj he]at h;have hh:=Ajx h;generalize hm:AV (s.extract (AV s+1) s.size)=m at hh;have hm2:m<=15:=by omega
  have RZ:s.data.toList=s.data.toList.take (AV s)++46::s.data.toList.drop (AV s+1):=by
   obtain⟨u,G,Bt⟩:=byte_at (show AV s<s.size by omega);have e46:u=46:=by have:=hh.1;rw[G]at this;simpa using this
   rw[<-e46,<-BR Bt,Aks]
  have PU:(s.extract (AV s+1) s.size).data.toList=s.data.toList.drop (AV s+1):=by
   rw[AmB,AmO,Amq];rw[Ajq (by rw[Aj6];omega)]
  have AIe:∀u∈s.data.toList.drop (AV s+1),C8 u=true:=λu G=>by
   rw[<-PU]at G;have hp:=AlZ (p:=C8) (l:=(s.extract (AV s+1) s.size).data.toList);have hl:((s.extract (AV s+1) s.size).data.toList.takeWhile C8).length=(s.extract (AV s+1) s.size).data.toList.length:=by
    rw[show((s.extract (AV s+1) s.size).data.toList.takeWhile C8).length=AV (s.extract (AV s+1) s.size) from rfl,hm,PU,Aj6];omega
   have:=hp.eq_of_length hl;rw[<-this]at G;exact qA G
  refine⟨by omega,by omega,ex0,λu G=>?_,?_,λj k hj hk=>?_⟩
  .rw[RZ]at G;rcases AkH.1 G with G|G
   .exact .inl (fc u G)
   .rcases Ajo.1 G with rfl|G
    .exact .inr rfl
    .exact .inl (AIe u G)
  .rw[RZ,Ak0,List.filter_cons,d46];have a1:=AkG C8 (s.data.toList.take (AV s));have a2:=AkG C8 (s.data.toList.drop (AV s+1));rw[AkA]at a1;rw[Aj6]at a2;simp only[Ajr];simp;omega
  .have only:∀i:Nat,s.data.toList[i]?=some 46->i=AV s:=λi hi=>by
    rw[RZ]at hi;have gy:(s.data.toList.take (AV s)).length=AV s:=by rw[AkA];omega
    rcases Amn i (AV s) with Ax|Ax|Ax
    .rw[AkJ (by omega)]at hi;have:=fc 46 (Aju hi);rw[d46]at this;cases this
    .exact Ax
    .rw[Akf (by omega),gy]at hi;obtain⟨d,hd⟩:∃d,i-AV s=d+1:=⟨i-AV s-1,by omega⟩;rw[hd,AkU]at hi;have:=AIe 46 (Aju hi);rw[d46]at this;cases this
   rw[only j hj,only k hk]
def qB (s:ByteArray)(k:Nat):Nat:=((s.data.toList.take k).filter C8).length
structure ROk (s:ByteArray)(k:Nat)(r:Rs):Prop where
 is:r=(s.data.toList.take k).foldl EJ ⟨0,false,0,0⟩
 nd:r.nd<=qB s k
 m:r.m<10^r.nd
 lo:(r.nd:Int)-r.dp<=qB s k
 hi:r.dp<=r.nd
 sw:r.dot=true->∃j,j<k/\s.data.toList[j]?=some 46
theorem Im {u:UInt8}(h:C8 u=true):48<=u.toNat/\u.toNat<=57:=Ajx h
theorem ROk.zero {s:ByteArray}:ROk s 0 ⟨0,false,0,0⟩:=⟨rfl,Ajy _,by decide,by simp,by simp,λh=>by cases h⟩
theorem wK {s:ByteArray}{k:Nat}{u:UInt8}(G:s.data.toList[k]?=some u):qB s (k+1)=qB s k+if C8 u then 1 else 0:=by
 unfold qB;rw[AU G,Ak0,Ajr]
 congr 1
 by_cases h:C8 u=true<;>simp[h]
theorem ROk.step {s:ByteArray}{k:Nat}{r:Rs}{u:UInt8}(h:ROk s k r)(hu:s.data.toList[k]?=some u)(hd:C8 u=true\/u=46):ROk s (k+1) (EJ r u):=by
 have hc:=wK hu;have G:EJ r u=(s.data.toList.take (k+1)).foldl EJ ⟨0,false,0,0⟩:=by rw[AU hu,AlB,<-h.is];rfl
 have h1:=h.nd;have h2:=h.m;have h3:=h.lo;have h4:=h.hi;by_cases YO:u=46
 .subst YO;have e:EJ r 46={ r with dot:=true,dp:=r.nd }:=by unfold EJ;rw[Ajl rfl]
  rw[show C8 46=false from by decide]at hc;simp only[AlF,AlE,Ak7]at hc;rw[e]at G ⊢;exact⟨G,by rw[hc];exact h1,h2,by dsimp only;omega,AmC _,λ_=>⟨k,by omega,hu⟩⟩
 have hdg:=hd.resolve_right YO;have hn:=Im hdg;rw[hdg]at hc;simp only[AlG]at hc;by_cases ky:u=48/\r.nd=0
 .have e:EJ r u={ r with dp:=r.dp-1 }:=by unfold EJ;rw[Ajj YO,Ajl ky]
  rw[e]at G ⊢;exact⟨G,by dsimp only;omega,h2,by dsimp only;omega,by dsimp only;omega,λhh=>let ⟨j,h5,h6⟩:=h.sw hh;⟨j,by omega,h6⟩⟩
 .have e:EJ r u={ r with m:=r.m*10+(u.toNat-48),nd:=r.nd+1 }:=by unfold EJ;rw[Ajj YO,Ajj ky]
  rw[e]at G ⊢;exact⟨G,by dsimp only;omega,by dsimp only;rw[AnK];omega,by dsimp only;omega,by dsimp only;omega,λhh=>let ⟨j,h5,h6⟩:=h.sw hh;⟨j,by omega,h6⟩⟩
theorem ACB {x:Int}(G:0<=x)(h1:x<18446744073709551616):IntKind.u64.wrap x=x:=by simp[IntKind.wrap,IntKind.bits,IntKind.signed];omega
theorem ATw {x:Int}(G:0<=x)(h1:x<256):IntKind.u8.wrap x=x:=by simp[IntKind.wrap,IntKind.bits,IntKind.signed];omega
theorem lI {n:Nat}(h:n<=15):10^n<=1000000000000000:=Ake (AmP (by decide) h) (by decide)
theorem wN {s:ByteArray}(ht:Gv s=true)(h:R (.T #[.U ((Jt s).m:Nat),.I (YU (Jt s)),.bool false,.bool false,.bool false,.I (s.size:Nat),.bool true]) Z22):Spec prog 283 #[.string s] Z22 R:=by
 obtain⟨hs0,ALu,⟨u0,hu0,VQ⟩,yQ,AFa,ATx⟩:=QB ht;have hlen:s.data.toList.length=s.size:=AkP (xs:=s.data);have hn0:=Im VQ;have hg0:s.data[0]?=some u0:=by rw[<-AkQ];exact hu0
 have ATy:∀k,qB s k<=15:=λk=>Ake (AmA ((List.take_sublist _ _).filter _)) AFa;have fe:AF.ABS R s 0 0 false false false 0 false false 10 19 101 false false 0 0 0 Z22:=by
  suffices H:∀g k:Nat,∀r:Rs,s.size-k=g->k<=s.size->ROk s k r->AF.ABS R s (r.m:Nat) 0 false false false (k:Nat) false false 10 19 101 r.dot (decide (0<k)) (r.nd:Nat) (r.nd:Nat) r.dp Z22 from H s.size 0 ⟨0,false,0,0⟩ rfl (Ajy _) .zero
  intro g
  induction g with
  | zero=>
   intro k r hg hk hr;have iP:k=s.size:=by omega
   have er:r=Jt s:=by rw[hr.is,Ajq (by omega)];rfl
   have hc:=ATy k;have h1:=hr.nd;have h3:=hr.lo;have h4:=hr.hi;refine AF.sg ⟨λAx=>by omega,λ_=>?_⟩;rw[show decide (0<k)=true from Aj0 (by omega)];have fin:∀x17:Int,(r.m≠0->x17-r.nd=YU r)->-100<=x17->x17<=100->AF.se R s (r.m:Nat) 0 false false false (k:Nat) false false 10 101 (r.nd:Nat) x17 Z22:=λx17 hx hlo hhi=>by
    refine AF.ABY ⟨λG=>absurd G (by decide),λ_=>AF.ABZ ⟨λAx=>by omega,λ_=>⟨λG=>absurd G (by decide),λ_=>AF.ABa ⟨λhm=>⟨by unfold AL;omega,AF.kV ⟨λG=>(by cases G),λ_=>?_⟩⟩,λhm=>AF.kV ⟨λG=>(by cases G),λ_=>?_⟩⟩⟩⟩⟩
    .rw[hx (by omega),iP,er];exact h
    .have hm0:r.m=0:=by omega
     have:YU (Jt s)=0:=by rw[<-er];unfold YU;rw[Ajl hm0]
     rw[this,<-iP,<-er]at h;exact h
   refine AF.ABX ⟨λG=>(by cases G),λ_=>⟨λhf=>fin _ (λhm=>?_) (by omega) (by omega),λhf=>fin _ (λhm=>?_) (by omega) (by omega)⟩⟩
   .unfold YU;rw[Ajj hm,hf];rfl
   .unfold YU;rw[Ajj hm,hf];rfl
  | succ g ih=>
   intro k r hg hk hr;obtain⟨u,hu,Bt⟩:=byte_at (show k<s.size by omega);have aV:=yQ u (Aju Bt);have CA:=hr.step Bt aV;have Q6:=λmr=>AF.ABb (R:=R) (Z22:=Z22) (s0:=s) (x2:=((EJ r u).m:Nat)) (x3:=0) (t4:=false) (t5:=false) (t6:=false) (x7:=(k:Nat)) (t8:=false) (t9:=false) (x10:=10) (x11:=19) (x12:=101) (t13:=(EJ r u).dot) (t14:=true) (x15:=((EJ r u).nd:Nat)) (x16:=((EJ r u).nd:Nat)) (x17:=(EJ r u).dp) ⟨mr,by
    have:=ih (k+1) (EJ r u) (by omega) (by omega) CA;rw[show decide (0<k+1)=true from Aj0 (by omega)]at this
    exact_mod_cast this⟩
   have Q6:=Q6 (by unfold AL;omega);have hc:=ATy k;have h1:=hr.nd;have h3:=hr.lo;have h4:=hr.hi;refine AF.sg ⟨λ_=>⟨u,by omega,by simpa using hu,λh95=>?_,λh95=>⟨λYO=>⟨λATz=>?_,λATz=>?_⟩,λYO=>?_⟩⟩,λG=>by omega⟩
   .exfalso;rcases aV with hd|rfl
    .have:=Im hd;omega
    .exact absurd h95 (by decide)
   .exfalso;obtain⟨j,hj,S7⟩:=hr.sw ATz;have e:u=46:=(Ly (k:=46) (by decide)).1 YO;rw[e]at Bt;have:=ATx j k S7 Bt;omega
   .have e:u=46:=(Ly (k:=46) (by decide)).1 YO;have hk0:0<k:=by
     rcases Amf k with h0|h0
     .subst h0;rw[hu0]at Bt;cases Bt;rw[e]at VQ;exact absurd VQ (by decide)
     .exact h0
    rw[show decide (0<k)=true from Aj0 hk0];rw[show EJ r u={ r with dot:=true,dp:=r.nd } by unfold EJ;rw[Ajl e]]at Q6;exact Q6
   have hd:=aV.resolve_right λe=>YO ((Ly (k:=46) (by decide)).2 e);have hn:=Im hd;have AIg:u≠46:=λe=>YO ((Ly (k:=46) (by decide)).2 e);have VE:=Ly (u:=u) (k:=48) (by decide);refine⟨λ_=>⟨λ_=>?_,λG=>by omega⟩,λG=>by omega⟩;have Agp:=Nat.lt_of_lt_of_le hr.m (lI (show r.nd<=15 by omega));have digit:¬(u=48/\r.nd=0)->AL ((r.nd:Int)+1)/\Br ((r.nd:Int)<19) (Df (IntKind.u64.wrap ((r.m:Int)*10)) λx99=>Df (IntKind.u8.wrap ((u.toNat:Int)-48)) λkP=>Df (IntKind.u64.wrap kP) λvi=>Df (IntKind.u64.wrap (x99+vi)) λpM=>AL ((r.nd:Int)+1)/\AF.Hx R s pM 0 false false false (k:Nat) false false 10 19 101 r.dot true ((r.nd:Int)+1) ((r.nd:Int)+1) r.dp Z22) (Br (((u.toNat:Int):Int)≠48) (AF.Hx R s (r.m:Nat) 0 false true false (k:Nat) false false 10 19 101 r.dot true ((r.nd:Int)+1) (r.nd:Nat) r.dp Z22) (AF.Hx R s (r.m:Nat) 0 false false false (k:Nat) false false 10 19 101 r.dot true ((r.nd:Int)+1) (r.nd:Nat) r.dp Z22)):=λAb=>by
    refine⟨by unfold AL;omega,λ_=>λx99 e99 kP Aad vi Aae pM Aaf=>⟨by unfold AL;omega,?_⟩,λG=>absurd (by omega) G⟩;rw[ACB (by omega) (by omega)]at e99;rw[ATw (by omega) (by omega)]at Aad;rw[ACB (by omega) (by omega)]at Aae;rw[ACB (by omega) (by omega)]at Aaf;rw[show EJ r u={ r with m:=r.m*10+(u.toNat-48),nd:=r.nd+1 } by unfold EJ;rw[Ajj AIg,Ajj Ab]]at Q6;have:pM=((r.m*10+(u.toNat-48):Nat):Int):=by omega
    rw[this]
    exact_mod_cast Q6
   refine⟨λky=>⟨λhz=>⟨by unfold AL;omega,?_⟩,λhz=>digit λG=>hz (by omega)⟩,λky=>digit λG=>ky (VE.2 G.1)⟩;rw[show EJ r u={ r with dp:=r.dp-1 } by unfold EJ;rw[Ajj AIg,Ajl ⟨VE.1 ky,by omega⟩]]at Q6;exact Q6
 have Aag:AF.Kb R s 0 0 false false false 0 false false Z22:=by
  refine AF.Jl ⟨by unfold AL;omega,λAx=>⟨u0,by omega,by simpa using hg0,λky=>⟨by unfold AL;omega,?_⟩,λ_=>AF.LV fe⟩,λ_=>AF.LV fe⟩;obtain⟨u1,Qy,Aah⟩:=byte_at (show 1<s.size by omega);refine⟨u1,by decide,by simpa using Qy,Gg.start λx4 e4=>⟨_,rfl,λAai=>?_,λ_=>AF.LV fe⟩⟩;exfalso;have low:∀i:Fin 12,Go.bits .or .u8 (((46+i.1:Nat)):Int) 32≠120:=by decide
  have EB:46<=u1.toNat/\u1.toNat<58:=by
   rcases yQ u1 (Aju Aah) with hd|rfl
   .have:=Im hd;omega
   .decide
  have:=low ⟨u1.toNat-46,by omega⟩;rw[show 46+(u1.toNat-46)=u1.toNat by omega]at this;exact this (by rw[<-e4];exact Aai)
 refine AF.start ⟨λG=>by omega,λ_=>⟨u0,by decide,by simpa using hg0,λG=>by omega,λ_=>⟨λG=>by omega,λ_=>Aag⟩⟩⟩
theorem fg {s:ByteArray}(ht:Gv s=true)(h:R (.T #[.float .f64 0,.I 0,.bool false]) Z22):Spec prog 282 #[.string s] Z22 R:=by
 obtain⟨hs0,ALu,⟨u0,hu0,VQ⟩,yQ,AFa,ATx⟩:=QB ht;have hn0:=Im VQ;have hg0:s.data[0]?=some u0:=by rw[<-AkQ];exact hu0
 refine BG.start ⟨λG=>by omega,λ_=>⟨u0,by decide,by simpa using hg0,λG=>by omega,λ_=>BG.Vg ⟨λG=>?_,λ_=>⟨λG=>by omega,λ_=>BG.AFC ⟨λG=>?_,λ_=>⟨λG=>by omega,λ_=>BG.Vi ⟨λG=>?_,λ_=>BG.AFD h⟩⟩⟩⟩⟩⟩⟩
 .have:=Ajx G;omega
 .have:=Ajx G;omega
 .have:=Ajx G;omega
theorem AFb {x:Int}:YN prog 292 #[.U x] Z22 (.float .f64 x.toNat):=λw _=>by
 rw[run_callFunc_extern Go.Proofs.Tryz.func292 (by kernel_rfl) (by kernel_rfl) (by kernel_rfl) (e:=Extern.MathFloatBits.float64frombits) (by kernel_rfl)];rfl
theorem AFc {s:ByteArray}(ht:Gv s=true):-15<=YU (Jt s)/\YU (Jt s)<=0/\(Jt s).m<1000000000000000:=by
 obtain⟨hs0,ALu,_,yQ,AFa,_⟩:=QB ht;have hlen:s.data.toList.length=s.size:=AkP (xs:=s.data);have H:∀k,k<=s.size->ROk s k ((s.data.toList.take k).foldl EJ ⟨0,false,0,0⟩):=λk=>by
  induction k with
  | zero=>intro _;exact .zero
  | succ k ih=>
   intro hk;obtain⟨u,hu,Bt⟩:=byte_at (show k<s.size by omega);have:=(ih (by omega)).step Bt (yQ u (Aju Bt));rwa[AU Bt,AlB]
 have G:=H s.size (Ajt _);rw[Ajq (by omega)]at G;have hc:qB s s.size<=15:=Ake (AmA ((List.take_sublist _ _).filter _)) AFa;have h1:=G.nd;have h3:=G.lo;have h4:=G.hi;have hm:=Nat.lt_of_lt_of_le G.m (lI (show _<=15 by omega))
 change (Jt s).m<_ at hm
 change (Jt s).nd<=_ at h1
 change ((Jt s).nd:Int)-(Jt s).dp<=_ at h3
 change (Jt s).dp<=(Jt s).nd at h4
 unfold YU;split
 .exact⟨by decide,by decide,hm⟩
 .split<;>omega
theorem qC {m:Nat}{e:Int}(hg:Gl Z22)(hm:m<1000000000000000)(h1:-15<=e)(h2:e<=0)(h:∀x:Nat,(toF x:Nat)=(if e=0 then toF (FloatKind.f64.nearest m) else kl 4 (FloatKind.f64.nearest m) (YS.getD (-e).toNat 0))->R (.T #[.float .f64 x,.bool true]) Z22):
  Spec prog 293 #[.U (m:Nat),.I e,.bool false] Z22 R:=by
 refine CH.start ⟨52,hg.bits,by decide,λx11 wO=>⟨λG=>?_,λ_=>?_⟩⟩
 .exfalso;apply G
  rw[wO];exact Int.ediv_eq_zero_of_lt (by omega) (by show(m:Int)<4503599627370496;omega)
 refine YD (v:=.float .f64 (FloatKind.f64.nearest m)) (λw=>by kernel_rfl) ⟨_,rfl,λG=>(by cases G),λ_=>CH.AEZ ⟨λh0=>h _ (by rw[Ajl h0]),λh0=>⟨λG=>by omega,λ_=>⟨λ_=>⟨λ_=>?_,λG=>absurd (by omega) G⟩,λG=>absurd (by omega) G⟩⟩⟩⟩;obtain⟨b,o,n,c,hp,hn,hl⟩:=hg.pow;refine⟨_,n,c,hp,λx60 e60=>?_⟩;have Aaj:x60=-e:=by rw[e60];simp[IntKind.wrap,IntKind.bits,IntKind.signed];omega
 have Ax:(-e).toNat<YS.length:=by show _<16;omega
 refine⟨b,o,rfl,by omega,YS.getD (-e).toNat 0,?_,tA λy hy=>⟨_,rfl,h y (by rw[Ajj h0];exact hy)⟩⟩;rw[Aaj];exact hl _ _ (by rw[Amj,Ajs Ax];rfl)
theorem wP {s:ByteArray}(hg:Gl Z22)(ht:Gv s=true)(h:∀x:Nat,((toF x:Nat):Int)=wJ s->R (.T #[.float .f64 x,.I (s.size:Nat),.nilIface]) Z22):Spec prog 268 #[.string s] Z22 R:=by
 obtain⟨h1,h2,hm⟩:=AFc ht;refine GF.start (fg ht ⟨_,_,_,rfl,λG=>(by cases G),λ_=>wN ht ⟨_,_,_,_,_,_,_,rfl,λG=>(by cases G),λ_=>⟨λG=>(by cases G),λ_=>⟨true,hg.opt,λ_=>DV.start ⟨λG=>(by cases G),λ_=>⟨_,rfl,by decide,λoz e67=>?_⟩⟩,λG=>(by cases G)⟩⟩⟩⟩);have Aak:oz=0:=by rw[e67];rfl
 subst Aak;refine⟨λh0=>λx71 e71=>.y AFb ⟨_,rfl,h _ ?_⟩,λh0=>⟨λG=>by omega,λ_=>⟨λG=>by omega,λ_=>⟨λ_=>qC hg hm h1 h2 λx hx=>⟨_,_,rfl,λ_=>h x ?_,λG=>(by cases G)⟩,λG=>(by cases G)⟩⟩⟩⟩
 .have:x71=0:=by rw[e71];decide
  rw[this];unfold wJ;rw[Ajl (by omega)];rfl
 .unfold wJ;dsimp only;rw[Ajj (by omega),hx];split<;>rfl
theorem lJ {s:ByteArray}(hg:Gl Z22)(ht:Gv s=true)(h:R (.T #[.U (wJ s),.bool true]) Z22):Spec prog 152 #[.string s] Z22 R:=by
 obtain⟨_,ALu,_⟩:=QB ht;refine Ua.start (fa (by omega) ht ⟨_,rfl,λG=>(by cases G),λ_=>I7.start (EH.start (Cj.start ⟨λG=>absurd G (by decide),λ_=>wP hg ht λx hx=>⟨_,_,_,rfl,_,_,_,rfl,λG=>absurd rfl G,λ_=>⟨_,_,rfl,false,λw _=>by kernel_rfl,λG=>(by cases G),λ_=>⟨_,_,rfl,Ic ⟨_,rfl,by rw[hx];exact h⟩⟩⟩⟩⟩))⟩)
end
def AN {α:Type}(s:Nat)(E:Hp->List Value->α->Prop)(Z0 Z22:Hp)(p:Option Addr)(n c:Nat)(xs:List α):Prop:=IT s E Z22 p n c xs/\Ext Z0 (Z22.del p)
section
variable {α:Type}{s bs:Nat}{E:Hp->List Value->α->Prop}{Z0 Z22 Z':Hp}{p:Option Addr}{n c:Nat}{xs:List α}
theorem AN.nil (G:Ext Z0 Z22):AN s E Z0 Z22 none 0 0 []:=⟨IT.nil,G⟩
theorem AN.mono (hE:Hk E)(h:AN s E Z0 Z22 p n c xs)(G:Ext Z22 Z'):AN s E Z0 Z' p n c xs:=⟨h.1.mono hE G,h.2.trans (G.del p)⟩
theorem AN.up (h:AN s E Z0 Z22 p n c xs):Ext Z0 Z22:=h.2.trans (Ext.LG _ _)
theorem AN.rd (G:Hk E)(h:AN s E Z0 Z22 p n c xs):Ae s E Z22 p n xs:=h.1.rd G
theorem AN.new (h:AN s E Z0 Z22 p n c xs)(hx:Ext Z22 Z'):Ext (Z22.new Z') (Z'.del p):=Ext.ADz (λa G=>h.1.block a G)
theorem AN.FN {P:Program}{T Et ty:TypeId}{vs:List Value}{x:α}{Φ:Value->Hp->Prop}(hE:Hk E)[KE P T Et s bs](h:AN s E Z0 Z22 p n c xs)(hl:vs.length=s)(h1:FL vs)(hx:E (Z22.del p) vs x)(hb:(n+1)*bs<=140737488355328)
  (hΦ:∀G c' Z',AN s E Z0 Z' G (n+1) c' (xs++[x])->Ext (Z22.del p) (Z'.del G)->Φ (.slice G (n+1) c') Z') {b:Nat} (hn:Z22 b=none) :
  AI P (Builtin.append_ #[T,T] ty #[.slice p n c,.slice (some ⟨b,0,none⟩) 1 1]) (Z22.set b (.cells vs.toArray Et (0,0))) Φ:=by
 obtain⟨⟨hlen,cs,ho,hc⟩,tI⟩:=h;refine ED (ho.mono (.set hn)) ⟨by rw[hl,Nat.one_mul],by omega,.inr ⟨b,0,rfl,A2.of λj v hj=>?_⟩⟩ h1 hb λG c' Z' EM Sc=>?_
 .simp[Hp.ld,Hp.AA,hj]
 .have e:Ext (Z22.del p) (Z'.del G):=((Ext.set hn).del p).trans Sc;exact hΦ G c' Z' ⟨⟨by simp[hlen],_,EM,(hc.snoc hl hx).mono hE e⟩,tI.trans e⟩ e
end
theorem DJ.one (Z22:Hp)(vs:List Value)(x:El)(h:DJ Z22 vs x):FL vs:=by
 obtain⟨p,n,c,rfl,_⟩:=h;intro u G;simp only[Ajo,Aj7,Akc]at G;rcases G with rfl|rfl<;>rfl
theorem DJ.at {Z22:Hp}{p:Option Addr}{n i:Nat}{l:List El}{x:El}(hr:Ae 2 DJ Z22 p n l)(hx:l[i]?=some x):∃b o q m d,p=some ⟨b,o,none⟩/\A2 Z22 b (o+i*2) [.slice q m d,.U x.v]/\HG Z22 q m x.ls:=by
 obtain⟨b,o,vs,hp,⟨q,m,d,rfl,h⟩,G⟩:=Ae.idx hr hx;exact⟨b,o,q,m,d,hp,G,h⟩
section
variable {Z22 Z' Z0:Hp}{R:Rr}
theorem lK {p:Option Addr}{n c:Nat}{xs:List Int}{Φ:Value->Hp->Prop}(G:DB .u8 Z22 p n xs)(h:Φ (.string (strOfNums xs)) Z22):AI prog (convert 134 9 (.slice p n c)) Z22 Φ:=by
 refine AI.pu (λw hs=>?_) h;have h1:=underlying134;have h2:=underlying9;by_cases hn:n=0
 .subst hn;have hx:xs=[]:=Aj8 G.1;subst hx;rw[run_convert_bytes_string w 134 9 _ p 0 c h1 underlying5 h2];cases p<;>simp[Conv.bytesToString,loadCells]<;>rfl
 .obtain⟨x0,tI⟩:=G.ex (k:=0) (by omega);obtain⟨b,o,rfl,_⟩:=G.at tI;refine run_convert_bytes_arg w 134 _ h1 underlying5 b o n c xs G.1 (λi hi=>?_) 9 h2;obtain⟨x,hx⟩:=G.ex hi;obtain⟨b',o',he,hl⟩:=G.at hx;cases he;have:=cell_of hs hl;simpa[Cv,hx] using this
theorem Io {p:Option Addr}{n c:Nat}{ls:List Lb}(hr:HG Z22 p n ls)(hs:BQ ls)(h:∀Z',Ext Z22 Z'->R (.returned (.string (JZ ls))) Z'):Spec prog 107 #[.slice p n c] Z22 R:=
 jT.start (fO hr hs λp' n' c' Z' G hx=>⟨_,_,_,rfl,lK (DS.rd (BL.mono (Ext.CY _ _) G)) ⟨_,rfl,h Z' hx⟩⟩)
theorem He {p:Option Addr}{n c:Nat}{ls:List Lb}(hr:HG Z22 p n ls)(hn:n<=1000000)(h:∀p' G c' Z',HG (Z22.new Z') p' G (Fc ls)->Ext Z22 Z'->R (.returned (.slice p' G c')) Z'):Spec prog 158 #[.slice p n c] Z22 R:=by
 refine cP.start λb hb=>?_;have hx:=Ext.set (o:=.cells #[(.string (ByteArray.mk #[95,95,110,97,109,101,95,95]))] 9 (0,0)) hb;refine Ls (ns:=[Eb]) (hr.mono Cg.mono hx) hn (fP (Hp.AA _ _ _)) λp' G c' Z' ho Sc=>⟨_,_,_,rfl,h p' G c' Z' ((ho.rd Cg.mono).mono Cg.mono (Ext.Cq hx)) (hx.trans Sc)⟩
theorem dG {p q:Option Addr}{n c m d:Nat}{ls:List Lb}{ns:List ByteArray}(hr:HG Z22 p n ls)(hn:n<=1000000)(hs:Fo 1 Z22 q m (ns.map .string))
  (h:∀p' n' c' Z',HG (Z22.new Z') p' n' (ka ns ls)->Ext Z22 Z'->R (.returned (.slice p' n' c')) Z'):Spec prog 161 #[.slice p n c,.slice q m d] Z22 R:=by
 refine Xu.start λb3 Uh=>?_;have G:Ext Z22 (Z22.set b3 (.cells #[.slice q m d] 125 (0,0))):=.set Uh;refine Uf (f:=208) (g:=λx=>Fa x.1 ns) IX.en (hr.mono Cg.mono G) hn (λZ' x R' hx Mx=>?_) λp' n' c' Z' ho hx=>⟨_,_,_,rfl,h p' n' c' Z' ?_ (G.trans hx)⟩
 .refine IX.start λ_=>⟨q,m,d,AJ (hx _ _ (Hp.AA _ _ _)) rfl,PY (hs.mono (G.trans hx)) ⟨_,rfl,Mx⟩⟩
 .exact(ho.rd Cg.mono).mono Cg.mono (Ext.Cq G)
theorem wR {p q:Option Addr}{n c m d:Nat}{ls:List Lb}{ns:List ByteArray}(hr:HG Z22 p n ls)(hn:n<=1000000)(hs:Fo 1 Z22 q m (ns.map .string))
  (h:∀p' G c' Z',HG (Z22.new Z') p' G (Fc (ke ns ls))->Ext Z22 Z'->R (.returned (.slice p' G c')) Z') {R':Rr} (hR:∀p' G c' Z',R (.returned (.slice p' G c')) Z'->R' (.returned (.slice p' G c')) Z') :
  Spec prog 162 #[.slice p n c,.slice q m d] Z22 (AY R' (CS λVc n15 Ta y=>Spec prog 158 #[.slice Vc n15 Ta] y (AY R' (CS λRm n16 QJ AE=>R' (.returned (.slice Rm n16 QJ)) AE)))):=by
 refine Ls hr hn hs λp' G c' Z1 ho hx=>⟨_,_,_,rfl,?_⟩;have hl:G<=n:=by
  have h1:=ho.1;have h2:=AkG (λx:Lb=>!Fa x.1 ns) ls;have h3:ls.length=n:=hr.1;omega
 refine He ((ho.rd Cg.mono).mono Cg.mono (Ext.CY _ _)) (by omega) λp2 n2 c2 Z2 Ff Ao=>⟨_,_,_,rfl,hR _ _ _ _ (h p2 n2 c2 Z2 (Ff.mono Cg.mono (Ext.Cq hx)) (hx.trans Ao))⟩
theorem Vq {n:Nd}{p q r:Option Addr}{k c m d j e:Nat}{ls:List Lb}(hr:HG Z22 r j ls)(hj:j<=1000000)(hs:Fo 1 Z22 q m (n.names.map .string))
  (h:∀p' G c' Z',HG (Z22.new Z') p' G (S9 n ls)->Ext Z22 Z'->R (.returned (.slice p' G c')) Z'):Spec prog 217 #[Qd n p k c q m d,.slice r j e] Z22 R:=by
 refine sd.start λ_=>⟨λh3=>dG hr hj hs λp' G c' Z' hZ hx=>⟨_,_,_,rfl,h p' G c' Z' ?_ hx⟩,λh3=>wR hr hj hs (λp' G c' Z' hZ hx=>h p' G c' Z' ?_ hx) λ_ _ _ _ hh=>hh⟩
 .unfold S9;rw[Ajl h3];exact hZ
 .unfold S9;rw[Ajj h3];exact hZ
theorem BQ.filter {ls:List Lb}(g:Lb->Bool)(h:BQ ls):BQ (ls.filter g):=⟨Ake (AkG _ _) h.1,λx G=>h.2 x (AlC.1 G).1⟩
theorem BQ.bare {ls:List Lb}(h:BQ ls):BQ (Fc ls):=h.filter _
theorem BQ.S9 {n:Nd}{ls:List Lb}(h:BQ ls):BQ (TwW.S9 n ls):=by
 unfold TwW.S9 ka Fc ke;split
 .exact h.filter _
 .exact(h.filter _).filter _
structure Kn (R:Rr)(Z22:Hp)(X:Option Vv):Prop where
 ok:∀x Z' p n c q m d,X=some x->Ext Z22 Z'->Ae 2 DJ Z' p n x.vec->Ae 2 X9 Z' q m x.RG->n<=c->m<=d->R (.T #[.agg #[.I x.kind,.U x.v,.slice p n c,.slice q m d],.I 0]) Z'
 no:X=none->∀Z',Ext Z22 Z'->R (.T #[.agg #[.I 0,.U 0,.N,.N],.I 223]) Z'
theorem Kn.wS {X:Option Vv}(h:Kn R Z22 X)(hx:Ext Z22 Z'):Kn R Z' X:=⟨λx G p n c q m d h0 h1 h2 h3=>h.ok x G p n c q m d h0 (hx.trans h1) h2 h3,λh0 G h1=>h.no h0 G (hx.trans h1)⟩
theorem Kn.bE {X:Option Vv}(h:Kn R Z22 X):Kn (AY R (λz y=>∃j9 kD kE kH kI kJ kK kL pH,z=(.tuple #[.agg #[.I j9,.U kD,.slice kE kH kI,.slice kJ kK kL],.I pH])/\R (.T #[.agg #[.I j9,.U kD,.slice kE kH kI,.slice kJ kK kL],.I pH]) y)) Z22 X:=
 ⟨λx Z' p n c q m d G h1 h2 h3 h4 h5=>⟨_,_,_,_,_,_,_,_,_,rfl,h.ok x Z' p n c q m d G h1 h2 h3 h4 h5⟩,λG Z' h1=>⟨_,_,_,_,_,_,_,_,_,rfl,h.no G Z' h1⟩⟩
theorem wX [GO]{p q:Option Addr}{n c m d:Nat}{v u:Int}{ls ms:List Lb}(G:HG Z22 p n ls)(hs:HG Z22 q m ms)(h:∀Z',Ext Z22 Z'->R (.returned (.I (Ay ls ms))) Z'):Spec prog 206 #[.agg #[.slice p n c,.U v],.agg #[.slice q m d,.U u]] Z22 R:=
 Qu.start λ_ _=>Kj G hs λZ' hx=>⟨_,rfl,h Z' hx⟩
end
def Sm (op:Int)(vs:List Int)(w:Int):Option Int:=
 if op=4 then some (fW vs) else if op=5 then some (YE 4 (fW vs) (Co vs.length)) else if op=6 then some (Q4 7 vs) else if op=7 then some (Q4 9 vs) else if op=8 then some (Co vs.length)
 else if op=9 then some (sv (vs.getLast?.getD 0)) else if op=10 then some (Vp vs) else if vs.length<2 then none
 else if op=3 then some (YE 2 (vs.getLast?.getD 0) (vs.head?.getD 0)) else if op=2 then some (Sk vs) else some (YE 4 (Sk vs) w)
def foldI (op:Int)(vs:List Int):Int:=if op=1 then fW vs else if op=2 then Q4 7 vs else if op=3 then Q4 9 vs else if op=4 then YE 4 (fW vs) (Co vs.length) else Co vs.length
def Pc (op a b:Int):Int×Bool:=if 1<=op/\op<=4 then(YE op a b,true) else(if ko op a b then Co 1 else Co 0,ko op a b)
def FF:Fl:={ num:=wJ,abs:=pX,floor:=fV,whole:=Co,ABo:=AIY,over:=Sm,fold:=foldI,VN:=Pc,vk:=Q3,cmpL:=Ay }
structure Uo (Z22:Hp)(ab:Nat)(ss:List Sr)(t:Int):Prop where
 YV:∃p n c,Z22.ld ⟨ab,0,none⟩=some (.slice p n c)/\Ae 2 BX Z22 p n ss
 at_:Z22.ld ⟨ab,1,none⟩=some (.I t)
theorem Uo.mono {Z22 Z':Hp}{ab:Nat}{ss:List Sr}{t:Int}(h:Uo Z22 ab ss t)(G:Ext Z22 Z'):Uo Z' ab ss t:=⟨let ⟨p,n,c,h1,h2⟩:=h.YV;⟨p,n,c,G.ld h1,h2.mono BX.mono G⟩,G.ld h.at_⟩
structure AFd (ss:List Sr):Prop where
 ris:∀s∈ss,kx s.ps
 sm:∀s∈ss,BQ s.ls
 len:ss.length<=10000000
structure ALw (n:Nd):Prop where
 mki:∀x∈n.mt,1<=x.kind/\x.kind<=4
 mv:∀x∈n.mt,x.val.size<=1000000
 back:0<=n.back/\n.back<2147483648
 width:0<=n.width/\n.width<2147483648
section
variable {Z22 Z' Z0:Hp}{R:Rr}
theorem Sn {n:Nd}{a p q l:Option Addr}{k c m d j e:Nat}(G:Gl Z22)(ht:Gv n.text=true)(h:Kn R Z22 (some ⟨1,wJ n.text,[],[]⟩)):Spec prog 129 #[.pointer a,Qd n p k c q m d,.slice l j e] Z22 R:=
 C1.start λ_ _=>lJ G ht ⟨_,_,rfl,h.ok _ Z22 none 0 0 none 0 0 rfl (.refl _) Ae.nil Ae.nil (Ajt _) (Ajt _)⟩
theorem Ju {n:Nd}{p q:Option Addr}{k c m d:Nat}{a b:Int}(h:R (.T #[.U (Pc n.op a b).1,.bool (Pc n.op a b).2]) Z22):Spec prog 168 #[Qd n p k c q m d,.U a,.U b] Z22 R:=by
 refine Ub.start λ_=>Lu ?_;unfold Pc at h;by_cases h1:1<=n.op/\n.op<=4
 .rw[Ajl h1]at h ⊢;exact⟨_,_,rfl,λ_=>h,λG=>(by cases G)⟩
 .rw[Ajj h1]at h ⊢;exact⟨_,_,rfl,λG=>(by cases G),λ_=>Lv ⟨_,_,rfl,pd ⟨_,rfl,h⟩⟩⟩
theorem Ip {α β:Type}{f:α->Option β}{xs:List α}{k:Nat}{x:α}(G:xs[k]?=some x):(xs.take (k+1)).filterMap f=(xs.take k).filterMap f++(f x).toList:=by
 rw[AU G,List.filterMap_append];cases h:f x<;>simp[List.filterMap_cons,h]
theorem lL {n:Nd}{p q l:Option Addr}{k c m d j e ab:Nat}{ss:List Sr}{t:Int}(hA:Uo Z22 ab ss t)(hg:Gl Z22)(hm:Ae 3 Js Z22 p k n.mt)(hS:AFd ss)(hN:ALw n)(ht:-4611686018427387904<=t/\t<=4611686018427387904)
  (h:Kn R Z22 (some ⟨2,0,fR FF n ss t,[]⟩)):Spec prog 130 #[.pointer (some ⟨ab,0,none⟩),Qd n p k c q m d,.slice l j e] Z22 R:=by
 obtain⟨pss,VR,css,Dy,hr⟩:=hA.YV;have hl:ss.length=VR:=hr.1;have hlen:=hS.len;have hb:=hN.back
 let f:Sr->Option El:=λs=>match (IG s.ps (t-n.back-300) (t-n.back)).getLast? with
  | none=>none
  | some p=>if p.2=MY\/FF.vk n.mt s.ls=false then none else some ⟨s.ls,p.2⟩
 have hf:fR FF n ss t=ss.filterMap f:=rfl;rw[hf]at h;refine A6.start λ_ _ _=>⟨ab,0,rfl,pss,VR,css,Dy,?_⟩
 suffices H:∀g i:Nat,∀p8 n8 c8 Z',VR-i=g->i<=VR->AN 2 DJ Z22 Z' p8 n8 c8 ((ss.take i).filterMap f)->A6.A4 R (aD ab 0) n.kind n.op n.text p k c n.width n.back n.GU q m d n.bool n.parts 0 0 none 0 0 none 0 0 2 0 p8 n8 c8 none 0 0 pss VR css VR i Z' from H VR 0 none 0 0 Z22 rfl (Ajy _) (AN.nil (.refl _))
 intro g
 induction g with
 | zero=>
  intro i p8 n8 c8 Z' hgi hi G;rw[Ajq (by omega)]at G;exact A6.AX ⟨λAx=>by omega,λ_=>h.ok _ Z' p8 n8 c8 none 0 0 rfl G.up (G.rd DJ.mono) Ae.nil (by obtain⟨cs,TA,_⟩:=G.1.2;exact BL.cap TA) (Ajt _)⟩
 | succ g ih=>
  intro i p8 n8 c8 Z' hgi hi G;have CO:i<VR:=by omega
  obtain⟨s,hs⟩:=hr.ex CO;obtain⟨b,o,p1,n1,c1,q1,m1,d1,rfl,Vn,h1,h2,h3⟩:=BX.at hr hs;have jD:=hS.sm s (Aju hs);have ALy:=hS.ris s (Aju hs);have hx:=G.up;have Qf:n8<=i:=by
   have:=G.1.1;have h9:=AkX f (ss.take i);rw[AkA]at h9;omega
  have next:∀p9 n9 c9 Z2,AN 2 DJ Z22 Z2 p9 n9 c9 ((ss.take i).filterMap f++(f s).toList)->A6.HQ R (aD ab 0) n.kind n.op n.text p k c n.width n.back n.GU q m d n.bool n.parts 0 0 none 0 0 none 0 0 2 0 p9 n9 c9 none 0 0 (aD b o) VR css VR i Z2:=λp9 n9 c9 Z2 B6=>
   A6.DZ ⟨AO CO hr.big,ih (i+1) _ _ _ _ (by omega) (by omega) (by rw[Ip hs];exact B6)⟩
  refine A6.AX ⟨λ_=>⟨b,o,rfl,by omega,p1,n1,c1,q1,m1,d1,by simpa using Vn.mono hx,λ_=>⟨ab,0,rfl,t,hx.ld hA.at_,by unfold AL;omega,by unfold AL;omega,t,hx.ld hA.at_,by unfold AL;omega,Um (h2.mono DX.mono hx) h3 ALy λq2 m2 d2 Ff lM=>⟨q2,m2,d2,rfl,λh0=>?_,λh0=>?_⟩⟩⟩,λhh=>by omega⟩
  .refine next _ _ _ _ ?_
   have e:f s=none:=by
    show(match (IG s.ps (t-n.back-300) (t-n.back)).getLast? with | none=>none | some p=>_)=none
    have iI:(IG s.ps (t-n.back-300) (t-n.back)).length=m2:=Ff.1;rw[AkV.1 (show(IG s.ps (t-n.back-300) (t-n.back)).length=0 by omega)];rfl
   rw[e];simpa using G
  have iI:(IG s.ps (t-n.back-300) (t-n.back)).length=m2:=Ff.1;obtain⟨y,hy⟩:=Ff.ex (k:=m2-1) (by omega);obtain⟨b2,o2,rfl,fU⟩:=DX.at Ff hy;have e1:Int.toNat ((m2:Int)-1)=m2-1:=by omega
  have RV:=Ff.big;have AT1:(IG s.ps (t-n.back-300) (t-n.back)).getLast?=some y:=by rw[AlM,iI,hy]
  have ef:f s=if y.2=MY\/Q3 n.mt s.ls=false then none else some ⟨s.ls,y.2⟩:=by
   show(match (IG s.ps (t-n.back-300) (t-n.back)).getLast? with | none=>none | some p=>_)=_
   rw[AT1];rfl
  refine⟨by unfold AL;omega,b2,o2,rfl,by omega,y.2,by rw[e1];exact fU.2.1,λCA=>?_,λCA=>dF ((hg.mono hx)) (hm.mono Js.mono hx) (h1.mono Cg.mono hx) hN.mv (λx hx=>by have:=(jD.2 x hx).2;omega) hN.mki λZ2 Ao=>⟨_,rfl,λhf=>?_,λhtr=>?_⟩⟩
  .refine next _ _ _ _ ?_
   rw[ef,Ajl (.inl CA)];simpa using G
  .refine next _ _ _ _ ?_
   rw[ef,Ajl (.inr hf)];simpa using G.mono DJ.mono Ao
  .refine⟨by unfold AL;omega,by omega,y.2,by rw[e1];exact Ao.ld fU.2.1,λb73 ALz=>?_⟩;have B6:=G.mono DJ.mono Ao;have he:DJ (Z2.del p8) [.slice p1 n1 c1,.U y.2] ⟨s.ls,y.2⟩:=⟨p1,n1,c1,rfl,h1.mono Cg.mono B6.2⟩;refine AN.FN DJ.mono B6 rfl (DJ.one _ _ _ he) he (by omega) (λp' c' Z3 Di _=>⟨_,_,_,rfl,next _ _ _ _ ?_⟩) ALz;rw[ef,Ajj (by
     rintro(h5|h5)
     .exact CA h5
     .rw[htr]at h5;cases h5)]
   exact Di
theorem BL.ACC {s:Nat}{p q:Option Addr}{n c:Nat}{cs:List Value}(G:BL s Z22 q n c cs)(h:∀a,q=some a->∀a',p=some a'->a.block≠a'.block):BL s (Z22.del p) q n c cs:=
 ⟨G.1,G.2.1,G.2.2.imp id λ⟨b',o',arr,T,hp,hb,r⟩=>⟨b',o',arr,T,hp,Aq.2 ⟨λa' tJ=>h _ hp a' tJ,hb⟩,r⟩⟩
theorem AN.sep {α:Type}{s:Nat}{E:Hp->List Value->α->Prop}{p q:Option Addr}{n c m d:Nat}{xs:List α}{ys:List Int}(h:AN s E Z0 Z22 p n c xs)(g:AN 1 (FK .u64) Z22 Z' q m d ys):DB .u64 (Z'.del p) q m ys/\m<=d:=by
 obtain⟨⟨_,cs,ho,hc⟩,hx⟩:=g;have hp:=h.1.block;refine⟨?_,BL.cap ho⟩;have RD:=nL.1 hc;subst RD;refine DB.eD (BL.rd (BL.ACC ho λa ha a' tJ e=>?_));cases G:Z22 a'.block with
 | none=>exact hp a' tJ G
 | some u=>exact(Aq.1 (hx _ _ G)).1 a ha e.symm
theorem X9.one (Z22:Hp)(vs:List Value)(x:Rg)(h:X9 Z22 vs x):FL vs:=by
 obtain⟨p,n,c,q,m,d,rfl,_⟩:=h;intro u G;simp only[Ajo,Aj7,Akc]at G;rcases G with rfl|rfl<;>rfl
theorem qD {n:Nd}{p q l:Option Addr}{k c m d j e ab:Nat}{ss:List Sr}{t:Int}(hA:Uo Z22 ab ss t)(hg:Gl Z22)(hm:Ae 3 Js Z22 p k n.mt)(hS:AFd ss)(hN:ALw n)(ht:-4611686018427387904<=t/\t<=4611686018427387904)(hpl:∀s∈ss,s.ps.length<=1000000000)
  (h:Kn R Z22 (some ⟨3,Co n.width,[],pR FF n ss t⟩)):Spec prog 131 #[.pointer (some ⟨ab,0,none⟩),Qd n p k c q m d,.slice l j e] Z22 R:=by
 obtain⟨pss,VR,css,Dy,hr⟩:=hA.YV;have hl:ss.length=VR:=hr.1;have hlen:=hS.len;have hb:=hN.back;have hw:=hN.width
 let fv:Sr->List Int:=λs=>((IG s.ps (t-n.back-n.width) (t-n.back)).filter λp=>decide (p.2≠MY)).map Prod.snd
 let f:Sr->Option Rg:=λs=>bif !(fv s).isEmpty&&FF.vk n.mt s.ls then some ⟨s.ls,fv s⟩ else none
 have hf:pR FF n ss t=ss.filterMap f:=rfl;rw[hf]at h;refine Ah.start λ_ _=>Lw ⟨_,rfl,λ_=>⟨ab,0,rfl,pss,VR,css,Dy,?_⟩⟩
 suffices H:∀g i:Nat,∀p8 n8 c8 Z',VR-i=g->i<=VR->AN 2 X9 Z22 Z' p8 n8 c8 ((ss.take i).filterMap f)->Ah.A4 R (aD ab 0) n.kind n.op n.text p k c n.width n.back n.GU q m d n.bool n.parts 0 0 none 0 0 none 0 0 3 (Co n.width) none 0 0 p8 n8 c8 pss VR css VR i Z' from H VR 0 none 0 0 Z22 rfl (Ajy _) (AN.nil (.refl _))
 intro g
 induction g with
 | zero=>
  intro i p8 n8 c8 Z' hgi hi ho;rw[Ajq (by omega)]at ho;exact Ah.AX ⟨λAx=>by omega,λ_=>h.ok _ Z' none 0 0 p8 n8 c8 rfl ho.up Ae.nil (ho.rd X9.mono) (Ajt _) (by obtain⟨cs,TA,_⟩:=ho.1.2;exact BL.cap TA)⟩
 | succ g ih=>
  intro i p8 n8 c8 Z' hgi hi ho;have CO:i<VR:=by omega
  obtain⟨s,hs⟩:=hr.ex CO;obtain⟨b,o,p1,n1,c1,q1,m1,d1,rfl,Vn,h1,h2,h3⟩:=BX.at hr hs;have jD:=hS.sm s (Aju hs);have ALy:=hS.ris s (Aju hs);have Agu:=hpl s (Aju hs);have hx:=ho.up;have Qf:n8<=i:=by
   have:=ho.1.1;have h9:=AkX f (ss.take i);rw[AkA]at h9;omega
  have next:∀p9 n9 c9 Z2,AN 2 X9 Z22 Z2 p9 n9 c9 ((ss.take i).filterMap f++(f s).toList)->Ah.QW R (aD ab 0) n.kind n.op n.text p k c n.width n.back n.GU q m d n.bool n.parts 0 0 none 0 0 none 0 0 3 (Co n.width) none 0 0 p9 n9 c9 (aD b o) VR css VR i Z2:=λp9 n9 c9 Z2 G=>
   Ah.LV ⟨AO CO hr.big,ih (i+1) _ _ _ _ (by omega) (by omega) (by rw[Ip hs];exact G)⟩
  refine Ah.AX ⟨λ_=>⟨b,o,rfl,by omega,p1,n1,c1,q1,m1,d1,by simpa using Vn.mono hx,λ_=>⟨ab,0,rfl,t,hx.ld hA.at_,by unfold AL;omega,by unfold AL;omega,t,hx.ld hA.at_,by unfold AL;omega,Um (h2.mono DX.mono hx) h3 ALy λq2 m2 d2 Ff lM=>⟨q2,m2,d2,rfl,?_⟩⟩⟩,λhh=>by omega⟩;have iI:(IG s.ps (t-n.back-n.width) (t-n.back)).length=m2:=Ff.1;have hm2:m2<=1000000000:=by
   have:=AkG (λp:Int×Int=>decide (t-n.back-n.width<p.1)&&decide (p.1<=t-n.back)) s.ps;rw[<-iI];unfold IG;omega
  have hfv:fv s=((IG s.ps (t-n.back-n.width) (t-n.back)).filter λp=>decide (p.2≠MY)).map Prod.snd:=rfl;generalize IG s.ps (t-n.back-n.width) (t-n.back)=ps at *
  let gv:Pt->Option Int:=λp=>if p.2≠MY then some p.2 else none
  have hgv:∀l:List Pt,((l.filter λp=>decide (p.2≠MY)).map Prod.snd)=l.filterMap gv:=λl=>by
   induction l with
   | nil=>rfl
   | cons a l ih=>
    by_cases ha:a.2≠MY
    .rw[Ak3 (by simpa using ha),AkR,ih,List.filterMap_cons_some (by show(if a.2≠MY then some a.2 else none)=some a.2;rw[Ajl ha])]
    .rw[Ak4 (by simpa using ha),ih,List.filterMap_cons_none (by show(if a.2≠MY then some a.2 else none)=none;rw[Ajj ha])]
  rw[hgv]at hfv
  suffices H2:∀g2 i2:Nat,∀q2' Mu n11 Mv Z2,(0<m2->q2'=q2)->m2-i2=g2->i2<=m2->AN 1 (FK .u64) Z' Z2 Mu n11 Mv ((ps.take i2).filterMap gv)->Ah.Kb R (aD ab 0) n.kind n.op n.text p k c n.width n.back n.GU q m d n.bool n.parts 0 0 none 0 0 none 0 0 3 (Co n.width) none 0 0 p8 n8 c8 p1 n1 c1 q1 m1 d1 Mu n11 Mv (aD b o) VR css VR i q2' m2 d2 m2 i2 Z2 from H2 m2 0 q2 none 0 0 Z' (λ_=>rfl) rfl (Ajy _) (AN.nil (.refl _))
  intro g2
  induction g2 with
  | zero=>
   intro i2 q2' Mu n11 Mv Z2 hq mu hi2 G;rw[Ajq (by omega),<-hfv]at G;have hlv:(fv s).length=n11:=G.1.1;have TA:=ho.mono X9.mono G.up;refine Ah.Jl ⟨λAx=>by omega,λ_=>⟨λIs=>dF (hg.mono (hx.trans G.up)) (hm.mono Js.mono (hx.trans G.up)) (h1.mono Cg.mono (hx.trans G.up)) hN.mv (λx hx=>by have:=(jD.2 x hx).2;omega) hN.mki λZ3 CE=>⟨_,rfl,λhtr=>?_,λhfa=>?_⟩,λIs=>?_⟩⟩
   .intro b77 Aam;obtain⟨hv1,hv2⟩:=ho.sep (G.mono (FK.mono _) CE);have Di:=TA.mono X9.mono CE;have he:X9 (Z3.del p8) [.slice p1 n1 c1,.slice Mu n11 Mv] ⟨s.ls,fv s⟩:=⟨p1,n1,c1,Mu,n11,Mv,rfl,h1.mono Cg.mono Di.2,hv1,hv2⟩;refine AN.FN X9.mono Di rfl (X9.one _ _ _ he) he (by omega) (λp' c' Z4 Hy _=>⟨_,_,_,rfl,next _ _ _ _ ?_⟩) Aam;have ef:f s=some ⟨s.ls,fv s⟩:=by
     show(bif !(fv s).isEmpty&&Q3 n.mt s.ls then some _ else none)=_
     rw[htr];cases hfe:fv s with
     | nil=>rw[hfe]at hlv;simp at hlv;omega
     | cons a l=>rfl
    rw[ef];exact Hy
   .refine next _ _ _ _ ?_
    have ef:f s=none:=by
     show(bif !(fv s).isEmpty&&Q3 n.mt s.ls then some _ else none)=_
     rw[hfa,Akx];rfl
    rw[ef];simpa using TA.mono X9.mono CE
   .refine next _ _ _ _ ?_
    have ef:f s=none:=by
     show(bif !(fv s).isEmpty&&Q3 n.mt s.ls then some _ else none)=_
     rw[AkV.1 (show(fv s).length=0 by omega)];rfl
    rw[ef];simpa using TA
  | succ g2 ih2=>
   intro i2 q2' Mu n11 Mv Z2 hq mu hi2 G;have AT4:i2<m2:=by omega
   obtain⟨y,hy⟩:=Ff.ex AT4;obtain⟨b2,o2,si,fU⟩:=DX.at Ff hy;have AFf:n11<=i2:=by
    have:=G.1.1;have h9:=AkX gv (ps.take i2);rw[AkA]at h9;omega
   rw[hq (by omega),si];have nx:∀p9 n9 c9 Z3,AN 1 (FK .u64) Z' Z3 p9 n9 c9 ((ps.take i2).filterMap gv++(gv y).toList)->Ah.AEb R (aD ab 0) n.kind n.op n.text p k c n.width n.back n.GU q m d n.bool n.parts 0 0 none 0 0 none 0 0 3 (Co n.width) none 0 0 p8 n8 c8 p1 n1 c1 q1 m1 d1 p9 n9 c9 (aD b o) VR css VR i (aD b2 o2) m2 d2 m2 i2 Z3:=λp9 n9 c9 Z3 Di=>
    Ah.AEf ⟨AO AT4 Ff.big,ih2 (i2+1) _ _ _ _ _ (λ_=>si.symm) (by omega) (by omega) (by rw[Ip hy];exact Di)⟩
   refine Ah.Jl ⟨λ_=>⟨b2,o2,rfl,by omega,y.1,y.2,by simpa using fU.mono G.up,λ_=>⟨λAv=>λb58 Aan=>?_,λheq=>nx _ _ _ _ ?_⟩⟩,λhh=>by omega⟩
   .refine AN.FN (FK.mono _) G (vs:=[.U y.2]) (x:=y.2) rfl (λu hu=>by rw[Ajp]at hu;subst hu;rfl) rfl (by omega) (λp' c' Z4 Hy _=>⟨_,_,_,rfl,nx _ _ _ _ ?_⟩) Aan;rw[show gv y=some y.2 from Ajl Av];exact Hy
   .rw[show gv y=none from Ajj (by simpa using heq)];simpa using G
end
def fnT:List (Nat×Nat):=[(235,203),(235,201),(235,199),(233,163),(233,166),(233,164),(233,165),(233,167),(233,195),(233,197)]
def YW (Z22:Hp)(fb:Nat):Prop:=∀i g f,fnT[i]?=some (g,f)->∃b T,Z22.ld ⟨fb,i+1,none⟩=some (.func (.func g) #[] #[.pointer (aD b 0)])/\Z22 b=some (.cells #[.func (.func f) #[] #[]] T (0,0))
theorem YW.mono {Z22 Z':Hp}{fb:Nat}(h:YW Z22 fb)(G:Ext Z22 Z'):YW Z' fb:=λi g f hi=>let ⟨b,T,h1,h2⟩:=h i g f hi;⟨b,T,G.ld h1,G _ _ h2⟩
section
variable {Z22 Z' Z0:Hp}{R:Rr}
theorem YX (h:∀fb Z',YW (Z22.new Z') fb->Ext Z22 Z'->R (.returned (.slice (aD fb 0) 11 11)) Z'):Spec prog 159 #[] Z22 R:=by
 refine PS.start ?_;refine DW.start λb1 h1=>⟨_,_,_,rfl,?_⟩;refine DW.start λb2 h2=>⟨_,_,_,rfl,?_⟩;refine DW.start λb3 h3=>⟨_,_,_,rfl,?_⟩;refine DW.start λb4 h4=>⟨_,_,_,rfl,?_⟩;refine DW.start λb5 h5=>⟨_,_,_,rfl,?_⟩;refine DW.start λb6 h6=>⟨_,_,_,rfl,?_⟩;refine DW.start λb7 h7=>⟨_,_,_,rfl,?_⟩;refine SF.start λb8 h8=>⟨_,_,_,rfl,?_⟩;refine SF.start λb9 h9=>⟨_,_,_,rfl,?_⟩;refine SF.start λDk MX=>⟨_,_,_,rfl,?_⟩;intro fb G;have x10:=Ext.set (o:=.cells #[.nilFunc,.func (.func 235) #[] #[.pointer (aD Dk 0)],.func (.func 235) #[] #[.pointer (aD b9 0)],.func (.func 235) #[] #[.pointer (aD b8 0)],.func (.func 233) #[] #[.pointer (aD b1 0)],.func (.func 233) #[] #[.pointer (aD b2 0)],.func (.func 233) #[] #[.pointer (aD b3 0)],.func (.func 233) #[] #[.pointer (aD b4 0)],.func (.func 233) #[] #[.pointer (aD b5 0)],.func (.func 233) #[] #[.pointer (aD b6 0)],.func (.func 233) #[] #[.pointer (aD b7 0)]] 240 (0,0)) G;have MK:=x10 _ _ (Hp.AA _ Dk _);have x9:=(Ext.set MX).trans x10;have c9:=x9 _ _ (Hp.AA _ b9 _);have x8:=(Ext.set h9).trans x9;have c8:=x8 _ _ (Hp.AA _ b8 _);have x7:=(Ext.set h8).trans x8;have c7:=x7 _ _ (Hp.AA _ b7 _);have x6:=(Ext.set h7).trans x7;have c6:=x6 _ _ (Hp.AA _ b6 _);have x5:=(Ext.set h6).trans x6;have c5:=x5 _ _ (Hp.AA _ b5 _);have x4:=(Ext.set h5).trans x5;have c4:=x4 _ _ (Hp.AA _ b4 _);have x3:=(Ext.set h4).trans x4;have c3:=x3 _ _ (Hp.AA _ b3 _);have x2:=(Ext.set h3).trans x3;have c2:=x2 _ _ (Hp.AA _ b2 _);have x1:=(Ext.set h2).trans x2;have c1:=x1 _ _ (Hp.AA _ b1 _);have x0:=(Ext.set h1).trans x1;have n1:Z22 b1=none:=h1;have z1:=Ext.set (o:=.cells #[.func (.func 163) #[] #[]] 246 (0,0)) h1;have n2:Z22 b2=none:=A7 z1 h2;have z2:=z1.trans (Ext.set (o:=.cells #[.func (.func 166) #[] #[]] 246 (0,0)) h2);have n3:Z22 b3=none:=A7 z2 h3;have z3:=z2.trans (Ext.set (o:=.cells #[.func (.func 164) #[] #[]] 246 (0,0)) h3);have n4:Z22 b4=none:=A7 z3 h4;have z4:=z3.trans (Ext.set (o:=.cells #[.func (.func 165) #[] #[]] 246 (0,0)) h4);have n5:Z22 b5=none:=A7 z4 h5;have z5:=z4.trans (Ext.set (o:=.cells #[.func (.func 167) #[] #[]] 246 (0,0)) h5);have n6:Z22 b6=none:=A7 z5 h6;have z6:=z5.trans (Ext.set (o:=.cells #[.func (.func 195) #[] #[]] 246 (0,0)) h6);have n7:Z22 b7=none:=A7 z6 h7;have z7:=z6.trans (Ext.set (o:=.cells #[.func (.func 197) #[] #[]] 246 (0,0)) h7);have n8:Z22 b8=none:=A7 z7 h8;have z8:=z7.trans (Ext.set (o:=.cells #[.func (.func 199) #[] #[]] 280 (0,0)) h8);have n9:Z22 b9=none:=A7 z8 h9;have z9:=z8.trans (Ext.set (o:=.cells #[.func (.func 201) #[] #[]] 280 (0,0)) h9);have n10:Z22 Dk=none:=A7 z9 MX;have z10:=z9.trans (Ext.set (o:=.cells #[.func (.func 203) #[] #[]] 280 (0,0)) MX);have nf:Z22 fb=none:=A7 z10 G;refine h fb _ (λi g f hi=>?_) x0;clear x0 x1 x2 x3 x4 x5 x6 x7 x8 x9 x10 z1 z2 z3 z4 z5 z6 z7 z8 z9 z10
 match i,hi with
 | 0,hi=>cases hi;exact⟨Dk,_,AJ (Af.2 ⟨nf,Hp.AA _ _ _⟩) rfl,Af.2 ⟨n10,MK⟩⟩
 | 1,hi=>cases hi;exact⟨b9,_,AJ (Af.2 ⟨nf,Hp.AA _ _ _⟩) rfl,Af.2 ⟨n9,c9⟩⟩
 | 2,hi=>cases hi;exact⟨b8,_,AJ (Af.2 ⟨nf,Hp.AA _ _ _⟩) rfl,Af.2 ⟨n8,c8⟩⟩
 | 3,hi=>cases hi;exact⟨b1,_,AJ (Af.2 ⟨nf,Hp.AA _ _ _⟩) rfl,Af.2 ⟨n1,c1⟩⟩
 | 4,hi=>cases hi;exact⟨b2,_,AJ (Af.2 ⟨nf,Hp.AA _ _ _⟩) rfl,Af.2 ⟨n2,c2⟩⟩
 | 5,hi=>cases hi;exact⟨b3,_,AJ (Af.2 ⟨nf,Hp.AA _ _ _⟩) rfl,Af.2 ⟨n3,c3⟩⟩
 | 6,hi=>cases hi;exact⟨b4,_,AJ (Af.2 ⟨nf,Hp.AA _ _ _⟩) rfl,Af.2 ⟨n4,c4⟩⟩
 | 7,hi=>cases hi;exact⟨b5,_,AJ (Af.2 ⟨nf,Hp.AA _ _ _⟩) rfl,Af.2 ⟨n5,c5⟩⟩
 | 8,hi=>cases hi;exact⟨b6,_,AJ (Af.2 ⟨nf,Hp.AA _ _ _⟩) rfl,Af.2 ⟨n6,c6⟩⟩
 | 9,hi=>cases hi;exact⟨b7,_,AJ (Af.2 ⟨nf,Hp.AA _ _ _⟩) rfl,Af.2 ⟨n7,c7⟩⟩
theorem ACD {p:Option Addr}{m c:Nat}{vs:List Int}(G:DB .u64 Z22 p m vs)(h0:0<m)(h:R (.returned (.U (sv (vs.getLast?.getD 0)))) Z22):Spec prog 195 #[.slice p m c] Z22 R:=by
 have hl:vs.length=m:=G.1;have RV:=G.big;obtain⟨z,hz⟩:=G.ex (k:=m-1) (by omega);obtain⟨b,o,rfl,hlz⟩:=DB.at G hz;rw[AlM,hl,hz]at h;exact Ev.start ⟨by unfold AL;omega,b,o,rfl,by omega,z,by rw[show Int.toNat ((m:Int)-1)=m-1 by omega];exact hlz,H0 ⟨_,rfl,h⟩⟩
theorem ACE {p q:Option Addr}{m c j e:Nat}{vs:List Int}(G:DB .u64 Z22 p m vs)(h0:0<m)(h:R (.returned (.U (YE 2 (vs.getLast?.getD 0) (vs.head?.getD 0)))) Z22):Spec prog 199 #[.slice p m c,.slice q j e] Z22 R:=by
 have hl:vs.length=m:=G.1;have RV:=G.big;obtain⟨z,hz⟩:=G.ex (k:=m-1) (by omega);obtain⟨y,hy⟩:=G.ex (k:=0) (by omega);obtain⟨b,o,rfl,hlz⟩:=DB.at G hz;obtain⟨_,_,he,fU⟩:=DB.at G hy;cases he;rw[AlM,hl,hz,Alo,hy]at h;exact Ei.start ⟨by unfold AL;omega,b,o,rfl,by omega,z,by rw[show Int.toNat ((m:Int)-1)=m-1 by omega];exact hlz,by omega,y,by simpa using fU,ks ⟨_,rfl,h⟩⟩
theorem wY {n:Nd}{p q r:Option Addr}{k c m d lb lo j e fb u v:Nat}{vs:List Int}{w:Int}(ho:1<=n.op/\n.op<=10)(hF:YW Z22 fb)(hr:DB .u64 Z22 r u vs)(h0:0<u)(hc:u<=v)(hj:0<j)(hw:Z22.ld ⟨lb,lo+1,none⟩=some (.U w))
  (h:∀x ok Z',(Sm n.op vs w=some x/\ok=true\/Sm n.op vs w=none/\ok=false)->Ext Z22 Z'->R (.T #[.U x,.bool ok]) Z') :
  ∃v58,Hp.ld Z22 ⟨fb,(0+Int.toNat n.op*1),none⟩=some v58/\∃(f63:Nat) (NU NV:Array Value),v58=.func (.func f63) NU NV/\Enters prog f63/\Spec prog f63 (NU++#[.slice r u v,Qd n p k c q m d,.slice (some ⟨lb,lo,none⟩) j e]++NV) Z22 R:=by
 have hl:vs.length=u:=hr.1;have G:∀(i f:Nat) (x:Int),n.op=i+1->fnT[i]?=some (233,f)->Sm n.op vs w=some x->Enters prog f->(∀R':Rr,(∀Z',Ext Z22 Z'->R' (.returned (.U x)) Z')->Spec prog f #[.slice r u v] Z22 R')->
   ∃v58,Hp.ld Z22 ⟨fb,(0+Int.toNat n.op*1),none⟩=some v58/\∃(f63:Nat) (NU NV:Array Value),v58=.func (.func f63) NU NV/\Enters prog f63/\Spec prog f63 (NU++#[.slice r u v,Qd n p k c q m d,.slice (some ⟨lb,lo,none⟩) j e]++NV) Z22 R:=λi f x hi hf hx KQ hs=>by
  obtain⟨b,T,h1,h2⟩:=hF i _ _ hf;refine⟨_,by rw[show 0+Int.toNat n.op*1=i+1 by omega];exact h1,233,#[],#[.pointer (aD b 0)],rfl,Hg.en,Hg.start λ_=>⟨_,AJ h2 rfl,f,#[],#[],rfl,KQ,hs _ λZ' Sc=>⟨_,rfl,h x true Z' (.inl ⟨hx,rfl⟩) Sc⟩⟩⟩
 have two:∀(i f:Nat) (x:Int),n.op=i+1->fnT[i]?=some (235,f)->(Sm n.op vs w=if vs.length<2 then none else some x)->Enters prog f->(2<=u->∀R':Rr,R' (.returned (.U x)) Z22->Spec prog f #[.slice r u v,.slice (some ⟨lb,lo,none⟩) j e] Z22 R')->
   ∃v58,Hp.ld Z22 ⟨fb,(0+Int.toNat n.op*1),none⟩=some v58/\∃(f63:Nat) (NU NV:Array Value),v58=.func (.func f63) NU NV/\Enters prog f63/\Spec prog f63 (NU++#[.slice r u v,Qd n p k c q m d,.slice (some ⟨lb,lo,none⟩) j e]++NV) Z22 R:=λi f x hi hf hx KQ hs=>by
  obtain⟨b,T,h1,h2⟩:=hF i _ _ hf;refine⟨_,by rw[show 0+Int.toNat n.op*1=i+1 by omega];exact h1,235,#[],#[.pointer (aD b 0)],rfl,Ln.en,Ln.start λ_=>⟨λAx=>h 0 false Z22 (.inr ⟨by rw[hx,Ajl (by omega)],rfl⟩) (.refl _),λRU=>⟨_,AJ h2 rfl,f,#[],#[],rfl,KQ,hs (by omega) _ ⟨_,rfl,h x true Z22 (.inl ⟨by rw[hx,Ajj (by omega)],rfl⟩) (.refl _)⟩⟩⟩⟩
 have ACA:n.op=1\/n.op=2\/n.op=3\/n.op=4\/n.op=5\/n.op=6\/n.op=7\/n.op=8\/n.op=9\/n.op=10:=by omega
 rcases ACA with e1|e1|e1|e1|e1|e1|e1|e1|e1|e1
 .exact two 0 _ (YE 4 (Sk vs) w) e1 rfl (by rw[e1];rfl) Ej.en λh2 R' Mx=>Ej.start ⟨lb,lo,rfl,by omega,w,hw,YI hr h0 ⟨_,rfl,Kp.TI (.refl _),kt ⟨_,rfl,Mx⟩⟩⟩
 .exact two 1 _ (Sk vs) e1 rfl (by rw[e1];rfl) Ez.en λh2 R' Mx=>Ez.start (YI hr h0 ⟨_,rfl,Mx⟩)
 .exact two 2 _ (YE 2 (vs.getLast?.getD 0) (vs.head?.getD 0)) e1 rfl (by rw[e1];rfl) Ei.en λh2 R' Mx=>ACE hr h0 Mx
 .exact G 3 _ (fW vs) e1 rfl (by rw[e1];rfl) Ht.en λR' Mx=>YG hr h0 hc (Mx Z22 (.refl _))
 .exact G 4 _ (YE 4 (fW vs) (Co vs.length)) e1 rfl (by rw[e1];rfl) Gi.en λR' Mx=>Si hr h0 hc (by rw[<-hl];exact Mx Z22 (.refl _))
 .exact G 5 _ (Q4 7 vs) e1 rfl (by rw[e1];rfl) I6.en λR' Mx=>YH hr h0 hc (Mx Z22 (.refl _))
 .exact G 6 _ (Q4 9 vs) e1 rfl (by rw[e1];rfl) FW.en λR' Mx=>Q5 hr h0 hc (Mx Z22 (.refl _))
 .exact G 7 _ (Co vs.length) e1 rfl (by rw[e1];rfl) Ix.en λR' Mx=>RY (by rw[<-hl];exact Mx Z22 (.refl _))
 .exact G 8 _ (sv (vs.getLast?.getD 0)) e1 rfl (by rw[e1];rfl) Ev.en λR' Mx=>ACD hr h0 (Mx Z22 (.refl _))
 .exact G 9 _ (Vp vs) e1 rfl (by rw[e1];rfl) CR.en λR' Mx=>bD hr h0 hc Mx
end
theorem Spec.AL0 {P:Program}{f:FuncId}{args:Array Value}{R:Ending->Prop}{Z0:Hp}(h:@Spec ⟨True⟩ P f args Z0 (λe Z'=>R e/\Ext Z0 Z')){w:World}(hs:Sat Z0 w):
  Calls P f args w (λe G=>R e/\∃q os,G={ w with heap:=w.heap++os,drawn:=w.drawn+q }):=by
 refine(h w (λb=>b<w.heap.size/\Z0 b=none) hs (λb hb=>hb)).mono ?_
 rintro e G ⟨Z22,⟨hr,hx⟩,hf⟩
 refine⟨hr,?_⟩;obtain⟨h1,h2,h30⟩:=@Fin.os ⟨True⟩ _ _ _ _ hf;have hfp:=@Fin.BM ⟨True⟩ _ _ _ _ hf;have hfs:=@Fin.sat ⟨True⟩ _ _ _ _ hf;have hfg:=@Fin.grow ⟨True⟩ _ _ _ _ hf;have hfo:=@Fin.out ⟨True⟩ _ _ _ _ hf;obtain⟨q,h3⟩:=h30 trivial;refine⟨q,G.heap.extract w.heap.size G.heap.size,?_⟩;have hh:G.heap=w.heap++G.heap.extract w.heap.size G.heap.size:=by
  apply Array.ext_getElem?
  intro i;rw[AlW];split
  .rename_i hi;cases hσ:Z0 i with
   | none=>exact(hfp i ⟨hi,hσ⟩).2
   | some o=>exact(hfs i o (hx i o hσ)).trans (hs i o hσ).symm
  .rename_i hi;rw[Amy];have:=hfg;split
   .congr 1;omega
   .rename_i h2;exact Al8 (by omega)
 cases w with
 | mk heap tape drawn os output=>
  cases G with
  | mk AeM AeN Aap os' AWK=>
   have h4:=hfo;simp only at h1 h2 h3 h4 hh ⊢;subst h1 h2 h3 h4;rw[<-hh]
theorem YY {α:Type}{enc:α->List Value}{k:Nat}(hk:∀x,(enc x).length=k)(h0:0<k):∀(xs:List α) (j:Nat),(xs.flatMap enc)[j]?=(xs[j/k]?).bind λx=>(enc x)[j%k]?
 | [],j=>by simp
 | x::xs,j=>by
  rw[Ala,Ak5,hk];by_cases G:j<k
  .rw[Ajl G,Nat.div_eq_of_lt G,Nat.mod_eq_of_lt G];simp
  .rw[Ajj G,YY hk h0 xs,show j/k=(j-k)/k+1 by rw[<-Nat.add_div_right _ h0];congr 1;omega,show(j-k)%k=j%k by rw[Nat.mod_eq_sub_mod (by omega:j>=k)]];simp
theorem Ty {α:Type}{enc:α->List Value}{k:Nat}(G:∀x,(enc x).length=k):∀(xs:List α),(xs.flatMap enc).length=xs.length*k
 | []=>by simp
 | x::xs=>by rw[Ala,Ajr,Ty G xs,G,Ajk,Akw];omega
theorem dH {α:Type}[Inhabited α]{enc:α->List Value}(hk:∀x,(enc x).length=2)(d:List α)(j:Nat)(hj:j<d.length*2):(d.flatMap enc)[j]?=some (Sort.flatK enc 2 d.toArray)[j]! := by
 rw[YY (k:=2) hk (by decide),Sort.get_flatK _ _ _ _ (by simpa using hj)];have G:j/2<d.length:=by omega
 rw[Ajs G];have h2:j%2<(enc d[j/2]).length:=by rw[hk];exact Al4 _ (by decide)
 simp only[AmF];rw[Ajs h2];have e1:d.toArray[j/2]! = d[j/2]:=by simp[G]
 rw[e1,AmQ (enc d[j/2]) (j%2) h2]
theorem fh (F arr:Array Value)(o j:Nat):(Sort.putCells id o F arr)[j]?=if o<=j/\j<o+F.size then(arr[j]?).map λ_=>F[j-o]! else arr[j]?:=by
 simp only[Sort.putCells,Array.getElem?_mapIdx,id];by_cases h:o<=j/\j<o+F.size
 .rw[Ajl h];simp[h]
 .rw[Ajj h];cases arr[j]? with
  | none=>rfl
  | some v=>simp only[Aki];rw[Ajj h]
section
variable {Z22:Hp}{R:Rr}
theorem AFg {ρ:Go.Shelf.Ren}(L:Go.Proofs.SlLaysF0.n6 prog ρ)(aE:∀w,(isAgg (ρ.t 24)).run prog w=.ok true w)(zE:∀w,(Go.sizeOf (ρ.t 24)).run prog w=.ok 2 w){α:Type}[Inhabited α]{enc:α->List Value}(G:∀x,(enc x).length=2)(h1:∀x,∀v∈enc x,v.oneCell'=true){cf:α->α->Int}(hO:Sort.SWO (Proofs.ltOf cf)){g:Nat}
  (eg:∀args w,(callFunc g args).run prog w=.ok (.enter g args) w) {b o m d:Nat} {ds:List α} (ho:BL 2 Z22 (some ⟨b,o,none⟩) m d (ds.flatMap enc)) (hm:ds.length=m) (hm0:m≠0) (KD:m<4611686018427387904)
  (AFO:∀w,Sat (Z22.del (some ⟨b,o,none⟩)) w->∀x y,Calls prog g #[.agg (enc x).toArray,.agg (enc y).toArray] w λe w'=>e=.returned (.I (cf x y))/\∃n os,w'=Sort.grow (w.drewN n) os)
  (h:∀(Z':Hp) (ds':List α),ds'.Perm ds->ds'.Pairwise (λx y=>Proofs.ltOf cf y x=false)->BL 2 Z' (some ⟨b,o,none⟩) m d (ds'.flatMap enc)->Ext (Z22.del (some ⟨b,o,none⟩)) (Z'.del (some ⟨b,o,none⟩))->R (.T #[]) Z') :
  Spec prog (ρ.f 6) #[.slice (some ⟨b,o,none⟩) m d,.func (.func g) #[] #[]] Z22 R:=by
 intro w F hs hF;obtain⟨arr,T,hb,hw,lM,iQ,RD⟩:∃arr T,Z22 b=some (.cells arr T (0,0))/\w.heap[b]?=some (.cells arr T (0,0))/\m<=d/\o+d*2<=arr.size/\(arr.toList.drop o).take (m*2)=ds.flatMap enc:=by
  rcases ho.2.2 with ⟨h1,h2,_⟩|⟨b',o',arr,T,hp,hb,lM,KD,RD⟩
  .exact absurd h2 hm0
  .cases hp;exact⟨arr,T,hb,hs _ _ hb,lM,KD,RD⟩
 have AT5:∀j,j<m*2->arr[o+j]?=some (Sort.flatK enc 2 ds.toArray)[j]! := λj hj=>by
  rw[<-dH G ds j (by omega),<-RD,AkE,Ajl hj,AkL,AkQ]
 have hH:Sort.HoldsK enc 2 w b o ds.toArray:=λj hj=>by
  have S7:j<m*2:=by simpa[hm] using hj
  refine⟨?_,by simp[World.frozen?,hw]⟩;simp only[World.cell?,hw,id];simpa using AT5 j S7
 have hblk:b<w.heap.size:=(Aj2.1 hw).1;have FJ:∀(n:Nat) (dk:Array α) (os:Array Obj) k,(Proofs.sortWorldK enc 2 w b o n dk os).heap[k]?=if k<w.heap.size then(if b=k then(w.heap[k]?).map (Sort.onCells (Sort.putCells id o (Sort.flatK enc 2 dk))) else w.heap[k]?) else os[k-w.heap.size]?:=λn dk os k=>by
  simp only[Proofs.sortWorldK,Sort.grow,Sort.putRowK,Sort.putRow,Sort.mapBlock,Sort.ahead,AlW,Array.size_modify,AlJ]
 have hcm:Proofs.CmpLays prog g #[] enc 2 cf b o ds.toArray.size w:=λn os dk _ x y=>AFO _ (λk u G=>by
  obtain⟨FM,hku⟩:=Aq.1 G;have Aar:b≠k:=λe=>FM _ rfl e.symm;have:=hs k u hku;rw[FJ,Ajl (Aj2.1 this).1,Ajj Aar];exact this) x y
 have AT6:=Proofs.AnyQ.slices_SortFunc L 2 aE zE enc G h1 cf hO g #[] b o d ds.toArray w eg hcm hH hblk (by simpa[hm] using KD);rw[show ds.toArray.size=m by simpa using hm]at AT6;refine AT6.mono ?_
 rintro e w' ⟨rfl,d',n,os,AT7,AT8,rfl⟩
 obtain⟨yR,_,hp3⟩:=AT7;have hd':d'.size=m:=by rw[yR];simpa using hm
 have hP:d'.toList.Perm ds:=by
  rw[show m=d'.size from hd'.symm]at hp3;rw[Ame]at hp3;rw[show d'.size=ds.toArray.size from yR,Ame]at hp3;exact hp3
 have RI:d'.toList.length=m:=by simpa using hd'
 have hF2:(Sort.flatK enc 2 d').size=m*2:=by simp[hd']
 have hpw:d'.toList.Pairwise (λx y=>Proofs.ltOf cf y x=false):=Akm.2 λi j hi hj eA=>by
  have S7:j<d'.size:=by simpa using hj
  have CO:i<d'.size:=by simpa using hi
  have:=AT8 i j (Ajy _) eA (by omega);rw[AmQ d' j S7,AmQ d' i CO]at this;simpa using this
 have aV:((Sort.putCells id o (Sort.flatK enc 2 d') arr).toList.drop o).take (m*2)=d'.toList.flatMap enc:=by
  refine Akv λj=>?_;rw[AkE];by_cases hj:j<m*2
  .have:=dH G d'.toList j (by omega);rw[Ajl hj,AkL,AkQ,fh,Ajl (by omega),this,AT5 j hj];simp
  .rw[Ajj hj,Ak2 (by rw[Ty (k:=2) G,RI];omega)]
 refine⟨Z22.set b (.cells (Sort.putCells id o (Sort.flatK enc 2 d') arr) T (0,0)),h _ d'.toList hP hpw ⟨by rw[Ty (k:=2) G,RI],by have:=ho.2.1;omega,.inr ⟨b,o,_,T,rfl,Hp.AA _ _ _,lM,by simpa[Sort.putCells] using iQ,aV⟩⟩ (by rw[Hp.LH];exact Ext.refl _),?_⟩
 .refine⟨λk u G=>?_,λk G=>?_,⟨rfl,rfl,λ_=>⟨n,rfl⟩⟩,rfl,by simp[Proofs.sortWorldK,Sort.grow,Sort.putRowK,Sort.putRow,Sort.mapBlock,Sort.ahead]⟩
  .rw[FJ];by_cases FM:k=b
   .subst FM;rw[Hp.AA]at G;cases G;rw[Ajl hblk,Ajl rfl,hw];rfl
   .rw[Hp.AB FM]at G;have:=hs k u G;rw[Ajl (Aj2.1 this).1,Ajj (Aj4 FM)];exact this
  .have FM:k≠b:=λe=>by have:=(hF k G).2;rw[e,hb]at this;cases this
   refine⟨by rw[Hp.AB FM];exact(hF k G).2,?_⟩;rw[FJ,Ajl (hF k G).1,Ajj (Aj4 FM)]
end
end TwW
end
section
namespace Go.Proofs
open Go.Shelf
def Tryz.YZ:Go.Shelf.Ren:=⟨λ|6=>205|15=>128|14=>236|28=>150|29=>151|20=>254|21=>255|22=>256|23=>257|24=>258|25=>259|26=>260|27=>261|46=>279|47=>177|48=>178|49=>280|50=>281|57=>304|n=>n,λ|22=>105|24=>109|25=>282|3=>3|39=>215|0=>0|53=>52|55=>27|4=>4|46=>223|45=>222|50=>101|5=>5|9=>9|66=>252|70=>256|76=>297|77=>298|n=>n,λ|n=>n⟩
theorem Tryz.ACF:Go.Proofs.SlLaysF0.n6 Tryz.prog Tryz.YZ:={
 mixed:=by kernel_rfl
 f6:=⟨Tryz.f205.name,by decide,Tryz.func205.trans (Ajw some (by kernel_rfl))⟩
 f14:=⟨Tryz.f236.name,by decide,Tryz.func236.trans (Ajw some (by kernel_rfl))⟩
 f15:=Tryz.func128.trans (Ajw some (by kernel_rfl))
 f20:=⟨Tryz.f254.name,by decide,Tryz.func254.trans (Ajw some (by kernel_rfl))⟩
 f21:=⟨Tryz.f255.name,by decide,Tryz.func255.trans (Ajw some (by kernel_rfl))⟩
 f22:=⟨Tryz.f256.name,by decide,Tryz.func256.trans (Ajw some (by kernel_rfl))⟩
 f23:=⟨Tryz.f257.name,by decide,Tryz.func257.trans (Ajw some (by kernel_rfl))⟩
 f24:=⟨Tryz.f258.name,by decide,Tryz.func258.trans (Ajw some (by kernel_rfl))⟩
 f25:=⟨Tryz.f259.name,by decide,Tryz.func259.trans (Ajw some (by kernel_rfl))⟩
 f26:=⟨Tryz.f260.name,by decide,Tryz.func260.trans (Ajw some (by kernel_rfl))⟩
 f27:=⟨Tryz.f261.name,by decide,Tryz.func261.trans (Ajw some (by kernel_rfl))⟩
 f28:=Tryz.func150.trans (Ajw some (by kernel_rfl))
 f29:=Tryz.func151.trans (Ajw some (by kernel_rfl))
 f46:=⟨Tryz.f279.name,by decide,Tryz.func279.trans (Ajw some (by kernel_rfl))⟩
 f47:=Tryz.func177.trans (Ajw some (by kernel_rfl))
 f48:=Tryz.func178.trans (Ajw some (by kernel_rfl))
 f49:=⟨Tryz.f280.name,by decide,Tryz.func280.trans (Ajw some (by kernel_rfl))⟩
 f50:=⟨Tryz.f281.name,by decide,Tryz.func281.trans (Ajw some (by kernel_rfl))⟩
 f57:=⟨Tryz.f304.name,by decide,Tryz.func304.trans (Ajw some (by kernel_rfl))⟩
 t0:=Tryz.underlying0
 a0:=Tryz.isAgg0
 z0:=Tryz.sizeOf0
 v0:=Tryz.zeroValue0
 t3:=Tryz.underlying3
 a3:=Tryz.isAgg3
 z3:=Tryz.sizeOf3
 v3:=Tryz.zeroValue3
 t4:=Tryz.underlying4
 a4:=Tryz.isAgg4
 z4:=Tryz.sizeOf4
 v4:=Tryz.zeroValue4
 t5:=Tryz.underlying5
 a5:=Tryz.isAgg5
 z5:=Tryz.sizeOf5
 v5:=Tryz.zeroValue5
 t9:=Tryz.underlying9
 a9:=Tryz.isAgg9
 z9:=Tryz.sizeOf9
 v9:=Tryz.zeroValue9
 t22:=Tryz.underlying105
 a22:=Tryz.isAgg105
 z22:=Tryz.sizeOf105
 v22:=Tryz.zeroValue105
 t25:=Tryz.underlying282
 a25:=Tryz.isAgg282
 z25:=Tryz.sizeOf282
 v25:=Tryz.zeroValue282
 t39:=Tryz.underlying215
 a39:=Tryz.isAgg215
 z39:=Tryz.sizeOf215
 v39:=Tryz.zeroValue215
 t45:=Tryz.underlying222
 a45:=Tryz.isAgg222
 z45:=Tryz.sizeOf222
 v45:=Tryz.zeroValue222
 t46:=Tryz.underlying223
 a46:=Tryz.isAgg223
 z46:=Tryz.sizeOf223
 v46:=Tryz.zeroValue223
 t50:=Tryz.underlying101
 a50:=Tryz.isAgg101
 z50:=Tryz.sizeOf101
 v50:=Tryz.zeroValue101
 t53:=Tryz.underlying52
 a53:=Tryz.isAgg52
 z53:=Tryz.sizeOf52
 v53:=Tryz.zeroValue52
 t55:=Tryz.underlying27
 a55:=Tryz.isAgg27
 z55:=Tryz.sizeOf27
 v55:=Tryz.zeroValue27
 t66:=Tryz.underlying252
 a66:=Tryz.isAgg252
 z66:=Tryz.sizeOf252
 v66:=Tryz.zeroValue252
 t70:=Tryz.underlying256
 a70:=Tryz.isAgg256
 z70:=Tryz.sizeOf256
 v70:=Tryz.zeroValue256
 t76:=Tryz.underlying297
 a76:=Tryz.isAgg297
 z76:=Tryz.sizeOf297
 v76:=Tryz.zeroValue297
 t77:=Tryz.underlying298
 a77:=Tryz.isAgg298
 z77:=Tryz.sizeOf298
 v77:=Tryz.zeroValue298 }
end Go.Proofs
end
section
namespace TwW
open Go Tw Go.RowKit Go.Proofs.Tryz
section
variable {Z22 Z' Z0:Hp}{R:Rr}
theorem Aat {α:Type}{f:α->List Lb}:Sort.SWO (Proofs.ltOf λx y=>Ay (f x) (f y)) where
 irrefl x:=by
  have h1:Ay (f x) (f x)=0:=(Ad.eq _ _).2 rfl;exact Aj1 (by show ¬Ay (f x) (f x)<0;omega)
 trans x y z h1 h2:=by
  unfold Proofs.ltOf at *;exact Aj0 (Ad.trans _ _ _ (Ajx h1) (Ajx h2))
 ntrans x y z h1 h2:=by
  unfold Proofs.ltOf at *;have h1:=AkM h1;have h2:=AkM h2;dsimp only at h1 h2;refine Aj1 λh3=>?_;dsimp only at h3;rcases AlH (Ay (f x) (f y)) 0 with h|h|h
  .exact h1 h
  .rw[(Ad.eq _ _).1 h]at h3;exact h2 h3
  .have h4:=(Ad.Qb _ _).2 h;exact h2 (Ad.trans _ _ _ h4 h3)
theorem ACG {cs:List Value}{m:Nat}(h:cs.length=m*2):(List.finRange m).flatMap (λi=>(cs.drop (i.1*2)).take 2)=cs:=by
 have hk:∀i:Fin m,((cs.drop (i.1*2)).take 2).length=2:=λi=>by
  have:=i.2;rw[AkA,Aj6];omega
 refine Akv λj=>?_;rw[YY hk (by decide)];by_cases hj:j<m*2
 .have G:j/2<m:=by omega
  rw[Ajs (by rw[AmR];exact G)];simp only[List.getElem_finRange,AmF,Fin.val_cast];rw[AkE,Ajl (Al4 _ (by decide)),AkL]
  congr 1
  omega
 .rw[Ak2 (by rw[AmR];omega),Ak2 (by omega)];rfl
theorem tK {α:Type}{enc:α->List Value}(G:∀x,(enc x).length=2):∀(xs:List α) (i:Nat) (x:α),xs[i]?=some x->((xs.flatMap enc).drop (i*2)).take 2=enc x
 | [],i,x,h=>by simp at h
 | a::xs,0,x,h=>by
  simp only[AkO,Ajv]at h;subst h;rw[Ala,AlT,Alr,<-G a,Am3]
 | a::xs,i+1,x,h=>by
  rw[Ala,show(i+1)*2=(enc a).length+i*2 by rw[G];omega,List.drop_append];simp only[Al6,AkF (AmG _ _),Akp];exact tK G xs i x (by simpa using h)
theorem AFi {α:Type}(l:List α){n:Nat}(G:l.length=n):(List.finRange n).map (λi=>l[i.1]'(by rw[G];exact i.2))=l:=by
 subst G;refine List.ext_getElem (by simp) λi h1 h2=>?_;simp
theorem wZ {l:List El}(h:∀i a b,l[i]?=some a->l[i+1]?=some b->Ay a.ls b.ls<0):l.Pairwise λa b=>Ay a.ls b.ls<0:=by
 rw[Akm];intro i j hi hj eA
 induction j with
 | zero=>omega
 | succ j ih=>
  have G:=h j l[j] l[j+1] (Ajs _) (Ajs _);by_cases he:i=j
  .subst he;exact G
  .exact Ad.trans _ _ _ (ih (by omega) (by omega)) G
theorem ACH:Ha FF []=some []:=by unfold Ha;rw[Ajl List.Pairwise.nil];rfl
theorem GI {p:Option Addr}{n c:Nat}{l:List El}(ho:AN 2 DJ Z0 Z22 p n c l)(hn:n<=1000000000000)(h:Kn R Z0 ((Ha FF l).map λl=>⟨2,0,l,[]⟩)):Spec prog 160 #[.slice p n c] Z22 R:=by
 have tI:=ho.up;obtain⟨⟨hl,cs,TA,hc⟩,hx⟩:=ho;refine GA.start λ_=>?_;by_cases h0:n=0
 .subst h0;have pP:l=[]:=AkV.1 hl;subst pP;rw[ACH]at h;refine Spec.same (v:=.tuple #[]) (λw _=>Go.Proofs.AnyF.slices_SortFunc_none Go.Proofs.Tryz.ACF p c _ w) ⟨rfl,GA.A5 ⟨λAx=>by omega,λ_=>?_⟩⟩;exact h.ok _ Z22 p 0 c none 0 0 rfl tI Ae.nil Ae.nil (Ajy _) (Ajt _)
 obtain⟨b,o,rfl⟩:∃b o,p=some ⟨b,o,none⟩:=by
  rcases TA.2.2 with ⟨_,h2,_⟩|⟨b,o,_,_,hp,_⟩
  .exact absurd h2 h0
  .exact⟨b,o,hp⟩
 have aV:cs.length=n*2:=TA.1
 let enc:Fin n->List Value:=λi=>(cs.drop (i.1*2)).take 2
 let at_:Fin n->El:=λi=>l[i.1]'(by rw[hl];exact i.2)
 have hE:∀i:Fin n,DJ (Z22.del (some ⟨b,o,none⟩)) (enc i) (at_ i):=λi=>hc.2 i.1 (at_ i) (Ajs _);have hk:∀i,(enc i).length=2:=λi=>by
  have:=i.2;show((cs.drop (i.1*2)).take 2).length=2
  rw[AkA,Aj6];omega
 have AIh:(List.finRange n).flatMap enc=cs:=ACG aV;haveI:Inhabited (Fin n):=⟨⟨0,by omega⟩⟩;refine AFg (ρ:=Go.Proofs.Tryz.YZ) Go.Proofs.Tryz.ACF (λw=>by kernel_rfl) (λw=>by kernel_rfl) (α:=Fin n) (enc:=enc) hk (λi=>DJ.one _ _ _ (hE i)) (cf:=λi j=>Ay (at_ i).ls (at_ j).ls) Aat (g:=206) (λargs w=>call206 args w) (b:=b) (o:=o) (ds:=List.finRange n) (by rw[AIh];exact TA) AmR h0 (by omega) (λw hw i j=>?_) λZ1 ds hp hpw CV PU=>⟨rfl,?_⟩
 .obtain⟨q1,m1,d1,hv1,EB⟩:=hE i;obtain⟨q2,m2,d2,hv2,Ff⟩:=hE j;rw[hv1,hv2];exact Spec.AL0 (R:=λe=>e=.returned (.I (Ay (at_ i).ls (at_ j).ls))) (@wX _ _ ⟨True⟩ _ _ _ _ _ _ _ _ _ _ EB Ff λZ' Sc=>⟨rfl,Sc⟩) hw
 let l2:List El:=ds.map at_
 have qE:l2.Perm l:=by
  have:=hp.map at_;rwa[AFi l hl]at this
 have iI:l2.length=n:=qE.length_eq.trans hl;have hdl:ds.length=n:=by have h9:(ds.map at_).length=n:=iI;rwa[Akb]at h9
 have hO:AN 2 DJ Z0 Z1 (some ⟨b,o,none⟩) n c l2:=by
  refine⟨⟨iI,_,CV,?_,λi x hi=>?_⟩,hx.trans PU⟩
  .rw[CV.1,iI]
  .have CO:(ds.map at_)[i]?=some x:=hi;rw[Akt]at CO;cases hd:ds[i]? with
   | none=>rw[hd]at CO;cases CO
   | some k=>
    rw[hd]at CO;simp only[Aki,Ajv]at CO;rw[tK hk ds i k hd,<-CO];exact DJ.mono _ _ _ _ PU (hE k)
 have hle:∀i a b',l2[i]?=some a->l2[i+1]?=some b'->¬Ay b'.ls a.ls<0:=λi a b' ha hb=>by
  have hq:l2.Pairwise (λa b'=>¬Ay b'.ls a.ls<0):=by
   refine List.pairwise_map.2 (hpw.imp fun {x y} G9=>?_);exact AkM G9
  obtain⟨h1,rfl⟩:=Ajn.1 ha;obtain⟨h2,rfl⟩:=Ajn.1 hb;exact Akm.1 hq i (i+1) h1 h2 (by omega)
 clear_value l2
 clear CV hpw hp AIh hE hk hdl
 suffices H:∀g k:Nat,∀Z',n-k=g->1<=k->k<=n->AN 2 DJ Z0 Z' (some ⟨b,o,none⟩) n c l2->(∀i a b',i+1<k->l2[i]?=some a->l2[i+1]?=some b'->Ay a.ls b'.ls<0)->GA.CD R (some ⟨b,o,none⟩) n c 0 0 none 0 0 none 0 0 k Z' from H (n-1) 1 Z1 rfl (Ajt _) (by omega) hO (λi a b' hi=>by omega)
 intro g
 induction g with
 | zero=>
  intro k Z' hg h1 iP G Ax;have hr:Ha FF l=some l2:=vq rfl qE (wZ λi a b' ha hb=>Ax i a b' (by have:=(Ajn.1 hb).1;omega) ha hb);rw[hr]at h;exact GA.A5 ⟨λAx=>by omega,λ_=>h.ok _ Z' _ n c none 0 0 rfl G.up (G.rd DJ.mono) Ae.nil (by obtain⟨cs',Aau,_⟩:=G.1.2;exact BL.cap Aau) (Ajt _)⟩
 | succ g ih=>
  intro k Z' hg h1 iP G Ax;have hr:=G.rd DJ.mono;obtain⟨y,hy⟩:=hr.ex (k:=k) (by omega);obtain⟨x,Sc⟩:=hr.ex (k:=k-1) (by omega);obtain⟨_,_,q1,m1,d1,iJ,RB,EB⟩:=DJ.at hr Sc;cases iJ;obtain⟨_,_,q2,m2,d2,si,Aav,Ff⟩:=DJ.at hr hy;cases si;have e1:Int.toNat ((k:Int)-1)=k-1:=by omega
  refine GA.A5 ⟨λ_=>⟨by unfold AL;omega,b,o,rfl,by omega,q1,m1,d1,by rw[e1];exact RB.1,by omega,q2,m2,d2,by simpa using Aav.1,Kj EB Ff λZ2 Ao=>⟨_,rfl,λhz=>?_,λhnz=>⟨by unfold AL;omega,?_⟩⟩⟩,λhh=>by omega⟩
  .refine h.no ?_ Z2 (G.up.trans Ao);have:Ha FF l=none:=vr rfl qE λhpw=>by
    obtain⟨h3,rfl⟩:=Ajn.1 Sc;obtain⟨h4,rfl⟩:=Ajn.1 hy;exact Akm.1 hpw (k-1) k h3 h4 (by omega) hz
   rw[this];rfl
  .have:=ih (k+1) Z2 (by omega) (by omega) (by omega) (G.mono DJ.mono Ao) λi a b' hi ha hb=>by
    by_cases hik:i+1=k
    .rw[hik,hy]at hb;cases hb;rw[show i=k-1 by omega,Sc]at ha;cases ha;have h5:=hle (k-1) _ _ Sc (by rw[show k-1+1=k by omega];exact hy);have h6:=(Ad.Qb x.ls y.ls);have h7:=(Ad.Qb y.ls x.ls);omega
    .exact Ax i a b' (by omega) ha hb
   exact_mod_cast this
end
structure wa (x:Vv):Prop where
 el:∀e∈x.vec,BQ e.ls/\0<=e.v
 rg:∀r∈x.RG,BQ r.ls/\0<r.vs.length
 len:x.vec.length+x.RG.length<=100000000000
theorem BQ.rd {Z22:Hp}{p:Option Addr}{n:Nat}{ls:List Lb}(h:BQ ls)(G:HG Z22 p n ls):n<=1000000:=by
 have h1:=h.1;have h2:ls.length=n:=G.1;omega
theorem AFj:∀w,(zeroValue 235).run prog w=.ok .nilFunc w:=λw=>by
 have h:prog.info? 235=some t235:=by kernel_rfl
 simp[zeroValue,typeInfo,h];rfl
section
variable {Z22 Z' Z0:Hp}{R:Rr}
theorem RW.at {p2:Option Addr}{n2 i:Nat}{l:List Vv}{x:Vv}(hr:Ae 4 RW Z22 p2 n2 l)(hx:l[i]?=some x):∃b o p n c q m d,p2=some ⟨b,o,none⟩/\Z22.ld ⟨b,o+i*4,none⟩=some (.I x.kind)/\Z22.ld ⟨b,o+i*4+1,none⟩=some (.U x.v)/\Z22.ld ⟨b,o+i*4+2,none⟩=some (.slice p n c)/\Z22.ld ⟨b,o+i*4+3,none⟩=some (.slice q m d)/\Ae 2 DJ Z22 p n x.vec/\Ae 2 X9 Z22 q m x.RG:=by
 obtain⟨b,o,vs,hp,⟨p,n,c,q,m,d,rfl,h1,h2⟩,G⟩:=Ae.idx hr hx;exact⟨b,o,p,n,c,q,m,d,hp,G.1,G.2.1,G.2.2.1,G.2.2.2.1,h1,h2⟩
theorem X9.at {p:Option Addr}{n i:Nat}{l:List Rg}{x:Rg}(hr:Ae 2 X9 Z22 p n l)(hx:l[i]?=some x):∃b o q m d q2 G d2,p=some ⟨b,o,none⟩/\A2 Z22 b (o+i*2) [.slice q m d,.slice q2 G d2]/\HG Z22 q m x.ls/\DB .u64 Z22 q2 G x.vs/\G<=d2:=by
 obtain⟨b,o,vs,hp,⟨q,m,d,q2,G,d2,rfl,h1,h2,h3⟩,hl⟩:=Ae.idx hr hx;exact⟨b,o,q,m,d,q2,G,d2,hp,hl,h1,h2,h3⟩
theorem AN.el {p:Option Addr}{n c:Nat}{xs:List El}{q:Option Addr}{m d:Nat}{ls:List Lb}{v:Int}{ty:TypeId}{Φ:Value->Hp->Prop}(ho:AN 2 DJ Z0 Z22 p n c xs)(hr:HG (Z22.del p) q m ls)(hn:n<=1000000000000)
  (G:∀p' c' Z',AN 2 DJ Z0 Z' p' (n+1) c' (xs++[⟨ls,v⟩])->Ext (Z22.del p) (Z'.del p')->Φ (.slice p' (n+1) c') Z') {b:Nat} (hb:Z22 b=none) :
  AI prog (Builtin.append_ #[105,105] ty #[.slice p n c,.slice (some ⟨b,0,none⟩) 1 1]) (Z22.set b (.cells #[.slice q m d,.U v] 109 (0,0))) Φ:=by
 have he:DJ (Z22.del p) [.slice q m d,.U v] ⟨ls,v⟩:=⟨q,m,d,rfl,hr⟩;exact AN.FN DJ.mono ho rfl (DJ.one _ _ _ he) he (by omega) G hb
theorem ACI {n:Nd}{p q a l:Option Addr}{k c m d j e:Nat}{L:List Vv}{x:Vv}(hr:Ae 4 RW Z22 l j L)(hx:L[0]?=some x)(hV:wa x)(h:Kn R Z22 (ABq FF x)):Spec prog 135 #[.pointer a,Qd n p k c q m d,.slice l j e] Z22 R:=by
 have hj:0<j:=by have h1:L.length=j:=hr.1;have:=(Ajn.1 hx).1;omega
 obtain⟨b,o,pv,nv,cv,qv,mv,dv,rfl,h1,h2,h3,h4,h5,h6⟩:=RW.at hr hx;simp only[AlT,Ak7]at h1 h2 h3 h4;refine B8.start λ_ _=>⟨b,o,rfl,by omega,x.kind,h1,λhk=>⟨by omega,x.v,h2,Ul ⟨_,rfl,?_⟩⟩,λhk=>⟨by omega,pv,nv,cv,h3,?_⟩⟩
 .unfold ABq at h;rw[Ajl hk]at h;exact h.ok _ Z22 none 0 0 none 0 0 rfl (.refl _) Ae.nil Ae.nil (Ajt _) (Ajt _)
 unfold ABq at h;rw[Ajj hk]at h;have hl:x.vec.length=nv:=h5.1;have hlen:=hV.len
 suffices H:∀g i:Nat,∀p8 n8 c8 Z',nv-i=g->i<=nv->AN 2 DJ Z22 Z' p8 n8 c8 ((x.vec.take i).map λx=>⟨Fc x.ls,FF.ABo x.v⟩)->B8.AFB R 0 0 none 0 0 none 0 0 p8 n8 c8 pv nv cv nv i Z' from H nv 0 none 0 0 Z22 rfl (Ajy _) (AN.nil (.refl _))
 intro g
 induction g with
 | zero=>
  intro i p8 n8 c8 Z' hg hi G;rw[Ajq (by omega)]at G;have Qf:=G.1.1;rw[Akb]at Qf;exact B8.sa ⟨λAx=>by omega,λ_=>GI G (by omega) h.bE⟩
 | succ g ih=>
  intro i p8 n8 c8 Z' hg hi G;have CO:i<nv:=by omega
  obtain⟨y,hy⟩:=h5.ex CO;obtain⟨b1,o1,q1,m1,d1,rfl,RB,EB⟩:=DJ.at h5 hy;have Ml:=hV.el y (Aju hy);have Qf:=G.1.1;rw[Akb,AkA]at Qf;refine B8.sa ⟨λ_=>⟨b1,o1,rfl,by omega,q1,m1,d1,y.v,by simpa using RB.mono G.up,λ_=>He (EB.mono Cg.mono G.up) (Ml.1.rd EB) λp' n' c' Z2 Ff Ao=>⟨_,_,_,rfl,Ul ⟨_,rfl,λsO Aaw=>?_⟩⟩⟩,λhh=>by omega⟩;refine AN.el (G.mono DJ.mono Ao) (Ff.mono Cg.mono (G.new Ao)) (by omega) (λp9 c9 Z3 Di _=>⟨_,_,_,rfl,AO CO h5.big,ih (i+1) _ _ _ _ (by omega) (by omega) ?_⟩) Aaw;rw[AU hy,AkI];exact Di
theorem wc {n:Nd}{p q a l:Option Addr}{k c m d j e:Nat}{L:List Vv}{x:Vv}(hr:Ae 4 RW Z22 l j L)(hx:L[0]?=some x)(hV:wa x)(hv:x.vec≠[]->n.op=11\/n.op=12)(hw:x.RG≠[]->1<=n.op/\n.op<=10)
  (h:Kn R Z22 ((Ha FF (cp FF n x)).map λl=>⟨2,0,l,[]⟩)):Spec prog 132 #[.pointer a,Qd n p k c q m d,.slice l j e] Z22 R:=by
 have hj:0<j:=by have h1:L.length=j:=hr.1;have:=(Ajn.1 hx).1;omega
 obtain⟨b,o,pv,nv,cv,qv,mv,dv,rfl,h1,h2,h3,h4,h5,h6⟩:=RW.at hr hx;simp only[AlT,Ak7]at h1 h2 h3 h4;have hl:x.vec.length=nv:=h5.1;have hlr:x.RG.length=mv:=h6.1;have hlen:=hV.len;refine Ak.start λ_ _=>C7 λmb hmb=>⟨mb,rfl,?_⟩;have s0:=Stg.fresh hmb;refine s0.put (by simp) λZ1 s1=>s1.put (by simp) λZ2 s2=>?_;have Ao:=s2.1;have hml:=s2.2.2;have cont:∀v21,(n.op=11->v21=.func (.func 156) #[] #[])->(n.op=12->v21=.func (.func 157) #[] #[])->∃v,v=v21/\Pq (some ⟨b,o,none⟩) λaP cU=>In 0 (j:Int)/\LS Z2 aP (cU+2) λja n25 jb=>Ak.Dp R (aD aP cU) j e n.kind n.op n.text p k c n.width n.back n.GU q m d n.bool n.parts 0 0 none 0 0 none 0 0 none 0 0 v ja n25 jb (n25:Int) 0 Z2:=λv21 ha hf=>by
  refine⟨v21,rfl,b,o,rfl,by omega,pv,nv,cv,Ao.ld h3,?_⟩
  let g1:El->El:=λx=>⟨Fc x.ls,if n.op=11 then FF.abs x.v else FF.floor x.v⟩
  let g2:Rg->Option El:=λs=>(FF.over n.op s.vs x.v).map λv=>⟨Fc s.ls,v⟩
  have hc:cp FF n x=x.vec.map g1++x.RG.filterMap g2:=rfl;rw[hc]at h;have second:∀g i:Nat,∀fb p8 n8 c8 Z',mv-i=g->i<=mv->YW (Z'.del p8) fb->AN 2 DJ Z22 Z' p8 n8 c8 (x.vec.map g1++(x.RG.take i).filterMap g2)->Ak.Fv R (aD b o) j e n.kind n.op n.text p k c n.width n.back n.GU q m d n.bool n.parts 0 0 none 0 0 none 0 0 p8 n8 c8 (aD fb 0) 11 11 qv mv dv mv i Z':=by
   intro g
   induction g with
   | zero=>
    intro i fb p8 n8 c8 Z' hg hi hF G;rw[Ajq (by omega)]at G;have Qf:=G.1.1;rw[Ajr,Akb]at Qf;have h9:=AkX g2 x.RG;exact Ak.Fm ⟨λAx=>by omega,λ_=>GI G (by omega) h.bE⟩
   | succ g ih=>
    intro i fb p8 n8 c8 Z' hg hi hF G;have CO:i<mv:=by omega
    obtain⟨y,hy⟩:=h6.ex CO;obtain⟨b1,o1,q1,m1,d1,q2,m2,d2,rfl,RB,EB,Ff,lM⟩:=X9.at h6 hy;have Ml:=hV.rg y (Aju hy);have Mr:=hw λe=>by rw[e]at hlr;simp at hlr;omega
    have hlv:y.vs.length=m2:=Ff.1;have Qf:=G.1.1;rw[Ajr,Akb]at Qf;have h9:=AkX g2 (x.RG.take i);rw[AkA]at h9;have next:∀p9 n9 c9 Z3,YW (Z3.del p9) fb->AN 2 DJ Z22 Z3 p9 n9 c9 (x.vec.map g1++(x.RG.take i).filterMap g2++(g2 y).toList)->Ak.QW R (aD b o) j e n.kind n.op n.text p k c n.width n.back n.GU q m d n.bool n.parts 0 0 none 0 0 none 0 0 p9 n9 c9 (aD fb 0) 11 11 (aD b1 o1) mv dv mv i Z3:=λp9 n9 c9 Z3 hF3 Di=>
     Ak.LV ⟨AO CO h6.big,ih (i+1) _ _ _ _ _ (by omega) (by omega) hF3 (by rw[Ip hy,<-AkC];exact Di)⟩
    refine Ak.Fm ⟨λ_=>⟨b1,o1,rfl,by omega,q1,m1,d1,q2,m2,d2,by simpa using RB.mono G.up,λ_=>⟨fb,0,rfl,by omega,wY (w:=x.v) Mr (hF.mono (Ext.LG _ _)) (Ff.mono G.up) (by omega) lM hj (G.up.ld h2) λz ok Z3 hz CE=>⟨z,ok,rfl,λAa=>?_,λAa=>next _ _ _ _ (hF.mono (CE.del _)) ?_⟩⟩⟩,λhh=>by omega⟩
    .have hz':FF.over n.op y.vs x.v=some z:=by
      rcases hz with ⟨h7,_⟩|⟨_,h8⟩
      .exact h7
      .rw[Aa]at h8;cases h8
     refine He (EB.mono Cg.mono (G.up.trans CE)) (Ml.1.rd EB) λp' n' c' Z4 yS KK=>⟨_,_,_,rfl,λb73 ALz=>?_⟩;have Di:=G.mono DJ.mono CE;refine AN.el (Di.mono DJ.mono KK) (yS.mono Cg.mono (Di.new KK)) (by omega) (λp9 c9 Z5 Sb Rp=>⟨_,_,_,rfl,next _ _ _ _ (hF.mono (((CE.trans KK).del _).trans Rp)) ?_⟩) ALz;rw[show g2 y=some ⟨Fc y.ls,z⟩ by show(FF.over n.op y.vs x.v).map _=_;rw[hz'];rfl];exact Sb
    .have hz':FF.over n.op y.vs x.v=none:=by
      rcases hz with ⟨_,h8⟩|⟨h7,_⟩
      .rw[Aa]at h8;cases h8
      .exact h7
     rw[show g2 y=none by show(FF.over n.op y.vs x.v).map _=_;rw[hz'];rfl];simpa using G.mono DJ.mono CE
  suffices H:∀g i:Nat,∀p8 n8 c8 Z',nv-i=g->i<=nv->AN 2 DJ Z22 Z' p8 n8 c8 ((x.vec.take i).map g1)->Ak.Dp R (aD b o) j e n.kind n.op n.text p k c n.width n.back n.GU q m d n.bool n.parts 0 0 none 0 0 none 0 0 p8 n8 c8 v21 pv nv cv nv i Z' from H nv 0 none 0 0 Z2 rfl (Ajy _) (AN.nil Ao)
  intro g
  induction g with
  | zero=>
   intro i p8 n8 c8 Z' hg hi G;rw[Ajq (by omega)]at G;refine Ak.Bp ⟨λAx=>by omega,λ_=>YX λfb Z3 hF CE=>⟨_,_,_,rfl,b,o,rfl,by omega,qv,mv,dv,(G.up.trans CE).ld h4,second mv 0 fb p8 n8 c8 Z3 rfl (Ajy _) (hF.mono (G.new CE)) (by simpa using G.mono DJ.mono CE)⟩⟩
  | succ g ih=>
   intro i p8 n8 c8 Z' hg hi G;have CO:i<nv:=by omega
   obtain⟨y,hy⟩:=h5.ex CO;obtain⟨b1,o1,q1,m1,d1,rfl,RB,EB⟩:=DJ.at h5 hy;have Ml:=hV.el y (Aju hy);have Qf:=G.1.1;rw[Akb,AkA]at Qf;have Mr:=hv λe=>by rw[e]at hl;simp at hl;omega
   refine Ak.Bp ⟨λ_=>⟨b1,o1,rfl,by omega,q1,m1,d1,y.v,by simpa using RB.mono G.up,λ_=>He (EB.mono Cg.mono G.up) (Ml.1.rd EB) λp' n' c' Z3 Up CE=>⟨_,_,_,rfl,?_⟩⟩,λhh=>by omega⟩;have app:∀z,(g1 y).v=z->AY R (CI .u64 λaY AE=>Al AE λaZ=>AI prog (Builtin.append_ #[105,105] 105 #[.slice p8 n8 c8,(.slice (aD aZ 0) 1 1)]) (Hp.set AE aZ (.cells #[.slice p' n' c',.U aY] 109 (0,0))) (CS λvF n41 mc AK=>AL ((i:Int)+1)/\Ak.Dp R (aD b o) j e n.kind n.op n.text p k c n.width n.back n.GU q m d n.bool n.parts 0 0 none 0 0 none 0 0 vF n41 mc v21 (aD b1 o1) nv cv nv ((i:Int)+1) AK)) (.returned (.U z)) Z3:=λz hz=>by
    refine⟨z,rfl,λaZ we=>AN.el (G.mono DJ.mono CE) (Up.mono Cg.mono (G.new CE)) (by omega) (λp9 c9 Z5 Sb Rp=>⟨_,_,_,rfl,AO CO h5.big,ih (i+1) _ _ _ _ (by omega) (by omega) ?_⟩) we⟩;rw[AU hy,AkI];have:g1 y=⟨Fc y.ls,z⟩:=by rw[<-hz]
    simpa[this] using Sb
   rcases Mr with Mr|Mr
   .exact⟨156,#[],#[],ha Mr,SR.en,ABv Ml.2 (app _ (by show(if n.op=11 then pX y.v else _)=_;rw[Ajl Mr]))⟩
   .exact⟨157,#[],#[],hf Mr,LX.en,pZ (app _ (by show(if n.op=11 then pX y.v else fV y.v)=_;rw[Ajj (by omega)]))⟩
 refine hml.look AFj (λAb=>cont _ (λh9=>?_) λh9=>?_) λv hv=>?_
 .exact absurd h9.symm (Ab (11,.func (.func 156) #[] #[]) (by simp))
 .exact absurd h9.symm (Ab (12,.func (.func 157) #[] #[]) (by simp))
 .simp only[Akp,Akl,Ajo,Aj7,Akc,Akh]at hv;rcases hv with ⟨h9,rfl⟩|⟨h9,rfl⟩
  .exact cont _ (λ_=>rfl) λh8=>by omega
  .exact cont _ (λh8=>by omega) λ_=>rfl
end
end TwW
end
