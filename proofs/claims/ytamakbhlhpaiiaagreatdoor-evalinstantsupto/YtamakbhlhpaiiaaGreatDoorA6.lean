/-
  Part 6 of the proof that the law EvalInstantsUptoCardSaid of the given program answers true for every input of the given statement; the input reads behind the call as it did. (The texts: packed from 24 texts. Names are shortened by the packing program, for the bound on size.)
-/
import Derived.Test.YtamakbhlhpaiiaaGreatDoorA5
import Derived.Laws.FloatBits
import Derived.Lib.SplitLaws
import Derived.Laws.MakeOwn
set_option linter.all false
section
namespace TwW
open Go Tw Go.RowKit Go.Proofs.Tryz
def SP (v:Int):Prop:=(GG v.toNat=false∧0≤v)∨v=9221120237041090560
theorem zz {x:Nat}(h:GG x=false∨x=9221120237041090560):SP (x:Nat):=by
 rcases h with h|h
 ·exact .inl ⟨by rw[Aiu];exact h,AjC _⟩
 ·exact .inr (by rw[h];rfl)
theorem T3 (x:Nat):SP (toF x:Nat):=zz (by
 unfold toF;split
 ·exact .inr rfl
 ·rename_i h;exact .inl (by simpa using h))
theorem dg (x:Int):SP (nrm x):=T3 _
theorem nC (op:Int)(a b:Nat):SP (RO op a b:Nat):=by
 unfold RO;cases fAr op a b with
 | none=>exact .inr rfl
 | some r=>exact T3 r
theorem O4 (op a b:Int):SP (NL op a b):=nC _ _ _
theorem bJ {neg:Bool}{r:Nat}(h:r≤9218868437227405312):GG (Ieee.double.word neg r)=false:=by
 cases hf:GG (Ieee.double.word neg r) with
 | false=>rfl
 | true=>
  rw[Iq]at hf;have e:Ieee.double.word neg r=if neg then 9223372036854775808+r else r:=by cases neg<;>rfl
  rw[e]at hf;cases neg
  ·simp only[Ajv,if_false]at hf;omega
  ·simp only[if_true]at hf;omega
theorem T5 (n:Int):SP (AV n):=zz (.inl (by
 show GG (Ieee.double.nearest (n<0) n.natAbs 0)=false
 unfold Ieee.Format.nearest;dsimp only;split
 ·exact bJ (AiR _)
 ·exact bJ (Aiy (Nat.min_le_right ..) (by decide))))
theorem ASp:SP 0:=.inl ⟨by decide,by decide⟩
theorem jW {f:Int→Int→Int}(hf:∀a b,SP a→SP (f a b)):∀(l:List Int) (a:Int),SP a→SP (l.foldl f a)
 | [],a,h=>h
 | x::l,a,h=>jW hf l _ (hf a x h)
theorem qA:∀vs,SP (Ti vs)
 | []=>ASp
 | v::l=>jW (fun a b _=>O4 1 a b) l _ (dg v)
theorem SQ (op:Int):∀vs,SP (KW op vs)
 | []=>ASp
 | v::l=>dg _
theorem AAA (vs:List Int):SP (Hn vs):=by
 unfold Hn;have:∀(l:List (Int×Int)) (a:Int),SP a→SP (l.foldl Hm a):=fun l=>by
  induction l with
  | nil=>intro a h;exact h
  | cons x l ih=>
   intro a h;refine ih _ ?_;unfold Hm;split
   ·exact O4 _ _ _
   ·exact h
 exact this _ _ (O4 _ _ _)
theorem AAB (op:Int)(vs:List Int):SP (foldI op vs):=by
 unfold foldI;split
 ·exact qA _
 ·split
  ·exact SQ _ _
  ·split
   ·exact SQ _ _
   ·split
    ·exact O4 _ _ _
    ·exact T5 _
theorem AAC {op:Int}{vs:List Int}{w x:Int}(h:Ee op vs w=some x):SP x:=by
 unfold Ee at h;split at h
 ·rw[←Aij h];exact qA _
 split at h
 ·rw[←Aij h];exact O4 _ _ _
 split at h
 ·rw[←Aij h];exact SQ _ _
 split at h
 ·rw[←Aij h];exact SQ _ _
 split at h
 ·rw[←Aij h];exact T5 _
 split at h
 ·rw[←Aij h];exact dg _
 split at h
 ·rw[←Aij h];exact nC _ _ _
 split at h
 ·exact absurd h.symm (Option.some_ne_none _)
 split at h
 ·rw[←Aij h];exact O4 _ _ _
 split at h
 ·rw[←Aij h];exact AAA _
 ·rw[←Aij h];exact O4 _ _ _
theorem SR (op a b:Int):SP (A3 op a b).1:=by
 unfold A3;split
 ·exact O4 _ _ _
 ·show SP (if _ then AV 1 else AV 0)
  split<;>exact T5 _
theorem ADU (s:ByteArray):SP (RB s):=by
 unfold RB;dsimp only;split
 ·exact T3 _
 ·split
  ·exact T3 _
  ·exact nC _ _ _
theorem sv (x:Int):SP (HY x):=by
 unfold HY Ky;split
 ·exact .inr rfl
 ·exact T3 _
theorem ADV (x:Int):SP (P5 x):=T3 _
theorem jX (x:Int):SP (Ot x):=dg _
theorem AAD:∀x y:List UInt8,Op.bytesLess x y=true∨x=y∨Op.bytesLess y x=true
 | [],[]=>.inr (.inl rfl)
 | [],_::_=>.inl rfl
 | _::_,[]=>.inr (.inr rfl)
 | a::x,b::y=>by
  simp only[Op.bytesLess,Ajf,AiS,AiW,Aja];rcases AkK a.toNat b.toNat with h|h|h
  ·exact .inl (.inl (UInt8.lt_iff_toNat_lt.2 h))
  ·have e:a=b:=UInt8.toNat_inj.1 h;subst e;rcases AAD x y with h|h|h
   ·exact .inl (.inr ⟨rfl,h⟩)
   ·exact .inr (.inl (by rw[h]))
   ·exact .inr (.inr (.inr ⟨rfl,h⟩))
  ·exact .inr (.inr (.inl (UInt8.lt_iff_toNat_lt.2 h)))
theorem Yv:∀x y z:List UInt8,Op.bytesLess x y=true→Op.bytesLess y z=true→Op.bytesLess x z=true
 | _,_,[],_,h=>by cases ‹List UInt8›<;>simp[Op.bytesLess]at h
 | [],_,_::_,_,_=>rfl
 | _::_,[],_,h,_=>by simp[Op.bytesLess]at h
 | a::x,b::y,c::z,h1,h2=>by
  simp only[Op.bytesLess,Ajf,AiS,AiW,Aja,UInt8.lt_iff_toNat_lt]at h1 h2 ⊢;rcases h1 with h1|⟨rfl,h1⟩
  ·rcases h2 with h2|⟨rfl,h2⟩
   ·exact .inl (by omega)
   ·exact .inl h1
  ·rcases h2 with h2|⟨rfl,h2⟩
   ·exact .inl h2
   ·exact .inr ⟨rfl,Yv x y z h1 h2⟩
theorem nE:∀x:List UInt8,Op.bytesLess x x=false
 | []=>rfl
 | a::x=>by simp[Op.bytesLess,nE x]
theorem AAE {a b:ByteArray}(h:sle b a=false):Op.bytesLess a.toList b.toList=true:=by
 unfold sle at h;simp only[Bool.or_eq_false_iff,beq_eq_false_iff_ne]at h;rcases AAD a.toList b.toList with h1|h1|h1
 ·exact h1
 ·exact absurd h1.symm h.2
 ·rw[h1]at h;exact absurd h.1 (by decide)
theorem AAF {p x y:ByteArray}(h1:sle x p=false)(h2:sle y x=false):sle y p=false:=by
 have h3:=Yv _ _ _ (AAE h1) (AAE h2);cases h:sle y p with
 | false=>rfl
 | true=>
  unfold sle at h;simp only[Ajf,Aja]at h;rcases h with h|h
  ·have:=Yv _ _ _ h3 h;rw[nE]at this;cases this
  ·rw[h,nE]at h3;cases h3
theorem SS {pv:Option ByteArray}{x:Lb}{l:List Lb}:GV pv (x::l)=0↔¬DC x.1=false∧¬(x.2.size=0∨256<x.2.size∨Oi x.2=false)∧¬pv.any (sle x.1 ·)=true∧GV (some x.1) l=0:=by
 have e:GV pv (x::l)=if DC x.1=false then 31 else if x.2.size=0∨256<x.2.size∨Oi x.2=false then 32 else if pv.any (sle x.1 ·)=true then 33 else GV (some x.1) l:=by cases pv<;>rfl
 rw[e]
 constructor
 ·intro h;split at h
  ·cases h
  split at h
  ·cases h
  split at h
  ·cases h
  exact⟨by assumption,by assumption,by assumption,h⟩
 ·rintro⟨h1,h2,h3,h4⟩
  rw[AiK h1,AiK h2,AiK h3];exact h4
theorem AAG {pv:Option ByteArray}{k:ByteArray}(hk:∀p,pv=some p→sle k p=false):∀{l:List Lb},GV (some k) l=0→GV pv l=0
 | [],_=>by cases pv<;>rfl
 | x::l,h=>by
  obtain⟨h1,h2,h3,h4⟩:=SS.1 h;refine SS.2 ⟨h1,h2,?_,h4⟩;cases pv with
  | none=>simp
  | some p=>
   simp only[Option.any_some,Bool.not_eq_true]at h3 ⊢;exact AAF (hk p rfl) h3
theorem Yw (g:Lb→Bool):∀(ls:List Lb) (pv:Option ByteArray),GV pv ls=0→GV pv (ls.filter g)=0
 | [],pv,_=>by cases pv<;>rfl
 | x::l,pv,h=>by
  obtain⟨h1,h2,h3,h4⟩:=SS.1 h;have ih:=Yw g l _ h4;rw[Aj8];split
  ·exact SS.2 ⟨h1,h2,h3,ih⟩
  ·refine AAG (fun p hp=>?_) ih;subst hp;simpa using h3
theorem Is {ls:List Lb}(g:Lb→Bool)(h:GD ls=0):GD (ls.filter g)=0:=by
 unfold GD at h ⊢;split at h
 ·cases h
 ·rename_i ye;have:=Ais g ls;rw[AiK (by omega)];exact Yw g ls none h
theorem JW {ls:List Lb}(h:GD ls=0):GD (Bd ls)=0:=Is _ h
theorem ADW {n:Nd}{ls:List Lb}(h:GD ls=0):GD (D0 n ls)=0:=by
 unfold D0;split
 ·exact Is _ h
 ·exact JW (Is _ h)
theorem nF {n:Nd}{ls:List Lb}(h:GD ls=0):GD (Bs n ls)=0:=by
 unfold Bs;split
 ·exact Is _ h
 ·split
  ·exact JW (Is _ h)
  ·rfl
def qB (l:List El):Prop:=l.Pairwise fun a b=>BX a.ls b.ls<0
def tA (ss:List Sr)(e:El):Prop:=GD e.ls=0∧(SP e.v∨∃s∈ss,∃p∈s.ps,p.2=e.v)
structure VS (ss:List Sr)(x:Vv):Prop where
 el:∀e∈x.vec,tA ss e
 up:qB x.vec
 rg:∀r∈x.RV,GD r.ls=0
 one:x.kind=1→SP x.v
theorem nG {l m:List El}(h:Co FF l=some m):qB m:=by
 have hp:=Lx h;unfold Co at h;split at h
 ·rename_i hd;cases h;have h1:=Ms (F:=FF) rfl l;have h2:(pL FF l).Pairwise fun a b=>BX a.ls b.ls≠0:=(hp.pairwise_iff (fun {x y} YU hyx=>YU (by rw[(Ao.eq _ _).1 hyx];exact(Ao.eq _ _).2 rfl))).2 hd;exact(h1.and h2).imp fun {a b} ym=>by
   have h3:BX a.ls b.ls≤0:=ym.1;have h4:=ym.2;omega
 ·cases h
theorem RF {ss:List Sr}{l m:List El}(h:Co FF l=some m)(hl:∀e∈l,tA ss e):VS ss ⟨2,0,m,[]⟩:=
 ⟨fun e he=>hl e ((Lx h).mem_iff.1 he),nG h,fun r hr=>(by cases hr),fun hh=>absurd (show(2:Int)=1 from hh) (by decide)⟩
theorem nH {ss:List Sr}{v:Int}(h:SP v):VS ss ⟨1,v,[],[]⟩:=⟨fun e he=>(by cases he),.nil,fun r hr=>(by cases hr),fun _=>h⟩
theorem bK:∀{ss:List Sr} {q:Option (List Lb)},D1 q ss=true→(∀k,q=some k→∀s∈ss,BX k s.ls<0)∧ss.Pairwise fun a b=>BX a.ls b.ls<0
 | [],q,_=>⟨fun k _ s hs=>(by cases hs),.nil⟩
 | s::l,q,h=>by
  rw[Lr]at h;simp only[AiS]at h;obtain⟨h1,h2⟩:=bK h.2;refine⟨fun k hk u hu=>?_,List.pairwise_cons.2 ⟨fun u hu=>h1 s.ls rfl u hu,h2⟩⟩;subst hk;have h3:BX k s.ls<0:=AiP h.1.2;rcases AiT.1 hu with rfl|hu
  ·exact h3
  ·exact Ao.trans _ _ _ h3 (h1 s.ls rfl u hu)
theorem bL {ss:List Sr}{n:Nd}{t:Int}(h:D1 none ss=true):VS ss ⟨2,0,HV FF n ss t,[]⟩:=by
 have key:∀(s:Sr) (e:El),(match (FT s.ps (t-n.back-300) (t-n.back)).getLast? with
  | none=>none
  | some p=>if p.2=G4∨FF.dK n.mt s.ls=false then none else some (⟨s.ls,p.2⟩:El))=some e→e.ls=s.ls∧∃p∈s.ps,p.2=e.v:=fun s e he=>by
  split at he
  ·cases he
  ·rename_i p hl;split at he
   ·cases he
   ·simp only[AiO]at he;subst he;exact⟨rfl,p,(List.mem_filter.1 (Aj3 hl)).1,rfl⟩
 refine⟨fun e he=>?_,?_,fun r hr=>(by cases hr),fun hh=>absurd (show(2:Int)=1 from hh) (by decide)⟩
 ·obtain⟨s,hs,h1⟩:=List.mem_filterMap.1 he;obtain⟨h2,p,hp,hv⟩:=key s e h1;exact⟨by rw[h2];exact(Ly h s hs).1,.inr ⟨s,hs,p,hp,hv⟩⟩
 ·show(List.filterMap _ ss).Pairwise _
  refine List.pairwise_filterMap.2 ((bK h).2.imp fun {a b} ym e he e' QZ=>?_);rw[(key a e he).1,(key b e' QZ).1];exact ym
theorem AAH {ss:List Sr}{n:Nd}{t:Int}(h:D1 none ss=true):VS ss ⟨3,FF.whole n.width,[],Ol FF n ss t⟩:=by
 refine⟨fun e he=>(by cases he),.nil,fun r hr=>?_,fun hh=>absurd (show(3:Int)=1 from hh) (by decide)⟩;obtain⟨s,hs,h1⟩:=List.mem_filterMap.1 hr;dsimp only at h1;generalize (!_&&FF.dK n.mt s.ls)=b at h1;cases b with
 | false=>cases h1
 | true=>
  simp only[cond_true,AiO]at h1;subst h1;exact(Ly h s hs).1
theorem AAI {ss:List Sr}{n:Nd}{x:Vv}(hx:VS ss x):∀e∈JB FF n x,tA ss e:=fun e he=>by
 rcases List.mem_append.1 he with he|he
 ·obtain⟨y,hy,rfl⟩:=List.mem_map.1 he;refine⟨JW (hx.el y hy).1,.inl ?_⟩;show SP (if n.op=11 then P5 y.v else HY y.v)
  split
  ·exact ADV _
  ·exact sv _
 ·obtain⟨y,hy,h1⟩:=List.mem_filterMap.1 he;have h2:(Ee n.op y.vs x.v).map (fun v=>(⟨Bd y.ls,v⟩:El))=some e:=h1;cases ho:Ee n.op y.vs x.v with
  | none=>rw[ho]at h2;cases h2
  | some z=>
   rw[ho]at h2;simp only[Aiv,AiO]at h2;subst h2;exact⟨JW (hx.rg y hy),.inl (AAC ho)⟩
theorem jY {ls:List Lb}{v:Int}:∀{l:List Rg} {g:Rg},g∈D6 ls v l→g.ls=ls∨∃y∈l,y.ls=g.ls
 | [],g,h=>by
  unfold D6 at h;rw[AiY]at h;exact .inl (by rw[h])
 | y::l,g,h=>by
  unfold D6 at h;split at h
  ·rcases AiT.1 h with rfl|h
   ·exact .inr ⟨y,by simp,rfl⟩
   ·exact .inr ⟨g,AiX _ h,rfl⟩
  ·rcases AiT.1 h with rfl|h
   ·exact .inr ⟨g,by simp,rfl⟩
   ·rcases jY h with h|⟨z,hz,h⟩
    ·exact .inl h
    ·exact .inr ⟨z,AiX _ hz,h⟩
theorem bM {n:Nd}:∀(l:List El) (gs:List Rg),(∀e∈l,GD e.ls=0)→(∀g∈gs,GD g.ls=0)→∀g∈l.foldl (fun gs x=>D6 (Bs n x.ls) x.v gs) gs,GD g.ls=0
 | [],gs,_,h=>h
 | x::l,gs,hl,h=>by
  refine bM l _ (fun e he=>hl e (AiX _ he)) fun g hg=>?_;rcases jY hg with h1|⟨y,hy,h1⟩
  ·rw[h1];exact nF (hl x (by simp))
  ·rw[←h1];exact h y hy
theorem ADX {ss:List Sr}{n:Nd}{x:Vv}(hx:VS ss x):∀e∈Mp FF n x,tA ss e:=fun e he=>by
 obtain⟨g,hg,rfl⟩:=List.mem_map.1 he;exact⟨bM (n:=n) x.vec [] (fun e he=>(hx.el e he).1) (fun g hg=>by cases hg) g hg,.inl (AAB _ _)⟩
theorem qC {ss:List Sr}{n:Nd}{l:List El}{f:Int→Int×Bool}(hl:∀e∈l,tA ss e)(hf:∀v,SP (f v).1):∀e∈JL n l f,tA ss e:=fun e he=>by
 obtain⟨y,hy,h1⟩:=List.mem_filterMap.1 he;split at h1
 ·simp only[AiO]at h1;subst h1;exact⟨JW (hl y hy).1,.inl (hf _)⟩
 ·split at h1
  ·simp only[AiO]at h1;subst h1;exact hl y hy
  ·cases h1
theorem AAJ {ss:List Sr}{n:Nd}{x y:List El}(hx:∀e∈x,tA ss e)(hy:∀e∈y,tA ss e):∀e∈Io n x y,tA ss e:=fun e he=>by
 unfold Io at he;rcases List.mem_append.1 he with he|he
 ·exact hx e (List.mem_filter.1 he).1
 ·exact hy e (List.mem_filter.1 he).1
theorem AAK {ss:List Sr}{n:Nd}{x y m:List El}(hx:∀e∈x,tA ss e)(h:Hl FF n x y=some m):∀e∈m,tA ss e:=by
 unfold Hl at h;split at h
 ·simp only[AiO]at h;subst h;intro e he;obtain⟨z,hz,h1⟩:=List.mem_filterMap.1 he;split at h1
  ·cases h1
  ·split at h1
   ·simp only[AiO]at h1;subst h1;exact⟨ADW (hx z hz).1,.inl (SR _ _ _)⟩
   ·split at h1
    ·simp only[AiO]at h1;subst h1;exact hx z hz
    ·cases h1
 ·cases h
theorem AKF {ss:List Sr}{n:Nd}{x y v:Vv}(hx:VS ss x)(hy:VS ss y)(h:Zj FF n x y=some v):VS ss v:=by
 unfold Zj at h;split at h
 ·cases h;exact nH (SR _ _ _)
 ·obtain⟨m,hm,rfl⟩:=map_some h;split at hm
  ·exact RF (show Co FF (JL n y.vec (FF.Mo n.op x.v))=some m from hm) (qC hy.el fun v=>SR _ _ _)
  ·split at hm
   ·exact RF (show Co FF (JL n x.vec fun v=>FF.Mo n.op v y.v)=some m from hm) (qC hx.el fun v=>SR _ _ _)
   ·split at hm
    ·exact RF (show Co FF (Io n x.vec y.vec)=some m from hm) (AAJ hx.el hy.el)
    ·cases hq:Hl FF n x.vec y.vec with
     | none=>rw[hq]at hm;cases hm
     | some w=>
      rw[hq]at hm;exact RF (show Co FF w=some m from hm) (AAK hx.el hq)
theorem ADY {ss:List Sr}{n:Nd}{t:Int}{L:List Vv}{v:Vv}(hs:D1 none ss=true)(hV:∀x∈L,VS ss x)(h:Ez FF ss t n L=some v):VS ss v:=by
 unfold Ez at h;split at h
 ·cases h;exact nH (ADU _)
 split at h
 ·cases h;exact bL hs
 split at h
 ·cases h;exact AAH hs
 match L with
 | [x]=>
  have hx:=hV x (by simp);dsimp only at h;split at h
  ·obtain⟨m,hm,rfl⟩:=map_some h;exact RF hm (AAI hx)
  split at h
  ·obtain⟨m,hm,rfl⟩:=map_some h;exact RF hm (ADX hx)
  split at h
  ·unfold iY at h;split at h
   ·cases h;exact nH (jX _)
   ·obtain⟨m,hm,rfl⟩:=map_some h;refine RF hm fun e he=>?_;obtain⟨y,hy,rfl⟩:=List.mem_map.1 he;exact⟨JW (hx.el y hy).1,.inl (jX _)⟩
  ·cases h
 | [x,y]=>
  dsimp only at h;split at h
  ·exact AKF (hV x (by simp)) (hV y (by simp)) h
  ·cases h
 | []=>cases h
 | _::_::_::_=>cases h
theorem AAL {ss:List Sr}{t:Int}(hs:D1 none ss=true):∀(T:List Nd) (st r:List Vv),Ip FF ss t T st=some r→(∀x∈st,VS ss x)→∀x∈r,VS ss x
 | [],st,r,hr,hV=>by cases hr;exact hV
 | x::T,st,r,hr,hV=>by
  rw[Ip]at hr;cases hz:Ez FF ss t x (st.drop (st.length-x.parts.toNat)) with
  | none=>rw[hz]at hr;cases hr
  | some z=>
   rw[hz]at hr;refine AAL hs T _ r hr fun u hu=>?_;rcases List.mem_append.1 hu with hu|hu
   ·exact hV u (AjY hu)
   ·rw[AiY]at hu;rw[hu];exact ADY hs (fun y hy=>hV y (AjT hy)) hz
theorem dh {ss:List Sr}{t:Int}{T:List Nd}{l:List El}(hs:D1 none ss=true)(h:Bl FF T ss t=some l):(∀e∈l,tA ss e)∧qB l:=by
 unfold Bl at h;cases hr:Ip FF ss t T [] with
 | none=>rw[hr]at h;cases h
 | some st=>
  rw[hr]at h;have hV:=AAL hs T [] st hr (fun x hx=>by cases hx)
  change (st.head?.map fun v:Vv=>if v.kind=1 then[(⟨[],v.v⟩:El)] else v.vec)=some l at h
  cases st with
  | nil=>cases h
  | cons v st=>
   simp only[AkA,Aiv,AiO]at h;have hv:=hV v (by simp);split at h
   ·rename_i hk;subst h;exact⟨fun e he=>by rw[AiY]at he;subst he;exact⟨rfl,.inl (hv.one hk)⟩,List.pairwise_singleton _ _⟩
   ·subst h;exact⟨hv.el,hv.up⟩
theorem qD {t:Int}:∀{l:List El} {q:Option (List Lb)},(∀e∈l,GD e.ls=0)→qB l→(∀k,q=some k→∀e∈l,BX k e.ls<0)→D1 q (l.map fun e=>⟨e.ls,[(t,e.v)]⟩)=true
 | [],q,_,_,_=>by cases q<;>rfl
 | e::l,q,h1,h2,h3=>by
  have h2:=List.pairwise_cons.1 h2;rw[Ai4,Lr];simp only[AiS,AiW];refine⟨⟨⟨h1 e (by simp),rfl⟩,?_⟩,qD (fun u hu=>h1 u (AiX _ hu)) h2.2 fun k hk u hu=>by cases hk;exact h2.1 u hu⟩;cases q with
  | none=>rfl
  | some k=>exact Aia (h3 k rfl e (by simp))
theorem bN {ss:List Sr}{t:Int}(hS:jP ss):∀(T:List Nd) (st r:List Vv) (ty:List Int),DA T (st.map (·.kind))=some ty→Ip FF ss t T st=some r→(∀x∈st,VG x)→r.map (·.kind)=ty
 | [],st,r,ty,hT,hr,hV=>by
  cases hr;exact Aij hT
 | x::T,st,r,ty,hT,hr,hV=>by
  have Eu:(BQ x (st.map (·.kind))).1=0:=Aj4 fun Ah=>by
   rw[DA,AiK Ah]at hT;cases hT
  rw[DA,AiL Eu]at hT;obtain⟨hf,zR,qZ,Sz,zt⟩:=V1 Eu;have hpn:=O1 hf;rw[Aii]at Sz zt zR;rw[zt,←List.map_drop,←List.map_take]at hT;rw[←List.map_drop]at Sz;rw[Ip]at hr;have pj:((st.drop (st.length-x.parts.toNat)).length:Int)=x.parts:=by rw[Aic];omega
  have jQ:∀y∈st.drop (st.length-x.parts.toNat),VG y:=fun y hy=>hV y (AjT hy);cases hz:Ez FF ss t x (st.drop (st.length-x.parts.toNat)) with
  | none=>rw[hz]at hr;cases hr
  | some z=>
   rw[hz]at hr;obtain⟨w1,w2,w3⟩:=V0 hS.ok hS.nn hf Sz pj jQ hz;exact bN hS T (st.take (st.length-x.parts.toNat)++[z]) r ty (by rw[Aiq,Ajm,w2];exact hT) hr fun u hu=>by
    rcases List.mem_append.1 hu with hu|hu
    ·exact hV u (AjY hu)
    ·rw[AiY]at hu;rw[hu];exact w1
theorem nI {ss:List Sr}{t:Int}{T:List Nd}{l:List El}(hS:jP ss)(hT:I4 T=some 1)(h:Bl FF T ss t=some l):∃v,l=[⟨[],v⟩]:=by
 obtain⟨Bz,_⟩:=Jx hT;unfold Bl at h;cases hr:Ip FF ss t T [] with
 | none=>rw[hr]at h;cases h
 | some st=>
  rw[hr]at h;have hk:=bN hS T [] st _ Bz hr (fun x hx=>by cases hx)
  change (st.head?.map fun v:Vv=>if v.kind=1 then[(⟨[],v.v⟩:El)] else v.vec)=some l at h
  cases st with
  | nil=>cases h
  | cons v st=>
   simp only[AkA,Aiv,AiO]at h;have hv:v.kind=1:=by
    have:=Aie List.head? hk;simpa using this
   rw[AiL hv]at h;exact⟨v.v,h.symm⟩
theorem inst_shape {ss:List Sr}{t:Int}{T:List Nd}(hM:Modest T ss)(h:(instF T ss t).1=0):(∃k,I4 T=some k∧(k=1→∃v,(instF T ss t).2=[⟨[],v⟩]))∧(∀e∈(instF T ss t).2,tA ss e)∧D1 none ((instF T ss t).2.map fun e=>⟨e.ls,[(t,e.v)]⟩)=true∧(instF T ss t).2.length≤100000000000:=by
 unfold instF at h ⊢;split
 ·rename_i h0;rw[AiL h0]at h;exact absurd h h0
 ·rename_i h0;rw[AiK h0]at h;split
  ·rename_i h1;rw[AiL h1]at h;cases h
  ·rename_i h1;rw[AiK h1]at h;have Ju:=Aig.1 h0;obtain⟨k,hk,EI⟩:∃k,I4 T=some k∧D1 none ss=true:=by
    unfold Ef at Ju;cases hq:I4 T with
    | none=>rw[hq]at Ju;dsimp only at Ju;exact absurd Ju (by decide)
    | some k=>
     rw[hq]at Ju;dsimp only at Ju;by_cases h3:k=3
     ·rw[AiL h3]at Ju;exact absurd Ju (by decide)
     ·rw[AiK h3]at Ju;cases ho:D1 none ss with
      | true=>exact⟨k,rfl,rfl⟩
      | false=>rw[ho]at Ju;exact absurd Ju (by decide)
   cases hm:Bl FF T ss t with
   | none=>rw[hm]at h;cases h
   | some l=>
    obtain⟨s1,s2⟩:=dh EI hm;have hS:=jP.of hM EI;obtain⟨Bz,hlen⟩:=Jx hk;have h5:=(Pe hS Bz hm).2;have h6:=Aj6 hlen hM.s;exact⟨⟨k,hk,fun sj=>nI hS (by rw[hk,sj]) hm⟩,s1,qD (fun e he=>(s1 e he).1) s2 (fun k hk=>by cases hk),by show l.length≤_;omega⟩
structure Cl where
 kind:Int
 text:ByteArray
 span:Int
 op:Nat
 fn:Nat
 ag:Nat
 kept:Bool
 big:Bool
 name:Bool
 lp:Bool
 rp:Bool
 comma:Bool
 lsq:Bool
 rsq:Bool
 lbr:Bool
 minus:Bool
 bool:Bool
 on:Bool
 ign:Bool
 by_:Bool
 out:Bool
 off:Bool
end TwW
end
section
namespace TwW
open Go Tw
def Oct (l:List Int):Prop:=∀x∈l,0≤x∧x<256
theorem SU {l:List Int}(h:Oct l):(l.map fun x=>UInt8.ofNat x.toNat).map (fun b=>(b.toNat:Int))=l:=by
 rw[List.map_map]
 conv=>rhs;rw[←List.map_id l]
 refine List.map_congr_left fun x hx=>?_;have:=h x hx;simp only[Function.comp,id,UInt8.toNat_ofNat'];omega
theorem str_inj {l m:List Int}(hl:Oct l)(hm:Oct m)(h:strOfNums l=strOfNums m):l=m:=by
 rw[←SU hl,←SU hm,YR,YR]at h;have:=Aie (fun b:ByteArray=>b.data.toList) h;rw[←SU hl,←SU hm];exact Aie _ this
theorem nJ:∀n:Nat,Oct (uv n):=by
 intro n
 induction n using Nat.strongRecOn with
 | _ n ih=>
  by_cases h:128≤n
  ·rw[Q5 h];intro x hx;rcases AiT.1 hx with rfl|hx
   ·omega
   ·exact ih _ (by omega) x hx
  ·rw[HU h];intro x hx;rw[AiY]at hx;omega
theorem qE (s:ByteArray):Oct (kD s):=fun x hx=>by
 obtain⟨u,_,rfl⟩:=List.mem_map.1 hx;have:=u.toNat_lt;omega
theorem Oct.app {l m:List Int}(h:Oct l)(g:Oct m):Oct (l++m):=fun x hx=>by
 rcases List.mem_append.1 hx with hx|hx
 ·exact h x hx
 ·exact g x hx
theorem jZ (ls:List Lb):Oct (r8 ls):=by
 unfold r8;refine(nJ _).app fun x hx=>?_;obtain⟨y,_,hy⟩:=List.mem_flatMap.1 hx;exact(((nJ _).app (qE _)).app ((nJ _).app (qE _))) x hy
theorem ja:∀{a b:List Lb},a.length=b.length→a.flatMap Qa=b.flatMap Qa→a=b
 | [],[],_,_=>rfl
 | [],_::_,h,_=>by simp at h
 | _::_,[],h,_=>by simp at h
 | x::a,y::b,hl,h=>by
  rw[Aje,Aje,show Qa x=uv x.1.size++kD x.1++(uv x.2.size++kD x.2) from rfl,show Qa y=uv y.1.size++kD y.1++(uv y.2.size++kD y.2) from rfl]at h;simp only[AjL]at h;obtain⟨h1,h⟩:=mI _ _ _ _ h;obtain⟨h2,h⟩:=List.append_inj h (by rw[PZ,PZ];exact h1);obtain⟨h3,h⟩:=mI _ _ _ _ h;obtain⟨h4,h⟩:=List.append_inj h (by rw[PZ,PZ];exact h3);have e:x=y:=Prod.ext (pJ h2) (pJ h4);rw[e,ja (by simpa using hl) h]
theorem SX {a b:List Lb}(h:EO a=EO b):a=b:=by
 have:=str_inj (jZ a) (jZ b) h;unfold r8 at this;obtain⟨h1,h2⟩:=mI _ _ _ _ this;exact ja h1 h2
theorem jb {ls:List Lb}{v:Int}:∀{gs:List Rg},(∀g∈gs,g.ls≠ls)→D6 ls v gs=gs++[⟨ls,[v]⟩]
 | [],_=>rfl
 | g::gs,h=>by
  unfold D6;rw[AiK (fun e=>h g (Aih ..) (SX e)),jb fun x hx=>h x (AiX _ hx)];rfl
end TwW
end
section
namespace TwW
open Go Tw
section
variable {w:ByteArray}{ss:List Sr}{t:Int}
theorem Yx {α:Type}{k:ByteArray}{x:α}:∀{m:List (ByteArray×α)},(∀y∈m,y.1≠k)→KC m k x=m++[(k,x)]
 | [],_=>rfl
 | (a,b)::m,h=>by
  unfold KC;rw[AiK (h (a,b) (Aih ..)),Yx fun y hy=>h y (AiX _ hy)];rfl
theorem jc {n:Nd}:∀{L:List El} {m:List (ByteArray×El)},L.Pairwise (fun a b=>D0 n a.ls≠D0 n b.ls)→(∀y∈m,∀x∈L,y.1≠EO (D0 n x.ls))→L.foldl (fun m x=>KC m (EO (D0 n x.ls)) x) m=m++L.map fun x=>(EO (D0 n x.ls),x)
 | [],m,_,_=>by simp
 | x::L,m,h,hm=>by
  obtain⟨h1,h2⟩:=List.pairwise_cons.1 h;rw[Ajb,Yx fun y hy=>hm y hy x (Aih ..),jc h2 (fun y hy z hz=>?_),Ai4,AjL]
  ·rfl
  ·rcases List.mem_append.1 hy with hy|hy
   ·exact hm y hy z (AiX _ hz)
   ·rw[AiY]at hy;subst hy;exact fun e=>h1 z hz (SX e)
theorem T6 {α:Type}{f:α→Option α}{p:α→Bool}:∀{l:List α},(∀x∈l,f x=if p x=true then some x else none)→l.filterMap f=l.filter p
 | [],_=>rfl
 | x::l,h=>by
  rw[List.filterMap_cons,h x (Aih ..),Aj8,T6 fun y hy=>h y (AiX _ hy)];cases p x<;>rfl
end
end TwW
end
section
namespace TwW
open Go Tw Go.RowKit Go.Proofs.Tryz
theorem AAM:∀x y:List UInt8,Lib.compareBytes x y=if Op.bytesLess x y=true then -1 else if x=y then 0 else 1
 | [],[]=>rfl
 | [],_::_=>rfl
 | _::_,[]=>by simp[Lib.compareBytes,Op.bytesLess]
 | a::x,b::y=>by
  have ih:=AAM x y;unfold Lib.compareBytes Op.bytesLess;by_cases h:a=b
  ·subst h;simp[ih]
  ·by_cases hl:a<b
   ·simp[h,hl]
   ·have:b<a:=by
     have h1:a.toNat≠b.toNat:=fun e=>h (UInt8.toNat_inj.1 e);have h2:¬a.toNat<b.toNat:=hl;show b.toNat<a.toNat
     omega
    simp[h,hl,this]
theorem toList_eq (a:ByteArray):a.toList=a.data.toList:=by
 exact ByteArray.toList_eq a
section
variable {σ:Hp}{R:Rr}
theorem Yy {a b:ByteArray}(h:R (.returned (.I (F0 a b))) σ):Spec prog 65 #[.string a,.string b] σ R:=by
 have e:F0 a b=if Op.bytesLess a.toList b.toList=true then -1 else if a.toList=b.toList then 0 else 1:=by
  unfold F0;rw[AAM,toList_eq,toList_eq]
 rw[e]at h;refine Wp.start ⟨Op.bytesLess a.toList b.toList,fun w _=>by simp[eqGuard,binOp,Op.stringOp],fun ht=>?_,fun hf=>⟨!(sle a b),fun w _=>by simp[eqGuard,binOp,Op.stringOp,sle],fun ht=>?_,fun hf2=>?_⟩⟩
 ·rw[AiL ht]at h;exact h
 ·have hs:sle a b=false:=by simpa using ht
  rw[AiK (by rw[hf];decide),AiK (fun e=>by unfold sle at hs;rw[e]at hs;simp at hs)]at h;exact h
 ·have hs:sle a b=true:=by simpa using hf2
  have:a.toList=b.toList:=by
   unfold sle at hs;rw[hf]at hs;simpa using hs
  rw[AiK (by rw[hf];decide),AiL this]at h;exact h
theorem Lz {p q:Option Addr}{n c m d:Nat}{ls ms:List Lb}(hr:Dy σ p n ls)(hs:Dy σ q m ms)(h:R (.returned (.I (BX ls ms))) σ):Spec prog 44 #[.slice p n c,.slice q m d] σ R:=by
 have hl:ls.length=n:=hr.1;have hm:ms.length=m:=hs.1;refine Fs.start ?_
 suffices H:∀g k:Nat,n-k=g→k≤n→k≤m→BX ls ms=BX (ls.drop k) (ms.drop k)→Fs.Fm R p n c q m d (k:Int) σ from H n 0 rfl (AiR _) (AiR _) rfl
 intro g
 induction g with
 | zero=>
  intro k hg hk hkm he;have QC:k=n:=by omega
  rw[Aib (by omega)]at he;refine Fs.As ⟨fun hh=>by omega,fun _=>⟨fun h1=>?_,fun h1=>⟨fun h2=>by omega,fun h2=>?_⟩⟩⟩
  ·obtain⟨y,hy⟩:=hs.ex (k:=k) (by omega);rw[Ey hy]at he;rw[he]at h;exact h
  ·rw[Aib (by omega)]at he;rw[he]at h;exact h
 | succ g ih=>
  intro k hg hk hkm he;have QC:k<n:=by omega
  obtain⟨x,hx⟩:=hr.ex QC;obtain⟨b,o,hp,NQ⟩:=Dy.at hr hx;by_cases hm':k<m
  ·obtain⟨y,hy⟩:=hs.ex hm';obtain⟨b',o',hq,SC⟩:=Dy.at hs hy;subst hp;subst hq;rw[Ey hx,Ey hy]at he;have he:BX ls ms=if Mq F0 F0 x y=0 then BX (ls.drop (k+1)) (ms.drop (k+1)) else Mq F0 F0 x y:=he
   refine Fs.As ⟨fun _=>⟨fun _=>⟨b,o,rfl,by omega,x.1,by simpa using NQ.1,b',o',rfl,by omega,y.1,by simpa using SC.1,Yy ⟨_,rfl,fun Ah=>?_,fun heq=>⟨by omega,x.2,by simpa using NQ.2.1,by omega,y.2,by simpa using SC.2.1,Yy ⟨_,rfl,fun Ah=>?_,fun AY0=>⟨AJ QC hr.big,ih (k+1) (by omega) (by omega) (by omega) ?_⟩⟩⟩⟩⟩,fun hh=>by omega⟩,fun hh=>by omega⟩
   ·have e2:Mq F0 F0 x y=F0 x.1 y.1:=by unfold Mq;rw[AiK Ah]
    rw[e2,AiK Ah]at he;rw[he]at h;exact h
   ·have e2:Mq F0 F0 x y=F0 x.2 y.2:=by unfold Mq;rw[AiL (Aig.1 heq)]
    rw[e2,AiK Ah]at he;rw[he]at h;exact h
   ·have e2:Mq F0 F0 x y=F0 x.2 y.2:=by unfold Mq;rw[AiL (Aig.1 heq)]
    rw[e2,AiL (Aig.1 AY0)]at he;exact he
  ·rw[Ey hx,show ms.drop k=[] from Aib (by omega)]at he;refine Fs.As ⟨fun _=>⟨fun hh=>by omega,fun _=>⟨fun h1=>by omega,fun h1=>⟨fun h2=>?_,fun h2=>by omega⟩⟩⟩,fun hh=>by omega⟩;rw[he]at h;exact h
theorem Yz {p:Nat→Bool}(h:(List.range 256).all p=true)(u:UInt8):p u.toNat=true:=List.all_eq_true.1 h _ (List.mem_range.2 u.toNat_lt)
theorem ASq (u:UInt8):Go.bits .and .u8 ((u.toNat:Nat):Int) 31=((u.toNat%32:Nat):Int):=AiP (Yz (p:=fun n=>decide (Go.bits .and .u8 (n:Int) 31=((n%32:Nat):Int))) (by kernel_rfl) u)
theorem ASr (u:UInt8):Go.bits .and .u8 ((u.toNat:Nat):Int) 15=((u.toNat%16:Nat):Int):=AiP (Yz (p:=fun n=>decide (Go.bits .and .u8 (n:Int) 15=((n%16:Nat):Int))) (by kernel_rfl) u)
theorem AY1 (u:UInt8):Go.bits .and .u8 ((u.toNat:Nat):Int) 7=((u.toNat%8:Nat):Int):=AiP (Yz (p:=fun n=>decide (Go.bits .and .u8 (n:Int) 7=((n%8:Nat):Int))) (by kernel_rfl) u)
theorem ASs (u:UInt8):Go.bits .and .u8 ((u.toNat:Nat):Int) 63=((u.toNat%64:Nat):Int):=AiP (Yz (p:=fun n=>decide (Go.bits .and .u8 (n:Int) 63=((n%64:Nat):Int))) (by kernel_rfl) u)
theorem AAN (u:UInt8):Go.bits .and .u8 ((u.toNat:Nat):Int) 192=((u.toNat/64*64:Nat):Int):=AiP (Yz (p:=fun n=>decide (Go.bits .and .u8 (n:Int) 192=((n/64*64:Nat):Int))) (by kernel_rfl) u)
theorem wrap32 {x:Int}(h:0≤x∧x<2147483648):IntKind.i32.wrap x=x:=by
 simp[IntKind.wrap,IntKind.bits,IntKind.signed];omega
theorem AY2 {a b:Nat}(ha:a<1048576)(hb:b<64):Go.bits .or .i32 ((a*64:Nat):Int) (b:Int)=((a*64+b:Nat):Int):=by
 have e:Go.bits .or .i32 ((a*64:Nat):Int) (b:Int)=IntKind.i32.wrap (((BitVec.ofInt 32 ((a*64:Nat):Int)) ||| (BitVec.ofInt 32 (b:Int))).toNat:Int):=rfl;have h1:(BitVec.ofInt 32 ((a*64:Nat):Int)).toNat=a*64:=by
  rw[BitVec.toNat_ofInt];have:(((2^32:Nat):Int))=4294967296:=by decide
  omega
 have h2:(BitVec.ofInt 32 (b:Int)).toNat=b:=by
  rw[BitVec.toNat_ofInt];have:(((2^32:Nat):Int))=4294967296:=by decide
  omega
 have h3:=Nat.two_pow_add_eq_or_of_lt (i:=6) hb a;rw[e,BitVec.toNat_or,h1,h2,Nat.mul_comm a 64,show(64:Nat)=2^6 from rfl,←h3,Nat.mul_comm (2^6) a];exact wrap32 (by omega)
theorem A1 {s:ByteArray}{k i n v:Nat}{least:Int}{u:UInt8}(hk:k+i≤1000000000)(hi:i<n)(hu:s.data.toList[k+i]?=some u)(h1:128≤u.toNat∧u.toNat≤191)(hv:v<32768)
  (h:AW.Zc R s (k:Int) (n:Int) least ((v*64+(u.toNat-128):Nat):Int) ((i+1:Nat):Int) σ):AW.Zc R s (k:Int) (n:Int) least (v:Int) (i:Int) σ:=by
 have EG:s.data[Int.toNat ((k:Int)+(i:Int))]?=some u:=by
  rw[show Int.toNat ((k:Int)+(i:Int))=k+i by omega];simpa using hu
 refine AW.dF ⟨fun _=>⟨by unfold AG;omega,u,by omega,EG,fun gO h62=>⟨fun Ah=>?_,fun _=>⟨by decide,fun x65 h65=>⟨by unfold AG;omega,u,by omega,EG,fun x71 h71 tn h72 x73 h73=>?_⟩⟩⟩⟩,fun hh=>by omega⟩
 ·rw[h62,AAN]at Ah;exact absurd (by omega) Ah
 ·have e65:x65=((v*64:Nat):Int):=by
   rw[h65];have:(v:Int)*2^Int.toNat 6=((v*64:Nat):Int):=by
    show(v:Int)*64=_
    omega
   rw[this];exact wrap32 (by omega)
  rw[ASs]at h71;have e72:tn=((u.toNat%64:Nat):Int):=by
   rw[h72,h71];exact wrap32 (by omega)
  have e73:x73=((v*64+(u.toNat-128):Nat):Int):=by
   rw[h73,e65,e72,AY2 (by omega) (by omega)];omega
  rw[e73];refine⟨by unfold AG;omega,?_⟩;rw[show((i+1:Nat):Int)=(i:Int)+1 by omega]at h;exact h
end
end TwW
end
section
namespace TwW
open Go Tw
theorem Au.di {s:Nat}{σ σ':Hp}{p:Option Addr}{n c:Nat}{cs:List Value}(ho:Au s σ p n c cs)(h:∀a,p=some a→σ' a.block=σ a.block):Au s σ' p n c cs:=
 ⟨ho.1,ho.2.1,ho.2.2.imp id fun⟨b',o',arr,T,hp,hb,r⟩=>⟨b',o',arr,T,hp,by rw[h _ hp];exact hb,r⟩⟩
theorem Hp.AAO {σ σ':Hp}{p:Option Addr}(hx:Ext σ (σ'.del p)):∀a,p=some a→(σ.new σ') a.block=σ' a.block:=fun a ha=>by
 subst ha;cases h1:σ a.block with
 | none=>simp only[Hp.new,h1]
 | some u=>
  have:=hx _ _ h1;simp[Hp.del]at this
theorem AL.ADZ {α:Type}{s:Nat}{E:Hp→List Value→α→Prop}{σ0 σ:Hp}{p:Option Addr}{n c:Nat}{xs:List α}(hE:∀σ σ' vs x,E σ vs x→E σ' vs x)(h:AL s E σ0 σ p n c xs):AT s E (σ0.new σ) p n xs:=by
 obtain⟨⟨h1,cs,h2,h3⟩,h4⟩:=h;exact⟨h1,cs,(Au.di h2 (Hp.AAO h4)).rd,h3.1,fun i x hi=>hE _ _ _ _ (h3.2 i x hi)⟩
end TwW
end
section
namespace TwW
open Go Tw Go.RowKit Go.Proofs.Tryz
section
variable {σ σ' σ0:Hp}{R:Rr}{p q:Option Addr}{n c m d:Nat}
theorem AAP {ns:List ByteArray}{s:ByteArray}(hr:G6 1 σ p n (ns.map .string))(hn:n≤4611686018427387904)(h:R (.returned (.bool (Hi s ns))) σ):Spec prog 186 #[.slice p n c,.string s] σ R:=by
 have hl:ns.length=n:=by have:=hr.1;rw[Aii]at this;omega
 refine Rk.start ?_
 suffices H:∀g i:Nat,n-i=g→i≤n→s ∉ ns.take i→Rk.Fm R p n c s (i:Int) σ from H n 0 rfl (AiR _) (by simp)
 intro g
 induction g with
 | zero=>
  intro i hg hi Cg;rw[AiQ (by omega)]at Cg;refine Rk.As ⟨fun hh=>by omega,fun _=>?_⟩;rw[show Hi s ns=false by rw[AjU,ne_eq,YS];exact Cg]at h;exact h
 | succ g ih=>
  intro i hg hi Cg;have BF:i<n:=by omega
  obtain⟨x,hx⟩:∃x,ns[i]?=some x:=⟨_,AiN (by omega)⟩;obtain⟨b,o,rfl,CF⟩:=G6.at1 hr (k:=i) (v:=.string x) (by rw[Ait,hx];rfl);refine Rk.As ⟨fun _=>⟨b,o,rfl,by unfold In;omega,x,by rw[Aiu];exact CF,fun ht=>?_,fun hf=>⟨AJ BF hn,ih (i+1) (by omega) (by omega) fun hm=>?_⟩⟩,fun hh=>by omega⟩
  ·rw[mJ,AiW]at ht;rw[show Hi s ns=true by rw[YS,←ht];exact AiM hx]at h;exact h
  ·rw[mJ,Aik]at hf;rw[AQ hx]at hm;rcases List.mem_append.1 hm with hm|hm
   ·exact Cg hm
   ·exact hf (AiY.1 hm).symm
theorem RG {ls:List Lb}{ns:List ByteArray}{t:Bool}(hr:Dy σ p n ls)(hn:n≤1000000)(hs:G6 1 σ q m (ns.map .string))(hm:m≤4611686018427387904)
  (h:∀p' n' c' σ',Dy (σ.new σ') p' n' (ls.filter fun x=>Hi x.1 ns==t)→Ext σ σ'→R (.returned (.slice p' n' c')) σ'):Spec prog 149 #[.slice p n c,.slice q m d,.bool t] σ R:=by
 have hl:ls.length=n:=hr.1;have H9:=hr.big;refine H7.start ?_
 suffices H:∀g i:Nat,∀p7 n7 c7 σ',n-i=g→i≤n→AL 2 BL σ σ' p7 n7 c7 ((ls.take i).filter fun x=>Hi x.1 ns==t)→H7.Ab R p n c q m d t p7 n7 c7 (i:Int) σ' from H n 0 none 0 0 σ rfl (AiR _) (AL.nil (.refl _))
 intro g
 induction g with
 | zero=>
  intro i p7 n7 c7 σ' hg hi ho;rw[AiQ (by omega)]at ho;exact H7.AO ⟨fun hh=>by omega,fun _=>h _ _ _ σ' (ho.ADZ fun _ _ _ _ h=>h) ho.up⟩
 | succ g ih=>
  intro i p7 n7 c7 σ' hg hi ho;have BF:i<n:=by omega
  obtain⟨x,hx⟩:=hr.ex BF;obtain⟨b,o,rfl,CF⟩:=Dy.at hr hx;have P6:=CF.mono ho.up;have hn7:n7≤i:=by
   have h1:=ho.1.1;have h2:=Ais (fun x:Lb=>Hi x.1 ns==t) (ls.take i);rw[AiU]at h2;omega
  have next:∀p8 n8 c8 σ2,AL 2 BL σ σ2 p8 n8 c8 (((ls.take i).filter fun x=>Hi x.1 ns==t)++if(Hi x.1 ns==t)=true then[x] else[])→H7.Iy R (aD b o) n c q m d t p8 n8 c8 (i:Int) σ2:=fun p8 n8 c8 σ2 A6=>
   H7.Gf ⟨AJ BF H9,by
    have:=ih (i+1) p8 n8 c8 σ2 (by omega) (by omega) (by
     rw[AQ hx,Ajd,Aj8];exact A6)
    rw[show((i+1:Nat):Int)=(i:Int)+1 by omega]at this;exact this⟩
  have By:In (i:Int) (n:Int):=by unfold In;omega
  refine H7.AO ⟨fun _=>⟨b,o,rfl,By,x.1,by simpa using P6.1,AAP (hs.mono ho.up) hm ⟨_,rfl,fun ht=>⟨fun tt=>⟨By,x.1,x.2,by simpa using P6,fun LY h29=>?_⟩,fun tf=>?_⟩,fun hf=>⟨fun tt=>?_,fun tf=>⟨By,x.1,x.2,by simpa using P6,fun LY h29=>?_⟩⟩⟩⟩,fun hh=>by omega⟩
  ·subst tt;refine AL.Hu BL.mono ho rfl (BL.one σ _ x rfl) (x:=x) rfl (by omega) (fun p' c' σ4 FW _=>⟨_,_,_,rfl,next _ _ _ _ ?_⟩) h29;rw[ht];exact FW
  ·subst tf;refine next _ _ _ _ ?_
   rw[ht];simpa using ho
  ·subst tt;refine next _ _ _ _ ?_
   rw[hf];simpa using ho
  ·subst tf;refine AL.Hu BL.mono ho rfl (BL.one σ _ x rfl) (x:=x) rfl (by omega) (fun p' c' σ4 FW _=>⟨_,_,_,rfl,next _ _ _ _ ?_⟩) h29;rw[hf];exact FW
theorem IG {ls:List Lb}(hr:Dy σ p n ls)(hn:n≤1000000)(h:∀p' n' c' σ',Dy (σ.new σ') p' n' (Bd ls)→Ext σ σ'→R (.returned (.slice p' n' c')) σ'):Spec prog 107 #[.slice p n c] σ R:=by
 refine Wq.start fun b hb=>?_;have hx:=Ext.set (o:=.cells #[(.string (ByteArray.mk #[95,95,110,97,109,101,95,95]))] 9 (0,0)) hb;refine RG (ns:=[SA]) (hr.mono BL.mono hx) hn (YT (Hp.AA _ _ _)) (by decide) fun p' n' c' σ' ho KU=>⟨_,_,_,rfl,h p' n' c' σ' ?_ (hx.trans KU)⟩;have e:(ls.filter fun x=>Hi x.1 [SA]==false)=Bd ls:=by
  unfold Bd;exact List.filter_congr fun x _=>by cases Hi x.1 [SA]<;>rfl
 rw[←e];exact ho.mono BL.mono (Ext.Eg hx)
theorem Qg {g:Int}{ls:List Lb}{ns:List ByteArray}(hr:Dy σ p n ls)(hn:n≤1000000)(hs:G6 1 σ q m (ns.map .string))(hm:m≤4611686018427387904)
  (h:∀p' n' c' σ',Dy (σ.new σ') p' n' (if g=1∨g=3 then SB ns ls else if g=2∨g=4 then Bd (Qb ns ls) else[])→Ext σ σ'→R (.returned (.slice p' n' c')) σ'):Spec prog 109 #[.I g,.slice q m d,.slice p n c] σ R:=by
 have ek:(ls.filter fun x=>Hi x.1 ns==true)=SB ns ls:=by
  unfold SB;exact List.filter_congr fun x _=>by cases Hi x.1 ns<;>rfl
 have ed:(ls.filter fun x=>Hi x.1 ns==false)=Qb ns ls:=by
  unfold Qb;exact List.filter_congr fun x _=>by cases Hi x.1 ns<;>rfl
 have NI:(g=1∨g=3)→Spec prog 149 #[.slice p n c,.slice q m d,.bool true] σ (BB R (CS fun p13 n13 c13 y=>R (.returned (.slice p13 n13 c13)) y)):=fun hg=>
  RG hr hn hs hm fun p' n' c' σ' ho hx=>⟨_,_,_,rfl,h p' n' c' σ' (by rw[AiL hg,←ek];exact ho) hx⟩
 have drp:¬(g=1∨g=3)→(g=2∨g=4)→Spec prog 149 #[.slice p n c,.slice q m d,.bool false] σ (BB R (CS fun rE n19 lM y=>Spec prog 107 #[.slice rE n19 lM] y (BB R (CS fun p20 n20 c20 AB=>R (.returned (.slice p20 n20 c20)) AB)))):=fun hg jI=>
  RG hr hn hs hm fun p' n' c' σ' ho hx=>⟨_,_,_,rfl,IG (ho.mono BL.mono (Ext.B9 _ _)) (by
   have h1:=ho.1;have h2:=Ais (fun x:Lb=>Hi x.1 ns==false) ls;have h3:ls.length=n:=hr.1;omega) fun p2 n2 c2 σ2 Ha An=>⟨_,_,_,rfl,h p2 n2 c2 σ2 (by
    rw[AiK hg,AiL jI,←ed];exact Ha.mono BL.mono (Ext.Eg hx)) (hx.trans An)⟩⟩
 have none_:¬(g=1∨g=3)→¬(g=2∨g=4)→R (.returned (.N)) σ:=fun h1 h2=>h none 0 0 σ (by rw[AiK h1,AiK h2];exact AT.nil) (.refl _);refine Eh.start ⟨fun h1=>Eh.Fg ⟨fun _=>NI (.inl h1),fun hh=>by cases hh⟩,fun h1=>Eh.Fg ⟨fun ht=>NI (.inr (AiP ht)),fun hf=>?_⟩⟩;have h3:=Aio hf;have Cg:¬(g=1∨g=3):=fun hh=>hh.elim h1 h3;exact⟨fun h2=>Eh.Gf ⟨fun _=>drp Cg (.inl h2),fun hh=>by cases hh⟩,fun h2=>Eh.Gf ⟨fun ht=>drp Cg (.inr (AiP ht)),fun hf=>none_ Cg fun hh=>hh.elim h2 (Aio hf)⟩⟩
theorem AL.eld {T Et ty:TypeId}{bs:Nat}[J6 prog T Et 2 bs]{xs:List El}{ls:List Lb}{v:Int}{Φ:Value→Hp→Prop}(ho:AL 2 Aa σ0 σ p n c xs)(hr:Dy (σ.del p) q m ls)(hn:(n+1)*bs≤140737488355328)
  (hΦ:∀p' c' σ',AL 2 Aa σ0 σ' p' (n+1) c' (xs++[⟨ls,v⟩])→Ext (σ.del p) (σ'.del p')→Φ (.slice p' (n+1) c') σ') {b:Nat} (hb:σ b=none) :
  AK prog (Builtin.append_ #[T,T] ty #[.slice p n c,.slice (some ⟨b,0,none⟩) 1 1]) (σ.set b (.cells #[.slice q m d,.U v] Et (0,0))) Φ:=by
 have he:Aa (σ.del p) [.slice q m d,.U v] ⟨ls,v⟩:=⟨q,m,d,rfl,hr⟩;exact AL.Hu Aa.mono ho rfl (Aa.one _ _ _ he) he hn hΦ hb
structure RP where
 kind:Int
 v:Int
 es:List El
 w:Int
 rs:List Rg
def jd (σ:Hp)(vs:List Value)(x:RP):Prop:=∃p n c q m d,vs=[.I x.kind,.U x.v,.slice p n c,.I x.w,.slice q m d]∧AT 2 Aa σ p n x.es∧AT 2 KV σ q m x.rs∧n≤c
theorem jd.mono:Ht jd:=fun _ _ _ _ hx ⟨p,n,c,q,m,d,hv,h1,h2,h3⟩=>⟨p,n,c,q,m,d,hv,h1.mono Aa.mono hx,h2.mono KV.mono hx,h3⟩
abbrev Y0 (k v:Int)(p:Option Addr)(n c:Nat)(w:Int)(q:Option Addr)(m d:Nat):Value:=.agg #[.I k,.U v,.slice p n c,.I w,.slice q m d]
def nK (R:Rr)(σ:Hp)(x:RP):Prop:=∀σ' p n c q m d,Ext σ σ'→AT 2 Aa σ' p n x.es→AT 2 KV σ' q m x.rs→n≤c→R (.returned (Y0 x.kind x.v p n c x.w q m d)) σ'
theorem Ph {x:Nd}{a e:Option Addr}{k1 c1 k2 c2:Nat}{ls:List Lb}(hr:Dy σ p n ls)(hn:n≤1000000)(hs:G6 1 σ e k2 (x.names.map .string))(hm:k2≤4611686018427387904)(hg:x.BW=0∧x.names=[]∨x.BW=3∨x.BW=4)
  (h:∀p' n' c' σ',Dy (σ.new σ') p' n' (D0 x ls)→Ext σ σ'→R (.returned (.slice p' n' c')) σ'):Spec prog 155 #[KD x a k1 c1 e k2 c2,.slice p n c] σ R:=by
 refine af.start fun _=>⟨fun h0=>IG hr hn fun p' n' c' σ' ho hx=>⟨_,_,_,rfl,h p' n' c' σ' ?_ hx⟩,fun h0=>Qg hr hn hs hm fun p' n' c' σ' ho hx=>⟨_,_,_,rfl,h p' n' c' σ' ?_ hx⟩⟩
 ·have uB:x.names=[]:=by
   rcases hg with hg|hg|hg
   ·exact hg.2
   ·omega
   ·omega
  have e:D0 x ls=Bd ls:=by
   unfold D0;rw[AiK (by omega),uB];unfold Qb;rw[List.filter_eq_self.2 fun x _=>by simp[Hi]]
  rw[e];exact ho
 ·unfold D0;rcases hg with hg|hg|hg
  ·exact absurd hg.1 h0
  ·rw[AiL hg];rw[AiL (.inr hg)]at ho;exact ho
  ·rw[AiK (by omega)];rw[AiK (by omega),AiL (.inr hg)]at ho;exact ho
end
def Iu (x:Int):Prop:=0≤x∧x<18446744073709551616
theorem word_lt {s:Bool}{r:Nat}(h:r<9223372036854775808):Ieee.double.word s r<18446744073709551616:=by
 have e1:Ieee.double.signWeight=9223372036854775808:=by kernel_rfl
 unfold Ieee.Format.word;rw[e1];split<;>omega
theorem write_lt (d:Ieee.Datum):Ieee.double.write d<18446744073709551616:=by
 have e2:Ieee.double.binade=4503599627370496:=by kernel_rfl
 have e3:Ieee.double.infRung=9218868437227405312:=by kernel_rfl
 cases d with
 | nan s t=>
  have:=Aj1 t (show 0<4503599627370496 by decide);refine word_lt ?_;rw[e2,e3];omega
 | infinity s=>exact word_lt (by rw[e3];decide)
 | number s m p=>
  show Ieee.double.nearest s m p<_
  unfold Ieee.Format.nearest;split
  ·exact word_lt (by decide)
  ·refine word_lt ?_;have:=Nat.min_le_right (((m.log2:Nat):Nat)) 0;exact Nat.lt_of_le_of_lt (Nat.min_le_right _ _) (by rw[e3];decide)
theorem map_lt {o:Option Ieee.Datum}{r:Nat}(h:o.map Ieee.double.write=some r):r<18446744073709551616:=by
 cases o with
 | none=>cases h
 | some d=>rw[Aiv,AiO]at h;rw[←h];exact write_lt d
theorem toF_64 {x:Nat}(h:x<18446744073709551616):Iu (toF x:Nat):=⟨AjC _,by have:=toF_lt h;omega⟩
theorem nL (op:Int)(a b:Nat):RO op a b<18446744073709551616:=by
 unfold RO;have key:∀o:Option Nat,(∀r,o=some r→r<18446744073709551616)→AJi o<18446744073709551616:=fun o ho=>by
  cases o with
  | none=>exact(by decide:9221120237041090560<18446744073709551616)
  | some r=>exact toF_lt (ho r rfl)
 refine key _ fun r hr=>?_;unfold fAr at hr;split at hr
 ·exact map_lt hr
 ·split at hr
  ·exact map_lt hr
  ·split at hr
   ·exact map_lt hr
   ·exact map_lt hr
theorem O5 (op a b:Int):Iu (NL op a b):=⟨AjC _,by have:=nL op a.toNat b.toNat;unfold NL;omega⟩
theorem dj {x:Int}(h:Iu x):Iu (nrm x):=toF_64 (by have h1:=h.1;have h2:=h.2;omega)
theorem SY (n:Int):Iu (AV n):=by
 have:=write_lt (.number (decide (n<0)) n.natAbs 0);exact⟨AjC _,by
  have e:((FloatKind.f64.nearest n:Nat):Int)=AV n:=rfl;have e2:FloatKind.f64.nearest n=Ieee.double.write (.number (decide (n<0)) n.natAbs 0):=rfl;rw[←e,e2];omega⟩
theorem dn {f:Int→Int→Int}(hf:∀a b,Iu a→Iu b→Iu (f a b)):∀(l:List Int) (a:Int),Iu a→(∀x∈l,Iu x)→Iu (l.foldl f a)
 | [],a,h,_=>h
 | x::l,a,h,hl=>dn hf l _ (hf a x h (hl x (Aih ..))) fun y hy=>hl y (AiX _ hy)
theorem AAQ {vs:List Int}(h:∀x∈vs,Iu x):Iu (Ti vs):=by
 cases vs with
 | nil=>exact⟨Int.le_refl _,by decide⟩
 | cons v l=>exact dn (fun a b _ _=>O5 1 a b) l _ (dj (h v (Aih ..))) fun y hy=>h y (AiX _ hy)
theorem V4 {op:Int}{vs:List Int}(h:∀x∈vs,Iu x):Iu (KW op vs):=by
 cases vs with
 | nil=>exact⟨Int.le_refl _,show(0:Int)<18446744073709551616 by decide⟩
 | cons v l=>
  refine dj (dn (fun a b ha hb=>?_) l _ (h v (Aih ..)) fun y hy=>h y (AiX _ hy));unfold VK;split
  ·exact hb
  ·exact ha
theorem AAR {op:Int}{vs:List Int}(h:∀x∈vs,Iu x):Iu (foldI op vs):=by
 unfold foldI;split
 ·exact AAQ h
 ·split
  ·exact V4 h
  ·split
   ·exact V4 h
   ·split
    ·exact O5 _ _ _
    ·exact SY _
theorem ADb (vs:List Int):Iu (Hn vs):=by
 unfold Hn;have key:∀(l:List (Int×Int)) (a:Int),Iu a→Iu (l.foldl Hm a):=fun l=>by
  induction l with
  | nil=>exact fun a h=>h
  | cons x l ih=>
   intro a h;refine ih _ ?_;unfold Hm;split
   ·exact O5 _ _ _
   ·exact h
 exact key _ _ (O5 _ _ _)
theorem tB (vs:List Int):Iu (KX vs):=⟨AjC _,by
 have:=nL 1 (RO 3 (Ho (1%(vs.drop (vs.length-EH vs.length)).length) (vs.drop (vs.length-EH vs.length)).length (vs.drop (vs.length-EH vs.length)) 0 (0,0)).1 (Ho (1%(vs.drop (vs.length-EH vs.length)).length) (vs.drop (vs.length-EH vs.length)).length (vs.drop (vs.length-EH vs.length)) 0 (0,0)).1) (RO 3 (Ho (1%(vs.drop (vs.length-EH vs.length)).length) (vs.drop (vs.length-EH vs.length)).length (vs.drop (vs.length-EH vs.length)) 0 (0,0)).2 (Ho (1%(vs.drop (vs.length-EH vs.length)).length) (vs.drop (vs.length-EH vs.length)).length (vs.drop (vs.length-EH vs.length)) 0 (0,0)).2);have e:KX vs=(dM (vs.drop (vs.length-EH vs.length)):Nat):=rfl;have e2:dM (vs.drop (vs.length-EH vs.length))<18446744073709551616:=this;rw[e];omega⟩
theorem ADc {vs:List Int}(h:∀x∈vs,Iu x):Iu (vs.getLast?.getD 0):=by
 cases hq:vs.getLast? with
 | none=>exact⟨Int.le_refl _,by decide⟩
 | some z=>exact h z (Aj3 hq)
theorem ADd {op:Int}{vs:List Int}{w x:Int}(hv:∀x∈vs,Iu x)(h:Ee op vs w=some x):Iu x:=by
 unfold Ee at h;split at h
 ·rw[←Aij h];exact AAQ hv
 split at h
 ·rw[←Aij h];exact O5 _ _ _
 split at h
 ·rw[←Aij h];exact V4 hv
 split at h
 ·rw[←Aij h];exact V4 hv
 split at h
 ·rw[←Aij h];exact SY _
 split at h
 ·rw[←Aij h];exact dj (ADc hv)
 split at h
 ·rw[←Aij h];exact tB _
 split at h
 ·exact absurd h.symm (Option.some_ne_none _)
 split at h
 ·rw[←Aij h];exact O5 _ _ _
 split at h
 ·rw[←Aij h];exact ADb _
 ·rw[←Aij h];exact O5 _ _ _
theorem qF (op:BinOp)(x y:Int):Iu (Go.bits op .u64 x y):=by
 have h:=bits_within op .u64 x y;have e1:IntKind.min .u64=0:=rfl;have e2:IntKind.max .u64=18446744073709551615:=rfl;rw[e1,e2]at h;exact⟨h.1,by have:=h.2;omega⟩
theorem AKG (x:Int):Iu (P5 x):=toF_64 (by have h:=qF .andNot x 9223372036854775808;have h1:=h.1;have h2:=h.2;omega)
theorem qG (x:Int):Iu (Ot x):=dj (qF .xor x 9223372036854775808)
theorem AAS (x:Int):Iu (HY x):=by
 have:Ky x.toNat<18446744073709551616:=by
  unfold Ky;cases Ieee.double.read x.toNat with
  | nan s t=>exact(by decide:9221120237041090560<18446744073709551616)
  | infinity s=>exact toF_lt (write_lt _)
  | number s m i=>exact toF_lt (write_lt _)
 exact⟨AjC _,by unfold HY;omega⟩
theorem AKH (s:ByteArray):Iu (RB s):=by
 unfold RB;dsimp only;split
 ·exact toF_64 (by decide)
 ·split
  ·exact toF_64 (write_lt (.number _ _ 0))
  ·exact⟨AjC _,by have:=nL 4 (FloatKind.f64.nearest (Ga s).m) (SG.getD (-SH (Ga s)).toNat 0);omega⟩
theorem V5 (op a b:Int):Iu (A3 op a b).1:=by
 unfold A3;split
 ·exact O5 _ _ _
 ·dsimp only;split<;>exact SY _
structure uG (x:Vv):Prop where
 v:Iu x.v
 es:∀e∈x.vec,Iu e.v
 rs:∀r∈x.RV,∀v∈r.vs,Iu v
end TwW
end
section
namespace TwW
open Go Tw
def Plc:List (List UInt8)→List UInt8→Prop
 | [],_=>True
 | x::l,s=>∃i,i≤s.length∧Lib.occAt s x i=true∧Plc l (s.drop (i+x.length))
theorem je {s x:List UInt8}{i j:Nat}:Lib.occAt (s.drop i) x j=Lib.occAt s x (i+j):=by
 unfold Lib.occAt;rw[AjQ]
theorem Plc.mono:∀{l:List (List UInt8)} {s:List UInt8} {i j:Nat},i≤j→Plc l (s.drop j)→Plc l (s.drop i)
 | [],_,_,_,_,_=>trivial
 | x::l,s,i,j,JE,⟨k,h1,h2,h3⟩=>by
  rw[je]at h2;rw[Aic]at h1;rw[AjQ]at h3;by_cases hj:j≤s.length
  ·refine⟨k+(j-i),by rw[Aic];omega,by rw[je,show i+(k+(j-i))=j+k by omega];exact h2,?_⟩;rw[AjQ,show i+(k+(j-i)+x.length)=j+(k+x.length) by omega];exact h3
  ·have hd:s.drop (j+k)=[]:=Aib (by omega);unfold Lib.occAt at h2;rw[hd]at h2;have hx:x=[]:=by
    cases x with
    | nil=>rfl
    | cons a b=>simp at h2
   subst hx;have hd2:s.drop (j+(k+([]:List UInt8).length))=[]:=Aib (by simp;omega);rw[hd2]at h3;refine⟨(s.drop i).length,AiV _,by simp[Lib.occAt],?_⟩;rw[Aib (by simp)];exact h3
theorem qH (s:ByteArray)(i:Nat):(s.extract i s.size).data.toList=s.data.toList.drop i:=by
 rw[AjZ,AkR];have h:s.data.toList.length=s.size:=rfl;show(s.data.toList.drop i).take (s.size-i)=_
 exact AiQ (by rw[Aic,h];exact AiV _)
theorem qI:∀(l:List ByteArray) (s:ByteArray),Zk l s=true↔Plc (l.map (·.data.toList)) s.data.toList
 | [],s=>by simp[Zk,Plc]
 | t::r,s=>by
  rw[Zk,Ai4];rcases Lib.index_spec s.data.toList t.data.toList with ⟨h1,h2⟩|⟨i,h1,h2,h3,h4⟩
  ·rw[h1,AiL (by decide)]
   constructor
   ·intro h;cases h
   ·rintro⟨j,hj,AAT,_⟩
    rw[h2 j hj]at AAT;cases AAT
  ·have ZB:t.data.toList.length=t.size:=rfl;rw[h1,AiK (by omega),Aiu,qI r,qH]
   constructor
   ·intro h;exact⟨i,h2,h3,by rw[ZB];exact h⟩
   ·rintro⟨j,hj,AAT,hp⟩
    have JE:i≤j:=Nat.le_of_not_lt fun Aq=>by rw[h4 j Aq]at AAT;cases AAT
    rw[ZB]at hp;exact hp.mono (by omega)
def DY:List UInt8→List UInt8→Prop
 | [],s=>s=[]
 | c::p,s=>if c=42 then ∃i,i≤s.length∧DY p (s.drop i) else ∃s',s=c::s'∧DY p s'
def P7:List UInt8→List (List UInt8)
 | []=>[[]]
 | c::p=>if c=42 then[]::P7 p else match P7 p with
  | []=>[[c]]
  | x::l=>(c::x)::l
theorem dq:∀p,P7 p≠[]
 | []=>by simp[P7]
 | c::p=>by
  unfold P7;split
  ·simp
  ·cases P7 p<;>simp
def Zt:List (List UInt8)→List UInt8→Prop
 | [],_=>True
 | [z],s=>∃i,i≤s.length∧s.drop i=z
 | x::l,s=>∃i,i≤s.length∧Lib.occAt s x i=true∧Zt l (s.drop (i+x.length))
def Pcs:List (List UInt8)→List UInt8→Prop
 | [],_=>True
 | [x],s=>s=x
 | x::l,s=>x.isPrefixOf s=true∧Zt l (s.drop x.length)
theorem ADe:∀(l:List (List UInt8)) (s:List UInt8),l≠[]→(Zt l s↔∃i,i≤s.length∧Pcs l (s.drop i))
 | [],_,h=>absurd rfl h
 | [z],s,_=>Iff.rfl
 | x::y::l,s,_=>by
  constructor
  ·rintro⟨i,h1,h2,h3⟩
   exact⟨i,h1,h2,by rw[AjQ];exact h3⟩
  ·rintro⟨i,h1,h2,h3⟩
   rw[AjQ]at h3;exact⟨i,h1,h2,h3⟩
theorem SZ:∀(p s:List UInt8),DY p s↔Pcs (P7 p) s
 | [],s=>Iff.rfl
 | c::p,s=>by
  unfold DY P7;split
  ·have h:=dq p;have hf:=ADe (P7 p) s h;have e:Pcs ([]::P7 p) s↔Zt (P7 p) s:=by
    cases hc:P7 p with
    | nil=>exact absurd hc h
    | cons y l=>
     show([].isPrefixOf s=true∧Zt (y::l) (s.drop 0))↔_
     simp
   rw[e,hf]
   constructor
   ·rintro⟨i,h1,h2⟩;exact⟨i,h1,(SZ p _).1 h2⟩
   ·rintro⟨i,h1,h2⟩;exact⟨i,h1,(SZ p _).2 h2⟩
  ·have h:=dq p;have ih:=fun s'=>SZ p s';cases hc:P7 p with
   | nil=>exact absurd hc h
   | cons x l=>
    rw[hc]at ih
    constructor
    ·rintro⟨s',rfl,h2⟩
     have h3:=(ih s').1 h2;cases l with
     | nil=>exact Aie (c::·) h3
     | cons y l=>exact⟨by simp[h3.1],h3.2⟩
    ·intro h3;cases l with
     | nil=>exact⟨x,h3,(ih x).2 rfl⟩
     | cons y l=>
      obtain⟨h4,h5⟩:=h3;cases s with
      | nil=>simp at h4
      | cons d s=>
       simp only[List.isPrefixOf,AiS,Aja]at h4;obtain⟨rfl,h4⟩:=h4;exact⟨s,rfl,(ih s).2 ⟨h4,h5⟩⟩
theorem AAU {x:List UInt8}{l:List (List UInt8)}{s:List UInt8}(h:l≠[]):Zt (x::l) s↔∃i,i≤s.length∧Lib.occAt s x i=true∧Zt l (s.drop (i+x.length)):=by
 cases l with
 | nil=>exact absurd rfl h
 | cons y l=>exact Iff.rfl
theorem qJ {s x:List UInt8}{i:Nat}(h:Lib.occAt s x i=true)(hi:i≤s.length):i+x.length≤s.length:=by
 unfold Lib.occAt at h;have:=(Ajz.1 h).length_le;rw[Aic]at this;omega
theorem jf {s x:List UInt8}{i n:Nat}(h:i+x.length≤n):Lib.occAt (s.take n) x i=Lib.occAt s x i:=by
 unfold Lib.occAt;rw[Aj5];refine Bool.eq_iff_iff.2 ?_;rw[Ajz,Ajz,List.prefix_take_iff];exact⟨fun h1=>h1.1,fun h1=>⟨h1,by omega⟩⟩
theorem dt:∀(r:List (List UInt8)) (z s:List UInt8),Zt (r++[z]) s↔z.length≤s.length∧s.drop (s.length-z.length)=z∧Plc r (s.take (s.length-z.length))
 | [],z,s=>by
  show(∃i,i≤s.length∧s.drop i=z)↔_
  constructor
  ·rintro⟨i,h1,rfl⟩
   rw[Aic];exact⟨by omega,by rw[show s.length-(s.length-i)=i by omega],trivial⟩
  ·rintro⟨h1,h2,_⟩
   exact⟨_,by omega,h2⟩
 | x::r,z,s=>by
  rw[Ai1,AAU (by simp)]
  constructor
  ·rintro⟨i,h1,h2,h3⟩
   have hk:=qJ h2 h1;obtain⟨h4,h5,h6⟩:=(dt r z _).1 h3;rw[Aic]at h4 h5 h6;rw[AjQ]at h5;refine⟨by omega,by rw[show s.length-z.length=i+x.length+(s.length-(i+x.length)-z.length) by omega];exact h5,i,by rw[AiU];omega,by rw[jf (by omega)];exact h2,?_⟩;rw[Aj5,show s.length-z.length-(i+x.length)=s.length-(i+x.length)-z.length by omega];exact h6
  ·rintro⟨h1,h2,i,h3,h4,h5⟩
   have hk:=qJ h4 h3;rw[AiU]at h3 hk;rw[jf (by omega)]at h4;rw[Aj5]at h5;refine⟨i,by omega,h4,(dt r z _).2 ⟨by rw[Aic];omega,?_,?_⟩⟩
   ·rw[Aic,AjQ,show i+x.length+(s.length-(i+x.length)-z.length)=s.length-z.length by omega];exact h2
   ·rw[Aic,show s.length-(i+x.length)-z.length=s.length-z.length-(i+x.length) by omega];exact h5
theorem qK (s:ByteArray)(i j:Nat):(s.extract i j).data.toList=(s.data.toList.drop i).take (j-i):=by
 rw[AjZ,AkR]
theorem AAV {a b:ByteArray}:a=b↔a.data.toList=b.data.toList:=⟨fun h=>by rw[h],fun h=>by
 obtain⟨a⟩:=a;obtain⟨b⟩:=b
 congr 1
 exact Aip.1 h⟩
theorem ADf {l:List ByteArray}{s:ByteArray}(h:l≠[]):uA l s=true↔Pcs (l.map (·.data.toList)) s.data.toList:=by
 match l,h with
 | [a],_=>
  have e:uA [a] s=decide (s=a):=rfl;rw[e,AiW,AAV];exact Iff.rfl
 | a::y::r,_=>
  obtain⟨tC,z,hm⟩:∃tC z,y::r=tC++[z]:=⟨(y::r).dropLast,(y::r).getLast (by simp),(List.dropLast_concat_getLast (by simp)).symm⟩;have J2:s.data.toList.length=s.size:=rfl;have haz:a.data.toList.length=a.size:=rfl;have hzz:z.data.toList.length=z.size:=rfl;have e1:uA (a::y::r) s=(if s.size<a.size+z.size∨s.extract 0 a.size≠a∨s.extract (s.size-z.size) s.size≠z then false else Zk tC (s.extract a.size (s.size-z.size))):=by
   unfold uA;rw[hm];simp only[AkA,Option.getD_some,List.tail_cons,List.dropLast_concat,AjB,Aid];rw[AiK (by omega),show(a::(tC++[z])).getLast?=some z by rw[←Ai1,List.getLast?_concat]];rfl
  have e2:Pcs ((a::y::r).map (·.data.toList)) s.data.toList↔a.data.toList.isPrefixOf s.data.toList=true∧Zt (tC.map (·.data.toList)++[z.data.toList]) (s.data.toList.drop a.size):=by
   have e3:(y::r).map (·.data.toList)=tC.map (·.data.toList)++[z.data.toList]:=by rw[hm,Aiq];rfl
   rw[Ai4];show a.data.toList.isPrefixOf s.data.toList=true∧Zt ((y::r).map (·.data.toList)) _↔_
   rw[e3,haz]
  rw[e1,e2,dt,Ajz,Aic,J2,hzz,AjQ];have tD:(s.extract 0 a.size=a)↔s.data.toList.take a.size=a.data.toList:=by rw[AAV,qK,AkO,Nat.sub_zero]
  have ASu:(s.extract (s.size-z.size) s.size=z)↔s.data.toList.drop (s.size-z.size)=z.data.toList:=by rw[AAV,qH]
  by_cases hc:s.size<a.size+z.size∨s.extract 0 a.size≠a∨s.extract (s.size-z.size) s.size≠z
  ·rw[AiL hc];refine⟨fun hh=>(by cases hh),?_⟩
   rintro⟨h1,h2,h3,h4⟩
   exfalso;have hal:=h1.length_le;rcases hc with hc|hc|hc
   ·omega
   ·exact hc (tD.2 (by rw[←haz];exact(List.prefix_iff_eq_take.1 h1).symm))
   ·refine hc (ASu.2 ?_);rw[←h3];congr 1;omega
  ·rw[AiK hc];simp only[not_or,Aig]at hc;obtain⟨c1,c2,c3⟩:=hc;rw[qI,qK]
   constructor
   ·intro hp;refine⟨List.prefix_iff_eq_take.2 (by rw[haz];exact(tD.1 c2).symm),by omega,?_,?_⟩
    ·rw[←ASu.1 c3];congr 1;omega
    ·rw[show s.size-a.size-z.size=s.size-z.size-a.size by omega];exact hp
   ·rintro⟨_,_,_,hp⟩
    rw[show s.size-a.size-z.size=s.size-z.size-a.size by omega]at hp;exact hp
theorem jg {p:List UInt8}{l:List ByteArray}{s:ByteArray}(h:l.map (·.data.toList)=P7 p):uA l s=true↔DY p s.data.toList:=by
 rw[ADf (fun e=>dq p (by rw[←h,e];rfl)),h,SZ]
theorem L9 {p s:List UInt8}:DY (42::p) s↔∃i,i≤s.length∧DY p (s.drop i):=by
 show(if(42:UInt8)=42 then _ else _)↔_
 rw[AiL rfl]
theorem O6 {c:UInt8}{p s:List UInt8}(h:c≠42):DY (c::p) s↔∃s',s=c::s'∧DY p s':=by
 show(if c=42 then _ else _)↔_
 rw[AiK h]
theorem MA:∀(p q s:List UInt8),DY (p++q) s↔∃j,j≤s.length∧DY p (s.take j)∧DY q (s.drop j)
 | [],q,s=>by
  constructor
  ·intro h;exact⟨0,AiR _,rfl,h⟩
  ·rintro⟨j,h1,h2,h3⟩
   have h2:s.take j=[]:=h2;have hl:=Aie List.length h2;rw[AiU]at hl;have hl:min j s.length=0:=hl;have hj:j=0:=by omega
   subst hj;exact h3
 | c::p,q,s=>by
  rw[Ai1];by_cases hc:c=42
  ·subst hc;rw[L9]
   constructor
   ·rintro⟨i,h1,h2⟩
    obtain⟨j,h3,h4,h5⟩:=(MA p q _).1 h2;rw[Aic]at h3;rw[AjQ]at h5;exact⟨i+j,by omega,L9.2 ⟨i,by rw[AiU];omega,by rw[Aj5,show i+j-i=j by omega];exact h4⟩,h5⟩
   ·rintro⟨J,h1,h2,h3⟩
    obtain⟨i,h4,h5⟩:=L9.1 h2;rw[AiU]at h4;rw[Aj5]at h5;exact⟨i,by omega,(MA p q _).2 ⟨J-i,by rw[Aic];omega,h5,by rw[AjQ,show i+(J-i)=J by omega];exact h3⟩⟩
  ·rw[O6 hc]
   constructor
   ·rintro⟨s',rfl,h2⟩
    obtain⟨j,h3,h4,h5⟩:=(MA p q _).1 h2;exact⟨j+1,by simpa using h3,(O6 hc).2 ⟨s'.take j,rfl,h4⟩,h5⟩
   ·rintro⟨J,h1,h2,h3⟩
    obtain⟨s',h4,h5⟩:=(O6 hc).1 h2;cases s with
    | nil=>simp at h4
    | cons d s=>
     cases J with
     | zero=>simp at h4
     | succ J=>
      simp only[List.take_succ_cons,Ajp]at h4;obtain⟨rfl,rfl⟩:=h4;exact⟨s,rfl,(MA p q _).2 ⟨J,by simpa using h1,h5,h3⟩⟩
theorem Jy {p s:List UInt8}:DY (p++[42]) s↔∃j,j≤s.length∧DY p (s.take j):=by
 rw[MA]
 constructor
 ·rintro⟨j,h1,h2,_⟩;exact⟨j,h1,h2⟩
 ·rintro⟨j,h1,h2⟩
  exact⟨j,h1,h2,L9.2 ⟨(s.drop j).length,AiV _,Aib (AiV _)⟩⟩
theorem Qh {c:UInt8}{p s:List UInt8}(hc:c≠42):DY (p++[c]) s↔∃s',s=s'++[c]∧DY p s':=by
 rw[MA]
 constructor
 ·rintro⟨j,h1,h2,h3⟩
  obtain⟨u,h4,h5⟩:=(O6 hc).1 h3;have h5:u=[]:=h5;subst h5;exact⟨s.take j,by rw[←h4,Ai8],h2⟩
 ·rintro⟨s',rfl,h2⟩
  exact⟨s'.length,by simp,by rw[List.take_left];exact h2,by rw[List.drop_left];exact(O6 hc).2 ⟨[],rfl,rfl⟩⟩
def P8 (c:UInt8):List UInt8→List (List UInt8)
 | []=>[[]]
 | b::p=>if b=c then[]::P8 c p else match P8 c p with
  | []=>[[b]]
  | x::l=>(b::x)::l
theorem du:∀p,P8 42 p=P7 p
 | []=>rfl
 | c::p=>by unfold P8 P7;rw[du p]
theorem Y1 (c:UInt8):∀s:List UInt8,Lib.splitK [c] 0 (s.count c) s=P8 c s
 | []=>rfl
 | b::l=>by
  have ih:=Y1 c l;by_cases hb:b=c
  ·subst hb;have e:(b::l).count b=l.count b+1:=List.count_cons_self;have hi:Lib.index (b::l) [b]=0:=by unfold Lib.index;simp
   rw[e,Lib.splitK,hi];unfold P8;rw[AiL rfl,←ih];rfl
  ·have e:(b::l).count c=l.count c:=List.count_cons_of_ne hb;have hi:Lib.index (b::l) [c]=if Lib.index l [c]==-1 then -1 else Lib.index l [c]+1:=by
    rw[Lib.index,AiK (by simpa using fun h=>hb h.symm)]
   rw[e];unfold P8;rw[AiK hb,←ih];cases hk:l.count c with
   | zero=>rfl
   | succ k=>
    rw[Lib.splitK,Lib.splitK,hi];have Zg:=Lib.index_ge l [c];by_cases hn:Lib.index l [c]=-1
    ·rw[hn];rfl
    ·have h1:(Lib.index l [c]==-1)=false:=by simpa using hn
     have h2:(Lib.index l [c]+1==-1)=false:=by
      rw[beq_eq_false_iff_ne];omega
     simp only[h1,h2,Ajv,if_false];rw[show(Lib.index l [c]+1).toNat=(Lib.index l [c]).toNat+1 by omega];simp only[AjG,AjH,List.take_succ_cons,List.drop_succ_cons]
theorem Sa (c:UInt8)(s:ByteArray):(GX c s).map (·.data.toList)=P8 c s.data.toList:=by
 unfold GX;rw[Lib.splitB_data];have h:Lib.countB s ⟨#[c]⟩=s.data.toList.count c:=Lib.count_one c s.data.toList;rw[h];exact Y1 c _
theorem tE {p s:ByteArray}:Lo p s=true↔∃x∈P8 124 p.data.toList,DY x s.data.toList:=by
 unfold Lo;rw[List.any_eq_true]
 constructor
 ·rintro⟨x,hx,h⟩
  refine⟨x.data.toList,by rw[←Sa];exact List.mem_map.2 ⟨x,hx,rfl⟩,(jg ?_).1 h⟩;rw[Sa,du]
 ·rintro⟨x,hx,h⟩
  rw[←Sa]at hx;obtain⟨y,hy,rfl⟩:=List.mem_map.1 hx;exact⟨y,hy,(jg (by rw[Sa,du])).2 h⟩
def Pl (p:List UInt8)(i:Nat):List UInt8:=if p[i]?=some 42 then p.take (i+1) else p.take i
theorem MB {p:List UInt8}{i:Nat}{c:UInt8}(h:p[i]?=some c):p.take (i+1)=p.take i++[c]:=by
 rw[List.take_succ,h];rfl
theorem tF {p s:List UInt8}{i:Nat}{c d:UInt8}(h:p[i]?=some c):DY (p.take (i+1)) (s++[d])↔if c=42 then DY (Pl p i) (s++[d]) else c=d∧DY (Pl p i) s:=by
 by_cases hc:c=42
 ·subst hc;rw[AiL rfl];unfold Pl;rw[AiL h]
 ·rw[AiK hc,MB h,Qh hc];unfold Pl;rw[AiK (by rw[h];simpa using hc)]
  constructor
  ·rintro⟨s',e,h2⟩
   have h3:=List.append_inj' e rfl;obtain⟨rfl,h4⟩:=h3;exact⟨by simpa using h4.symm,h2⟩
  ·rintro⟨rfl,h2⟩
   exact⟨s,rfl,h2⟩
theorem qL {p s:List UInt8}{i:Nat}{d:UInt8}:DY (Pl p i) (s++[d])↔(p[i]?=some 42∧DY (Pl p i) s)∨DY (p.take i) (s++[d]):=by
 by_cases h:p[i]?=some 42
 ·have e:Pl p i=p.take i++[42]:=by unfold Pl;rw[AiL h,MB h]
  rw[e,Jy,Jy]
  constructor
  ·rintro⟨j,h1,h2⟩
   rw[Aid,AjG]at h1;by_cases hj:j≤s.length
   ·rw[Ajs hj]at h2;exact .inl ⟨h,j,hj,h2⟩
   ·have e9:(s++[d]).take j=s++[d]:=AiQ (by rw[Aid,AjG];omega);rw[e9]at h2;exact .inr h2
  ·rintro(⟨_,j,h1,h2⟩|h2)
   ·exact⟨j,by simp;omega,by rw[Ajs h1];exact h2⟩
   ·exact⟨(s++[d]).length,AiV _,by rw[List.take_length];exact h2⟩
 ·have e:Pl p i=p.take i:=by unfold Pl;rw[AiK h]
  rw[e];exact⟨fun h2=>.inr h2,fun h2=>h2.elim (fun h3=>absurd h3.1 h) id⟩
theorem AKJ {p:List UInt8}:Pl p p.length=p:=by
 unfold Pl;rw[AiK (by simp),List.take_length]
end TwW
end
section
namespace TwW
open Go Tw Go.RowKit Go.Proofs.Tryz
section
variable {σ:Hp}{R:Rr}
theorem RH {s:ByteArray}(h:R (.returned (.bool (DC s))) σ):Spec prog 63 #[.string s] σ R:=by
 have J2:s.data.toList.length=s.size:=rfl;refine JV.start ⟨fun h0=>?_,fun h0=>⟨fun h1=>?_,fun h1=>?_⟩⟩
 ·have:s.size=0:=by omega
  simpa[DC,this] using h
 ·have:¬s.size≤64:=by omega
  simpa[DC,this] using h
 ·obtain⟨u,hu⟩:∃u,s.data.toList[0]?=some u:=⟨_,AiN (by omega)⟩;have EG:s.data[Int.toNat (0:Int)]?=some u:=by simpa using hu
  have hh:s.data.toList.head?=some u:=by rw[←hu];cases s.data.toList<;>rfl
  have rest:dgt u=false→JV.Aw R s 0 σ:=fun hd=>by
   have e:DC s=s.data.toList.all nch:=by simp[DC,show 0<s.size by omega,show s.size≤64 by omega,hh,hd]
   rw[e]at h;refine pK (s:=s) (pt:=fun k=>JV.Aw R s k σ) (ok:=nch) (G:=fun t=>R (.B t) σ) (fun g=>JV.Ay ⟨fun Aq=>by omega,fun _=>g⟩) (fun k u hk hu hi good bad=>?_) h (by omega);simp only[nch,AiW,Aik]at good bad;refine JV.Ay ⟨fun Aq=>⟨u,by omega,hu,?_⟩,fun Zg=>by omega⟩;clear h;generalize u.toNat=n at good bad
   repeat' (first|refine⟨fun _=>?_,fun _=>?_⟩|exact⟨hi,good (by omega)⟩|exact bad (by omega))
  simp only[dgt,Aik]at rest;refine⟨u,by omega,EG,fun h2=>⟨u,by omega,EG,fun h3=>?_,fun h3=>rest (by omega)⟩,fun h2=>rest (by omega)⟩;have:dgt u=true:=by simp[dgt];omega
  simpa[DC,hh,this] using h
end
section
variable {σ σ0 τ:Hp}{R:Rr}
structure MOk (a:List Sr):Prop where
 len:a.length≤10000000
 each:∀s∈a,s.ls.length≤1000000000∧s.ps.length≤1000000000
end
theorem Jz (s:ByteArray)(i j:Nat):(s.extract i j).data.toList=(s.data.toList.drop i).take (j-i):=by
 rw[AjZ,AkR,List.extract_eq_drop_take]
def VT (_:Hp)(vs:List Value)(b:Bool):Prop:=vs=[.bool b]
theorem VT.mono:Ht VT:=fun _ _ _ _ _ h=>h
section
variable {σ σ0 τ:Hp}{R:Rr}
theorem Y2 {n:Nat}{Φ:Value→Hp→Prop}(hn:n≤1000000)(h:∀b,σ b=none→Φ (.slice (some ⟨b,0,none⟩) n n) (σ.set b (.cells (List.replicate n (Value.bool false)).toArray 4 (0,0)))):AK prog (Instr.makeSlice 251 (.I (n:Int)) (.I (n:Int))) σ Φ:=by
 have hi0:((prog.info? 4).map fun i=>(i.zero,i.size,i.bytes))=some (some (.bool false),1,1):=by kernel_rfl
 cases hi:prog.info? 4 with
 | none=>rw[hi]at hi0;cases hi0
 | some i=>
  rw[hi]at hi0;simp only[Aiv,AiO,Ajr]at hi0;obtain⟨h1,h2,h3⟩:=hi0;refine AK.new (v:=fun b=>.slice (some ⟨b,0,none⟩) n n) (o:=.cells (List.replicate n (Value.bool false)).toArray 4 (0,0)) (fun w _=>?_) h;have:=run_make (P:=prog) w 251 4 i (.bool false) underlying251 hi h1 .i64 .i64 (n:Int) (n:Int) (by omega) (Int.le_refl _) (by rw[h3];omega) (by omega);rw[this,Aiu,h2,AjX];have e:madeCells (Value.bool false).cells n=(List.replicate n (Value.bool false)).toArray:=by
   apply Aip.1
   unfold madeCells;rw[Array.toList_map];refine AjP fun k=>?_;rw[Ait,Ajt,Array.toList_range];by_cases hk:k<n
   ·rw[AiL hk,List.getElem?_range hk];show some ((Value.bool false).cells[k%1]!)=_
    rw[Nat.mod_one];rfl
   ·rw[AiK hk,List.getElem?_eq_none_iff.2 (by rw[List.length_range];omega)];rfl
  rw[e]
theorem bO {b n:Nat}(hn:n≤1000000)(hb:σ b=none):AL 1 VT σ (σ.set b (.cells (List.replicate n (Value.bool false)).toArray 4 (0,0))) (some ⟨b,0,none⟩) n n (List.replicate n false):=by
 refine⟨⟨Ajn,List.replicate n (Value.bool false),⟨by rw[Ajn,AjX],by omega,.inr ⟨b,0,_,_,rfl,Hp.AA _ _ _,AiV _,by simp,by simp⟩⟩,by rw[Ajn,Ajn,AjX],fun i x hx=>?_⟩,by rw[Hp.MN hb];exact .refl _⟩;rw[Ajt]at hx;split at hx
 ·rename_i hi;cases hx;show((List.replicate n (Value.bool false)).drop (i*1)).take 1=[.bool false]
  rw[AjX,List.drop_replicate,List.take_replicate,Ajg (by omega)];rfl
 ·cases hx
theorem AL.Uu {b o n c i:Nat}{bs:List Bool}{x:Bool}{Φ:Unit→Hp→Prop}(ho:AL 1 VT σ0 σ (some ⟨b,o,none⟩) n c bs)(hi:i<n)
  (hΦ:∀σ',AL 1 VT σ0 σ' (some ⟨b,o,none⟩) n c (bs.set i x)→Φ () σ'):AK prog (Instr.storeAt 4 (.pointer (some ⟨b,o+i*1,none⟩)) (.bool x)) σ Φ:=by
 obtain⟨⟨hl,cs,KE,hc⟩,sU⟩:=ho;refine Au.da (j:=i*1) KE (by omega) AGP rfl rfl fun obj A6=>hΦ _ ⟨⟨by rw[Ajh];exact hl,_,A6,?_,fun j y hy=>?_⟩,by rw[Hp.JF];exact sU⟩
 ·rw[Ajh,Ajh];exact hc.1
 ·have e:=bI (cs:=cs) (v:=Value.bool x) (s:=1) (i:=i) (j:=j) (r:=0) (by decide);rw[AjH]at e;show((cs.set (i*1) (Value.bool x)).drop (j*1)).take 1=[.bool y]
  rw[e];by_cases JE:i=j
  ·subst JE;rw[AiL rfl];rw[Aix (by omega)]at hy;cases hy;obtain⟨y0,hy0⟩:∃y0,bs[i]?=some y0:=⟨_,AiN (by omega)⟩;have h3:(cs.drop (i*1)).take 1=[.bool y0]:=hc.2 i y0 hy0;rw[h3];rfl
  ·rw[AiK JE];rw[Aiz JE]at hy;exact hc.2 j y hy
theorem ASw {p:Option Addr}{n i:Nat}{bs:List Bool}{x:Bool}(hr:AT 1 VT σ p n bs)(hx:bs[i]?=some x):∃b o,p=some ⟨b,o,none⟩∧Hp.ld σ ⟨b,o+i*1,none⟩=some (.bool x):=by
 obtain⟨b,o,vs,hp,rfl,hl⟩:=AT.idx hr hx;exact⟨b,o,hp,hl.1⟩
end
theorem ADg {p:List UInt8}:DY (Pl p 0) []:=by
 unfold Pl;split
 ·rename_i h;rw[MB h,Aj7,AjK];exact L9.2 ⟨0,AiV _,rfl⟩
 ·exact rfl
theorem AAW {p:List UInt8}{i:Nat}{c:UInt8}(h:p[i]?=some c):DY (Pl p (i+1)) []↔c=42∧DY (Pl p i) []:=by
 have h1:DY (Pl p (i+1)) []↔DY (p.take (i+1)) []:=by
  unfold Pl;split
  ·rename_i h2;rw[MB h2,Jy]
   constructor
   ·rintro⟨j,hj,h3⟩
    simpa using h3
   ·exact fun h3=>⟨0,AiV _,h3⟩
  ·exact Iff.rfl
 rw[h1];by_cases hc:c=42
 ·subst hc;have e:Pl p i=p.take (i+1):=by unfold Pl;rw[AiL h]
  rw[e];exact⟨fun h2=>⟨rfl,h2⟩,fun h2=>h2.2⟩
 ·rw[MB h,Qh hc]
  constructor
  ·rintro⟨s',e,_⟩
   exact absurd (Aie List.length e) (by simp)
  ·exact fun h2=>absurd h2.1 hc
theorem ASx {p s:List UInt8}{d:UInt8}:¬DY (p.take 0) (s++[d]):=fun h=>by
 have h:s++[d]=[]:=h;exact absurd (Aie List.length h) (by simp)
def preB (p:List UInt8)(av:List Bool)(d:UInt8)(i j:Nat):Prop:=(j<i∧av[j]?=some true∧p[j]?=some 42)∨(0<j∧j-1<i∧av[j-1]?=some true∧p[j-1]?=some d∧d≠42)
theorem ADh {p s:List UInt8}{av:List Bool}{d:UInt8}{i:Nat}{c:UInt8}(hi:p[i]?=some c)(hl:av.length=p.length+1)(ha:∀j,j≤p.length→(av[j]?=some true↔DY (Pl p j) s)):
  DY (Pl p (i+1)) (s++[d])↔preB p av d p.length (i+1)∨(c=42∧DY (Pl p i) (s++[d])):=by
 have hip:=(List.getElem?_eq_some_iff.1 hi).1;rw[qL,tF hi,←ha (i+1) (by omega)];unfold preB;rw[AkE];by_cases hc:c=42
 ·subst hc;rw[AiL rfl]
  constructor
  ·rintro(⟨h1,h2⟩|h1)
   ·exact .inl (.inl ⟨(List.getElem?_eq_some_iff.1 h1).1,h2,h1⟩)
   ·exact .inr ⟨rfl,h1⟩
  ·rintro((⟨_,h2,h1⟩|⟨_,_,_,h1,h2⟩)|⟨_,h1⟩)
   ·exact .inl ⟨h1,h2⟩
   ·rw[hi]at h1;exact absurd (Aij h1).symm h2
   ·exact .inr h1
 ·rw[AiK hc,←ha i (by omega)]
  constructor
  ·rintro(⟨h1,h2⟩|⟨h1,h2⟩)
   ·exact .inl (.inl ⟨(List.getElem?_eq_some_iff.1 h1).1,h2,h1⟩)
   ·subst h1;exact .inl (.inr ⟨by omega,hip,h2,hi,hc⟩)
  ·rintro((⟨_,h2,h1⟩|⟨_,_,h3,h1,h2⟩)|⟨h1,_⟩)
   ·exact .inl ⟨h1,h2⟩
   ·rw[hi]at h1;exact .inr ⟨Aij h1,h3⟩
   ·exact absurd h1 hc
theorem AAX {p s:List UInt8}{av:List Bool}{d:UInt8}(ha:∀j,j≤p.length→(av[j]?=some true↔DY (Pl p j) s)):DY (Pl p 0) (s++[d])↔preB p av d p.length 0:=by
 rw[qL,←ha 0 (AiR _)];unfold preB
 constructor
 ·rintro(⟨h1,h2⟩|h1)
  ·exact .inl ⟨(List.getElem?_eq_some_iff.1 h1).1,h2,h1⟩
  ·exact absurd h1 ASx
 ·rintro(⟨_,h2,h1⟩|⟨h1,_⟩)
  ·exact .inl ⟨h1,h2⟩
  ·omega
theorem bP {p:List UInt8}{av:List Bool}{d:UInt8}{i j:Nat}:preB p av d (i+1) j↔preB p av d i j∨(j=i∧av[i]?=some true∧p[i]?=some 42)∨(j=i+1∧av[i]?=some true∧p[i]?=some d∧d≠42):=by
 unfold preB
 constructor
 ·rintro(⟨h1,h2,h3⟩|⟨h1,h2,h3,h4,h5⟩)
  ·by_cases hj:j=i
   ·subst hj;exact .inr (.inl ⟨rfl,h2,h3⟩)
   ·exact .inl (.inl ⟨by omega,h2,h3⟩)
  ·by_cases hj:j-1=i
   ·rw[hj]at h3 h4;exact .inr (.inr ⟨by omega,h3,h4,h5⟩)
   ·exact .inl (.inr ⟨h1,by omega,h3,h4,h5⟩)
 ·rintro((⟨h1,h2,h3⟩|⟨h1,h2,h3,h4,h5⟩)|⟨h1,h2,h3⟩|⟨h1,h2,h3,h4⟩)
  ·exact .inl ⟨by omega,h2,h3⟩
  ·exact .inr ⟨h1,by omega,h3,h4,h5⟩
  ·subst h1;exact .inl ⟨by omega,h2,h3⟩
  ·subst h1;exact .inr ⟨by omega,by omega,by rw[AkE];exact h2,by rw[AkE];exact h3,h4⟩
theorem jh {ns:List Bool}{i j:Nat}(hi:i<ns.length):(ns.set i true)[j]?=some true↔j=i∨ns[j]?=some true:=by
 by_cases JE:i=j
 ·subst JE;rw[Aix hi];simp
 ·rw[Aiz JE]
  constructor
  ·exact .inr
  ·rintro(h|h)
   ·exact absurd h.symm JE
   ·exact h
theorem tn1 (i:Nat):Int.toNat ((i:Int)+1)=i+1:=by omega
section
variable {σ σ0 τ:Hp}{R:Rr}{p s:ByteArray}
theorem Y3 {b o n i:Nat}{bs:List Bool}{x:Bool}(hr:AT 1 VT σ (some ⟨b,o,none⟩) n bs)(hx:bs[i]?=some x):Hp.ld σ ⟨b,o+i*1,none⟩=some (.bool x):=by
 obtain⟨b',o',hp,hl⟩:=ASw hr hx;cases hp;exact hl
theorem tG {b o n:Nat}(hn:n=p.size+1)(hp:p.size≤100000)(h:∀τ bs,AL 1 VT σ τ (some ⟨b,o,none⟩) n n bs→(∀j,j≤p.size→(bs[j]?=some true↔DY (Pl p.data.toList j) []))→A5.NK R p s (aD b o) n n 0 τ):
  ∀(g i:Nat) (τ:Hp) (bs:List Bool),p.size-i=g→i≤p.size→AL 1 VT σ τ (some ⟨b,o,none⟩) n n bs→(∀j,j≤i→(bs[j]?=some true↔DY (Pl p.data.toList j) []))→(∀j,i<j→j<n→bs[j]?=some false)→A5.Jh R p s (aD b o) n n (i:Int) τ:=by
 have J2:p.data.toList.length=p.size:=rfl;intro g
 induction g with
 | zero=>
  intro i τ bs hg hi ho h1 h2;have:i=p.size:=by omega
  subst this;exact A5.HJ ⟨fun hh=>by omega,fun _=>h τ bs ho h1⟩
 | succ g ih=>
  intro i τ bs hg hi ho h1 h2;have hlb:bs.length=n:=ho.1.1;have BF:i<p.size:=by omega
  obtain⟨u,hu⟩:∃u,p.data.toList[i]?=some u:=⟨_,AiN (by omega)⟩;have EG:p.data[Int.toNat (i:Int)]?=some u:=by simpa using hu
  obtain⟨x,hx⟩:∃x,bs[i]?=some x:=⟨_,AiN (by omega)⟩;have r1:=Y3 (ho.rd VT.mono) (h2 (i+1) (by omega) (by omega));have r2:=Y3 (ho.rd VT.mono) hx;have next:∀v:Bool,(v=true↔DY (Pl p.data.toList (i+1)) [])→AK prog (Instr.storeAt 4 (.pointer (some ⟨b,o+(i+1)*1,none⟩)) (.bool v)) τ (fun _ y=>AG ((i:Int)+1)∧A5.Jh R p s (aD b o) n n ((i:Int)+1) y):=fun v hv=>by
   refine AL.Uu ho (by omega) fun σ' Sj=>⟨by unfold AG;omega,?_⟩;have:=ih (i+1) σ' (bs.set (i+1) v) (by omega) (by omega) Sj (fun j hj=>?_) (fun j hj oA=>?_)
   ·rw[show((i+1:Nat):Int)=(i:Int)+1 by omega]at this;exact this
   ·by_cases ZJ:j=i+1
    ·subst ZJ;rw[Aix (by omega),AiO];exact hv
    ·rw[Aiz (by omega)];exact h1 j (by omega)
   ·rw[Aiz (by omega)];exact h2 j (by omega) oA
  have hf:=AAW (p:=p.data.toList) hu;refine A5.HJ ⟨fun _=>?_,fun hh=>by omega⟩;rw[tn1,Aiu];refine⟨by unfold AG;omega,by unfold AG;omega,b,o,rfl,by unfold In;omega,false,r1,fun hh=>(by cases hh),fun _=>⟨by unfold In;omega,x,r2,fun tH=>?_,fun hxf=>?_⟩⟩
  ·refine⟨u,by omega,EG,by unfold In;omega,next _ ?_⟩;rw[hf,AiW];have:=(h1 i (AiV _)).1 (by rw[hx,tH])
   constructor
   ·intro h4;exact⟨UInt8.toNat_inj.1 (by show u.toNat=42;omega),this⟩
   ·rintro⟨h4,_⟩
    rw[h4];rfl
  ·refine⟨by unfold In;omega,next _ ?_⟩;rw[hf]
   constructor
   ·intro h4;cases h4
   ·rintro⟨_,h4⟩
    have:=(h1 i (AiV _)).2 h4;rw[hx,hxf]at this;cases this
theorem ADi {b5 o5 b8 o8 n k:Nat}{av:List Bool}{d:UInt8}(hn:n=p.size+1)(hp:p.size≤100000)(hr:AT 1 VT τ (some ⟨b5,o5,none⟩) n av)(hd:s.data.toList[k]?=some d)
  (h:∀ρ ns,AL 1 VT τ ρ (some ⟨b8,o8,none⟩) n n ns→(∀j,j<n→(ns[j]?=some true↔preB p.data.toList av d p.size j))→A5.iE R p s (k:Int) (aD b8 o8) n n 0 ρ) :
  ∀(g i:Nat) (ρ:Hp) (ns:List Bool),p.size-i=g→i≤p.size→AL 1 VT τ ρ (some ⟨b8,o8,none⟩) n n ns→(∀j,j<n→(ns[j]?=some true↔preB p.data.toList av d i j))→A5.XC R p s (aD b5 o5) n n (k:Int) (aD b8 o8) n n (i:Int) ρ:=by
 have J2:p.data.toList.length=p.size:=rfl;have hla:av.length=n:=hr.1;have hd':s.data[Int.toNat (k:Int)]?=some d:=by simpa using hd
 intro g
 induction g with
 | zero=>
  intro i ρ ns hg hi ho h1;have:i=p.size:=by omega
  subst this;exact A5.Vq ⟨fun hh=>by omega,fun _=>h ρ ns ho h1⟩
 | succ g ih=>
  intro i ρ ns hg hi ho h1;have BF:i<p.size:=by omega
  obtain⟨u,hu⟩:∃u,p.data.toList[i]?=some u:=⟨_,AiN (by omega)⟩;have EG:p.data[Int.toNat (i:Int)]?=some u:=by simpa using hu
  obtain⟨x,hx⟩:∃x,av[i]?=some x:=⟨_,AiN (by omega)⟩;have next:∀ρ' uH,AL 1 VT τ ρ' (some ⟨b8,o8,none⟩) n n uH→(∀j,j<n→(uH[j]?=some true↔preB p.data.toList av d (i+1) j))→A5.VD R p s (aD b5 o5) n n (k:Int) (aD b8 o8) n n (i:Int) ρ':=fun ρ' uH Sj h2=>by
   have:=ih (i+1) ρ' uH (by omega) (by omega) Sj h2;rw[show((i+1:Nat):Int)=(i:Int)+1 by omega]at this;exact A5.Vs ⟨by unfold AG;omega,this⟩
  have u42:((u.toNat:Int):Int)=42↔u=42:=by
   constructor
   ·intro h4;exact UInt8.toNat_inj.1 (by show u.toNat=42;omega)
   ·intro h4;rw[h4];rfl
  have second:∀ρ' uH,AL 1 VT τ ρ' (some ⟨b8,o8,none⟩) n n uH→(∀j,j<n→(uH[j]?=some true↔preB p.data.toList av d i j∨(j=i∧av[i]?=some true∧p.data.toList[i]?=some 42)))→A5.ry R p s (aD b5 o5) n n (k:Int) (aD b8 o8) n n (i:Int) ρ':=fun ρ' uH Sj h2=>by
   have UK:uH.length=n:=Sj.1.1;have r:=Y3 (hr.mono VT.mono Sj.up) hx;have skip:¬(av[i]?=some true∧p.data.toList[i]?=some d∧d≠42)→A5.VD R p s (aD b5 o5) n n (k:Int) (aD b8 o8) n n (i:Int) ρ':=fun Cg=>next ρ' uH Sj fun j hj=>by
    rw[h2 j hj,bP]
    constructor
    ·rintro(h4|h4)
     ·exact .inl h4
     ·exact .inr (.inl h4)
    ·rintro(h4|h4|⟨_,h4⟩)
     ·exact .inl h4
     ·exact .inr h4
     ·exact absurd h4 Cg
   refine A5.ACb ?_;rw[tn1,Aiu];refine⟨b5,o5,rfl,by unfold In;omega,x,r,fun tH=>⟨u,by omega,EG,fun Ah=>⟨u,by omega,EG,d,by omega,hd',fun heq=>⟨by unfold AG;omega,b8,o8,rfl,by unfold In;omega,?_⟩,fun ADj=>skip ?_⟩,fun h42=>skip ?_⟩,fun hxf=>skip ?_⟩
   ·have hud:u=d:=UInt8.toNat_inj.1 (by omega);refine AL.Uu Sj (by omega) fun σ' A6=>next σ' _ A6 fun j hj=>?_
    rw[jh (by omega),h2 j hj,bP];have AY7:d≠42:=fun e=>Ah (u42.2 (hud.trans e))
    constructor
    ·rintro(h4|h4|h4)
     ·exact .inr (.inr ⟨h4,by rw[hx,tH],by rw[hu,hud],AY7⟩)
     ·exact .inl h4
     ·exact .inr (.inl h4)
    ·rintro(h4|h4|⟨h4,_⟩)
     ·exact .inr (.inl h4)
     ·exact .inr (.inr h4)
     ·exact .inl h4
   ·rintro⟨_,h4,_⟩
    rw[hu]at h4;exact ADj (by rw[Aij h4])
   ·rintro⟨_,h4,h5⟩
    rw[hu]at h4;exact h5 ((Aij h4).symm.trans (u42.1 (Aig.1 h42)))
   ·rintro⟨h4,_⟩
    rw[hx,hxf]at h4;cases h4
  have r:=Y3 (hr.mono VT.mono ho.up) hx;have hl:ns.length=n:=ho.1.1;have skip:¬(av[i]?=some true∧p.data.toList[i]?=some 42)→A5.ry R p s (aD b5 o5) n n (k:Int) (aD b8 o8) n n (i:Int) ρ:=fun Cg=>second ρ ns ho fun j hj=>by
   rw[h1 j hj]
   constructor
   ·exact .inl
   ·rintro(h4|⟨_,h4⟩)
    ·exact h4
    ·exact absurd h4 Cg
  refine A5.Vq ⟨fun _=>?_,fun hh=>by omega⟩;rw[Aiu];rw[Aiu]at EG;refine⟨b5,o5,rfl,by unfold In;omega,x,r,fun tH=>⟨u,by omega,EG,fun h42=>⟨b8,o8,rfl,by unfold In;omega,?_⟩,fun Ah=>skip ?_⟩,fun hxf=>skip ?_⟩
  ·refine AL.Uu ho (by omega) fun σ' A6=>second σ' _ A6 fun j hj=>?_;rw[jh (by omega),h1 j hj]
   constructor
   ·rintro(h4|h4)
    ·exact .inr ⟨h4,by rw[hx,tH],by rw[hu,u42.1 h42]⟩
    ·exact .inl h4
   ·rintro(h4|⟨h4,_⟩)
    ·exact .inr h4
    ·exact .inl h4
  ·rintro⟨_,h4⟩
   rw[hu]at h4;exact Ah (u42.2 (Aij h4))
  ·rintro⟨h4,_⟩
   rw[hx,hxf]at h4;cases h4
theorem AAY {b8 o8 n k:Nat}{av:List Bool}{d:UInt8}{S:List UInt8}(hn:n=p.size+1)(hp:p.size≤100000)(hk:k<s.size)(hs:s.size≤4611686018427387904)(hla:av.length=n)(ha:∀j,j≤p.size→(av[j]?=some true↔DY (Pl p.data.toList j) S))
  (h:∀ρ ns,AL 1 VT τ ρ (some ⟨b8,o8,none⟩) n n ns→(∀j,j≤p.size→(ns[j]?=some true↔DY (Pl p.data.toList j) (S++[d])))→A5.NK R p s (aD b8 o8) n n ((k:Int)+1) ρ) :
  ∀(g i:Nat) (ρ:Hp) (ns:List Bool),p.size-i=g→i≤p.size→AL 1 VT τ ρ (some ⟨b8,o8,none⟩) n n ns→(∀j,j≤i→(ns[j]?=some true↔DY (Pl p.data.toList j) (S++[d])))→(∀j,i<j→j<n→(ns[j]?=some true↔preB p.data.toList av d p.size j))→A5.iE R p s (k:Int) (aD b8 o8) n n (i:Int) ρ:=by
 have J2:p.data.toList.length=p.size:=rfl;intro g
 induction g with
 | zero=>
  intro i ρ ns hg hi ho h1 h2;have:i=p.size:=by omega
  subst this;exact A5.pC ⟨fun hh=>by omega,fun _=>⟨by unfold AG;omega,h ρ ns ho h1⟩⟩
 | succ g ih=>
  intro i ρ ns hg hi ho h1 h2;have hl:ns.length=n:=ho.1.1;have BF:i<p.size:=by omega
  obtain⟨u,hu⟩:∃u,p.data.toList[i]?=some u:=⟨_,AiN (by omega)⟩;have EG:p.data[i]?=some u:=by simpa using hu
  obtain⟨x,hx⟩:∃x,ns[i]?=some x:=⟨_,AiN (by omega)⟩;obtain⟨z,hz⟩:∃z,ns[i+1]?=some z:=⟨_,AiN (by omega)⟩;have r1:=Y3 (ho.rd VT.mono) hz;have r2:=Y3 (ho.rd VT.mono) hx;have ZC:=ADh (p:=p.data.toList) (s:=S) (av:=av) (d:=d) hu (by omega) ha;rw[J2]at ZC;have next:∀v:Bool,(v=true↔DY (Pl p.data.toList (i+1)) (S++[d]))→AK prog (Instr.storeAt 4 (.pointer (some ⟨b8,o8+(i+1)*1,none⟩)) (.bool v)) ρ (fun _ y=>AG ((i:Int)+1)∧A5.iE R p s (k:Int) (aD b8 o8) n n ((i:Int)+1) y):=fun v hv=>by
   refine AL.Uu ho (by omega) fun σ' Sj=>⟨by unfold AG;omega,?_⟩;have:=ih (i+1) σ' (ns.set (i+1) v) (by omega) (by omega) Sj (fun j hj=>?_) (fun j hj oA=>?_)
   ·rw[show((i+1:Nat):Int)=(i:Int)+1 by omega]at this;exact this
   ·by_cases ZJ:j=i+1
    ·subst ZJ;rw[Aix (by omega),AiO];exact hv
    ·rw[Aiz (by omega)];exact h1 j (by omega)
   ·rw[Aiz (by omega)];exact h2 j (by omega) oA
  have tD:=h2 (i+1) (by omega) (by omega);have ASy:=h1 i (AiV _);refine A5.pC ⟨fun _=>?_,fun hh=>by omega⟩;rw[tn1,Aiu];refine⟨by unfold AG;omega,by unfold AG;omega,b8,o8,rfl,by unfold In;omega,z,r1,fun hzt=>⟨by unfold In;omega,next _ ?_⟩,fun hzf=>⟨by unfold In;omega,x,r2,fun tH=>⟨u,by omega,EG,by unfold In;omega,next _ ?_⟩,fun hxf=>⟨by unfold In;omega,next _ ?_⟩⟩⟩
  ·rw[ZC];exact⟨fun _=>.inl (tD.1 (by rw[hz,hzt])),fun _=>rfl⟩
  ·rw[ZC,AiW];have jI:=ASy.1 (by rw[hx,tH])
   constructor
   ·intro h4;exact .inr ⟨UInt8.toNat_inj.1 (by show u.toNat=42;omega),jI⟩
   ·rintro(h4|⟨h4,_⟩)
    ·have:=tD.2 h4;rw[hz,hzf]at this;cases this
    ·rw[h4];rfl
  ·rw[ZC]
   constructor
   ·intro h4;cases h4
   ·rintro(h4|⟨_,h4⟩)
    ·have:=tD.2 h4;rw[hz,hzf]at this;cases this
    ·have:=ASy.2 h4;rw[hx,hxf]at this;cases this
theorem bQ (hp:p.size≤100000)(hs:s.size≤4611686018427387904)(h:∀(b:Bool) (σ':Hp),(b=true↔DY p.data.toList s.data.toList)→Ext σ σ'→R (.B b) σ'):Spec prog 182 #[.string p,.string s] σ R:=by
 have AY8:p.data.toList.length=p.size:=rfl;have AgK:s.data.toList.length=s.size:=rfl;have main:∀(g k:Nat) (τ:Hp) (b o:Nat) (av:List Bool),s.size-k=g→k≤s.size→Ext σ τ→AT 1 VT τ (some ⟨b,o,none⟩) (p.size+1) av→(∀j,j≤p.size→(av[j]?=some true↔DY (Pl p.data.toList j) (s.data.toList.take k)))→A5.NK R p s (aD b o) (p.size+1) (p.size+1) (k:Int) τ:=by
  intro g
  induction g with
  | zero=>
   intro k τ b o av hg hk hx hr ha;have:k=s.size:=by omega
   subst this;have hla:av.length=p.size+1:=hr.1;obtain⟨x,An⟩:∃x,av[p.size]?=some x:=⟨_,AiN (by omega)⟩;have r:=Y3 hr An;refine A5.Mh ⟨fun hh=>by omega,fun _=>⟨b,o,rfl,by unfold In;omega,x,by rw[Aiu];exact r,h x τ ?_ hx⟩⟩;have:=ha p.size (AiV _);rw[An,AiO,AiQ (by omega),←AY8,AKJ]at this;exact this
  | succ g ih=>
   intro k τ b o av hg hk hx hr ha;have Ei:k<s.size:=by omega
   obtain⟨d,hd⟩:∃d,s.data.toList[k]?=some d:=⟨_,AiN (by omega)⟩;refine A5.Mh ⟨fun _=>⟨by unfold AG;omega,?_⟩,fun hh=>by omega⟩;rw[show((p.size:Nat):Int)+1=((p.size+1:Nat):Int) by omega];refine Y2 (by omega) fun b8 h8=>⟨_,_,_,rfl,?_⟩;have ho:=bO (n:=p.size+1) (by omega) h8;have e0:((0:Nat):Int)=0:=rfl;refine ADi (τ:=τ) (av:=av) (d:=d) rfl hp hr hd (fun ρ ns A6 h2=>?_) p.size 0 _ _ rfl (AiR _) ho fun j hj=>?_
   ·refine AAY (τ:=τ) (av:=av) (d:=d) (S:=s.data.toList.take k) rfl hp Ei hs hr.1 ha (fun ρ' uH DJ h3=>?_) p.size 0 ρ ns rfl (AiR _) A6 (fun j hj=>?_) fun j _ oA=>h2 j oA
    ·have:=ih (k+1) ρ' b8 0 uH (by omega) (by omega) (hx.trans DJ.up) (DJ.rd VT.mono) (by rw[AQ hd];exact h3);rw[show((k+1:Nat):Int)=(k:Int)+1 by omega]at this;exact this
    ·have:j=0:=by omega
     subst this;rw[h2 0 (by omega)];exact(AAX (p:=p.data.toList) ha).symm
   ·rw[Ajt,AiL hj]
    constructor
    ·intro h4;cases h4
    ·rintro(⟨h4,_⟩|⟨_,h4,_⟩)
     ·omega
     ·omega
 refine A5.start ⟨by unfold AG;omega,?_⟩;rw[show((p.size:Nat):Int)+1=((p.size+1:Nat):Int) by omega];refine Y2 (by omega) fun b hb=>⟨_,_,_,rfl,b,0,rfl,by unfold In;omega,?_⟩;have ho:=bO (n:=p.size+1) (by omega) hb;refine AL.Uu (i:=0) ho (by omega) fun σ' Sj=>?_;refine tG (σ:=σ) rfl hp (fun τ bs A6 h2=>main s.size 0 τ b 0 bs rfl (AiR _) A6.up (A6.rd VT.mono) (by rw[Aj7];exact h2)) p.size 0 σ' _ rfl (AiR _) Sj (fun j hj=>?_) fun j hj oA=>?_
 ·have:j=0:=by omega
  subst this;rw[Aix (by rw[Ajn];omega)];exact⟨fun _=>ADg,fun _=>rfl⟩
 ·rw[Aiz (by omega),Ajt,AiL oA]
end
theorem qM {c:UInt8}:∀{w:List UInt8},(∀u∈w,u≠c)→P8 c w=[w]
 | [],_=>rfl
 | b::w,h=>by
  unfold P8;rw[AiK (h b (Aih ..)),qM fun u hu=>h u (AiX _ hu)]
theorem ji {c:UInt8}{r:List UInt8}:∀{w:List UInt8},(∀u∈w,u≠c)→P8 c (w++c::r)=w::P8 c r
 | [],_=>by
  rw[AjK,P8,AiL rfl]
 | b::w,h=>by
  rw[Ai1,P8,AiK (h b (Aih ..)),ji fun u hu=>h u (AiX _ hu)]
section
variable {σ:Hp}{R:Rr}
theorem Y4 {p v:ByteArray}(hp:p.size≤100000)(hs:v.size≤4611686018427387904)(h:∀σ',Ext σ σ'→R (.returned (.bool (Lo p v))) σ'):Spec prog 146 #[.string p,.string v] σ R:=by
 have J2:p.data.toList.length=p.size:=rfl;have main:∀(g i f:Nat) (τ:Hp),p.size-i=g→i≤p.size→f≤i→(∀u∈(p.data.toList.drop f).take (i-f),u≠124)→Ext σ τ→(Lo p v=true↔∃x∈P8 124 (p.data.toList.drop f),DY x v.data.toList)→Ft.Ab R p v (f:Int) (i:Int) τ:=by
  intro g
  induction g with
  | zero=>
   intro i f τ hg hi hf Cg hx hl;have:i=p.size:=by omega
   subst this;have hw:(p.data.toList.drop f).take (p.size-f)=p.data.toList.drop f:=AiQ (by rw[Aic];omega);rw[hw]at Cg;rw[qM Cg]at hl;refine Ft.AO ⟨fun _=>⟨fun _=>⟨_,me hf (AiV _),bQ (by rw[Ai5];omega) hs fun b σ' hb KU=>⟨_,rfl,fun ht=>?_,fun hf2=>⟨by unfold AG;omega,?_⟩⟩⟩,fun hh=>absurd rfl hh⟩,fun hh=>by omega⟩
   ·rw[Jz,hw]at hb;have:=h σ' (hx.trans KU);rw[hl.2 ⟨_,AiY.2 rfl,hb.1 ht⟩]at this;exact this
   ·rw[Jz,hw]at hb;refine Ft.Ff ⟨by unfold AG;omega,Ft.AO ⟨fun hh=>by omega,fun _=>?_⟩⟩;have hlf:Lo p v=false:=by
     cases hq:Lo p v with
     | false=>rfl
     | true=>
      obtain⟨x,Bc,An⟩:=hl.1 hq;obtain rfl:=AiY.1 Bc;have:=hb.2 An;rw[hf2]at this;cases this
    have:=h σ' (hx.trans KU);rw[hlf]at this;exact this
  | succ g ih=>
   intro i f τ hg hi hf Cg hx hl;have BF:i<p.size:=by omega
   obtain⟨u,hu⟩:∃u,p.data.toList[i]?=some u:=⟨_,AiN (by omega)⟩;have EG:p.data[Int.toNat (i:Int)]?=some u:=by simpa using hu
   have hd:(p.data.toList.drop f)[i-f]?=some u:=by rw[Ain,show f+(i-f)=i by omega];exact hu
   refine Ft.AO ⟨fun _=>⟨fun hh=>by omega,fun _=>⟨u,by omega,EG,fun AgM=>?_,fun Ah=>?_⟩⟩,fun hh=>by omega⟩
   ·have AY9:u=124:=UInt8.toNat_inj.1 (by show u.toNat=124;omega);subst AY9;have hsp:p.data.toList.drop f=(p.data.toList.drop f).take (i-f)++124::p.data.toList.drop (i+1):=by
     conv=>lhs;rw[←Ai8 (i-f) (p.data.toList.drop f)]
     rw[Ey hd,AjQ,show f+(i-f+1)=i+1 by omega]
    rw[hsp,ji Cg]at hl;refine⟨_,me hf hi,bQ (by rw[Ai5];omega) hs fun b σ' hb KU=>⟨_,rfl,fun ht=>?_,fun hf2=>⟨by unfold AG;omega,?_⟩⟩⟩
    ·rw[Jz]at hb;have:=h σ' (hx.trans KU);rw[hl.2 ⟨_,Aih ..,hb.1 ht⟩]at this;exact this
    ·rw[Jz]at hb;have:=ih (i+1) (i+1) σ' (by omega) (by omega) (AiV _) (by simp) (hx.trans KU) (hl.trans ⟨fun⟨x,Bc,An⟩=>by
      rcases AiT.1 Bc with rfl|Bc
      ·have:=hb.2 An;rw[hf2]at this;cases this
      ·exact⟨x,Bc,An⟩,fun⟨x,Bc,An⟩=>⟨x,AiX _ Bc,An⟩⟩)
     rw[show((i+1:Nat):Int)=(i:Int)+1 by omega]at this;exact Ft.Ff ⟨by unfold AG;omega,this⟩
   ·have:=ih (i+1) f τ (by omega) (by omega) (by omega) (fun w hw=>by
     rw[show i+1-f=(i-f)+1 by omega,AQ hd]at hw;rcases List.mem_append.1 hw with hw|hw
     ·exact Cg w hw
     ·obtain rfl:=AiY.1 hw;intro e;rw[e]at Ah;exact Ah rfl) hx hl
    rw[show((i+1:Nat):Int)=(i:Int)+1 by omega]at this;exact Ft.Ff ⟨by unfold AG;omega,this⟩
 exact Ft.start (main p.size 0 0 σ rfl (AiR _) (AiV _) (by simp) (.refl _) tE)
theorem tI {p:Option Addr}{n c:Nat}{ls:List Lb}{k:ByteArray}(hr:Dy σ p n ls)(h:R (.returned (.string (Dg ls k))) σ):Spec prog 145 #[.slice p n c,.string k] σ R:=by
 refine Oe.start ?_
 suffices H:∀d i:Nat,n-i=d→i≤n→Dg ls k=Dg (ls.drop i) k→Oe.Fm R p n c k (i:Int) σ from H n 0 rfl (AiR _) rfl
 intro d
 induction d with
 | zero=>
  intro i hd hi he;refine Oe.As ⟨fun Aq=>by omega,fun _=>?_⟩;rw[Aji (by rw[hr.1];omega)]at he;rw[he]at h;exact h
 | succ d ih=>
  intro i hd hi he;have BF:i<n:=by omega
  obtain⟨x,hx⟩:=hr.ex BF;obtain⟨b,o,rfl,hl⟩:=Dy.at hr hx;rw[Ey hx,Dg]at he;refine Oe.As ⟨fun _=>⟨b,o,rfl,by unfold In;omega,x.1,by simpa using hl.1,fun hk=>⟨by unfold In;omega,x.2,by simpa using hl.2.1,?_⟩,fun hk=>⟨AJ BF hr.big,?_⟩⟩,fun hh=>by omega⟩
  ·rw[mJ,AiW]at hk;rw[AiL hk]at he;rw[he]at h;exact h
  ·rw[mJ,Aik]at hk;rw[AiK hk]at he;have:=ih (i+1) (by omega) (by omega) he;rw[show((i+1:Nat):Int)=(i:Int)+1 by omega]at this;exact this
theorem tJ {ls:List Lb}(h:∀x∈ls,x.2.size≤4611686018427387904)(k:ByteArray):(Dg ls k).size≤4611686018427387904:=by
 induction ls with
 | nil=>show 0≤_;omega
 | cons x l ih=>
  unfold Dg;split
  ·exact h x (Aih ..)
  ·exact ih fun y hy=>h y (AiX _ hy)
theorem Jt.at' {p:Option Addr}{n i:Nat}{ms:List Mt}{x:Mt}(hr:AT 3 Jt σ p n ms)(hx:ms[i]?=some x):∃b o,p=some ⟨b,o,none⟩∧Ae σ b (o+i*3) [.I x.kind,.string x.name,.string x.val]:=by
 obtain⟨b,o,vs,hp,rfl,hl⟩:=AT.idx hr hx;exact⟨b,o,hp,hl⟩
theorem Y5 {p q:Option Addr}{n c m d:Nat}{ms:List Mt}{ls:List Lb}(hr:AT 3 Jt σ p n ms)(hl:Dy σ q m ls)(hv:∀x∈ms,x.val.size≤100000)(hs:∀x∈ls,x.2.size≤4611686018427387904)(h:∀σ',Ext σ σ'→R (.returned (.bool (GY ms ls))) σ'):
  Spec prog 104 #[.slice p n c,.slice q m d] σ R:=by
 refine H3.start ?_
 suffices H:∀(g i:Nat) (τ:Hp),n-i=g→i≤n→Ext σ τ→GY ms ls=GY (ms.drop i) ls→H3.Fm R p n c q m d (i:Int) τ from H n 0 σ rfl (AiR _) (.refl _) rfl
 intro g
 induction g with
 | zero=>
  intro i τ hg hi hx he;refine H3.As ⟨fun Aq=>by omega,fun _=>?_⟩;rw[Aji (by rw[hr.1];omega)]at he;have:=h τ hx;rw[he]at this;exact this
 | succ g ih=>
  intro i τ hg hi hx he;have BF:i<n:=by omega
  obtain⟨x,qN⟩:=hr.ex BF;obtain⟨b,o,rfl,CF⟩:=Jt.at' hr qN;have hxv:=hv x (AiM qN);have hgs:=tJ hs x.name;have e:GY ms ls=(Om x ls&&GY (ms.drop (i+1)) ls):=by rw[he,Ey qN];rfl
  have fin:∀(t:Bool) (τ':Hp),t=Om x ls→Ext τ τ'→H3.VC R (aD b o) n c q m d (i:Int) t τ':=fun t τ' ht KU=>by
   refine H3.cX ⟨fun hf=>?_,fun zL=>⟨AJ BF hr.big,?_⟩⟩
   ·have:=h τ' (hx.trans KU);rw[e,←ht,hf,AjN]at this;exact this
   ·have:=ih (i+1) τ' (by omega) (by omega) (hx.trans KU) (by rw[e,←ht,zL,AjR]);rw[show((i+1:Nat):Int)=(i:Int)+1 by omega]at this;exact this
  have P6:=CF.mono hx;have e1:Om x ls=if x.kind=1 then decide (Dg ls x.name=x.val) else if x.kind=2 then decide (Dg ls x.name≠x.val) else if x.kind=3 then Lo x.val (Dg ls x.name) else if x.kind=4 then !Lo x.val (Dg ls x.name) else false:=rfl
  refine H3.As ⟨fun _=>⟨b,o,rfl,by unfold In;omega,x.name,by simpa using P6.2.1,tI (hl.mono BL.mono hx) ⟨_,rfl,by unfold In;omega,x.kind,by simpa using P6.1,fun k1=>⟨by unfold In;omega,x.val,by simpa using P6.2.2.1,fin _ τ ?_ (.refl _)⟩,fun k1=>⟨fun k2=>⟨by unfold In;omega,x.val,by simpa using P6.2.2.1,fin _ τ ?_ (.refl _)⟩,fun k2=>⟨fun k3=>⟨by unfold In;omega,x.val,by simpa using P6.2.2.1,Y4 hxv hgs fun σ' KU=>⟨_,rfl,fin _ σ' ?_ KU⟩⟩,fun k3=>⟨fun k4=>⟨by unfold In;omega,x.val,by simpa using P6.2.2.1,Y4 hxv hgs fun σ' KU=>⟨_,rfl,fin _ σ' ?_ KU⟩⟩,fun k4=>fin _ τ ?_ (.refl _)⟩⟩⟩⟩⟩,fun hh=>by omega⟩
  ·rw[mJ,e1,AiL k1]
  ·rw[mJ,e1,AiK k1,AiL k2];by_cases hq:Dg ls x.name=x.val
   ·rw[Aia hq];simp[hq]
   ·rw[AiZ hq];simp[hq]
  ·rw[e1,AiK k1,AiK k2,AiL k3]
  ·rw[e1,AiK k1,AiK k2,AiK k3,AiL k4]
  ·rw[e1,AiK k1,AiK k2,AiK k3,AiK k4]
end
def bR (q:Pt→Bool)(ps:List Pt)(k:Nat)(last:Int):Prop:=(last=-1∧(ps.take k).filter q=[])∨∃(l:Nat) (y:Pt),last=l∧ps[l]?=some y∧((ps.take k).filter q).getLast?=some y
theorem bR.step {q:Pt→Bool}{ps:List Pt}{k:Nat}{last:Int}{x:Pt}(h:bR q ps k last)(hx:ps[k]?=some x):bR q ps (k+1) (if q x=true then(k:Int) else last):=by
 have e:(ps.take (k+1)).filter q=(ps.take k).filter q++if q x=true then[x] else[]:=by
  rw[AQ hx,Ajd,Aj8]
  congr 1
 unfold bR;rw[e];by_cases hq:q x=true
 ·rw[AiL hq,AiL hq];exact .inr ⟨k,x,rfl,hx,List.getLast?_concat⟩
 ·rw[AiK hq,AiK hq,AkC];exact h
structure SsD (ss:List Sr):Prop where
 sm:∀s∈ss,Af s.ls
 len:ss.length≤10000000
 pl:∀s∈ss,s.ps.length≤1000000000
section
variable {σ σ' σ0:Hp}{R:Rr}
theorem dw {n:Nd}{p q l:Option Addr}{k c m d j e:Nat}{ss:List Sr}{t:Int}(hm:AT 3 Jt σ p k n.mt)(hr:AT 2 Dh σ l j ss)(hS:SsD ss)(hN:zP n)(hmv:∀x∈n.mt,x.val.size≤100000)(ht:-4611686018427387904≤t∧t≤4611686018427387904)
  (h:nK R σ ⟨2,0,HV FF n ss t,0,[]⟩):Spec prog 67 #[KD n p k c q m d,.slice l j e,.I t] σ R:=by
 have hl:ss.length=j:=hr.1;have H9:=hr.big;have hb:=hN.back;have hlen:=hS.len
 let f:Sr→Option El:=fun s=>match (FT s.ps (t-n.back-300) (t-n.back)).getLast? with
  | none=>none
  | some p=>if p.2=G4∨GY n.mt s.ls=false then none else some ⟨s.ls,p.2⟩
 have hf:HV FF n ss t=ss.filterMap f:=rfl;rw[hf]at h;refine Ba.start fun _ _ _=>?_
 suffices H:∀g i:Nat,∀p7 n7 c7 σ',j-i=g→i≤j→AL 2 Aa σ σ' p7 n7 c7 ((ss.take i).filterMap f)→Ba.Ab R l j e t n.kind n.op n.text p k c n.width n.back n.BW q m d n.bool n.parts 0 0 none 0 0 0 none 0 0 2 0 p7 n7 c7 0 none 0 0 (i:Int) σ' from H j 0 none 0 0 σ rfl (AiR _) (AL.nil (.refl _))
 intro g
 induction g with
 | zero=>
  intro i p7 n7 c7 σ' jH hi ho;rw[AiQ (by omega)]at ho;refine Ba.AO ⟨fun hh=>by omega,fun _=>?_⟩;exact h σ' p7 n7 c7 none 0 0 ho.up (ho.rd Aa.mono) AT.nil (by obtain⟨cs,KE,_⟩:=ho.1.2;exact Au.cap KE)
 | succ g ih=>
  intro i p7 n7 c7 σ' jH hi ho;have BF:i<j:=by omega
  obtain⟨s,hs⟩:=hr.ex BF;obtain⟨b,o,p1,n1,c1,q1,m1,d1,rfl,GZ,h1,h2,h3⟩:=Dh.at hr hs;have TD:=hS.sm s (AiM hs);have zR:=hS.pl s (AiM hs);have hps:s.ps.length=m1:=h2.1;have hx:=ho.up;have hn7:n7≤i:=by
   have:=ho.1.1;have h9:=Aif f (ss.take i);rw[AiU]at h9;omega
  have next:∀p8 n8 c8 σ2,AL 2 Aa σ σ2 p8 n8 c8 ((ss.take i).filterMap f++(f s).toList)→Ba.Kj R (aD b o) j e t n.kind n.op n.text p k c n.width n.back n.BW q m d n.bool n.parts 0 0 none 0 0 0 none 0 0 2 0 p8 n8 c8 0 none 0 0 (i:Int) σ2:=fun p8 n8 c8 σ2 A6=>
   Ba.IL ⟨AJ BF H9,by
    have:=ih (i+1) p8 n8 c8 σ2 (by omega) (by omega) (by rw[Cj hs];exact A6);rw[show((i+1:Nat):Int)=(i:Int)+1 by omega]at this;exact this⟩
  have By:In (i:Int) (j:Int):=by unfold In;omega
  have ld1:∀σ2,Ext σ σ2→Ae σ2 b (o+Int.toNat (i:Int)*2) [.slice p1 n1 c1,.slice q1 m1 d1]:=fun σ2 h=>by simpa using GZ.mono h
  refine Ba.AO ⟨fun _=>⟨b,o,rfl,By,p1,n1,c1,(ld1 σ' hx).1,Y5 (hm.mono Jt.mono hx) (h1.mono BL.mono hx) hmv (fun x hx=>by have:=(TD.2 x hx).2;omega) fun σ2 An=>⟨_,rfl,fun hfa=>next _ _ _ _ ?_,fun htr=>?_⟩⟩,fun hh=>by omega⟩
  ·have ef:f s=none:=by
    show(match (FT s.ps (t-n.back-300) (t-n.back)).getLast? with | none=>none | some p=>_)=none
    cases(FT s.ps (t-n.back-300) (t-n.back)).getLast? with
    | none=>rfl
    | some y=>exact AiL (.inr hfa)
   rw[ef];simpa using ho.mono Aa.mono An
  have A6:=ho.mono Aa.mono An;have BU:=hx.trans An;have h2':=h2.mono J5.mono BU
  let qq:Pt→Bool:=fun p=>decide (t-n.back-300<p.1)&&decide (p.1≤t-n.back)
  have hqq:FT s.ps (t-n.back-300) (t-n.back)=s.ps.filter qq:=rfl
  suffices K:∀g' k':Nat,∀last:Int,m1-k'=g'→k'≤m1→bR qq s.ps k' last→Ba.NJ R (aD b o) j e t n.kind n.op n.text p k c n.width n.back n.BW q m d n.bool n.parts 0 0 none 0 0 0 none 0 0 2 0 p7 n7 c7 0 none 0 0 (i:Int) last (k':Int) σ2 from K m1 0 (-1) rfl (AiR _) (.inl ⟨rfl,rfl⟩)
  intro g'
  induction g' with
  | zero=>
   intro k' last sO Ei hL;unfold bR at hL;rw[AiQ (by omega),←hqq]at hL;refine Ba.IK ⟨b,o,rfl,By,q1,m1,d1,(ld1 σ2 BU).2.1,fun hh=>by omega,fun _=>⟨fun h0=>?_,fun h0=>next _ _ _ _ ?_⟩⟩
   ·rcases hL with ⟨QD,_⟩|⟨lk,y,rfl,hy,Oz⟩
    ·omega
    obtain⟨b2,o2,rfl,VP⟩:=J5.at h2' hy;have hlk:=(List.getElem?_eq_some_iff.1 hy).1;have AS0:In (lk:Int) (m1:Int):=by unfold In;omega
    have jM:Ae σ2 b2 (o2+Int.toNat (lk:Int)*2) [.I y.1,.U y.2]:=by simpa using VP
    have ef:f s=if y.2=G4∨GY n.mt s.ls=false then none else some ⟨s.ls,y.2⟩:=by
     show(match (FT s.ps (t-n.back-300) (t-n.back)).getLast? with | none=>none | some p=>_)=_
     rw[Oz]
    refine⟨By,aD b2 o2,m1,d1,(ld1 σ2 BU).2.1,b2,o2,rfl,AS0,y.2,jM.2.1,fun E2=>⟨By,p1,n1,c1,(ld1 σ2 BU).1,By,aD b2 o2,m1,d1,(ld1 σ2 BU).2.1,b2,o2,rfl,AS0,y.2,jM.2.1,fun b94 AZB=>?_⟩,fun E2=>next _ _ _ _ ?_⟩
    ·refine AL.eld A6 (h1.mono BL.mono A6.2) (by omega) (fun p' c' σ3 DJ _=>⟨_,_,_,rfl,next _ _ _ _ ?_⟩) AZB;rw[ef,AiK (by
      rintro(h5|h5)
      ·exact E2 h5
      ·rw[htr]at h5;cases h5)]
     exact DJ
    ·rw[ef,AiL (.inl (Aig.1 E2))];simpa using A6
   ·rcases hL with ⟨QD,tK⟩|⟨lk,y,hlk,_⟩
    ·have ef:f s=none:=by
      show(match (FT s.ps (t-n.back-300) (t-n.back)).getLast? with | none=>none | some p=>_)=none
      rw[tK];rfl
     rw[ef];simpa using A6
    ·omega
  | succ g' ihk=>
   intro k' last sO Ei hL;have uF:k'<m1:=by omega
   obtain⟨x,dJ⟩:=h2'.ex uF;obtain⟨b2,o2,rfl,VP⟩:=J5.at h2' dJ;have jM:Ae σ2 b2 (o2+Int.toNat (k':Int)*2) [.I x.1,.U x.2]:=by simpa using VP
   have go:∀qO,qO=(if qq x=true then(k':Int) else last)→Ba.Gj R (aD b o) j e t n.kind n.op n.text p k c n.width n.back n.BW q m d n.bool n.parts 0 0 none 0 0 0 none 0 0 2 0 p7 n7 c7 0 none 0 0 (i:Int) qO (k':Int) σ2:=fun qO UK=>by
    have:=ihk (k'+1) qO (by omega) (by omega) (by rw[UK];exact hL.step dJ);rw[show((k'+1:Nat):Int)=(k':Int)+1 by omega]at this;exact Ba.HH ⟨by unfold AG;omega,this⟩
   have qx:qq x=(decide (t-n.back-300<x.1)&&decide (x.1≤t-n.back)):=rfl;refine Ba.IK ⟨b,o,rfl,By,aD b2 o2,m1,d1,(ld1 σ2 BU).2.1,fun _=>⟨By,aD b2 o2,m1,d1,(ld1 σ2 BU).2.1,b2,o2,rfl,by unfold In;omega,x.1,jM.1,by unfold AG;omega,by unfold AG;omega,fun jE=>⟨by unfold AG;omega,fun ZG=>go _ ?_,fun ZG=>go _ ?_⟩,fun jE=>go _ ?_⟩,fun hh=>by omega⟩
   ·rw[qx,Aia jE,Aia ZG];rfl
   ·rw[qx,AiZ ZG,Ajl,AiK (by decide)]
   ·rw[qx,AiZ jE,AjN,AiK (by decide)]
theorem dz {n:Nd}{p q l:Option Addr}{k c m d j e:Nat}{ss:List Sr}{t:Int}(hm:AT 3 Jt σ p k n.mt)(hr:AT 2 Dh σ l j ss)(hS:SsD ss)(hN:zP n)(hmv:∀x∈n.mt,x.val.size≤100000)(ht:-4611686018427387904≤t∧t≤4611686018427387904)
  (h:nK R σ ⟨3,0,[],n.width,Ol FF n ss t⟩):Spec prog 68 #[KD n p k c q m d,.slice l j e,.I t] σ R:=by
 have hl:ss.length=j:=hr.1;have H9:=hr.big;have hb:=hN.back;have hw:=hN.width;have hlen:=hS.len
 let fv:Sr→List Int:=fun s=>((FT s.ps (t-n.back-n.width) (t-n.back)).filter fun p=>decide (p.2≠G4)).map Prod.snd
 let f:Sr→Option Rg:=fun s=>bif !(fv s).isEmpty&&GY n.mt s.ls then some ⟨s.ls,fv s⟩ else none
 have hf:Ol FF n ss t=ss.filterMap f:=rfl;rw[hf]at h;refine BJ.start fun _ _ _=>?_
 suffices H:∀g i:Nat,∀p7 n7 c7 σ',j-i=g→i≤j→AL 2 KV σ σ' p7 n7 c7 ((ss.take i).filterMap f)→BJ.Ab R l j e t n.kind n.op n.text p k c n.width n.back n.BW q m d n.bool n.parts 0 0 none 0 0 0 none 0 0 3 0 none 0 0 n.width p7 n7 c7 (i:Int) σ' from H j 0 none 0 0 σ rfl (AiR _) (AL.nil (.refl _))
 intro g
 induction g with
 | zero=>
  intro i p7 n7 c7 σ' jH hi ho;rw[AiQ (by omega)]at ho;refine BJ.AO ⟨fun hh=>by omega,fun _=>?_⟩;exact h σ' none 0 0 p7 n7 c7 ho.up AT.nil (ho.rd KV.mono) (AiV _)
 | succ g ih=>
  intro i p7 n7 c7 σ' jH hi ho;have BF:i<j:=by omega
  obtain⟨s,hs⟩:=hr.ex BF;obtain⟨b,o,p1,n1,c1,q1,m1,d1,rfl,GZ,h1,h2,h3⟩:=Dh.at hr hs;have TD:=hS.sm s (AiM hs);have zR:=hS.pl s (AiM hs);have hps:s.ps.length=m1:=h2.1;have hx:=ho.up;have hn7:n7≤i:=by
   have:=ho.1.1;have h9:=Aif f (ss.take i);rw[AiU]at h9;omega
  have next:∀p8 n8 c8 σ2,AL 2 KV σ σ2 p8 n8 c8 ((ss.take i).filterMap f++(f s).toList)→BJ.Kj R (aD b o) j e t n.kind n.op n.text p k c n.width n.back n.BW q m d n.bool n.parts 0 0 none 0 0 0 none 0 0 3 0 none 0 0 n.width p8 n8 c8 (i:Int) σ2:=fun p8 n8 c8 σ2 A6=>
   BJ.IL ⟨AJ BF H9,by
    have:=ih (i+1) p8 n8 c8 σ2 (by omega) (by omega) (by rw[Cj hs];exact A6);rw[show((i+1:Nat):Int)=(i:Int)+1 by omega]at this;exact this⟩
  have By:In (i:Int) (j:Int):=by unfold In;omega
  have ld1:∀σ2,Ext σ σ2→Ae σ2 b (o+Int.toNat (i:Int)*2) [.slice p1 n1 c1,.slice q1 m1 d1]:=fun σ2 h=>by simpa using GZ.mono h
  refine BJ.AO ⟨fun _=>⟨b,o,rfl,By,p1,n1,c1,(ld1 σ' hx).1,Y5 (hm.mono Jt.mono hx) (h1.mono BL.mono hx) hmv (fun x hx=>by have:=(TD.2 x hx).2;omega) fun σ2 An=>⟨_,rfl,fun hfa=>next _ _ _ _ ?_,fun htr=>⟨By,p1,n1,c1,(ld1 σ2 (hx.trans An)).1,fun _=>?_⟩⟩⟩,fun hh=>by omega⟩
  ·have ef:f s=none:=by
    show(bif !(fv s).isEmpty&&GY n.mt s.ls then some _ else none)=none
    rw[hfa,Ajl];rfl
   rw[ef];simpa using ho.mono KV.mono An
  have A6:=ho.mono KV.mono An;have BU:=hx.trans An;have h2':=h2.mono J5.mono BU
  let gv:Pt→Option Int:=fun p=>if(t-n.back-n.width<p.1∧p.1≤t-n.back)∧p.2≠G4 then some p.2 else none
  have hgv:∀l:List Pt,(((FT l (t-n.back-n.width) (t-n.back)).filter fun p=>decide (p.2≠G4)).map Prod.snd)=l.filterMap gv:=fun l=>by
   unfold FT;rw[List.filter_filter]
   induction l with
   | nil=>rfl
   | cons a l ih=>
    by_cases ha:(t-n.back-n.width<a.1∧a.1≤t-n.back)∧a.2≠G4
    ·rw[List.filter_cons_of_pos (by simpa[and_comm,and_assoc,and_left_comm] using ha),Ai4,ih,List.filterMap_cons_some (show gv a=some a.2 from AiL ha)]
    ·rw[List.filter_cons_of_neg (by simpa[and_comm,and_assoc,and_left_comm] using ha),ih,List.filterMap_cons_none (show gv a=none from AiK ha)]
  have hfv:fv s=s.ps.filterMap gv:=hgv s.ps
  suffices K:∀g' k':Nat,∀p9 n9 c9 σ3,m1-k'=g'→k'≤m1→AL 1 (MM .u64) σ2 σ3 p9 n9 c9 ((s.ps.take k').filterMap gv)→BJ.NJ R (aD b o) j e t n.kind n.op n.text p k c n.width n.back n.BW q m d n.bool n.parts 0 0 none 0 0 0 none 0 0 3 0 none 0 0 n.width p7 n7 c7 (i:Int) p1 n1 c1 p9 n9 c9 (k':Int) σ3 from K m1 0 none 0 0 σ2 rfl (AiR _) (AL.nil (.refl _))
  intro g'
  induction g' with
  | zero=>
   intro k' p9 n9 c9 σ3 sO Ei Sb;rw[AiQ (by omega),←hfv]at Sb;have hlv:(fv s).length=n9:=Sb.1.1;have JK:=BU.trans Sb.up;have DJ:=A6.mono KV.mono Sb.up;refine BJ.IK ⟨b,o,rfl,By,q1,m1,d1,(ld1 σ3 JK).2.1,fun hh=>by omega,fun _=>⟨fun h0 b92 AZC=>?_,fun h0=>next _ _ _ _ ?_⟩⟩
   ·obtain⟨kG,hv2⟩:=A6.sep Sb;have he:KV (σ3.del p7) [.slice p1 n1 c1,.slice p9 n9 c9] ⟨s.ls,fv s⟩:=⟨p1,n1,c1,p9,n9,c9,rfl,h1.mono BL.mono DJ.2,kG,hv2⟩;refine AL.Hu KV.mono DJ rfl (KV.one _ _ _ he) he (by omega) (fun p' c' σ4 FW _=>⟨_,_,_,rfl,next _ _ _ _ ?_⟩) AZC;have ef:f s=some ⟨s.ls,fv s⟩:=by
     show(bif !(fv s).isEmpty&&GY n.mt s.ls then some _ else none)=_
     rw[htr];cases hfe:fv s with
     | nil=>rw[hfe]at hlv;simp at hlv;omega
     | cons a l=>rfl
    rw[ef];exact FW
   ·have tK:fv s=[]:=Ai0 (by omega);have ef:f s=none:=by
     show(bif !(fv s).isEmpty&&GY n.mt s.ls then some _ else none)=none
     rw[tK];rfl
    rw[ef];simpa using DJ
  | succ g' ihk=>
   intro k' p9 n9 c9 σ3 sO Ei Sb;have uF:k'<m1:=by omega
   have JK:=BU.trans Sb.up;obtain⟨x,dJ⟩:=h2'.ex uF;obtain⟨b2,o2,rfl,VP⟩:=J5.at (h2'.mono J5.mono Sb.up) dJ;have jM:Ae σ3 b2 (o2+Int.toNat (k':Int)*2) [.I x.1,.U x.2]:=by simpa using VP
   have hn9:n9≤k':=by
    have:=Sb.1.1;have h9:=Aif gv (s.ps.take k');rw[AiU]at h9;omega
   have go:∀p' n' c' σ4,AL 1 (MM .u64) σ2 σ4 p' n' c' ((s.ps.take k').filterMap gv++(gv x).toList)→BJ.Gj R (aD b o) j e t n.kind n.op n.text p k c n.width n.back n.BW q m d n.bool n.parts 0 0 none 0 0 0 none 0 0 3 0 none 0 0 n.width p7 n7 c7 (i:Int) p1 n1 c1 p' n' c' (k':Int) σ4:=fun p' n' c' σ4 FW=>by
    have:=ihk (k'+1) p' n' c' σ4 (by omega) (by omega) (by rw[Cj dJ];exact FW);rw[show((k'+1:Nat):Int)=(k':Int)+1 by omega]at this;exact BJ.HH ⟨by unfold AG;omega,this⟩
   have no:¬((t-n.back-n.width<x.1∧x.1≤t-n.back)∧x.2≠G4)→BJ.Gj R (aD b o) j e t n.kind n.op n.text p k c n.width n.back n.BW q m d n.bool n.parts 0 0 none 0 0 0 none 0 0 3 0 none 0 0 n.width p7 n7 c7 (i:Int) p1 n1 c1 p9 n9 c9 (k':Int) σ3:=fun hh=>go _ _ _ _ (by rw[show gv x=none from AiK hh];simpa using Sb);refine BJ.IK ⟨b,o,rfl,By,aD b2 o2,m1,d1,(ld1 σ3 JK).2.1,fun _=>⟨By,aD b2 o2,m1,d1,(ld1 σ3 JK).2.1,b2,o2,rfl,by unfold In;omega,x.1,x.2,jM,fun _=>⟨by unfold AG;omega,by unfold AG;omega,fun jE=>⟨by unfold AG;omega,fun ZG=>⟨fun E2 gh AZD=>?_,fun E2=>no fun hh=>E2 hh.2⟩,fun ZG=>no fun hh=>ZG hh.1.2⟩,fun jE=>no fun hh=>jE hh.1.1⟩⟩,fun hh=>by omega⟩;refine AL.Hu (vs:=[.U x.2]) (MM.mono _) Sb rfl (fun u hu=>by rw[AiY.1 hu];rfl) (x:=x.2) rfl (by omega) (fun p' c' σ4 FW _=>⟨_,_,_,rfl,go _ _ _ _ ?_⟩) AZD;rw[show gv x=some x.2 from AiL ⟨⟨jE,ZG⟩,E2⟩];exact FW
theorem nM {n:Nd}{x:RP}{pc pe:Option Addr}{nc cc ne ce:Nat}(h1:AT 2 Aa σ pc nc x.es)(h2:AT 2 KV σ pe ne x.rs)(hes:x.es≠[]→n.op=11∨n.op=12)(hrs:x.rs≠[]→1≤n.op∧n.op≤10)(TD:∀y∈x.es,Af y.ls∧Iu y.v)(hsr:∀r∈x.rs,Af r.ls∧0<r.vs.length)(hlen:x.es.length+x.rs.length≤1000000000000)
  (h:nK R σ ⟨2,0,JB FF n ⟨x.kind,AV x.w,x.es,x.rs⟩,0,[]⟩):Spec prog 69 #[.I n.op,Y0 x.kind x.v pc nc cc x.w pe ne ce] σ R:=by
 have QD:x.es.length=nc:=h1.1;have VP:x.rs.length=ne:=h2.1
 let fe:El→El:=fun y=>⟨Bd y.ls,if n.op=11 then P5 y.v else HY y.v⟩
 let fr:Rg→Option El:=fun s=>(Ee n.op s.vs (AV x.w)).map fun v=>⟨Bd s.ls,v⟩
 have ug:JB FF n ⟨x.kind,AV x.w,x.es,x.rs⟩=x.es.map fe++x.rs.filterMap fr:=rfl;rw[ug]at h;refine Cm.start fun _ _ _=>?_;have second:∀(g i:Nat) p5 n5 c5 σ',ne-i=g→i≤ne→AL 2 Aa σ σ' p5 n5 c5 (x.es.map fe++(x.rs.take i).filterMap fr)→Cm.cM R n.op x.kind x.v pc nc cc x.w pe ne ce 0 0 none 0 0 0 none 0 0 2 0 p5 n5 c5 0 none 0 0 (i:Int) σ':=by
  intro g
  induction g with
  | zero=>
   intro i p5 n5 c5 σ' hg hi ho;rw[AiQ (by omega)]at ho;exact Cm.Re ⟨fun hh=>by omega,fun _=>h σ' p5 n5 c5 none 0 0 ho.up (ho.rd Aa.mono) AT.nil (by obtain⟨cs,KE,_⟩:=ho.1.2;exact Au.cap KE)⟩
  | succ g ih=>
   intro i p5 n5 c5 σ' hg hi ho;have BF:i<ne:=by omega
   obtain⟨s,hs⟩:=h2.ex BF;have AAZ:=hsr s (AiM hs);have MJ:=hrs fun e=>by rw[e]at hs;simp at hs
   obtain⟨b,o,q1,m1,d1,q2,m2,d2,rfl,CF,GZ,ZN,hcp⟩:=KV.at h2 hs;have hvl:s.vs.length=m2:=ZN.1;have hx:=ho.up;have hn5:n5≤nc+i:=by
    have h3:=ho.1.1;have h4:=Aif fr (x.rs.take i);rw[Aid,Aii]at h3;rw[AiU]at h4;omega
   have By:In (i:Int) (ne:Int):=by unfold In;omega
   have ld1:∀σ2,Ext σ σ2→Ae σ2 b (o+Int.toNat (i:Int)*2) [.slice q1 m1 d1,.slice q2 m2 d2]:=fun σ2 h=>by simpa using CF.mono h
   have next:∀p6 n6 c6 σ2,AL 2 Aa σ σ2 p6 n6 c6 (x.es.map fe++(x.rs.take i).filterMap fr++(fr s).toList)→Cm.Ku R n.op x.kind x.v pc nc cc x.w (aD b o) ne ce 0 0 none 0 0 0 none 0 0 2 0 p6 n6 c6 0 none 0 0 (i:Int) σ2:=fun p6 n6 c6 σ2 A6=>by
    have:=ih (i+1) p6 n6 c6 σ2 (by omega) (by omega) (by rw[Cj hs,←AjL];exact A6);rw[show((i+1:Nat):Int)=(i:Int)+1 by omega]at this;exact Cm.JJ ⟨by unfold AG;omega,this⟩
   refine Cm.Re ⟨fun _=>⟨b,o,rfl,By,q2,m2,d2,(ld1 σ' hx).2.1,nB MJ (ZN.mono hx) (by omega) hcp fun z ok σ2 hz An=>⟨_,_,rfl,fun EI=>?_,fun EI=>next _ _ _ _ ?_⟩⟩,fun hh=>by omega⟩
   ·have hX:=hx.trans An;have A6:=ho.mono Aa.mono An;have mV:Ee n.op s.vs (AV x.w)=some z:=by
     rcases hz with ⟨h1,_⟩|⟨_,h1⟩
     ·exact h1
     ·rw[h1]at EI;cases EI
    refine⟨By,q1,m1,d1,(ld1 σ2 hX).1,IG (GZ.mono BL.mono hX) (by have h3:s.ls.length=m1:=GZ.1;have:=AAZ.1.1;omega) fun p' n' c' σ3 SM BU=>⟨_,_,_,rfl,fun b81 AZF=>?_⟩⟩;have DJ:=A6.mono Aa.mono BU;refine AL.eld DJ (SM.mono BL.mono (A6.new BU)) (by omega) (fun p6 c6 σ4 FW _=>⟨_,_,_,rfl,next _ _ _ _ ?_⟩) AZF;rw[show fr s=some ⟨Bd s.ls,z⟩ by show(Ee n.op s.vs (AV x.w)).map _=_;rw[mV];rfl];exact FW
   ·have mV:Ee n.op s.vs (AV x.w)=none:=by
     rcases hz with ⟨_,h1⟩|⟨h1,_⟩
     ·rw[h1]at EI;cases EI
     ·exact h1
    rw[show fr s=none by show(Ee n.op s.vs (AV x.w)).map _=_;rw[mV];rfl];simpa using ho.mono Aa.mono An
 suffices H:∀g i:Nat,∀p5 n5 c5 σ',nc-i=g→i≤nc→AL 2 Aa σ σ' p5 n5 c5 ((x.es.take i).map fe)→Cm.Ab R n.op x.kind x.v pc nc cc x.w pe ne ce 0 0 none 0 0 0 none 0 0 2 0 p5 n5 c5 0 none 0 0 (i:Int) σ' from H nc 0 none 0 0 σ rfl (AiR _) (AL.nil (.refl _))
 intro g
 induction g with
 | zero=>
  intro i p5 n5 c5 σ' hg hi ho;rw[AiQ (by omega)]at ho;exact Cm.AO ⟨fun hh=>by omega,fun _=>second ne 0 p5 n5 c5 σ' rfl (AiR _) (by simpa using ho)⟩
 | succ g ih=>
  intro i p5 n5 c5 σ' hg hi ho;have BF:i<nc:=by omega
  obtain⟨y,hy⟩:=h1.ex BF;have hym:=TD y (AiM hy);have MJ:=hes fun e=>by rw[e]at hy;simp at hy
  obtain⟨b,o,q1,m1,d1,rfl,CF,GZ⟩:=Aa.at h1 hy;have hx:=ho.up;have hn5:n5≤i:=by
   have h3:=ho.1.1;rw[Aii,AiU]at h3;omega
  have By:In (i:Int) (nc:Int):=by unfold In;omega
  have ld1:∀σ2,Ext σ σ2→Ae σ2 b (o+Int.toNat (i:Int)*2) [.slice q1 m1 d1,.U y.v]:=fun σ2 h=>by simpa using CF.mono h
  have fin:∀v σ2,Ext σ' σ2→v=(if n.op=11 then P5 y.v else HY y.v)→Cm.ACG R n.op x.kind x.v (aD b o) nc cc x.w pe ne ce 0 0 none 0 0 0 none 0 0 2 0 p5 n5 c5 0 none 0 0 (i:Int) v σ2:=fun v σ2 An hv=>by
   have hX:=hx.trans An;have A6:=ho.mono Aa.mono An;refine Cm.ACH ⟨b,o,rfl,By,q1,m1,d1,(ld1 σ2 hX).1,IG (GZ.mono BL.mono hX) (by have h3:y.ls.length=m1:=GZ.1;have:=hym.1.1;omega) fun p' n' c' σ3 SM BU=>⟨_,_,_,rfl,fun gW AZG=>?_⟩⟩;have DJ:=A6.mono Aa.mono BU;refine AL.eld DJ (SM.mono BL.mono (A6.new BU)) (by omega) (fun p6 c6 σ4 FW _=>⟨_,_,_,rfl,by unfold AG;omega,?_⟩) AZG;have:=ih (i+1) p6 (n5+1) c6 σ4 (by omega) (by omega) (by
    rw[AQ hy,Aiq];show AL 2 Aa σ σ4 p6 (n5+1) c6 ((x.es.take i).map fe++[⟨Bd y.ls,if n.op=11 then P5 y.v else HY y.v⟩])
    rw[←hv];exact FW)
   rw[show((i+1:Nat):Int)=(i:Int)+1 by omega]at this;exact this
  refine Cm.AO ⟨fun _=>⟨b,o,rfl,By,y.v,(ld1 σ' hx).2.1,sb hym.2.1 hym.2.2 ⟨_,rfl,fun J4=>⟨By,y.v,(ld1 σ' hx).2.1,jL ⟨_,rfl,fin _ σ' (.refl _) ?_⟩⟩,fun J4=>fin _ σ' (.refl _) ?_⟩⟩,fun hh=>by omega⟩
  ·rw[AiK (by omega)]
  ·rw[AiL (by omega)]
theorem tL {x:RP}{pc pe:Option Addr}{nc cc ne ce:Nat}(h1:AT 2 Aa σ pc nc x.es)(hv:x.kind=1→Iu x.v)(TD:∀y∈x.es,Af y.ls∧Iu y.v)(hlen:x.es.length≤1000000000000)
  (h:nK R σ (if x.kind=1 then⟨1,Ot x.v,[],0,[]⟩ else⟨2,0,x.es.map fun y=>⟨Bd y.ls,Ot y.v⟩,0,[]⟩)):Spec prog 71 #[Y0 x.kind x.v pc nc cc x.w pe ne ce] σ R:=by
 have QD:x.es.length=nc:=h1.1;refine Ld.start fun _ _=>⟨fun hk=>SL (hv hk).1 (hv hk).2 ⟨_,rfl,?_⟩,fun hk _=>?_⟩
 ·rw[AiL hk]at h;exact h σ none 0 0 none 0 0 (.refl _) AT.nil AT.nil (AiV _)
 rw[AiK hk]at h
 suffices H:∀g i:Nat,∀p3 n3 c3 σ',nc-i=g→i≤nc→AL 2 Aa σ σ' p3 n3 c3 ((x.es.take i).map fun y=>⟨Bd y.ls,Ot y.v⟩)→Ld.gS R x.kind x.v pc nc cc x.w pe ne ce 0 0 none 0 0 0 none 0 0 2 0 p3 n3 c3 0 none 0 0 (i:Int) σ' from H nc 0 none 0 0 σ rfl (AiR _) (AL.nil (.refl _))
 intro g
 induction g with
 | zero=>
  intro i p3 n3 c3 σ' hg hi ho;rw[AiQ (by omega)]at ho;exact Ld.Vj ⟨fun hh=>by omega,fun _=>h σ' p3 n3 c3 none 0 0 ho.up (ho.rd Aa.mono) AT.nil (by obtain⟨cs,KE,_⟩:=ho.1.2;exact Au.cap KE)⟩
 | succ g ih=>
  intro i p3 n3 c3 σ' hg hi ho;have BF:i<nc:=by omega
  obtain⟨y,hy⟩:=h1.ex BF;have hym:=TD y (AiM hy);obtain⟨b,o,q1,m1,d1,rfl,CF,GZ⟩:=Aa.at h1 hy;have hx:=ho.up;have hn3:n3≤i:=by
   have h3:=ho.1.1;rw[Aii,AiU]at h3;omega
  have By:In (i:Int) (nc:Int):=by unfold In;omega
  have ld1:Ae σ' b (o+Int.toNat (i:Int)*2) [.slice q1 m1 d1,.U y.v]:=by simpa using CF.mono hx
  refine Ld.Vj ⟨fun _=>⟨b,o,rfl,By,q1,m1,d1,ld1.1,By,y.v,ld1.2.1,IG (GZ.mono BL.mono hx) (by have h3:y.ls.length=m1:=GZ.1;have:=hym.1.1;omega) fun p' n' c' σ3 SM BU=>⟨_,_,_,rfl,.Hs BU,SL hym.2.1 hym.2.2 ⟨_,rfl,fun b37 AZH=>?_⟩⟩⟩,fun hh=>by omega⟩;have DJ:=ho.mono Aa.mono BU;refine AL.eld DJ (SM.mono BL.mono (ho.new BU)) (by omega) (fun p6 c6 σ4 FW _=>⟨_,_,_,rfl,by unfold AG;omega,?_⟩) AZH;have:=ih (i+1) p6 (n3+1) c6 σ4 (by omega) (by omega) (by rw[AQ hy,Aiq];exact FW);rw[show((i+1:Nat):Int)=(i:Int)+1 by omega]at this;exact this
end
theorem tM {σ:Hp}{a b:Nat}{x y:Obj}(h:a≠b):(σ.set a x).set b y=(σ.set b y).set a x:=by
 funext k
 by_cases h1:k=b
 ·subst h1;rw[Hp.AA,Hp.AM fun e=>h e.symm,Hp.AA]
 ·rw[Hp.AM h1];by_cases h2:k=a
  ·subst h2;rw[Hp.AA,Hp.AA]
  ·rw[Hp.AM h2,Hp.AM h2,Hp.AM h1]
section
variable {α:Type}{s bs:Nat}{E:Hp→List Value→α→Prop}{σ0 σ:Hp}{p q:Option Addr}{n c m d:Nat}{xs zs:List α}
theorem AL.tN {T Et ty:TypeId}[J6 prog T Et s bs]{ys:List Value}{Φ:Value→Hp→Prop}(hE:Ht E)(h:AL s E σ0 σ p n c xs)(hy:G6 s σ q m ys)(h1:G7 ys)(hch:Ch s E σ0 ys zs)(hz:zs.length=m)(hb:(n+m)*bs≤140737488355328)
  (hΦ:∀p' c' σ',AL s E σ0 σ' p' (n+m) c' (xs++zs)→Ext (σ.del p) (σ'.del p')→Φ (.slice p' (n+m) c') σ'):AK prog (Builtin.append_ #[T,T] ty #[.slice p n c,.slice q m d]) σ Φ:=by
 obtain⟨⟨hl,cs,ho,hc⟩,sU⟩:=h;refine DT ho hy h1 hb fun p' c' σ' Sj KU=>hΦ p' c' σ' ⟨⟨by rw[Aid,hl,hz],_,Sj,(hc.append (hch.mono hE sU)).mono hE KU⟩,sU.trans KU⟩ KU
theorem AL.copy {T Et ty:TypeId}[J6 prog T Et s bs]{ys:List Value}{b:Nat}{Φ:Value→Hp→Prop}(hE:Ht E)(hy:G6 s σ q m ys)(h1:G7 ys)(hch:Ch s E σ0 ys zs)(hx:Ext σ0 σ)(hz:zs.length=m)(hb:m*bs≤140737488355328)(hn:σ b=none)
  (hΦ:∀p' c' σ',AL s E σ0 σ' p' m c' zs→Ext σ σ'→(∀k,σ k≠none→∀a,p'=some a→k≠a.block)→Φ (.slice p' m c') σ'):AK prog (Builtin.append_ #[T,T] ty #[.slice (some ⟨b,0,none⟩) 0 0,.slice q m d]) (σ.set b (.cells #[] Et (0,0))) Φ:=
 Pg hy h1 hb (fun p' c' σ' ho KU=>by
  have Tn:∀a,p'=some a→σ a.block=none:=fun a ha=>by
   have:=ho.block a ha;cases hh:σ a.block with
   | none=>rfl
   | some u=>exact absurd (show(σ.new σ') a.block=none by simp[Hp.new,hh]) this
  have uO:Ext σ (σ'.del p'):=fun k u hk=>AN.2 ⟨fun a ha e=>(by rw[e,Tn a ha]at hk;cases hk),KU k u hk⟩;exact hΦ p' c' σ' ⟨⟨hz,_,ho.mono (Ext.B9 _ _),hch.mono hE (hx.trans uO)⟩,hx.trans uO⟩ KU fun k hk a ha e=>hk (by rw[e];exact Tn a ha)) hn
end
theorem tO {A:List El}{e:El}{k:Nat}(hA:A.Pairwise fun a b=>FF.cmpL a.ls b.ls<0)(hk:k≤A.length)(jE:∀y,A[k-1]?=some y→0<k→FF.cmpL y.ls e.ls<0)(ZG:∀j y,k≤j→A[j]?=some y→FF.cmpL e.ls y.ls<0):(A.take k++([e]++A.drop k)).Pairwise fun a b=>FF.cmpL a.ls b.ls<0:=by
 have hd:∀y∈A.drop k,FF.cmpL e.ls y.ls<0:=fun y hy=>by
  obtain⟨i,hi⟩:=List.mem_iff_getElem?.1 hy;rw[Ain]at hi;exact ZG (k+i) y (by omega) hi
 have ht:∀y∈A.take k,FF.cmpL y.ls e.ls<0:=fun y hy=>by
  obtain⟨i,hi⟩:=List.mem_iff_getElem?.1 hy;have hik:=(List.getElem?_eq_some_iff.1 hi).1;rw[AiU]at hik;rw[List.getElem?_take_of_lt (by omega)]at hi;obtain⟨z,hz⟩:∃z,A[k-1]?=some z:=⟨_,AiN (by omega)⟩;have h1:=jE z hz (by omega);by_cases AZI:i=k-1
  ·subst AZI;rw[hi]at hz;cases hz;exact h1
  ·have h2:=Ai2.1 hA i (k-1) (by omega) (by omega) (by omega);rw[(List.getElem?_eq_some_iff.1 hi).2,(List.getElem?_eq_some_iff.1 hz).2]at h2;exact Ao.trans _ _ _ h2 h1
 refine List.pairwise_append.2 ⟨hA.sublist (List.take_sublist _ _),List.pairwise_cons.2 ⟨hd,hA.sublist (List.drop_sublist _ _)⟩,fun a ha b hb=>?_⟩;rcases AiT.1 hb with rfl|hb
 ·exact ht a ha
 ·exact Ao.trans _ _ _ (ht a ha) (hd b hb)
section
variable {σ:Hp}{R:Rr}{p:Option Addr}{n c:Nat}
theorem eA {es:List El}(hr:AT 2 Aa σ p n es)(hn:n≤100000000000)
  (EI:∀out σ' p' n' c',Co FF es=some out→Ext σ σ'→AT 2 Aa σ' p' n' out→n'≤c'→R (.T #[.slice p' n' c',.bool true]) σ')
  (Cg:Co FF es=none→∀σ',Ext σ σ'→R (.T #[.N,.bool false]) σ'):Spec prog 73 #[.slice p n c] σ R:=by
 have hl:es.length=n:=hr.1;have H9:=hr.big;refine A2.start ?_
 suffices H:∀g i:Nat,∀p4 n4 c4 σ' (A:List El),n-i=g→i≤n→Ext σ σ'→AT 2 Aa σ' p4 n4 A→n4≤c4→A.Perm (es.take i)→A.Pairwise (fun a b=>FF.cmpL a.ls b.ls<0)→A2.Ab R p n c p4 n4 c4 (i:Int) σ' from H n 0 none 0 0 σ [] rfl (AiR _) (.refl _) AT.nil (AiV _) (.refl _) List.Pairwise.nil
 intro g
 induction g with
 | zero=>
  intro i p4 n4 c4 σ' A hg hi hx hA hc4 hp hs;rw[AiQ (by omega)]at hp;exact A2.AO ⟨fun hh=>by omega,fun _=>EI A σ' p4 n4 c4 (Pa rfl hp hs) hx hA hc4⟩
 | succ g ih=>
  intro i p4 n4 c4 σ' A hg hi hx hA hc4 hp hs;have BF:i<n:=by omega
  have hAl:A.length=n4:=hA.1;have hAi:n4=i:=by
   have:=hp.length_eq;rw[AiU]at this;omega
  obtain⟨e,he⟩:=hr.ex BF;obtain⟨b,o,q1,m1,d1,rfl,CF,GZ⟩:=Aa.at (hr.mono Aa.mono hx) he;have By:In (i:Int) (n:Int):=by unfold In;omega
  have ld1:∀σ2,Ext σ' σ2→Ae σ2 b (o+Int.toNat (i:Int)*2) [.slice q1 m1 d1,.U e.v]:=fun σ2 h=>by simpa using CF.mono h
  have put:∀k:Nat,k≤n4→(∀y,A[k-1]?=some y→0<k→FF.cmpL y.ls e.ls<0)→(∀j y,k≤j→A[j]?=some y→FF.cmpL e.ls y.ls<0)→A2.ACY R (aD b o) n c p4 n4 c4 (i:Int) (k:Int) σ':=fun k hk jE ZG=>by
   have hw:=tO hs (by omega) jE ZG;have hpp:(A.take k++([e]++A.drop k)).Perm (es.take (i+1)):=by
    rw[AQ he];refine List.Perm.trans ?_ (hp.append_right [e]);have h1:(A.take k++([e]++A.drop k)).Perm (A.take k++(A.drop k++[e])):=(List.perm_append_comm).append_left _;have h2:A.take k++(A.drop k++[e])=A++[e]:=by rw[←AjL,Ai8]
    rw[h2]at h1;exact h1
   obtain⟨_,cs,LK,hch⟩:=hA;have AgU:=Ch.WH Aa.one hch (by decide);have AKM:(A.take k).length=k:=by rw[AiU];omega
   have ADl:(A.drop k).length=n4-k:=by rw[Aic];omega
   have dZ:AT 2 Aa σ' p4 n4 A:=⟨hAl,cs,LK,hch⟩;obtain⟨_,ds,hds,AKN⟩:=AT.sub (i:=k) (m:=n4-k) dZ (by decide) (by omega) hc4;rw[AiQ (by omega)]at AKN;have AZJ:=Ch.WH Aa.one AKN (by decide);have ZB:G6 2 σ' p4 k (cs.take (k*2)):=by
    have h0:=AT.sub (i:=0) (m:=k) dZ (by decide) (by omega) hc4;obtain⟨r1,r2,r3⟩:=LK;refine⟨by rw[AiU];omega,by omega,?_⟩;rcases Nat.eq_zero_or_pos k with hk0|hk0
    ·exact .inl hk0
    ·rcases r3 with r3|⟨b',o',rfl,r3⟩
     ·omega
     ·refine .inr ⟨b',o',rfl,?_⟩;have:=r3.part (i:=0) (m:=k*2);simpa using this
   have ADm:Ch 2 Aa σ' (cs.take (k*2)) (A.take k):=hch.take k;have AKO:=Ch.WH Aa.one ADm (by decide);have AS1:Ch 2 Aa σ' [.slice q1 m1 d1,.U e.v] [e]:=Ch.one rfl ⟨q1,m1,d1,rfl,GZ⟩;have h1e:G7 [Value.slice q1 m1 d1,.U e.v]:=Ch.WH Aa.one AS1 (by decide);have fin:∀ρ UT UU σ5,Ext σ' ρ→AL 2 Aa ρ σ5 UT (k+1+(n4-k)) UU (A.take k++[e]++A.drop k)→AG ((i:Int)+1)∧A2.Ab R (aD b o) n c UT (k+1+(n4-k)) UU ((i:Int)+1) σ5:=fun ρ UT UU σ5 hρ ho=>⟨AJ BF H9,by
    have hcp:k+1+(n4-k)≤UU:=by obtain⟨cs,KE,_⟩:=ho.1.2;exact Au.cap KE
    have:=ih (i+1) UT (k+1+(n4-k)) UU σ5 (A.take k++[e]++A.drop k) (by omega) (by omega) (hx.trans (hρ.trans ho.up)) (ho.rd Aa.mono) hcp (by rw[AjL];exact hpp) (by rw[AjL];exact hw);rw[show((i+1:Nat):Int)=(i:Int)+1 by omega]at this;exact this⟩
   have bk:∀σ2,Ext σ' σ2→σ2 b≠none:=fun σ2 h2 e2=>by
    have h9:=(ld1 σ2 h2).1;simp[Hp.ld,e2]at h9
   refine A2.ACZ fun j8 h52=>⟨by omega,?_⟩;rw[Aiu];refine AL.copy Aa.mono hds AZJ AKN (.refl _) ADl (by omega) h52 fun p56 c56 σ1 NN Bc _=>⟨_,_,_,rfl,by omega,b,o,rfl,By,q1,m1,d1,e.v,ld1 σ1 Bc,?_⟩;obtain⟨_,rs,hrs,ADn⟩:=NN.rd Aa.mono;have AKP:=Ch.WH Aa.one ADn (by decide);have AGj:=AS1.mono Aa.mono Bc;refine⟨fun QV h57=>⟨?_,fun dA h66=>?_⟩,fun dA h66 QV h57=>?_⟩
   ·refine AL.copy Aa.mono (ZB.mono Bc) AKO (ADm.mono Aa.mono Bc) (.refl _) AKM (by omega) h57 fun pA pB σ2 A6 An _=>⟨_,_,_,rfl,fun kk hkk u hu=>?_,fun dA h66=>?_⟩
    ·rw[AiY.1 hkk]at hu ⊢;rw[Hp.AM (fun e2=>bk σ1 Bc (by rw[e2];exact h57))]at hu;exact An _ _ hu
    ·refine AL.Hu Aa.mono A6 rfl h1e (x:=e) ⟨q1,m1,d1,rfl,GZ.mono BL.mono (Bc.trans A6.2)⟩ (by omega) (fun ZS Uw σ3 DJ BU=>⟨_,_,_,rfl,?_⟩) h66;exact AL.tN Aa.mono DJ (hrs.mono DJ.up) AKP ADn ADl (by omega) fun UT UU σ5 KT _=>⟨_,_,_,rfl,fin σ1 UT UU σ5 Bc KT⟩
   ·have Ah:QV≠dA:=fun e2=>by rw[e2,Hp.AA]at h66;cases h66
    have AS2:σ1 dA=none:=by rw[Hp.AM fun e2=>Ah e2.symm]at h66;exact h66
    dsimp only;rw[tM Ah];refine AL.copy Aa.mono ((ZB.mono Bc).mono (Ext.set AS2)) AKO (ADm.mono Aa.mono Bc) (Ext.set AS2) AKM (by omega) (by rw[Hp.AM Ah];exact h57) fun pA pB σ2 A6 An _=>⟨_,_,_,rfl,?_⟩;refine AL.tN Aa.mono A6 (m:=1) (q:=aD dA 0) (ys:=[.slice q1 m1 d1,.U e.v]) ⟨rfl,by decide,.inr ⟨dA,0,rfl,Ae.BY (c:=[.slice q1 m1 d1,.U e.v]) (An _ _ (Hp.AA _ _ _))⟩⟩ h1e AGj rfl (by omega) fun ZS Uw σ3 DJ BU=>⟨_,_,_,rfl,?_⟩;exact AL.tN Aa.mono DJ (hrs.mono DJ.up) AKP ADn ADl (by omega) fun UT UU σ5 KT _=>⟨_,_,_,rfl,fin σ1 UT UU σ5 Bc KT⟩
   ·have Ah:QV≠dA:=fun e2=>by rw[e2,Hp.AA]at h57;cases h57
    have AZM:σ1 QV=none:=by rw[Hp.AM Ah]at h57;exact h57
    refine AL.copy Aa.mono ((ZB.mono Bc).mono (Ext.set h66)) AKO (ADm.mono Aa.mono Bc) (Ext.set h66) AKM (by omega) (by rw[Hp.AM Ah];exact AZM) fun pA pB σ2 A6 An _=>⟨_,_,_,rfl,?_⟩;refine AL.tN Aa.mono A6 (m:=1) (q:=aD dA 0) (ys:=[.slice q1 m1 d1,.U e.v]) ⟨rfl,by decide,.inr ⟨dA,0,rfl,Ae.BY (c:=[.slice q1 m1 d1,.U e.v]) (An _ _ (Hp.AA _ _ _))⟩⟩ h1e AGj rfl (by omega) fun ZS Uw σ3 DJ BU=>⟨_,_,_,rfl,?_⟩;exact AL.tN Aa.mono DJ (hrs.mono DJ.up) AKP ADn ADl (by omega) fun UT UU σ5 KT _=>⟨_,_,_,rfl,fin σ1 UT UU σ5 Bc KT⟩
  have find:∀g' k:Nat,k=g'→k≤n4→(∀j y,k≤j→A[j]?=some y→FF.cmpL e.ls y.ls<0)→A2.TX R (aD b o) n c p4 n4 c4 (i:Int) (k:Int) σ':=by
   intro g'
   induction g' with
   | zero=>
    intro k hk QC ZG;subst hk;exact A2.Mi ⟨fun hh=>absurd hh (by decide),fun _=>A2.IK ⟨fun hh=>absurd hh (by decide),fun _=>put 0 (AiR _) (fun y _ h0=>absurd h0 (by decide)) ZG⟩⟩
   | succ g' ihk=>
    intro k hk QC ZG;have dZ:=hA;obtain⟨y,hy⟩:=hA.ex (k:=k-1) (by omega);obtain⟨b4,o4,q4,m4,d4,rfl,AZN,AS3⟩:=Aa.at hA hy;have ek:Int.toNat ((k:Int)-1)=k-1:=by omega
    have l4:Ae σ' b4 (o4+Int.toNat ((k:Int)-1)*2) [.slice q4 m4 d4,.U y.v]:=by rw[ek];exact AZN
    have AS4:In ((k:Int)-1) (n4:Int):=by unfold In;omega
    have VJ:FF.cmpL e.ls y.ls<0↔0<FF.cmpL y.ls e.ls:=Ao.VJ _ _;have tail:¬0<FF.cmpL y.ls e.ls→A2.NJ R (aD b o) n c (aD b4 o4) n4 c4 (i:Int) (k:Int) σ':=fun hle=>A2.IK ⟨fun _=>⟨by unfold AG;omega,b4,o4,rfl,AS4,q4,m4,d4,l4.1,b,o,rfl,By,q1,m1,d1,(ld1 σ' (.refl _)).1,Lz AS3 GZ ⟨_,rfl,fun h0=>Cg ?_ σ' hx,fun h0=>put k QC (fun z hz _=>?_) ZG⟩⟩,fun hh=>by omega⟩
    ·refine A2.Mi ⟨fun _=>⟨by unfold AG;omega,b4,o4,rfl,AS4,q4,m4,d4,l4.1,b,o,rfl,By,q1,m1,d1,(ld1 σ' (.refl _)).1,Lz AS3 GZ ⟨_,rfl,fun hgt=>A2.Mj ⟨by unfold AG;omega,?_⟩,fun hle=>tail hle⟩⟩,fun hh=>by omega⟩;have:=ihk (k-1) (by omega) (by omega) fun j z hj hz=>by
      by_cases eV:j=k-1
      ·subst eV;rw[hy]at hz;cases hz;exact VJ.2 hgt
      ·exact ZG j z (by omega) hz
     rw[show((k-1:Nat):Int)=(k:Int)-1 by omega]at this;exact this
    ·
     unfold Co;rw[AiK];intro tz;have hym:y∈es.take i:=hp.mem_iff.1 (AiM hy);obtain⟨j,hj⟩:=List.mem_iff_getElem?.1 hym;have ZJ:=(List.getElem?_eq_some_iff.1 hj).1;rw[AiU]at ZJ;rw[List.getElem?_take_of_lt (by omega)]at hj;have:=Ai2.1 tz j i (by omega) (by omega) (by omega);rw[(List.getElem?_eq_some_iff.1 hj).2,(List.getElem?_eq_some_iff.1 he).2]at this;exact this h0
    ·rw[hy]at hz;cases hz;have AgW:¬0<BX y.ls e.ls:=hle;have Ju:¬BX y.ls e.ls=0:=h0;show BX y.ls e.ls<0
     omega
  exact A2.AO ⟨fun _=>find n4 n4 rfl (AiV _) fun j y hj hy=>by
   have:=(List.getElem?_eq_some_iff.1 hy).1;omega,fun hh=>by omega⟩
end
theorem JX {α:Type}{l:List α}{x y:α}{i:Nat}(h:(l++[x])[i]?=some y):(l[i]?=some y∧i<l.length)∨(i=l.length∧y=x):=by
 rw[AjD]at h;split at h
 ·exact .inl ⟨h,by assumption⟩
 ·rename_i Aq;cases hj:i-l.length with
  | zero=>rw[hj]at h;cases h;exact .inr ⟨by omega,rfl⟩
  | succ j=>rw[hj]at h;simp at h
section
variable {β:Type}{s bs:Nat}{E:List Value→β→Prop}
abbrev Gl9 (β:Type):= List Lb×List β
def GIn (τ:Hp)(vs:List Value)(x:Gl9 β×Option Addr×Nat):Prop:=∃p n c,vs=[.slice p n c,.slice x.2.1 x.1.2.length x.2.2]∧Dy τ p n x.1.1
theorem GIn.mono:Ht (GIn (β:=β)):=fun _ _ _ _ hx ⟨p,n,c,hv,h⟩=>⟨p,n,c,hv,h.mono BL.mono hx⟩
def qP (s:Nat)(E:List Value→β→Prop)(σ:Hp)(q:Option Addr×Nat)(xs:List β):Prop:=∃cs,Au s σ q.1 xs.length q.2 cs∧Ch s (fun _=>E) σ cs xs
structure Gc (s:Nat)(E:List Value→β→Prop)(τ σ:Hp)(p:Option Addr)(n c:Nat)(gs:List (Gl9 β))(qs:List (Option Addr×Nat)):Prop where
 len:qs.length=gs.length
 own:∃cs,Au 2 σ p n c cs∧Ch 2 GIn τ cs (gs.zip qs)
 ZH:∀(i:Nat) (q:Option Addr×Nat) (g:Gl9 β),qs[i]?=some q→gs[i]?=some g→qP s E σ q g.2
 sep:∀(i:Nat) (q:Option Addr×Nat),qs[i]?=some q→∀a,q.1=some a→τ a.block=none∧∀a',p=some a'→a.block≠a'.block
 nd:∀(i j:Nat) (q r:Option Addr×Nat),qs[i]?=some q→qs[j]?=some r→i≠j→∀a a',q.1=some a→r.1=some a'→a.block≠a'.block
 op:∀a,p=some a→τ a.block=none
 ext:Ext τ σ
variable {σ σ' τ:Hp}{p:Option Addr}{n c:Nat}{gs:List (Gl9 β)}{qs:List (Option Addr×Nat)}
theorem qP.mono {q:Option Addr×Nat}{xs:List β}(h:qP s E σ q xs)(hx:Ext σ σ'):qP s E σ' q xs:=let ⟨cs,h1,h2⟩:=h;⟨cs,h1.mono hx,h2.1,h2.2⟩
theorem qP.here {q:Option Addr×Nat}{xs:List β}(h:qP s E σ q xs)(hs:∀a,q.1=some a→σ' a.block=σ a.block):qP s E σ' q xs:=let ⟨cs,h1,h2⟩:=h;⟨cs,Au.here h1 hs,h2.1,h2.2⟩
theorem qP.known {q:Option Addr×Nat}{xs:List β}(h:qP s E σ q xs):∀a,q.1=some a→σ a.block≠none:=let ⟨cs,h1,h2⟩:=h;h1.block
theorem qP.rd {q:Option Addr×Nat}{xs:List β}(h:qP s E σ q xs):AT s (fun _=>E) σ q.1 xs.length xs∧xs.length≤q.2:=let ⟨cs,h1,h2⟩:=h;⟨⟨rfl,cs,h1.rd,h2⟩,Au.cap h1⟩
theorem qP.nil:qP s E σ (none,0) []:=⟨[],Au.nil,by simp[Ch]⟩
theorem Gc.nil (hx:Ext τ σ):Gc s E τ σ none 0 0 [] []:=⟨rfl,⟨[],Au.nil,by simp[Ch]⟩,fun i q g hq=>(by simp at hq),fun i q hq=>(by simp at hq),fun i j q r hq=>(by simp at hq),fun a ha=>(by cases ha),hx⟩
theorem Gc.mono (h:Gc s E τ σ p n c gs qs)(hx:Ext σ σ'):Gc s E τ σ' p n c gs qs:=
 ⟨h.len,let ⟨cs,h1,h2⟩:=h.own;⟨cs,h1.mono hx,h2⟩,fun i q g hq hg=>(h.ZH i q g hq hg).mono hx,h.sep,h.nd,h.op,h.ext.trans hx⟩
theorem Gc.Zu (h:Gc s E τ σ p n c gs qs):gs.length=n:=by
 obtain⟨cs,h1,h2⟩:=h.own;have a1:=h1.1;have a2:=h2.1;rw[AjO,h.len,Ajx]at a2;omega
theorem Gc.qat (h:Gc s E τ σ p n c gs qs){i:Nat}{g:Gl9 β}(hg:gs[i]?=some g):∃q,qs[i]?=some q:=⟨_,AiN (by rw[h.len];exact(List.getElem?_eq_some_iff.1 hg).1)⟩
theorem Gc.at (h:Gc s E τ σ p n c gs qs){i:Nat}{g:Gl9 β}(hg:gs[i]?=some g):∃b o q pl nl cl,p=some ⟨b,o,none⟩∧qs[i]?=some q∧Ae σ b (o+i*2) [.slice pl nl cl,.slice q.1 g.2.length q.2]∧Dy σ pl nl g.1:=by
 obtain⟨q,hq⟩:=h.qat hg;obtain⟨cs,h1,h2⟩:=h.own;have hr:AT 2 (fun _ vs (x:Gl9 β×Option Addr×Nat)=>∃p n c,vs=[.slice p n c,.slice x.2.1 x.1.2.length x.2.2]∧Dy τ p n x.1.1) σ p n (gs.zip qs):=⟨by rw[AjO,h.len,Ajx];exact h.Zu,cs,h1.rd,h2.1,fun j x hx=>h2.2 j x hx⟩;obtain⟨b,o,vs,hp,⟨p1,n1,c1,rfl,NM⟩,hl⟩:=AT.idx hr (x:=(g,q)) (List.getElem?_zip_eq_some.2 ⟨hg,hq⟩);exact⟨b,o,q,p1,n1,c1,hp,hq,hl,NM.mono BL.mono h.ext⟩
theorem Gc.add {T Et ty:TypeId}[J6 prog T Et 2 bs]{pl:Option Addr}{nl cl b:Nat}{ls:List Lb}{y:Hp}{Φ:Value→Hp→Prop}(h:Gc s E τ σ p n c gs qs)(hy:Ext σ y)(NM:Dy (σ.new y) pl nl ls)(hb:y b=none)(hn:(n+1)*bs≤140737488355328)
  (hΦ:∀τ' p' c' σ',Gc s E τ' σ' p' (n+1) c' (gs++[(ls,[])]) (qs++[(none,0)])→Ext τ τ'→Φ (.slice p' (n+1) c') σ') :
  AK prog (Builtin.append_ #[T,T] ty #[.slice p n c,.slice (aD b 0) 1 1]) (y.set b (.cells #[.slice pl nl cl,.N] Et (0,0))) Φ:=by
 obtain⟨cs,h1,h2⟩:=h.own;have xb:=Ext.set (o:=.cells #[.slice pl nl cl,.N] Et (0,0)) hb;have X:=hy.trans xb;have hz:(gs.zip qs).length=gs.length:=by rw[AjO,h.len,Ajx]
 refine DT (h1.mono X) (q:=aD b 0) (ys:=[.slice pl nl cl,.N]) ⟨rfl,by omega,.inr ⟨b,0,rfl,Ae.BY (c:=[.slice pl nl cl,.N]) (Hp.AA _ _ _)⟩⟩ (fun u hu=>by
  simp only[AiT,Air,or_false]at hu;rcases hu with rfl|rfl<;>rfl) hn fun p' c' σ5 KT Sv=>?_
 have T:∀k,(y.set b (.cells #[.slice pl nl cl,.N] Et (0,0))) k≠none→(∀a,p=some a→k≠a.block)→σ5 k=(y.set b (.cells #[.slice pl nl cl,.N] Et (0,0))) k∧∀a,p'=some a→k≠a.block:=fun k hk Ah=>by
  cases hh:(y.set b (.cells #[.slice pl nl cl,.N] Et (0,0))) k with
  | none=>exact absurd hh hk
  | some u=>
   obtain⟨a1,a2⟩:=AN.1 (Sv k u (AN.2 ⟨Ah,hh⟩));exact⟨a2,a1⟩
 have up:∀{k:Nat} {A B:Hp},Ext A B→A k≠none→B k≠none:=fun {k A B} hx hk=>by
  cases hh:A k with
  | none=>exact absurd hh hk
  | some u=>rw[hx _ _ hh];simp
 have tt:Ext τ (τ.or (σ.new y)):=Ext.mG _ _;have nt:Ext (σ.new y) (τ.or (σ.new y)):=Ext.R7 fun k hk=>by
  cases hh:τ k with
  | none=>rfl
  | some u=>
   have h3:=h.ext _ _ hh;cases h4:(σ.new y) k with
   | none=>exact absurd h4 hk
   | some v=>rw[(AR.1 h4).1]at h3;cases h3
 have kn:∀k,σ k≠none→τ k=none→(τ.or (σ.new y)) k=none:=fun k hu hk=>by
  rw[Hp.R7 hk];cases hh:(σ.new y) k with
  | none=>rfl
  | some v=>exact absurd (AR.1 hh).1 hu
 have e1:Ext (τ.or (σ.new y)) y:=Ext.YQ (h.ext.trans hy) (Ext.B9 _ _);have pk:∀a,p=some a→σ a.block≠none:=h1.block;have hE5:Ext (τ.or (σ.new y)) σ5:=fun k u hk=>by
  have mO:=xb _ _ (e1 _ _ hk);rw[(T k (by rw[mO];simp) fun a ha e=>by rw[e,kn a.block (pk a ha) (h.op a ha)]at hk;cases hk).1];exact mO
 have kH:∀(i:Nat) (r:Option Addr×Nat),qs[i]?=some r→∀a,r.1=some a→σ a.block≠none∧τ a.block=none∧(∀a',p=some a'→a.block≠a'.block):=fun i r hr a ha=>by
  obtain⟨g1,g2⟩:=h.sep i r hr a ha;have Aq:i<gs.length:=by rw[←h.len];exact(List.getElem?_eq_some_iff.1 hr).1
  exact⟨(h.ZH i r _ hr (AiN Aq)).known a ha,g1,g2⟩
 refine hΦ (τ.or (σ.new y)) p' c' σ5 ⟨by simp[h.len],⟨_,KT,?_⟩,fun i r u hr hu=>?_,fun i r hr a ha=>?_,fun i j r r' hr S3 JE a a' ha GI=>?_,fun a ha=>?_,hE5⟩ tt
 ·rw[List.zip_append h.len.symm];exact(h2.mono GIn.mono tt).snoc rfl ⟨pl,nl,cl,rfl,NM.mono BL.mono nt⟩
 ·rcases JX hr with ⟨hr,Aq⟩|⟨hi,rfl⟩
  ·rcases JX hu with ⟨hu,_⟩|⟨hi,_⟩
   ·refine((h.ZH i r u hr hu).mono X).here fun a ha=>?_;obtain⟨g1,_,g3⟩:=kH i r hr a ha;exact(T a.block (up X g1) g3).1
   ·have:=h.len;omega
  ·rcases JX hu with ⟨_,Aq⟩|⟨_,rfl⟩
   ·have:=h.len;omega
   ·exact qP.nil
 ·rcases JX hr with ⟨hr,Aq⟩|⟨hi,rfl⟩
  ·obtain⟨g1,g2,g3⟩:=kH i r hr a ha;exact⟨kn _ g1 g2,fun a' GI e=>(T a.block (up X g1) g3).2 a' GI e⟩
  ·cases ha
 ·rcases JX hr with ⟨hr,_⟩|⟨hi,rfl⟩<;>rcases JX S3 with ⟨S3,_⟩|⟨BF,rfl⟩
  ·exact h.nd i j r r' hr S3 JE a a' ha GI
  ·cases GI
  ·cases ha
  ·cases ha
 ·cases hh:(τ.or (σ.new y)) a.block with
  | none=>rfl
  | some u=>
   exfalso;have mO:=xb _ _ (e1 _ _ hh);exact(T a.block (by rw[mO];simp) fun a' GI e=>by rw[e,kn a'.block (pk a' GI) (h.op a' GI)]at hh;cases hh).2 a ha rfl
theorem Gc.push {T Et ty TS:TypeId}[J6 prog T Et s bs]{i b bq oq:Nat}{g:Gl9 β}{q:Option Addr×Nat}{x:β}{vs:List Value}{Φ:Unit→Hp→Prop}{Ψ:Value→Hp→Prop}(hz:∀w,(Go.sizeOf TS).run prog w=.ok 1 w)(h:Gc s E τ σ p n c gs qs)(hg:gs[i]?=some g)(hq:qs[i]?=some q)(hp:p=some ⟨bq,oq,none⟩)(hvl:vs.length=s)(hv:E vs x)(h1v:G7 vs)(hb:σ b=none)(hn:(g.2.length+1)*bs≤140737488355328)
  (hΨ:∀p' c' σ1,(∀k u,τ k=some u→σ1 k=some u)→AK prog (Instr.storeAt TS (.pointer (some ⟨bq,oq+(i*2+1),none⟩)) (.slice p' (g.2.length+1) c')) σ1 Φ→Ψ (.slice p' (g.2.length+1) c') σ1)
  (hΦ:∀q' σ2,Gc s E τ σ2 p n c (gs.set i (g.1,g.2++[x])) (qs.set i q')→Φ () σ2) :
  AK prog (Builtin.append_ #[T,T] ty #[.slice q.1 g.2.length q.2,.slice (aD b 0) 1 1]) (σ.set b (.cells vs.toArray Et (0,0))) Ψ:=by
 obtain⟨cs,h1,h2⟩:=h.own;obtain⟨ds,g1,g2⟩:=h.ZH i q g hq hg;have hi:=(List.getElem?_eq_some_iff.1 hg).1;have hiq:=(List.getElem?_eq_some_iff.1 hq).1;have hgl:=h.Zu;have xb:=Ext.set (o:=.cells vs.toArray Et (0,0)) hb;refine DT (g1.mono xb) (q:=aD b 0) (ys:=vs) ⟨by rw[hvl,Nat.one_mul],by decide,.inr ⟨b,0,rfl,Ae.BY (c:=vs) (Hp.AA _ _ _)⟩⟩ h1v hn fun p' c' σ1 ho hx=>?_;have K:∀k,σ k≠none→(∀a,q.1=some a→k≠a.block)→σ1 k=σ k∧∀a,p'=some a→k≠a.block:=fun k hk Ah=>by
  cases hh:σ k with
  | none=>exact absurd hh hk
  | some u=>
   obtain⟨a1,a2⟩:=AN.1 (hx k u (AN.2 ⟨Ah,xb k u hh⟩));exact⟨a2,a1⟩
 have kt:∀k,τ k≠none→σ1 k=σ k∧∀a,p'=some a→k≠a.block:=fun k hk=>by
  refine K k (fun e=>hk (Am h.ext e)) fun a ha e=>?_;rw[e]at hk;exact hk (h.sep i q hq a ha).1
 have kp:∀a,p=some a→σ1 a.block=σ a.block∧∀a',p'=some a'→a.block≠a'.block:=fun a ha=>K a.block (h1.block a ha) fun a' GI=>((h.sep i q hq a' GI).2 a ha).symm;have kq:∀(j:Nat) (r:Option Addr×Nat),qs[j]?=some r→j≠i→∀a,r.1=some a→σ1 a.block=σ a.block∧∀a',p'=some a'→a.block≠a'.block:=fun j r hr ZJ a ha=>by
  have Aq:j<gs.length:=by rw[←h.len];exact(List.getElem?_eq_some_iff.1 hr).1
  exact K a.block ((h.ZH j r _ hr (AiN Aq)).known a ha) fun a' GI=>h.nd j i r q hr hq ZJ a a' ha GI
 have h1':Au 2 σ1 p n c cs:=Au.here h1 fun a ha=>(kp a ha).1;have AZO:∀a,p'=some a→τ a.block=none:=fun a ha=>by
  cases hh:τ a.block with
  | none=>rfl
  | some u=>exact absurd rfl ((kt a.block (by rw[hh];simp)).2 a ha)
 refine hΨ p' c' σ1 (fun k u hk=>by rw[(kt k (by rw[hk];simp)).1];exact h.ext k u hk) ?_;rw[hp] at h1';refine Au.da h1' (j:=i*2+1) (by omega) hz rfl rfl fun obj g3=>hΦ (p',c') _ ?_;have pb:p=some ⟨bq,oq,none⟩:=hp;have off:∀a:Addr,p'=some a→(σ1.set bq obj) a.block=σ1 a.block:=fun a ha=>Hp.AM fun e=>(kp ⟨bq,oq,none⟩ pb).2 a ha e.symm;refine⟨by rw[Ajh,Ajh];exact h.len,⟨cs.set (i*2+1) (.slice p' (g.2.length+1) c'),by rw[hp];exact g3,?_,fun j y hy=>?_⟩,fun j r u hr hu=>?_,fun j r hr a ha=>?_,fun j k r r' hr S3 eV a a' ha GI=>?_,h.op,fun k u hk=>?_⟩
 ·rw[Ajh,h2.1,AjO,AjO,Ajh,Ajh]
 ·obtain⟨y1,y2⟩:=y;obtain⟨eB,jR⟩:=List.getElem?_zip_eq_some.1 hy;rw[bI (by decide)];by_cases JE:i=j
  ·subst JE;rw[AiL rfl];rw[Aix hi]at eB;rw[Aix hiq]at jR;cases eB;cases jR;obtain⟨p1,n1,c1,hv',NM⟩:=h2.2 i (g,q) (List.getElem?_zip_eq_some.2 ⟨hg,hq⟩);refine⟨p1,n1,c1,?_,NM⟩;rw[show(cs.drop (i*2)).take 2=_ from hv'];show[Value.slice p1 n1 c1,Value.slice p' (g.2.length+1) c']=[Value.slice p1 n1 c1,Value.slice p' (g.2++[x]).length c']
   rw[Aid,AjG]
  ·rw[AiK JE];rw[Aiz JE]at eB jR;exact h2.2 j (y1,y2) (List.getElem?_zip_eq_some.2 ⟨eB,jR⟩)
 ·by_cases JE:i=j
  ·subst JE;rw[Aix hi]at hu;rw[Aix hiq]at hr;cases hu;cases hr;refine⟨ds++vs,?_,?_⟩
   ·show Au s (σ1.set bq obj) p' (g.2++[x]).length c' (ds++vs)
    rw[Aid,AjG];exact Au.here ho off
   ·have:Ch s (fun _=>E) (σ1.set bq obj) ds g.2:=⟨g2.1,g2.2⟩;exact this.snoc hvl hv
  ·rw[Aiz JE]at hr hu;refine(h.ZH j r u hr hu).here fun a ha=>?_;rw[Hp.AM fun e=>(h.sep j r hr a ha).2 ⟨bq,oq,none⟩ pb e,(kq j r hr (fun e=>JE e.symm) a ha).1]
 ·by_cases JE:i=j
  ·subst JE;rw[Aix hiq]at hr;cases hr;exact⟨AZO a ha,fun a' GI e=>(kp a' GI).2 a ha e.symm⟩
  ·rw[Aiz JE]at hr;exact h.sep j r hr a ha
 ·by_cases JE:i=j
  ·subst JE;rw[Aix hiq]at hr;cases hr;rw[Aiz eV]at S3;exact fun e=>(kq k r' S3 (fun e=>eV e.symm) a' GI).2 a ha e.symm
  ·by_cases hik:i=k
   ·subst hik;rw[Aix hiq]at S3;cases S3;rw[Aiz JE]at hr;exact(kq j r hr (fun e=>JE e.symm) a ha).2 a' GI
   ·rw[Aiz JE]at hr;rw[Aiz hik]at S3;exact h.nd j k r r' hr S3 eV a a' ha GI
 ·have J3:k≠bq:=fun e=>by
   have h9:=h.op ⟨bq,oq,none⟩ pb;rw[e]at hk;rw[h9]at hk;cases hk
  rw[Hp.AM J3,(kt k (by rw[hk];simp)).1];exact h.ext k u hk
end
theorem qQ {ls:List Lb}{v:Int}:∀{gs:List Rg} {i:Nat} {g:Rg},(∀j x,j<i→gs[j]?=some x→x.ls≠ls)→gs[i]?=some g→g.ls=ls→D6 ls v gs=gs.set i ⟨g.ls,g.vs++[v]⟩
 | [],i,g,_,hg,_=>by simp at hg
 | x::gs,0,g,_,hg,he=>by
  cases hg;unfold D6;rw[AiL (by rw[he])];rfl
 | x::gs,i+1,g,h,hg,he=>by
  unfold D6;rw[AiK (fun e=>h 0 x (Nat.succ_pos _) rfl (SX e)),qQ (fun j y hj hy=>h (j+1) y (by omega) hy) hg he];rfl
theorem qR {ls:List Lb}{v:Int}:∀{gs:List Rg},(∀g∈gs,g.vs≠[])→∀g∈D6 ls v gs,g.vs≠[]
 | [],_,g,hg=>by rw[AiY.1 hg];simp
 | x::gs,h,g,hg=>by
  unfold D6 at hg;split at hg
  ·rcases AiT.1 hg with rfl|hg
   ·simp
   ·exact h g (AiX _ hg)
  ·rcases AiT.1 hg with rfl|hg
   ·exact h _ (Aih ..)
   ·exact qR (fun y hy=>h y (AiX _ hy)) g hg
theorem bS {ls:List Lb}{v:Int}:∀{gs:List Rg},(D6 ls v gs).length≤gs.length+1∧∀g∈D6 ls v gs,∀M:Nat,(∀x∈gs,x.vs.length≤M)→g.vs.length≤M+1
 | []=>⟨AiV _,fun g hg M _=>by rw[AiY.1 hg];show 1≤M+1;omega⟩
 | x::gs=>by
  obtain⟨h1,h2⟩:=bS (ls:=ls) (v:=v) (gs:=gs);unfold D6;split
  ·refine⟨by simp,fun g hg M hM=>?_⟩;rcases AiT.1 hg with rfl|hg
   ·show(x.vs++[v]).length≤_
    rw[Aid,AjG];have:=hM x (Aih ..);omega
   ·have:=hM g (AiX _ hg);omega
  ·refine⟨by simp only[AjB];omega,fun g hg M hM=>?_⟩;rcases AiT.1 hg with rfl|hg
   ·have:=hM _ (Aih ..);omega
   ·exact h2 g hg M fun y hy=>hM y (AiX _ hy)
abbrev ADq:List Value→Int→Prop:=fun vs x=>vs=[.U x]
abbrev gP (g:Rg):Gl9 Int:=(g.ls,g.vs)
section
variable {σ:Hp}{R:Rr}
theorem tP {n:Nd}{a e:Option Addr}{k1 c1 k2 c2:Nat}{x:RP}{pc pe:Option Addr}{nc cc ne ce:Nat}(hz:∀w,(Go.sizeOf 163).run prog w=.ok 1 w)(h1:AT 2 Aa σ pc nc x.es)(MJ:1≤n.op∧n.op≤5)(hgr:n.BW=0∨n.BW=1∨n.BW=2)(hs:G6 1 σ e k2 (n.names.map .string))(hm:k2≤4611686018427387904)(TD:∀y∈x.es,Af y.ls)(hlen:x.es.length≤100000000000)
  (h:nK R σ ⟨2,0,Mp FF n ⟨2,0,x.es,[]⟩,0,[]⟩):Spec prog 70 #[KD n a k1 c1 e k2 c2,Y0 x.kind x.v pc nc cc x.w pe ne ce] σ R:=by
 have QD:x.es.length=nc:=h1.1;have egr:∀ls,(if n.BW=1∨n.BW=3 then SB n.names ls else if n.BW=2∨n.BW=4 then Bd (Qb n.names ls) else[])=Bs n ls:=fun ls=>by
  unfold Bs;rcases hgr with e|e|e<;>simp[e]
 refine CG.start fun _ _ _=>?_;have second:∀(τ σ1:Hp) (p5:Option Addr) (n5 c5:Nat) (G:List Rg) (qs:List (Option Addr×Nat)),Ext σ σ1→Gc 1 ADq τ σ1 p5 n5 c5 (G.map gP) qs→(∀g∈G,g.vs≠[])→G.length≤100000000000→Mp FF n ⟨2,0,x.es,[]⟩=(G.map fun g=>⟨g.ls,foldI n.op g.vs⟩)→
   CG.vz R n.kind n.op n.text a k1 c1 n.width n.back n.BW e k2 c2 n.bool n.parts 0 0 none 0 0 0 none 0 0 p5 n5 c5 2 0 none 0 0 0 none 0 0 0 σ1:=by
  intro τ σ1 p5 n5 c5 G qs Bc hG Ah hGl AZQ;rw[AZQ]at h;have hGn:G.length=n5:=by have:=hG.Zu;rwa[Aii]at this
  suffices H:∀g i:Nat,∀p9 n9 c9 σ2,n5-i=g→i≤n5→AL 2 Aa σ1 σ2 p9 n9 c9 ((G.take i).map fun g=>(⟨g.ls,foldI n.op g.vs⟩:El))→CG.vz R n.kind n.op n.text a k1 c1 n.width n.back n.BW e k2 c2 n.bool n.parts 0 0 none 0 0 0 none 0 0 p5 n5 c5 2 0 p9 n9 c9 0 none 0 0 (i:Int) σ2 from H n5 0 none 0 0 σ1 rfl (AiR _) (AL.nil (.refl _))
  intro g
  induction g with
  | zero=>
   intro i p9 n9 c9 σ2 hg hi ho;rw[AiQ (by omega)]at ho;exact CG.ox ⟨fun hh=>by omega,fun _=>h σ2 p9 n9 c9 none 0 0 (Bc.trans ho.up) (ho.rd Aa.mono) AT.nil (by obtain⟨cs,KE,_⟩:=ho.1.2;exact Au.cap KE)⟩
  | succ g ih=>
   intro i p9 n9 c9 σ2 hg hi ho;have BF:i<n5:=by omega
   obtain⟨y,hy⟩:∃y,G[i]?=some y:=⟨_,AiN (by omega)⟩;have hyg:(G.map gP)[i]?=some (gP y):=by rw[Ait,hy];rfl
   obtain⟨b,o,q,pl,nl,cl,rfl,hq,CF,GZ⟩:=hG.at hyg;obtain⟨kG,hv2⟩:=(hG.ZH i q _ hq hyg).rd;have hyn:=Ah y (AiM hy);have h0:0<y.vs.length:=List.length_pos_iff.2 hyn;have By:In (i:Int) (n5:Int):=by unfold In;omega
   have ld1:Ae σ2 b (o+Int.toNat (i:Int)*2) [.slice pl nl cl,.slice q.1 y.vs.length q.2]:=by simpa using CF.mono ho.up
   have hv3:EP .u64 σ2 q.1 y.vs.length y.vs:=EP.mono ho.up kG;have hn9:n9≤i:=by
    have h3:=ho.1.1;rw[Aii,AiU]at h3;omega
   refine CG.ox ⟨fun _=>⟨b,o,rfl,By,pl,nl,cl,ld1.1,By,q.1,y.vs.length,q.2,ld1.2.1,IF MJ hv3 h0 ⟨_,rfl,.Hs (.refl _),fun b94 h94=>?_⟩⟩,fun hh=>by omega⟩;refine AL.eld ho (GZ.mono BL.mono ho.2) (by omega) (fun p' c' σ3 DJ _=>⟨_,_,_,rfl,by unfold AG;omega,?_⟩) h94;have:=ih (i+1) p' (n9+1) c' σ3 (by omega) (by omega) (by rw[AQ hy,Aiq];exact DJ);rw[show((i+1:Nat):Int)=(i:Int)+1 by omega]at this;exact this
 suffices H:∀g i:Nat,∀(τ σ':Hp) (p5:Option Addr) (n5 c5:Nat) (G:List Rg) (qs:List (Option Addr×Nat)),nc-i=g→i≤nc→Ext σ τ→Gc 1 ADq τ σ' p5 n5 c5 (G.map gP) qs→(∀g∈G,g.vs≠[])→G.length≤i→(∀g∈G,g.vs.length≤i)→G=(x.es.take i).foldl (fun gs x=>D6 (Bs n x.ls) x.v gs) []→
   CG.Ab R n.kind n.op n.text a k1 c1 n.width n.back n.BW e k2 c2 n.bool n.parts x.kind x.v pc nc cc x.w pe ne ce 0 0 none 0 0 0 none 0 0 p5 n5 c5 (i:Int) σ' from H nc 0 σ σ none 0 0 [] [] rfl (AiR _) (.refl _) (Gc.nil (.refl _)) (fun g hg=>by cases hg) (AiR _) (fun g hg=>by cases hg) rfl
 intro g
 induction g with
 | zero=>
  intro i τ σ' p5 n5 c5 G qs hg hi tH hG Ah hGl hvl hGe;rw[AiQ (by omega)]at hGe;exact CG.AO ⟨fun hh=>by omega,fun _ _=>second τ σ' p5 n5 c5 G qs (tH.trans hG.ext) hG Ah (by omega) (by unfold Mp;rw[hGe];rfl)⟩
 | succ g ih=>
  intro i τ σ' p5 n5 c5 G qs hg hi tH hG Ah hGl hvl hGe;have BF:i<nc:=by omega
  have hx:=tH.trans hG.ext;have hGn:G.length=n5:=by have:=hG.Zu;rwa[Aii]at this
  obtain⟨y,hy⟩:=h1.ex BF;obtain⟨b,o,q1,m1,d1,rfl,CF,GZ⟩:=Aa.at h1 hy;have AAZ:=TD y (AiM hy);have By:In (i:Int) (nc:Int):=by unfold In;omega
  have ld1:∀σ2,Ext σ σ2→Ae σ2 b (o+Int.toNat (i:Int)*2) [.slice q1 m1 d1,.U y.v]:=fun σ2 h=>by simpa using CF.mono h
  refine CG.AO ⟨fun _=>⟨b,o,rfl,By,q1,m1,d1,(ld1 σ' hx).1,Qg (GZ.mono BL.mono hx) (by have h3:y.ls.length=m1:=GZ.1;have:=AAZ.1;omega) (hs.mono hx) hm fun p7 n7 c7 σ2 hr7 An=>⟨_,_,_,rfl,?_⟩⟩,fun hh=>by omega⟩;rw[egr]at hr7;have hX:=hx.trans An;have hG2:=hG.mono An;have Qf:(x.es.take (i+1)).foldl (fun gs x=>D6 (Bs n x.ls) x.v gs) []=D6 (Bs n y.ls) y.v G:=by
   rw[AQ hy,Aj0,←hGe];rfl
  have push:∀(τ2 σ3:Hp) (p6:Option Addr) (n6 c6:Nat) (G2:List Rg) (qs2:List (Option Addr×Nat)) (k:Nat) (gg:Rg),Ext σ τ2→Gc 1 ADq τ2 σ3 p6 n6 c6 (G2.map gP) qs2→G2[k]?=some gg→G2.set k ⟨gg.ls,gg.vs++[y.v]⟩=D6 (Bs n y.ls) y.v G→gg.vs.length≤i→
    CG.Nc R n.kind n.op n.text a k1 c1 n.width n.back n.BW e k2 c2 n.bool n.parts x.kind x.v (aD b o) nc cc x.w pe ne ce 0 0 none 0 0 0 none 0 0 p6 n6 c6 (i:Int) (k:Int) σ3:=fun τ2 σ3 p6 n6 c6 G2 qs2 k gg AS6 zi hk he hgl=>by
   have hkg:(G2.map gP)[k]?=some (gP gg):=by rw[Ait,hk];rfl
   obtain⟨bg,og,q,pl,nl,cl,rfl,hq,AKQ,_⟩:=zi.at hkg;have hkl:k<n6:=by have:=zi.Zu;rw[Aii]at this;have:=(List.getElem?_eq_some_iff.1 hk).1;omega
   have ADr:In (k:Int) (n6:Int):=by unfold In;omega
   have ldg:Ae σ3 bg (og+Int.toNat (k:Int)*2) [.slice pl nl cl,.slice q.1 gg.vs.length q.2]:=by simpa using AKQ
   have kJ:=AS6.trans zi.ext;refine CG.PN ⟨bg,og,rfl,ADr,q.1,gg.vs.length,q.2,ldg.2.1,b,o,rfl,By,y.v,(ld1 σ3 kJ).2.1,fun b67 h67=>?_⟩;have P:=@Gc.push Int 1 8 ADq σ3 τ2 (some ⟨bg,og,none⟩) n6 c6 (G2.map gP) qs2 163 57 163 163 _ k b67 bg og (gP gg) q y.v [.U y.v] (fun _ AB=>AG ((i:Int)+1)∧CG.Ab R n.kind n.op n.text a k1 c1 n.width n.back n.BW e k2 c2 n.bool n.parts x.kind x.v (aD b o) nc cc x.w pe ne ce 0 0 none 0 0 0 none 0 0 (aD bg og) n6 c6 ((i:Int)+1) AB);refine P hz zi hkg hq rfl rfl rfl (fun u hu=>by rw[AiY.1 hu];rfl) h67 (show(gg.vs.length+1)*8≤_ by omega) (fun p' c' σ4 _ E2=>⟨_,_,_,rfl,ADr,by rw[Aiu,Nat.add_assoc];exact E2⟩) fun q' σ5 zh=>⟨by unfold AG;omega,?_⟩;have e5:(G2.map gP).set k ((gP gg).1,(gP gg).2++[y.v])=(D6 (Bs n y.ls) y.v G).map gP:=by rw[←he,List.map_set]
   rw[e5]at zh;have hal:=bS (ls:=Bs n y.ls) (v:=y.v) (gs:=G);have:=ih (i+1) τ2 σ5 (some ⟨bg,og,none⟩) n6 c6 (D6 (Bs n y.ls) y.v G) (qs2.set k q') (by omega) (by omega) AS6 zh (qR Ah) (by omega) (fun g hg=>hal.2 g hg i hvl) Qf.symm;rw[show((i+1:Nat):Int)=(i:Int)+1 by omega]at this;exact this
  have ADs:(∀g∈G,g.ls≠Bs n y.ls)→∀bb,σ2 bb=none→∀{T Et ty:TypeId} {bs:Nat} [J6 prog T Et 2 bs],(n5+1)*bs≤140737488355328→AK prog (Builtin.append_ #[T,T] ty #[.slice p5 n5 c5,.slice (aD bb 0) 1 1]) (σ2.set bb (.cells #[.slice p7 n7 c7,.N] Et (0,0))) (CS fun p53 n53 c53 AB=>CG.Nc R n.kind n.op n.text a k1 c1 n.width n.back n.BW e k2 c2 n.bool n.parts x.kind x.v (aD b o) nc cc x.w pe ne ce 0 0 none 0 0 0 none 0 0 p53 n53 c53 (i:Int) (n5:Int) AB):=fun Cg bb tQ T Et ty bs inst hbs=>
   Gc.add hG An hr7 tQ hbs fun τ' p' c' σ4 hG4 zL=>⟨_,_,_,rfl,push τ' σ4 p' (n5+1) c' (G++[⟨Bs n y.ls,[]⟩]) _ n5 ⟨Bs n y.ls,[]⟩ (tH.trans zL) (by rw[Aiq];exact hG4) (by rw[AjE (by omega),hGn,AkN];rfl) (by rw[jb Cg,List.set_append_right _ _ (by omega),hGn,AkN];rfl) (AiR _)⟩
  suffices F:∀g' k:Nat,n5-k=g'→k≤n5→(∀j z,j<k→G[j]?=some z→z.ls≠Bs n y.ls)→CG.ZX R n.kind n.op n.text a k1 c1 n.width n.back n.BW e k2 c2 n.bool n.parts x.kind x.v (aD b o) nc cc x.w pe ne ce 0 0 none 0 0 0 none 0 0 p5 n5 c5 (i:Int) p7 n7 c7 (k:Int) σ2 from F n5 0 rfl (AiR _) fun j z hj=>absurd hj (Nat.not_lt_zero _)
  intro g'
  induction g' with
  | zero=>
   intro k sO hk Cg;have QC:k=n5:=by omega
   subst QC;refine CG.Vh ⟨fun hh=>by omega,fun _=>⟨fun _ j8 h52=>ADs (fun g hg=>?_) j8 h52 (by omega),fun hh=>absurd rfl hh⟩⟩;obtain⟨j,hj⟩:=List.mem_iff_getElem?.1 hg;have:=(List.getElem?_eq_some_iff.1 hj).1;exact Cg j g (by omega) hj
  | succ g' ihk=>
   intro k sO hk Cg;have QC:k<n5:=by omega
   obtain⟨z,hz1⟩:∃z,G[k]?=some z:=⟨_,AiN (by omega)⟩;have hkg:(G.map gP)[k]?=some (gP z):=by rw[Ait,hz1];rfl
   obtain⟨bg,og,q,pl,nl,cl,hp5,hq,AKQ,AZW⟩:=hG2.at hkg;have ADr:In (k:Int) (n5:Int):=by unfold In;omega
   have ldg:Ae σ2 bg (og+Int.toNat (k:Int)*2) [.slice pl nl cl,.slice q.1 z.vs.length q.2]:=by simpa using AKQ
   refine CG.Vh ⟨fun _=>⟨bg,og,hp5,ADr,pl,nl,cl,ldg.1,Lz AZW (hr7.mono BL.mono (Ext.B9 _ _)) ⟨_,rfl,fun AZX=>⟨by unfold AG;omega,?_⟩,fun he0=>⟨fun hh=>by omega,fun _=>?_⟩⟩⟩,fun hh=>by omega⟩
   ·have:=ihk (k+1) (by omega) (by omega) fun j w hj hw=>by
     by_cases eV:j=k
     ·subst eV;rw[hz1]at hw;cases hw;exact fun e=>AZX ((Ao.eq _ _).2 e)
     ·exact Cg j w (by omega) hw
    rw[show((k+1:Nat):Int)=(k:Int)+1 by omega]at this;rw[gA hp5];exact this
   ·have Tu:z.ls=Bs n y.ls:=(Ao.eq _ _).1 (Aig.1 he0);rw[gA hp5];exact push τ σ2 p5 n5 c5 G qs k z tH hG2 hz1 (qQ Cg hz1 Tu).symm (hvl z (AiM hz1))
end
theorem Y6 {α:Type}{k k':ByteArray}{x:α}:∀{m:List (ByteArray×α)},DM (KC m k x) k'=if k=k' then some x else DM m k'
 | []=>by unfold KC DM;rfl
 | (a,b)::m=>by
  unfold KC;by_cases h:a=k
  ·rw[AiL h];unfold DM;by_cases h2:k=k'
   ·rw[AiL h2,AiL h2]
   ·rw[AiK h2,AiK h2,AiK (by rw[h];exact h2)]
  ·rw[AiK h];unfold DM;by_cases h2:a=k'
   ·rw[AiL h2,AiL h2,AiK (by rw[←h2];exact fun e=>h e.symm)]
   ·rw[AiK h2,AiK h2,Y6]
theorem bT {n:Nd}{k:List Lb}:∀(l:List El) (m:List (ByteArray×El)),DM (l.foldl (fun m x=>KC m (EO (D0 n x.ls)) x) m) (EO k)=match (l.filter fun x=>decide (D0 n x.ls=k)).getLast? with
  | some e=>some e
  | none=>DM m (EO k)
 | [],m=>rfl
 | x::l,m=>by
  rw[Ajb,bT l,Aj8];by_cases h:D0 n x.ls=k
  ·rw[AiL (Aia h),List.getLast?_cons];cases hq:(l.filter fun x=>decide (D0 n x.ls=k)).getLast? with
   | some e=>rfl
   | none=>rw[Y6,AiL (by rw[h])];rfl
  ·rw[AiK (by simpa using h)];cases hq:(l.filter fun x=>decide (D0 n x.ls=k)).getLast? with
   | some e=>rfl
   | none=>rw[Y6,AiK fun e=>h (SX e)]
theorem qS {n:Nd}{l:List El}{k:List Lb}:Hk n l k=(l.filter fun x=>decide (D0 n x.ls=k)).getLast?:=by
 show DM (l.foldl _ []) (EO k)=_
 rw[bT];cases(l.filter fun x=>decide (D0 n x.ls=k)).getLast?<;>rfl
theorem qT {α:Type}{k:ByteArray}{x:α}:∀{m:List (ByteArray×α)},(KC m k x).length≤m.length+1∧((KC m k x).length=m.length+1→(∀y∈m,y.1≠k))
 | []=>⟨AiV _,fun _ y hy=>by cases hy⟩
 | (a,b)::m=>by
  obtain⟨h1,h2⟩:=qT (k:=k) (x:=x) (m:=m);unfold KC;by_cases h:a=k
  ·rw[AiL h];exact⟨by simp,fun hh=>by simp at hh⟩
  ·rw[AiK h];simp only[AjB];refine⟨by omega,fun hh y hy=>?_⟩;rcases AiT.1 hy with rfl|hy
   ·exact h
   ·exact h2 (by omega) y hy
theorem jj {n:Nd}:∀(l:List El) (m:List (ByteArray×El)),(l.foldl (fun m x=>KC m (EO (D0 n x.ls)) x) m).length≤m.length+l.length∧((l.foldl (fun m x=>KC m (EO (D0 n x.ls)) x) m).length=m.length+l.length→l.Pairwise (fun a b=>D0 n a.ls≠D0 n b.ls)∧∀y∈m,∀x∈l,y.1≠EO (D0 n x.ls))
 | [],m=>⟨AiV _,fun _=>⟨List.Pairwise.nil,fun y _ x hx=>by cases hx⟩⟩
 | x::l,m=>by
  obtain⟨h1,h2⟩:=jj (n:=n) l (KC m (EO (D0 n x.ls)) x);obtain⟨h3,h4⟩:=qT (k:=EO (D0 n x.ls)) (x:=x) (m:=m);rw[Ajb,AjB];refine⟨by omega,fun he=>?_⟩;have h5:=h4 (by omega);obtain⟨h6,h7⟩:=h2 (by omega);rw[Yx h5]at h7;refine⟨List.pairwise_cons.2 ⟨fun y hy e=>h7 (EO (D0 n x.ls),x) (by simp) y hy (by rw[e]),h6⟩,fun y hy z hz=>?_⟩;rcases AiT.1 hz with rfl|hz
  ·exact h5 y hy
  ·exact h7 y (Ajo _ hy) z hz
theorem qU {n:Nd}{l:List El}:Lm n l=true↔l.Pairwise fun a b=>D0 n a.ls≠D0 n b.ls:=by
 unfold Lm Zi;rw[AiW]
 constructor
 ·intro h;exact((jj (n:=n) l []).2 (by rw[h];simp)).1
 ·intro h;rw[jc h (fun y hy=>by cases hy)];simp
def JC (n:Nd)(l:List El)(k:List Lb)(i:Int):Prop:=(i=-1∧∀(j:Nat) (e:El),l[j]?=some e→D0 n e.ls≠k)∨(i=-2∧∃(j j':Nat) (e e':El),j≠j'∧l[j]?=some e∧l[j']?=some e'∧D0 n e.ls=k∧D0 n e'.ls=k)∨∃(j:Nat) (e:El),i=j∧l[j]?=some e∧D0 n e.ls=k∧∀(j':Nat) (e':El),l[j']?=some e'→D0 n e'.ls=k→j'=j
theorem JC.none {n:Nd}{l:List El}{k:List Lb}{i:Int}(h:JC n l k i):i=-1↔Hk n l k=none:=by
 rw[qS,List.getLast?_eq_none_iff,List.filter_eq_nil_iff];rcases h with ⟨h1,h2⟩|⟨h1,j,j',e,e',_,he,_,hk,_⟩|⟨j,e,h1,he,hk,_⟩
 ·refine⟨fun _ x hx=>?_,fun _=>h1⟩;obtain⟨j,hj⟩:=List.mem_iff_getElem?.1 hx;simpa using h2 j x hj
 ·exact⟨fun hh=>by omega,fun hh=>absurd (Aia hk) (hh e (AiM he))⟩
 ·exact⟨fun hh=>by omega,fun hh=>absurd (Aia hk) (hh e (AiM he))⟩
theorem JC.two {n:Nd}{l:List El}{k:List Lb}{i:Int}(h:JC n l k i)(h2:i=-2):Lm n l=false:=by
 rcases h with ⟨h1,_⟩|⟨_,j,j',e,e',hjj,he,QZ,hk,Ei⟩|⟨j,e,h1,_⟩
 ·omega
 ·rw[AjU,ne_eq,qU];intro hp;have hl:=(List.getElem?_eq_some_iff.1 he);have UK:=(List.getElem?_eq_some_iff.1 QZ);rcases Nat.lt_or_gt_of_ne hjj with Aq|Aq
  ·have:=Ai2.1 hp j j' hl.1 UK.1 Aq;rw[hl.2,UK.2,hk,Ei]at this;exact this rfl
  ·have:=Ai2.1 hp j' j UK.1 hl.1 Aq;rw[hl.2,UK.2,hk,Ei]at this;exact this rfl
 ·omega
theorem JC.at {n:Nd}{l:List El}{k:List Lb}{i:Int}(h:JC n l k i)(h0:¬i<0):∃(j:Nat) (e:El),i=j∧l[j]?=some e∧Hk n l k=some e:=by
 rcases h with ⟨h1,_⟩|⟨h1,_⟩|⟨j,e,h1,he,hk,hu⟩
 ·omega
 ·omega
 ·refine⟨j,e,h1,he,?_⟩;rw[qS];have hm:e∈l.filter fun x=>decide (D0 n x.ls=k):=List.mem_filter.2 ⟨AiM he,Aia hk⟩;cases hq:(l.filter fun x=>decide (D0 n x.ls=k)).getLast? with
  | none=>rw[List.getLast?_eq_none_iff]at hq;rw[hq]at hm;cases hm
  | some z=>
   obtain⟨hz1,hz2⟩:=List.mem_filter.1 (Aj3 hq);obtain⟨j',Zz⟩:=List.mem_iff_getElem?.1 hz1;have:=hu j' z Zz (AiP hz2);subst this;rw[he]at Zz;cases Zz;rfl
theorem JC.all {n:Nd}{l:List El}(h:∀e∈l,∃i,JC n l (D0 n e.ls) i∧i≠-2):Lm n l=true:=by
 rw[qU,Ai2];intro a b ha hb ym he;obtain⟨i,hi,h2⟩:=h l[a] (List.getElem_mem ha);rcases hi with ⟨_,h3⟩|⟨h3,_⟩|⟨j,e,_,_,_,hu⟩
 ·exact h3 a l[a] (AiN ha) rfl
 ·exact h2 h3
 ·have e1:=hu a l[a] (AiN ha) rfl;have e2:=hu b l[b] (AiN hb) he.symm;omega
section
variable {σ:Hp}{R:Rr}
structure NdB (σ:Hp)(n:Nd)(e:Option Addr)(k:Nat):Prop where
 nm:G6 1 σ e k (n.names.map .string)
 m:k≤4611686018427387904
 g:n.BW=0∧n.names=[]∨n.BW=3∨n.BW=4
theorem NdB.mono {σ':Hp}{n:Nd}{e:Option Addr}{k:Nat}(h:NdB σ n e k)(hx:Ext σ σ'):NdB σ' n e k:=⟨h.nm.mono hx,h.m,h.g⟩
theorem Kb {n:Nd}{a e p q:Option Addr}{k1 c1 k2 c2 j c m d:Nat}{l:List El}{k:List Lb}(hN:NdB σ n e k2)(hr:AT 2 Aa σ p j l)(hk:Dy σ q m k)(TD:∀y∈l,Af y.ls)
  (h:∀i σ',Ext σ σ'→JC n l k i→R (.returned (.I i)) σ'):Spec prog 154 #[KD n a k1 c1 e k2 c2,.slice p j c,.slice q m d] σ R:=by
 have hl:l.length=j:=hr.1;have H9:=hr.big;refine FN.start fun _=>?_
 suffices H:∀g i:Nat,∀(x:Int) (σ':Hp),j-i=g→i≤j→Ext σ σ'→((x=-1∧∀t y,t<i→l[t]?=some y→D0 n y.ls≠k)∨∃(t:Nat) (y:El),x=t∧t<i∧l[t]?=some y∧D0 n y.ls=k∧∀t' y',t'<i→l[t']?=some y'→D0 n y'.ls=k→t'=t)→
   FN.Ab R p j c q m d n.kind n.op n.text a k1 c1 n.width n.back n.BW e k2 c2 n.bool n.parts x (i:Int) σ' from H j 0 (-1) σ rfl (AiR _) (.refl _) (.inl ⟨rfl,fun t y ht=>absurd ht (Nat.not_lt_zero _)⟩)
 intro g
 induction g with
 | zero=>
  intro i x σ' hg hi hx hI;have JE:i=j:=by omega
  refine FN.AO ⟨fun hh=>by omega,fun _=>h x σ' hx ?_⟩;have lt:∀{t:Nat} {y:El},l[t]?=some y→t<i:=fun hy=>by have:=(List.getElem?_eq_some_iff.1 hy).1;omega
  rcases hI with ⟨h1,h2⟩|⟨t,y,h1,_,h3,h4,h5⟩
  ·exact .inl ⟨h1,fun t y hy=>h2 t y (lt hy) hy⟩
  ·exact .inr (.inr ⟨t,y,h1,h3,h4,fun t' y' hy' Ei=>h5 t' y' (lt hy') hy' Ei⟩)
 | succ g ih=>
  intro i x σ' hg hi hx hI;have BF:i<j:=by omega
  obtain⟨y,hy⟩:=hr.ex BF;obtain⟨b,o,q1,m1,d1,rfl,CF,GZ⟩:=Aa.at hr hy;have AAZ:=TD y (AiM hy);have By:In (i:Int) (j:Int):=by unfold In;omega
  have ld1:Ae σ' b (o+Int.toNat (i:Int)*2) [.slice q1 m1 d1,.U y.v]:=by simpa using CF.mono hx
  have hN':=hN.mono hx;refine FN.AO ⟨fun _=>⟨b,o,rfl,By,q1,m1,d1,ld1.1,Ph (GZ.mono BL.mono hx) (by have h3:y.ls.length=m1:=GZ.1;have:=AAZ.1;omega) hN'.nm hN'.m hN'.g fun p' n' c' σ2 Ha An=>⟨_,_,_,rfl,Lz (Ha.mono BL.mono (Ext.B9 _ _)) (hk.mono BL.mono (hx.trans An)) ⟨_,rfl,fun h0=>⟨fun Zg=>h (-2) σ2 (hx.trans An) ?_,fun Aq=>FN.Ff ⟨AJ BF H9,?_⟩⟩,fun h0=>FN.Ff ⟨AJ BF H9,?_⟩⟩⟩⟩,fun hh=>by omega⟩
  ·have hky:=(Ao.eq _ _).1 h0;rcases hI with ⟨h1,_⟩|⟨t,z,_,h2,h3,h4,_⟩
   ·omega
   ·exact .inr (.inl ⟨rfl,t,i,z,y,by omega,h3,hy,h4,hky⟩)
  ·have hky:=(Ao.eq _ _).1 h0;have:=ih (i+1) (i:Int) σ2 (by clear hI;omega) (by clear hI;omega) (hx.trans An) (.inr ⟨i,y,rfl,by clear hI;omega,hy,hky,fun t' y' ht' hy' Ei=>by
    by_cases hti:t'=i
    ·exact hti
    ·exfalso;rcases hI with ⟨_,h2⟩|⟨t,z,h1,_⟩
     ·exact h2 t' y' (by omega) hy' Ei
     ·omega⟩)
   rw[show((i+1:Nat):Int)=(i:Int)+1 by omega]at this;exact this
  ·have hky:D0 n y.ls≠k:=fun e=>h0 ((Ao.eq _ _).2 e);have:=ih (i+1) x σ2 (by clear hI;omega) (by clear hI;omega) (hx.trans An) (by
    rcases hI with ⟨h1,h2⟩|⟨t,z,h1,h2,h3,h4,h5⟩
    ·refine .inl ⟨h1,fun t z ht hz=>?_⟩;by_cases hti:t=i
     ·subst hti;rw[hy]at hz;cases hz;exact hky
     ·exact h2 t z (by omega) hz
    ·refine .inr ⟨t,z,h1,by omega,h3,h4,fun t' z' ht' mV Ei=>?_⟩;by_cases hti:t'=i
     ·subst hti;rw[hy]at mV;cases mV;exact absurd Ei hky
     ·exact h5 t' z' (by omega) mV Ei)
   rw[show((i+1:Nat):Int)=(i:Int)+1 by omega]at this;exact this
theorem eC {n:Nd}{a e:Option Addr}{k1 c1 k2 c2:Nat}{x y:RP}{px ey py fA:Option Addr}{nx cx fB fC ny cy fD fE:Nat}(Bc:AT 2 Aa σ px nx x.es)(eB:AT 2 Aa σ py ny y.es)(ho:1≤n.op∧n.op≤10)(bF:∀z∈x.es,Af z.ls)(ZF:∀z∈y.es,Af z.ls)(NQ:x.es.length≤100000000000)(SC:y.es.length≤100000000000)
  (hk:x.kind=1∧x.es=[]∨x.kind≠1∧y.kind=1∧y.es=[])
  (h:nK R σ ⟨2,0,if x.kind=1 then JL n y.es (A3 n.op x.v) else JL n x.es fun v=>A3 n.op v y.v,0,[]⟩) :
  Spec prog 116 #[KD n a k1 c1 e k2 c2,Y0 x.kind x.v px nx cx x.w ey fB fC,Y0 y.kind y.v py ny cy y.w fA fD fE] σ R:=by
 have hnx:x.es.length=nx:=Bc.1;have eu:y.es.length=ny:=eB.1
 let f:Int→Int×Bool:=fun v=>if x.kind=1 then A3 n.op x.v v else A3 n.op v y.v
 let fe:El→Option El:=fun z=>if BN n.op=false∨n.bool=true then some ⟨Bd z.ls,(f z.v).1⟩ else if(f z.v).2 then some z else none
 have AZZ:(if x.kind=1 then JL n y.es (A3 n.op x.v) else JL n x.es fun v=>A3 n.op v y.v)=(x.es++y.es).filterMap fe:=by
  rcases hk with ⟨h1,h2⟩|⟨h1,h2,h3⟩
  ·rw[AiL h1,h2,AjK];unfold JL;refine Aie (fun g=>List.filterMap g y.es) (funext fun z=>?_);show _=fe z
   simp only[fe,f,AiL h1]
  ·rw[AiK h1,h3,AkC];unfold JL;refine Aie (fun g=>List.filterMap g x.es) (funext fun z=>?_);show _=fe z
   simp only[fe,f,AiK h1]
 rw[AZZ]at h;have TD:∀z∈x.es++y.es,Af z.ls:=fun z hz=>(List.mem_append.1 hz).elim (bF z) (ZF z);obtain⟨_,cs,LK,hch⟩:=Bc;obtain⟨_,ds,hds,hdh⟩:=eB;refine C5.start fun _ _ _ _ _ D9 h13=>AL.copy Aa.mono LK (Ch.WH Aa.one hch (by decide)) hch (.refl _) hnx (by omega) h13 fun gV aZ σ1 NN AZa _=>⟨_,_,_,rfl,AL.tN Aa.mono NN (hds.mono AZa) (Ch.WH Aa.one hdh (by decide)) hdh eu (by omega) fun rE lM σ2 A6 _=>⟨_,_,_,rfl,?_⟩⟩;have uD:=A6.rd Aa.mono;have X2:=A6.up;have hL:(x.es++y.es).length=nx+ny:=by rw[Aid];omega
 generalize x.es++y.es=L at *
 suffices H:∀g i:Nat,∀p7 n7 c7 σ',nx+ny-i=g→i≤nx+ny→AL 2 Aa σ2 σ' p7 n7 c7 ((L.take i).filterMap fe)→C5.Jh R n.kind n.op n.text a k1 c1 n.width n.back n.BW e k2 c2 n.bool n.parts x.kind x.v px nx cx x.w ey fB fC y.kind y.v py ny cy y.w fA fD fE 0 0 none 0 0 0 none 0 0 2 0 p7 n7 c7 0 none 0 0 rE (nx+ny) lM (i:Int) σ' from H (nx+ny) 0 none 0 0 σ2 rfl (AiR _) (AL.nil (.refl _))
 intro g
 induction g with
 | zero=>
  intro i p7 n7 c7 σ' hg hi kL;rw[AiQ (by omega)]at kL;exact C5.HJ ⟨fun hh=>by omega,fun _=>h σ' p7 n7 c7 none 0 0 (X2.trans kL.up) (kL.rd Aa.mono) AT.nil (by obtain⟨cs,KE,_⟩:=kL.1.2;exact Au.cap KE)⟩
 | succ g ih=>
  intro i p7 n7 c7 σ' hg hi kL;have BF:i<nx+ny:=by omega
  obtain⟨z,hz⟩:=uD.ex BF;have J2:=TD z (AiM hz);obtain⟨b,o,q1,m1,d1,rfl,CF,GZ⟩:=Aa.at uD hz;have By:In (i:Int) ((nx+ny:Nat):Int):=by unfold In;omega
  have ld1:∀σ3,Ext σ2 σ3→Ae σ3 b (o+Int.toNat (i:Int)*2) [.slice q1 m1 d1,.U z.v]:=fun σ3 h=>by simpa using CF.mono h
  have hX:=kL.up;have hn7:n7≤i:=by
   have h3:=kL.1.1;have h4:=Aif fe (L.take i);rw[AiU]at h4;omega
  have next:∀p8 n8 c8 σ3 (bb:Bool),bb=n.bool→AL 2 Aa σ2 σ3 p8 n8 c8 ((L.take i).filterMap fe++(fe z).toList)→C5.XC R n.kind n.op n.text a k1 c1 n.width n.back n.BW e k2 c2 bb n.parts x.kind x.v px nx cx x.w ey fB fC y.kind y.v py ny cy y.w fA fD fE 0 0 none 0 0 0 none 0 0 2 0 p8 n8 c8 0 none 0 0 (aD b o) (nx+ny) lM (i:Int) σ3:=fun p8 n8 c8 σ3 bb tQ Qi=>by
   subst tQ;have:=ih (i+1) p8 n8 c8 σ3 (by omega) (by omega) (by rw[Cj hz];exact Qi);rw[show((i+1:Nat):Int)=(i:Int)+1 by omega]at this;exact C5.Vq ⟨by unfold AG;omega,this⟩
  have body:∀u v:Int,(f z.v)=A3 n.op u v→C5.N1 R n.kind n.op n.text a k1 c1 n.width n.back n.BW e k2 c2 n.bool n.parts x.kind x.v px nx cx x.w ey fB fC y.kind y.v py ny cy y.w fA fD fE 0 0 none 0 0 0 none 0 0 2 0 p7 n7 c7 0 none 0 0 (aD b o) (nx+ny) lM (i:Int) u v σ':=fun u v hf=>by
   have bare:∀{Q:Rr},(∀p' n' c' σ3,Dy (σ'.new σ3) p' n' (Bd z.ls)→Ext σ' σ3→Q (.returned (.slice p' n' c')) σ3)→Spec prog 107 #[.slice q1 m1 d1] σ' Q:=fun hq=>IG (GZ.mono BL.mono hX) (by have h3:z.ls.length=m1:=GZ.1;have:=J2.1;omega) hq;refine C5.PW (Jv ⟨_,rfl,fun hc=>⟨b,o,rfl,By,q1,m1,d1,(ld1 σ' hX).1,bare fun p' n' c' σ3 SM BU=>⟨_,_,_,rfl,KZ (by
     unfold BN at hc;rw[AjW,Aik,Aik]at hc;omega) ⟨_,rfl,fun o6 h62=>?_⟩⟩⟩,fun hc=>⟨fun hb=>⟨b,o,rfl,By,q1,m1,d1,(ld1 σ' hX).1,bare fun p' n' c' σ3 SM BU=>⟨_,_,_,rfl,Dc ⟨_,rfl,Tq ⟨_,rfl,fun b83 h83=>?_⟩⟩⟩⟩,fun hb=>Dc ⟨_,rfl,fun ht=>⟨b,o,rfl,By,q1,m1,d1,z.v,ld1 σ' hX,fun b98 h98=>?_⟩,fun tc=>next _ _ _ σ' false hb.symm ?_⟩⟩⟩)
   ·have nN:1≤n.op∧n.op≤4:=by
     unfold BN at hc;rw[AjW,Aik,Aik]at hc;omega
    refine AL.eld (kL.mono Aa.mono BU) (SM.mono BL.mono (kL.new BU)) (by omega) (fun p6 c6 σ4 FW _=>⟨_,_,_,rfl,next _ _ _ _ n.bool rfl ?_⟩) h62;rw[show fe z=some ⟨Bd z.ls,NL n.op u v⟩ by
     simp only[fe,AiL (Or.inl hc:BN n.op=false∨n.bool=true)];rw[hf];unfold A3;rw[AiL nN]]
    exact FW
   ·refine AL.eld (kL.mono Aa.mono BU) (SM.mono BL.mono (kL.new BU)) (by omega) (fun p6 c6 σ4 FW _=>⟨_,_,_,rfl,next _ _ _ _ true hb.symm ?_⟩) h83;rw[show fe z=some ⟨Bd z.ls,if IA n.op u v then AV 1 else AV 0⟩ by
     simp only[fe,AiL (Or.inr hb:BN n.op=false∨n.bool=true)];rw[hf];unfold A3;rw[AiK (by unfold BN at hc;simp only[AiS,AiW]at hc;omega)]]
    exact FW
   ·refine AL.Hu Aa.mono kL rfl (Aa.one _ _ _ (⟨q1,m1,d1,rfl,GZ⟩:Aa σ2 [.slice q1 m1 d1,.U z.v] z)) (x:=z) ⟨q1,m1,d1,rfl,GZ.mono BL.mono kL.2⟩ (by omega) (fun p6 c6 σ4 FW _=>⟨_,_,_,rfl,next _ _ _ _ false hb.symm ?_⟩) h98;rw[show fe z=some z by
     simp only[fe];rw[AiK (fun h5=>h5.elim (fun h5=>by rw[h5]at hc;cases hc) fun h5=>by rw[h5]at hb;cases hb),hf];rw[show(A3 n.op u v).2=IA n.op u v by unfold A3;rw[AiK (by unfold BN at hc;simp only[AiS,AiW]at hc;omega)]];exact AiL ht]
    exact FW
   ·rw[show fe z=none by
     simp only[fe];rw[AiK (fun h5=>h5.elim (fun h5=>by rw[h5]at hc;cases hc) fun h5=>by rw[h5]at hb;cases hb),hf];rw[show(A3 n.op u v).2=IA n.op u v by unfold A3;rw[AiK (by unfold BN at hc;simp only[AiS,AiW]at hc;omega)]];exact AiK (by rw[tc];decide)]
    simpa using kL
  refine C5.HJ ⟨fun _=>⟨b,o,rfl,By,z.v,(ld1 σ' hX).2.1,fun sj=>⟨By,z.v,(ld1 σ' hX).2.1,body x.v z.v ?_⟩,fun sj=>body z.v y.v ?_⟩,fun hh=>by omega⟩
  ·simp only[f,AiL sj]
  ·simp only[f,AiK sj]
end
theorem Ext.AKU {σ σ2 σ3:Hp}(h:Ext σ2 σ3):Ext (σ.new σ2) (σ.new σ3):=fun k u hk=>AR.2 ⟨(AR.1 hk).1,h _ _ (AR.1 hk).2⟩
structure AZb (R:Rr)(σ:Hp)(o:Option (List El)):Prop where
 ok:∀l,o=some l→∀σ' p n c,Ext σ σ'→AT 2 Aa σ' p n l→n≤c→R (.T #[Y0 2 0 p n c 0 none 0 0,.bool true]) σ'
 no:o=none→∀σ' p n c (l:List El),Ext σ σ'→AT 2 Aa σ' p n l→n≤c→n≤100000000000→R (.T #[Y0 2 0 p n c 0 none 0 0,.bool false]) σ'
section
variable {σ:Hp}{R:Rr}
set_option maxHeartbeats 4000000 in
theorem eD {n:Nd}{a e:Option Addr}{k1 c1 k2 c2:Nat}{x y:RP}{px ey py fA:Option Addr}{nx cx fB fC ny cy fD fE:Nat}(hN:NdB σ n e k2)(Bc:AT 2 Aa σ px nx x.es)(eB:AT 2 Aa σ py ny y.es)(ho:1≤n.op∧n.op≤13)(bF:∀z∈x.es,Af z.ls)(ZF:∀z∈y.es,Af z.ls)(NQ:x.es.length≤100000000000)(SC:y.es.length≤100000000000)
  (h:AZb R σ (if 11≤n.op then some (Io n x.es y.es) else Hl FF n x.es y.es)) :
  Spec prog 117 #[KD n a k1 c1 e k2 c2,Y0 x.kind x.v px nx cx x.w ey fB fC,Y0 y.kind y.v py ny cy y.w fA fD fE] σ R:=by
 have hnx:x.es.length=nx:=Bc.1;have eu:y.es.length=ny:=eB.1
 let fa:El→Option El:=fun z=>if 11≤n.op then(if(decide (n.op=12)||((Hk n y.es (D0 n z.ls)).isSome==decide (n.op=11)))=true then some z else none) else match Hk n y.es (D0 n z.ls) with
  | none=>none
  | some o=>if BN n.op=false∨n.bool=true then some ⟨D0 n z.ls,(A3 n.op z.v o.v).1⟩ else if(A3 n.op z.v o.v).2 then some z else none
 let fb:El→Option El:=fun z=>if((Hk n x.es (D0 n z.ls)).isNone&&decide (n.op=12))=true then some z else none
 have AS7:11≤n.op→Io n x.es y.es=x.es.filterMap fa++y.es.filterMap fb:=fun IT=>by
  unfold Io
  congr 1
  ·exact(T6 fun z _=>by simp only[fa,AiL IT]).symm
  ·exact(T6 fun z _=>rfl).symm
 have AS8:¬11≤n.op→Lm n x.es=true→Lm n y.es=true→Hl FF n x.es y.es=some (x.es.filterMap fa):=fun IT h1 h2=>by
  unfold Hl;rw[h1,h2];refine Aie some (Aie (fun g=>List.filterMap g x.es) (funext fun z=>?_));simp only[fa,AiK IT];rfl
 have AS9:¬11≤n.op→(Lm n x.es=false∨Lm n y.es=false)→∀σ' p n' c (l:List El),Ext σ σ'→AT 2 Aa σ' p n' l→n'≤c→n'≤100000000000→R (.T #[Y0 2 0 p n' c 0 none 0 0,.bool false]) σ':=fun IT hh=>h.no (by
  rw[AiK IT];unfold Hl;rcases hh with hh|hh
  ·rw[hh];rfl
  ·rw[hh,Ajl];rfl)
 refine Ag.start fun _ _ _ _ _=>?_;have third:∀(g i:Nat) p8 n8 c8 σ',ny-i=g→i≤ny→(11≤n.op∨Lm n x.es=true∧Lm n y.es=true)→AL 2 Aa σ σ' p8 n8 c8 (x.es.filterMap fa++if n.op=12 then(y.es.take i).filterMap fb else[])→Ag.ACA R n.kind n.op n.text a k1 c1 n.width n.back n.BW e k2 c2 n.bool n.parts x.kind x.v px nx cx x.w ey fB fC y.kind y.v py ny cy y.w fA fD fE 0 0 none 0 0 0 none 0 0 2 0 p8 n8 c8 0 none 0 0 (i:Int) σ':=by
  intro g;have ret:∀p8 n8 c8 σ',(11≤n.op∨Lm n x.es=true∧Lm n y.es=true)→AL 2 Aa σ σ' p8 n8 c8 (x.es.filterMap fa++if n.op=12 then y.es.filterMap fb else[])→R (.T #[Y0 2 0 p8 n8 c8 0 none 0 0,.bool true]) σ':=fun p8 n8 c8 σ' O7 Qi=>by
   refine h.ok _ ?_ σ' p8 n8 c8 Qi.up (Qi.rd Aa.mono) (by obtain⟨cs,KE,_⟩:=Qi.1.2;exact Au.cap KE);by_cases IT:11≤n.op
   ·rw[AiL IT,AS7 IT];by_cases J4:n.op=12
    ·rw[AiL J4]
    ·rw[AiK J4];rw[show y.es.filterMap fb=[] from List.filterMap_eq_nil_iff.2 fun z _=>by simp only[fb,AiZ J4,Ajl];rfl]
   ·rw[AiK IT,AiK (by omega),AkC];rcases O7 with hh|⟨hh1,hh2⟩
    ·exact absurd hh IT
    ·exact AS8 IT hh1 hh2
  induction g with
  | zero=>
   intro i p8 n8 c8 σ' hg hi O7 Qi;rw[AiQ (by omega)]at Qi;exact Ag.oe ⟨fun hh=>by omega,fun _=>ret p8 n8 c8 σ' O7 Qi⟩
  | succ g ih=>
   intro i p8 n8 c8 σ' hg hi O7 Qi;have BF:i<ny:=by omega
   obtain⟨z,hz⟩:=eB.ex BF;obtain⟨b,o,q1,m1,d1,rfl,CF,GZ⟩:=Aa.at eB hz;have J2:=ZF z (AiM hz);have By:In (i:Int) (ny:Int):=by unfold In;omega
   have hX:=Qi.up;have ld1:∀σ2,Ext σ σ2→Ae σ2 b (o+Int.toNat (i:Int)*2) [.slice q1 m1 d1,.U z.v]:=fun σ2 h=>by simpa using CF.mono h
   refine Ag.oe ⟨fun _=>⟨fun J4=>⟨b,o,rfl,By,q1,m1,d1,(ld1 σ' hX).1,Ph (GZ.mono BL.mono hX) (by have h3:z.ls.length=m1:=GZ.1;have:=J2.1;omega) (hN.mono hX).nm hN.m hN.g fun p' n' c' σ2 Ha An=>⟨_,_,_,rfl,Kb (hN.mono (hX.trans An)) (Bc.mono Aa.mono (hX.trans An)) (Ha.mono BL.mono (Ext.B9 _ _)) bF fun i' σ3 BU hK=>⟨_,rfl,?_⟩⟩⟩,fun J4=>ret p8 n8 c8 σ' O7 (by rw[AiK J4]at Qi ⊢;exact Qi)⟩,fun hh=>by omega⟩;rw[AiL J4]at Qi;have kJ:=hX.trans (An.trans BU);have Tp:n8≤nx+i:=by
    have h3:=Qi.1.1;have h4:=Aif fa x.es;have h5:=Aif fb (y.es.take i);rw[Aid]at h3;rw[AiU]at h5;omega
   have next:∀p9 n9 c9 σ4,AL 2 Aa σ σ4 p9 n9 c9 (x.es.filterMap fa++(y.es.take i).filterMap fb++(fb z).toList)→Ag.TQ R n.kind n.op n.text a k1 c1 n.width n.back n.BW e k2 c2 n.bool n.parts x.kind x.v px nx cx x.w ey fB fC y.kind y.v (aD b o) ny cy y.w fA fD fE 0 0 none 0 0 0 none 0 0 2 0 p9 n9 c9 0 none 0 0 (i:Int) σ4:=fun p9 n9 c9 σ4 Sb=>by
    have:=ih (i+1) p9 n9 c9 σ4 (by omega) (by omega) O7 (by rw[AiL J4,Cj hz,←AjL];exact Sb);rw[show((i+1:Nat):Int)=(i:Int)+1 by omega]at this;exact Ag.PL ⟨by unfold AG;omega,this⟩
   have DJ:=Qi.mono Aa.mono (An.trans BU);refine⟨fun NR=>⟨By,q1,m1,d1,z.v,ld1 σ3 kJ,fun AIK AZe=>?_⟩,fun NR=>next _ _ _ _ ?_⟩
   ·refine AL.Hu Aa.mono DJ rfl (Aa.one _ _ _ (⟨q1,m1,d1,rfl,GZ⟩:Aa σ [.slice q1 m1 d1,.U z.v] z)) (x:=z) ⟨q1,m1,d1,rfl,GZ.mono BL.mono DJ.2⟩ (by omega) (fun p6 c6 σ4 FW _=>⟨_,_,_,rfl,next _ _ _ _ ?_⟩) AZe;rw[show fb z=some z by simp only[fb];rw[hK.none.1 NR,Aia J4];rfl];exact FW
   ·rw[show fb z=none by
     simp only[fb];cases hq:Hk n x.es (D0 n z.ls) with
     | none=>exact absurd (hK.none.2 hq) NR
     | some w=>rfl]
    simpa using DJ
 have second:∀(g i:Nat) p8 n8 c8 σ' (t9:Bool),t9=decide (11≤n.op)→nx-i=g→i≤nx→(11≤n.op∨Lm n y.es=true∧∀z∈x.es.take i,∃i',JC n x.es (D0 n z.ls) i'∧i'≠-2)→AL 2 Aa σ σ' p8 n8 c8 ((x.es.take i).filterMap fa)→Ag.cM R n.kind n.op n.text a k1 c1 n.width n.back n.BW e k2 c2 n.bool n.parts x.kind x.v px nx cx x.w ey fB fC y.kind y.v py ny cy y.w fA fD fE 0 0 none 0 0 0 none 0 0 2 0 p8 n8 c8 0 none 0 0 t9 (i:Int) σ':=by
  intro g
  induction g with
  | zero=>
   intro i p8 n8 c8 σ' t9 tR hg hi O7 Qi;rw[AiQ (by omega)]at O7 Qi;exact Ag.Re ⟨fun hh=>by omega,fun _=>third ny 0 p8 n8 c8 σ' rfl (AiR _) (O7.imp id fun hh=>⟨JC.all hh.2,hh.1⟩) (by
    rw[Aj7];simp only[List.filterMap_nil,ite_self,AkC];exact Qi)⟩
  | succ g ih=>
   intro i p8 n8 c8 σ' t9 tR hg hi O7 Qi;have BF:i<nx:=by omega
   obtain⟨z,hz⟩:=Bc.ex BF;obtain⟨b,o,q1,m1,d1,rfl,CF,GZ⟩:=Aa.at Bc hz;have J2:=bF z (AiM hz);have By:In (i:Int) (nx:Int):=by unfold In;omega
   have hX:=Qi.up;have ld1:∀σ2,Ext σ σ2→Ae σ2 b (o+Int.toNat (i:Int)*2) [.slice q1 m1 d1,.U z.v]:=fun σ2 h=>by simpa using CF.mono h
   have Tp:n8≤i:=by
    have h3:=Qi.1.1;have h4:=Aif fa (x.es.take i);rw[AiU]at h4;omega
   refine Ag.Re ⟨fun _=>⟨b,o,rfl,By,q1,m1,d1,(ld1 σ' hX).1,Ph (GZ.mono BL.mono hX) (by have h3:z.ls.length=m1:=GZ.1;have:=J2.1;omega) (hN.mono hX).nm hN.m hN.g fun p' n' c' σ2 Ha An=>⟨_,_,_,rfl,Kb (hN.mono (hX.trans An)) (eB.mono Aa.mono (hX.trans An)) (Ha.mono BL.mono (Ext.B9 _ _)) ZF fun i3 σ3 BU hK=>⟨_,rfl,fun tf=>?_,fun tt=>?_⟩⟩⟩,fun hh=>by omega⟩
   ·
    have IT:¬11≤n.op:=by rw[tR]at tf;exact Aio tf
    have kJ:=hX.trans (An.trans BU);refine Kb (hN.mono kJ) (Bc.mono Aa.mono kJ) ((Ha.mono BL.mono (Ext.B9 _ _)).mono BL.mono BU) bF fun i4 σ4 JK hK4=>⟨_,rfl,fun sP=>AS9 IT (.inl (hK4.two sP)) σ4 p8 n8 c8 _ (kJ.trans JK) ((Qi.mono Aa.mono (An.trans (BU.trans JK))).rd Aa.mono) (by obtain⟨cs,KE,_⟩:=Qi.1.2;exact Au.cap KE) (by omega),fun sP=>⟨fun hh=>by omega,fun _=>⟨fun hh=>by omega,fun _=>⟨fun hh=>by omega,fun _=>?_⟩⟩⟩⟩;have hX4:=kJ.trans JK;have ATA:=An.trans (BU.trans JK);have FW:=Qi.mono Aa.mono ATA;have ATB:11≤n.op∨Lm n y.es=true∧∀w∈x.es.take (i+1),∃i',JC n x.es (D0 n w.ls) i'∧i'≠-2:=by
     rcases O7 with hh|⟨hh1,hh2⟩
     ·exact absurd hh IT
     ·refine .inr ⟨hh1,fun w hw=>?_⟩;rw[AQ hz]at hw;rcases List.mem_append.1 hw with hw|hw
      ·exact hh2 w hw
      ·rw[AiY.1 hw];exact⟨i4,hK4,sP⟩
    have next:∀p9 n9 c9 σ5 (py2:Option Addr) (bb:Bool),py2=py→bb=n.bool→AL 2 Aa σ σ5 p9 n9 c9 ((x.es.take i).filterMap fa++(fa z).toList)→Ag.Ep R n.kind n.op n.text a k1 c1 n.width n.back n.BW e k2 c2 bb n.parts x.kind x.v (aD b o) nx cx x.w ey fB fC y.kind y.v py2 ny cy y.w fA fD fE 0 0 none 0 0 0 none 0 0 2 0 p9 n9 c9 0 none 0 0 false (i:Int) σ5:=fun p9 n9 c9 σ5 py2 bb hpy tQ Sb=>by
     subst hpy;subst tQ;have:=ih (i+1) p9 n9 c9 σ5 false (by rw[AiZ IT]) (by omega) (by omega) ATB (by rw[Cj hz];exact Sb);rw[show((i+1:Nat):Int)=(i:Int)+1 by omega]at this;exact Ag.oh ⟨by unfold AG;omega,this⟩
    have uI:fa z=match Hk n y.es (D0 n z.ls) with
      | none=>none
      | some o=>if BN n.op=false∨n.bool=true then some ⟨D0 n z.ls,(A3 n.op z.v o.v).1⟩ else if(A3 n.op z.v o.v).2 then some z else none:=by simp only[fa,AiK IT]
    refine⟨fun Aq=>next _ _ _ _ py n.bool rfl rfl ?_,fun Zg=>?_⟩
    ·have Hj:Hk n y.es (D0 n z.ls)=none:=by
      rcases hK with ⟨h1,_⟩|⟨h1,hh⟩|⟨j,w,h1,_⟩
      ·exact(JC.none (i:=i3) (.inl ⟨h1,by assumption⟩)).1 h1
      ·exfalso;have:=JC.two (i:=i3) (.inr (.inl ⟨h1,hh⟩)) h1;rcases O7 with h9|⟨h9,_⟩
       ·exact IT h9
       ·rw[h9]at this;cases this
      ·omega
     rw[uI,Hj];simpa using FW
    obtain⟨j,w,rfl,hw,Oz⟩:=hK.at Zg;rw[Oz]at uI;obtain⟨b2,o2,q2,m2,d2,rfl,iq,_⟩:=Aa.at eB hw;have hjl:j<ny:=by have:=(List.getElem?_eq_some_iff.1 hw).1;omega
    have hinj:In (j:Int) (ny:Int):=by unfold In;omega
    have ld2:Ae σ4 b2 (o2+Int.toNat (j:Int)*2) [.slice q2 m2 d2,.U w.v]:=by simpa using iq.mono hX4
    have ldz:=ld1 σ4 hX4;have zy:Dy (σ4.del p8) p' n' (D0 n z.ls):=(Ha.mono BL.mono (Ext.AKU (BU.trans JK))).mono BL.mono (Qi.new ATA);refine Jv ⟨_,rfl,fun hc=>?_,fun hc=>⟨fun hb=>⟨By,z.v,ldz.2.1,b2,o2,rfl,hinj,w.v,ld2.2.1,Dc ⟨_,rfl,Tq ⟨_,rfl,fun U4 AZh=>?_⟩⟩⟩,fun hb=>⟨By,z.v,ldz.2.1,b2,o2,rfl,hinj,w.v,ld2.2.1,Dc ⟨_,rfl,fun ht=>⟨By,q1,m1,d1,z.v,ldz,fun U5 AZi=>?_⟩,fun hf=>next _ _ _ _ _ false rfl hb.symm ?_⟩⟩⟩⟩
    ·have nN:1≤n.op∧n.op≤4:=by
      unfold BN at hc;rw[AjW,Aik,Aik]at hc;omega
     refine⟨By,z.v,ldz.2.1,b2,o2,rfl,hinj,w.v,ld2.2.1,KZ nN ⟨_,rfl,fun U3 AZj=>?_⟩⟩;refine AL.eld FW zy (by omega) (fun p6 c6 σ5 KT _=>⟨_,_,_,rfl,next _ _ _ _ _ n.bool rfl rfl ?_⟩) AZj;rw[uI];simp only[AiL (Or.inl hc:BN n.op=false∨n.bool=true)];rw[show(A3 n.op z.v w.v).1=NL n.op z.v w.v by unfold A3;rw[AiL nN]];exact KT
    ·refine AL.eld FW zy (by omega) (fun p6 c6 σ5 KT _=>⟨_,_,_,rfl,next _ _ _ _ _ true rfl hb.symm ?_⟩) AZh;rw[uI];simp only[AiL (Or.inr hb:BN n.op=false∨n.bool=true)];rw[show(A3 n.op z.v w.v).1=if IA n.op z.v w.v then AV 1 else AV 0 by unfold A3;rw[AiK (by unfold BN at hc;simp only[AiS,AiW]at hc;omega)]];exact KT
    ·refine AL.Hu Aa.mono FW rfl (Aa.one _ _ _ (⟨q1,m1,d1,rfl,GZ⟩:Aa σ [.slice q1 m1 d1,.U z.v] z)) (x:=z) ⟨q1,m1,d1,rfl,GZ.mono BL.mono FW.2⟩ (by omega) (fun p6 c6 σ5 KT _=>⟨_,_,_,rfl,next _ _ _ _ _ false rfl hb.symm ?_⟩) AZi;rw[uI];dsimp only;rw[AiK (fun h5=>h5.elim (fun h5=>by rw[h5]at hc;cases hc) fun h5=>by rw[h5]at hb;cases hb),show(A3 n.op z.v w.v).2=IA n.op z.v w.v by unfold A3;rw[AiK (by unfold BN at hc;simp only[AiS,AiW]at hc;omega)],AiL ht];exact KT
    ·rw[uI];dsimp only;rw[AiK (fun h5=>h5.elim (fun h5=>by rw[h5]at hc;cases hc) fun h5=>by rw[h5]at hb;cases hb),show(A3 n.op z.v w.v).2=IA n.op z.v w.v by unfold A3;rw[AiK (by unfold BN at hc;simp only[AiS,AiW]at hc;omega)],AiK (by rw[hf];decide)];simpa using FW
   ·
    have IT:11≤n.op:=by rw[tR]at tt;exact AiP tt
    have ATC:=An.trans BU;have kJ:=hX.trans ATC;have DJ:=Qi.mono Aa.mono ATC;have next:∀p9 n9 c9 σ5,AL 2 Aa σ σ5 p9 n9 c9 ((x.es.take i).filterMap fa++(fa z).toList)→Ag.Ep R n.kind n.op n.text a k1 c1 n.width n.back n.BW e k2 c2 n.bool n.parts x.kind x.v (aD b o) nx cx x.w ey fB fC y.kind y.v py ny cy y.w fA fD fE 0 0 none 0 0 0 none 0 0 2 0 p9 n9 c9 0 none 0 0 true (i:Int) σ5:=fun p9 n9 c9 σ5 Sb=>by
     have:=ih (i+1) p9 n9 c9 σ5 true (by rw[Aia IT]) (by omega) (by omega) (.inl IT) (by rw[Cj hz];exact Sb);rw[show((i+1:Nat):Int)=(i:Int)+1 by omega]at this;exact Ag.oh ⟨by unfold AG;omega,this⟩
    have uI:fa z=if(decide (n.op=12)||((Hk n y.es (D0 n z.ls)).isSome==decide (n.op=11)))=true then some z else none:=by simp only[fa,AiL IT]
    have NI:fa z=some z→In (i:Int) (nx:Int)∧∃(pp:Option Addr) (nn cc:Nat) (vv:Int),Ae σ3 b (o+Int.toNat (i:Int)*2) [.slice pp nn cc,.U vv]∧∀bb,σ3 bb=none→∀{T Et ty:TypeId} {bs:Nat} [J6 prog T Et 2 bs],(n8+1)*bs≤140737488355328→AK prog (Builtin.append_ #[T,T] ty #[.slice p8 n8 c8,(.slice (aD bb 0) 1 1)]) (Hp.set σ3 bb (.cells #[.slice pp nn cc,.U vv] Et (0,0))) (CS fun Ni n106 Nj AU=>Ag.Ep R n.kind n.op n.text a k1 c1 n.width n.back n.BW e k2 c2 n.bool n.parts x.kind x.v (aD b o) nx cx x.w ey fB fC y.kind y.v py ny cy y.w fA fD fE 0 0 none 0 0 0 none 0 0 2 0 Ni n106 Nj 0 none 0 0 true (i:Int) AU):=fun hfa=>⟨By,q1,m1,d1,z.v,ld1 σ3 kJ,fun bb tQ T Et ty bs inst hbs=>
     AL.Hu Aa.mono DJ rfl (Aa.one _ _ _ (⟨q1,m1,d1,rfl,GZ⟩:Aa σ [.slice q1 m1 d1,.U z.v] z)) (x:=z) ⟨q1,m1,d1,rfl,GZ.mono BL.mono DJ.2⟩ hbs (fun p6 c6 σ5 KT _=>⟨_,_,_,rfl,next _ _ _ _ (by rw[hfa];exact KT)⟩) tQ⟩
    have some_:i3≠-1→(Hk n y.es (D0 n z.ls)).isSome=true:=fun Ah=>by
     cases hq:Hk n y.es (D0 n z.ls) with
     | none=>exact absurd (hK.none.2 hq) Ah
     | some w=>rfl
    have AGl:fa z=none→Ag.Ep R n.kind n.op n.text a k1 c1 n.width n.back n.BW e k2 c2 n.bool n.parts x.kind x.v (aD b o) nx cx x.w ey fB fC y.kind y.v py ny cy y.w fA fD fE 0 0 none 0 0 0 none 0 0 2 0 p8 n8 c8 0 none 0 0 true (i:Int) σ3:=fun hfa=>next _ _ _ _ (by rw[hfa];simpa using DJ)
    have kp:∀(hfa:fa z=some z),_:=NI;refine⟨fun J4=>?_,fun J4=>⟨fun AAa=>⟨fun Ah=>?_,fun heq=>⟨fun h13=>absurd h13 (by omega),fun _=>AGl ?_⟩⟩,fun AAa=>⟨fun h13=>⟨fun heq=>?_,fun Ah=>AGl ?_⟩,fun h13=>absurd ho.2 (by omega)⟩⟩⟩
    ·obtain⟨k0,pp,nn,cc,vv,k1',k2'⟩:=NI (by rw[uI,Aia J4];rfl);exact⟨k0,pp,nn,cc,vv,k1',fun bb tQ=>k2' bb tQ (by omega)⟩
    ·obtain⟨k0,pp,nn,cc,vv,k1',k2'⟩:=NI (by rw[uI,some_ Ah,Aia AAa,AiZ J4];rfl);exact⟨k0,pp,nn,cc,vv,k1',fun bb tQ=>k2' bb tQ (by omega)⟩
    ·rw[uI,hK.none.1 (Aig.1 heq),Aia AAa,AiZ J4];rfl
    ·obtain⟨k0,pp,nn,cc,vv,k1',k2'⟩:=NI (by rw[uI,hK.none.1 heq,AiZ AAa,AiZ J4];rfl);exact⟨k0,pp,nn,cc,vv,k1',fun bb tQ=>k2' bb tQ (by omega)⟩
    ·rw[uI,some_ Ah,AiZ AAa,AiZ J4];rfl
 suffices H:∀g i:Nat,∀(σ':Hp) (t9:Bool),t9=decide (11≤n.op)→ny-i=g→i≤ny→Ext σ σ'→(11≤n.op∨∀z∈y.es.take i,∃i',JC n y.es (D0 n z.ls) i'∧i'≠-2)→Ag.Jh R n.kind n.op n.text a k1 c1 n.width n.back n.BW e k2 c2 n.bool n.parts x.kind x.v px nx cx x.w ey fB fC y.kind y.v py ny cy y.w fA fD fE 0 0 none 0 0 0 none 0 0 2 0 none 0 0 0 none 0 0 t9 (i:Int) σ' from H ny 0 σ _ rfl rfl (AiR _) (.refl _) (.inr fun z hz=>by rw[Aj7]at hz;cases hz)
 intro g
 induction g with
 | zero=>
  intro i σ' t9 tR hg hi hx O7;rw[AiQ (by omega)]at O7;exact Ag.HJ ⟨fun hh=>by omega,fun _=>second nx 0 none 0 0 σ' t9 tR rfl (AiR _) (O7.imp id fun hh=>⟨JC.all hh,fun z hz=>by rw[Aj7]at hz;cases hz⟩) (AL.nil hx)⟩
 | succ g ih=>
  intro i σ' t9 tR hg hi hx O7;have BF:i<ny:=by omega
  have ei:((i+1:Nat):Int)=(i:Int)+1:=by omega
  refine Ag.HJ ⟨fun _=>⟨fun tf=>?_,fun tt=>⟨by unfold AG;omega,?_⟩⟩,fun hh=>by omega⟩
  ·have IT:¬11≤n.op:=by rw[tR]at tf;exact Aio tf
   obtain⟨z,hz⟩:=eB.ex BF;obtain⟨b,o,q1,m1,d1,rfl,CF,GZ⟩:=Aa.at eB hz;have J2:=ZF z (AiM hz);have By:In (i:Int) (ny:Int):=by unfold In;omega
   have ld1:Ae σ' b (o+Int.toNat (i:Int)*2) [.slice q1 m1 d1,.U z.v]:=by simpa using CF.mono hx
   refine⟨b,o,rfl,By,q1,m1,d1,ld1.1,Ph (GZ.mono BL.mono hx) (by have h3:z.ls.length=m1:=GZ.1;have:=J2.1;omega) (hN.mono hx).nm hN.m hN.g fun p' n' c' σ2 Ha An=>⟨_,_,_,rfl,Kb (hN.mono (hx.trans An)) (eB.mono Aa.mono (hx.trans An)) (Ha.mono BL.mono (Ext.B9 _ _)) ZF fun i3 σ3 BU hK=>⟨_,rfl,fun sP=>AS9 IT (.inr (hK.two sP)) σ3 none 0 0 [] (hx.trans (An.trans BU)) AT.nil (AiV _) (by decide),fun sP=>⟨by unfold AG;omega,?_⟩⟩⟩⟩;have:=ih (i+1) σ3 false (by rw[AiZ IT]) (by omega) (by omega) (hx.trans (An.trans BU)) (O7.imp id fun hh w hw=>by
    rw[AQ hz]at hw;rcases List.mem_append.1 hw with hw|hw
    ·exact hh w hw
    ·rw[AiY.1 hw];exact⟨i3,hK,sP⟩)
   rw[ei]at this;exact this
  ·have IT:11≤n.op:=by rw[tR]at tt;exact AiP tt
   have:=ih (i+1) σ' true (by rw[Aia IT]) (by omega) (by omega) hx (.inl IT);rw[ei]at this;exact this
end
structure AZk (R:Rr)(σ:Hp)(o:Option RP):Prop where
 ok:∀d,o=some d→∀σ' p n c q m e,Ext σ σ'→AT 2 Aa σ' p n d.es→AT 2 KV σ' q m d.rs→n≤c→R (.T #[Y0 d.kind d.v p n c d.w q m e,.bool true]) σ'
 no:o=none→∀σ' p n c (l:List El),Ext σ σ'→AT 2 Aa σ' p n l→n≤c→n≤100000000000→R (.T #[Y0 2 0 p n c 0 none 0 0,.bool false]) σ'
def eE (n:Nd)(x y:RP):Option RP:=
 if x.kind=1∧y.kind=1 then some ⟨1,(A3 n.op x.v y.v).1,[],0,[]⟩
 else(if x.kind=1 then some (JL n y.es (A3 n.op x.v)) else if y.kind=1 then some (JL n x.es fun v=>A3 n.op v y.v) else if 11≤n.op then some (Io n x.es y.es) else Hl FF n x.es y.es).map fun l=>⟨2,0,l,0,[]⟩
section
variable {σ:Hp}{R:Rr}
theorem tS {n:Nd}{a e:Option Addr}{k1 c1 k2 c2:Nat}{x y:RP}{px ey py fA:Option Addr}{nx cx fB fC ny cy fD fE:Nat}(hN:NdB σ n e k2)(Bc:AT 2 Aa σ px nx x.es)(eB:AT 2 Aa σ py ny y.es)(ho:1≤n.op∧n.op≤13)(hsc:n.op≤10∨x.kind≠1∧y.kind≠1)(bF:∀z∈x.es,Af z.ls)(ZF:∀z∈y.es,Af z.ls)(NQ:x.es.length≤100000000000)(SC:y.es.length≤100000000000)(hkx:x.kind=1→x.es=[])(hky:y.kind=1→y.es=[])
  (h:AZk R σ (eE n x y)) :
  Spec prog 72 #[KD n a k1 c1 e k2 c2,Y0 x.kind x.v px nx cx x.w ey fB fC,Y0 y.kind y.v py ny cy y.w fA fD fE] σ R:=by
 have both:x.kind=1→y.kind=1→∀v,v=(A3 n.op x.v y.v).1→R (.T #[.agg #[.I 1,.U v,.N,.I 0,.N],.bool true]) σ:=fun h1 h2 v hv=>by
  subst hv;exact h.ok ⟨1,(A3 n.op x.v y.v).1,[],0,[]⟩ (AiL ⟨h1,h2⟩) σ none 0 0 none 0 0 (.refl _) AT.nil AT.nil (AiV _)
 have Mo:(x.kind=1∧y.kind≠1∨x.kind≠1∧y.kind=1)→Spec prog 116 #[KD n a k1 c1 e k2 c2,Y0 x.kind x.v px nx cx x.w ey fB fC,Y0 y.kind y.v py ny cy y.w fA fD fE] σ (BB R (fun z AB=>∃EV EW EX EY EZ Ea Eb Ec Ed,z=(.agg #[.I EV,.U EW,.slice EX EY EZ,.I Ea,.slice Eb Ec Ed])∧R (.T #[.agg #[.I EV,.U EW,.slice EX EY EZ,.I Ea,.slice Eb Ec Ed],.bool true]) AB)):=fun hk=>by
  refine eC Bc eB ⟨ho.1,by omega⟩ bF ZF NQ SC (hk.imp (fun hh=>⟨hh.1,hkx hh.1⟩) fun hh=>⟨hh.1,hh.2,hky hh.2⟩) fun σ' p n' c q m d KU h1 h2 h3=>⟨_,_,_,_,_,_,_,_,_,rfl,h.ok ⟨2,0,_,0,[]⟩ ?_ σ' p n' c q m d KU h1 h2 h3⟩;unfold eE;rw[AiK (by omega)];by_cases h9:x.kind=1
  ·rw[AiL h9,AiL h9];rfl
  ·rw[AiK h9,AiK h9,AiL (by omega)];rfl
 have dbl:x.kind≠1→y.kind≠1→Spec prog 117 #[KD n a k1 c1 e k2 c2,Y0 x.kind x.v px nx cx x.w ey fB fC,Y0 y.kind y.v py ny cy y.w fA fD fE] σ (BB R (fun z AB=>∃Gt Gu Gv Gw Gx Gy Gz G0 G1 Lj,z=(.tuple #[.agg #[.I Gt,.U Gu,.slice Gv Gw Gx,.I Gy,.slice Gz G0 G1],.bool Lj])∧R (.T #[.agg #[.I Gt,.U Gu,.slice Gv Gw Gx,.I Gy,.slice Gz G0 G1],.bool Lj]) AB)):=fun h1 h2=>by
  have e1:eE n x y=(if 11≤n.op then some (Io n x.es y.es) else Hl FF n x.es y.es).map fun l=>⟨2,0,l,0,[]⟩:=by
   unfold eE;rw[AiK (by omega),AiK h1,AiK h2]
  rw[e1]at h;refine eD hN Bc eB ho bF ZF NQ SC ⟨fun l hl σ' p n' c KU hr hc=>⟨_,_,_,_,_,_,_,_,_,_,rfl,h.ok ⟨2,0,l,0,[]⟩ (by rw[hl];rfl) σ' p n' c none 0 0 KU hr AT.nil hc⟩,fun hl σ' p n' c l KU hr hc hn=>⟨_,_,_,_,_,_,_,_,_,_,rfl,h.no (by rw[hl];rfl) σ' p n' c l KU hr hc hn⟩⟩
 have AZl:BN n.op=true→(A3 n.op x.v y.v).1=if IA n.op x.v y.v then AV 1 else AV 0:=fun hc=>by
  unfold A3;rw[AiK (by unfold BN at hc;simp only[AiS,AiW]at hc;omega)]
 refine aj.start fun _ _ _ _=>⟨fun hx=>⟨fun hy=>Jv ⟨_,rfl,fun hc=>Dc ⟨_,rfl,Tq ⟨_,rfl,both hx hy _ (AZl hc).symm⟩⟩,fun hc=>⟨fun _=>⟨fun _=>?_,fun hh=>absurd hy hh⟩,fun hh=>absurd hx hh⟩⟩,fun hy=>⟨fun _=>⟨fun hh=>absurd hh hy,fun _=>⟨fun _=>Mo (.inl ⟨hx,hy⟩),fun hh=>absurd hx hh⟩⟩,fun hh=>absurd hx hh⟩⟩,fun hx=>⟨fun hh=>absurd hh hx,fun _=>⟨fun hh=>absurd hh hx,fun _=>⟨fun hy=>Mo (.inr ⟨hx,hy⟩),fun hy=>dbl hx hy⟩⟩⟩⟩;have nN:1≤n.op∧n.op≤4:=by
  unfold BN at hc;rw[AjW,Aik,Aik]at hc;omega
 exact KZ nN ⟨_,rfl,both hx hy _ (by unfold A3;rw[AiL nN])⟩
end
structure Dr (v:Vv)(d:RP):Prop where
 k:d.kind=v.kind
 es:d.es=v.vec
 rs:d.rs=v.RV
 v1:v.kind=1→d.v=v.v
 w3:v.kind=3→AV d.w=v.v
structure nO (o:Option Vv)(r:Option RP):Prop where
 no:r=none→o=none
 yes:∀d,r=some d→(∀l,Co FF d.es=some l→∃z,o=some z∧Dr z ⟨d.kind,d.v,l,d.w,d.rs⟩)∧(Co FF d.es=none→o=none)
def RI (ss:List Sr)(t:Int)(n:Nd)(L:List RP):Option RP:=
 if n.kind=1 then some ⟨1,RB n.text,[],0,[]⟩
 else if n.kind=2 then some ⟨2,0,HV FF n ss t,0,[]⟩
 else if n.kind=3 then some ⟨3,0,[],n.width,Ol FF n ss t⟩
 else match L with
  | [x]=>if n.kind=4 then some ⟨2,0,JB FF n ⟨x.kind,AV x.w,x.es,x.rs⟩,0,[]⟩ else if n.kind=5 then some ⟨2,0,Mp FF n ⟨2,0,x.es,[]⟩,0,[]⟩ else if n.kind=7 then some (if x.kind=1 then⟨1,Ot x.v,[],0,[]⟩ else⟨2,0,x.es.map fun y=>⟨Bd y.ls,Ot y.v⟩,0,[]⟩) else none
  | [x,y]=>if n.kind=6 then eE n x y else none
  | _=>none
theorem ADt:Co FF []=some []:=Pa rfl (.refl _) .nil
theorem eF {v:Int}{o:Option Vv}(h:o=some ⟨1,v,[],[]⟩):nO o (some ⟨1,v,[],0,[]⟩):=⟨fun hh=>(by cases hh),fun d hd=>by
 cases hd;refine⟨fun l hl=>⟨_,h,?_⟩,fun hl=>absurd (ADt.symm.trans hl) (by simp)⟩;have UK:Co FF []=some l:=hl;rw[ADt]at UK;cases UK;exact⟨rfl,rfl,rfl,fun _=>rfl,fun hh=>absurd (show(1:Int)=3 from hh) (by decide)⟩⟩
theorem Kc {l0:List El}{o:Option Vv}(h:o=(Co FF l0).map fun l=>⟨2,0,l,[]⟩):nO o (some ⟨2,0,l0,0,[]⟩):=⟨fun hh=>(by cases hh),fun d hd=>by
 cases hd;refine⟨fun l hl=>⟨⟨2,0,l,[]⟩,?_,rfl,rfl,rfl,fun hh=>absurd (show(2:Int)=1 from hh) (by decide),fun hh=>absurd (show(2:Int)=3 from hh) (by decide)⟩,fun hl=>?_⟩
 ·rw[h,show Co FF l0=some l from hl];rfl
 ·rw[h,show Co FF l0=none from hl];rfl⟩
theorem ADu {n:Nd}{x y:Vv}{a b:RP}(hx:Dr x a)(hy:Dr y b)(ho:n.op≤13):nO (Zj FF n x y) (eE n a b):=by
 unfold Zj eE;rw[hx.k,hy.k,hx.es,hy.es];by_cases J4:x.kind=1∧y.kind=1
 ·rw[AiL J4,AiL J4,hx.v1 J4.1,hy.v1 J4.2];exact eF rfl
 rw[AiK J4,AiK J4];by_cases h1:x.kind=1
 ·rw[AiL h1,AiL h1,hx.v1 h1];exact Kc rfl
 rw[AiK h1,AiK h1];by_cases h2:y.kind=1
 ·rw[AiL h2,AiL h2,hy.v1 h2];exact Kc rfl
 rw[AiK h2,AiK h2];by_cases IT:11≤n.op
 ·rw[AiL ⟨IT,ho⟩,AiL IT];exact Kc rfl
 rw[AiK (fun hh=>IT hh.1),AiK IT];cases hq:Hl FF n x.vec y.vec with
 | none=>exact⟨fun _=>rfl,fun d hd=>(by cases hd)⟩
 | some w=>exact Kc rfl
theorem AKV {ss:List Sr}{t:Int}{n:Nd}{L:List Vv}{M:List RP}(hs:D1 none ss=true)(hl:M.length=L.length)(hD:∀(i:Nat) (v:Vv) (d:RP),L[i]?=some v→M[i]?=some d→Dr v d)(hV:∀x∈L,VG x)(ho:n.kind=6→n.op≤13):nO (Ez FF ss t n L) (RI ss t n M):=by
 unfold Ez RI;by_cases h1:n.kind=1
 ·rw[AiL h1,AiL h1];exact eF rfl
 rw[AiK h1,AiK h1];by_cases h2:n.kind=2
 ·rw[AiL h2,AiL h2];refine Kc ?_;rw[show Co FF (HV FF n ss t)=some (HV FF n ss t) from Pa rfl (.refl _) (bL hs).up];rfl
 rw[AiK h2,AiK h2];by_cases h3:n.kind=3
 ·rw[AiL h3,AiL h3];refine⟨fun hh=>(by cases hh),fun d hd=>?_⟩;cases hd;refine⟨fun l hl=>⟨_,rfl,?_⟩,fun hl=>absurd (ADt.symm.trans hl) (by simp)⟩;have UK:Co FF []=some l:=hl;rw[ADt]at UK;cases UK;exact⟨rfl,rfl,rfl,fun hh=>absurd (show(3:Int)=1 from hh) (by decide),fun _=>rfl⟩
 rw[AiK h3,AiK h3]
 match L,M,hl with
 | [x],[a],_=>
  have hx:=hD 0 x a rfl rfl;have sx:=(hV x (by simp)).sh;unfold Sh at sx;dsimp only;by_cases h4:n.kind=4
  ·rw[AiL h4,AiL h4];have e:JB FF n ⟨a.kind,AV a.w,a.es,a.rs⟩=JB FF n x:=by
    unfold JB;rw[hx.es,hx.rs];rcases sx with ⟨_,_,h9⟩|⟨_,h9⟩|⟨h9,_⟩
    ·rw[h9];rfl
    ·rw[h9];rfl
    ·rw[hx.w3 h9]
   rw[e];exact Kc rfl
  rw[AiK h4,AiK h4];by_cases h5:n.kind=5
  ·rw[AiL h5,AiL h5];have e:Mp FF n ⟨2,0,a.es,[]⟩=Mp FF n x:=by unfold Mp;rw[hx.es]
   rw[e];exact Kc rfl
  rw[AiK h5,AiK h5];by_cases h7:n.kind=7
  ·rw[AiL h7,AiL h7];unfold iY;rw[hx.k];by_cases hk:x.kind=1
   ·rw[AiL hk,AiL hk,hx.v1 hk];exact eF rfl
   ·rw[AiK hk,AiK hk,hx.es];exact Kc rfl
  ·rw[AiK h7,AiK h7];exact⟨fun _=>rfl,fun d hd=>(by cases hd)⟩
 | [x,y],[a,b],_=>
  dsimp only;by_cases h6:n.kind=6
  ·rw[AiL h6,AiL h6];exact ADu (hD 0 x a rfl rfl) (hD 1 y b rfl rfl) (ho h6)
  ·rw[AiK h6,AiK h6];exact⟨fun _=>rfl,fun d hd=>(by cases hd)⟩
 | [],[],_=>exact⟨fun _=>rfl,fun d hd=>(by cases hd)⟩
 | _::_::_::_,_::_::_::_,_=>exact⟨fun _=>rfl,fun d hd=>(by cases hd)⟩
theorem AGm:Iu 0:=by unfold Iu;omega
theorem Y7 {l m:List El}(h:Co FF l=some m)(hl:∀e∈l,Iu e.v):uG ⟨2,0,m,[]⟩:=⟨AGm,fun e he=>hl e ((Lx h).mem_iff.1 he),fun r hr=>(by cases hr)⟩
theorem AAb {v:Int}(h:Iu v):uG ⟨1,v,[],[]⟩:=⟨h,fun e he=>(by cases he),fun r hr=>(by cases hr)⟩
theorem qV {ls:List Lb}{v:Int}:∀{l:List Rg} {g:Rg},g∈D6 ls v l→∀x∈g.vs,x=v∨∃y∈l,x∈y.vs
 | [],g,h,x,hx=>by
  unfold D6 at h;rw[AiY]at h;rw[h]at hx;exact .inl (by simpa using hx)
 | y::l,g,h,x,hx=>by
  unfold D6 at h;split at h
  ·rcases AiT.1 h with rfl|h
   ·rcases List.mem_append.1 hx with hx|hx
    ·exact .inr ⟨y,by simp,hx⟩
    ·exact .inl (by simpa using hx)
   ·exact .inr ⟨g,AiX _ h,hx⟩
  ·rcases AiT.1 h with rfl|h
   ·exact .inr ⟨g,by simp,hx⟩
   ·rcases qV h x hx with h|⟨z,hz,h⟩
    ·exact .inl h
    ·exact .inr ⟨z,AiX _ hz,h⟩
theorem jl {n:Nd}:∀(l:List El) (gs:List Rg),(∀e∈l,Iu e.v)→(∀g∈gs,∀x∈g.vs,Iu x)→∀g∈l.foldl (fun gs x=>D6 (Bs n x.ls) x.v gs) gs,∀x∈g.vs,Iu x
 | [],gs,_,h=>h
 | x::l,gs,hl,h=>by
  refine jl l _ (fun e he=>hl e (AiX _ he)) fun g hg z hz=>?_;rcases qV hg z hz with h1|⟨y,hy,h1⟩
  ·rw[h1];exact hl x (by simp)
  ·exact h y hy z h1
theorem AGn {n:Nd}{l:List El}{f:Int→Int×Bool}(hl:∀e∈l,Iu e.v)(hf:∀v,Iu (f v).1):∀e∈JL n l f,Iu e.v:=fun e he=>by
 obtain⟨y,hy,h1⟩:=List.mem_filterMap.1 he;split at h1
 ·simp only[AiO]at h1;subst h1;exact hf _
 ·split at h1
  ·simp only[AiO]at h1;subst h1;exact hl y hy
  ·cases h1
theorem ATF {n:Nd}{x y v:Vv}(hx:uG x)(hy:uG y)(h:Zj FF n x y=some v):uG v:=by
 unfold Zj at h;split at h
 ·cases h;exact AAb (V5 _ _ _)
 ·obtain⟨m,hm,rfl⟩:=map_some h;split at hm
  ·exact Y7 (show Co FF (JL n y.vec (FF.Mo n.op x.v))=some m from hm) (AGn hy.es fun v=>V5 _ _ _)
  ·split at hm
   ·exact Y7 (show Co FF (JL n x.vec fun v=>FF.Mo n.op v y.v)=some m from hm) (AGn hx.es fun v=>V5 _ _ _)
   ·split at hm
    ·refine Y7 (show Co FF (Io n x.vec y.vec)=some m from hm) fun e he=>?_;unfold Io at he;rcases List.mem_append.1 he with he|he
     ·exact hx.es e (List.mem_filter.1 he).1
     ·exact hy.es e (List.mem_filter.1 he).1
    ·cases hq:Hl FF n x.vec y.vec with
     | none=>rw[hq]at hm;cases hm
     | some w=>
      rw[hq]at hm;refine Y7 (show Co FF w=some m from hm) ?_;unfold Hl at hq;split at hq
      ·simp only[AiO]at hq;subst hq;intro e he;obtain⟨z,hz,h1⟩:=List.mem_filterMap.1 he;split at h1
       ·cases h1
       ·split at h1
        ·simp only[AiO]at h1;subst h1;exact V5 _ _ _
        ·split at h1
         ·simp only[AiO]at h1;subst h1;exact hx.es z hz
         ·cases h1
      ·cases hq
theorem AKW {ss:List Sr}{n:Nd}{t:Int}{L:List Vv}{v:Vv}(hs:∀s∈ss,∀p∈s.ps,Iu p.2)(hV:∀x∈L,uG x)(h:Ez FF ss t n L=some v):uG v:=by
 unfold Ez at h;split at h
 ·cases h;exact AAb (AKH _)
 split at h
 ·cases h;refine⟨AGm,fun e he=>?_,fun r hr=>(by cases hr)⟩;obtain⟨s,Im,Tu⟩:=List.mem_filterMap.1 he;split at Tu
  ·cases Tu
  ·rename_i p Oz;split at Tu
   ·cases Tu
   ·simp only[AiO]at Tu;subst Tu;exact hs s Im p (List.mem_filter.1 (Aj3 Oz)).1
 split at h
 ·cases h;refine⟨SY _,fun e he=>(by cases he),fun r hr x hx=>?_⟩;obtain⟨s,Im,h1⟩:=List.mem_filterMap.1 hr;dsimp only at h1;generalize hb:(!_&&FF.dK n.mt s.ls)=b at h1;cases b with
  | false=>cases h1
  | true=>
   simp only[cond_true,AiO]at h1;subst h1;obtain⟨p,hp,rfl⟩:=List.mem_map.1 hx;exact hs s Im p (List.mem_filter.1 (List.mem_filter.1 hp).1).1
 match L with
 | [x]=>
  have hx:=hV x (by simp);dsimp only at h;split at h
  ·obtain⟨m,hm,rfl⟩:=map_some h;refine Y7 hm fun e he=>?_;rcases List.mem_append.1 he with he|he
   ·obtain⟨y,hy,rfl⟩:=List.mem_map.1 he;show Iu (if n.op=11 then P5 y.v else HY y.v)
    split
    ·exact AKG _
    ·exact AAS _
   ·obtain⟨y,hy,h1⟩:=List.mem_filterMap.1 he;have h2:(Ee n.op y.vs x.v).map (fun v=>(⟨Bd y.ls,v⟩:El))=some e:=h1;cases ho:Ee n.op y.vs x.v with
    | none=>rw[ho]at h2;cases h2
    | some z=>
     rw[ho]at h2;simp only[Aiv,AiO]at h2;subst h2;exact ADd (hx.rs y hy) ho
  split at h
  ·obtain⟨m,hm,rfl⟩:=map_some h;refine Y7 hm fun e he=>?_;obtain⟨g,hg,rfl⟩:=List.mem_map.1 he;exact AAR (jl (n:=n) x.vec [] hx.es (fun g hg=>by cases hg) g hg)
  split at h
  ·unfold iY at h;split at h
   ·cases h;exact AAb (qG _)
   ·obtain⟨m,hm,rfl⟩:=map_some h;refine Y7 hm fun e he=>?_;obtain⟨y,hy,rfl⟩:=List.mem_map.1 he;exact qG _
  ·cases h
 | [x,y]=>
  dsimp only at h;split at h
  ·exact ATF (hV x (by simp)) (hV y (by simp)) h
  ·cases h
 | []=>cases h
 | _::_::_::_=>cases h
theorem nP {x m:Nat}{s:Bool}{i:Int}(h:Ieee.double.read x=.number s m i):m<9007199254740992:=by
 have e1:Ieee.double.signWeight=9223372036854775808:=by kernel_rfl
 have e2:Ieee.double.binade=4503599627370496:=by kernel_rfl
 have e3:Ieee.double.infRung=9218868437227405312:=by kernel_rfl
 unfold Ieee.Format.read at h;simp only[e1,e2,e3]at h;split at h
 ·injection h with h1 h2 h3
  omega
 ·split at h
  ·injection h with h1 h2 h3
   omega
  ·split at h
   ·cases h
   ·cases h
theorem AAc {x m:Nat}{s:Bool}{i:Int}(hx:x<18446744073709551616)(hd:Ieee.double.read x=.number s m i):Ieee.double.div x 4607182418800017408=some x:=by
 have h1:Ieee.double.read 4607182418800017408=.number false 4503599627370496 (-52):=by kernel_rfl
 have hw:=mj hx (by rw[hd];rfl);have hm:=nP hd;have hl:m.log2≤52:=by
  by_cases h0:m=0
  ·subst h0;decide
  ·have:=(Nat.log2_lt h0 (k:=53)).2 (by omega);omega
 rw[hd]at hw;unfold Ieee.Format.div;rw[hd,h1];simp only[Ieee.Datum.quotient];rw[AiK (by decide),show(4503599627370496:Nat).log2=52 by kernel_rfl,show Ieee.double.fractionBits=52 by kernel_rfl];obtain⟨k,hk⟩:∃k,52+2+52-m.log2=52+k:=⟨54-m.log2,by omega⟩;have e:m <<< (52+k)=m*2^k*4503599627370496:=by
  rw[Nat.shiftLeft_eq,AkJ,show(2:Nat)^52=4503599627370496 by decide,Nat.mul_comm 4503599627370496,Nat.mul_assoc]
 rw[hk,e,Nat.mul_div_cancel _ (by decide),Nat.mul_mod_left,Bool.xor_false,Aiv];simp only[Ieee.Format.write]at hw ⊢;rw[show(2*(m*2^k)+((0:Nat) != 0).toNat)=m*2^(k+1) by show 2*(m*2^k)+0=_;rw[AjH,Nat.pow_succ,Nat.mul_comm 2,Nat.mul_assoc],show(i - -52-((52+k:Nat):Int)-1)=i-((k+1:Nat):Int) by omega,Zo,hw]
theorem tT {m:Nat}(hm:m<1000000000000000):∃s k i,Ieee.double.read (FloatKind.f64.nearest (m:Int))=.number s k i:=by
 obtain⟨k,hk⟩:=AC7 (n:=(m:Int)) (by omega);exact⟨_,_,_,hk⟩
theorem ADv {m:Nat}(hm:m<1000000000000000):FloatKind.f64.nearest (m:Int)<18446744073709551616:=by
 have:FloatKind.f64.nearest (m:Int)=Ieee.double.write (.number (decide ((m:Int)<0)) (m:Int).natAbs 0):=rfl;rw[this];exact write_lt _
theorem AAd {m:Nat}(hm:m<1000000000000000):RO 4 (FloatKind.f64.nearest (m:Int)) (FloatKind.f64.nearest ((10^0:Nat):Int))=toF (FloatKind.f64.nearest (m:Int)):=by
 obtain⟨s,k,i,h⟩:=tT hm;have e:FloatKind.f64.nearest ((10^0:Nat):Int)=4607182418800017408:=by kernel_rfl
 rw[e];unfold RO;rw[show fAr 4 (FloatKind.f64.nearest (m:Int)) 4607182418800017408=Ieee.double.div (FloatKind.f64.nearest (m:Int)) 4607182418800017408 from rfl,AAc (ADv hm) h];rfl
theorem AAe:((List.range 16).all fun c=>RO 4 (FloatKind.f64.nearest ((0:Nat):Int)) (FloatKind.f64.nearest ((10^c:Nat):Int))==toF 0)=true:=by kernel_rfl
theorem ADw:((List.range 16).all fun c=>FloatKind.f64.nearest ((10^c:Nat):Int)==SG.getD c 0)=true:=by kernel_rfl
theorem ADx {s:ByteArray}(ht:E4 s=true){c:Nat}(hc:c≤15)(he:(Ga s).m≠0→SH (Ga s)=-(c:Int)):((RO 4 (FloatKind.f64.nearest ((Ga s).m:Int)) (FloatKind.f64.nearest ((10^c:Nat):Int)):Nat):Int)=RB s:=by
 have hm:=(pV ht).2.2;unfold RB;dsimp only;by_cases h0:(Ga s).m=0
 ·rw[AiL h0,h0];have:=List.all_eq_true.1 AAe c (List.mem_range.2 (by omega));rw[Aja]at this;rw[this]
 ·rw[AiK h0,he h0];by_cases hc0:c=0
  ·subst hc0;rw[AiL (by decide),AAd hm]
  ·rw[AiK (by omega),show(- -(c:Int)).toNat=c by omega];have:=List.all_eq_true.1 ADw c (List.mem_range.2 (by omega));rw[Aja]at this;rw[this]
section
variable {σ:Hp}{R:Rr}
theorem Sc {u:UInt8}(h:R (.returned (.bool (D7 u))) σ):Spec prog 138 #[.int .u8 ((u.toNat:Nat):Int)] σ R:=by
 refine UR.start ⟨fun h1=>?_,fun h1=>?_⟩
 ·rw[show decide ((((u.toNat:Nat):Int))≤57)=D7 u from Ai9.2 ⟨fun g=>⟨by omega,by omega⟩,fun g=>by have:=g.2;omega⟩];exact h
 ·rw[show D7 u=false from AiZ fun g=>h1 (by have:=g.1;omega)]at h;exact h
def I5 (s:ByteArray):Bool:=s.data.toList.all D7&&decide (s.size≠0)&&(decide (s.size=1)||decide (s.data[0]?≠some 48))
theorem eG {s:ByteArray}(hb:s.size≤4611686018427387904)(h:R (.returned (.bool (I5 s))) σ):Spec prog 137 #[.string s] σ R:=by
 have hlen:s.data.toList.length=s.size:=AjA (xs:=s.data);refine IZ.start ?_
 suffices H:∀g k:Nat,s.size-k=g→k≤s.size→(∀u∈s.data.toList.take k,D7 u=true)→IZ.Fm R s (k:Int) σ from H s.size 0 rfl (AiR _) (fun u hu=>by rw[Aj7]at hu;cases hu)
 intro g
 induction g with
 | zero=>
  intro k hg hk GJ;rw[AiQ (by omega)]at GJ;have ha:s.data.toList.all D7=true:=List.all_eq_true.2 GJ;refine IZ.As ⟨fun hh=>by omega,fun _=>⟨fun he=>?_,fun he=>?_⟩⟩
  ·have h0:s.size≠0:=by rw[aq]at he;exact Aio he
   refine⟨fun h1=>?_,fun h1=>?_⟩
   ·rw[show I5 s=true by unfold I5;rw[ha,Aia h0,Aia (by omega)];rfl]at h;exact h
   ·obtain⟨u,hu,_⟩:=byte_at (show 0<s.size by omega);refine⟨u,by omega,by simpa using hu,?_⟩;have I9:=I3 (u:=u) (k:=48) (by decide);rw[show I5 s=decide ((((u.toNat:Nat):Int))≠48) by
     unfold I5;rw[ha,Aia h0,AiZ (by omega),AjR,AjR,Bool.false_or,hu];exact Ai9.2 ⟨fun g e=>g (by rw[I9.1 e];rfl),fun g e=>g (I9.2 (by simpa using e))⟩]at h
    exact h
  ·have h0:s.size=0:=by rw[aq]at he;exact AiP he
   rw[show I5 s=false by unfold I5;rw[AiZ (fun hh=>hh h0),Ajl,AjN]]at h;exact h
 | succ g ih=>
  intro k hg hk GJ;obtain⟨u,hu,EG⟩:=byte_at (show k<s.size by omega);refine IZ.As ⟨fun _=>⟨u,by omega,by simpa using hu,Sc ⟨_,rfl,fun hf=>?_,fun ht=>⟨AJ (by omega:k<s.size) hb,?_⟩⟩⟩,fun hh=>by omega⟩
  ·rw[show I5 s=false by
    unfold I5;have e1:s.data.toList.all D7=false:=by
     rw[AjU];intro e;rw[List.all_eq_true]at e;rw[e u (AiM EG)]at hf;cases hf
    rw[e1,AjN,AjN]]at h
   exact h
  ·have:=ih (k+1) (by omega) (by omega) fun v hv=>by
    rw[AQ EG]at hv;rcases List.mem_append.1 hv with hv|hv
    ·exact GJ v hv
    ·rw[AiY.1 hv];exact ht
   rw[show((k+1:Nat):Int)=(k:Int)+1 by omega]at this;exact this
theorem Qj {s:ByteArray}(hb:s.size≤4611686018427387904)(h:R (.returned (.bool (E4 s))) σ):Spec prog 85 #[.string s] σ R:=by
 have hlen:s.data.toList.length=s.size:=AjA (xs:=s.data);have d46:D7 46=false:=by decide
 have hle:=My s;refine CD.start ⟨by unfold AG;omega,?_⟩;have fin:∀k:Nat,k≤s.size→(∀u,s.data.toList[k]?=some u→u=46)→(∀j u,j<k→s.data.toList[j]?=some u→u≠46)→CD.Ab R s (k:Int) (-1) σ:=fun k hk AKX hbe=>by
  refine CD.AO ⟨fun hh=>by omega,fun _=>⟨s.extract 0 k,yu hk,eG (by rw[Ai5];omega) ⟨_,rfl,fun hw=>?_,fun hw=>?_⟩⟩⟩
  ·have Cg:E4 s=false:=by
    rw[AjU];intro ht;obtain⟨g1,g2⟩:AS s≠0∧¬(1<AS s∧s.data[0]?=some 48):=by
     unfold E4 at ht;refine⟨fun e=>(by rw[AiL e]at ht;cases ht),fun e=>?_⟩;by_cases h0:AS s=0
     ·rw[AiL h0]at ht;cases ht
     ·rw[AiK h0,AiL e]at ht;cases ht
    have hT:s.data.toList.takeWhile D7=s.data.toList.take (AS s):=by
     unfold AS;exact(List.prefix_iff_eq_take.1 (AkP _))
    have RC:∀u∈s.data.toList.take (AS s),D7 u=true:=fun u hu=>by rw[←hT]at hu;exact Yf hu
    have hdk:AS s=k:=by
     rcases AkK (AS s) k with Aq|he|hgt
     ·obtain⟨u,hu,EG⟩:=byte_at (show AS s<s.size by omega);unfold E4 at ht;rw[AiK g1,AiK g2,AiK (by omega),hu]at ht;have:=(AiP ht).1;exact absurd (by simpa using this) (hbe _ u Aq EG)
     ·exact he
     ·obtain⟨u,hu,EG⟩:=byte_at (show k<s.size by omega);have h1:=AKX u EG;have h2:=RC u (AiM (i:=k) (by rw[Ail,AiL hgt];exact EG));rw[h1,d46]at h2;cases h2
    subst hdk;have J2:(s.extract 0 (AS s)).size=AS s:=by rw[Ai5];omega
    have hW:I5 (s.extract 0 (AS s))=true:=by
     unfold I5;rw[Jz,AkO,Nat.sub_zero,List.all_eq_true.2 RC,J2,Aia g1,AjR,AjR,Ajf];by_cases h1:AS s=1
     ·exact .inl (Aia h1)
     ·refine .inr (Aia fun e=>g2 ⟨by omega,?_⟩);rw[AjZ,AkH]at e;split at e
      ·simpa using e
      ·cases e
    rw[hW]at hw;cases hw
   rw[Cg]at h;exact h
  ·unfold I5 at hw;rw[Jz,AkO,Nat.sub_zero,AiS,AiS]at hw;obtain⟨⟨w1,w2⟩,w3⟩:=hw;have J2:(s.extract 0 k).size=k:=by rw[Ai5];omega
   rw[J2]at w2 w3;have hk0:k≠0:=AiP w2;rw[List.all_eq_true]at w1;have hd:AS s=k:=IB (by omega) (fun j u hj hu=>w1 u (AiM (i:=j) (by rw[Ail,AiL hj];exact hu))) (fun u hu=>by rw[AKX u hu];exact d46);have jS:¬(1<k∧s.data[0]?=some 48):=fun e=>by
    rw[Ajf]at w3;rcases w3 with w3|w3
    ·have:=AiP w3;omega
    ·refine AiP w3 ?_;rw[AjZ,AkH,AiL (by have:s.data.size=s.size:=rfl;omega)];simpa using e.2
   refine⟨fun he=>?_,fun he=>⟨by unfold AG;omega,?_⟩⟩
   ·rw[show E4 s=decide ((((s.size:Nat):Int))≤15) by
     unfold E4;rw[hd,AiK hk0,AiK jS,AiL (by omega)];exact Ai9.2 (by omega)]at h
    exact h
   ·have hks:k<s.size:=by omega
    obtain⟨u46,AZm,ATG⟩:=byte_at hks;have e46:=AKX u46 ATG;subst e46;have hO:E4 s=decide (some (46:UInt8)=some 46∧0<AS (s.extract (k+1) s.size)∧k+1+AS (s.extract (k+1) s.size)=s.size∧k+AS (s.extract (k+1) s.size)≤15):=by
     unfold E4;rw[hd,AiK hk0,AiK jS,AiK (by omega),AZm]
    have hm:=My (s.extract (k+1) s.size);have hmz:(s.extract (k+1) s.size).size=s.size-(k+1):=by rw[Ai5];omega
    have I2:(s.extract (k+1) s.size).data.toList=s.data.toList.drop (k+1):=by
     rw[Jz,AiQ (by rw[Aic];omega)]
    suffices H:∀g i:Nat,s.size-i=g→k+1≤i→i≤s.size→(∀j u,k+1≤j→j<i→s.data.toList[j]?=some u→D7 u=true)→CD.ACK R s (k:Int) (i:Int) σ by
     have:=H (s.size-(k+1)) (k+1) rfl (AiV _) (by omega) (fun j u h1 h2=>by omega);rw[show((k+1:Nat):Int)=(k:Int)+1 by omega]at this;exact this
    intro g
    induction g with
    | zero=>
     intro i hg h1 h2 GJ;have hd2:AS (s.extract (k+1) s.size)=s.size-(k+1):=by
      refine IB (by rw[I2,Aic];omega) (fun j u hj hu=>?_) fun u hu=>?_
      ·rw[I2,Ain]at hu;exact GJ (k+1+j) u (by omega) (by omega) hu
      ·rw[I2,Ain]at hu;have:=(List.getElem?_eq_some_iff.1 hu).1;omega
     rw[hO,hd2]at h;refine CD.oy ⟨fun hh=>by omega,fun _=>⟨by unfold AG;omega,fun h3=>?_,fun h3=>?_⟩⟩
     ·rw[show decide (some (46:UInt8)=some 46∧0<s.size-(k+1)∧k+1+(s.size-(k+1))=s.size∧k+(s.size-(k+1))≤15)=decide ((((s.size:Nat):Int))≤16) from Ai9.2 ⟨fun g=>by omega,fun g=>⟨rfl,by omega,by omega,by omega⟩⟩]at h;exact h
     ·rw[AiZ (fun g=>by omega)]at h;exact h
    | succ g ih=>
     intro i hg h1 h2 GJ;obtain⟨u,hu,EG⟩:=byte_at (show i<s.size by omega);refine CD.oy ⟨fun _=>⟨u,by omega,by simpa using hu,Sc ⟨_,rfl,fun hf=>?_,fun ht=>⟨AJ (by omega:i<s.size) hb,?_⟩⟩⟩,fun hh=>by omega⟩
     ·have Ah:¬(k+1+AS (s.extract (k+1) s.size)=s.size):=fun e=>by
       have hp:=AkP (p:=D7) (l:=(s.extract (k+1) s.size).data.toList);have hl:((s.extract (k+1) s.size).data.toList.takeWhile D7).length=(s.extract (k+1) s.size).data.toList.length:=by
        rw[show((s.extract (k+1) s.size).data.toList.takeWhile D7).length=AS (s.extract (k+1) s.size) from rfl,I2,Aic];omega
       have Vw:=hp.eq_of_length hl;have:u∈(s.extract (k+1) s.size).data.toList:=by
        rw[I2];refine AiM (i:=i-(k+1)) ?_;rw[Ain,show k+1+(i-(k+1))=i by omega];exact EG
       rw[←Vw]at this;rw[Yf this]at hf;cases hf
      rw[hO,AiZ (fun g=>Ah g.2.2.1)]at h;exact h
     ·have:=ih (i+1) (by omega) (by omega) (by omega) fun j v j3 hj2 hv=>by
       by_cases ZJ:j=i
       ·subst ZJ;rw[EG]at hv;cases hv;exact ht
       ·exact GJ j v j3 (by omega) hv
      rw[show((i+1:Nat):Int)=(i:Int)+1 by omega]at this;exact this
 suffices H:∀g:Nat,∀k:Nat,g≤s.size→g≤k→k≤s.size→(∀u,s.data.toList[k]?=some u→u=46)→(∀j u,g≤j→j<k→s.data.toList[j]?=some u→u≠46)→CD.Ab R s (k:Int) ((g:Int)-1) σ from H s.size s.size (AiV _) (AiV _) (AiV _) (fun u hu=>by have:=(List.getElem?_eq_some_iff.1 hu).1;omega) (fun j u h1 h2=>by omega)
 intro g
 induction g with
 | zero=>
  intro k _ _ hk h1 h2;exact fin k hk h1 fun j u hj=>h2 j u (AiR _) hj
 | succ g ih=>
  intro k hg hgk hk h1 h2;have ew:((g+1:Nat):Int)-1=(g:Int):=by omega
  obtain⟨u,hu,EG⟩:=byte_at (show g<s.size by omega);have gW:=I3 (u:=u) (k:=46) (by decide);rw[ew];refine CD.AO ⟨fun _=>⟨u,by omega,by simpa using hu,fun e=>CD.Gf ⟨by unfold AG;omega,?_⟩,fun e=>CD.Gf ⟨by unfold AG;omega,?_⟩⟩,fun hh=>by omega⟩
  ·exact ih g (by omega) (AiV _) (by omega) (fun v hv=>by rw[EG]at hv;cases hv;exact gW.1 e) (fun j v h3 h4=>by omega)
  ·refine ih k (by omega) (by omega) hk h1 fun j v h3 h4 hv=>?_;by_cases hjg:j=g
   ·subst hjg;rw[EG]at hv;cases hv;exact fun e2=>e (gW.2 e2)
   ·exact h2 j v (by omega) h4 hv
theorem eH {s:ByteArray}(ht:E4 s=true)(h:R (.T #[.U (RB s),.bool true]) σ):Spec prog 66 #[.string s] σ R:=by
 obtain⟨hs0,AC0,⟨u0,hu0,hd0⟩,hby,sS,AC1⟩:=Lu ht;have hlen:s.data.toList.length=s.size:=AjA (xs:=s.data);have zN:∀k,jD s k≤15:=fun k=>Aiy (AkG ((List.take_sublist _ _).filter _)) sS;refine EM.start (Qj (by omega) ⟨_,rfl,fun hf=>(by rw[ht]at hf;cases hf),fun _=>?_⟩)
 suffices H:∀g k:Nat,∀(r:Rs) (c:Nat),s.size-k=g→k≤s.size→ROk s k r→(c:Int)=(if r.dot=true then(r.nd:Int)-r.dp else 0)→EM.Ns R s ((r.m:Nat):Int) ((10^c:Nat):Int) r.dot (k:Int) σ from H s.size 0 ⟨0,false,0,0⟩ 0 rfl (AiR _) .zero rfl
 intro g
 induction g with
 | zero=>
  intro k r c hg hk hr hc;have QC:k=s.size:=by omega
  have er:r=Ga s:=by rw[hr.is,AiQ (by omega)];rfl
  have ZC:=zN k;have h3:=hr.lo;have ADy:c≤15:=by split at hc<;>omega
  have hp:=Lv ADy;have hm:=Nat.lt_of_lt_of_le hr.m (Lv (by have:=hr.nd;omega));refine EM.KM ⟨fun hh=>by omega,fun _=>Ls (v:=.float .f64 (FloatKind.f64.nearest ((r.m:Nat):Int))) (fun w=>by kernel_rfl) ⟨_,rfl,Ls (v:=.float .f64 (FloatKind.f64.nearest ((10^c:Nat):Int))) (fun w=>by kernel_rfl) ⟨_,rfl,Vx fun y hy=>⟨_,rfl,Ck ⟨_,rfl,?_⟩⟩⟩⟩⟩;have e9:=ADx ht ADy (fun uE=>by
   unfold SH;rw[AiK uE];rw[er]at hc;split
   ·rename_i hdt;rw[AiL hdt]at hc;omega
   ·rename_i hdt;rw[AiK hdt]at hc;omega)
  rw[hy,er,e9];exact h
 | succ g ih=>
  intro k r c hg hk hr hc;obtain⟨u,hu,EG⟩:=byte_at (show k<s.size by omega);have Eu:=hr.step EG (hby u (AiM EG));have gW:=I3 (u:=u) (k:=46) (by decide);have ZC:=zN k;have ADy:c≤15:=by have h3:=hr.lo;split at hc<;>omega
  have hp:=Lv ADy;have hm:=Nat.lt_of_lt_of_le hr.m (Lv (by have:=hr.nd;omega));have next:∀(r':Rs) (c':Nat) (x4 x5:Int) (t6:Bool),r'=De r u→x4=((r'.m:Nat):Int)→x5=((10^c':Nat):Int)→t6=r'.dot→(c':Int)=(if r'.dot=true then(r'.nd:Int)-r'.dp else 0)→EM.cJ R s x4 x5 t6 (k:Int) σ:=fun r' c' x4 x5 t6 S3 h4 h5 h6 h7=>by
   subst h4;subst h5;subst h6;have:=ih (k+1) r' c' (by omega) (by omega) (by rw[S3];exact Eu) h7;rw[show((k+1:Nat):Int)=(k:Int)+1 by omega]at this;exact EM.cK ⟨AJ (by omega:k<s.size) (by omega:s.size≤4611686018427387904),this⟩
  refine EM.KM ⟨fun _=>⟨u,by omega,by simpa using hu,fun e=>?_,fun e=>fun MH e22=>⟨u,by omega,by simpa using hu,fun eb e26 Kv e27 QN e28=>?_⟩⟩,fun hh=>by omega⟩
  ·have e46:u=46:=gW.1 e;subst e46;have hnd:r.dot=false:=by
    cases hq:r.dot with
    | false=>rfl
    | true=>
     obtain⟨j,hj,Zz⟩:=hr.sw hq;have:=AC1 j k Zz EG;omega
   rw[hnd]at hc;have hc0:c=0:=by have:(c:Int)=0:=hc;omega
   subst hc0;exact next { r with dot:=true,dp:=r.nd } 0 _ _ _ (by unfold De;rw[AiL rfl]) rfl rfl rfl (by show((0:Nat):Int)=(r.nd:Int)-(r.nd:Int);omega)
  ·have Ah:u≠46:=fun e2=>e (gW.2 e2);have hdg:=(hby u (AiM EG)).resolve_right Ah;have hn:=IC hdg;have AJl:MH=10*(r.m:Int):=by rw[e22];exact SJ (by omega) (by omega)
   have AZo:eb=(u.toNat:Int)-48:=by rw[e26];exact AGV (by omega) (by omega)
   have AZp:Kv=(u.toNat:Int)-48:=by rw[e27,AZo];exact SJ (by omega) (by omega)
   have ATH:QN=10*(r.m:Int)+((u.toNat:Int)-48):=by rw[e28,AJl,AZp];exact SJ (by omega) (by omega)
   have S3:∃r':Rs,r'=De r u∧r'.dot=r.dot∧((r'.m:Nat):Int)=10*(r.m:Int)+((u.toNat:Int)-48)∧(r'.nd:Int)-r'.dp=(r.nd:Int)-r.dp+1:=by
    refine⟨_,rfl,?_⟩;unfold De;rw[AiK Ah];split
    ·rename_i kE;have h1:u.toNat=48:=by rw[kE.1];rfl
     have uE:=hr.m;rw[kE.2,Nat.pow_zero]at uE;exact⟨rfl,by dsimp only;omega,by dsimp only;omega⟩
    ·exact⟨rfl,by dsimp only;omega,by dsimp only;omega⟩
   obtain⟨r',q1,q2,q3,q4⟩:=S3;refine⟨fun td=>fun W5 e31=>?_,fun tf=>?_⟩
   ·have AZq:W5=((10^(c+1):Nat):Int):=by
     obtain⟨w,hw⟩:∃w:Nat,10^c=w:=⟨_,rfl⟩;rw[Nat.pow_succ];rw[hw]at hp e31 ⊢;rw[e31,SJ (by omega) (by omega)];omega
    exact next r' (c+1) _ _ _ q1 (by rw[ATH,q3]) AZq (by rw[q2,td]) (by rw[q2,AiL td];rw[AiL td]at hc;omega)
   ·exact next r' c _ _ _ q1 (by rw[ATH,q3]) rfl (by rw[q2,tf]) (by rw[q2,tf];rw[tf]at hc;exact hc)
end
end TwW
end
