/-
  Part 5 of the proof that the law EvalMomentsUptoCardSaid of the given program answers true for every input of the given statement; the input reads behind the call as it did. (The texts: packed from 26 texts. Names are shortened by the packing program, for the bound on size.)
-/
import Derived.Test.YthdjajblkfphiaaGreatDoorA4
import Derived.Laws.FloatBits
import Ieee.Arith
set_option linter.all false
section
namespace TwW
open Go Tw Go.RowKit Go.Proofs.Tryz
def Ns (e:El):Prop:=Ai e.ls∧0≤e.v
def Sh (x:Vv):Prop:=(x.kind=1∧x.vec=[]∧x.MX=[])∨(x.kind=2∧x.MX=[])∨(x.kind=3∧x.vec=[])
def D2 (x:Vv):Nat:=x.vec.length+x.MX.length
structure VG (x:Vv):Prop where
 el:∀e∈x.vec,Ns e
 rg:∀r∈x.MX,Ai r.ls∧0<r.vs.length
 sh:Sh x
theorem XK (x:Int):0≤eF x:=AX7 _
theorem Kh (op a b:Int):0≤RP op a b:=AX7 _
theorem ak {f:Int→Int→Int}(hf:∀a b,0≤f a b):∀(l:List Int) (a:Int),0≤a→0≤l.foldl f a
 | [],a,h=>h
 | x::l,a,h=>ak hf l _ (hf a x)
theorem iG:∀vs,0≤U4 vs
 | []=>Int.le_refl _
 | v::l=>ak (fun a b=>Kh 1 a b) l _ (XK v)
theorem Nt (op:Int):∀vs,0≤Kd op vs
 | []=>Int.le_refl _
 | v::l=>XK _
theorem rH (vs:List Int):0≤Kf vs:=by
 unfold Kf;have:∀(l:List (Int×Int)) (a:Int),0≤a→0≤l.foldl Ke a:=fun l=>by
  induction l with
  | nil=>intro a h;exact h
  | cons x l ih=>
   intro a h;refine ih _ ?_;unfold Ke;split
   ·exact Kh _ _ _
   ·exact h
 exact this _ _ (Kh _ _ _)
theorem Px (x:Int):0≤BN x:=AX7 _
theorem rI (op:Int)(vs:List Int):0≤foldI op vs:=by
 unfold foldI;split
 ·exact iG _
 ·split
  ·exact Nt _ _
  ·split
   ·exact Nt _ _
   ·split
    ·exact Kh _ _ _
    ·exact Px _
theorem rJ {op:Int}{vs:List Int}{w x:Int}(h:IB op vs w=some x):0≤x:=by
 unfold IB at h;split at h
 ·rw[←AXF h];exact iG _
 split at h
 ·rw[←AXF h];exact Kh _ _ _
 split at h
 ·rw[←AXF h];exact Nt _ _
 split at h
 ·rw[←AXF h];exact Nt _ _
 split at h
 ·rw[←AXF h];exact Px _
 split at h
 ·rw[←AXF h];exact XK _
 split at h
 ·rw[←AXF h];exact AX7 _
 split at h
 ·exact absurd h.symm (Option.some_ne_none _)
 split at h
 ·rw[←AXF h];exact Kh _ _ _
 split at h
 ·rw[←AXF h];exact rH _
 ·rw[←AXF h];exact Kh _ _ _
theorem UH (op a b:Int):0≤(IC op a b).1:=by
 unfold IC;split
 ·exact Kh _ _ _
 ·show 0≤(if _ then BN 1 else BN 0)
  split<;>exact Px _
theorem LO {l m:List El}(h:DN FF l=some m):m.Perm l:=by
 unfold DN at h;split at h
 ·cases h;exact Ir l
 ·cases h
theorem iH {l m:List El}(h:DN FF l=some m)(hl:∀e∈l,Ns e):(∀e∈m,Ns e)∧m.length=l.length:=
 ⟨fun e he=>hl e ((LO h).mem_iff.1 he),(LO h).length_eq⟩
theorem vx {n:Nd}{x:Vv}(hx:VG x):(∀e∈Tl FF n x,Ns e)∧(Tl FF n x).length≤D2 x:=by
 refine⟨fun e he=>?_,?_⟩
 ·rcases AW8.1 he with he|he
  ·obtain⟨y,hy,rfl⟩:=AXB.1 he;refine⟨(hx.el y hy).1.bare,?_⟩;show 0≤(if n.op=11 then W7 y.v else Mk y.v)
   split<;>exact AX7 _
  ·obtain⟨y,hy,h1⟩:=AXg.1 he;have h2:(IB n.op y.vs x.v).map (fun v=>(⟨DB y.ls,v⟩:El))=some e:=h1;cases ho:IB n.op y.vs x.v with
   | none=>rw[ho]at h2;cases h2
   | some z=>
    rw[ho]at h2;simp only[AXT,AWp]at h2;subst h2;exact⟨(hx.rg y hy).1.bare,rJ ho⟩
 ·unfold Tl D2;rw[AWz,AW9];have:=AXP (fun s:Rg=>(FF.over n.op s.vs x.v).map fun v=>(⟨DB s.ls,v⟩:El)) x.MX;omega
theorem ACR {n:Nd}{x:Vv}(hx:VG x):(∀e∈dz FF n x,Ns e)∧(dz FF n x).length≤D2 x:=by
 obtain⟨h1,h2⟩:=rF (n:=n) (fun e he=>(hx.el e he).1) x.vec.length (AWu _);rw[List.take_length]at h1 h2;have hA:dz FF n x=(XJ n x.vec).map fun g=>⟨g.ls,foldI n.op g.vs⟩:=rfl;rw[hA];refine⟨fun e he=>?_,by rw[AW9];unfold D2;omega⟩;obtain⟨g,hg,rfl⟩:=AXB.1 he;exact⟨(h1 g hg).2.2,rI _ _⟩
theorem rK {n:Nd}{l:List El}{f:Int→Int×Bool}(hl:∀e∈l,Ns e)(hf:∀v,0≤(f v).1):(∀e∈Tm n l f,Ns e)∧(Tm n l f).length≤l.length:=by
 refine⟨fun e he=>?_,AXP _ _⟩;obtain⟨y,hy,h1⟩:=AXg.1 he;split at h1
 ·simp only[AWp]at h1;subst h1;exact⟨(hl y hy).1.bare,hf _⟩
 ·split at h1
  ·simp only[AWp]at h1;subst h1;exact hl y hy
  ·cases h1
theorem vy {n:Nd}{x y:List El}(hx:∀e∈x,Ns e)(hy:∀e∈y,Ns e):(∀e∈MJ n x y,Ns e)∧(MJ n x y).length≤x.length+y.length:=by
 unfold MJ;refine⟨fun e he=>?_,?_⟩
 ·rcases AW8.1 he with he|he
  ·exact hx e (AYA.1 he).1
  ·exact hy e (AYA.1 he).1
 ·rw[AWz];exact Nat.add_le_add (AXO _ _) (AXO _ _)
theorem vz {n:Nd}{x y m:List El}(hx:∀e∈x,Ns e)(h:Nh FF n x y=some m):(∀e∈m,Ns e)∧m.length≤x.length:=by
 unfold Nh at h;split at h
 ·simp only[AWp]at h;subst h;refine⟨fun e he=>?_,AXP _ _⟩;obtain⟨z,hz,h1⟩:=AXg.1 he;split at h1
  ·cases h1
  ·split at h1
   ·simp only[AWp]at h1;subst h1;exact⟨(hx z hz).1.My,UH _ _ _⟩
   ·split at h1
    ·simp only[AWp]at h1;subst h1;exact hx z hz
    ·cases h1
 ·cases h
theorem Mp {l m:List El}(h:DN FF l=some m)(hl:∀e∈l,Ns e):VG ⟨2,0,m,[]⟩∧D2 ⟨2,0,m,[]⟩=l.length:=
 ⟨⟨(iH h hl).1,fun r hr=>(by cases hr),.inr (.inl ⟨rfl,rfl⟩)⟩,by show m.length+0=_;rw[(iH h hl).2];omega⟩
theorem map_some {α β:Type}{o:Option α}{f:α→β}{y:β}(h:o.map f=some y):∃x,o=some x∧f x=y:=by
 cases o with
 | none=>cases h
 | some x=>exact⟨x,rfl,by simpa using h⟩
theorem XL {n:Nd}{ss:List Sr}{t:Int}{L:List Vv}{v:Vv}(hS:vi ss)(hp:∀s∈ss,∀p∈s.ps,0≤p.2)(hf:FZ n=true)(hT:(Ps n (L.map (·.kind))).2=0)(hL:(L.length:Int)=n.parts)(hV:∀x∈L,VG x)(h:Hx FF ss t n L=some v):
  VG v∧v.kind=(Ps n (L.map (·.kind))).1∧D2 v≤ss.length+(L.map D2).sum:=by
 have C2:=H9 hf;unfold Hx at h;by_cases h1:n.kind=1
 ·rw[AWl h1]at h;cases h;exact⟨⟨fun e he=>(by cases he),fun r hr=>(by cases hr),.inl ⟨rfl,rfl,rfl⟩⟩,by unfold Ps;rw[AWl h1],AWx _⟩
 rw[AWj h1]at h;by_cases h2:n.kind=2
 ·rw[AWl h2]at h;cases h;refine⟨⟨fun e he=>?_,fun r hr=>(by cases hr),.inr (.inl ⟨rfl,rfl⟩)⟩,by unfold Ps;rw[AWj h1,AWl h2],?_⟩
  ·obtain⟨s,hs,Xm⟩:=AXg.1 he;split at Xm
   ·cases Xm
   ·rename_i p al;split at Xm
    ·cases Xm
    ·simp only[AWp]at Xm;subst Xm;exact⟨hS.sm s hs,hp s hs p (AYA.1 (AZH al)).1⟩
  ·show(List.filterMap _ ss).length+0≤_
   exact AXD (AZa (AX1 _)) (AXD (AXP _ _) (AY8 _ _))
 rw[AWj h2]at h;by_cases h3:n.kind=3
 ·rw[AWl h3]at h;cases h;refine⟨⟨fun e he=>(by cases he),fun r hr=>?_,.inr (.inr ⟨rfl,rfl⟩)⟩,by unfold Ps;rw[AWj h1,AWj h2,AWl h3],?_⟩
  ·obtain⟨s,hs,Xm⟩:=AXg.1 hr;dsimp only at Xm;generalize ((FU s.ps (t-n.back-n.width) (t-n.back)).filter fun p=>decide (p.2≠Hv)).map Prod.snd=vs at Xm;cases vs with
   | nil=>cases Xm
   | cons a l=>
    simp only[List.isEmpty_cons,Bool.not_false,AZV]at Xm;cases lU:FF.Y7 n.mt s.ls with
    | false=>rw[lU]at Xm;cases Xm
    | true=>
     rw[lU]at Xm;simp only[AYu,AWp]at Xm;subst Xm;exact⟨hS.sm s hs,by simp⟩
  ·show 0+(List.filterMap _ ss).length≤_
   exact AXD (AZa (AXl _)) (AXD (AXP _ _) (AY8 _ _))
 rw[AWj h3]at h;unfold FY at C2;rw[AWj h1,AWj h2,AWj h3]at C2;by_cases h4:n.kind=4
 ·rw[AWl h4]at C2;have ec:=(AWr C2).1
  match L,hL with
  | [x],_=>
   have hx:=hV x (by simp);dsimp only at h;rw[AWl h4]at h;obtain⟨m,hm,rfl⟩:=map_some h;obtain⟨c1,c2⟩:=vx (n:=n) hx;obtain⟨d1,d2⟩:=Mp hm c1;refine⟨d1,?_,by rw[d2];simp;omega⟩;unfold Ps at hT ⊢;rw[AWj h1,AWj h2,AWj h3,AWl h4]at hT ⊢;unfold aQ at hT ⊢;by_cases hc:([x].map (·.kind))[0]?.getD 0=(if n.op=11∨n.op=12 then 2 else 3)
   ·rw[AWl hc]
   ·rw[AWj hc]at hT;exact absurd hT (by decide)
  | [],hL=>simp at hL;omega
  | _::_::_,hL=>simp at hL;omega
 rw[AWj h4]at C2;by_cases h5:n.kind=5
 ·rw[AWl h5]at C2;have ec:=(AWr C2).1
  match L,hL with
  | [x],_=>
   have hx:=hV x (by simp);dsimp only at h;rw[AWj h4,AWl h5]at h;obtain⟨m,hm,rfl⟩:=map_some h;obtain⟨c1,c2⟩:=ACR (n:=n) hx;obtain⟨d1,d2⟩:=Mp hm c1;refine⟨d1,?_,by rw[d2];simp;omega⟩;unfold Ps at hT ⊢;rw[AWj h1,AWj h2,AWj h3,AWj h4,AWl h5]at hT ⊢;unfold hY at hT ⊢;by_cases hc:([x].map (·.kind))[0]?.getD 0=2
   ·rw[AWl hc]
   ·rw[AWj hc]at hT;exact absurd hT (by decide)
  | [],hL=>simp at hL;omega
  | _::_::_,hL=>simp at hL;omega
 rw[AWj h5]at C2;by_cases h6:n.kind=6
 ·rw[AWl h6,AWv]at C2;have ec:=(AWr C2.1).1
  match L,hL with
  | [x,y],_=>
   have hx:=hV x (by simp);have hy:=hV y (by simp);dsimp only at h;rw[AWl h6]at h;have hTy:(Ps n ([x,y].map (·.kind)))=kI n x.kind y.kind:=by unfold Ps;rw[AWj h1,AWj h2,AWj h3,AWj h4,AWj h5,AWl h6];rfl
   rw[hTy]at hT ⊢;unfold kI at hT ⊢;split at hT
   ·cases hT
   ·rename_i DS;rw[AWj DS];simp only[not_or]at DS;have sx:=hx.sh;have sy:=hy.sh;unfold j2 at h;have hvx:D2 x+D2 y=([x,y].map D2).sum:=by simp
    rw[←hvx];split at h
    ·rename_i hk;cases h;exact⟨⟨fun e he=>(by cases he),fun r hr=>(by cases hr),.inl ⟨rfl,rfl,rfl⟩⟩,by simp[hk.1,hk.2],AWx _⟩
    ·rename_i hk;obtain⟨m,hm,rfl⟩:=map_some h;have AJt:(2:Int)=(if x.kind<y.kind then y.kind else x.kind):=by
      unfold Sh at sx sy;split<;>omega
     refine(fun hh:VG ⟨2,0,m,[]⟩∧D2 ⟨2,0,m,[]⟩≤D2 x+D2 y=>⟨hh.1,AJt,by have:=hh.2;omega⟩) ?_;split at hm
     ·obtain⟨c1,c2⟩:=rK (n:=n) (f:=FF.Ng n.op x.v) hy.el (fun v=>UH _ _ _);obtain⟨d1,d2⟩:=Mp (show DN FF (Tm n y.vec (FF.Ng n.op x.v))=some m from hm) c1;exact⟨d1,by rw[d2];unfold D2;omega⟩
     ·split at hm
      ·obtain⟨c1,c2⟩:=rK (n:=n) (f:=fun v=>FF.Ng n.op v y.v) hx.el (fun v=>UH _ _ _);obtain⟨d1,d2⟩:=Mp (show DN FF (Tm n x.vec fun v=>FF.Ng n.op v y.v)=some m from hm) c1;exact⟨d1,by rw[d2];unfold D2;omega⟩
      ·split at hm
       ·obtain⟨c1,c2⟩:=vy (n:=n) hx.el hy.el;obtain⟨d1,d2⟩:=Mp (show DN FF (MJ n x.vec y.vec)=some m from hm) c1;exact⟨d1,by rw[d2];unfold D2;omega⟩
       ·cases hq:Nh FF n x.vec y.vec with
        | none=>rw[hq]at hm;cases hm
        | some w=>
         rw[hq]at hm;obtain⟨c1,c2⟩:=vz hx.el hq;obtain⟨d1,d2⟩:=Mp (show DN FF w=some m from hm) c1;exact⟨d1,by rw[d2];unfold D2;omega⟩
  | [],hL=>simp at hL;omega
  | [_],hL=>simp at hL;omega
  | _::_::_::_,hL=>simp at hL;omega
 rw[AWj h6]at C2;have h7:=(AWr C2).1;have ec:=(AWr C2).2
 match L,hL with
 | [x],_=>
  have hx:=hV x (by simp);dsimp only at h;rw[AWj h4,AWj h5,AWl h7]at h;have hTy:(Ps n ([x].map (·.kind)))=qb x.kind:=by unfold Ps;rw[AWj h1,AWj h2,AWj h3,AWj h4,AWj h5,AWj h6];rfl
  rw[hTy]at hT ⊢;unfold qb at hT ⊢;have sx:=hx.sh;unfold Sh at sx;split at hT
  ·cases hT
  ·rename_i DS;rw[AWj DS];unfold j3 at h;split at h
   ·rename_i hk;cases h;exact⟨⟨fun e he=>(by cases he),fun r hr=>(by cases hr),.inl ⟨rfl,rfl,rfl⟩⟩,hk.symm,AWx _⟩
   ·obtain⟨m,hm,rfl⟩:=map_some h;have c1:∀e∈x.vec.map (fun x=>(⟨DB x.ls,FF.qN x.v⟩:El)),Ns e:=fun e he=>by
     obtain⟨y,hy,rfl⟩:=AXB.1 he;exact⟨(hx.el y hy).1.bare,XK _⟩
    obtain⟨d1,d2⟩:=Mp hm c1;refine⟨d1,by show(2:Int)=x.kind;omega,by rw[d2,AW9];simp[D2];omega⟩
 | [],hL=>simp at hL;omega
 | _::_::_,hL=>simp at hL;omega
theorem UI {n:Nd}(ht:FZ n=true):0≤n.parts:=by
 have C2:=H9 ht;unfold FY at C2;have hp:=Pu ht;by_cases h1:n.kind=1
 ·unfold Fp BO at hp;simp[h1]at hp;omega
 by_cases h2:n.kind=2
 ·unfold Fp BO at hp;simp[h2]at hp;omega
 by_cases h3:n.kind=3
 ·unfold Fp BO at hp;simp[h3]at hp;omega
 rw[AWj h1,AWj h2,AWj h3]at C2;split at C2
 ·simp at C2;omega
 ·split at C2
  ·simp at C2;omega
  ·split at C2
   ·simp at C2;omega
   ·simp at C2;omega
theorem XM {n:Nd}{ty:List Int}(h:(Ba n ty).1=0):FZ n=true∧n.parts≤ty.length∧MN FT n.mt=0∧(Ps n (ty.drop (ty.length-n.parts.toNat))).2=0∧(Ba n ty).2=ty.take (ty.length-n.parts.toNat)++[(Ps n (ty.drop (ty.length-n.parts.toNat))).1]:=by
 unfold Ba at h ⊢;split at h
 ·exact absurd h (by dsimp only;decide)
 ·rename_i h1;split at h
  ·exact absurd h (by dsimp only;decide)
  ·rename_i h2;simp only[not_or]at h1;rw[AWj (by simp only[not_or];exact h1),AWj h2];exact⟨by simpa using h1.1,by omega,AW7.1 h2,h,rfl⟩
theorem iI {n:Nd}(hf:FZ n=true)(hm:MN FT n.mt=0)(hk:n.kind=2∨n.kind=3):ACG n:=by
 have C2:=H9 hf;have hp:=Pu hf;have v7:n.mt.all eO=true:=by
  unfold MN at hm;split at hm
  ·exact absurd hm (by decide)
  ·cases ha:n.mt.all eO with
   | true=>rfl
   | false=>
    have:(if n.mt.all eO=true then(0:Int) else 40)=0:=hm;rw[ha]at this;exact absurd this (by decide)
 have hx:∀x∈n.mt,eO x=true:=AXj.1 v7;have hbw:(0≤n.back∧n.back<2147483648)∧(0≤n.width∧n.width<2147483648):=by
  unfold FY at C2;rcases hk with hk|hk
  ·rw[AWj (by omega),AWl hk]at C2;unfold MM at C2;simp only[AWv,AW6]at C2;unfold Fp BO at hp;simp[hk]at hp;omega
  ·rw[AWj (by omega),AWj (by omega),AWl hk]at C2;unfold MM at C2;simp only[AWv,AW6]at C2;omega
 refine⟨fun x aX=>?_,fun x aX=>?_,hbw.1,hbw.2⟩
 ·have:=hx x aX;unfold eO at this;simp only[AWv,AW6]at this;exact this.1.1
 ·have:=hx x aX;unfold eO at this;simp only[AWv,AW6]at this;omega
def wC:List Nat:=[75,76,77,78,79,80,81]
structure ed (ss:List Sr):Prop where
 ok:vi ss
 nn:∀s∈ss,∀p∈s.ps,0≤p.2
 pl:∀s∈ss,s.ps.length≤1000000000
section
variable {ρ σ σ' σ0:Hp}{R:Rr}
theorem ke {n:Nd}{p q l:Option Addr}{k c m d j e ab:Nat}{ss:List Sr}{t:Int}{L:List Vv}(hA:Qf ρ ab ss t)(hg:Gl ρ)(hm:Ac 3 Ni ρ p k n.mt)(hs:Gq 1 ρ q m (n.names.map .string))(hf:FZ n=true)(v7:MN FT n.mt=0)
  (hT:(Ps n (L.map (·.kind))).2=0) (hL:(L.length:Int)=n.parts) (hV:∀x∈L,VG x) (hlen:∀x∈L,D2 x≤100000000000) (hr:Ac 4 Mj ρ l j L) (hS:ed ss) (ht:-4611686018427387904≤t∧t≤4611686018427387904) (h:IA R ρ (Hx FF ss t n L)) :
  ∃f,1≤n.kind∧n.kind≤7∧wC[n.kind.toNat-1]?=some f∧Enters prog f∧Spec prog f #[.pointer (some ⟨ab,0,none⟩),M0 n p k c q m d,.slice l j e] ρ R:=by
 have C2:=H9 hf;have vok:∀x∈L,kW x:=fun x hx=>⟨(hV x hx).el,(hV x hx).rg,hlen x hx⟩;unfold Hx at h;by_cases h1:n.kind=1
 ·rw[AWl h1]at h;refine⟨_,by omega,by omega,by rw[h1];rfl,Bt.en,Nr hg ?_ h⟩;unfold FY at C2;rw[AWl h1]at C2;exact C2
 rw[AWj h1]at h;by_cases h2:n.kind=2
 ·rw[AWl h2]at h;exact⟨_,by omega,by omega,by rw[h2];rfl,Ah.en,af hA hg hm hS.ok (iI hf v7 (.inl h2)) ht h⟩
 rw[AWj h2]at h;by_cases h3:n.kind=3
 ·rw[AWl h3]at h;exact⟨_,by omega,by omega,by rw[h3];rfl,AT.en,eY hA hg hm hS.ok (iI hf v7 (.inr h3)) ht hS.pl h⟩
 rw[AWj h3]at h;unfold FY at C2;rw[AWj h1,AWj h2,AWj h3]at C2;by_cases h4:n.kind=4
 ·rw[AWl h4]at C2;obtain⟨ec,cw,Bp⟩:=AWr C2
  match L,hL with
  | [x],_=>
   have hx:=hV x (by simp);dsimp only at h;rw[AWl h4]at h;have sx:=hx.sh;unfold Sh at sx;unfold Ps at hT;rw[AWj h1,AWj h2,AWj h3,AWl h4]at hT;unfold aQ at hT;have hc:x.kind=(if n.op=11∨n.op=12 then 2 else 3):=by
    by_cases hc:([x].map (·.kind))[0]?.getD 0=(if n.op=11∨n.op=12 then 2 else 3)
    ·exact hc
    ·rw[AWj hc]at hT;exact absurd hT (by decide)
   refine⟨_,by omega,by omega,by rw[h4];rfl,AW.en,kX hr rfl (vok x (by simp)) (fun Ay=>?_) (fun Ay=>?_) h⟩
   ·rcases sx with ⟨_,h9,_⟩|⟨h9,_⟩|⟨h9,h8⟩
    ·exact absurd h9 Ay
    ·rw[h9]at hc;split at hc
     ·assumption
     ·omega
    ·exact absurd h8 Ay
   ·rcases sx with ⟨_,_,h9⟩|⟨h9,h8⟩|⟨h9,_⟩
    ·exact absurd h9 Ay
    ·exact absurd h8 Ay
    ·rw[h9]at hc;split at hc
     ·omega
     ·omega
  | [],hL=>simp at hL;omega
  | _::_::_,hL=>simp at hL;omega
 rw[AWj h4]at C2;by_cases h5:n.kind=5
 ·rw[AWl h5]at C2;obtain⟨ec,cw,Bp,_⟩:=AWr C2
  match L,hL with
  | [x],_=>
   dsimp only at h;rw[AWj h4,AWl h5]at h;exact⟨_,by omega,by omega,by rw[h5];rfl,AS.en,rG hs hr rfl (vok x (by simp)) ⟨cw,Bp⟩ h⟩
  | [],hL=>simp at hL;omega
  | _::_::_,hL=>simp at hL;omega
 rw[AWj h5]at C2;by_cases h6:n.kind=6
 ·rw[AWl h6,AWv]at C2;have ec:=(AWr C2.1).1
  match L,hL with
  | [x,y],_=>
   dsimp only at h;rw[AWl h6]at h;exact⟨_,by omega,by omega,by rw[h6];rfl,C9.en,rD hs hr rfl rfl (vok x (by simp)) (vok y (by simp)) h⟩
  | [],hL=>simp at hL;omega
  | [_],hL=>simp at hL;omega
  | _::_::_::_,hL=>simp at hL;omega
 rw[AWj h6]at C2;have h7:=(AWr C2).1;have ec:=(AWr C2).2
 match L,hL with
 | [x],_=>
  dsimp only at h;rw[AWj h4,AWj h5,AWl h7]at h;exact⟨_,by omega,by omega,by rw[h7];rfl,BG.en,q7 hr rfl (vok x (by simp)) h⟩
 | [],hL=>simp at hL;omega
 | _::_::_,hL=>simp at hL;omega
end
theorem Spec.ACS {P:Program}{f:FuncId}{args:Array Value}{σ:Hp}{p:Option Addr}{R:Rr}(hk:∀a,p=some a→∃o,σ a.block=some o)
  (h:Spec P f args (σ.del p) (fun e τ'=>∀σ',(∀a,p=some a→σ' a.block=σ a.block)→σ'.del p=τ'→R e σ')):Spec P f args σ R:=by
 cases p with
 | none=>exact h.mono fun e τ' hh=>hh τ' (fun a ha=>by cases ha) rfl
 | some a=>
  obtain⟨o,ho⟩:=hk a rfl;have e1:(σ.del (some a)).set a.block o=σ:=by
   funext k
   by_cases lV:k=a.block
   ·subst lV;rw[Hp.AA,ho]
   ·rw[Hp.AF lV];simp[Hp.del,lV]
  have e2:(σ.del (some a)) a.block=none:=by simp[Hp.del]
  rw[←e1];refine Spec.GU e2 (h.mono fun e τ' hh hn=>hh _ (fun a' Hb=>by cases Hb;rw[Hp.AA,ho]) ?_)
  funext k
  by_cases lV:k=a.block
  ·subst lV;simp[Hp.del,hn]
  ·simp[Hp.del,lV,Hp.set]
theorem Gq.sub {s:Nat}{σ:Hp}{p:Option Addr}{n c i m:Nat}{cs:List Value}(h:Gq s σ p n cs)(him:i+m≤n)(hc:n≤c):Gq s σ (Fe p i c s) m ((cs.drop (i*s)).take (m*s)):=by
 obtain⟨h2,h3,h4⟩:=h;have hle:i*s+m*s≤n*s:=by rw[←AXs];exact AXR _ him
 refine⟨by rw[AW0,AXS];omega,by omega,?_⟩;rcases AZP m with hm|hm
 ·exact .inl hm
 ·rcases h4 with h4|⟨b,o,rfl,h4⟩
  ·omega
  ·refine .inr ⟨b,o+i*s,?_,h4.part⟩;unfold Fe;rw[AWj (by omega)];simp[Bl]
theorem Mj.one (σ:Hp)(vs:List Value)(x:Vv)(h:Mj σ vs x):Ey vs:=by
 obtain⟨p,n,c,q,m,d,rfl,_⟩:=h;intro u hu;simp only[AWo,AXA,AXk]at hu;rcases hu with rfl|rfl|rfl|rfl<;>rfl
theorem Aa.take {α:Type}{s:Nat}{E:Hp→List Value→α→Prop}{σ0 σ:Hp}{p:Option Addr}{n c m:Nat}{xs:List α}(h:Aa s E σ0 σ p n c xs)(hm:m≤n):Aa s E σ0 σ p m c (xs.take m):=by
 obtain⟨⟨hl,cs,ho,hc⟩,hx⟩:=h;exact⟨⟨by rw[AW0];omega,_,Ao.take ho hm,hc.take m⟩,hx⟩
section
variable {σ σ' σ0:Hp}{R:Rr}
theorem Py {p7 q:Option Addr}{j d b:Nat}{cs:List Value}{L:List Vv}{Φ:Value→Hp→Prop}(Lu:Gq 4 σ q j cs)(hc:Ch 4 Mj (σ.del p7) cs L)(hp7:∀a,p7=some a→σ a.block≠none)(hn:σ b=none)(hj:j≤1000000000)
  (hΦ:∀p' c' y,Ac 4 Mj (y.del p7) p' j L→Ext σ y→Φ (.slice p' j c') y):AH prog (Builtin.append_ #[120,120] 120 #[.slice (some ⟨b,0,none⟩) 0 0,.slice q j d]) (σ.set b (.cells #[] 84 (0,0))) Φ:=by
 have hx:=Ext.set (o:=.cells #[] 84 (0,0)) hn;refine CE Ao.empty (Lu.mono hx) (Ch.br Mj.one hc (by decide)) (by omega) fun p' c' y BS Ip=>?_;have hq:∀a:Addr,(some (⟨b,0,none⟩:Addr))=some a→σ a.block=none:=fun a ha=>by cases ha;exact hn
 rw[AXl]at BS ⊢;rw[AXi]at BS;have hXY:Ext σ y:=IN hq Ip hx;have vW:∀a,p'=some a→σ a.block=none:=Ez hq Ip hx;refine hΦ p' c' y ⟨?_,cs,Ao.rd (Ao.qo BS fun a ha a' Hb e=>hp7 a' Hb (by rw[←e];exact vW a ha)),hc.mono Mj.mono (hXY.del _)⟩ hXY;have:=hc.1;have:=Lu.1;omega
theorem iJ {α:Type}{f:α→Nat}:∀{l:List α} {y:α},y∈l→f y≤(l.map f).sum
 | a::l,y,h=>by
  rw[AXa,AZs];rcases AWo.1 h with rfl|h
  ·omega
  ·have:=iJ (f:=f) h;omega
structure wD (R:Rr)(σ:Hp)(X:Option Vv):Prop where
 ok:∀x σ' p n c q m d,X=some x→Ext σ σ'→Ac 2 By σ' p n x.vec→Ac 2 To σ' q m x.MX→R (.T #[.agg #[.I x.kind,.U x.v,.slice p n c,.slice q m d],.I 0]) σ'
 no:X=none→∀σ',Ext σ σ'→R (.T #[.agg #[.I 0,.U 0,.N,.N],.I 223]) σ'
theorem wD.kR {X:Option Vv}(h:wD R σ X)(hx:Ext σ σ'):wD R σ' X:=⟨fun x σ2 p n c q m d h0 h1 h2 h3=>h.ok x σ2 p n c q m d h0 (hx.trans h1) h2 h3,fun h0 σ2 h1=>h.no h0 σ2 (hx.trans h1)⟩
theorem ACT {i f:Nat}(h:wC[i]?=some f):Enters prog f:=by
 have Am:i<7:=(AWk.1 h).1
 match i,h with
 | 0,h=>cases h;exact Bt.en
 | 1,h=>cases h;exact Ah.en
 | 2,h=>cases h;exact AT.en
 | 3,h=>cases h;exact AW.en
 | 4,h=>cases h;exact AS.en
 | 5,h=>cases h;exact C9.en
 | 6,h=>cases h;exact BG.en
abbrev AJv:Obj:=.cells #[.I 0,.U 0,.N,.N] 84 (0,0)
theorem rL {ab n c:Nat}{p:Option Addr}{ss:List Sr}{t:Int}{T:List Nd}{kf:Int}(hA:Qf σ ab ss t)(hg:Gl σ)(hr:Ac 10 Ha σ p n T)(hS:ed ss)(hn:n≤4096)(ht:-4611686018427387904≤t∧t≤4611686018427387904)(hty:DQ T []=some [kf])
  (h:wD R σ ((JK FF ss t T []).bind List.head?)):Spec prog 35 #[.pointer (some ⟨ab,0,none⟩),.slice p n c] σ R:=by
 have hTl:T.length=n:=hr.1;have AO6:=hS.ok.len;refine CN.start fun _=>R7.start fun rb hrb=>⟨_,_,_,rfl,?_⟩;have xb:=Ext.set (o:=.cells #[.nilFunc,.func (.func 75) #[] #[],.func (.func 76) #[] #[],.func (.func 77) #[] #[],.func (.func 78) #[] #[],.func (.func 79) #[] #[],.func (.func 80) #[] #[],.func (.func 81) #[] #[]] 121 (0,0)) hrb;have AO7:∀(kind:Int) f,1≤kind→kind≤7→wC[kind.toNat-1]?=some f→Hp.ld (σ.set rb (.cells #[.nilFunc,.func (.func 75) #[] #[],.func (.func 76) #[] #[],.func (.func 77) #[] #[],.func (.func 78) #[] #[],.func (.func 79) #[] #[],.func (.func 80) #[] #[],.func (.func 81) #[] #[]] 121 (0,0))) ⟨rb,0+kind.toNat*1,none⟩=some (.func (.func f) #[] #[]):=fun kind f h1 h7 hf=>by
  refine Af (Hp.AA _ _ _) ?_;rw[show 0+kind.toNat*1=(kind.toNat-1)+1 by omega];have Am:kind.toNat-1<7:=by omega
  generalize kind.toNat-1=i at *
  match i,hf with
  | 0,hf=>cases hf;rfl
  | 1,hf=>cases hf;rfl
  | 2,hf=>cases hf;rfl
  | 3,hf=>cases hf;rfl
  | 4,hf=>cases hf;rfl
  | 5,hf=>cases hf;rfl
  | 6,hf=>cases hf;rfl
 generalize σ.set rb _=σb at *
 replace h:=h.kR xb
 suffices H:∀g i:Nat,∀p7 n7 c7 σ' st,n-i=g→i≤n→Aa 4 Mj σb σ' p7 n7 c7 st→(∀x∈st,VG x)→st.length≤i→(st.map D2).sum≤i*ss.length→DQ (T.drop i) (st.map (·.kind))=some [kf]→JK FF ss t T []=JK FF ss t (T.drop i) st→CN.Eu R (aD ab 0) 0 0 none 0 0 none 0 0 (aD rb 0) 8 8 p7 n7 c7 p n c n i σ' from
  H n 0 none 0 0 σb [] rfl (AWx _) (Aa.nil (.refl _)) (fun x hx=>(by cases hx)) (AWx _) (AWx _) hty rfl
 intro g
 induction g with
 | zero=>
  intro i p7 n7 c7 σ' st hgi hi ho hV hsl AO8 hT BC;rw[AXH (by omega)]at hT BC;have hk:st.map (·.kind)=[kf]:=by simpa[DQ] using hT
  have AJx:JK FF ss t T []=some st:=by rw[BC];rfl
  rw[AJx]at h
  match st,hk with
  | [x],_=>
   obtain⟨b,o,pv,nv,cv,qv,mv,dv,rfl,h1,h2,h3,h4,h5,h6⟩:=Mj.at (ho.rd Mj.mono) (i:=0) (x:=x) rfl;have hn7:1=n7:=ho.1.1;simp only[AYL,AX1]at h1 h2 h3 h4;exact CN.FE ⟨fun Am=>by omega,fun _=>⟨b,o,rfl,by omega,x.kind,x.v,pv,nv,cv,qv,mv,dv,⟨h1,h2,h3,h4,trivial⟩,h.ok x σ' pv nv cv qv mv dv rfl ho.up h5 h6⟩⟩
 | succ g ih=>
  intro i p7 n7 c7 σ' st hgi hi ho hV hsl AO8 hT BC;have Bj:i<n:=by omega
  obtain⟨x,hx⟩:=hr.ex Bj;obtain⟨b,o,p1,k1,c1,q1,m1,d1,rfl,Ee,v7,vN⟩:=Ha.at hr hx;have hX:=xb.trans ho.up;rw[BH hx]at hT BC;have GX:(Ba x (st.map (·.kind))).1=0:=AYr fun Ay=>by
   rw[DQ,AWj Ay]at hT;cases hT
  rw[DQ,AWl GX]at hT;obtain⟨hf,hpl,fP,eh,zK⟩:=XM GX;have zh:=UI hf;obtain⟨tp,htp⟩:∃tp:Nat,x.parts=tp:=⟨x.parts.toNat,by omega⟩;have hpt:x.parts.toNat=tp:=by omega
  have IH:st.length=n7:=ho.1.1;rw[AW9,IH,hpt]at eh zK;rw[AW9]at hpl;rw[zK]at hT;rw[←AY7]at eh hT;rw[←AZW]at hT;rw[JK,IH,hpt]at BC;have hLl:(st.drop (n7-tp)).length=tp:=by rw[AXS];omega
  have hLV:∀y∈st.drop (n7-tp),VG y:=fun y hy=>hV y (AYS hy);have Mm:(st.map D2).sum=((st.take (n7-tp)).map D2).sum+((st.drop (n7-tp)).map D2).sum:=by
   rw[←AYs,←AXG,AXr]
  have hsb:i*ss.length≤4096*10000000:=AYT (by omega) AO6;have qc:∀y∈st.drop (n7-tp),D2 y≤100000000000:=fun y hy=>by
   have:=iJ (f:=D2) (AYS hy);omega
  have DS:=ho.1.2;obtain⟨cs,Ui,hcc⟩:=DS;have ei:=Ao.cap Ui;have e1:Int.toNat ((n7:Int)-x.parts)=n7-tp:=by omega
  have Lu:Gq 4 σ' (Fe p7 (Int.toNat ((n7:Int)-x.parts)) c7 4) (n7-Int.toNat ((n7:Int)-x.parts)) ((cs.drop ((n7-tp)*4)).take ((n7-(n7-tp))*4)):=by
   rw[e1];exact Gq.sub Ui.rd (by omega) ei
  have hcd:Ch 4 Mj (σ'.del p7) ((cs.drop ((n7-tp)*4)).take ((n7-(n7-tp))*4)) (st.drop (n7-tp)):=by
   have h9:=hcc.drop (n7-tp);rwa[AWt (by have:=Ui.1;rw[AXS,this,←Nat.sub_mul];exact AWu _)]
  have hp7:∀a,p7=some a→σ' a.block≠none:=ho.1.block;have hk7:∀{y:Hp},Ext σ' y→∀a,p7=some a→∃o,y a.block=some o:=fun {y} hy a ha=>by
   cases hh:σ' a.block with
   | none=>exact absurd hh (hp7 a ha)
   | some u=>exact⟨u,hy _ _ hh⟩
  let AJy:Hp→Int→Int→Option Addr→Nat→Option Addr→Nat→Int→Prop:=fun y2 k v pv nv qv mv e=>
   (∃z,Hx FF ss t x (st.drop (n7-tp))=some z∧k=z.kind∧v=z.v∧e=0∧Aa 4 Mj σb y2 p7 n7 c7 st∧Ac 2 By (y2.del p7) pv nv z.vec∧Ac 2 To (y2.del p7) qv mv z.MX)∨(Hx FF ss t x (st.drop (n7-tp))=none∧e=223∧k=0∧v=0∧Ext σb y2)
  have tG:1≤x.kind∧x.kind≤7:=by
   have C2:=H9 hf;unfold FY at C2;by_cases h1:x.kind=1
   ·omega
   by_cases h2:x.kind=2
   ·omega
   by_cases h3:x.kind=3
   ·omega
   by_cases h4:x.kind=4
   ·omega
   by_cases h5:x.kind=5
   ·omega
   by_cases h6:x.kind=6
   ·omega
   rw[AWj h1,AWj h2,AWj h3,AWj h4,AWj h5,AWj h6]at C2;have:=(AWr C2).1;omega
  obtain⟨f0,hf0⟩:∃f0,wC[x.kind.toNat-1]?=some f0:=⟨_,AWm (show x.kind.toNat-1<7 by omega)⟩;have j0:=(ho.up).ld (AO7 x.kind f0 tG.1 tG.2 hf0);have wE:=ACT hf0;have iK:∀(y:Hp) (Qv:Option Addr) (Qw:Nat),Ext σ' y→Ac 4 Mj (y.del p7) Qv (n7-Int.toNat ((n7:Int)-x.parts)) (st.drop (n7-tp))→∀(R':Rr),(∀y2 k v pv nv cv qv mv dv e,AJy y2 k v pv nv qv mv e→R' (.T #[.agg #[.I k,.U v,.slice pv nv cv,.slice qv mv dv],.I e]) y2)→
    Spec prog f0 #[.pointer (some ⟨ab,0,none⟩),M0 x p1 k1 c1 q1 m1 d1,.slice Qv (n7-Int.toNat ((n7:Int)-x.parts)) Qw] y R':=fun y Qv Qw hy zL R' Mx=>by
   have rO:Ext σb (y.del p7):=ho.2.trans (hy.del p7);have hσ:Ext σ (y.del p7):=xb.trans rO;have hRV:IA (fun e τ'=>∀y2,(∀a,p7=some a→y2 a.block=y a.block)→y2.del p7=τ'→R' e y2) (y.del p7) (Hx FF ss t x (st.drop (n7-tp))):=by
    refine⟨fun z τ' pv nv cv qv mv dv hz A4 Gi HR _ _ y2 wF ACU=>?_,fun hz τ' A4 y2 wF ACU=>?_⟩
    ·subst ACU;refine Mx y2 _ _ _ _ _ _ _ _ _ (.inl ⟨z,hz,rfl,rfl,rfl,⟨⟨ho.1.1,cs,?_,hcc.mono Mj.mono ((hy.del p7).trans A4)⟩,rO.trans A4⟩,Gi,HR⟩);exact Ao.of_eq (Ao.mono hy Ui) wF
    ·subst ACU;exact Mx y2 _ _ _ _ _ _ _ _ _ (.inr ⟨hz,rfl,rfl,rfl,(rO.trans A4).trans (Ext.JR _ _)⟩)
   obtain⟨f,hf1,hf2,hf3,zo,hf5⟩:=ke (p:=p1) (c:=c1) (q:=q1) (d:=d1) (e:=Qw) (hA.mono hσ) (hg.mono hσ) (v7.mono Ni.mono hσ) (vN.mono hσ) hf fP eh (by rw[hLl,htp]) hLV qc zL hS ht hRV;rw[hf0]at hf3;cases hf3;exact Spec.ACS (hk7 hy) hf5
  have tail:∀(y2:Hp) (A7:Nat) (k v:Int) (pv:Option Addr) (nv cv:Nat) (qv:Option Addr) (mv dv:Nat) (e:Int),y2 A7=none→AJy y2 k v pv nv qv mv e→AH prog (Instr.storeAt 84 (.pointer (aD A7 0)) (.agg #[.I k,.U v,.slice pv nv cv,.slice qv mv dv])) (Hp.set y2 A7 AJv) (fun _ AJ=>Br (e≠0) (R (.T #[.agg #[.I 0,.U 0,.N,.N],.I e]) AJ) (((0:Int)≤((n7:Int)-x.parts)∧((n7:Int)-x.parts)≤(c7:Int))∧∃NS NT NU NV NW NY NZ Na,Av AJ A7 0 [.I NS,.U NT,.slice NU NV NW,.slice NY NZ Na]∧Al AJ fun Vo=>AH prog (Builtin.append_ #[120,120] 120 #[(.slice p7 (Int.toNat ((n7:Int)-x.parts)) c7),(.slice (aD Vo 0) 1 1)]) (Hp.set AJ Vo (.cells #[.I NS,.U NT,.slice NU NV NW,.slice NY NZ Na] 84 (0,0))) (CS fun dX n50 dY As=>AM ((i:Int)+1)∧CN.Eu R (aD ab 0) 0 0 none 0 0 none 0 0 (aD rb 0) 8 8 dX n50 dY (aD b o) n c n ((i:Int)+1) As))):=fun y2 A7 k v pv nv cv qv mv dv e hb hC=>by
   refine UE rfl (Hp.AA _ _ _) (by simp[Value.oneCell']) rfl ?_;rw[Hp.set_set];have x3:=Ext.set (o:=.cells #[.I k,.U v,.slice pv nv cv,.slice qv mv dv] 84 (0,0)) hb;rcases hC with ⟨z,hz,rfl,rfl,rfl,Bp,Gi,HR⟩|⟨hz,rfl,rfl,rfl,A4⟩
   ·refine⟨fun hh=>absurd rfl hh,fun _=>⟨by omega,z.kind,z.v,pv,nv,cv,qv,mv,dv,Av.Cm (Hp.AA _ _ _),fun Vo rC=>?_⟩⟩;obtain⟨w1,w2,w3⟩:=XL hS.ok hS.nn hf eh (by rw[hLl,htp]) hLV hz;rw[hz]at BC;have Db:=(Bp.mono Mj.mono x3).take (m:=n7-tp) (by omega);have hxd:=x3.del p7;have he:Mj ((y2.set A7 (.cells #[.I z.kind,.U z.v,.slice pv nv cv,.slice qv mv dv] 84 (0,0))).del p7) [.I z.kind,.U z.v,.slice pv nv cv,.slice qv mv dv] z:=⟨pv,nv,cv,qv,mv,dv,rfl,Gi.mono By.mono hxd,HR.mono To.mono hxd⟩;rw[e1];refine Aa.LZ Mj.mono Db rfl (Mj.one _ _ _ he) he (by omega) (fun p' c' y4 KW _=>⟨_,_,_,rfl,AN Bj hr.big,ih (i+1) _ _ _ _ (st.take (n7-tp)++[z]) (by omega) (by omega) KW (fun u hu=>?_) (by rw[AWz,AW0,AXc];omega) ?_ ?_ ?_⟩) rC
    ·rcases AW8.1 hu with hu|hu
     ·exact hV u (AYR hu)
     ·rw[AWs]at hu;rw[hu];exact w1
    ·rw[AXG,AYs,AXu,List.sum_singleton,AYU];omega
    ·rw[AXG,AXu,w2];exact hT
    ·exact BC
   ·refine⟨fun _=>h.no ?_ _ (A4.trans x3),fun hh=>absurd (by decide) hh⟩;rw[BC,hz];rfl
  have APA:∃u,σ' rb=some u:=by
   unfold Hp.ld at j0;cases hq:σ' rb with
   | none=>rw[hq]at j0;cases j0
   | some u=>exact⟨u,rfl⟩
  obtain⟨urb,VA⟩:=APA;refine CN.FE ⟨fun _=>⟨b,o,rfl,by omega,_,_,_,_,_,_,_,_,_,_,_,_,_,_,by simpa using Ee.mono hX,fun _=>⟨by unfold AM;omega,rb,0,rfl,by omega,_,j0,by omega,fun Ux kg=>⟨?_,fun A7 UJ=>?_⟩,fun A7 UJ Ux kg=>?_⟩⟩,fun hh=>by omega⟩
  ·refine Py Lu hcd hp7 kg (by omega) fun Qv Qw y zL hy=>⟨Qv,_,Qw,rfl,fun k hk u hu=>?_,?_,fun A7 UJ=>?_⟩
   ·rw[AWs]at hk;subst hk;rw[(Ext.set kg) _ _ VA]at hu;rw[hy _ _ VA];exact hu
   ·exact⟨f0,#[],#[],rfl,wE,iK y Qv Qw hy zL _ fun y2 k v pv nv cv qv mv dv e hC=>⟨k,v,pv,nv,cv,qv,mv,dv,e,rfl,fun A7 UJ=>tail y2 A7 k v pv nv cv qv mv dv e UJ hC⟩⟩
   ·exact⟨f0,#[],#[],rfl,wE,Spec.GU UJ (iK y Qv Qw hy zL _ fun y2 k v pv nv cv qv mv dv e hC rR=>⟨k,v,pv,nv,cv,qv,mv,dv,e,rfl,tail y2 A7 k v pv nv cv qv mv dv e rR hC⟩)⟩
  ·have vk:=(Hp.Bu UJ);refine AH.GU UJ (Py Lu hcd hp7 kg (by omega) fun Qv Qw y zL hy hny=>⟨Qv,_,Qw,rfl,fun k hk u hu=>?_,?_⟩)
   ·rw[AWs]at hk;subst hk;have Ay:k≠A7:=fun e=>by rw[e,vk.2]at VA;cases VA
    rw[Hp.AF Ay]at hu ⊢;rw[(Ext.set kg) _ _ VA]at hu;rw[hy _ _ VA];exact hu
   ·exact⟨f0,#[],#[],rfl,wE,Spec.GU hny (iK y Qv Qw hy zL _ fun y2 k v pv nv cv qv mv dv e hC rR=>⟨k,v,pv,nv,cv,qv,mv,dv,e,rfl,tail y2 A7 k v pv nv cv qv mv dv e rR hC⟩)⟩
  ·have wG:=(Hp.Bu kg);have vk:(σ'.set Ux (.cells #[] 84 (0,0))) A7=none:=by rw[Hp.AF (AXn wG.1)];exact UJ
   dsimp only;rw[Hp.KT (AXn wG.1)];refine AH.GU vk (Py Lu hcd hp7 wG.2 (by omega) fun Qv Qw y zL hy hny=>⟨Qv,_,Qw,rfl,fun k hk u hu=>?_,?_⟩)
   ·rw[AWs]at hk;subst hk;have Ay:k≠A7:=fun e=>by rw[e,UJ]at VA;cases VA
    rw[Hp.AF Ay]at hu ⊢;rw[(Ext.set wG.2) _ _ VA]at hu;rw[hy _ _ VA];exact hu
   ·exact⟨f0,#[],#[],rfl,wE,Spec.GU hny (iK y Qv Qw hy zL _ fun y2 k v pv nv cv qv mv dv e hC rR=>⟨k,v,pv,nv,cv,qv,mv,dv,e,rfl,tail y2 A7 k v pv nv cv qv mv dv e rR hC⟩)⟩
end
def CO (T:List Nd)(ss:List Sr):Int:=match JM T with
 | none=>220
 | some k=>if k=3 then 220 else if DC none ss=true then 0 else 224
def instF (T:List Nd)(ss:List Sr)(t:Int):Int×List El:=
 if CO T ss≠0 then(CO T ss,[]) else if ¬(-1099511627776≤t∧t≤1099511627776) then(221,[]) else match Aj FF T ss t with
  | none=>(223,[])
  | some l=>(0,l)
structure Modest (T:List Nd)(ss:List Sr):Prop where
 t:T.length≤2000000
 tx:∀x∈T,x.text.size≤4611686018427387904
 s:ss.length≤10000000
 ps:∀s∈ss,s.ps.length≤1000000000
 nn:∀s∈ss,∀p∈s.ps,0≤p.2
theorem Da:∀{ss:List Sr} {q:Option (List Lb)},DC q ss=true→∀s∈ss,Fo s.ls=0∧KZ s.ps=true
 | s::l,q,h,x,hx=>by
  rw[H0]at h;simp only[AWv,AW6]at h;rcases AWo.1 hx with rfl|hx
  ·exact⟨h.1.1.1,h.1.1.2⟩
  ·exact Da h.2 x hx
theorem ed.of {T:List Nd}{ss:List Sr}(hM:Modest T ss)(h:DC none ss=true):ed ss:=
 ⟨⟨fun s hs=>kC (Da h s hs).2,fun s hs=>Ai.of (Da h s hs).1,hM.s⟩,hM.nn,hM.ps⟩
section
variable {σ σ' σ0:Hp}{R:Rr}
theorem Qg {p q:Option Addr}{n c m d:Nat}{T:List Nd}{ss:List Sr}{t kf:Int}(hg:Gl σ)(hr:Ac 10 Ha σ p n T)(hs:Ac 2 CA σ q m ss)(hS:ed ss)(hn:n≤4096)(ht:-4611686018427387904≤t∧t≤4611686018427387904)(hty:DQ T []=some [kf])
  (h:∀l p' n' c' σ',Aj FF T ss t=some l→Ext σ σ'→Ac 2 By σ' p' n' l→R (.T #[.slice p' n' c',.I 0]) σ') (h':Aj FF T ss t=none→∀σ',Ext σ σ'→R (.T #[.N,.I 223]) σ') :
  Spec prog 18 #[.slice p n c,.slice q m d,.I t] σ R:=by
 refine FL.start fun ab aA=>?_;have xa:=Ext.set (o:=.cells #[.slice q m d,.I t] 88 (0,0)) aA;have hA:Qf (σ.set ab (.cells #[.slice q m d,.I t] 88 (0,0))) ab ss t:=⟨⟨q,m,d,Af (Hp.AA _ _ _) rfl,hs.mono CA.mono xa⟩,Af (Hp.AA _ _ _) rfl⟩;refine rL hA (hg.mono xa) (hr.mono Ha.mono xa) hS hn ht hty ⟨fun x σ1 pv nv cv qv mv dv hx Bi h1 h2=>?_,fun DS σ1 Bi=>?_⟩
 ·have hm:Aj FF T ss t=some (if x.kind=1 then[⟨[],x.v⟩] else x.vec):=by
   unfold Aj;cases BC:JK FF ss t T [] with
   | none=>rw[BC]at hx;cases hx
   | some st=>
    rw[BC]at hx;show(st.head?.map _)=_
    rw[show st.head?=some x from hx];rfl
  refine⟨_,_,_,_,_,_,_,_,_,rfl,fun _=>⟨fun hk=>fun LF APB=>FL.BE ?_,fun hk=>FL.BE ?_⟩⟩
  ·rw[AWl hk]at hm;refine h _ _ _ _ _ hm (xa.trans (Bi.trans (.set APB))) ⟨rfl,[.N,.U x.v],⟨rfl,by omega,.inr ⟨LF,0,rfl,Av.Cm (c:=[.N,.U x.v]) (Hp.AA _ _ _)⟩⟩,rfl,fun i y hy=>?_⟩;cases i with
   | zero=>
    simp only[AXI,AWp]at hy;subst hy;exact⟨none,0,0,rfl,Ac.nil⟩
   | succ i=>simp at hy
  ·rw[AWj hk]at hm;exact h _ _ _ _ _ hm (xa.trans Bi) h1
 ·have hm:Aj FF T ss t=none:=by
   unfold Aj;cases BC:JK FF ss t T [] with
   | none=>rfl
   | some st=>
    rw[BC]at DS;show(st.head?.map _)=_
    rw[show st.head?=none from DS];rfl
  exact⟨_,_,_,_,_,_,_,_,_,rfl,fun _=>⟨fun hk=>absurd hk (by decide),fun _=>FL.BE (h' hm _ (xa.trans Bi))⟩⟩
theorem WE {p q:Option Addr}{n c m d:Nat}{T:List Nd}{ss:List Sr}(hr:Ac 10 Ha σ p n T)(hs:Ac 2 CA σ q m ss)(hM:Modest T ss)(h:∀σ',Ext σ σ'→R (.returned (.I (CO T ss))) σ'):Spec prog 15 #[.slice p n c,.slice q m d] σ R:=by
 have hl:T.length=n:=hr.1;have hMt:=hM.t;refine Vq.start (T3 hr (by omega) hM.tx (fun k σ1 hk Bi=>⟨_,_,_,rfl,fun hh=>absurd rfl hh,fun _=>⟨fun h3=>?_,fun h3=>Ka (hs.mono CA.mono Bi) fun σ2 A4=>⟨_,rfl,fun Ay=>?_,fun h0=>?_⟩⟩⟩) fun k j e σ1 hk he Bi=>⟨_,_,_,rfl,fun _=>?_,fun hh=>absurd he hh⟩)
 ·have:=h σ1 Bi;rwa[show CO T ss=220 by unfold CO;rw[hk];exact AWl h3]at this
 ·have:=h σ2 (Bi.trans A4);have ho:¬DC none ss=true:=fun ho=>Ay (by rw[ho];rfl);rwa[show CO T ss=224 by unfold CO;rw[hk];show(if k=3 then _ else _)=_;rw[AWj h3,AWj ho]]at this
 ·have:=h σ2 (Bi.trans A4);have ho:DC none ss=true:=by
   cases hq:DC none ss with
   | true=>rfl
   | false=>rw[hq]at h0;exact absurd (by decide) h0
  rwa[show CO T ss=0 by unfold CO;rw[hk];show(if k=3 then _ else _)=_;rw[AWj h3,AWl ho]]at this
 ·have:=h σ1 Bi;rwa[show CO T ss=220 by unfold CO;rw[hk]]at this
def EIn (τ:Hp)(vs:List Value)(x:El×Nat):Prop:=∃p n c,vs=[.slice p n c,.slice (aD x.2 0) 1 1]∧Dz τ p n x.1.ls
theorem EIn.mono:Gs EIn:=fun _ _ _ _ hx ⟨p,n,c,hv,h⟩=>⟨p,n,c,hv,h.mono BM.mono hx⟩
structure bW (t:Int)(τ σ:Hp)(p:Option Addr)(n c:Nat)(l:List El)(bs:List Nat):Prop where
 len:bs.length=l.length
 own:∃cs,Ao 2 σ p n c cs∧Ch 2 EIn τ cs (l.zip bs)
 bX:∀(i b:Nat) (e:El),bs[i]?=some b→l[i]?=some e→σ b=some (.cells #[.I t,.U e.v] 42 (0,0))
 op:∀a,p=some a→τ a.block=none∧a.block ∉ bs
 tb:∀b∈bs,τ b=none
 nd:bs.Nodup
 ext:Ext τ σ
theorem bW.known {t:Int}{τ:Hp}{p:Option Addr}{n c:Nat}{l:List El}{bs:List Nat}(h:bW t τ σ p n c l bs):∀b∈bs,∃u,σ b=some u:=fun b hb=>by
 obtain⟨i,hi⟩:=AXN.1 hb;have Am:=(AWk.1 hi).1;exact⟨_,h.bX i b _ hi (AWm (by rw[←h.len];exact Am))⟩
theorem bW.mono {t:Int}{τ:Hp}{p:Option Addr}{n c:Nat}{l:List El}{bs:List Nat}(h:bW t τ σ p n c l bs)(hx:Ext σ σ'):bW t τ σ' p n c l bs:=
 ⟨h.len,let ⟨cs,h1,h2⟩:=h.own;⟨cs,h1.mono hx,h2⟩,fun i b e hb he=>hx _ _ (h.bX i b e hb he),h.op,h.tb,h.nd,h.ext.trans hx⟩
theorem bW.rd {t:Int}{τ:Hp}{p:Option Addr}{n c:Nat}{l:List El}{bs:List Nat}(h:bW t τ σ p n c l bs):Ac 2 CA σ p n (l.map fun e=>⟨e.ls,[(t,e.v)]⟩):=by
 obtain⟨cs,h1,h2⟩:=h.own;have hz:(l.zip bs).length=l.length:=by rw[AXx,h.len,AYW]
 have hln:l.length=n:=by
  have a1:=h1.1;have a2:=h2.1;rw[hz]at a2;omega
 refine⟨by rw[AW9];exact hln,cs,h1.rd,by rw[h2.1,hz,AW9],fun i s hs=>?_⟩;rw[AXM]at hs;cases he:l[i]? with
 | none=>rw[he]at hs;cases hs
 | some e=>
  rw[he]at hs;simp only[AXT,AWp]at hs;subst hs;have Am:=(AWk.1 he).1;obtain⟨b,hb⟩:∃b,bs[i]?=some b:=⟨_,AWm (by rw[h.len];exact Am)⟩;obtain⟨p1,n1,c1,hv,U9⟩:=h2.2 i (e,b) (AXd.2 ⟨he,hb⟩);refine⟨p1,n1,c1,aD b 0,1,1,hv,U9.mono BM.mono h.ext,⟨rfl,[.I t,.U e.v],⟨rfl,by omega,.inr ⟨b,0,rfl,Av.Cm (c:=[.I t,.U e.v]) (h.bX i b e hb he)⟩⟩,rfl,fun j y hy=>?_⟩,AWu _⟩;cases j with
  | zero=>simp only[AXI,AWp]at hy;subst hy;rfl
  | succ j=>simp at hy
theorem bW.add {t:Int}{τ:Hp}{p:Option Addr}{n c b:Nat}{l:List El}{bs:List Nat}{e:El}{pl:Option Addr}{nl cl:Nat}{y:Hp}{Φ:Value→Hp→Prop}(h:bW t τ σ p n c l bs)(hy:Ext σ y)(hr:Dz (σ.new y) pl nl e.ls)(hb:y b=none)(hn:n≤1000000000000)
  (hΦ:∀τ' p' c' σ',bW t τ' σ' p' (n+1) c' (l++[e]) (bs++[b])→Ext τ τ'→Φ (.slice p' (n+1) c') σ') :
  Al (Hp.set y b (.cells #[.I t,.U e.v] 42 (0,0))) fun Wm=>AH prog (Builtin.append_ #[23,23] 23 #[.slice p n c,(.slice (aD Wm 0) 1 1)]) (Hp.set (Hp.set y b (.cells #[.I t,.U e.v] 42 (0,0))) Wm (.cells #[.slice pl nl cl,.slice (aD b 0) 1 1] 45 (0,0))) Φ:=fun Wm ACW=>by
 obtain⟨cs,h1,h2⟩:=h.own;have xb:=Ext.set (o:=.cells #[.I t,.U e.v] 42 (0,0)) hb;have xc:=Ext.set (o:=.cells #[.slice pl nl cl,.slice (aD b 0) 1 1] 45 (0,0)) ACW;have X:=hy.trans (xb.trans xc);have hz:(l.zip bs).length=l.length:=by rw[AXx,h.len,AYW]
 have ACX:σ b=none:=Ae hy hb;have hnb:b≠Wm:=fun e=>by rw[←e,Hp.AA]at ACW;cases ACW
 refine CE (h1.mono X) (q:=aD Wm 0) (ys:=[.slice pl nl cl,.slice (aD b 0) 1 1]) ⟨rfl,by omega,.inr ⟨Wm,0,rfl,Av.Cm (c:=[.slice pl nl cl,.slice (aD b 0) 1 1]) (Hp.AA _ _ _)⟩⟩ (fun u hu=>by
  simp only[AWo,AXA,AXk]at hu;rcases hu with rfl|rfl<;>rfl) (by omega) fun p' c' σ5 Mw du=>?_
 have T:∀k u,σ k=some u→(∀a,p=some a→k≠a.block)→σ5 k=some u∧∀a,p'=some a→k≠a.block:=fun k u hk Ay=>by
  obtain⟨a1,a2⟩:=AR.1 (du k u (AR.2 ⟨Ay,X _ _ hk⟩));exact⟨a2,a1⟩
 have Tb:=AR.1 (du b _ (AR.2 ⟨fun a ha e=>h1.block a ha (by rw[←e];exact ACX),xc _ _ (Hp.AA _ _ _)⟩));have tt:Ext τ (τ.or (σ.new y)):=Ext.U2 _ _;have nt:Ext (σ.new y) (τ.or (σ.new y)):=Ext.Mh fun k hk=>by
  cases hh:τ k with
  | none=>rfl
  | some u=>
   have h3:=h.ext _ _ hh;cases h4:(σ.new y) k with
   | none=>exact absurd h4 hk
   | some v=>rw[(AQ.1 h4).1]at h3;cases h3
 have kn:∀k,(∃u,σ k=some u)→τ k=none→(τ.or (σ.new y)) k=none:=fun k ⟨u,hu⟩ hk=>by
  rw[Hp.Mh hk];cases hh:(σ.new y) k with
  | none=>rfl
  | some v=>rw[(AQ.1 hh).1]at hu;cases hu
 have tb:(τ.or (σ.new y)) b=none:=by
  rw[Hp.Mh (Ae h.ext ACX)];cases hh:(σ.new y) b with
  | none=>rfl
  | some v=>rw[(AQ.1 hh).2]at hb;cases hb
 have xA:b ∉ bs:=fun hc=>by obtain⟨u,hu⟩:=h.known b hc;rw[ACX]at hu;cases hu
 have hE5:Ext (τ.or (σ.new y)) σ5:=fun k u hk=>by
  have qQ:y k=some u:=(Ext.Y3 (h.ext.trans hy) (Ext.CW _ _)) _ _ hk;refine(AR.1 (du k u (AR.2 ⟨fun a ha e=>?_,xc _ _ (xb _ _ qQ)⟩))).2;have lV:∃u,σ a.block=some u:=by
   cases hh:σ a.block with
   | none=>exact absurd hh (h1.block a ha)
   | some u=>exact⟨u,rfl⟩
  rw[e,kn a.block lV (h.op a ha).1]at hk;cases hk
 refine hΦ (τ.or (σ.new y)) p' c' σ5 ⟨by simp[h.len],⟨_,Mw,?_⟩,fun i b' e' P6 Vw=>?_,fun a ha=>⟨?_,fun hc=>?_⟩,fun b' P6=>?_,?_,hE5⟩ tt
 ·rw[List.zip_append h.len.symm];exact(h2.mono EIn.mono tt).snoc rfl ⟨pl,nl,cl,rfl,hr.mono BM.mono nt⟩
 ·rw[AXt]at P6 Vw;split at P6
  ·rename_i Am;rw[AWl (by rw[←h.len];exact Am)]at Vw;have:=h.bX i b' e' P6 Vw;exact(T b' _ this fun a ha e=>(h.op a ha).2 (e▸AWn P6)).1
  ·rename_i Am;rw[AWj (by rw[←h.len];exact Am),←h.len]at Vw;cases hq:i-bs.length with
   | zero=>
    rw[hq]at P6 Vw;simp only[AXI,AWp]at P6 Vw;subst P6;subst Vw;exact Tb.2
   | succ j=>rw[hq]at P6;simp at P6
 ·cases hh:(τ.or (σ.new y)) a.block with
  | none=>rfl
  | some u=>
   exfalso;have qQ:y a.block=some u:=(Ext.Y3 (h.ext.trans hy) (Ext.CW _ _)) _ _ hh;refine(AR.1 (du a.block u (AR.2 ⟨fun a' Hb e=>?_,xc _ _ (xb _ _ qQ)⟩))).1 a ha rfl;have lV:∃u,σ a'.block=some u:=by
    cases hh:σ a'.block with
    | none=>exact absurd hh (h1.block a' Hb)
    | some u=>exact⟨u,rfl⟩
   rw[e,kn a'.block lV (h.op a' Hb).1]at hh;cases hh
 ·rcases AW8.1 hc with hc|hc
  ·obtain⟨u,hu⟩:=h.known _ hc;exact(T a.block u hu fun a' Hb e=>(h.op a' Hb).2 (e▸hc)).2 a ha rfl
  ·rw[AWs]at hc;exact Tb.1 a ha hc.symm
 ·rcases AW8.1 P6 with P6|P6
  ·exact kn b' (h.known _ P6) (h.tb _ P6)
  ·rw[AWs]at P6;rw[P6];exact tb
 ·rw[AYD];exact⟨h.nd,by simp,fun a ha b' P6 e=>by rw[AWs]at P6;rw[e,P6]at ha;exact xA ha⟩
end
theorem rU {ss:List Sr}{t:Int}(hS:ed ss):∀(T:List Nd) (st r:List Vv) (ty:List Int),DQ T (st.map (·.kind))=some ty→JK FF ss t T st=some r→(∀x∈st,VG x)→(∀x∈r,VG x)∧(r.map D2).sum≤(st.map D2).sum+T.length*ss.length
 | [],st,r,ty,_,hr,hV=>by
  cases hr;exact⟨hV,by omega⟩
 | x::T,st,r,ty,hT,hr,hV=>by
  have GX:(Ba x (st.map (·.kind))).1=0:=AYr fun Ay=>by
   rw[DQ,AWj Ay]at hT;cases hT
  rw[DQ,AWl GX]at hT;obtain⟨hf,hpl,fP,eh,zK⟩:=XM GX;have zh:=UI hf;rw[AW9]at eh zK hpl;rw[zK,←AY7,←AZW]at hT;rw[←AY7]at eh;rw[JK]at hr;have hLl:((st.drop (st.length-x.parts.toNat)).length:Int)=x.parts:=by rw[AXS];omega
  have hLV:∀y∈st.drop (st.length-x.parts.toNat),VG y:=fun y hy=>hV y (AYS hy);have Mm:(st.map D2).sum=((st.take (st.length-x.parts.toNat)).map D2).sum+((st.drop (st.length-x.parts.toNat)).map D2).sum:=by
   rw[←AYs,←AXG,AXr]
  cases hz:Hx FF ss t x (st.drop (st.length-x.parts.toNat)) with
  | none=>rw[hz]at hr;cases hr
  | some z=>
   rw[hz]at hr;obtain⟨w1,w2,w3⟩:=XL hS.ok hS.nn hf eh hLl hLV hz;obtain⟨g1,g2⟩:=rU hS T (st.take (st.length-x.parts.toNat)++[z]) r ty (by rw[AXG,AXu,w2];exact hT) hr (fun u hu=>by
    rcases AW8.1 hu with hu|hu
    ·exact hV u (AYR hu)
    ·rw[AWs]at hu;rw[hu];exact w1)
   refine⟨g1,?_⟩;rw[AXG,AYs,AXu,List.sum_singleton]at g2;rw[AWw,AYU];omega
theorem ID {ss:List Sr}{t k:Int}{T:List Nd}{l:List El}(hS:ed ss)(hT:DQ T []=some [k])(h:Aj FF T ss t=some l):(∀e∈l,Ai e.ls)∧l.length≤1+T.length*ss.length:=by
 unfold Aj at h;cases hr:JK FF ss t T [] with
 | none=>rw[hr]at h;cases h
 | some st=>
  rw[hr]at h;obtain⟨g1,g2⟩:=rU hS T [] st _ hT hr (fun x hx=>by cases hx)
  change (st.head?.map fun v:Vv=>if v.kind=1 then[(⟨[],v.v⟩:El)] else v.vec)=some l at h
  cases st with
  | nil=>cases h
  | cons v st=>
   simp only[AYo,AXT,AWp]at h;have hv:=g1 v (by simp);rw[AXa,AZs]at g2;simp only[AZI,AZ1]at g2;unfold D2 at g2;split at h
   ·subst h;exact⟨fun e he=>by rw[AWs]at he;subst he;exact⟨AWx _,fun x hx=>by cases hx⟩,by simp⟩
   ·subst h;exact⟨fun e he=>(hv.el e he).1,by omega⟩
section
variable {σ σ' σ0:Hp}{R:Rr}
theorem Pz {t:Int}(h:R (.returned (.bool (decide (-1099511627776≤t∧t≤1099511627776)))) σ):Spec prog 16 #[.I t] σ R:=by
 refine Vg.start ⟨fun h1=>?_,fun h1=>?_⟩
 ·rw[show decide (-1099511627776≤t∧t≤1099511627776)=decide (t≤1099511627776) from AX0.2 ⟨fun h=>h.2,fun h=>⟨h1,h⟩⟩]at h;exact h
 ·rw[show decide (-1099511627776≤t∧t≤1099511627776)=false from AXC fun hh=>h1 hh.1]at h;exact h
theorem Ki {T:List Nd}{k:Int}(h:JM T=some k):DQ T []=some [k]∧T.length≤4096:=by
 unfold JM at h;cases hr:DQ T [] with
 | none=>rw[hr]at h;cases h
 | some st=>
  rw[hr]at h
  match st with
  | []=>cases h
  | [x]=>
   change (if T.length≤4096 then some x else none)=some k at h
   split at h
   ·rename_i h4;cases h;exact⟨rfl,h4⟩
   ·cases h
  | _::_::_=>cases h
theorem inst_spec {p q:Option Addr}{n c m d:Nat}{T:List Nd}{ss:List Sr}{t:Int}(hg:Gl σ)(hr:Ac 10 Ha σ p n T)(hs:Ac 2 CA σ q m ss)(hM:Modest T ss)
  (h:∀τ p' n' c' σ' bs,(instF T ss t).1=0→bW t τ σ' p' n' c' (instF T ss t).2 bs→Ext σ τ→R (.T #[.slice p' n' c',.I 0]) σ') (h':∀σ',(instF T ss t).1≠0→Ext σ σ'→R (.T #[.N,.I (instF T ss t).1]) σ') :
  Spec prog 9 #[.slice p n c,.slice q m d,.I t] σ R:=by
 refine DE.start (WE hr hs hM fun σ1 Bi=>⟨_,rfl,fun Ay=>?_,fun h0=>Pz ⟨_,rfl,fun htf=>?_,fun htt=>?_⟩⟩)
 ·have e:instF T ss t=(CO T ss,[]):=by unfold instF;rw[AWl Ay]
  rw[e] at h';exact h' σ1 Ay Bi
 ·have e:instF T ss t=(221,[]):=by unfold instF;rw[AWj h0,AWl (AW2 htf)]
  rw[e] at h';exact h' σ1 (by dsimp only;decide) Bi
 have Qb:=AW7.1 h0;have ht:=AWr htt;obtain⟨k,hk,hk3,CH⟩:∃k,JM T=some k∧k≠3∧DC none ss=true:=by
  unfold CO at Qb;cases hq:JM T with
  | none=>rw[hq]at Qb;dsimp only at Qb;exact absurd Qb (by decide)
  | some k=>
   rw[hq]at Qb;dsimp only at Qb;by_cases h3:k=3
   ·rw[AWl h3]at Qb;exact absurd Qb (by decide)
   ·rw[AWj h3]at Qb;cases ho:DC none ss with
    | true=>exact⟨k,rfl,h3,rfl⟩
    | false=>rw[ho]at Qb;exact absurd Qb (by decide)
 have hS:=ed.of hM CH;obtain⟨BC,hlen⟩:=Ki hk;have hl:T.length=n:=hr.1;refine Qg (hg.mono Bi) (hr.mono Ha.mono Bi) (hs.mono CA.mono Bi) hS (by omega) (by omega) BC (fun l p' n' c' σ2 hm A4 U9=>⟨_,_,_,_,rfl,fun hh=>absurd rfl hh,fun _=>?_⟩) fun hm σ2 A4=>⟨_,_,_,_,rfl,fun _=>?_,fun hh=>absurd (by decide) hh⟩
 ·have e:instF T ss t=(0,l):=by unfold instF;rw[AWj h0,AWj (by rw[AW7];exact ht),hm]
  rw[e]at h;dsimp only at h;have hll:l.length=n':=U9.1;have hX:=Bi.trans A4;obtain⟨mo1,mo2⟩:=ID hS BC hm;have APD:n'≤100000000000:=by
   have:=AYT hlen hS.ok.len;omega
  suffices H:∀g i:Nat,∀τ p1 n1 c1 σ3 bs,n'-i=g→i≤n'→bW t τ σ3 p1 n1 c1 (l.take i) bs→Ext σ2 τ→DE.dI R t p1 n1 c1 p' n' c' n' i σ3 from
   H n' 0 σ2 none 0 0 σ2 [] rfl (AWx _) ⟨rfl,⟨[],Ao.nil,by simp[Ch]⟩,fun i b e hb=>(by simp at hb),fun a ha=>(by cases ha),fun b hb=>(by cases hb),AYH,.refl _⟩ (.refl _)
  intro g
  induction g with
  | zero=>
   intro i τ p1 n1 c1 σ3 bs hgi hi hA CG;rw[AWt (by omega)]at hA;exact DE.gB ⟨fun Am=>by omega,fun _=>h τ p1 n1 c1 σ3 bs rfl hA (hX.trans CG)⟩
  | succ g ih=>
   intro i τ p1 n1 c1 σ3 bs hgi hi hA CG;have Bj:i<n':=by omega
   obtain⟨x,hx⟩:=U9.ex Bj;obtain⟨b,o,q1,m1,d1,rfl,Ee,XH⟩:=By.at U9 hx;have hX3:=CG.trans hA.ext;have ACY:=XH.mono BM.mono hX3;have kh:m1≤1000000000:=by
    have:=(mo1 x (AWn hx)).rd XH;omega
   have hn1:n1=i:=by
    obtain⟨cs,a1,a2⟩:=hA.own;have a3:=a1.1;have a4:=a2.1;rw[AXx,hA.len,AYW,AW0]at a4;omega
   have next:∀τ' p2 c2 σ4 bs',bW t τ' σ4 p2 (n1+1) c2 (l.take i++[x]) bs'→Ext τ τ'→AM ((i:Int)+1)∧DE.dI R t p2 (n1+1) c2 (aD b o) n' c' n' ((i:Int)+1) σ4:=fun τ' p2 c2 σ4 bs' hA' MH=>
    ⟨AN Bj U9.big,ih (i+1) τ' p2 (n1+1) c2 σ4 bs' (by omega) (by omega) (by rw[Ag hx];exact hA') (CG.trans MH)⟩
   refine DE.gB ⟨fun _=>⟨b,o,rfl,by omega,q1,m1,d1,x.v,by simpa using Ee.mono hX3,fun _=>⟨fun Xg kY=>⟨?_,fun Qu ki=>?_⟩,fun Qu ki Xg kY=>?_⟩⟩,fun hh=>by omega⟩
   ·refine E8 ACY kh (fun lM lN y ho hy=>⟨_,_,_,rfl,fun Qu ki=>bW.add hA hy (ho.rd BM.mono) ki (by omega) fun τ' p2 c2 σ4 hA' MH=>⟨_,_,_,rfl,next _ _ _ _ _ hA' MH⟩⟩) kY
   ·have AJ0:=(Hp.Bu ki);refine AH.GU ki (E8 ACY kh (fun lM lN y ho hy hny=>⟨_,_,_,rfl,bW.add hA hy (ho.rd BM.mono) hny (by omega) fun τ' p2 c2 σ4 hA' MH=>⟨_,_,_,rfl,next _ _ _ _ _ hA' MH⟩⟩) kY)
   ·have ACa:=(Hp.Bu kY);have AJ0:(σ3.set Xg (.cells #[] 36 (0,0))) Qu=none:=by rw[Hp.AF (AXn ACa.1)];exact ki
    dsimp only;rw[Hp.KT (AXn ACa.1)];refine AH.GU AJ0 (E8 ACY kh (fun lM lN y ho hy hny=>⟨_,_,_,rfl,bW.add hA hy (ho.rd BM.mono) hny (by omega) fun τ' p2 c2 σ4 hA' MH=>⟨_,_,_,rfl,next _ _ _ _ _ hA' MH⟩⟩) ACa.2)
 ·have e:instF T ss t=(223,[]):=by unfold instF;rw[AWj h0,AWj (by rw[AW7];exact ht),hm]
  rw[e] at h';exact h' σ2 (by dsimp only;decide) (Bi.trans A4)
end
def Nu (v:Int):Prop:=(H6 v.toNat=false∧0≤v)∨v=9221120237041090560
theorem rV {x:Nat}(h:H6 x=false∨x=9221120237041090560):Nu (x:Nat):=by
 rcases h with h|h
 ·exact .inl ⟨by rw[AYe];exact h,AX7 _⟩
 ·exact .inr (by rw[h];rfl)
theorem P0 (x:Nat):Nu (toF x:Nat):=rV (by
 unfold toF;split
 ·exact .inr rfl
 ·rename_i h;exact .inl (by simpa using h))
theorem XN (x:Int):Nu (eF x):=P0 _
theorem ej (op:Int)(a b:Nat):Nu (W6 op a b:Nat):=by
 unfold W6;cases fAr op a b with
 | none=>exact .inr rfl
 | some r=>exact P0 r
theorem Kj (op a b:Int):Nu (RP op a b):=ej _ _ _
theorem WG {neg:Bool}{r:Nat}(h:r≤9218868437227405312):H6 (Ieee.double.word neg r)=false:=by
 cases hf:H6 (Ieee.double.word neg r) with
 | false=>rfl
 | true=>
  rw[Kb]at hf;have e:Ieee.double.word neg r=if neg then 9223372036854775808+r else r:=by cases neg<;>rfl
  rw[e]at hf;cases neg
  ·simp only[AYZ,AX9]at hf;omega
  ·simp only[AYY]at hf;omega
theorem P1 (n:Int):Nu (BN n):=rV (.inl (by
 show H6 (Ieee.double.nearest (n<0) n.natAbs 0)=false
 unfold Ieee.Format.nearest;dsimp only;split
 ·exact WG (AWx _)
 ·exact WG (AXD (Nat.min_le_right ..) (by decide))))
theorem AJ1:Nu 0:=.inl ⟨by decide,by decide⟩
theorem ao {f:Int→Int→Int}(hf:∀a b,Nu a→Nu (f a b)):∀(l:List Int) (a:Int),Nu a→Nu (l.foldl f a)
 | [],a,h=>h
 | x::l,a,h=>ao hf l _ (hf a x h)
theorem iL:∀vs,Nu (U4 vs)
 | []=>AJ1
 | v::l=>ao (fun a b _=>Kj 1 a b) l _ (XN v)
theorem Nv (op:Int):∀vs,Nu (Kd op vs)
 | []=>AJ1
 | v::l=>XN _
theorem rW (vs:List Int):Nu (Kf vs):=by
 unfold Kf;have:∀(l:List (Int×Int)) (a:Int),Nu a→Nu (l.foldl Ke a):=fun l=>by
  induction l with
  | nil=>intro a h;exact h
  | cons x l ih=>
   intro a h;refine ih _ ?_;unfold Ke;split
   ·exact Kj _ _ _
   ·exact h
 exact this _ _ (Kj _ _ _)
theorem rX (op:Int)(vs:List Int):Nu (foldI op vs):=by
 unfold foldI;split
 ·exact iL _
 ·split
  ·exact Nv _ _
  ·split
   ·exact Nv _ _
   ·split
    ·exact Kj _ _ _
    ·exact P1 _
theorem rY {op:Int}{vs:List Int}{w x:Int}(h:IB op vs w=some x):Nu x:=by
 unfold IB at h;split at h
 ·rw[←AXF h];exact iL _
 split at h
 ·rw[←AXF h];exact Kj _ _ _
 split at h
 ·rw[←AXF h];exact Nv _ _
 split at h
 ·rw[←AXF h];exact Nv _ _
 split at h
 ·rw[←AXF h];exact P1 _
 split at h
 ·rw[←AXF h];exact XN _
 split at h
 ·rw[←AXF h];exact ej _ _ _
 split at h
 ·exact absurd h.symm (Option.some_ne_none _)
 split at h
 ·rw[←AXF h];exact Kj _ _ _
 split at h
 ·rw[←AXF h];exact rW _
 ·rw[←AXF h];exact Kj _ _ _
theorem Nw (op a b:Int):Nu (IC op a b).1:=by
 unfold IC;split
 ·exact Kj _ _ _
 ·show Nu (if _ then BN 1 else BN 0)
  split<;>exact P1 _
theorem wH (s:ByteArray):Nu (aZ s):=by
 unfold aZ;dsimp only;split
 ·exact P0 _
 ·split
  ·exact P0 _
  ·exact ej _ _ _
theorem kj (x:Int):Nu (Mk x):=by
 unfold Mk Kc;split
 ·exact .inr rfl
 ·exact P0 _
theorem wJ (x:Int):Nu (W7 x):=P0 _
theorem aq (x:Int):Nu (qW x):=XN _
theorem rZ:∀x y:List UInt8,Op.bytesLess x y=true∨x=y∨Op.bytesLess y x=true
 | [],[]=>.inr (.inl rfl)
 | [],_::_=>.inl rfl
 | _::_,[]=>.inr (.inr rfl)
 | a::x,b::y=>by
  simp only[Op.bytesLess,AYa,AWv,AW6,AYx];rcases AY3 a.toNat b.toNat with h|h|h
  ·exact .inl (.inl (AXv.2 h))
  ·have e:a=b:=AZd.1 h;subst e;rcases rZ x y with h|h|h
   ·exact .inl (.inr ⟨rfl,h⟩)
   ·exact .inr (.inl (by rw[h]))
   ·exact .inr (.inr (.inr ⟨rfl,h⟩))
  ·exact .inr (.inr (.inl (AXv.2 h)))
theorem UK:∀x y z:List UInt8,Op.bytesLess x y=true→Op.bytesLess y z=true→Op.bytesLess x z=true
 | _,_,[],_,h=>by cases ‹List UInt8›<;>simp[Op.bytesLess]at h
 | [],_,_::_,_,_=>rfl
 | _::_,[],_,h,_=>by simp[Op.bytesLess]at h
 | a::x,b::y,c::z,h1,h2=>by
  simp only[Op.bytesLess,AYa,AWv,AW6,AYx,AXv]at h1 h2 ⊢;rcases h1 with h1|⟨rfl,h1⟩
  ·rcases h2 with h2|⟨rfl,h2⟩
   ·exact .inl (by omega)
   ·exact .inl h1
  ·rcases h2 with h2|⟨rfl,h2⟩
   ·exact .inl h2
   ·exact .inr ⟨rfl,UK x y z h1 h2⟩
theorem ek:∀x:List UInt8,Op.bytesLess x x=false
 | []=>rfl
 | a::x=>by simp[Op.bytesLess,ek x]
theorem ra {a b:ByteArray}(h:sle b a=false):Op.bytesLess a.toList b.toList=true:=by
 unfold sle at h;simp only[Bool.or_eq_false_iff,AYn]at h;rcases rZ a.toList b.toList with h1|h1|h1
 ·exact h1
 ·exact absurd h1.symm h.2
 ·rw[h1]at h;exact absurd h.1 (by decide)
theorem rf {p x y:ByteArray}(h1:sle x p=false)(h2:sle y x=false):sle y p=false:=by
 have h3:=UK _ _ _ (ra h1) (ra h2);cases h:sle y p with
 | false=>rfl
 | true=>
  unfold sle at h;simp only[AYa,AYx]at h;rcases h with h|h
  ·have:=UK _ _ _ h3 h;rw[ek]at this;cases this
  ·rw[h,ek]at h3;cases h3
theorem Nx {pv:Option ByteArray}{x:Lb}{l:List Lb}:Fu pv (x::l)=0↔¬FT x.1=false∧¬(x.2.size=0∨256<x.2.size∨Qz x.2=false)∧¬pv.any (sle x.1 ·)=true∧Fu (some x.1) l=0:=by
 have e:Fu pv (x::l)=if FT x.1=false then 31 else if x.2.size=0∨256<x.2.size∨Qz x.2=false then 32 else if pv.any (sle x.1 ·)=true then 33 else Fu (some x.1) l:=by cases pv<;>rfl
 rw[e]
 constructor
 ·intro h;split at h
  ·cases h
  split at h
  ·cases h
  split at h
  ·cases h
  exact⟨by assumption,by assumption,by assumption,h⟩
 ·rintro⟨h1,h2,h3,h4⟩
  rw[AWj h1,AWj h2,AWj h3];exact h4
theorem rh {pv:Option ByteArray}{k:ByteArray}(hk:∀p,pv=some p→sle k p=false):∀{l:List Lb},Fu (some k) l=0→Fu pv l=0
 | [],_=>by cases pv<;>rfl
 | x::l,h=>by
  obtain⟨h1,h2,h3,h4⟩:=Nx.1 h;refine Nx.2 ⟨h1,h2,?_,h4⟩;cases pv with
  | none=>simp
  | some p=>
   simp only[Option.any_some,Bool.not_eq_true]at h3 ⊢;exact rf (hk p rfl) h3
theorem UL (g:Lb→Bool):∀(ls:List Lb) (pv:Option ByteArray),Fu pv ls=0→Fu pv (ls.filter g)=0
 | [],pv,_=>by cases pv<;>rfl
 | x::l,pv,h=>by
  obtain⟨h1,h2,h3,h4⟩:=Nx.1 h;have ih:=UL g l _ h4;rw[List.filter_cons];split
  ·exact Nx.2 ⟨h1,h2,h3,ih⟩
  ·refine rh (fun p hp=>?_) ih;subst hp;simpa using h3
theorem Fa {ls:List Lb}(g:Lb→Bool)(h:Fo ls=0):Fo (ls.filter g)=0:=by
 unfold Fo at h ⊢;split at h
 ·cases h
 ·rename_i h16;have:=AXO g ls;rw[AWj (by omega)];exact UL g ls none h
theorem GH {ls:List Lb}(h:Fo ls=0):Fo (DB ls)=0:=Fa _ h
theorem wK {n:Nd}{ls:List Lb}(h:Fo ls=0):Fo (My n ls)=0:=by
 unfold My;split
 ·exact Fa _ h
 ·exact GH (Fa _ h)
theorem eo {n:Nd}{ls:List Lb}(h:Fo ls=0):Fo (D0 n ls)=0:=by
 unfold D0;split
 ·exact Fa _ h
 ·split
  ·exact GH (Fa _ h)
  ·rfl
def iM (l:List El):Prop:=l.Pairwise fun a b=>AX a.ls b.ls<0
def kl (ss:List Sr)(e:El):Prop:=Fo e.ls=0∧(Nu e.v∨∃s∈ss,∃p∈s.ps,p.2=e.v)
structure VS (ss:List Sr)(x:Vv):Prop where
 el:∀e∈x.vec,kl ss e
 up:iM x.vec
 rg:∀r∈x.MX,Fo r.ls=0
 one:x.kind=1→Nu x.v
theorem et {l m:List El}(h:DN FF l=some m):iM m:=by
 have hp:=LO h;unfold DN at h;split at h
 ·rename_i hd;cases h;have h1:=Is (F:=FF) rfl l;have h2:(gj FF l).Pairwise fun a b=>AX a.ls b.ls≠0:=(hp.pairwise_iff (fun {x y} Mz hyx=>Mz (by rw[(AO.eq _ _).1 hyx];exact(AO.eq _ _).2 rfl))).2 hd;exact(h1.and h2).imp fun {a b} aA=>by
   have h3:AX a.ls b.ls≤0:=aA.1;have h4:=aA.2;omega
 ·cases h
theorem Mq {ss:List Sr}{l m:List El}(h:DN FF l=some m)(hl:∀e∈l,kl ss e):VS ss ⟨2,0,m,[]⟩:=
 ⟨fun e he=>hl e ((LO h).mem_iff.1 he),et h,fun r hr=>(by cases hr),fun hh=>absurd (show(2:Int)=1 from hh) (by decide)⟩
theorem eu {ss:List Sr}{v:Int}(h:Nu v):VS ss ⟨1,v,[],[]⟩:=⟨fun e he=>(by cases he),.nil,fun r hr=>(by cases hr),fun _=>h⟩
theorem FB:∀{ss:List Sr} {q:Option (List Lb)},DC q ss=true→(∀k,q=some k→∀s∈ss,AX k s.ls<0)∧ss.Pairwise fun a b=>AX a.ls b.ls<0
 | [],q,_=>⟨fun k _ s hs=>(by cases hs),.nil⟩
 | s::l,q,h=>by
  rw[H0]at h;simp only[AWv]at h;obtain⟨h1,h2⟩:=FB h.2;refine⟨fun k hk u hu=>?_,AXJ.2 ⟨fun u hu=>h1 s.ls rfl u hu,h2⟩⟩;subst hk;have h3:AX k s.ls<0:=AWr h.1.2;rcases AWo.1 hu with rfl|hu
  ·exact h3
  ·exact AO.trans _ _ _ h3 (h1 s.ls rfl u hu)
theorem km {ss:List Sr}{n:Nd}{t:Int}(h:DC none ss=true):VS ss ⟨2,0,RN FF n ss t,[]⟩:=by
 have key:∀(s:Sr) (e:El),(match (FU s.ps (t-n.back-300) (t-n.back)).getLast? with
  | none=>none
  | some p=>if p.2=Hv∨FF.Y7 n.mt s.ls=false then none else some (⟨s.ls,p.2⟩:El))=some e→e.ls=s.ls∧∃p∈s.ps,p.2=e.v:=fun s e he=>by
  split at he
  ·cases he
  ·rename_i p hl;split at he
   ·cases he
   ·simp only[AWp]at he;subst he;exact⟨rfl,p,(AYA.1 (AZH hl)).1,rfl⟩
 refine⟨fun e he=>?_,?_,fun r hr=>(by cases hr),fun hh=>absurd (show(2:Int)=1 from hh) (by decide)⟩
 ·obtain⟨s,hs,h1⟩:=AXg.1 he;obtain⟨h2,p,hp,hv⟩:=key s e h1;exact⟨by rw[h2];exact(Da h s hs).1,.inr ⟨s,hs,p,hp,hv⟩⟩
 ·show(List.filterMap _ ss).Pairwise _
  refine List.pairwise_filterMap.2 ((FB h).2.imp fun {a b} aA e he e' Vw=>?_);rw[(key a e he).1,(key b e' Vw).1];exact aA
theorem ri {ss:List Sr}{n:Nd}{t:Int}(h:DC none ss=true):VS ss ⟨3,FF.whole n.width,[],W2 FF n ss t⟩:=by
 refine⟨fun e he=>(by cases he),.nil,fun r hr=>?_,fun hh=>absurd (show(3:Int)=1 from hh) (by decide)⟩;obtain⟨s,hs,h1⟩:=AXg.1 hr;dsimp only at h1;generalize (!_&&FF.Y7 n.mt s.ls)=b at h1;cases b with
 | false=>cases h1
 | true=>
  simp only[AYu,AWp]at h1;subst h1;exact(Da h s hs).1
theorem rj {ss:List Sr}{n:Nd}{x:Vv}(hx:VS ss x):∀e∈Tl FF n x,kl ss e:=fun e he=>by
 rcases AW8.1 he with he|he
 ·obtain⟨y,hy,rfl⟩:=AXB.1 he;refine⟨GH (hx.el y hy).1,.inl ?_⟩;show Nu (if n.op=11 then W7 y.v else Mk y.v)
  split
  ·exact wJ _
  ·exact kj _
 ·obtain⟨y,hy,h1⟩:=AXg.1 he;have h2:(IB n.op y.vs x.v).map (fun v=>(⟨DB y.ls,v⟩:El))=some e:=h1;cases ho:IB n.op y.vs x.v with
  | none=>rw[ho]at h2;cases h2
  | some z=>
   rw[ho]at h2;simp only[AXT,AWp]at h2;subst h2;exact⟨GH (hx.rg y hy),.inl (rY ho)⟩
theorem au {ls:List Lb}{v:Int}:∀{l:List Rg} {g:Rg},g∈Hw ls v l→g.ls=ls∨∃y∈l,y.ls=g.ls
 | [],g,h=>by
  unfold Hw at h;rw[AWs]at h;exact .inl (by rw[h])
 | y::l,g,h=>by
  unfold Hw at h;split at h
  ·rcases AWo.1 h with rfl|h
   ·exact .inr ⟨y,by simp,rfl⟩
   ·exact .inr ⟨g,AWq _ h,rfl⟩
  ·rcases AWo.1 h with rfl|h
   ·exact .inr ⟨g,by simp,rfl⟩
   ·rcases au h with h|⟨z,hz,h⟩
    ·exact .inl h
    ·exact .inr ⟨z,AWq _ hz,h⟩
theorem WH {n:Nd}:∀(l:List El) (gs:List Rg),(∀e∈l,Fo e.ls=0)→(∀g∈gs,Fo g.ls=0)→∀g∈l.foldl (fun gs x=>Hw (D0 n x.ls) x.v gs) gs,Fo g.ls=0
 | [],gs,_,h=>h
 | x::l,gs,hl,h=>by
  refine WH l _ (fun e he=>hl e (AWq _ he)) fun g hg=>?_;rcases au hg with h1|⟨y,hy,h1⟩
  ·rw[h1];exact eo (hl x (by simp))
  ·rw[←h1];exact h y hy
theorem wN {ss:List Sr}{n:Nd}{x:Vv}(hx:VS ss x):∀e∈dz FF n x,kl ss e:=fun e he=>by
 obtain⟨g,hg,rfl⟩:=AXB.1 he;exact⟨WH (n:=n) x.vec [] (fun e he=>(hx.el e he).1) (fun g hg=>by cases hg) g hg,.inl (rX _ _)⟩
theorem iN {ss:List Sr}{n:Nd}{l:List El}{f:Int→Int×Bool}(hl:∀e∈l,kl ss e)(hf:∀v,Nu (f v).1):∀e∈Tm n l f,kl ss e:=fun e he=>by
 obtain⟨y,hy,h1⟩:=AXg.1 he;split at h1
 ·simp only[AWp]at h1;subst h1;exact⟨GH (hl y hy).1,.inl (hf _)⟩
 ·split at h1
  ·simp only[AWp]at h1;subst h1;exact hl y hy
  ·cases h1
theorem rk {ss:List Sr}{n:Nd}{x y:List El}(hx:∀e∈x,kl ss e)(hy:∀e∈y,kl ss e):∀e∈MJ n x y,kl ss e:=fun e he=>by
 unfold MJ at he;rcases AW8.1 he with he|he
 ·exact hx e (AYA.1 he).1
 ·exact hy e (AYA.1 he).1
theorem rl {ss:List Sr}{n:Nd}{x y m:List El}(hx:∀e∈x,kl ss e)(h:Nh FF n x y=some m):∀e∈m,kl ss e:=by
 unfold Nh at h;split at h
 ·simp only[AWp]at h;subst h;intro e he;obtain⟨z,hz,h1⟩:=AXg.1 he;split at h1
  ·cases h1
  ·split at h1
   ·simp only[AWp]at h1;subst h1;exact⟨wK (hx z hz).1,.inl (Nw _ _ _)⟩
   ·split at h1
    ·simp only[AWp]at h1;subst h1;exact hx z hz
    ·cases h1
 ·cases h
theorem ACb {ss:List Sr}{n:Nd}{x y v:Vv}(hx:VS ss x)(hy:VS ss y)(h:j2 FF n x y=some v):VS ss v:=by
 unfold j2 at h;split at h
 ·cases h;exact eu (Nw _ _ _)
 ·obtain⟨m,hm,rfl⟩:=map_some h;split at hm
  ·exact Mq (show DN FF (Tm n y.vec (FF.Ng n.op x.v))=some m from hm) (iN hy.el fun v=>Nw _ _ _)
  ·split at hm
   ·exact Mq (show DN FF (Tm n x.vec fun v=>FF.Ng n.op v y.v)=some m from hm) (iN hx.el fun v=>Nw _ _ _)
   ·split at hm
    ·exact Mq (show DN FF (MJ n x.vec y.vec)=some m from hm) (rk hx.el hy.el)
    ·cases hq:Nh FF n x.vec y.vec with
     | none=>rw[hq]at hm;cases hm
     | some w=>
      rw[hq]at hm;exact Mq (show DN FF w=some m from hm) (rl hx.el hq)
theorem wO {ss:List Sr}{n:Nd}{t:Int}{L:List Vv}{v:Vv}(hs:DC none ss=true)(hV:∀x∈L,VS ss x)(h:Hx FF ss t n L=some v):VS ss v:=by
 unfold Hx at h;split at h
 ·cases h;exact eu (wH _)
 split at h
 ·cases h;exact km hs
 split at h
 ·cases h;exact ri hs
 match L with
 | [x]=>
  have hx:=hV x (by simp);dsimp only at h;split at h
  ·obtain⟨m,hm,rfl⟩:=map_some h;exact Mq hm (rj hx)
  split at h
  ·obtain⟨m,hm,rfl⟩:=map_some h;exact Mq hm (wN hx)
  split at h
  ·unfold j3 at h;split at h
   ·cases h;exact eu (aq _)
   ·obtain⟨m,hm,rfl⟩:=map_some h;refine Mq hm fun e he=>?_;obtain⟨y,hy,rfl⟩:=AXB.1 he;exact⟨GH (hx.el y hy).1,.inl (aq _)⟩
  ·cases h
 | [x,y]=>
  dsimp only at h;split at h
  ·exact ACb (hV x (by simp)) (hV y (by simp)) h
  ·cases h
 | []=>cases h
 | _::_::_::_=>cases h
theorem rm {ss:List Sr}{t:Int}(hs:DC none ss=true):∀(T:List Nd) (st r:List Vv),JK FF ss t T st=some r→(∀x∈st,VS ss x)→∀x∈r,VS ss x
 | [],st,r,hr,hV=>by cases hr;exact hV
 | x::T,st,r,hr,hV=>by
  rw[JK]at hr;cases hz:Hx FF ss t x (st.drop (st.length-x.parts.toNat)) with
  | none=>rw[hz]at hr;cases hr
  | some z=>
   rw[hz]at hr;refine rm hs T _ r hr fun u hu=>?_;rcases AW8.1 hu with hu|hu
   ·exact hV u (AYR hu)
   ·rw[AWs]at hu;rw[hu];exact wO hs (fun y hy=>hV y (AYS hy)) hz
theorem XO {ss:List Sr}{t:Int}{T:List Nd}{l:List El}(hs:DC none ss=true)(h:Aj FF T ss t=some l):(∀e∈l,kl ss e)∧iM l:=by
 unfold Aj at h;cases hr:JK FF ss t T [] with
 | none=>rw[hr]at h;cases h
 | some st=>
  rw[hr]at h;have hV:=rm hs T [] st hr (fun x hx=>by cases hx)
  change (st.head?.map fun v:Vv=>if v.kind=1 then[(⟨[],v.v⟩:El)] else v.vec)=some l at h
  cases st with
  | nil=>cases h
  | cons v st=>
   simp only[AYo,AXT,AWp]at h;have hv:=hV v (by simp);split at h
   ·rename_i hk;subst h;exact⟨fun e he=>by rw[AWs]at he;subst he;exact⟨rfl,.inl (hv.one hk)⟩,AY2 _ _⟩
   ·subst h;exact⟨hv.el,hv.up⟩
theorem iO {t:Int}:∀{l:List El} {q:Option (List Lb)},(∀e∈l,Fo e.ls=0)→iM l→(∀k,q=some k→∀e∈l,AX k e.ls<0)→DC q (l.map fun e=>⟨e.ls,[(t,e.v)]⟩)=true
 | [],q,_,_,_=>by cases q<;>rfl
 | e::l,q,h1,h2,h3=>by
  have h2:=AXJ.1 h2;rw[AXa,H0];simp only[AWv,AW6];refine⟨⟨⟨h1 e (by simp),rfl⟩,?_⟩,iO (fun u hu=>h1 u (AWq _ hu)) h2.2 fun k hk u hu=>by cases hk;exact h2.1 u hu⟩;cases q with
  | none=>rfl
  | some k=>exact AXK (h3 k rfl e (by simp))
theorem WI {ss:List Sr}{t:Int}(hS:ed ss):∀(T:List Nd) (st r:List Vv) (ty:List Int),DQ T (st.map (·.kind))=some ty→JK FF ss t T st=some r→(∀x∈st,VG x)→r.map (·.kind)=ty
 | [],st,r,ty,hT,hr,hV=>by
  cases hr;exact AXF hT
 | x::T,st,r,ty,hT,hr,hV=>by
  have GX:(Ba x (st.map (·.kind))).1=0:=AYr fun Ay=>by
   rw[DQ,AWj Ay]at hT;cases hT
  rw[DQ,AWl GX]at hT;obtain⟨hf,hpl,fP,eh,zK⟩:=XM GX;have zh:=UI hf;rw[AW9]at eh zK hpl;rw[zK,←AY7,←AZW]at hT;rw[←AY7]at eh;rw[JK]at hr;have hLl:((st.drop (st.length-x.parts.toNat)).length:Int)=x.parts:=by rw[AXS];omega
  have hLV:∀y∈st.drop (st.length-x.parts.toNat),VG y:=fun y hy=>hV y (AYS hy);cases hz:Hx FF ss t x (st.drop (st.length-x.parts.toNat)) with
  | none=>rw[hz]at hr;cases hr
  | some z=>
   rw[hz]at hr;obtain⟨w1,w2,w3⟩:=XL hS.ok hS.nn hf eh hLl hLV hz;exact WI hS T (st.take (st.length-x.parts.toNat)++[z]) r ty (by rw[AXG,AXu,w2];exact hT) hr fun u hu=>by
    rcases AW8.1 hu with hu|hu
    ·exact hV u (AYR hu)
    ·rw[AWs]at hu;rw[hu];exact w1
theorem ew {ss:List Sr}{t:Int}{T:List Nd}{l:List El}(hS:ed ss)(hT:JM T=some 1)(h:Aj FF T ss t=some l):∃v,l=[⟨[],v⟩]:=by
 obtain⟨BC,_⟩:=Ki hT;unfold Aj at h;cases hr:JK FF ss t T [] with
 | none=>rw[hr]at h;cases h
 | some st=>
  rw[hr]at h;have hk:=WI hS T [] st _ BC hr (fun x hx=>by cases hx)
  change (st.head?.map fun v:Vv=>if v.kind=1 then[(⟨[],v.v⟩:El)] else v.vec)=some l at h
  cases st with
  | nil=>cases h
  | cons v st=>
   simp only[AYo,AXT,AWp]at h;have hv:v.kind=1:=by
    have:=AWy List.head? hk;simpa using this
   rw[AWl hv]at h;exact⟨v.v,h.symm⟩
theorem inst_shape {ss:List Sr}{t:Int}{T:List Nd}(hM:Modest T ss)(h:(instF T ss t).1=0):(∃k,JM T=some k∧(k=1→∃v,(instF T ss t).2=[⟨[],v⟩]))∧(∀e∈(instF T ss t).2,kl ss e)∧DC none ((instF T ss t).2.map fun e=>⟨e.ls,[(t,e.v)]⟩)=true∧(instF T ss t).2.length≤100000000000:=by
 unfold instF at h ⊢;split
 ·rename_i h0;rw[AWl h0]at h;exact absurd h h0
 ·rename_i h0;rw[AWj h0]at h;split
  ·rename_i h1;rw[AWl h1]at h;cases h
  ·rename_i h1;rw[AWj h1]at h;have Qb:=AW7.1 h0;obtain⟨k,hk,CH⟩:∃k,JM T=some k∧DC none ss=true:=by
    unfold CO at Qb;cases hq:JM T with
    | none=>rw[hq]at Qb;dsimp only at Qb;exact absurd Qb (by decide)
    | some k=>
     rw[hq]at Qb;dsimp only at Qb;by_cases h3:k=3
     ·rw[AWl h3]at Qb;exact absurd Qb (by decide)
     ·rw[AWj h3]at Qb;cases ho:DC none ss with
      | true=>exact⟨k,rfl,rfl⟩
      | false=>rw[ho]at Qb;exact absurd Qb (by decide)
   cases hm:Aj FF T ss t with
   | none=>rw[hm]at h;cases h
   | some l=>
    obtain⟨s1,s2⟩:=XO CH hm;have hS:=ed.of hM CH;obtain⟨BC,hlen⟩:=Ki hk;have h5:=(ID hS BC hm).2;have h6:=AYT hlen hM.s;exact⟨⟨k,hk,fun vo=>ew hS (by rw[hk,vo]) hm⟩,s1,iO (fun e he=>(s1 e he).1) s2 (fun k hk=>by cases hk),by show l.length≤_;omega⟩
end TwW
end
section
namespace TwW
open Ieee
theorem fb:((double.fractionBits:Nat):Int)=52:=by kernel_rfl
end TwW
end
section
namespace TwW
open Go Tw Go.RowKit Go.Proofs.Tryz
structure Cl where
 kind:Int
 text:ByteArray
 span:Int
 op:Nat
 fn:Nat
 ag:Nat
 kept:Bool
 big:Bool
 name:Bool
 lp:Bool
 rp:Bool
 comma:Bool
 lsq:Bool
 rsq:Bool
 lbr:Bool
 minus:Bool
 bool:Bool
 on:Bool
 ign:Bool
 zM:Bool
 out:Bool
 off:Bool
end TwW
end
section
namespace TwW
open Go Tw
def tJ (l:List Int):Prop:=∀x∈l,0≤x∧x<256
theorem Ny {l:List Int}(h:tJ l):(l.map fun x=>UInt8.ofNat x.toNat).map (fun b=>(b.toNat:Int))=l:=by
 rw[AZG]
 conv=>rhs;rw[←List.map_id l]
 refine List.map_congr_left fun x hx=>?_;have:=h x hx;simp only[Function.comp,id,AZQ];omega
theorem str_inj {l m:List Int}(hl:tJ l)(hm:tJ m)(h:strOfNums l=strOfNums m):l=m:=by
 rw[←Ny hl,←Ny hm,Ti,Ti]at h;have:=AWy (fun b:ByteArray=>b.data.toList) h;rw[←Ny hl,←Ny hm];exact AWy _ this
theorem ey:∀n:Nat,tJ (uv n):=by
 intro n
 induction n using Nat.strongRecOn with
 | _ n ih=>
  by_cases h:128≤n
  ·rw[Mi h];intro x hx;rcases AWo.1 hx with rfl|hx
   ·omega
   ·exact ih _ (by omega) x hx
  ·rw[Ec h];intro x hx;rw[AWs]at hx;omega
theorem iP (s:ByteArray):tJ (bT s):=fun x hx=>by
 obtain⟨u,_,rfl⟩:=AXB.1 hx;have:=u.toNat_lt;omega
theorem tJ.app {l m:List Int}(h:tJ l)(g:tJ m):tJ (l++m):=fun x hx=>by
 rcases AW8.1 hx with hx|hx
 ·exact h x hx
 ·exact g x hx
theorem av (ls:List Lb):tJ (jy ls):=by
 unfold jy;refine(ey _).app fun x hx=>?_;obtain⟨y,_,hy⟩:=AZb.1 hx;exact(((ey _).app (iP _)).app ((ey _).app (iP _))) x hy
theorem aw:∀{a b:List Lb},a.length=b.length→a.flatMap MG=b.flatMap MG→a=b
 | [],[],_,_=>rfl
 | [],_::_,h,_=>by simp at h
 | _::_,[],h,_=>by simp at h
 | x::a,y::b,hl,h=>by
  rw[AX4,AX4,show MG x=uv x.1.size++bT x.1++(uv x.2.size++bT x.2) from rfl,show MG y=uv y.1.size++bT y.1++(uv y.2.size++bT y.2) from rfl]at h;simp only[AXf]at h;obtain⟨h1,h⟩:=dt _ _ _ _ h;obtain⟨h2,h⟩:=List.append_inj h (by rw[LJ,LJ];exact h1);obtain⟨h3,h⟩:=dt _ _ _ _ h;obtain⟨h4,h⟩:=List.append_inj h (by rw[LJ,LJ];exact h3);have e:x=y:=Prod.ext (gi h2) (gi h4);rw[e,aw (by simpa using hl) h]
theorem rn {a b:List Lb}(h:EE a=EE b):a=b:=by
 have:=str_inj (av a) (av b) h;unfold jy at this;obtain⟨h1,h2⟩:=dt _ _ _ _ this;exact aw h1 h2
theorem inst_ok {T:List Nd}{ss:List Sr}{t:Int}(h:(instF T ss t).1=0):DC none ss=true∧Aj FF T ss t=some (instF T ss t).2:=by
 unfold instF at h ⊢;by_cases h0:CO T ss≠0
 ·rw[AWl h0]at h;exact absurd h h0
 rw[AWj h0]at h ⊢;by_cases ht:¬(-1099511627776≤t∧t≤1099511627776)
 ·rw[AWl ht]at h;exact absurd h (by decide)
 rw[AWj ht]at h ⊢;have CH:DC none ss=true:=by
  have h0:=AW7.1 h0;unfold CO at h0;cases hq:JM T with
  | none=>rw[hq]at h0;dsimp only at h0;exact absurd h0 (by decide)
  | some k=>
   rw[hq]at h0;dsimp only at h0;by_cases h3:k=3
   ·rw[AWl h3]at h0;exact absurd h0 (by decide)
   ·rw[AWj h3]at h0;cases ho:DC none ss with
    | true=>rfl
    | false=>rw[ho]at h0;exact absurd h0 (by decide)
 cases hm:Aj FF T ss t with
 | none=>rw[hm]at h;exact absurd h (by decide)
 | some l=>exact⟨CH,rfl⟩
end TwW
end
section
namespace TwW
open Go Tw
theorem rq:∀{l:List Sr} {q:Option (List Lb)},(∀s∈l,Fo s.ls=0∧KZ s.ps=true)→l.Pairwise Pp→(∀k,q=some k→∀s∈l,AX k s.ls<0)→DC q l=true
 | [],q,_,_,_=>by cases q<;>rfl
 | e::l,q,h1,h2,h3=>by
  have h2:=AXJ.1 h2;rw[H0];simp only[AWv,AW6];refine⟨⟨h1 e (by simp),?_⟩,rq (fun u hu=>h1 u (AWq _ hu)) h2.2 fun k hk u hu=>by cases hk;exact h2.1 u hu⟩;cases q with
  | none=>rfl
  | some k=>exact AXK (h3 k rfl e (by simp))
abbrev ltP (x y:Pt):Prop:=x.1<y.1
theorem ACc {ps:List Pt}(h0:ps≠[])(h:ps.Pairwise ltP):KZ ps=true:=(Hz _).2 ⟨List.length_pos_iff.2 h0,fun j a b ha hb=>by
 obtain⟨i1,i2⟩:=AWk.1 ha;obtain⟨k1,k2⟩:=AWk.1 hb;have:=AXX.1 h j (j+1) i1 k1 (by omega);rwa[i2,k2]at this⟩
theorem ACd {ps:List Pt}(h:KZ ps=true):ps≠[]∧ps.Pairwise ltP:=by
 refine⟨fun e=>(by rw[e]at h;cases h),?_⟩;have hs:=((Hz _).1 h).2;refine AXX.2 fun i j hi hj I2=>?_;have key:∀d i (hi:i<ps.length) (hj:i+d+1<ps.length),ps[i].1<ps[i+d+1].1:=fun d=>by
  induction d with
  | zero=>exact fun i hi hj=>hs i _ _ (AWm hi) (AWm hj)
  | succ d ih=>
   intro i hi hj;have h1:=ih i hi (by omega);have h2:=hs (i+d+1) _ _ (AWm (by omega)) (AWm (by omega:i+d+1+1<ps.length));have e:i+(d+1)+1=i+d+1+1:=by omega
   simp only[e];omega
 have:=key (j-i-1) i hi (by omega);have e:i+(j-i-1)+1=j:=by omega
 simp only[e]at this;exact this
theorem Ed:∀(a b:List Sr),∀s∈D1 a b,s∈a∨s∈b∨∃x∈a,∃y∈b,s=⟨x.ls,C0 x.ps y.ps⟩∧x.ls=y.ls
 | [],b=>fun s hs=>by rw[HD]at hs;exact .inr (.inl hs)
 | x::a,[]=>fun s hs=>by rw[H5]at hs;exact .inl hs
 | x::a,y::b=>fun s hs=>by
  rw[GD]at hs;split at hs
  ·rcases AWo.1 hs with rfl|hs
   ·exact .inl (AW1 ..)
   ·rcases Ed a (y::b) s hs with h1|h1|⟨w,h1,v,h2,h3⟩
    ·exact .inl (AWq _ h1)
    ·exact .inr (.inl h1)
    ·exact .inr (.inr ⟨w,AWq _ h1,v,h2,h3⟩)
  ·rename_i h;split at hs
   ·rcases AWo.1 hs with rfl|hs
    ·exact .inr (.inl (AW1 ..))
    ·rcases Ed (x::a) b s hs with h1|h1|⟨w,h1,v,h2,h3⟩
     ·exact .inl h1
     ·exact .inr (.inl (AWq _ h1))
     ·exact .inr (.inr ⟨w,h1,v,AWq _ h2,h3⟩)
   ·rename_i h';rcases AWo.1 hs with rfl|hs
    ·exact .inr (.inr ⟨x,AW1 ..,y,AW1 ..,rfl,(AO.eq _ _).1 (by omega)⟩)
    ·rcases Ed a b s hs with h1|h1|⟨w,h1,v,h2,h3⟩
     ·exact .inl (AWq _ h1)
     ·exact .inr (.inl (AWq _ h1))
     ·exact .inr (.inr ⟨w,AWq _ h1,v,AWq _ h2,h3⟩)
termination_by a b=>a.length+b.length
theorem GI:∀(a b:List Sr),a.Pairwise Pp→b.Pairwise Pp→(D1 a b).Pairwise Pp
 | [],b,_,hb=>by rw[HD];exact hb
 | x::a,[],ha,_=>by rw[H5];exact ha
 | x::a,y::b,ha,hb=>by
  obtain⟨a1,a2⟩:=AXJ.1 ha;obtain⟨b1,b2⟩:=AXJ.1 hb;rw[GD];split
  ·rename_i h;refine AXJ.2 ⟨fun z hz=>?_,GI a (y::b) a2 hb⟩;rcases Ed a (y::b) z hz with h1|h1|⟨w,h1,v,h2,h3,_⟩
   ·exact a1 z h1
   ·rcases AWo.1 h1 with rfl|h1
    ·exact h
    ·exact AO.trans _ _ _ h (b1 z h1)
   ·subst h3;exact a1 w h1
  ·rename_i h;split
   ·rename_i h';have h4:Pp y x:=(AO.KY _ _).2 h';refine AXJ.2 ⟨fun z hz=>?_,GI (x::a) b ha b2⟩;rcases Ed (x::a) b z hz with h1|h1|⟨w,h1,v,h2,h3,h5⟩
    ·rcases AWo.1 h1 with rfl|h1
     ·exact h4
     ·exact AO.trans _ _ _ h4 (a1 z h1)
    ·exact b1 z h1
    ·subst h3;show AX y.ls w.ls<0
     rw[h5];exact b1 v h2
   ·rename_i h';have Mz:x.ls=y.ls:=(AO.eq _ _).1 (by omega);refine AXJ.2 ⟨fun z hz=>?_,GI a b a2 b2⟩;rcases Ed a b z hz with h1|h1|⟨w,h1,v,h2,h3,h5⟩
    ·exact a1 z h1
    ·show AX x.ls z.ls<0
     rw[Mz];exact b1 z h1
    ·subst h3;exact a1 w h1
termination_by a b=>a.length+b.length
def Cy:List Sr→List Lb→Option (List Pt)
 | [],_=>none
 | s::M,k=>if s.ls=k then some s.ps else Cy M k
def HJ:List Sr→List Lb→Pt→List Sr
 | [],k,x=>[⟨k,[x]⟩]
 | s::M,k,x=>if s.ls=k then⟨k,s.ps++[x]⟩::M else s::HJ M k x
abbrev UM (M:List Sr):Prop:=(M.map (·.ls)).Nodup
theorem LP:∀{M:List Sr} {k:List Lb},(∀s∈M,s.ls≠k)→Cy M k=none
 | [],_,_=>rfl
 | s::M,k,h=>by rw[Cy,AWj (h s (by simp))];exact LP fun u hu=>h u (AWq _ hu)
theorem Kk:∀{M:List Sr} {k:List Lb} {p:List Pt},Cy M k=some p→(⟨k,p⟩:Sr)∈M
 | s::M,k,p,h=>by
  rw[Cy]at h;split at h
  ·rename_i e;cases h;subst e;exact AW1 ..
  ·exact AWq _ (Kk h)
theorem iQ:∀{M:List Sr} {s:Sr},UM M→s∈M→Cy M s.ls=some s.ps
 | u::M,s,hn,hs=>by
  obtain⟨h1,h2⟩:=AXL.1 (show(u.ls::M.map (·.ls)).Nodup from hn);rw[Cy];rcases AWo.1 hs with rfl|hs
  ·rw[AWl rfl]
  ·rw[AWj fun e=>h1 (by rw[e];exact AXB.2 ⟨s,hs,rfl⟩)];exact iQ h2 hs
theorem wP {M N:List Sr}(h:M.Perm N)(hn:UM N)(k:List Lb):Cy M k=Cy N k:=by
 have hm:UM M:=(h.map _).nodup_iff.2 hn;cases hq:Cy N k with
 | some p=>exact iQ (s:=⟨k,p⟩) hm (h.mem_iff.2 (Kk hq))
 | none=>
  cases hp:Cy M k with
  | none=>rfl
  | some p=>
   have:Cy N k=some p:=iQ (s:=⟨k,p⟩) hn (h.mem_iff.1 (Kk hp));rw[hq]at this;cases this
theorem Qh {x y:Sr}(h:Pp x y):x.ls≠y.ls:=fun e=>by
 have:=(AO.eq _ _).2 e;omega
theorem fA:∀{M N:List Sr},M.Pairwise Pp→N.Pairwise Pp→(∀k,Cy M k=Cy N k)→M=N
 | [],[],_,_,_=>rfl
 | [],s::N,_,_,h=>by have:=h s.ls;rw[Cy,Cy,AWl rfl]at this;cases this
 | s::M,[],_,_,h=>by have:=h s.ls;rw[Cy,Cy,AWl rfl]at this;cases this
 | x::M,y::N,hm,hn,h=>by
  obtain⟨m1,m2⟩:=AXJ.1 hm;obtain⟨n1,n2⟩:=AXJ.1 hn;have hx:Cy (y::N) x.ls=some x.ps:=by rw[←h,Cy,AWl rfl]
  have hy:Cy (x::M) y.ls=some y.ps:=by rw[h,Cy,AWl rfl]
  have e:x.ls=y.ls:=by
   rcases AWo.1 (Kk hx) with e|e
   ·exact AWy Sr.ls e
   ·rcases AWo.1 (Kk hy) with e'|e'
    ·exact(AWy Sr.ls e').symm
    ·have h1:AX y.ls x.ls<0:=n1 _ e;have h2:AX x.ls y.ls<0:=m1 _ e';have:=(AO.KY _ _).1 h1;omega
  have hp:x.ps=y.ps:=by
   rw[e,Cy,AWl rfl]at hx;exact(AXF hx).symm
  have Mz:x=y:=by cases x;cases y;simp only at e hp;rw[e,hp]
  subst Mz;rw[fA m2 n2 fun k=>by
   by_cases hk:x.ls=k
   ·subst hk;rw[LP fun s hs=>(Qh (m1 s hs)).symm,LP fun s hs=>(Qh (n1 s hs)).symm]
   ·have:=h k;rw[Cy,Cy,AWj hk,AWj hk]at this;exact this]
theorem rr:∀(M:List Sr) (k:List Lb) (x:Pt) (j:List Lb),Cy (HJ M k x) j=if k=j then some ((Cy M k).getD []++[x]) else Cy M j
 | [],k,x,j=>by rw[HJ,Cy];rfl
 | s::M,k,x,j=>by
  rw[HJ];split
  ·rename_i e;subst e;rw[Cy,Cy,AWl rfl,Cy];by_cases hj:s.ls=j
   ·rw[AWl hj,AWl hj];rfl
   ·rw[AWj hj,AWj hj,AWj hj]
  ·rename_i e;rw[Cy,rr M k x j,Cy,Cy,AWj e];by_cases hj:s.ls=j
   ·rw[AWl hj,AWj fun e'=>e (hj.trans e'.symm),AWl hj]
   ·rw[AWj hj,AWj hj]
theorem LR:∀(M:List Sr) (k:List Lb) (x:Pt),(∃j s,M[j]?=some s∧s.ls=k∧HJ M k x=M.set j ⟨k,s.ps++[x]⟩)∨((∀s∈M,s.ls≠k)∧HJ M k x=M++[⟨k,[x]⟩])
 | [],k,x=>.inr ⟨fun s hs=>(by cases hs),rfl⟩
 | s::M,k,x=>by
  by_cases e:s.ls=k
  ·exact .inl ⟨0,s,rfl,e,by rw[HJ,AWl e];rfl⟩
  ·rcases LR M k x with ⟨j,u,h1,h2,h3⟩|⟨h1,h2⟩
   ·exact .inl ⟨j+1,u,h1,h2,by rw[HJ,AWj e,h3];rfl⟩
   ·exact .inr ⟨fun u hu=>by rcases AWo.1 hu with rfl|hu;exact e;exact h1 u hu,by rw[HJ,AWj e,h2];rfl⟩
theorem ru {M:List Sr}{j:Nat}{s:Sr}{p:List Pt}(h:M[j]?=some s):(M.set j ⟨s.ls,p⟩).map (·.ls)=M.map (·.ls):=by
 refine AXm fun i=>?_;rw[AXM,AXM,AYF];split
 ·rename_i e;subst e;rw[h,AWl (AWk.1 h).1];rfl
 ·rfl
theorem wR {M:List Sr}(k:List Lb)(x:Pt)(h:UM M):UM (HJ M k x):=by
 rcases LR M k x with ⟨j,u,h1,rfl,h3⟩|⟨h1,h2⟩
 ·rw[h3];unfold UM;rw[ru h1];exact h
 ·rw[h2];unfold UM;rw[AXG,AYD];exact⟨h,by simp,fun a ha b hb e=>by
   rw[AXu,AWs]at hb;obtain⟨s,hs,rfl⟩:=AXB.1 ha;exact h1 s hs (e.trans hb)⟩
def UN:Nat→List Sr→List (ByteArray×Nat)
 | _,[]=>[]
 | n,s::M=>(EE s.ls,n)::UN (n+1) M
theorem ax:∀{M:List Sr} {n i:Nat} {k:List Lb} (x:Pt),Ck (UN n M) (EE k)=some i→∃j s,i=n+j∧M[j]?=some s∧s.ls=k∧HJ M k x=M.set j ⟨k,s.ps++[x]⟩
 | s::M,n,i,k,x,h=>by
  rw[UN,Ck]at h;split at h
  ·rename_i e;cases h;have e:=rn e;exact⟨0,s,rfl,rfl,e,by rw[HJ,AWl e];rfl⟩
  ·rename_i e;obtain⟨j,u,h1,h2,h3,h4⟩:=ax x h;exact⟨j+1,u,by omega,h2,h3,by rw[HJ,AWj fun e'=>e (by rw[e']),h4];rfl⟩
theorem rv:∀{M:List Sr} {n:Nat} {k:List Lb},Ck (UN n M) (EE k)=none→(∀s∈M,s.ls≠k)∧∀a∈UN n M,a.1≠EE k
 | [],n,k,_=>⟨fun s hs=>(by cases hs),fun s hs=>(by cases hs)⟩
 | s::M,n,k,h=>by
  rw[UN,Ck]at h;split at h
  ·cases h
  ·rename_i e;obtain⟨h1,h2⟩:=rv h;exact⟨fun u hu=>by rcases AWo.1 hu with rfl|hu;exact fun e'=>e (by rw[e']);exact h1 u hu,fun u hu=>by rcases AWo.1 hu with rfl|hu;exact e;exact h2 u hu⟩
theorem wS {M:List Sr}{k:List Lb}(x:Pt)(h:∀s∈M,s.ls≠k):HJ M k x=M++[⟨k,[x]⟩]:=by
 rcases LR M k x with ⟨j,u,h1,h2,h3⟩|⟨_,h2⟩
 ·exact absurd h2 (h u (AWn h1))
 ·exact h2
theorem ay:∀{M:List Sr} {n:Nat} {s:Sr},UN n (M++[s])=UN n M++[(EE s.ls,n+M.length)]
 | [],n,s=>rfl
 | u::M,n,s=>by rw[AXb,UN,ay,UN,AWw,show n+1+M.length=n+(M.length+1) by omega];rfl
theorem fB:∀{M N:List Sr} {n:Nat},M.map (·.ls)=N.map (·.ls)→UN n M=UN n N
 | [],[],_,_=>rfl
 | s::M,u::N,n,h=>by
  rw[AXa,AXa,AYB]at h;rw[UN,UN,h.1,fB h.2]
 | [],u::N,_,h=>by cases h
 | u::M,[],_,h=>by cases h
abbrev JD (t:Int)(l:List El):List Sr:=l.map fun e=>⟨e.ls,[(t,e.v)]⟩
def UO (M:List Sr)(t:Int)(l:List El):List Sr:=l.foldl (fun M x=>HJ M x.ls (t,x.v)) M
theorem iR {t:Int}:∀{l:List El} {M:List Sr},UM M→UM (UO M t l)
 | [],M,h=>h
 | x::l,M,h=>iR (t:=t) (l:=l) (wR x.ls (t,x.v) h)
abbrev Bd (M:List Sr)(N:Nat):Prop:=M.length≤N∧∀s∈M,s.ps.length≤N
theorem ACe {M:List Sr}{N:Nat}(k:List Lb)(x:Pt)(h:Bd M N):Bd (HJ M k x) (N+1):=by
 obtain⟨h0,h9⟩:=h;rcases LR M k x with ⟨j,u,h1,rfl,h3⟩|⟨h1,h2⟩
 ·rw[h3];refine⟨by rw[AX3];omega,fun s hs=>?_⟩;rcases AYO hs with hs|rfl
  ·have:=h9 s hs;omega
  ·have:=h9 u (AWn h1);dsimp only;rw[AWz,AXc];omega
 ·rw[h2];refine⟨by rw[AWz,AXc];omega,fun s hs=>?_⟩;rcases AW8.1 hs with hs|hs
  ·have:=h9 s hs;omega
  ·rw[AWs]at hs;subst hs;show 1≤N+1;omega
theorem fC {t:Int}:∀{l:List El} {M:List Sr} {N:Nat},Bd M N→Bd (UO M t l) (N+l.length)
 | [],M,N,h=>h
 | x::l,M,N,h=>by
  have:=fC (t:=t) (l:=l) (ACe x.ls (t,x.v) h);rw[AWw,show N+(l.length+1)=N+1+l.length by omega];exact this
theorem Bd.le {M:List Sr}{N N':Nat}(h:Bd M N)(hn:N≤N'):Bd M N':=⟨AXD h.1 hn,fun s hs=>AXD (h.2 s hs) hn⟩
theorem ry {t:Int}{k:List Lb}:∀{l:List El} {M:List Sr},l.Pairwise (fun a b=>a.ls≠b.ls)→Cy (UO M t l) k=match Cy (JD t l) k with
  | none=>Cy M k
  | some q=>some ((Cy M k).getD []++q)
 | [],M,_=>rfl
 | x::l,M,h=>by
  obtain⟨h1,h2⟩:=AXJ.1 h;show Cy (UO (HJ M x.ls (t,x.v)) t l) k=_
  rw[ry h2,rr];show _=match (if x.ls=k then some [(t,x.v)] else Cy (JD t l) k) with
   | none=>Cy M k
   | some q=>some ((Cy M k).getD []++q)
  by_cases hk:x.ls=k
  ·subst hk;rw[AWl rfl,AWl rfl,LP fun s hs=>by
    obtain⟨e,he,rfl⟩:=AXB.1 hs;exact(h1 e he).symm]
  ·rw[AWj hk,AWj hk];cases Cy (JD t l) k<;>rfl
theorem P2:∀(a b:List Sr),a.Pairwise Pp→b.Pairwise Pp→∀k,Cy (D1 a b) k=match Cy a k,Cy b k with
  | none,o=>o
  | some p,none=>some p
  | some p,some q=>some (C0 p q)
 | [],b,_,_,k=>by rw[HD];rfl
 | x::a,[],_,_,k=>by rw[H5,show Cy [] k=none from rfl];cases Cy (x::a) k<;>rfl
 | x::a,y::b,ha,hb,k=>by
  obtain⟨a1,a2⟩:=AXJ.1 ha;obtain⟨b1,b2⟩:=AXJ.1 hb;rw[GD];split
  ·rename_i h;rw[Cy,P2 a (y::b) a2 hb k];by_cases hk:x.ls=k
   ·have e:Cy (y::b) k=none:=LP fun s hs e=>by
     subst hk;rcases AWo.1 hs with rfl|hs
     ·exact Qh h e.symm
     ·exact Qh (AO.trans _ _ _ h (b1 s hs)) e.symm
    rw[AWl hk,e,Cy,AWl hk]
   ·rw[AWj hk,show Cy (x::a) k=Cy a k by rw[Cy,AWj hk]]
  ·rename_i h;split
   ·rename_i h';have h4:Pp y x:=(AO.KY _ _).2 h';rw[Cy,P2 (x::a) b ha b2 k];by_cases hk:y.ls=k
    ·have e:Cy (x::a) k=none:=LP fun s hs e=>by
      subst hk;rcases AWo.1 hs with rfl|hs
      ·exact Qh h4 e.symm
      ·exact Qh (AO.trans _ _ _ h4 (a1 s hs)) e.symm
     rw[AWl hk,e,Cy,AWl hk]
    ·rw[AWj hk,show Cy (y::b) k=Cy b k by rw[Cy,AWj hk]]
   ·have Mz:x.ls=y.ls:=(AO.eq _ _).1 (by omega);rw[Cy,P2 a b a2 b2 k,Cy,Cy];by_cases hk:x.ls=k
    ·rw[AWl hk,AWl hk,AWl (Mz▸hk)]
    ·rw[AWj hk,AWj hk,AWj (Mz▸hk)]
termination_by a b=>a.length+b.length
theorem IE:∀{a:List Pt} {t v:Int},(∀p∈a,p.1<t)→C0 a [(t,v)]=a++[(t,v)]
 | [],t,v,_=>by rw[H4];rfl
 | x::a,t,v,h=>by rw[GC,AWl (h x (by simp)),IE fun p hp=>h p (AWq _ hp)];rfl
theorem IF:∀(a b:List Sr),(D1 a b).length≤a.length+b.length
 | [],b=>by rw[HD];simp
 | x::a,[]=>by rw[H5];simp
 | x::a,y::b=>by
  rw[GD];have h1:=IF a (y::b);have h2:=IF (x::a) b;have h3:=IF a b;simp only[AWw]at h1 h2 h3 ⊢;split
  ·simp only[AWw];omega
  ·split<;>(simp only[AWw];omega)
termination_by a b=>a.length+b.length
structure Iv (t:Int)(c:Nat)(G M:List Sr):Prop where
 key:UM G
 ok:DC none M=true
 lk:∀k,Cy G k=Cy M k
 tm:∀s∈M,(∀p∈s.ps,p.1<t)∧s.ps.length≤c
theorem Iv.nil {t:Int}:Iv t 0 [] []:=⟨AYH,rfl,fun _=>rfl,fun s hs=>(by cases hs)⟩
theorem Iv.step {t t':Int}{c:Nat}{G M:List Sr}{l:List El}(h:Iv t c G M)(hl:DC none (JD t l)=true)(ht:t<t'):Iv t' (c+1) (UO G t l) (D1 M (JD t l)):=by
 have sM:=(FB h.ok).2;have sL:=(FB hl).2;have pl:l.Pairwise fun a b=>a.ls≠b.ls:=(AYE.1 sL).imp fun h=>Qh h;have one:∀{s:Sr},s∈JD t l→∃v,s.ps=[(t,v)]:=fun hs=>by
  obtain⟨e,_,rfl⟩:=AXB.1 hs;exact⟨_,rfl⟩
 refine⟨iR h.key,rq (fun s hs=>?_) (GI _ _ sM sL) fun k hk=>(by cases hk),fun k=>?_,fun s hs=>?_⟩
 ·rcases Ed _ _ s hs with h1|h1|⟨x,h1,y,h2,rfl,h3⟩
  ·exact Da h.ok s h1
  ·exact Da hl s h1
  ·obtain⟨c1,c2⟩:=Da h.ok x h1;obtain⟨v,hv⟩:=one h2;obtain⟨e1,e2⟩:=ACd c2;have tx:=(h.tm x h1).1;rw[hv,IE tx];exact⟨c1,ACc (by simp) (List.pairwise_append.2 ⟨e2,AY2 ..,fun a ha b hb=>by rw[AWs]at hb;subst hb;exact tx a ha⟩)⟩
 ·rw[ry pl,P2 _ _ sM sL,h.lk k];cases hb:Cy (JD t l) k with
  | none=>cases Cy M k<;>rfl
  | some q=>
   cases ha:Cy M k with
   | none=>rfl
   | some p=>
    obtain⟨v,hv⟩:=one (Kk hb);have hv:q=[(t,v)]:=hv;subst hv;show some (p++[(t,v)])=some (C0 p [(t,v)])
    rw[IE (h.tm _ (Kk ha)).1]
 ·rcases Ed _ _ s hs with h1|h1|⟨x,h1,y,h2,rfl,h3⟩
  ·obtain⟨g1,g2⟩:=h.tm s h1;exact⟨fun p hp=>by have:=g1 p hp;omega,by omega⟩
  ·obtain⟨v,hv⟩:=one h1;rw[hv];exact⟨fun p hp=>by rw[AWs]at hp;subst hp;exact ht,by simp⟩
  ·obtain⟨v,hv⟩:=one h2;obtain⟨g1,g2⟩:=h.tm x h1;dsimp only;rw[hv,IE g1];exact⟨fun p hp=>by
    rcases AW8.1 hp with hp|hp
    ·have:=g1 p hp;omega
    ·rw[AWs]at hp;subst hp;exact ht,by rw[AWz,AXc];omega⟩
theorem Iv.sorted {t:Int}{c:Nat}{G M S:List Sr}(h:Iv t c G M)(hp:S.Perm G)(hs:S.Pairwise fun x y=>¬AX y.ls x.ls<0):S=M:=by
 have hk:UM S:=(hp.map _).nodup_iff.2 h.key;refine fA ((hs.and (AYE.1 hk)).imp fun {x y} Mz=>?_) (FB h.ok).2 fun k=>(wP hp h.key k).trans (h.lk k);obtain⟨h1,h2⟩:=Mz;have h3:AX y.ls x.ls≠0:=fun e=>h2 ((AO.eq _ _).1 e).symm;exact(AO.KY _ _).2 (by omega)
def Gj (T:List Nd)(ss:List Sr)(a d:Int):Nat→Option (List Sr×List Sr)
 | 0=>some ([],[])
 | n+1=>(Gj T ss a d n).bind fun x=>(Aj FF T ss (a+n*d)).map fun l=>(UO x.1 (a+n*d) l,D1 x.2 (JD (a+n*d) l))
abbrev FC (t:Int):Prop:=-1099511627776≤t∧t≤1099511627776
theorem fD {T:List Nd}{ss:List Sr}{a d:Int}(hM:Modest T ss)(UP:CO T ss=0)(hT:T.length≤4096)(rz:ss.length≤1048576){k:Int}(BC:DQ T []=some [k])(hS:ed ss)(hd:1≤d):∀{n:Nat} {x:List Sr×List Sr},(∀i:Nat,i<n→FC (a+i*d))→Gj T ss a d n=some x→
  Iv (a+n*d) n x.1 x.2∧Bd x.1 (n*4294967297)∧x.2.length≤n*4294967297
 | 0,x,_,h=>by cases h;exact⟨Iv.nil,⟨AWx _,fun s hs=>(by cases hs)⟩,AWx _⟩
 | n+1,x,ht,h=>by
  rw[Gj]at h;cases hr:Gj T ss a d n with
  | none=>rw[hr]at h;cases h
  | some y=>
   rw[hr]at h;cases hm:Aj FF T ss (a+n*d) with
   | none=>rw[hm]at h;cases h
   | some l=>
    rw[hm]at h;cases h;obtain⟨h1,h2,h3⟩:=fD hM UP hT rz BC hS hd (fun i hi=>ht i (by omega)) hr;have e:instF T ss (a+n*d)=(0,l):=by unfold instF;rw[UP,AWj (by decide),AWj (by rw[AW7];exact ht n (by omega)),hm]
    have CH:=(inst_shape hM (by rw[e])).2.2.1;rw[e]at CH;have hl:l.length≤4294967297:=by
     have h4:=(ID hS BC hm).2;have:=AYT hT rz;omega
    refine⟨h1.step CH (by rw[AZe,Int.add_mul];omega),?_,?_⟩
    ·exact(fC h2).le (by omega)
    ·have h5:=IF y.2 (JD (a+n*d) l);rw[AW9]at h5;dsimp only;omega
theorem UQ {T:List Nd}{ss:List Sr}{a d:Int}{n:Nat}(h:Gj T ss a d n=none):∀{m:Nat},n≤m→Gj T ss a d m=none
 | 0,hm=>by
   have:n=0:=by omega
   subst this;exact h
 | m+1,hm=>by
  by_cases e:n=m+1
  ·subst e;exact h
  ·rw[Gj,UQ h (by omega)];rfl
def JN (T:List Nd)(ss:List Sr)(a b d:Int):Int×List Sr:=
 if CO T ss≠0 then(CO T ss,[]) else if ¬(FC a∧FC b∧a≤b∧1≤d) then(221,[]) else if 512≤(b-a)/d then(222,[]) else
  match Gj T ss a d (((b-a)/d).toNat+1) with
  | none=>(223,[])
  | some x=>(0,x.2)
end TwW
end
section
namespace TwW
open Go Tw Go.RowKit Go.Proofs.Tryz
theorem Ao.P3 {P:Program}{s:Nat}{σ:Hp}{b o n c j:Nat}{cs:List Value}{v:Value}{T:TypeId}{Φ:Unit→Hp→Prop}(ho:Ao s σ (some ⟨b,o,none⟩) n c cs)(hj:j<n*s)(hz:∀w,(Go.sizeOf T).run P w=.ok 1 w)(hv:v.cells=#[v])(h1:v.oneCell'=true)
  (hΦ:∀obj,Ao s (σ.set b obj) (some ⟨b,o,none⟩) n c (cs.set j v)→Φ () (σ.set b obj)):AH P (Instr.storeAt T (.pointer (some ⟨b,o+j,none⟩)) v) σ Φ:=by
 obtain⟨hl,hb0,h⟩:=ho;rcases h with ⟨hp,_⟩|⟨b',o',arr,T',hp,hb,fT,Qo,Lu⟩
 ·cases hp
 ·cases hp;have hns:n*s≤c*s:=AXR s fT;refine AH.store hz hb (by rw[hv];rfl) (by omega) (by rw[hv];simpa using h1) (hΦ _ ⟨by rw[AX3];exact hl,hb0,.inr ⟨b,o,_,T',rfl,Hp.AA _ _ _,fT,by simp[Hf];exact Qo,?_⟩⟩);rw[hv,←Lu];refine AXm fun i=>?_;simp only[Lt,Array.toList_setIfInBounds];rw[AW4,AYF,AW4];by_cases hi:i<n*s
  ·rw[AWl hi,AWl hi,AXQ,AXQ,AYF];by_cases I2:j=i
   ·subst I2;have Am:o+j<arr.size:=by omega
    simp[Am];exact Nat.lt_min.2 ⟨hj,by omega⟩
   ·rw[AWj (by omega),AWj I2]
  ·rw[AWj hi,AWj hi];split
   ·omega
   ·rfl
theorem C1.one (σ:Hp)(vs:List Value)(x:Pt)(h:C1 σ vs x):Ey vs:=by
 rw[show vs=[.I x.1,.U x.2] from h];intro u hu;simp only[AWo,AXA,AXk]at hu;rcases hu with rfl|rfl<;>rfl
theorem Ni.one (σ:Hp)(vs:List Value)(x:Mt)(h:Ni σ vs x):Ey vs:=by
 rw[show vs=[.I x.kind,.string x.name,.string x.val] from h];intro u hu;simp only[AWo,AXA,AXk]at hu;rcases hu with rfl|rfl|rfl<;>rfl
section
variable {σ σ' σ0:Hp}{R:Rr}
theorem LU {T Et ty:TypeId}{s bs:Nat}[I3 prog T Et s bs]{q:Option Addr}{j c b:Nat}{cs:List Value}{Φ:Value→Hp→Prop}(Lu:Gq s σ q j cs)(h1:Ey cs)(hb:j*bs≤140737488355328)
  (hΦ:∀p' c' σ',Ao s (σ.new σ') p' j c' cs→Ext σ σ'→Φ (.slice p' j c') σ') (hn:σ b=none) :
  AH prog (Builtin.append_ #[T,T] ty #[.slice (some ⟨b,0,none⟩) 0 0,.slice q j c]) (σ.set b (.cells #[] Et (0,0))) Φ:=by
 refine CE Ao.empty (Lu.mono (.set hn)) h1 (by rw[AXl];exact hb) fun p' c' σ' BS Ip=>?_;have hq:∀a:Addr,(some (⟨b,0,none⟩:Addr))=some a→σ a.block=none:=fun a ha=>by cases ha;exact hn
 rw[AXl]at BS ⊢;rw[AXi]at BS;exact hΦ p' c' σ' (Ao.PI BS (Ez hq Ip (.set hn))) (IN hq Ip (.set hn))
theorem ko {p:Option Addr}{n c:Nat}{ms:List Mt}(hr:Ac 3 Ni σ p n ms)(hn:n≤1000000000)(h:∀p' c' σ',Ac 3 Ni (σ.new σ') p' n ms→Ext σ σ'→R (.returned (.slice p' n c')) σ'):Spec prog 23 #[.slice p n c] σ R:=by
 obtain⟨h1,cs,h2,h3⟩:=hr;exact G6.start fun b hb=>LU h2 (Ch.br Ni.one h3 (by decide)) (by omega) (fun p' c' σ' ho hx=>⟨_,_,_,rfl,h p' c' σ' ⟨h1,cs,Ao.rd ho,h3.1,fun i x hx=>h3.2 i x hx⟩ hx⟩) hb
theorem az {p:Option Addr}{n c:Nat}{ls:List ByteArray}(hr:Gq 1 σ p n (ls.map .string))(hn:n≤1000000000)(h:∀p' c' σ',Gq 1 (σ.new σ') p' n (ls.map .string)→Ext σ σ'→R (.returned (.slice p' n c')) σ'):Spec prog 24 #[.slice p n c] σ R:=
 JZ.start fun b hb=>LU hr (fun u hu=>by obtain⟨x,_,rfl⟩:=AXB.1 hu;rfl) (by omega) (fun p' c' σ' ho hx=>⟨_,_,_,rfl,h p' c' σ' (Ao.rd ho) hx⟩) hb
theorem XP {p:Option Addr}{n c:Nat}{ls:List Lb}(hr:Dz σ p n ls)(hn:n≤1000000000)(h:∀p' c' σ',Dz (σ.new σ') p' n ls→Ext σ σ'→R (.returned (.slice p' n c')) σ'):Spec prog 25 #[.slice p n c] σ R:=
 I8.start fun b hb=>E8 hr hn (fun p' c' σ' ho hx=>⟨_,_,_,rfl,h p' c' σ' (ho.rd BM.mono) hx⟩) hb
theorem XQ {p:Option Addr}{n c:Nat}{ps:List Pt}(hr:Ac 2 C1 σ p n ps)(hn:n≤1000000000)(h:∀p' c' σ',Ej 2 C1 (σ.new σ') p' n c' ps→Ext σ σ'→R (.returned (.slice p' n c')) σ'):Spec prog 26 #[.slice p n c] σ R:=by
 obtain⟨h1,cs,h2,h3⟩:=hr;exact I7.start fun b hb=>LU h2 (Ch.br C1.one h3 (by decide)) (by omega) (fun p' c' σ' ho hx=>⟨_,_,_,rfl,h p' c' σ' ⟨h1,cs,ho,h3.1,fun i x hx=>h3.2 i x hx⟩ hx⟩) hb
theorem Ha.one (σ:Hp)(vs:List Value)(x:Nd)(h:Ha σ vs x):Ey vs:=by
 obtain⟨p,k,c,q,m,d,rfl,_⟩:=h;intro u hu;simp only[AWo,AXA,AXk]at hu;rcases hu with rfl|rfl|rfl|rfl|rfl|rfl|rfl|rfl|rfl|rfl<;>rfl
theorem CA.one (σ:Hp)(vs:List Value)(x:Sr)(h:CA σ vs x):Ey vs:=by
 obtain⟨p,n,c,q,m,d,rfl,_⟩:=h;intro u hu;simp only[AWo,AXA,AXk]at hu;rcases hu with rfl|rfl<;>rfl
structure TOk (T:List Nd):Prop where
 t:T.length≤2000000
 mt:∀x∈T,x.mt.length≤1000000000
 nm:∀x∈T,x.names.length≤1000000000
theorem Qi {p:Option Addr}{n c:Nat}{T:List Nd}(hr:Ac 10 Ha σ p n T)(hT:TOk T)(h:∀p' c' σ',Aa 10 Ha σ σ' p' n c' T→R (.returned (.slice p' n c')) σ'):Spec prog 7 #[.slice p n c] σ R:=by
 have hl:T.length=n:=hr.1;have ht:=hT.t;refine C8.start ?_
 suffices H:∀g i:Nat,∀p3 n3 c3 σ',n-i=g→i≤n→Aa 10 Ha σ σ' p3 n3 c3 (T.take i)→C8.CZ R p n c p3 n3 c3 i σ' from H n 0 none 0 0 σ rfl (AWx _) (Aa.nil (.refl _))
 intro g
 induction g with
 | zero=>
  intro i p3 n3 c3 σ' hg hi ho;rw[AWt (by omega)]at ho;have vd:n=n3:=hl.symm.trans ho.1.1;subst vd;exact C8.BE ⟨fun Am=>by omega,fun _=>h p3 c3 σ' ho⟩
 | succ g ih=>
  intro i p3 n3 c3 σ' hg hi ho;have Bj:i<n:=by omega
  obtain⟨x,hx⟩:=hr.ex Bj;obtain⟨b,o,p1,k1,c1,q1,m1,d1,rfl,Ee,v7,vN⟩:=Ha.at hr hx;have aX:=AWn hx;have a1:=hT.mt x aX;have a2:=hT.nm x aX;have a3:x.mt.length=k1:=v7.1;have a4:(x.names.map Value.string).length=m1*1:=vN.1;rw[AW9]at a4;have vd:n3=i:=by have:=ho.1.1;rw[AW0]at this;omega
  refine C8.BE ⟨fun _=>⟨b,o,rfl,by omega,_,_,_,_,_,_,_,_,_,_,_,_,_,_,by simpa using Ee.mono ho.up,fun _=>ko (v7.mono Ni.mono ho.up) (by omega) fun p4 c4 σ2 HR A4=>⟨_,_,_,rfl,az ((vN.mono ho.up).mono A4) (by omega) fun p5 c5 σ3 U8 CG=>⟨_,_,_,rfl,fun dH ACf=>?_⟩⟩⟩,fun hh=>by omega⟩;have Db:=ho.mono Ha.mono (A4.trans CG);have he:Ha (σ3.del p3) [.I x.kind,.I x.op,.string x.text,.slice p4 k1 c4,.I x.width,.I x.back,.I x.EH,.slice p5 m1 c5,.bool x.bool,.I x.parts] x:=
   ⟨p4,k1,c4,p5,m1,c5,rfl,HR.mono Ni.mono ((Ext.GQ CG).trans (ho.new (A4.trans CG))),U8.mono ((Ext.DD A4).trans (ho.new (A4.trans CG)))⟩
  refine Aa.LZ Ha.mono Db rfl (Ha.one _ _ _ he) he (by omega) (fun p' c' σ4 KW _=>⟨_,_,_,rfl,AN Bj hr.big,ih (i+1) _ _ _ _ (by omega) (by omega) (by rw[Ag hx];exact KW)⟩) ACf
structure SOk (ss:List Sr):Prop where
 s:ss.length≤1000000000000
 ls:∀s∈ss,s.ls.length≤1000000000
 ps:∀s∈ss,s.ps.length≤1000000000
theorem Nz {p:Option Addr}{n c:Nat}{ss:List Sr}(hr:Ac 2 CA σ p n ss)(hS:SOk ss)(h:∀p' c' σ',Ac 2 CA σ' p' n ss→Ext σ σ'→R (.returned (.slice p' n c')) σ'):Spec prog 8 #[.slice p n c] σ R:=by
 have hl:ss.length=n:=hr.1;have ht:=hS.s;refine Cj.start ?_
 suffices H:∀g i:Nat,∀p3 n3 c3 σ',n-i=g→i≤n→Aa 2 CA σ σ' p3 n3 c3 (ss.take i)→Cj.CZ R p n c p3 n3 c3 i σ' from H n 0 none 0 0 σ rfl (AWx _) (Aa.nil (.refl _))
 intro g
 induction g with
 | zero=>
  intro i p3 n3 c3 σ' hg hi ho;rw[AWt (by omega)]at ho;have vd:n=n3:=hl.symm.trans ho.1.1;subst vd;exact Cj.BE ⟨fun Am=>by omega,fun _=>h p3 c3 σ' (ho.rd CA.mono) ho.up⟩
 | succ g ih=>
  intro i p3 n3 c3 σ' hg hi ho;have Bj:i<n:=by omega
  obtain⟨x,hx⟩:=hr.ex Bj;obtain⟨b,o,p1,k1,c1,q1,m1,d1,rfl,Ee,gp,hps,bU⟩:=CA.at hr hx;have aX:=AWn hx;have a1:=hS.ls x aX;have a2:=hS.ps x aX;have a3:x.ls.length=k1:=gp.1;have a4:x.ps.length=m1:=hps.1;have vd:n3=i:=by have:=ho.1.1;rw[AW0]at this;omega
  have AJ3:=Ee.mono ho.up;refine Cj.BE ⟨fun _=>⟨b,o,rfl,by omega,p1,k1,c1,by simpa using AJ3.1,by omega,q1,m1,d1,by simpa using AJ3.2.1,XP (gp.mono BM.mono ho.up) (by omega) fun p4 c4 σ2 HR A4=>⟨_,_,_,rfl,Kp.HI A4,XQ ((hps.mono C1.mono ho.up).mono C1.mono A4) (by omega) fun p5 c5 σ3 U8 CG=>⟨_,_,_,rfl,fun dH ACf=>?_⟩⟩⟩,fun hh=>by omega⟩;have Db:=ho.mono CA.mono (A4.trans CG);have he:CA (σ3.del p3) [.slice p4 k1 c4,.slice p5 m1 c5] x:=
   ⟨p4,k1,c4,p5,m1,c5,rfl,HR.mono BM.mono ((Ext.GQ CG).trans (ho.new (A4.trans CG))),(U8.rd C1.mono).mono C1.mono ((Ext.DD A4).trans (ho.new (A4.trans CG))),by obtain⟨cs,Ui,_⟩:=U8.2;exact Ao.cap Ui⟩
  refine Aa.LZ CA.mono Db rfl (CA.one _ _ _ he) he (by omega) (fun p' c' σ4 KW _=>⟨_,_,_,rfl,AN Bj hr.big,ih (i+1) _ _ _ _ (by omega) (by omega) (by rw[Ag hx];exact KW)⟩) ACf
end
theorem WJ {cs:List Value}{v:Value}{s i j r:Nat}(hr:r<s):((cs.set (i*s+r) v).drop (j*s)).take s=if i=j then((cs.drop (j*s)).take s).set r v else(cs.drop (j*s)).take s:=by
 refine AXm fun k=>?_;by_cases I2:i=j
 ·subst I2;rw[AWl rfl,AW4,AYF,AW4,AXQ,AXQ,AYF];by_cases hk:k<s
  ·rw[AWl hk,AWl hk];by_cases zD:r=k
   ·subst zD;rw[AWl rfl,AWl rfl,AW0,AXS];by_cases Am:i*s+r<cs.length
    ·rw[AWl Am,AWl (by omega)]
    ·rw[AWj Am,AWj (by omega)]
   ·rw[AWj (by omega),AWj zD]
  ·rw[AWj hk,AWj hk,AWj (by omega)]
 ·rw[AWj I2,AW4,AW4,AXQ,AXQ,AYF];by_cases hk:k<s
  ·rw[AWl hk,AWl hk,AWj];intro e;rcases AY3 i j with h|h|h
   ·have:=AXR s (show i+1≤j from h);rw[AYU]at this;omega
   ·exact I2 h
   ·have:=AXR s (show j+1≤i from h);rw[AYU]at this;omega
  ·rw[AWj hk,AWj hk]
def Awk:Prop:=∀(σ:Hp) (R:Rr),Gl σ→(∀σ',Ext σ σ'→R (.B true) σ')→Spec prog 5 #[] σ R
def sX:ByteArray:=⟨#[120]⟩
def sA:ByteArray:=⟨#[97]⟩
def s1_:ByteArray:=⟨#[49]⟩
def s2_:ByteArray:=⟨#[50]⟩
def nV:Nd:=⟨2,0,ByteArray.mk #[],[⟨1,V0,sX⟩],0,0,0,[],false,0⟩
def nA:Nd:=⟨5,1,ByteArray.mk #[],[],0,0,0,[],false,1⟩
def T0:List Nd:=[nV,nA]
def ACg:List Lb:=[(V0,sX),(sA,s1_)]
def ACh:List Lb:=[(V0,sX),(sA,s2_)]
abbrev v1:Int:=4607182418800017408
abbrev v3:Int:=4613937818241073152
abbrev v5:Int:=4617315517961601024
abbrev v8:Int:=4620693217682128896
def iS:List Sr:=[⟨ACg,[(0,v1),(60,v3)]⟩,⟨ACh,[(60,v5)]⟩]
theorem ty0:JM T0=some 2:=by kernel_rfl
theorem AJ4:Aj FF T0 iS 60=some [⟨[],v8⟩]:=by kernel_rfl
theorem API:Aj FF T0 iS 0=some [⟨[],v1⟩]:=by kernel_rfl
theorem XR:Modest T0 iS:=by
 refine⟨by decide,fun x hx=>?_,by decide,fun s hs=>?_,fun s hs p hp=>?_⟩
 ·simp only[T0,AWo,AXA,AXk]at hx;rcases hx with rfl|rfl<;>decide
 ·simp only[iS,AWo,AXA,AXk]at hs;rcases hs with rfl|rfl<;>decide
 ·simp only[iS,AWo,AXA,AXk]at hs;rcases hs with rfl|rfl<;>simp at hp<;>(try rcases hp with rfl|rfl)<;>(try subst hp)<;>decide
theorem inst60:instF T0 iS 60=(0,[⟨[],v8⟩]):=by kernel_rfl
structure Bx where
 b5:Nat
 b6:Nat
 CC:Nat
 A7:Nat
 Bc:Nat
 BT:Nat
 D:Nat
 l:Nat
 m:Nat
 p:Option Addr
 n:Nat
 c:Nat
 q:Option Addr
 k:Nat
 d:Nat
 r0:Loop
theorem Ao.here {s:Nat}{σ σ':Hp}{p:Option Addr}{n c:Nat}{cs:List Value}(h:Ao s σ p n c cs)(hs:∀a,p=some a→σ' a.block=σ a.block):Ao s σ' p n c cs:=by
 obtain⟨h1,h2,h3|⟨b,o,arr,T,rfl,hb,r⟩⟩:=h
 ·exact⟨h1,h2,.inl h3⟩
 ·exact⟨h1,h2,.inr ⟨b,o,arr,T,rfl,(hs _ rfl).trans hb,r⟩⟩
theorem tu {A B:Hp}{L:List (Nat×Obj)}{i b:Nat}{o:Obj}(hn:(names L).Nodup)(hi:L[i]?=some (b,o)):Kp [b] (AU A L) (AU B L):=fun x hx u hu=>by
 rw[AWs]at hx;subst hx;rw[A2 hn hi]at hu ⊢;exact hu
structure St (σ B:Hp)(m b o e k:Nat):Prop where
 ext:Ext σ B
 own:∃pl cl pp cc ds,Ao 2 B (some ⟨b,o,none⟩) 1 e [.slice pl 0 cl,.slice pp k cc]∧Ao 2 B pp k cc ds∧(∀a,pp=some a→a.block≠b∧a.block≠m∧σ a.block=none)
 map:MS (fun v _=>v=.I 0) B m [(EE [],(0:Int))]
 hb:σ b=none
 hm:σ m=none
 ne:m≠b
theorem ACi (w:World):(Go.sizeOf 64).run prog w=.ok 2 w:=by kernel_rfl
theorem r5 (w:World):(Go.sizeOf 43).run prog w=.ok 1 w:=by kernel_rfl
theorem RT (w:World):(Go.sizeOf 23).run prog w=.ok 1 w:=by kernel_rfl
theorem XS (w:World):(Go.sizeOf 26).run prog w=.ok 1 w:=by kernel_rfl
section
variable {σ B:Hp}{R:Rr}{X:Bx}
end
theorem AJ5:CO T0 iS=0:=by kernel_rfl
section
variable {σ:Hp}{R:Rr}
end
section
variable {σ:Hp}{R:Rr}
theorem N0 {b:Nat}(h:R (.returned (.U b)) σ):Spec prog 12 #[.float .f64 b] σ R:=Vf.start (.y Nk ⟨_,rfl,h⟩)
set_option maxRecDepth 100000 in
theorem AJ6 {x y : Operand} {a b a' b' : Int} : YF prog (do eqGuard .neq 42 x y (.agg #[.I a,.U b]) (.agg #[.I a',.U b']); binOp .neq 42 (.agg #[.I a,.U b]) (.agg #[.I a',.U b'])) σ (.bool (!(a == a' && b == b'))) := fun w _ => by
 have u1 := underlying2
 have u2 := underlying38
 have hS : prog.underlying 42 = some (.struct (prog.fieldsOf 42)) := by kernel_rfl
 have hp : prog.stoodInHeld 42 = false := by kernel_rfl
 have hf : (prog.fieldsOf 42).toList = [{ name := "T",type := 2,offset := 0,embedded := false,tag := "",pkgPath := "",byteOffset := 0 },{ name := "V",type := 38,offset := 1,embedded := false,tag := "",pkgPath := "",byteOffset := 8 }] := by kernel_rfl
 simp only [Sem.run_bind,run_eqGuard_agg _ _ _ _ _ _ _ (show prog.eqGuardType prog.depth 42 = false by kernel_rfl),Result.andThen_ok,run_neq_struct]
 rw [show (10000 : Nat) = 9999 + 1 from rfl,run_equalIn_agg w 9999 42 _ _ hS hp,hf]
 simp only [Op.eqFields]
 go_simp
 by_cases h1 : a = a' <;> by_cases h2 : b = b' <;> simp [h1,h2]
theorem Qj {p p':Option Addr}{n n' c c':Nat}{ps:List Pt}(h1:Ac 2 C1 σ p n ps)(h2:Ac 2 C1 σ p' n' ps)(hR:R (.B true) σ):Spec prog 14 #[.slice p n c,.slice p' n' c'] σ R:=by
 have e1:ps.length=n:=h1.1;have e2:ps.length=n':=h2.1;refine Cg.start ⟨fun Ay=>absurd (by omega) Ay,fun _=>?_⟩
 suffices H:∀d i:Nat,n-i=d→i≤n→Cg.Ek R p n c p' n' c' i σ from H n 0 rfl (AWx _)
 intro d
 induction d with
 | zero=>exact fun i hd hi=>Cg.EP ⟨fun Am=>by omega,fun _=>hR⟩
 | succ d ih=>
  intro i hd hi;obtain⟨x,hx⟩:=h1.ex (show i<n by omega);obtain⟨b,o,rfl,l1⟩:=C1.at h1 hx;obtain⟨b',o',rfl,l2⟩:=C1.at h2 hx;exact Cg.EP ⟨fun _=>⟨b,o,rfl,by omega,x.1,x.2,by simpa using l1,b',o',rfl,by omega,x.1,x.2,by simpa using l2,_,AJ6,fun hh=>by simp at hh,fun _=>⟨AN (by omega) h1.big,ih (i+1) (by omega) (by omega)⟩⟩,fun hh=>by omega⟩
theorem APJ:AM ((0:Int)+0):=by unfold AM;omega
theorem AJ7:AM ((0:Int)+0+300):=by unfold AM;omega
theorem r6 {p:Option Addr}{n c:Nat}(hr:Ac 10 Ha σ p n T0)(h:∀σ',Ext σ σ'→R (.T #[.I 300,.I 0]) σ'):Spec prog 13 #[.slice p n c] σ R:=by
 have hn:2=n:=hr.1;subst hn;refine Bs.start (T3 hr (by decide) XR.tx (fun k σ' hk hx=>⟨_,_,_,rfl,fun hh=>absurd rfl hh,fun _=>?_⟩) fun k j e σ' hk=>by rw[ty0]at hk;cases hk);have Gi:=hr.mono Ha.mono hx;obtain⟨b,o,p1,k1,c1,q1,m1,d1,rfl,j0,_,_⟩:=Ha.at Gi (i:=0) (x:=nV) rfl;obtain⟨b',o',p2,k2,c2,q2,m2,d2,he,N8,_,_⟩:=Ha.at Gi (i:=1) (x:=nA) rfl;cases he;refine Bs.Wq ⟨fun _=>⟨b,o,rfl,by decide,_,_,_,_,_,_,_,_,_,_,_,_,_,_,j0,fun _=>⟨fun hh=>absurd rfl hh,fun _=>⟨APJ,fun _=>⟨AJ7,Bs.ud ?_⟩,fun hh=>absurd rfl hh⟩⟩⟩,fun hh=>absurd (by decide) hh⟩;refine⟨fun _=>Bs.Ws (Bs.gM ⟨by unfold AM;omega,Bs.Wq ⟨fun _=>⟨b,o,rfl,by decide,_,_,_,_,_,_,_,_,_,_,_,_,_,_,N8,fun _=>⟨fun _=>⟨fun _=>Bs.gM ⟨by unfold AM;omega,Bs.Wq ⟨fun hh=>absurd hh (by decide),fun _=>h _ hx⟩⟩,fun hh=>absurd (by decide) hh⟩,fun hh=>absurd (by decide) hh⟩⟩,fun hh=>absurd (by decide) hh⟩⟩),fun hh=>by cases hh⟩
theorem bA {σ:Hp}{b:Nat}{o:Obj}(h:σ b=none):Ext σ (σ.set b o)∧σ.set b o b=some o:=⟨.set h,Hp.AA _ _ _⟩
theorem Kl {α:Type}{s b n:Nat}{T:TypeId}{E:Hp→List Value→α→Prop}{cs:List Value}{xs:List α}(h:σ b=some (.cells cs.toArray T (0,0)))(hl:cs.length=n*s)(hn:xs.length=n)(hb:n≤1000)(hE:∀(i:Nat) (x:α),xs[i]?=some x→E σ ((cs.drop (i*s)).take s) x):Ac s E σ (aD b 0) n xs:=
 ⟨hn,cs,⟨hl,by omega,.inr ⟨b,0,rfl,Av.Cm h⟩⟩,by rw[hl,hn],hE⟩
def AJ8:Prop:=∀{σ:Hp} {R:Rr} {p q:Option Addr} {n c k d:Nat},Gl σ→Ac 10 Ha σ p n T0→Ac 2 CA σ q k iS→(∀b o e p2 c2 σ',Ext σ σ'→Hp.ld σ' ⟨b,o+1,none⟩=some (.slice p2 2 c2)→R (.T #[.slice (some ⟨b,o,none⟩) 1 e,.I 0]) σ')→
 Spec prog 6 #[.slice p n c,.slice q k d,.I 0,.I 60,.I 60] σ R
theorem r8 (APK:AJ8):Awk:=fun σ R hg h=>by
 refine QU.start fun A7 iE=>N0 ⟨_,rfl,N0 ⟨_,rfl,fun Lx h16 Pd h20=>N0 ⟨_,rfl,fun PC h23 LF h25 bQ h27 jc h30=>?_⟩⟩⟩;have x11:=Ext.set (o:=.cells #[(.string (ByteArray.mk #[95,95,110,97,109,101,95,95])),(.string (ByteArray.mk #[120])),(.string (ByteArray.mk #[97])),(.string (ByteArray.mk #[49]))] 36 (0,0)) iE;have x16:=Ext.set (o:=.cells #[.I 0,.U v1,.I 60,.U v3] 42 (0,0)) h16;have HO:=Ext.set (o:=.cells #[(.string (ByteArray.mk #[95,95,110,97,109,101,95,95])),(.string (ByteArray.mk #[120])),(.string (ByteArray.mk #[97])),(.string (ByteArray.mk #[50]))] 36 (0,0)) h20;have Cz:=Ext.set (o:=.cells #[.I 60,.U v5] 42 (0,0)) h23;have Ky:=Ext.set (o:=.cells #[(.slice (aD A7 0) 2 2),(.slice (aD Lx 0) 2 2),(.slice (aD Pd 0) 2 2),(.slice (aD PC 0) 1 1)] 45 (0,0)) h25;have Ja:=Ext.set (o:=.cells #[.I 1,(.string (ByteArray.mk #[95,95,110,97,109,101,95,95])),(.string (ByteArray.mk #[120]))] 47 (0,0)) h27;obtain⟨Vp,g30⟩:=bA (o:=.cells #[.I 2,.I 0,(.string (ByteArray.mk #[])),(.slice (aD bQ 0) 1 1),.I 0,.I 0,.I 0,.N,.bool false,.I 0,.I 5,.I 1,(.string (ByteArray.mk #[])),.N,.I 0,.I 0,.I 0,.N,.bool false,.I 1] 51 (0,0)) h30;have g11:=(x16.trans (HO.trans (Cz.trans (Ky.trans (Ja.trans Vp))))) A7 _ (Hp.AA _ _ _);have g16:=(HO.trans (Cz.trans (Ky.trans (Ja.trans Vp)))) Lx _ (Hp.AA _ _ _);have g20:=(Cz.trans (Ky.trans (Ja.trans Vp))) Pd _ (Hp.AA _ _ _);have g23:=(Ky.trans (Ja.trans Vp)) PC _ (Hp.AA _ _ _);have g25:=(Ja.trans Vp) LF _ (Hp.AA _ _ _);have g27:=Vp bQ _ (Hp.AA _ _ _);have hx:=x11.trans (x16.trans (HO.trans (Cz.trans (Ky.trans (Ja.trans Vp)))))
 change Spec prog 9 #[.slice (aD jc 0) 2 2,.slice (aD LF 0) 2 2,.I 60] (Hp.set _ jc _) _
 generalize hτ:Hp.set _ jc _=τ at *;have rA:Dz τ (aD A7 0) 2 ACg:=Kl g11 rfl rfl (by decide) fun i x hx=>match i,hx with
  | 0,hx=>by cases hx;rfl
  | 1,hx=>by cases hx;rfl
  | i+2,hx=>by simp[ACg]at hx
 have rB:Dz τ (aD Pd 0) 2 ACh:=Kl g20 rfl rfl (by decide) fun i x hx=>match i,hx with
  | 0,hx=>by cases hx;rfl
  | 1,hx=>by cases hx;rfl
  | i+2,hx=>by simp[ACh]at hx
 have rP:Ac 2 C1 τ (aD Lx 0) 2 [(0,v1),(60,v3)]:=Kl g16 rfl rfl (by decide) fun i x hx=>match i,hx with
  | 0,hx=>by cases hx;rfl
  | 1,hx=>by cases hx;rfl
  | i+2,hx=>by simp at hx
 have rQ:Ac 2 C1 τ (aD PC 0) 1 [(60,v5)]:=Kl g23 rfl rfl (by decide) fun i x hx=>match i,hx with
  | 0,hx=>by cases hx;rfl
  | i+1,hx=>by simp at hx
 have rS:Ac 2 CA τ (aD LF 0) 2 iS:=Kl g25 rfl rfl (by decide) fun i x hx=>match i,hx with
  | 0,hx=>by cases hx;exact⟨_,_,_,_,_,_,rfl,rA,rP,by decide⟩
  | 1,hx=>by cases hx;exact⟨_,_,_,_,_,_,rfl,rB,rQ,by decide⟩
  | i+2,hx=>by simp[iS]at hx
 have rM:Ac 3 Ni τ (aD bQ 0) 1 [⟨1,V0,sX⟩]:=Kl g27 rfl rfl (by decide) fun i x hx=>match i,hx with
  | 0,hx=>by cases hx;rfl
  | i+1,hx=>by simp at hx
 have rN:Gq 1 τ none 0 (([]:List ByteArray).map .string):=⟨rfl,by decide,.inl rfl⟩;have rT:Ac 10 Ha τ (aD jc 0) 2 T0:=Kl g30 rfl rfl (by decide) fun i x hx=>match i,hx with
  | 0,hx=>by cases hx;exact⟨_,_,_,_,_,_,rfl,rM,rN⟩
  | 1,hx=>by cases hx;exact⟨_,_,_,_,_,_,rfl,Ac.nil,rN⟩
  | i+2,hx=>by simp[T0]at hx
 have AJ9:=hg.mono hx;refine inst_spec AJ9 rT rS XR (fun τ1 p' n' c' σ1 bs h0 hA Bi=>⟨_,_,_,_,rfl,?_⟩) fun σ1 Ay=>absurd (by rw[inst60]) Ay;rw[inst60]at hA;have X1:=Bi.trans hA.ext;refine APK (AJ9.mono X1) (rT.mono Ha.mono X1) (rS.mono CA.mono X1) fun b o e p2 c2 σ2 A4 lW=>⟨_,_,_,_,rfl,r6 (rT.mono Ha.mono (X1.trans A4)) fun σ3 CG=>⟨_,_,rfl,?_⟩⟩;have hA3:=(hA.mono (A4.trans CG)).rd;have hn1:1=n':=hA3.1;subst hn1;obtain⟨IU,yU,p1,n1,c1,q1,m1,d1,rfl,hl,_,HR,_⟩:=CA.at hA3 (i:=0) (s:=⟨[],[(60,v8)]⟩) rfl;have kh:1=m1:=HR.1;subst kh;refine⟨fun _=>⟨fun _=>⟨IU,yU,rfl,by decide,q1,1,d1,by simpa using hl.2.1,N0 ⟨_,rfl,.HI (.refl _),fun b62 h62=>?_⟩⟩,fun hh=>absurd rfl hh⟩,fun hh=>absurd rfl hh⟩;obtain⟨vC,g62⟩:=bA (o:=.cells #[.I 60,.U v8] 42 (0,0)) h62;refine Qj (ps:=[(60,v8)]) (HR.mono C1.mono vC) (Kl g62 rfl rfl (by decide) fun i x hx=>match i,hx with
  | 0,hx=>by cases hx;rfl
  | i+1,hx=>by simp at hx) ⟨_,rfl,fun _=>⟨fun _=>⟨fun _=>⟨b,o,rfl,by decide,p2,2,c2,(CG.trans vC).ld lW,fun _=>⟨fun _=>?_,fun hh=>absurd rfl hh⟩,fun hh=>absurd rfl hh⟩,fun hh=>absurd rfl hh⟩,fun hh=>absurd rfl hh⟩,fun hh=>by cases hh⟩
 exact h _ (hx.trans (X1.trans (A4.trans (CG.trans vC))))
end
section
variable {σ σ':Hp}{R:Rr}{p:Option Addr}{n c:Nat}{ss:List Sr}
set_option maxRecDepth 100000 in
theorem AKA {x y : Operand} {a b a' b' : ByteArray} : YF prog (do eqGuard .neq 36 x y (.agg #[.string a,.string b]) (.agg #[.string a',.string b']); binOp .neq 36 (.agg #[.string a,.string b]) (.agg #[.string a',.string b'])) σ (.bool (!(a.toList == a'.toList && b.toList == b'.toList))) := fun w _ => by
 have u9 := underlying9
 have hS : prog.underlying 36 = some (.struct (prog.fieldsOf 36)) := by kernel_rfl
 have hp : prog.stoodInHeld 36 = false := by kernel_rfl
 have hf : (prog.fieldsOf 36).toList = [{ name := "Name",type := 9,offset := 0,embedded := false,tag := "",pkgPath := "",byteOffset := 0 },{ name := "Value",type := 9,offset := 1,embedded := false,tag := "",pkgPath := "",byteOffset := 16 }] := by kernel_rfl
 simp only [Sem.run_bind,run_eqGuard_agg _ _ _ _ _ _ _ (show prog.eqGuardType prog.depth 36 = false by kernel_rfl),Result.andThen_ok,run_neq_struct]
 rw [show (10000 : Nat) = 9999 + 1 from rfl,run_equalIn_agg w 9999 36 _ _ hS hp,hf]
 simp only [Op.eqFields]
 go_simp
 by_cases h1 : a.toList = a'.toList <;> by_cases h2 : b.toList = b'.toList <;> simp [h1,h2]
theorem fE {p p':Option Addr}{n n' c c':Nat}{ls:List Lb}(h1:Dz σ p n ls)(h2:Dz σ p' n' ls)(hR:R (.B true) σ):Spec prog 31 #[.slice p n c,.slice p' n' c'] σ R:=by
 have e1:ls.length=n:=h1.1;have e2:ls.length=n':=h2.1;refine Cf.start ⟨fun Ay=>absurd (by omega) Ay,fun _=>?_⟩
 suffices H:∀d i:Nat,n-i=d→i≤n→Cf.Ek R p n c p' n' c' i σ from H n 0 rfl (AWx _)
 intro d
 induction d with
 | zero=>exact fun i hd hi=>Cf.EP ⟨fun Am=>by omega,fun _=>hR⟩
 | succ d ih=>
  intro i hd hi;obtain⟨x,hx⟩:=h1.ex (show i<n by omega);obtain⟨b,o,rfl,l1⟩:=Dz.at h1 hx;obtain⟨b',o',rfl,l2⟩:=Dz.at h2 hx;exact Cf.EP ⟨fun _=>⟨b,o,rfl,by omega,x.1,x.2,by simpa using l1,b',o',rfl,by omega,x.1,x.2,by simpa using l2,_,AKA,fun hh=>by simp at hh,fun _=>⟨AN (by omega) h1.big,ih (i+1) (by omega) (by omega)⟩⟩,fun hh=>by omega⟩
theorem fF {q:Option Addr}{m d:Nat}(h1:Ac 2 CA σ p n ss)(h2:Ac 2 CA σ q m ss)(hR:R (.B true) σ):Spec prog 11 #[.slice p n c,.slice q m d] σ R:=by
 have e1:ss.length=n:=h1.1;have e2:ss.length=m:=h2.1;refine Ci.start ⟨fun Ay=>absurd (by omega) Ay,fun _=>?_⟩
 suffices H:∀d' i:Nat,n-i=d'→i≤n→Ci.Ek R p n c q m d i σ from H n 0 rfl (AWx _)
 intro d'
 induction d' with
 | zero=>exact fun i hd hi=>Ci.EP ⟨fun Am=>by omega,fun _=>hR⟩
 | succ d' ih=>
  intro i hd hi;obtain⟨x,hx⟩:=h1.ex (show i<n by omega);obtain⟨b,o,p1,k1,c1,q1,m1,d1,rfl,l1,APL,APM,_⟩:=CA.at h1 hx;obtain⟨b',o',p2,k2,c2,q2,m2,d2,rfl,l2,APN,APO,_⟩:=CA.at h2 hx;exact Ci.EP ⟨fun _=>⟨b,o,rfl,by omega,p1,k1,c1,by simpa using l1.1,b',o',rfl,by omega,p2,k2,c2,by simpa using l2.1,fE APL APN ⟨_,rfl,fun hh=>(by cases hh),fun _=>⟨by omega,q1,m1,d1,by simpa using l1.2.1,by omega,q2,m2,d2,by simpa using l2.2.1,Qj APM APO ⟨_,rfl,fun hh=>(by cases hh),fun _=>⟨AN (by omega) h1.big,ih (i+1) (by omega) (by omega)⟩⟩⟩⟩⟩,fun hh=>by omega⟩
end
theorem ACj:∀w,(Go.sizeOf 42).run prog w=.ok 2 w:=fun w=>by kernel_rfl
theorem ACk {α:Type}{s:Nat}{E:Hp→List Value→α→Prop}{σ:Hp}{p:Option Addr}{n c:Nat}{x:α}{xs:List α}(h:Ac s E σ p n (x::xs))(hs:0<s)(hc:n≤c):Ac s E σ (Fe p 1 c s) (n-1) xs:=by
 have hn:(x::xs).length=n:=h.1;rw[AWw]at hn;have:=Ac.sub h (i:=1) (m:=n-1) hs (by omega) hc;rwa[List.drop_succ_cons,AZN,AWt (by omega)]at this
section
variable {α:Type}{s bs:Nat}{E:Hp→List Value→α→Prop}{σ0 σ:Hp}{p q:Option Addr}{n c m d:Nat}{xs zs:List α}
theorem Aa.wX {T Et ty:TypeId}[I3 prog T Et s bs]{Φ:Value→Hp→Prop}(hE:Gs E)(h1:∀σ vs x,E σ vs x→Ey vs)(hs:0<s)(h:Aa s E σ0 σ p n c xs)(hy:Ac s E σ0 q m zs)(hb:(n+m)*bs≤140737488355328)
  (hΦ:∀p' c' σ',Aa s E σ0 σ' p' (n+m) c' (xs++zs)→Φ (.slice p' (n+m) c') σ'):AH prog (Builtin.append_ #[T,T] ty #[.slice p n c,.slice q m d]) σ Φ:=by
 obtain⟨⟨hl,cs,ho,hc⟩,qm⟩:=h;obtain⟨hz,ys,zN,wF,hy3⟩:=hy;have hch:Ch s E σ0 ys zs:=⟨wF,hy3⟩;exact CE ho (zN.mono (qm.trans (Ext.JR _ _))) (Ch.br h1 hch hs) hb fun p' c' σ' Qp Tk=>hΦ p' c' σ' ⟨⟨by rw[AWz,hl,hz],_,Qp,(hc.append (hch.mono hE qm)).mono hE Tk⟩,qm.trans Tk⟩
end
section
variable {σ:Hp}{R:Rr}
theorem XT {p q:Option Addr}{n c m d:Nat}{a b:List Pt}(hr:Ac 2 C1 σ p n a)(hs:Ac 2 C1 σ q m b)(fT:n≤c)(bU:m≤d)(hn1:n≤1000000000)(kh:m≤1000000000)
  (h:∀p' n' c' σ',Aa 2 C1 σ σ' p' n' c' (C0 a b)→R (.returned (.slice p' n' c')) σ'):Spec prog 29 #[.slice p n c,.slice q m d] σ R:=by
 refine A0.start ?_
 suffices H:∀(g:Nat) (a' b':List Pt) (pa pb:Option Addr) (na ca nb cb:Nat) (τ:Hp) (p5:Option Addr) (n5 c5:Nat) (out:List Pt),a'.length+b'.length≤g→Ac 2 C1 σ pa na a'→na≤ca→Ac 2 C1 σ pb nb b'→nb≤cb→Aa 2 C1 σ τ p5 n5 c5 out→n5+na+nb≤2000000000→out++C0 a' b'=C0 a b→A0.Ho R pa na ca pb nb cb p5 n5 c5 τ from
  H (a.length+b.length) a b p q n c m d σ none 0 0 [] (AWu _) hr fT hs bU (Aa.nil (.refl _)) (by omega) rfl
 intro g
 induction g with
 | zero=>
  intro a' b' pa pb na ca nb cb τ p5 n5 c5 out hg ha hca hb hcb ho h5 he;have e1:a'=[]:=AXE.1 (by omega);have e2:b'=[]:=AXE.1 (by omega);subst e1;subst e2;have hna:0=na:=ha.1;subst hna;refine A0.BJ ⟨fun hh=>absurd hh (by decide),fun _=>?_⟩;refine Aa.wX C1.mono C1.one (by decide) ho ha (by omega) fun p' c' σ' Qp=>⟨_,_,_,rfl,Aa.wX C1.mono C1.one (by decide) Qp hb (by omega) fun p2 c2 σ2 Bp=>⟨_,_,_,rfl,?_⟩⟩;rw[H3,AYC]at he;rw[AYC,AYC,he]at Bp;exact h _ _ _ _ Bp
 | succ g ih=>
  intro a' b' pa pb na ca nb cb τ p5 n5 c5 out hg ha hca hb hcb ho h5 he;have hup:=ho.up;have hla:a'.length=na:=ha.1;have qX:b'.length=nb:=hb.1;have tail:(a'=[]∨b'=[])→AH prog (Builtin.append_ #[43,43] 43 #[.slice p5 n5 c5,.slice pa na ca]) τ (CS fun p63 n63 c63 y=>AH prog (Builtin.append_ #[43,43] 43 #[.slice p63 n63 c63,.slice pb nb cb]) y (CS fun p65 n65 c65 AE=>R (.returned (.slice p65 n65 c65)) AE)):=fun aA=>by
   refine Aa.wX C1.mono C1.one (by decide) ho ha (by omega) fun p' c' σ' Qp=>⟨_,_,_,rfl,Aa.wX C1.mono C1.one (by decide) Qp hb (by omega) fun p2 c2 σ2 Bp=>⟨_,_,_,rfl,?_⟩⟩;have e:out++a'++b'=C0 a b:=by
    rw[←he,AXf];rcases aA with rfl|rfl
    ·rw[H4];rfl
    ·rw[H3,AYC]
   rw[e]at Bp;exact h _ _ _ _ Bp
  cases a' with
  | nil=>exact A0.BJ ⟨fun hh=>by simp only[AXw]at hla;omega,fun _=>tail (.inl rfl)⟩
  | cons x a'=>
   cases b' with
   | nil=>exact A0.BJ ⟨fun _=>⟨fun hh=>by simp only[AXw]at qX;omega,fun _=>tail (.inr rfl)⟩,fun _=>tail (.inr rfl)⟩
   | cons y b'=>
    rw[AWw]at hla qX;simp only[AWw]at hg;obtain⟨bx,ox,rfl,W5⟩:=C1.at ha (i:=0) (x:=x) rfl;obtain⟨zM,oy,rfl,Xl⟩:=C1.at hb (i:=0) (x:=y) rfl;rw[AYL,AX1]at W5 Xl;have lx:=W5.mono hup;have ly:=Xl.mono hup;rw[GC]at he;have ta:=ACk ha (by decide) hca;have tb:=ACk hb (by decide) hcb;have one:In 0 (na:Int):=by unfold In;omega
    have two:In 0 (nb:Int):=by unfold In;omega
    have push:∀(z:Pt) (τ1:Hp) (a2 b2:List Pt) (pa2 pb2:Option Addr) (na2 ca2 nb2 cb2:Nat),Ext τ τ1→a2.length+b2.length≤g→Ac 2 C1 σ pa2 na2 a2→na2≤ca2→Ac 2 C1 σ pb2 nb2 b2→nb2≤cb2→na2+nb2+1≤na+nb→(out++[z])++C0 a2 b2=C0 a b→
      Al τ1 fun bb=>AH prog (Builtin.append_ #[43,43] 43 #[.slice p5 n5 c5,(.slice (aD bb 0) 1 1)]) (Hp.set τ1 bb (.cells #[.I z.1,.U z.2] 42 (0,0))) (CS fun p' n' c' AE=>A0.Ho R pa2 na2 ca2 pb2 nb2 cb2 p' n' c' AE):=fun z τ1 a2 b2 pa2 pb2 na2 ca2 nb2 cb2 hx h1 h2 h3 h4 h6 h7 h8 bb hbb=>
     Aa.LZ (vs:=[.I z.1,.U z.2]) (x:=z) C1.mono (ho.mono C1.mono hx) rfl (C1.one τ1 _ z rfl) rfl (by omega) (fun p' c' τ' Qp _=>⟨_,_,_,rfl,ih a2 b2 pa2 pb2 na2 ca2 nb2 cb2 τ' p' (n5+1) c' (out++[z]) h1 h2 h3 h4 h6 Qp (by omega) h8⟩) hbb
    have body:∀b6:Nat,τ b6=none→AH prog (Instr.storeAt 42 (.pointer (aD b6 0)) (.agg #[.I x.1,.U x.2])) (Hp.set τ b6 (.cells #[.I 0,.U 0] 42 (0,0))) (fun _ yy=>Kp [zM] (Hp.set τ b6 (.cells #[.I 0,.U 0] 42 (0,0))) yy∧LI .i64 yy b6 0 fun xX=>Br (xX<y.1) (∃SF SG,Av yy b6 0 [.I SF,.U SG]∧((0:Int)≤1∧1≤(na:Int))∧Al yy fun Uy=>AH prog (Builtin.append_ #[43,43] 43 #[.slice p5 n5 c5,(.slice (aD Uy 0) 1 1)]) (Hp.set yy Uy (.cells #[.I SF,.U SG] 42 (0,0))) (CS fun gK n46 dP AE=>A0.Ho R (Fe (aD bx ox) 1 ca 2) (na-1) (ca-1) (aD zM oy) nb cb gK n46 dP AE)) (LI .i64 yy b6 0 fun x53=>Br (y.1<x53) (((0:Int)≤1∧1≤(nb:Int))∧Al yy fun IU=>AH prog (Builtin.append_ #[43,43] 43 #[.slice p5 n5 c5,(.slice (aD IU 0) 1 1)]) (Hp.set yy IU (.cells #[.I y.1,.U y.2] 42 (0,0))) (CS fun Mu ND N9 AE=>A0.Ho R (aD bx ox) na ca (Fe (aD zM oy) 1 cb 2) (nb-1) (cb-1) Mu ND N9 AE)) (LI .i64 yy b6 0 fun HS=>LI .u64 yy b6 1 fun Uz=>((0:Int)≤1∧1≤(na:Int))∧((0:Int)≤1∧1≤(nb:Int))∧Al yy fun jg=>AH prog (Builtin.append_ #[43,43] 43 #[.slice p5 n5 c5,(.slice (aD jg 0) 1 1)]) (Hp.set yy jg (.cells #[.I HS,(.U (if Uz<y.2 then y.2 else Uz))] 42 (0,0))) (CS fun p32 n32 c32 AE=>A0.Ho R (Fe (aD bx ox) 1 ca 2) (na-1) (ca-1) (Fe (aD zM oy) 1 cb 2) (nb-1) (cb-1) p32 n32 c32 AE)))):=fun b6 h6=>by
     refine AH.Fm (τ:=τ) (L:=[(b6,.cells #[.I 0,.U 0] 42 (0,0))]) (i:=0) (c:=#[.I 0,.U 0]) (c':=#[.I x.1,.U x.2]) ACj (by simp[names]) rfl rfl rfl rfl rfl ?_;have x6:Ext τ (AU τ (([(b6,Obj.cells #[.I 0,.U 0] 42 (0,0))]:List (Nat×Obj)).set 0 (b6,Obj.cells #[.I x.1,.U x.2] 42 (0,0)))):=Ext.set h6;have g6:(AU τ (([(b6,Obj.cells #[.I 0,.U 0] 42 (0,0))]:List (Nat×Obj)).set 0 (b6,Obj.cells #[.I x.1,.U x.2] 42 (0,0)))) b6=some (.cells #[.I x.1,.U x.2] 42 (0,0)):=Hp.AA _ _ _;generalize zN:AU τ (([(b6,Obj.cells #[.I 0,.U 0] 42 (0,0))]:List (Nat×Obj)).set 0 (b6,Obj.cells #[.I x.1,.U x.2] 42 (0,0)))=y1 at *;have l0:Hp.ld y1 ⟨b6,0,none⟩=some (.I x.1):=Af g6 rfl;have l1:Hp.ld y1 ⟨b6,1,none⟩=some (.U x.2):=Af g6 rfl;refine⟨fun k hk u hu=>?_,x.1,l0,fun Am=>?_,fun Vu=>⟨x.1,l0,fun yo=>?_,fun hle=>⟨x.1,l0,x.2,l1,?_⟩⟩⟩
     ·rw[AWs]at hk;subst hk;have Ay:k≠b6:=fun e=>by
       have:=ly.1;rw[e]at this;simp[Hp.ld,h6]at this
      rw[Hp.AF Ay]at hu;exact x6 _ _ hu
     ·rw[AWl Am]at he;refine⟨x.1,x.2,Av.Cm (c:=[.I x.1,.U x.2]) g6,⟨by decide,by omega⟩,?_⟩;exact push x y1 a' (y::b') _ _ _ _ _ _ x6 (by rw[AWw];omega) ta (by omega) hb hcb (by omega) (by rw[AXf];exact he)
     ·rw[AWj Vu,AWl yo]at he;exact⟨⟨by decide,by omega⟩,push y y1 (x::a') b' _ _ _ _ _ _ x6 (by rw[AWw];omega) ha hca tb (by omega) (by omega) (by rw[AXf];exact he)⟩
     ·rw[AWj Vu,AWj hle]at he;exact⟨⟨by decide,by omega⟩,⟨by decide,by omega⟩,push (x.1,if x.2<y.2 then y.2 else x.2) y1 a' b' _ _ _ _ _ _ x6 (by omega) ta (by omega) tb (by omega) (by omega) (by rw[AXf];exact he)⟩
    exact A0.BJ ⟨fun _=>⟨fun _=>⟨bx,ox,rfl,one,x.1,x.2,lx,zM,oy,rfl,two,y.1,y.2,ly,fun b6 h6 _=>body b6 h6,fun _ b6 h6=>body b6 h6⟩,fun hh=>by omega⟩,fun hh=>by omega⟩
theorem Qk {p q:Option Addr}{n c m d b3 b7:Nat}{ls:List Lb}{ps:List Pt}{G:Option Addr→Nat→Nat→Option Addr→Nat→Nat→Hp→Prop}(hl:Dz σ p n ls)(hp:Ac 2 C1 σ q m ps)(hn:n≤1000000000)(hm:m≤1000000000)
  (h:∀p' c' q' d' σ',Dz (σ.new σ') p' n ls→Ac 2 C1 (σ.new σ') q' m ps→m≤d'→Ext σ σ'→G p' n c' q' m d' σ') (h7:σ b7=none) (h3:(σ.set b7 (.cells #[] 42 (0,0))) b3=none) :
  AH prog (Builtin.append_ #[37,37] 37 #[(.slice (aD b3 0) 0 0),.slice p n c]) ((σ.set b7 (.cells #[] 42 (0,0))).set b3 (.cells #[] 36 (0,0))) (CS fun p6 n6 c6 y=>AH prog (Builtin.append_ #[43,43] 43 #[(.slice (aD b7 0) 0 0),.slice q m d]) y (CS fun SC n10 NI AE=>G p6 n6 c6 SC n10 NI AE)):=by
 have x7:=Ext.set (o:=.cells #[] 42 (0,0)) h7;obtain⟨kh,cs,yz,hm3⟩:=hp;refine E8 (hl.mono BM.mono x7) hn (fun p' c' σ2 Bp A4=>⟨_,_,_,rfl,?_⟩) h3;have ACn:=x7.trans A4;refine CE (Ao.mono A4 Ao.empty) (yz.mono ACn) (Ch.br C1.one hm3 (by decide)) (by omega) fun q' d' σ3 Db CG=>?_;have hq:∀a:Addr,(some (⟨b7,0,none⟩:Addr))=some a→σ a.block=none:=fun a ha=>by cases ha;exact h7
 rw[AXl]at Db ⊢;rw[AXi]at Db;refine⟨_,_,_,rfl,h p' c' q' d' σ3 ?_ ⟨kh,cs,Ao.rd (Ao.PI Db (Ez hq CG ACn)),hm3.1,fun i x hx=>hm3.2 i x hx⟩ (Ao.cap Db) (IN hq CG ACn)⟩;refine(Bp.rd BM.mono).mono BM.mono fun k u hk=>?_;obtain⟨k1,k2⟩:=AQ.1 hk;obtain⟨k3,k4⟩:=Hp.Bu k1;have:=CG k u (AR.2 ⟨fun a ha=>by cases ha;exact k3,k2⟩);exact AQ.2 ⟨k4,(AR.1 this).2⟩
theorem wY {p q:Option Addr}{n c m d:Nat}{ls:List Lb}{ps:List Pt}{G:Option Addr→Nat→Nat→Option Addr→Nat→Nat→Hp→Prop}(hl:Dz σ p n ls)(hp:Ac 2 C1 σ q m ps)(hn:n≤1000000000)(hm:m≤1000000000)
  (h:∀p' c' q' d' σ',Dz (σ.new σ') p' n ls→Ac 2 C1 (σ.new σ') q' m ps→m≤d'→Ext σ σ'→G p' n c' q' m d' σ') :
  (Al σ fun Bc=>(AH prog (Builtin.append_ #[37,37] 37 #[(.slice (aD Bc 0) 0 0),.slice p n c]) (Hp.set σ Bc (.cells #[] 36 (0,0))) (CS fun Mv n16 Ln y=>Al y fun Mf=>AH prog (Builtin.append_ #[43,43] 43 #[(.slice (aD Mf 0) 0 0),.slice q m d]) (Hp.set y Mf (.cells #[] 42 (0,0))) (CS fun Xi n20 Xj AE=>G Mv n16 Ln Xi n20 Xj AE)))∧(Al (Hp.set σ Bc (.cells #[] 36 (0,0))) fun Mf=>AH prog (Builtin.append_ #[37,37] 37 #[(.slice (aD Bc 0) 0 0),.slice p n c]) (Hp.set (Hp.set σ Bc (.cells #[] 36 (0,0))) Mf (.cells #[] 42 (0,0))) (CS fun Mv n16 Ln y=>AH prog (Builtin.append_ #[43,43] 43 #[(.slice (aD Mf 0) 0 0),.slice q m d]) y (CS fun Xi n20 Xj AE=>G Mv n16 Ln Xi n20 Xj AE))))∧
  (Al σ fun Mf=>Al (Hp.set σ Mf (.cells #[] 42 (0,0))) fun Bc=>AH prog (Builtin.append_ #[37,37] 37 #[(.slice (aD Bc 0) 0 0),.slice p n c]) (Hp.set (Hp.set σ Mf (.cells #[] 42 (0,0))) Bc (.cells #[] 36 (0,0))) (CS fun Mv n16 Ln y=>AH prog (Builtin.append_ #[43,43] 43 #[(.slice (aD Mf 0) 0 0),.slice q m d]) y (CS fun Xi n20 Xj AE=>G Mv n16 Ln Xi n20 Xj AE))):=by
 refine⟨fun b3 h3=>⟨?_,fun b7 h7=>?_⟩,fun b7 h7 b3 h3=>Qk hl hp hn hm h h7 h3⟩
 ·refine E8 hl hn (fun p' c' σ2 Bp A4=>⟨_,_,_,rfl,fun b7 h7=>?_⟩) h3;obtain⟨kh,cs,yz,hm3⟩:=hp;refine LU (yz.mono A4) (Ch.br C1.one hm3 (by decide)) (by omega) (fun q' d' σ3 Db CG=>⟨_,_,_,rfl,?_⟩) h7;exact h p' c' q' d' σ3 ((Bp.rd BM.mono).mono BM.mono (Ext.GQ CG)) ⟨kh,cs,(Ao.rd Db).mono (Ext.DD A4),hm3.1,fun i x hx=>hm3.2 i x hx⟩ (Ao.cap Db) (A4.trans CG)
 ·obtain⟨e1,e2⟩:=Hp.Bu h7;rw[Hp.KT (AXn e1)];exact Qk hl hp hn hm h e2 (by rw[Hp.AF (AXn e1)];exact h3)
theorem fG {p:Option Addr}{n c:Nat}{ss:List Sr}(hr:Ac 2 CA σ p n ss)(hn:n≤2900000000000)(hS:∀s∈ss,s.ls.length≤1000000000∧s.ps.length≤1000000000)(h:∀p' c' σ',Ac 2 CA σ' p' n ss→n≤c'→Ext σ σ'→R (.returned (.slice p' n c')) σ'):Spec prog 30 #[.slice p n c] σ R:=by
 have hl:ss.length=n:=hr.1;refine EA.start ?_
 suffices H:∀g i:Nat,∀p3 n3 c3 σ',n-i=g→i≤n→Aa 2 CA σ σ' p3 n3 c3 (ss.take i)→EA.Aw R p3 n3 c3 p n c n i σ' from H n 0 none 0 0 σ rfl (AWx _) (Aa.nil (.refl _))
 intro g
 induction g with
 | zero=>
  intro i p3 n3 c3 σ' hg hi ho;rw[AWt (by omega)]at ho;have vd:n=n3:=hl.symm.trans ho.1.1;subst vd;exact EA.AY ⟨fun Am=>by omega,fun _=>h p3 c3 σ' (ho.rd CA.mono) (by obtain⟨cs,Ui,_⟩:=ho.1.2;exact Ao.cap Ui) ho.up⟩
 | succ g ih=>
  intro i p3 n3 c3 σ' hg hi ho;have Bj:i<n:=by omega
  obtain⟨x,hx⟩:=hr.ex Bj;obtain⟨b,o,p1,k1,c1,q1,m1,d1,rfl,Ee,gp,hps,bU⟩:=CA.at hr hx;obtain⟨a1,a2⟩:=hS x (AWn hx);have a3:x.ls.length=k1:=gp.1;have a4:x.ps.length=m1:=hps.1;have vd:n3=i:=by have:=ho.1.1;rw[AW0]at this;omega
  refine EA.AY ⟨fun _=>⟨b,o,rfl,by unfold In;omega,p1,k1,c1,q1,m1,d1,by simpa using Ee.mono ho.up,fun _=>wY (G:=fun Mv n16 Ln Xi n20 Xj AE=>Al AE fun dh=>AH prog (Builtin.append_ #[23,23] 23 #[.slice p3 n3 c3,(.slice (aD dh 0) 1 1)]) (Hp.set AE dh (.cells #[.slice Mv n16 Ln,.slice Xi n20 Xj] 45 (0,0))) (CS fun Us n23 RG AJ=>AM ((i:Int)+1)∧EA.Aw R Us n23 RG (aD b o) n c n ((i:Int)+1) AJ)) (gp.mono BM.mono ho.up) (hps.mono C1.mono ho.up) (by omega) (by omega) fun p4 c4 p5 c5 σ3 HR U8 hd3 CG dh APS=>?_⟩,fun hh=>by omega⟩;have Db:=ho.mono CA.mono CG;have he:CA (σ3.del p3) [.slice p4 k1 c4,.slice p5 m1 c5] x:=⟨p4,k1,c4,p5,m1,c5,rfl,HR.mono BM.mono (ho.new CG),U8.mono C1.mono (ho.new CG),hd3⟩;refine Aa.LZ CA.mono Db rfl (CA.one _ _ _ he) he (by omega) (fun p' c' σ4 KW _=>⟨_,_,_,rfl,AN Bj hr.big,?_⟩) APS;have:=ih (i+1) p' (n3+1) c' σ4 (by omega) (by omega) (by rw[Ag hx];exact KW);rw[show((i+1:Nat):Int)=(i:Int)+1 by omega]at this;exact this
end
end TwW
end
section
namespace TwW
open Go Tw
theorem LV:∀(a b:List Pt),C0 a b=C0 b a
 | [],b=>by rw[H4,H3]
 | x::a,[]=>by rw[H4,H3]
 | x::a,y::b=>by
  rw[GC,GC];by_cases h1:x.1<y.1
  ·rw[AWl h1,AWj (by omega),AWl h1,LV a (y::b)]
  ·rw[AWj h1];by_cases h2:y.1<x.1
   ·rw[AWl h2,AWl h2,LV (x::a) b]
   ·rw[AWj h2,AWj h2,AWj h1,LV a b];have e1:x.1=y.1:=by omega
    have e2:(if x.2<y.2 then y.2 else x.2)=(if y.2<x.2 then x.2 else y.2):=by
     by_cases h3:x.2<y.2
     ·rw[AWl h3,AWj (by omega)]
     ·rw[AWj h3];by_cases h4:y.2<x.2
      ·rw[AWl h4]
      ·rw[AWj h4];omega
    rw[e1,e2]
termination_by a b=>a.length+b.length
theorem wZ {a b:List Sr}(ha:a.Pairwise Pp)(hb:b.Pairwise Pp)(k:List Lb):Cy (D1 a b) k=Cy (D1 b a) k:=by
 rw[P2 _ _ ha hb,P2 _ _ hb ha];cases Cy a k<;>cases Cy b k<;>first|rfl|(dsimp only;rw[LV])
theorem kr {a b:List Sr}(ha:a.Pairwise Pp)(hb:b.Pairwise Pp):D1 b a=D1 a b:=
 fA (GI _ _ hb ha) (GI _ _ ha hb) fun k=>(wZ ha hb k).symm
def Lq (O:List Sr)(s:Sr):List Sr:=match O.getLast? with
 | some u=>if u.ls=s.ls then O.dropLast++[⟨u.ls,C0 u.ps s.ps⟩] else O++[s]
 | none=>O++[s]
theorem UR {O:List Sr}{u s:Sr}(h:u.ls=s.ls):Lq (O++[u]) s=O++[⟨u.ls,C0 u.ps s.ps⟩]:=by
 unfold Lq;rw[AZJ];simp[h]
theorem wa {O:List Sr}{s:Sr}(h:∀u∈O,u.ls≠s.ls):Lq O s=O++[s]:=by
 unfold Lq;cases hq:O.getLast? with
 | none=>rfl
 | some u=>dsimp only;rw[AWj (h u (AZH hq))]
inductive Pk:List Sr→List Sr→List Sr→Prop
 | nil:Pk [] [] []
 | left {a:Sr} {A B ys:List Sr}:(∀b,B.head?=some b→¬AX b.ls a.ls<0)→Pk A B ys→Pk (a::A) B (a::ys)
 | right {b:Sr} {A B ys:List Sr}:(∀a,A.head?=some a→¬AX a.ls b.ls<0)→Pk A B ys→Pk A (b::B) (b::ys)
theorem Pk.symm {A B ys:List Sr}(h:Pk A B ys):Pk B A ys:=by
 induction h with
 | nil=>exact .nil
 | left h1 _ ih=>exact .right h1 ih
 | right h1 _ ih=>exact .left h1 ih
theorem r9:∀(n:Nat) (A B ys O:List Sr),A.length+B.length≤n→A.Pairwise Pp→B.Pairwise Pp→Pk A B ys→(∀u∈O,(∀x∈A,Pp u x)∧∀y∈B,Pp u y)→ys.foldl Lq O=O++D1 A B:=by
 intro n
 induction n with
 | zero=>
  intro A B ys O hn hA hB hp hO;have e1:A=[]:=AXE.1 (by omega);have e2:B=[]:=AXE.1 (by omega);subst e1;subst e2;cases hp;rw[HD,AYC];rfl
 | succ n ih=>
  intro A B ys O hn hA hB hp hO;have key:∀(a:Sr) (A B ys:List Sr),(a::A).length+B.length≤n+1→(a::A).Pairwise Pp→B.Pairwise Pp→(∀b,B.head?=some b→¬AX b.ls a.ls<0)→Pk A B ys→(∀u∈O,(∀x∈a::A,Pp u x)∧∀y∈B,Pp u y)→(a::ys).foldl Lq O=O++D1 (a::A) B:=by
   intro a A B ys hn hA hB h1 hp hO;obtain⟨a1,a2⟩:=AXJ.1 hA;have hOa:∀u∈O,u.ls≠a.ls:=fun u hu=>Qh ((hO u hu).1 a (by simp));rw[AYq,wa hOa];cases B with
   | nil=>
    rw[ih A [] ys (O++[a]) (by simp only[AWw,AXw]at hn ⊢;omega) a2 hB hp fun u hu=>⟨fun x hx=>?_,fun y hy=>(by cases hy)⟩,H5,H5,AXf]
    ·rfl
    ·rcases AW8.1 hu with hu|hu
     ·exact(hO u hu).1 x (AWq _ hx)
     ·rw[AWs]at hu;subst hu;exact a1 x hx
   | cons b B=>
    obtain⟨b1,b2⟩:=AXJ.1 hB;have hba:=h1 b rfl;rw[GD];by_cases aA:AX a.ls b.ls<0
    ·rw[AWl aA,ih A (b::B) ys (O++[a]) (by simp only[AWw]at hn ⊢;omega) a2 hB hp fun u hu=>?_,AXf]
     ·rfl
     ·rcases AW8.1 hu with hu|hu
      ·exact⟨fun x hx=>(hO u hu).1 x (AWq _ hx),(hO u hu).2⟩
      ·rw[AWs]at hu;subst hu;refine⟨a1,fun y hy=>?_⟩;rcases AWo.1 hy with rfl|hy
       ·exact aA
       ·exact AO.trans _ _ _ aA (b1 y hy)
    ·have yo:¬0<AX a.ls b.ls:=fun h=>hba ((AO.KY _ _).2 h);have he:a.ls=b.ls:=(AO.eq _ _).1 (by omega);rw[AWj aA,AWj yo];have MQ:∃zs,ys=b::zs∧Pk A B zs:=by
      cases hp with
      | left h2 h3=>
       rename_i a' A' zs;exact absurd (by rw[←he];exact a1 a' (by simp)) (h2 b rfl)
      | right h2 h3=>exact⟨_,rfl,h3⟩
     obtain⟨zs,rfl,hp2⟩:=MQ;rw[AYq,UR he,ih A B zs _ (by simp only[AWw]at hn;omega) a2 b2 hp2 fun u hu=>?_,AXf]
     ·rfl
     ·rcases AW8.1 hu with hu|hu
      ·exact⟨fun x hx=>(hO u hu).1 x (AWq _ hx),fun y hy=>(hO u hu).2 y (AWq _ hy)⟩
      ·rw[AWs]at hu;subst hu;exact⟨a1,fun y hy=>by show AX a.ls y.ls<0;rw[he];exact b1 y hy⟩
  cases hp with
  | nil=>rw[HD,AYC];rfl
  | left h1 h2=>exact key _ _ _ _ hn hA hB h1 h2 hO
  | right h1 h2=>
   rename_i b B ys;rw[key b B A ys (by omega) hB hA h1 h2.symm fun u hu=>⟨(hO u hu).2,(hO u hu).1⟩,kr hA hB]
end TwW
end
section
namespace TwW
open Go Tw Go.RowKit Go.Proofs.Tryz
structure Cu where
 b:Nat
 p:Option Addr
 n:Nat
 c:Nat
 X:List Sr
def Cu.ptr (u:Cu):Value:=.pointer (aD u.b 0)
structure HM (τ N:Hp)(hb:Nat)(w:Option Addr)(e:Nat)(H:List Cu):Prop where
 hv:N hb=some (.cells #[.slice w H.length e] 103 (0,0))
 arr:Ao 1 N w H.length e (H.map Cu.ptr)
 cur:∀u∈H,N u.b=some (.cells #[.slice u.p u.n u.c] 108 (0,0))∧Ac 2 CA τ u.p u.n u.X∧u.n≤u.c
 ext:Ext τ N
 hτ:τ hb=none
 cτ:∀u∈H,τ u.b=none∧u.b≠hb
 aτ:∀a,w=some a→τ a.block=none∧a.block≠hb∧∀u∈H,u.b≠a.block
 nd:(H.map (·.b)).Nodup
section
variable {σ τ N N':Hp}{R:Rr}{hb e:Nat}{w:Option Addr}{H:List Cu}
theorem HM.mono (h:HM τ N hb w e H)(hx:Ext N N'):HM τ N' hb w e H:=⟨hx _ _ h.hv,h.arr.mono hx,fun u hu=>let ⟨a,b,c⟩:=h.cur u hu;⟨hx _ _ a,b,c⟩,h.ext.trans hx,h.hτ,h.cτ,h.aτ,h.nd⟩
theorem HM.at (h:HM τ N hb w e H){i:Nat}{u:Cu}(hi:H[i]?=some u):∃b o,w=some ⟨b,o,none⟩∧i<H.length∧Hp.ld N ⟨b,o+i,none⟩=some u.ptr:=by
 have Am:=(AWk.1 hi).1;obtain⟨_,_,hh⟩:=h.arr.rd;rcases hh with hh|⟨b,o,hp,hl⟩
 ·omega
 ·exact⟨b,o,hp,Am,hl.get (by rw[AXM,hi];rfl)⟩
theorem HM.tK (h:HM τ N hb w e H):Hp.ld N ⟨hb,0,none⟩=some (.slice w H.length e):=Af h.hv rfl
theorem ks {i j:Nat}{u v:Cu}{x y:Sr}(h:HM τ N hb w e H)(hi:H[i]?=some u)(hj:H[j]?=some v)(hu:u.X[0]?=some x)(hv:v.X[0]?=some y)(hR:∀N',Ext N N'→R (.returned (.bool (decide (AX x.ls y.ls<0)))) N'):
  Spec prog 293 #[.slice w H.length e,.I (i:Int),.I (j:Int)] N R:=by
 obtain⟨b,o,hw,tH,h1⟩:=h.at hi;obtain⟨b',o',hw',zG,h2⟩:=h.at hj;rw[hw] at hw';cases hw';obtain⟨c1,c2,c3⟩:=h.cur u (AWn hi);obtain⟨d1,d2,d3⟩:=h.cur v (AWn hj);obtain⟨bx,ox,p1,n1,e1,p2,n2,e2,hpu,l1,r1,_,_⟩:=CA.at (c2.mono CA.mono h.ext) hu;obtain⟨zM,oy,q1,m1,f1,q2,m2,f2,hpv,l2,r2,_,_⟩:=CA.at (d2.mono CA.mono h.ext) hv;have Uc:0<u.n:=by have:=(AWk.1 hu).1;have h9:u.X.length=u.n:=c2.1;omega
 have hvn:0<v.n:=by have:=(AWk.1 hv).1;have h9:v.X.length=v.n:=d2.1;omega
 rw[AYL,AX1]at l1 l2;refine CF.start ⟨b,o,hw,by unfold In;omega,aD u.b 0,by rw[AYe,AYJ];exact h1,u.b,0,rfl,u.p,u.n,u.c,Af c1 rfl,bx,ox,hpu,by unfold In;omega,p1,n1,e1,l1.1,by unfold In;omega,aD v.b 0,by rw[AYe,AYJ];exact h2,v.b,0,rfl,v.p,v.n,v.c,Af d1 rfl,zM,oy,hpv,by unfold In;omega,q1,m1,f1,l2.1,?_⟩;exact GB r1 r2 fun N' hx=>⟨_,rfl,hR N' hx⟩
theorem RU:∀w,(Go.sizeOf 106).run prog w=.ok 1 w:=fun w=>by kernel_rfl
instance:I3 prog 103 106 1 8:=⟨underlying103,⟨Go.Proofs.Tryz.t106,_,by kernel_rfl,rfl,rfl,rfl,rfl⟩,by decide,by decide⟩
theorem fH {p:Option Addr}{n c:Nat}:∀u∈(Value.slice p n c).cells.toList,u.oneCell'=true:=fun u hu=>by
 have hu:u∈[Value.slice p n c]:=hu;rw[AWs.1 hu];rfl
theorem iT:∀w,(Go.sizeOf 103).run prog w=.ok 1 w:=fun w=>by kernel_rfl
theorem HM.AKB {b o:Nat}{obj:Obj}{H':List Cu}(h:HM τ N hb (some ⟨b,o,none⟩) e H)(hl:H'.length=H.length)(hm:∀u∈H',u∈H)(hn:(H'.map (·.b)).Nodup)(ho:Ao 1 (N.set b obj) (some ⟨b,o,none⟩) H.length e (H'.map Cu.ptr)):HM τ (N.set b obj) hb (some ⟨b,o,none⟩) e H':=by
 obtain⟨a1,a2,a3⟩:=h.aτ _ rfl;refine⟨by rw[Hp.AF (fun e=>a2 e.symm),hl];exact h.hv,by rw[hl];exact ho,fun u hu=>?_,fun k v hk=>?_,h.hτ,fun u hu=>h.cτ u (hm u hu),fun a ha=>by cases ha;exact⟨a1,a2,fun u hu=>a3 u (hm u hu)⟩,hn⟩
 ·obtain⟨c1,c2⟩:=h.cur u (hm u hu);exact⟨by rw[Hp.AF (a3 u (hm u hu))];exact c1,c2⟩
 ·rw[Hp.AF (fun e=>by rw[e,a1]at hk;cases hk)];exact h.ext _ _ hk
theorem bB {u v:Cu}(h:HM τ N hb w e [u,v])(hR:∀N',HM τ N' hb w e [v,u]→R (.T #[]) N'):Spec prog 294 #[.slice w 2 e,.I 0,.I 1] N R:=by
 obtain⟨b,o,rfl,_,h1⟩:=h.at (i:=0) (u:=u) rfl;obtain⟨b',o',hw',_,h2⟩:=h.at (i:=1) (u:=v) rfl;cases hw';refine BA.start ⟨b,o,rfl,by decide,aD v.b 0,by simpa[Cu.ptr] using h2,by decide,aD u.b 0,by simpa[Cu.ptr] using h1,by decide,?_⟩;have ho:=h.arr;refine Ao.P3 (j:=0) ho (by simp) RU rfl rfl fun obj g1=>⟨by decide,Ao.P3 (j:=1) g1 (by simp) RU rfl rfl fun APU g2=>?_⟩;rw[Hp.set_set]at g2 ⊢;refine hR _ (h.AKB rfl (fun x hx=>?_) ?_ g2)
 ·simp only[AWo,AXA,AXk]at hx ⊢;exact hx.symm
 ·have:=h.nd;simp only[AXa,AZI,AXL,AWs,AXA,not_false_eq_true,AYH,and_true]at this ⊢;exact fun e=>this e.symm
theorem bC {u:Cu}(h:HM τ N hb w e [u])(hR:∀N',HM τ N' hb w e [u]→R (.T #[]) N'):Spec prog 294 #[.slice w 1 e,.I 0,.I 0] N R:=by
 obtain⟨b,o,rfl,_,h1⟩:=h.at (i:=0) (u:=u) rfl;refine BA.start ⟨b,o,rfl,by decide,aD u.b 0,by simpa[Cu.ptr] using h1,by decide,aD u.b 0,by simpa[Cu.ptr] using h1,by decide,?_⟩;have ho:=h.arr;refine Ao.P3 (j:=0) ho (by simp) RU rfl rfl fun obj g1=>⟨by decide,Ao.P3 (j:=0) g1 (by simp) RU rfl rfl fun APU g2=>?_⟩;rw[Hp.set_set]at g2 ⊢;exact hR _ (h.AKB rfl (fun x hx=>hx) h.nd g2)
theorem ACo {v:Value}{Φ:Value→Hp→Prop}(h:Φ v σ):AH prog (Instr.typeAssert (.iface 106 v) 20 106 false) σ Φ:=
 AH.pu (fun w hs=>by
  have hu:prog.underlying 106=some (.pointer 108):=by kernel_rfl
  simp[Instr.typeAssert,run_underlying hu]) h
theorem US {u:Cu}(h:HM τ N hb w e H)(hl:H.length≤1000)(hN:N u.b=some (.cells #[.slice u.p u.n u.c] 108 (0,0)))(hr:Ac 2 CA τ u.p u.n u.X)(hc:u.n≤u.c)(hτ:τ u.b=none)(Ay:u.b≠hb)(hnw:∀a,w=some a→u.b≠a.block)(UT:∀v∈H,v.b≠u.b)
  (hR:∀N' w' e',HM τ N' hb w' e' (H++[u])→R (.T #[]) N'):Spec prog 296 #[.pointer (aD hb 0),.iface 106 (.pointer (aD u.b 0))] N R:=by
 refine BQ.start ⟨hb,0,rfl,w,H.length,e,h.tK,ACo ⟨aD u.b 0,rfl,fun k _ v hv=>hv,fun CC Y6=>?_⟩⟩;have x10:=Ext.set (o:=.cells #[.pointer (aD u.b 0)] 106 (0,0)) Y6;have h9:=h.mono x10;refine CE h9.arr (q:=aD CC 0) (ys:=[u.ptr]) ⟨rfl,by decide,.inr ⟨CC,0,rfl,Av.Cm (c:=[u.ptr]) (Hp.AA _ _ _)⟩⟩ (fun v hv=>by rw[AWs.1 hv];rfl) (by omega) fun p' c' y Qp Tk=>⟨_,_,_,rfl,?_⟩;have K:∀k v,N k=some v→(∀a,w=some a→k≠a.block)→y k=some v∧∀a,p'=some a→k≠a.block:=fun k v hk Ay=>by
  obtain⟨a1,a2⟩:=AR.1 (Tk k v (AR.2 ⟨Ay,x10 _ _ hk⟩));exact⟨a2,a1⟩
 obtain⟨k1,k2⟩:=K hb _ h.hv fun a ha e=>(h.aτ a ha).2.1 e.symm;have kτ:∀k v,τ k=some v→y k=some v∧∀a,p'=some a→k≠a.block:=fun k v hk=>K k v (h.ext _ _ hk) fun a ha e=>by rw[e,(h.aτ a ha).1]at hk;cases hk
 have kc:∀v∈H,y v.b=some (.cells #[.slice v.p v.n v.c] 108 (0,0))∧∀a,p'=some a→v.b≠a.block:=fun v hv=>K _ _ (h.cur v hv).1 fun a ha=>(h.aτ a ha).2.2 v hv;obtain⟨ku1,ku2⟩:=K _ _ hN hnw;refine AH.store (P:=prog) iT k1 rfl (AWu _) fH (hR _ p' c' ?_);have e1:Lt #[Value.slice w H.length e] 0 (Value.slice p' (H.length+1) c').cells.toList=#[.slice p' (H.length+1) c']:=rfl;rw[e1];refine⟨by rw[Hp.AA,AWz,AXc],?_,fun v hv=>?_,fun k v hk=>?_,h.hτ,fun v hv=>?_,fun a ha=>⟨?_,fun e=>k2 a ha e.symm,fun v hv=>?_⟩,?_⟩
 ·rw[AWz,AXc,AXG,AXu];exact Ao.here Qp fun a ha=>Hp.AF fun e=>k2 a ha e.symm
 ·rcases AW8.1 hv with hv|hv
  ·exact⟨by rw[Hp.AF (h.cτ v hv).2];exact(kc v hv).1,(h.cur v hv).2⟩
  ·rw[AWs]at hv;subst hv;exact⟨by rw[Hp.AF Ay];exact ku1,hr,hc⟩
 ·rw[Hp.AF (fun e=>by rw[e,h.hτ]at hk;cases hk)];exact(kτ k v hk).1
 ·rcases AW8.1 hv with hv|hv
  ·exact h.cτ v hv
  ·rw[AWs]at hv;subst hv;exact⟨hτ,Ay⟩
 ·cases hh:τ a.block with
  | none=>rfl
  | some v=>exact absurd rfl ((kτ _ _ hh).2 a ha)
 ·rcases AW8.1 hv with hv|hv
  ·exact(kc v hv).2 a ha
  ·rw[AWs]at hv;subst hv;exact ku2 a ha
 ·rw[AXG,AYD];exact⟨h.nd,by simp,fun a ha b hb e=>by
   rw[AXu,AWs]at hb;obtain⟨v,hv,rfl⟩:=AXB.1 ha;exact UT v hv (e.trans hb)⟩
theorem WK {u:Cu}(h:HM τ N hb w e (H++[u]))(hl:H.length≤1000)(hR:∀N' v,HM τ N' hb w e H→R (.returned v) N'):Spec prog 295 #[.pointer (aD hb 0)] N R:=by
 have hlen:(H++[u]).length=H.length+1:=by simp
 obtain⟨b,o,rfl,_,h1⟩:=h.at (i:=H.length) (u:=u) (by rw[AXV (AWu _),AX5];rfl);have hh:=h.tK;have ei:=Ao.cap h.arr;rw[hlen]at hh ei;have t1:Int.toNat (((H.length+1:Nat):Int)-1)=H.length:=by omega
 refine BY.start ⟨hb,0,rfl,some ⟨b,o,none⟩,H.length+1,e,hh,some ⟨b,o,none⟩,H.length+1,e,hh,by unfold AM;omega,b,o,rfl,by unfold In;omega,aD u.b 0,by rw[t1,AYJ];exact h1,some ⟨b,o,none⟩,H.length+1,e,hh,some ⟨b,o,none⟩,H.length+1,e,hh,by unfold AM;omega,⟨by omega,by omega⟩,?_⟩;rw[t1];refine AH.store (P:=prog) iT h.hv rfl (AWu _) fH (hR _ _ ?_);have e1:Lt #[Value.slice (some ⟨b,o,none⟩) (H++[u]).length e] 0 (Value.slice (some ⟨b,o,none⟩) H.length e).cells.toList=#[.slice (some ⟨b,o,none⟩) H.length e]:=rfl;rw[e1];obtain⟨a1,a2,a3⟩:=h.aτ _ rfl;have Q7:∀v∈H,v∈H++[u]:=fun v hv=>AXz _ hv;refine⟨Hp.AA _ _ _,?_,fun v hv=>?_,fun k v hk=>?_,h.hτ,fun v hv=>h.cτ v (Q7 v hv),fun a ha=>by cases ha;exact⟨a1,a2,fun v hv=>a3 v (Q7 v hv)⟩,?_⟩
 ·have:=Ao.take h.arr (m:=H.length) (by rw[hlen];omega);rw[AXG,AYJ,List.take_left' (by simp)]at this;exact Ao.here this fun a ha=>Hp.AF (by cases ha;exact a2)
 ·exact⟨by rw[Hp.AF (h.cτ v (Q7 v hv)).2];exact(h.cur v (Q7 v hv)).1,(h.cur v (Q7 v hv)).2⟩
 ·rw[Hp.AF (fun e=>by rw[e,h.hτ]at hk;cases hk)];exact h.ext _ _ hk
 ·have:=h.nd;rw[AXG,AYD]at this;exact this.1
end
section
variable {σ τ N N':Hp}{R:Rr}{hb e:Nat}{w:Option Addr}{H:List Cu}
theorem Gm {x:Int}(h:-1000≤x∧x≤1000):AM x:=by unfold AM;omega
def Km (P:Program)(T:TypeId)(name:String):Option (Bool×Option (FuncId×Bool)):=match P.info? T with
 | none=>none
 | some i=>match i.methods.find? (fun m=>m.name==name) with
  | none=>none
  | some m=>some (m.path.isEmpty,m.func)
theorem sC {P:Program}{T:TypeId}{name:String}{f:FuncId}{pr:Bool}(h:Km P T name=some (true,some (f,pr))):∃i m,P.info? T=some i∧i.methods.find? (fun m=>m.name==name)=some m∧m.path=#[]∧m.func=some (f,pr):=by
 unfold Km at h;split at h
 ·cases h
 ·rename_i i hi;split at h
  ·cases h
  ·rename_i m hm;simp only[AWp,AYG]at h;exact⟨i,m,hi,hm,Array.isEmpty_iff.1 h.1,h.2⟩
theorem wc {P:Program}{T:TypeId}{a:Addr}{s s':ByteArray}{w:World}:(Builtin.ssaWrapNilChk_ #[T] T #[.pointer (some a),.string s,.string s']).run P w=.ok (.pointer (some a)) w:=rfl
theorem fuel {P:Program}:∃k,P.types.size+Made.depth=k+1:=Nat.exists_eq_add_one_of_ne_zero (by
 have:Made.depth≠0:=by decide
 omega)
variable {P:Program}{T E:TypeId}
theorem AKC {w : World} {nm : String} {sl : Value} (hu : P.underlying T = some (.pointer E)) (hag : ∀ w,(isAgg E).run P w = .ok false w) (hs : Sat σ w) (Ee : Hp.ld σ ⟨hb,0,none⟩ = some sl) : (receiverAt T (.val (.pointer (aD hb 0))) false (some nm)).run P w = .ok sl w := by
 have hl := hs.ld Ee
 unfold receiverAt
 simp only [Sem.run_bind,run_underlying hu,Result.andThen_ok,Place.get]
 show ((Builtin.ssaWrapNilChk_ #[T] T #[.pointer (aD hb 0),strVal "",strVal nm]).run P w).andThen _ = _
 have e : (Builtin.ssaWrapNilChk_ #[T] T #[.pointer (aD hb 0),strVal "",strVal nm]).run P w = .ok (.pointer (aD hb 0)) w := wc
 simp only [e,Result.andThen_ok]
 have e2 : (asAddr (.pointer (aD hb 0))).run P w = .ok ⟨hb,0,none⟩ w := rfl
 simp only [e2,Result.andThen_ok]
 simp [loadVar,hag,load,Sem.run,hl]
theorem AKD {w:World}{nm:Option String}{v:Value}(hu:P.underlying T=some (.pointer E)):(receiverAt T (.val v) true nm).run P w=.ok v w:=by
 unfold receiverAt;simp only[Sem.run_bind,run_underlying hu,Result.andThen_ok,Place.get];rfl
theorem zO {w : World} {k : Nat} {name : String} {v r : Value} {f : FuncId} {pr : Bool} {i : TypeInfo} {m : Method} (hi : P.info? T = some i) (hm : i.methods.find? (fun m => m.name == name) = some m) (hp : m.path = #[]) (hf : m.func = some (f,pr)) (hr : ∀ nm,(receiverAt T (.val v) pr (some nm)).run P w = .ok r w) : (method (k + 1) T v name).run P w = .ok (f,r) w := by
 unfold method
 have ht : (typeInfo T).run P w = .ok i w := by simp [typeInfo,hi]
 simp only [Sem.run_bind,ht,Result.andThen_ok,hm,hp,hf,follow]
 show ((receiverAt T (.val v) pr _).run P w).andThen _ = _
 rw [show (if (#[] : Array FieldStep).isEmpty = true then some ((name.splitOn ".").getLastD name) else none) = some ((name.splitOn ".").getLastD name) from rfl,hr]; rfl
theorem inv1 {w:World}{name:String}{v r:Value}{f:FuncId}{args:Array Value}(hm:∀k,(method (k+1) T v name).run P w=.ok (f,r) w)(JG:Enters P f):(invoke (.fn (.method name) #[]) (#[.iface T v]++args)).run P w=.ok (.enter f (#[r]++args)) w:=by
 obtain⟨k,hk⟩:=fuel (P:=P);have e1:(#[Value.iface T v]++args).extract 1 (#[Value.iface T v]++args).size=args:=by
  apply AW5.1
  rw[Array.toList_extract,AZM,AZX];simp only[List.extract,AZY,AWw,AXw,AXl,AZc];show List.take args.size args.toList=args.toList
  exact AWt (AZa AXq)
 have e0:(#[Value.iface T v]++args)[0]?=some (.iface T v):=by rw[AYM];rfl
 simp only[invoke,e0,e1,callMethod];simp only[Sem.run_bind];have hpr:(program:Sem Program).run P w=.ok P w:=rfl;rw[hpr];simp only[Result.andThen_ok,hk,hm];exact JG _ w
theorem we {name:String}{f:FuncId}{args:Array Value}{sl:Value}(hm:Km P T name=some (true,some (f,false)))(hu:P.underlying T=some (.pointer E))(hag:∀w,(isAgg E).run P w=.ok false w)(JG:Enters P f)(Ee:Hp.ld σ ⟨hb,0,none⟩=some sl)(h:Spec P f (#[sl]++args) σ R):MC P (.iface T (.pointer (aD hb 0))) name args σ R:=by
 obtain⟨i,m,hi,hm,hp,hf⟩:=sC hm;exact⟨f,#[sl]++args,fun w hs=>inv1 (fun k=>zO hi hm hp hf fun nm=>AKC hu hag hs Ee) JG,h⟩
theorem wg {name:String}{f:FuncId}{args:Array Value}(hm:Km P T name=some (true,some (f,true)))(hu:P.underlying T=some (.pointer E))(JG:Enters P f)(h:Spec P f (#[.pointer (aD hb 0)]++args) σ R):MC P (.iface T (.pointer (aD hb 0))) name args σ R:=by
 obtain⟨i,m,hi,hm,hp,hf⟩:=sC hm;have hr:∀(w:World) (k:Nat),(method (k+1) T (.pointer (aD hb 0)) name).run P w=.ok (f,.pointer (aD hb 0)) w:=fun w k=>zO (r:=.pointer (aD hb 0)) hi hm hp hf fun nm=>AKD (v:=.pointer (aD hb 0)) (nm:=some nm) hu;have Bj:∀w:World,(invoke (.fn (.method name) #[]) (#[.iface T (.pointer (aD hb 0))]++args)).run P w=.ok (.enter f (#[.pointer (aD hb 0)]++args)) w:=fun w=>inv1 (v:=.pointer (aD hb 0)) (r:=.pointer (aD hb 0)) (args:=args) (hr w) JG;exact⟨f,_,fun w _=>Bj w,h⟩
theorem sD:prog.underlying 105=some (.pointer 103):=by kernel_rfl
theorem ACq:∀w,(isAgg 103).run prog w=.ok false w:=fun w=>by kernel_rfl
theorem ACr:Km prog 105 mR=some (true,some (292,false)):=by kernel_rfl
theorem wh:Km prog 105 QF=some (true,some (293,false)):=by kernel_rfl
theorem iU:Km prog 105 NA=some (true,some (294,false)):=by kernel_rfl
theorem iV:Km prog 105 xK=some (true,some (296,true)):=by kernel_rfl
theorem sE:Km prog 105 AEi=some (true,some (295,true)):=by kernel_rfl
theorem XU {name:String}{f:FuncId}{args:Array Value}{p:Option Addr}{n c:Nat}(hm:Km prog 105 name=some (true,some (f,false)))(JG:Enters prog f)(Ee:Hp.ld σ ⟨hb,0,none⟩=some (.slice p n c))(h:Spec prog f (#[.slice p n c]++args) σ R):MC prog (.iface 105 (.pointer (aD hb 0))) name args σ R:=we hm sD ACq JG Ee h
theorem XV {name:String}{f:FuncId}{args:Array Value}(hm:Km prog 105 name=some (true,some (f,true)))(JG:Enters prog f)(h:Spec prog f (#[.pointer (aD hb 0)]++args) σ R):MC prog (.iface 105 (.pointer (aD hb 0))) name args σ R:=wg hm sD JG h
abbrev hV (hb:Nat):Value:=.iface 105 (.pointer (aD hb 0))
theorem ku (h:HM τ N hb w e H)(hR:R (.returned (.I (H.length:Int))) N):MC prog (hV hb) mR #[] N R:=
 XU ACr Cb.en h.tK (Cb.start hR)
theorem zP {i j:Nat}{u v:Cu}{x y:Sr}(h:HM τ N hb w e H)(hi:H[i]?=some u)(hj:H[j]?=some v)(hu:u.X[0]?=some x)(hv:v.X[0]?=some y)(hR:∀N',Ext N N'→R (.returned (.bool (decide (AX x.ls y.ls<0)))) N'):
 MC prog (hV hb) QF #[.I (i:Int),.I (j:Int)] N R:=XU wh CF.en h.tK (ks h hi hj hu hv hR)
theorem XW {u v:Cu}(h:HM τ N hb w e [u,v])(hR:∀N',HM τ N' hb w e [v,u]→R (.T #[]) N'):MC prog (hV hb) NA #[.I 0,.I 1] N R:=XU iU BA.en h.tK (bB h hR)
theorem wj {u:Cu}(h:HM τ N hb w e [u])(hR:∀N',HM τ N' hb w e [u]→R (.T #[]) N'):MC prog (hV hb) NA #[.I 0,.I 0] N R:=XU iU BA.en h.tK (bC h hR)
theorem UU {v:Value}(hR:R (.T #[]) N):Spec prog 66 #[v,.I 0] N R:=
 Cv.start ⟨Gm (by decide),by decide,fun x7 e7=>⟨fun _=>hR,fun hn=>absurd (e7.trans (by decide)) hn⟩⟩
theorem sF {u v:Cu}{x y:Sr}(h:HM τ N hb w e [u,v])(hu:u.X[0]?=some x)(hv:v.X[0]?=some y)(hR1:AX y.ls x.ls<0→∀N',HM τ N' hb w e [v,u]→R (.T #[]) N')(aY:¬AX y.ls x.ls<0→∀N',HM τ N' hb w e [u,v]→R (.T #[]) N'):
  Spec prog 66 #[hV hb,.I 1] N R:=by
 refine Cv.start ⟨Gm (by decide),by decide,fun x7 e7=>?_⟩;have e7:x7=0:=e7.trans (by decide);subst e7;refine⟨fun hh=>absurd hh (by decide),fun _=>zP (i:=1) (j:=0) h rfl rfl hv hu fun N' hx=>⟨_,rfl,fun hf=>aY (AW2 hf) _ (h.mono hx),fun ht=>XW (h.mono hx) fun N2 h2=>⟨rfl,Cv.ABn ⟨Gm (by decide),by decide,fun x7 e7=>⟨fun _=>hR1 (AWr ht) _ h2,fun hn=>absurd (e7.trans (by decide)) hn⟩⟩⟩⟩⟩
theorem Mr {v:Value}{n:Int}(hn:n≤1)(hR:R (.B false) N):Spec prog 67 #[v,.I 0,.I n] N R:=
 Ad.start (Ad.BJ ⟨Gm (by decide),Gm (by decide),fun _=>Ad.Wu hR,fun hh=>absurd (by omega) hh⟩)
theorem fI {u v:Cu}{x y:Sr}(h:HM τ N hb w e [u,v])(hu:u.X[0]?=some x)(hv:v.X[0]?=some y)(hR1:AX y.ls x.ls<0→∀N',HM τ N' hb w e [v,u]→R (.B true) N')(aY:¬AX y.ls x.ls<0→∀N',HM τ N' hb w e [u,v]→R (.B false) N'):
  Spec prog 67 #[hV hb,.I 0,.I 2] N R:=by
 refine Ad.start (Ad.BJ ⟨Gm (by decide),Gm (by decide),fun hh=>absurd hh (by decide),fun _=>⟨fun hh=>absurd hh (by decide),fun _=>⟨Gm (by decide),fun hh=>absurd hh (by decide),fun _=>?_⟩⟩⟩);exact Ad.LG (zP (i:=1) (j:=0) h rfl rfl hv hu fun N' hx=>⟨_,rfl,fun hf=>Ad.Wu (aY (AW2 hf) _ (h.mono hx)),fun ht=>XW (h.mono hx) fun N2 h2=>⟨rfl,Ad.BJ ⟨Gm (by decide),Gm (by decide),fun _=>Ad.Wu (hR1 (AWr ht) _ h2),fun hh=>absurd (by decide) hh⟩⟩⟩)
theorem kv {u:Cu}(h:HM τ N hb w e [u])(hR:R (.T #[]) N):Spec prog 48 #[hV hb,.I 0] N R:=
 Dx.start (ku h ⟨_,rfl,Mr (by simp) ⟨_,rfl,fun _=>UU ⟨rfl,hR⟩,fun hh=>(by cases hh)⟩⟩)
theorem kx {u v:Cu}{x y:Sr}(h:HM τ N hb w e [u,v])(hu:u.X[0]?=some x)(hv:v.X[0]?=some y)(hR1:AX y.ls x.ls<0→∀N',HM τ N' hb w e [v,u]→R (.T #[]) N')(aY:¬AX y.ls x.ls<0→∀N',HM τ N' hb w e [u,v]→R (.T #[]) N'):
  Spec prog 48 #[hV hb,.I 0] N R:=
 Dx.start (ku h ⟨_,rfl,fI h hu hv (fun hc N' h'=>⟨_,rfl,fun hh=>(by cases hh),fun _=>hR1 hc N' h'⟩) fun hc N' h'=>⟨_,rfl,fun _=>UU ⟨rfl,aY hc N' h'⟩,fun hh=>(by cases hh)⟩⟩)
theorem ky {u:Cu}(h:HM τ N hb w e [u])(hR:∀N' z,HM τ N' hb w e []→R (.returned z) N'):Spec prog 47 #[hV hb] N R:=
 Dr.start (ku h ⟨_,rfl,Gm (by simp),wj h fun N1 h1=>⟨rfl,Mr (by simp) ⟨_,rfl,XV sE BY.en (WK (H:=[]) h1 (by simp) fun N2 z h2=>⟨z,rfl,hR N2 z h2⟩)⟩⟩⟩)
theorem kz {u v:Cu}(h:HM τ N hb w e [u,v])(hR:∀N' z,HM τ N' hb w e [v]→R (.returned z) N'):Spec prog 47 #[hV hb] N R:=
 Dr.start (ku h ⟨_,rfl,Gm (by simp),XW h fun N1 h1=>⟨rfl,Mr (by simp) ⟨_,rfl,XV sE BY.en (WK (H:=[v]) h1 (by simp) fun N2 z h2=>⟨z,rfl,hR N2 z h2⟩)⟩⟩⟩)
structure ACt (τ N:Hp)(hb:Nat)(w:Option Addr)(H:List Cu)(u:Cu):Prop where
 at_:N u.b=some (.cells #[.slice u.p u.n u.c] 108 (0,0))
 rd:Ac 2 CA τ u.p u.n u.X
 cap:u.n≤u.c
 new:τ u.b=none
 ne:u.b≠hb
 nw:∀a,w=some a→u.b≠a.block
 nd:∀v∈H,v.b≠u.b
theorem UW {u:Cu}(h:HM τ N hb w e [])(hu:ACt τ N hb w [] u)(hR:∀N' w' e',HM τ N' hb w' e' [u]→R (.T #[]) N'):Spec prog 46 #[hV hb,.iface 106 (.pointer (aD u.b 0))] N R:=
 DR.start (XV iV BQ.en (US h (by simp) hu.at_ hu.rd hu.cap hu.new hu.ne hu.nw hu.nd fun N1 w1 e1 h1=>⟨rfl,ku h1 ⟨_,rfl,Gm (by simp),UU ⟨rfl,hR N1 w1 e1 h1⟩⟩⟩))
theorem fJ {u v:Cu}{x y:Sr}(h:HM τ N hb w e [u])(hu:ACt τ N hb w [u] v)(hux:u.X[0]?=some x)(hvy:v.X[0]?=some y)(hR1:AX y.ls x.ls<0→∀N' w' e',HM τ N' hb w' e' [v,u]→R (.T #[]) N')(aY:¬AX y.ls x.ls<0→∀N' w' e',HM τ N' hb w' e' [u,v]→R (.T #[]) N'):
  Spec prog 46 #[hV hb,.iface 106 (.pointer (aD v.b 0))] N R:=
 DR.start (XV iV BQ.en (US h (by simp) hu.at_ hu.rd hu.cap hu.new hu.ne hu.nw hu.nd fun N1 w1 e1 h1=>⟨rfl,ku h1 ⟨_,rfl,Gm (by simp),sF h1 hux hvy (fun hc N2 h2=>⟨rfl,hR1 hc N2 w1 e1 h2⟩) fun hc N2 h2=>⟨rfl,aY hc N2 w1 e1 h2⟩⟩⟩))
end
section
variable {σ τ N N':Hp}{R:Rr}{hb e:Nat}{w:Option Addr}{H:List Cu}
theorem HM.sb {u:Cu}{Hs:List Cu}{p':Option Addr}{n' c':Nat}{X':List Sr}(h:HM τ N hb w e (u::Hs))(hr:Ac 2 CA τ p' n' X')(hc:n'≤c'):HM τ (N.set u.b (.cells #[.slice p' n' c'] 108 (0,0))) hb w e (⟨u.b,p',n',c',X'⟩::Hs):=by
 obtain⟨c1,c2⟩:=h.cτ u (by simp);have UT:=h.nd;rw[AXa]at UT;obtain⟨d1,d2⟩:=AXL.1 UT;refine⟨by rw[Hp.AF (fun e=>c2 e.symm)];exact h.hv,Ao.here h.arr fun a ha=>Hp.AF fun e=>(h.aτ a ha).2.2 u (by simp) e.symm,fun v hv=>?_,fun k v hk=>?_,h.hτ,fun v hv=>?_,fun a ha=>⟨(h.aτ a ha).1,(h.aτ a ha).2.1,fun v hv=>?_⟩,UT⟩
 ·rcases AWo.1 hv with rfl|hv
  ·exact⟨Hp.AA _ _ _,hr,hc⟩
  ·have Ay:v.b≠u.b:=fun e=>d1 (by rw[←e];exact AXB.2 ⟨v,hv,rfl⟩);exact⟨by rw[Hp.AF Ay];exact(h.cur v (AWq _ hv)).1,(h.cur v (AWq _ hv)).2⟩
 ·rw[Hp.AF (fun e=>by rw[e,c1]at hk;cases hk)];exact h.ext _ _ hk
 ·rcases AWo.1 hv with rfl|hv
  ·exact⟨c1,c2⟩
  ·exact h.cτ v (AWq _ hv)
 ·rcases AWo.1 hv with rfl|hv
  ·exact(h.aτ a ha).2.2 u (by simp)
  ·exact(h.aτ a ha).2.2 v (AWq _ hv)
inductive JE:List Cu→List Sr→List Sr→Prop
 | nil:JE [] [] []
 | one {u:Cu} {x:Sr}:u.X[0]?=some x→JE [u] u.X []
 | two {u v:Cu} {x y:Sr}:u.X[0]?=some x→v.X[0]?=some y→¬AX y.ls x.ls<0→JE [u,v] u.X v.X
def QQ (A B O X Y:List Sr):Prop:=∀zs,Pk X Y zs→∃ys,Pk A B ys∧ys.foldl Lq []=zs.foldl Lq O
theorem QQ.symm {A B O X Y:List Sr}(h:QQ A B O X Y):QQ A B O Y X:=fun zs hz=>h zs hz.symm
theorem QQ.step {A B O X Y:List Sr}{s:Sr}(h:QQ A B O (s::X) Y)(hs:∀b,Y.head?=some b→¬AX b.ls s.ls<0):QQ A B (Lq O s) X Y:=fun zs hz=>h (s::zs) (.left hs hz)
theorem AKE:∀(n:Nat) (X Y:List Sr),X.length+Y.length≤n→∃zs,Pk X Y zs:=by
 intro n
 induction n with
 | zero=>
  intro X Y hn;have e1:X=[]:=AXE.1 (by omega);have e2:Y=[]:=AXE.1 (by omega);subst e1;subst e2;exact⟨[],.nil⟩
 | succ n ih=>
  intro X Y hn;cases X with
  | nil=>
   cases Y with
   | nil=>exact⟨[],.nil⟩
   | cons y Y=>
    obtain⟨zs,hz⟩:=ih [] Y (by simp only[AWw]at hn ⊢;omega);exact⟨_,.right (fun a ha=>by cases ha) hz⟩
  | cons x X=>
   by_cases hc:∃y,Y.head?=some y∧AX y.ls x.ls<0
   ·obtain⟨y,hy,Am⟩:=hc;cases Y with
    | nil=>cases hy
    | cons y' Y=>
     cases hy;obtain⟨zs,hz⟩:=ih (x::X) Y (by simp only[AWw]at hn ⊢;omega);exact⟨_,.right (fun a ha=>by cases ha;exact fun hh=>by have:=(AO.KY _ _).1 Am;omega) hz⟩
   ·obtain⟨zs,hz⟩:=ih X Y (by simp only[AWw]at hn;omega);exact⟨_,.left (fun b hb Am=>hc ⟨b,hb,Am⟩) hz⟩
theorem RV:∀(a b:List Pt),a.length≤(C0 a b).length
 | [],b=>AWx _
 | x::a,[]=>by rw[H3];exact AWu _
 | x::a,y::b=>by
  rw[GC];have h1:=RV a (y::b);have h2:=RV (x::a) b;have h3:=RV a b;simp only[AWw]at h2 ⊢;split
  ·simp only[AWw];omega
  ·split<;>(simp only[AWw];omega)
termination_by a b=>a.length+b.length
theorem sG {O:List Sr}{s:Sr}:O.length≤(Lq O s).length∧∀u∈O,∃v∈Lq O s,u.ps.length≤v.ps.length:=by
 rcases AZp O with rfl|⟨O',u,rfl⟩
 ·exact⟨AWx _,fun u hu=>(by cases hu)⟩
 ·by_cases h:u.ls=s.ls
  ·rw[AZD,UR h];refine⟨by simp,fun v hv=>?_⟩;rcases AW8.1 hv with hv|hv
   ·exact⟨v,AXz _ hv,AWu _⟩
   ·rw[AWs]at hv;subst hv;exact⟨_,AYg _ (AWs.2 rfl),RV _ _⟩
  ·have e:Lq (O'.concat u) s=O'.concat u++[s]:=by
    unfold Lq;rw[AZD,AZJ];simp[h]
   rw[e];exact⟨by simp,fun v hv=>⟨v,AXz _ hv,AWu _⟩⟩
theorem WL:∀{zs O:List Sr},O.length≤(zs.foldl Lq O).length∧∀u∈O,∃v∈zs.foldl Lq O,u.ps.length≤v.ps.length
 | [],O=>⟨AWu _,fun u hu=>⟨u,hu,AWu _⟩⟩
 | z::zs,O=>by
  obtain⟨h1,h2⟩:=sG (O:=O) (s:=z);obtain⟨h3,h4⟩:=WL (zs:=zs) (O:=Lq O z);refine⟨AXD h1 h3,fun u hu=>?_⟩;obtain⟨v,hv,h5⟩:=h2 u hu;obtain⟨v',za,h6⟩:=h4 v hv;exact⟨v',za,AXD h5 h6⟩
abbrev fK (s:Sr):Prop:=s.ls.length≤1000000000∧s.ps.length≤1000
abbrev BdO (O:List Sr):Prop:=(∀u∈O,u.ps.length≤2000)∧O.length≤2900000000000
theorem sH {A B:List Sr}(hA:∀s∈A,fK s)(hB:∀s∈B,fK s):∀u∈D1 A B,u.ls.length≤1000000000∧u.ps.length≤2000:=fun u hu=>by
 rcases Ed _ _ u hu with h1|h1|⟨x,h1,y,h2,rfl,h3⟩
 ·have:=hA u h1;exact⟨this.1,by have:=this.2;omega⟩
 ·have:=hB u h1;exact⟨this.1,by have:=this.2;omega⟩
 ·have e1:=hA x h1;have e2:=hB y h2;have:=Nj x.ps y.ps;exact⟨e1.1,by have:=e1.2;have:=e2.2;dsimp only;omega⟩
theorem AKF {A B O X Y:List Sr}(sA:A.Pairwise Pp)(sB:B.Pairwise Pp)(hA:∀s∈A,fK s)(hB:∀s∈B,fK s)(hl:A.length+B.length≤2900000000000)(h:QQ A B O X Y):BdO O:=by
 obtain⟨zs,hz⟩:=AKE _ X Y (AWu _);obtain⟨ys,h1,h2⟩:=h zs hz;rw[r9 _ A B ys [] (AWu _) sA sB h1 fun u hu=>(by cases hu),AXi]at h2;obtain⟨g1,g2⟩:=WL (zs:=zs) (O:=O);rw[←h2]at g1 g2;refine⟨fun u hu=>?_,AXD g1 (AXD (IF A B) hl)⟩;obtain⟨v,hv,h3⟩:=g2 u hu;exact AXD h3 (sH hA hB v hv).2
structure Cli (τ:Hp)(l:Nat)(J:Hp→List Sr→Hp→Prop):Prop where
 st:∀N N' O σ σ',J N O σ→Ext N' σ'→Ext τ N'→(∀k v,N k=none→σ k=some v→σ' k=some v∧N' k=none)→J N' O σ'
 ext:∀N O σ,J N O σ→Ext N σ
 y:∀N O σ s p n c q m d,J N O σ→BdO O→fK s→Ext τ N→Dz τ p n s.ls→Ac 2 C1 τ q m s.ps→m≤d→GV prog l #[.agg #[.slice p n c,.slice q m d]] σ (fun e σ'=>e=.B true∧J N (Lq O s) σ')
variable {l:Nat}{J:Hp→List Sr→Hp→Prop}
theorem Cli.call (hC:Cli τ l J){f:FuncId}{args:Array Value}{O:List Sr}(hJ:J N O σ)(h:Spec prog f args N (fun e N'=>Ext τ N'∧∀σ',J N' O σ'→R e σ')):Spec prog f args σ R:=
 Spec.qH (N:=N) (M:=σ.minus N) (hC.ext _ _ _ hJ) (Ext.Y4 _ _) (vJ.minus _ _) (h.mono fun e N' ⟨hx,hr⟩ hd=>hr _ (hC.st N N' O σ _ hJ (Ext.U2 _ _) hx fun k v hk hv=>by
  have hm:=Hp.Gg.2 ⟨hk,hv⟩;have hn:=hd k (by rw[hm];simp);exact⟨by rw[Hp.Mh hn];exact hm,hn⟩))
theorem Cli.set (hC:Cli τ l J){O:List Sr}{b:Nat}{o:Obj}(hJ:J N O σ)(hb:N b≠none∨σ b=none)(hx:Ext τ (N.set b o)):J (N.set b o) O (σ.set b o):=by
 have hN:=hC.ext _ _ _ hJ;refine hC.st N _ O σ _ hJ (fun k v hk=>?_) hx fun k v hk hv=>?_
 ·by_cases h:k=b
  ·subst h;rw[Hp.AA]at hk ⊢;exact hk
  ·rw[Hp.AF h]at hk ⊢;exact hN _ _ hk
 ·have Ay:k≠b:=fun e=>by
   rcases hb with hb|hb
   ·exact hb (by rw[←e];exact hk)
   ·rw[←e,hv]at hb;cases hb
  rw[Hp.AF Ay,Hp.AF Ay];exact⟨hv,hk⟩
theorem iW:∀w,(Go.sizeOf 23).run prog w=.ok 1 w:=fun w=>by kernel_rfl
theorem k8 {A B:List Sr}{b3:Nat}(hC:Cli τ l J)(bY:∀O X Y,QQ A B O X Y→BdO O)(Un:∀N ys σ,Pk A B ys→J N (ys.foldl Lq []) σ→R (.T #[]) σ):
  ∀(g:Nat) (X Y:List Sr) (Hs:List Cu) (N σ:Hp) (O:List Sr) (w:Option Addr) (e:Nat),X.length+Y.length≤g→JE Hs X Y→HM τ N b3 w e Hs→J N O σ→QQ A B O X Y→(∀x,x∈X∨x∈Y→fK x)→AK.Hn R (.func (.yield l) #[] #[]) b3 σ:=by
 intro g
 induction g with
 | zero=>
  intro X Y Hs N σ O w e hg hH hM hJ hQ hP;have hN:=hC.ext _ _ _ hJ;cases hH with
  | nil=>
   obtain⟨ys,h1,h2⟩:=hQ [] .nil;exact AK.G7 ⟨w,0,e,hN.ld hM.tK,fun hh=>absurd hh (by decide),fun _=>Un N ys σ h1 (by rw[h2];exact hJ)⟩
  | one hx=>have:=(AWk.1 hx).1;omega
  | two hx hy hc=>have:=(AWk.1 hx).1;omega
 | succ g ih=>
  have go:∀(u:Cu) (Hs:List Cu) (s:Sr) (X' Y:List Sr) (N σ:Hp) (O:List Sr) (w:Option Addr) (e:Nat),u.X=s::X'→HM τ N b3 w e (u::Hs)→J N O σ→QQ A B O (s::X') Y→(∀b,Y.head?=some b→¬AX b.ls s.ls<0)→fK s→
    (∀N1 σ1,J N1 (Lq O s) σ1→QQ A B (Lq O s) X' Y→HM τ N1 b3 w e (⟨u.b,Fe u.p 1 u.c 2,u.n-1,u.c-1,X'⟩::Hs)→Br (((u.n-1:Nat):Int)=0) (Spec prog 47 #[hV b3] σ1 (Ap R (fun z AJ=>∃v53,v53=z∧AK.Hn R (.func (.yield l) #[] #[]) b3 AJ))) (Spec prog 48 #[hV b3,.I 0] σ1 (Ap R (fun z AJ=>z=(.tuple #[])∧AK.Hn R (.func (.yield l) #[] #[]) b3 AJ))))→AK.Hn R (.func (.yield l) #[] #[]) b3 σ:=by
   intro u Hs s X' Y N σ O w e wm hM hJ hQ hs hPs next
   have hN:=hC.ext _ _ _ hJ;obtain⟨b,o,rfl,Am,j0⟩:=hM.at (i:=0) (u:=u) rfl;obtain⟨c1,c2,c3⟩:=hM.cur u (by simp);rw[wm]at c2;have Uc:(s::X').length=u.n:=c2.1;rw[AWw]at Uc;obtain⟨bx,ox,p1,n1,e1,q1,m1,d1,hpu,l1,r1,r2,r3⟩:=CA.at c2 (i:=0) (s:=s) rfl;rw[AYL,AX1]at l1;have AKG:=hM.ext.trans hN;have hlen:(0:Int)<(((u::Hs).length:Nat):Int):=by rw[AWw];omega
   refine AK.G7 ⟨_,_,e,hN.ld hM.tK,fun _=>⟨_,_,e,hN.ld hM.tK,b,o,rfl,⟨by decide,hlen⟩,aD u.b 0,hN.ld j0,u.b,0,rfl,u.p,u.n,u.c,Af (hN _ _ c1) rfl,bx,ox,hpu,by unfold In;omega,p1,n1,e1,q1,m1,d1,l1.mono AKG,l,rfl,?_⟩,fun hh=>absurd hlen hh⟩;refine(hC.y N O σ s p1 n1 e1 q1 m1 d1 hJ (bY _ _ _ hQ) hPs hM.ext r1 r2 r3).mono fun en σ1 ⟨he,bD⟩=>?_;subst he;have hN1:=hC.ext _ _ _ bD;refine⟨true,rfl,fun hh=>(by cases hh),fun _=>⟨u.p,u.n,u.c,Af (hN1 _ _ c1) rfl,⟨by decide,by omega⟩,?_⟩⟩;have ai:=hM.sb (ACk c2 (by decide) c3) (by omega:u.n-1≤u.c-1);refine AH.store (P:=prog) iW (hN1 _ _ c1) rfl (AWu _) fH ?_;have e1:Lt #[Value.slice u.p u.n u.c] 0 (Value.slice (Fe u.p 1 u.c 2) (u.n-1) (u.c-1)).cells.toList=#[.slice (Fe u.p 1 u.c 2) (u.n-1) (u.c-1)]:=rfl;rw[e1];exact⟨_,_,_,Af (Hp.AA _ _ _) rfl,next _ _ (hC.set bD (.inl (by rw[c1];simp)) ai.ext) (hQ.step hs) ai⟩
  intro X Y Hs N σ O w e hg hH hM hJ hQ hP;have hN:=hC.ext _ _ _ hJ;cases hH with
  | nil=>
   obtain⟨ys,h1,h2⟩:=hQ [] .nil;exact AK.G7 ⟨w,0,e,hN.ld hM.tK,fun hh=>absurd hh (by decide),fun _=>Un N ys σ h1 (by rw[h2];exact hJ)⟩
  | one hx=>
   rename_i u s;cases wm:u.X with
   | nil=>rw[wm]at hx;cases hx
   | cons s' X'=>
    rw[wm]at hg hQ hP;simp only[AWw,AXw]at hg;refine go u [] s' X' [] N σ O w e wm hM hJ hQ (fun b hb=>by cases hb) (hP s' (.inl (by simp))) fun N1 σ1 bD hQ1 ai=>⟨fun h0=>?_,fun h0=>?_⟩
    ·have hX':X'=[]:=AXE.1 (by have:=(ai.cur _ (AW1 ..)).2.1.1;simp only at this;omega);subst hX';exact hC.call bD (ky ai fun N2 z h2=>⟨h2.ext,fun σ2 lX=>⟨z,rfl,ih [] [] [] N2 σ2 _ w e (by simp) .nil h2 lX hQ1 fun x hx=>by rcases hx with hx|hx<;>cases hx⟩⟩)
    ·cases hX:X' with
     | nil=>exact absurd (by have:=(ai.cur _ (AW1 ..)).2.1.1;simp only[hX,AXw]at this;omega) h0
     | cons t X2=>
      subst hX;exact hC.call bD (kv ai ⟨ai.ext,fun σ2 lX=>⟨rfl,ih _ [] _ N1 σ2 _ w e (by simp only[AWw,AXw]at hg ⊢;omega) (JE.one (u:=⟨u.b,Fe u.p 1 u.c 2,u.n-1,u.c-1,t::X2⟩) (x:=t) rfl) ai lX hQ1 fun x hx=>hP x (hx.imp (AWq _) id)⟩⟩)
  | two hx hy hc=>
   rename_i u v s y;cases wm:u.X with
   | nil=>rw[wm]at hx;cases hx
   | cons s' X'=>
    rw[wm]at hg hQ hx hP;have Re:s'=s:=by simpa using hx
    subst Re;simp only[AWw]at hg;have AKH:∀b,v.X.head?=some b→¬AX b.ls s'.ls<0:=fun b hb=>by
     rw[AYd,hy]at hb;cases hb;exact hc
    refine go u [v] s' X' v.X N σ O w e wm hM hJ hQ AKH (hP s' (.inl (by simp))) fun N1 σ1 bD hQ1 ai=>⟨fun h0=>?_,fun h0=>?_⟩
    ·have hX':X'=[]:=AXE.1 (by have:=(ai.cur _ (AW1 ..)).2.1.1;simp only at this;omega);subst hX';exact hC.call bD (kz ai fun N2 z h2=>⟨h2.ext,fun σ2 lX=>⟨z,rfl,ih v.X [] [v] N2 σ2 _ w e (by simp only[AXw]at hg ⊢;omega) (.one hy) h2 lX hQ1.symm fun x hx=>hP x (hx.elim .inr fun h=>by cases h)⟩⟩)
    ·cases hX:X' with
     | nil=>exact absurd (by have:=(ai.cur _ (AW1 ..)).2.1.1;simp only[hX,AXw]at this;omega) h0
     | cons t X2=>
      subst hX;simp only[AWw]at hg;refine hC.call bD (kx (x:=t) (y:=y) ai rfl hy (fun Am N2 h2=>⟨h2.ext,fun σ2 lX=>⟨rfl,?_⟩⟩) fun Vu N2 h2=>⟨h2.ext,fun σ2 lX=>⟨rfl,?_⟩⟩)
      ·exact ih v.X (t::X2) _ N2 σ2 _ w e (by simp only[AWw];omega) (JE.two (u:=v) (v:=⟨u.b,Fe u.p 1 u.c 2,u.n-1,u.c-1,t::X2⟩) (x:=y) (y:=t) hy rfl fun hh=>by have:=(AO.KY _ _).1 Am;omega) h2 lX hQ1.symm fun x hx=>hP x (hx.elim .inr fun h=>.inl (AWq _ h))
      ·exact ih (t::X2) v.X _ N2 σ2 _ w e (by simp only[AWw];omega) (JE.two (u:=⟨u.b,Fe u.p 1 u.c 2,u.n-1,u.c-1,t::X2⟩) (v:=v) (x:=t) (y:=y) rfl hy Vu) h2 lX hQ1 fun x hx=>hP x (hx.imp (AWq _) id)
theorem k9 {A B:List Sr}{b1 lb nA cA nB cB:Nat}{pA pB:Option Addr}{σ0:Hp}(hC:Cli τ l J)(yw:Hp.ld τ ⟨b1,0,none⟩=some (.slice (aD lb 0) 2 2))(j0:Hp.ld τ ⟨lb,0,none⟩=some (.slice pA nA cA))(N8:Hp.ld τ ⟨lb,1,none⟩=some (.slice pB nB cB))(rA:Ac 2 CA τ pA nA A)(kA:nA≤cA)(rB:Ac 2 CA τ pB nB B)(kB:nB≤cB)
  (sA:A.Pairwise Pp) (sB:B.Pairwise Pp) (hA:∀s∈A,fK s) (hB:∀s∈B,fK s) (hl:A.length+B.length≤2900000000000) (h0:J τ [] σ0) (Un:∀N ys σ,Pk A B ys→J N (ys.foldl Lq []) σ→R (.T #[]) σ):Spec prog 45 #[.func (.yield l) #[] #[],.pointer (aD b1 0)] σ0 R:=by
 have hlA:A.length=nA:=rA.1;have hlB:B.length=nB:=rB.1;have qm:=hC.ext _ _ _ h0;refine AK.start fun b3 h3=>?_;have t3:τ b3=none:=Ae qm h3;have x3:=Ext.set (o:=.cells #[.N] 103 (0,0)) t3;have J3:=hC.set (o:=.cells #[.N] 103 (0,0)) h0 (.inr h3) x3;have M3:HM τ (τ.set b3 (.cells #[.N] 103 (0,0))) b3 none 0 []:=⟨Hp.AA _ _ _,Ao.nil,fun u hu=>(by cases hu),x3,t3,fun u hu=>(by cases hu),fun a ha=>(by cases ha),AYH⟩;generalize τ.set b3 (.cells #[.N] 103 (0,0))=N3 at *
 suffices H:∀σ3,J N3 [] σ3→∃p7:Option Addr,∃n7 c7:Nat,Hp.ld σ3 ⟨b1,0,none⟩=some (.slice p7 n7 c7)∧AK.II R (.func (.yield l) #[] #[]) b3 p7 n7 c7 (n7:Int) 0 σ3 from H _ J3
 clear J3;intro σ3 J3;have CG:=M3.ext.trans (hC.ext _ _ _ J3);have fin:∀(X Y:List Sr) (Hs:List Cu) (N σ:Hp) (w:Option Addr) (e:Nat),JE Hs X Y→HM τ N b3 w e Hs→J N [] σ→QQ A B [] X Y→(∀x,x∈X∨x∈Y→fK x)→AK.Hn R (.func (.yield l) #[] #[]) b3 σ:=fun X Y Hs N σ w e h1 h2 h4 h5 h6=>k8 hC (fun O X Y h=>AKF sA sB hA hB hl h) Un _ X Y Hs N σ [] w e (AWu _) h1 h2 h4 h5 h6;have PB:∀x,x∈B∨x∈A→fK x:=fun x hx=>hx.elim (hB x) (hA x);have PA:∀x,x∈A∨x∈B→fK x:=fun x hx=>hx.elim (hA x) (hB x);have Q0:QQ A B [] A B:=fun zs hz=>⟨zs,hz,rfl⟩;have ACu:∀(N σ:Hp) (w:Option Addr) (e:Nat) (Hs:List Cu) (p:Option Addr) (n c:Nat) (X:List Sr) (BR:Nat),HM τ N b3 w e Hs→J N [] σ→σ BR=none→Ac 2 CA τ p n X→n≤c→HM τ (N.set BR (.cells #[.slice p n c] 108 (0,0))) b3 w e Hs∧J (N.set BR (.cells #[.slice p n c] 108 (0,0))) [] (σ.set BR (.cells #[.slice p n c] 108 (0,0)))∧ACt τ (N.set BR (.cells #[.slice p n c] 108 (0,0))) b3 w Hs ⟨BR,p,n,c,X⟩:=fun N σ w e Hs p n c X BR hM hJ tL hr hc=>by
  have hN:=hC.ext _ _ _ hJ;have n19:N BR=none:=Ae hN tL;have Dg:=Ext.set (o:=.cells #[.slice p n c] 108 (0,0)) n19;refine⟨hM.mono Dg,hC.set hJ (.inr tL) (hM.ext.trans Dg),⟨Hp.AA _ _ _,hr,hc,Ae hM.ext n19,fun e=>?_,fun a ha e=>?_,fun v hv e=>?_⟩⟩
  ·have:=hM.hv;rw[←e]at this;simp only at this;rw[n19]at this;cases this
  ·exact hM.arr.block a ha (by rw[←e];exact n19)
  ·have:=(hM.cur v hv).1;rw[e]at this;simp only at this;rw[n19]at this;cases this
 refine⟨_,_,_,CG.ld yw,?_⟩;refine AK.A8 ⟨fun _=>⟨lb,0,rfl,by decide,pA,nA,cA,by simpa using CG.ld j0,fun hA=>?_,fun hA=>AK.FG ⟨Gm (by decide),?_⟩⟩,fun hh=>absurd (by decide) hh⟩
 ·obtain⟨a,ha⟩:∃a,A[0]?=some a:=⟨_,AWm (by omega)⟩;intro BR tL;obtain⟨g1,g2,g3⟩:=ACu N3 σ3 none 0 [] pA nA cA A BR M3 J3 tL rA kA;refine hC.call g2 (UW (u:=⟨BR,pA,nA,cA,A⟩) g1 g3 fun N4 w4 e4 h4=>⟨h4.ext,fun σ4 J4=>⟨rfl,AK.FG ⟨Gm (by decide),?_⟩⟩⟩);have MH:=h4.ext.trans (hC.ext _ _ _ J4);refine AK.A8 ⟨fun _=>⟨lb,0,rfl,by decide,pB,nB,cB,by simpa using MH.ld N8,fun hB=>?_,fun hB=>AK.FG ⟨Gm (by decide),AK.A8 ⟨fun hh=>absurd hh (by decide),fun _=>?_⟩⟩⟩,fun hh=>absurd (by decide) hh⟩
  ·obtain⟨b,hbb⟩:∃b,B[0]?=some b:=⟨_,AWm (by omega)⟩;intro Uh h29;obtain⟨k1,k2,k3⟩:=ACu N4 σ4 w4 e4 _ pB nB cB B Uh h4 J4 h29 rB kB;refine hC.call k2 (fJ (u:=⟨BR,pA,nA,cA,A⟩) (v:=⟨Uh,pB,nB,cB,B⟩) (x:=a) (y:=b) k1 k3 ha hbb (fun Am N5 w5 e5 h5=>⟨h5.ext,fun σ5 J5=>⟨rfl,AK.FG ⟨Gm (by decide),AK.A8 ⟨fun hh=>absurd hh (by decide),fun _=>?_⟩⟩⟩⟩) fun Vu N5 w5 e5 h5=>⟨h5.ext,fun σ5 J5=>⟨rfl,AK.FG ⟨Gm (by decide),AK.A8 ⟨fun hh=>absurd hh (by decide),fun _=>?_⟩⟩⟩⟩)
   ·exact fin B A _ N5 σ5 w5 e5 (JE.two (u:=⟨Uh,pB,nB,cB,B⟩) (v:=⟨BR,pA,nA,cA,A⟩) hbb ha fun hh=>by have:=(AO.KY _ _).1 Am;omega) h5 J5 Q0.symm PB
   ·exact fin A B _ N5 σ5 w5 e5 (JE.two (u:=⟨BR,pA,nA,cA,A⟩) (v:=⟨Uh,pB,nB,cB,B⟩) ha hbb Vu) h5 J5 Q0 PA
  ·have hBn:B=[]:=AXE.1 (by omega);subst hBn;exact fin A [] _ N4 σ4 w4 e4 (JE.one (u:=⟨BR,pA,nA,cA,A⟩) ha) h4 J4 Q0 PA
 ·have hAn:A=[]:=AXE.1 (by omega);subst hAn;refine AK.A8 ⟨fun _=>⟨lb,0,rfl,by decide,pB,nB,cB,by simpa using CG.ld N8,fun hB=>?_,fun hB=>AK.FG ⟨Gm (by decide),AK.A8 ⟨fun hh=>absurd hh (by decide),fun _=>?_⟩⟩⟩,fun hh=>absurd (by decide) hh⟩
  ·obtain⟨b,hbb⟩:∃b,B[0]?=some b:=⟨_,AWm (by omega)⟩;intro BR tL;obtain⟨g1,g2,g3⟩:=ACu N3 σ3 none 0 [] pB nB cB B BR M3 J3 tL rB kB;exact hC.call g2 (UW (u:=⟨BR,pB,nB,cB,B⟩) g1 g3 fun N4 w4 e4 h4=>⟨h4.ext,fun σ4 J4=>⟨rfl,AK.FG ⟨Gm (by decide),AK.A8 ⟨fun hh=>absurd hh (by decide),fun _=>fin B [] _ N4 σ4 w4 e4 (JE.one (u:=⟨BR,pB,nB,cB,B⟩) hbb) h4 J4 Q0.symm PB⟩⟩⟩⟩)
  ·have hBn:B=[]:=AXE.1 (by omega);subst hBn;exact fin [] [] _ N3 σ3 none 0 .nil M3 J3 Q0 PA
end
end TwW
end
section
namespace TwW
open Go Tw
theorem Ao.ACv {s:Nat}{σ σ':Hp}{p:Option Addr}{n c:Nat}{cs:List Value}(ho:Ao s σ p n c cs)(h:∀a,p=some a→σ' a.block=σ a.block):Ao s σ' p n c cs:=
 ⟨ho.1,ho.2.1,ho.2.2.imp id fun⟨b',o',arr,T,hp,hb,r⟩=>⟨b',o',arr,T,hp,by rw[h _ hp];exact hb,r⟩⟩
theorem Hp.sI {σ σ':Hp}{p:Option Addr}(hx:Ext σ (σ'.del p)):∀a,p=some a→(σ.new σ') a.block=σ' a.block:=fun a ha=>by
 subst ha;cases h1:σ a.block with
 | none=>simp only[Hp.new,h1]
 | some u=>
  have:=hx _ _ h1;simp[Hp.del]at this
theorem Aa.wo {α:Type}{s:Nat}{E:Hp→List Value→α→Prop}{σ0 σ:Hp}{p:Option Addr}{n c:Nat}{xs:List α}(hE:∀σ σ' vs x,E σ vs x→E σ' vs x)(h:Aa s E σ0 σ p n c xs):Ac s E (σ0.new σ) p n xs:=by
 obtain⟨⟨h1,cs,h2,h3⟩,h4⟩:=h;exact⟨h1,cs,(Ao.ACv h2 (Hp.sI h4)).rd,h3.1,fun i x hi=>hE _ _ _ _ (h3.2 i x hi)⟩
end TwW
end
section
namespace TwW
open Go Tw Go.RowKit Go.Proofs.Tryz
abbrev mL (l D b7:Nat)(w:Option Addr)(j e:Nat)(lo:Loop):List (Nat×Obj):=[(l,.loop lo),(D,.deferred (some [])),(b7,.cells #[.slice w j e] 23 (0,0))]
structure OM (C B:Hp)(w:Option Addr)(j e:Nat)(O:List Sr):Prop where
 own:∃cs,Ao 2 B w j e cs∧Ch 2 CA C cs O
 ext:Ext C B
 nw:∀a,w=some a→C a.block=none
structure JmB (τ N:Hp)(l D b7:Nat)(O:List Sr)(B C:Hp)(w:Option Addr)(e:Nat):Prop where
 off:∀b∈[l,D,b7],B b=none
 nb:Ext N B
 om:OM C B w O.length e O
 tc:Ext τ C
 cn:∀k,C k≠none→τ k≠none∨N k=none
 wn:∀a,w=some a→N a.block=none
def Jm (τ:Hp)(l D b7:Nat)(r0:Loop)(N:Hp)(O:List Sr)(σ:Hp):Prop:=∃B C w e,σ=AU B (mL l D b7 w O.length e (lp r0 .ready none))∧JmB τ N l D b7 O B C w e
section
variable {σ σ' τ N N' B C:Hp}{R:Rr}{l D b7 e:Nat}{r0:Loop}{O:List Sr}{w:Option Addr}
theorem Jm.ext (UT:[l,D,b7].Nodup)(h:Jm τ l D b7 r0 N O σ):Ext N σ:=by
 obtain⟨B,C,w,e,rfl,hJ⟩:=h;exact hJ.nb.trans (HZ.ext (L:=mL l D b7 w O.length e (lp r0 .ready none)) UT hJ.off)
theorem Jm.st (UT:[l,D,b7].Nodup)(h:Jm τ l D b7 r0 N O σ)(hx:Ext N' σ')(hτ:Ext τ N')(hk:∀k v,N k=none→σ k=some v→σ' k=some v∧N' k=none):Jm τ l D b7 r0 N' O σ':=by
 obtain⟨B,C,w,e,rfl,hJ⟩:=h
 let L:=mL l D b7 w O.length e (lp r0 .ready none)
 have hL:(names L).Nodup:=UT;have boxed:∀(i b:Nat) (o:Obj),L[i]?=some (b,o)→b∈[l,D,b7]→σ' b=some o∧N' b=none:=fun i b o hi hb=>hk b o (Ae hJ.nb (hJ.off b hb)) (A2 hL hi);have keep:∀k v,B k=some v→N k=none→σ' k=some v∧N' k=none:=fun k v hb hn=>hk k v hn (HZ.ext (L:=L) hL hJ.off k v hb)
 let B':Hp:=fun k=>if k=l∨k=D∨k=b7 then none else σ' k
 have other:∀k,B k≠none∨N' k≠none→B' k=σ' k:=fun k Ew=>by
  have hn:¬(k=l∨k=D∨k=b7):=fun hh=>by
   have hm:k∈[l,D,b7]:=by simpa using hh
   rcases Ew with hb|hb
   ·exact hb (hJ.off k hm)
   ·rcases hh with rfl|rfl|rfl
    ·exact hb (boxed 0 _ _ rfl hm).2
    ·exact hb (boxed 1 _ _ rfl hm).2
    ·exact hb (boxed 2 _ _ rfl hm).2
  show(if k=l∨k=D∨k=b7 then none else σ' k)=σ' k
  rw[AWj hn]
 have iX:∀k v,B k=some v→N k=none→B' k=some v∧N' k=none:=fun k v hb hn=>by
  obtain⟨k1,k2⟩:=keep k v hb hn;exact⟨by rw[other k (.inl (by rw[hb];simp))];exact k1,k2⟩
 have hB':σ'=AU B' L:=funext fun k=>by
  show σ' k=(((B'.set b7 (.cells #[.slice w O.length e] 23 (0,0))).set D (.deferred (some []))).set l (.loop (lp r0 .ready none))) k
  by_cases h1:k=l
  ·subst h1;rw[Hp.AA];exact(boxed 0 _ _ rfl (by simp)).1
  ·rw[Hp.AF h1];by_cases h2:k=D
   ·subst h2;rw[Hp.AA];exact(boxed 1 _ _ rfl (by simp)).1
   ·rw[Hp.AF h2];by_cases h3:k=b7
    ·subst h3;rw[Hp.AA];exact(boxed 2 _ _ rfl (by simp)).1
    ·rw[Hp.AF h3];show σ' k=if k=l∨k=D∨k=b7 then none else σ' k
     rw[AWj (by rintro(h|h|h);exact h1 h;exact h2 h;exact h3 h)]
 obtain⟨⟨cs,ho,hc⟩,iY,hnw⟩:=hJ.om;refine⟨B',C,w,e,hB',fun b hb=>?_,fun k v Ew=>?_,⟨⟨cs,Ao.here ho fun a ha=>?_,hc⟩,fun k v Ew=>?_,hnw⟩,hJ.tc,fun k Ew=>?_,fun a ha=>?_⟩
 ·show(if b=l∨b=D∨b=b7 then none else σ' b)=none
  rw[AWl (by simpa using hb)]
 ·rw[other k (.inr (by rw[Ew];simp))];exact hx _ _ Ew
 ·cases hh:B a.block with
  | none=>exact absurd hh (ho.block a ha)
  | some v=>exact(iX _ _ hh (hJ.wn a ha)).1
 ·have hb:=iY _ _ Ew;rcases hJ.cn k (by rw[Ew];simp) with h1|h1
  ·rw[other k (.inl (by rw[hb];simp))];cases hh:τ k with
   | none=>exact absurd hh h1
   | some u=>
    have:=hJ.tc _ _ hh;rw[Ew]at this;rw[hx _ _ (hτ _ _ hh),←this]
  ·exact(iX k v hb h1).1
 ·rcases hJ.cn k Ew with h1|h1
  ·exact .inl h1
  ·cases hh:C k with
   | none=>exact absurd hh Ew
   | some v=>exact .inr (iX k v (iY _ _ hh) h1).2
 ·cases hh:B a.block with
  | none=>exact absurd hh (ho.block a ha)
  | some v=>exact(iX _ _ hh (hJ.wn a ha)).2
theorem ACw:∀w,(Go.sizeOf 45).run prog w=.ok 2 w:=fun w=>by kernel_rfl
theorem JmB.mono {B':Hp}(h:JmB τ N l D b7 O B C w e)(hx:Ext B B')(ho:∀b∈[l,D,b7],B' b=none):JmB τ N l D b7 O B' C w e:=
 ⟨ho,h.nb.trans hx,⟨let ⟨cs,h1,h2⟩:=h.om.own;⟨cs,h1.mono hx,h2⟩,h.om.ext.trans hx,h.om.nw⟩,h.tc,h.cn,h.wn⟩
theorem lA {s:Sr}{p q:Option Addr}{n c m d:Nat}(UT:[l,D,b7].Nodup)(hJ:JmB τ N l D b7 O B C w e)(bY:BdO O)(hs:fK s)(r1:Dz τ p n s.ls)(r2:Ac 2 C1 τ q m s.ps)(bU:m≤d):
  Ca.AAs (fun en σ'=>en=.B true∧Jm τ l D b7 r0 N (Lq O s) σ') l r0 b7 (.agg #[.slice p n c,.slice q m d]) (AU B (mL l D b7 w O.length e (lp r0 .ready none))):=by
 refine Ca.uY fun b8 h8=>?_;obtain⟨n8,hB8⟩:=BD (L:=mL l D b7 w O.length e (lp r0 .ready none)) h8;have Mo:(b8::[l,D,b7]).Nodup:=AXL.2 ⟨n8,UT⟩
 let o8:Obj:=.cells #[.slice p n c,.slice q m d] 45 (0,0)
 let Lo:Option Addr→Nat→Nat→Loop→List (Nat×Obj):=fun w j e lo=>(b8,o8)::mL l D b7 w j e lo
 let L:List (Nat×Obj):=(b8,o8)::mL l D b7 w O.length e (lp r0 .busy none)
 have hL:(names L).Nodup:=Mo;have ACx:∀{B' w' j' e' lo},(∀b∈[l,D,b7],B' b=none)→B' b8=none→HZ (Lo w' j' e' lo) B':=fun ho h9 x hx=>by
  rcases AWo.1 hx with rfl|hx
  ·exact h9
  ·exact ho x hx
 have sJ:∀{B' w' j' e' lo},HZ (Lo w' j' e' lo) B'→(∀b∈[l,D,b7],B' b=none)∧B' b8=none:=fun ho=>⟨fun x hx=>ho x (AWq _ hx),ho b8 (AW1 ..)⟩;show AH prog (Instr.storeAt 45 (.pointer (some ⟨b8,0,none⟩)) (.agg #[.slice p n c,.slice q m d])) (AU B ((b8,.cells #[.N,.N] 45 (0,0))::mL l D b7 w O.length e (lp r0 .ready none))) _
 refine AH.Fm (L:=(b8,.cells #[.N,.N] 45 (0,0))::mL l D b7 w O.length e (lp r0 .ready none)) (i:=0) (c:=#[.N,.N]) (c':=#[.slice p n c,.slice q m d]) ACw Mo rfl rfl rfl rfl rfl ?_;refine⟨A2 (L:=Lo w O.length e (lp r0 .ready none)) (i:=1) Mo rfl,?_⟩;have eb:(AU B (((b8,Obj.cells #[.N,.N] 45 (0,0))::mL l D b7 w O.length e (lp r0 .ready none)).set 0 (b8,Obj.cells #[.slice p n c,.slice q m d] 45 (0,0)))).set l (.loop (lp r0 .busy none))=AU B L:=FR (L:=Lo w O.length e (lp r0 .ready none)) (i:=1) Mo rfl;rw[eb];have fin:∀(B' C':Hp) (w':Option Addr) (e':Nat) (O':List Sr),O'=Lq O s→JmB τ N l D b7 O' B' C' w' e'→B' b8=none→AU B' (Lo w' O'.length e' (lp r0 .busy none)) l=some (.loop (lp r0 .busy none))∧((Ending.B true:Ending)=.B true∧Jm τ l D b7 r0 N (Lq O s) ((AU B' (Lo w' O'.length e' (lp r0 .busy none))).set l (.loop (lp r0 .ready none)))):=fun B' C' w' e' O' hO hJ' h8'=>by
  subst hO;have e1:(AU B' (Lo w' (Lq O s).length e' (lp r0 .busy none))).set l (.loop (lp r0 .ready none))=AU (B'.set b8 o8) (mL l D b7 w' (Lq O s).length e' (lp r0 .ready none)):=by
   rw[FR (L:=Lo w' (Lq O s).length e' (lp r0 .busy none)) (i:=1) Mo rfl];exact Dy (L:=mL l D b7 w' (Lq O s).length e' (lp r0 .ready none)) n8
  refine⟨A2 (L:=Lo w' (Lq O s).length e' (lp r0 .busy none)) (i:=1) Mo rfl,rfl,?_⟩;rw[e1];exact⟨_,C',w',e',rfl,hJ'.mono (Ext.set h8') fun b hb=>by rw[Hp.AF (show b≠b8 from fun e=>n8 (e▸hb))];exact hJ'.off b hb⟩
 have es:CA C [.slice p n c,.slice q m d] s:=⟨p,n,c,q,m,d,rfl,r1.mono BM.mono hJ.tc,r2.mono C1.mono hJ.tc,bU⟩;have app:Lq O s=O++[s]→∀(B1:Hp),Ext B B1→(∀b∈[l,D,b7],B1 b=none)→B1 b8=none→∃gI:Option Addr,∃gJ:Nat,∃Xd:Nat,Hp.ld (AU B1 L) ⟨b7,0,none⟩=some (.slice gI gJ Xd)∧∃Lf:Option Addr,∃Lg:Nat,∃Lh:Nat,∃Li:Option Addr,∃Lj:Nat,∃Lk:Nat,Av (AU B1 L) b8 0 [.slice Lf Lg Lh,.slice Li Lj Lk]∧∀IU:Nat,(AU B1 L) IU=none→AH prog (Builtin.append_ #[23,23] 23 #[.slice gI gJ Xd,.slice (some ⟨IU,0,none⟩) 1 1]) (Hp.set (AU B1 L) IU (.cells #[.slice Lf Lg Lh,.slice Li Lj Lk] 45 (0,0))) (fun Uf Az=>∃Mu:Option Addr,∃ND:Nat,∃N9:Nat,Uf=.slice Mu ND N9∧AH prog (Instr.storeAt 23 (.pointer (some ⟨b7,0,none⟩)) (.slice Mu ND N9)) Az (fun _ BF=>BF l=some (.loop (lp r0 .busy none))∧((Ending.B true:Ending)=.B true∧Jm τ l D b7 r0 N (Lq O s) (Hp.set BF l (.loop (lp r0 .ready none)))))):=fun hap B1 Bi cw h81=>by
  refine⟨w,O.length,e,Pj (L:=L) (i:=3) hL rfl rfl,p,n,c,q,m,d,Av.Cm (c:=[.slice p n c,.slice q m d]) (A2 (L:=L) (i:=0) hL rfl),fun IU h57=>?_⟩;obtain⟨n57,APZ⟩:=BD (L:=L) h57;rw[Dy n57];have bD:=hJ.mono Bi cw;obtain⟨⟨cs,ho,hc⟩,iY,hnw⟩:=bD.om;have x57:=Ext.set (o:=.cells #[.slice p n c,.slice q m d] 45 (0,0)) APZ;refine AH.Cd hL (HZ.set (ACx cw h81) n57) (CE (ho.mono x57) (q:=aD IU 0) (ys:=[.slice p n c,.slice q m d]) ⟨rfl,by decide,.inr ⟨IU,0,rfl,Av.Cm (c:=[.slice p n c,.slice q m d]) (Hp.AA _ _ _)⟩⟩ (fun u hu=>by
   simp only[AWo,AXA,AXk]at hu;rcases hu with rfl|rfl<;>rfl) (by have:=bY.2;omega) fun p' c' B2 Bp A4 UX=>⟨p',O.length+1,c',rfl,?_⟩)
  obtain⟨ACy,h82⟩:=sJ UX;refine AH.Fm (L:=L) (i:=3) (c:=#[.slice w O.length e]) (c':=#[.slice p' (O.length+1) c']) iW hL rfl rfl rfl rfl rfl ?_;have K:∀k v,B1 k=some v→(∀a,w=some a→k≠a.block)→B2 k=some v∧∀a,p'=some a→k≠a.block:=fun k v hk Ay=>by
   obtain⟨a1,a2⟩:=AR.1 (A4 k v (AR.2 ⟨Ay,x57 _ _ hk⟩));exact⟨a2,a1⟩
  have KC:∀k v,C k=some v→B2 k=some v∧∀a,p'=some a→k≠a.block:=fun k v hk=>K k v (iY _ _ hk) fun a ha e=>by rw[e,hnw a ha]at hk;cases hk
  have KN:∀k v,N k=some v→B2 k=some v∧∀a,p'=some a→k≠a.block:=fun k v hk=>K k v (bD.nb _ _ hk) fun a ha e=>by rw[e,bD.wn a ha]at hk;cases hk
  have:=fin B2 C p' c' (O++[s]) hap.symm ⟨ACy,fun k v hk=>(KN k v hk).1,⟨⟨_,by rw[AWz,AXc];exact Bp,hc.snoc rfl es⟩,fun k v hk=>(KC k v hk).1,fun a ha=>?_⟩,bD.tc,bD.cn,fun a ha=>?_⟩ h82
  ·rw[AWz,AXc]at this;exact this
  ·cases hh:C a.block with
   | none=>rfl
   | some v=>exact absurd rfl ((KC _ _ hh).2 a ha)
  ·cases hh:N a.block with
   | none=>rfl
   | some v=>exact absurd rfl ((KN _ _ hh).2 a ha)
 have e14:Hp.ld (AU B L) ⟨b7,0,none⟩=some (.slice w O.length e):=Pj (L:=L) (i:=3) hL rfl rfl;refine⟨w,O.length,e,e14,fun Rc=>?_,fun hz=>?_⟩
 ·obtain⟨O',u,hO⟩:∃O' u,O=O'++[u]:=by
   rcases AZp O with h|⟨O',u,h⟩
   ·subst h;exact absurd Rc (by decide)
   ·exact⟨O',u,by rw[h,AZD]⟩
  have hlen:O.length=O'.length+1:=by rw[hO];simp
  have al:O[O'.length]?=some u:=by rw[hO,AXV (AWu _),AX5];rfl
  have t1:Int.toNat ((O.length:Int)-1)=O'.length:=by omega
  obtain⟨⟨cs,ho,hc⟩,iY,hnw⟩:=hJ.om;have tI:Ext B (AU B L):=HZ.ext hL (ACx hJ.off hB8);have hr:Ac 2 (fun _ vs x=>CA C vs x) B w O.length O:=⟨rfl,cs,ho.rd,hc.1,fun i x hx=>hc.2 i x hx⟩;obtain⟨bw,ow,vs,hw,Xc,hl⟩:=Ac.idx hr al;obtain⟨p1,n1,c1,q1,m1,d1,rfl,s1,s2,s3⟩:=Xc;subst hw;have l0:∀{B':Hp},Ext B B'→Hp.ld B' ⟨bw,ow+Int.toNat ((O.length:Int)-1)*2,none⟩=some (.slice p1 n1 c1):=fun hx=>by rw[t1];exact(hl.mono hx).1
  have l1:∀{B':Hp},Ext B B'→Hp.ld B' ⟨bw,(ow+Int.toNat ((O.length:Int)-1)*2)+1,none⟩=some (.slice q1 m1 d1):=fun hx=>by rw[t1];exact(hl.mono hx).2.1
  have i64:AM ((O.length:Int)-1):=by have:=bY.2;unfold AM;omega
  have MX:(0:Int)≤(O.length:Int)-1∧(O.length:Int)-1<(O.length:Int):=⟨by omega,by omega⟩;refine⟨_,O.length,e,e14,i64,bw,ow,rfl,MX,p1,n1,c1,l0 tI,p,n,c,Pj (L:=L) (i:=0) hL rfl rfl,?_⟩;refine Spec.Cd hL (ACx hJ.off hB8) (GB (s1.mono BM.mono iY) (r1.mono BM.mono (hJ.tc.trans iY)) fun B1 Bi CU=>⟨_,rfl,fun h0=>?_,fun Ay=>?_⟩)
  ·obtain⟨ACz,h81⟩:=sJ CU;have hul:u.ls=s.ls:=(AO.eq _ _).1 h0;have hap:Lq O s=O'++[⟨u.ls,C0 u.ps s.ps⟩]:=by rw[hO];exact UR hul
   have APa:Ext B1 (AU B1 L):=HZ.ext hL CU;have e15:Hp.ld (AU B1 L) ⟨b7,0,none⟩=some (.slice (some ⟨bw,ow,none⟩) O.length e):=Pj (L:=L) (i:=3) hL rfl rfl;have bD:=hJ.mono Bi ACz;have kh:u.ps.length=m1:=s2.1;have yz:s.ps.length=m:=r2.1;have yw:=bY.1 u (AWn al);have ft:=hs.2;refine⟨_,O.length,e,e15,i64,_,O.length,e,e15,i64,bw,ow,rfl,MX,q1,m1,d1,l1 (Bi.trans APa),q,m,d,Pj (L:=L) (i:=0) hL rfl rfl,?_⟩;refine Spec.Cd hL CU (XT (s2.mono C1.mono (iY.trans Bi)) (r2.mono C1.mono (hJ.tc.trans (iY.trans Bi))) s3 bU (by omega) (by omega) fun p5 n5 c5 B2 Mw UX=>⟨p5,n5,c5,rfl,tu (L:=L) (i:=3) hL rfl,bw,ow,rfl,MX,?_⟩);obtain⟨ACy,h82⟩:=sJ UX;have A4:=Mw.up;have lX:=bD.mono A4 ACy;obtain⟨⟨cs2,Bp,hc2⟩,AU8,_⟩:=lX.om;have ei:n5≤c5:=by obtain⟨ds,Ui,_⟩:=Mw.1.2;exact Ao.cap Ui
   rw[t1,AZR];refine AH.Cd hL UX (Ao.P3 Bp (j:=O'.length*2+1) (by omega) r5 rfl rfl fun obj Db bE=>?_);obtain⟨APb,h83⟩:=sJ bE
   let C':=C.or (B1.new B2)
   have hCC:Ext C C':=Ext.U2 _ _;have hNC:Ext (B1.new B2) C':=Ext.Mh fun k hk=>by
    cases hh:C k with
    | none=>rfl
    | some v=>
     cases h4:(B1.new B2) k with
     | none=>exact absurd h4 hk
     | some v'=>have:=Bi _ _ (iY _ _ hh);rw[(AQ.1 h4).1]at this;cases this
   have hC2:Ext C' B2:=Ext.Y3 (iY.trans (Bi.trans A4)) (Ext.CW _ _);have hbw:B1 bw≠none:=fun hh=>ho.block ⟨bw,ow,none⟩ rfl (Ae Bi hh);have AKJ:C' bw=none:=by
    show(C.or (B1.new B2)) bw=none
    rw[Hp.Mh (show C bw=none from hnw ⟨bw,ow,none⟩ rfl)];cases hh:(B1.new B2) bw with
    | none=>rfl
    | some v=>exact absurd (AQ.1 hh).1 hbw
   have e9:O'++[⟨u.ls,C0 u.ps s.ps⟩]=O.set O'.length ⟨u.ls,C0 u.ps s.ps⟩:=by rw[hO,AYh _ _ (AWu _),AX5];rfl
   have zQ:(O'++[(⟨u.ls,C0 u.ps s.ps⟩:Sr)]).length=O.length:=by rw[e9,AX3]
   have:=fin (B2.set bw obj) C' (some ⟨bw,ow,none⟩) e (O'++[⟨u.ls,C0 u.ps s.ps⟩]) hap.symm ⟨APb,fun k v hk=>?_,⟨⟨_,by rw[zQ];exact Db,?_⟩,fun k v hk=>?_,fun a ha=>by cases ha;exact AKJ⟩,hJ.tc.trans hCC,fun k hk=>?_,hJ.wn⟩ h83
   ·rw[zQ]at this;exact this
   ·rw[Hp.AF (fun e=>by rw[e,hJ.wn ⟨bw,ow,none⟩ rfl]at hk;cases hk)];exact lX.nb _ _ hk
   ·rw[e9];refine⟨by rw[AX3,AX3];exact hc2.1,fun i y hy=>?_⟩;rw[WJ (by decide)];by_cases hi:O'.length=i
    ·subst hi;rw[AWl rfl];rw[AXe (by omega)]at hy;cases hy;obtain⟨p9,n9,c9,q9,m9,d9,hv9,t4,t5,t6⟩:=hc2.2 O'.length u al;rw[hv9];exact⟨p9,n9,c9,p5,n5,c5,rfl,t4.mono BM.mono hCC,(Aa.wo (fun _ _ _ _ h=>h) Mw).mono C1.mono hNC,ei⟩
    ·rw[AWj hi];rw[AXp hi]at hy;exact CA.mono _ _ _ _ hCC (hc2.2 i y hy)
   ·rw[Hp.AF (fun e=>by rw[e,AKJ]at hk;cases hk)];exact hC2 _ _ hk
   ·by_cases hck:C k=none
    ·right
     have hk:C' k≠none:=hk;have e1:C' k=(B1.new B2) k:=Hp.Mh hck;rw[e1]at hk;cases hh:(B1.new B2) k with
     | none=>exact absurd hh hk
     | some v=>exact Ae (bD.nb) (AQ.1 hh).1
    ·exact hJ.cn k hck
  ·obtain⟨ACz,h81⟩:=sJ CU;exact app (by rw[hO,Lq];rw[AZJ];simp only[List.getLast?_singleton,Option.some_or];rw[AWj fun e=>Ay ((AO.eq _ _).2 e)]) B1 Bi ACz h81
 ·have hO:O=[]:=AXE.1 (by omega);exact app (by rw[hO];rfl) B (.refl _) hJ.off hB8
theorem bF {lb nA cA nB cB:Nat}{pA pB:Option Addr}{A B:List Sr}{T:TypeId}(qX:σ lb=some (.cells #[.slice pA nA cA,.slice pB nB cB] T (0,0)))(rA:Ac 2 CA σ pA nA A)(kA:nA≤cA)(rB:Ac 2 CA σ pB nB B)(kB:nB≤cB)(oA:DC none A=true)(oB:DC none B=true)(hA:∀s∈A,fK s)(hB:∀s∈B,fK s)(hl:A.length+B.length≤2900000000000)
  (h:∀p' n' c' σ',Ac 2 CA σ' p' n' (D1 A B)→n'≤c'→Ext σ σ'→R (.T #[.slice p' n' c',.I 0]) σ'):Spec prog 10 #[.slice (aD lb 0) 2 2] σ R:=by
 have l0:Hp.ld σ ⟨lb,0,none⟩=some (.slice pA nA cA):=Af qX rfl;have l1:Hp.ld σ ⟨lb,1,none⟩=some (.slice pB nB cB):=Af qX rfl;have sA:=(FB oA).2;have sB:=(FB oB).2;refine Ca.start (Ca.A8 ⟨fun _=>⟨lb,0,rfl,by decide,pA,nA,cA,by simpa using l0,Ka rA fun σ1 Bi=>⟨_,rfl,fun Ay=>absurd (by rw[oA];rfl) Ay,fun _=>⟨Gm (by decide),?_⟩⟩⟩,fun hh=>absurd (by decide) hh⟩);refine Ca.A8 ⟨fun _=>⟨lb,0,rfl,by decide,pB,nB,cB,by simpa using Bi.ld l1,Ka (rB.mono CA.mono Bi) fun σ2 A4=>⟨_,rfl,fun Ay=>absurd (by rw[oB];rfl) Ay,fun _=>⟨Gm (by decide),?_⟩⟩⟩,fun hh=>absurd (by decide) hh⟩;refine Ca.A8 ⟨fun hh=>absurd hh (by decide),fun _ b7 h7=>?_⟩;have X2:=Bi.trans A4
 let L7:List (Nat×Obj):=[(b7,.cells #[.N] 23 (0,0))]
 have hn7:(names L7).Nodup:=by simp[L7,names]
 have ho7:HZ L7 σ2:=fun b hb=>by
  have hb:b∈[b7]:=hb;rw[AWs]at hb;subst hb;exact h7
 show Spec prog 28 #[.slice (aD lb 0) 2 2] (AU σ2 L7) _
 refine Spec.Cd hn7 ho7 (QO.start fun b1 yw UY=>⟨_,_,_,rfl,_,_,rfl,AK.en,fun D l r0 hDl hD fp hy=>?_⟩);have UY:HZ L7 (σ2.set b1 (.cells #[.slice (aD lb 0) 2 2] 74 (0,0))):=UY;have x1:=Ext.set (o:=.cells #[.slice (aD lb 0) 2 2] 74 (0,0)) yw;have g1:(σ2.set b1 (.cells #[.slice (aD lb 0) 2 2] 74 (0,0))) b1=some (.cells #[.slice (aD lb 0) 2 2] 74 (0,0)):=Hp.AA _ _ _;generalize hτ:σ2.set b1 (.cells #[.slice (aD lb 0) 2 2] 74 (0,0))=τ at *;have Xτ:=X2.trans x1;obtain⟨nD,hDB⟩:=BD (L:=L7) hD;obtain⟨nl,hlB⟩:=BD (L:=L7) fp;have e7:names L7=[b7]:=rfl;rw[e7,AWs]at nD nl;have UT:[l,D,b7].Nodup:=by
  simp only[AXL,AWo,AXA,AXk,AYH,and_true,not_false_eq_true];exact⟨fun hh=>hh.elim (fun e=>hDl e.symm) nl,nD⟩
 have JJ:∀b∈[l,D,b7],τ b=none:=fun b hb=>by
  simp only[AWo,AXA,AXk]at hb;rcases hb with rfl|rfl|rfl
  ·exact hlB
  ·exact hDB
  ·exact UY b (AWs.2 rfl)
 show Spec prog 45 #[.func (.yield l) #[] #[],.pointer (aD b1 0)] (AU τ (mL l D b7 none 0 0 (lp r0 .ready none))) _
 refine k9 (τ:=τ) (A:=A) (B:=B) (J:=fun N O σ=>Jm τ l D b7 r0 N O σ) ⟨fun N N' O σ σ' h1 h2 h3 h4=>h1.st UT h2 h3 h4,fun N O σ h1=>h1.ext UT,fun N O σ s p n c q m d hJ bY hs _ r1 r2 bU=>?_⟩ (Af g1 rfl) (Xτ.ld l0) (Xτ.ld l1) (rA.mono CA.mono Xτ) kA (rB.mono CA.mono Xτ) kB sA sB hA hB hl
  ⟨τ,τ,none,0,rfl,⟨JJ,.refl _,⟨⟨[],Ao.nil,by simp[Ch]⟩,.refl _,fun a ha=>(by cases ha)⟩,.refl _,fun k hk=>.inl hk,fun a ha=>(by cases ha)⟩⟩ fun N ys σ9 se hJ=>?_
 ·obtain⟨B',C',w',e',rfl,hJ⟩:=hJ;exact hy _ _ p n c q m d (A2 (L:=mL l D b7 w' O.length e' (lp r0 .ready none)) (i:=0) UT rfl) (lA UT hJ bY hs r1 r2 bU)
 ·have hO:=r9 _ A B ys [] (AWu _) sA sB se fun u hu=>(by cases hu);rw[AXi]at hO;rw[hO]at hJ;obtain⟨B',C',w',e',rfl,hJ⟩:=hJ;generalize hO2:D1 A B=O at *;have bY:O.length≤2900000000000:=by rw[←hO2];exact AXD (IF A B) hl
  have Qo:∀s∈O,s.ls.length≤1000000000∧s.ps.length≤1000000000:=fun s hs=>by
   have:=sH hA hB s (by rw[hO2];exact hs);exact⟨this.1,by have:=this.2;omega⟩
  obtain⟨⟨cs,ho,hc⟩,iY,_⟩:=hJ.om;have hrO:Ac 2 CA B' w' O.length O:=⟨rfl,cs,ho.rd,hc.1,fun i x hx=>CA.mono _ _ _ _ iY (hc.2 i x hx)⟩;have el:(AU B' (mL l D b7 w' O.length e' (lp r0 .ready none))).set l (.loop (lp r0 .exhausted none))=AU B' (mL l D b7 w' O.length e' (lp r0 .exhausted none)):=Hp.set_set;refine⟨_,.ready,none,rfl,A2 (L:=mL l D b7 w' O.length e' (lp r0 .ready none)) (i:=0) UT rfl,by decide,rfl,?_⟩;rw[el];refine⟨w',O.length,e',Pj (L:=mL l D b7 w' O.length e' (lp r0 .exhausted none)) (i:=2) UT rfl rfl,?_⟩;refine Spec.Cd (L:=mL l D b7 w' O.length e' (lp r0 .exhausted none)) UT hJ.off (fG hrO bY Qo fun p' c' B3 U8 ei CG bE=>⟨p',O.length,c',rfl,A2 (L:=mL l D b7 w' O.length e' (lp r0 .exhausted none)) (i:=1) UT rfl,?_⟩);have bE:HZ (mL l D b7 w' O.length e' (lp r0 .exhausted none)) B3:=bE;rw[FR (L:=mL l D b7 w' O.length e' (lp r0 .exhausted none)) (i:=1) UT rfl];have x9:Ext B3 (AU B3 ((mL l D b7 w' O.length e' (lp r0 .exhausted none)).set 1 (D,.deferred none))):=HZ.ext (L:=(mL l D b7 w' O.length e' (lp r0 .exhausted none)).set 1 (D,.deferred none)) UT bE;exact h p' O.length c' _ (U8.mono CA.mono x9) ei (Xτ.trans (hJ.tc.trans (iY.trans (CG.trans x9))))
end
theorem GJ {α:Type}{l:List α}{x y:α}{i:Nat}(h:(l++[x])[i]?=some y):(l[i]?=some y∧i<l.length)∨(i=l.length∧y=x):=by
 rw[AXt]at h;split at h
 ·exact .inl ⟨h,by assumption⟩
 ·rename_i Am;cases hj:i-l.length with
  | zero=>rw[hj]at h;cases h;exact .inr ⟨by omega,rfl⟩
  | succ j=>rw[hj]at h;simp at h
class GM {γ:Type}(G:Hp→Option Addr→Nat→Nat→γ→Prop):Prop where
 mono:∀{σ σ':Hp} {p:Option Addr} {n c:Nat} {x:γ},Ext σ σ'→G σ p n c x→G σ' p n c x
def GL0 (σ:Hp)(p:Option Addr)(n c:Nat)(ls:List Lb):Prop:=Dz σ p n ls
instance:GM GL0:=⟨fun hx h=>h.mono BM.mono hx⟩
section
variable {γ β:Type}{s bs:Nat}{E:List Value→β→Prop}{L:Hp→Option Addr→Nat→Nat→γ→Prop}
abbrev tM (γ β:Type):= γ×List β
def GIn (L:Hp→Option Addr→Nat→Nat→γ→Prop)(τ:Hp)(vs:List Value)(x:tM γ β×Option Addr×Nat):Prop:=∃p n c,vs=[.slice p n c,.slice x.2.1 x.1.2.length x.2.2]∧L τ p n c x.1.1
theorem GIn.mono [m:GM L]:Gs (GIn (β:=β) L):=fun _ _ _ _ hx ⟨p,n,c,hv,h⟩=>⟨p,n,c,hv,m.mono hx h⟩
def iZ (s:Nat)(E:List Value→β→Prop)(σ:Hp)(q:Option Addr×Nat)(xs:List β):Prop:=∃cs,Ao s σ q.1 xs.length q.2 cs∧Ch s (fun _=>E) σ cs xs
structure Gk (L:Hp→Option Addr→Nat→Nat→γ→Prop)(s:Nat)(E:List Value→β→Prop)(τ σ:Hp)(p:Option Addr)(n c:Nat)(gs:List (tM γ β))(qs:List (Option Addr×Nat)):Prop where
 len:qs.length=gs.length
 own:∃cs,Ao 2 σ p n c cs∧Ch 2 (GIn L) τ cs (gs.zip qs)
 bX:∀(i:Nat) (q:Option Addr×Nat) (g:tM γ β),qs[i]?=some q→gs[i]?=some g→iZ s E σ q g.2
 sep:∀(i:Nat) (q:Option Addr×Nat),qs[i]?=some q→∀a,q.1=some a→τ a.block=none∧∀a',p=some a'→a.block≠a'.block
 nd:∀(i j:Nat) (q r:Option Addr×Nat),qs[i]?=some q→qs[j]?=some r→i≠j→∀a a',q.1=some a→r.1=some a'→a.block≠a'.block
 op:∀a,p=some a→τ a.block=none
 ext:Ext τ σ
variable {σ σ' τ:Hp}{p:Option Addr}{n c:Nat}{gs:List (tM γ β)}{qs:List (Option Addr×Nat)}
theorem iZ.mono {q:Option Addr×Nat}{xs:List β}(h:iZ s E σ q xs)(hx:Ext σ σ'):iZ s E σ' q xs:=let ⟨cs,h1,h2⟩:=h;⟨cs,h1.mono hx,h2.1,h2.2⟩
theorem iZ.here {q:Option Addr×Nat}{xs:List β}(h:iZ s E σ q xs)(hs:∀a,q.1=some a→σ' a.block=σ a.block):iZ s E σ' q xs:=let ⟨cs,h1,h2⟩:=h;⟨cs,Ao.here h1 hs,h2.1,h2.2⟩
theorem iZ.known {q:Option Addr×Nat}{xs:List β}(h:iZ s E σ q xs):∀a,q.1=some a→σ a.block≠none:=let ⟨cs,h1,h2⟩:=h;h1.block
theorem iZ.rd {q:Option Addr×Nat}{xs:List β}(h:iZ s E σ q xs):Ac s (fun _=>E) σ q.1 xs.length xs∧xs.length≤q.2:=let ⟨cs,h1,h2⟩:=h;⟨⟨rfl,cs,h1.rd,h2⟩,Ao.cap h1⟩
theorem iZ.nil:iZ s E σ (none,0) []:=⟨[],Ao.nil,by simp[Ch]⟩
theorem Gk.nil (hx:Ext τ σ):Gk L s E τ σ none 0 0 [] []:=⟨rfl,⟨[],Ao.nil,by simp[Ch]⟩,fun i q g hq=>(by simp at hq),fun i q hq=>(by simp at hq),fun i j q r hq=>(by simp at hq),fun a ha=>(by cases ha),hx⟩
theorem Gk.mono (h:Gk L s E τ σ p n c gs qs)(hx:Ext σ σ'):Gk L s E τ σ' p n c gs qs:=
 ⟨h.len,let ⟨cs,h1,h2⟩:=h.own;⟨cs,h1.mono hx,h2⟩,fun i q g hq hg=>(h.bX i q g hq hg).mono hx,h.sep,h.nd,h.op,h.ext.trans hx⟩
theorem Gk.fL (h:Gk L s E τ σ p n c gs qs):gs.length=n:=by
 obtain⟨cs,h1,h2⟩:=h.own;have a1:=h1.1;have a2:=h2.1;rw[AXx,h.len,AYW]at a2;omega
theorem Gk.qat (h:Gk L s E τ σ p n c gs qs){i:Nat}{g:tM γ β}(hg:gs[i]?=some g):∃q,qs[i]?=some q:=⟨_,AWm (by rw[h.len];exact(AWk.1 hg).1)⟩
theorem Gk.at [m:GM L](h:Gk L s E τ σ p n c gs qs){i:Nat}{g:tM γ β}(hg:gs[i]?=some g):∃b o q pl nl cl,p=some ⟨b,o,none⟩∧qs[i]?=some q∧Av σ b (o+i*2) [.slice pl nl cl,.slice q.1 g.2.length q.2]∧L σ pl nl cl g.1:=by
 obtain⟨q,hq⟩:=h.qat hg;obtain⟨cs,h1,h2⟩:=h.own;have hr:Ac 2 (fun _ vs (x:tM γ β×Option Addr×Nat)=>∃p n c,vs=[.slice p n c,.slice x.2.1 x.1.2.length x.2.2]∧L τ p n c x.1.1) σ p n (gs.zip qs):=⟨by rw[AXx,h.len,AYW];exact h.fL,cs,h1.rd,h2.1,fun j x hx=>h2.2 j x hx⟩;obtain⟨b,o,vs,hp,⟨p1,n1,c1,rfl,U9⟩,hl⟩:=Ac.idx hr (x:=(g,q)) (AXd.2 ⟨hg,hq⟩);exact⟨b,o,q,p1,n1,c1,hp,hq,hl,m.mono h.ext U9⟩
theorem Gk.add {T Et ty:TypeId}[m:GM L][I3 prog T Et 2 bs]{pl:Option Addr}{nl cl b:Nat}{ls:γ}{y:Hp}{Φ:Value→Hp→Prop}(h:Gk L s E τ σ p n c gs qs)(hy:Ext σ y)(U9:L (σ.new y) pl nl cl ls)(hb:y b=none)(hn:(n+1)*bs≤140737488355328)
  (hΦ:∀τ' p' c' σ',Gk L s E τ' σ' p' (n+1) c' (gs++[(ls,[])]) (qs++[(none,0)])→Ext τ τ'→Φ (.slice p' (n+1) c') σ') :
  AH prog (Builtin.append_ #[T,T] ty #[.slice p n c,.slice (aD b 0) 1 1]) (y.set b (.cells #[.slice pl nl cl,.N] Et (0,0))) Φ:=by
 obtain⟨cs,h1,h2⟩:=h.own;have xb:=Ext.set (o:=.cells #[.slice pl nl cl,.N] Et (0,0)) hb;have X:=hy.trans xb;have hz:(gs.zip qs).length=gs.length:=by rw[AXx,h.len,AYW]
 refine CE (h1.mono X) (q:=aD b 0) (ys:=[.slice pl nl cl,.N]) ⟨rfl,by omega,.inr ⟨b,0,rfl,Av.Cm (c:=[.slice pl nl cl,.N]) (Hp.AA _ _ _)⟩⟩ (fun u hu=>by
  simp only[AWo,AXA,AXk]at hu;rcases hu with rfl|rfl<;>rfl) hn fun p' c' σ5 Mw du=>?_
 have T:∀k,(y.set b (.cells #[.slice pl nl cl,.N] Et (0,0))) k≠none→(∀a,p=some a→k≠a.block)→σ5 k=(y.set b (.cells #[.slice pl nl cl,.N] Et (0,0))) k∧∀a,p'=some a→k≠a.block:=fun k hk Ay=>by
  cases hh:(y.set b (.cells #[.slice pl nl cl,.N] Et (0,0))) k with
  | none=>exact absurd hh hk
  | some u=>
   obtain⟨a1,a2⟩:=AR.1 (du k u (AR.2 ⟨Ay,hh⟩));exact⟨a2,a1⟩
 have up:∀{k:Nat} {A B:Hp},Ext A B→A k≠none→B k≠none:=fun {k A B} hx hk=>by
  cases hh:A k with
  | none=>exact absurd hh hk
  | some u=>rw[hx _ _ hh];simp
 have tt:Ext τ (τ.or (σ.new y)):=Ext.U2 _ _;have nt:Ext (σ.new y) (τ.or (σ.new y)):=Ext.Mh fun k hk=>by
  cases hh:τ k with
  | none=>rfl
  | some u=>
   have h3:=h.ext _ _ hh;cases h4:(σ.new y) k with
   | none=>exact absurd h4 hk
   | some v=>rw[(AQ.1 h4).1]at h3;cases h3
 have kn:∀k,σ k≠none→τ k=none→(τ.or (σ.new y)) k=none:=fun k hu hk=>by
  rw[Hp.Mh hk];cases hh:(σ.new y) k with
  | none=>rfl
  | some v=>exact absurd (AQ.1 hh).1 hu
 have e1:Ext (τ.or (σ.new y)) y:=Ext.Y3 (h.ext.trans hy) (Ext.CW _ _);have pk:∀a,p=some a→σ a.block≠none:=h1.block;have hE5:Ext (τ.or (σ.new y)) σ5:=fun k u hk=>by
  have qQ:=xb _ _ (e1 _ _ hk);rw[(T k (by rw[qQ];simp) fun a ha e=>by rw[e,kn a.block (pk a ha) (h.op a ha)]at hk;cases hk).1];exact qQ
 have bV:∀(i:Nat) (r:Option Addr×Nat),qs[i]?=some r→∀a,r.1=some a→σ a.block≠none∧τ a.block=none∧(∀a',p=some a'→a.block≠a'.block):=fun i r hr a ha=>by
  obtain⟨g1,g2⟩:=h.sep i r hr a ha;have Am:i<gs.length:=by rw[←h.len];exact(AWk.1 hr).1
  exact⟨(h.bX i r _ hr (AWm Am)).known a ha,g1,g2⟩
 refine hΦ (τ.or (σ.new y)) p' c' σ5 ⟨by simp[h.len],⟨_,Mw,?_⟩,fun i r u hr hu=>?_,fun i r hr a ha=>?_,fun i j r r' hr RZ I2 a a' ha Hb=>?_,fun a ha=>?_,hE5⟩ tt
 ·rw[List.zip_append h.len.symm];exact(h2.mono GIn.mono tt).snoc rfl ⟨pl,nl,cl,rfl,m.mono nt U9⟩
 ·rcases GJ hr with ⟨hr,Am⟩|⟨hi,rfl⟩
  ·rcases GJ hu with ⟨hu,_⟩|⟨hi,_⟩
   ·refine((h.bX i r u hr hu).mono X).here fun a ha=>?_;obtain⟨g1,_,g3⟩:=bV i r hr a ha;exact(T a.block (up X g1) g3).1
   ·have:=h.len;omega
  ·rcases GJ hu with ⟨_,Am⟩|⟨_,rfl⟩
   ·have:=h.len;omega
   ·exact iZ.nil
 ·rcases GJ hr with ⟨hr,Am⟩|⟨hi,rfl⟩
  ·obtain⟨g1,g2,g3⟩:=bV i r hr a ha;exact⟨kn _ g1 g2,fun a' Hb e=>(T a.block (up X g1) g3).2 a' Hb e⟩
  ·cases ha
 ·rcases GJ hr with ⟨hr,_⟩|⟨hi,rfl⟩<;>rcases GJ RZ with ⟨RZ,_⟩|⟨Bj,rfl⟩
  ·exact h.nd i j r r' hr RZ I2 a a' ha Hb
  ·cases Hb
  ·cases ha
  ·cases ha
 ·cases hh:(τ.or (σ.new y)) a.block with
  | none=>rfl
  | some u=>
   exfalso;have qQ:=xb _ _ (e1 _ _ hh);exact(T a.block (by rw[qQ];simp) fun a' Hb e=>by rw[e,kn a'.block (pk a' Hb) (h.op a' Hb)]at hh;cases hh).2 a ha rfl
theorem Gk.push {T Et ty TS:TypeId}[I3 prog T Et s bs]{i b bq oq:Nat}{g:tM γ β}{q:Option Addr×Nat}{x:β}{vs:List Value}{Φ:Unit→Hp→Prop}{Ψ:Value→Hp→Prop}(hz:∀w,(Go.sizeOf TS).run prog w=.ok 1 w)(h:Gk L s E τ σ p n c gs qs)(hg:gs[i]?=some g)(hq:qs[i]?=some q)(hp:p=some ⟨bq,oq,none⟩)(hvl:vs.length=s)(hv:E vs x)(h1v:Ey vs)(hb:σ b=none)(hn:(g.2.length+1)*bs≤140737488355328)
  (hΨ:∀p' c' σ1,(∀k u,τ k=some u→σ1 k=some u)→AH prog (Instr.storeAt TS (.pointer (some ⟨bq,oq+(i*2+1),none⟩)) (.slice p' (g.2.length+1) c')) σ1 Φ→Ψ (.slice p' (g.2.length+1) c') σ1)
  (hΦ:∀q' σ2,Gk L s E τ σ2 p n c (gs.set i (g.1,g.2++[x])) (qs.set i q')→Φ () σ2) :
  AH prog (Builtin.append_ #[T,T] ty #[.slice q.1 g.2.length q.2,.slice (aD b 0) 1 1]) (σ.set b (.cells vs.toArray Et (0,0))) Ψ:=by
 obtain⟨cs,h1,h2⟩:=h.own;obtain⟨ds,g1,g2⟩:=h.bX i q g hq hg;have hi:=(AWk.1 hg).1;have hiq:=(AWk.1 hq).1;have vw:=h.fL;have xb:=Ext.set (o:=.cells vs.toArray Et (0,0)) hb;refine CE (g1.mono xb) (q:=aD b 0) (ys:=vs) ⟨by rw[hvl,AZf],by decide,.inr ⟨b,0,rfl,Av.Cm (c:=vs) (Hp.AA _ _ _)⟩⟩ h1v hn fun p' c' σ1 ho hx=>?_;have K:∀k,σ k≠none→(∀a,q.1=some a→k≠a.block)→σ1 k=σ k∧∀a,p'=some a→k≠a.block:=fun k hk Ay=>by
  cases hh:σ k with
  | none=>exact absurd hh hk
  | some u=>
   obtain⟨a1,a2⟩:=AR.1 (hx k u (AR.2 ⟨Ay,xb k u hh⟩));exact⟨a2,a1⟩
 have kt:∀k,τ k≠none→σ1 k=σ k∧∀a,p'=some a→k≠a.block:=fun k hk=>by
  refine K k (fun e=>hk (Ae h.ext e)) fun a ha e=>?_;rw[e]at hk;exact hk (h.sep i q hq a ha).1
 have kp:∀a,p=some a→σ1 a.block=σ a.block∧∀a',p'=some a'→a.block≠a'.block:=fun a ha=>K a.block (h1.block a ha) fun a' Hb=>((h.sep i q hq a' Hb).2 a ha).symm;have kq:∀(j:Nat) (r:Option Addr×Nat),qs[j]?=some r→j≠i→∀a,r.1=some a→σ1 a.block=σ a.block∧∀a',p'=some a'→a.block≠a'.block:=fun j r hr lJ a ha=>by
  have Am:j<gs.length:=by rw[←h.len];exact(AWk.1 hr).1
  exact K a.block ((h.bX j r _ hr (AWm Am)).known a ha) fun a' Hb=>h.nd j i r q hr hq lJ a a' ha Hb
 have h1':Ao 2 σ1 p n c cs:=Ao.here h1 fun a ha=>(kp a ha).1;have APg:∀a,p'=some a→τ a.block=none:=fun a ha=>by
  cases hh:τ a.block with
  | none=>rfl
  | some u=>exact absurd rfl ((kt a.block (by rw[hh];simp)).2 a ha)
 refine hΨ p' c' σ1 (fun k u hk=>by rw[(kt k (by rw[hk];simp)).1];exact h.ext k u hk) ?_;rw[hp] at h1';refine Ao.P3 h1' (j:=i*2+1) (by omega) hz rfl rfl fun obj g3=>hΦ (p',c') _ ?_;have pb:p=some ⟨bq,oq,none⟩:=hp;have off:∀a:Addr,p'=some a→(σ1.set bq obj) a.block=σ1 a.block:=fun a ha=>Hp.AF fun e=>(kp ⟨bq,oq,none⟩ pb).2 a ha e.symm;refine⟨by rw[AX3,AX3];exact h.len,⟨cs.set (i*2+1) (.slice p' (g.2.length+1) c'),by rw[hp];exact g3,?_,fun j y hy=>?_⟩,fun j r u hr hu=>?_,fun j r hr a ha=>?_,fun j k r r' hr RZ il a a' ha Hb=>?_,h.op,fun k u hk=>?_⟩
 ·rw[AX3,h2.1,AXx,AXx,AX3,AX3]
 ·obtain⟨y1,y2⟩:=y;obtain⟨zN,wF⟩:=AXd.1 hy;rw[WJ (by decide)];by_cases I2:i=j
  ·subst I2;rw[AWl rfl];rw[AXe hi]at zN;rw[AXe hiq]at wF;cases zN;cases wF;obtain⟨p1,n1,c1,za,U9⟩:=h2.2 i (g,q) (AXd.2 ⟨hg,hq⟩);refine⟨p1,n1,c1,?_,U9⟩;rw[show(cs.drop (i*2)).take 2=_ from za];show[Value.slice p1 n1 c1,Value.slice p' (g.2.length+1) c']=[Value.slice p1 n1 c1,Value.slice p' (g.2++[x]).length c']
   rw[AWz,AXc]
  ·rw[AWj I2];rw[AXp I2]at zN wF;exact h2.2 j (y1,y2) (AXd.2 ⟨zN,wF⟩)
 ·by_cases I2:i=j
  ·subst I2;rw[AXe hi]at hu;rw[AXe hiq]at hr;cases hu;cases hr;refine⟨ds++vs,?_,?_⟩
   ·show Ao s (σ1.set bq obj) p' (g.2++[x]).length c' (ds++vs)
    rw[AWz,AXc];exact Ao.here ho off
   ·have:Ch s (fun _=>E) (σ1.set bq obj) ds g.2:=⟨g2.1,g2.2⟩;exact this.snoc hvl hv
  ·rw[AXp I2]at hr hu;refine(h.bX j r u hr hu).here fun a ha=>?_;rw[Hp.AF fun e=>(h.sep j r hr a ha).2 ⟨bq,oq,none⟩ pb e,(kq j r hr (fun e=>I2 e.symm) a ha).1]
 ·by_cases I2:i=j
  ·subst I2;rw[AXe hiq]at hr;cases hr;exact⟨APg a ha,fun a' Hb e=>(kp a' Hb).2 a ha e.symm⟩
  ·rw[AXp I2]at hr;exact h.sep j r hr a ha
 ·by_cases I2:i=j
  ·subst I2;rw[AXe hiq]at hr;cases hr;rw[AXp il]at RZ;exact fun e=>(kq k r' RZ (fun e=>il e.symm) a' Hb).2 a ha e.symm
  ·by_cases xC:i=k
   ·subst xC;rw[AXe hiq]at RZ;cases RZ;rw[AXp I2]at hr;exact(kq j r hr (fun e=>I2 e.symm) a ha).2 a' Hb
   ·rw[AXp I2]at hr;rw[AXp xC]at RZ;exact h.nd j k r r' hr RZ il a a' ha Hb
 ·have Gn:k≠bq:=fun e=>by
   have h9:=h.op ⟨bq,oq,none⟩ pb;rw[e]at hk;rw[h9]at hk;cases hk
  rw[Hp.AF Gn,(kt k (by rw[hk];simp)).1];exact h.ext k u hk
end
structure P4 where
 p:Option Addr
 n:Nat
 c:Nat
def P4.v (w:P4):Value:=.slice w.p w.n w.c
def AC0 (x:P4×P4):List Value:=[x.1.v,x.2.v]
abbrev dj (x y:P4):Prop:=∀a a',x.p=some a→y.p=some a'→a.block≠a'.block
structure P9 (σ0 σ:Hp)(p:Option Addr)(w:P4):Prop where
 n:w.n≤100000000
 own:∃es,Ao 2 σ w.p w.n w.c es
 new:∀a,w.p=some a→σ0 a.block=none
 sep:∀a a',w.p=some a→p=some a'→a.block≠a'.block
abbrev Rr9 (x y:P4×P4):Prop:=dj x.1 y.1∧dj x.1 y.2∧dj x.2 y.1∧dj x.2 y.2
theorem Rr9.symm {x y:P4×P4}(h:Rr9 x y):Rr9 y x:=⟨fun a b ha hb=>(h.1 b a hb ha).symm,fun a b ha hb=>(h.2.2.1 b a hb ha).symm,fun a b ha hb=>(h.2.1 b a hb ha).symm,fun a b ha hb=>(h.2.2.2 b a hb ha).symm⟩
structure lB (σ0 σ:Hp)(p:Option Addr)(n c:Nat)(M:List Sr)(rows:List (P4×P4)):Prop where
 own:Ao 2 σ p n c (rows.flatMap AC0)
 pw:rows.Pairwise Rr9
 each:∀x∈rows,dj x.1 x.2∧P9 σ0 σ p x.1∧P9 σ0 σ p x.2
 rd:Ac 2 CA σ p n M
 op:∀a,p=some a→σ0 a.block=none
 ext:Ext σ0 σ
section
variable {σ σ' σ0 M:Hp}{R:Rr}{p:Option Addr}{n c:Nat}{S:List Sr}{rows:List (P4×P4)}
theorem P9.mono {w:P4}(h:P9 σ0 σ p w)(hx:Ext σ σ'):P9 σ0 σ' p w:=⟨h.n,let ⟨es,ho⟩:=h.own;⟨es,ho.mono hx⟩,h.new,h.sep⟩
theorem lB.mono (h:lB σ0 σ p n c S rows)(hx:Ext σ σ'):lB σ0 σ' p n c S rows:=⟨h.own.mono hx,h.pw,fun x hm=>let ⟨a,b,d⟩:=h.each x hm;⟨a,b.mono hx,d.mono hx⟩,h.rd.mono CA.mono hx,h.op,h.ext.trans hx⟩
end
def GL1 (σ:Hp)(p:Option Addr)(n c:Nat)(x:List Lb×P4):Prop:=x.2=⟨p,n,c⟩∧Ej 2 BM σ p n c x.1
instance:GM GL1:=⟨fun hx h=>⟨h.1,h.2.mono BM.mono hx⟩⟩
abbrev EPv (vs:List Value)(x:Pt):Prop:=vs=[.I x.1,.U x.2]
abbrev Gr:=tM (List Lb×P4) Pt
def Gr.sr (g:Gr):Sr:=⟨g.1.1,g.2⟩
def bG (x:Gr×Option Addr×Nat):P4×P4:=(x.1.1.2,⟨x.2.1,x.1.2.length,x.2.2⟩)
structure VB (σ τ B:Hp)(w:Option Addr)(j e:Nat)(gs:List Gr)(qs:List (Option Addr×Nat)):Prop where
 gk:Gk GL1 2 EPv τ B w j e gs qs
 base:Ext σ τ
 w0:∀g∈gs,∀a,g.1.2.p=some a→σ a.block=none
 wd:(gs.map (·.1.2)).Pairwise dj
section
variable {σ τ B σ1:Hp}{R:Rr}{w:Option Addr}{j e:Nat}{gs:List Gr}{qs:List (Option Addr×Nat)}
theorem VB.tN (h:VB σ τ B w j e gs qs){g:Gr}(hg:g∈gs):Ej 2 BM τ g.1.2.p g.1.2.n g.1.2.c g.1.1:=by
 obtain⟨i,hi⟩:=AXN.1 hg;obtain⟨q,hq⟩:=h.gk.qat hi;obtain⟨cs,_,h2⟩:=h.gk.own;obtain⟨p,n,c,_,h3,h4⟩:=h2.2 i (g,q) (AXd.2 ⟨hi,hq⟩);have h3:g.1.2=⟨p,n,c⟩:=h3;rw[h3];exact h4
theorem VB.AKP (h:VB σ τ B w j e gs qs)(hl:∀g∈gs,g.1.1.length≤100000000∧g.2.length≤100000000){L':List (Gr×Option Addr×Nat)}(hp:L'.Perm (gs.zip qs))(BS:Ao 2 σ1 w j e ((L'.map bG).flatMap AC0))(hk:∀k,B k≠none→(∀a,w=some a→k≠a.block)→σ1 k=B k):
  lB σ σ1 w j e (L'.map fun x=>x.1.sr) (L'.map bG):=by
 have gk:=h.gk;have kt:∀k u,τ k=some u→σ1 k=some u:=fun k u Ew=>by
  rw[hk k (by rw[gk.ext _ _ Ew];simp) fun a ha e=>by rw[e,gk.op a ha]at Ew;cases Ew];exact gk.ext _ _ Ew
 have hz:∀x∈gs.zip qs,∃i:Nat,gs[i]?=some x.1∧qs[i]?=some x.2:=fun x hx=>by
  obtain⟨i,hi⟩:=AXN.1 hx;exact⟨i,AXd.1 hi⟩
 have tN:∀x∈gs.zip qs,Ej 2 BM τ x.1.1.2.p x.1.1.2.n x.1.1.2.c x.1.1.1:=fun x hx=>by
  obtain⟨i,h1,_⟩:=hz x hx;exact h.tN (AWn h1)
 have wk:∀x∈gs.zip qs,∀a,x.1.1.2.p=some a→τ a.block≠none:=fun x hx a ha=>by
  obtain⟨_,cs,ho,_⟩:=tN x hx;exact ho.block a ha
 have qk:∀x∈gs.zip qs,∀a,x.2.1=some a→τ a.block=none∧(∀a',w=some a'→a.block≠a'.block)∧σ1 a.block=B a.block:=fun x hx a ha=>by
  obtain⟨i,h1,h2⟩:=hz x hx;obtain⟨g1,g2⟩:=gk.sep i _ h2 a ha;exact⟨g1,g2,hk _ ((gk.bX i _ _ h2 h1).known a ha) g2⟩
 have dwq:∀x∈gs.zip qs,∀y∈gs.zip qs,dj (bG x).1 (bG y).2:=fun x hx y hy a a' ha Hb e=>wk x hx a ha (by rw[e];exact(qk y hy a' Hb).1);refine⟨BS,(List.Perm.pairwise_iff Rr9.symm (hp.map bG)).2 (AYE.2 (AXX.2 fun i k hi Ew xC=>?_)),fun y hy=>?_,?_,fun a ha=>Ae h.base (gk.op a ha),fun k u Ew=>kt k u (h.base _ _ Ew)⟩
 ·obtain⟨a1,a2⟩:=AXd.1 (AWm hi);obtain⟨b1,b2⟩:=AXd.1 (AWm Ew);have hx:=AYV hi;have hy:=AYV Ew;generalize (gs.zip qs)[i]=x at *;generalize (gs.zip qs)[k]=y at *;obtain⟨i1,e1⟩:=AWk.1 a1;obtain⟨k1,e2⟩:=AWk.1 b1;have:=AXX.1 (AYE.1 h.wd) i k i1 k1 xC;rw[e1,e2]at this;exact⟨this,dwq x hx y hy,fun a a' ha Hb e=>dwq y hy x hx a' a Hb ha e.symm,gk.nd i k _ _ a2 b2 (by omega)⟩
 ·obtain⟨x,hx,rfl⟩:=AXB.1 hy;have hx:=hp.mem_iff.1 hx;obtain⟨i,h1,h2⟩:=hz x hx;have hgm:=AWn h1;obtain⟨l1,l2⟩:=hl _ hgm;obtain⟨n1,cs,ho,_⟩:=tN x hx;obtain⟨ds,g1,_⟩:=gk.bX i _ _ h2 h1;exact⟨dwq x hx x hx,⟨by show x.1.1.2.n≤_;omega,⟨cs,ho.mono kt⟩,h.w0 _ hgm,fun a a' ha Hb e=>wk x hx a ha (by rw[e];exact gk.op a' Hb)⟩,
   ⟨l2,⟨ds,Ao.here g1 fun a ha=>(qk x hx a ha).2.2⟩,fun a ha=>Ae h.base (qk x hx a ha).1,fun a a' ha Hb=>(qk x hx a ha).2.1 a' Hb⟩⟩
 ·have hlen:L'.length=j:=by
   rw[hp.length_eq,AXx,gk.len,AYW];exact gk.fL
  refine⟨by rw[AW9];exact hlen,_,BS.rd,by rw[LN (k:=2) fun x=>rfl,AW9,AW9],fun i s hs=>?_⟩;rw[AXM]at hs;cases hx:L'[i]? with
  | none=>rw[hx]at hs;cases hs
  | some x=>
   rw[hx]at hs;simp only[AXT,AWp]at hs;subst hs;rw[XG (fun x=>rfl) (L'.map bG) i (bG x) (by rw[AXM,hx];rfl)];have aX:=hp.mem_iff.1 (AWn hx);obtain⟨k,h1,h2⟩:=hz x aX;obtain⟨r1,r2⟩:=((gk.bX k _ _ h2 h1).here fun a ha=>(qk x aX a ha).2.2).rd;exact⟨x.1.1.2.p,x.1.1.2.n,x.1.1.2.c,x.2.1,x.1.2.length,x.2.2,rfl,((tN x aX).rd BM.mono).mono BM.mono kt,r1,r2⟩
theorem lC [Ei]{R:Rr}{p q p1 q1:Option Addr}{n m c d n1 c1 m1 d1:Nat}{ls ms:List Lb}(hr:Dz σ p n ls)(hs:Dz σ q m ms)(h:∀σ',Ext σ σ'→R (.returned (.I (AX ls ms))) σ'):Spec prog 21 #[.agg #[.slice p n c,.slice p1 n1 c1],.agg #[.slice q m d,.slice q1 m1 d1]] σ R:=
 NO.start fun _ _=>GB hr hs fun σ' hx=>⟨_,rfl,h σ' hx⟩
theorem fM (h:VB σ τ B w j e gs qs)(hl:∀g∈gs,g.1.1.length≤100000000∧g.2.length≤100000000)(hj:j<4611686018427387904)
  (hR:∀σ' rows S,lB σ σ' w j e S rows→S.Perm (gs.map Gr.sr)→S.Pairwise (fun x y=>¬AX y.ls x.ls<0)→R (.T #[]) σ'):Spec prog 20 #[.slice w j e,.func (.func 21) #[] #[]] B R:=by
 have gk:=h.gk;have vw:=gk.fL;have hzl:(gs.zip qs).length=j:=by rw[AXx,gk.len,AYW];exact vw
 obtain⟨cs,ho,hc⟩:=gk.own;by_cases h0:j=0
 ·subst h0;have ve:gs=[]:=AXE.1 vw;subst ve;have Lu:cs=[]:=AXE.1 (by have:=ho.1;omega);subst Lu;exact Spec.same (v:=.tuple #[]) (fun w' _=>Go.Proofs.AnyF.slices_SortFunc_none Go.Proofs.Tryz.qz w e _ w') (hR B [] [] (h.AKP (L':=[]) hl (AYz _) ho fun _ _ _=>rfl) (AYz _) .nil)
 obtain⟨b,o,rfl⟩:∃b o,w=some ⟨b,o,none⟩:=by
  rcases ho.2.2 with ⟨_,h2,_⟩|⟨b,o,_,_,hp,_⟩
  ·exact absurd h2 h0
  ·exact⟨b,o,hp⟩
 let row:Fin j→Gr×Option Addr×Nat:=fun i=>(gs.zip qs)[i.1]'(by rw[hzl];exact i.2)
 let enc:Fin j→List Value:=fun i=>AC0 (bG (row i))
 have iD:(List.finRange j).flatMap enc=cs:=by
  have e:enc=fun i=>(cs.drop (i.1*2)).take 2:=by
   funext i
   obtain⟨p,n,c,hv,h3,_⟩:=hc.2 i.1 (row i) (AWm _);have h3:(row i).1.1.2=⟨p,n,c⟩:=h3;rw[hv];show[P4.v (row i).1.1.2,_]=_
   rw[h3];rfl
  rw[e];exact ah ho.1
 have tT:(List.finRange j).map row=gs.zip qs:=iC _ hzl;haveI:Inhabited (Fin j):=⟨⟨0,by omega⟩⟩;have tN:∀i:Fin j,Dz (B.del (some ⟨b,o,none⟩)) (row i).1.1.2.p (row i).1.1.2.n (row i).1.1.1:=fun i=>by
  have hm:row i∈gs.zip qs:=AYV _;refine((h.tN (List.of_mem_zip hm).1).rd BM.mono).mono BM.mono fun k u hk=>AR.2 ⟨fun a ha e=>?_,gk.ext _ _ hk⟩;rw[e,gk.op a ha]at hk;cases hk
 refine iB (ρ:=Go.Proofs.Tryz.UC) Go.Proofs.Tryz.qz (fun w=>by kernel_rfl) (fun w=>by kernel_rfl) (α:=Fin j) (enc:=enc) (fun i=>rfl) (fun i u hu=>by
  have hu:u∈[P4.v _,P4.v _]:=hu;simp only[AWo,AXA,AXk]at hu;rcases hu with rfl|rfl<;>rfl) (cf:=fun i k=>AX (row i).1.1.1 (row k).1.1.1) AJh (g:=21) (fun args w=>call21 args w) (b:=b) (o:=o) (ds:=List.finRange j) (by rw[iD];exact ho) AYk h0 hj (fun w hw x y=>?_) fun σ1 ds hp j5 BS Ip=>?_
 ·exact Spec.qt (R:=fun e=>e=.returned (.I (AX (row x).1.1.1 (row y).1.1.1))) (@lC _ ⟨True⟩ _ _ _ _ _ _ _ _ _ _ _ _ _ _ _ (tN x) (tN y) fun σ' Tk=>⟨rfl,Tk⟩) hw
 ·have hL:(ds.map row).Perm (gs.zip qs):=by rw[←tT];exact hp.map row
  refine hR σ1 _ _ (h.AKP (L':=ds.map row) hl hL (by rw[AZG,List.flatMap_map];exact BS) fun k hk Ay=>?_) ?_ ?_
  ·cases hh:B k with
   | none=>exact absurd hh hk
   | some u=>exact(AR.1 (Ip k u (AR.2 ⟨Ay,hh⟩))).2
  ·have:=hL.map fun x=>x.1.sr;have e:(gs.zip qs).map (fun x=>x.1.sr)=gs.map Gr.sr:=by
    rw[show(fun x:Gr×Option Addr×Nat=>x.1.sr)=Gr.sr ∘ Prod.fst from rfl,←AZG,List.map_fst_zip (by rw[gk.len];exact AWu _)]
   rwa[e]at this
  ·rw[AZG];exact AYE.2 (j5.imp fun {x y} Mz=>AW2 Mz)
theorem VB.set {B':Hp}{i:Nat}{g:Gr}{ps:List Pt}{UZ:List (Option Addr×Nat)}(h:VB σ τ B w j e gs qs)(hg:gs[i]?=some g)(hk:Gk GL1 2 EPv τ B' w j e (gs.set i (g.1,ps)) UZ):VB σ τ B' w j e (gs.set i (g.1,ps)) UZ:=by
 refine⟨hk,h.base,fun u hu=>?_,?_⟩
 ·rcases AYO hu with hu|rfl
  ·exact h.w0 u hu
  ·exact h.w0 g (AWn hg)
 ·have e:(gs.set i (g.1,ps)).map (·.1.2)=gs.map (·.1.2):=by
   refine AXm fun k=>?_;rw[AXM,AXM,AYF];split
   ·rename_i e;subst e;rw[hg,AWl (AWk.1 hg).1];rfl
   ·rfl
  rw[e];exact h.wd
theorem VB.snoc {τ' B' B3 B5:Hp}{w':Option Addr}{j' e':Nat}{ls:List Lb}{W:P4}{UZ:List (Option Addr×Nat)}(h:VB σ τ B w j e gs qs)(hk:Gk GL1 2 EPv τ' B' w' j' e' (gs++[((ls,W),[])]) UZ)(hx:Ext τ τ')(h3:Ext B B3)(hW:Ej 2 BM (B3.new B5) W.p W.n W.c ls):VB σ τ' B' w' j' e' (gs++[((ls,W),[])]) UZ:=by
 have hn:∀a,W.p=some a→τ a.block=none:=fun a ha=>by
  obtain⟨_,ds,hro,_⟩:=hW;cases hh:(B3.new B5) a.block with
  | none=>exact absurd hh (hro.block a ha)
  | some u=>exact Ae (h.gk.ext.trans h3) (AQ.1 hh).1
 refine⟨hk,h.base.trans hx,fun u hu=>?_,?_⟩
 ·rcases AW8.1 hu with hu|hu
  ·exact h.w0 u hu
  ·rw[AWs]at hu;subst hu;exact fun a ha=>Ae h.base (hn a ha)
 ·rw[AXG];refine List.pairwise_append.2 ⟨h.wd,AY2 ..,fun x hx y hy a a' ha Hb e=>?_⟩;obtain⟨g,hg,rfl⟩:=AXB.1 hx;rw[AXu,AWs]at hy;subst hy;obtain⟨_,ds,hro,_⟩:=h.tN hg;exact hro.block a ha (by rw[e];exact hn a' Hb)
theorem Gk.more {γ β:Type}{s:Nat}{E:List Value→β→Prop}{L:Hp→Option Addr→Nat→Nat→γ→Prop}[GM L]{gs:List (tM γ β)}{N:Hp}(h:Gk L s E τ B w j e gs qs)(hx:Ext τ N)(hd:vJ N (B.minus τ)):Gk L s E N (N.or (B.minus τ)) w j e gs qs:=by
 have hB:Ext B (N.or (B.minus τ)):=fun k u hk=>by
  cases ht:τ k with
  | some v=>
   have:=h.ext _ _ ht;rw[hk]at this;cases this;exact Hp.U2 (hx _ _ ht)
  | none=>
   have hm:=Hp.Gg.2 ⟨ht,hk⟩;rw[Hp.Mh (hd k (by rw[hm];simp))];exact hm
 have nn:∀k,B k≠none→τ k=none→N k=none:=fun k hk ht=>by
  cases hh:B k with
  | none=>exact absurd hh hk
  | some u=>exact hd k (by rw[Hp.Gg.2 ⟨ht,hh⟩];simp)
 refine⟨h.len,let ⟨cs,h1,h2⟩:=h.own;⟨cs,h1.mono hB,h2.mono GIn.mono hx⟩,fun i q g hq hg=>(h.bX i q g hq hg).mono hB,fun i q hq a ha=>?_,h.nd,fun a ha=>?_,Ext.U2 _ _⟩
 ·obtain⟨g1,g2⟩:=h.sep i q hq a ha;have Am:i<gs.length:=by rw[←h.len];exact(AWk.1 hq).1
  exact⟨nn _ ((h.bX i q _ hq (AWm Am)).known a ha) g1,g2⟩
 ·obtain⟨cs,h1,_⟩:=h.own;exact nn _ (h1.block a ha) (h.op a ha)
end
end TwW
end
