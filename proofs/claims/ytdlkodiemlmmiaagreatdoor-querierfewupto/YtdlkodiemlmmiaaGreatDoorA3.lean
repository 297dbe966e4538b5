/-
  Part 3 of the proof that the law QuerierFewUptoCardSaid of the given program answers true for every input of the given statement; the input reads behind the call as it did. (The texts: packed from 13 texts. Names are shortened by the packing program, for the bound on size.)
-/
import Derived.Test.YtdlkodiemlmmiaaGreatDoorA2
import Derived.ProofKit
import Derived.SizedLaws
import Derived.Deep.Slices
import Derived.Laws.BytesArg
import Derived.Laws.Bits64b
import Derived.Laws.IdiomStrings
import Derived.Lib.Bytealg
import Derived.Lib.Split
import Derived.Lib.Index
set_option linter.all false
section
set_option maxRecDepth 100000
noncomputable section
namespace TwW
open Go Tw Go.Proofs.Tryz
variable [Ez]{R:Rr}{σ:Hp}

namespace Co
variable {p0 p1:Option Addr}{n0 c0 n1 c1:Nat}{x5:Int}
def M:Fw:=⟨prog,17,f17,[48,49],[],false,[],[],[(464,[(0,wL),(1,wL),(5,wI)])]⟩
def ok:M.Ok:=⟨.cons call48 (.cons call49 (AG.nil)),mixed,func17,by kernel_rfl⟩
def EE:=M.pt 0
def start (h:Br ((n0:Int)≠(n1:Int)) (R (.B false) σ) (EE R p0 n0 c0 p1 n1 c1 0 σ)):Spec prog 17 #[.slice p0 n0 c0,.slice p1 n1 c1] σ R:=M.start h ok
def C4 (h:Br (x5<(n0:Int)) (Pq p0 fun F3 Wr=>In x5 (n0:Int)∧LS σ F3 (Wr+x5.toNat*2) fun P1 n21 NM=>Pq p1 fun Wp bE=>In x5 (n1:Int)∧LS σ Wp (bE+x5.toNat*2) fun qp n26 qq=>AH 48 #[.slice P1 n21 NM,.slice qp n26 qq] σ R (CB fun t27 y=>Bn t27 (R (.B false) y) (In x5 (n0:Int)∧LS y F3 ((Wr+x5.toNat*2)+1) fun p34 n34 c34=>In x5 (n1:Int)∧LS y Wp ((bE+x5.toNat*2)+1) fun p39 n39 c39=>AH 49 #[.slice p34 n34 c34,.slice p39 n39 c39] y R (CB fun t40 AE=>Bn t40 (R (.B false) AE) (AK (x5+1)∧EE R (aD F3 Wr) n0 c0 (aD Wp bE) n1 c1 (x5+1) AE))))) (R (.B true) σ)):EE R p0 n0 c0 p1 n1 c1 x5 σ:=M.of h ok rfl
end Co
namespace dg
variable {x0:Int}
def M:Fw:=⟨prog,18,f18,[],[],false,[],[],[]⟩
def ok:M.Ok:=⟨AG.nil,mixed,func18,by kernel_rfl⟩
def start (h:Df (Go.bits .and .i64 x0 9223372036854775807) fun x4=>R (.returned (.I x4)) σ):Spec prog 18 #[.I x0] σ R:=M.start h ok
end dg
namespace Cz
noncomputable def K0:=f33.body.getD .skip
def K1:=cl K0
def K2:=cr K0
def K3:=cl K2
def K4:=cr K2
def K5:=cl K4
def K6:=cr K4
def K7:=cl K6
def K8:=cl K7
def K9:=cr K7
def ky:=cl K9
def xk:=cl ky
def yu:=cr ky
def K13:=cl yu
def K14:=cr K6
def K15:=cl K14
def K16:=cr K14
abbrev gl (R:Rr):Gl:=Gl.fn prog 33 32 R
def CM (R:Rr)(l:Nat)(r0:Loop)(b6:Nat)(EG:Int)(σ:Hp):Prop:=∀(J:Env),At (Gl.round prog 33 32 l R) [.code xk,.beginRound,.code yu] (Kc J [(6,(.pointer (some ⟨b6,0,none⟩))),(22,(.I EG))]) [] σ
def start {R:Rr}{q0:Option Addr}{σ:Hp}(h:∃(Cs Kr:Nat),q0=some ⟨Cs,Kr,none⟩∧∃WW:Option Addr,∃n12:Nat,∃UO:Nat,Hp.ld σ ⟨Cs,Kr,none⟩=some (.slice WW n12 UO)∧AH 66 #[(.slice WW n12 UO)] σ R (fun v σ1=>∃G7:Int,∃jD:Int,v=(.tuple #[(.I G7),(.I jD)])∧∃Bk:Int,Hp.ld σ1 ⟨Cs,(Kr+1),none⟩=some (.I Bk)∧∀b6:Nat,σ1 b6=none→AI prog (Instr.storeAt 2 (.pointer (some ⟨b6,0,none⟩)) (.I Bk)) (Hp.set σ1 b6 (.cells #[(.I 0)] 2 (0,0))) (fun _ Bp=>∀(cw RC:Nat) (Jn:Loop),cw≠RC→Bp cw=none→Bp RC=none→(∀(R2:Rr) (σ2:Hp) (zN:Int),σ2 RC=some (.loop (lp Jn .ready none))→CM R2 RC Jn b6 zN σ2→IA prog RC #[(.I zN)] σ2 R2)→Spec prog 67 #[(.pointer (some ⟨Cs,Kr,none⟩)),.func (.yield RC) #[] #[]] (Hp.set (Hp.set Bp cw (.deferred (some []))) RC (.loop (lp Jn .ready none))) (fun en DK=>∃(v:Value) (s:LoopState) (p:Option Code),en=.returned v∧DK RC=some (.loop (lp Jn s p))∧s≠.busy∧((p=none∧∃Hv:Int,Hp.ld (Hp.set DK RC (.loop (lp Jn .exhausted none))) ⟨Cs,(Kr+1),none⟩=some (.I Hv)∧AK (Hv-G7)∧∃nh:Int,Hp.ld (Hp.set DK RC (.loop (lp Jn .exhausted none))) ⟨b6,0,none⟩=some (.I nh)∧(Hp.set DK RC (.loop (lp Jn .exhausted none))) cw=some (.deferred (some []))∧R (.T #[(.I (if((Hv-G7):Int)<(-1099511627776) then(-1099511627776) else(Hv-G7))),(.I nh)]) (Hp.set (Hp.set DK RC (.loop (lp Jn .exhausted none))) cw (.deferred none)))))))):Spec prog 33 #[(.pointer q0)] σ R:=by
 refine Spec.Ti (fn:=f33) (c:=K0) func33 (by kernel_rfl) (AcS (by kernel_rfl)) (fun e he=>?_);refine At.ofL (l:=[(0,(.pointer q0))]) ⟨he 0,trivial⟩ (fun J=>?_);show At (gl R) _ _ _ _
 refine At.s K1 K2 ?_;refine At.rg 0 [0,1] ?_;refine Seq.us [(2,.I 0),(3,.I 0)] (Seq.done ?_);refine At.s K3 K4 ?_;refine At.rg 1 [0,1,2,3,4,5,6,7,8,9] ?_;refine Seq.u 9 (.pointer q0) ?_;obtain⟨Cs,Kr,hq,h⟩:=h;subst hq;refine Seq.z 10 (.nilCheck (.tmp 9)) 0 (.pointer (some ⟨Cs,Kr,none⟩)) (Y.nilCheck rfl) ?_;refine Seq.z 11 (.fieldAddr 72 (.tmp 10) 0) 0 (.pointer (some ⟨Cs,Kr,none⟩)) (Y.fieldAddr (fd:=(H7 prog 72 0)) underlying72 (by kernel_rfl) sizeOf32 rfl rfl) ?_;obtain⟨WW,n12,UO,hl,h⟩:=h;refine Seq.z 12 (.load 32 (.tmp 11)) 32 (.slice WW n12 UO) (Y.ld isAgg32 rfl hl) ?_;refine Seq.o ?_;refine AQ.cl (some 13) call66 (h.cont fun v σ1 h2=>?_);replace h:=h2;clear h2;obtain⟨G7,jD,rfl,h⟩:=h;refine Seq.us [(8,.tuple #[(.I G7),(.I jD)]),(14,.I G7),(15,.I jD),(4,.I G7),(5,.I jD)] (Seq.done ?_);refine At.s K5 K6 ?_;refine At.rg 2 [0,1,2,3,4,5] ?_;refine Seq.u 16 (.pointer (some ⟨Cs,Kr,none⟩)) ?_;refine Seq.z 17 (.nilCheck (.tmp 16)) 0 (.pointer (some ⟨Cs,Kr,none⟩)) (Y.nilCheck rfl) ?_;refine Seq.z 18 (.fieldAddr 72 (.tmp 17) 1) 0 (.pointer (some ⟨Cs,(Kr+1),none⟩)) (Y.fieldAddr (fd:=(H7 prog 72 1)) underlying72 (by kernel_rfl) sizeOf2 rfl rfl) ?_;obtain⟨Bk,hl,h⟩:=h;refine Seq.z 19 (.load 2 (.tmp 18)) 2 (.I Bk) (Y.ld isAgg2 rfl hl) ?_;refine Seq.o ?_;refine AQ.YH (T:=2) (d:=(some 6)) (ty:=0)  (gd:=none) (cs:=#[(.I 0)]) (by kernel_rfl) rfl rfl zeroValue2 rfl (fun b6 hn=>?_)
 replace h:=h b6 hn
 refine Seq.o ?_;refine AQ.store (T:=2) (ty:=0) (x:=(.tmp 6)) (y:=(.tmp 19)) (p:=(.pointer (some ⟨b6,0,none⟩))) (v:=(.I Bk)) (gd:=none) (by kernel_rfl) rfl rfl rfl (h.mono (fun _ Bp h2=>?_));replace h:=h2;clear h2;refine Seq.done ?_;refine At.s K7 K14 (At.s K8 K9 ?_);refine At.rg 3 [0,1] ?_;refine Seq.u 20 (.pointer (some ⟨Cs,Kr,none⟩)) ?_;refine Seq.z 21 (.makeFunc (.func 67) #[(.tmp 20)] #[]) 142 (.func (.func 67) #[(.pointer (some ⟨Cs,Kr,none⟩))] #[]) (Y.makeFunc rfl rfl) (Seq.done ?_);refine At.b 0 ky ?_;refine At.rY (gop:=(.tmp 21)) (ps:=#[22]) (assign:=xk) (body:=yu) (gf:=67) (fst:=#[(.pointer (some ⟨Cs,Kr,none⟩))]) (lb:=#[]) (by kernel_rfl) rfl rfl rfl call67 (fun cw RC Jn hDl hD hl hrf cz hra hrb hrs hre=>?_);refine(h cw RC Jn hDl hD hl (fun R2 σ2 zN AER hp=>IA.Ti (n:=32) AER cz hrs (by decide) hre (fn:=f33) (by rw[hrf];exact func33) ?_)).mono (fun en DK h=>?_)
 ·rw[hrf,hra,hrb];exact At.v [(6,(.pointer (some ⟨b6,0,none⟩))),(22,(.I zN))] (hp _)
 obtain⟨v,s,p,he,rZ,hs,h⟩:=h;refine⟨v,s,p,he,rZ,hs,?_⟩;obtain⟨rfl,h⟩:=h;show At (Gl.behind prog 33 32 cw R) [.inBlock 0,.code K14] _ _ _
 refine At.inBlock ?_;refine At.s K15 K16 ?_;refine At.draw (id:=6) (ops:=cO K15) (n:=10) (q:=none) (plan:=[(0,true),(1,true),(2,true),(3,true),(4,true),(5,true),(6,true),(7,true),(8,true),(9,true)]) (tl:=[]) mixed (by kernel_rfl) (by kernel_rfl) ?_;refine Head.u 24 (.pointer (some ⟨Cs,Kr,none⟩)) ?_;refine Head.z 25 (.nilCheck (.tmp 24)) 0 (.pointer (some ⟨Cs,Kr,none⟩)) (Y.nilCheck rfl) ?_;refine Head.z 26 (.fieldAddr 72 (.tmp 25) 1) 0 (.pointer (some ⟨Cs,(Kr+1),none⟩)) (Y.fieldAddr (fd:=(H7 prog 72 1)) underlying72 (by kernel_rfl) sizeOf2 rfl rfl) ?_;obtain⟨Hv,hl,h⟩:=h;refine Head.z 27 (.load 2 (.tmp 26)) 2 (.I Hv) (Y.ld isAgg2 rfl hl) ?_;refine Head.u 28 (.I G7) ?_;obtain⟨hi,h⟩:=h;refine Head.z 29 (.binOp .sub 2 (.tmp 27) (.tmp 28) 2) 2 (.I (Hv-G7)) (Y.mo hi rfl rfl) ?_;refine Head.z 30 (.call { callee:=.builtin .max,args:=#[(.tmp 29),(.const (.I (-1099511627776)))],argTypes:=#[2,2] }) 2 (.I (if((Hv-G7):Int)<(-1099511627776) then(-1099511627776) else(Hv-G7))) (Y.max2 rfl rfl) ?_;obtain⟨nh,hl,h⟩:=h;refine Head.z 31 (.load 2 (.tmp 6)) 2 (.I nh) (Y.ld isAgg2 rfl hl) ?_;refine Head.u 2 (.I (if((Hv-G7):Int)<(-1099511627776) then(-1099511627776) else(Hv-G7))) ?_;refine Head.u 3 (.I nh) ?_;refine Head.done ?_;refine Seq.done ?_;obtain⟨hmk,h⟩:=h;exact At.YI (rs:=[.tmp 2,.tmp 3]) (vs:=[(.I (if((Hv-G7):Int)<(-1099511627776) then(-1099511627776) else(Hv-G7))),(.I nh)]) (by kernel_rfl) func33 (by kernel_rfl) ⟨_,rfl,⟨_,rfl,rfl⟩⟩ h rfl (rW hmk)
def BE {R:Rr}{l b6:Nat}{r0:Loop}{EG:Int}{σ:Hp}(h:σ l=some (.loop (lp r0 .ready none))∧AI prog (Instr.storeAt 2 (.pointer (some ⟨b6,0,none⟩)) (.I EG)) (Hp.set σ l (.loop (lp r0 .busy none))) (fun _ σ1=>σ1 l=some (.loop (lp r0 .busy none))∧R (.B true) (Hp.set σ1 l (.loop (lp r0 .ready none))))):CM R l r0 b6 EG σ:=by
 intro J;show At (Gl.round prog 33 32 l R) _ _ _ _
 refine At.rg 4 [0] ?_;refine Seq.u 7 (.I EG) (Seq.done ?_);obtain⟨kM,h⟩:=h;refine At.beginRound rfl kM ?_;refine At.b 1 K13 ?_;refine At.rg 5 [0,1] ?_;refine Seq.u 23 (.I EG) ?_;refine Seq.o ?_;refine AQ.store (T:=2) (ty:=0) (x:=(.tmp 6)) (y:=(.tmp 23)) (p:=(.pointer (some ⟨b6,0,none⟩))) (v:=(.I EG)) (gd:=none) (by kernel_rfl) rfl rfl rfl (h.mono (fun _ σ1 h2=>?_));replace h:=h2;clear h2;refine Seq.done ?_;refine At.inBlock ?_;exact At.Pr rfl h.1 h.2
end Cz
namespace SI
variable {p0:Option Addr}{n0 c0:Nat}
def M:Fw:=⟨prog,35,f35,[],[],false,[],[],[]⟩
def ok:M.Ok:=⟨AG.nil,mixed,func35,by kernel_rfl⟩
def start (h:Al σ fun b1=>R (.returned (.func (.func 68) #[] #[(.pointer (aD b1 0))])) (Hp.set σ b1 (.cells #[.slice p0 n0 c0] 92 (0,0)))):Spec prog 35 #[.slice p0 n0 c0] σ R:=M.start h ok
end SI
namespace GA
variable {Cg Ck qk yo dC dD x10 x11:Int}{lF p2c sf p9:Option Addr}{bF lG n2c c2c qo sg n9 c9:Nat}
def M:Fw:=⟨prog,42,f42,[],[1,2,3,5],false,[],[],[(488,[(2,.X 43 [.I .u64,.I .i64,.L]),(3,.X 43 [.I .u64,.I .i64,.L]),(9,wL),(10,wI),(11,wI)])]⟩
def ok:M.Ok:=⟨AG.nil,mixed,func42,by kernel_rfl⟩
def DB:=M.pt 0
def start (h:∀b1:Nat,∀b2:Nat,∀b3:Nat,DB R 0 0 none 0 0 Cg Ck none 0 0 lF bF lG (bF:Int) 0 σ):Spec prog 42 #[.agg #[.U Cg,.I Ck,.slice lF bF lG]] σ R:=M.start h ok
def BX (h:Br (x11<x10) (Pq p9 fun Gn Sk=>In x11 (n9:Int)∧∃Fz RH AKT nj AKU AKV AKW AKX AKY AKZ AKa,Am σ Gn (Sk+x11.toNat*9) [.U Fz,.I RH,.I AKT,.I nj,.slice AKU AKV AKW,.I AKX,.I AKY,.bool AKZ,.I AKa]∧∀b5:Nat,Al σ fun TN=>AI prog (Builtin.append_ #[60,60] 60 #[(.slice (aD TN 0) 0 0),.slice AKU AKV AKW]) (Hp.set σ TN (.cells #[] 27 (0,0))) (CS fun sU n19 sV y=>Al y fun PN=>AI prog (GO 41 sf qo sg PN) (Hp.set y PN (.cells #[.U Fz,.I RH,.I AKT,.I nj,.slice sU n19 sV,.I AKX,.I AKY,.bool AKZ,.I AKa] 91 (0,0))) (CS fun qp n26 qq AE=>AK (x11+1)∧DB R qk yo p2c n2c c2c dC dD qp n26 qq (aD Gn Sk) n9 c9 x10 (x11+1) AE))) (R (.returned (.agg #[.U dC,.I dD,.slice sf qo sg])) σ)):DB R qk yo p2c n2c c2c dC dD sf qo sg p9 n9 c9 x10 x11 σ:=M.iW h ok rfl fun _ _=>by kernel_rfl
end GA
namespace Xd
variable {x0:Int}
def M:Fw:=⟨prog,45,f45,[],[],false,[],[],[]⟩
def ok:M.Ok:=⟨AG.nil,mixed,func45,by kernel_rfl⟩
def start (h:Br (((-1099511627776):Int)≤x0) (R (.returned (.bool (decide (x0≤1099511627776)))) σ) (R (.B false) σ)):Spec prog 45 #[.I x0] σ R:=M.start h ok
end Xd
namespace Ga
variable {p0 p1 FY Fb:Option Addr}{n0 c0 n1 c1 FZ Fa Fc Fe:Nat}{x2 EW Em x9:Int}
def M:Fw:=⟨prog,46,f46,[79],[8],false,[],[],[(30,[(8,.X 164 [.I .i64,.I .u64,.L,.L]),(9,wI)])]⟩
def ok:M.Ok:=⟨.cons call79 (AG.nil),mixed,func46,by kernel_rfl⟩
def CM:=M.pt 0
def start (h:Al σ fun HH=>AH 79 #[(.pointer (aD HH 0)),.slice p0 n0 c0] (Hp.set σ HH (.cells #[.slice p1 n1 c1,.I x2] 168 (0,0))) R (fun z y=>∃lM lN AB8 AB9 ACA tL tM tN oF,z=(.tuple #[.agg #[.I lM,.U lN,.slice AB8 AB9 ACA,.slice tL tM tN],.I oF])∧∀b8:Nat,Br (lM=1) (Al y fun PN=>CM R lM lN (aD PN 0) 1 1 tL tM tN oF (Hp.set y PN (.cells #[.N,.U lN] 109 (0,0)))) (CM R lM lN AB8 AB9 ACA tL tM tN oF y))):Spec prog 46 #[.slice p0 n0 c0,.slice p1 n1 c1,.I x2] σ R:=M.start h ok
def BE (h:R (.T #[.slice FY FZ Fa,.I x9]) σ):CM R EW Em FY FZ Fa Fb Fc Fe x9 σ:=M.Ya h ok rfl fun _=>by kernel_rfl
end Ga
namespace Bf
variable {p0:Option Addr}{n0 c0:Nat}{x3:Int}
def M:Fw:=⟨prog,56,f56,[],[],false,[(4,10,true)],[],[(208,[(0,wL),(3,wI)])]⟩
def ok:M.Ok:=⟨AG.nil,mixed,func56,by kernel_rfl⟩
def E3:=M.pt 0
def start (h:E3 R p0 n0 c0 1 σ):Spec prog 56 #[.slice p0 n0 c0] σ R:=M.start h ok
def A2 (h:Br (x3<(n0:Int)) (Pq p0 fun F6 IH=>In x3 (n0:Int)∧LI .u32 σ F6 (IH+x3.toNat*1) fun E2=>AK (x3-1)∧In (x3-1) (n0:Int)∧LI .u32 σ F6 (IH+Int.toNat (x3-1)*1) fun KS=>Br (E2≤KS) (R (.B false) σ) (AK (x3+1)∧E3 R (aD F6 IH) n0 c0 (x3+1) σ)) (R (.B true) σ)):E3 R p0 n0 c0 x3 σ:=M.of h ok rfl
end Bf
namespace Ea
variable {v0:Value}{x1:Int}
def M:Fw:=⟨prog,71,f71,[102,103],[],false,[],[],[]⟩
def ok:M.Ok:=⟨.cons call102 (.cons call103 (AG.nil)),mixed,func71,by kernel_rfl⟩
def start (h:MC prog v0 sC #[] σ (AZ R (CI .i64 fun x7 y=>AH 103 #[v0,.I x1,.I x7] y R (CB fun t8 AE=>Bn t8 (AH 102 #[v0,.I x1] AE R (fun z AJ=>z=(.tuple #[])∧R (.T #[]) AJ)) (R (.T #[]) AE))))):Spec prog 71 #[v0,.I x1] σ R:=M.CL h ok [(0,.o (.V v0)),(1,.o (.I .i64 x1))] rfl rfl (by kernel_rfl)
end Ea
namespace DM
variable {p0 p9 sT:Option Addr}{n0 c0 n9 c9 n18 ql:Nat}{x1 x2 Bk Ms:Int}
def M:Fw:=⟨prog,77,f77,[19,105],[11],false,[],[],[(488,[(1,wI),(2,wI),(9,wL),(18,wL),(19,wI),(20,wI)]),(1959,[(1,wI),(2,wI),(9,wL),(18,wL),(19,wI),(20,wI)])]⟩
def ok:M.Ok:=⟨.cons call19 (.cons call105 (AG.nil)),mixed,func77,by kernel_rfl⟩
def Kj:=M.pt 0
def Yo:=M.pt 1
def start (h:AH 19 #[.slice p0 n0 c0] σ R (CI .i64 fun Jl y=>Br (Jl≠0) (R (.T #[.N,.I Jl]) y) (Kj R x1 x2 none 0 0 p0 n0 c0 (n0:Int) 0 y))):Spec prog 77 #[.slice p0 n0 c0,.I x1,.I x2] σ R:=M.start h ok
def ER (h:Br (Ms<Bk) (Pq sT fun Yf o22=>In Ms (n18:Int)∧∃oG oH oI AKb AKc AKd,Am σ Yf (o22+Ms.toNat*2) [.slice oG oH oI,.slice AKb AKc AKd]∧∀D5:Nat,AH 105 #[.slice AKb AKc AKd,.I x1,.I x2] σ R (CS fun p28 n28 c28 y=>Br (0<(n28:Int)) (Al y fun Sl=>AI prog (Builtin.append_ #[95,95] 95 #[(.slice (aD Sl 0) 0 0),.slice oG oH oI]) (Hp.set y Sl (.cells #[] 144 (0,0))) (CS fun p36 n36 c36 AE=>Al AE fun lO=>AI prog (GO 22 p9 n9 c9 lO) (Hp.set AE lO (.cells #[.slice p36 n36 c36,.slice p28 n28 c28] 98 (0,0))) (CS fun zO n40 zP AJ=>Yo R x1 x2 zO n40 zP (aD Yf o22) n18 ql Bk Ms AJ))) (Yo R x1 x2 p9 n9 c9 (aD Yf o22) n18 ql Bk Ms y))) (R (.T #[.slice p9 n9 c9,.I 0]) σ)):Kj R x1 x2 p9 n9 c9 sT n18 ql Bk Ms σ:=M.of h ok rfl
def P0 (h:AK (Ms+1)∧Kj R x1 x2 p9 n9 c9 sT n18 ql Bk (Ms+1) σ):Yo R x1 x2 p9 n9 c9 sT n18 ql Bk Ms σ:=M.of h ok rfl
end DM
namespace Uc
variable {Cg Ck Sv NL Hq KT:Int}{Sx:ByteArray}{Xb UU:Option Addr}{Wq Xc TP UW:Nat}{PM:Bool}
def M:Fw:=⟨prog,85,f85,[62,112,113,114,115,116],[1],false,[],[],[]⟩
def ok:M.Ok:=⟨.cons call62 (.cons call112 (.cons call113 (.cons call114 (.cons call115 (.cons call116 (AG.nil)))))),mixed,func85,by kernel_rfl⟩
def start (h:∀b1:Nat,AH 113 #[.agg #[.I Cg,.I Ck,.string Sx,.slice Xb Wq Xc,.I Sv,.I NL,.I Hq,.slice UU TP UW,.bool PM,.I KT]] σ R (fun z y=>∃Jr H3 Js Jt Ju Jv Jw Jx Jy Jz J0 J1 LY J2,z=(.agg #[.I Jr,.I H3,.string Js,.slice Jt Ju Jv,.I Jw,.I Jx,.I Jy,.slice Jz J0 J1,.bool LY,.I J2])∧AH 112 #[.agg #[.I Cg,.I Ck,.string Sx,.slice Xb Wq Xc,.I Sv,.I NL,.I Hq,.slice UU TP UW,.bool PM,.I KT],.agg #[.I Jr,.I H3,.string Js,.slice Jt Ju Jv,.I Jw,.I Jx,.I Jy,.slice Jz J0 J1,.bool LY,.I J2]] y R (CB fun t6 AE=>Bn t6 (R (.B false) AE) (AH 114 #[.agg #[.I Cg,.I Ck,.string Sx,.slice Xb Wq Xc,.I Sv,.I NL,.I Hq,.slice UU TP UW,.bool PM,.I KT]] AE R (CB fun t10 AJ=>Bn t10 (R (.B false) AJ) (Br (0<(Wq:Int)) (Br (Cg≠2) (Br (Cg≠3) (R (.B false) AJ) (Br (Cg=1) (AH 62 #[.string Sx] AJ R (CB fun t35 Ah=>R (.B t35) Ah)) (Br (Cg=2) (AH 115 #[.I NL,.I 0] AJ R (CB fun t40 Ah=>R (.B t40) Ah)) (Br (Cg=3) (AH 115 #[.I Sv,.I 1] AJ R (CB fun t45 Ah=>Bo t45 (AH 115 #[.I NL,.I 0] Ah R (CB fun t49 CF=>R (.B t49) CF)) (R (.B false) Ah))) (Br (Cg=4) (Br (KT=1) (Br (1≤Ck) (R (.returned (.bool (decide (Ck≤12)))) AJ) (R (.B false) AJ)) (R (.B false) AJ)) (Br (Cg=5) (Br (KT=1) (Br (1≤Ck) (Br (Ck≤5) (Br (Hq=0) (R (.B true) AJ) (Br (Hq=1) (R (.B true) AJ) (R (.returned (.bool (decide (Hq=2)))) AJ))) (R (.B false) AJ)) (R (.B false) AJ)) (R (.B false) AJ)) (Br (Cg=6) (Br (KT=2) (Br (1≤Ck) (Br (Ck≤13) (Br (Hq=0) (Bn PM (R (.B true) AJ) (AH 116 #[.I Ck] AJ R (CB fun t133 Ah=>R (.B t133) Ah))) (Br (Hq=3) (Bn PM (R (.B true) AJ) (AH 116 #[.I Ck] AJ R (CB fun t133 Ah=>R (.B t133) Ah))) (Br (Hq=4) (Bn PM (R (.B true) AJ) (AH 116 #[.I Ck] AJ R (CB fun t133 Ah=>R (.B t133) Ah))) (R (.B false) AJ)))) (R (.B false) AJ)) (R (.B false) AJ)) (R (.B false) AJ)) (Br (Cg=7) (R (.returned (.bool (decide (KT=1)))) AJ) (R (.B false) AJ))))))))) (Br (Cg=1) (AH 62 #[.string Sx] AJ R (CB fun t35 Ah=>R (.B t35) Ah)) (Br (Cg=2) (AH 115 #[.I NL,.I 0] AJ R (CB fun t40 Ah=>R (.B t40) Ah)) (Br (Cg=3) (AH 115 #[.I Sv,.I 1] AJ R (CB fun t45 Ah=>Bo t45 (AH 115 #[.I NL,.I 0] Ah R (CB fun t49 CF=>R (.B t49) CF)) (R (.B false) Ah))) (Br (Cg=4) (Br (KT=1) (Br (1≤Ck) (R (.returned (.bool (decide (Ck≤12)))) AJ) (R (.B false) AJ)) (R (.B false) AJ)) (Br (Cg=5) (Br (KT=1) (Br (1≤Ck) (Br (Ck≤5) (Br (Hq=0) (R (.B true) AJ) (Br (Hq=1) (R (.B true) AJ) (R (.returned (.bool (decide (Hq=2)))) AJ))) (R (.B false) AJ)) (R (.B false) AJ)) (R (.B false) AJ)) (Br (Cg=6) (Br (KT=2) (Br (1≤Ck) (Br (Ck≤13) (Br (Hq=0) (Bn PM (R (.B true) AJ) (AH 116 #[.I Ck] AJ R (CB fun t133 Ah=>R (.B t133) Ah))) (Br (Hq=3) (Bn PM (R (.B true) AJ) (AH 116 #[.I Ck] AJ R (CB fun t133 Ah=>R (.B t133) Ah))) (Br (Hq=4) (Bn PM (R (.B true) AJ) (AH 116 #[.I Ck] AJ R (CB fun t133 Ah=>R (.B t133) Ah))) (R (.B false) AJ)))) (R (.B false) AJ)) (R (.B false) AJ)) (R (.B false) AJ)) (Br (Cg=7) (R (.returned (.bool (decide (KT=1)))) AJ) (R (.B false) AJ))))))))) (Br (Cg=1) (AH 62 #[.string Sx] AJ R (CB fun t35 Ah=>R (.B t35) Ah)) (Br (Cg=2) (AH 115 #[.I NL,.I 0] AJ R (CB fun t40 Ah=>R (.B t40) Ah)) (Br (Cg=3) (AH 115 #[.I Sv,.I 1] AJ R (CB fun t45 Ah=>Bo t45 (AH 115 #[.I NL,.I 0] Ah R (CB fun t49 CF=>R (.B t49) CF)) (R (.B false) Ah))) (Br (Cg=4) (Br (KT=1) (Br (1≤Ck) (R (.returned (.bool (decide (Ck≤12)))) AJ) (R (.B false) AJ)) (R (.B false) AJ)) (Br (Cg=5) (Br (KT=1) (Br (1≤Ck) (Br (Ck≤5) (Br (Hq=0) (R (.B true) AJ) (Br (Hq=1) (R (.B true) AJ) (R (.returned (.bool (decide (Hq=2)))) AJ))) (R (.B false) AJ)) (R (.B false) AJ)) (R (.B false) AJ)) (Br (Cg=6) (Br (KT=2) (Br (1≤Ck) (Br (Ck≤13) (Br (Hq=0) (Bn PM (R (.B true) AJ) (AH 116 #[.I Ck] AJ R (CB fun t133 Ah=>R (.B t133) Ah))) (Br (Hq=3) (Bn PM (R (.B true) AJ) (AH 116 #[.I Ck] AJ R (CB fun t133 Ah=>R (.B t133) Ah))) (Br (Hq=4) (Bn PM (R (.B true) AJ) (AH 116 #[.I Ck] AJ R (CB fun t133 Ah=>R (.B t133) Ah))) (R (.B false) AJ)))) (R (.B false) AJ)) (R (.B false) AJ)) (R (.B false) AJ)) (Br (Cg=7) (R (.returned (.bool (decide (KT=1)))) AJ) (R (.B false) AJ)))))))))))))):Spec prog 85 #[.agg #[.I Cg,.I Ck,.string Sx,.slice Xb Wq Xc,.I Sv,.I NL,.I Hq,.slice UU TP UW,.bool PM,.I KT]] σ R:=M.start h ok
end Uc
namespace FN
variable {q0 Du EB p2:Option Addr}{CA Ba Dl DA Cf Cj:Int}{Dm:ByteArray}{Dx Dy Dz EC n2 c2:Nat}{DI:Bool}
def M:Fw:=⟨prog,90,f90,[116,120],[4],false,[(1,10,true)],[],[]⟩
def ok:M.Ok:=⟨.cons call116 (.cons call120 (AG.nil)),mixed,func90,by kernel_rfl⟩
def start (h:∀b4:Nat,Pq p2 fun Gn Sk=>In 0 (n2:Int)∧LI .i64 σ Gn Sk fun x15=>In 1 (n2:Int)∧LI .i64 σ Gn (Sk+1) fun Bk=>Br (x15=2) (Br (x15=1) (Br (x15=3) (R (.T #[.I 0,.I 192]) σ) (Br (Bk=3) (R (.T #[.I 0,.I 192]) σ) (AH 120 #[.I Ba] σ R (CB fun t41 y=>Bo t41 (Bm (Bk=2) (R (.T #[.I 0,.I 192]) y) (Br (Bk=1) (AH 116 #[.I Ba] y R (CB fun t57 AE=>Bo t57 (Bn DI (R (.T #[.I 0,.I 192]) AE) (R (.T #[(.I (if x15<Bk then Bk else x15)),.I 0]) AE)) (R (.T #[(.I (if x15<Bk then Bk else x15)),.I 0]) AE))) (R (.T #[(.I (if x15<Bk then Bk else x15)),.I 0]) y))) (Br (Cf≠0) (Bm (Bk=2) (R (.T #[.I 0,.I 192]) y) (Br (Bk=1) (AH 116 #[.I Ba] y R (CB fun t57 AE=>Bo t57 (Bn DI (R (.T #[.I 0,.I 192]) AE) (R (.T #[(.I (if x15<Bk then Bk else x15)),.I 0]) AE)) (R (.T #[(.I (if x15<Bk then Bk else x15)),.I 0]) AE))) (R (.T #[(.I (if x15<Bk then Bk else x15)),.I 0]) y))) (Br (Bk=1) (AH 116 #[.I Ba] y R (CB fun t57 AE=>Bo t57 (Bn DI (R (.T #[.I 0,.I 192]) AE) (R (.T #[(.I (if x15<Bk then Bk else x15)),.I 0]) AE)) (R (.T #[(.I (if x15<Bk then Bk else x15)),.I 0]) AE))) (R (.T #[(.I (if x15<Bk then Bk else x15)),.I 0]) y))))))) (Br (x15=3) (R (.T #[.I 0,.I 192]) σ) (Br (Bk=3) (R (.T #[.I 0,.I 192]) σ) (AH 120 #[.I Ba] σ R (CB fun t41 y=>Bo t41 (Bm (Bk=2) (R (.T #[.I 0,.I 192]) y) (R (.T #[(.I (if x15<Bk then Bk else x15)),.I 0]) y)) (Br (Cf≠0) (Bm (Bk=2) (R (.T #[.I 0,.I 192]) y) (R (.T #[(.I (if x15<Bk then Bk else x15)),.I 0]) y)) (R (.T #[(.I (if x15<Bk then Bk else x15)),.I 0]) y))))))) (Br (x15=1) (Br (x15=3) (R (.T #[.I 0,.I 192]) σ) (Br (Bk=3) (R (.T #[.I 0,.I 192]) σ) (AH 120 #[.I Ba] σ R (CB fun t41 y=>Bo t41 (R (.T #[.I 0,.I 192]) y) (Br (Cf≠0) (R (.T #[.I 0,.I 192]) y) (Br (Bk=1) (AH 116 #[.I Ba] y R (CB fun t57 AE=>Bo t57 (Bn DI (R (.T #[.I 0,.I 192]) AE) (R (.T #[(.I (if x15<Bk then Bk else x15)),.I 0]) AE)) (R (.T #[(.I (if x15<Bk then Bk else x15)),.I 0]) AE))) (R (.T #[(.I (if x15<Bk then Bk else x15)),.I 0]) y))))))) (Br (x15=3) (R (.T #[.I 0,.I 192]) σ) (Br (Bk=3) (R (.T #[.I 0,.I 192]) σ) (AH 120 #[.I Ba] σ R (CB fun t41 y=>Bo t41 (R (.T #[.I 0,.I 192]) y) (Br (Cf≠0) (R (.T #[.I 0,.I 192]) y) (R (.T #[(.I (if x15<Bk then Bk else x15)),.I 0]) y)))))))):Spec prog 90 #[.pointer q0,.agg #[.I CA,.I Ba,.string Dm,.slice Du Dx Dy,.I Dl,.I DA,.I Cf,.slice EB Dz EC,.bool DI,.I Cj],.slice p2 n2 c2] σ R:=M.start h ok
end FN
namespace P4
variable {s0:ByteArray}
def M:Fw:=⟨prog,94,f94,[],[],false,[],[],[]⟩
def ok:M.Ok:=⟨AG.nil,mixed,func94,by kernel_rfl⟩
def start (h:Br ((1:Int)<(s0.size:Int)) (∃u8:UInt8,(0:Int)≤0∧(ByteArray.data s0)[Int.toNat 0]?=some u8∧R (.returned (.bool (decide (((u8.toNat:Int):Int)=48)))) σ) (R (.B false) σ)):Spec prog 94 #[.string s0] σ R:=M.start h ok
end P4
namespace Da
variable {p0 p7:Option Addr}{n0 c0 n7 c7:Nat}{s1:ByteArray}{x8 x9:Int}
def M:Fw:=⟨prog,95,f95,[],[],false,[],[],[(104,[(1,wT),(7,wL),(8,wI),(9,wI)])]⟩
def ok:M.Ok:=⟨AG.nil,mixed,func95,by kernel_rfl⟩
def Fv:=M.pt 0
def start (h:Fv R s1 p0 n0 c0 (n0:Int) 0 σ):Spec prog 95 #[.slice p0 n0 c0,.string s1] σ R:=M.start h ok
def As (h:Br (x9<x8) (Pq p7 fun F6 IH=>In x9 (n7:Int)∧LT σ F6 (IH+x9.toNat*1) fun s13=>Bo (ByteArray.toList s13==ByteArray.toList s1) (Bn ((ByteArray.toList s1==ByteArray.toList (ByteArray.mk #[]))) (R (.returned (.I x9)) σ) (AK (x9+1)∧Fv R s1 (aD F6 IH) n7 c7 x8 (x9+1) σ)) (AK (x9+1)∧Fv R s1 (aD F6 IH) n7 c7 x8 (x9+1) σ)) (R (.returned (.I 0)) σ)):Fv R s1 p7 n7 c7 x8 x9 σ:=M.of h ok rfl
end Da
namespace DN
variable {p0 p7 Pn:Option Addr}{n0 c0 n7 c7 n10 KO:Nat}{x1 x2 x11 x12:Int}
def M:Fw:=⟨prog,105,f105,[],[9],false,[],[],[(232,[(1,wI),(2,wI),(7,wL),(10,wL),(11,wI),(12,wI)]),(935,[(1,wI),(2,wI),(7,wL),(10,wL),(11,wI),(12,wI)])]⟩
def ok:M.Ok:=⟨AG.nil,mixed,func105,by kernel_rfl⟩
def Ap:=M.pt 0
def Hz:=M.pt 1
def start (h:Ap R x1 x2 none 0 0 p0 n0 c0 (n0:Int) 0 σ):Spec prog 105 #[.slice p0 n0 c0,.I x1,.I x2] σ R:=M.start h ok
def AR (h:Br (x12<x11) (Pq Pn fun HH JU=>In x12 (n10:Int)∧∃nz jA,Am σ HH (JU+x12.toNat*2) [.I nz,.U jA]∧∀b9:Nat,Br (x1≤nz) (Br (nz≤x2) (Al σ fun b28=>AI prog (GO 96 p7 n7 c7 b28) (Hp.set σ b28 (.cells #[.I nz,.U jA] 111 (0,0))) (CS fun p29 n29 c29 y=>Hz R x1 x2 p29 n29 c29 (aD HH JU) n10 KO x11 x12 y)) (Hz R x1 x2 p7 n7 c7 (aD HH JU) n10 KO x11 x12 σ)) (Hz R x1 x2 p7 n7 c7 (aD HH JU) n10 KO x11 x12 σ)) (R (.returned (.slice p7 n7 c7)) σ)):Ap R x1 x2 p7 n7 c7 Pn n10 KO x11 x12 σ:=M.of h ok rfl
def GH (h:AK (x12+1)∧Ap R x1 x2 p7 n7 c7 Pn n10 KO x11 (x12+1) σ):Hz R x1 x2 p7 n7 c7 Pn n10 KO x11 x12 σ:=M.of h ok rfl
end DN
namespace Db
variable {Cg Ck Sv NL Hq KT:Int}{Sx:ByteArray}{Xb UU p1:Option Addr}{Wq Xc TP UW n1 c1 b2:Nat}{PM:Bool}
def M:Fw:=⟨prog,119,f119,[],[3],false,[],[],[]⟩
def ok:M.Ok:=⟨AG.nil,mixed,func119,by kernel_rfl⟩
def start (h:∀b3:Nat,LI .i64 σ b2 0 fun x7=>R (.T #[.I x7,.I 0]) σ):Spec prog 119 #[.agg #[.I Cg,.I Ck,.string Sx,.slice Xb Wq Xc,.I Sv,.I NL,.I Hq,.slice UU TP UW,.bool PM,.I KT],.slice p1 n1 c1,(.pointer (aD b2 0))] σ R:=M.start h ok
end Db
namespace Dc
variable {q0:Option Addr}
def M:Fw:=⟨prog,123,f123,[63],[],false,[],[],[]⟩
def ok:M.Ok:=⟨.cons call63 (AG.nil),mixed,func123,by kernel_rfl⟩
def start (h:AH 63 #[.pointer q0,(.func (.func 139) #[.pointer q0] #[]),.I 1,.I 2] σ R (fun z y=>z=(.tuple #[])∧R (.T #[]) y)):Spec prog 123 #[.pointer q0] σ R:=M.start h ok
end Dc
namespace FO
variable {p0 p3 Pn:Option Addr}{n0 c0 n3 c3 n10 KO:Nat}{x11 x12:Int}
def M:Fw:=⟨prog,126,f126,[140,141],[5],false,[],[],[(232,[(3,wL),(10,wL),(11,wI),(12,wI)])]⟩
def ok:M.Ok:=⟨.cons call140 (.cons call141 (AG.nil)),mixed,func126,by kernel_rfl⟩
def Ap:=M.pt 0
def start (h:Df (IntKind.u64.wrap (n0:Int)) fun x8=>AH 140 #[.N,.U x8] σ R (CS fun p9 n9 c9 y=>Ap R p9 n9 c9 p0 n0 c0 (n0:Int) 0 y)):Spec prog 126 #[.slice p0 n0 c0] σ R:=M.start h ok
def AR (h:Br (x12<x11) (Pq Pn fun HH JU=>In x12 (n10:Int)∧∃AKf AKg,Am σ HH (JU+x12.toNat*2) [.string AKf,.string AKg]∧∀b5:Nat,AH 141 #[.slice p3 n3 c3,.string AKf] σ R (CS fun sU n19 sV y=>AH 141 #[.slice sU n19 sV,.string AKg] y R (CS fun tO n22 oJ AE=>AK (x12+1)∧Ap R tO n22 oJ (aD HH JU) n10 KO x11 (x12+1) AE))) (R (.returned (.slice p3 n3 c3)) σ)):Ap R p3 n3 c3 Pn n10 KO x11 x12 σ:=M.of h ok rfl
end FO
namespace B7
variable {q0 Du EB p2:Option Addr}{CA Ba Dl DA Cf Cj:Int}{Dm:ByteArray}{Dx Dy Dz EC n2 c2:Nat}{DI:Bool}
def M:Fw:=⟨prog,129,f129,[152],[4,6],false,[],[],[]⟩
def ok:M.Ok:=⟨.cons call152 (AG.nil),mixed,func129,by kernel_rfl⟩
def start (h:∀b4:Nat,∀b6:Nat,AH 152 #[.string Dm] σ R (fun z y=>∃G7 ARf,z=(.tuple #[.U G7,.bool ARf])∧R (.T #[.agg #[.I 1,.U G7,.N,.N],.I 0]) y)):Spec prog 129 #[.pointer q0,.agg #[.I CA,.I Ba,.string Dm,.slice Du Dx Dy,.I Dl,.I DA,.I Cf,.slice EB Dz EC,.bool DI,.I Cj],.slice p2 n2 c2] σ R:=M.start h ok
end B7
namespace DO
variable {q0 Du EB p2:Option Addr}{CA Ba Dl DA Cf Cj:Int}{Dm:ByteArray}{Dx Dy Dz EC n2 c2:Nat}{DI:Bool}
def M:Fw:=⟨prog,134,f134,[120,168,169,172,173],[6],false,[(1,9,false)],[],[]⟩
def ok:M.Ok:=⟨.cons call120 (.cons call168 (.cons call169 (.cons call172 (.cons call173 (AG.nil))))),mixed,func134,by kernel_rfl⟩
def start (h:Al σ fun b4=>∀b6:Nat,Pq p2 fun Gn Sk=>In 0 (n2:Int)∧∃Fz RH AEp AEq AEr AEs AEt AEu,Am (Hp.set σ b4 (.cells #[.I CA,.I Ba,.string Dm,.slice Du Dx Dy,.I Dl,.I DA,.I Cf,.slice EB Dz EC,.bool DI,.I Cj] 127 (0,0))) Gn Sk [.I Fz,.U RH,.slice AEp AEq AEr,.slice AEs AEt AEu]∧In 1 (n2:Int)∧∃RR dh AEv AEw AEx oK oL oM,Am (Hp.set σ b4 (.cells #[.I CA,.I Ba,.string Dm,.slice Du Dx Dy,.I Dl,.I DA,.I Cf,.slice EB Dz EC,.bool DI,.I Cj] 127 (0,0))) Gn (Sk+4) [.I RR,.U dh,.slice AEv AEw AEx,.slice oK oL oM]∧(Al (Hp.set σ b4 (.cells #[.I CA,.I Ba,.string Dm,.slice Du Dx Dy,.I Dl,.I DA,.I Cf,.slice EB Dz EC,.bool DI,.I Cj] 127 (0,0))) fun b8=>Al (Hp.set (Hp.set σ b4 (.cells #[.I CA,.I Ba,.string Dm,.slice Du Dx Dy,.I Dl,.I DA,.I Cf,.slice EB Dz EC,.bool DI,.I Cj] 127 (0,0))) b8 (.cells #[.I 0,.U 0,.N,.N] 164 (0,0))) fun b9=>AI prog (Instr.storeAt 164 (.pointer (aD b8 0)) (.agg #[.I Fz,.U RH,.slice AEp AEq AEr,.slice AEs AEt AEu])) (Hp.set (Hp.set (Hp.set σ b4 (.cells #[.I CA,.I Ba,.string Dm,.slice Du Dx Dy,.I Dl,.I DA,.I Cf,.slice EB Dz EC,.bool DI,.I Cj] 127 (0,0))) b8 (.cells #[.I 0,.U 0,.N,.N] 164 (0,0))) b9 (.cells #[.I 0,.U 0,.N,.N] 164 (0,0))) (fun _ y=>Kp [Gn] (Hp.set (Hp.set (Hp.set σ b4 (.cells #[.I CA,.I Ba,.string Dm,.slice Du Dx Dy,.I Dl,.I DA,.I Cf,.slice EB Dz EC,.bool DI,.I Cj] 127 (0,0))) b8 (.cells #[.I 0,.U 0,.N,.N] 164 (0,0))) b9 (.cells #[.I 0,.U 0,.N,.N] 164 (0,0))) y∧AI prog (Instr.storeAt 164 (.pointer (aD b9 0)) (.agg #[.I RR,.U dh,.slice AEv AEw AEx,.slice oK oL oM])) y (fun _ AE=>LI .i64 AE b8 0 fun Ms=>Br (Ms=1) (LI .i64 AE b9 0 fun KM=>Br (KM=1) (∃di Ua tP tQ tR tS tT tU tV tW tX tY tZ te,Am AE b4 0 [.I di,.I Ua,.string tP,.slice tQ tR tS,.I tT,.I tU,.I tV,.slice tW tX tY,.bool tZ,.I te]∧LI .u64 AE b8 1 fun Ks=>LI .u64 AE b9 1 fun Ys=>AH 168 #[.agg #[.I di,.I Ua,.string tP,.slice tQ tR tS,.I tT,.I tU,.I tV,.slice tW tX tY,.bool tZ,.I te],.U Ks,.U Ys] AE R (fun z AJ=>∃UL sr,z=(.tuple #[.U UL,.bool sr])∧R (.T #[.agg #[.I 1,.U UL,.N,.N],.I 0]) AJ)) (LI .i64 AE b8 0 fun cY=>Br (cY=1) (∃RP NR RQ Ud Ue Uf Ug Uh Ui Uj Uk Ul Um Un,Am AE b4 0 [.I RP,.I NR,.string RQ,.slice Ud Ue Uf,.I Ug,.I Uh,.I Ui,.slice Uj Uk Ul,.bool Um,.I Un]∧LS AE b9 2 fun p45 n45 c45=>AH 169 #[.pointer q0,.agg #[.I RP,.I NR,.string RQ,.slice Ud Ue Uf,.I Ug,.I Uh,.I Ui,.slice Uj Uk Ul,.bool Um,.I Un],.slice p45 n45 c45,(.func (.func 170) #[] #[(.pointer (aD b4 0)),(.pointer (aD b8 0))])] AE R (fun z AJ=>∃LZ La Lc Ld Lf Lg Lh Li Uo,z=(.tuple #[.agg #[.I LZ,.U La,.slice Lc Ld Lf,.slice Lg Lh Li],.I Uo])∧R (.T #[.agg #[.I LZ,.U La,.slice Lc Ld Lf,.slice Lg Lh Li],.I Uo]) AJ)) (LI .i64 AE b9 0 fun zQ=>Br (zQ=1) (∃Up Uq Ur Us Ut Uu Uv Uw Ux Uy Uz U0 U1 U2,Am AE b4 0 [.I Up,.I Uq,.string Ur,.slice Us Ut Uu,.I Uv,.I Uw,.I Ux,.slice Uy Uz U0,.bool U1,.I U2]∧LS AE b8 2 fun p57 n57 c57=>AH 169 #[.pointer q0,.agg #[.I Up,.I Uq,.string Ur,.slice Us Ut Uu,.I Uv,.I Uw,.I Ux,.slice Uy Uz U0,.bool U1,.I U2],.slice p57 n57 c57,(.func (.func 171) #[] #[(.pointer (aD b4 0)),(.pointer (aD b9 0))])] AE R (fun z AJ=>∃Lj Lk Ll Lm Ln Lp Lq Lr Ii,z=(.tuple #[.agg #[.I Lj,.U Lk,.slice Ll Lm Ln,.slice Lp Lq Lr],.I Ii])∧R (.T #[.agg #[.I Lj,.U Lk,.slice Ll Lm Ln,.slice Lp Lq Lr],.I Ii]) AJ)) (LI .i64 AE b4 1 fun x64=>AH 120 #[.I x64] AE R (CB fun t65 AJ=>Bo t65 (∃LA LC LD LF LG LH LJ LK LL LN LO LP LR LU,Am AJ b4 0 [.I LA,.I LC,.string LD,.slice LF LG LH,.I LJ,.I LK,.I LL,.slice LN LO LP,.bool LR,.I LU]∧LS AJ b8 2 fun zR n69 zS=>LS AJ b9 2 fun p71 n71 c71=>AH 172 #[.pointer q0,.agg #[.I LA,.I LC,.string LD,.slice LF LG LH,.I LJ,.I LK,.I LL,.slice LN LO LP,.bool LR,.I LU],.slice zR n69 zS,.slice p71 n71 c71] AJ R (fun z Ah=>∃Ls Lt Lu Lv Lw Ly Lz L0 U3,z=(.tuple #[.agg #[.I Ls,.U Lt,.slice Lu Lv Lw,.slice Ly Lz L0],.I U3])∧R (.T #[.agg #[.I Ls,.U Lt,.slice Lu Lv Lw,.slice Ly Lz L0],.I U3]) Ah)) (∃U4 U5 U6 U7 U8 U9 VA VB VC VD VE VF VH VI,Am AJ b4 0 [.I U4,.I U5,.string U6,.slice U7 U8 U9,.I VA,.I VB,.I VC,.slice VD VE VF,.bool VH,.I VI]∧LS AJ b8 2 fun zA zB zC=>LS AJ b9 2 fun p80 n80 c80=>AH 173 #[.pointer q0,.agg #[.I U4,.I U5,.string U6,.slice U7 U8 U9,.I VA,.I VB,.I VC,.slice VD VE VF,.bool VH,.I VI],.slice zA zB zC,.slice p80 n80 c80] AJ R (fun z Ah=>∃L3 L4 L5 L6 L8 L9 MA MB VJ,z=(.tuple #[.agg #[.I L3,.U L4,.slice L5 L6 L8,.slice L9 MA MB],.I VJ])∧R (.T #[.agg #[.I L3,.U L4,.slice L5 L6 L8,.slice L9 MA MB],.I VJ]) Ah))))))) (LI .i64 AE b8 0 fun cY=>Br (cY=1) (∃RP NR RQ Ud Ue Uf Ug Uh Ui Uj Uk Ul Um Un,Am AE b4 0 [.I RP,.I NR,.string RQ,.slice Ud Ue Uf,.I Ug,.I Uh,.I Ui,.slice Uj Uk Ul,.bool Um,.I Un]∧LS AE b9 2 fun p45 n45 c45=>AH 169 #[.pointer q0,.agg #[.I RP,.I NR,.string RQ,.slice Ud Ue Uf,.I Ug,.I Uh,.I Ui,.slice Uj Uk Ul,.bool Um,.I Un],.slice p45 n45 c45,(.func (.func 170) #[] #[(.pointer (aD b4 0)),(.pointer (aD b8 0))])] AE R (fun z AJ=>∃LZ La Lc Ld Lf Lg Lh Li Uo,z=(.tuple #[.agg #[.I LZ,.U La,.slice Lc Ld Lf,.slice Lg Lh Li],.I Uo])∧R (.T #[.agg #[.I LZ,.U La,.slice Lc Ld Lf,.slice Lg Lh Li],.I Uo]) AJ)) (LI .i64 AE b9 0 fun zQ=>Br (zQ=1) (∃Up Uq Ur Us Ut Uu Uv Uw Ux Uy Uz U0 U1 U2,Am AE b4 0 [.I Up,.I Uq,.string Ur,.slice Us Ut Uu,.I Uv,.I Uw,.I Ux,.slice Uy Uz U0,.bool U1,.I U2]∧LS AE b8 2 fun p57 n57 c57=>AH 169 #[.pointer q0,.agg #[.I Up,.I Uq,.string Ur,.slice Us Ut Uu,.I Uv,.I Uw,.I Ux,.slice Uy Uz U0,.bool U1,.I U2],.slice p57 n57 c57,(.func (.func 171) #[] #[(.pointer (aD b4 0)),(.pointer (aD b9 0))])] AE R (fun z AJ=>∃Lj Lk Ll Lm Ln Lp Lq Lr Ii,z=(.tuple #[.agg #[.I Lj,.U Lk,.slice Ll Lm Ln,.slice Lp Lq Lr],.I Ii])∧R (.T #[.agg #[.I Lj,.U Lk,.slice Ll Lm Ln,.slice Lp Lq Lr],.I Ii]) AJ)) (LI .i64 AE b4 1 fun x64=>AH 120 #[.I x64] AE R (CB fun t65 AJ=>Bo t65 (∃LA LC LD LF LG LH LJ LK LL LN LO LP LR LU,Am AJ b4 0 [.I LA,.I LC,.string LD,.slice LF LG LH,.I LJ,.I LK,.I LL,.slice LN LO LP,.bool LR,.I LU]∧LS AJ b8 2 fun zR n69 zS=>LS AJ b9 2 fun p71 n71 c71=>AH 172 #[.pointer q0,.agg #[.I LA,.I LC,.string LD,.slice LF LG LH,.I LJ,.I LK,.I LL,.slice LN LO LP,.bool LR,.I LU],.slice zR n69 zS,.slice p71 n71 c71] AJ R (fun z Ah=>∃Ls Lt Lu Lv Lw Ly Lz L0 U3,z=(.tuple #[.agg #[.I Ls,.U Lt,.slice Lu Lv Lw,.slice Ly Lz L0],.I U3])∧R (.T #[.agg #[.I Ls,.U Lt,.slice Lu Lv Lw,.slice Ly Lz L0],.I U3]) Ah)) (∃U4 U5 U6 U7 U8 U9 VA VB VC VD VE VF VH VI,Am AJ b4 0 [.I U4,.I U5,.string U6,.slice U7 U8 U9,.I VA,.I VB,.I VC,.slice VD VE VF,.bool VH,.I VI]∧LS AJ b8 2 fun zA zB zC=>LS AJ b9 2 fun p80 n80 c80=>AH 173 #[.pointer q0,.agg #[.I U4,.I U5,.string U6,.slice U7 U8 U9,.I VA,.I VB,.I VC,.slice VD VE VF,.bool VH,.I VI],.slice zA zB zC,.slice p80 n80 c80] AJ R (fun z Ah=>∃L3 L4 L5 L6 L8 L9 MA MB VJ,z=(.tuple #[.agg #[.I L3,.U L4,.slice L5 L6 L8,.slice L9 MA MB],.I VJ])∧R (.T #[.agg #[.I L3,.U L4,.slice L5 L6 L8,.slice L9 MA MB],.I VJ]) Ah)))))))))∧(Al (Hp.set σ b4 (.cells #[.I CA,.I Ba,.string Dm,.slice Du Dx Dy,.I Dl,.I DA,.I Cf,.slice EB Dz EC,.bool DI,.I Cj] 127 (0,0))) fun b9=>Al (Hp.set (Hp.set σ b4 (.cells #[.I CA,.I Ba,.string Dm,.slice Du Dx Dy,.I Dl,.I DA,.I Cf,.slice EB Dz EC,.bool DI,.I Cj] 127 (0,0))) b9 (.cells #[.I 0,.U 0,.N,.N] 164 (0,0))) fun b8=>AI prog (Instr.storeAt 164 (.pointer (aD b8 0)) (.agg #[.I Fz,.U RH,.slice AEp AEq AEr,.slice AEs AEt AEu])) (Hp.set (Hp.set (Hp.set σ b4 (.cells #[.I CA,.I Ba,.string Dm,.slice Du Dx Dy,.I Dl,.I DA,.I Cf,.slice EB Dz EC,.bool DI,.I Cj] 127 (0,0))) b9 (.cells #[.I 0,.U 0,.N,.N] 164 (0,0))) b8 (.cells #[.I 0,.U 0,.N,.N] 164 (0,0))) (fun _ y=>Kp [Gn] (Hp.set (Hp.set (Hp.set σ b4 (.cells #[.I CA,.I Ba,.string Dm,.slice Du Dx Dy,.I Dl,.I DA,.I Cf,.slice EB Dz EC,.bool DI,.I Cj] 127 (0,0))) b9 (.cells #[.I 0,.U 0,.N,.N] 164 (0,0))) b8 (.cells #[.I 0,.U 0,.N,.N] 164 (0,0))) y∧AI prog (Instr.storeAt 164 (.pointer (aD b9 0)) (.agg #[.I RR,.U dh,.slice AEv AEw AEx,.slice oK oL oM])) y (fun _ AE=>LI .i64 AE b8 0 fun Ms=>Br (Ms=1) (LI .i64 AE b9 0 fun KM=>Br (KM=1) (∃di Ua tP tQ tR tS tT tU tV tW tX tY tZ te,Am AE b4 0 [.I di,.I Ua,.string tP,.slice tQ tR tS,.I tT,.I tU,.I tV,.slice tW tX tY,.bool tZ,.I te]∧LI .u64 AE b8 1 fun Ks=>LI .u64 AE b9 1 fun Ys=>AH 168 #[.agg #[.I di,.I Ua,.string tP,.slice tQ tR tS,.I tT,.I tU,.I tV,.slice tW tX tY,.bool tZ,.I te],.U Ks,.U Ys] AE R (fun z AJ=>∃UL sr,z=(.tuple #[.U UL,.bool sr])∧R (.T #[.agg #[.I 1,.U UL,.N,.N],.I 0]) AJ)) (LI .i64 AE b8 0 fun cY=>Br (cY=1) (∃RP NR RQ Ud Ue Uf Ug Uh Ui Uj Uk Ul Um Un,Am AE b4 0 [.I RP,.I NR,.string RQ,.slice Ud Ue Uf,.I Ug,.I Uh,.I Ui,.slice Uj Uk Ul,.bool Um,.I Un]∧LS AE b9 2 fun p45 n45 c45=>AH 169 #[.pointer q0,.agg #[.I RP,.I NR,.string RQ,.slice Ud Ue Uf,.I Ug,.I Uh,.I Ui,.slice Uj Uk Ul,.bool Um,.I Un],.slice p45 n45 c45,(.func (.func 170) #[] #[(.pointer (aD b4 0)),(.pointer (aD b8 0))])] AE R (fun z AJ=>∃LZ La Lc Ld Lf Lg Lh Li Uo,z=(.tuple #[.agg #[.I LZ,.U La,.slice Lc Ld Lf,.slice Lg Lh Li],.I Uo])∧R (.T #[.agg #[.I LZ,.U La,.slice Lc Ld Lf,.slice Lg Lh Li],.I Uo]) AJ)) (LI .i64 AE b9 0 fun zQ=>Br (zQ=1) (∃Up Uq Ur Us Ut Uu Uv Uw Ux Uy Uz U0 U1 U2,Am AE b4 0 [.I Up,.I Uq,.string Ur,.slice Us Ut Uu,.I Uv,.I Uw,.I Ux,.slice Uy Uz U0,.bool U1,.I U2]∧LS AE b8 2 fun p57 n57 c57=>AH 169 #[.pointer q0,.agg #[.I Up,.I Uq,.string Ur,.slice Us Ut Uu,.I Uv,.I Uw,.I Ux,.slice Uy Uz U0,.bool U1,.I U2],.slice p57 n57 c57,(.func (.func 171) #[] #[(.pointer (aD b4 0)),(.pointer (aD b9 0))])] AE R (fun z AJ=>∃Lj Lk Ll Lm Ln Lp Lq Lr Ii,z=(.tuple #[.agg #[.I Lj,.U Lk,.slice Ll Lm Ln,.slice Lp Lq Lr],.I Ii])∧R (.T #[.agg #[.I Lj,.U Lk,.slice Ll Lm Ln,.slice Lp Lq Lr],.I Ii]) AJ)) (LI .i64 AE b4 1 fun x64=>AH 120 #[.I x64] AE R (CB fun t65 AJ=>Bo t65 (∃LA LC LD LF LG LH LJ LK LL LN LO LP LR LU,Am AJ b4 0 [.I LA,.I LC,.string LD,.slice LF LG LH,.I LJ,.I LK,.I LL,.slice LN LO LP,.bool LR,.I LU]∧LS AJ b8 2 fun zR n69 zS=>LS AJ b9 2 fun p71 n71 c71=>AH 172 #[.pointer q0,.agg #[.I LA,.I LC,.string LD,.slice LF LG LH,.I LJ,.I LK,.I LL,.slice LN LO LP,.bool LR,.I LU],.slice zR n69 zS,.slice p71 n71 c71] AJ R (fun z Ah=>∃Ls Lt Lu Lv Lw Ly Lz L0 U3,z=(.tuple #[.agg #[.I Ls,.U Lt,.slice Lu Lv Lw,.slice Ly Lz L0],.I U3])∧R (.T #[.agg #[.I Ls,.U Lt,.slice Lu Lv Lw,.slice Ly Lz L0],.I U3]) Ah)) (∃U4 U5 U6 U7 U8 U9 VA VB VC VD VE VF VH VI,Am AJ b4 0 [.I U4,.I U5,.string U6,.slice U7 U8 U9,.I VA,.I VB,.I VC,.slice VD VE VF,.bool VH,.I VI]∧LS AJ b8 2 fun zA zB zC=>LS AJ b9 2 fun p80 n80 c80=>AH 173 #[.pointer q0,.agg #[.I U4,.I U5,.string U6,.slice U7 U8 U9,.I VA,.I VB,.I VC,.slice VD VE VF,.bool VH,.I VI],.slice zA zB zC,.slice p80 n80 c80] AJ R (fun z Ah=>∃L3 L4 L5 L6 L8 L9 MA MB VJ,z=(.tuple #[.agg #[.I L3,.U L4,.slice L5 L6 L8,.slice L9 MA MB],.I VJ])∧R (.T #[.agg #[.I L3,.U L4,.slice L5 L6 L8,.slice L9 MA MB],.I VJ]) Ah))))))) (LI .i64 AE b8 0 fun cY=>Br (cY=1) (∃RP NR RQ Ud Ue Uf Ug Uh Ui Uj Uk Ul Um Un,Am AE b4 0 [.I RP,.I NR,.string RQ,.slice Ud Ue Uf,.I Ug,.I Uh,.I Ui,.slice Uj Uk Ul,.bool Um,.I Un]∧LS AE b9 2 fun p45 n45 c45=>AH 169 #[.pointer q0,.agg #[.I RP,.I NR,.string RQ,.slice Ud Ue Uf,.I Ug,.I Uh,.I Ui,.slice Uj Uk Ul,.bool Um,.I Un],.slice p45 n45 c45,(.func (.func 170) #[] #[(.pointer (aD b4 0)),(.pointer (aD b8 0))])] AE R (fun z AJ=>∃LZ La Lc Ld Lf Lg Lh Li Uo,z=(.tuple #[.agg #[.I LZ,.U La,.slice Lc Ld Lf,.slice Lg Lh Li],.I Uo])∧R (.T #[.agg #[.I LZ,.U La,.slice Lc Ld Lf,.slice Lg Lh Li],.I Uo]) AJ)) (LI .i64 AE b9 0 fun zQ=>Br (zQ=1) (∃Up Uq Ur Us Ut Uu Uv Uw Ux Uy Uz U0 U1 U2,Am AE b4 0 [.I Up,.I Uq,.string Ur,.slice Us Ut Uu,.I Uv,.I Uw,.I Ux,.slice Uy Uz U0,.bool U1,.I U2]∧LS AE b8 2 fun p57 n57 c57=>AH 169 #[.pointer q0,.agg #[.I Up,.I Uq,.string Ur,.slice Us Ut Uu,.I Uv,.I Uw,.I Ux,.slice Uy Uz U0,.bool U1,.I U2],.slice p57 n57 c57,(.func (.func 171) #[] #[(.pointer (aD b4 0)),(.pointer (aD b9 0))])] AE R (fun z AJ=>∃Lj Lk Ll Lm Ln Lp Lq Lr Ii,z=(.tuple #[.agg #[.I Lj,.U Lk,.slice Ll Lm Ln,.slice Lp Lq Lr],.I Ii])∧R (.T #[.agg #[.I Lj,.U Lk,.slice Ll Lm Ln,.slice Lp Lq Lr],.I Ii]) AJ)) (LI .i64 AE b4 1 fun x64=>AH 120 #[.I x64] AE R (CB fun t65 AJ=>Bo t65 (∃LA LC LD LF LG LH LJ LK LL LN LO LP LR LU,Am AJ b4 0 [.I LA,.I LC,.string LD,.slice LF LG LH,.I LJ,.I LK,.I LL,.slice LN LO LP,.bool LR,.I LU]∧LS AJ b8 2 fun zR n69 zS=>LS AJ b9 2 fun p71 n71 c71=>AH 172 #[.pointer q0,.agg #[.I LA,.I LC,.string LD,.slice LF LG LH,.I LJ,.I LK,.I LL,.slice LN LO LP,.bool LR,.I LU],.slice zR n69 zS,.slice p71 n71 c71] AJ R (fun z Ah=>∃Ls Lt Lu Lv Lw Ly Lz L0 U3,z=(.tuple #[.agg #[.I Ls,.U Lt,.slice Lu Lv Lw,.slice Ly Lz L0],.I U3])∧R (.T #[.agg #[.I Ls,.U Lt,.slice Lu Lv Lw,.slice Ly Lz L0],.I U3]) Ah)) (∃U4 U5 U6 U7 U8 U9 VA VB VC VD VE VF VH VI,Am AJ b4 0 [.I U4,.I U5,.string U6,.slice U7 U8 U9,.I VA,.I VB,.I VC,.slice VD VE VF,.bool VH,.I VI]∧LS AJ b8 2 fun zA zB zC=>LS AJ b9 2 fun p80 n80 c80=>AH 173 #[.pointer q0,.agg #[.I U4,.I U5,.string U6,.slice U7 U8 U9,.I VA,.I VB,.I VC,.slice VD VE VF,.bool VH,.I VI],.slice zA zB zC,.slice p80 n80 c80] AJ R (fun z Ah=>∃L3 L4 L5 L6 L8 L9 MA MB VJ,z=(.tuple #[.agg #[.I L3,.U L4,.slice L5 L6 L8,.slice L9 MA MB],.I VJ])∧R (.T #[.agg #[.I L3,.U L4,.slice L5 L6 L8,.slice L9 MA MB],.I VJ]) Ah)))))))))):Spec prog 134 #[.pointer q0,.agg #[.I CA,.I Ba,.string Dm,.slice Du Dx Dy,.I Dl,.I DA,.I Cf,.slice EB Dz EC,.bool DI,.I Cj],.slice p2 n2 c2] σ R:=M.start h ok
end DO
namespace C5
variable {q0:Option Addr}
def M:Fw:=⟨prog,139,f139,[63],[],false,[],[],[]⟩
def ok:M.Ok:=⟨.cons call63 (AG.nil),mixed,func139,by kernel_rfl⟩
def start (h:AH 63 #[.pointer q0,(.func (.func 175) #[.pointer q0] #[]),.I 3,.I 4] σ R (fun z y=>z=(.tuple #[])∧R (.T #[]) y)):Spec prog 139 #[.pointer q0] σ R:=M.start h ok
end C5
namespace EH
variable {p0:Option Addr}{n0 c0:Nat}
def M:Fw:=⟨prog,165,f165,[212],[],false,[],[],[]⟩
def ok:M.Ok:=⟨.cons call212 (AG.nil),mixed,func165,by kernel_rfl⟩
def start (h:AH 212 #[.I 9,.slice p0 n0 c0] σ R (CI .u64 fun x4 y=>R (.returned (.U x4)) y)):Spec prog 165 #[.slice p0 n0 c0] σ R:=M.start h ok
end EH
end TwW
end
end
section
set_option maxRecDepth 100000
noncomputable section
namespace TwW
open Go Tw Go.Proofs.Tryz
variable [Ez]{R:Rr}{σ:Hp}

namespace A3
variable {q0 Du EB p2 p3 Jt Jz FY Fb I6 ng:Option Addr}{CA Ba Dl DA Cf Cj Jr H3 Jw Jx Jy J2 EW Em Wa gN:Int}{Dm Js:ByteArray}{Dx Dy Dz EC n2 c2 n3 c3 Ju Jv J0 J1 FZ Fa Fc Fe n14 Hu n41 gL:Nat}{DI LY:Bool}{m12:Option Nat}
def M:Fw:=⟨prog,173,f173,[107,116,160,168,216,217],[5,8,16,18],false,[],[],[(2024,[(5,.X 127 [.I .i64,.I .i64,.T,.L,.I .i64,.I .i64,.I .i64,.L,.B,.I .i64]),(8,.X 164 [.I .i64,.I .u64,.L,.L]),(12,wM),(14,wL),(41,wL),(42,wI),(43,wI)]),(8103,[(5,.X 127 [.I .i64,.I .i64,.T,.L,.I .i64,.I .i64,.I .i64,.L,.B,.I .i64]),(8,.X 164 [.I .i64,.I .u64,.L,.L]),(12,wM),(14,wL),(41,wL),(42,wI),(43,wI)])]⟩
def ok:M.Ok:=⟨.cons call107 (.cons call116 (.cons call160 (.cons call168 (.cons call216 (.cons call217 (AG.nil)))))),mixed,func173,by kernel_rfl⟩
def RS:=M.pt 0
def P5:=M.pt 1
def start (h:∀b5:Nat,∀b8:Nat,AH 216 #[.agg #[.I CA,.I Ba,.string Dm,.slice Du Dx Dy,.I Dl,.I DA,.I Cf,.slice EB Dz EC,.bool DI,.I Cj],.slice p2 n2 c2] σ R (fun z y=>∃ARg tf,z=(.tuple #[.map ARg,.bool tf])∧AH 216 #[.agg #[.I CA,.I Ba,.string Dm,.slice Du Dx Dy,.I Dl,.I DA,.I Cf,.slice EB Dz EC,.bool DI,.I Cj],.slice p3 n3 c3] y R (fun z AE=>∃AKh AKi,z=(.tuple #[.map AKh,.bool AKi])∧Bn tf (R (.T #[.agg #[.I 0,.U 0,.N,.N],.I 223]) AE) (Bn AKi (R (.T #[.agg #[.I 0,.U 0,.N,.N],.I 223]) AE) (RS R CA Ba Dm Du Dx Dy Dl DA Cf EB Dz EC DI Cj 0 0 none 0 0 none 0 0 AKh none 0 0 p2 n2 c2 (n2:Int) 0 AE))))):Spec prog 173 #[.pointer q0,.agg #[.I CA,.I Ba,.string Dm,.slice Du Dx Dy,.I Dl,.I DA,.I Cf,.slice EB Dz EC,.bool DI,.I Cj],.slice p2 n2 c2,.slice p3 n3 c3] σ R:=M.start h ok
def ET (h:Br (gN<Wa) (Pq ng fun Wn qj=>In gN (n41:Int)∧∃AE9 AFA AFB AFC,Am σ Wn (qj+gN.toNat*2) [.slice AE9 AFA AFB,.U AFC]∧∀SB:Nat,AH 217 #[.agg #[.I Jr,.I H3,.string Js,.slice Jt Ju Jv,.I Jw,.I Jx,.I Jy,.slice Jz J0 J1,.bool LY,.I J2],.slice AE9 AFA AFB] σ R (CS fun jE n50 jF y=>AH 107 #[.slice jE n50 jF] y R (CT fun s54 AE=>AI prog (Instr.lookup 291 (.map m12) (.string s54) true) AE (fun z AJ=>∃AKj AKk AKl ACC AKm,z=(.tuple #[.agg #[.slice AKj AKk AKl,.U ACC],.bool AKm])∧∀XS:Nat,Bn AKm (P5 R Jr H3 Js Jt Ju Jv Jw Jx Jy Jz J0 J1 LY J2 EW Em FY FZ Fa Fb Fc Fe m12 I6 n14 Hu (aD Wn qj) n41 gL Wa gN AJ) (AH 168 #[.agg #[.I Jr,.I H3,.string Js,.slice Jt Ju Jv,.I Jw,.I Jx,.I Jy,.slice Jz J0 J1,.bool LY,.I J2],.U AFC,.U ACC] AJ R (fun z Ah=>∃AFD AKn,z=(.tuple #[.U AFD,.bool AKn])∧AH 116 #[.I H3] Ah R (CB fun t72 CF=>Bn t72 (Al CF fun b82=>AI prog (GO 105 I6 n14 Hu b82) (Hp.set CF b82 (.cells #[.slice jE n50 jF,.U AFD] 109 (0,0))) (CS fun p83 n83 c83 Fu=>P5 R Jr H3 Js Jt Ju Jv Jw Jx Jy Jz J0 J1 LY J2 EW Em FY FZ Fa Fb Fc Fe m12 p83 n83 c83 (aD Wn qj) n41 gL Wa gN Fu)) (Bo LY (Al CF fun b82=>AI prog (GO 105 I6 n14 Hu b82) (Hp.set CF b82 (.cells #[.slice jE n50 jF,.U AFD] 109 (0,0))) (CS fun p83 n83 c83 Fu=>P5 R Jr H3 Js Jt Ju Jv Jw Jx Jy Jz J0 J1 true J2 EW Em FY FZ Fa Fb Fc Fe m12 p83 n83 c83 (aD Wn qj) n41 gL Wa gN Fu)) (Bo AKn (Al CF fun b88=>AI prog (GO 105 I6 n14 Hu b88) (Hp.set CF b88 (.cells #[.slice AE9 AFA AFB,.U AFC] 109 (0,0))) (CS fun p89 n89 c89 Fu=>P5 R Jr H3 Js Jt Ju Jv Jw Jx Jy Jz J0 J1 false J2 EW Em FY FZ Fa Fb Fc Fe m12 p89 n89 c89 (aD Wn qj) n41 gL Wa gN Fu)) (P5 R Jr H3 Js Jt Ju Jv Jw Jx Jy Jz J0 J1 false J2 EW Em FY FZ Fa Fb Fc Fe m12 I6 n14 Hu (aD Wn qj) n41 gL Wa gN CF)))))))))) (AH 160 #[.slice I6 n14 Hu] σ R (fun z y=>∃ACE ACF ACG ACH ACI ACJ ACK ACL AKr,z=(.tuple #[.agg #[.I ACE,.U ACF,.slice ACG ACH ACI,.slice ACJ ACK ACL],.I AKr])∧R (.T #[.agg #[.I ACE,.U ACF,.slice ACG ACH ACI,.slice ACJ ACK ACL],.I AKr]) y))):RS R Jr H3 Js Jt Ju Jv Jw Jx Jy Jz J0 J1 LY J2 EW Em FY FZ Fa Fb Fc Fe m12 I6 n14 Hu ng n41 gL Wa gN σ:=M.iW h ok rfl fun _ _=>by kernel_rfl
def Yy (h:AK (gN+1)∧RS R Jr H3 Js Jt Ju Jv Jw Jx Jy Jz J0 J1 LY J2 EW Em FY FZ Fa Fb Fc Fe m12 I6 n14 Hu ng n41 gL Wa (gN+1) σ):P5 R Jr H3 Js Jt Ju Jv Jw Jx Jy Jz J0 J1 LY J2 EW Em FY FZ Fa Fb Fc Fe m12 I6 n14 Hu ng n41 gL Wa gN σ:=M.iW h ok rfl fun _ _=>by kernel_rfl
end A3
namespace Bg
variable {q0:Option Addr}
def M:Fw:=⟨prog,175,f175,[98,100,218,219],[],false,[],[],[]⟩
def ok:M.Ok:=⟨.cons call98 (.cons call100 (.cons call218 (.cons call219 (AG.nil)))),mixed,func175,by kernel_rfl⟩
def start (h:AH 98 #[.pointer q0,.I 5,(.string (ByteArray.mk #[45]))] σ R (CB fun t3 y=>Bn t3 (AH 218 #[.pointer q0] y R (fun z AE=>z=(.tuple #[])∧R (.T #[]) AE)) (AH 219 #[.pointer q0,(.func (.func 175) #[.pointer q0] #[])] y R (fun z AE=>z=(.tuple #[])∧AH 100 #[.pointer q0,(.agg #[.I 7,.I 0,(.string (ByteArray.mk #[])),.N,.I 0,.I 0,.I 0,.N,.bool false,.I 1])] AE R (fun z AJ=>z=(.tuple #[])∧R (.T #[]) AJ))))):Spec prog 175 #[.pointer q0] σ R:=M.start h ok
end Bg
namespace Nn
variable {Cg Ck x1:Int}
def M:Fw:=⟨prog,186,f186,[],[2],false,[],[],[]⟩
def ok:M.Ok:=⟨AG.nil,mixed,func186,by kernel_rfl⟩
def start (h:∀b2:Nat,Br (Cg≤x1) (R (.returned (.I (-1))) σ) (R (.returned (.I 1)) σ)):Spec prog 186 #[.agg #[.I Cg,.U Ck],.I x1] σ R:=M.start h ok
end Nn
namespace CY
variable {f0:Fn}{a0 c0:Array Value}
def M:Fw:=⟨prog,194,f194,[],[],false,[],[],[]⟩
def ok:M.Ok:=⟨AG.nil,mixed,func194,by kernel_rfl⟩
def start (h:Al σ fun b1=>R (.returned (.func (.func 233) #[] #[(.pointer (aD b1 0))])) (Hp.set σ b1 (.cells #[(Value.func f0 a0 c0)] 246 (0,0)))):Spec prog 194 #[(Value.func f0 a0 c0)] σ R:=M.CL h ok [(0,.o (.V (Value.func f0 a0 c0)))] rfl rfl (by kernel_rfl)
end CY
namespace Dd
variable {p0:Option Addr}{n0 c0:Nat}
def M:Fw:=⟨prog,195,f195,[196],[],false,[],[],[]⟩
def ok:M.Ok:=⟨.cons call196 (AG.nil),mixed,func195,by kernel_rfl⟩
def start (h:AK ((n0:Int)-1)∧Pq p0 fun b7 o7=>In (((n0:Int)-1)) (n0:Int)∧LI .u64 σ b7 (o7+Int.toNat ((n0:Int)-1)*1) fun x8=>AH 196 #[.U x8] σ R (CI .u64 fun x9 y=>R (.returned (.U x9)) y)):Spec prog 195 #[.slice p0 n0 c0] σ R:=M.start h ok
end Dd
namespace Hf
variable {Cg Ck Sv NL Hq KT qk yo x2e x2f x2g x2j x11 x12:Int}{Sx s2c:ByteArray}{Xb UU p1 p2d p2h Pn:Option Addr}{Wq Xc TP UW n1 c1 n2d c2d n2h c2h n10 KO:Nat}{PM t2i:Bool}{m6:Option Nat}
def M:Fw:=⟨prog,216,f216,[107,217],[2,8],false,[(5,7,false)],[],[(232,[(1,wL),(2,.X 127 [.I .i64,.I .i64,.T,.L,.I .i64,.I .i64,.I .i64,.L,.B,.I .i64]),(6,wM),(10,wL),(11,wI),(12,wI)])]⟩
def ok:M.Ok:=⟨.cons call107 (.cons call217 (AG.nil)),mixed,func216,by kernel_rfl⟩
def Ap:=M.pt 0
def start (h:∀b2:Nat,AI prog (Instr.makeMap 291 none) σ (fun z y=>∃m9,z=(.map (some m9))∧Ap R p1 n1 c1 Cg Ck Sx Xb Wq Xc Sv NL Hq UU TP UW PM KT (some m9) p1 n1 c1 (n1:Int) 0 y)):Spec prog 216 #[.agg #[.I Cg,.I Ck,.string Sx,.slice Xb Wq Xc,.I Sv,.I NL,.I Hq,.slice UU TP UW,.bool PM,.I KT],.slice p1 n1 c1] σ R:=M.start h ok
def AR (h:Br (x12<x11) (Pq Pn fun HH JU=>In x12 (n10:Int)∧∃AFE AFF AFG jA,Am σ HH (JU+x12.toNat*2) [.slice AFE AFF AFG,.U jA]∧∀b8:Nat,AH 217 #[.agg #[.I qk,.I yo,.string s2c,.slice p2d n2d c2d,.I x2e,.I x2f,.I x2g,.slice p2h n2h c2h,.bool t2i,.I x2j],.slice AFE AFF AFG] σ R (CS fun TO n20 RG y=>AH 107 #[.slice TO n20 RG] y R (CT fun s21 AE=>AI prog (Instr.mapUpdate 291 (.map m6) (.string s21) (.agg #[.slice AFE AFF AFG,.U jA])) AE (fun _ AJ=>AK (x12+1)∧Ap R p1 n1 c1 qk yo s2c p2d n2d c2d x2e x2f x2g p2h n2h c2h t2i x2j m6 (aD HH JU) n10 KO x11 (x12+1) AJ)))) (∃Ws,YF prog (Builtin.len_ #[291] 3 #[.map m6]) σ (.I Ws)∧R (.T #[.map m6,(.bool (decide (Ws=(n1:Int))))]) σ)):Ap R p1 n1 c1 qk yo s2c p2d n2d c2d x2e x2f x2g p2h n2h c2h t2i x2j m6 Pn n10 KO x11 x12 σ:=M.Ya h ok rfl fun _=>by kernel_rfl
end Hf
namespace VK
variable {p0:Option Addr}{n0 c0:Nat}
def M:Fw:=⟨prog,234,f234,[183,252,253],[],false,[],[],[]⟩
def ok:M.Ok:=⟨.cons call183 (.cons call252 (.cons call253 (AG.nil))),mixed,func234,by kernel_rfl⟩
def start (h:AH 252 #[(.I (n0:Int))] σ R (CB fun t7 y=>Bn t7 (R (.T #[.U 0,.I 210]) y) ((n0:Int)≠(0:Int)∧Df (Int.tmod 1 (n0:Int)) fun x12=>AH 253 #[.slice p0 n0 c0,.I x12] y R (fun z AE=>∃E2 y13,(Value.complex .f64 E2 y13)=z∧∃x15,YF prog (Builtin.real_ #[319] 258 #[(Value.complex .f64 E2 y13)]) AE (Value.float .f64 x15)∧∃x17,YF prog (Builtin.real_ #[319] 258 #[(Value.complex .f64 E2 y13)]) AE (Value.float .f64 x17)∧AI prog (binOp .mul 258 (Value.float .f64 x15) (Value.float .f64 x17)) AE (fun z AJ=>∃KS,(Value.float .f64 KS)=z∧∃Ms,YF prog (Builtin.imag_ #[319] 258 #[(Value.complex .f64 E2 y13)]) AJ (Value.float .f64 Ms)∧∃EG,YF prog (Builtin.imag_ #[319] 258 #[(Value.complex .f64 E2 y13)]) AJ (Value.float .f64 EG)∧AI prog (binOp .mul 258 (Value.float .f64 Ms) (Value.float .f64 EG)) AJ (fun z Ah=>∃Ew,(Value.float .f64 Ew)=z∧AI prog (binOp .add 258 (Value.float .f64 KS) (Value.float .f64 Ew)) Ah (fun z CF=>∃KM,(Value.float .f64 KM)=z∧AH 183 #[(Value.float .f64 KM)] CF R (CI .u64 fun MD Fu=>R (.T #[.U MD,.I 0]) Fu)))))))):Spec prog 234 #[.slice p0 n0 c0] σ R:=M.start h ok
end VK
namespace DP
variable {bD xr:Option Addr}{Pz XT tg xt:Nat}{s1:ByteArray}{x65 x66:Int}
def M:Fw:=⟨prog,272,f272,[275,296,297],[2],false,[(1,14,true)],[],[(2024,[(1,wT),(64,wL),(65,wI),(66,wI)])]⟩
def ok:M.Ok:=⟨.cons call275 (.cons call296 (.cons call297 (AG.nil))),mixed,func272,by kernel_rfl⟩
def Gm:=M.pt 0
def start (h:∀b2:Nat,Pq bD fun F6 IH=>In 0 (Pz:Int)∧LT σ F6 IH fun s13=>AK ((Pz:Int)-1)∧In (((Pz:Int)-1)) (Pz:Int)∧LT σ F6 (IH+Int.toNat ((Pz:Int)-1)*1) fun s21=>Br ((Pz:Int)=1) (R (.returned (.bool (ByteArray.toList s1==ByteArray.toList s13))) σ) (AK ((s13.size:Int)+(s21.size:Int))∧Br (((s1.size:Int):Int)<((s13.size:Int)+(s21.size:Int))) (R (.B false) σ) (AH 296 #[.string s1,.string s13] σ R (CB fun t40 y=>Bn t40 (R (.B false) y) (AH 297 #[.string s1,.string s21] y R (CB fun t46 AE=>Bn t46 (R (.B false) AE) (AK ((s1.size:Int)-(s21.size:Int))∧∃s57,YF prog (Instr.sliceAt 9 (.string s1) (some (.I (s13.size:Int))) (some (.I ((s1.size:Int)-(s21.size:Int)))) none) AE (.string s57)∧AK ((Pz:Int)-1)∧((0:Int)≤1∧1≤((Pz:Int)-1)∧((Pz:Int)-1)≤(XT:Int))∧Gm R s57 ((E1 (aD F6 IH) (1) XT 1)) ((Int.toNat ((Pz:Int)-1)-1)) (XT-1) ((((Int.toNat ((Pz:Int)-1)-1):Nat):Int)) 0 AE))))))):Spec prog 272 #[.agg #[.slice bD Pz XT],.string s1] σ R:=M.start h ok
def EO (h:Br (x66<x65) (Pq xr fun b68 o68=>In x66 (tg:Int)∧LT σ b68 (o68+x66.toNat*1) fun s69=>AH 275 #[.string s1,.string s69] σ R (CI .i64 fun x72 y=>Br (x72<0) (R (.B false) y) (AK (x72+(s69.size:Int))∧∃s80,YF prog (Instr.sliceAt 9 (.string s1) (some (.I (x72+(s69.size:Int)))) none none) y (.string s80)∧AK (x66+1)∧Gm R s80 (aD b68 o68) tg xt x65 (x66+1) y))) (R (.B true) σ)):Gm R s1 xr tg xt x65 x66 σ:=M.of h ok rfl
end DP
end TwW
end
end
section
set_option maxRecDepth 100000
noncomputable section
namespace TwW
open Go Tw Go.Proofs.Tryz
variable [Ez]{R:Rr}{σ:Hp}

namespace Ac
variable {x0 x1 Ff x8 x9 x10 Jl x15:Int}{p2 p7b oN WX:Option Addr}{n2 c2 n7b c7b n13 UR:Nat}
def M:Fw:=⟨prog,4,f4,[6,9,11,13,14,18],[7],false,[],[],[(976,[(2,wL),(7,.X 30 [.I .u64,.L]),(8,wI),(9,wI),(10,wI)]),(32720,[(2,wL),(8,wI),(9,wI),(11,wQ),(13,wL),(14,wI),(15,wI)]),(2094238,[(2,wL),(8,wI),(9,wI),(11,wQ),(13,wL),(14,wI),(15,wI)])]⟩
def ok:M.Ok:=⟨.cons call6 (.cons call9 (.cons call11 (.cons call13 (.cons call14 (.cons call18 (AG.nil)))))),mixed,func4,by kernel_rfl⟩
def RL:=M.pt 0
def Wt:=M.pt 1
def dj:=M.pt 2
def start (h:∀b7:Nat,(AH 18 #[.I x0] σ R (CI .i64 fun KM y=>9≠(0:Int)∧Df (Int.tmod KM 9) fun MD=>AK (1+MD)∧(Al y fun PR=>AH 18 #[.I x1] (Hp.set y PR (.cells #[.I 1,.I 3,.I 5] 3 (0,0))) R (CI .i64 fun Ss AE=>3≠(0:Int)∧Df (Int.tmod Ss 3) fun Ks=>In Ks 3∧LI .i64 AE PR (0+Ks.toNat*1) fun Ys=>RL R p2 n2 c2 0 none 0 0 (1+MD) Ys 0 AE))∧(AH 18 #[.I x1] y R (CI .i64 fun Ss AE=>3≠(0:Int)∧Df (Int.tmod Ss 3) fun Ks=>Al AE fun PR=>In Ks 3∧LI .i64 (Hp.set AE PR (.cells #[.I 1,.I 3,.I 5] 3 (0,0))) PR (0+Ks.toNat*1) fun Ys=>RL R p2 n2 c2 0 none 0 0 (1+MD) Ys 0 (Hp.set AE PR (.cells #[.I 1,.I 3,.I 5] 3 (0,0)))))))∧(Al σ fun PR=>AH 18 #[.I x0] (Hp.set σ PR (.cells #[.I 1,.I 3,.I 5] 3 (0,0))) R (CI .i64 fun KM y=>9≠(0:Int)∧Df (Int.tmod KM 9) fun MD=>AK (1+MD)∧AH 18 #[.I x1] y R (CI .i64 fun Ss AE=>3≠(0:Int)∧Df (Int.tmod Ss 3) fun Ks=>In Ks 3∧LI .i64 AE PR (0+Ks.toNat*1) fun Ys=>RL R p2 n2 c2 0 none 0 0 (1+MD) Ys 0 AE)))):Spec prog 4 #[.I x0,.I x1,.slice p2 n2 c2] σ R:=M.start h ok
def P2 (h:Br (x10<x8) (3≠(0:Int)∧Df (Int.tmod x10 3) fun Wa=>AK (1+Wa)∧Al σ fun xi=>Al (Hp.set σ xi (.cells #[.int .u32 7] 52 (0,0))) fun b46=>AI prog (GO 28 p7b n7b c7b b46) (Hp.set (Hp.set σ xi (.cells #[.int .u32 7] 52 (0,0))) b46 (.cells #[.I x10,(.I (1+Wa)),(.slice (aD xi 0) 1 1)] 55 (0,0))) (CS fun p47 n47 zL y=>AK (x10+1)∧RL R p2 n2 c2 Ff p47 n47 zL x8 x9 (x10+1) y)) (AH 6 #[(.string (ByteArray.mk #[120])),.I 60,.I 60,.I 0,.agg #[.U Ff,.slice p7b n7b c7b],.I x9] σ R (fun z y=>∃AFI AKu,z=(.tuple #[.pointer AFI,.I AKu])∧Br (AKu≠0) (R (.B false) y) (Bo (Option.isNone AFI) (R (.B false) y) (AI prog (Instr.makeSlice 56 (.I x8) (.I x8)) y (CS fun p62 n62 c62 AE=>Wt R p2 n2 c2 x8 x9 AFI p62 n62 c62 0 0 AE)))))):RL R p2 n2 c2 Ff p7b n7b c7b x8 x9 x10 σ:=M.Ya h ok rfl fun _=>by kernel_rfl
def TR (h:Br (x15<(n2:Int)) (Pq p2 fun jG o71=>In x15 (n2:Int)∧LI .i64 σ jG (o71+x15.toNat*1) fun x72=>AH 18 #[.I x72] σ R (CI .i64 fun x73 y=>AK (x8+2)∧(x8+2)≠(0:Int)∧Df (Int.tmod x73 (x8+2)) fun oO=>AH 11 #[.pointer oN,.I oO,.N] y R (CI .i64 fun yq AE=>Br (yq=0) (Br (oO<x8) (Br (oO<x8) (Pq WX fun zT zU=>In oO (n13:Int)∧LB AE zT (zU+oO.toNat*1) fun t93=>Bn t93 (In oO (n13:Int)∧AI prog (Instr.storeAt 4 (.pointer (aD zT (zU+oO.toNat*1))) (.bool true)) AE (fun _ AJ=>AK (Jl+1)∧dj R (aD jG o71) n2 c2 x8 x9 oN (aD zT zU) n13 UR (Jl+1) x15 AJ)) (dj R (aD jG o71) n2 c2 x8 x9 oN (aD zT zU) n13 UR Jl x15 AE)) (dj R (aD jG o71) n2 c2 x8 x9 oN WX n13 UR Jl x15 AE)) (R (.B false) AE)) (Br (oO<x8) (R (.B false) AE) (Br (oO<x8) (Pq WX fun zT zU=>In oO (n13:Int)∧LB AE zT (zU+oO.toNat*1) fun t93=>Bn t93 (In oO (n13:Int)∧AI prog (Instr.storeAt 4 (.pointer (aD zT (zU+oO.toNat*1))) (.bool true)) AE (fun _ AJ=>AK (Jl+1)∧dj R (aD jG o71) n2 c2 x8 x9 oN (aD zT zU) n13 UR (Jl+1) x15 AJ)) (dj R (aD jG o71) n2 c2 x8 x9 oN (aD zT zU) n13 UR Jl x15 AE)) (dj R (aD jG o71) n2 c2 x8 x9 oN WX n13 UR Jl x15 AE)))))) (AH 9 #[] σ R (CB fun t140 y=>R (.B t140) y))):Wt R p2 n2 c2 x8 x9 oN WX n13 UR Jl x15 σ:=M.of h ok rfl
def zV (h:AH 13 #[.pointer oN,.agg #[.U 0,.I 0,.N]] σ R (CI .i64 fun Yz y=>AH 14 #[.pointer oN] y R (fun z AE=>∃AKv AKw AKx AKy th,z=(.tuple #[.slice AKv AKw AKx,.I AKy,.I th])∧AK (x9-1)∧2≠(0:Int)∧Df (IntKind.i64.wrap (Int.tdiv (x9-1) 2)) fun Y0=>AK (x8-Y0)∧Br (Yz=0) (Br (((x8-Y0):Int)≤Jl) (Br (th≠0) (R (.B false) AE) (AK (x15+1)∧Wt R p2 n2 c2 x8 x9 oN WX n13 UR Jl (x15+1) AE)) (R (.B false) AE)) (Br (((x8-Y0):Int)≤Jl) (R (.B false) AE) (Br (Yz≠271) (R (.B false) AE) (Br (th≠273) (R (.B false) AE) (AK (x15+1)∧Wt R p2 n2 c2 x8 x9 oN WX n13 UR Jl (x15+1) AE))))))):dj R p2 n2 c2 x8 x9 oN WX n13 UR Jl x15 σ:=M.of h ok rfl
end Ac
namespace Eo
variable {Cg CA x2:Int}{p0b p1b:Option Addr}{n0b c0b n1b c1b:Nat}
def M:Fw:=⟨prog,7,f7,[],[0,1],false,[],[],[(464,[(0,.X 30 [.I .u64,.L]),(1,.X 30 [.I .u64,.L]),(2,wI)])]⟩
def ok:M.Ok:=⟨AG.nil,mixed,func7,by kernel_rfl⟩
def CM:=M.pt 0
def start (h:∀b0:Nat,∀b1:Nat,CM R 0 none 0 0 0 none 0 0 0 σ):Spec prog 7 #[] σ R:=M.start h ok
def BE (h:Br (x2<3) (Al σ fun Cs=>Al (Hp.set σ Cs (.cells #[.int .u32 7] 52 (0,0))) fun F6=>AI prog (GO 28 p1b n1b c1b F6) (Hp.set (Hp.set σ Cs (.cells #[.int .u32 7] 52 (0,0))) F6 (.cells #[.I x2,.I 2,(.slice (aD Cs 0) 1 1)] 55 (0,0))) (CS fun WX n13 UR y=>AK (x2+1)∧CM R Cg p0b n0b c0b CA WX n13 UR (x2+1) y)) (R (.returned (.agg #[.U CA,.slice p1b n1b c1b])) σ)):CM R Cg p0b n0b c0b CA p1b n1b c1b x2 σ:=M.iW h ok rfl fun _ _=>by kernel_rfl
end Eo
namespace Eb
variable {q0 p2:Option Addr}{x1:Int}{n2 c2:Nat}
def M:Fw:=⟨prog,11,f11,[10],[],false,[],[],[]⟩
def ok:M.Ok:=⟨.cons call10 (AG.nil),mixed,func11,by kernel_rfl⟩
def start (h:Pq q0 fun Gn Sk=>LM σ Gn (Sk+4) fun m15=>AI prog (Instr.lookup 69 (.map m15) (.I x1) true) σ (fun z y=>∃RR ti,z=(.tuple #[.I RR,.bool ti])∧Bn ti (R (.returned (.I 270)) y) (LS y Gn (Sk+11) fun qp n26 qq=>Al y fun b28=>AH 10 #[(.slice (aD b28 0) 2 2)] (Hp.set y b28 (.cells #[.slice qp n26 qq,.slice p2 n2 c2] 22 (0,0))) R (fun z AE=>∃AK1 AK2 AK3 tj,z=(.tuple #[.slice AK1 AK2 AK3,.I tj])∧Br (tj≠0) (R (.returned (.I tj)) AE) (LM AE Gn (Sk+4) fun m38=>AI prog (Instr.lookup 69 (.map m38) (.I x1) false) AE (CI .i64 fun cY AJ=>AK (cY+1)∧AI prog (Instr.mapUpdate 69 (.map m38) (.I x1) (.I (cY+1))) AJ (fun _ Ah=>AI prog (Instr.storeAt 22 (.pointer (aD Gn (Sk+11))) (.slice AK1 AK2 AK3)) Ah (fun _ CF=>R (.returned (.I 0)) CF)))))))):Spec prog 11 #[.pointer q0,.I x1,.slice p2 n2 c2] σ R:=M.start h ok
end Eb
namespace De
variable {p0 p1 Ko p33:Option Addr}{n0 c0 n1 c1 n11 Kq n33 c33:Nat}{x2 sS RA:Int}
def M:Fw:=⟨prog,15,f15,[44,45,46],[13],false,[],[],[(4072,[(2,wI),(11,wL),(33,wL),(34,wI),(35,wI)])]⟩
def ok:M.Ok:=⟨.cons call44 (.cons call45 (.cons call46 (AG.nil))),mixed,func15,by kernel_rfl⟩
def S1:=M.pt 0
def start (h:AH 44 #[.slice p0 n0 c0,.slice p1 n1 c1] σ R (CI .i64 fun x16 y=>Br (x16≠0) (R (.T #[.N,.I x16]) y) (AH 45 #[.I x2] y R (CB fun t21 AE=>Bn t21 (R (.T #[.N,.I 221]) AE) (AH 46 #[.slice p0 n0 c0,.slice p1 n1 c1,.I x2] AE R (fun z AJ=>∃PO NO PQ dn,z=(.tuple #[.slice PO NO PQ,.I dn])∧Br (dn≠0) (R (.T #[.N,.I dn]) AJ) (S1 R x2 none 0 0 PO NO PQ (NO:Int) 0 AJ))))))):Spec prog 15 #[.slice p0 n0 c0,.slice p1 n1 c1,.I x2] σ R:=M.start h ok
def TS (h:Br (RA<sS) (Pq p33 fun yk ym=>In RA (n33:Int)∧∃zW zX zY H4,Am σ yk (ym+RA.toNat*2) [.slice zW zX zY,.U H4]∧∀Gn:Nat,(Al σ fun Wm=>(AI prog (Builtin.append_ #[95,95] 95 #[(.slice (aD Wm 0) 0 0),.slice zW zX zY]) (Hp.set σ Wm (.cells #[] 144 (0,0))) (CS fun qu n43 qw y=>Al y fun Sz=>Al (Hp.set y Sz (.cells #[.I x2,.U H4] 111 (0,0))) fun Yt=>AI prog (GO 22 Ko n11 Kq Yt) (Hp.set (Hp.set y Sz (.cells #[.I x2,.U H4] 111 (0,0))) Yt (.cells #[.slice qu n43 qw,(.slice (aD Sz 0) 1 1)] 98 (0,0))) (CS fun xl n51 xm AE=>AK (RA+1)∧S1 R x2 xl n51 xm (aD yk ym) n33 c33 sS (RA+1) AE)))∧(Al (Hp.set σ Wm (.cells #[] 144 (0,0))) fun Sz=>AI prog (Builtin.append_ #[95,95] 95 #[(.slice (aD Wm 0) 0 0),.slice zW zX zY]) (Hp.set (Hp.set σ Wm (.cells #[] 144 (0,0))) Sz (.cells #[.I x2,.U H4] 111 (0,0))) (CS fun qu n43 qw y=>Al y fun Yt=>AI prog (GO 22 Ko n11 Kq Yt) (Hp.set y Yt (.cells #[.slice qu n43 qw,(.slice (aD Sz 0) 1 1)] 98 (0,0))) (CS fun xl n51 xm AE=>AK (RA+1)∧S1 R x2 xl n51 xm (aD yk ym) n33 c33 sS (RA+1) AE))))∧(Al σ fun Sz=>Al (Hp.set σ Sz (.cells #[.I x2,.U H4] 111 (0,0))) fun Wm=>AI prog (Builtin.append_ #[95,95] 95 #[(.slice (aD Wm 0) 0 0),.slice zW zX zY]) (Hp.set (Hp.set σ Sz (.cells #[.I x2,.U H4] 111 (0,0))) Wm (.cells #[] 144 (0,0))) (CS fun qu n43 qw y=>Al y fun Yt=>AI prog (GO 22 Ko n11 Kq Yt) (Hp.set y Yt (.cells #[.slice qu n43 qw,(.slice (aD Sz 0) 1 1)] 98 (0,0))) (CS fun xl n51 xm AE=>AK (RA+1)∧S1 R x2 xl n51 xm (aD yk ym) n33 c33 sS (RA+1) AE)))) (R (.T #[.slice Ko n11 Kq,.I 0]) σ)):S1 R x2 Ko n11 Kq p33 n33 c33 sS RA σ:=M.of h ok rfl
end De
namespace Gb
variable {p0 q5 Ko:Option Addr}{n0 c0 n11 Kq:Nat}{x12 E2:Int}
def M:Fw:=⟨prog,24,f24,[54],[7],false,[],[],[(232,[(0,wL),(5,wQ),(11,wL),(12,wI),(13,wI)])]⟩
def ok:M.Ok:=⟨.cons call54 (AG.nil),mixed,func24,by kernel_rfl⟩
def Ap:=M.pt 0
def start (h:Al σ fun Cs=>Ap R p0 n0 c0 (aD Cs 0) p0 n0 c0 (n0:Int) 0 (Hp.set σ Cs (.cells #[.N] 124 (0,0)))):Spec prog 24 #[.slice p0 n0 c0] σ R:=M.start h ok
def AR (h:Br (E2<x12) (Pq Ko fun SB Ye=>In E2 (n11:Int)∧∃RR dh tn oK oL oM AK4 AK5 AK6 AK7 AK8 AK9 ALA ALB,Am σ SB (Ye+E2.toNat*10) [.I RR,.I dh,.string tn,.slice oK oL oM,.I AK4,.I AK5,.I AK6,.slice AK7 AK8 AK9,.bool ALA,.I ALB]∧∀b7:Nat,AH 54 #[.pointer q5,.agg #[.I RR,.I dh,.string tn,.slice oK oL oM,.I AK4,.I AK5,.I AK6,.slice AK7 AK8 AK9,.bool ALA,.I ALB]] σ R (CI .i64 fun Ms y=>Br (Ms≠0) (R (.T #[.I 0,.I E2,.I Ms]) y) (AK (E2+1)∧Ap R p0 n0 c0 q5 (aD SB Ye) n11 Kq x12 (E2+1) y))) (Pq q5 fun PR tq=>LS σ PR tq fun p29 n29 c29=>Br ((n29:Int)≠1) (R (.T #[.I 0,(.I (n0:Int)),.I 190]) σ) (Br (4096<(n0:Int)) (R (.T #[.I 0,(.I (n0:Int)),.I 190]) σ) (LS σ PR tq fun p42 n42 c42=>Pq p42 fun lP o43=>In 0 (n42:Int)∧LI .i64 σ lP o43 fun x45=>R (.T #[.I x45,.I 0,.I 0]) σ)))):Ap R p0 n0 c0 q5 Ko n11 Kq x12 E2 σ:=M.of h ok rfl
end Gb
namespace VL
def M:Fw:=⟨prog,34,f34,[],[],false,[],[],[]⟩
def ok:M.Ok:=⟨AG.nil,mixed,func34,by kernel_rfl⟩
def start (h:Al σ fun b2=>Al (Hp.set σ b2 (.cells #[(.string (ByteArray.mk #[95,95,110,97,109,101,95,95])),(.string (ByteArray.mk #[120]))] 144 (0,0))) fun b4=>Al (Hp.set (Hp.set σ b2 (.cells #[(.string (ByteArray.mk #[95,95,110,97,109,101,95,95])),(.string (ByteArray.mk #[120]))] 144 (0,0))) b4 (.cells #[.I 60,.U 5] 111 (0,0))) fun b6=>R (.returned (.slice (aD b6 0) 1 1)) (Hp.set (Hp.set (Hp.set σ b2 (.cells #[(.string (ByteArray.mk #[95,95,110,97,109,101,95,95])),(.string (ByteArray.mk #[120]))] 144 (0,0))) b4 (.cells #[.I 60,.U 5] 111 (0,0))) b6 (.cells #[(.slice (aD b2 0) 1 1),(.slice (aD b4 0) 1 1)] 98 (0,0)))):Spec prog 34 #[] σ R:=M.start h ok
end VL
namespace A7
variable {q0 p7:Option Addr}{n7 c7:Nat}{x8:Int}
def M:Fw:=⟨prog,43,f43,[15,21,77,78],[],false,[(11,9,true)],[],[(508,[(0,wQ),(7,wL),(8,wI)])]⟩
def ok:M.Ok:=⟨.cons call15 (.cons call21 (.cons call77 (.cons call78 (AG.nil)))),mixed,func43,by kernel_rfl⟩
def Hz:=M.pt 0
def start (h:AH 21 #[.pointer q0] σ R (CS fun Pn n10 KO y=>Br (0<(n10:Int)) (R (.T #[.N,.I 0,.I 272]) y) (Pq q0 fun TN dE=>LS y TN (dE+11) fun qs n17 bH=>LI .i64 y TN ((dE+7)+1) fun EG=>AH 77 #[.slice qs n17 bH,.I EG,.I 4611686018427387904] y R (fun z AE=>∃oG oH oI dH,z=(.tuple #[.slice oG oH oI,.I dH])∧LI .i64 AE TN (dE+3) fun Ss=>Br (Ss=0) (LS AE TN dE fun sd n35 ia=>LI .i64 AE TN (dE+1) fun cY=>AH 15 #[.slice sd n35 ia,.slice oG oH oI,.I cY] AE R (fun z AJ=>∃ALC ALD ALE ALF,z=(.tuple #[.slice ALC ALD ALE,.I ALF])∧Hz R (aD TN dE) ALC ALD ALE ALF AJ)) (LS AE TN dE fun p48 n48 c48=>LI .i64 AE TN (dE+1) fun x53=>LI .i64 AE TN (dE+2) fun x57=>LI .i64 AE TN (dE+3) fun x61=>AH 78 #[.slice p48 n48 c48,.slice oG oH oI,.I x53,.I x57,.I x61] AE R (fun z AJ=>∃ALG ALH ALI ALJ,z=(.tuple #[.slice ALG ALH ALI,.I ALJ])∧Hz R (aD TN dE) ALG ALH ALI ALJ AJ)))))):Spec prog 43 #[.pointer q0] σ R:=M.start h ok
def GH (h:Br (x8≠0) (R (.T #[.N,.I 0,.I x8]) σ) (Pq q0 fun b70 o70=>LI .i64 σ b70 ((o70+7)+1) fun x73=>R (.T #[.slice p7 n7 c7,.I x73,.I 0]) σ)):Hz R q0 p7 n7 c7 x8 σ:=M.of h ok rfl
end A7
namespace KU
variable {q0 Du EB:Option Addr}{CA Ba Dl DA Cf Cj:Int}{Dm:ByteArray}{Dx Dy Dz EC:Nat}{DI:Bool}
def M:Fw:=⟨prog,54,f54,[85,86,87],[3],false,[(6,9,true)],[],[]⟩
def ok:M.Ok:=⟨.cons call85 (.cons call86 (.cons call87 (AG.nil))),mixed,func54,by kernel_rfl⟩
def start (h:∀b3:Nat,AH 85 #[.agg #[.I CA,.I Ba,.string Dm,.slice Du Dx Dy,.I Dl,.I DA,.I Cf,.slice EB Dz EC,.bool DI,.I Cj]] σ R (CB fun t10 y=>Bn t10 (R (.returned (.I 190)) y) (Pq q0 fun SB Ye=>LS y SB Ye fun sT n18 ql=>Br ((n18:Int)<Cj) (R (.returned (.I 190)) y) (AH 86 #[.slice Du Dx Dy] y R (CI .i64 fun KM AE=>Br (KM≠0) (R (.returned (.I 193)) AE) (AI prog (Instr.makeMap 179 none) AE (fun z AJ=>∃zZ,z=(.map (some zZ))∧AH 87 #[.I 1] AJ R (fun z Ah=>∃f27 a27 xp,(Value.func f27 a27 xp)=z∧AI prog (Instr.mapUpdate 179 (.map (some zZ)) (.I 1) (Value.func f27 a27 xp)) Ah (fun _ CF=>AH 87 #[.I 2] CF R (fun z Fu=>∃f28 a28 c28,(Value.func f28 a28 c28)=z∧AI prog (Instr.mapUpdate 179 (.map (some zZ)) (.I 2) (Value.func f28 a28 c28)) Fu (fun _ FX=>AH 87 #[.I 3] FX R (fun z TJ=>∃f29 a29 c29,(Value.func f29 a29 c29)=z∧AI prog (Instr.mapUpdate 179 (.map (some zZ)) (.I 3) (Value.func f29 a29 c29)) TJ (fun _ Wk=>AI prog (Instr.mapUpdate 179 (.map (some zZ)) (.I 4) (.func (.func 88) #[(.pointer (aD SB Ye))] #[])) Wk (fun _ Jk=>AI prog (Instr.mapUpdate 179 (.map (some zZ)) (.I 5) (.func (.func 89) #[(.pointer (aD SB Ye))] #[])) Jk (fun _ iX=>AI prog (Instr.mapUpdate 179 (.map (some zZ)) (.I 6) (.func (.func 90) #[(.pointer (aD SB Ye))] #[])) iX (fun _ Wl=>AI prog (Instr.mapUpdate 179 (.map (some zZ)) (.I 7) (.func (.func 91) #[(.pointer (aD SB Ye))] #[])) Wl (fun _ UH=>LS UH SB Ye fun p42 n42 c42=>AK ((n42:Int)-Cj)∧LS UH SB Ye fun p56 n56 c56=>((0:Int)≤((n42:Int)-Cj)∧((n42:Int)-Cj)≤(n56:Int))∧AI prog (Instr.lookup 179 (.map (some zZ)) (.I CA) false) UH (fun z yj=>∃v51,v51=z∧Kp [SB] UH yj∧∃(f59:Nat) (ACO ACP:Array Value),v51=.func (.func f59) ACO ACP∧Enters prog f59∧Spec prog f59 (ACO++#[.agg #[.I CA,.I Ba,.string Dm,.slice Du Dx Dy,.I Dl,.I DA,.I Cf,.slice EB Dz EC,.bool DI,.I Cj],(.slice (E1 p56 (Int.toNat ((n42:Int)-Cj)) c56 1) (n56-Int.toNat ((n42:Int)-Cj)) (c56-Int.toNat ((n42:Int)-Cj)))]++ACP) yj (AZ R (fun z Yc=>∃Yx Ii,z=(.tuple #[.I Yx,.I Ii])∧LS Yc SB Ye fun xu tr lQ=>((0:Int)≤((n42:Int)-Cj)∧((n42:Int)-Cj)≤(lQ:Int))∧Al Yc fun jG=>AI prog (Builtin.append_ #[122,122] 122 #[(.slice xu (Int.toNat ((n42:Int)-Cj)) lQ),(.slice (aD jG 0) 1 1)]) (Hp.set Yc jG (.cells #[.I Yx] 130 (0,0))) (CS fun p72 n72 c72 AFL=>AI prog (Instr.storeAt 122 (.pointer (aD SB Ye)) (.slice p72 n72 c72)) AFL (fun _ AFM=>R (.returned (.I Ii)) AFM)))))))))))))))))))))):Spec prog 54 #[.pointer q0,.agg #[.I CA,.I Ba,.string Dm,.slice Du Dx Dy,.I Dl,.I DA,.I Cf,.slice EB Dz EC,.bool DI,.I Cj]] σ R:=M.start h ok
end KU
namespace lR
variable {x0:Int}
def M:Fw:=⟨prog,55,f55,[],[],false,[],[],[]⟩
def ok:M.Ok:=⟨AG.nil,mixed,func55,by kernel_rfl⟩
def start (h:Br (0≤x0) (R (.returned (.bool (decide (x0<16)))) σ) (R (.B false) σ)):Spec prog 55 #[.I x0] σ R:=M.start h ok
end lR
namespace VM
variable {x0:Int}
def M:Fw:=⟨prog,59,f59,[],[],false,[],[],[]⟩
def ok:M.Ok:=⟨AG.nil,mixed,func59,by kernel_rfl⟩
def start (h:Br (97≤x0) (Br (x0≤122) (R (.B true) σ) (Br (65≤x0) (Br (x0≤90) (R (.B true) σ) (Br (x0=95) (R (.B true) σ) (R (.returned (.bool (decide (x0=58)))) σ))) (Br (x0=95) (R (.B true) σ) (R (.returned (.bool (decide (x0=58)))) σ)))) (Br (65≤x0) (Br (x0≤90) (R (.B true) σ) (Br (x0=95) (R (.B true) σ) (R (.returned (.bool (decide (x0=58)))) σ))) (Br (x0=95) (R (.B true) σ) (R (.returned (.bool (decide (x0=58)))) σ)))):Spec prog 59 #[.int .u8 x0] σ R:=M.start h ok
end VM
namespace Dg
variable {q0:Option Addr}
def M:Fw:=⟨prog,64,f64,[63],[],false,[],[],[]⟩
def ok:M.Ok:=⟨.cons call63 (AG.nil),mixed,func64,by kernel_rfl⟩
def start (h:AH 63 #[.pointer q0,(.func (.func 101) #[.pointer q0] #[]),.I 11,.I 13] σ R (fun z y=>z=(.tuple #[])∧R (.T #[]) y)):Spec prog 64 #[.pointer q0] σ R:=M.start h ok
end Dg
namespace GB
variable {Cg Ck x0c x0d NL Hq CA Ba x1c x1d DA Cf Jl x15 Po Ss:Int}{p0e p1e WX p27:Option Addr}{n0e c0e xv c1e n13 UR n27 xp:Nat}
def M:Fw:=⟨prog,76,f76,[],[1],false,[],[],[(104,[(1,.X 89 [.I .u64,.I .i64,.I .i64,.I .i64,.L,.I .i64,.I .i64]),(13,wL),(14,wI),(15,wI)]),(232,[(1,.X 89 [.I .u64,.I .i64,.I .i64,.I .i64,.L,.I .i64,.I .i64]),(27,wL),(28,wI),(29,wI)])]⟩
def ok:M.Ok:=⟨AG.nil,mixed,func76,by kernel_rfl⟩
def Fv:=M.pt 0
def F7:=M.pt 1
def start (h:∀b1:Nat,Al σ fun Gn=>Fv R Cg Ck x0c x0d p0e n0e c0e NL Hq (aD Gn 0) 3 3 3 0 (Hp.set σ Gn (.cells #[.I x0d,.I NL,.I Hq] 3 (0,0)))):Spec prog 76 #[.agg #[.U Cg,.I Ck,.I x0c,.I x0d,.slice p0e n0e c0e,.I NL,.I Hq]] σ R:=M.start h ok
def As (h:Br (x15<Jl) (Pq WX fun Ie nq=>In x15 (n13:Int)∧LI .i64 σ Ie (nq+x15.toNat*1) fun KS=>Br (KS<0) (R (.B false) σ) (Br (2147483647<KS) (R (.B false) σ) (AK (x15+1)∧Fv R CA Ba x1c x1d p1e xv c1e DA Cf (aD Ie nq) n13 UR Jl (x15+1) σ))) (F7 R CA Ba x1c x1d p1e xv c1e DA Cf p1e xv c1e (xv:Int) 0 σ)):Fv R CA Ba x1c x1d p1e xv c1e DA Cf WX n13 UR Jl x15 σ:=M.Ya h ok rfl fun _=>by kernel_rfl
def G8 (h:Br (Ss<Po) (Pq p27 fun b32 o32=>In Ss (n27:Int)∧LI .u64 σ b32 (o32+Ss.toNat*1) fun x33=>Br (0<Ss) (AK (Ss-1)∧Pq p1e fun b42 o42=>In (Ss-1) (xv:Int)∧LI .u64 σ b42 (o42+Int.toNat (Ss-1)*1) fun gN=>Br (x33≤gN) (R (.B false) σ) (AK (Ss+1)∧F7 R CA Ba x1c x1d (aD b42 o42) xv c1e DA Cf (aD b32 o32) n27 xp Po (Ss+1) σ)) (AK (Ss+1)∧F7 R CA Ba x1c x1d p1e xv c1e DA Cf (aD b32 o32) n27 xp Po (Ss+1) σ)) (Br (Ba≤x1c) (R (.returned (.bool (decide ((xv:Int)≤64)))) σ) (R (.B false) σ))):F7 R CA Ba x1c x1d p1e xv c1e DA Cf p27 n27 xp Po Ss σ:=M.Ya h ok rfl fun _=>by kernel_rfl
end GB
namespace CN
variable {q0 p1 p4c HI p6 p7 I6:Option Addr}{n1 c1 n4c c4c HJ HK n6 c6 n7 c7 n14 Hu:Nat}{Ej GQ x15 x16:Int}
def M:Fw:=⟨prog,79,f79,[110],[4,9],false,[],[],[(488,[(0,wQ),(4,.X 164 [.I .i64,.I .u64,.L,.L]),(6,wL),(7,wL),(14,wL),(15,wI),(16,wI)])]⟩
def ok:M.Ok:=⟨.cons call110 (AG.nil),mixed,func79,by kernel_rfl⟩
def DB:=M.pt 0
def start (h:∀b4:Nat,AH 110 #[] σ R (CS fun WX n13 UR y=>DB R q0 0 0 none 0 0 none 0 0 WX n13 UR none 0 0 p1 n1 c1 (n1:Int) 0 y)):Spec prog 79 #[.pointer q0,.slice p1 n1 c1] σ R:=M.start h ok
def BX (h:Br (x16<x15) (Pq I6 fun XS iz=>In x16 (n14:Int)∧∃Jo Ki Y1 tu tw tz uA uB uC uD uE uF uG FP,Am σ XS (iz+x16.toNat*10) [.I Jo,.I Ki,.string Y1,.slice tu tw tz,.I uA,.I uB,.I uC,.slice uD uE uF,.bool uG,.I FP]∧∀b9:Nat,AK ((n7:Int)-FP)∧Pq p6 fun Qm XV=>In Jo (n6:Int)∧∃v30,Hp.ld σ ⟨Qm,(XV+Jo.toNat*1),none⟩=some v30∧((0:Int)≤((n7:Int)-FP)∧((n7:Int)-FP)≤(n7:Int))∧(Al σ fun Sl=>(AI prog (Builtin.append_ #[206,206] 206 #[(.slice (aD Sl 0) 0 0),(.slice (E1 p7 (Int.toNat ((n7:Int)-FP)) c7 4) (n7-Int.toNat ((n7:Int)-FP)) (c7-Int.toNat ((n7:Int)-FP)))]) (Hp.set σ Sl (.cells #[] 164 (0,0))) (CS fun Sm n37 Sn y=>Kp [Qm] (Hp.set σ Sl (.cells #[] 164 (0,0))) y∧(∃(f38:Nat) (II IJ:Array Value),v30=.func (.func f38) II IJ∧Enters prog f38∧Spec prog f38 (II++#[.pointer q0,.agg #[.I Jo,.I Ki,.string Y1,.slice tu tw tz,.I uA,.I uB,.I uC,.slice uD uE uF,.bool uG,.I FP],.slice Sm n37 Sn]++IJ) y (AZ R (fun z AE=>∃ME MF MG MH MJ MK ML MM H4,z=(.tuple #[.agg #[.I ME,.U MF,.slice MG MH MJ,.slice MK ML MM],.I H4])∧Al AE fun D5=>AI prog (Instr.storeAt 164 (.pointer (aD D5 0)) (.agg #[.I ME,.U MF,.slice MG MH MJ,.slice MK ML MM])) (Hp.set AE D5 (.cells #[.I 0,.U 0,.N,.N] 164 (0,0))) (fun _ AJ=>Br (H4≠0) (R (.T #[.agg #[.I 0,.U 0,.N,.N],.I H4]) AJ) (((0:Int)≤((n7:Int)-FP)∧((n7:Int)-FP)≤(c7:Int))∧∃P6 P7 P8 P9 QA QB QC QD,Am AJ D5 0 [.I P6,.U P7,.slice P8 P9 QA,.slice QB QC QD]∧Al AJ fun Xe=>AI prog (Builtin.append_ #[206,206] 206 #[(.slice p7 (Int.toNat ((n7:Int)-FP)) c7),(.slice (aD Xe 0) 1 1)]) (Hp.set AJ Xe (.cells #[.I P6,.U P7,.slice P8 P9 QA,.slice QB QC QD] 164 (0,0))) (CS fun jE n50 jF Ah=>AK (x16+1)∧DB R q0 Ej GQ p4c n4c c4c HI HJ HK (aD Qm XV) n6 c6 jE n50 jF (aD XS iz) n14 Hu x15 (x16+1) Ah))))))∧(Al y fun D5=>∃(f38:Nat) (II IJ:Array Value),v30=.func (.func f38) II IJ∧Enters prog f38∧Spec prog f38 (II++#[.pointer q0,.agg #[.I Jo,.I Ki,.string Y1,.slice tu tw tz,.I uA,.I uB,.I uC,.slice uD uE uF,.bool uG,.I FP],.slice Sm n37 Sn]++IJ) (Hp.set y D5 (.cells #[.I 0,.U 0,.N,.N] 164 (0,0))) (AZ R (fun z AE=>∃ME MF MG MH MJ MK ML MM H4,z=(.tuple #[.agg #[.I ME,.U MF,.slice MG MH MJ,.slice MK ML MM],.I H4])∧AI prog (Instr.storeAt 164 (.pointer (aD D5 0)) (.agg #[.I ME,.U MF,.slice MG MH MJ,.slice MK ML MM])) AE (fun _ AJ=>Br (H4≠0) (R (.T #[.agg #[.I 0,.U 0,.N,.N],.I H4]) AJ) (((0:Int)≤((n7:Int)-FP)∧((n7:Int)-FP)≤(c7:Int))∧∃P6 P7 P8 P9 QA QB QC QD,Am AJ D5 0 [.I P6,.U P7,.slice P8 P9 QA,.slice QB QC QD]∧Al AJ fun Xe=>AI prog (Builtin.append_ #[206,206] 206 #[(.slice p7 (Int.toNat ((n7:Int)-FP)) c7),(.slice (aD Xe 0) 1 1)]) (Hp.set AJ Xe (.cells #[.I P6,.U P7,.slice P8 P9 QA,.slice QB QC QD] 164 (0,0))) (CS fun jE n50 jF Ah=>AK (x16+1)∧DB R q0 Ej GQ p4c n4c c4c HI HJ HK (aD Qm XV) n6 c6 jE n50 jF (aD XS iz) n14 Hu x15 (x16+1) Ah))))))))∧(Al (Hp.set σ Sl (.cells #[] 164 (0,0))) fun D5=>AI prog (Builtin.append_ #[206,206] 206 #[(.slice (aD Sl 0) 0 0),(.slice (E1 p7 (Int.toNat ((n7:Int)-FP)) c7 4) (n7-Int.toNat ((n7:Int)-FP)) (c7-Int.toNat ((n7:Int)-FP)))]) (Hp.set (Hp.set σ Sl (.cells #[] 164 (0,0))) D5 (.cells #[.I 0,.U 0,.N,.N] 164 (0,0))) (CS fun Sm n37 Sn y=>Kp [Qm] (Hp.set (Hp.set σ Sl (.cells #[] 164 (0,0))) D5 (.cells #[.I 0,.U 0,.N,.N] 164 (0,0))) y∧∃(f38:Nat) (II IJ:Array Value),v30=.func (.func f38) II IJ∧Enters prog f38∧Spec prog f38 (II++#[.pointer q0,.agg #[.I Jo,.I Ki,.string Y1,.slice tu tw tz,.I uA,.I uB,.I uC,.slice uD uE uF,.bool uG,.I FP],.slice Sm n37 Sn]++IJ) y (AZ R (fun z AE=>∃ME MF MG MH MJ MK ML MM H4,z=(.tuple #[.agg #[.I ME,.U MF,.slice MG MH MJ,.slice MK ML MM],.I H4])∧AI prog (Instr.storeAt 164 (.pointer (aD D5 0)) (.agg #[.I ME,.U MF,.slice MG MH MJ,.slice MK ML MM])) AE (fun _ AJ=>Br (H4≠0) (R (.T #[.agg #[.I 0,.U 0,.N,.N],.I H4]) AJ) (((0:Int)≤((n7:Int)-FP)∧((n7:Int)-FP)≤(c7:Int))∧∃P6 P7 P8 P9 QA QB QC QD,Am AJ D5 0 [.I P6,.U P7,.slice P8 P9 QA,.slice QB QC QD]∧Al AJ fun Xe=>AI prog (Builtin.append_ #[206,206] 206 #[(.slice p7 (Int.toNat ((n7:Int)-FP)) c7),(.slice (aD Xe 0) 1 1)]) (Hp.set AJ Xe (.cells #[.I P6,.U P7,.slice P8 P9 QA,.slice QB QC QD] 164 (0,0))) (CS fun jE n50 jF Ah=>AK (x16+1)∧DB R q0 Ej GQ p4c n4c c4c HI HJ HK (aD Qm XV) n6 c6 jE n50 jF (aD XS iz) n14 Hu x15 (x16+1) Ah))))))))∧(Al σ fun D5=>Al (Hp.set σ D5 (.cells #[.I 0,.U 0,.N,.N] 164 (0,0))) fun Sl=>AI prog (Builtin.append_ #[206,206] 206 #[(.slice (aD Sl 0) 0 0),(.slice (E1 p7 (Int.toNat ((n7:Int)-FP)) c7 4) (n7-Int.toNat ((n7:Int)-FP)) (c7-Int.toNat ((n7:Int)-FP)))]) (Hp.set (Hp.set σ D5 (.cells #[.I 0,.U 0,.N,.N] 164 (0,0))) Sl (.cells #[] 164 (0,0))) (CS fun Sm n37 Sn y=>Kp [Qm] (Hp.set (Hp.set σ D5 (.cells #[.I 0,.U 0,.N,.N] 164 (0,0))) Sl (.cells #[] 164 (0,0))) y∧∃(f38:Nat) (II IJ:Array Value),v30=.func (.func f38) II IJ∧Enters prog f38∧Spec prog f38 (II++#[.pointer q0,.agg #[.I Jo,.I Ki,.string Y1,.slice tu tw tz,.I uA,.I uB,.I uC,.slice uD uE uF,.bool uG,.I FP],.slice Sm n37 Sn]++IJ) y (AZ R (fun z AE=>∃ME MF MG MH MJ MK ML MM H4,z=(.tuple #[.agg #[.I ME,.U MF,.slice MG MH MJ,.slice MK ML MM],.I H4])∧AI prog (Instr.storeAt 164 (.pointer (aD D5 0)) (.agg #[.I ME,.U MF,.slice MG MH MJ,.slice MK ML MM])) AE (fun _ AJ=>Br (H4≠0) (R (.T #[.agg #[.I 0,.U 0,.N,.N],.I H4]) AJ) (((0:Int)≤((n7:Int)-FP)∧((n7:Int)-FP)≤(c7:Int))∧∃P6 P7 P8 P9 QA QB QC QD,Am AJ D5 0 [.I P6,.U P7,.slice P8 P9 QA,.slice QB QC QD]∧Al AJ fun Xe=>AI prog (Builtin.append_ #[206,206] 206 #[(.slice p7 (Int.toNat ((n7:Int)-FP)) c7),(.slice (aD Xe 0) 1 1)]) (Hp.set AJ Xe (.cells #[.I P6,.U P7,.slice P8 P9 QA,.slice QB QC QD] 164 (0,0))) (CS fun jE n50 jF Ah=>AK (x16+1)∧DB R q0 Ej GQ p4c n4c c4c HI HJ HK (aD Qm XV) n6 c6 jE n50 jF (aD XS iz) n14 Hu x15 (x16+1) Ah)))))))) (Pq p7 fun Mq o53=>In 0 (n7:Int)∧∃dq dt ALN ALO ALP du dw dz,Am σ Mq o53 [.I dq,.U dt,.slice ALN ALO ALP,.slice du dw dz]∧R (.T #[.agg #[.I dq,.U dt,.slice ALN ALO ALP,.slice du dw dz],.I 0]) σ)):DB R q0 Ej GQ p4c n4c c4c HI HJ HK p6 n6 c6 p7 n7 c7 I6 n14 Hu x15 x16 σ:=M.Ya h ok rfl fun _=>by kernel_rfl
end CN
namespace Ec
variable {Cg Ck x8 x9:Int}{lF p3 p7:Option Addr}{bF lG n3 c3 n7 c7:Nat}
def M:Fw:=⟨prog,84,f84,[],[1,5],false,[],[],[(232,[(3,wL),(7,wL),(8,wI),(9,wI)]),(935,[(3,wL),(7,wL),(8,wI),(9,wI)])]⟩
def ok:M.Ok:=⟨AG.nil,mixed,func84,by kernel_rfl⟩
def Ap:=M.pt 0
def Hz:=M.pt 1
def start (h:∀b1:Nat,Ap R none 0 0 lF bF lG (bF:Int) 0 σ):Spec prog 84 #[.agg #[.U Cg,.I Ck,.slice lF bF lG]] σ R:=M.start h ok
def AR (h:Br (x9<x8) (Pq p7 fun F6 IH=>In x9 (n7:Int)∧∃G7 jD AR6 AR7 AR8 AR9 ASA ASB ASC ALQ ASD,Am σ F6 (IH+x9.toNat*9) [.U G7,.I jD,.I AR6,.I AR7,.slice AR8 AR9 ASA,.I ASB,.I ASC,.bool ALQ,.I ASD]∧∀b5:Nat,Bn ALQ (Al σ fun F3=>AI prog (GO 50 p3 n3 c3 F3) (Hp.set σ F3 (.cells #[.I x9] 3 (0,0))) (CS fun TO n20 RG y=>Hz R TO n20 RG (aD F6 IH) n7 c7 x8 x9 y)) (Hz R p3 n3 c3 (aD F6 IH) n7 c7 x8 x9 σ)) (R (.returned (.slice p3 n3 c3)) σ)):Ap R p3 n3 c3 p7 n7 c7 x8 x9 σ:=M.of h ok rfl
def GH (h:AK (x9+1)∧Ap R p3 n3 c3 p7 n7 c7 x8 (x9+1) σ):Hz R p3 n3 c3 p7 n7 c7 x8 x9 σ:=M.of h ok rfl
end Ec
namespace IL
variable {s0:ByteArray}{x1:Int}
def M:Fw:=⟨prog,92,f92,[121],[],false,[],[],[]⟩
def ok:M.Ok:=⟨.cons call121 (AG.nil),mixed,func92,by kernel_rfl⟩
def start (h:AH 121 #[.string s0,.int .u8 x1] σ R (CI .i64 fun x7 y=>R (.returned (.I x7)) y)):Spec prog 92 #[.string s0,.int .u8 x1] σ R:=M.start h ok
end IL
namespace Av
variable {q0 q1:Option Addr}{s2a s2b AFQ AFR:ByteArray}{dC dD x11:Int}{b7:Nat}
def M:Fw:=⟨prog,99,f99,[97,98,122],[6],false,[(6,12,false)],[],[(56,[(0,wQ),(1,wQ),(7,wA),(10,.G [.T,.T]),(11,wI)])]⟩
def ok:M.Ok:=⟨.cons call97 (.cons call98 (.cons call122 (AG.nil))),mixed,func99,by kernel_rfl⟩
def xo:=M.pt 0
def start (h:∀b6:Nat,Al σ fun b7=>xo R q0 q1 b7 s2a s2b 0 (Hp.set σ b7 (.cells #[.I dC,.I dD] 189 (0,0)))):Spec prog 99 #[.pointer q0,.pointer q1,.agg #[.string s2a,.string s2b],.agg #[.I dC,.I dD]] σ R:=M.start h ok
def UQ (h:Br (x11<2) (In x11 2∧∃s14:ByteArray,[AFQ,AFR][x11.toNat]?=some s14∧AH 98 #[.pointer q0,.I 3,.string s14] σ R (CB fun t17 y=>Bo t17 (AH 97 #[.pointer q0] y R (fun z AE=>∃Jo Ki Y1 AFS,z=(.agg #[.I Jo,.I Ki,.string Y1,.I AFS])∧In x11 2∧LI .i64 AE b7 (0+x11.toNat*1) fun KM=>AH 122 #[.pointer q0] AE R (CS fun qp n26 qq AJ=>Kp [b7] AE AJ∧Pq q1 fun PR tq=>AI prog (Instr.storeAt 3 (.pointer (aD PR (tq+6))) (.I KM)) AJ (fun _ Ah=>AI prog (Instr.storeAt 125 (.pointer (aD PR (tq+7))) (.slice qp n26 qq)) Ah (fun _ CF=>R (.T #[]) CF))))) (AK (x11+1)∧xo R q0 q1 b7 AFQ AFR (x11+1) y))) (R (.T #[]) σ)):xo R q0 q1 b7 AFQ AFR x11 σ:=M.of h ok rfl
end Av
namespace CO
variable {s0 s1:ByteArray}
def M:Fw:=⟨prog,104,f104,[],[],false,[],[],[]⟩
def ok:M.Ok:=⟨AG.nil,mixed,func104,by kernel_rfl⟩
def start (h:EN prog 124 #[.string s0,.string s1] σ (CI .i64 fun x7 y=>R (.returned (.I x7)) y)):Spec prog 104 #[.string s0,.string s1] σ R:=M.start h ok
end CO
namespace VN
variable {x0 x1:Int}
def M:Fw:=⟨prog,115,f115,[],[],false,[],[],[]⟩
def ok:M.Ok:=⟨AG.nil,mixed,func115,by kernel_rfl⟩
def start (h:Br (x1≤x0) (R (.returned (.bool (decide (x0<2147483648)))) σ) (R (.B false) σ)):Spec prog 115 #[.I x0,.I x1] σ R:=M.start h ok
end VN
namespace AW
variable {q0 Du EB p2 HI Ik Hw Gr p9 tO TL p79 RD WW q13:Option Addr}{CA Ba Dl DA Cf Cj Ej GQ Il G3 Im JV Gp Gq Ew KM x80 x81 PL:Int}{Dm IE:ByteArray}{Dx Dy Dz EC n2 c2 HJ HK Io Ip Hx Hy Gs Gt n9 c9 n22 oJ n15 RB n79 c79 RE RF n12 UO:Nat}{DI JW:Bool}{m8:Option Nat}{oC:Value}
def M:Fw:=⟨prog,133,f133,[107,158,160,161,162],[4,6,11],false,[(17,11,false)],[],[(488,[(4,.X 127 [.I .i64,.I .i64,.T,.L,.I .i64,.I .i64,.I .i64,.L,.B,.I .i64]),(6,.X 164 [.I .i64,.I .u64,.L,.L]),(8,wM),(9,wL),(22,wL),(23,wI),(24,wI)]),(4072,[(6,.X 164 [.I .i64,.I .u64,.L,.L]),(14,wV),(15,wL),(79,wL),(80,wI),(81,wI)]),(62670,[(4,.X 127 [.I .i64,.I .i64,.T,.L,.I .i64,.I .i64,.I .i64,.L,.B,.I .i64]),(6,.X 164 [.I .i64,.I .u64,.L,.L]),(8,wM),(9,wL),(11,.X 109 [.L,.I .u64]),(12,wL),(22,wL),(23,wI),(24,wI)]),(125343,[(4,.X 127 [.I .i64,.I .i64,.T,.L,.I .i64,.I .i64,.I .i64,.L,.B,.I .i64]),(6,.X 164 [.I .i64,.I .u64,.L,.L]),(8,wM),(9,wL),(11,.X 109 [.L,.I .u64]),(13,wQ),(22,wL),(23,wI),(24,wI)])]⟩
def ok:M.Ok:=⟨.cons call107 (.cons call158 (.cons call160 (.cons call161 (.cons call162 (AG.nil))))),mixed,func133,by kernel_rfl⟩
def DB:=M.pt 0
def za:=M.pt 1
def RI:=M.pt 2
def uH:=M.pt 3
def start (h:∀b4:Nat,∀b6:Nat,AI prog (Instr.makeMap 242 none) σ (fun z y=>∃m18,z=(.map (some m18))∧Pq p2 fun bG iq=>In 0 (n2:Int)∧LS y bG (iq+2) fun tO n22 oJ=>DB R CA Ba Dm Du Dx Dy Dl DA Cf EB Dz EC DI Cj 0 0 none 0 0 none 0 0 (some m18) none 0 0 tO n22 oJ (n22:Int) 0 y)):Spec prog 133 #[.pointer q0,.agg #[.I CA,.I Ba,.string Dm,.slice Du Dx Dy,.I Dl,.I DA,.I Cf,.slice EB Dz EC,.bool DI,.I Cj],.slice p2 n2 c2] σ R:=M.start h ok
def BX (h:Br (KM<Ew) (Pq tO fun lH xq=>In KM (n22:Int)∧∃PO NO PQ dn,Am σ lH (xq+KM.toNat*2) [.slice PO NO PQ,.U dn]∧∀D5:Nat,Br (Im=1) (AH 161 #[.slice PO NO PQ,.slice Ik Io Ip] σ R (CS fun p36 n36 c36 y=>RI R Ej GQ IE HI HJ HK Il G3 Im Ik Io Ip JW JV Gp Gq Hw Hx Hy Gr Gs Gt m8 p9 n9 c9 PO NO PQ dn p36 n36 c36 (aD lH xq) n22 oJ Ew KM y)) (Br (Im=2) (AH 162 #[.slice PO NO PQ,.slice Ik Io Ip] σ R (CS fun qu n43 qw y=>AH 158 #[.slice qu n43 qw] y R (CS fun qm n44 se AE=>RI R Ej GQ IE HI HJ HK Il G3 Im Ik Io Ip JW JV Gp Gq Hw Hx Hy Gr Gs Gt m8 p9 n9 c9 PO NO PQ dn qm n44 se (aD lH xq) n22 oJ Ew KM AE))) (RI R Ej GQ IE HI HJ HK Il G3 Im Ik Io Ip JW JV Gp Gq Hw Hx Hy Gr Gs Gt m8 p9 n9 c9 PO NO PQ dn none 0 0 (aD lH xq) n22 oJ Ew KM σ))) (AI prog (Instr.makeMap 247 none) σ (fun z y=>∃m74,z=(.map (some m74))∧AI prog (Instr.mapUpdate 247 (.map (some m74)) (.I 1) (.func (.func 163) #[] #[])) y (fun _ AE=>AI prog (Instr.mapUpdate 247 (.map (some m74)) (.I 2) (.func (.func 164) #[] #[])) AE (fun _ AJ=>AI prog (Instr.mapUpdate 247 (.map (some m74)) (.I 3) (.func (.func 165) #[] #[])) AJ (fun _ Ah=>AI prog (Instr.mapUpdate 247 (.map (some m74)) (.I 4) (.func (.func 166) #[] #[])) Ah (fun _ CF=>AI prog (Instr.mapUpdate 247 (.map (some m74)) (.I 5) (.func (.func 167) #[] #[])) CF (fun _ Fu=>AI prog (Instr.lookup 247 (.map (some m74)) (.I GQ) false) Fu (fun z FX=>∃v78,v78=z∧za R Gp Gq Hw Hx Hy Gr Gs Gt v78 none 0 0 p9 n9 c9 (n9:Int) 0 FX))))))))):DB R Ej GQ IE HI HJ HK Il G3 Im Ik Io Ip JW JV Gp Gq Hw Hx Hy Gr Gs Gt m8 p9 n9 c9 tO n22 oJ Ew KM σ:=M.iW h ok rfl fun _ _=>by kernel_rfl
def lS (h:Br (x81<x80) (Pq p79 fun b83 o83=>In x81 (n79:Int)∧LQ σ b83 (o83+x81.toNat*1) fun q84=>Pq q84 fun b87 o87=>LS σ b87 o87 fun p89 n89 c89=>LS σ b87 (o87+1) fun p94 n94 c94=>∃(f95:Nat) (eA eB:Array Value),oC=.func (.func f95) eA eB∧Enters prog f95∧Spec prog f95 (eA++#[.slice p94 n94 c94]++eB) σ (AZ R (CI .u64 fun x95 y=>Kp [b87] σ y∧Al y fun b97=>AI prog (GO 105 TL n15 RB b97) (Hp.set y b97 (.cells #[.slice p89 n89 c89,.U x95] 109 (0,0))) (CS fun p98 n98 c98 AE=>AK (x81+1)∧za R Gp Gq Hw Hx Hy Gr Gs Gt oC p98 n98 c98 (aD b83 o83) n79 c79 x80 (x81+1) AE)))) (AH 160 #[.slice TL n15 RB] σ R (fun z y=>∃uI uJ uK uL uM uN uO uP ACQ,z=(.tuple #[.agg #[.I uI,.U uJ,.slice uK uL uM,.slice uN uO uP],.I ACQ])∧R (.T #[.agg #[.I uI,.U uJ,.slice uK uL uM,.slice uN uO uP],.I ACQ]) y))):za R Gp Gq Hw Hx Hy Gr Gs Gt oC TL n15 RB p79 n79 c79 x80 x81 σ:=M.Ya h ok rfl fun _=>by kernel_rfl
def TT (h:AH 107 #[.slice WW n12 UO] σ R (CT fun s47 y=>AI prog (Instr.lookup 242 (.map m8) (.string s47) false) y (CQ fun q48 AE=>Bo (Option.isNone q48) (Al AE fun Mq=>AH 107 #[.slice WW n12 UO] (Hp.set AE Mq (.cells #[.slice WW n12 UO,.N] 234 (0,0))) R (CT fun s56 AJ=>AI prog (Instr.mapUpdate 242 (.map m8) (.string s56) (.pointer (aD Mq 0))) AJ (fun _ Ah=>Al Ah fun b60=>AI prog (GO 243 p9 n9 c9 b60) (Hp.set Ah b60 (.cells #[(.pointer (aD Mq 0))] 245 (0,0))) (CS fun p61 n61 c61 CF=>uH R Ej GQ IE HI HJ HK Il G3 Im Ik Io Ip JW JV Gp Gq Hw Hx Hy Gr Gs Gt m8 p61 n61 c61 RD RE RF PL (aD Mq 0) tO n22 oJ Ew KM CF)))) (uH R Ej GQ IE HI HJ HK Il G3 Im Ik Io Ip JW JV Gp Gq Hw Hx Hy Gr Gs Gt m8 p9 n9 c9 RD RE RF PL q48 tO n22 oJ Ew KM AE)))):RI R Ej GQ IE HI HJ HK Il G3 Im Ik Io Ip JW JV Gp Gq Hw Hx Hy Gr Gs Gt m8 p9 n9 c9 RD RE RF PL WW n12 UO tO n22 oJ Ew KM σ:=M.of3 h ok rfl fun _ _ _=>by kernel_rfl
def zb (h:Pq q13 fun b64 o64=>LS σ b64 (o64+1) fun xu tr lQ=>Al σ fun b69=>AI prog (GO 60 xu tr lQ b69) (Hp.set σ b69 (.cells #[.U PL] 27 (0,0))) (CS fun p70 n70 c70 y=>AI prog (Instr.storeAt 60 (.pointer (aD b64 (o64+1))) (.slice p70 n70 c70)) y (fun _ AE=>AK (KM+1)∧DB R Ej GQ IE HI HJ HK Il G3 Im Ik Io Ip JW JV Gp Gq Hw Hx Hy Gr Gs Gt m8 p9 n9 c9 tO n22 oJ Ew (KM+1) AE))):uH R Ej GQ IE HI HJ HK Il G3 Im Ik Io Ip JW JV Gp Gq Hw Hx Hy Gr Gs Gt m8 p9 n9 c9 RD RE RF PL q13 tO n22 oJ Ew KM σ:=M.of3 h ok rfl fun _ _ _=>by kernel_rfl
end AW
namespace FQ
variable {q0:Option Addr}{s1:ByteArray}
def M:Fw:=⟨prog,137,f137,[32,97,98],[],false,[],[],[(3,[(0,wQ)])]⟩
def ok:M.Ok:=⟨.cons call32 (.cons call97 (.cons call98 (AG.nil))),mixed,func137,by kernel_rfl⟩
def ij:=M.pt 0
def start (h:AH 98 #[.pointer q0,.I 5,.string s1] σ R (CB fun t6 y=>Bn t6 (AH 32 #[.pointer q0] y R (fun z AE=>z=(.tuple #[])∧ij R q0 AE)) (ij R q0 y))):Spec prog 137 #[.pointer q0,.string s1] σ R:=M.start h ok
def UN (h:AH 97 #[.pointer q0] σ R (fun z y=>∃Yp PL nk y5,z=(.agg #[.I Yp,.I PL,.string nk,.I y5])∧R (.T #[]) y)):ij R q0 σ:=M.of h ok rfl
end FQ
namespace QE
variable {x0:Int}
def M:Fw:=⟨prog,156,f156,[183,191,192],[],false,[],[],[]⟩
def ok:M.Ok:=⟨.cons call183 (.cons call191 (.cons call192 (AG.nil))),mixed,func156,by kernel_rfl⟩
def start (h:AH 192 #[.U x0] σ R (fun z y=>∃x4,(Value.float .f64 x4)=z∧AH 191 #[(Value.float .f64 x4)] y R (fun z AE=>∃x5,(Value.float .f64 x5)=z∧AH 183 #[(Value.float .f64 x5)] AE R (CI .u64 fun x6 AJ=>R (.returned (.U x6)) AJ)))):Spec prog 156 #[.U x0] σ R:=M.start h ok
end QE
namespace BD
variable {q0 Du EB p2 Jt Jz FY Fb Pn TL:Option Addr}{CA Ba Dl DA Cf Cj Jr H3 Jw Jx Jy J2 EW Em x16 x17:Int}{Dm Js:ByteArray}{Dx Dy Dz EC n2 c2 Ju Jv J0 J1 FZ Fa Fc Fe n10 KO n15 RB:Nat}{DI LY:Bool}{v3:Value}
def M:Fw:=⟨prog,169,f169,[116,158,160],[5,8,12],false,[],[],[(232,[(3,wV),(5,.X 127 [.I .i64,.I .i64,.T,.L,.I .i64,.I .i64,.I .i64,.L,.B,.I .i64]),(8,.X 164 [.I .i64,.I .u64,.L,.L]),(10,wL),(15,wL),(16,wI),(17,wI)]),(935,[(3,wV),(5,.X 127 [.I .i64,.I .i64,.T,.L,.I .i64,.I .i64,.I .i64,.L,.B,.I .i64]),(8,.X 164 [.I .i64,.I .u64,.L,.L]),(10,wL),(15,wL),(16,wI),(17,wI)])]⟩
def ok:M.Ok:=⟨.cons call116 (.cons call158 (.cons call160 (AG.nil))),mixed,func169,by kernel_rfl⟩
def Ap:=M.pt 0
def F7:=M.pt 1
def start (h:∀b5:Nat,∀b8:Nat,Ap R v3 CA Ba Dm Du Dx Dy Dl DA Cf EB Dz EC DI Cj 0 0 none 0 0 none 0 0 none 0 0 p2 n2 c2 (n2:Int) 0 σ):Spec prog 169 #[.pointer q0,.agg #[.I CA,.I Ba,.string Dm,.slice Du Dx Dy,.I Dl,.I DA,.I Cf,.slice EB Dz EC,.bool DI,.I Cj],.slice p2 n2 c2,v3] σ R:=M.CL h ok [(0,.o (.Q q0)),(1,.G [.I .i64 CA,.I .i64 Ba,.T Dm,.L Du Dx Dy,.I .i64 Dl,.I .i64 DA,.I .i64 Cf,.L EB Dz EC,.B DI,.I .i64 Cj]),(2,.o (.L p2 n2 c2)),(3,.o (.V v3))] rfl rfl (by kernel_rfl)
def AR (h:Br (x17<x16) (Pq TL fun F3 Wr=>In x17 (n15:Int)∧∃zc zd ze Y3,Am σ F3 (Wr+x17.toNat*2) [.slice zc zd ze,.U Y3]∧∀F6:Nat,∃(f25:Nat) (ACR ACS:Array Value),v3=.func (.func f25) ACR ACS∧Enters prog f25∧Spec prog f25 (ACR++#[.U Y3]++ACS) σ (AZ R (fun z y=>∃nr tf,z=(.tuple #[.U nr,.bool tf])∧AH 116 #[.I H3] y R (CB fun t31 AE=>Bn t31 (AH 158 #[.slice zc zd ze] AE R (CS fun zO n40 zP AJ=>Al AJ fun lP=>AI prog (GO 105 Pn n10 KO lP) (Hp.set AJ lP (.cells #[.slice zO n40 zP,.U nr] 109 (0,0))) (CS fun qm n44 se Ah=>F7 R v3 Jr H3 Js Jt Ju Jv Jw Jx Jy Jz J0 J1 LY J2 EW Em FY FZ Fa Fb Fc Fe qm n44 se (aD F3 Wr) n15 RB x16 x17 Ah))) (Bo LY (AH 158 #[.slice zc zd ze] AE R (CS fun zO n40 zP AJ=>Al AJ fun lP=>AI prog (GO 105 Pn n10 KO lP) (Hp.set AJ lP (.cells #[.slice zO n40 zP,.U nr] 109 (0,0))) (CS fun qm n44 se Ah=>F7 R v3 Jr H3 Js Jt Ju Jv Jw Jx Jy Jz J0 J1 true J2 EW Em FY FZ Fa Fb Fc Fe qm n44 se (aD F3 Wr) n15 RB x16 x17 Ah))) (Bo tf (Al AE fun Xe=>AI prog (GO 105 Pn n10 KO Xe) (Hp.set AE Xe (.cells #[.slice zc zd ze,.U Y3] 109 (0,0))) (CS fun jE n50 jF AJ=>F7 R v3 Jr H3 Js Jt Ju Jv Jw Jx Jy Jz J0 J1 false J2 EW Em FY FZ Fa Fb Fc Fe jE n50 jF (aD F3 Wr) n15 RB x16 x17 AJ)) (F7 R v3 Jr H3 Js Jt Ju Jv Jw Jx Jy Jz J0 J1 false J2 EW Em FY FZ Fa Fb Fc Fe Pn n10 KO (aD F3 Wr) n15 RB x16 x17 AE))))))) (AH 160 #[.slice Pn n10 KO] σ R (fun z y=>∃eC eD eE eF eG eH eI eJ uQ,z=(.tuple #[.agg #[.I eC,.U eD,.slice eE eF eG,.slice eH eI eJ],.I uQ])∧R (.T #[.agg #[.I eC,.U eD,.slice eE eF eG,.slice eH eI eJ],.I uQ]) y))):Ap R v3 Jr H3 Js Jt Ju Jv Jw Jx Jy Jz J0 J1 LY J2 EW Em FY FZ Fa Fb Fc Fe Pn n10 KO TL n15 RB x16 x17 σ:=M.iW h ok rfl fun _ _=>by kernel_rfl
def G8 (h:AK (x17+1)∧Ap R v3 Jr H3 Js Jt Ju Jv Jw Jx Jy Jz J0 J1 LY J2 EW Em FY FZ Fa Fb Fc Fe Pn n10 KO TL n15 RB x16 (x17+1) σ):F7 R v3 Jr H3 Js Jt Ju Jv Jw Jx Jy Jz J0 J1 LY J2 EW Em FY FZ Fa Fb Fc Fe Pn n10 KO TL n15 RB x16 x17 σ:=M.iW h ok rfl fun _ _=>by kernel_rfl
end BD
namespace lT
variable {v0:Value}
def M:Fw:=⟨prog,183,f183,[224],[],false,[],[],[]⟩
def ok:M.Ok:=⟨.cons call224 (AG.nil),mixed,func183,by kernel_rfl⟩
def start (h:AH 224 #[v0] σ R (CB fun t4 y=>Bo t4 (R (.returned (.U 9221120237041090560)) y) (EN prog 190 #[v0] y (CI .u64 fun x6 AE=>R (.returned (.U x6)) AE)))):Spec prog 183 #[v0] σ R:=M.CL h ok [(0,.o (.V v0))] rfl rfl (by kernel_rfl)
end lT
namespace eL
variable {x0 x1:Int}
def M:Fw:=⟨prog,200,f200,[213],[],false,[],[],[]⟩
def ok:M.Ok:=⟨.cons call213 (AG.nil),mixed,func200,by kernel_rfl⟩
def start (h:AH 213 #[.I 2,.U x0,.U x1] σ R (fun z y=>∃Gu UJ,z=(.tuple #[.U Gu,.bool UJ])∧R (.returned (.U Gu)) y)):Spec prog 200 #[.U x0,.U x1] σ R:=M.start h ok
end eL
namespace Cd
variable {p0 p5 p8:Option Addr}{n0 c0 n5 c5 n8 c8:Nat}{v1:Value}{x9 x10:Int}
def M:Fw:=⟨prog,207,f207,[],[7],false,[],[],[(232,[(1,wV),(5,wL),(8,wL),(9,wI),(10,wI)]),(935,[(1,wV),(5,wL),(8,wL),(9,wI),(10,wI)])]⟩
def ok:M.Ok:=⟨AG.nil,mixed,func207,by kernel_rfl⟩
def Ap:=M.pt 0
def Hz:=M.pt 1
def start (h:Ap R v1 none 0 0 p0 n0 c0 (n0:Int) 0 σ):Spec prog 207 #[.slice p0 n0 c0,v1] σ R:=M.CL h ok [(0,.o (.L p0 n0 c0)),(1,.o (.V v1))] rfl rfl (by kernel_rfl)
def AR (h:Br (x10<x9) (Pq p8 fun F6 IH=>In x10 (n8:Int)∧∃AFU oD,Am σ F6 (IH+x10.toNat*2) [.string AFU,.string oD]∧∀b7:Nat,∃(f16:Nat) (ACT ACU:Array Value),v1=.func (.func f16) ACT ACU∧Enters prog f16∧Spec prog f16 (ACT++#[.agg #[.string AFU,.string oD]]++ACU) σ (AZ R (CB fun t16 y=>Bo t16 (Al y fun F3=>AI prog (GO 95 p5 n5 c5 F3) (Hp.set y F3 (.cells #[.string AFU,.string oD] 144 (0,0))) (CS fun TO n20 RG AE=>Hz R v1 TO n20 RG (aD F6 IH) n8 c8 x9 x10 AE)) (Hz R v1 p5 n5 c5 (aD F6 IH) n8 c8 x9 x10 y)))) (R (.returned (.slice p5 n5 c5)) σ)):Ap R v1 p5 n5 c5 p8 n8 c8 x9 x10 σ:=M.of h ok rfl
def GH (h:AK (x10+1)∧Ap R v1 p5 n5 c5 p8 n8 c8 x9 (x10+1) σ):Hz R v1 p5 n5 c5 p8 n8 c8 x9 x10 σ:=M.of h ok rfl
end Cd
namespace G9
variable {s0a gJ:ByteArray}{b1:Nat}
def M:Fw:=⟨prog,208,f208,[209],[2],false,[],[],[]⟩
def ok:M.Ok:=⟨.cons call209 (AG.nil),mixed,func208,by kernel_rfl⟩
def start (h:∀b2:Nat,LS σ b1 0 fun p4 n4 c4=>AH 209 #[.slice p4 n4 c4,.string s0a] σ R (CB fun t7 y=>R (.B t7) y)):Spec prog 208 #[.agg #[.string s0a,.string gJ],(.pointer (aD b1 0))] σ R:=M.start h ok
end G9
namespace VO
variable {x0 x1 x2:Int}
def M:Fw:=⟨prog,213,f213,[183,192],[],false,[],[],[]⟩
def ok:M.Ok:=⟨.cons call183 (.cons call192 (AG.nil)),mixed,func213,by kernel_rfl⟩
def start (h:AH 192 #[.U x1] σ R (fun z y=>∃x11,(Value.float .f64 x11)=z∧AH 192 #[.U x2] y R (fun z AE=>∃E2,(Value.float .f64 E2)=z∧Br (x0=1) (AI prog (binOp .add 258 (Value.float .f64 x11) (Value.float .f64 E2)) AE (fun z AJ=>∃Bk,(Value.float .f64 Bk)=z∧AH 183 #[(Value.float .f64 Bk)] AJ R (CI .u64 fun Ms Ah=>R (.T #[.U Ms,.bool true]) Ah))) (Br (x0=2) (AI prog (binOp .sub 258 (Value.float .f64 x11) (Value.float .f64 E2)) AE (fun z AJ=>∃MD,(Value.float .f64 MD)=z∧AH 183 #[(Value.float .f64 MD)] AJ R (CI .u64 fun Ws Ah=>R (.T #[.U Ws,.bool true]) Ah))) (Br (x0=3) (AI prog (binOp .mul 258 (Value.float .f64 x11) (Value.float .f64 E2)) AE (fun z AJ=>∃nh,(Value.float .f64 nh)=z∧AH 183 #[(Value.float .f64 nh)] AJ R (CI .u64 fun Ys Ah=>R (.T #[.U Ys,.bool true]) Ah))) (Br (x0=4) (AI prog (binOp .quo 258 (Value.float .f64 x11) (Value.float .f64 E2)) AE (fun z AJ=>∃Su,(Value.float .f64 Su)=z∧AH 183 #[(Value.float .f64 Su)] AJ R (CI .u64 fun Wj Ah=>R (.T #[.U Wj,.bool true]) Ah))) (R (.T #[.U 0,.bool false]) AE))))))):Spec prog 213 #[.I x0,.U x1,.U x2] σ R:=M.start h ok
end VO
namespace C6
variable {s0:ByteArray}{x1:Int}
def M:Fw:=⟨prog,222,f222,[243],[],false,[],[],[]⟩
def ok:M.Ok:=⟨.cons call243 (AG.nil),mixed,func222,by kernel_rfl⟩
def start (h:AH 243 #[.string s0,.I x1] σ R (fun z y=>∃ALU Y4 ALV,z=(.tuple #[ALU,.I Y4,ALV])∧Br (Y4≠(s0.size:Int)) (R (.T #[.float .f64 0,(.iface 311 (.I 2))]) y) (R (.T #[ALU,ALV]) y))):Spec prog 222 #[.string s0,.I x1] σ R:=M.start h ok
end C6
namespace Bh
variable {bD p8:Option Addr}{Pz XT n8 c8:Nat}{s1:ByteArray}{x9 x10:Int}
def M:Fw:=⟨prog,248,f248,[272],[2,6],false,[],[],[(104,[(1,wT),(8,wL),(9,wI),(10,wI)])]⟩
def ok:M.Ok:=⟨.cons call272 (AG.nil),mixed,func248,by kernel_rfl⟩
def Fv:=M.pt 0
def start (h:∀b2:Nat,Fv R s1 bD Pz XT (Pz:Int) 0 σ):Spec prog 248 #[.agg #[.slice bD Pz XT],.string s1] σ R:=M.start h ok
def As (h:Br (x10<x9) (Pq p8 fun F6 IH=>In x10 (n8:Int)∧∃ALW ALX ALY,Am σ F6 (IH+x10.toNat*1) [.slice ALW ALX ALY]∧∀b6:Nat,AH 272 #[.agg #[.slice ALW ALX ALY],.string s1] σ R (CB fun t16 y=>Bo t16 (R (.B true) y) (AK (x10+1)∧Fv R s1 (aD F6 IH) n8 c8 x9 (x10+1) y))) (R (.B false) σ)):Fv R s1 p8 n8 c8 x9 x10 σ:=M.of h ok rfl
end Bh
namespace CP
variable {s0 s1:ByteArray}
def M:Fw:=⟨prog,322,f322,[],[],false,[],[],[]⟩
def ok:M.Ok:=⟨AG.nil,mixed,func322,by kernel_rfl⟩
def start (h:Br (((s1.size:Int):Int)≤(s0.size:Int)) (AK ((s0.size:Int)-(s1.size:Int))∧∃s17,YF prog (Instr.sliceAt 9 (.string s0) (some (.I ((s0.size:Int)-(s1.size:Int)))) none none) σ (.string s17)∧R (.returned (.bool (ByteArray.toList s17==ByteArray.toList s1))) σ) (R (.B false) σ)):Spec prog 322 #[.string s0,.string s1] σ R:=M.start h ok
end CP
end TwW
end
end
section
set_option maxRecDepth 100000
noncomputable section
namespace TwW
open Go Tw Go.Proofs.Tryz
variable [Ez]{R:Rr}{σ:Hp}

namespace QF
variable {x0:Int}
def M:Fw:=⟨prog,25,f25,[],[],false,[],[],[]⟩
def ok:M.Ok:=⟨AG.nil,mixed,func25,by kernel_rfl⟩
def start (h:Br (((-1099511627776):Int)≤x0) (R (.returned (.bool (decide (x0≤1099511627776)))) σ) (R (.B false) σ)):Spec prog 25 #[.I x0] σ R:=M.start h ok
end QF
namespace Hg
variable {Cg x8 x9:Int}{p0b p3 p7:Option Addr}{n0b c0b n3 c3 n7 c7:Nat}
def M:Fw:=⟨prog,26,f26,[55,56,57],[1,5],false,[],[],[(232,[(3,wL),(7,wL),(8,wI),(9,wI)])]⟩
def ok:M.Ok:=⟨.cons call55 (.cons call56 (.cons call57 (AG.nil))),mixed,func26,by kernel_rfl⟩
def Ap:=M.pt 0
def start (h:∀b1:Nat,Ap R none 0 0 p0b n0b c0b (n0b:Int) 0 σ):Spec prog 26 #[.agg #[.U Cg,.slice p0b n0b c0b]] σ R:=M.start h ok
def AR (h:Br (x9<x8) (Pq p7 fun D5 Wo=>In x9 (n7:Int)∧∃oP Y4 ALZ zf ALa,Am σ D5 (Wo+x9.toNat*3) [.I oP,.I Y4,.slice ALZ zf ALa]∧∀b5:Nat,Al σ fun SB=>AI prog (GO 50 p3 n3 c3 SB) (Hp.set σ SB (.cells #[.I oP] 3 (0,0))) (CS fun qs n17 bH y=>AH 55 #[.I oP] y R (CB fun t20 AE=>Bn t20 (R (.returned (.I 130)) AE) (Br (Y4<1) (R (.returned (.I 130)) AE) (Br (3<Y4) (R (.returned (.I 130)) AE) (Br ((zf:Int)=0) (R (.returned (.I 130)) AE) (Br (64<(zf:Int)) (R (.returned (.I 130)) AE) (AH 56 #[.slice ALZ zf ALa] AE R (CB fun t47 AJ=>Bn t47 (R (.returned (.I 130)) AJ) (AK (x9+1)∧Ap R qs n17 bH (aD D5 Wo) n7 c7 x8 (x9+1) AJ)))))))))) (AH 57 #[.slice p3 n3 c3] σ R (CB fun t52 y=>Bn t52 (R (.returned (.I 130)) y) (R (.returned (.I 0)) y)))):Ap R p3 n3 c3 p7 n7 c7 x8 x9 σ:=M.of h ok rfl
end Hg
namespace JD
variable {q0:Option Addr}
def M:Fw:=⟨prog,31,f31,[],[2],false,[],[],[]⟩
def ok:M.Ok:=⟨AG.nil,mixed,func31,by kernel_rfl⟩
def start (h:∀b2:Nat,Pq q0 fun b4 o4=>LS σ b4 o4 fun p6 n6 c6=>Pq p6 fun b7 o7=>In 0 (n6:Int)∧∃EW Em s8c x8d,Am σ b7 o7 [.I EW,.I Em,.string s8c,.I x8d]∧R (.returned (.agg #[.I EW,.I Em,.string s8c,.I x8d])) σ):Spec prog 31 #[.pointer q0] σ R:=M.start h ok
end JD
namespace BB
variable {p0 p1 p5:Option Addr}{n0 c0 n1 c1 n5 c5:Nat}
def M:Fw:=⟨prog,37,f37,[],[7],false,[(3,9,false)],[],[(224,[(0,wL),(1,wL),(5,wL)])]⟩
def ok:M.Ok:=⟨AG.nil,mixed,func37,by kernel_rfl⟩
def E3:=M.pt 0
def start (h:E3 R p0 n0 c0 p1 n1 c1 none 0 0 σ):Spec prog 37 #[.slice p0 n0 c0,.slice p1 n1 c1] σ R:=M.start h ok
def A2 (h:Br (0<(n0:Int)) (Br (0<(n1:Int)) (Pq p0 fun Ie nq=>In 0 (n0:Int)∧∃PI PJ,Am σ Ie nq [.I PI,.U PJ]∧Pq p1 fun bG iq=>In 0 (n1:Int)∧∃UM Sp,Am σ bG iq [.I UM,.U Sp]∧(Al σ fun b6=>∀b7:Nat,AI prog (Instr.storeAt 111 (.pointer (aD b6 0)) (.agg #[.I PI,.U PJ])) (Hp.set σ b6 (.cells #[.I 0,.U 0] 111 (0,0))) (fun _ y=>Kp [bG] (Hp.set σ b6 (.cells #[.I 0,.U 0] 111 (0,0))) y∧LI .i64 y b6 0 fun x39=>Br (x39<UM) (∃Ig Ih,Am y b6 0 [.I Ig,.U Ih]∧((0:Int)≤1∧1≤(n0:Int))∧Al y fun Wn=>AI prog (GO 96 p5 n5 c5 Wn) (Hp.set y Wn (.cells #[.I Ig,.U Ih] 111 (0,0))) (CS fun lI n46 iy AE=>E3 R ((E1 (aD Ie nq) (1) c0 2)) (n0-1) (c0-1) (aD bG iq) n1 c1 lI n46 iy AE)) (LI .i64 y b6 0 fun x53=>Br (UM<x53) (((0:Int)≤1∧1≤(n1:Int))∧Al y fun NK=>AI prog (GO 96 p5 n5 c5 NK) (Hp.set y NK (.cells #[.I UM,.U Sp] 111 (0,0))) (CS fun WV TM XU AE=>E3 R (aD Ie nq) n0 c0 ((E1 (aD bG iq) (1) c1 2)) (n1-1) (c1-1) WV TM XU AE)) (LI .i64 y b6 0 fun KM=>LI .u64 y b6 1 fun Ws=>((0:Int)≤1∧1≤(n0:Int))∧((0:Int)≤1∧1≤(n1:Int))∧Al y fun oQ=>AI prog (GO 96 p5 n5 c5 oQ) (Hp.set y oQ (.cells #[.I KM,(.U (if Ws<Sp then Sp else Ws))] 111 (0,0))) (CS fun p32 n32 c32 AE=>E3 R ((E1 (aD Ie nq) (1) c0 2)) (n0-1) (c0-1) ((E1 (aD bG iq) (1) c1 2)) (n1-1) (c1-1) p32 n32 c32 AE)))))∧(∀b7:Nat,Al σ fun b6=>AI prog (Instr.storeAt 111 (.pointer (aD b6 0)) (.agg #[.I PI,.U PJ])) (Hp.set σ b6 (.cells #[.I 0,.U 0] 111 (0,0))) (fun _ y=>Kp [bG] (Hp.set σ b6 (.cells #[.I 0,.U 0] 111 (0,0))) y∧LI .i64 y b6 0 fun x39=>Br (x39<UM) (∃Ig Ih,Am y b6 0 [.I Ig,.U Ih]∧((0:Int)≤1∧1≤(n0:Int))∧Al y fun Wn=>AI prog (GO 96 p5 n5 c5 Wn) (Hp.set y Wn (.cells #[.I Ig,.U Ih] 111 (0,0))) (CS fun lI n46 iy AE=>E3 R ((E1 (aD Ie nq) (1) c0 2)) (n0-1) (c0-1) (aD bG iq) n1 c1 lI n46 iy AE)) (LI .i64 y b6 0 fun x53=>Br (UM<x53) (((0:Int)≤1∧1≤(n1:Int))∧Al y fun NK=>AI prog (GO 96 p5 n5 c5 NK) (Hp.set y NK (.cells #[.I UM,.U Sp] 111 (0,0))) (CS fun WV TM XU AE=>E3 R (aD Ie nq) n0 c0 ((E1 (aD bG iq) (1) c1 2)) (n1-1) (c1-1) WV TM XU AE)) (LI .i64 y b6 0 fun KM=>LI .u64 y b6 1 fun Ws=>((0:Int)≤1∧1≤(n0:Int))∧((0:Int)≤1∧1≤(n1:Int))∧Al y fun oQ=>AI prog (GO 96 p5 n5 c5 oQ) (Hp.set y oQ (.cells #[.I KM,(.U (if Ws<Sp then Sp else Ws))] 111 (0,0))) (CS fun p32 n32 c32 AE=>E3 R ((E1 (aD Ie nq) (1) c0 2)) (n0-1) (c0-1) ((E1 (aD bG iq) (1) c1 2)) (n1-1) (c1-1) p32 n32 c32 AE)))))) (AI prog (Builtin.append_ #[96,96] 96 #[.slice p5 n5 c5,.slice p0 n0 c0]) σ (CS fun p63 n63 c63 y=>AI prog (Builtin.append_ #[96,96] 96 #[.slice p63 n63 c63,.slice p1 n1 c1]) y (CS fun p65 n65 c65 AE=>R (.returned (.slice p65 n65 c65)) AE)))) (AI prog (Builtin.append_ #[96,96] 96 #[.slice p5 n5 c5,.slice p0 n0 c0]) σ (CS fun p63 n63 c63 y=>AI prog (Builtin.append_ #[96,96] 96 #[.slice p63 n63 c63,.slice p1 n1 c1]) y (CS fun p65 n65 c65 AE=>R (.returned (.slice p65 n65 c65)) AE)))):E3 R p0 n0 c0 p1 n1 c1 p5 n5 c5 σ:=M.of h ok rfl
end BB
namespace EI
variable {p0:Option Addr}{n0 c0:Nat}{x3:Int}
def M:Fw:=⟨prog,51,f51,[],[],false,[(4,12,true)],[],[(208,[(0,wL),(3,wI)])]⟩
def ok:M.Ok:=⟨AG.nil,mixed,func51,by kernel_rfl⟩
def E3:=M.pt 0
def start (h:E3 R p0 n0 c0 1 σ):Spec prog 51 #[.slice p0 n0 c0] σ R:=M.start h ok
def A2 (h:Br (x3<(n0:Int)) (Pq p0 fun F6 IH=>In x3 (n0:Int)∧LI .i64 σ F6 (IH+x3.toNat*2) fun Jl=>AK (x3-1)∧In (x3-1) (n0:Int)∧LI .i64 σ F6 (IH+Int.toNat (x3-1)*2) fun Ms=>Br (Jl≤Ms) (R (.B false) σ) (AK (x3+1)∧E3 R (aD F6 IH) n0 c0 (x3+1) σ)) (R (.returned (.bool (decide (0<(n0:Int))))) σ)):E3 R p0 n0 c0 x3 σ:=M.of h ok rfl
end EI
namespace FR
variable {s0:ByteArray}{t8:Bool}
def M:Fw:=⟨prog,60,f60,[92],[],false,[],[],[(28,[(0,wT)]),(213,[(0,wT),(8,wB)])]⟩
def ok:M.Ok:=⟨.cons call92 (AG.nil),mixed,func60,by kernel_rfl⟩
def zh:=M.pt 0
def F7:=M.pt 1
def start (h:Br ((1:Int)<(s0.size:Int)) (∃s7,YF prog (Instr.sliceAt 9 (.string s0) none (some (.I 2)) none) σ (.string s7)∧Bo ((ByteArray.toList s7==ByteArray.toList (ByteArray.mk #[61,61]))) (F7 R s0 true σ) (Bo ((ByteArray.toList s7==ByteArray.toList (ByteArray.mk #[33,61]))) (F7 R s0 true σ) (Bo ((ByteArray.toList s7==ByteArray.toList (ByteArray.mk #[60,61]))) (F7 R s0 true σ) (Bo ((ByteArray.toList s7==ByteArray.toList (ByteArray.mk #[62,61]))) (F7 R s0 true σ) (Bo ((ByteArray.toList s7==ByteArray.toList (ByteArray.mk #[61,126]))) (F7 R s0 true σ) (F7 R s0 ((ByteArray.toList s7==ByteArray.toList (ByteArray.mk #[33,126]))) σ)))))) (zh R s0 σ)):Spec prog 60 #[.string s0] σ R:=M.start h ok
def zi (h:∃u18:UInt8,(0:Int)≤0∧(ByteArray.data s0)[Int.toNat 0]?=some u18∧AH 92 #[(.string (ByteArray.mk #[60,62,61,43,45,42,47,40,41,123,125,91,93,44])),(.int .u8 (u18.toNat:Int))] σ R (CI .i64 fun Bk y=>Br (0≤Bk) (∃s22,YF prog (Instr.sliceAt 9 (.string s0) none (some (.I 1)) none) y (.string s22)∧R (.returned (.string s22)) y) (R (.returned (.string (ByteArray.mk #[]))) y))):zh R s0 σ:=M.of h ok rfl
def G8 (h:Bo t8 (∃s16,YF prog (Instr.sliceAt 9 (.string s0) none (some (.I 2)) none) σ (.string s16)∧R (.returned (.string s16)) σ) (zh R s0 σ)):F7 R s0 t8 σ:=M.of h ok rfl
end FR
namespace VP
variable {s0:ByteArray}
def M:Fw:=⟨prog,62,f62,[93,94],[],false,[],[],[]⟩
def ok:M.Ok:=⟨.cons call93 (.cons call94 (AG.nil)),mixed,func62,by kernel_rfl⟩
def start (h:AH 93 #[.string s0] σ R (CI .i64 fun x6 y=>Br (x6=0) (R (.B false) y) (∃s12,YF prog (Instr.sliceAt 9 (.string s0) none (some (.I x6)) none) y (.string s12)∧AH 94 #[.string s12] y R (CB fun t13 AE=>Bo t13 (R (.B false) AE) (Br (x6=(s0.size:Int)) (R (.returned (.bool (decide (x6≤15)))) AE) (AK (x6+1)∧∃s24,YF prog (Instr.sliceAt 9 (.string s0) (some (.I (x6+1))) none none) AE (.string s24)∧AH 93 #[.string s24] AE R (CI .i64 fun MD AJ=>∃u28:UInt8,0≤x6∧(ByteArray.data s0)[x6.toNat]?=some u28∧Br (((u28.toNat:Int):Int)=46) (Br (0<MD) (AK (x6+1)∧AK ((x6+1)+MD)∧Br ((((x6+1)+MD):Int)=(s0.size:Int)) (AK (x6+MD)∧R (.returned (.bool (decide (((x6+MD):Int)≤15)))) AJ) (R (.B false) AJ)) (R (.B false) AJ)) (R (.B false) AJ)))))))):Spec prog 62 #[.string s0] σ R:=M.start h ok
end VP
namespace AM
variable {v0:Value}{b1 b3 n7 c7:Nat}{p7:Option Addr}{x8 x9:Int}
def M:Fw:=⟨prog,68,f68,[69,70,71],[100000],false,[],[],[(104,[(0,wV),(3,wA),(7,wL),(8,wI),(9,wI)]),(112,[(0,wV),(3,wA)]),(423,[(0,wV),(3,wA),(7,wL),(8,wI),(9,wI)])]⟩
def ok:M.Ok:=⟨.cons call69 (.cons call70 (.cons call71 (AG.nil))),mixed,func68,by kernel_rfl⟩
def Fv:=M.pt 0
def I7:=M.pt 1
def RS:=M.pt 2
def start (h:Al σ fun b3=>LS (Hp.set σ b3 (.cells #[.N] 147 (0,0))) b1 0 fun p7 n7 c7=>Fv R v0 b3 p7 n7 c7 (n7:Int) 0 (Hp.set σ b3 (.cells #[.N] 147 (0,0)))):Spec prog 68 #[v0,(.pointer (aD b1 0))] σ R:=M.CL h ok [(0,.o (.V v0)),(1,.o (.A b1))] rfl rfl (by kernel_rfl)
def As (h:Br (x9<x8) (Pq p7 fun D5 Wo=>In x9 (n7:Int)∧LS σ D5 (Wo+x9.toNat*1) fun WW n12 UO=>Br (0<(n12:Int)) (Al σ fun F3=>AH 69 #[(.iface 149 (.pointer (aD b3 0))),(.iface 150 (.pointer (aD F3 0)))] (Hp.set σ F3 (.cells #[.slice WW n12 UO] 152 (0,0))) R (fun z y=>z=(.tuple #[])∧RS R v0 b3 (aD D5 Wo) n7 c7 x8 x9 y)) (RS R v0 b3 (aD D5 Wo) n7 c7 x8 x9 σ)) (I7 R v0 b3 σ)):Fv R v0 b3 p7 n7 c7 x8 x9 σ:=M.of h ok rfl
def IG (h:LS σ b3 0 fun kv n23 cd=>Br (0<(n23:Int)) (LS σ b3 0 fun qp n26 qq=>Pq qp fun PR tq=>In 0 (n26:Int)∧LQ σ PR tq fun q28=>Pq q28 fun oQ o31=>LS σ oQ o31 fun p33 n33 c33=>Pq p33 fun b34 o34=>In 0 (n33:Int)∧∃ALg ALh ALi ALj ALk ALl,Am σ b34 o34 [.slice ALg ALh ALi,.slice ALj ALk ALl]∧∃l36:Nat,v0=.func (.yield l36) #[] #[]∧IA prog l36 #[.agg #[.slice ALg ALh ALi,.slice ALj ALk ALl]] σ (AZ R (CB fun t36 y=>Bn t36 (R (.T #[]) y) (LS y oQ o31 fun p42 n42 c42=>((0:Int)≤1∧1≤(n42:Int))∧AI prog (Instr.storeAt 22 (.pointer (aD oQ o31)) (.slice (E1 p42 (1) c42 2) (n42-1) (c42-1))) y (fun _ AE=>LS AE oQ o31 fun p49 n49 c49=>Br ((n49:Int)=0) (AH 70 #[(.iface 149 (.pointer (aD b3 0)))] AE R (fun z AJ=>∃v53,v53=z∧I7 R v0 b3 AJ)) (AH 71 #[(.iface 149 (.pointer (aD b3 0))),.I 0] AE R (fun z AJ=>z=(.tuple #[])∧I7 R v0 b3 AJ))))))) (R (.T #[]) σ)):I7 R v0 b3 σ:=M.of h ok rfl
def ET (h:AK (x9+1)∧Fv R v0 b3 p7 n7 c7 x8 (x9+1) σ):RS R v0 b3 p7 n7 c7 x8 x9 σ:=M.of h ok rfl
end AM
namespace Dn
variable {v0 v1:Value}
def M:Fw:=⟨prog,69,f69,[102],[],false,[],[],[]⟩
def ok:M.Ok:=⟨.cons call102 (AG.nil),mixed,func69,by kernel_rfl⟩
def start (h:MC prog v0 ABc #[v1] σ (AZ R (fun z y=>z=(.tuple #[])∧MC prog v0 sC #[] y (AZ R (CI .i64 fun x9 AE=>AK (x9-1)∧AH 102 #[v0,(.I (x9-1))] AE R (fun z AJ=>z=(.tuple #[])∧R (.T #[]) AJ)))))):Spec prog 69 #[v0,v1] σ R:=M.CL h ok [(0,.o (.V v0)),(1,.o (.V v1))] rfl rfl (by kernel_rfl)
end Dn
namespace Hh
variable {p0 p6:Option Addr}{n0 c0 n6 c6:Nat}{x3 x7 x8:Int}
def M:Fw:=⟨prog,74,f74,[],[],false,[],[],[(232,[(3,wI),(6,wL),(7,wI),(8,wI)])]⟩
def ok:M.Ok:=⟨AG.nil,mixed,func74,by kernel_rfl⟩
def Ap:=M.pt 0
def start (h:Ap R 0 p0 n0 c0 (n0:Int) 0 σ):Spec prog 74 #[.slice p0 n0 c0] σ R:=M.start h ok
def AR (h:Br (x8<x7) (Pq p6 fun Cs Kr=>In x8 (n6:Int)∧LI .i64 σ Cs (Kr+x8.toNat*1) fun x11=>Br (x11≠x3) (R (.returned (.I x11)) σ) (AK (x8+1)∧Ap R x3 (aD Cs Kr) n6 c6 x7 (x8+1) σ)) (R (.returned (.I x3)) σ)):Ap R x3 p6 n6 c6 x7 x8 σ:=M.of h ok rfl
end Hh
namespace KV
variable {s0 s1:ByteArray}
def M:Fw:=⟨prog,75,f75,[104],[],false,[],[],[]⟩
def ok:M.Ok:=⟨.cons call104 (AG.nil),mixed,func75,by kernel_rfl⟩
def start (h:AH 104 #[.string s0,.string s1] σ R (CI .i64 fun x7 y=>R (.returned (.I x7)) y)):Spec prog 75 #[.string s0,.string s1] σ R:=M.start h ok
end KV
namespace Dh
variable {q0:Option Addr}
def M:Fw:=⟨prog,101,f101,[63],[],false,[],[],[]⟩
def ok:M.Ok:=⟨.cons call63 (AG.nil),mixed,func101,by kernel_rfl⟩
def start (h:AH 63 #[.pointer q0,(.func (.func 123) #[.pointer q0] #[]),.I 5,.I 10] σ R (fun z y=>z=(.tuple #[])∧R (.T #[]) y)):Spec prog 101 #[.pointer q0] σ R:=M.start h ok
end Dh
namespace C7
noncomputable def K0:=f102.body.getD .skip
def K1:=cl K0
def K2:=cl K1
def K3:=cl K2
def K4:=cl K3
def K5:=cr K3
def K6:=cl K5
def K7:=cl K6
def K8:=cr K6
def K9:=cl K8
def ky:=cr K8
def xk:=cr K5
def yu:=cl xk
def K13:=cr xk
abbrev gl (R:Rr):Gl:=Gl.fn prog 102 23 R
def pt4 (R:Rr)(v0:Value)(x1:Int)(σ:Hp):Prop:=∀(J:Env),At (gl R) [.code K4,.code K5,.inBlock 1,.inLoop K2,.inBlock 0] (Kc J [(0,v0),(1,(.I x1))]) [] σ
def start {R:Rr}{v0:Value}{x1:Int}{σ:Hp}(h:AK (x1-1)∧2≠(0:Int)∧∀x7:Int,x7=IntKind.i64.wrap (Int.tdiv (x1-1) 2)→((x7:Int)=x1→R (.T #[]) σ)∧(¬((x7:Int)=x1)→MC prog v0 R4 #[(.I x1),(.I x7)] σ (AZ R (fun v σ1=>∃t15:Bool,v=(.bool t15)∧(t15=false→R (.T #[]) σ1)∧(t15=true→MC prog v0 Py #[(.I x7),(.I x1)] σ1 (AZ R (fun gK Bp=>gK=(.tuple #[])∧pt4 R v0 x7 Bp))))))):Spec prog 102 #[v0,(.I x1)] σ R:=by
 refine Spec.Ti (fn:=f102) (c:=K0) func102 (by kernel_rfl) (AcS (by kernel_rfl)) (fun e he=>?_);refine At.ofL (l:=[(0,v0),(1,(.I x1))]) ⟨he 0,he 1,trivial⟩ (fun J=>?_);show At (gl R) _ _ _ _
 refine At.b 0 K1 ?_;refine At.loop (x:=K2) (by kernel_rfl) ?_;refine At.b 1 K3 ?_;refine At.s K4 K5 ?_;refine At.rg 0 [0,1,2,3] ?_;refine Seq.u 5 (.I x1) ?_;obtain⟨hi,h⟩:=h;refine Seq.z 6 (.binOp .sub 3 (.tmp 5) (.const (.I 1)) 3) 3 (.I (x1-1)) (Y.mo hi rfl rfl) ?_;obtain⟨hc,h⟩:=h;obtain⟨x7,uR⟩:∃y,y=IntKind.i64.wrap (Int.tdiv (x1-1) 2):=⟨_,rfl⟩
 replace h:=h x7 uR
 refine Seq.y (d:=(some 7)) (op:=(.binOp .quo 3 (.tmp 6) (.const (.I 2)) 3)) (ty:=3) (v:=(.I x7)) (by kernel_rfl) rfl (uR▸Y.quo hc rfl rfl) ?_;refine Seq.u 4 (.I x7) (Seq.done ?_);refine At.s K6 xk (At.s K7 K8 ?_);refine At.rg 1 [0,1,2,3,4,5,6,7,8,9] ?_;refine Seq.us [(8,.I x7),(9,.I x1),(10,.bool (decide ((x7:Int)=x1))),(11,.bool (decide ((x7:Int)=x1)))] ?_;cases hb:(decide ((x7:Int)=x1)) with
 | true=>
  replace h:=h.1 (Abm hb)
  refine Seq.n 12 ?_;refine Seq.n 13 ?_;refine Seq.n 14 ?_;refine Seq.n 15 ?_;refine Seq.n 16 ?_;refine Seq.u 17 (.bool true) (Seq.done ?_);refine At.cT 17 K9 ky ?_;refine At.x 0 [] ?_;exact At.bQ (rs:=[]) (vs:=[]) func102 (by kernel_rfl) rfl h
 | false=>
  replace h:=h.2 (Ab9 hb)
  refine Seq.us [(12,v0),(13,.I x1),(14,.I x7)] ?_;refine Seq.o ?_;refine AQ.inv (g:=(gl R)) (u:=v0) (vs:=#[(.I x1),(.I x7)]) (name:=R4) (d:=(some 15)) (x:=(.tmp 12)) (xs:=#[(.tmp 13),(.tmp 14)]) (ts:=#[3,3]) (ty:=4) (gd:=(some (3,false))) (by kernel_rfl) rfl rfl rfl rfl (h.cont (fun v σ1 h2=>?_));replace h:=h2;clear h2;obtain⟨t15,rfl,h⟩:=h;refine Seq.us [(16,.bool (!t15)),(17,.bool (!t15))] (Seq.done ?_);cases hb:(!t15) with
  | true=>
   replace h:=h.1 (Tw.nt hb)
   refine At.cT 17 K9 ky ?_;refine At.x 0 [] ?_;exact At.bQ (rs:=[]) (vs:=[]) func102 (by kernel_rfl) rfl h
  | false=>
   replace h:=h.2 (Tw.nf hb)
   refine At.cF 17 K9 ky ?_;refine At.skip ?_;refine At.s yu K13 ?_;refine At.rg 2 [0,1,2,3] ?_;refine Seq.us [(18,v0),(19,.I x7),(20,.I x1)] ?_;refine Seq.o ?_;refine AQ.inv (g:=(gl R)) (u:=v0) (vs:=#[(.I x7),(.I x1)]) (name:=Py) (d:=(some 21)) (x:=(.tmp 18)) (xs:=#[(.tmp 19),(.tmp 20)]) (ts:=#[3,3]) (ty:=0) (gd:=none) (by kernel_rfl) rfl rfl rfl rfl (h.cont (fun gK Bp h2=>?_));replace h:=h2;clear h2;obtain⟨rfl,h⟩:=h;refine Seq.done ?_;refine At.rg 3 [0,1] ?_;refine Seq.us [(22,.I x7),(1,.I x7)] (Seq.done ?_);refine At.inBlock ?_;refine At.inLoop ?_;refine At.b 1 K3 ?_;refine At.s K4 K5 ?_;exact At.v [(0,v0),(1,(.I x7))] (h _)
def AFY {R:Rr}{v0:Value}{x1:Int}{σ:Hp}(h:AK (x1-1)∧2≠(0:Int)∧∀x7:Int,x7=IntKind.i64.wrap (Int.tdiv (x1-1) 2)→((x7:Int)=x1→R (.T #[]) σ)∧(¬((x7:Int)=x1)→MC prog v0 R4 #[(.I x1),(.I x7)] σ (AZ R (fun v σ1=>∃t15:Bool,v=(.bool t15)∧(t15=false→R (.T #[]) σ1)∧(t15=true→MC prog v0 Py #[(.I x7),(.I x1)] σ1 (AZ R (fun gK Bp=>gK=(.tuple #[])∧pt4 R v0 x7 Bp))))))):pt4 R v0 x1 σ:=by
 intro J;show At (gl R) _ _ _ _
 refine At.rg 0 [0,1,2,3] ?_;refine Seq.u 5 (.I x1) ?_;obtain⟨hi,h⟩:=h;refine Seq.z 6 (.binOp .sub 3 (.tmp 5) (.const (.I 1)) 3) 3 (.I (x1-1)) (Y.mo hi rfl rfl) ?_;obtain⟨hc,h⟩:=h;obtain⟨x7,uR⟩:∃y,y=IntKind.i64.wrap (Int.tdiv (x1-1) 2):=⟨_,rfl⟩
 replace h:=h x7 uR
 refine Seq.y (d:=(some 7)) (op:=(.binOp .quo 3 (.tmp 6) (.const (.I 2)) 3)) (ty:=3) (v:=(.I x7)) (by kernel_rfl) rfl (uR▸Y.quo hc rfl rfl) ?_;refine Seq.u 4 (.I x7) (Seq.done ?_);refine At.s K6 xk (At.s K7 K8 ?_);refine At.rg 1 [0,1,2,3,4,5,6,7,8,9] ?_;refine Seq.us [(8,.I x7),(9,.I x1),(10,.bool (decide ((x7:Int)=x1))),(11,.bool (decide ((x7:Int)=x1)))] ?_;cases hb:(decide ((x7:Int)=x1)) with
 | true=>
  replace h:=h.1 (Abm hb)
  refine Seq.n 12 ?_;refine Seq.n 13 ?_;refine Seq.n 14 ?_;refine Seq.n 15 ?_;refine Seq.n 16 ?_;refine Seq.u 17 (.bool true) (Seq.done ?_);refine At.cT 17 K9 ky ?_;refine At.x 0 [] ?_;exact At.bQ (rs:=[]) (vs:=[]) func102 (by kernel_rfl) rfl h
 | false=>
  replace h:=h.2 (Ab9 hb)
  refine Seq.us [(12,v0),(13,.I x1),(14,.I x7)] ?_;refine Seq.o ?_;refine AQ.inv (g:=(gl R)) (u:=v0) (vs:=#[(.I x1),(.I x7)]) (name:=R4) (d:=(some 15)) (x:=(.tmp 12)) (xs:=#[(.tmp 13),(.tmp 14)]) (ts:=#[3,3]) (ty:=4) (gd:=(some (3,false))) (by kernel_rfl) rfl rfl rfl rfl (h.cont (fun v σ1 h2=>?_));replace h:=h2;clear h2;obtain⟨t15,rfl,h⟩:=h;refine Seq.us [(16,.bool (!t15)),(17,.bool (!t15))] (Seq.done ?_);cases hb:(!t15) with
  | true=>
   replace h:=h.1 (Tw.nt hb)
   refine At.cT 17 K9 ky ?_;refine At.x 0 [] ?_;exact At.bQ (rs:=[]) (vs:=[]) func102 (by kernel_rfl) rfl h
  | false=>
   replace h:=h.2 (Tw.nf hb)
   refine At.cF 17 K9 ky ?_;refine At.skip ?_;refine At.s yu K13 ?_;refine At.rg 2 [0,1,2,3] ?_;refine Seq.us [(18,v0),(19,.I x7),(20,.I x1)] ?_;refine Seq.o ?_;refine AQ.inv (g:=(gl R)) (u:=v0) (vs:=#[(.I x7),(.I x1)]) (name:=Py) (d:=(some 21)) (x:=(.tmp 18)) (xs:=#[(.tmp 19),(.tmp 20)]) (ts:=#[3,3]) (ty:=0) (gd:=none) (by kernel_rfl) rfl rfl rfl rfl (h.cont (fun gK Bp h2=>?_));replace h:=h2;clear h2;obtain⟨rfl,h⟩:=h;refine Seq.done ?_;refine At.rg 3 [0,1] ?_;refine Seq.us [(22,.I x7),(1,.I x7)] (Seq.done ?_);refine At.inBlock ?_;refine At.inLoop ?_;refine At.b 1 K3 ?_;refine At.s K4 K5 ?_;exact At.v [(0,v0),(1,(.I x7))] (h _)
end C7
namespace SJ
variable {Cg Ck Sv NL Hq KT CA Ba Dl DA Cf Cj:Int}{Sx Dm:ByteArray}{Xb UU Du EB:Option Addr}{Wq Xc TP UW Dx Dy Dz EC:Nat}{PM DI:Bool}
def M:Fw:=⟨prog,112,f112,[],[2,3],false,[],[],[]⟩
def ok:M.Ok:=⟨AG.nil,mixed,func112,by kernel_rfl⟩
def start (h:∀b2:Nat,∀b3:Nat,Br (Cg=CA) (Br (Ck=Ba) (Bo (ByteArray.toList Sx==ByteArray.toList Dm) (Br (Sv=Dl) (Br (NL=DA) (Br (Hq=Cf) (Bo PM (Bo DI (R (.returned (.bool (decide (KT=Cj)))) σ) (R (.B false) σ)) (Bo DI (R (.B false) σ) (R (.returned (.bool (decide (KT=Cj)))) σ))) (R (.B false) σ)) (R (.B false) σ)) (R (.B false) σ)) (R (.B false) σ)) (R (.B false) σ)) (R (.B false) σ)):Spec prog 112 #[.agg #[.I Cg,.I Ck,.string Sx,.slice Xb Wq Xc,.I Sv,.I NL,.I Hq,.slice UU TP UW,.bool PM,.I KT],.agg #[.I CA,.I Ba,.string Dm,.slice Du Dx Dy,.I Dl,.I DA,.I Cf,.slice EB Dz EC,.bool DI,.I Cj]] σ R:=M.start h ok
end SJ
namespace VQ
variable {x0:Int}
def M:Fw:=⟨prog,117,f117,[],[],false,[],[],[]⟩
def ok:M.Ok:=⟨AG.nil,mixed,func117,by kernel_rfl⟩
def start (h:Br (1≤x0) (R (.returned (.bool (decide (x0≤4)))) σ) (R (.B false) σ)):Spec prog 117 #[.I x0] σ R:=M.start h ok
end VQ
namespace BL
variable {q0 p3:Option Addr}{n3 c3:Nat}
def M:Fw:=⟨prog,122,f122,[97,98,137,138],[],false,[],[],[(480,[(0,wQ),(3,wL)]),(965,[(0,wQ),(3,wL)])]⟩
def ok:M.Ok:=⟨.cons call97 (.cons call98 (.cons call137 (.cons call138 (AG.nil)))),mixed,func122,by kernel_rfl⟩
def CM:=M.pt 0
def RS:=M.pt 1
def start (h:AH 137 #[.pointer q0,(.string (ByteArray.mk #[40]))] σ R (fun z y=>z=(.tuple #[])∧CM R q0 none 0 0 y)):Spec prog 122 #[.pointer q0] σ R:=M.start h ok
def BE (h:AH 98 #[.pointer q0,.I 5,(.string (ByteArray.mk #[41]))] σ R (CB fun t7 y=>Bn t7 (Br (0<(n3:Int)) (AH 137 #[.pointer q0,(.string (ByteArray.mk #[44]))] y R (fun z AE=>z=(.tuple #[])∧RS R q0 p3 n3 c3 AE)) (RS R q0 p3 n3 c3 y)) (AH 97 #[.pointer q0] y R (fun z AE=>∃I8 Y3 ASK ASL,z=(.agg #[.I I8,.I Y3,.string ASK,.I ASL])∧R (.returned (.slice p3 n3 c3)) AE)))):CM R q0 p3 n3 c3 σ:=M.of h ok rfl
def ET (h:AH 138 #[.pointer q0] σ R (CT fun s16 y=>Al y fun Ie=>AI prog (GO 125 p3 n3 c3 Ie) (Hp.set y Ie (.cells #[.string s16] 9 (0,0))) (CS fun sT n18 ql AE=>CM R q0 sT n18 ql AE))):RS R q0 p3 n3 c3 σ:=M.of h ok rfl
end BL
namespace FT
variable {q0:Option Addr}
def M:Fw:=⟨prog,138,f138,[31,32,97,118],[],false,[],[],[(14,[(0,wQ)])]⟩
def ok:M.Ok:=⟨.cons call31 (.cons call32 (.cons call97 (.cons call118 (AG.nil)))),mixed,func138,by kernel_rfl⟩
def E3:=M.pt 0
def start (h:AH 31 #[.pointer q0] σ R (fun z y=>∃Ej GQ IE x4d,z=(.agg #[.I Ej,.I GQ,.string IE,.I x4d])∧Br (Ej≠3) (AH 32 #[.pointer q0] y R (fun z AE=>z=(.tuple #[])∧E3 R q0 AE)) (AH 31 #[.pointer q0] y R (fun z AE=>∃x9a x9b s9c x9d,z=(.agg #[.I x9a,.I x9b,.string s9c,.I x9d])∧AH 118 #[.string s9c] AE R (CB fun t11 AJ=>Bn t11 (AH 32 #[.pointer q0] AJ R (fun z Ah=>z=(.tuple #[])∧E3 R q0 Ah)) (E3 R q0 AJ)))))):Spec prog 138 #[.pointer q0] σ R:=M.start h ok
def A2 (h:AH 97 #[.pointer q0] σ R (fun z y=>∃RR dh tn ASM,z=(.agg #[.I RR,.I dh,.string tn,.I ASM])∧R (.returned (.string tn)) y)):E3 R q0 σ:=M.of h ok rfl
end FT
namespace SK
variable {s0:ByteArray}
def M:Fw:=⟨prog,152,f152,[181,182,183],[],false,[],[],[]⟩
def ok:M.Ok:=⟨.cons call181 (.cons call182 (.cons call183 (AG.nil))),mixed,func152,by kernel_rfl⟩
def start (h:AH 181 #[.string s0] σ R (CB fun t7 y=>Bn t7 (R (.T #[.U 0,.bool false]) y) (AH 182 #[.string s0,.I 64] y R (fun z AE=>∃oR oS,z=(.tuple #[oR,oS])∧AH 183 #[oR] AE R (CI .u64 fun x15 AJ=>R (.T #[.U x15,.bool true]) AJ))))):Spec prog 152 #[.string s0] σ R:=M.start h ok
end SK
namespace SL
variable {Cg Ck Sv NL Hq KT x1 x2:Int}{Sx:ByteArray}{Xb UU:Option Addr}{Wq Xc TP UW:Nat}{PM:Bool}
def M:Fw:=⟨prog,168,f168,[213,214,215],[3],false,[],[],[]⟩
def ok:M.Ok:=⟨.cons call213 (.cons call214 (.cons call215 (AG.nil))),mixed,func168,by kernel_rfl⟩
def start (h:∀b3:Nat,AH 213 #[.I Ck,.U x1,.U x2] σ R (fun z y=>∃RR ti,z=(.tuple #[.U RR,.bool ti])∧Bo ti (R (.T #[.U RR,.bool true]) y) (AH 214 #[.I Ck,.U x1,.U x2] y R (fun z AE=>∃AFZ ASN,z=(.tuple #[.bool AFZ,.bool ASN])∧AH 215 #[.bool AFZ] AE R (CI .u64 fun nh AJ=>R (.T #[.U nh,.bool AFZ]) AJ))))):Spec prog 168 #[.agg #[.I Cg,.I Ck,.string Sx,.slice Xb Wq Xc,.I Sv,.I NL,.I Hq,.slice UU TP UW,.bool PM,.I KT],.U x1,.U x2] σ R:=M.start h ok
end SL
namespace Ad
variable {q0 Du EB p2 p3 Jt Jz FY Fb I6 sd xu:Option Addr}{CA Ba Dl DA Cf Cj Jr H3 Jw Jx Jy J2 EW Em Yq Su jC xw:Int}{Dm Js:ByteArray}{Dx Dy Dz EC n2 c2 n3 c3 Ju Jv J0 J1 FZ Fa Fc Fe n14 Hu n35 ia tr lQ:Nat}{DI LY:Bool}{m10 m12:Option Nat}
def M:Fw:=⟨prog,172,f172,[107,160,216,217],[5,8,16,17,20,21],false,[],[],[(1000,[(3,wL),(5,.X 127 [.I .i64,.I .i64,.T,.L,.I .i64,.I .i64,.I .i64,.L,.B,.I .i64]),(8,.X 164 [.I .i64,.I .u64,.L,.L]),(10,wM),(12,wM),(14,wL),(35,wL),(36,wI),(37,wI)]),(2024,[(5,.X 127 [.I .i64,.I .i64,.T,.L,.I .i64,.I .i64,.I .i64,.L,.B,.I .i64]),(8,.X 164 [.I .i64,.I .u64,.L,.L]),(10,wM),(14,wL),(66,wL),(67,wI),(68,wI)]),(8103,[(5,.X 127 [.I .i64,.I .i64,.T,.L,.I .i64,.I .i64,.I .i64,.L,.B,.I .i64]),(8,.X 164 [.I .i64,.I .u64,.L,.L]),(10,wM),(14,wL),(66,wL),(67,wI),(68,wI)]),(4007,[(3,wL),(5,.X 127 [.I .i64,.I .i64,.T,.L,.I .i64,.I .i64,.I .i64,.L,.B,.I .i64]),(8,.X 164 [.I .i64,.I .u64,.L,.L]),(10,wM),(12,wM),(14,wL),(35,wL),(36,wI),(37,wI)])]⟩
def ok:M.Ok:=⟨.cons call107 (.cons call160 (.cons call216 (.cons call217 (AG.nil)))),mixed,func172,by kernel_rfl⟩
def zj:=M.pt 0
def RI:=M.pt 1
def P5:=M.pt 2
def Y5:=M.pt 3
def start (h:∀b5:Nat,∀b8:Nat,AH 216 #[.agg #[.I CA,.I Ba,.string Dm,.slice Du Dx Dy,.I Dl,.I DA,.I Cf,.slice EB Dz EC,.bool DI,.I Cj],.slice p2 n2 c2] σ R (fun z y=>∃ALm ASO,z=(.tuple #[.map ALm,.bool ASO])∧AH 216 #[.agg #[.I CA,.I Ba,.string Dm,.slice Du Dx Dy,.I Dl,.I DA,.I Cf,.slice EB Dz EC,.bool DI,.I Cj],.slice p3 n3 c3] y R (fun z AE=>∃ALn ASP,z=(.tuple #[.map ALn,.bool ASP])∧zj R p3 n3 c3 CA Ba Dm Du Dx Dy Dl DA Cf EB Dz EC DI Cj 0 0 none 0 0 none 0 0 ALm ALn none 0 0 p2 n2 c2 (n2:Int) 0 AE))):Spec prog 172 #[.pointer q0,.agg #[.I CA,.I Ba,.string Dm,.slice Du Dx Dy,.I Dl,.I DA,.I Cf,.slice EB Dz EC,.bool DI,.I Cj],.slice p2 n2 c2,.slice p3 n3 c3] σ R:=M.start h ok
def lU (h:Br (Su<Yq) (Pq sd fun lO o39=>In Su (n35:Int)∧∃uS uT uU zk,Am σ lO (o39+Su.toNat*2) [.slice uS uT uU,.U zk]∧∀SB:Nat,AH 217 #[.agg #[.I Jr,.I H3,.string Js,.slice Jt Ju Jv,.I Jw,.I Jx,.I Jy,.slice Jz J0 J1,.bool LY,.I J2],.slice uS uT uU] σ R (CS fun lI n46 iy y=>AH 107 #[.slice lI n46 iy] y R (CT fun s47 AE=>AI prog (Instr.lookup 291 (.map m12) (.string s47) true) AE (fun z AJ=>∃ALo ALp ALq ALr ALs,z=(.tuple #[.agg #[.slice ALo ALp ALq,.U ALr],.bool ALs])∧∀Ie:Nat,Br (H3=12) (Al AJ fun oT=>AI prog (GO 105 I6 n14 Hu oT) (Hp.set AJ oT (.cells #[.slice uS uT uU,.U zk] 109 (0,0))) (CS fun xr tg xt Ah=>Y5 R p3 n3 c3 Jr H3 Js Jt Ju Jv Jw Jx Jy Jz J0 J1 LY J2 EW Em FY FZ Fa Fb Fc Fe m10 m12 xr tg xt (aD lO o39) n35 ia Yq Su Ah)) (Bo ALs (Br (H3=11) (Al AJ fun oT=>AI prog (GO 105 I6 n14 Hu oT) (Hp.set AJ oT (.cells #[.slice uS uT uU,.U zk] 109 (0,0))) (CS fun xr tg xt Ah=>Y5 R p3 n3 c3 Jr H3 Js Jt Ju Jv Jw Jx Jy Jz J0 J1 LY J2 EW Em FY FZ Fa Fb Fc Fe m10 m12 xr tg xt (aD lO o39) n35 ia Yq Su Ah)) (Y5 R p3 n3 c3 Jr H3 Js Jt Ju Jv Jw Jx Jy Jz J0 J1 LY J2 EW Em FY FZ Fa Fb Fc Fe m10 m12 I6 n14 Hu (aD lO o39) n35 ia Yq Su AJ)) (Br (H3=11) (Y5 R p3 n3 c3 Jr H3 Js Jt Ju Jv Jw Jx Jy Jz J0 J1 LY J2 EW Em FY FZ Fa Fb Fc Fe m10 m12 I6 n14 Hu (aD lO o39) n35 ia Yq Su AJ) (Al AJ fun oT=>AI prog (GO 105 I6 n14 Hu oT) (Hp.set AJ oT (.cells #[.slice uS uT uU,.U zk] 109 (0,0))) (CS fun xr tg xt Ah=>Y5 R p3 n3 c3 Jr H3 Js Jt Ju Jv Jw Jx Jy Jz J0 J1 LY J2 EW Em FY FZ Fa Fb Fc Fe m10 m12 xr tg xt (aD lO o39) n35 ia Yq Su Ah)))))))) (RI R Jr H3 Js Jt Ju Jv Jw Jx Jy Jz J0 J1 LY J2 EW Em FY FZ Fa Fb Fc Fe m10 I6 n14 Hu p3 n3 c3 (n3:Int) 0 σ)):zj R p3 n3 c3 Jr H3 Js Jt Ju Jv Jw Jx Jy Jz J0 J1 LY J2 EW Em FY FZ Fa Fb Fc Fe m10 m12 I6 n14 Hu sd n35 ia Yq Su σ:=M.iW h ok rfl fun _ _=>by kernel_rfl
def TT (h:Br (xw<jC) (Pq xu fun b70 o70=>In xw (tr:Int)∧∃AFa AFb AFc ALt,Am σ b70 (o70+xw.toNat*2) [.slice AFa AFb AFc,.U ALt]∧∀bG:Nat,AH 217 #[.agg #[.I Jr,.I H3,.string Js,.slice Jt Ju Jv,.I Jw,.I Jx,.I Jy,.slice Jz J0 J1,.bool LY,.I J2],.slice AFa AFb AFc] σ R (CS fun p77 n77 c77 y=>AH 107 #[.slice p77 n77 c77] y R (CT fun s78 AE=>AI prog (Instr.lookup 291 (.map m10) (.string s78) true) AE (fun z AJ=>∃ALu ALv ALw ALx ALy,z=(.tuple #[.agg #[.slice ALu ALv ALw,.U ALx],.bool ALy])∧∀sa:Nat,Bn ALy (Br (H3=12) (Al AJ fun b91=>AI prog (GO 105 I6 n14 Hu b91) (Hp.set AJ b91 (.cells #[.slice AFa AFb AFc,.U ALt] 109 (0,0))) (CS fun p92 n92 c92 Ah=>P5 R Jr H3 Js Jt Ju Jv Jw Jx Jy Jz J0 J1 LY J2 EW Em FY FZ Fa Fb Fc Fe m10 p92 n92 c92 (aD b70 o70) tr lQ jC xw Ah)) (P5 R Jr H3 Js Jt Ju Jv Jw Jx Jy Jz J0 J1 LY J2 EW Em FY FZ Fa Fb Fc Fe m10 I6 n14 Hu (aD b70 o70) tr lQ jC xw AJ)) (P5 R Jr H3 Js Jt Ju Jv Jw Jx Jy Jz J0 J1 LY J2 EW Em FY FZ Fa Fb Fc Fe m10 I6 n14 Hu (aD b70 o70) tr lQ jC xw AJ))))) (AH 160 #[.slice I6 n14 Hu] σ R (fun z y=>∃ACW ACX ACY ACZ ACa ACb ACc ACd ALz,z=(.tuple #[.agg #[.I ACW,.U ACX,.slice ACY ACZ ACa,.slice ACb ACc ACd],.I ALz])∧R (.T #[.agg #[.I ACW,.U ACX,.slice ACY ACZ ACa,.slice ACb ACc ACd],.I ALz]) y))):RI R Jr H3 Js Jt Ju Jv Jw Jx Jy Jz J0 J1 LY J2 EW Em FY FZ Fa Fb Fc Fe m10 I6 n14 Hu xu tr lQ jC xw σ:=M.iW h ok rfl fun _ _=>by kernel_rfl
def Yy (h:AK (xw+1)∧RI R Jr H3 Js Jt Ju Jv Jw Jx Jy Jz J0 J1 LY J2 EW Em FY FZ Fa Fb Fc Fe m10 I6 n14 Hu xu tr lQ jC (xw+1) σ):P5 R Jr H3 Js Jt Ju Jv Jw Jx Jy Jz J0 J1 LY J2 EW Em FY FZ Fa Fb Fc Fe m10 I6 n14 Hu xu tr lQ jC xw σ:=M.iW h ok rfl fun _ _=>by kernel_rfl
def zl (h:AK (Su+1)∧zj R p3 n3 c3 Jr H3 Js Jt Ju Jv Jw Jx Jy Jz J0 J1 LY J2 EW Em FY FZ Fa Fb Fc Fe m10 m12 I6 n14 Hu sd n35 ia Yq (Su+1) σ):Y5 R p3 n3 c3 Jr H3 Js Jt Ju Jv Jw Jx Jy Jz J0 J1 LY J2 EW Em FY FZ Fa Fb Fc Fe m10 m12 I6 n14 Hu sd n35 ia Yq Su σ:=M.iW h ok rfl fun _ _=>by kernel_rfl
end Ad
namespace Di
variable {p0 p1:Option Addr}{n0 c0 n1 c1:Nat}
def M:Fw:=⟨prog,201,f201,[202],[],false,[],[],[]⟩
def ok:M.Ok:=⟨.cons call202 (AG.nil),mixed,func201,by kernel_rfl⟩
def start (h:AH 202 #[.slice p0 n0 c0] σ R (CI .u64 fun x6 y=>R (.returned (.U x6)) y)):Spec prog 201 #[.slice p0 n0 c0,.slice p1 n1 c1] σ R:=M.start h ok
end Di
namespace KW
variable {s0a gJ:ByteArray}{b1:Nat}
def M:Fw:=⟨prog,210,f210,[209],[2],false,[],[],[]⟩
def ok:M.Ok:=⟨.cons call209 (AG.nil),mixed,func210,by kernel_rfl⟩
def start (h:∀b2:Nat,LS σ b1 0 fun p4 n4 c4=>AH 209 #[.slice p4 n4 c4,.string s0a] σ R (CB fun t7 y=>R (.returned (.bool (!t7))) y)):Spec prog 210 #[.agg #[.string s0a,.string gJ],(.pointer (aD b1 0))] σ R:=M.start h ok
end KW
namespace QG
variable {x0 x1 x2:Int}
def M:Fw:=⟨prog,214,f214,[192],[],false,[],[],[]⟩
def ok:M.Ok:=⟨.cons call192 (AG.nil),mixed,func214,by kernel_rfl⟩
def start (h:AH 192 #[.U x1] σ R (fun z y=>∃x11,(Value.float .f64 x11)=z∧AH 192 #[.U x2] y R (fun z AE=>∃E2,(Value.float .f64 E2)=z∧Br (x0=5) (∃t19,YF prog ((do eqGuard .eql 258 (.tmp 17) (.tmp 18) (Value.float .f64 x11) (Value.float .f64 E2);binOp .eql 258 (Value.float .f64 x11) (Value.float .f64 E2))) AE (.bool t19)∧R (.T #[.bool t19,.bool true]) AE) (Br (x0=6) (∃t24,YF prog ((do eqGuard .neq 258 (.tmp 22) (.tmp 23) (Value.float .f64 x11) (Value.float .f64 E2);binOp .neq 258 (Value.float .f64 x11) (Value.float .f64 E2))) AE (.bool t24)∧R (.T #[.bool t24,.bool true]) AE) (Br (x0=7) (∃t29,YF prog ((do eqGuard .lss 258 (.tmp 27) (.tmp 28) (Value.float .f64 x11) (Value.float .f64 E2);binOp .lss 258 (Value.float .f64 x11) (Value.float .f64 E2))) AE (.bool t29)∧R (.T #[.bool t29,.bool true]) AE) (Br (x0=8) (∃t34,YF prog ((do eqGuard .leq 258 (.tmp 32) (.tmp 33) (Value.float .f64 x11) (Value.float .f64 E2);binOp .leq 258 (Value.float .f64 x11) (Value.float .f64 E2))) AE (.bool t34)∧R (.T #[.bool t34,.bool true]) AE) (Br (x0=9) (∃t39,YF prog ((do eqGuard .gtr 258 (.tmp 37) (.tmp 38) (Value.float .f64 x11) (Value.float .f64 E2);binOp .gtr 258 (Value.float .f64 x11) (Value.float .f64 E2))) AE (.bool t39)∧R (.T #[.bool t39,.bool true]) AE) (Br (x0=10) (∃t44,YF prog ((do eqGuard .geq 258 (.tmp 42) (.tmp 43) (Value.float .f64 x11) (Value.float .f64 E2);binOp .geq 258 (Value.float .f64 x11) (Value.float .f64 E2))) AE (.bool t44)∧R (.T #[.bool t44,.bool true]) AE) (R (.T #[.bool false,.bool false]) AE))))))))):Spec prog 214 #[.I x0,.U x1,.U x2] σ R:=M.start h ok
end QG
namespace strings_Split
variable {s0 s1:ByteArray}
end strings_Split
namespace GI
variable {p0 Du EB p2:Option Addr}{n0 c0 Dx Dy Dz EC n2 c2 b3:Nat}{CA Ba Dl DA Cf Cj:Int}{Dm:ByteArray}{DI:Bool}
def M:Fw:=⟨prog,233,f233,[],[5],false,[],[],[]⟩
def ok:M.Ok:=⟨AG.nil,mixed,func233,by kernel_rfl⟩
def start (h:∀b5:Nat,∃v9,Hp.ld σ ⟨b3,0,none⟩=some v9∧∃(f11:Nat) (dF dG:Array Value),v9=.func (.func f11) dF dG∧Enters prog f11∧Spec prog f11 (dF++#[.slice p0 n0 c0]++dG) σ (AZ R (CI .u64 fun x11 y=>R (.T #[.U x11,.bool true]) y))):Spec prog 233 #[.slice p0 n0 c0,.agg #[.I CA,.I Ba,.string Dm,.slice Du Dx Dy,.I Dl,.I DA,.I Cf,.slice EB Dz EC,.bool DI,.I Cj],.slice p2 n2 c2,(.pointer (aD b3 0))] σ R:=M.start h ok
end GI
namespace J6
variable {p0 Du EB p2:Option Addr}{n0 c0 Dx Dy Dz EC n2 c2 b3:Nat}{CA Ba Dl DA Cf Cj:Int}{Dm:ByteArray}{DI:Bool}
def M:Fw:=⟨prog,235,f235,[],[5],false,[],[],[]⟩
def ok:M.Ok:=⟨AG.nil,mixed,func235,by kernel_rfl⟩
def start (h:∀b5:Nat,Br ((n0:Int)<2) (R (.T #[.U 0,.bool false]) σ) (∃v12,Hp.ld σ ⟨b3,0,none⟩=some v12∧∃(f15:Nat) (ACe ACf:Array Value),v12=.func (.func f15) ACe ACf∧Enters prog f15∧Spec prog f15 (ACe++#[.slice p0 n0 c0,.slice p2 n2 c2]++ACf) σ (AZ R (CI .u64 fun x15 y=>R (.T #[.U x15,.bool true]) y)))):Spec prog 235 #[.slice p0 n0 c0,.agg #[.I CA,.I Ba,.string Dm,.slice Du Dx Dy,.I Dl,.I DA,.I Cf,.slice EB Dz EC,.bool DI,.I Cj],.slice p2 n2 c2,(.pointer (aD b3 0))] σ R:=M.start h ok
end J6
namespace Ay
variable {q0:Option Addr}{b2:Nat}{t4:Bool}
def M:Fw:=⟨prog,242,f242,[31,32,97,98,100,137,263,264,265,266],[3],false,[],[],[(124,[(0,wQ),(2,wA),(4,wB)]),(252,[(0,wQ),(2,wA)]),(508,[(0,wQ),(2,wA)]),(255,[(0,wQ),(2,wA)])]⟩
def ok:M.Ok:=⟨.cons call31 (.cons call32 (.cons call97 (.cons call98 (.cons call100 (.cons call137 (.cons call263 (.cons call264 (.cons call265 (.cons call266 (AG.nil)))))))))),mixed,func242,by kernel_rfl⟩
def Ha:=M.pt 0
def Gm:=M.pt 1
def S1:=M.pt 2
def Yu:=M.pt 3
def start (h:Al σ fun b2=>AI prog (Instr.storeAt 127 (.pointer (aD b2 0)) (.agg #[.I 2,.I 0,(.string (ByteArray.mk #[])),.N,.I 0,.I 0,.I 0,.N,.bool false,.I 0])) (Hp.set σ b2 (.cells #[.I 0,.I 0,(.string (ByteArray.mk #[])),.N,.I 0,.I 0,.I 0,.N,.bool false,.I 0] 127 (0,0))) (fun _ y=>AH 31 #[.pointer q0] y R (fun z AE=>∃Ff HL GY HN,z=(.agg #[.I Ff,.I HL,.string GY,.I HN])∧∀b3:Nat,Br (Ff=3) (AH 263 #[.string GY] AE R (CB fun t14 AJ=>Bn t14 (AH 97 #[.pointer q0] AJ R (fun z Ah=>∃Jo Ki Y1 AFS,z=(.agg #[.I Jo,.I Ki,.string Y1,.I AFS])∧AH 264 #[.pointer q0,(.pointer (aD b2 0)),(.agg #[.I 1,(.string (ByteArray.mk #[95,95,110,97,109,101,95,95])),.string GY]),.agg #[.I Ff,.I HL,.string GY,.I HN]] Ah R (fun z CF=>z=(.tuple #[])∧Ha R q0 b2 true CF))) (Ha R q0 b2 false AJ))) (Ha R q0 b2 false AE)))):Spec prog 242 #[.pointer q0] σ R:=M.start h ok
def FC (h:AH 98 #[.pointer q0,.I 5,(.string (ByteArray.mk #[123]))] σ R (CB fun t27 y=>Bo t27 (AH 97 #[.pointer q0] y R (fun z AE=>∃ASR tj ASS AST,z=(.agg #[.I ASR,.I tj,.string ASS,.I AST])∧AH 265 #[.pointer q0,(.pointer (aD b2 0))] AE R (fun z AJ=>z=(.tuple #[])∧Gm R q0 b2 AJ))) (Bn t4 (AH 32 #[.pointer q0] y R (fun z AE=>z=(.tuple #[])∧Gm R q0 b2 AE)) (Gm R q0 b2 y)))):Ha R q0 b2 t4 σ:=M.of h ok rfl
def EO (h:AH 98 #[.pointer q0,.I 5,(.string (ByteArray.mk #[91]))] σ R (CB fun t37 y=>Bo t37 (AH 97 #[.pointer q0] y R (fun z AE=>∃ASU ASV ASW ASX,z=(.agg #[.I ASU,.I ASV,.string ASW,.I ASX])∧AH 266 #[.pointer q0] AE R (CI .i64 fun x41 AJ=>AI prog (Instr.storeAt 3 (.pointer (aD b2 0)) (.I 3)) AJ (fun _ Ah=>AI prog (Instr.storeAt 2 (.pointer (aD b2 4)) (.I x41)) Ah (fun _ CF=>AH 137 #[.pointer q0,(.string (ByteArray.mk #[93]))] CF R (fun z Fu=>z=(.tuple #[])∧S1 R q0 b2 Fu)))))) (S1 R q0 b2 y))):Gm R q0 b2 σ:=M.of h ok rfl
def TS (h:AH 98 #[.pointer q0,.I 3,(.string (ByteArray.mk #[111,102,102,115,101,116]))] σ R (CB fun t47 y=>Bo t47 (AH 97 #[.pointer q0] y R (fun z AE=>∃ASY ASZ ASa ASb,z=(.agg #[.I ASY,.I ASZ,.string ASa,.I ASb])∧AH 266 #[.pointer q0] AE R (CI .i64 fun x51 AJ=>AI prog (Instr.storeAt 2 (.pointer (aD b2 5)) (.I x51)) AJ (fun _ Ah=>Yu R q0 b2 Ah)))) (Yu R q0 b2 y))):S1 R q0 b2 σ:=M.of h ok rfl
def Yv (h:∃dq dt uV du dw dz uW uX uY uZ ua ub uc ud,Am σ b2 0 [.I dq,.I dt,.string uV,.slice du dw dz,.I uW,.I uX,.I uY,.slice uZ ua ub,.bool uc,.I ud]∧AH 100 #[.pointer q0,.agg #[.I dq,.I dt,.string uV,.slice du dw dz,.I uW,.I uX,.I uY,.slice uZ ua ub,.bool uc,.I ud]] σ R (fun z y=>z=(.tuple #[])∧R (.T #[]) y)):Yu R q0 b2 σ:=M.of h ok rfl
end Ay
namespace CR
variable {s0 s1:ByteArray}
def M:Fw:=⟨prog,321,f321,[],[],false,[],[],[]⟩
def ok:M.Ok:=⟨AG.nil,mixed,func321,by kernel_rfl⟩
def start (h:Br (((s1.size:Int):Int)≤(s0.size:Int)) (∃s14,YF prog (Instr.sliceAt 9 (.string s0) none (some (.I (s1.size:Int))) none) σ (.string s14)∧R (.returned (.bool (ByteArray.toList s14==ByteArray.toList s1))) σ) (R (.B false) σ)):Spec prog 321 #[.string s0,.string s1] σ R:=M.start h ok
end CR
namespace BV
variable {q0:Option Addr}{v1:Value}
def M:Fw:=⟨prog,363,f363,[],[],false,[(0,9,false)],[],[]⟩
def ok:M.Ok:=⟨AG.nil,mixed,func363,by kernel_rfl⟩
def start (h:Pq q0 fun b6 o6=>LS σ b6 o6 fun p7 n7 c7=>AI prog (Instr.typeAssert v1 20 150 false) σ (CQ fun q9 y=>Kp [b6] σ y∧Al y fun Cs=>AI prog (GO 147 p7 n7 c7 Cs) (Hp.set y Cs (.cells #[.pointer q9] 150 (0,0))) (CS fun Ko n11 Kq AE=>AI prog (Instr.storeAt 147 (.pointer (aD b6 o6)) (.slice Ko n11 Kq)) AE (fun _ AJ=>R (.T #[]) AJ)))):Spec prog 363 #[.pointer q0,v1] σ R:=M.CL h ok [(0,.o (.Q q0)),(1,.o (.V v1))] rfl rfl (by kernel_rfl)
end BV
end TwW
end
end
section
set_option maxRecDepth 100000
noncomputable section
namespace TwW
open Go Tw Go.Proofs.Tryz
variable [Ez]{R:Rr}{σ:Hp}

namespace An
variable {q0 p5 qs:Option Addr}{x3 x4 KS Bk:Int}{n5 c5 n17 bH:Nat}
def M:Fw:=⟨prog,21,f21,[33,53],[7],false,[],[],[(488,[(0,wQ),(3,wI),(4,wI),(5,wL),(17,wL),(18,wI),(19,wI)]),(1959,[(0,wQ),(3,wI),(4,wI),(5,wL),(17,wL),(18,wI),(19,wI)])]⟩
def ok:M.Ok:=⟨.cons call33 (.cons call53 (AG.nil)),mixed,func21,by kernel_rfl⟩
def DB:=M.pt 0
def RJ:=M.pt 1
def start (h:AH 33 #[.pointer q0] σ R (fun z y=>∃Gu nT,z=(.tuple #[.I Gu,.I nT])∧Pq q0 fun HH JU=>∃AL0 oF AL1 AL2 AL3,Am y HH (JU+7) [.U AL0,.I oF,.slice AL1 AL2 AL3]∧AH 53 #[.agg #[.U AL0,.I oF,.slice AL1 AL2 AL3]] y R (CS fun qs n17 bH AE=>DB R (aD HH JU) Gu nT none 0 0 qs n17 bH (n17:Int) 0 AE))):Spec prog 21 #[.pointer q0] σ R:=M.start h ok
def BX (h:Br (Bk<KS) (Pq qs fun sa y8=>In Bk (n17:Int)∧∃AFd AL4 AFe ASc ASd ASe ASf ASg ASh,Am σ sa (y8+Bk.toNat*7) [.U AFd,.I AL4,.I AFe,.I ASc,.slice ASd ASe ASf,.I ASg,.I ASh]∧∀b7:Nat,Pq q0 fun Wp bE=>LB σ Wp (bE+6) fun t26=>Bo t26 (Br (AL4≤x4) (Br (x3≤AFe) (LI .i64 σ Wp ((bE+7)+1) fun x46=>Br (x46≤AFe) (LM σ Wp (bE+10) fun m53=>AI prog (Instr.lookup 70 (.map m53) (.U AFd) false) σ (CI .i64 fun x56 y=>Br (x56=0) (Al y fun b62=>AI prog (GO 60 p5 n5 c5 b62) (Hp.set y b62 (.cells #[.U AFd] 27 (0,0))) (CS fun p63 n63 c63 AE=>RJ R (aD Wp bE) x3 x4 p63 n63 c63 (aD sa y8) n17 bH KS Bk AE)) (RJ R (aD Wp bE) x3 x4 p5 n5 c5 (aD sa y8) n17 bH KS Bk y))) (RJ R (aD Wp bE) x3 x4 p5 n5 c5 (aD sa y8) n17 bH KS Bk σ)) (RJ R (aD Wp bE) x3 x4 p5 n5 c5 (aD sa y8) n17 bH KS Bk σ)) (RJ R (aD Wp bE) x3 x4 p5 n5 c5 (aD sa y8) n17 bH KS Bk σ)) (RJ R (aD Wp bE) x3 x4 p5 n5 c5 (aD sa y8) n17 bH KS Bk σ)) (R (.returned (.slice p5 n5 c5)) σ)):DB R q0 x3 x4 p5 n5 c5 qs n17 bH KS Bk σ:=M.of h ok rfl
def TQ (h:AK (Bk+1)∧DB R q0 x3 x4 p5 n5 c5 qs n17 bH KS (Bk+1) σ):RJ R q0 x3 x4 p5 n5 c5 qs n17 bH KS Bk σ:=M.of h ok rfl
end An
namespace B8
variable {q0:Option Addr}
def M:Fw:=⟨prog,27,f27,[],[],false,[],[],[]⟩
def ok:M.Ok:=⟨AG.nil,mixed,func27,by kernel_rfl⟩
def start (h:R (.T #[.N,.I 0,.I 273]) σ):Spec prog 27 #[.pointer q0] σ R:=M.start h ok
end B8
namespace A6
variable {s0 GY:ByteArray}{p5 p6:Option Addr}{n5 c5 n6 c6:Nat}{Ff HL HN x8 x9 E2 AYW:Int}{t201:Bool}
def M:Fw:=⟨prog,28,f28,[58,59,60,61,62],[7],false,[],[],[(1788,[(0,wT),(5,wL),(7,.X 83 [.I .i64,.I .i64,.T,.I .i64]),(8,wI)]),(917472,[(0,wT),(5,wL),(7,.X 83 [.I .i64,.I .i64,.T,.I .i64]),(8,wI),(9,wI)]),(58720224,[(0,wT),(5,wL),(7,.X 83 [.I .i64,.I .i64,.T,.I .i64]),(8,wI),(9,wI)]),(117440508,[(0,wT),(5,wL),(6,wL),(7,.X 83 [.I .i64,.I .i64,.T,.I .i64]),(8,wI),(9,wI)]),(15032385517,[(0,wT),(5,wL),(6,wL),(7,.X 83 [.I .i64,.I .i64,.T,.I .i64]),(8,wI),(9,wI),(13,w8),(199,w8),(201,wB)]),(1879048190,[(0,wT),(5,wL),(6,wL),(7,.X 83 [.I .i64,.I .i64,.T,.I .i64]),(8,wI),(9,wI)]),(458750,[(0,wT),(5,wL),(7,.X 83 [.I .i64,.I .i64,.T,.I .i64]),(8,wI)])]⟩
def ok:M.Ok:=⟨.cons call58 (.cons call59 (.cons call60 (.cons call61 (.cons call62 (AG.nil))))),mixed,func28,by kernel_rfl⟩
def PS:=M.pt 0
def eM:=M.pt 1
def Xf:=M.pt 2
def AL5:=M.pt 3
def MN:=M.pt 6
def start (h:∀b7:Nat,Br ((4096:Int)<(s0.size:Int)) (R (.T #[.N,.I 0,.I 170]) σ) (PS R s0 none 0 0 0 0 (ByteArray.mk #[]) 0 0 σ)):Spec prog 28 #[.string s0] σ R:=M.start h ok
def Mu (h:Br (x8=(s0.size:Int)) (Al σ fun Wp=>AI prog (GO 73 p5 n5 c5 Wp) (Hp.set σ Wp (.cells #[.I 0,.I x8,(.string (ByteArray.mk #[])),.I 0] 83 (0,0))) (CS fun dA n25 dB y=>R (.T #[.slice dA n25 dB,.I 0,.I 0]) y)) (∃u29:UInt8,0≤x8∧(ByteArray.data s0)[x8.toNat]?=some u29∧Br (((u29.toNat:Int):Int)=32) (AK (x8+1)∧PS R s0 p5 n5 c5 Ff HL GY HN (x8+1) σ) (Br (((u29.toNat:Int):Int)=9) (AK (x8+1)∧PS R s0 p5 n5 c5 Ff HL GY HN (x8+1) σ) (Br (((u29.toNat:Int):Int)=13) (AK (x8+1)∧PS R s0 p5 n5 c5 Ff HL GY HN (x8+1) σ) (Br (((u29.toNat:Int):Int)=10) (AK (x8+1)∧PS R s0 p5 n5 c5 Ff HL GY HN (x8+1) σ) (AH 58 #[(.int .u8 (u29.toNat:Int))] σ R (CB fun t49 y=>Bo t49 (eM R s0 p5 n5 c5 Ff HL GY HN x8 x8 y) (AH 59 #[(.int .u8 (u29.toNat:Int))] y R (CB fun t52 AE=>Bo t52 (Xf R s0 p5 n5 c5 Ff HL GY HN x8 x8 AE) (Br (((u29.toNat:Int):Int)=34) (AK (x8+1)∧AL5 R s0 p5 n5 c5 none 0 0 Ff HL GY HN (x8+1) x8 AE) (∃s60,YF prog (Instr.sliceAt 9 (.string s0) (some (.I x8)) none none) AE (.string s60)∧AH 60 #[.string s60] AE R (CT fun s61 AJ=>Bn ((ByteArray.toList s61==ByteArray.toList (ByteArray.mk #[]))) (Al AJ fun b68=>AI prog (GO 73 p5 n5 c5 b68) (Hp.set AJ b68 (.cells #[.I 5,.I x8,.string s61,.I 0] 83 (0,0))) (CS fun zR n69 zS Ah=>AK (x8+(s61.size:Int))∧PS R s0 zR n69 zS Ff HL GY HN ((x8+(s61.size:Int))) Ah)) (R (.T #[.N,.I x8,.I 171]) AJ))))))))))))):PS R s0 p5 n5 c5 Ff HL GY HN x8 σ:=M.Ya h ok rfl fun _=>by kernel_rfl
def lV (h:Br (x8<(s0.size:Int)) (∃u82:UInt8,0≤x8∧(ByteArray.data s0)[x8.toNat]?=some u82∧AH 58 #[(.int .u8 (u82.toNat:Int))] σ R (CB fun t83 y=>Bo t83 (AK (x8+1)∧eM R s0 p5 n5 c5 Ff HL GY HN (x8+1) x9 y) (∃u87:UInt8,0≤x8∧(ByteArray.data s0)[x8.toNat]?=some u87∧AH 59 #[(.int .u8 (u87.toNat:Int))] y R (CB fun t88 AE=>Bo t88 (∃u92:UInt8,0≤x8∧(ByteArray.data s0)[x8.toNat]?=some u92∧Br (((u92.toNat:Int):Int)≠58) (AK (x8+1)∧eM R s0 p5 n5 c5 Ff HL GY HN (x8+1) x9 AE) (∃u99:UInt8,0≤x8∧(ByteArray.data s0)[x8.toNat]?=some u99∧Br (((u99.toNat:Int):Int)=46) (AK (x8+1)∧eM R s0 p5 n5 c5 Ff HL GY HN (x8+1) x9 AE) (∃Hi,YF prog (Instr.sliceAt 9 (.string s0) (some (.I x9)) (some (.I x8)) none) AE (.string Hi)∧AH 61 #[.string Hi] AE R (CI .i64 fun PT AJ=>Br (0<PT) (MN R s0 p5 n5 c5 2 x9 Hi PT x8 AJ) (AH 62 #[.string Hi] AJ R (CB fun t121 Ah=>Bn t121 (R (.T #[.N,.I x9,.I 172]) Ah) (MN R s0 p5 n5 c5 1 x9 Hi PT x8 Ah))))))) (∃u99:UInt8,0≤x8∧(ByteArray.data s0)[x8.toNat]?=some u99∧Br (((u99.toNat:Int):Int)=46) (AK (x8+1)∧eM R s0 p5 n5 c5 Ff HL GY HN (x8+1) x9 AE) (∃Hi,YF prog (Instr.sliceAt 9 (.string s0) (some (.I x9)) (some (.I x8)) none) AE (.string Hi)∧AH 61 #[.string Hi] AE R (CI .i64 fun PT AJ=>Br (0<PT) (MN R s0 p5 n5 c5 2 x9 Hi PT x8 AJ) (AH 62 #[.string Hi] AJ R (CB fun t121 Ah=>Bn t121 (R (.T #[.N,.I x9,.I 172]) Ah) (MN R s0 p5 n5 c5 1 x9 Hi PT x8 Ah)))))))))) (∃Hi,YF prog (Instr.sliceAt 9 (.string s0) (some (.I x9)) (some (.I x8)) none) σ (.string Hi)∧AH 61 #[.string Hi] σ R (CI .i64 fun PT y=>Br (0<PT) (MN R s0 p5 n5 c5 2 x9 Hi PT x8 y) (AH 62 #[.string Hi] y R (CB fun t121 AE=>Bn t121 (R (.T #[.N,.I x9,.I 172]) AE) (MN R s0 p5 n5 c5 1 x9 Hi PT x8 AE)))))):eM R s0 p5 n5 c5 Ff HL GY HN x8 x9 σ:=M.Ya h ok rfl fun _=>by kernel_rfl
def eO (h:Br (x8<(s0.size:Int)) (∃AL7:UInt8,0≤x8∧(ByteArray.data s0)[x8.toNat]?=some AL7∧AH 59 #[(.int .u8 (AL7.toNat:Int))] σ R (CB fun t136 y=>Bo t136 (AK (x8+1)∧Xf R s0 p5 n5 c5 Ff HL GY HN (x8+1) x9 y) (∃AL8:UInt8,0≤x8∧(ByteArray.data s0)[x8.toNat]?=some AL8∧AH 58 #[(.int .u8 (AL8.toNat:Int))] y R (CB fun t141 AE=>Bo t141 (AK (x8+1)∧Xf R s0 p5 n5 c5 Ff HL GY HN (x8+1) x9 AE) (∃eP,YF prog (Instr.sliceAt 9 (.string s0) (some (.I x9)) (some (.I x8)) none) AE (.string eP)∧Al AE fun eQ=>AI prog (GO 73 p5 n5 c5 eQ) (Hp.set AE eQ (.cells #[.I 3,.I x9,.string eP,.I 0] 83 (0,0))) (CS fun uf n154 ug AJ=>PS R s0 uf n154 ug Ff HL GY HN x8 AJ)))))) (∃eP,YF prog (Instr.sliceAt 9 (.string s0) (some (.I x9)) (some (.I x8)) none) σ (.string eP)∧Al σ fun eQ=>AI prog (GO 73 p5 n5 c5 eQ) (Hp.set σ eQ (.cells #[.I 3,.I x9,.string eP,.I 0] 83 (0,0))) (CS fun uf n154 ug y=>PS R s0 uf n154 ug Ff HL GY HN x8 y))):Xf R s0 p5 n5 c5 Ff HL GY HN x8 x9 σ:=M.Ya h ok rfl fun _=>by kernel_rfl
def eR (h:Al σ fun AL9=>AI prog (GO 73 p5 n5 c5 AL9) (Hp.set σ AL9 (.cells #[.I Ff,.I HL,.string GY,.I HN] 83 (0,0))) (CS fun ASj n127 ASk y=>PS R s0 ASj n127 ASk Ff HL GY HN x8 y)):MN R s0 p5 n5 c5 Ff HL GY HN x8 σ:=M.Ya h ok rfl fun _=>by kernel_rfl
end A6
namespace KX
variable {q0:Option Addr}
def M:Fw:=⟨prog,30,f30,[63],[],false,[],[],[]⟩
def ok:M.Ok:=⟨.cons call63 (AG.nil),mixed,func30,by kernel_rfl⟩
def start (h:AH 63 #[.pointer q0,(.func (.func 64) #[.pointer q0] #[]),.I 12,.I 12] σ R (fun z y=>z=(.tuple #[])∧R (.T #[]) y)):Spec prog 30 #[.pointer q0] σ R:=M.start h ok
end KX
namespace Ep
variable {Cg Ck CA Ba dI EG:Int}{lF p1c TO:Option Addr}{bF lG xn yx n20 RG:Nat}
def M:Fw:=⟨prog,41,f41,[76],[1,4],false,[],[],[(232,[(1,.X 43 [.I .u64,.I .i64,.L]),(20,wL),(21,wI),(22,wI)])]⟩
def ok:M.Ok:=⟨.cons call76 (AG.nil),mixed,func41,by kernel_rfl⟩
def Ha:=M.pt 0
def start (h:∀b1:Nat,Br (256<(bF:Int)) (R (.returned (.I 140)) σ) (Br (Ck<(-1099511627776)) (R (.returned (.I 140)) σ) (Br (1099511627776<Ck) (R (.returned (.I 140)) σ) (Ha R Cg Ck lF bF lG lF bF lG (bF:Int) 0 σ)))):Spec prog 41 #[.agg #[.U Cg,.I Ck,.slice lF bF lG]] σ R:=M.start h ok
def FC (h:Br (EG<dI) (Pq TO fun PN WZ=>In EG (n20:Int)∧∃RN dO AMA AMB AMC AMD AME NQ dP AFf AFg,Am σ PN (WZ+EG.toNat*9) [.U RN,.I dO,.I AMA,.I AMB,.slice AMC AMD AME,.I NQ,.I dP,.bool AFf,.I AFg]∧∀b4:Nat,AH 76 #[.agg #[.U RN,.I dO,.I AMA,.I AMB,.slice AMC AMD AME,.I NQ,.I dP]] σ R (CB fun t29 y=>Bn t29 (R (.returned (.I 140)) y) (Br (0<EG) (AK (EG-1)∧Pq p1c fun b42 o42=>In (EG-1) (xn:Int)∧LI .u64 y b42 (o42+Int.toNat (EG-1)*9) fun x45=>Br (RN≤x45) (R (.returned (.I 140)) y) (Bn AFf (Br (AFg≠0) (R (.returned (.I 140)) y) (AK (EG+1)∧Ha R CA Ba (aD b42 o42) xn yx (aD PN WZ) n20 RG dI (EG+1) y)) (AK (EG+1)∧Ha R CA Ba (aD b42 o42) xn yx (aD PN WZ) n20 RG dI (EG+1) y))) (Bn AFf (Br (AFg≠0) (R (.returned (.I 140)) y) (AK (EG+1)∧Ha R CA Ba p1c xn yx (aD PN WZ) n20 RG dI (EG+1) y)) (AK (EG+1)∧Ha R CA Ba p1c xn yx (aD PN WZ) n20 RG dI (EG+1) y))))) (R (.returned (.I 0)) σ)):Ha R CA Ba p1c xn yx TO n20 RG dI EG σ:=M.Ya h ok rfl fun _=>by kernel_rfl
end Ep
namespace Cp
variable {p0 p1:Option Addr}{n0 c0 n1 c1:Nat}{x5:Int}
def M:Fw:=⟨prog,49,f49,[],[],false,[(6,9,true)],[],[(464,[(0,wL),(1,wL),(5,wI)])]⟩
def ok:M.Ok:=⟨AG.nil,mixed,func49,by kernel_rfl⟩
def EE:=M.pt 0
def start (h:Br ((n0:Int)≠(n1:Int)) (R (.B false) σ) (EE R p0 n0 c0 p1 n1 c1 0 σ)):Spec prog 49 #[.slice p0 n0 c0,.slice p1 n1 c1] σ R:=M.start h ok
def C4 (h:Br (x5<(n0:Int)) (Pq p0 fun F3 Wr=>In x5 (n0:Int)∧∃I8 Y3,Am σ F3 (Wr+x5.toNat*2) [.I I8,.U Y3]∧Pq p1 fun WY Xa=>In x5 (n1:Int)∧∃oU cu,Am σ WY (Xa+x5.toNat*2) [.I oU,.U cu]∧∃t25,YF prog ((do eqGuard .neq 111 (.tmp 20) (.tmp 24) (.agg #[.I I8,.U Y3]) (.agg #[.I oU,.U cu]);binOp .neq 111 (.agg #[.I I8,.U Y3]) (.agg #[.I oU,.U cu]))) σ (.bool t25)∧Bo t25 (R (.B false) σ) (AK (x5+1)∧EE R (aD F3 Wr) n0 c0 (aD WY Xa) n1 c1 (x5+1) σ)) (R (.B true) σ)):EE R p0 n0 c0 p1 n1 c1 x5 σ:=M.of h ok rfl
end Cp
namespace C0
variable {q0:Option Addr}{v1:Value}{x4:Int}
def M:Fw:=⟨prog,67,f67,[],[100000],false,[],[],[(48,[(0,wQ),(1,wV),(4,wI)])]⟩
def ok:M.Ok:=⟨AG.nil,mixed,func67,by kernel_rfl⟩
def ij:=M.pt 0
def start (h:Pq q0 fun b6 o6=>LI .i64 σ b6 (o6+1) fun x8=>ij R (aD b6 o6) v1 x8 σ):Spec prog 67 #[.pointer q0,v1] σ R:=M.CL h ok [(0,.o (.Q q0)),(1,.o (.V v1))] rfl rfl (by kernel_rfl)
def UN (h:∃l11:Nat,v1=.func (.yield l11) #[] #[]∧IA prog l11 #[.I x4] σ (AZ R (CB fun t11 y=>Bo t11 (Pq q0 fun HH JU=>LI .i64 y HH (JU+3) fun x16=>Br (0<x16) (LI .i64 y HH (JU+2) fun Ew=>AK (Ew-x4)∧LI .i64 y HH (JU+3) fun Ss=>Br (Ss≤(Ew-x4)) (LI .i64 y HH (JU+3) fun Yq=>AK (x4+Yq)∧ij R (aD HH JU) v1 (x4+Yq) y) (R (.T #[]) y)) (R (.T #[]) y)) (R (.T #[]) y)))):ij R q0 v1 x4 σ:=M.of h ok rfl
end C0
namespace KY
variable {s0a gJ s1a s1b:ByteArray}
def M:Fw:=⟨prog,73,f73,[74,75],[2,3],false,[],[],[]⟩
def ok:M.Ok:=⟨.cons call74 (.cons call75 (AG.nil)),mixed,func73,by kernel_rfl⟩
def start (h:∀b2:Nat,∀b3:Nat,AH 75 #[.string s0a,.string s1a] σ R (CI .i64 fun x9 y=>AH 75 #[.string gJ,.string s1b] y R (CI .i64 fun Jl AE=>Al AE fun TN=>AH 74 #[(.slice (aD TN 0) 2 2)] (Hp.set AE TN (.cells #[.I x9,.I Jl] 3 (0,0))) R (CI .i64 fun x16 AJ=>R (.returned (.I x16)) AJ)))):Spec prog 73 #[.agg #[.string s0a,.string gJ],.agg #[.string s1a,.string s1b]] σ R:=M.start h ok
end KY
namespace Bz
variable {q0 Du EB p2:Option Addr}{CA Ba Dl DA Cf Cj x8:Int}{Dm:ByteArray}{Dx Dy Dz EC n2 c2:Nat}{DI:Bool}
def M:Fw:=⟨prog,88,f88,[],[4],false,[],[],[(60,[(2,wL),(8,wI)])]⟩
def ok:M.Ok:=⟨AG.nil,mixed,func88,by kernel_rfl⟩
def DB:=M.pt 0
def start (h:∀b4:Nat,Br (Ba=11) (DB R p2 n2 c2 2 σ) (Br (Ba=12) (DB R p2 n2 c2 2 σ) (DB R p2 n2 c2 3 σ))):Spec prog 88 #[.pointer q0,.agg #[.I CA,.I Ba,.string Dm,.slice Du Dx Dy,.I Dl,.I DA,.I Cf,.slice EB Dz EC,.bool DI,.I Cj],.slice p2 n2 c2] σ R:=M.start h ok
def BX (h:Pq p2 fun XS iz=>In 0 (n2:Int)∧LI .i64 σ XS iz fun Ms=>Br (Ms≠x8) (R (.T #[.I 0,.I 191]) σ) (R (.T #[.I 2,.I 0]) σ)):DB R p2 n2 c2 x8 σ:=M.of h ok rfl
end Bz
namespace FU
variable {q0 Du EB p2:Option Addr}{CA Ba Dl DA Cf Cj:Int}{Dm:ByteArray}{Dx Dy Dz EC n2 c2:Nat}{DI:Bool}
def M:Fw:=⟨prog,89,f89,[],[4],false,[],[],[]⟩
def ok:M.Ok:=⟨AG.nil,mixed,func89,by kernel_rfl⟩
def start (h:∀b4:Nat,Pq p2 fun b9 o9=>In 0 (n2:Int)∧LI .i64 σ b9 o9 fun x11=>Br (x11≠2) (R (.T #[.I 0,.I 191]) σ) (R (.T #[.I 2,.I 0]) σ)):Spec prog 89 #[.pointer q0,.agg #[.I CA,.I Ba,.string Dm,.slice Du Dx Dy,.I Dl,.I DA,.I Cf,.slice EB Dz EC,.bool DI,.I Cj],.slice p2 n2 c2] σ R:=M.start h ok
end FU
namespace VR
variable {Cg Ck Sv NL Hq KT:Int}{Sx:ByteArray}{Xb UU:Option Addr}{Wq Xc TP UW:Nat}{PM:Bool}
def M:Fw:=⟨prog,113,f113,[],[1,2],false,[(12,7,false),(15,7,false),(18,11,false),(21,15,false)],[],[]⟩
def ok:M.Ok:=⟨AG.nil,mixed,func113,by kernel_rfl⟩
def start (h:∀b1:Nat,∀b2:Nat,Al σ fun b3=>AI prog (Instr.storeAt 127 (.pointer (aD b3 0)) (.agg #[.I Cg,.I 0,(.string (ByteArray.mk #[])),.N,.I 0,.I 0,.I 0,.N,.bool false,.I 0])) (Hp.set σ b3 (.cells #[.I 0,.I 0,(.string (ByteArray.mk #[])),.N,.I 0,.I 0,.I 0,.N,.bool false,.I 0] 127 (0,0))) (fun _ y=>Br (Cg=1) (AI prog (Instr.storeAt 9 (.pointer (aD b3 2)) (.string Sx)) y (fun _ AE=>∃PI PJ il uh ui uj uo uq ur uu uw ux uy uz,Am AE b3 0 [.I PI,.I PJ,.string il,.slice uh ui uj,.I uo,.I uq,.I ur,.slice uu uw ux,.bool uy,.I uz]∧R (.returned (.agg #[.I PI,.I PJ,.string il,.slice uh ui uj,.I uo,.I uq,.I ur,.slice uu uw ux,.bool uy,.I uz])) AE)) (Br (Cg=2) (AI prog (Instr.storeAt 2 (.pointer (aD b3 5)) (.I NL)) y (fun _ AE=>∃oU cu AMF AMG AMH AMI AMJ AMK AML AMM AMN AMO AMP AMQ,Am AE b3 0 [.I oU,.I cu,.string AMF,.slice AMG AMH AMI,.I AMJ,.I AMK,.I AML,.slice AMM AMN AMO,.bool AMP,.I AMQ]∧R (.returned (.agg #[.I oU,.I cu,.string AMF,.slice AMG AMH AMI,.I AMJ,.I AMK,.I AML,.slice AMM AMN AMO,.bool AMP,.I AMQ])) AE)) (Br (Cg=3) (AI prog (Instr.storeAt 2 (.pointer (aD b3 4)) (.I Sv)) y (fun _ AE=>AI prog (Instr.storeAt 2 (.pointer (aD b3 5)) (.I NL)) AE (fun _ AJ=>∃UL yp AMR AMS AMT AMU AMV AMW AMX AMY AMZ AMa AMb AMc,Am AJ b3 0 [.I UL,.I yp,.string AMR,.slice AMS AMT AMU,.I AMV,.I AMW,.I AMX,.slice AMY AMZ AMa,.bool AMb,.I AMc]∧R (.returned (.agg #[.I UL,.I yp,.string AMR,.slice AMS AMT AMU,.I AMV,.I AMW,.I AMX,.slice AMY AMZ AMa,.bool AMb,.I AMc])) AJ))) (Br (Cg=4) (AI prog (Instr.storeAt 3 (.pointer (aD b3 1)) (.I Ck)) y (fun _ AE=>AI prog (Instr.storeAt 3 (.pointer (aD b3 9)) (.I KT)) AE (fun _ AJ=>∃AMd AMe AMf AMg AMh AMi AMj AMk AMl AMm AMn AMo AMp AMq,Am AJ b3 0 [.I AMd,.I AMe,.string AMf,.slice AMg AMh AMi,.I AMj,.I AMk,.I AMl,.slice AMm AMn AMo,.bool AMp,.I AMq]∧R (.returned (.agg #[.I AMd,.I AMe,.string AMf,.slice AMg AMh AMi,.I AMj,.I AMk,.I AMl,.slice AMm AMn AMo,.bool AMp,.I AMq])) AJ))) (Br (Cg=5) (AI prog (Instr.storeAt 3 (.pointer (aD b3 1)) (.I Ck)) y (fun _ AE=>AI prog (Instr.storeAt 3 (.pointer (aD b3 9)) (.I KT)) AE (fun _ AJ=>AI prog (Instr.storeAt 3 (.pointer (aD b3 6)) (.I Hq)) AJ (fun _ Ah=>∃dq dt uV du dw dz uW uX uY uZ ua ub uc ud,Am Ah b3 0 [.I dq,.I dt,.string uV,.slice du dw dz,.I uW,.I uX,.I uY,.slice uZ ua ub,.bool uc,.I ud]∧R (.returned (.agg #[.I dq,.I dt,.string uV,.slice du dw dz,.I uW,.I uX,.I uY,.slice uZ ua ub,.bool uc,.I ud])) Ah)))) (Br (Cg=6) (AI prog (Instr.storeAt 3 (.pointer (aD b3 1)) (.I Ck)) y (fun _ AE=>AI prog (Instr.storeAt 3 (.pointer (aD b3 9)) (.I KT)) AE (fun _ AJ=>AI prog (Instr.storeAt 4 (.pointer (aD b3 8)) (.bool PM)) AJ (fun _ Ah=>AI prog (Instr.storeAt 3 (.pointer (aD b3 6)) (.I Hq)) Ah (fun _ CF=>∃dQ dR dS dT dU dV dW dX dY dZ da db dc de,Am CF b3 0 [.I dQ,.I dR,.string dS,.slice dT dU dV,.I dW,.I dX,.I dY,.slice dZ da db,.bool dc,.I de]∧R (.returned (.agg #[.I dQ,.I dR,.string dS,.slice dT dU dV,.I dW,.I dX,.I dY,.slice dZ da db,.bool dc,.I de])) CF))))) (AI prog (Instr.storeAt 3 (.pointer (aD b3 9)) (.I KT)) y (fun _ AE=>∃oP Y4 AMr AMs AMt AMu AMv AMw AMx AMy AMz AM0 AM1 AM2,Am AE b3 0 [.I oP,.I Y4,.string AMr,.slice AMs AMt AMu,.I AMv,.I AMw,.I AMx,.slice AMy AMz AM0,.bool AM1,.I AM2]∧R (.returned (.agg #[.I oP,.I Y4,.string AMr,.slice AMs AMt AMu,.I AMv,.I AMw,.I AMx,.slice AMy AMz AM0,.bool AM1,.I AM2])) AE))))))))):Spec prog 113 #[.agg #[.I Cg,.I Ck,.string Sx,.slice Xb Wq Xc,.I Sv,.I NL,.I Hq,.slice UU TP UW,.bool PM,.I KT]] σ R:=M.start h ok
end VR
namespace MO
variable {x0:Int}
def M:Fw:=⟨prog,116,f116,[],[],false,[],[],[]⟩
def ok:M.Ok:=⟨AG.nil,mixed,func116,by kernel_rfl⟩
def start (h:Br (5≤x0) (R (.returned (.bool (decide (x0≤10)))) σ) (R (.B false) σ)):Spec prog 116 #[.I x0] σ R:=M.start h ok
end MO
namespace CU
variable {s0:ByteArray}{x1:Int}
def M:Fw:=⟨prog,121,f121,[],[],false,[],[],[]⟩
def ok:M.Ok:=⟨AG.nil,mixed,func121,by kernel_rfl⟩
def start (h:EN prog 136 #[.string s0,.int .u8 x1] σ (CI .i64 fun x7 y=>R (.returned (.I x7)) y)):Spec prog 121 #[.string s0,.int .u8 x1] σ R:=M.start h ok
end CU
namespace BO
variable {q0 Du EB p2 Hw Gr p8 dA:Option Addr}{CA Ba Dl DA Cf Cj Gp Gq Ws Hv:Int}{Dm:ByteArray}{Dx Dy Dz EC n2 c2 Hx Hy Gs Gt n8 c8 n25 dB:Nat}{DI:Bool}
def M:Fw:=⟨prog,135,f135,[158,160,174],[4,6,10],false,[],[],[(488,[(6,.X 164 [.I .i64,.I .u64,.L,.L]),(8,wL),(25,wL),(26,wI),(27,wI)])]⟩
def ok:M.Ok:=⟨.cons call158 (.cons call160 (.cons call174 (AG.nil))),mixed,func135,by kernel_rfl⟩
def zm:=M.pt 0
def start (h:∀b4:Nat,∀b6:Nat,Pq p2 fun F6 IH=>In 0 (n2:Int)∧LI .i64 σ F6 IH fun Jl=>Br (Jl=1) (In 0 (n2:Int)∧LI .u64 σ F6 (IH+1) fun Bk=>AH 174 #[.U Bk] σ R (CI .u64 fun Ms y=>R (.T #[.agg #[.I 1,.U Ms,.N,.N],.I 0]) y)) (In 0 (n2:Int)∧LS σ F6 (IH+2) fun dA n25 dB=>zm R 0 0 none 0 0 none 0 0 none 0 0 dA n25 dB (n25:Int) 0 σ)):Spec prog 135 #[.pointer q0,.agg #[.I CA,.I Ba,.string Dm,.slice Du Dx Dy,.I Dl,.I DA,.I Cf,.slice EB Dz EC,.bool DI,.I Cj],.slice p2 n2 c2] σ R:=M.start h ok
def lW (h:Br (Hv<Ws) (Pq dA fun Qm XV=>In Hv (n25:Int)∧∃tI tJ tK cX,Am σ Qm (XV+Hv.toNat*2) [.slice tI tJ tK,.U cX]∧∀Cs:Nat,AH 158 #[.slice tI tJ tK] σ R (CS fun p34 n34 c34 y=>AH 174 #[.U cX] y R (CI .u64 fun Su AE=>Al AE fun lO=>AI prog (GO 105 p8 n8 c8 lO) (Hp.set AE lO (.cells #[.slice p34 n34 c34,.U Su] 109 (0,0))) (CS fun zO n40 zP AJ=>AK (Hv+1)∧zm R Gp Gq Hw Hx Hy Gr Gs Gt zO n40 zP (aD Qm XV) n25 dB Ws (Hv+1) AJ)))) (AH 160 #[.slice p8 n8 c8] σ R (fun z y=>∃ACh ACi ACj ACk ACl ACm ACn ACo NR,z=(.tuple #[.agg #[.I ACh,.U ACi,.slice ACj ACk ACl,.slice ACm ACn ACo],.I NR])∧R (.T #[.agg #[.I ACh,.U ACi,.slice ACj ACk ACl,.slice ACm ACn ACo],.I NR]) y))):zm R Gp Gq Hw Hx Hy Gr Gs Gt p8 n8 c8 dA n25 dB Ws Hv σ:=M.Ya h ok rfl fun _=>by kernel_rfl
end BO
namespace MP
def M:Fw:=⟨prog,159,f159,[194,198],[],false,[],[],[]⟩
def ok:M.Ok:=⟨.cons call194 (.cons call198 (AG.nil)),mixed,func159,by kernel_rfl⟩
def start (h:AH 194 #[(.func (.func 163) #[] #[])] σ R (fun z y=>∃f1 a1 c1,(Value.func f1 a1 c1)=z∧AH 194 #[(.func (.func 166) #[] #[])] y R (fun z AE=>∃f2 a2 c2,(Value.func f2 a2 c2)=z∧AH 194 #[(.func (.func 164) #[] #[])] AE R (fun z AJ=>∃f3 a3 c3,(Value.func f3 a3 c3)=z∧AH 194 #[(.func (.func 165) #[] #[])] AJ R (fun z Ah=>∃f4 a4 c4,(Value.func f4 a4 c4)=z∧AH 194 #[(.func (.func 167) #[] #[])] Ah R (fun z CF=>∃f5 a5 c5,(Value.func f5 a5 c5)=z∧AH 194 #[(.func (.func 195) #[] #[])] CF R (fun z Fu=>∃f6 a6 c6,(Value.func f6 a6 c6)=z∧AH 194 #[(.func (.func 197) #[] #[])] Fu R (fun z FX=>∃f7 a7 c7,(Value.func f7 a7 c7)=z∧AH 198 #[(.func (.func 199) #[] #[])] FX R (fun z TJ=>∃f8 a8 c8,(Value.func f8 a8 c8)=z∧AH 198 #[(.func (.func 201) #[] #[])] TJ R (fun z Wk=>∃f9 a9 c9,(Value.func f9 a9 c9)=z∧AH 198 #[(.func (.func 203) #[] #[])] Wk R (fun z Jk=>∃f10 jH KO,(Value.func f10 jH KO)=z∧Al Jk fun D5=>R (.returned (.slice (aD D5 0) 11 11)) (Hp.set Jk D5 (.cells #[.nilFunc,(Value.func f10 jH KO),(Value.func f9 a9 c9),(Value.func f8 a8 c8),(Value.func f1 a1 c1),(Value.func f2 a2 c2),(Value.func f3 a3 c3),(Value.func f4 a4 c4),(Value.func f5 a5 c5),(Value.func f6 a6 c6),(Value.func f7 a7 c7)] 240 (0,0)))))))))))))):Spec prog 159 #[] σ R:=M.start h ok
end MP
namespace VT
variable {p0 p1:Option Addr}{n0 c0 n1 c1:Nat}
def M:Fw:=⟨prog,161,f161,[207],[],false,[],[],[]⟩
def ok:M.Ok:=⟨.cons call207 (AG.nil),mixed,func161,by kernel_rfl⟩
def start (h:Al σ fun b3=>AH 207 #[.slice p0 n0 c0,(.func (.func 208) #[] #[(.pointer (aD b3 0))])] (Hp.set σ b3 (.cells #[.slice p1 n1 c1] 125 (0,0))) R (CS fun p7 n7 c7 y=>R (.returned (.slice p7 n7 c7)) y)):Spec prog 161 #[.slice p0 n0 c0,.slice p1 n1 c1] σ R:=M.start h ok
end VT
namespace Hj
variable {p0:Option Addr}{n0 c0:Nat}
def M:Fw:=⟨prog,164,f164,[212],[],false,[],[],[]⟩
def ok:M.Ok:=⟨.cons call212 (AG.nil),mixed,func164,by kernel_rfl⟩
def start (h:AH 212 #[.I 7,.slice p0 n0 c0] σ R (CI .u64 fun x4 y=>R (.returned (.U x4)) y)):Spec prog 164 #[.slice p0 n0 c0] σ R:=M.start h ok
end Hj
namespace Hk
variable {s0:ByteArray}{x1:Int}
def M:Fw:=⟨prog,182,f182,[222,223],[],false,[],[],[]⟩
def ok:M.Ok:=⟨.cons call222 (.cons call223 (AG.nil)),mixed,func182,by kernel_rfl⟩
def start (h:AH 222 #[.string s0,.I x1] σ R (fun z y=>∃oR oS,z=(.tuple #[oR,oS])∧∃t15,YF prog ((do eqGuard .neq 260 (.tmp 14) (.const .nilIface) oS .nilIface;binOp .neq 260 oS .nilIface)) y (.bool t15)∧Bo t15 (AH 223 #[(.string (ByteArray.mk #[80,97,114,115,101,70,108,111,97,116])),.string s0,.I 0,.I x1,oS] y R (fun z AE=>∃v20,v20=z∧R (.T #[oR,v20]) AE)) (R (.T #[oR,.nilIface]) y))):Spec prog 182 #[.string s0,.I x1] σ R:=M.start h ok
end Hk
namespace A9
variable {p0:Option Addr}{n0 c0:Nat}{x1 x8 x9 x10:Int}{v2:Value}
def M:Fw:=⟨prog,184,f184,[],[],false,[],[],[(480,[(0,wL),(1,wI),(2,wV),(8,wI),(9,wI),(10,wI)])]⟩
def ok:M.Ok:=⟨AG.nil,mixed,func184,by kernel_rfl⟩
def CM:=M.pt 0
def start (h:CM R p0 n0 c0 x1 v2 (n0:Int) 0 (n0:Int) σ):Spec prog 184 #[.slice p0 n0 c0,.I x1,v2] σ R:=M.CL h ok [(0,.o (.L p0 n0 c0)),(1,.o (.I .i64 x1)),(2,.o (.V v2))] rfl rfl (by kernel_rfl)
def BE (h:Br (x9<x10) (AK (x9+x10)∧Df (IntKind.u64.wrap (x9+x10)) fun dI=>((0:Int)≤1∧1≤((IntKind.bits .u64:Nat):Int))∧Df (dI/2^Int.toNat 1) fun EG=>Df (IntKind.i64.wrap EG) fun Ew=>Pq p0 fun PR tq=>In Ew (n0:Int)∧∃di Ua,Am σ PR (tq+Ew.toNat*2) [.I di,.U Ua]∧∃(f30:Nat) (ACp ACq:Array Value),v2=.func (.func f30) ACp ACq∧Enters prog f30∧Spec prog f30 (ACp++#[.agg #[.I di,.U Ua],.I x1]++ACq) σ (AZ R (CI .i64 fun Ks y=>Br (Ks<0) (AK (Ew+1)∧CM R (aD PR tq) n0 c0 x1 v2 x8 (Ew+1) x10 y) (CM R (aD PR tq) n0 c0 x1 v2 x8 x9 Ew y)))) (Br (x9<x8) (Pq p0 fun lP o43=>In x9 (n0:Int)∧∃Ig Ih,Am σ lP (o43+x9.toNat*2) [.I Ig,.U Ih]∧∃(f46:Nat) (ACr ACs:Array Value),v2=.func (.func f46) ACr ACs∧Enters prog f46∧Spec prog f46 (ACr++#[.agg #[.I Ig,.U Ih],.I x1]++ACs) σ (AZ R (CI .i64 fun x46 y=>R (.T #[.I x9,(.bool (decide (x46=0)))]) y))) (R (.T #[.I x9,.bool false]) σ))):CM R p0 n0 c0 x1 v2 x8 x9 x10 σ:=M.of h ok rfl
end A9
namespace eT
variable {x0 x1:Int}
def M:Fw:=⟨prog,204,f204,[213],[],false,[],[],[]⟩
def ok:M.Ok:=⟨.cons call213 (AG.nil),mixed,func204,by kernel_rfl⟩
def start (h:AH 213 #[.I 4,.U x0,.U x1] σ R (fun z y=>∃Gu UJ,z=(.tuple #[.U Gu,.bool UJ])∧R (.returned (.U Gu)) y)):Spec prog 204 #[.U x0,.U x1] σ R:=M.start h ok
end eT
namespace VU
variable {t0:Bool}
def M:Fw:=⟨prog,215,f215,[155],[],false,[],[],[]⟩
def ok:M.Ok:=⟨.cons call155 (AG.nil),mixed,func215,by kernel_rfl⟩
def start (h:Bo t0 (AH 155 #[.I 1] σ R (CI .u64 fun x4 y=>R (.returned (.U x4)) y)) (AH 155 #[.I 0] σ R (CI .u64 fun x5 y=>R (.returned (.U x5)) y))):Spec prog 215 #[.bool t0] σ R:=M.start h ok
end VU
namespace lX
variable {Cg Ck Sv NL Hq KT:Int}{Sx:ByteArray}{Xb UU p1:Option Addr}{Wq Xc TP UW n1 c1:Nat}{PM:Bool}
def M:Fw:=⟨prog,217,f217,[158,161,162],[2],false,[],[],[]⟩
def ok:M.Ok:=⟨.cons call158 (.cons call161 (.cons call162 (AG.nil))),mixed,func217,by kernel_rfl⟩
def start (h:∀b2:Nat,Br (Hq=3) (AH 161 #[.slice p1 n1 c1,.slice UU TP UW] σ R (CS fun Ko n11 Kq y=>R (.returned (.slice Ko n11 Kq)) y)) (AH 162 #[.slice p1 n1 c1,.slice UU TP UW] σ R (CS fun TL n15 RB y=>AH 158 #[.slice TL n15 RB] y R (CS fun Ql n16 PK AE=>R (.returned (.slice Ql n16 PK)) AE)))):Spec prog 217 #[.agg #[.I Cg,.I Ck,.string Sx,.slice Xb Wq Xc,.I Sv,.I NL,.I Hq,.slice UU TP UW,.bool PM,.I KT],.slice p1 n1 c1] σ R:=M.start h ok
end lX
namespace VV
variable {v0:Value}
def M:Fw:=⟨prog,224,f224,[],[],false,[],[],[]⟩
def ok:M.Ok:=⟨AG.nil,mixed,func224,by kernel_rfl⟩
def start (h:∃t5,YF prog ((do eqGuard .neq 258 (.tmp 3) (.tmp 4) v0 v0;binOp .neq 258 v0 v0)) σ (.bool t5)∧R (.B t5) σ):Spec prog 224 #[v0] σ R:=M.CL h ok [(0,.o (.V v0))] rfl rfl (by kernel_rfl)
end VV
namespace No
def M:Fw:=⟨prog,278,f278,[192],[],false,[],[],[]⟩
def ok:M.Ok:=⟨.cons call192 (AG.nil),mixed,func278,by kernel_rfl⟩
def start (h:AH 192 #[.U 4604544271217802189] σ R (fun z y=>∃x2,(Value.float .f64 x2)=z∧∃x5,YF prog (Op.unary .neg (Value.float .f64 x2)) y (Value.float .f64 x5)∧∃x6 y6,YF prog (Builtin.complex_ #[258,258] 319 #[(Value.float .f64 x2),(Value.float .f64 x5)]) y (Value.complex .f64 x6 y6)∧∃x8,YF prog (Op.unary .neg (Value.float .f64 x2)) y (Value.float .f64 x8)∧∃x10,YF prog (Op.unary .neg (Value.float .f64 x2)) y (Value.float .f64 x10)∧∃x11 y11,YF prog (Builtin.complex_ #[258,258] 319 #[(Value.float .f64 x8),(Value.float .f64 x10)]) y (Value.complex .f64 x11 y11)∧∃E2,YF prog (Op.unary .neg (Value.float .f64 x2)) y (Value.float .f64 E2)∧∃x15 y15,YF prog (Builtin.complex_ #[258,258] 319 #[(Value.float .f64 E2),(Value.float .f64 x2)]) y (Value.complex .f64 x15 y15)∧∃KS y18,YF prog (Builtin.complex_ #[258,258] 319 #[(Value.float .f64 x2),(Value.float .f64 x2)]) y (Value.complex .f64 KS y18)∧Al y fun F3=>R (.returned (.slice (aD F3 0) 8 8)) (Hp.set y F3 (.cells #[.complex .f64 4607182418800017408 0,(Value.complex .f64 x6 y6),.complex .f64 0 13830554455654793216,(Value.complex .f64 x11 y11),.complex .f64 13830554455654793216 0,(Value.complex .f64 x15 y15),.complex .f64 0 4607182418800017408,(Value.complex .f64 KS y18)] 319 (0,0))))):Spec prog 278 #[] σ R:=M.start h ok
end No
namespace Aw
variable {s0:ByteArray}{x5 x6 x12 x7:Int}{t13 t16 t19:Bool}
def M:Fw:=⟨prog,282,f282,[305,306,307],[],false,[],[],[(128001,[(0,wT),(5,wI),(6,wI),(12,w8),(13,wB)]),(256005,[(0,wT),(5,wI),(6,wI),(12,w8),(16,wB)]),(8004,[(0,wT),(5,wI),(6,wI)]),(256007,[(0,wT),(19,wB)]),(126,[]),(32022,[(5,wI),(6,wI),(7,wI)]),(32006,[(0,wT),(5,wI)])]⟩
def ok:M.Ok:=⟨.cons call305 (.cons call306 (.cons call307 (AG.nil))),mixed,func282,by kernel_rfl⟩
def Fy:=M.pt 0
def Wt:=M.pt 1
def ASl:=M.pt 2
def dM:=M.pt 3
def AFh:=M.pt 4
def AM3:=M.pt 6
def start (h:Br (((s0.size:Int):Int)=0) (R (.T #[.float .f64 0,.I 0,.bool false]) σ) (∃u12:UInt8,(0:Int)≤0∧(ByteArray.data s0)[Int.toNat 0]?=some u12∧Br (((u12.toNat:Int):Int)=43) (Fy R s0 1 0 ((u12.toNat:Int)) true σ) (Fy R s0 1 0 ((u12.toNat:Int)) ((decide (((u12.toNat:Int):Int)=45))) σ))):Spec prog 282 #[.string s0] σ R:=M.start h ok
def Yn (h:Bo t13 (∃u23:UInt8,(0:Int)≤0∧(ByteArray.data s0)[Int.toNat 0]?=some u23∧Br (((u23.toNat:Int):Int)=45) (AM3 R s0 (-1) σ) (AM3 R s0 x5 σ)) (Br (x12=105) (Wt R s0 x5 x6 x12 true σ) (Wt R s0 x5 x6 x12 ((decide (x12=73))) σ))):Fy R s0 x5 x6 x12 t13 σ:=M.of h ok rfl
def TR (h:Bo t16 (ASl R s0 x5 x6 σ) (Br (x12=110) (dM R s0 true σ) (dM R s0 ((decide (x12=78))) σ))):Wt R s0 x5 x6 x12 t16 σ:=M.of h ok rfl
def Yw (h:Bo t19 (AH 305 #[.string s0,(.string (ByteArray.mk #[110,97,110]))] σ R (CI .i64 fun sq y=>Br (sq=3) (AH 307 #[] y R (fun z AE=>∃qt,(Value.float .f64 qt)=z∧R (.T #[(Value.float .f64 qt),.I 3,.bool true]) AE)) (AFh R y))) (AFh R σ)):dM R s0 t19 σ:=M.of h ok rfl
def zn (h:R (.T #[.float .f64 0,.I 0,.bool false]) σ):AFh R  σ:=M.of h ok rfl
end Aw
namespace AF
variable {s0:ByteArray}{x2 x3 x7 x10 x11 x12 x15 x16 x17 Bk Ms:Int}{t4 t5 t6 t8 t9 t13 t14:Bool}
def M:Fw:=⟨prog,283,f283,[308,309],[],false,[],[],[(110,[(0,wT),(2,wU),(3,wI),(4,wB),(5,wB),(6,wB),(7,wI),(8,wB),(9,wB)]),(1790,[(0,wT),(2,wU),(3,wI),(4,wB),(5,wB),(6,wB),(7,wI),(8,wB),(9,wB),(10,wU),(11,wI),(12,w8)]),(1834976,[(0,wT),(2,wU),(3,wI),(4,wB),(5,wB),(6,wB),(7,wI),(8,wB),(9,wB),(10,wU),(11,wI),(12,w8),(13,wB),(14,wB),(15,wI),(16,wI),(17,wI)]),(458748,[(0,wT),(2,wU),(3,wI),(4,wB),(5,wB),(6,wB),(7,wI),(8,wB),(9,wB),(10,wU),(12,w8),(13,wB),(14,wB),(15,wI),(16,wI),(17,wI)]),(1835004,[(0,wT),(2,wU),(3,wI),(4,wB),(5,wB),(6,wB),(7,wI),(8,wB),(9,wB),(10,wU),(12,w8),(16,wI),(17,wI)]),(3670012,[(0,wT),(2,wU),(3,wI),(4,wB),(5,wB),(6,wB),(7,wI),(8,wB),(9,wB),(10,wU),(12,w8),(16,wI),(17,wI)]),(7340028,[(0,wT),(2,wU),(3,wI),(4,wB),(5,wB),(6,wB),(7,wI),(8,wB),(9,wB),(16,wI),(17,wI)]),(14680060,[(0,wT),(2,wU),(3,wI),(4,wB),(5,wB),(6,wB),(7,wI),(8,wB),(9,wB)]),(469761724,[(0,wT),(2,wU),(3,wI),(4,wB),(5,wB),(6,wB),(7,wI),(8,wB),(9,wB),(16,wI),(17,wI),(19,wI)]),(15032375264,[(0,wT),(2,wU),(3,wI),(4,wB),(5,wB),(6,wB),(7,wI),(8,wB),(9,wB),(16,wI),(17,wI),(19,wI),(20,wI)]),(15032375267,[(0,wT),(2,wU),(3,wI),(4,wB),(5,wB),(6,wB),(7,wI),(8,wB),(9,wB),(16,wI),(17,wI),(19,wI),(20,wI)]),(1834979,[(0,wT),(2,wU),(3,wI),(4,wB),(5,wB),(6,wB),(7,wI),(8,wB),(9,wB),(10,wU),(11,wI),(12,w8),(13,wB),(14,wB),(15,wI),(16,wI),(17,wI)])]⟩
def ok:M.Ok:=⟨.cons call308 (.cons call309 (AG.nil)),mixed,func283,by kernel_rfl⟩
def I7:=M.pt 0
def NN:=M.pt 1
def u4:=M.pt 2
def QH:=M.pt 3
def lY:=M.pt 4
def u5:=M.pt 5
def u6:=M.pt 6
def u7:=M.pt 7
def vA:=M.pt 8
def Gc:=M.pt 11
def start (h:Br (((s0.size:Int):Int)≤0) (R (.T #[.U 0,.I 0,.bool false,.bool false,.bool false,.I 0,.bool false]) σ) (∃u27:UInt8,(0:Int)≤0∧(ByteArray.data s0)[Int.toNat 0]?=some u27∧Br (((u27.toNat:Int):Int)=43) (AK (0+1)∧I7 R s0 0 0 false false false (0+1) false false σ) (Br (((u27.toNat:Int):Int)=45) (AK (0+1)∧I7 R s0 0 0 true false false (0+1) false false σ) (I7 R s0 0 0 false false false 0 false false σ)))):Spec prog 283 #[.string s0] σ R:=M.start h ok
def IG (h:AK (x7+2)∧Br (((x7+2):Int)<(s0.size:Int)) (∃u44:UInt8,0≤x7∧(ByteArray.data s0)[x7.toNat]?=some u44∧Br (((u44.toNat:Int):Int)=48) (AK (x7+1)∧∃u51:UInt8,(0:Int)≤(x7+1)∧(ByteArray.data s0)[Int.toNat (x7+1)]?=some u51∧AH 308 #[(.int .u8 (u51.toNat:Int))] σ R (CI .u8 fun zQ y=>Br (zQ=120) (AK (x7+2)∧NN R s0 x2 x3 t4 t5 true (x7+2) t8 t9 16 16 112 y) (NN R s0 x2 x3 t4 t5 t6 x7 t8 t9 10 19 101 y))) (NN R s0 x2 x3 t4 t5 t6 x7 t8 t9 10 19 101 σ)) (NN R s0 x2 x3 t4 t5 t6 x7 t8 t9 10 19 101 σ)):I7 R s0 x2 x3 t4 t5 t6 x7 t8 t9 σ:=M.of h ok rfl
def Jp (h:u4 R s0 x2 x3 t4 t5 t6 x7 t8 t9 x10 x11 x12 false false 0 0 0 σ):NN R s0 x2 x3 t4 t5 t6 x7 t8 t9 x10 x11 x12 σ:=M.of h ok rfl
def lZ (h:Br (x7<(s0.size:Int)) (∃gO:UInt8,0≤x7∧(ByteArray.data s0)[x7.toNat]?=some gO∧Br (((gO.toNat:Int):Int)=95) (Gc R s0 x2 x3 t4 t5 t6 x7 t8 true x10 x11 x12 t13 t14 x15 x16 x17 σ) (Br (((gO.toNat:Int):Int)=46) (Bo t13 (QH R s0 x2 x3 t4 t5 t6 x7 t8 t9 x10 x12 true t14 x15 x16 x17 σ) (Gc R s0 x2 x3 t4 t5 t6 x7 t8 t9 x10 x11 x12 true t14 x15 x16 x15 σ)) (Br ((48:Int)≤(gO.toNat:Int)) (Br (((gO.toNat:Int):Int)≤57) (Br (((gO.toNat:Int):Int)=48) (Br (x15=0) (AK (x17-1)∧Gc R s0 x2 x3 t4 t5 t6 x7 t8 t9 x10 x11 x12 t13 true x15 x16 (x17-1) σ) (AK (x15+1)∧Br (x16<x11) (Df (IntKind.u64.wrap (x2*x10)) fun xj=>Df (IntKind.u8.wrap ((gO.toNat:Int)-48)) fun oV=>Df (IntKind.u64.wrap oV) fun Yz=>Df (IntKind.u64.wrap (xj+Yz)) fun jI=>AK (x16+1)∧Gc R s0 jI x3 t4 t5 t6 x7 t8 t9 x10 x11 x12 t13 true (x15+1) (x16+1) x17 σ) (Br (((gO.toNat:Int):Int)≠48) (Gc R s0 x2 x3 t4 true t6 x7 t8 t9 x10 x11 x12 t13 true (x15+1) x16 x17 σ) (Gc R s0 x2 x3 t4 t5 t6 x7 t8 t9 x10 x11 x12 t13 true (x15+1) x16 x17 σ)))) (AK (x15+1)∧Br (x16<x11) (Df (IntKind.u64.wrap (x2*x10)) fun xj=>Df (IntKind.u8.wrap ((gO.toNat:Int)-48)) fun oV=>Df (IntKind.u64.wrap oV) fun Yz=>Df (IntKind.u64.wrap (xj+Yz)) fun jI=>AK (x16+1)∧Gc R s0 jI x3 t4 t5 t6 x7 t8 t9 x10 x11 x12 t13 true (x15+1) (x16+1) x17 σ) (Br (((gO.toNat:Int):Int)≠48) (Gc R s0 x2 x3 t4 true t6 x7 t8 t9 x10 x11 x12 t13 true (x15+1) x16 x17 σ) (Gc R s0 x2 x3 t4 t5 t6 x7 t8 t9 x10 x11 x12 t13 true (x15+1) x16 x17 σ)))) (Br (x10=16) (AH 308 #[(.int .u8 (gO.toNat:Int))] σ R (CI .u8 fun Y0 y=>Br (97≤Y0) (AH 308 #[(.int .u8 (gO.toNat:Int))] y R (CI .u8 fun AFi AE=>Br (AFi≤102) (AK (x15+1)∧Br (x16<x11) (Df (IntKind.u64.wrap (x2*16)) fun AFj=>AH 308 #[(.int .u8 (gO.toNat:Int))] AE R (CI .u8 fun AFk AJ=>Df (IntKind.u8.wrap (AFk-97)) fun AFl=>Df (IntKind.u8.wrap (AFl+10)) fun AFm=>Df (IntKind.u64.wrap AFm) fun AFn=>Df (IntKind.u64.wrap (AFj+AFn)) fun AFo=>AK (x16+1)∧Gc R s0 AFo x3 t4 t5 t6 x7 t8 t9 x10 x11 x12 t13 true (x15+1) (x16+1) x17 AJ)) (Gc R s0 x2 x3 t4 true t6 x7 t8 t9 x10 x11 x12 t13 true (x15+1) x16 x17 AE)) (QH R s0 x2 x3 t4 t5 t6 x7 t8 t9 x10 x12 t13 t14 x15 x16 x17 AE))) (QH R s0 x2 x3 t4 t5 t6 x7 t8 t9 x10 x12 t13 t14 x15 x16 x17 y))) (QH R s0 x2 x3 t4 t5 t6 x7 t8 t9 x10 x12 t13 t14 x15 x16 x17 σ))) (Br (x10=16) (AH 308 #[(.int .u8 (gO.toNat:Int))] σ R (CI .u8 fun Y0 y=>Br (97≤Y0) (AH 308 #[(.int .u8 (gO.toNat:Int))] y R (CI .u8 fun AFi AE=>Br (AFi≤102) (AK (x15+1)∧Br (x16<x11) (Df (IntKind.u64.wrap (x2*16)) fun AFj=>AH 308 #[(.int .u8 (gO.toNat:Int))] AE R (CI .u8 fun AFk AJ=>Df (IntKind.u8.wrap (AFk-97)) fun AFl=>Df (IntKind.u8.wrap (AFl+10)) fun AFm=>Df (IntKind.u64.wrap AFm) fun AFn=>Df (IntKind.u64.wrap (AFj+AFn)) fun AFo=>AK (x16+1)∧Gc R s0 AFo x3 t4 t5 t6 x7 t8 t9 x10 x11 x12 t13 true (x15+1) (x16+1) x17 AJ)) (Gc R s0 x2 x3 t4 true t6 x7 t8 t9 x10 x11 x12 t13 true (x15+1) x16 x17 AE)) (QH R s0 x2 x3 t4 t5 t6 x7 t8 t9 x10 x12 t13 t14 x15 x16 x17 AE))) (QH R s0 x2 x3 t4 t5 t6 x7 t8 t9 x10 x12 t13 t14 x15 x16 x17 y))) (QH R s0 x2 x3 t4 t5 t6 x7 t8 t9 x10 x12 t13 t14 x15 x16 x17 σ))))) (QH R s0 x2 x3 t4 t5 t6 x7 t8 t9 x10 x12 t13 t14 x15 x16 x17 σ)):u4 R s0 x2 x3 t4 t5 t6 x7 t8 t9 x10 x11 x12 t13 t14 x15 x16 x17 σ:=M.of h ok rfl
def vB (h:Bn t14 (R (.T #[.U x2,.I x3,.bool t4,.bool t5,.bool t6,.I x7,.bool t8]) σ) (Bn t13 (lY R s0 x2 x3 t4 t5 t6 x7 t8 t9 x10 x12 x16 x15 σ) (lY R s0 x2 x3 t4 t5 t6 x7 t8 t9 x10 x12 x16 x17 σ))):QH R s0 x2 x3 t4 t5 t6 x7 t8 t9 x10 x12 t13 t14 x15 x16 x17 σ:=M.of h ok rfl
def vC (h:Br (x10=16) (AK (x17*4)∧AK (x16*4)∧u5 R s0 x2 x3 t4 t5 t6 x7 t8 t9 x10 x12 (x16*4) (x17*4) σ) (u5 R s0 x2 x3 t4 t5 t6 x7 t8 t9 x10 x12 x16 x17 σ)):lY R s0 x2 x3 t4 t5 t6 x7 t8 t9 x10 x12 x16 x17 σ:=M.of h ok rfl
def vD (h:Br (x7<(s0.size:Int)) (∃AM5:UInt8,0≤x7∧(ByteArray.data s0)[x7.toNat]?=some AM5∧AH 308 #[(.int .u8 (AM5.toNat:Int))] σ R (CI .u8 fun ASn y=>Br (ASn=x12) (AK (x7+1)∧Br (((s0.size:Int):Int)≤(x7+1)) (R (.T #[.U x2,.I x3,.bool t4,.bool t5,.bool t6,(.I (x7+1)),.bool t8]) y) (∃AFp:UInt8,(0:Int)≤(x7+1)∧(ByteArray.data s0)[Int.toNat (x7+1)]?=some AFp∧Br (((AFp.toNat:Int):Int)=43) (AK ((x7+1)+1)∧vA R s0 x2 x3 t4 t5 t6 (((x7+1)+1)) t8 t9 x16 x17 1 y) (Br (((AFp.toNat:Int):Int)=45) (AK ((x7+1)+1)∧vA R s0 x2 x3 t4 t5 t6 (((x7+1)+1)) t8 t9 x16 x17 (-1) y) (vA R s0 x2 x3 t4 t5 t6 (x7+1) t8 t9 x16 x17 1 y)))) (Br (x10=16) (R (.T #[.U x2,.I x3,.bool t4,.bool t5,.bool t6,.I x7,.bool t8]) y) (u6 R s0 x2 x3 t4 t5 t6 x7 t8 t9 x16 x17 y)))) (Br (x10=16) (R (.T #[.U x2,.I x3,.bool t4,.bool t5,.bool t6,.I x7,.bool t8]) σ) (u6 R s0 x2 x3 t4 t5 t6 x7 t8 t9 x16 x17 σ))):u5 R s0 x2 x3 t4 t5 t6 x7 t8 t9 x10 x12 x16 x17 σ:=M.of h ok rfl
def vE (h:Br (x2≠0) (AK (x17-x16)∧u7 R s0 x2 (x17-x16) t4 t5 t6 x7 t8 t9 σ) (u7 R s0 x2 x3 t4 t5 t6 x7 t8 t9 σ)):u6 R s0 x2 x3 t4 t5 t6 x7 t8 t9 x16 x17 σ:=M.of h ok rfl
def eU (h:Bo t9 (∃AM6,YF prog (Instr.sliceAt 9 (.string s0) none (some (.I x7)) none) σ (.string AM6)∧AH 309 #[.string AM6] σ R (CB fun t250 y=>Bn t250 (R (.T #[.U x2,.I x3,.bool t4,.bool t5,.bool t6,.I x7,.bool t8]) y) (R (.T #[.U x2,.I x3,.bool t4,.bool t5,.bool t6,.I x7,.bool true]) y))) (R (.T #[.U x2,.I x3,.bool t4,.bool t5,.bool t6,.I x7,.bool true]) σ)):u7 R s0 x2 x3 t4 t5 t6 x7 t8 t9 σ:=M.of h ok rfl
def vF (h:AK (x7+1)∧u4 R s0 x2 x3 t4 t5 t6 (x7+1) t8 t9 x10 x11 x12 t13 t14 x15 x16 x17 σ):Gc R s0 x2 x3 t4 t5 t6 x7 t8 t9 x10 x11 x12 t13 t14 x15 x16 x17 σ:=M.of h ok rfl
end AF
end TwW
end
end
section
namespace TwW
open Go Go.MapKept Tw
variable [Ez]
theorem iK {x:Int}(h:-1000≤x∧x≤1000):AK x:=by unfold AK;omega
theorem Am.left {σ:Hp}{b o:Nat}{l m:List Value}(h:Am σ b o (l++m)):Am σ b o l:=by
 have:=Am.part (i:=0) (m:=l.length) h;simpa using this
def RT (ik:IntKind)(p:Int×Int):Value×Value:=(.int ik p.1,.I p.2)
def oW (e:MapEntry):Value×Value:=(e.key,e.val)
def MZ (ik:IntKind)(σ:Hp)(m:Nat)(L:List (Int×Int)):Prop:=∃(l:List MapEntry) (clock:Nat),kS.Ak ik σ m l clock∧l.map oW=L.map (RT ik)
theorem MZ.loc {ik:IntKind}{σ σ':Hp}{m:Nat}{L:List (Int×Int)}(h:MZ ik σ m L)(hx:σ' m=σ m):MZ ik σ' m L:=let ⟨l,c,h1,h2⟩:=h;⟨l,c,h1.loc hx,h2⟩
theorem MZ.known {ik:IntKind}{σ:Hp}{m:Nat}{L:List (Int×Int)}(h:MZ ik σ m L):σ m≠none:=let ⟨l,c,h1,h2⟩:=h;by rw[h1.1];simp
theorem MZ.fresh {ik:IntKind}{σ:Hp}{m:Nat}:MZ ik (σ.set m (.map #[] 0)) m []:=⟨[],0,kS.Ak.fresh,rfl⟩
def Fi (L:List (Int×Int))(k:Int):Option Int:=(L.find? fun p=>decide (p.1=k)).map (·.2)
def PU:List (Int×Int)→Int→Int→List (Int×Int)
 | [],k,v=>[(k,v)]
 | p::L,k,v=>if p.1=k then(k,v)::L else p::PU L k v
theorem eV {L1 L2:List (Int×Int)}{k x v:Int}(h:∀a∈L1,a.1≠k):PU (L1++(k,x)::L2) k v=L1++(k,v)::L2:=by
 induction L1 with
 | nil=>simp[PU]
 | cons a L ih=>
  simp only[Acj,PU];rw[Abd (h a (Abv ..)),ih fun x hx=>h x (Abl _ hx)]
theorem Xg {L:List (Int×Int)}{k v:Int}(h:∀a∈L,a.1≠k):PU L k v=L++[(k,v)]:=by
 induction L with
 | nil=>rfl
 | cons a L ih=>
  simp only[Acj,PU];rw[Abd (h a (Abv ..)),ih fun x hx=>h x (Abl _ hx)]
theorem Xh {L1 L2:List (Int×Int)}{k x:Int}(h:∀a∈L1,a.1≠k):Fi (L1++(k,x)::L2) k=some x:=by
 unfold Fi;rw[List.find?_append,AeX.2 (by simpa using h)];simp
theorem VW {L:List (Int×Int)}{k:Int}(h:∀a∈L,a.1≠k):Fi L k=none:=by
 unfold Fi;rw[AeX.2 (by simpa using h)];rfl
theorem Y6 {ik:IntKind}{l:List MapEntry}{L:List (Int×Int)}{k:Int}(he:l.map oW=L.map (RT ik))(By:∀x∈l,x.key≠.int ik k):∀a∈L,a.1≠k:=fun a ha hk=>by
 have h1:RT ik a∈l.map oW:=by rw[he];exact AeT ha
 obtain⟨x,hx,e⟩:=AcO.1 h1;refine By x hx ?_;have:=Abr Prod.fst e;simpa[oW,RT,hk] using this
theorem eW {ik:IntKind}{l1 l2:List MapEntry}{e:MapEntry}{L:List (Int×Int)}{k:Int}(hn:((l1++e::l2).map (·.key)).Nodup)(he:(l1++e::l2).map oW=L.map (RT ik))(hk:e.key=.int ik k):
  ∃L1 x L2,L=L1++(k,x)::L2∧l1.map oW=L1.map (RT ik)∧e.val=.I x∧l2.map oW=L2.map (RT ik)∧∀a∈L1,a.1≠k:=by
 rw[Ab5,AcH]at he;obtain⟨L1,L',rfl,h1,h2⟩:=List.map_eq_append_iff.1 he.symm;obtain⟨p,L2,rfl,h3,h4⟩:=List.map_eq_cons_iff.1 h2;obtain⟨pk,px⟩:=p;have e1:pk=k:=by
  have:=Abr Prod.fst h3;simp only[RT,oW,hk,Value.int.injEq,true_and]at this;exact this
 have e2:e.val=.I px:=by
  have:=Abr Prod.snd h3;simpa[RT,oW] using this.symm
 subst e1;refine⟨L1,px,L2,rfl,h1.symm,e2,h4.symm,?_⟩;refine Y6 h1.symm fun x hx jJ=>?_;rw[Ab5,AcH,AdK]at hn;exact hn.2.2 _ (AeT hx) _ (Abv ..) (by rw[jJ,hk])
section
variable {P:Program}{ik:IntKind}{T K V:TypeId}{σ:Hp}{m:Nat}{L:List (Int×Int)}{k:Int}
def zo (two:Bool)(v:Value)(b:Bool):Value:=if two then .tuple #[v,.bool b] else v
theorem MZ.look [t:kS.xg P T ik K V]{two:Bool}(h:MZ ik σ m L)(hz:∀w,(zeroValue V).run P w=.ok (.I 0) w){Φ:Value→Hp→Prop}
  (h0:Fi L k=none→Φ (zo two (.I 0) false) σ) (h1:∀x,Fi L k=some x→Φ (zo two (.I x) true) σ):AI P (Instr.lookup T (.map (some m)) (.int ik k) two) σ Φ:=by
 obtain⟨l,c,hm,he⟩:=h;rcases kS.CE (s:=k) hm.2.2 with ⟨hf,By⟩|⟨l1,e,l2,rfl,hk,hf⟩
 ·refine AI.pu (fun w hs=>?_) (h0 (VW (Y6 he By)));have:=hs _ _ hm.1;cases two<;>simp[zo,Instr.lookup,run_underlying t.Si,run_getObj_map this,run_checkKey t.key (k:=.int ik k) rfl,run_findKey t.key hf,hz,Result.andThen]
 ·obtain⟨L1,x,L2,rfl,_,hv,_,By⟩:=eW hm.nodup he hk;refine AI.pu (fun w hs=>?_) (h1 x (Xh By));have:=hs _ _ hm.1;cases two<;>simp[zo,Instr.lookup,run_underlying t.Si,run_getObj_map this,run_checkKey t.key (k:=.int ik k) rfl,run_findKey t.key hf,Result.andThen,hv]
theorem MZ.put [t:kS.xg P T ik K V]{v:Int}(h:MZ ik σ m L){Φ:Unit→Hp→Prop}(hΦ:∀o,(∀τ,τ m=some o→MZ ik τ m (PU L k v))→Φ () (σ.set m o)):AI P (Instr.mapUpdate T (.map (some m)) (.int ik k) (.I v)) σ Φ:=by
 obtain⟨l,c,hm,he⟩:=h;refine kS.D9 hm (fun By σ' hσ gP=>?_) fun l1 e l2 hl hk σ' hσ gP=>?_
 ·subst hσ;refine hΦ _ fun τ hτ=>⟨_,_,gP.loc (hτ.trans (Hp.AA _ _ _).symm),?_⟩;rw[Xg (Y6 he By),Ab5,Ab5,he];rfl
 ·subst hσ hl;obtain⟨L1,x,L2,rfl,h1,hv,h2,By⟩:=eW hm.nodup he hk;refine hΦ _ fun τ hτ=>⟨_,_,gP.loc (hτ.trans (Hp.AA _ _ _).symm),?_⟩;rw[eV By,Ab5,Ab5,AcH,AcH,h1,h2];rfl
end
def Ex (L:List (Int×Int)):Nat:=L.countP fun p=>decide (0<p.2)
def jK (e:MapEntry):Bool:=match e.val with
 | .int _ x=>decide (0<x)
 | _=>false
theorem pos_eq {ik:IntKind}:∀{l:List MapEntry} {L:List (Int×Int)},l.map oW=L.map (RT ik)→l.countP jK=Ex L
 | [],[],_=>rfl
 | [],_::_,h=>by simp at h
 | _::_,[],h=>by simp at h
 | e::l,p::L,h=>by
  simp only[AcH,AdY]at h;have h1:jK e=decide (0<p.2):=by
   have:=Abr Prod.snd h.1;simp only[oW,RT]at this;unfold jK;rw[this]
  have:=pos_eq (l:=l) (L:=L) h.2;unfold Ex at this ⊢;rw[AdA,AdA,h1,this]
omit [Ez] in
theorem PW {p:MapEntry→Bool}:∀{L:List MapEntry} {e:MapEntry},(L.map (·.born)).Nodup→e∈L→L.countP p=(L.filter fun x=>x.born != e.born).countP p+(if p e then 1 else 0)
 | a::L,e,hn,he=>by
  have aw:=hn;rw[AcH,Acg]at hn;rcases Abh.1 he with rfl|he
  ·rw[AdU (by simp),AdA,AdS.2 fun x hx=>?_];simp only[bne_iff_ne,ne_eq];exact fun h=>hn.1 (AcO.2 ⟨x,hx,h⟩)
  ·have A8:(a.born != e.born)=true:=by
    simp only[bne_iff_ne,ne_eq];exact fun h=>hn.1 (AcO.2 ⟨e,he,h.symm⟩)
   rw[AdV (by simpa using A8),AdA,AdA,PW hn.2 he];omega
end TwW
end
section
namespace TwW
open Go Tw Go.Proofs.Tryz
structure Mem where
 id:Int
 state:Int
 Dp:List Int
def NS (σ:Hp)(vs:List Value)(m:Mem):Prop:=∃p n c,vs=[.I m.id,.I m.state,.slice p n c]∧C2 .u32 σ p n m.Dp
theorem NS.mono:G5 NS:=fun _ _ _ _ h ⟨p,n,c,hv,hr⟩=>⟨p,n,c,hv,hr.mono h⟩
abbrev RdM:=Ai 3 NS
theorem RdM.at' {σ:Hp}{p:Option Addr}{n i:Nat}{ms:List Mem}{m:Mem}(hr:RdM σ p n ms)(hx:ms[i]?=some m):
  ∃b o q k c,p=some ⟨b,o,none⟩∧Am σ b (o+i*3) [.I m.id,.I m.state,.slice q k c]∧C2 .u32 σ q k m.Dp:=by
 obtain⟨b,o,vs,hp,⟨q,k,c,rfl,hq⟩,hl⟩:=Ai.idx hr hx;exact⟨b,o,q,k,c,hp,hl,hq⟩
theorem vG {a b:Int}{p:Option Addr}{n c:Nat}:Fm [.I a,.I b,.slice p n c]:=by
 intro u hu;simp only[Abh,Ab2,Ace]at hu;rcases hu with rfl|rfl|rfl<;>rfl
def QI (xs:List Int):Prop:=xs.Pairwise (· < ·)
instance (xs:List Int):Decidable (QI xs):=inferInstanceAs (Decidable (xs.Pairwise (· < ·)))
theorem jL {xs:List Int}{k:Nat}{y:Int}(hk:0<k)(hy:xs[k-1]?=some y):xs.take k=xs.take (k-1)++[y]:=by
 have:=Ab hy;rwa[Nat.sub_add_cancel hk]at this
theorem Xi {xs:List Int}{k:Nat}{x y:Int}(hk:0<k)(hy:xs[k-1]?=some y)(hx:xs[k]?=some x)(h:QI (xs.take k))(hl:y<x):QI (xs.take (k+1)):=by
 unfold QI at *;rw[Ab hx,List.pairwise_append];refine⟨h,by simp,fun a ha b hb=>?_⟩;simp only[Abn]at hb;subst hb;rw[jL hk hy]at ha h;rw[List.pairwise_append]at h;simp only[AcC,Abn]at ha;rcases ha with ha|rfl
 ·have:=h.2.2 a ha y (by simp);omega
 ·exact hl
theorem eX {xs:List Int}{k:Nat}{x y:Int}(hk:0<k)(hy:xs[k-1]?=some y)(hx:xs[k]?=some x)(hl:x≤y):¬QI xs:=fun h=>by
 have h1:=(Acm.1 h) (k-1) k (Abf.1 hy).1 (Abf.1 hx).1 (by omega);rw[(Abf.1 hy).2,(Abf.1 hx).2]at h1;omega
theorem VX {xs:List Int}(h:xs.length≤1):QI xs:=by
 match xs,h with
 | [],_=>simp[QI]
 | [x],_=>simp[QI]
theorem Y7 {R:Rr}{σ:Hp}{p:Option Addr}{n c:Nat}{xs:List Int}(hr:C2 .u32 σ p n xs)(h:R (.returned (.bool (decide (QI xs)))) σ):
  Spec prog 56 #[.slice p n c] σ R:=by
 refine Bf.start ?_
 suffices H:∀d k:Nat,n-k=d→0<k→QI (xs.take k)→Bf.E3 R p n c k σ from H (n-1) 1 rfl (by omega) (VX (by simp;omega))
 intro d
 induction d with
 | zero=>
  intro k hd hk By;refine Bf.A2 ⟨fun Ao=>by omega,fun _=>?_⟩;rw[Abp (by rw[hr.1];omega)]at By;simpa[By] using h
 | succ d ih=>
  intro k hd hk By;refine Bf.A2 ⟨fun Ao=>?_,fun Ml=>by omega⟩;have EU:k<n:=by omega
  obtain⟨x,hx⟩:=hr.ex EU;obtain⟨y,hy⟩:=hr.ex (k:=k-1) (by omega);obtain⟨b,o,rfl,hl⟩:=hr.at hx;obtain⟨b',o',he,R9⟩:=hr.at hy;cases he;have e:((k:Int)-1)=((k-1:Nat):Int):=by omega
  have hb:=hr.big;refine⟨b,o,rfl,by omega,x,by simpa using hl,by unfold AK;omega,by omega,y,by rw[e];simpa using R9,fun hle=>?_,fun xx=>⟨AN EU hr.big,ih (k+1) (by omega) (by omega) (Xi hk hy hx By (by omega))⟩⟩;simpa[eX hk hy hx hle] using h
theorem Y8 {R:Rr}{σ:Hp}{p:Option Addr}{n c:Nat}{xs:List Int}(hr:C2 .i64 σ p n xs)(h:R (.returned (.bool (decide (QI xs)))) σ):
  Spec prog 57 #[.slice p n c] σ R:=by
 refine Cn.start ?_
 suffices H:∀d k:Nat,n-k=d→0<k→QI (xs.take k)→Cn.E3 R p n c k σ from H (n-1) 1 rfl (by omega) (VX (by simp;omega))
 intro d
 induction d with
 | zero=>
  intro k hd hk By;refine Cn.A2 ⟨fun Ao=>by omega,fun _=>?_⟩;rw[Abp (by rw[hr.1];omega)]at By;simpa[By] using h
 | succ d ih=>
  intro k hd hk By;refine Cn.A2 ⟨fun Ao=>?_,fun Ml=>by omega⟩;have EU:k<n:=by omega
  obtain⟨x,hx⟩:=hr.ex EU;obtain⟨y,hy⟩:=hr.ex (k:=k-1) (by omega);obtain⟨b,o,rfl,hl⟩:=hr.at hx;obtain⟨b',o',he,R9⟩:=hr.at hy;cases he;have e:((k:Int)-1)=((k-1:Nat):Int):=by omega
  have hb:=hr.big;refine⟨b,o,rfl,by omega,x,by simpa using hl,by unfold AK;omega,by omega,y,by rw[e];simpa using R9,fun hle=>?_,fun xx=>⟨AN EU hr.big,ih (k+1) (by omega) (by omega) (Xi hk hy hx By (by omega))⟩⟩;simpa[eX hk hy hx hle] using h
def xy (m:Mem):Prop:=0≤m.id∧m.id<16∧1≤m.state∧m.state≤3∧1≤m.Dp.length∧m.Dp.length≤64∧QI m.Dp
instance (m:Mem):Decidable (xy m):=by unfold xy;infer_instance
def ids (ms:List Mem):List Int:=ms.map Mem.id
def zp (ms:List Mem):Prop:=(∀m∈ms,xy m)∧QI (ids ms)
instance (ms:List Mem):Decidable (zp ms):=by unfold zp;infer_instance
def zq (ms:List Mem):Int:=if zp ms then 0 else 130
theorem eY {R:Rr}{σ:Hp}{x:Int}(h:R (.returned (.bool (decide (0≤x∧x<16)))) σ):Spec prog 55 #[.I x] σ R:=by
 refine lR.start ⟨fun h0=>by simpa[h0] using h,fun h0=>by simpa[h0] using h⟩
def Y9 (ms:List Mem):Prop:=ms.length≤3518437208883∧∀m∈ms,m.Dp.length≤35184372088832
theorem VY {R:Rr}{σ:Hp}{e:Int}{p:Option Addr}{n c:Nat}{ms:List Mem}(hr:RdM σ p n ms)(hs:Y9 ms)(h:R (.returned (.I (zq ms))) σ):
  Spec prog 26 #[.agg #[.U e,.slice p n c]] σ R:=by
 refine Spec.drop (Hg.start ?_);have hlen:n≤3518437208883:=by have:=hs.1;have:=hr.1;omega
 have bad:¬zp ms→∀σ',Ext σ σ'→Drop R (.returned (.I 130)) σ':=fun hn σ' hx=>.mk hx (by simpa[zq,hn] using h)
 suffices H:∀d k:Nat,∀p3 c3 σ',n-k=d→k≤n→(∀m∈ms.take k,xy m)→Ext σ σ'→C9 .i64 (σ.new σ') p3 k c3 (ids (ms.take k))→Hg.Ap (Drop R) p3 k c3 p n c n k σ' from fun _=>H n 0 _ _ _ rfl (by omega) (by simp) (.refl σ) C9.nil
 intro d
 induction d with
 | zero=>
  intro k p3 c3 σ' hd hk ho hx BZ;refine Hg.AR ⟨fun Ao=>by omega,fun _=>Y8 (BZ.rd.mono (Ext.Bb σ σ')) ⟨_,rfl,?_,?_⟩⟩
  all_goals rw[Abp (by rw[hr.1];omega)]at ho ⊢
  ·intro hf;exact bad (fun B9=>by simp[B9.2]at hf) _ hx
  ·intro ht;have:zp ms:=⟨ho,by simpa using ht⟩;exact .mk hx (by simpa[zq,this] using h)
 | succ d ih=>
  intro k p3 c3 σ' hd hk ho hx BZ;refine Hg.AR ⟨fun Ao=>?_,fun Ml=>by omega⟩;have EU:k<n:=by omega
  obtain⟨m,hm⟩:=hr.ex EU;obtain⟨b,o,q,j,c',rfl,hl,ht⟩:=hr.at' hm;have S2:m∈ms:=Abj hm;have hlj:=ht.1;refine⟨b,o,rfl,by omega,m.id,m.state,q,j,c',by simpa using hl.mono hx,fun _ SB ASo=>?_⟩;refine C9.Hr hx BZ (by omega) (fun p' c2 σ2 BM A5 _=>⟨p',k+1,c2,rfl,eY ⟨_,rfl,?_,?_⟩⟩) ASo
  ·intro hf;exact bad (fun B9=>by have:=B9.1 m S2;simp[xy]at this hf;omega) _ A5
  intro ht1;refine⟨fun h1=>bad (fun B9=>by have:=B9.1 m S2;simp[xy]at this;omega) _ A5,fun h1=>⟨fun h2=>bad (fun B9=>by have:=B9.1 m S2;simp[xy]at this;omega) _ A5,fun h2=>⟨fun h3=>bad (fun B9=>by have:=B9.1 m S2;simp[xy]at this;omega) _ A5,fun h3=>⟨fun h4=>bad (fun B9=>by have:=B9.1 m S2;simp[xy]at this;omega) _ A5,fun h4=>?_⟩⟩⟩⟩;refine Y7 (ht.mono A5) ⟨_,rfl,fun hf=>bad (fun B9=>by have:=B9.1 m S2;simp[xy]at this hf;exact hf this.2.2.2.2.2.2) _ A5,fun hri=>⟨AN EU hr.big,ih (k+1) _ _ _ (by omega) (by omega) ?_ A5 ?_⟩⟩
  ·intro m' gP;rw[Aee,hm]at gP;simp only[Option.toList,AcC,Abn]at gP;rcases gP with gP|rfl
   ·exact ho m' gP
   ·simp at ht1 hri;exact⟨by omega,by omega,by omega,by omega,by omega,by omega,hri⟩
  ·have:ids (ms.take (k+1))=ids (ms.take k)++[m.id]:=by simp[ids,Aee,hm]
   rw[this];exact BM
end TwW
end
section
namespace Tw
open Go Go.RowKit Go.ChangeShapes Go.WideShapes Go.Deep
def full (w:World):Hp:=fun b=>w.heap[b]?
theorem vH (w:World):Sat (full w) w:=fun _ _ h=>h
theorem TU {w:World}{a:Addr}{v:Value}(h:w.cell? a=some v):(full w).ld a=some v:=h
theorem vI {w w':World}{σ':Hp}(hx:Ext (full w) σ')(hs:Sat σ' w')(ho:Cw w w')(ASp:w'.output=w.output)(hg:w.heap.size≤w'.heap.size):Below w.heap.size w w':=
 ⟨ho.1,ho.2.1,ASp,hg,fun k hk=>by
  have h1:w.heap[k]?=some w.heap[k]:=Acz hk;rw[h1];exact hs _ _ (hx _ _ h1)⟩
def Lawful (P:Program)(f:FuncId)(args:Array Value)(w:World):Prop:=Spec P f args (full w) (fun e σ'=>e=.returned (.bool true)∧Ext (full w) σ')
theorem Lawful.calls {P:Program}{f:FuncId}{args:Array Value}{w:World}(h:Lawful P f args w):Calls P f args w fun e w'=>e=.returned (.bool true)∧Below w.heap.size w w':=
 (h w (fun _=>False) (vH w) (fun _ h=>h.elim)).mono fun e w' ⟨σ',⟨he,hx⟩,hf⟩=>⟨he,vI hx hf.sat hf.os hf.out hf.grow⟩
section
variable {H:Type}{enc:TypeId×Value→H}{P:Program}
theorem Np (hl:laidOutB P=true){W W':World}(hb:Below W.heap.size W W'):∀{ts:List TypeId} {vs:List Value} {ds:List (DataW H)} {ps:List MemPlace},(ts.all fun t=>P.readableRec t&&Nat.blt t P.types.size)=true→(∀x∈ps,x.block<W.heap.size)→
  DataW.TrodAll enc P W 0 (fun _=>true) true ts vs ds ps→DataW.TrodAll enc P W' 0 (fun b=>decide (b<W.heap.size)) true ts vs ds ps
 | [],[],[],ps,_,_,h=>h
 | t::ts,v::vs,d::ds,ps,hr,Ao,⟨p,q,h1,h2,e⟩=>by
  simp only[Ad3,Abt]at hr;subst e;exact⟨p,q,Below.trod hl hr.1.1 (AcS hr.1.2) h1 hb (fun x hx=>Ao x (Acp _ hx)),Np hl hb hr.2 (fun x hx=>Ao x (AdH _ hx)) h2,rfl⟩
 | [],_::_,_,_,_,_,h=>h.elim
 | [],[],_::_,_,_,_,h=>h.elim
 | _::_,[],_,_,_,_,h=>h.elim
 | _::_,_::_,[],_,_,_,h=>h.elim
theorem vJ {f:Func}{s:ChangeSpec}{W W':World}{args:Array Value}{ds gs:List (DataW H)}{before:List MemPlace}{tb:TypeId}(hl:laidOutB P=true)(hr:(f.params.toList.all fun t=>P.readableRec t&&Nat.blt t P.types.size)=true)
  (hrt:f.resultTypes=#[tb]) (zr:P.underlying tb=some .bool) (hv:s.vars=[]) (Tg:(s.fn H (ds++gs)).results=[.lit (.bool true)]∧(s.fn H (ds++gs)).args=ds∧(s.fn H (ds++gs)).vars=[])
  (hW:DataW.Whole enc P f.params.toList s.vars false W args.toList ds gs before) (hb:Below W.heap.size W W'):s.post enc P f false true false false W args (.bool true) W':=by
 have Ao:∀p∈before,p.block<W.heap.size:=fun p hp=>hW.lt p hp;have hW':=hW;obtain⟨p,q,hA,hV,rfl,hfz,_⟩:=hW';refine⟨ds,gs,p++q,[],p,[],hW,?_,?_,?_,World.keptBut_mono (fun x hx=>⟨hx,?_⟩) (hb.frame (·∈p++q)),fun h=>by cases h⟩
 ·rw[Tg.1,hrt];exact trodAll_mk1 (shut_bool zr true)
 ·rw[Tg.2.1];exact Np hl hb hr (fun x hx=>Ao x (Acp _ hx)) hA
 ·rw[Tg.2.2,hv];rfl
 ·rw[hv]at hV;have:q=[]:=by
   cases gs with
   | nil=>exact hV
   | cons _ _=>exact hV.elim
  subst this;exact .inr (.inl (by simpa using hx))
theorem Am.snoc {σ:Hp}{b:Nat}:∀{l m:List Value} {o:Nat},Am σ b o l→Am σ b (o+l.length) m→Am σ b o (l++m)
 | [],m,o,_,h=>by simpa using h
 | v::l,m,o,h,h'=>⟨h.1,Am.snoc h.2 (by simpa[Ae8,Nat.add_comm 1] using h')⟩
theorem Xj {w:World}{a:Addr}{v:Value}(h:w.cell? a=some v):a.spot=none:=by
 unfold World.cell? at h;split at h
 ·split at h
  ·cases h
  ·rename_i hs;simpa using hs
 ·cases h
end
end Tw
end
section
namespace Tw
open Go
variable [Ez]
def VZ (s:ByteArray):List Value:=s.data.toList.map fun b=>.int .u8 b.toNat
theorem vK {s:ByteArray}:(VZ s).length=s.size:=by simp[VZ]
theorem vL {s:ByteArray}:Fm (VZ s):=fun u hu=>by obtain⟨x,_,rfl⟩:=AcO.1 hu;rfl
section append
variable {P:Program}{T E ty:TypeId}{bs:Nat}{σ:Hp}{p:Option Addr}{n c m:Nat}{cs ys:List Value}{Φ:Value→Hp→Prop}
theorem Va {str:ByteArray}(w:World)(size:Nat):(Builtin.firstCells size str.size (.string str)).run P w=.ok (VZ str).toArray w:=by
 have hx:(Array.map (fun b:UInt8=>Value.int IntKind.u8 (b.toNat:Int)) str.data).extract 0 str.size=(VZ str).toArray:=by
  have hs:str.size=(Array.map (fun b:UInt8=>Value.int IntKind.u8 (b.toNat:Int)) str.data).size:=by rw[Array.size_map];rfl
  rw[hs,AeY];apply Ae4
  simp[VZ]
 have A5:Array.map (fun b:UInt8=>Value.int IntKind.u8 (b.toNat:Int)) str.data=(VZ str).toArray:=by apply Ae4;simp[VZ]
 simp[Builtin.firstCells,A5]
theorem zt [h:Ij P T E 1 bs]{U:TypeId}{str:ByteArray}(hU:P.underlying U=some .string)(BZ:A0 1 σ p n c cs)(hm:str.size=m)(xe:VZ str=ys)(hb:(n+m)*bs≤140737488355328)
  (hΦ:∀p' c' σ',A0 1 σ' p' (n+m) c' (cs++ys)→Ext (σ.del p) (σ'.del p')→((p'=p∧c'=c∧n+m≤c)∨(c<n+m∧Ext σ σ'∧∀a,p'=some a→σ a.block=none))→Φ (.slice p' (n+m) c') σ') :
  AI P (Builtin.append_ #[T,U] ty #[.slice p n c,.string str]) σ Φ:=by
 obtain⟨ht,⟨i,z,hi,hz,JX,rfl,hzs⟩,Kf,rS⟩:=h;have h1:Fm ys:=xe▸vL;have hyl:ys.length=m*1:=by rw[←xe,←hm,Ac7];exact vK
 have h62:n+m≤140737488355328:=Acf (Adw _ rS) hb;intro w F hs hF;have hf:=Va (P:=P) (str:=str) w 1;rw[xe,hm]at hf;have yK:=fun w':World=>Va (P:=P) (str:=str) w' 1;rw[xe,hm]at yK;have Iw:=fun w' (hw:Sat σ w')=>Mh (P:=P) (d:=c) w' hw BZ.rd;have hlen:(cs++ys).length=(n+m)*1:=by rw[Abq,BZ.1,hyl,Acn]
 by_cases H9:n+m≤c
 ·
  rcases BZ.2.2 with ⟨hp,hn,hc⟩|⟨b,o,arr,T',rfl,hblk,kR,Ke,Pm⟩
  ·subst hp hn hc;have hm:m=0:=by omega
   subst hm;have xe:ys=[]:=AcF (by simpa using hyl);have Pm:cs=[]:=AcF (by simpa using BZ.1);subst xe Pm;refine⟨.slice none 0 0,w,σ,?_,hΦ none 0 σ A0.nil (Ext.refl _) (.inl ⟨rfl,rfl,H9⟩),hs,fun b hb=>⟨(hF b hb).2,rfl⟩,.same rfl rfl rfl,rfl,Abo _⟩;simp[Builtin.append_,run_underlying ht,run_underlying hU,JX,hm,Go.sizeOf,typeInfo,hi,Builtin.lenOf,hf]
  ·have hw:=hs _ _ hblk;have ADV:o+n*1+0+ys.length≤arr.size:=by
    rw[hyl];have:(n+m)*1≤c*1:=AcL _ H9;rw[Acn]at this;omega
   have C1:=E6 (P:=P) b (o+n*1) T' ys 0 arr w hw ADV h1;simp only[Acx,Ac7]at C1;refine⟨.slice (some ⟨b,o,none⟩) (n+m) c,w.setRow b (Ir arr (o+n) ys),σ.set b (.cells (Ir arr (o+n) ys) T' (0,0)),?_,hΦ _ _ _ ⟨hlen,by omega,.inr ⟨b,o,_,T',rfl,Hp.AA _ _ _,H9,by rw[Is];exact Ke,?_⟩⟩ (by rw[Hp.Jb];exact Ext.refl _) (.inl ⟨rfl,rfl,H9⟩),?_⟩
   ·simp[Builtin.append_,run_underlying ht,run_underlying hU,JX,hm,Go.sizeOf,typeInfo,hi,Builtin.lenOf,H9,hf,B4,C1]
   ·refine Acd fun j=>?_;rw[Ab3];simp only[Ab7,AcE];rw[TD _ _ _ _ (by omega),Acw];have e1:cs.length=n*1:=BZ.1;have e2:ys.length=m*1:=hyl;have e3:(n+m)*1=n*1+m*1:=Acn ..;by_cases hj1:j<cs.length
    ·rw[Abe (by omega),Abd (by omega),Abe hj1,←Pm,Ab3,Abe (by omega)];simp
    ·rw[Abd hj1];by_cases hj2:j<(n+m)*1
     ·rw[Abe hj2,Abe (by omega),show o+j-(o+n)=j-cs.length by omega]
     ·rw[Abd hj2,Acs (by omega)]
   ·refine⟨fun k u hk=>?_,fun k hk=>?_,.same rfl rfl rfl,rfl,by simp⟩
    ·by_cases D8:k=b
     ·subst D8;rw[Hp.AA]at hk;cases hk;exact setRow_heap w k arr _ T' (0,0) hw
     ·rw[Hp.AD D8]at hk;rw[setRow_other _ _ _ _ D8];exact hs k u hk
    ·have D8:k≠b:=fun h=>by have:=(hF k hk).2;rw[h,hblk]at this;cases this
     exact⟨by rw[Hp.AD D8];exact(hF k hk).2,setRow_other _ _ _ _ D8⟩
 ·
  have AII:Builtin.nextslicecap (n+m) c*i.bytes≤281474976710656:=growslice_fits (by omega) hb;have hgc:=grownCap_ge w (n+m) c E;have Nc:Sat σ w.drew:=hs;have BP:(Builtin.append_ #[T,U] ty #[.slice p n c,.string str]).run P w =
    .ok (.slice (some ⟨w.heap.size,0,none⟩) (n+m) (grownCap w (n+m) c E))
     (w.drew.alloc (.cells (cs.toArray++ys.toArray++Builtin.zeroCells z.cells (grownCap w (n+m) c E-(n+m))) E)):=by
   have ADX:¬(9223372036854775807<((n:Int)+(m:Int))):=by omega
   have ADY:¬(281474976710656<Builtin.nextslicecap (n+m) c*i.bytes):=by omega
   simp[Builtin.append_,run_underlying ht,run_underlying hU,JX,hm,Go.sizeOf,typeInfo,zeroValue,hi,hz,Builtin.lenOf,H9,ADX,ADY,Question.forced,yK,Iw _ Nc,newRow,grownCap]
   congr 2
   apply Ae4
   simp[AcA]
  refine⟨_,_,σ.set w.heap.size _,BP,hΦ _ _ _ ⟨hlen,by omega,.inr ⟨w.heap.size,0,_,E,rfl,Hp.AA _ _ _,hgc,?_,?_⟩⟩ ?_ (.inr ⟨by omega,Ext.set (GL hs),fun a ha=>by cases ha;exact GL hs⟩),Fin.alloc hs hF _ rfl ⟨rfl,rfl,fun _=>⟨1,rfl⟩⟩ rfl⟩
  ·simp only[Aef,Aeg,size_zeroCells,hzs,BZ.1,hyl,←Acn];have:n+m+(grownCap w (n+m) c E-(n+m))=grownCap w (n+m) c E:=by omega
   rw[this];omega
  ·simp only[AeS,Adt];rw[←hlen];exact Aex
  ·rw[Hp.Ps (GL hs)];exact Ext.Ja σ p
end append
end Tw
end
section
namespace TwW
open Go Tw Go.Proofs.Tryz
theorem AL {σ:Hp}{b o:Nat}{c:Array Value}{t:TypeId}{fr:Nat×Nat}{v:Value}(h:σ b=some (.cells c t fr))(hv:c[o]?=some v):σ.ld ⟨b,o,none⟩=some v:=by simp[Hp.ld,h,hv]
section
variable {σ:Hp}{d:Nat}{S:List Nat}{R:Rr}
end
end TwW
namespace TwW
open Go Tw Go.Proofs.Tryz
section
variable {σ:Hp}{d:Nat}{S:List Nat}{R:Rr}
theorem A0.cap {s:Nat}{σ:Hp}{p:Option Addr}{n c:Nat}{cs:List Value}(h:A0 s σ p n c cs):n≤c:=by
 rcases h.2.2 with ⟨_,h1,h2⟩|⟨b,o,arr,T,_,_,h3,_⟩
 ·omega
 ·exact h3
end
end TwW
namespace TwW
open Go Tw Go.Proofs.Tryz
def uv (x:Nat):List Int:=if h:128≤x then((x%128+128:Nat):Int)::uv (x/128) else[(x:Int)]
termination_by x
decreasing_by omega
theorem vM {x:Nat}(h:128≤x):uv x=((x%128+128:Nat):Int)::uv (x/128):=by rw[uv,dif_pos h]
theorem QJ {x:Nat}(h:¬128≤x):uv x=[(x:Int)]:=by rw[uv,dif_neg h]
theorem vN:∀(k x:Nat),x<128^(k+1)→(uv x).length≤k+1
 | 0,x,h=>by rw[QJ (by simpa using h)];simp
 | k+1,x,h=>by
  by_cases hx:128≤x
  ·rw[vM hx];have:=vN k (x/128) (by rw[Ad8 (by decide)];rw[AfH]at h;exact h);simp;omega
  ·rw[QJ hx];simp
theorem MQ {x:Nat}(h:x<18446744073709551616):(uv x).length≤10:=vN 9 x (by omega)
set_option maxRecDepth 100000 in
theorem AM9:∀y:Fin 256,Go.bits .or .u8 (y.1:Int) 128=((y.1%128+128:Nat):Int):=by decide
theorem QK {R:Rr}{σ:Hp}{p:Option Addr}{n c x:Nat}{xs:List Int}(hr:C2 .u8 σ p n xs)(hn:n≤70368744177664)(hx:x<18446744073709551616)
  (h:∀p' n' c' σ',C9 .u8 (σ.new σ') p' n' c' (xs++uv x)→Ext σ σ'→R (.returned (.slice p' n' c')) σ'):Spec prog 140 #[.slice p n c,.U x] σ R:=by
 refine EF.start fun b hb=>?_;refine C3 A0.empty ((GG.of_map hr).mono (.set hb)) Fm.TE (by omega) fun p' c' σ' BZ MR=>?_;have hq:∀a:Addr,(some (⟨b,0,none⟩:Addr))=some a→σ a.block=none:=fun a ha=>by cases ha;exact hb
 have ho:=A0.Qv BZ (Fo hq MR (.set hb));have he:=Jc hq MR (.set hb);refine⟨p',0+n,c',rfl,?_⟩;rw[Acl]at ho ⊢;have hlen:=hr.1
 suffices H:∀(k x n':Nat) p' c' σ' ys,x<128^(k+1)→n'+k≤n+9→C9 .u8 (σ.new σ') p' n' c' ys→Ext σ σ'→(∀p' n' c' σ',C9 .u8 (σ.new σ') p' n' c' (ys++uv x)→Ext σ σ'→R (.returned (.slice p' n' c')) σ')→EF.E3 R x p' n' c' σ' from
  H 9 x n p' c' σ' xs (by omega) (by omega) ho he h
 intro k
 induction k with
 | zero=>
  intro x n' p' c' σ' ys hx aw ho he h;refine EF.A2 ⟨fun Ao=>by omega,fun _ dI AFq b2 Kg=>?_⟩;have jM:dI=(x:Int):=by rw[AFq];simp[IntKind.wrap,IntKind.bits,IntKind.signed];omega
  subst jM;refine C9.Hr he ho (by omega) (fun p2 c2 σ2 BM yA _=>⟨p2,n'+1,c2,rfl,h _ _ _ _ ?_ yA⟩) Kg;rw[QJ (by omega)];exact BM
 | succ k ih=>
  intro x n' p' c' σ' ys hx aw ho he h;refine EF.A2 ⟨fun Ao x15 zu x16 ASs b2 Kg=>?_,fun Ml dI AFq b2 Kg=>?_⟩
  ·have h15:x15=((x%256:Nat):Int):=by rw[zu];simp[IntKind.wrap,IntKind.bits,IntKind.signed]
   have h16:x16=((x%128+128:Nat):Int):=by
    rw[ASs,h15,AM9 ⟨x%256,Adu _ (by decide)⟩];have:x%256%128=x%128:=by omega
    rw[this]
   subst h16;refine C9.Hr he ho (by omega) (fun p2 c2 σ2 BM yA _=>⟨p2,n'+1,c2,rfl,by simp[IntKind.bits],fun x12 ASt=>?_⟩) Kg;have SM:x12=((x/128:Nat):Int):=by rw[ASt];simp
   subst SM;refine ih (x/128) (n'+1) p2 c2 σ2 _ (by rw[Ad8 (by decide)];rw[AfH]at hx;exact hx) (by omega) BM yA fun p3 n3 c3 σ3 Dt he3=>h p3 n3 c3 σ3 ?_ he3;rw[vM (by omega)];simpa using Dt
  ·have jM:dI=(x:Int):=by rw[AFq];simp[IntKind.wrap,IntKind.bits,IntKind.signed];omega
   subst jM;refine C9.Hr he ho (by omega) (fun p2 c2 σ2 BM yA _=>⟨p2,n'+1,c2,rfl,h _ _ _ _ ?_ yA⟩) Kg;rw[QJ (by omega)];exact BM
end TwW
namespace TwW
open Go Tw Go.RowKit Go.Proofs.Tryz
theorem GG.at1 {σ:Hp}{p:Option Addr}{n k:Nat}{L:List Value}{v:Value}(h:GG 1 σ p n L)(hk:L[k]?=some v):∃b o,p=some ⟨b,o,none⟩∧σ.ld ⟨b,o+k*1,none⟩=some v:=by
 obtain⟨h1,_,h2⟩:=h;have Ao:=(Abf.1 hk).1;rcases h2 with h2|⟨b,o,hp,hl⟩
 ·simp at h1;omega
 ·refine⟨b,o,hp,?_⟩;rw[Ac7];exact hl.get hk
section
variable {σ τ:Hp}{d:Nat}{R:Rr}
end
section
variable {dir:ByteArray}{cnt:Nat}
end
end TwW
namespace TwW
open Go Tw Go.RowKit Go.Proofs.Tryz
def byt (s:ByteArray):List Int:=s.data.toList.map fun b=>(b.toNat:Int)
theorem la {s:ByteArray}:(byt s).length=s.size:=by simp[byt]
theorem vO {s:ByteArray}:VZ s=(byt s).map (.int .u8):=by simp[VZ,byt]
section
variable {σ:Hp}{R:Rr}
theorem QL {p:Option Addr}{n c:Nat}{xs:List Int}{s:ByteArray}(hr:C2 .u8 σ p n xs)(hn:n≤1048576)(hs:s.size≤1048576)
  (h:∀p' n' c' σ',C9 .u8 (σ.new σ') p' n' c' (xs++uv s.size++byt s)→Ext σ σ'→R (.returned (.slice p' n' c')) σ'):Spec prog 141 #[.slice p n c,.string s] σ R:=by
 refine Nk.start fun x8 h8=>?_;have e8:x8=(s.size:Int):=by rw[h8];simp[IntKind.wrap,IntKind.bits,IntKind.signed];omega
 subst e8;refine QK hr (by omega) (by omega) fun p' n' c' σ1 ho BH=>⟨p',n',c',rfl,?_⟩;have hq:∀a,p'=some a→σ a.block=none:=fun a ha=>by
  have h2:=A0.block ho a ha;cases hh:(σ.new σ1) a.block with
  | none=>exact absurd hh h2
  | some o=>exact(AV.1 hh).1
 have hl:(xs++uv s.size).length=n':=by have:=ho.1;simpa using this
 have Nq:=MQ (x:=s.size) (by omega);have hxl:xs.length=n:=hr.1;rw[Abq]at hl;refine zt underlying9 (A0.mono (Ext.Bb _ _) ho) rfl vO (by omega) fun p2 c2 σ2 BM A5 _=>⟨p2,_,c2,rfl,?_⟩;have Kg:=Fo hq A5 BH;refine h p2 _ c2 σ2 ?_ (Jc hq A5 BH);have:=A0.Qv BM Kg;simpa[C9] using this
theorem SN {p:Option Addr}{n c:Nat}{xs:List Int}(h:C9 .u8 σ p n c xs):xs.length=n:=by have:=h.1;simpa using this
theorem lf {s:ByteArray}:(ByteArray.toList s==ByteArray.toList (ByteArray.mk #[]))=decide (s.size=0):=by
 rw[ByteArray.toList_eq,ByteArray.toList_eq];by_cases h:s.size=0
 ·have:s=⟨#[]⟩:=Aeb (AdZ h);subst this;rfl
 ·rw[Abz h];simp only[AeU];intro e;apply h
  have:=Abr List.length e;simpa using this
end
end TwW
namespace TwW
open Go Tw Go.RowKit Go.Proofs.Tryz
abbrev Lb:=ByteArray×ByteArray
def CC (_:Hp)(vs:List Value)(x:Lb):Prop:=vs=[.string x.1,.string x.2]
theorem CC.mono:G5 CC:=fun _ _ _ _ _ h=>h
abbrev GJ:=Ai 2 CC
section
variable {σ:Hp}{R:Rr}
theorem GJ.at {p:Option Addr}{n i:Nat}{ls:List Lb}{x:Lb}(hr:GJ σ p n ls)(hx:ls[i]?=some x):∃b o,p=some ⟨b,o,none⟩∧Am σ b (o+i*2) [.string x.1,.string x.2]:=by
 obtain⟨b,o,vs,hp,rfl,hl⟩:=Ai.idx hr hx;exact⟨b,o,hp,hl⟩
theorem eZ {s t:ByteArray}:(s.toList==t.toList)=decide (s=t):=by
 rw[ByteArray.toList_eq,ByteArray.toList_eq];by_cases h:s=t
 ·subst h;simp
 ·rw[Abz h,AeU];exact fun e=>h (Aeb (Ab0.1 e))
theorem TV {α:Type}{xs:List α}{k:Nat}{y:α}(hy:xs[k]?=some y):xs.drop k=y::xs.drop (k+1):=by
 obtain⟨h,rfl⟩:=Abf.1 hy;exact Adk h
def EV:List Lb→ByteArray→ByteArray
 | [],_=>⟨#[]⟩
 | x::l,k=>if x.1=k then x.2 else EV l k
theorem Wu {p:Option Addr}{n c:Nat}{ls:List Lb}{k:ByteArray}(hr:GJ σ p n ls)(h:R (.returned (.string (EV ls k))) σ):Spec prog 189 #[.slice p n c,.string k] σ R:=by
 refine I9.start ?_
 suffices H:∀d i:Nat,n-i=d→i≤n→EV ls k=EV (ls.drop i) k→I9.Fv R k p n c n i σ from H n 0 rfl (Abs _) rfl
 intro d
 induction d with
 | zero=>
  intro i hd hi he;refine I9.As ⟨fun Ao=>by omega,fun _=>?_⟩;rw[Adc (by rw[hr.1];omega)]at he;rw[he]at h;exact h
 | succ d ih=>
  intro i hd hi he;refine I9.As ⟨fun _=>?_,fun hh=>by omega⟩;have Bi:i<n:=by omega
  obtain⟨x,hx⟩:=hr.ex Bi;obtain⟨b,o,rfl,hl⟩:=GJ.at hr hx;rw[TV hx,EV]at he;refine⟨b,o,rfl,by omega,x.1,x.2,by simpa using hl,fun _=>⟨fun hk=>?_,fun hk=>⟨AN Bi hr.big,ih (i+1) (by omega) (by omega) ?_⟩⟩⟩
  ·rw[eZ,Ab1]at hk;rw[Abe hk]at he;rw[he]at h;exact h
  ·rw[eZ,AcV]at hk;rwa[Abd hk]at he
theorem zv {s:ByteArray}{ok:UInt8→Bool}{pt:Int→Prop}{G:Bool→Prop}
  (bT:G true→pt s.size) (KL:∀(k:Nat) (u:UInt8),k<s.size→s.data[Int.toNat (k:Int)]?=some u→AK ((k:Int)+1)→(ok u=true→pt ((k:Int)+1))→(ok u=false→G false)→pt k)
  (h:G (s.data.toList.all ok)) (hb:s.size≤4611686018427387904):pt 0:=by
 have Ke:s.data.toList.length=s.size:=rfl
 suffices H:∀d k:Nat,s.size-k=d→k≤s.size→(s.data.toList.take k).all ok=true→pt k from H s.size 0 rfl (Abs _) rfl
 intro d
 induction d with
 | zero=>
  intro k hd hk Kd;rw[Abp (by omega)]at Kd;rw[Kd]at h;have:k=s.size:=by omega
  rw[this];exact bT h
 | succ d ih=>
  intro k hd hk Kd;have EU:k<s.size:=by omega
  obtain⟨u,hu⟩:∃u,s.data.toList[k]?=some u:=⟨_,Abi (by omega)⟩;refine KL k u EU (by simpa using hu) (by unfold AK;omega) (fun hc=>ih (k+1) (by omega) (by omega) (by rw[Ab hu,List.all_append,Kd];simpa using hc)) fun hc=>?_;have:s.data.toList.all ok=false:=by
   rw[List.all_eq_false];exact⟨u,Abj hu,by simp[hc]⟩
  rwa[this]at h
def dgt (u:UInt8):Bool:=decide (48≤u.toNat∧u.toNat≤57)
def nch (u:UInt8):Bool:=decide (u.toNat=95∨(48≤u.toNat∧u.toNat≤57)∨(65≤u.toNat∧u.toNat≤90)∨(97≤u.toNat∧u.toNat≤122))
def Fg (s:ByteArray):Bool:=decide (0<s.size)&&decide (s.size≤64)&&!(s.data.toList.head?.any dgt)&&s.data.toList.all nch
theorem MT {s:ByteArray}(h:R (.returned (.bool (Fg s))) σ):Spec prog 82 #[.string s] σ R:=by
 have Ke:s.data.toList.length=s.size:=rfl;refine F0.start ⟨fun h0=>?_,fun h0=>⟨fun h1=>?_,fun h1=>?_⟩⟩
 ·rw[lf,Ab1]at h0;simpa[Fg,h0] using h
 ·have:¬s.size≤64:=by omega
  simpa[Fg,this] using h
 ·rw[lf,AcV]at h0;obtain⟨u,hu⟩:∃u,s.data.toList[0]?=some u:=⟨_,Abi (by omega)⟩;have DQ:s.data[Int.toNat (0:Int)]?=some u:=by simpa using hu
  have hh:s.data.toList.head?=some u:=by rw[←hu];cases s.data.toList<;>rfl
  have rest:dgt u=false→F0.EE R s 0 σ:=fun hd=>by
   have e:Fg s=s.data.toList.all nch:=by simp[Fg,show 0<s.size by omega,show s.size≤64 by omega,hh,hd]
   rw[e]at h;refine zv (s:=s) (pt:=fun k=>F0.EE R s k σ) (ok:=nch) (G:=fun t=>R (.B t) σ) (fun g=>F0.C4 ⟨fun Ao=>by omega,fun _=>g⟩) (fun k u hk hu hi good bad=>?_) h (by omega);simp only[nch,Ab1,AcV]at good bad;refine F0.C4 ⟨fun Ao=>⟨u,by omega,hu,?_⟩,fun Ml=>by omega⟩;clear h;generalize u.toNat=n at good bad
   repeat' (first|refine⟨fun _=>?_,fun _=>?_⟩|exact⟨hi,good (by omega)⟩|exact bad (by omega))
  simp only[dgt,AcV]at rest;refine⟨u,by omega,DQ,fun h2=>⟨u,by omega,DQ,fun h3=>?_,fun h3=>rest (by omega)⟩,fun h2=>rest (by omega)⟩;have:dgt u=true:=by simp[dgt];omega
  simpa[Fg,hh,this] using h
def vl:Nat→Nat→Nat→List UInt8→Bool
 | 0,_,_,[]=>true
 | _+1,_,_,[]=>false
 | 0,_,_,c::r=>
  if c.toNat<128 then vl 0 128 191 r
  else if 194≤c.toNat∧c.toNat≤223 then vl 1 128 191 r
  else if 224≤c.toNat∧c.toNat≤239 then(if c.toNat=224 then vl 2 160 191 r else if c.toNat=237 then vl 2 128 159 r else vl 2 128 191 r)
  else if 240≤c.toNat∧c.toNat≤244 then(if c.toNat=240 then vl 3 144 191 r else if c.toNat=244 then vl 3 128 143 r else vl 3 128 191 r)
  else false
 | m+1,lo,hi,c::r=>if c.toNat<lo∨hi<c.toNat then false else vl m 128 191 r
def Wv (s:ByteArray):Bool:=vl 0 128 191 s.data.toList
theorem vl0 (l:List UInt8)(a b c d:Nat):vl 0 a b l=vl 0 c d l:=by cases l<;>rfl
attribute [local irreducible] Ax.CM Ax.H0 Ax.tH in
theorem S3 {s:ByteArray}(hb:s.size≤4611686018427387904)(h:R (.returned (.bool (Wv s))) σ):Spec prog 83 #[.string s] σ R:=by
 have Ke:s.data.toList.length=s.size:=rfl;refine Ax.start ?_
 suffices H:∀d:Nat,(∀k:Nat,s.size-k=d→k≤s.size→Wv s=vl 0 128 191 (s.data.toList.drop k)→Ax.CM R s k σ)∧
   (∀(k m lo hi:Nat),s.size-k=d→k≤s.size→Wv s=vl m lo hi (s.data.toList.drop k)→m≤3→Ax.tH R s k m lo hi σ) from(H s.size).1 0 (by omega) (by omega) rfl
 intro d
 induction d with
 | zero=>
  have A:∀k:Nat,s.size-k=0→k≤s.size→Wv s=vl 0 128 191 (s.data.toList.drop k)→Ax.CM R s k σ:=fun k hd hk he=>by
   refine Ax.BE ⟨fun _=>?_,fun A8=>by omega⟩;rw[Adc (by omega)]at he;rw[he]at h;exact h
  refine⟨A,fun k m lo hi hd hk he hm=>Ax.lL ⟨fun h0=>A k hd hk ?_,fun h0=>⟨fun _=>?_,fun A8=>by omega⟩⟩⟩
  ·have:m=0:=by omega
   subst this;rw[he];exact vl0 _ _ _ _ _
  ·obtain⟨m',rfl⟩:∃m',m=m'+1:=⟨m-1,by omega⟩;rw[Adc (by omega)]at he;rw[he]at h;exact h
 | succ d ih=>
  have A:∀k:Nat,s.size-k=d+1→k≤s.size→Wv s=vl 0 128 191 (s.data.toList.drop k)→Ax.CM R s k σ:=fun k hd hk he=>by
   have EU:k<s.size:=by omega
   obtain⟨u,hu⟩:∃u,s.data.toList[k]?=some u:=⟨_,Abi (by omega)⟩;have DQ:s.data[Int.toNat (k:Int)]?=some u:=by simpa using hu
   have hi:AK ((k:Int)+1):=by unfold AK;omega
   rw[TV hu,vl]at he;have st:∀(m lo hi:Nat),m≤3→Wv s=vl m lo hi (s.data.toList.drop (k+1))→Ax.H0 R s k m lo hi σ:=fun m lo hh hm he=>Ax.zK ⟨hi,ih.2 (k+1) m lo hh (by omega) (by omega) he hm⟩;have nx:Wv s=vl 0 128 191 (s.data.toList.drop (k+1))→Ax.CM R s ((k:Int)+1) σ:=fun he=>ih.1 (k+1) (by omega) (by omega) he;have no:Wv s=false→R (.B false) σ:=fun e=>by rw[e]at h;exact h
   refine Ax.BE ⟨fun A8=>by omega,fun _=>⟨u,by omega,DQ,?_⟩⟩;generalize s.data.toList.drop (k+1)=r at he st nx;clear ih h hu DQ;generalize u.toNat=n at he;have st1:=st 1 128 191 (by omega);have st2:=st 2 160 191 (by omega);have st3:=st 2 128 159 (by omega);have st4:=st 2 128 191 (by omega);have st5:=st 3 144 191 (by omega);have st6:=st 3 128 143 (by omega);have st7:=st 3 128 191 (by omega)
   repeat' (first|refine⟨fun _=>?_,fun _=>?_⟩|refine⟨hi,nx ?_⟩|refine st1 ?_|refine st2 ?_|refine st3 ?_|refine st4 ?_|refine st5 ?_|refine st6 ?_|refine st7 ?_|refine no ?_)
   all_goals first|(exfalso;clear he;omega)|(rw[he];repeat' (first|rfl|rw[Abe (by omega)] | rw[Abd (by omega)]))
  refine⟨A,fun k m lo hi hd hk he hm=>Ax.lL ⟨fun h0=>A k hd hk ?_,fun h0=>⟨fun A8=>by omega,fun _=>?_⟩⟩⟩
  ·have:m=0:=by omega
   subst this;rw[he];exact vl0 _ _ _ _ _
  ·obtain⟨m',rfl⟩:∃m',m=m'+1:=⟨m-1,by omega⟩;have EU:k<s.size:=by omega
   obtain⟨u,hu⟩:∃u,s.data.toList[k]?=some u:=⟨_,Abi (by omega)⟩;have DQ:s.data[Int.toNat (k:Int)]?=some u:=by simpa using hu
   rw[TV hu,vl]at he;refine⟨u,by omega,DQ,fun h1=>?_,fun h1=>⟨u,by omega,DQ,fun h2=>?_,fun h2=>⟨by unfold AK;omega,by unfold AK;omega,?_⟩⟩⟩
   ·rw[Abe (by omega)]at he;rw[he]at h;exact h
   ·rw[Abe (by omega)]at he;rw[he]at h;exact h
   ·rw[Abd (by omega)]at he;have:=ih.2 (k+1) m' 128 191 (by omega) (by omega) he (by omega);have e1:((m'+1:Nat):Int)-1=(m':Nat):=by omega
    rw[e1];exact this
end
end TwW
namespace TwW
open Go Tw Go.RowKit Go.Proofs.Tryz
section
variable {σ:Hp}{R:Rr}
def sle (a b:ByteArray):Bool:=Op.bytesLess a.toList b.toList||a.toList==b.toList
theorem AFs {x y:Operand}{a b:ByteArray}{T:TypeId}:YF prog (do eqGuard .leq T x y (.string a) (.string b);binOp .leq T (.string a) (.string b)) σ (.bool (sle a b)):=fun w _=>by
 simp[eqGuard,binOp,Op.stringOp,sle]
def SO:Option ByteArray→List Lb→Int
 | _,[]=>0
 | pv,x::l=>if Fg x.1=false then 31 else if x.2.size=0∨256<x.2.size∨Wv x.2=false then 32 else if pv.any (sle x.1 ·)=true then 33 else SO (some x.1) l
def Vb (ls:List Lb):Int:=if 16<ls.length then 30 else SO none ls
theorem S4 {p:Option Addr}{n c:Nat}{ls:List Lb}(hr:GJ σ p n ls)(h:R (.returned (.I (Vb ls))) σ):Spec prog 50 #[.slice p n c] σ R:=by
 have hn:ls.length=n:=hr.1;refine Eh.start ⟨fun h1=>?_,fun h1=>?_⟩
 ·rw[Vb,Abe (by omega)]at h;exact h
 rw[Vb,Abd (by omega)]at h
 let pv:Nat→Option ByteArray:=fun i=>if i=0 then none else(ls[i-1]?).map (·.1)
 suffices H:∀d i:Nat,n-i=d→i≤n→SO none ls=SO (pv i) (ls.drop i)→Eh.Ha R p n c p n c n i σ from H n 0 rfl (Abs _) rfl
 intro d
 induction d with
 | zero=>
  intro i hd hi he;refine Eh.FC ⟨fun Ao=>by omega,fun _=>?_⟩;rw[Adc (by omega)]at he;rw[he]at h;exact h
 | succ d ih=>
  intro i hd hi he;have Bi:i<n:=by omega
  obtain⟨x,hx⟩:=hr.ex Bi;obtain⟨b,o,rfl,hl⟩:=GJ.at hr hx;rw[TV hx,SO]at he;have out:∀e:Int,SO none ls=e→R (.returned (.I e)) σ:=fun e h1=>h1▸h;refine Eh.FC ⟨fun _=>?_,fun hh=>by omega⟩;refine⟨b,o,rfl,by omega,x.1,x.2,by simpa using hl,fun _=>MT ⟨_,rfl,fun h1=>out _ ?_,fun h1=>?_⟩⟩
  ·rw[he,Abe h1]
  rw[Abd (by simp[h1])]at he;rw[lf];refine⟨fun h2=>out _ ?_,fun h2=>⟨fun h3=>out _ ?_,fun h3=>S3 (by omega) ⟨_,rfl,fun h4=>out _ ?_,fun h4=>?_⟩⟩⟩
  ·rw[he,Abe (.inl (by simpa using h2))]
  ·rw[he,Abe (.inr (.inl (by omega)))]
  ·rw[he,Abe (.inr (.inr h4))]
  rw[Abd (by rw[AcV]at h2;simp[h2,h4];omega)]at he;have nx:pv (i+1)=some x.1:=by simp[pv,hx]
  have go:(pv i).any (sle x.1 ·)=false→Eh.Ha R (aD b o) n c (aD b o) n c n ((i:Int)+1) σ:=fun h5=>by
   rw[Abd (by simp[h5]),←nx]at he;exact ih (i+1) (by omega) (by omega) he
  refine⟨fun h5=>?_,fun h5=>⟨AN Bi hr.big,go ?_⟩⟩
  ·obtain⟨y,hy⟩:=hr.ex (k:=i-1) (by omega);obtain⟨b',o',hp,R9⟩:=GJ.at hr hy;cases hp;have e1:((i:Int)-1).toNat=i-1:=by omega
   have hpv:pv i=some y.1:=by simp[pv,hy,show i≠0 by omega]
   refine⟨by have:=hr.big;unfold AK;omega,b,o,rfl,by omega,y.1,by rw[e1];exact R9.1,_,AFs,fun h6=>out _ ?_,fun h6=>⟨AN Bi hr.big,go ?_⟩⟩
   ·rw[he,Abe (by rw[hpv];exact h6)]
   ·rw[hpv];exact h6
  ·have:i=0:=by omega
   simp[pv,this]
theorem Xk:∀{ls:List Lb} {pv:Option ByteArray},SO pv ls=0→∀x∈ls,Fg x.1=true∧0<x.2.size∧x.2.size≤256∧Wv x.2=true
 | [],_,_,_,hx=>by cases hx
 | y::l,pv,h,x,hx=>by
  rw[SO]at h;split at h
  ·cases h
  split at h
  ·cases h
  split at h
  ·cases h
  rename_i h1 h2 h3;rcases Abh.1 hx with rfl|hx
  ·simp only[AeW,Bool.not_eq_false]at h1 h2;exact⟨h1,by omega,by omega,h2.2.2⟩
  ·exact Xk h x hx
def A4 (ls:List Lb):Prop:=ls.length≤16∧∀x∈ls,x.1.size≤256∧x.2.size≤256
theorem A4.of {ls:List Lb}(h:Vb ls=0):A4 ls:=by
 unfold Vb at h;split at h
 ·cases h
 ·refine⟨by omega,fun x hx=>?_⟩;obtain⟨h1,_,h2,_⟩:=Xk h x hx;simp[Fg]at h1;exact⟨by omega,h2⟩
theorem CC.one (σ:Hp)(vs:List Value)(x:Lb)(h:CC σ vs x):Fm vs:=by
 rw[h];intro u hu;simp only[Abh,Ab2,Ace]at hu;rcases hu with rfl|rfl<;>rfl
theorem HO {σ1:Hp}{q:Option Addr}{j c b:Nat}{ls:List Lb}{ty:TypeId}{Φ:Value→Hp→Prop}(ht:GJ σ1 q j ls)(hb:j≤1000000000)
  (hΦ:∀p' c' σ',HX 2 CC (σ1.new σ') p' j c' ls→Ext σ1 σ'→Φ (.slice p' j c') σ') (hn:σ1 b=none) :
  AI prog (Builtin.append_ #[95,95] ty #[.slice (some ⟨b,0,none⟩) 0 0,.slice q j c]) (σ1.set b (.cells #[] 144 (0,0))) Φ:=by
 obtain⟨h1,cs,h2,h3⟩:=ht;refine C3 A0.empty (h2.mono (.set hn)) (Ch.rV CC.one h3 (by decide)) (by omega) fun p' c' σ' BZ MR=>?_;have hq:∀a:Addr,(some (⟨b,0,none⟩:Addr))=some a→σ1 a.block=none:=fun a ha=>by cases ha;exact hn
 rw[Acl]at BZ ⊢;rw[Ach]at BZ;exact hΦ p' c' σ' ⟨h1,cs,A0.Qv BZ (Fo hq MR (.set hn)),h3⟩ (Jc hq MR (.set hn))
def Xl (x:Lb):List Int:=uv x.1.size++byt x.1++(uv x.2.size++byt x.2)
def AFu (ls:List Lb):List Int:=uv ls.length++ls.flatMap Xl
theorem oX {x:Lb}(h:x.1.size≤256∧x.2.size≤256):(Xl x).length≤532:=by
 have h1:=MQ (x:=x.1.size) (by omega);have h2:=MQ (x:=x.2.size) (by omega);simp only[Xl,Abq,la];omega
theorem vP {ls:List Lb}(h:∀x∈ls,x.1.size≤256∧x.2.size≤256):(ls.flatMap Xl).length≤ls.length*532:=by
 induction ls with
 | nil=>simp
 | cons x l ih=>
  have:=ih fun y hy=>h y (Abl _ hy);have:=oX (h x (by simp));rw[AdL,Abq,Abk];omega
theorem aA {p:Option Addr}{n c:Nat}{ls:List Lb}(hr:GJ σ p n ls)(hs:A4 ls)(h:∀p' n' c' σ',C9 .u8 (σ.new σ') p' n' c' (AFu ls)→Ext σ σ'→R (.returned (.slice p' n' c')) σ'):Spec prog 126 #[.slice p n c] σ R:=by
 have hn:ls.length=n:=hr.1;have h16:=hs.1;refine FO.start fun x8 h8=>?_;have e8:x8=(n:Int):=by rw[h8];simp[IntKind.wrap,IntKind.bits,IntKind.signed];omega
 subst e8;refine QK Ai.nil (by omega) (by omega) fun p1 n1 c1 σ1 XM BH=>⟨p1,n1,c1,rfl,?_⟩;rw[Ach]at XM
 suffices H:∀d k:Nat,∀p3 n3 c3 σ3,n-k=d→k≤n→C9 .u8 (σ.new σ3) p3 n3 c3 (uv n++(ls.take k).flatMap Xl)→Ext σ σ3→FO.Ap R p3 n3 c3 p n c n k σ3 from H n 0 p1 n1 c1 σ1 rfl (Abs _) (by simpa using XM) BH
 intro d
 induction d with
 | zero=>
  intro k p3 n3 c3 σ3 hd hk ho hx;refine FO.AR ⟨fun Ao=>by omega,fun _=>h p3 n3 c3 σ3 ?_ hx⟩;rw[Abp (by omega)]at ho;rw[AFu,hn];exact ho
 | succ d ih=>
  intro k p3 n3 c3 σ3 hd hk ho hx;have EU:k<n:=by omega
  obtain⟨y,hy⟩:=hr.ex EU;obtain⟨b,o,rfl,hl⟩:=GJ.at hr hy;have qz:=hs.2 y (Abj hy);have hl3:=SN ho;have Nq:=MQ (x:=n) (by omega);have hfl:=vP (ls:=ls.take k) fun x hx=>hs.2 x (AeF hx);rw[Abq]at hl3;rw[Abx]at hfl;have h3b:n3≤9000:=by omega
  refine FO.AR ⟨fun _=>⟨b,o,rfl,by omega,y.1,y.2,by simpa using hl.mono hx,fun _=>?_⟩,fun hh=>by omega⟩;refine QL (C9.rd (A0.mono (Ext.Bb _ _) ho)) (by omega) (by omega) fun p4 n4 c4 σ4 MU Kk=>⟨p4,n4,c4,rfl,?_⟩;have hl4:=SN MU;have oY:=MQ (x:=y.1.size) (by omega);simp only[Abq,la]at hl4;refine QL (C9.rd (A0.mono (Ext.Bb _ _) MU)) (by omega) (by omega) fun p5 n5 c5 σ5 RU oZ=>⟨p5,n5,c5,rfl,AN EU hr.big,?_⟩;refine ih (k+1) p5 n5 c5 σ5 (by omega) (by omega) ?_ (hx.trans (Kk.trans oZ));have:=A0.mono (Ext.DU (hx.trans Kk)) RU;rw[Ab hy,List.flatMap_append];simpa[Xl,C9] using this
end
end TwW
namespace TwW
open Go Tw Go.RowKit Go.Proofs.Tryz
section
variable {σ σ' τ:Hp}{R:Rr}
def Gv (x:ByteArray)(xs:List ByteArray):Bool:=xs.any fun y=>decide (x=y)
theorem ec {x:ByteArray}{xs:List ByteArray}:Gv x xs=true↔x∈xs:=by simp[Gv]
theorem MV {p:Option Addr}{n c:Nat}{x:ByteArray}{xs:List ByteArray}(hr:GG 1 σ p n (xs.map .string))(h:R (.returned (.bool (Gv x xs))) σ):Spec prog 209 #[.slice p n c,.string x] σ R:=by
 have hn:xs.length=n:=by have:=hr.1;simpa using this
 have QM:n≤4611686018427387904:=hr.2.1;have key:∀i:Int,(0≤i↔x∈xs)→AZ R (CI .i64 fun x7 y=>R (.returned (.bool (decide (0≤x7)))) y) (.returned (.I i)) σ:=fun i hi=>⟨i,rfl,by
  dsimp only;rw[show decide (0≤i)=Gv x xs by rw[Bool.eq_iff_iff,ec,Ab1];exact hi];exact h⟩
 refine FL.start (BU.start ?_)
 suffices H:∀d k:Nat,n-k=d→k≤n→x ∉ xs.take k→BU.Fv (AZ R (CI .i64 fun x7 y=>R (.returned (.bool (decide (0≤x7)))) y)) p n c x n k σ from H n 0 rfl (Abs _) (by simp)
 intro d
 induction d with
 | zero=>
  intro k hd hk By;refine BU.As ⟨fun Ao=>by omega,fun _=>key (-1) ?_⟩;rw[Abp (by omega)]at By;exact⟨fun h=>absurd h (by decide),fun h=>absurd h By⟩
 | succ d ih=>
  intro k hd hk By;have EU:k<n:=by omega
  obtain⟨y,hy⟩:∃y,xs[k]?=some y:=⟨_,Abi (by omega)⟩;obtain⟨b,o,rfl,hl⟩:=GG.at1 hr (k:=k) (v:=.string y) (by rw[AcP,hy];rfl);refine BU.As ⟨fun _=>⟨b,o,rfl,by omega,y,by simpa using hl,fun he=>key k ⟨fun _=>?_,fun _=>by omega⟩,fun A8=>⟨AN EU QM,ih (k+1) (by omega) (by omega) ?_⟩⟩,fun Ml=>by omega⟩
  ·rw[eZ,Ab1]at he;rw[he];exact Abj hy
  ·rw[eZ,AcV]at A8;rw[Wf hy]
   rintro(h1|h1)
   ·exact By h1
   ·exact A8 h1
theorem SP {f:Nat}{cap:Array Value}{g:Lb→Bool}{p:Option Addr}{n c:Nat}{ls:List Lb}(JZ:Enters prog f)(hr:GJ σ p n ls)(hn:n≤1000000)
  (hf:∀(σ':Hp) (x:Lb) (R':Rr),Ext σ σ'→R' (.returned (.bool (g x))) σ'→Spec prog f (#[]++#[.agg #[.string x.1,.string x.2]]++cap) σ' R')
  (h:∀p' n' c' σ',HX 2 CC (σ.new σ') p' n' c' (ls.filter g)→Ext σ σ'→R (.returned (.slice p' n' c')) σ'):Spec prog 207 #[.slice p n c,.func (.func f) #[] cap] σ R:=by
 have oa:ls.length=n:=hr.1;refine Cd.start ?_
 suffices H:∀d k:Nat,∀p5 n5 c5 σ5,n-k=d→k≤n→HX 2 CC (σ.new σ5) p5 n5 c5 ((ls.take k).filter g)→Ext σ σ5→Cd.Ap R (.func (.func f) #[] cap) p5 n5 c5 p n c n k σ5 from H n 0 none 0 0 σ rfl (Abs _) HX.nil (.refl _)
 intro d
 induction d with
 | zero=>
  intro k p5 n5 c5 σ5 hd hk ho hx;refine Cd.AR ⟨fun Ao=>by omega,fun _=>h p5 n5 c5 σ5 ?_ hx⟩;rw[Abp (by omega)]at ho;exact ho
 | succ d ih=>
  intro k p5 n5 c5 σ5 hd hk ho hx;have EU:k<n:=by omega
  obtain⟨x,jJ⟩:=hr.ex EU;obtain⟨b,o,rfl,hl⟩:=GJ.at hr jJ;have hn5:n5≤n:=by
   have h1:=ho.1;have h2:=AcN g (ls.take k);rw[Abx]at h2;omega
  have ht:(ls.take (k+1)).filter g=(ls.take k).filter g++if g x then[x] else[]:=by
   rw[Ab jJ,Acv];by_cases hg:g x<;>simp[hg]
  refine Cd.AR ⟨fun _=>⟨b,o,rfl,by omega,x.1,x.2,by simpa using hl.mono hx,fun _=>⟨f,#[],cap,rfl,JZ,hf σ5 x _ hx ⟨_,rfl,fun hg F3 ASv=>?_,fun hg=>?_⟩⟩⟩,fun hh=>by omega⟩
  ·refine HX.Hr CC.mono (vs:=[.string x.1,.string x.2]) (x:=x) hx ho rfl (CC.one σ _ _ rfl) rfl (by omega) (fun p' c' σ' Iw RV=>⟨_,_,_,rfl,Cd.GH ⟨AN EU hr.big,ih (k+1) _ _ _ _ (by omega) (by omega) ?_ RV⟩⟩) ASv;rw[ht,Abe hg];exact Iw
  ·refine Cd.GH ⟨AN EU hr.big,ih (k+1) _ _ _ _ (by omega) (by omega) ?_ hx⟩;rw[ht,Abd (by simp[hg]),Acq];exact ho
theorem ANB:Enters prog 210:=fun args w=>call210 args w
theorem J7 {p q:Option Addr}{n c m d:Nat}{ls:List Lb}{ns:List ByteArray}(hr:GJ σ p n ls)(hn:n≤1000000)(hs:GG 1 σ q m (ns.map .string))
  (h:∀p' n' c' σ',HX 2 CC (σ.new σ') p' n' c' (ls.filter fun x=>!Gv x.1 ns)→Ext σ σ'→R (.returned (.slice p' n' c')) σ'):Spec prog 162 #[.slice p n c,.slice q m d] σ R:=by
 refine Ng.start fun b3 lg=>?_;have CV:Ext σ (σ.set b3 (.cells #[.slice q m d] 125 (0,0))):=.set lg;refine SP (f:=210) (g:=fun x=>!Gv x.1 ns) ANB (hr.mono CC.mono CV) hn (fun σ' x R' hx Kt=>?_) fun p' n' c' σ' ho hx=>⟨_,_,_,rfl,h p' n' c' σ' ?_ (CV.trans hx)⟩
 ·refine KW.start fun _=>⟨q,m,d,AL (hx _ _ (Hp.AA _ _ _)) rfl,MV (hs.mono (CV.trans hx)) ⟨_,rfl,Kt⟩⟩
 ·exact ho.mono CC.mono (Ext.DU CV)
end
end TwW
namespace TwW
open Go Tw Go.RowKit Go.Proofs.Tryz
section
variable {σ σ' τ:Hp}{R:Rr}
theorem aB {α:Type}{b:Nat}{T:TypeId}{f:α→Value}{x:α}{ρ:Hp}(h:ρ b=some (.cells #[f x] T (0,0))):GG 1 ρ (some ⟨b,0,none⟩) 1 ([x].map f):=⟨rfl,by omega,.inr ⟨b,0,rfl,⟨AL h rfl,trivial⟩⟩⟩
end
end TwW
end
section
namespace TwW
open Go Tw
structure Mt where
 kind:Int
 name:ByteArray
 val:ByteArray
structure Nd where
 kind:Int
 op:Int
 text:ByteArray
 mt:List Mt
 width:Int
 back:Int
 E4:Int
 names:List ByteArray
 bool:Bool
 parts:Int
structure Sr where
 ls:List Lb
 ps:List (Int×Int)
structure El where
 ls:List Lb
 v:Int
structure Rg where
 ls:List Lb
 vs:List Int
structure Vv where
 kind:Int
 v:Int
 vec:List El
 PE:List Rg
structure Fl where
 num:ByteArray→Int
 abs:Int→Int
 floor:Int→Int
 whole:Int→Int
 vQ:Int→Int
 over:Int→List Int→Int→Option Int
 fold:Int→List Int→Int
 S5:Int→Int→Int→Int×Bool
 od:List Mt→List Lb→Bool
 cmpL:List Lb→List Lb→Int
abbrev KZ:Int:=9218868437227405314
def Fj:ByteArray:=⟨#[95,95,110,97,109,101,95,95]⟩
def H5 (ls:List Lb):ByteArray:=strOfNums (AFu ls)
section
variable {α:Type}
def aC:List (ByteArray×α)→ByteArray→α→List (ByteArray×α)
 | [],k,x=>[(k,x)]
 | (a,b)::l,k,x=>if a=k then(k,x)::l else(a,b)::aC l k x
def EJ:List (ByteArray×α)→ByteArray→Option α
 | [],_=>none
 | (a,b)::l,k=>if a=k then some b else EJ l k
end
def EK (ls:List Lb):List Lb:=ls.filter fun x=>!Gv x.1 [Fj]
def ed (ns:List ByteArray)(ls:List Lb):List Lb:=ls.filter fun x=>Gv x.1 ns
def eh (ns:List ByteArray)(ls:List Lb):List Lb:=ls.filter fun x=>!Gv x.1 ns
section
variable (F:Fl)
def jN (x:El):List El→List El
 | []=>[x]
 | y::l=>if F.cmpL x.ls y.ls≤0 then x::y::l else y::jN x l
def vR (l:List El):List El:=l.foldr (jN F) []
def GC (l:List El):Option (List El):=if l.Pairwise (fun a b=>F.cmpL a.ls b.ls≠0) then some (vR F l) else none
def Gw (ps:List (Int×Int))(EL Hl:Int):List (Int×Int):=ps.filter fun p=>decide (EL<p.1)&&decide (p.1≤Hl)
def aF (n:Nd)(ss:List Sr)(at_:Int):List El:=ss.filterMap fun s=>match (Gw s.ps (at_-n.back-300) (at_-n.back)).getLast? with
 | none=>none
 | some p=>if p.2=KZ∨F.od n.mt s.ls=false then none else some ⟨s.ls,p.2⟩
def jO (n:Nd)(ss:List Sr)(at_:Int):List Rg:=ss.filterMap fun s=>
 let vs:=((Gw s.ps (at_-n.back-n.width) (at_-n.back)).filter fun p=>decide (p.2≠KZ)).map Prod.snd
 bif !vs.isEmpty&&F.od n.mt s.ls then some ⟨s.ls,vs⟩ else none
def Xm (n:Nd)(p:Vv):List El:=(p.vec.map fun x=>⟨EK x.ls,if n.op=11 then F.abs x.v else F.floor x.v⟩)++p.PE.filterMap fun s=>(F.over n.op s.vs p.v).map fun v=>⟨EK s.ls,v⟩
def Gx (n:Nd)(ls:List Lb):List Lb:=if n.E4=1 then ed n.names ls else if n.E4=2 then EK (eh n.names ls) else[]
def NT (ls:List Lb)(v:Int):List Rg→List Rg
 | []=>[⟨ls,[v]⟩]
 | g::l=>if H5 g.ls=H5 ls then⟨g.ls,g.vs++[v]⟩::l else g::NT ls v l
def oe (n:Nd)(p:Vv):List El:=(p.vec.foldl (fun gs x=>NT (Gx n x.ls) x.v gs) []).map fun g=>⟨g.ls,F.fold n.op g.vs⟩
def Gd (op:Int):Bool:=decide (5≤op)&&decide (op≤10)
def ei (n:Nd)(vec:List El)(f:Int→Int×Bool):List El:=vec.filterMap fun x=>
 if Gd n.op=false∨n.bool=true then some ⟨EK x.ls,(f x.v).1⟩ else if(f x.v).2 then some x else none
def Qo (n:Nd)(ls:List Lb):List Lb:=if n.E4=3 then ed n.names ls else EK (eh n.names ls)
def aG (n:Nd)(l:List El):List (ByteArray×El):=l.foldl (fun m x=>aC m (H5 (Qo n x.ls)) x) []
def Xn (n:Nd)(l:List El)(k:List Lb):Option El:=EJ (aG n l) (H5 k)
def og (n:Nd)(l:List El):Bool:=decide ((aG n l).length=l.length)
def Vc (n:Nd)(x y:List El):List El:=
 (x.filter fun e=>decide (n.op=12)||((Xn n y (Qo n e.ls)).isSome==decide (n.op=11)))++y.filter fun e=>(Xn n x (Qo n e.ls)).isNone&&decide (n.op=12)
def Xo (n:Nd)(x y:List El):Option (List El):=if og n x&&og n y then some (x.filterMap fun e=>match Xn n y (Qo n e.ls) with
 | none=>none
 | some o=>if Gd n.op=false∨n.bool=true then some ⟨Qo n e.ls,(F.S5 n.op e.v o.v).1⟩ else if(F.S5 n.op e.v o.v).2 then some e else none) else none
def zw (n:Nd)(x y:Vv):Option Vv:=
 if x.kind=1∧y.kind=1 then some ⟨1,(F.S5 n.op x.v y.v).1,[],[]⟩
 else((if x.kind=1 then some (ei n y.vec (F.S5 n.op x.v)) else if y.kind=1 then some (ei n x.vec fun v=>F.S5 n.op v y.v) else if 11≤n.op∧n.op≤13 then some (Vc n x.vec y.vec) else Xo F n x.vec y.vec).bind (GC F)).map fun l=>⟨2,0,l,[]⟩
def vS (p:Vv):Option Vv:=if p.kind=1 then some ⟨1,F.vQ p.v,[],[]⟩ else(GC F (p.vec.map fun x=>⟨EK x.ls,F.vQ x.v⟩)).map fun l=>⟨2,0,l,[]⟩
def QN (ss:List Sr)(at_:Int)(n:Nd)(l:List Vv):Option Vv:=
 if n.kind=1 then some ⟨1,F.num n.text,[],[]⟩
 else if n.kind=2 then some ⟨2,0,aF F n ss at_,[]⟩
 else if n.kind=3 then some ⟨3,F.whole n.width,[],jO F n ss at_⟩
 else match l with
  | [p]=>if n.kind=4 then(GC F (Xm F n p)).map fun l=>⟨2,0,l,[]⟩ else if n.kind=5 then(GC F (oe F n p)).map fun l=>⟨2,0,l,[]⟩ else if n.kind=7 then vS F p else none
  | [p,q]=>if n.kind=6 then zw F n p q else none
  | _=>none
def S6 (ss:List Sr)(at_:Int):List Nd→List Vv→Option (List Vv)
 | [],st=>some st
 | n::t,st=>(QN F ss at_ n (st.drop (st.length-n.parts.toNat))).bind fun v=>S6 ss at_ t (st.take (st.length-n.parts.toNat)++[v])
def HA (t:List Nd)(ss:List Sr)(at_:Int):Option (List El):=(S6 F ss at_ t []).bind fun st=>st.head?.map fun v=>if v.kind=1 then[⟨[],v.v⟩] else v.vec
end
section
variable {F:Fl}
end
end TwW
end
section
namespace TwW
open Go Tw
structure Nr {α:Type}(c:α→α→Int):Prop where
 eq:∀x y,c x y=0↔x=y
 NU:∀x y,c x y<0↔0<c y x
 trans:∀x y z,c x y<0→c y z<0→c x z<0
def JE {α:Type}(c:α→α→Int):List α→List α→Int
 | [],[]=>0
 | [],_::_=>-1
 | _::_,[]=>1
 | x::l,y::m=>if c x y=0 then JE c l m else c x y
def Vd {α β:Type}(c:α→α→Int)(d:β→β→Int)(x y:α×β):Int:=if c x.1 y.1=0 then d x.2 y.2 else c x.1 y.1
theorem Nr.JE {α:Type}{c:α→α→Int}(h:Nr c):Nr (JE c):=by
 refine⟨fun l=>?_,fun l=>?_,fun l=>?_⟩
 ·induction l with
  | nil=>intro m;cases m<;>simp[TwW.JE]
  | cons x l ih=>
   intro m;cases m with
   | nil=>simp[TwW.JE]
   | cons y m=>
    unfold TwW.JE;by_cases hc:c x y=0
    ·rw[Abe hc,ih];simp[(h.eq x y).1 hc]
    ·rw[Abd hc];simp[hc,mt (h.eq x y).2 hc]
 ·induction l with
  | nil=>intro m;cases m<;>simp[TwW.JE]
  | cons x l ih=>
   intro m;cases m with
   | nil=>simp[TwW.JE]
   | cons y m=>
    unfold TwW.JE;by_cases hc:c x y=0
    ·have TW:=(h.eq x y).1 hc;rw[Abe hc,Abe ((h.eq y x).2 TW.symm),ih]
    ·have hc':c y x≠0:=fun e=>hc ((h.eq x y).2 ((h.eq y x).1 e).symm);rw[Abd hc,Abd hc',h.NU]
 ·induction l with
  | nil=>
   intro m k h1 h2;cases m with
   | nil=>simp[TwW.JE]at h1
   | cons y m=>
    cases k with
    | nil=>simp[TwW.JE]at h2
    | cons z k=>simp[TwW.JE]
  | cons x l ih=>
   intro m k h1 h2;cases m with
   | nil=>simp[TwW.JE]at h1
   | cons y m=>
    cases k with
    | nil=>simp[TwW.JE]at h2
    | cons z k=>
     unfold TwW.JE at h1 h2 ⊢;by_cases TW:c x y=0
     ·rw[Abe TW]at h1;have e:=(h.eq x y).1 TW;subst e;by_cases jP:c x z=0
      ·rw[Abe jP]at h2 ⊢;exact ih m k h1 h2
      ·rw[Abd jP]at h2 ⊢;exact h2
     ·rw[Abd TW]at h1;by_cases jP:c y z=0
      ·rw[Abe jP]at h2;have e:=(h.eq y z).1 jP;subst e;rw[Abd TW];exact h1
      ·rw[Abd jP]at h2;have h3:=h.trans x y z h1 h2;rw[Abd (by omega)];exact h3
theorem Nr.Vd {α β:Type}{c:α→α→Int}{d:β→β→Int}(h:Nr c)(g:Nr d):Nr (Vd c d):=by
 refine⟨fun x y=>?_,fun x y=>?_,fun x y z h1 h2=>?_⟩
 ·obtain⟨x1,x2⟩:=x;obtain⟨y1,y2⟩:=y;unfold TwW.Vd;by_cases hc:c x1 y1=0
  ·simp only[hc,Abe];rw[g.eq];simp[(h.eq x1 y1).1 hc]
  ·simp only[hc,Ac8];simp[hc,mt (h.eq x1 y1).2 hc]
 ·unfold TwW.Vd;by_cases hc:c x.1 y.1=0
  ·rw[Abe hc,Abe ((h.eq _ _).2 ((h.eq _ _).1 hc).symm),g.NU]
  ·rw[Abd hc,Abd (fun e=>hc ((h.eq _ _).2 ((h.eq _ _).1 e).symm)),h.NU]
 ·unfold TwW.Vd at h1 h2 ⊢;by_cases TW:c x.1 y.1=0
  ·rw[Abe TW]at h1;rw[(h.eq _ _).1 TW];by_cases jP:c y.1 z.1=0
   ·rw[Abe jP]at h2 ⊢;exact g.trans _ _ _ h1 h2
   ·rw[Abd jP]at h2 ⊢;exact h2
  ·rw[Abd TW]at h1;by_cases jP:c y.1 z.1=0
   ·rw[Abe jP]at h2;rw[←(h.eq _ _).1 jP,Abd TW];exact h1
   ·rw[Abd jP]at h2;have h3:=h.trans _ _ _ h1 h2;rw[Abd (by omega)];exact h3
def jQ (a b:UInt8):Int:=if a<b then -1 else if b<a then 1 else 0
theorem aH {a b:UInt8}:jQ a b<0↔a.toNat<b.toNat:=by
 unfold jQ;by_cases h:a<b
 ·have:=AdI.1 h;simp[h,this]
 ·have h':=mt AdI.2 h;rw[Abd h];by_cases g:b<a<;>simp[g]<;>omega
theorem lh {a b:UInt8}:0<jQ a b↔b.toNat<a.toNat:=by
 unfold jQ;by_cases h:a<b
 ·have:=AdI.1 h;simp[h];omega
 ·rw[Abd h];by_cases g:b<a
  ·have:=AdI.1 g;simp[g,this]
  ·have h':=mt AdI.2 g;simp[g];omega
theorem zx:Nr jQ:=by
 refine⟨fun x y=>?_,fun x y=>?_,fun x y z h1 h2=>?_⟩
 ·have h1:=@aH x y;have h2:=@lh x y;rw[←Aep];omega
 ·rw[aH,lh]
 ·rw[aH]at *;omega
theorem vT:∀a b:List UInt8,JE jQ a b=Lib.compareBytes a b
 | [],[]=>rfl
 | [],_::_=>rfl
 | _::_,[]=>rfl
 | x::l,y::m=>by
  unfold JE Lib.compareBytes;rw[←vT l m];unfold jQ;by_cases h1:x<y
  ·simp[h1]
  ·by_cases h2:y<x<;>simp[h1,h2]
def Kl (a b:ByteArray):Int:=Lib.compareBytes a.data.toList b.data.toList
theorem lj:Nr Kl:=by
 have h:=zx.JE;refine⟨fun x y=>?_,fun x y=>?_,fun x y z h1 h2=>?_⟩
 ·unfold Kl;rw[←vT,h.eq];exact⟨fun e=>by cases x;cases y;simp at e;rw[e],fun e=>by rw[e]⟩
 ·unfold Kl;rw[←vT,←vT];exact h.NU _ _
 ·unfold Kl at *;rw[←vT]at *;exact h.trans _ _ _ h1 h2
def Aj:List Lb→List Lb→Int:=JE (Vd Kl Kl)
theorem AU:Nr Aj:=(lj.Vd lj).JE
section
variable {F:Fl}(hF:F.cmpL=Aj)
theorem RW (x:El):∀l:List El,(jN F x l).Perm (x::l)
 | []=>Ae0 _
 | y::l=>by
  unfold jN;split
  ·exact Ae0 _
  ·exact((RW x l).cons y).trans (List.Perm.swap ..)
theorem J8:∀l:List El,(vR F l).Perm l
 | []=>Ae0 _
 | x::l=>(RW x _).trans ((J8 l).cons x)
include hF
theorem le_trans' {x y z:El}(h1:F.cmpL x.ls y.ls≤0)(h2:F.cmpL y.ls z.ls≤0):F.cmpL x.ls z.ls≤0:=by
 rw[hF]at *;rcases Int.lt_or_eq_of_le h1 with g1|g1
 ·rcases Int.lt_or_eq_of_le h2 with g2|g2
  ·exact AfI (AU.trans _ _ _ g1 g2)
  ·rw[←(AU.eq _ _).1 g2];exact h1
 ·rw[(AU.eq _ _).1 g1];exact h2
theorem SQ (x:El):∀l:List El,l.Pairwise (fun a b=>F.cmpL a.ls b.ls≤0)→(jN F x l).Pairwise fun a b=>F.cmpL a.ls b.ls≤0
 | [],_=>by simp[jN]
 | y::l,h=>by
  rw[AcQ]at h;unfold jN;split
  ·rename_i TW;refine AcQ.2 ⟨fun z hz=>?_,AcQ.2 h⟩;rcases Abh.1 hz with rfl|hz
   ·exact TW
   ·exact le_trans' hF TW (h.1 z hz)
  ·rename_i TW;refine AcQ.2 ⟨fun z hz=>?_,SQ x l h.2⟩;rcases Abh.1 ((RW x l).mem_iff.1 hz) with rfl|hz
   ·have h1:0<F.cmpL z.ls y.ls:=by omega
    rw[hF]at *;exact AfI ((AU.NU _ _).2 h1)
   ·exact h.1 z hz
theorem QO:∀l:List El,(vR F l).Pairwise fun a b=>F.cmpL a.ls b.ls≤0
 | []=>List.Pairwise.nil
 | x::l=>SQ hF x _ (QO l)
theorem oh {l m:List El}(hp:m.Perm l)(hs:m.Pairwise fun a b=>F.cmpL a.ls b.ls<0):GC F l=some m:=by
 have A8:m.Pairwise fun a b=>F.cmpL a.ls b.ls≠0:=hs.imp fun h=>by omega
 have ASw:l.Pairwise fun a b=>F.cmpL a.ls b.ls≠0:=(hp.pairwise_iff fun {a b} h e=>by
  rw[hF]at *;exact h ((AU.eq _ _).2 ((AU.eq _ _).1 e).symm)).1 A8
 unfold GC;rw[Abe ASw];refine Abr some (List.Perm.eq_of_pairwise (le:=fun a b:El=>F.cmpL a.ls b.ls≤0) (fun a b ha hb h1 h2=>?_) (QO hF l) (hs.imp fun h=>AfI h) ((J8 l).trans hp.symm));have q6:F.cmpL a.ls b.ls=0:=by
  refine Int.le_antisymm h1 (Int.not_lt.1 fun h3=>?_);rw[hF]at *;have:=(AU.NU _ _).1 h3;omega
 have ham:=((J8 (F:=F) l).trans hp.symm).mem_iff.1 ha;obtain⟨i,hi,rfl⟩:=AeE.1 ham;obtain⟨j,hj,rfl⟩:=AeE.1 hb;have zy:=Acm.1 A8;rcases Aeh i j with h|h|h
 ·exact absurd q6 (zy i j hi hj h)
 ·subst h;rfl
 ·have h4:=zy j i hj hi h;rw[hF]at q6 h4;exact absurd ((AU.eq _ _).2 ((AU.eq _ _).1 q6).symm) h4
theorem ot {l m:List El}(hp:m.Perm l)(h:¬m.Pairwise fun a b=>F.cmpL a.ls b.ls≠0):GC F l=none:=by
 unfold GC;rw[Abd fun hl=>h ((hp.pairwise_iff fun {a b} h e=>by
  rw[hF]at *;exact h ((AU.eq _ _).2 ((AU.eq _ _).1 e).symm)).2 hl)]
end
end TwW
end
section
namespace TwW
open Go Tw
def Ey (c:UInt8)(s:ByteArray):List ByteArray:=Lib.splitB ⟨#[c]⟩ 0 (Lib.countB s ⟨#[c]⟩) s
def ou:List ByteArray→ByteArray→Bool
 | [],_=>true
 | t::r,s=>if Lib.index s.data.toList t.data.toList<0 then false else ou r (s.extract ((Lib.index s.data.toList t.data.toList).toNat+t.size) s.size)
def isK (l:List ByteArray)(s:ByteArray):Bool:=
 let a:=l.head?.getD ⟨#[]⟩
 let z:=l.getLast?.getD ⟨#[]⟩
 if l.length=1 then decide (s=a) else
  if s.size<a.size+z.size∨s.extract 0 a.size≠a∨s.extract (s.size-z.size) s.size≠z then false else ou l.tail.dropLast (s.extract a.size (s.size-z.size))
def ej (p s:ByteArray):Bool:=(Ey 124 p).any fun x=>isK (Ey 42 x) s
def SR (m:Mt)(ls:List Lb):Bool:=
 let v:=EV ls m.name
 if m.kind=1 then decide (v=m.val) else if m.kind=2 then decide (v≠m.val) else if m.kind=3 then ej m.val v else if m.kind=4 then !ej m.val v else false
def Ns (ms:List Mt)(ls:List Lb):Bool:=ms.all fun m=>SR m ls
def CG (u:UInt8):Bool:=decide (48≤u.toNat∧u.toNat≤57)
end TwW
end
section
namespace TwW
open Go Tw
def Nt (v least:Int):Bool:=decide (least≤v)&&decide (v<2147483648)
section
variable (vU:ByteArray→Bool)(AWN:ByteArray→Bool)
def RX (n:Nd):Bool:=n.names.all vU&&(decide (n.names.length=0)||decide (n.E4≠0))
def Ka (ms:List Mt):Int:=if 8<ms.length then 41 else if ms.all (fun m=>decide (1≤m.kind∧m.kind≤4)&&vU m.name&&decide (m.val.size≤256)) then 0 else 40
end
end TwW
end
