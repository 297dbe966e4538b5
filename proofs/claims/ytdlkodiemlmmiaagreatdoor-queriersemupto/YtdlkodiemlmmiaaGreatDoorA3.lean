/-
  Part 3 of the proof that the law QuerierSemUptoCardSaid of the given program answers true for every input of the given statement; the input reads behind the call as it did. (The texts: packed from 10 texts. Names are shortened by the packing program, for the bound on size.)
-/
import Derived.Test.YtdlkodiemlmmiaaGreatDoorA2
import Derived.Laws.BytesArg
import Derived.Laws.Bits64b
import Derived.Laws.IdiomStrings
set_option linter.all false
section
set_option maxRecDepth 100000
noncomputable section
namespace TwW
open Go Tw Go.Proofs.Tryz
variable [GF]{R:Rr}{Z2:Hp}

namespace BP
variable {p0 p1 p9 Jv RB:Option Addr}{n0 c0 n1 c1 n9 c9 Jw Jx QH RC:Nat}{x2 x3 x10 x12:Int}
def M:Fw:=⟨prog,16,f16,[47],[11,13],false,[],[],[(464,[(0,wL),(1,wL),(2,wI),(3,wI),(9,wL),(10,wI)]),(467,[(0,wL),(1,wL),(2,wI),(3,wI),(9,wL),(10,wI)]),(238800,[(0,wL),(1,wL),(2,wI),(3,wI),(9,wL),(10,wI),(11,.X 98 [.L,.L]),(12,wI)]),(238803,[(0,wL),(1,wL),(2,wI),(3,wI),(9,wL),(10,wI),(11,.X 98 [.L,.L]),(12,wI)])]⟩
def ok:M.Ok:=⟨.cons call47 (AH.nil),mixed,func16,by kernel_rfl⟩
def CA:=M.pt 0
def RJ:=M.pt 1
def Ed:=M.pt 2
def uw:=M.pt 3
def start (h:CA R p0 n0 c0 p1 n1 c1 x2 x3 none 0 0 0 Z2):Spec prog 16 #[.slice p0 n0 c0,.slice p1 n1 c1,.I x2,.I x3] Z2 R:=M.start h ok
def A1 (h:Br (x10<(n0:Int)) (Pq p0 λG U5=>In x10 (n0:Int)/\LS Z2 G (U5+x10.toNat*2) λeR n25 eU=>AG 47 #[.slice p1 n1 c1,.slice eR n25 eU] Z2 R (CB λt26 y=>Bn t26 (RJ R (aD G U5) n0 c0 p1 n1 c1 x2 x3 p9 n9 c9 x10 y) (Al y λrm=>In x10 (n0:Int)/\LS (Hp.set y rm (.cells #[] 144 (0,0))) G (U5+x10.toNat*2) λp33 n33 c33=>AI prog (Builtin.append_ #[95,95] 95 #[(.slice (aD rm 0) 0 0),.slice p33 n33 c33]) (Hp.set y rm (.cells #[] 144 (0,0))) (CS λp34 n34 c34 AE=>∀E2:Nat,Ed R (aD G U5) n0 c0 p1 n1 c1 x2 x3 p9 n9 c9 x10 p34 n34 c34 none 0 0 0 AE)))) (R (.returned (.slice p9 n9 c9)) Z2)):CA R p0 n0 c0 p1 n1 c1 x2 x3 p9 n9 c9 x10 Z2:=M.of h ok rfl
def Pp (h:AL (x10+1)/\CA R p0 n0 c0 p1 n1 c1 x2 x3 p9 n9 c9 (x10+1) Z2):RJ R p0 n0 c0 p1 n1 c1 x2 x3 p9 n9 c9 x10 Z2:=M.of h ok rfl
def LF (h:Pq p0 λG rn=>In x10 (n0:Int)/\LS Z2 G ((rn+x10.toNat*2)+1) λrP n41 jK=>Br (x12<(n41:Int)) (In x10 (n0:Int)/\LS Z2 G ((rn+x10.toNat*2)+1) λjc n50 mH=>Pq jc λb52 o52=>In x12 (n50:Int)/\∃ux ah,Az Z2 b52 (o52+x12.toNat*2) [.I ux,.U ah]/\∀Hr:Nat,Br (x2<=ux) (Br (ux<=x3) (Al Z2 λb67=>AI prog (GO 96 RB QH RC b67) (Hp.set Z2 b67 (.cells #[.I ux,.U ah] 111 (0,0))) (CS λp68 n68 c68 y=>uw R (aD G rn) n0 c0 p1 n1 c1 x2 x3 p9 n9 c9 x10 Jv Jw Jx p68 n68 c68 x12 y)) (uw R (aD G rn) n0 c0 p1 n1 c1 x2 x3 p9 n9 c9 x10 Jv Jw Jx RB QH RC x12 Z2)) (uw R (aD G rn) n0 c0 p1 n1 c1 x2 x3 p9 n9 c9 x10 Jv Jw Jx RB QH RC x12 Z2)) (Br (0<(QH:Int)) (Al Z2 λb76=>AI prog (GO 22 p9 n9 c9 b76) (Hp.set Z2 b76 (.cells #[.slice Jv Jw Jx,.slice RB QH RC] 98 (0,0))) (CS λp77 n77 c77 y=>RJ R (aD G rn) n0 c0 p1 n1 c1 x2 x3 p77 n77 c77 x10 y)) (RJ R (aD G rn) n0 c0 p1 n1 c1 x2 x3 p9 n9 c9 x10 Z2))):Ed R p0 n0 c0 p1 n1 c1 x2 x3 p9 n9 c9 x10 Jv Jw Jx RB QH RC x12 Z2:=M.Uu h ok rfl λ_=>by kernel_rfl
def AEb (h:AL (x12+1)/\Ed R p0 n0 c0 p1 n1 c1 x2 x3 p9 n9 c9 x10 Jv Jw Jx RB QH RC (x12+1) Z2):uw R p0 n0 c0 p1 n1 c1 x2 x3 p9 n9 c9 x10 Jv Jw Jx RB QH RC x12 Z2:=M.Uu h ok rfl λ_=>by kernel_rfl
end BP
namespace Dr
variable {p0 p1:Option Addr}{n0 c0 n1 c1:Nat}{x5:Int}
def M:Fw:=⟨prog,17,f17,[48,49],[],false,[],[],[(464,[(0,wL),(1,wL),(5,wI)])]⟩
def ok:M.Ok:=⟨.cons call48 (.cons call49 (AH.nil)),mixed,func17,by kernel_rfl⟩
def FH:=M.pt 0
def start (h:Br ((n0:Int)≠(n1:Int)) (R (.B false) Z2) (FH R p0 n0 c0 p1 n1 c1 0 Z2)):Spec prog 17 #[.slice p0 n0 c0,.slice p1 n1 c1] Z2 R:=M.start h ok
def EB (h:Br (x5<(n0:Int)) (Pq p0 λG ae=>In x5 (n0:Int)/\LS Z2 G (ae+x5.toNat*2) λR3 n21 QJ=>Pq p1 λaZ gi=>In x5 (n1:Int)/\LS Z2 aZ (gi+x5.toNat*2) λmD n26 mE=>AG 48 #[.slice R3 n21 QJ,.slice mD n26 mE] Z2 R (CB λt27 y=>Bn t27 (R (.B false) y) (In x5 (n0:Int)/\LS y G ((ae+x5.toNat*2)+1) λp34 n34 c34=>In x5 (n1:Int)/\LS y aZ ((gi+x5.toNat*2)+1) λp39 n39 c39=>AG 49 #[.slice p34 n34 c34,.slice p39 n39 c39] y R (CB λt40 AE=>Bn t40 (R (.B false) AE) (AL (x5+1)/\FH R (aD G ae) n0 c0 (aD aZ gi) n1 c1 (x5+1) AE))))) (R (.B true) Z2)):FH R p0 n0 c0 p1 n1 c1 x5 Z2:=M.of h ok rfl
end Dr
namespace Bt
noncomputable def K0:=f33.body.getD .skip
def K1:=cl K0
def K2:=cr K0
def K3:=cl K2
def K4:=cr K2
def K5:=cl K4
def K6:=cr K4
def K7:=cl K6
def K8:=cl K7
def K9:=cr K7
def rH:=cl K9
def K11:=cl rH
def K12:=cr rH
def K13:=cl K12
def K14:=cr K6
def K15:=cl K14
def K16:=cr K14
abbrev gl (R:Rr):Gl:=Gl.fn prog 33 32 R
def CA (R:Rr)(l:Nat)(r0:Loop)(b6:Nat)(FK:Int)(Z2:Hp):Prop:=∀(J:Env),At (Gl.round prog 33 32 l R) [.code K11,.beginRound,.code K12] (MP J [(6,(.pointer (some ⟨b6,0,none⟩))),(22,(.I FK))]) [] Z2
def start {R:Rr}{q0:Option Addr}{Z2:Hp}(h:∃(Dk G:Nat),q0=some ⟨Dk,G,none⟩/\∃aC:Option Addr,∃n12:Nat,∃WR:Nat,Hp.ld Z2 ⟨Dk,G,none⟩=some (.slice aC n12 WR)/\AG 66 #[(.slice aC n12 WR)] Z2 R (λv Z1=>∃IL:Int,∃oM:Int,v=(.tuple #[(.I IL),(.I oM)])/\∃Cd:Int,Hp.ld Z1 ⟨Dk,(G+1),none⟩=some (.I Cd)/\∀b6:Nat,Z1 b6=none->AI prog (Instr.storeAt 2 (.pointer (some ⟨b6,0,none⟩)) (.I Cd)) (Hp.set Z1 b6 (.cells #[(.I 0)] 2 (0,0))) (λ_ Cc=>∀(jJ TO:Nat) (LC:Loop),jJ≠TO->Cc jJ=none->Cc TO=none->(∀(R2:Rr) (Z22:Hp) (AEc:Int),Z22 TO=some (.loop (lp LC .ready none))->CA R2 TO LC b6 AEc Z22->JY prog TO #[(.I AEc)] Z22 R2)->Spec prog 67 #[(.pointer (some ⟨Dk,G,none⟩)),.func (.yield TO) #[] #[]] (Hp.set (Hp.set Cc jJ (.deferred (some []))) TO (.loop (lp LC .ready none))) (λen EP=>∃(v:Value) (s:LoopState) (p:Option Code),en=.returned v/\EP TO=some (.loop (lp LC s p))/\s≠.busy/\((p=none/\∃JH:Int,Hp.ld (Hp.set EP TO (.loop (lp LC .exhausted none))) ⟨Dk,(G+1),none⟩=some (.I JH)/\AL (JH-IL)/\∃ud:Int,Hp.ld (Hp.set EP TO (.loop (lp LC .exhausted none))) ⟨b6,0,none⟩=some (.I ud)/\(Hp.set EP TO (.loop (lp LC .exhausted none))) jJ=some (.deferred (some []))/\R (.T #[(.I (if((JH-IL):Int)<(-1099511627776) then(-1099511627776) else(JH-IL))),(.I ud)]) (Hp.set (Hp.set EP TO (.loop (lp LC .exhausted none))) jJ (.deferred none)))))))):Spec prog 33 #[(.pointer q0)] Z2 R:=by
 refine Spec.Vm (fn:=f33) (c:=K0) func33 (by kernel_rfl) (Ajo (by kernel_rfl)) (λe he=>?_);refine At.ofL (l:=[(0,(.pointer q0))]) ⟨he 0,trivial⟩ (λJ=>?_);show At (gl R) _ _ _ _
 refine At.s K1 K2 ?_;refine At.rg 0 [0,1] ?_;refine Seq.us [(2,.I 0),(3,.I 0)] (Seq.done ?_);refine At.s K3 K4 ?_;refine At.rg 1 [0,1,2,3,4,5,6,7,8,9] ?_;refine Seq.u 9 (.pointer q0) ?_;obtain⟨Dk,G,hq,h⟩:=h;subst hq;refine Seq.z 10 (.nilCheck (.tmp 9)) 0 (.pointer (some ⟨Dk,G,none⟩)) (Y.nilCheck rfl) ?_;refine Seq.z 11 (.fieldAddr 72 (.tmp 10) 0) 0 (.pointer (some ⟨Dk,G,none⟩)) (Y.fieldAddr (fd:=(JV prog 72 0)) underlying72 (by kernel_rfl) sizeOf32 rfl rfl) ?_;obtain⟨aC,n12,WR,hl,h⟩:=h;refine Seq.z 12 (.load 32 (.tmp 11)) 32 (.slice aC n12 WR) (Y.ld isAgg32 rfl hl) ?_;refine Seq.o ?_;refine AV.cl (some 13) call66 (h.cont λv Z1 h2=>?_);replace h:=h2;clear h2;obtain⟨IL,oM,rfl,h⟩:=h;refine Seq.us [(8,.tuple #[(.I IL),(.I oM)]),(14,.I IL),(15,.I oM),(4,.I IL),(5,.I oM)] (Seq.done ?_);refine At.s K5 K6 ?_;refine At.rg 2 [0,1,2,3,4,5] ?_;refine Seq.u 16 (.pointer (some ⟨Dk,G,none⟩)) ?_;refine Seq.z 17 (.nilCheck (.tmp 16)) 0 (.pointer (some ⟨Dk,G,none⟩)) (Y.nilCheck rfl) ?_;refine Seq.z 18 (.fieldAddr 72 (.tmp 17) 1) 0 (.pointer (some ⟨Dk,(G+1),none⟩)) (Y.fieldAddr (fd:=(JV prog 72 1)) underlying72 (by kernel_rfl) sizeOf2 rfl rfl) ?_;obtain⟨Cd,hl,h⟩:=h;refine Seq.z 19 (.load 2 (.tmp 18)) 2 (.I Cd) (Y.ld isAgg2 rfl hl) ?_;refine Seq.o ?_;refine AV.dn (T:=2) (d:=(some 6)) (ty:=0)  (gd:=none) (cs:=#[(.I 0)]) (by kernel_rfl) rfl rfl zeroValue2 rfl (λb6 hn=>?_)
 replace h:=h b6 hn
 refine Seq.o ?_;refine AV.store (T:=2) (ty:=0) (x:=(.tmp 6)) (y:=(.tmp 19)) (p:=(.pointer (some ⟨b6,0,none⟩))) (v:=(.I Cd)) (gd:=none) (by kernel_rfl) rfl rfl rfl (h.mono (λ_ Cc h2=>?_));replace h:=h2;clear h2;refine Seq.done ?_;refine At.s K7 K14 (At.s K8 K9 ?_);refine At.rg 3 [0,1] ?_;refine Seq.u 20 (.pointer (some ⟨Dk,G,none⟩)) ?_;refine Seq.z 21 (.makeFunc (.func 67) #[(.tmp 20)] #[]) 142 (.func (.func 67) #[(.pointer (some ⟨Dk,G,none⟩))] #[]) (Y.makeFunc rfl rfl) (Seq.done ?_);refine At.b 0 rH ?_;refine At.xr (gop:=(.tmp 21)) (ps:=#[22]) (assign:=K11) (body:=K12) (gf:=67) (fst:=#[(.pointer (some ⟨Dk,G,none⟩))]) (lb:=#[]) (by kernel_rfl) rfl rfl rfl call67 (λjJ TO LC hDl hD hl uc cD hra hrb hrs hre=>?_);refine(h jJ TO LC hDl hD hl (λR2 Z22 AEc AJf hp=>JY.Vm (n:=32) AJf cD hrs (by decide) hre (fn:=f33) (by rw[uc];exact func33) ?_)).mono (λen EP h=>?_)
 .rw[uc,hra,hrb];exact At.v [(6,(.pointer (some ⟨b6,0,none⟩))),(22,(.I AEc))] (hp _)
 obtain⟨v,s,p,he,xu,hs,h⟩:=h;refine⟨v,s,p,he,xu,hs,?_⟩;obtain⟨rfl,h⟩:=h;show At (Gl.behind prog 33 32 jJ R) [.inBlock 0,.code K14] _ _ _
 refine At.inBlock ?_;refine At.s K15 K16 ?_;refine At.draw (id:=6) (ops:=cO K15) (n:=10) (q:=none) (plan:=[(0,true),(1,true),(2,true),(3,true),(4,true),(5,true),(6,true),(7,true),(8,true),(9,true)]) (tl:=[]) mixed (by kernel_rfl) (by kernel_rfl) ?_;refine Head.u 24 (.pointer (some ⟨Dk,G,none⟩)) ?_;refine Head.z 25 (.nilCheck (.tmp 24)) 0 (.pointer (some ⟨Dk,G,none⟩)) (Y.nilCheck rfl) ?_;refine Head.z 26 (.fieldAddr 72 (.tmp 25) 1) 0 (.pointer (some ⟨Dk,(G+1),none⟩)) (Y.fieldAddr (fd:=(JV prog 72 1)) underlying72 (by kernel_rfl) sizeOf2 rfl rfl) ?_;obtain⟨JH,hl,h⟩:=h;refine Head.z 27 (.load 2 (.tmp 26)) 2 (.I JH) (Y.ld isAgg2 rfl hl) ?_;refine Head.u 28 (.I IL) ?_;obtain⟨hi,h⟩:=h;refine Head.z 29 (.binOp .sub 2 (.tmp 27) (.tmp 28) 2) 2 (.I (JH-IL)) (Y.tw hi rfl rfl) ?_;refine Head.z 30 (.call { callee:=.builtin .max,args:=#[(.tmp 29),(.const (.I (-1099511627776)))],argTypes:=#[2,2] }) 2 (.I (if((JH-IL):Int)<(-1099511627776) then(-1099511627776) else(JH-IL))) (Y.max2 rfl rfl) ?_;obtain⟨ud,hl,h⟩:=h;refine Head.z 31 (.load 2 (.tmp 6)) 2 (.I ud) (Y.ld isAgg2 rfl hl) ?_;refine Head.u 2 (.I (if((JH-IL):Int)<(-1099511627776) then(-1099511627776) else(JH-IL))) ?_;refine Head.u 3 (.I ud) ?_;refine Head.done ?_;refine Seq.done ?_;obtain⟨hmk,h⟩:=h;exact At.dq (rs:=[.tmp 2,.tmp 3]) (vs:=[(.I (if((JH-IL):Int)<(-1099511627776) then(-1099511627776) else(JH-IL))),(.I ud)]) (by kernel_rfl) func33 (by kernel_rfl) ⟨_,rfl,⟨_,rfl,rfl⟩⟩ h rfl (xp hmk)
def A1 {R:Rr}{l b6:Nat}{r0:Loop}{FK:Int}{Z2:Hp}(h:Z2 l=some (.loop (lp r0 .ready none))/\AI prog (Instr.storeAt 2 (.pointer (some ⟨b6,0,none⟩)) (.I FK)) (Hp.set Z2 l (.loop (lp r0 .busy none))) (λ_ G=>G l=some (.loop (lp r0 .busy none))/\R (.B true) (Hp.set G l (.loop (lp r0 .ready none))))):CA R l r0 b6 FK Z2:=by
 intro J;show At (Gl.round prog 33 32 l R) _ _ _ _
 refine At.rg 4 [0] ?_;refine Seq.u 7 (.I FK) (Seq.done ?_);obtain⟨qc,h⟩:=h;refine At.beginRound rfl qc ?_;refine At.b 1 K13 ?_;refine At.rg 5 [0,1] ?_;refine Seq.u 23 (.I FK) ?_;refine Seq.o ?_;refine AV.store (T:=2) (ty:=0) (x:=(.tmp 6)) (y:=(.tmp 23)) (p:=(.pointer (some ⟨b6,0,none⟩))) (v:=(.I FK)) (gd:=none) (by kernel_rfl) rfl rfl rfl (h.mono (λ_ G h2=>?_));replace h:=h2;clear h2;refine Seq.done ?_;refine At.inBlock ?_;exact At.Rk rfl h.1 h.2
end Bt
namespace UN
variable {p0:Option Addr}{n0 c0:Nat}
def M:Fw:=⟨prog,35,f35,[],[],false,[],[],[]⟩
def ok:M.Ok:=⟨AH.nil,mixed,func35,by kernel_rfl⟩
def start (h:Al Z2 λb1=>R (.returned (.func (.func 68) #[] #[(.pointer (aD b1 0))])) (Hp.set Z2 b1 (.cells #[.slice p0 n0 c0] 92 (0,0)))):Spec prog 35 #[.slice p0 n0 c0] Z2 R:=M.start h ok
end UN
namespace C6
variable {De Dl rE xG cG eV x10 x11:Int}{rV p2c ym p9:Option Addr}{gj rW n2c c2c xI yn n9 c9:Nat}
def M:Fw:=⟨prog,42,f42,[],[1,2,3,5],false,[],[],[(488,[(2,.X 43 [.I .u64,.I .i64,.L]),(3,.X 43 [.I .u64,.I .i64,.L]),(9,wL),(10,wI),(11,wI)])]⟩
def ok:M.Ok:=⟨AH.nil,mixed,func42,by kernel_rfl⟩
def Dq:=M.pt 0
def start (h:∀b1:Nat,∀b2:Nat,∀b3:Nat,Dq R 0 0 none 0 0 De Dl none 0 0 rV gj rW (gj:Int) 0 Z2):Spec prog 42 #[.agg #[.U De,.I Dl,.slice rV gj rW]] Z2 R:=M.start h ok
def Bk (h:Br (x11<x10) (Pq p9 λHr Uw=>In x11 (n9:Int)/\∃HI TP G uf AQO AQP AQQ AQR AQS AQT AQU,Az Z2 Hr (Uw+x11.toNat*9) [.U HI,.I TP,.I G,.I uf,.slice AQO AQP AQQ,.I AQR,.I AQS,.bool AQT,.I AQU]/\∀b5:Nat,Al Z2 λU1=>AI prog (Builtin.append_ #[60,60] 60 #[(.slice (aD U1 0) 0 0),.slice AQO AQP AQQ]) (Hp.set Z2 U1 (.cells #[] 27 (0,0))) (CS λrF n19 rG y=>Al y λNA=>AI prog (GO 41 ym xI yn NA) (Hp.set y NA (.cells #[.U HI,.I TP,.I G,.I uf,.slice rF n19 rG,.I AQR,.I AQS,.bool AQT,.I AQU] 91 (0,0))) (CS λmD n26 mE AE=>AL (x11+1)/\Dq R rE xG p2c n2c c2c cG eV mD n26 mE (aD Hr Uw) n9 c9 x10 (x11+1) AE))) (R (.returned (.agg #[.U cG,.I eV,.slice ym xI yn])) Z2)):Dq R rE xG p2c n2c c2c cG eV ym xI yn p9 n9 c9 x10 x11 Z2:=M.nq h ok rfl λ_ _=>by kernel_rfl
end C6
namespace cS
variable {x0:Int}
def M:Fw:=⟨prog,45,f45,[],[],false,[],[],[]⟩
def ok:M.Ok:=⟨AH.nil,mixed,func45,by kernel_rfl⟩
def start (h:Br (((-1099511627776):Int)<=x0) (R (.returned (.bool (decide (x0<=1099511627776)))) Z2) (R (.B false) Z2)):Spec prog 45 #[.I x0] Z2 R:=M.start h ok
end cS
namespace Hk
variable {p0 p1 Gq Gv:Option Addr}{n0 c0 n1 c1 Gr Gt Gw Gx:Nat}{x2 E9 FI x9:Int}
def M:Fw:=⟨prog,46,f46,[79],[8],false,[],[],[(30,[(8,.X 164 [.I .i64,.I .u64,.L,.L]),(9,wI)])]⟩
def ok:M.Ok:=⟨.cons call79 (AH.nil),mixed,func46,by kernel_rfl⟩
def CA:=M.pt 0
def start (h:Al Z2 λHe=>AG 79 #[(.pointer (aD He 0)),.slice p0 n0 c0] (Hp.set Z2 He (.cells #[.slice p1 n1 c1,.I x2] 168 (0,0))) R (λz y=>∃rq ru G AHJ AHK zL zM zN uy,z=(.tuple #[.agg #[.I rq,.U ru,.slice G AHJ AHK,.slice zL zM zN],.I uy])/\∀b8:Nat,Br (rq=1) (Al y λNA=>CA R rq ru (aD NA 0) 1 1 zL zM zN uy (Hp.set y NA (.cells #[.N,.U ru] 109 (0,0)))) (CA R rq ru G AHJ AHK zL zM zN uy y))):Spec prog 46 #[.slice p0 n0 c0,.slice p1 n1 c1,.I x2] Z2 R:=M.start h ok
def A1 (h:R (.T #[.slice Gq Gr Gt,.I x9]) Z2):CA R E9 FI Gq Gr Gt Gv Gw Gx x9 Z2:=M.Uu h ok rfl λ_=>by kernel_rfl
end Hk
namespace CZ
variable {p0:Option Addr}{n0 c0:Nat}{x3:Int}
def M:Fw:=⟨prog,56,f56,[],[],false,[(4,10,true)],[],[(208,[(0,wL),(3,wI)])]⟩
def ok:M.Ok:=⟨AH.nil,mixed,func56,by kernel_rfl⟩
def FV:=M.pt 0
def start (h:FV R p0 n0 c0 1 Z2):Spec prog 56 #[.slice p0 n0 c0] Z2 R:=M.start h ok
def A9 (h:Br (x3<(n0:Int)) (Pq p0 λG Je=>In x3 (n0:Int)/\LI .u32 Z2 G (Je+x3.toNat*1) λFq=>AL (x3-1)/\In (x3-1) (n0:Int)/\LI .u32 Z2 G (Je+Int.toNat (x3-1)*1) λMA=>Br (Fq<=MA) (R (.B false) Z2) (AL (x3+1)/\FV R (aD G Je) n0 c0 (x3+1) Z2)) (R (.B true) Z2)):FV R p0 n0 c0 x3 Z2:=M.of h ok rfl
end CZ
namespace Ip
variable {v0:Value}{x1:Int}
def M:Fw:=⟨prog,71,f71,[102,103],[],false,[],[],[]⟩
def ok:M.Ok:=⟨.cons call102 (.cons call103 (AH.nil)),mixed,func71,by kernel_rfl⟩
def start (h:MC prog v0 yN #[] Z2 (Ab R (CI .i64 λx7 y=>AG 103 #[v0,.I x1,.I x7] y R (CB λt8 G=>Bn t8 (AG 102 #[v0,.I x1] G R (λz AK=>z=(.tuple #[])/\R (.T #[]) AK)) (R (.T #[]) G))))):Spec prog 71 #[v0,.I x1] Z2 R:=M.DJ h ok [(0,.o (.V v0)),(1,.o (.I .i64 x1))] rfl rfl (by kernel_rfl)
end Ip
namespace ER
variable {p0 p9 yd:Option Addr}{n0 c0 n9 c9 n18 xH:Nat}{x1 x2 Cd Po:Int}
def M:Fw:=⟨prog,77,f77,[19,105],[11],false,[],[],[(488,[(1,wI),(2,wI),(9,wL),(18,wL),(19,wI),(20,wI)]),(1959,[(1,wI),(2,wI),(9,wL),(18,wL),(19,wI),(20,wI)])]⟩
def ok:M.Ok:=⟨.cons call19 (.cons call105 (AH.nil)),mixed,func77,by kernel_rfl⟩
def HG:=M.pt 0
def eo:=M.pt 1
def start (h:AG 19 #[.slice p0 n0 c0] Z2 R (CI .i64 λVX y=>Br (VX≠0) (R (.T #[.N,.I VX]) y) (HG R x1 x2 none 0 0 p0 n0 c0 (n0:Int) 0 y))):Spec prog 77 #[.slice p0 n0 c0,.I x1,.I x2] Z2 R:=M.start h ok
def CC (h:Br (Po<Cd) (Pq yd λeW G=>In Po (n18:Int)/\∃uz u4 u5 AQV AQW AQX,Az Z2 eW (G+Po.toNat*2) [.slice uz u4 u5,.slice AQV AQW AQX]/\∀E2:Nat,AG 105 #[.slice AQV AQW AQX,.I x1,.I x2] Z2 R (CS λp28 n28 c28 y=>Br (0<(n28:Int)) (Al y λUy=>AI prog (Builtin.append_ #[95,95] 95 #[(.slice (aD Uy 0) 0 0),.slice uz u4 u5]) (Hp.set y Uy (.cells #[] 144 (0,0))) (CS λp36 n36 c36 AE=>Al AE λaH=>AI prog (GO 22 p9 n9 c9 aH) (Hp.set AE aH (.cells #[.slice p36 n36 c36,.slice p28 n28 c28] 98 (0,0))) (CS λp40 n40 c40 AK=>eo R x1 x2 p40 n40 c40 (aD eW G) n18 xH Cd Po AK))) (eo R x1 x2 p9 n9 c9 (aD eW G) n18 xH Cd Po y))) (R (.T #[.slice p9 n9 c9,.I 0]) Z2)):HG R x1 x2 p9 n9 c9 yd n18 xH Cd Po Z2:=M.of h ok rfl
def R0 (h:AL (Po+1)/\HG R x1 x2 p9 n9 c9 yd n18 xH Cd (Po+1) Z2):eo R x1 x2 p9 n9 c9 yd n18 xH Cd Po Z2:=M.of h ok rfl
end ER
namespace Wt
variable {De Dl U6 QI JE MB:Int}{U7:ByteArray}{cQ WV:Option Addr}{ad cR VZ WW:Nat}{RE:Bool}
def M:Fw:=⟨prog,85,f85,[62,112,113,114,115,116],[1],false,[],[],[]⟩
def ok:M.Ok:=⟨.cons call62 (.cons call112 (.cons call113 (.cons call114 (.cons call115 (.cons call116 (AH.nil)))))),mixed,func85,by kernel_rfl⟩
def start (h:∀b1:Nat,AG 113 #[.agg #[.I De,.I Dl,.string U7,.slice cQ ad cR,.I U6,.I QI,.I JE,.slice WV VZ WW,.bool RE,.I MB]] Z2 R (λz y=>∃JM JN Ji LL LN LO LP LR LU LV LX LY NG LZ,z=(.agg #[.I JM,.I JN,.string Ji,.slice LL LN LO,.I LP,.I LR,.I LU,.slice LV LX LY,.bool NG,.I LZ])/\AG 112 #[.agg #[.I De,.I Dl,.string U7,.slice cQ ad cR,.I U6,.I QI,.I JE,.slice WV VZ WW,.bool RE,.I MB],.agg #[.I JM,.I JN,.string Ji,.slice LL LN LO,.I LP,.I LR,.I LU,.slice LV LX LY,.bool NG,.I LZ]] y R (CB λt6 AE=>Bn t6 (R (.B false) AE) (AG 114 #[.agg #[.I De,.I Dl,.string U7,.slice cQ ad cR,.I U6,.I QI,.I JE,.slice WV VZ WW,.bool RE,.I MB]] AE R (CB λt10 G=>Bn t10 (R (.B false) G) (Br (0<(ad:Int)) (Br (De≠2) (Br (De≠3) (R (.B false) G) (Br (De=1) (AG 62 #[.string U7] G R (CB λt35 Am=>R (.B t35) Am)) (Br (De=2) (AG 115 #[.I QI,.I 0] G R (CB λt40 Am=>R (.B t40) Am)) (Br (De=3) (AG 115 #[.I U6,.I 1] G R (CB λt45 Am=>Bo t45 (AG 115 #[.I QI,.I 0] Am R (CB λt49 CL=>R (.B t49) CL)) (R (.B false) Am))) (Br (De=4) (Br (MB=1) (Br (1<=Dl) (R (.returned (.bool (decide (Dl<=12)))) G) (R (.B false) G)) (R (.B false) G)) (Br (De=5) (Br (MB=1) (Br (1<=Dl) (Br (Dl<=5) (Br (JE=0) (R (.B true) G) (Br (JE=1) (R (.B true) G) (R (.returned (.bool (decide (JE=2)))) G))) (R (.B false) G)) (R (.B false) G)) (R (.B false) G)) (Br (De=6) (Br (MB=2) (Br (1<=Dl) (Br (Dl<=13) (Br (JE=0) (Bn RE (R (.B true) G) (AG 116 #[.I Dl] G R (CB λt133 Am=>R (.B t133) Am))) (Br (JE=3) (Bn RE (R (.B true) G) (AG 116 #[.I Dl] G R (CB λt133 Am=>R (.B t133) Am))) (Br (JE=4) (Bn RE (R (.B true) G) (AG 116 #[.I Dl] G R (CB λt133 Am=>R (.B t133) Am))) (R (.B false) G)))) (R (.B false) G)) (R (.B false) G)) (R (.B false) G)) (Br (De=7) (R (.returned (.bool (decide (MB=1)))) G) (R (.B false) G))))))))) (Br (De=1) (AG 62 #[.string U7] G R (CB λt35 Am=>R (.B t35) Am)) (Br (De=2) (AG 115 #[.I QI,.I 0] G R (CB λt40 Am=>R (.B t40) Am)) (Br (De=3) (AG 115 #[.I U6,.I 1] G R (CB λt45 Am=>Bo t45 (AG 115 #[.I QI,.I 0] Am R (CB λt49 CL=>R (.B t49) CL)) (R (.B false) Am))) (Br (De=4) (Br (MB=1) (Br (1<=Dl) (R (.returned (.bool (decide (Dl<=12)))) G) (R (.B false) G)) (R (.B false) G)) (Br (De=5) (Br (MB=1) (Br (1<=Dl) (Br (Dl<=5) (Br (JE=0) (R (.B true) G) (Br (JE=1) (R (.B true) G) (R (.returned (.bool (decide (JE=2)))) G))) (R (.B false) G)) (R (.B false) G)) (R (.B false) G)) (Br (De=6) (Br (MB=2) (Br (1<=Dl) (Br (Dl<=13) (Br (JE=0) (Bn RE (R (.B true) G) (AG 116 #[.I Dl] G R (CB λt133 Am=>R (.B t133) Am))) (Br (JE=3) (Bn RE (R (.B true) G) (AG 116 #[.I Dl] G R (CB λt133 Am=>R (.B t133) Am))) (Br (JE=4) (Bn RE (R (.B true) G) (AG 116 #[.I Dl] G R (CB λt133 Am=>R (.B t133) Am))) (R (.B false) G)))) (R (.B false) G)) (R (.B false) G)) (R (.B false) G)) (Br (De=7) (R (.returned (.bool (decide (MB=1)))) G) (R (.B false) G))))))))) (Br (De=1) (AG 62 #[.string U7] G R (CB λt35 Am=>R (.B t35) Am)) (Br (De=2) (AG 115 #[.I QI,.I 0] G R (CB λt40 Am=>R (.B t40) Am)) (Br (De=3) (AG 115 #[.I U6,.I 1] G R (CB λt45 Am=>Bo t45 (AG 115 #[.I QI,.I 0] Am R (CB λt49 CL=>R (.B t49) CL)) (R (.B false) Am))) (Br (De=4) (Br (MB=1) (Br (1<=Dl) (R (.returned (.bool (decide (Dl<=12)))) G) (R (.B false) G)) (R (.B false) G)) (Br (De=5) (Br (MB=1) (Br (1<=Dl) (Br (Dl<=5) (Br (JE=0) (R (.B true) G) (Br (JE=1) (R (.B true) G) (R (.returned (.bool (decide (JE=2)))) G))) (R (.B false) G)) (R (.B false) G)) (R (.B false) G)) (Br (De=6) (Br (MB=2) (Br (1<=Dl) (Br (Dl<=13) (Br (JE=0) (Bn RE (R (.B true) G) (AG 116 #[.I Dl] G R (CB λt133 Am=>R (.B t133) Am))) (Br (JE=3) (Bn RE (R (.B true) G) (AG 116 #[.I Dl] G R (CB λt133 Am=>R (.B t133) Am))) (Br (JE=4) (Bn RE (R (.B true) G) (AG 116 #[.I Dl] G R (CB λt133 Am=>R (.B t133) Am))) (R (.B false) G)))) (R (.B false) G)) (R (.B false) G)) (R (.B false) G)) (Br (De=7) (R (.returned (.bool (decide (MB=1)))) G) (R (.B false) G)))))))))))))):Spec prog 85 #[.agg #[.I De,.I Dl,.string U7,.slice cQ ad cR,.I U6,.I QI,.I JE,.slice WV VZ WW,.bool RE,.I MB]] Z2 R:=M.start h ok
end Wt
namespace Gb
variable {q0 E5 FD p2:Option Addr}{C4 CU Ez EG Dd Dj:Int}{E1:ByteArray}{E6 E7 E8 FE n2 c2:Nat}{EO:Bool}
def M:Fw:=⟨prog,90,f90,[116,120],[4],false,[(1,10,true)],[],[]⟩
def ok:M.Ok:=⟨.cons call116 (.cons call120 (AH.nil)),mixed,func90,by kernel_rfl⟩
def start (h:∀b4:Nat,Pq p2 λHr Uw=>In 0 (n2:Int)/\LI .i64 Z2 Hr Uw λx15=>In 1 (n2:Int)/\LI .i64 Z2 Hr (Uw+1) λCd=>Br (x15=2) (Br (x15=1) (Br (x15=3) (R (.T #[.I 0,.I 192]) Z2) (Br (Cd=3) (R (.T #[.I 0,.I 192]) Z2) (AG 120 #[.I CU] Z2 R (CB λt41 y=>Bo t41 (Bm (Cd=2) (R (.T #[.I 0,.I 192]) y) (Br (Cd=1) (AG 116 #[.I CU] y R (CB λt57 G=>Bo t57 (Bn EO (R (.T #[.I 0,.I 192]) G) (R (.T #[(.I (if x15<Cd then Cd else x15)),.I 0]) G)) (R (.T #[(.I (if x15<Cd then Cd else x15)),.I 0]) G))) (R (.T #[(.I (if x15<Cd then Cd else x15)),.I 0]) y))) (Br (Dd≠0) (Bm (Cd=2) (R (.T #[.I 0,.I 192]) y) (Br (Cd=1) (AG 116 #[.I CU] y R (CB λt57 G=>Bo t57 (Bn EO (R (.T #[.I 0,.I 192]) G) (R (.T #[(.I (if x15<Cd then Cd else x15)),.I 0]) G)) (R (.T #[(.I (if x15<Cd then Cd else x15)),.I 0]) G))) (R (.T #[(.I (if x15<Cd then Cd else x15)),.I 0]) y))) (Br (Cd=1) (AG 116 #[.I CU] y R (CB λt57 G=>Bo t57 (Bn EO (R (.T #[.I 0,.I 192]) G) (R (.T #[(.I (if x15<Cd then Cd else x15)),.I 0]) G)) (R (.T #[(.I (if x15<Cd then Cd else x15)),.I 0]) G))) (R (.T #[(.I (if x15<Cd then Cd else x15)),.I 0]) y))))))) (Br (x15=3) (R (.T #[.I 0,.I 192]) Z2) (Br (Cd=3) (R (.T #[.I 0,.I 192]) Z2) (AG 120 #[.I CU] Z2 R (CB λt41 y=>Bo t41 (Bm (Cd=2) (R (.T #[.I 0,.I 192]) y) (R (.T #[(.I (if x15<Cd then Cd else x15)),.I 0]) y)) (Br (Dd≠0) (Bm (Cd=2) (R (.T #[.I 0,.I 192]) y) (R (.T #[(.I (if x15<Cd then Cd else x15)),.I 0]) y)) (R (.T #[(.I (if x15<Cd then Cd else x15)),.I 0]) y))))))) (Br (x15=1) (Br (x15=3) (R (.T #[.I 0,.I 192]) Z2) (Br (Cd=3) (R (.T #[.I 0,.I 192]) Z2) (AG 120 #[.I CU] Z2 R (CB λt41 y=>Bo t41 (R (.T #[.I 0,.I 192]) y) (Br (Dd≠0) (R (.T #[.I 0,.I 192]) y) (Br (Cd=1) (AG 116 #[.I CU] y R (CB λt57 G=>Bo t57 (Bn EO (R (.T #[.I 0,.I 192]) G) (R (.T #[(.I (if x15<Cd then Cd else x15)),.I 0]) G)) (R (.T #[(.I (if x15<Cd then Cd else x15)),.I 0]) G))) (R (.T #[(.I (if x15<Cd then Cd else x15)),.I 0]) y))))))) (Br (x15=3) (R (.T #[.I 0,.I 192]) Z2) (Br (Cd=3) (R (.T #[.I 0,.I 192]) Z2) (AG 120 #[.I CU] Z2 R (CB λt41 y=>Bo t41 (R (.T #[.I 0,.I 192]) y) (Br (Dd≠0) (R (.T #[.I 0,.I 192]) y) (R (.T #[(.I (if x15<Cd then Cd else x15)),.I 0]) y)))))))):Spec prog 90 #[.pointer q0,.agg #[.I C4,.I CU,.string E1,.slice E5 E6 E7,.I Ez,.I EG,.I Dd,.slice FD E8 FE,.bool EO,.I Dj],.slice p2 n2 c2] Z2 R:=M.start h ok
end Gb
namespace R7
variable {s0:ByteArray}
def M:Fw:=⟨prog,94,f94,[],[],false,[],[],[]⟩
def ok:M.Ok:=⟨AH.nil,mixed,func94,by kernel_rfl⟩
def start (h:Br ((1:Int)<(s0.size:Int)) (∃G:UInt8,(0:Int)<=0/\(ByteArray.data s0)[Int.toNat 0]?=some G/\R (.returned (.bool (decide (((G.toNat:Int):Int)=48)))) Z2) (R (.B false) Z2)):Spec prog 94 #[.string s0] Z2 R:=M.start h ok
end R7
namespace Ei
variable {p0 p7:Option Addr}{n0 c0 n7 c7:Nat}{s1:ByteArray}{x8 x9:Int}
def M:Fw:=⟨prog,95,f95,[],[],false,[],[],[(104,[(1,wT),(7,wL),(8,wI),(9,wI)])]⟩
def ok:M.Ok:=⟨AH.nil,mixed,func95,by kernel_rfl⟩
def GG:=M.pt 0
def start (h:GG R s1 p0 n0 c0 (n0:Int) 0 Z2):Spec prog 95 #[.slice p0 n0 c0,.string s1] Z2 R:=M.start h ok
def BG (h:Br (x9<x8) (Pq p7 λG Je=>In x9 (n7:Int)/\LT Z2 G (Je+x9.toNat*1) λs13=>Bo (ByteArray.toList s13==ByteArray.toList s1) (Bn ((ByteArray.toList s1==ByteArray.toList (ByteArray.mk #[]))) (R (.returned (.I x9)) Z2) (AL (x9+1)/\GG R s1 (aD G Je) n7 c7 x8 (x9+1) Z2)) (AL (x9+1)/\GG R s1 (aD G Je) n7 c7 x8 (x9+1) Z2)) (R (.returned (.I 0)) Z2)):GG R s1 p7 n7 c7 x8 x9 Z2:=M.of h ok rfl
end Ei
namespace ES
variable {p0 p7 Rf:Option Addr}{n0 c0 n7 c7 n10 L6:Nat}{x1 x2 x11 x12:Int}
def M:Fw:=⟨prog,105,f105,[],[9],false,[],[],[(232,[(1,wI),(2,wI),(7,wL),(10,wL),(11,wI),(12,wI)]),(935,[(1,wI),(2,wI),(7,wL),(10,wL),(11,wI),(12,wI)])]⟩
def ok:M.Ok:=⟨AH.nil,mixed,func105,by kernel_rfl⟩
def A0:=M.pt 0
def Ii:=M.pt 1
def start (h:A0 R x1 x2 none 0 0 p0 n0 c0 (n0:Int) 0 Z2):Spec prog 105 #[.slice p0 n0 c0,.I x1,.I x2] Z2 R:=M.start h ok
def AX (h:Br (x12<x11) (Pq Rf λHe G=>In x12 (n10:Int)/\∃uq oK,Az Z2 He (G+x12.toNat*2) [.I uq,.U oK]/\∀b9:Nat,Br (x1<=uq) (Br (uq<=x2) (Al Z2 λrm=>AI prog (GO 96 p7 n7 c7 rm) (Hp.set Z2 rm (.cells #[.I uq,.U oK] 111 (0,0))) (CS λp29 n29 c29 y=>Ii R x1 x2 p29 n29 c29 (aD He G) n10 L6 x11 x12 y)) (Ii R x1 x2 p7 n7 c7 (aD He G) n10 L6 x11 x12 Z2)) (Ii R x1 x2 p7 n7 c7 (aD He G) n10 L6 x11 x12 Z2)) (R (.returned (.slice p7 n7 c7)) Z2)):A0 R x1 x2 p7 n7 c7 Rf n10 L6 x11 x12 Z2:=M.of h ok rfl
def Eg (h:AL (x12+1)/\A0 R x1 x2 p7 n7 c7 Rf n10 L6 x11 (x12+1) Z2):Ii R x1 x2 p7 n7 c7 Rf n10 L6 x11 x12 Z2:=M.of h ok rfl
end ES
namespace Ej
variable {De Dl U6 QI JE MB:Int}{U7:ByteArray}{cQ WV p1:Option Addr}{ad cR VZ WW n1 c1 b2:Nat}{RE:Bool}
def M:Fw:=⟨prog,119,f119,[],[3],false,[],[],[]⟩
def ok:M.Ok:=⟨AH.nil,mixed,func119,by kernel_rfl⟩
def start (h:∀b3:Nat,LI .i64 Z2 b2 0 λx7=>R (.T #[.I x7,.I 0]) Z2):Spec prog 119 #[.agg #[.I De,.I Dl,.string U7,.slice cQ ad cR,.I U6,.I QI,.I JE,.slice WV VZ WW,.bool RE,.I MB],.slice p1 n1 c1,(.pointer (aD b2 0))] Z2 R:=M.start h ok
end Ej
namespace Ek
variable {q0:Option Addr}
def M:Fw:=⟨prog,123,f123,[63],[],false,[],[],[]⟩
def ok:M.Ok:=⟨.cons call63 (AH.nil),mixed,func123,by kernel_rfl⟩
def start (h:AG 63 #[.pointer q0,(.func (.func 139) #[.pointer q0] #[]),.I 1,.I 2] Z2 R (λz y=>z=(.tuple #[])/\R (.T #[]) y)):Spec prog 123 #[.pointer q0] Z2 R:=M.start h ok
end Ek
namespace Gc
variable {p0 p3 Rf:Option Addr}{n0 c0 n3 c3 n10 L6:Nat}{x11 x12:Int}
def M:Fw:=⟨prog,126,f126,[140,141],[5],false,[],[],[(232,[(3,wL),(10,wL),(11,wI),(12,wI)])]⟩
def ok:M.Ok:=⟨.cons call140 (.cons call141 (AH.nil)),mixed,func126,by kernel_rfl⟩
def A0:=M.pt 0
def start (h:Df (IntKind.u64.wrap (n0:Int)) λx8=>AG 140 #[.N,.U x8] Z2 R (CS λp9 n9 c9 y=>A0 R p9 n9 c9 p0 n0 c0 (n0:Int) 0 y)):Spec prog 126 #[.slice p0 n0 c0] Z2 R:=M.start h ok
def AX (h:Br (x12<x11) (Pq Rf λHe Jb=>In x12 (n10:Int)/\∃G AQa,Az Z2 He (Jb+x12.toNat*2) [.string G,.string AQa]/\∀b5:Nat,AG 141 #[.slice p3 n3 c3,.string G] Z2 R (CS λrF n19 rG y=>AG 141 #[.slice rF n19 rG,.string AQa] y R (CS λui n22 oD AE=>AL (x12+1)/\A0 R ui n22 oD (aD He Jb) n10 L6 x11 (x12+1) AE))) (R (.returned (.slice p3 n3 c3)) Z2)):A0 R p3 n3 c3 Rf n10 L6 x11 x12 Z2:=M.of h ok rfl
end Gc
namespace Cq
variable {q0 E5 FD p2:Option Addr}{C4 CU Ez EG Dd Dj:Int}{E1:ByteArray}{E6 E7 E8 FE n2 c2:Nat}{EO:Bool}
def M:Fw:=⟨prog,129,f129,[152],[4,6],false,[],[],[]⟩
def ok:M.Ok:=⟨.cons call152 (AH.nil),mixed,func129,by kernel_rfl⟩
def start (h:∀b4:Nat,∀b6:Nat,AG 152 #[.string E1] Z2 R (λz y=>∃IL G,z=(.tuple #[.U IL,.bool G])/\R (.T #[.agg #[.I 1,.U IL,.N,.N],.I 0]) y)):Spec prog 129 #[.pointer q0,.agg #[.I C4,.I CU,.string E1,.slice E5 E6 E7,.I Ez,.I EG,.I Dd,.slice FD E8 FE,.bool EO,.I Dj],.slice p2 n2 c2] Z2 R:=M.start h ok
end Cq
end TwW
end
end
section
set_option maxRecDepth 100000
noncomputable section
namespace TwW
open Go Tw Go.Proofs.Tryz
variable [GF]{R:Rr}{Z2:Hp}

namespace ET
variable {q0 E5 FD p2:Option Addr}{C4 CU Ez EG Dd Dj:Int}{E1:ByteArray}{E6 E7 E8 FE n2 c2:Nat}{EO:Bool}
def M:Fw:=⟨prog,134,f134,[120,168,169,172,173],[6],false,[(1,9,false)],[],[]⟩
def ok:M.Ok:=⟨.cons call120 (.cons call168 (.cons call169 (.cons call172 (.cons call173 (AH.nil))))),mixed,func134,by kernel_rfl⟩
def start (h:Al Z2 λb4=>∀b6:Nat,Pq p2 λHr Uw=>In 0 (n2:Int)/\∃HI TP AJ4 AJ5 AJ6 AJ7 AJ8 AJ9,Az (Hp.set Z2 b4 (.cells #[.I C4,.I CU,.string E1,.slice E5 E6 E7,.I Ez,.I EG,.I Dd,.slice FD E8 FE,.bool EO,.I Dj] 127 (0,0))) Hr Uw [.I HI,.U TP,.slice AJ4 AJ5 AJ6,.slice AJ7 AJ8 AJ9]/\In 1 (n2:Int)/\∃TV jd AKA AKB AKC u6 u7 vA,Az (Hp.set Z2 b4 (.cells #[.I C4,.I CU,.string E1,.slice E5 E6 E7,.I Ez,.I EG,.I Dd,.slice FD E8 FE,.bool EO,.I Dj] 127 (0,0))) Hr (Uw+4) [.I TV,.U jd,.slice AKA AKB AKC,.slice u6 u7 vA]/\(Al (Hp.set Z2 b4 (.cells #[.I C4,.I CU,.string E1,.slice E5 E6 E7,.I Ez,.I EG,.I Dd,.slice FD E8 FE,.bool EO,.I Dj] 127 (0,0))) λb8=>Al (Hp.set (Hp.set Z2 b4 (.cells #[.I C4,.I CU,.string E1,.slice E5 E6 E7,.I Ez,.I EG,.I Dd,.slice FD E8 FE,.bool EO,.I Dj] 127 (0,0))) b8 (.cells #[.I 0,.U 0,.N,.N] 164 (0,0))) λb9=>AI prog (Instr.storeAt 164 (.pointer (aD b8 0)) (.agg #[.I HI,.U TP,.slice AJ4 AJ5 AJ6,.slice AJ7 AJ8 AJ9])) (Hp.set (Hp.set (Hp.set Z2 b4 (.cells #[.I C4,.I CU,.string E1,.slice E5 E6 E7,.I Ez,.I EG,.I Dd,.slice FD E8 FE,.bool EO,.I Dj] 127 (0,0))) b8 (.cells #[.I 0,.U 0,.N,.N] 164 (0,0))) b9 (.cells #[.I 0,.U 0,.N,.N] 164 (0,0))) (λ_ y=>Kp [Hr] (Hp.set (Hp.set (Hp.set Z2 b4 (.cells #[.I C4,.I CU,.string E1,.slice E5 E6 E7,.I Ez,.I EG,.I Dd,.slice FD E8 FE,.bool EO,.I Dj] 127 (0,0))) b8 (.cells #[.I 0,.U 0,.N,.N] 164 (0,0))) b9 (.cells #[.I 0,.U 0,.N,.N] 164 (0,0))) y/\AI prog (Instr.storeAt 164 (.pointer (aD b9 0)) (.agg #[.I TV,.U jd,.slice AKA AKB AKC,.slice u6 u7 vA])) y (λ_ AE=>LI .i64 AE b8 0 λPo=>Br (Po=1) (LI .i64 AE b9 0 λPj=>Br (Pj=1) (∃je Wr zO zP zQ zR zS zT zU zV zW zX zY zZ,Az AE b4 0 [.I je,.I Wr,.string zO,.slice zP zQ zR,.I zS,.I zT,.I zU,.slice zV zW zX,.bool zY,.I zZ]/\LI .u64 AE b8 1 λxL=>LI .u64 AE b9 1 λyq=>AG 168 #[.agg #[.I je,.I Wr,.string zO,.slice zP zQ zR,.I zS,.I zT,.I zU,.slice zV zW zX,.bool zY,.I zZ],.U xL,.U yq] AE R (λz G=>∃WN yr,z=(.tuple #[.U WN,.bool yr])/\R (.T #[.agg #[.I 1,.U WN,.N,.N],.I 0]) G)) (LI .i64 AE b8 0 λjC=>Br (jC=1) (∃QN LK NF Wu Wv Ww Wx Wy Wz W0 W1 W2 W3 W4,Az AE b4 0 [.I QN,.I LK,.string NF,.slice Wu Wv Ww,.I Wx,.I Wy,.I Wz,.slice W0 W1 W2,.bool W3,.I W4]/\LS AE b9 2 λp45 n45 c45=>AG 169 #[.pointer q0,.agg #[.I QN,.I LK,.string NF,.slice Wu Wv Ww,.I Wx,.I Wy,.I Wz,.slice W0 W1 W2,.bool W3,.I W4],.slice p45 n45 c45,(.func (.func 170) #[] #[(.pointer (aD b4 0)),(.pointer (aD b8 0))])] AE R (λz G=>∃NH NI NJ NK NL NM NN NO W5,z=(.tuple #[.agg #[.I NH,.U NI,.slice NJ NK NL,.slice NM NN NO],.I W5])/\R (.T #[.agg #[.I NH,.U NI,.slice NJ NK NL,.slice NM NN NO],.I W5]) G)) (LI .i64 AE b9 0 λx52=>Br (x52=1) (∃W6 W7 W8 W9 XA XB XC XD XE XF XG XH XI XJ,Az AE b4 0 [.I W6,.I W7,.string W8,.slice W9 XA XB,.I XC,.I XD,.I XE,.slice XF XG XH,.bool XI,.I XJ]/\LS AE b8 2 λp57 n57 c57=>AG 169 #[.pointer q0,.agg #[.I W6,.I W7,.string W8,.slice W9 XA XB,.I XC,.I XD,.I XE,.slice XF XG XH,.bool XI,.I XJ],.slice p57 n57 c57,(.func (.func 171) #[] #[(.pointer (aD b4 0)),(.pointer (aD b9 0))])] AE R (λz G=>∃NQ NR NS NT NU NV NW NY Io,z=(.tuple #[.agg #[.I NQ,.U NR,.slice NS NT NU,.slice NV NW NY],.I Io])/\R (.T #[.agg #[.I NQ,.U NR,.slice NS NT NU,.slice NV NW NY],.I Io]) G)) (LI .i64 AE b4 1 λx64=>AG 120 #[.I x64] AE R (CB λt65 G=>Bo t65 (∃Mn Mo Mp Mq Mr Ms Mu Mv Mw Mx My Mz M0 M1,Az G b4 0 [.I Mn,.I Mo,.string Mp,.slice Mq Mr Ms,.I Mu,.I Mv,.I Mw,.slice Mx My Mz,.bool M0,.I M1]/\LS G b8 2 λvB n69 vC=>LS G b9 2 λp71 n71 c71=>AG 172 #[.pointer q0,.agg #[.I Mn,.I Mo,.string Mp,.slice Mq Mr Ms,.I Mu,.I Mv,.I Mw,.slice Mx My Mz,.bool M0,.I M1],.slice vB n69 vC,.slice p71 n71 c71] G R (λz Am=>∃NZ Na Nb Nc Nf Ng Nh Ni XK,z=(.tuple #[.agg #[.I NZ,.U Na,.slice Nb Nc Nf,.slice Ng Nh Ni],.I XK])/\R (.T #[.agg #[.I NZ,.U Na,.slice Nb Nc Nf,.slice Ng Nh Ni],.I XK]) Am)) (∃XL XM XN XO XP XQ XR XS XT XU XV XW XX XY,Az G b4 0 [.I XL,.I XM,.string XN,.slice XO XP XQ,.I XR,.I XS,.I XT,.slice XU XV XW,.bool XX,.I XY]/\LS G b8 2 λp78 n78 c78=>LS G b9 2 λp80 n80 c80=>AG 173 #[.pointer q0,.agg #[.I XL,.I XM,.string XN,.slice XO XP XQ,.I XR,.I XS,.I XT,.slice XU XV XW,.bool XX,.I XY],.slice p78 n78 c78,.slice p80 n80 c80] G R (λz Am=>∃Nj Nk Nl Nn No Np Nq Nr XZ,z=(.tuple #[.agg #[.I Nj,.U Nk,.slice Nl Nn No,.slice Np Nq Nr],.I XZ])/\R (.T #[.agg #[.I Nj,.U Nk,.slice Nl Nn No,.slice Np Nq Nr],.I XZ]) Am))))))) (LI .i64 AE b8 0 λjC=>Br (jC=1) (∃QN LK NF Wu Wv Ww Wx Wy Wz W0 W1 W2 W3 W4,Az AE b4 0 [.I QN,.I LK,.string NF,.slice Wu Wv Ww,.I Wx,.I Wy,.I Wz,.slice W0 W1 W2,.bool W3,.I W4]/\LS AE b9 2 λp45 n45 c45=>AG 169 #[.pointer q0,.agg #[.I QN,.I LK,.string NF,.slice Wu Wv Ww,.I Wx,.I Wy,.I Wz,.slice W0 W1 W2,.bool W3,.I W4],.slice p45 n45 c45,(.func (.func 170) #[] #[(.pointer (aD b4 0)),(.pointer (aD b8 0))])] AE R (λz G=>∃NH NI NJ NK NL NM NN NO W5,z=(.tuple #[.agg #[.I NH,.U NI,.slice NJ NK NL,.slice NM NN NO],.I W5])/\R (.T #[.agg #[.I NH,.U NI,.slice NJ NK NL,.slice NM NN NO],.I W5]) G)) (LI .i64 AE b9 0 λx52=>Br (x52=1) (∃W6 W7 W8 W9 XA XB XC XD XE XF XG XH XI XJ,Az AE b4 0 [.I W6,.I W7,.string W8,.slice W9 XA XB,.I XC,.I XD,.I XE,.slice XF XG XH,.bool XI,.I XJ]/\LS AE b8 2 λp57 n57 c57=>AG 169 #[.pointer q0,.agg #[.I W6,.I W7,.string W8,.slice W9 XA XB,.I XC,.I XD,.I XE,.slice XF XG XH,.bool XI,.I XJ],.slice p57 n57 c57,(.func (.func 171) #[] #[(.pointer (aD b4 0)),(.pointer (aD b9 0))])] AE R (λz G=>∃NQ NR NS NT NU NV NW NY Io,z=(.tuple #[.agg #[.I NQ,.U NR,.slice NS NT NU,.slice NV NW NY],.I Io])/\R (.T #[.agg #[.I NQ,.U NR,.slice NS NT NU,.slice NV NW NY],.I Io]) G)) (LI .i64 AE b4 1 λx64=>AG 120 #[.I x64] AE R (CB λt65 G=>Bo t65 (∃Mn Mo Mp Mq Mr Ms Mu Mv Mw Mx My Mz M0 M1,Az G b4 0 [.I Mn,.I Mo,.string Mp,.slice Mq Mr Ms,.I Mu,.I Mv,.I Mw,.slice Mx My Mz,.bool M0,.I M1]/\LS G b8 2 λvB n69 vC=>LS G b9 2 λp71 n71 c71=>AG 172 #[.pointer q0,.agg #[.I Mn,.I Mo,.string Mp,.slice Mq Mr Ms,.I Mu,.I Mv,.I Mw,.slice Mx My Mz,.bool M0,.I M1],.slice vB n69 vC,.slice p71 n71 c71] G R (λz Am=>∃NZ Na Nb Nc Nf Ng Nh Ni XK,z=(.tuple #[.agg #[.I NZ,.U Na,.slice Nb Nc Nf,.slice Ng Nh Ni],.I XK])/\R (.T #[.agg #[.I NZ,.U Na,.slice Nb Nc Nf,.slice Ng Nh Ni],.I XK]) Am)) (∃XL XM XN XO XP XQ XR XS XT XU XV XW XX XY,Az G b4 0 [.I XL,.I XM,.string XN,.slice XO XP XQ,.I XR,.I XS,.I XT,.slice XU XV XW,.bool XX,.I XY]/\LS G b8 2 λp78 n78 c78=>LS G b9 2 λp80 n80 c80=>AG 173 #[.pointer q0,.agg #[.I XL,.I XM,.string XN,.slice XO XP XQ,.I XR,.I XS,.I XT,.slice XU XV XW,.bool XX,.I XY],.slice p78 n78 c78,.slice p80 n80 c80] G R (λz Am=>∃Nj Nk Nl Nn No Np Nq Nr XZ,z=(.tuple #[.agg #[.I Nj,.U Nk,.slice Nl Nn No,.slice Np Nq Nr],.I XZ])/\R (.T #[.agg #[.I Nj,.U Nk,.slice Nl Nn No,.slice Np Nq Nr],.I XZ]) Am)))))))))/\(Al (Hp.set Z2 b4 (.cells #[.I C4,.I CU,.string E1,.slice E5 E6 E7,.I Ez,.I EG,.I Dd,.slice FD E8 FE,.bool EO,.I Dj] 127 (0,0))) λb9=>Al (Hp.set (Hp.set Z2 b4 (.cells #[.I C4,.I CU,.string E1,.slice E5 E6 E7,.I Ez,.I EG,.I Dd,.slice FD E8 FE,.bool EO,.I Dj] 127 (0,0))) b9 (.cells #[.I 0,.U 0,.N,.N] 164 (0,0))) λb8=>AI prog (Instr.storeAt 164 (.pointer (aD b8 0)) (.agg #[.I HI,.U TP,.slice AJ4 AJ5 AJ6,.slice AJ7 AJ8 AJ9])) (Hp.set (Hp.set (Hp.set Z2 b4 (.cells #[.I C4,.I CU,.string E1,.slice E5 E6 E7,.I Ez,.I EG,.I Dd,.slice FD E8 FE,.bool EO,.I Dj] 127 (0,0))) b9 (.cells #[.I 0,.U 0,.N,.N] 164 (0,0))) b8 (.cells #[.I 0,.U 0,.N,.N] 164 (0,0))) (λ_ y=>Kp [Hr] (Hp.set (Hp.set (Hp.set Z2 b4 (.cells #[.I C4,.I CU,.string E1,.slice E5 E6 E7,.I Ez,.I EG,.I Dd,.slice FD E8 FE,.bool EO,.I Dj] 127 (0,0))) b9 (.cells #[.I 0,.U 0,.N,.N] 164 (0,0))) b8 (.cells #[.I 0,.U 0,.N,.N] 164 (0,0))) y/\AI prog (Instr.storeAt 164 (.pointer (aD b9 0)) (.agg #[.I TV,.U jd,.slice AKA AKB AKC,.slice u6 u7 vA])) y (λ_ AE=>LI .i64 AE b8 0 λPo=>Br (Po=1) (LI .i64 AE b9 0 λPj=>Br (Pj=1) (∃je Wr zO zP zQ zR zS zT zU zV zW zX zY zZ,Az AE b4 0 [.I je,.I Wr,.string zO,.slice zP zQ zR,.I zS,.I zT,.I zU,.slice zV zW zX,.bool zY,.I zZ]/\LI .u64 AE b8 1 λxL=>LI .u64 AE b9 1 λyq=>AG 168 #[.agg #[.I je,.I Wr,.string zO,.slice zP zQ zR,.I zS,.I zT,.I zU,.slice zV zW zX,.bool zY,.I zZ],.U xL,.U yq] AE R (λz G=>∃WN yr,z=(.tuple #[.U WN,.bool yr])/\R (.T #[.agg #[.I 1,.U WN,.N,.N],.I 0]) G)) (LI .i64 AE b8 0 λjC=>Br (jC=1) (∃QN LK NF Wu Wv Ww Wx Wy Wz W0 W1 W2 W3 W4,Az AE b4 0 [.I QN,.I LK,.string NF,.slice Wu Wv Ww,.I Wx,.I Wy,.I Wz,.slice W0 W1 W2,.bool W3,.I W4]/\LS AE b9 2 λp45 n45 c45=>AG 169 #[.pointer q0,.agg #[.I QN,.I LK,.string NF,.slice Wu Wv Ww,.I Wx,.I Wy,.I Wz,.slice W0 W1 W2,.bool W3,.I W4],.slice p45 n45 c45,(.func (.func 170) #[] #[(.pointer (aD b4 0)),(.pointer (aD b8 0))])] AE R (λz G=>∃NH NI NJ NK NL NM NN NO W5,z=(.tuple #[.agg #[.I NH,.U NI,.slice NJ NK NL,.slice NM NN NO],.I W5])/\R (.T #[.agg #[.I NH,.U NI,.slice NJ NK NL,.slice NM NN NO],.I W5]) G)) (LI .i64 AE b9 0 λx52=>Br (x52=1) (∃W6 W7 W8 W9 XA XB XC XD XE XF XG XH XI XJ,Az AE b4 0 [.I W6,.I W7,.string W8,.slice W9 XA XB,.I XC,.I XD,.I XE,.slice XF XG XH,.bool XI,.I XJ]/\LS AE b8 2 λp57 n57 c57=>AG 169 #[.pointer q0,.agg #[.I W6,.I W7,.string W8,.slice W9 XA XB,.I XC,.I XD,.I XE,.slice XF XG XH,.bool XI,.I XJ],.slice p57 n57 c57,(.func (.func 171) #[] #[(.pointer (aD b4 0)),(.pointer (aD b9 0))])] AE R (λz G=>∃NQ NR NS NT NU NV NW NY Io,z=(.tuple #[.agg #[.I NQ,.U NR,.slice NS NT NU,.slice NV NW NY],.I Io])/\R (.T #[.agg #[.I NQ,.U NR,.slice NS NT NU,.slice NV NW NY],.I Io]) G)) (LI .i64 AE b4 1 λx64=>AG 120 #[.I x64] AE R (CB λt65 G=>Bo t65 (∃Mn Mo Mp Mq Mr Ms Mu Mv Mw Mx My Mz M0 M1,Az G b4 0 [.I Mn,.I Mo,.string Mp,.slice Mq Mr Ms,.I Mu,.I Mv,.I Mw,.slice Mx My Mz,.bool M0,.I M1]/\LS G b8 2 λvB n69 vC=>LS G b9 2 λp71 n71 c71=>AG 172 #[.pointer q0,.agg #[.I Mn,.I Mo,.string Mp,.slice Mq Mr Ms,.I Mu,.I Mv,.I Mw,.slice Mx My Mz,.bool M0,.I M1],.slice vB n69 vC,.slice p71 n71 c71] G R (λz Am=>∃NZ Na Nb Nc Nf Ng Nh Ni XK,z=(.tuple #[.agg #[.I NZ,.U Na,.slice Nb Nc Nf,.slice Ng Nh Ni],.I XK])/\R (.T #[.agg #[.I NZ,.U Na,.slice Nb Nc Nf,.slice Ng Nh Ni],.I XK]) Am)) (∃XL XM XN XO XP XQ XR XS XT XU XV XW XX XY,Az G b4 0 [.I XL,.I XM,.string XN,.slice XO XP XQ,.I XR,.I XS,.I XT,.slice XU XV XW,.bool XX,.I XY]/\LS G b8 2 λp78 n78 c78=>LS G b9 2 λp80 n80 c80=>AG 173 #[.pointer q0,.agg #[.I XL,.I XM,.string XN,.slice XO XP XQ,.I XR,.I XS,.I XT,.slice XU XV XW,.bool XX,.I XY],.slice p78 n78 c78,.slice p80 n80 c80] G R (λz Am=>∃Nj Nk Nl Nn No Np Nq Nr XZ,z=(.tuple #[.agg #[.I Nj,.U Nk,.slice Nl Nn No,.slice Np Nq Nr],.I XZ])/\R (.T #[.agg #[.I Nj,.U Nk,.slice Nl Nn No,.slice Np Nq Nr],.I XZ]) Am))))))) (LI .i64 AE b8 0 λjC=>Br (jC=1) (∃QN LK NF Wu Wv Ww Wx Wy Wz W0 W1 W2 W3 W4,Az AE b4 0 [.I QN,.I LK,.string NF,.slice Wu Wv Ww,.I Wx,.I Wy,.I Wz,.slice W0 W1 W2,.bool W3,.I W4]/\LS AE b9 2 λp45 n45 c45=>AG 169 #[.pointer q0,.agg #[.I QN,.I LK,.string NF,.slice Wu Wv Ww,.I Wx,.I Wy,.I Wz,.slice W0 W1 W2,.bool W3,.I W4],.slice p45 n45 c45,(.func (.func 170) #[] #[(.pointer (aD b4 0)),(.pointer (aD b8 0))])] AE R (λz G=>∃NH NI NJ NK NL NM NN NO W5,z=(.tuple #[.agg #[.I NH,.U NI,.slice NJ NK NL,.slice NM NN NO],.I W5])/\R (.T #[.agg #[.I NH,.U NI,.slice NJ NK NL,.slice NM NN NO],.I W5]) G)) (LI .i64 AE b9 0 λx52=>Br (x52=1) (∃W6 W7 W8 W9 XA XB XC XD XE XF XG XH XI XJ,Az AE b4 0 [.I W6,.I W7,.string W8,.slice W9 XA XB,.I XC,.I XD,.I XE,.slice XF XG XH,.bool XI,.I XJ]/\LS AE b8 2 λp57 n57 c57=>AG 169 #[.pointer q0,.agg #[.I W6,.I W7,.string W8,.slice W9 XA XB,.I XC,.I XD,.I XE,.slice XF XG XH,.bool XI,.I XJ],.slice p57 n57 c57,(.func (.func 171) #[] #[(.pointer (aD b4 0)),(.pointer (aD b9 0))])] AE R (λz G=>∃NQ NR NS NT NU NV NW NY Io,z=(.tuple #[.agg #[.I NQ,.U NR,.slice NS NT NU,.slice NV NW NY],.I Io])/\R (.T #[.agg #[.I NQ,.U NR,.slice NS NT NU,.slice NV NW NY],.I Io]) G)) (LI .i64 AE b4 1 λx64=>AG 120 #[.I x64] AE R (CB λt65 G=>Bo t65 (∃Mn Mo Mp Mq Mr Ms Mu Mv Mw Mx My Mz M0 M1,Az G b4 0 [.I Mn,.I Mo,.string Mp,.slice Mq Mr Ms,.I Mu,.I Mv,.I Mw,.slice Mx My Mz,.bool M0,.I M1]/\LS G b8 2 λvB n69 vC=>LS G b9 2 λp71 n71 c71=>AG 172 #[.pointer q0,.agg #[.I Mn,.I Mo,.string Mp,.slice Mq Mr Ms,.I Mu,.I Mv,.I Mw,.slice Mx My Mz,.bool M0,.I M1],.slice vB n69 vC,.slice p71 n71 c71] G R (λz Am=>∃NZ Na Nb Nc Nf Ng Nh Ni XK,z=(.tuple #[.agg #[.I NZ,.U Na,.slice Nb Nc Nf,.slice Ng Nh Ni],.I XK])/\R (.T #[.agg #[.I NZ,.U Na,.slice Nb Nc Nf,.slice Ng Nh Ni],.I XK]) Am)) (∃XL XM XN XO XP XQ XR XS XT XU XV XW XX XY,Az G b4 0 [.I XL,.I XM,.string XN,.slice XO XP XQ,.I XR,.I XS,.I XT,.slice XU XV XW,.bool XX,.I XY]/\LS G b8 2 λp78 n78 c78=>LS G b9 2 λp80 n80 c80=>AG 173 #[.pointer q0,.agg #[.I XL,.I XM,.string XN,.slice XO XP XQ,.I XR,.I XS,.I XT,.slice XU XV XW,.bool XX,.I XY],.slice p78 n78 c78,.slice p80 n80 c80] G R (λz Am=>∃Nj Nk Nl Nn No Np Nq Nr XZ,z=(.tuple #[.agg #[.I Nj,.U Nk,.slice Nl Nn No,.slice Np Nq Nr],.I XZ])/\R (.T #[.agg #[.I Nj,.U Nk,.slice Nl Nn No,.slice Np Nq Nr],.I XZ]) Am)))))))))):Spec prog 134 #[.pointer q0,.agg #[.I C4,.I CU,.string E1,.slice E5 E6 E7,.I Ez,.I EG,.I Dd,.slice FD E8 FE,.bool EO,.I Dj],.slice p2 n2 c2] Z2 R:=M.start h ok
end ET
namespace ED
variable {q0:Option Addr}
def M:Fw:=⟨prog,139,f139,[63],[],false,[],[],[]⟩
def ok:M.Ok:=⟨.cons call63 (AH.nil),mixed,func139,by kernel_rfl⟩
def start (h:AG 63 #[.pointer q0,(.func (.func 175) #[.pointer q0] #[]),.I 3,.I 4] Z2 R (λz y=>z=(.tuple #[])/\R (.T #[]) y)):Spec prog 139 #[.pointer q0] Z2 R:=M.start h ok
end ED
namespace FL
variable {p0:Option Addr}{n0 c0:Nat}
def M:Fw:=⟨prog,165,f165,[212],[],false,[],[],[]⟩
def ok:M.Ok:=⟨.cons call212 (AH.nil),mixed,func165,by kernel_rfl⟩
def start (h:AG 212 #[.I 9,.slice p0 n0 c0] Z2 R (CI .u64 λx4 y=>R (.returned (.U x4)) y)):Spec prog 165 #[.slice p0 n0 c0] Z2 R:=M.start h ok
end FL
namespace BL
variable {q0 E5 FD p2 p3 LL LV Gq Gv KS rP:Option Addr}{C4 CU Ez EG Dd Dj JM JN LP LR LU LZ E9 FI jV mG:Int}{E1 Ji:ByteArray}{E6 E7 E8 FE n2 c2 n3 c3 LN LO LX LY Gr Gt Gw Gx n14 JG n41 jK:Nat}{EO NG:Bool}{m12:Option Nat}
def M:Fw:=⟨prog,173,f173,[107,116,160,168,216,217],[5,8,16,18],false,[],[],[(2024,[(5,.X 127 [.I .i64,.I .i64,.T,.L,.I .i64,.I .i64,.I .i64,.L,.B,.I .i64]),(8,.X 164 [.I .i64,.I .u64,.L,.L]),(12,wM),(14,wL),(41,wL),(42,wI),(43,wI)]),(8103,[(5,.X 127 [.I .i64,.I .i64,.T,.L,.I .i64,.I .i64,.I .i64,.L,.B,.I .i64]),(8,.X 164 [.I .i64,.I .u64,.L,.L]),(12,wM),(14,wL),(41,wL),(42,wI),(43,wI)])]⟩
def ok:M.Ok:=⟨.cons call107 (.cons call116 (.cons call160 (.cons call168 (.cons call216 (.cons call217 (AH.nil)))))),mixed,func173,by kernel_rfl⟩
def RL:=M.pt 0
def R8:=M.pt 1
def start (h:∀b5:Nat,∀b8:Nat,AG 216 #[.agg #[.I C4,.I CU,.string E1,.slice E5 E6 E7,.I Ez,.I EG,.I Dd,.slice FD E8 FE,.bool EO,.I Dj],.slice p2 n2 c2] Z2 R (λz y=>∃AYD za,z=(.tuple #[.map AYD,.bool za])/\AG 216 #[.agg #[.I C4,.I CU,.string E1,.slice E5 E6 E7,.I Ez,.I EG,.I Dd,.slice FD E8 FE,.bool EO,.I Dj],.slice p3 n3 c3] y R (λz AE=>∃G AQc,z=(.tuple #[.map G,.bool AQc])/\Bn za (R (.T #[.agg #[.I 0,.U 0,.N,.N],.I 223]) AE) (Bn AQc (R (.T #[.agg #[.I 0,.U 0,.N,.N],.I 223]) AE) (RL R C4 CU E1 E5 E6 E7 Ez EG Dd FD E8 FE EO Dj 0 0 none 0 0 none 0 0 G none 0 0 p2 n2 c2 (n2:Int) 0 AE))))):Spec prog 173 #[.pointer q0,.agg #[.I C4,.I CU,.string E1,.slice E5 E6 E7,.I Ez,.I EG,.I Dd,.slice FD E8 FE,.bool EO,.I Dj],.slice p2 n2 c2,.slice p3 n3 c3] Z2 R:=M.start h ok
def La (h:Br (mG<jV) (Pq rP λaW xF=>In mG (n41:Int)/\∃AKO AKP AKQ AKR,Az Z2 aW (xF+mG.toNat*2) [.slice AKO AKP AKQ,.U AKR]/\∀UE:Nat,AG 217 #[.agg #[.I JM,.I JN,.string Ji,.slice LL LN LO,.I LP,.I LR,.I LU,.slice LV LX LY,.bool NG,.I LZ],.slice AKO AKP AKQ] Z2 R (CS λjc n50 mH y=>AG 107 #[.slice jc n50 mH] y R (CT λs54 AE=>AI prog (Instr.lookup 291 (.map m12) (.string s54) true) AE (λz AK=>∃AQd AQe AQf AHL AQg,z=(.tuple #[.agg #[.slice AQd AQe AQf,.U AHL],.bool AQg])/\∀bz:Nat,Bn AQg (R8 R JM JN Ji LL LN LO LP LR LU LV LX LY NG LZ E9 FI Gq Gr Gt Gv Gw Gx m12 KS n14 JG (aD aW xF) n41 jK jV mG AK) (AG 168 #[.agg #[.I JM,.I JN,.string Ji,.slice LL LN LO,.I LP,.I LR,.I LU,.slice LV LX LY,.bool NG,.I LZ],.U AKR,.U AHL] AK R (λz Am=>∃AKS AQh,z=(.tuple #[.U AKS,.bool AQh])/\AG 116 #[.I JN] Am R (CB λt72 CL=>Bn t72 (Al CL λG=>AI prog (GO 105 KS n14 JG G) (Hp.set CL G (.cells #[.slice jc n50 mH,.U AKS] 109 (0,0))) (CS λp83 n83 c83 Gu=>R8 R JM JN Ji LL LN LO LP LR LU LV LX LY NG LZ E9 FI Gq Gr Gt Gv Gw Gx m12 p83 n83 c83 (aD aW xF) n41 jK jV mG Gu)) (Bo NG (Al CL λG=>AI prog (GO 105 KS n14 JG G) (Hp.set CL G (.cells #[.slice jc n50 mH,.U AKS] 109 (0,0))) (CS λp83 n83 c83 Gu=>R8 R JM JN Ji LL LN LO LP LR LU LV LX LY true LZ E9 FI Gq Gr Gt Gv Gw Gx m12 p83 n83 c83 (aD aW xF) n41 jK jV mG Gu)) (Bo AQh (Al CL λb88=>AI prog (GO 105 KS n14 JG b88) (Hp.set CL b88 (.cells #[.slice AKO AKP AKQ,.U AKR] 109 (0,0))) (CS λp89 n89 c89 Gu=>R8 R JM JN Ji LL LN LO LP LR LU LV LX LY false LZ E9 FI Gq Gr Gt Gv Gw Gx m12 p89 n89 c89 (aD aW xF) n41 jK jV mG Gu)) (R8 R JM JN Ji LL LN LO LP LR LU LV LX LY false LZ E9 FI Gq Gr Gt Gv Gw Gx m12 KS n14 JG (aD aW xF) n41 jK jV mG CL)))))))))) (AG 160 #[.slice KS n14 JG] Z2 R (λz y=>∃AHN AHO AHP AHQ AHR AHS AHT AHU AQl,z=(.tuple #[.agg #[.I AHN,.U AHO,.slice AHP AHQ AHR,.slice AHS AHT AHU],.I AQl])/\R (.T #[.agg #[.I AHN,.U AHO,.slice AHP AHQ AHR,.slice AHS AHT AHU],.I AQl]) y))):RL R JM JN Ji LL LN LO LP LR LU LV LX LY NG LZ E9 FI Gq Gr Gt Gv Gw Gx m12 KS n14 JG rP n41 jK jV mG Z2:=M.nq h ok rfl λ_ _=>by kernel_rfl
def fC (h:AL (mG+1)/\RL R JM JN Ji LL LN LO LP LR LU LV LX LY NG LZ E9 FI Gq Gr Gt Gv Gw Gx m12 KS n14 JG rP n41 jK jV (mG+1) Z2):R8 R JM JN Ji LL LN LO LP LR LU LV LX LY NG LZ E9 FI Gq Gr Gt Gv Gw Gx m12 KS n14 JG rP n41 jK jV mG Z2:=M.nq h ok rfl λ_ _=>by kernel_rfl
end BL
namespace Bb
variable {q0:Option Addr}
def M:Fw:=⟨prog,175,f175,[98,100,218,219],[],false,[],[],[]⟩
def ok:M.Ok:=⟨.cons call98 (.cons call100 (.cons call218 (.cons call219 (AH.nil)))),mixed,func175,by kernel_rfl⟩
def start (h:AG 98 #[.pointer q0,.I 5,(.string (ByteArray.mk #[45]))] Z2 R (CB λt3 y=>Bn t3 (AG 218 #[.pointer q0] y R (λz G=>z=(.tuple #[])/\R (.T #[]) G)) (AG 219 #[.pointer q0,(.func (.func 175) #[.pointer q0] #[])] y R (λz G=>z=(.tuple #[])/\AG 100 #[.pointer q0,(.agg #[.I 7,.I 0,(.string (ByteArray.mk #[])),.N,.I 0,.I 0,.I 0,.N,.bool false,.I 1])] G R (λz AK=>z=(.tuple #[])/\R (.T #[]) AK))))):Spec prog 175 #[.pointer q0] Z2 R:=M.start h ok
end Bb
namespace Qj
variable {De Dl x1:Int}
def M:Fw:=⟨prog,186,f186,[],[2],false,[],[],[]⟩
def ok:M.Ok:=⟨AH.nil,mixed,func186,by kernel_rfl⟩
def start (h:∀b2:Nat,Br (De<=x1) (R (.returned (.I (-1))) Z2) (R (.returned (.I 1)) Z2)):Spec prog 186 #[.agg #[.I De,.U Dl],.I x1] Z2 R:=M.start h ok
end Qj
namespace DR
variable {f0:Fn}{a0 c0:Array Value}
def M:Fw:=⟨prog,194,f194,[],[],false,[],[],[]⟩
def ok:M.Ok:=⟨AH.nil,mixed,func194,by kernel_rfl⟩
def start (h:Al Z2 λb1=>R (.returned (.func (.func 233) #[] #[(.pointer (aD b1 0))])) (Hp.set Z2 b1 (.cells #[(Value.func f0 a0 c0)] 246 (0,0)))):Spec prog 194 #[(Value.func f0 a0 c0)] Z2 R:=M.DJ h ok [(0,.o (.V (Value.func f0 a0 c0)))] rfl rfl (by kernel_rfl)
end DR
namespace Em
variable {p0:Option Addr}{n0 c0:Nat}
def M:Fw:=⟨prog,195,f195,[196],[],false,[],[],[]⟩
def ok:M.Ok:=⟨.cons call196 (AH.nil),mixed,func195,by kernel_rfl⟩
def start (h:AL ((n0:Int)-1)/\Pq p0 λb7 G=>In (((n0:Int)-1)) (n0:Int)/\LI .u64 Z2 b7 (G+Int.toNat ((n0:Int)-1)*1) λx8=>AG 196 #[.U x8] Z2 R (CI .u64 λx9 y=>R (.returned (.U x9)) y)):Spec prog 195 #[.slice p0 n0 c0] Z2 R:=M.start h ok
end Em
namespace Iq
variable {De Dl U6 QI JE MB rE xG x2e x2f x2g x2j x11 x12:Int}{U7 s2c:ByteArray}{cQ WV p1 p2d p2h Rf:Option Addr}{ad cR VZ WW n1 c1 n2d c2d n2h c2h n10 L6:Nat}{RE t2i:Bool}{m6:Option Nat}
def M:Fw:=⟨prog,216,f216,[107,217],[2,8],false,[(5,7,false)],[],[(232,[(1,wL),(2,.X 127 [.I .i64,.I .i64,.T,.L,.I .i64,.I .i64,.I .i64,.L,.B,.I .i64]),(6,wM),(10,wL),(11,wI),(12,wI)])]⟩
def ok:M.Ok:=⟨.cons call107 (.cons call217 (AH.nil)),mixed,func216,by kernel_rfl⟩
def A0:=M.pt 0
def start (h:∀b2:Nat,AI prog (Instr.makeMap 291 none) Z2 (λz y=>∃G,z=(.map (some G))/\A0 R p1 n1 c1 De Dl U7 cQ ad cR U6 QI JE WV VZ WW RE MB (some G) p1 n1 c1 (n1:Int) 0 y)):Spec prog 216 #[.agg #[.I De,.I Dl,.string U7,.slice cQ ad cR,.I U6,.I QI,.I JE,.slice WV VZ WW,.bool RE,.I MB],.slice p1 n1 c1] Z2 R:=M.start h ok
def AX (h:Br (x12<x11) (Pq Rf λHe Jb=>In x12 (n10:Int)/\∃G AKU AKV oK,Az Z2 He (Jb+x12.toNat*2) [.slice G AKU AKV,.U oK]/\∀b8:Nat,AG 217 #[.agg #[.I rE,.I xG,.string s2c,.slice p2d n2d c2d,.I x2e,.I x2f,.I x2g,.slice p2h n2h c2h,.bool t2i,.I x2j],.slice G AKU AKV] Z2 R (CS λUH n20 Ry y=>AG 107 #[.slice UH n20 Ry] y R (CT λs21 AE=>AI prog (Instr.mapUpdate 291 (.map m6) (.string s21) (.agg #[.slice G AKU AKV,.U oK])) AE (λ_ AK=>AL (x12+1)/\A0 R p1 n1 c1 rE xG s2c p2d n2d c2d x2e x2f x2g p2h n2h c2h t2i x2j m6 (aD He Jb) n10 L6 x11 (x12+1) AK)))) (∃af,YF prog (Builtin.len_ #[291] 3 #[.map m6]) Z2 (.I af)/\R (.T #[.map m6,(.bool (decide (af=(n1:Int))))]) Z2)):A0 R p1 n1 c1 rE xG s2c p2d n2d c2d x2e x2f x2g p2h n2h c2h t2i x2j m6 Rf n10 L6 x11 x12 Z2:=M.Uu h ok rfl λ_=>by kernel_rfl
end Iq
namespace Xa
variable {p0:Option Addr}{n0 c0:Nat}
def M:Fw:=⟨prog,234,f234,[183,252,253],[],false,[],[],[]⟩
def ok:M.Ok:=⟨.cons call183 (.cons call252 (.cons call253 (AH.nil))),mixed,func234,by kernel_rfl⟩
def start (h:AG 252 #[(.I (n0:Int))] Z2 R (CB λt7 y=>Bn t7 (R (.T #[.U 0,.I 210]) y) ((n0:Int)≠(0:Int)/\Df (Int.tmod 1 (n0:Int)) λx12=>AG 253 #[.slice p0 n0 c0,.I x12] y R (λz AE=>∃Fq G,(Value.complex .f64 Fq G)=z/\∃x15,YF prog (Builtin.real_ #[319] 258 #[(Value.complex .f64 Fq G)]) AE (Value.float .f64 x15)/\∃x17,YF prog (Builtin.real_ #[319] 258 #[(Value.complex .f64 Fq G)]) AE (Value.float .f64 x17)/\AI prog (binOp .mul 258 (Value.float .f64 x15) (Value.float .f64 x17)) AE (λz AK=>∃MA,(Value.float .f64 MA)=z/\∃Po,YF prog (Builtin.imag_ #[319] 258 #[(Value.complex .f64 Fq G)]) AK (Value.float .f64 Po)/\∃FK,YF prog (Builtin.imag_ #[319] 258 #[(Value.complex .f64 Fq G)]) AK (Value.float .f64 FK)/\AI prog (binOp .mul 258 (Value.float .f64 Po) (Value.float .f64 FK)) AK (λz Am=>∃GA,(Value.float .f64 GA)=z/\AI prog (binOp .add 258 (Value.float .f64 MA) (Value.float .f64 GA)) Am (λz CL=>∃Pj,(Value.float .f64 Pj)=z/\AG 183 #[(Value.float .f64 Pj)] CL R (CI .u64 λaV Gu=>R (.T #[.U aV,.I 0]) Gu)))))))):Spec prog 234 #[.slice p0 n0 c0] Z2 R:=M.start h ok
end Xa
namespace EU
variable {gh p64:Option Addr}{Rx cC zb c64:Nat}{s1:ByteArray}{x65 x66:Int}
def M:Fw:=⟨prog,272,f272,[275,296,297],[2],false,[(1,14,true)],[],[(2024,[(1,wT),(64,wL),(65,wI),(66,wI)])]⟩
def ok:M.Ok:=⟨.cons call275 (.cons call296 (.cons call297 (AH.nil))),mixed,func272,by kernel_rfl⟩
def HF:=M.pt 0
def start (h:∀b2:Nat,Pq gh λHL Je=>In 0 (Rx:Int)/\LT Z2 HL Je λG=>AL ((Rx:Int)-1)/\In (((Rx:Int)-1)) (Rx:Int)/\LT Z2 HL (Je+Int.toNat ((Rx:Int)-1)*1) λs21=>Br ((Rx:Int)=1) (R (.returned (.bool (ByteArray.toList s1==ByteArray.toList G))) Z2) (AL ((G.size:Int)+(s21.size:Int))/\Br (((s1.size:Int):Int)<((G.size:Int)+(s21.size:Int))) (R (.B false) Z2) (AG 296 #[.string s1,.string G] Z2 R (CB λt40 y=>Bn t40 (R (.B false) y) (AG 297 #[.string s1,.string s21] y R (CB λt46 AE=>Bn t46 (R (.B false) AE) (AL ((s1.size:Int)-(s21.size:Int))/\∃s57,YF prog (Instr.sliceAt 9 (.string s1) (some (.I (G.size:Int))) (some (.I ((s1.size:Int)-(s21.size:Int)))) none) AE (.string s57)/\AL ((Rx:Int)-1)/\((0:Int)<=1/\1<=((Rx:Int)-1)/\((Rx:Int)-1)<=(cC:Int))/\HF R s57 ((E4 (aD HL Je) (1) cC 1)) ((Int.toNat ((Rx:Int)-1)-1)) (cC-1) ((((Int.toNat ((Rx:Int)-1)-1):Nat):Int)) 0 AE))))))):Spec prog 272 #[.agg #[.slice gh Rx cC],.string s1] Z2 R:=M.start h ok
def Ea (h:Br (x66<x65) (Pq p64 λzc o68=>In x66 (zb:Int)/\LT Z2 zc (o68+x66.toNat*1) λG=>AG 275 #[.string s1,.string G] Z2 R (CI .i64 λx72 y=>Br (x72<0) (R (.B false) y) (AL (x72+(G.size:Int))/\∃s80,YF prog (Instr.sliceAt 9 (.string s1) (some (.I (x72+(G.size:Int)))) none none) y (.string s80)/\AL (x66+1)/\HF R s80 (aD zc o68) zb c64 x65 (x66+1) y))) (R (.B true) Z2)):HF R s1 p64 zb c64 x65 x66 Z2:=M.of h ok rfl
end EU
end TwW
end
end
section
set_option maxRecDepth 100000
noncomputable section
namespace TwW
open Go Tw Go.Proofs.Tryz
variable [GF]{R:Rr}{Z2:Hp}

namespace Fv
variable {De C4 x2:Int}{p0b p1b:Option Addr}{n0b c0b n1b c1b:Nat}
def M:Fw:=⟨prog,7,f7,[],[0,1],false,[],[],[(464,[(0,.X 30 [.I .u64,.L]),(1,.X 30 [.I .u64,.L]),(2,wI)])]⟩
def ok:M.Ok:=⟨AH.nil,mixed,func7,by kernel_rfl⟩
def CA:=M.pt 0
def start (h:∀b0:Nat,∀b1:Nat,CA R 0 none 0 0 0 none 0 0 0 Z2):Spec prog 7 #[] Z2 R:=M.start h ok
def A1 (h:Br (x2<3) (Al Z2 λDk=>Al (Hp.set Z2 Dk (.cells #[.int .u32 7] 52 (0,0))) λG=>AI prog (GO 28 p1b n1b c1b G) (Hp.set (Hp.set Z2 Dk (.cells #[.int .u32 7] 52 (0,0))) G (.cells #[.I x2,.I 2,(.slice (aD Dk 0) 1 1)] 55 (0,0))) (CS λuh n13 xJ y=>AL (x2+1)/\CA R De p0b n0b c0b C4 uh n13 xJ (x2+1) y)) (R (.returned (.agg #[.U C4,.slice p1b n1b c1b])) Z2)):CA R De p0b n0b c0b C4 p1b n1b c1b x2 Z2:=M.nq h ok rfl λ_ _=>by kernel_rfl
end Fv
namespace Fh
variable {q0 p2:Option Addr}{x1:Int}{n2 c2:Nat}
def M:Fw:=⟨prog,11,f11,[10],[],false,[],[],[]⟩
def ok:M.Ok:=⟨.cons call10 (AH.nil),mixed,func11,by kernel_rfl⟩
def start (h:Pq q0 λHr Uw=>LM Z2 Hr (Uw+4) λm15=>AI prog (Instr.lookup 69 (.map m15) (.I x1) true) Z2 (λz y=>∃TV zd,z=(.tuple #[.I TV,.bool zd])/\Bn zd (R (.returned (.I 270)) y) (LS y Hr (Uw+11) λmD n26 mE=>Al y λrm=>AG 10 #[(.slice (aD rm 0) 2 2)] (Hp.set y rm (.cells #[.slice mD n26 mE,.slice p2 n2 c2] 22 (0,0))) R (λz AE=>∃G AQq AQr ze,z=(.tuple #[.slice G AQq AQr,.I ze])/\Br (ze≠0) (R (.returned (.I ze)) AE) (LM AE Hr (Uw+4) λm38=>AI prog (Instr.lookup 69 (.map m38) (.I x1) false) AE (CI .i64 λjC AK=>AL (jC+1)/\AI prog (Instr.mapUpdate 69 (.map m38) (.I x1) (.I (jC+1))) AK (λ_ Am=>AI prog (Instr.storeAt 22 (.pointer (aD Hr (Uw+11))) (.slice G AQq AQr)) Am (λ_ CL=>R (.returned (.I 0)) CL)))))))):Spec prog 11 #[.pointer q0,.I x1,.slice p2 n2 c2] Z2 R:=M.start h ok
end Fh
namespace Eo
variable {p0 p1 Mb p33:Option Addr}{n0 c0 n1 c1 n11 Mc n33 c33:Nat}{x2 yc TJ:Int}
def M:Fw:=⟨prog,15,f15,[44,45,46],[13],false,[],[],[(4072,[(2,wI),(11,wL),(33,wL),(34,wI),(35,wI)])]⟩
def ok:M.Ok:=⟨.cons call44 (.cons call45 (.cons call46 (AH.nil))),mixed,func15,by kernel_rfl⟩
def Ns:=M.pt 0
def start (h:AG 44 #[.slice p0 n0 c0,.slice p1 n1 c1] Z2 R (CI .i64 λx16 y=>Br (x16≠0) (R (.T #[.N,.I x16]) y) (AG 45 #[.I x2] y R (CB λt21 AE=>Bn t21 (R (.T #[.N,.I 221]) AE) (AG 46 #[.slice p0 n0 c0,.slice p1 n1 c1,.I x2] AE R (λz AK=>∃RF G RG jf,z=(.tuple #[.slice RF G RG,.I jf])/\Br (jf≠0) (R (.T #[.N,.I jf]) AK) (Ns R x2 none 0 0 RF G RG (G:Int) 0 AK))))))):Spec prog 15 #[.slice p0 n0 c0,.slice p1 n1 c1,.I x2] Z2 R:=M.start h ok
def Lc (h:Br (TJ<yc) (Pq p33 λb37 o37=>In TJ (n33:Int)/\∃AEg AEh AEi JO,Az Z2 b37 (o37+TJ.toNat*2) [.slice AEg AEh AEi,.U JO]/\∀Hr:Nat,(Al Z2 λaT=>(AI prog (Builtin.append_ #[95,95] 95 #[(.slice (aD aT 0) 0 0),.slice AEg AEh AEi]) (Hp.set Z2 aT (.cells #[] 144 (0,0))) (CS λxN n43 xO y=>Al y λU8=>Al (Hp.set y U8 (.cells #[.I x2,.U JO] 111 (0,0))) λWX=>AI prog (GO 22 Mb n11 Mc WX) (Hp.set (Hp.set y U8 (.cells #[.I x2,.U JO] 111 (0,0))) WX (.cells #[.slice xN n43 xO,(.slice (aD U8 0) 1 1)] 98 (0,0))) (CS λp51 n51 G AE=>AL (TJ+1)/\Ns R x2 p51 n51 G (aD b37 o37) n33 c33 yc (TJ+1) AE)))/\(Al (Hp.set Z2 aT (.cells #[] 144 (0,0))) λU8=>AI prog (Builtin.append_ #[95,95] 95 #[(.slice (aD aT 0) 0 0),.slice AEg AEh AEi]) (Hp.set (Hp.set Z2 aT (.cells #[] 144 (0,0))) U8 (.cells #[.I x2,.U JO] 111 (0,0))) (CS λxN n43 xO y=>Al y λWX=>AI prog (GO 22 Mb n11 Mc WX) (Hp.set y WX (.cells #[.slice xN n43 xO,(.slice (aD U8 0) 1 1)] 98 (0,0))) (CS λp51 n51 G AE=>AL (TJ+1)/\Ns R x2 p51 n51 G (aD b37 o37) n33 c33 yc (TJ+1) AE))))/\(Al Z2 λU8=>Al (Hp.set Z2 U8 (.cells #[.I x2,.U JO] 111 (0,0))) λaT=>AI prog (Builtin.append_ #[95,95] 95 #[(.slice (aD aT 0) 0 0),.slice AEg AEh AEi]) (Hp.set (Hp.set Z2 U8 (.cells #[.I x2,.U JO] 111 (0,0))) aT (.cells #[] 144 (0,0))) (CS λxN n43 xO y=>Al y λWX=>AI prog (GO 22 Mb n11 Mc WX) (Hp.set y WX (.cells #[.slice xN n43 xO,(.slice (aD U8 0) 1 1)] 98 (0,0))) (CS λp51 n51 G AE=>AL (TJ+1)/\Ns R x2 p51 n51 G (aD b37 o37) n33 c33 yc (TJ+1) AE)))) (R (.T #[.slice Mb n11 Mc,.I 0]) Z2)):Ns R x2 Mb n11 Mc p33 n33 c33 yc TJ Z2:=M.of h ok rfl
end Eo
namespace Cr
variable {p0 q5 Mb:Option Addr}{n0 c0 n11 Mc:Nat}{x12 Fq:Int}
def M:Fw:=⟨prog,24,f24,[54],[7],false,[],[],[(232,[(0,wL),(5,wQ),(11,wL),(12,wI),(13,wI)])]⟩
def ok:M.Ok:=⟨.cons call54 (AH.nil),mixed,func24,by kernel_rfl⟩
def A0:=M.pt 0
def start (h:Al Z2 λDk=>A0 R p0 n0 c0 (aD Dk 0) p0 n0 c0 (n0:Int) 0 (Hp.set Z2 Dk (.cells #[.N] 124 (0,0)))):Spec prog 24 #[.slice p0 n0 c0] Z2 R:=M.start h ok
def AX (h:Br (Fq<x12) (Pq Mb λUE eP=>In Fq (n11:Int)/\∃TV jd zf u6 u7 vA G AQt AQu AQv AQw AQx AQy AQz,Az Z2 UE (eP+Fq.toNat*10) [.I TV,.I jd,.string zf,.slice u6 u7 vA,.I G,.I AQt,.I AQu,.slice AQv AQw AQx,.bool AQy,.I AQz]/\∀b7:Nat,AG 54 #[.pointer q5,.agg #[.I TV,.I jd,.string zf,.slice u6 u7 vA,.I G,.I AQt,.I AQu,.slice AQv AQw AQx,.bool AQy,.I AQz]] Z2 R (CI .i64 λPo y=>Br (Po≠0) (R (.T #[.I 0,.I Fq,.I Po]) y) (AL (Fq+1)/\A0 R p0 n0 c0 q5 (aD UE eP) n11 Mc x12 (Fq+1) y))) (Pq q5 λzh zi=>LS Z2 zh zi λp29 n29 c29=>Br ((n29:Int)≠1) (R (.T #[.I 0,(.I (n0:Int)),.I 190]) Z2) (Br (4096<(n0:Int)) (R (.T #[.I 0,(.I (n0:Int)),.I 190]) Z2) (LS Z2 zh zi λp42 n42 c42=>Pq p42 λrv o43=>In 0 (n42:Int)/\LI .i64 Z2 rv o43 λx45=>R (.T #[.I x45,.I 0,.I 0]) Z2)))):A0 R p0 n0 c0 q5 Mb n11 Mc x12 Fq Z2:=M.of h ok rfl
end Cr
namespace Xb
def M:Fw:=⟨prog,34,f34,[],[],false,[],[],[]⟩
def ok:M.Ok:=⟨AH.nil,mixed,func34,by kernel_rfl⟩
def start (h:Al Z2 λb2=>Al (Hp.set Z2 b2 (.cells #[(.string (ByteArray.mk #[95,95,110,97,109,101,95,95])),(.string (ByteArray.mk #[120]))] 144 (0,0))) λG=>Al (Hp.set (Hp.set Z2 b2 (.cells #[(.string (ByteArray.mk #[95,95,110,97,109,101,95,95])),(.string (ByteArray.mk #[120]))] 144 (0,0))) G (.cells #[.I 60,.U 5] 111 (0,0))) λb6=>R (.returned (.slice (aD b6 0) 1 1)) (Hp.set (Hp.set (Hp.set Z2 b2 (.cells #[(.string (ByteArray.mk #[95,95,110,97,109,101,95,95])),(.string (ByteArray.mk #[120]))] 144 (0,0))) G (.cells #[.I 60,.U 5] 111 (0,0))) b6 (.cells #[(.slice (aD b2 0) 1 1),(.slice (aD G 0) 1 1)] 98 (0,0)))):Spec prog 34 #[] Z2 R:=M.start h ok
end Xb
namespace Ao
variable {q0 p7:Option Addr}{n7 c7:Nat}{x8:Int}
def M:Fw:=⟨prog,43,f43,[15,21,77,78],[],false,[(11,9,true)],[],[(508,[(0,wQ),(7,wL),(8,wI)])]⟩
def ok:M.Ok:=⟨.cons call15 (.cons call21 (.cons call77 (.cons call78 (AH.nil)))),mixed,func43,by kernel_rfl⟩
def Ii:=M.pt 0
def start (h:AG 21 #[.pointer q0] Z2 R (CS λRf n10 L6 y=>Br (0<(n10:Int)) (R (.T #[.N,.I 0,.I 272]) y) (Pq q0 λG jL=>LS y G (jL+11) λrU n17 cM=>LI .i64 y G ((jL+7)+1) λFK=>AG 77 #[.slice rU n17 cM,.I FK,.I 4611686018427387904] y R (λz AE=>∃uz u4 u5 jT,z=(.tuple #[.slice uz u4 u5,.I jT])/\LI .i64 AE G (jL+3) λek=>Br (ek=0) (LS AE G jL λyj n35 nu=>LI .i64 AE G (jL+1) λjC=>AG 15 #[.slice yj n35 nu,.slice uz u4 u5,.I jC] AE R (λz AK=>∃AQ0 AQ1 AQ2 AQ3,z=(.tuple #[.slice AQ0 AQ1 AQ2,.I AQ3])/\Ii R (aD G jL) AQ0 AQ1 AQ2 AQ3 AK)) (LS AE G jL λp48 n48 c48=>LI .i64 AE G (jL+1) λx53=>LI .i64 AE G (jL+2) λx57=>LI .i64 AE G (jL+3) λx61=>AG 78 #[.slice p48 n48 c48,.slice uz u4 u5,.I x53,.I x57,.I x61] AE R (λz AK=>∃AQ4 AQ5 AQ6 AQ7,z=(.tuple #[.slice AQ4 AQ5 AQ6,.I AQ7])/\Ii R (aD G jL) AQ4 AQ5 AQ6 AQ7 AK)))))):Spec prog 43 #[.pointer q0] Z2 R:=M.start h ok
def Eg (h:Br (x8≠0) (R (.T #[.N,.I 0,.I x8]) Z2) (Pq q0 λG o70=>LI .i64 Z2 G ((o70+7)+1) λx73=>R (.T #[.slice p7 n7 c7,.I x73,.I 0]) Z2)):Ii R q0 p7 n7 c7 x8 Z2:=M.of h ok rfl
end Ao
namespace MD
variable {q0 E5 FD:Option Addr}{C4 CU Ez EG Dd Dj:Int}{E1:ByteArray}{E6 E7 E8 FE:Nat}{EO:Bool}
def M:Fw:=⟨prog,54,f54,[85,86,87],[3],false,[(6,9,true)],[],[]⟩
def ok:M.Ok:=⟨.cons call85 (.cons call86 (.cons call87 (AH.nil))),mixed,func54,by kernel_rfl⟩
def start (h:∀b3:Nat,AG 85 #[.agg #[.I C4,.I CU,.string E1,.slice E5 E6 E7,.I Ez,.I EG,.I Dd,.slice FD E8 FE,.bool EO,.I Dj]] Z2 R (CB λt10 y=>Bn t10 (R (.returned (.I 190)) y) (Pq q0 λUE eP=>LS y UE eP λyd n18 xH=>Br ((n18:Int)<Dj) (R (.returned (.I 190)) y) (AG 86 #[.slice E5 E6 E7] y R (CI .i64 λPj AE=>Br (Pj≠0) (R (.returned (.I 193)) AE) (AI prog (Instr.makeMap 179 none) AE (λz AK=>∃G,z=(.map (some G))/\AG 87 #[.I 1] AK R (λz Am=>∃f27 a27 xK,(Value.func f27 a27 xK)=z/\AI prog (Instr.mapUpdate 179 (.map (some G)) (.I 1) (Value.func f27 a27 xK)) Am (λ_ CL=>AG 87 #[.I 2] CL R (λz Gu=>∃f28 a28 c28,(Value.func f28 a28 c28)=z/\AI prog (Instr.mapUpdate 179 (.map (some G)) (.I 2) (Value.func f28 a28 c28)) Gu (λ_ EZ=>AG 87 #[.I 3] EZ R (λz S0=>∃f29 a29 c29,(Value.func f29 a29 c29)=z/\AI prog (Instr.mapUpdate 179 (.map (some G)) (.I 3) (Value.func f29 a29 c29)) S0 (λ_ UD=>AI prog (Instr.mapUpdate 179 (.map (some G)) (.I 4) (.func (.func 88) #[(.pointer (aD UE eP))] #[])) UD (λ_ IJ=>AI prog (Instr.mapUpdate 179 (.map (some G)) (.I 5) (.func (.func 89) #[(.pointer (aD UE eP))] #[])) IJ (λ_ WI=>AI prog (Instr.mapUpdate 179 (.map (some G)) (.I 6) (.func (.func 90) #[(.pointer (aD UE eP))] #[])) WI (λ_ Uv=>AI prog (Instr.mapUpdate 179 (.map (some G)) (.I 7) (.func (.func 91) #[(.pointer (aD UE eP))] #[])) Uv (λ_ TL=>LS TL UE eP λp42 n42 c42=>AL ((n42:Int)-Dj)/\LS TL UE eP λp56 n56 c56=>((0:Int)<=((n42:Int)-Dj)/\((n42:Int)-Dj)<=(n56:Int))/\AI prog (Instr.lookup 179 (.map (some G)) (.I C4) false) TL (λz uU=>∃v51,v51=z/\Kp [UE] TL uU/\∃(f59:Nat) (AHV AHW:Array Value),v51=.func (.func f59) AHV AHW/\Enters prog f59/\Spec prog f59 (AHV++#[.agg #[.I C4,.I CU,.string E1,.slice E5 E6 E7,.I Ez,.I EG,.I Dd,.slice FD E8 FE,.bool EO,.I Dj],(.slice (E4 p56 (Int.toNat ((n42:Int)-Dj)) c56 1) (n56-Int.toNat ((n42:Int)-Dj)) (c56-Int.toNat ((n42:Int)-Dj)))]++AHW) uU (Ab R (λz WJ=>∃Wb Io,z=(.tuple #[.I Wb,.I Io])/\LS WJ UE eP λp66 zj ry=>((0:Int)<=((n42:Int)-Dj)/\((n42:Int)-Dj)<=(ry:Int))/\Al WJ λb71=>AI prog (Builtin.append_ #[122,122] 122 #[(.slice p66 (Int.toNat ((n42:Int)-Dj)) ry),(.slice (aD b71 0) 1 1)]) (Hp.set WJ b71 (.cells #[.I Wb] 130 (0,0))) (CS λp72 n72 c72 ai=>AI prog (Instr.storeAt 122 (.pointer (aD UE eP)) (.slice p72 n72 c72)) ai (λ_ jg=>R (.returned (.I Io)) jg)))))))))))))))))))))):Spec prog 54 #[.pointer q0,.agg #[.I C4,.I CU,.string E1,.slice E5 E6 E7,.I Ez,.I EG,.I Dd,.slice FD E8 FE,.bool EO,.I Dj]] Z2 R:=M.start h ok
end MD
namespace rz
variable {x0:Int}
def M:Fw:=⟨prog,55,f55,[],[],false,[],[],[]⟩
def ok:M.Ok:=⟨AH.nil,mixed,func55,by kernel_rfl⟩
def start (h:Br (0<=x0) (R (.returned (.bool (decide (x0<16)))) Z2) (R (.B false) Z2)):Spec prog 55 #[.I x0] Z2 R:=M.start h ok
end rz
namespace Xc
variable {x0:Int}
def M:Fw:=⟨prog,59,f59,[],[],false,[],[],[]⟩
def ok:M.Ok:=⟨AH.nil,mixed,func59,by kernel_rfl⟩
def start (h:Br (97<=x0) (Br (x0<=122) (R (.B true) Z2) (Br (65<=x0) (Br (x0<=90) (R (.B true) Z2) (Br (x0=95) (R (.B true) Z2) (R (.returned (.bool (decide (x0=58)))) Z2))) (Br (x0=95) (R (.B true) Z2) (R (.returned (.bool (decide (x0=58)))) Z2)))) (Br (65<=x0) (Br (x0<=90) (R (.B true) Z2) (Br (x0=95) (R (.B true) Z2) (R (.returned (.bool (decide (x0=58)))) Z2))) (Br (x0=95) (R (.B true) Z2) (R (.returned (.bool (decide (x0=58)))) Z2)))):Spec prog 59 #[.int .u8 x0] Z2 R:=M.start h ok
end Xc
namespace Ep
variable {q0:Option Addr}
def M:Fw:=⟨prog,64,f64,[63],[],false,[],[],[]⟩
def ok:M.Ok:=⟨.cons call63 (AH.nil),mixed,func64,by kernel_rfl⟩
def start (h:AG 63 #[.pointer q0,(.func (.func 101) #[.pointer q0] #[]),.I 11,.I 13] Z2 R (λz y=>z=(.tuple #[])/\R (.T #[]) y)):Spec prog 64 #[.pointer q0] Z2 R:=M.start h ok
end Ep
namespace BQ
variable {De Dl x0c x0d QI JE C4 CU x1c x1d EG Dd VX x15 Me ek:Int}{p0e p1e uh p27:Option Addr}{n0e c0e n1e c1e n13 xJ n27 xK:Nat}
def M:Fw:=⟨prog,76,f76,[],[1],false,[],[],[(104,[(1,.X 89 [.I .u64,.I .i64,.I .i64,.I .i64,.L,.I .i64,.I .i64]),(13,wL),(14,wI),(15,wI)]),(232,[(1,.X 89 [.I .u64,.I .i64,.I .i64,.I .i64,.L,.I .i64,.I .i64]),(27,wL),(28,wI),(29,wI)])]⟩
def ok:M.Ok:=⟨AH.nil,mixed,func76,by kernel_rfl⟩
def GG:=M.pt 0
def Fg:=M.pt 1
def start (h:∀b1:Nat,Al Z2 λHr=>GG R De Dl x0c x0d p0e n0e c0e QI JE (aD Hr 0) 3 3 3 0 (Hp.set Z2 Hr (.cells #[.I x0d,.I QI,.I JE] 3 (0,0)))):Spec prog 76 #[.agg #[.U De,.I Dl,.I x0c,.I x0d,.slice p0e n0e c0e,.I QI,.I JE]] Z2 R:=M.start h ok
def BG (h:Br (x15<VX) (Pq uh λG Ux=>In x15 (n13:Int)/\LI .i64 Z2 G (Ux+x15.toNat*1) λMA=>Br (MA<0) (R (.B false) Z2) (Br (2147483647<MA) (R (.B false) Z2) (AL (x15+1)/\GG R C4 CU x1c x1d p1e n1e c1e EG Dd (aD G Ux) n13 xJ VX (x15+1) Z2))) (Fg R C4 CU x1c x1d p1e n1e c1e EG Dd p1e n1e c1e (n1e:Int) 0 Z2)):GG R C4 CU x1c x1d p1e n1e c1e EG Dd uh n13 xJ VX x15 Z2:=M.Uu h ok rfl λ_=>by kernel_rfl
def FY (h:Br (ek<Me) (Pq p27 λG o32=>In ek (n27:Int)/\LI .u64 Z2 G (o32+ek.toNat*1) λx33=>Br (0<ek) (AL (ek-1)/\Pq p1e λb42 o42=>In (ek-1) (n1e:Int)/\LI .u64 Z2 b42 (o42+Int.toNat (ek-1)*1) λmG=>Br (x33<=mG) (R (.B false) Z2) (AL (ek+1)/\Fg R C4 CU x1c x1d (aD b42 o42) n1e c1e EG Dd (aD G o32) n27 xK Me (ek+1) Z2)) (AL (ek+1)/\Fg R C4 CU x1c x1d p1e n1e c1e EG Dd (aD G o32) n27 xK Me (ek+1) Z2)) (Br (CU<=x1c) (R (.returned (.bool (decide ((n1e:Int)<=64)))) Z2) (R (.B false) Z2))):Fg R C4 CU x1c x1d p1e n1e c1e EG Dd p27 n27 xK Me ek Z2:=M.Uu h ok rfl λ_=>by kernel_rfl
end BQ
namespace DK
variable {q0 p1 p4c IW p6 p7 KS:Option Addr}{n1 c1 n4c c4c IX IY n6 c6 n7 c7 n14 JG:Nat}{Fs Hf x15 x16:Int}
def M:Fw:=⟨prog,79,f79,[110],[4,9],false,[],[],[(488,[(0,wQ),(4,.X 164 [.I .i64,.I .u64,.L,.L]),(6,wL),(7,wL),(14,wL),(15,wI),(16,wI)])]⟩
def ok:M.Ok:=⟨.cons call110 (AH.nil),mixed,func79,by kernel_rfl⟩
def Dq:=M.pt 0
def start (h:∀G:Nat,AG 110 #[] Z2 R (CS λuh n13 xJ y=>Dq R q0 0 0 none 0 0 none 0 0 uh n13 xJ none 0 0 p1 n1 c1 (n1:Int) 0 y)):Spec prog 79 #[.pointer q0,.slice p1 n1 c1] Z2 R:=M.start h ok
def Bk (h:Br (x16<x15) (Pq KS λbz oJ=>In x16 (n14:Int)/\∃Ju KR VA zk zl zm zn zo zp zq zr zt zu G,Az Z2 bz (oJ+x16.toNat*10) [.I Ju,.I KR,.string VA,.slice zk zl zm,.I zn,.I zo,.I zp,.slice zq zr zt,.bool zu,.I G]/\∀b9:Nat,AL ((n7:Int)-G)/\Pq p6 λWO cH=>In Ju (n6:Int)/\∃v30,Hp.ld Z2 ⟨WO,(cH+Ju.toNat*1),none⟩=some v30/\((0:Int)<=((n7:Int)-G)/\((n7:Int)-G)<=(n7:Int))/\(Al Z2 λUy=>(AI prog (Builtin.append_ #[206,206] 206 #[(.slice (aD Uy 0) 0 0),(.slice (E4 p7 (Int.toNat ((n7:Int)-G)) c7 4) (n7-Int.toNat ((n7:Int)-G)) (c7-Int.toNat ((n7:Int)-G)))]) (Hp.set Z2 Uy (.cells #[] 164 (0,0))) (CS λUz n37 U0 y=>Kp [WO] (Hp.set Z2 Uy (.cells #[] 164 (0,0))) y/\(∃(f38:Nat) (Jf Jg:Array Value),v30=.func (.func f38) Jf Jg/\Enters prog f38/\Spec prog f38 (Jf++#[.pointer q0,.agg #[.I Ju,.I KR,.string VA,.slice zk zl zm,.I zn,.I zo,.I zp,.slice zq zr zt,.bool zu,.I G],.slice Uz n37 U0]++Jg) y (Ab R (λz AE=>∃Nt Nu Nv Nw Nx Ny Nz N0 JO,z=(.tuple #[.agg #[.I Nt,.U Nu,.slice Nv Nw Nx,.slice Ny Nz N0],.I JO])/\Al AE λE2=>AI prog (Instr.storeAt 164 (.pointer (aD E2 0)) (.agg #[.I Nt,.U Nu,.slice Nv Nw Nx,.slice Ny Nz N0])) (Hp.set AE E2 (.cells #[.I 0,.U 0,.N,.N] 164 (0,0))) (λ_ AK=>Br (JO≠0) (R (.T #[.agg #[.I 0,.U 0,.N,.N],.I JO]) AK) (((0:Int)<=((n7:Int)-G)/\((n7:Int)-G)<=(c7:Int))/\∃R9 SA SB SC SD SE SF SG,Az AK E2 0 [.I R9,.U SA,.slice SB SC SD,.slice SE SF SG]/\Al AK λcU=>AI prog (Builtin.append_ #[206,206] 206 #[(.slice p7 (Int.toNat ((n7:Int)-G)) c7),(.slice (aD cU 0) 1 1)]) (Hp.set AK cU (.cells #[.I R9,.U SA,.slice SB SC SD,.slice SE SF SG] 164 (0,0))) (CS λjc n50 mH Am=>AL (x16+1)/\Dq R q0 Fs Hf p4c n4c c4c IW IX IY (aD WO cH) n6 c6 jc n50 mH (aD bz oJ) n14 JG x15 (x16+1) Am))))))/\(Al y λE2=>∃(f38:Nat) (Jf Jg:Array Value),v30=.func (.func f38) Jf Jg/\Enters prog f38/\Spec prog f38 (Jf++#[.pointer q0,.agg #[.I Ju,.I KR,.string VA,.slice zk zl zm,.I zn,.I zo,.I zp,.slice zq zr zt,.bool zu,.I G],.slice Uz n37 U0]++Jg) (Hp.set y E2 (.cells #[.I 0,.U 0,.N,.N] 164 (0,0))) (Ab R (λz AE=>∃Nt Nu Nv Nw Nx Ny Nz N0 JO,z=(.tuple #[.agg #[.I Nt,.U Nu,.slice Nv Nw Nx,.slice Ny Nz N0],.I JO])/\AI prog (Instr.storeAt 164 (.pointer (aD E2 0)) (.agg #[.I Nt,.U Nu,.slice Nv Nw Nx,.slice Ny Nz N0])) AE (λ_ AK=>Br (JO≠0) (R (.T #[.agg #[.I 0,.U 0,.N,.N],.I JO]) AK) (((0:Int)<=((n7:Int)-G)/\((n7:Int)-G)<=(c7:Int))/\∃R9 SA SB SC SD SE SF SG,Az AK E2 0 [.I R9,.U SA,.slice SB SC SD,.slice SE SF SG]/\Al AK λcU=>AI prog (Builtin.append_ #[206,206] 206 #[(.slice p7 (Int.toNat ((n7:Int)-G)) c7),(.slice (aD cU 0) 1 1)]) (Hp.set AK cU (.cells #[.I R9,.U SA,.slice SB SC SD,.slice SE SF SG] 164 (0,0))) (CS λjc n50 mH Am=>AL (x16+1)/\Dq R q0 Fs Hf p4c n4c c4c IW IX IY (aD WO cH) n6 c6 jc n50 mH (aD bz oJ) n14 JG x15 (x16+1) Am))))))))/\(Al (Hp.set Z2 Uy (.cells #[] 164 (0,0))) λE2=>AI prog (Builtin.append_ #[206,206] 206 #[(.slice (aD Uy 0) 0 0),(.slice (E4 p7 (Int.toNat ((n7:Int)-G)) c7 4) (n7-Int.toNat ((n7:Int)-G)) (c7-Int.toNat ((n7:Int)-G)))]) (Hp.set (Hp.set Z2 Uy (.cells #[] 164 (0,0))) E2 (.cells #[.I 0,.U 0,.N,.N] 164 (0,0))) (CS λUz n37 U0 y=>Kp [WO] (Hp.set (Hp.set Z2 Uy (.cells #[] 164 (0,0))) E2 (.cells #[.I 0,.U 0,.N,.N] 164 (0,0))) y/\∃(f38:Nat) (Jf Jg:Array Value),v30=.func (.func f38) Jf Jg/\Enters prog f38/\Spec prog f38 (Jf++#[.pointer q0,.agg #[.I Ju,.I KR,.string VA,.slice zk zl zm,.I zn,.I zo,.I zp,.slice zq zr zt,.bool zu,.I G],.slice Uz n37 U0]++Jg) y (Ab R (λz AE=>∃Nt Nu Nv Nw Nx Ny Nz N0 JO,z=(.tuple #[.agg #[.I Nt,.U Nu,.slice Nv Nw Nx,.slice Ny Nz N0],.I JO])/\AI prog (Instr.storeAt 164 (.pointer (aD E2 0)) (.agg #[.I Nt,.U Nu,.slice Nv Nw Nx,.slice Ny Nz N0])) AE (λ_ AK=>Br (JO≠0) (R (.T #[.agg #[.I 0,.U 0,.N,.N],.I JO]) AK) (((0:Int)<=((n7:Int)-G)/\((n7:Int)-G)<=(c7:Int))/\∃R9 SA SB SC SD SE SF SG,Az AK E2 0 [.I R9,.U SA,.slice SB SC SD,.slice SE SF SG]/\Al AK λcU=>AI prog (Builtin.append_ #[206,206] 206 #[(.slice p7 (Int.toNat ((n7:Int)-G)) c7),(.slice (aD cU 0) 1 1)]) (Hp.set AK cU (.cells #[.I R9,.U SA,.slice SB SC SD,.slice SE SF SG] 164 (0,0))) (CS λjc n50 mH Am=>AL (x16+1)/\Dq R q0 Fs Hf p4c n4c c4c IW IX IY (aD WO cH) n6 c6 jc n50 mH (aD bz oJ) n14 JG x15 (x16+1) Am))))))))/\(Al Z2 λE2=>Al (Hp.set Z2 E2 (.cells #[.I 0,.U 0,.N,.N] 164 (0,0))) λUy=>AI prog (Builtin.append_ #[206,206] 206 #[(.slice (aD Uy 0) 0 0),(.slice (E4 p7 (Int.toNat ((n7:Int)-G)) c7 4) (n7-Int.toNat ((n7:Int)-G)) (c7-Int.toNat ((n7:Int)-G)))]) (Hp.set (Hp.set Z2 E2 (.cells #[.I 0,.U 0,.N,.N] 164 (0,0))) Uy (.cells #[] 164 (0,0))) (CS λUz n37 U0 y=>Kp [WO] (Hp.set (Hp.set Z2 E2 (.cells #[.I 0,.U 0,.N,.N] 164 (0,0))) Uy (.cells #[] 164 (0,0))) y/\∃(f38:Nat) (Jf Jg:Array Value),v30=.func (.func f38) Jf Jg/\Enters prog f38/\Spec prog f38 (Jf++#[.pointer q0,.agg #[.I Ju,.I KR,.string VA,.slice zk zl zm,.I zn,.I zo,.I zp,.slice zq zr zt,.bool zu,.I G],.slice Uz n37 U0]++Jg) y (Ab R (λz AE=>∃Nt Nu Nv Nw Nx Ny Nz N0 JO,z=(.tuple #[.agg #[.I Nt,.U Nu,.slice Nv Nw Nx,.slice Ny Nz N0],.I JO])/\AI prog (Instr.storeAt 164 (.pointer (aD E2 0)) (.agg #[.I Nt,.U Nu,.slice Nv Nw Nx,.slice Ny Nz N0])) AE (λ_ AK=>Br (JO≠0) (R (.T #[.agg #[.I 0,.U 0,.N,.N],.I JO]) AK) (((0:Int)<=((n7:Int)-G)/\((n7:Int)-G)<=(c7:Int))/\∃R9 SA SB SC SD SE SF SG,Az AK E2 0 [.I R9,.U SA,.slice SB SC SD,.slice SE SF SG]/\Al AK λcU=>AI prog (Builtin.append_ #[206,206] 206 #[(.slice p7 (Int.toNat ((n7:Int)-G)) c7),(.slice (aD cU 0) 1 1)]) (Hp.set AK cU (.cells #[.I R9,.U SA,.slice SB SC SD,.slice SE SF SG] 164 (0,0))) (CS λjc n50 mH Am=>AL (x16+1)/\Dq R q0 Fs Hf p4c n4c c4c IW IX IY (aD WO cH) n6 c6 jc n50 mH (aD bz oJ) n14 JG x15 (x16+1) Am)))))))) (Pq p7 λPm o53=>In 0 (n7:Int)/\∃jh ji ARB ARC ARD jj jl jm,Az Z2 Pm o53 [.I jh,.U ji,.slice ARB ARC ARD,.slice jj jl jm]/\R (.T #[.agg #[.I jh,.U ji,.slice ARB ARC ARD,.slice jj jl jm],.I 0]) Z2)):Dq R q0 Fs Hf p4c n4c c4c IW IX IY p6 n6 c6 p7 n7 c7 KS n14 JG x15 x16 Z2:=M.Uu h ok rfl λ_=>by kernel_rfl
end DK
namespace By
variable {De Dl x8 x9:Int}{rV p3 p7:Option Addr}{gj rW n3 c3 n7 c7:Nat}
def M:Fw:=⟨prog,84,f84,[],[1,5],false,[],[],[(232,[(3,wL),(7,wL),(8,wI),(9,wI)]),(935,[(3,wL),(7,wL),(8,wI),(9,wI)])]⟩
def ok:M.Ok:=⟨AH.nil,mixed,func84,by kernel_rfl⟩
def A0:=M.pt 0
def Ii:=M.pt 1
def start (h:∀b1:Nat,A0 R none 0 0 rV gj rW (gj:Int) 0 Z2):Spec prog 84 #[.agg #[.U De,.I Dl,.slice rV gj rW]] Z2 R:=M.start h ok
def AX (h:Br (x9<x8) (Pq p7 λHL Je=>In x9 (n7:Int)/\∃IL oM AYZ AYa AYb AYc AYd AYe AYf G AYg,Az Z2 HL (Je+x9.toNat*9) [.U IL,.I oM,.I AYZ,.I AYa,.slice AYb AYc AYd,.I AYe,.I AYf,.bool G,.I AYg]/\∀b5:Nat,Bn G (Al Z2 λKA=>AI prog (GO 50 p3 n3 c3 KA) (Hp.set Z2 KA (.cells #[.I x9] 3 (0,0))) (CS λUH n20 Ry y=>Ii R UH n20 Ry (aD HL Je) n7 c7 x8 x9 y)) (Ii R p3 n3 c3 (aD HL Je) n7 c7 x8 x9 Z2)) (R (.returned (.slice p3 n3 c3)) Z2)):A0 R p3 n3 c3 p7 n7 c7 x8 x9 Z2:=M.of h ok rfl
def Eg (h:AL (x9+1)/\A0 R p3 n3 c3 p7 n7 c7 x8 (x9+1) Z2):Ii R p3 n3 c3 p7 n7 c7 x8 x9 Z2:=M.of h ok rfl
end By
namespace Gf
variable {s0:ByteArray}{x1:Int}
def M:Fw:=⟨prog,92,f92,[121],[],false,[],[],[]⟩
def ok:M.Ok:=⟨.cons call121 (AH.nil),mixed,func92,by kernel_rfl⟩
def start (h:AG 121 #[.string s0,.int .u8 x1] Z2 R (CI .i64 λx7 y=>R (.returned (.I x7)) y)):Spec prog 92 #[.string s0,.int .u8 x1] Z2 R:=M.start h ok
end Gf
namespace Ak
variable {q0 q1:Option Addr}{s2a s2b AKc AKd:ByteArray}{cG eV x11:Int}{b7:Nat}
def M:Fw:=⟨prog,99,f99,[97,98,122],[6],false,[(6,12,false)],[],[(56,[(0,wQ),(1,wQ),(7,wA),(10,.G [.T,.T]),(11,wI)])]⟩
def ok:M.Ok:=⟨.cons call97 (.cons call98 (.cons call122 (AH.nil))),mixed,func99,by kernel_rfl⟩
def jU:=M.pt 0
def start (h:∀b6:Nat,Al Z2 λb7=>jU R q0 q1 b7 s2a s2b 0 (Hp.set Z2 b7 (.cells #[.I cG,.I eV] 189 (0,0)))):Spec prog 99 #[.pointer q0,.pointer q1,.agg #[.string s2a,.string s2b],.agg #[.I cG,.I eV]] Z2 R:=M.start h ok
def M4 (h:Br (x11<2) (In x11 2/\∃G:ByteArray,[AKc,AKd][x11.toNat]?=some G/\AG 98 #[.pointer q0,.I 3,.string G] Z2 R (CB λt17 y=>Bo t17 (AG 97 #[.pointer q0] y R (λz AE=>∃Ju KR VA zv,z=(.agg #[.I Ju,.I KR,.string VA,.I zv])/\In x11 2/\LI .i64 AE b7 (0+x11.toNat*1) λPj=>AG 122 #[.pointer q0] AE R (CS λmD n26 mE AK=>Kp [b7] AE AK/\Pq q1 λzh zi=>AI prog (Instr.storeAt 3 (.pointer (aD zh (zi+6))) (.I Pj)) AK (λ_ Am=>AI prog (Instr.storeAt 125 (.pointer (aD zh (zi+7))) (.slice mD n26 mE)) Am (λ_ CL=>R (.T #[]) CL))))) (AL (x11+1)/\jU R q0 q1 b7 AKc AKd (x11+1) y))) (R (.T #[]) Z2)):jU R q0 q1 b7 AKc AKd x11 Z2:=M.of h ok rfl
end Ak
namespace DL
variable {s0 s1:ByteArray}
def M:Fw:=⟨prog,104,f104,[],[],false,[],[],[]⟩
def ok:M.Ok:=⟨AH.nil,mixed,func104,by kernel_rfl⟩
def start (h:EN prog 124 #[.string s0,.string s1] Z2 (CI .i64 λx7 y=>R (.returned (.I x7)) y)):Spec prog 104 #[.string s0,.string s1] Z2 R:=M.start h ok
end DL
namespace Xd
variable {x0 x1:Int}
def M:Fw:=⟨prog,115,f115,[],[],false,[],[],[]⟩
def ok:M.Ok:=⟨AH.nil,mixed,func115,by kernel_rfl⟩
def start (h:Br (x1<=x0) (R (.returned (.bool (decide (x0<2147483648)))) Z2) (R (.B false) Z2)):Spec prog 115 #[.I x0,.I x1] Z2 R:=M.start h ok
end Xd
namespace Ag
variable {q0 E5 FD p2 IW J5 JI Hy p9 ui VW p79 Jv aC q13:Option Addr}{C4 CU Ez EG Dd Dj Fs Hf J6 IC J7 Km Hw Hx GA Pj x80 x81 RD:Int}{E1 Jc:ByteArray}{E6 E7 E8 FE n2 c2 IX IY J8 J9 JJ JK Hz H0 n9 c9 n22 oD n15 TM n79 c79 Jw Jx n12 WR:Nat}{EO Kn:Bool}{m8:Option Nat}{ur:Value}
def M:Fw:=⟨prog,133,f133,[107,158,160,161,162],[4,6,11],false,[(17,11,false)],[],[(488,[(4,.X 127 [.I .i64,.I .i64,.T,.L,.I .i64,.I .i64,.I .i64,.L,.B,.I .i64]),(6,.X 164 [.I .i64,.I .u64,.L,.L]),(8,wM),(9,wL),(22,wL),(23,wI),(24,wI)]),(4072,[(6,.X 164 [.I .i64,.I .u64,.L,.L]),(14,wV),(15,wL),(79,wL),(80,wI),(81,wI)]),(62670,[(4,.X 127 [.I .i64,.I .i64,.T,.L,.I .i64,.I .i64,.I .i64,.L,.B,.I .i64]),(6,.X 164 [.I .i64,.I .u64,.L,.L]),(8,wM),(9,wL),(11,.X 109 [.L,.I .u64]),(12,wL),(22,wL),(23,wI),(24,wI)]),(125343,[(4,.X 127 [.I .i64,.I .i64,.T,.L,.I .i64,.I .i64,.I .i64,.L,.B,.I .i64]),(6,.X 164 [.I .i64,.I .u64,.L,.L]),(8,wM),(9,wL),(11,.X 109 [.L,.I .u64]),(13,wQ),(22,wL),(23,wI),(24,wI)])]⟩
def ok:M.Ok:=⟨.cons call107 (.cons call158 (.cons call160 (.cons call161 (.cons call162 (AH.nil))))),mixed,func133,by kernel_rfl⟩
def Dq:=M.pt 0
def AEk:=M.pt 1
def TQ:=M.pt 2
def zw:=M.pt 3
def start (h:∀b4:Nat,∀b6:Nat,AI prog (Instr.makeMap 242 none) Z2 (λz y=>∃G,z=(.map (some G))/\Pq p2 λgk oE=>In 0 (n2:Int)/\LS y gk (oE+2) λui n22 oD=>Dq R C4 CU E1 E5 E6 E7 Ez EG Dd FD E8 FE EO Dj 0 0 none 0 0 none 0 0 (some G) none 0 0 ui n22 oD (n22:Int) 0 y)):Spec prog 133 #[.pointer q0,.agg #[.I C4,.I CU,.string E1,.slice E5 E6 E7,.I Ez,.I EG,.I Dd,.slice FD E8 FE,.bool EO,.I Dj],.slice p2 n2 c2] Z2 R:=M.start h ok
def Bk (h:Br (Pj<GA) (Pq ui λmF o26=>In Pj (n22:Int)/\∃RF QL RG jf,Az Z2 mF (o26+Pj.toNat*2) [.slice RF QL RG,.U jf]/\∀E2:Nat,Br (J7=1) (AG 161 #[.slice RF QL RG,.slice J5 J8 J9] Z2 R (CS λp36 n36 c36 y=>TQ R Fs Hf Jc IW IX IY J6 IC J7 J5 J8 J9 Kn Km Hw Hx JI JJ JK Hy Hz H0 m8 p9 n9 c9 RF QL RG jf p36 n36 c36 (aD mF o26) n22 oD GA Pj y)) (Br (J7=2) (AG 162 #[.slice RF QL RG,.slice J5 J8 J9] Z2 R (CS λxN n43 xO y=>AG 158 #[.slice xN n43 xO] y R (CS λnz n44 yk AE=>TQ R Fs Hf Jc IW IX IY J6 IC J7 J5 J8 J9 Kn Km Hw Hx JI JJ JK Hy Hz H0 m8 p9 n9 c9 RF QL RG jf nz n44 yk (aD mF o26) n22 oD GA Pj AE))) (TQ R Fs Hf Jc IW IX IY J6 IC J7 J5 J8 J9 Kn Km Hw Hx JI JJ JK Hy Hz H0 m8 p9 n9 c9 RF QL RG jf none 0 0 (aD mF o26) n22 oD GA Pj Z2))) (AI prog (Instr.makeMap 247 none) Z2 (λz y=>∃G,z=(.map (some G))/\AI prog (Instr.mapUpdate 247 (.map (some G)) (.I 1) (.func (.func 163) #[] #[])) y (λ_ AE=>AI prog (Instr.mapUpdate 247 (.map (some G)) (.I 2) (.func (.func 164) #[] #[])) AE (λ_ AK=>AI prog (Instr.mapUpdate 247 (.map (some G)) (.I 3) (.func (.func 165) #[] #[])) AK (λ_ Am=>AI prog (Instr.mapUpdate 247 (.map (some G)) (.I 4) (.func (.func 166) #[] #[])) Am (λ_ CL=>AI prog (Instr.mapUpdate 247 (.map (some G)) (.I 5) (.func (.func 167) #[] #[])) CL (λ_ Gu=>AI prog (Instr.lookup 247 (.map (some G)) (.I Hf) false) Gu (λz EZ=>∃v78,v78=z/\AEk R Hw Hx JI JJ JK Hy Hz H0 v78 none 0 0 p9 n9 c9 (n9:Int) 0 EZ))))))))):Dq R Fs Hf Jc IW IX IY J6 IC J7 J5 J8 J9 Kn Km Hw Hx JI JJ JK Hy Hz H0 m8 p9 n9 c9 ui n22 oD GA Pj Z2:=M.nq h ok rfl λ_ _=>by kernel_rfl
def r7 (h:Br (x81<x80) (Pq p79 λb83 o83=>In x81 (n79:Int)/\LQ Z2 b83 (o83+x81.toNat*1) λq84=>Pq q84 λG o87=>LS Z2 G o87 λp89 n89 c89=>LS Z2 G (o87+1) λp94 n94 c94=>∃(f95:Nat) (jn jo:Array Value),ur=.func (.func f95) jn jo/\Enters prog f95/\Spec prog f95 (jn++#[.slice p94 n94 c94]++jo) Z2 (Ab R (CI .u64 λx95 y=>Kp [G] Z2 y/\Al y λb97=>AI prog (GO 105 VW n15 TM b97) (Hp.set y b97 (.cells #[.slice p89 n89 c89,.U x95] 109 (0,0))) (CS λp98 n98 c98 AE=>AL (x81+1)/\AEk R Hw Hx JI JJ JK Hy Hz H0 ur p98 n98 c98 (aD b83 o83) n79 c79 x80 (x81+1) AE)))) (AG 160 #[.slice VW n15 TM] Z2 R (λz y=>∃zx zy zz AAA AAB AAC AAD AAE AHX,z=(.tuple #[.agg #[.I zx,.U zy,.slice zz AAA AAB,.slice AAC AAD AAE],.I AHX])/\R (.T #[.agg #[.I zx,.U zy,.slice zz AAA AAB,.slice AAC AAD AAE],.I AHX]) y))):AEk R Hw Hx JI JJ JK Hy Hz H0 ur VW n15 TM p79 n79 c79 x80 x81 Z2:=M.Uu h ok rfl λ_=>by kernel_rfl
def Va (h:AG 107 #[.slice aC n12 WR] Z2 R (CT λs47 y=>AI prog (Instr.lookup 242 (.map m8) (.string s47) false) y (CQ λq48 AE=>Bo (Option.isNone q48) (Al AE λPm=>AG 107 #[.slice aC n12 WR] (Hp.set AE Pm (.cells #[.slice aC n12 WR,.N] 234 (0,0))) R (CT λs56 AK=>AI prog (Instr.mapUpdate 242 (.map m8) (.string s56) (.pointer (aD Pm 0))) AK (λ_ Am=>Al Am λG=>AI prog (GO 243 p9 n9 c9 G) (Hp.set Am G (.cells #[(.pointer (aD Pm 0))] 245 (0,0))) (CS λp61 n61 c61 CL=>zw R Fs Hf Jc IW IX IY J6 IC J7 J5 J8 J9 Kn Km Hw Hx JI JJ JK Hy Hz H0 m8 p61 n61 c61 Jv Jw Jx RD (aD Pm 0) ui n22 oD GA Pj CL)))) (zw R Fs Hf Jc IW IX IY J6 IC J7 J5 J8 J9 Kn Km Hw Hx JI JJ JK Hy Hz H0 m8 p9 n9 c9 Jv Jw Jx RD q48 ui n22 oD GA Pj AE)))):TQ R Fs Hf Jc IW IX IY J6 IC J7 J5 J8 J9 Kn Km Hw Hx JI JJ JK Hy Hz H0 m8 p9 n9 c9 Jv Jw Jx RD aC n12 WR ui n22 oD GA Pj Z2:=M.of3 h ok rfl λ_ _ _=>by kernel_rfl
def AEl (h:Pq q13 λG o64=>LS Z2 G (o64+1) λp66 zj ry=>Al Z2 λb69=>AI prog (GO 60 p66 zj ry b69) (Hp.set Z2 b69 (.cells #[.U RD] 27 (0,0))) (CS λp70 n70 c70 y=>AI prog (Instr.storeAt 60 (.pointer (aD G (o64+1))) (.slice p70 n70 c70)) y (λ_ AE=>AL (Pj+1)/\Dq R Fs Hf Jc IW IX IY J6 IC J7 J5 J8 J9 Kn Km Hw Hx JI JJ JK Hy Hz H0 m8 p9 n9 c9 ui n22 oD GA (Pj+1) AE))):zw R Fs Hf Jc IW IX IY J6 IC J7 J5 J8 J9 Kn Km Hw Hx JI JJ JK Hy Hz H0 m8 p9 n9 c9 Jv Jw Jx RD q13 ui n22 oD GA Pj Z2:=M.of3 h ok rfl λ_ _ _=>by kernel_rfl
end Ag
namespace Cs
variable {q0:Option Addr}{s1:ByteArray}
def M:Fw:=⟨prog,137,f137,[32,97,98],[],false,[],[],[(3,[(0,wQ)])]⟩
def ok:M.Ok:=⟨.cons call32 (.cons call97 (.cons call98 (AH.nil))),mixed,func137,by kernel_rfl⟩
def eX:=M.pt 0
def start (h:AG 98 #[.pointer q0,.I 5,.string s1] Z2 R (CB λt6 y=>Bn t6 (AG 32 #[.pointer q0] y R (λz G=>z=(.tuple #[])/\eX R q0 G)) (eX R q0 y))):Spec prog 137 #[.pointer q0,.string s1] Z2 R:=M.start h ok
def LD (h:AG 97 #[.pointer q0] Z2 R (λz y=>∃et RD ug G,z=(.agg #[.I et,.I RD,.string ug,.I G])/\R (.T #[]) y)):eX R q0 Z2:=M.of h ok rfl
end Cs
namespace SH
variable {x0:Int}
def M:Fw:=⟨prog,156,f156,[183,191,192],[],false,[],[],[]⟩
def ok:M.Ok:=⟨.cons call183 (.cons call191 (.cons call192 (AH.nil))),mixed,func156,by kernel_rfl⟩
def start (h:AG 192 #[.U x0] Z2 R (λz y=>∃x4,(Value.float .f64 x4)=z/\AG 191 #[(Value.float .f64 x4)] y R (λz G=>∃x5,(Value.float .f64 x5)=z/\AG 183 #[(Value.float .f64 x5)] G R (CI .u64 λx6 AK=>R (.returned (.U x6)) AK)))):Spec prog 156 #[.U x0] Z2 R:=M.start h ok
end SH
namespace Bd
variable {q0 E5 FD p2 LL LV Gq Gv Rf VW:Option Addr}{C4 CU Ez EG Dd Dj JM JN LP LR LU LZ E9 FI x16 x17:Int}{E1 Ji:ByteArray}{E6 E7 E8 FE n2 c2 LN LO LX LY Gr Gt Gw Gx n10 L6 n15 TM:Nat}{EO NG:Bool}{v3:Value}
def M:Fw:=⟨prog,169,f169,[116,158,160],[5,8,12],false,[],[],[(232,[(3,wV),(5,.X 127 [.I .i64,.I .i64,.T,.L,.I .i64,.I .i64,.I .i64,.L,.B,.I .i64]),(8,.X 164 [.I .i64,.I .u64,.L,.L]),(10,wL),(15,wL),(16,wI),(17,wI)]),(935,[(3,wV),(5,.X 127 [.I .i64,.I .i64,.T,.L,.I .i64,.I .i64,.I .i64,.L,.B,.I .i64]),(8,.X 164 [.I .i64,.I .u64,.L,.L]),(10,wL),(15,wL),(16,wI),(17,wI)])]⟩
def ok:M.Ok:=⟨.cons call116 (.cons call158 (.cons call160 (AH.nil))),mixed,func169,by kernel_rfl⟩
def A0:=M.pt 0
def Fg:=M.pt 1
def start (h:∀b5:Nat,∀G:Nat,A0 R v3 C4 CU E1 E5 E6 E7 Ez EG Dd FD E8 FE EO Dj 0 0 none 0 0 none 0 0 none 0 0 p2 n2 c2 (n2:Int) 0 Z2):Spec prog 169 #[.pointer q0,.agg #[.I C4,.I CU,.string E1,.slice E5 E6 E7,.I Ez,.I EG,.I Dd,.slice FD E8 FE,.bool EO,.I Dj],.slice p2 n2 c2,v3] Z2 R:=M.DJ h ok [(0,.o (.Q q0)),(1,.G [.I .i64 C4,.I .i64 CU,.T E1,.L E5 E6 E7,.I .i64 Ez,.I .i64 EG,.I .i64 Dd,.L FD E8 FE,.B EO,.I .i64 Dj]),(2,.o (.L p2 n2 c2)),(3,.o (.V v3))] rfl rfl (by kernel_rfl)
def AX (h:Br (x17<x16) (Pq VW λKA ae=>In x17 (n15:Int)/\∃G AEn AEo fD,Az Z2 KA (ae+x17.toNat*2) [.slice G AEn AEo,.U fD]/\∀HL:Nat,∃(f25:Nat) (AHY AHZ:Array Value),v3=.func (.func f25) AHY AHZ/\Enters prog f25/\Spec prog f25 (AHY++#[.U fD]++AHZ) Z2 (Ab R (λz y=>∃uj za,z=(.tuple #[.U uj,.bool za])/\AG 116 #[.I JN] y R (CB λt31 AE=>Bn t31 (AG 158 #[.slice G AEn AEo] AE R (CS λp40 n40 c40 AK=>Al AK λrv=>AI prog (GO 105 Rf n10 L6 rv) (Hp.set AK rv (.cells #[.slice p40 n40 c40,.U uj] 109 (0,0))) (CS λnz n44 yk Am=>Fg R v3 JM JN Ji LL LN LO LP LR LU LV LX LY NG LZ E9 FI Gq Gr Gt Gv Gw Gx nz n44 yk (aD KA ae) n15 TM x16 x17 Am))) (Bo NG (AG 158 #[.slice G AEn AEo] AE R (CS λp40 n40 c40 AK=>Al AK λrv=>AI prog (GO 105 Rf n10 L6 rv) (Hp.set AK rv (.cells #[.slice p40 n40 c40,.U uj] 109 (0,0))) (CS λnz n44 yk Am=>Fg R v3 JM JN Ji LL LN LO LP LR LU LV LX LY true LZ E9 FI Gq Gr Gt Gv Gw Gx nz n44 yk (aD KA ae) n15 TM x16 x17 Am))) (Bo za (Al AE λcU=>AI prog (GO 105 Rf n10 L6 cU) (Hp.set AE cU (.cells #[.slice G AEn AEo,.U fD] 109 (0,0))) (CS λjc n50 mH AK=>Fg R v3 JM JN Ji LL LN LO LP LR LU LV LX LY false LZ E9 FI Gq Gr Gt Gv Gw Gx jc n50 mH (aD KA ae) n15 TM x16 x17 AK)) (Fg R v3 JM JN Ji LL LN LO LP LR LU LV LX LY false LZ E9 FI Gq Gr Gt Gv Gw Gx Rf n10 L6 (aD KA ae) n15 TM x16 x17 AE))))))) (AG 160 #[.slice Rf n10 L6] Z2 R (λz y=>∃jq jr js jt ju jv jw jx ah,z=(.tuple #[.agg #[.I jq,.U jr,.slice js jt ju,.slice jv jw jx],.I ah])/\R (.T #[.agg #[.I jq,.U jr,.slice js jt ju,.slice jv jw jx],.I ah]) y))):A0 R v3 JM JN Ji LL LN LO LP LR LU LV LX LY NG LZ E9 FI Gq Gr Gt Gv Gw Gx Rf n10 L6 VW n15 TM x16 x17 Z2:=M.nq h ok rfl λ_ _=>by kernel_rfl
def FY (h:AL (x17+1)/\A0 R v3 JM JN Ji LL LN LO LP LR LU LV LX LY NG LZ E9 FI Gq Gr Gt Gv Gw Gx Rf n10 L6 VW n15 TM x16 (x17+1) Z2):Fg R v3 JM JN Ji LL LN LO LP LR LU LV LX LY NG LZ E9 FI Gq Gr Gt Gv Gw Gx Rf n10 L6 VW n15 TM x16 x17 Z2:=M.nq h ok rfl λ_ _=>by kernel_rfl
end Bd
namespace r8
variable {v0:Value}
def M:Fw:=⟨prog,183,f183,[224],[],false,[],[],[]⟩
def ok:M.Ok:=⟨.cons call224 (AH.nil),mixed,func183,by kernel_rfl⟩
def start (h:AG 224 #[v0] Z2 R (CB λt4 y=>Bo t4 (R (.returned (.U 9221120237041090560)) y) (EN prog 190 #[v0] y (CI .u64 λx6 G=>R (.returned (.U x6)) G)))):Spec prog 183 #[v0] Z2 R:=M.DJ h ok [(0,.o (.V v0))] rfl rfl (by kernel_rfl)
end r8
namespace jy
variable {x0 x1:Int}
def M:Fw:=⟨prog,200,f200,[213],[],false,[],[],[]⟩
def ok:M.Ok:=⟨.cons call213 (AH.nil),mixed,func200,by kernel_rfl⟩
def start (h:AG 213 #[.I 2,.U x0,.U x1] Z2 R (λz y=>∃H5 G,z=(.tuple #[.U H5,.bool G])/\R (.returned (.U H5)) y)):Spec prog 200 #[.U x0,.U x1] Z2 R:=M.start h ok
end jy
namespace DY
variable {p0 p5 p8:Option Addr}{n0 c0 n5 c5 n8 c8:Nat}{v1:Value}{x9 x10:Int}
def M:Fw:=⟨prog,207,f207,[],[7],false,[],[],[(232,[(1,wV),(5,wL),(8,wL),(9,wI),(10,wI)]),(935,[(1,wV),(5,wL),(8,wL),(9,wI),(10,wI)])]⟩
def ok:M.Ok:=⟨AH.nil,mixed,func207,by kernel_rfl⟩
def A0:=M.pt 0
def Ii:=M.pt 1
def start (h:A0 R v1 none 0 0 p0 n0 c0 (n0:Int) 0 Z2):Spec prog 207 #[.slice p0 n0 c0,v1] Z2 R:=M.DJ h ok [(0,.o (.L p0 n0 c0)),(1,.o (.V v1))] rfl rfl (by kernel_rfl)
def AX (h:Br (x10<x9) (Pq p8 λHL Je=>In x10 (n8:Int)/\∃G uu,Az Z2 HL (Je+x10.toNat*2) [.string G,.string uu]/\∀b7:Nat,∃(f16:Nat) (AHa AHb:Array Value),v1=.func (.func f16) AHa AHb/\Enters prog f16/\Spec prog f16 (AHa++#[.agg #[.string G,.string uu]]++AHb) Z2 (Ab R (CB λt16 y=>Bo t16 (Al y λKA=>AI prog (GO 95 p5 n5 c5 KA) (Hp.set y KA (.cells #[.string G,.string uu] 144 (0,0))) (CS λUH n20 Ry AE=>Ii R v1 UH n20 Ry (aD HL Je) n8 c8 x9 x10 AE)) (Ii R v1 p5 n5 c5 (aD HL Je) n8 c8 x9 x10 y)))) (R (.returned (.slice p5 n5 c5)) Z2)):A0 R v1 p5 n5 c5 p8 n8 c8 x9 x10 Z2:=M.of h ok rfl
def Eg (h:AL (x10+1)/\A0 R v1 p5 n5 c5 p8 n8 c8 x9 (x10+1) Z2):Ii R v1 p5 n5 c5 p8 n8 c8 x9 x10 Z2:=M.of h ok rfl
end DY
namespace IM
variable {s0a mA:ByteArray}{b1:Nat}
def M:Fw:=⟨prog,208,f208,[209],[2],false,[],[],[]⟩
def ok:M.Ok:=⟨.cons call209 (AH.nil),mixed,func208,by kernel_rfl⟩
def start (h:∀b2:Nat,LS Z2 b1 0 λp4 n4 c4=>AG 209 #[.slice p4 n4 c4,.string s0a] Z2 R (CB λt7 y=>R (.B t7) y)):Spec prog 208 #[.agg #[.string s0a,.string mA],(.pointer (aD b1 0))] Z2 R:=M.start h ok
end IM
namespace Xe
variable {x0 x1 x2:Int}
def M:Fw:=⟨prog,213,f213,[183,192],[],false,[],[],[]⟩
def ok:M.Ok:=⟨.cons call183 (.cons call192 (AH.nil)),mixed,func213,by kernel_rfl⟩
def start (h:AG 192 #[.U x1] Z2 R (λz y=>∃x11,(Value.float .f64 x11)=z/\AG 192 #[.U x2] y R (λz AE=>∃Fq,(Value.float .f64 Fq)=z/\Br (x0=1) (AI prog (binOp .add 258 (Value.float .f64 x11) (Value.float .f64 Fq)) AE (λz G=>∃Cd,(Value.float .f64 Cd)=z/\AG 183 #[(Value.float .f64 Cd)] G R (CI .u64 λPo Am=>R (.T #[.U Po,.bool true]) Am))) (Br (x0=2) (AI prog (binOp .sub 258 (Value.float .f64 x11) (Value.float .f64 Fq)) AE (λz G=>∃aV,(Value.float .f64 aV)=z/\AG 183 #[(Value.float .f64 aV)] G R (CI .u64 λaf Am=>R (.T #[.U af,.bool true]) Am))) (Br (x0=3) (AI prog (binOp .mul 258 (Value.float .f64 x11) (Value.float .f64 Fq)) AE (λz G=>∃ud,(Value.float .f64 ud)=z/\AG 183 #[(Value.float .f64 ud)] G R (CI .u64 λyq Am=>R (.T #[.U yq,.bool true]) Am))) (Br (x0=4) (AI prog (binOp .quo 258 (Value.float .f64 x11) (Value.float .f64 Fq)) AE (λz G=>∃U3,(Value.float .f64 U3)=z/\AG 183 #[(Value.float .f64 U3)] G R (CI .u64 λaS Am=>R (.T #[.U aS,.bool true]) Am))) (R (.T #[.U 0,.bool false]) AE))))))):Spec prog 213 #[.I x0,.U x1,.U x2] Z2 R:=M.start h ok
end Xe
namespace EE
variable {s0:ByteArray}{x1:Int}
def M:Fw:=⟨prog,222,f222,[243],[],false,[],[],[]⟩
def ok:M.Ok:=⟨.cons call243 (AH.nil),mixed,func222,by kernel_rfl⟩
def start (h:AG 243 #[.string s0,.I x1] Z2 R (λz y=>∃G U4 ARJ,z=(.tuple #[G,.I U4,ARJ])/\Br (U4≠(s0.size:Int)) (R (.T #[.float .f64 0,(.iface 311 (.I 2))]) y) (R (.T #[G,ARJ]) y))):Spec prog 222 #[.string s0,.I x1] Z2 R:=M.start h ok
end EE
namespace Ca
variable {gh p8:Option Addr}{Rx cC n8 c8:Nat}{s1:ByteArray}{x9 x10:Int}
def M:Fw:=⟨prog,248,f248,[272],[2,6],false,[],[],[(104,[(1,wT),(8,wL),(9,wI),(10,wI)])]⟩
def ok:M.Ok:=⟨.cons call272 (AH.nil),mixed,func248,by kernel_rfl⟩
def GG:=M.pt 0
def start (h:∀b2:Nat,GG R s1 gh Rx cC (Rx:Int) 0 Z2):Spec prog 248 #[.agg #[.slice gh Rx cC],.string s1] Z2 R:=M.start h ok
def BG (h:Br (x10<x9) (Pq p8 λHL Je=>In x10 (n8:Int)/\∃G ARL ARM,Az Z2 HL (Je+x10.toNat*1) [.slice G ARL ARM]/\∀b6:Nat,AG 272 #[.agg #[.slice G ARL ARM],.string s1] Z2 R (CB λt16 y=>Bo t16 (R (.B true) y) (AL (x10+1)/\GG R s1 (aD HL Je) n8 c8 x9 (x10+1) y))) (R (.B false) Z2)):GG R s1 p8 n8 c8 x9 x10 Z2:=M.of h ok rfl
end Ca
namespace DM
variable {s0 s1:ByteArray}
def M:Fw:=⟨prog,322,f322,[],[],false,[],[],[]⟩
def ok:M.Ok:=⟨AH.nil,mixed,func322,by kernel_rfl⟩
def start (h:Br (((s1.size:Int):Int)<=(s0.size:Int)) (AL ((s0.size:Int)-(s1.size:Int))/\∃G,YF prog (Instr.sliceAt 9 (.string s0) (some (.I ((s0.size:Int)-(s1.size:Int)))) none none) Z2 (.string G)/\R (.returned (.bool (ByteArray.toList G==ByteArray.toList s1))) Z2) (R (.B false) Z2)):Spec prog 322 #[.string s0,.string s1] Z2 R:=M.start h ok
end DM
end TwW
end
end
section
set_option maxRecDepth 100000
noncomputable section
namespace TwW
open Go Tw Go.Proofs.Tryz
variable [GF]{R:Rr}{Z2:Hp}

namespace Ld
variable {x0:Int}
def M:Fw:=⟨prog,25,f25,[],[],false,[],[],[]⟩
def ok:M.Ok:=⟨AH.nil,mixed,func25,by kernel_rfl⟩
def start (h:Br (((-1099511627776):Int)<=x0) (R (.returned (.bool (decide (x0<=1099511627776)))) Z2) (R (.B false) Z2)):Spec prog 25 #[.I x0] Z2 R:=M.start h ok
end Ld
namespace Ir
variable {De x8 x9:Int}{p0b p3 p7:Option Addr}{n0b c0b n3 c3 n7 c7:Nat}
def M:Fw:=⟨prog,26,f26,[55,56,57],[1,5],false,[],[],[(232,[(3,wL),(7,wL),(8,wI),(9,wI)])]⟩
def ok:M.Ok:=⟨.cons call55 (.cons call56 (.cons call57 (AH.nil))),mixed,func26,by kernel_rfl⟩
def A0:=M.pt 0
def start (h:∀b1:Nat,A0 R none 0 0 p0b n0b c0b (n0b:Int) 0 Z2):Spec prog 26 #[.agg #[.U De,.slice p0b n0b c0b]] Z2 R:=M.start h ok
def AX (h:Br (x9<x8) (Pq p7 λE2 aX=>In x9 (n7:Int)/\∃ew U4 ARN G ARO,Az Z2 E2 (aX+x9.toNat*3) [.I ew,.I U4,.slice ARN G ARO]/\∀b5:Nat,Al Z2 λUE=>AI prog (GO 50 p3 n3 c3 UE) (Hp.set Z2 UE (.cells #[.I ew] 3 (0,0))) (CS λrU n17 cM y=>AG 55 #[.I ew] y R (CB λt20 AE=>Bn t20 (R (.returned (.I 130)) AE) (Br (U4<1) (R (.returned (.I 130)) AE) (Br (3<U4) (R (.returned (.I 130)) AE) (Br ((G:Int)=0) (R (.returned (.I 130)) AE) (Br (64<(G:Int)) (R (.returned (.I 130)) AE) (AG 56 #[.slice ARN G ARO] AE R (CB λt47 AK=>Bn t47 (R (.returned (.I 130)) AK) (AL (x9+1)/\A0 R rU n17 cM (aD E2 aX) n7 c7 x8 (x9+1) AK)))))))))) (AG 57 #[.slice p3 n3 c3] Z2 R (CB λt52 y=>Bn t52 (R (.returned (.I 130)) y) (R (.returned (.I 0)) y)))):A0 R p3 n3 c3 p7 n7 c7 x8 x9 Z2:=M.of h ok rfl
end Ir
namespace KW
variable {q0:Option Addr}
def M:Fw:=⟨prog,31,f31,[],[2],false,[],[],[]⟩
def ok:M.Ok:=⟨AH.nil,mixed,func31,by kernel_rfl⟩
def start (h:∀b2:Nat,Pq q0 λb4 o4=>LS Z2 b4 o4 λp6 n6 c6=>Pq p6 λb7 o7=>In 0 (n6:Int)/\∃E9 FI G x8d,Az Z2 b7 o7 [.I E9,.I FI,.string G,.I x8d]/\R (.returned (.agg #[.I E9,.I FI,.string G,.I x8d])) Z2):Spec prog 31 #[.pointer q0] Z2 R:=M.start h ok
end KW
namespace BX
variable {p0 p1 p5:Option Addr}{n0 c0 n1 c1 n5 c5:Nat}
def M:Fw:=⟨prog,37,f37,[],[7],false,[(3,9,false)],[],[(224,[(0,wL),(1,wL),(5,wL)])]⟩
def ok:M.Ok:=⟨AH.nil,mixed,func37,by kernel_rfl⟩
def FV:=M.pt 0
def start (h:FV R p0 n0 c0 p1 n1 c1 none 0 0 Z2):Spec prog 37 #[.slice p0 n0 c0,.slice p1 n1 c1] Z2 R:=M.start h ok
def A9 (h:Br (0<(n0:Int)) (Br (0<(n1:Int)) (Pq p0 λFb Ux=>In 0 (n0:Int)/\∃Q9 RA,Az Z2 Fb Ux [.I Q9,.U RA]/\Pq p1 λgk oE=>In 0 (n1:Int)/\∃WQ U2,Az Z2 gk oE [.I WQ,.U U2]/\(Al Z2 λb6=>∀b7:Nat,AI prog (Instr.storeAt 111 (.pointer (aD b6 0)) (.agg #[.I Q9,.U RA])) (Hp.set Z2 b6 (.cells #[.I 0,.U 0] 111 (0,0))) (λ_ y=>Kp [gk] (Hp.set Z2 b6 (.cells #[.I 0,.U 0] 111 (0,0))) y/\LI .i64 y b6 0 λx39=>Br (x39<WQ) (∃Jy Jz,Az y b6 0 [.I Jy,.U Jz]/\((0:Int)<=1/\1<=(n0:Int))/\Al y λaW=>AI prog (GO 96 p5 n5 c5 aW) (Hp.set y aW (.cells #[.I Jy,.U Jz] 111 (0,0))) (CS λrY n46 oI G=>FV R ((E4 (aD Fb Ux) (1) c0 2)) (n0-1) (c0-1) (aD gk oE) n1 c1 rY n46 oI G)) (LI .i64 y b6 0 λx53=>Br (WQ<x53) (((0:Int)<=1/\1<=(n1:Int))/\Al y λQG=>AI prog (GO 96 p5 n5 c5 QG) (Hp.set y QG (.cells #[.I WQ,.U U2] 111 (0,0))) (CS λaB UG cE G=>FV R (aD Fb Ux) n0 c0 ((E4 (aD gk oE) (1) c1 2)) (n1-1) (c1-1) aB UG cE G)) (LI .i64 y b6 0 λPj=>LI .u64 y b6 1 λaf=>((0:Int)<=1/\1<=(n0:Int))/\((0:Int)<=1/\1<=(n1:Int))/\Al y λvD=>AI prog (GO 96 p5 n5 c5 vD) (Hp.set y vD (.cells #[.I Pj,(.U (if af<U2 then U2 else af))] 111 (0,0))) (CS λp32 n32 c32 G=>FV R ((E4 (aD Fb Ux) (1) c0 2)) (n0-1) (c0-1) ((E4 (aD gk oE) (1) c1 2)) (n1-1) (c1-1) p32 n32 c32 G)))))/\(∀b7:Nat,Al Z2 λb6=>AI prog (Instr.storeAt 111 (.pointer (aD b6 0)) (.agg #[.I Q9,.U RA])) (Hp.set Z2 b6 (.cells #[.I 0,.U 0] 111 (0,0))) (λ_ y=>Kp [gk] (Hp.set Z2 b6 (.cells #[.I 0,.U 0] 111 (0,0))) y/\LI .i64 y b6 0 λx39=>Br (x39<WQ) (∃Jy Jz,Az y b6 0 [.I Jy,.U Jz]/\((0:Int)<=1/\1<=(n0:Int))/\Al y λaW=>AI prog (GO 96 p5 n5 c5 aW) (Hp.set y aW (.cells #[.I Jy,.U Jz] 111 (0,0))) (CS λrY n46 oI G=>FV R ((E4 (aD Fb Ux) (1) c0 2)) (n0-1) (c0-1) (aD gk oE) n1 c1 rY n46 oI G)) (LI .i64 y b6 0 λx53=>Br (WQ<x53) (((0:Int)<=1/\1<=(n1:Int))/\Al y λQG=>AI prog (GO 96 p5 n5 c5 QG) (Hp.set y QG (.cells #[.I WQ,.U U2] 111 (0,0))) (CS λaB UG cE G=>FV R (aD Fb Ux) n0 c0 ((E4 (aD gk oE) (1) c1 2)) (n1-1) (c1-1) aB UG cE G)) (LI .i64 y b6 0 λPj=>LI .u64 y b6 1 λaf=>((0:Int)<=1/\1<=(n0:Int))/\((0:Int)<=1/\1<=(n1:Int))/\Al y λvD=>AI prog (GO 96 p5 n5 c5 vD) (Hp.set y vD (.cells #[.I Pj,(.U (if af<U2 then U2 else af))] 111 (0,0))) (CS λp32 n32 c32 G=>FV R ((E4 (aD Fb Ux) (1) c0 2)) (n0-1) (c0-1) ((E4 (aD gk oE) (1) c1 2)) (n1-1) (c1-1) p32 n32 c32 G)))))) (AI prog (Builtin.append_ #[96,96] 96 #[.slice p5 n5 c5,.slice p0 n0 c0]) Z2 (CS λp63 n63 c63 y=>AI prog (Builtin.append_ #[96,96] 96 #[.slice p63 n63 c63,.slice p1 n1 c1]) y (CS λp65 n65 c65 G=>R (.returned (.slice p65 n65 c65)) G)))) (AI prog (Builtin.append_ #[96,96] 96 #[.slice p5 n5 c5,.slice p0 n0 c0]) Z2 (CS λp63 n63 c63 y=>AI prog (Builtin.append_ #[96,96] 96 #[.slice p63 n63 c63,.slice p1 n1 c1]) y (CS λp65 n65 c65 G=>R (.returned (.slice p65 n65 c65)) G)))):FV R p0 n0 c0 p1 n1 c1 p5 n5 c5 Z2:=M.of h ok rfl
end BX
namespace ME
variable {p0:Option Addr}{n0 c0:Nat}
def M:Fw:=⟨prog,39,f39,[],[],false,[],[],[]⟩
def ok:M.Ok:=⟨AH.nil,mixed,func39,by kernel_rfl⟩
def start (h:Al Z2 λb3=>AI prog (Builtin.append_ #[95,95] 95 #[(.slice (aD b3 0) 0 0),.slice p0 n0 c0]) (Hp.set Z2 b3 (.cells #[] 144 (0,0))) (CS λp5 n5 c5 y=>R (.returned (.slice p5 n5 c5)) y)):Spec prog 39 #[.slice p0 n0 c0] Z2 R:=M.start h ok
end ME
namespace FM
variable {p0:Option Addr}{n0 c0:Nat}{x3:Int}
def M:Fw:=⟨prog,51,f51,[],[],false,[(4,12,true)],[],[(208,[(0,wL),(3,wI)])]⟩
def ok:M.Ok:=⟨AH.nil,mixed,func51,by kernel_rfl⟩
def FV:=M.pt 0
def start (h:FV R p0 n0 c0 1 Z2):Spec prog 51 #[.slice p0 n0 c0] Z2 R:=M.start h ok
def A9 (h:Br (x3<(n0:Int)) (Pq p0 λG Je=>In x3 (n0:Int)/\LI .i64 Z2 G (Je+x3.toNat*2) λVX=>AL (x3-1)/\In (x3-1) (n0:Int)/\LI .i64 Z2 G (Je+Int.toNat (x3-1)*2) λPo=>Br (VX<=Po) (R (.B false) Z2) (AL (x3+1)/\FV R (aD G Je) n0 c0 (x3+1) Z2)) (R (.returned (.bool (decide (0<(n0:Int))))) Z2)):FV R p0 n0 c0 x3 Z2:=M.of h ok rfl
end FM
namespace Ct
variable {s0:ByteArray}{t8:Bool}
def M:Fw:=⟨prog,60,f60,[92],[],false,[],[],[(28,[(0,wT)]),(213,[(0,wT),(8,wB)])]⟩
def ok:M.Ok:=⟨.cons call92 (AH.nil),mixed,func60,by kernel_rfl⟩
def AAF:=M.pt 0
def Fg:=M.pt 1
def start (h:Br ((1:Int)<(s0.size:Int)) (∃G,YF prog (Instr.sliceAt 9 (.string s0) none (some (.I 2)) none) Z2 (.string G)/\Bo ((ByteArray.toList G==ByteArray.toList (ByteArray.mk #[61,61]))) (Fg R s0 true Z2) (Bo ((ByteArray.toList G==ByteArray.toList (ByteArray.mk #[33,61]))) (Fg R s0 true Z2) (Bo ((ByteArray.toList G==ByteArray.toList (ByteArray.mk #[60,61]))) (Fg R s0 true Z2) (Bo ((ByteArray.toList G==ByteArray.toList (ByteArray.mk #[62,61]))) (Fg R s0 true Z2) (Bo ((ByteArray.toList G==ByteArray.toList (ByteArray.mk #[61,126]))) (Fg R s0 true Z2) (Fg R s0 ((ByteArray.toList G==ByteArray.toList (ByteArray.mk #[33,126]))) Z2)))))) (AAF R s0 Z2)):Spec prog 60 #[.string s0] Z2 R:=M.start h ok
def r9 (h:∃u18:UInt8,(0:Int)<=0/\(ByteArray.data s0)[Int.toNat 0]?=some u18/\AG 92 #[(.string (ByteArray.mk #[60,62,61,43,45,42,47,40,41,123,125,91,93,44])),(.int .u8 (u18.toNat:Int))] Z2 R (CI .i64 λCd y=>Br (0<=Cd) (∃G,YF prog (Instr.sliceAt 9 (.string s0) none (some (.I 1)) none) y (.string G)/\R (.returned (.string G)) y) (R (.returned (.string (ByteArray.mk #[]))) y))):AAF R s0 Z2:=M.of h ok rfl
def FY (h:Bo t8 (∃G,YF prog (Instr.sliceAt 9 (.string s0) none (some (.I 2)) none) Z2 (.string G)/\R (.returned (.string G)) Z2) (AAF R s0 Z2)):Fg R s0 t8 Z2:=M.of h ok rfl
end Ct
namespace Xf
variable {s0:ByteArray}
def M:Fw:=⟨prog,62,f62,[93,94],[],false,[],[],[]⟩
def ok:M.Ok:=⟨.cons call93 (.cons call94 (AH.nil)),mixed,func62,by kernel_rfl⟩
def start (h:AG 93 #[.string s0] Z2 R (CI .i64 λx6 y=>Br (x6=0) (R (.B false) y) (∃s12,YF prog (Instr.sliceAt 9 (.string s0) none (some (.I x6)) none) y (.string s12)/\AG 94 #[.string s12] y R (CB λt13 AE=>Bo t13 (R (.B false) AE) (Br (x6=(s0.size:Int)) (R (.returned (.bool (decide (x6<=15)))) AE) (AL (x6+1)/\∃s24,YF prog (Instr.sliceAt 9 (.string s0) (some (.I (x6+1))) none none) AE (.string s24)/\AG 93 #[.string s24] AE R (CI .i64 λG AK=>∃u28:UInt8,0<=x6/\(ByteArray.data s0)[x6.toNat]?=some u28/\Br (((u28.toNat:Int):Int)=46) (Br (0<G) (AL (x6+1)/\AL ((x6+1)+G)/\Br ((((x6+1)+G):Int)=(s0.size:Int)) (AL (x6+G)/\R (.returned (.bool (decide (((x6+G):Int)<=15)))) AK) (R (.B false) AK)) (R (.B false) AK)) (R (.B false) AK)))))))):Spec prog 62 #[.string s0] Z2 R:=M.start h ok
end Xf
namespace BC
variable {v0:Value}{b1 b3 n7 c7:Nat}{p7:Option Addr}{x8 x9:Int}
def M:Fw:=⟨prog,68,f68,[69,70,71],[100000],false,[],[],[(104,[(0,wV),(3,wA),(7,wL),(8,wI),(9,wI)]),(112,[(0,wV),(3,wA)]),(423,[(0,wV),(3,wA),(7,wL),(8,wI),(9,wI)])]⟩
def ok:M.Ok:=⟨.cons call69 (.cons call70 (.cons call71 (AH.nil))),mixed,func68,by kernel_rfl⟩
def GG:=M.pt 0
def NB:=M.pt 1
def RL:=M.pt 2
def start (h:Al Z2 λb3=>LS (Hp.set Z2 b3 (.cells #[.N] 147 (0,0))) b1 0 λp7 n7 c7=>GG R v0 b3 p7 n7 c7 (n7:Int) 0 (Hp.set Z2 b3 (.cells #[.N] 147 (0,0)))):Spec prog 68 #[v0,(.pointer (aD b1 0))] Z2 R:=M.DJ h ok [(0,.o (.V v0)),(1,.o (.A b1))] rfl rfl (by kernel_rfl)
def BG (h:Br (x9<x8) (Pq p7 λE2 G=>In x9 (n7:Int)/\LS Z2 E2 (G+x9.toNat*1) λaC n12 WR=>Br (0<(n12:Int)) (Al Z2 λKA=>AG 69 #[(.iface 149 (.pointer (aD b3 0))),(.iface 150 (.pointer (aD KA 0)))] (Hp.set Z2 KA (.cells #[.slice aC n12 WR] 152 (0,0))) R (λz y=>z=(.tuple #[])/\RL R v0 b3 (aD E2 G) n7 c7 x8 x9 y)) (RL R v0 b3 (aD E2 G) n7 c7 x8 x9 Z2)) (NB R v0 b3 Z2)):GG R v0 b3 p7 n7 c7 x8 x9 Z2:=M.of h ok rfl
def LG (h:LS Z2 b3 0 λl9 n23 eQ=>Br (0<(n23:Int)) (LS Z2 b3 0 λmD n26 mE=>Pq mD λzh zi=>In 0 (n26:Int)/\LQ Z2 zh zi λq28=>Pq q28 λvD G=>LS Z2 vD G λp33 n33 c33=>Pq p33 λb34 o34=>In 0 (n33:Int)/\∃AAG AAH AAI ARU ARV ARW,Az Z2 b34 o34 [.slice AAG AAH AAI,.slice ARU ARV ARW]/\∃l36:Nat,v0=.func (.yield l36) #[] #[]/\JY prog l36 #[.agg #[.slice AAG AAH AAI,.slice ARU ARV ARW]] Z2 (Ab R (CB λt36 y=>Bn t36 (R (.T #[]) y) (LS y vD G λp42 n42 c42=>((0:Int)<=1/\1<=(n42:Int))/\AI prog (Instr.storeAt 22 (.pointer (aD vD G)) (.slice (E4 p42 (1) c42 2) (n42-1) (c42-1))) y (λ_ AE=>LS AE vD G λp49 n49 c49=>Br ((n49:Int)=0) (AG 70 #[(.iface 149 (.pointer (aD b3 0)))] AE R (λz AK=>∃v53,v53=z/\NB R v0 b3 AK)) (AG 71 #[(.iface 149 (.pointer (aD b3 0))),.I 0] AE R (λz AK=>z=(.tuple #[])/\NB R v0 b3 AK))))))) (R (.T #[]) Z2)):NB R v0 b3 Z2:=M.of h ok rfl
def La (h:AL (x9+1)/\GG R v0 b3 p7 n7 c7 x8 (x9+1) Z2):RL R v0 b3 p7 n7 c7 x8 x9 Z2:=M.of h ok rfl
end BC
namespace ID
variable {v0 v1:Value}
def M:Fw:=⟨prog,69,f69,[102],[],false,[],[],[]⟩
def ok:M.Ok:=⟨.cons call102 (AH.nil),mixed,func69,by kernel_rfl⟩
def start (h:MC prog v0 AGo #[v1] Z2 (Ab R (λz y=>z=(.tuple #[])/\MC prog v0 yN #[] y (Ab R (CI .i64 λx9 G=>AL (x9-1)/\AG 102 #[v0,(.I (x9-1))] G R (λz AK=>z=(.tuple #[])/\R (.T #[]) AK)))))):Spec prog 69 #[v0,v1] Z2 R:=M.DJ h ok [(0,.o (.V v0)),(1,.o (.V v1))] rfl rfl (by kernel_rfl)
end ID
namespace Is
variable {p0 p6:Option Addr}{n0 c0 n6 c6:Nat}{x3 x7 x8:Int}
def M:Fw:=⟨prog,74,f74,[],[],false,[],[],[(232,[(3,wI),(6,wL),(7,wI),(8,wI)])]⟩
def ok:M.Ok:=⟨AH.nil,mixed,func74,by kernel_rfl⟩
def A0:=M.pt 0
def start (h:A0 R 0 p0 n0 c0 (n0:Int) 0 Z2):Spec prog 74 #[.slice p0 n0 c0] Z2 R:=M.start h ok
def AX (h:Br (x8<x7) (Pq p6 λDk G=>In x8 (n6:Int)/\LI .i64 Z2 Dk (G+x8.toNat*1) λx11=>Br (x11≠x3) (R (.returned (.I x11)) Z2) (AL (x8+1)/\A0 R x3 (aD Dk G) n6 c6 x7 (x8+1) Z2)) (R (.returned (.I x3)) Z2)):A0 R x3 p6 n6 c6 x7 x8 Z2:=M.of h ok rfl
end Is
namespace MF
variable {s0 s1:ByteArray}
def M:Fw:=⟨prog,75,f75,[104],[],false,[],[],[]⟩
def ok:M.Ok:=⟨.cons call104 (AH.nil),mixed,func75,by kernel_rfl⟩
def start (h:AG 104 #[.string s0,.string s1] Z2 R (CI .i64 λx7 y=>R (.returned (.I x7)) y)):Spec prog 75 #[.string s0,.string s1] Z2 R:=M.start h ok
end MF
namespace Er
variable {q0:Option Addr}
def M:Fw:=⟨prog,101,f101,[63],[],false,[],[],[]⟩
def ok:M.Ok:=⟨.cons call63 (AH.nil),mixed,func101,by kernel_rfl⟩
def start (h:AG 63 #[.pointer q0,(.func (.func 123) #[.pointer q0] #[]),.I 5,.I 10] Z2 R (λz y=>z=(.tuple #[])/\R (.T #[]) y)):Spec prog 101 #[.pointer q0] Z2 R:=M.start h ok
end Er
namespace Bl
noncomputable def K0:=f102.body.getD .skip
def K1:=cl K0
def K2:=cl K1
def K3:=cl K2
def K4:=cl K3
def K5:=cr K3
def K6:=cl K5
def K7:=cl K6
def K8:=cr K6
def K9:=cl K8
def rH:=cr K8
def K11:=cr K5
def K12:=cl K11
def K13:=cr K11
abbrev gl (R:Rr):Gl:=Gl.fn prog 102 23 R
def pt4 (R:Rr)(v0:Value)(x1:Int)(Z2:Hp):Prop:=∀(J:Env),At (gl R) [.code K4,.code K5,.inBlock 1,.inLoop K2,.inBlock 0] (MP J [(0,v0),(1,(.I x1))]) [] Z2
def start {R:Rr}{v0:Value}{x1:Int}{Z2:Hp}(h:AL (x1-1)/\2≠(0:Int)/\∀x7:Int,x7=IntKind.i64.wrap (Int.tdiv (x1-1) 2)->((x7:Int)=x1->R (.T #[]) Z2)/\(¬((x7:Int)=x1)->MC prog v0 T6 #[(.I x1),(.I x7)] Z2 (Ab R (λv Z1=>∃t15:Bool,v=(.bool t15)/\(t15=false->R (.T #[]) Z1)/\(t15=true->MC prog v0 T7 #[(.I x7),(.I x1)] Z1 (Ab R (λmB Cc=>mB=(.tuple #[])/\pt4 R v0 x7 Cc))))))):Spec prog 102 #[v0,(.I x1)] Z2 R:=by
 refine Spec.Vm (fn:=f102) (c:=K0) func102 (by kernel_rfl) (Ajo (by kernel_rfl)) (λe he=>?_);refine At.ofL (l:=[(0,v0),(1,(.I x1))]) ⟨he 0,he 1,trivial⟩ (λJ=>?_);show At (gl R) _ _ _ _
 refine At.b 0 K1 ?_;refine At.loop (x:=K2) (by kernel_rfl) ?_;refine At.b 1 K3 ?_;refine At.s K4 K5 ?_;refine At.rg 0 [0,1,2,3] ?_;refine Seq.u 5 (.I x1) ?_;obtain⟨hi,h⟩:=h;refine Seq.z 6 (.binOp .sub 3 (.tmp 5) (.const (.I 1)) 3) 3 (.I (x1-1)) (Y.tw hi rfl rfl) ?_;obtain⟨hc,h⟩:=h;obtain⟨x7,G⟩:∃y,y=IntKind.i64.wrap (Int.tdiv (x1-1) 2):=⟨_,rfl⟩
 replace h:=h x7 G
 refine Seq.y (d:=(some 7)) (op:=(.binOp .quo 3 (.tmp 6) (.const (.I 2)) 3)) (ty:=3) (v:=(.I x7)) (by kernel_rfl) rfl (G▸Y.quo hc rfl rfl) ?_;refine Seq.u 4 (.I x7) (Seq.done ?_);refine At.s K6 K11 (At.s K7 K8 ?_);refine At.rg 1 [0,1,2,3,4,5,6,7,8,9] ?_;refine Seq.us [(8,.I x7),(9,.I x1),(10,.bool (decide ((x7:Int)=x1))),(11,.bool (decide ((x7:Int)=x1)))] ?_;cases hb:(decide ((x7:Int)=x1)) with
 | true=>
  replace h:=h.1 (AjA hb)
  refine Seq.n 12 ?_;refine Seq.n 13 ?_;refine Seq.n 14 ?_;refine Seq.n 15 ?_;refine Seq.n 16 ?_;refine Seq.u 17 (.bool true) (Seq.done ?_);refine At.cT 17 K9 rH ?_;refine At.x 0 [] ?_;exact At.iC (rs:=[]) (vs:=[]) func102 (by kernel_rfl) rfl h
 | false=>
  replace h:=h.2 (AjX hb)
  refine Seq.us [(12,v0),(13,.I x1),(14,.I x7)] ?_;refine Seq.o ?_;refine AV.inv (g:=(gl R)) (u:=v0) (vs:=#[(.I x1),(.I x7)]) (name:=T6) (d:=(some 15)) (x:=(.tmp 12)) (xs:=#[(.tmp 13),(.tmp 14)]) (ts:=#[3,3]) (ty:=4) (gd:=(some (3,false))) (by kernel_rfl) rfl rfl rfl rfl (h.cont (λv Z1 h2=>?_));replace h:=h2;clear h2;obtain⟨t15,rfl,h⟩:=h;refine Seq.us [(16,.bool (!t15)),(17,.bool (!t15))] (Seq.done ?_);cases hb:(!t15) with
  | true=>
   replace h:=h.1 (Tw.nt hb)
   refine At.cT 17 K9 rH ?_;refine At.x 0 [] ?_;exact At.iC (rs:=[]) (vs:=[]) func102 (by kernel_rfl) rfl h
  | false=>
   replace h:=h.2 (Tw.nf hb)
   refine At.cF 17 K9 rH ?_;refine At.skip ?_;refine At.s K12 K13 ?_;refine At.rg 2 [0,1,2,3] ?_;refine Seq.us [(18,v0),(19,.I x7),(20,.I x1)] ?_;refine Seq.o ?_;refine AV.inv (g:=(gl R)) (u:=v0) (vs:=#[(.I x7),(.I x1)]) (name:=T7) (d:=(some 21)) (x:=(.tmp 18)) (xs:=#[(.tmp 19),(.tmp 20)]) (ts:=#[3,3]) (ty:=0) (gd:=none) (by kernel_rfl) rfl rfl rfl rfl (h.cont (λmB Cc h2=>?_));replace h:=h2;clear h2;obtain⟨rfl,h⟩:=h;refine Seq.done ?_;refine At.rg 3 [0,1] ?_;refine Seq.us [(22,.I x7),(1,.I x7)] (Seq.done ?_);refine At.inBlock ?_;refine At.inLoop ?_;refine At.b 1 K3 ?_;refine At.s K4 K5 ?_;exact At.v [(0,v0),(1,(.I x7))] (h _)
def AAK {R:Rr}{v0:Value}{x1:Int}{Z2:Hp}(h:AL (x1-1)/\2≠(0:Int)/\∀x7:Int,x7=IntKind.i64.wrap (Int.tdiv (x1-1) 2)->((x7:Int)=x1->R (.T #[]) Z2)/\(¬((x7:Int)=x1)->MC prog v0 T6 #[(.I x1),(.I x7)] Z2 (Ab R (λv Z1=>∃t15:Bool,v=(.bool t15)/\(t15=false->R (.T #[]) Z1)/\(t15=true->MC prog v0 T7 #[(.I x7),(.I x1)] Z1 (Ab R (λmB Cc=>mB=(.tuple #[])/\pt4 R v0 x7 Cc))))))):pt4 R v0 x1 Z2:=by
 intro J;show At (gl R) _ _ _ _
 refine At.rg 0 [0,1,2,3] ?_;refine Seq.u 5 (.I x1) ?_;obtain⟨hi,h⟩:=h;refine Seq.z 6 (.binOp .sub 3 (.tmp 5) (.const (.I 1)) 3) 3 (.I (x1-1)) (Y.tw hi rfl rfl) ?_;obtain⟨hc,h⟩:=h;obtain⟨x7,G⟩:∃y,y=IntKind.i64.wrap (Int.tdiv (x1-1) 2):=⟨_,rfl⟩
 replace h:=h x7 G
 refine Seq.y (d:=(some 7)) (op:=(.binOp .quo 3 (.tmp 6) (.const (.I 2)) 3)) (ty:=3) (v:=(.I x7)) (by kernel_rfl) rfl (G▸Y.quo hc rfl rfl) ?_;refine Seq.u 4 (.I x7) (Seq.done ?_);refine At.s K6 K11 (At.s K7 K8 ?_);refine At.rg 1 [0,1,2,3,4,5,6,7,8,9] ?_;refine Seq.us [(8,.I x7),(9,.I x1),(10,.bool (decide ((x7:Int)=x1))),(11,.bool (decide ((x7:Int)=x1)))] ?_;cases hb:(decide ((x7:Int)=x1)) with
 | true=>
  replace h:=h.1 (AjA hb)
  refine Seq.n 12 ?_;refine Seq.n 13 ?_;refine Seq.n 14 ?_;refine Seq.n 15 ?_;refine Seq.n 16 ?_;refine Seq.u 17 (.bool true) (Seq.done ?_);refine At.cT 17 K9 rH ?_;refine At.x 0 [] ?_;exact At.iC (rs:=[]) (vs:=[]) func102 (by kernel_rfl) rfl h
 | false=>
  replace h:=h.2 (AjX hb)
  refine Seq.us [(12,v0),(13,.I x1),(14,.I x7)] ?_;refine Seq.o ?_;refine AV.inv (g:=(gl R)) (u:=v0) (vs:=#[(.I x1),(.I x7)]) (name:=T6) (d:=(some 15)) (x:=(.tmp 12)) (xs:=#[(.tmp 13),(.tmp 14)]) (ts:=#[3,3]) (ty:=4) (gd:=(some (3,false))) (by kernel_rfl) rfl rfl rfl rfl (h.cont (λv Z1 h2=>?_));replace h:=h2;clear h2;obtain⟨t15,rfl,h⟩:=h;refine Seq.us [(16,.bool (!t15)),(17,.bool (!t15))] (Seq.done ?_);cases hb:(!t15) with
  | true=>
   replace h:=h.1 (Tw.nt hb)
   refine At.cT 17 K9 rH ?_;refine At.x 0 [] ?_;exact At.iC (rs:=[]) (vs:=[]) func102 (by kernel_rfl) rfl h
  | false=>
   replace h:=h.2 (Tw.nf hb)
   refine At.cF 17 K9 rH ?_;refine At.skip ?_;refine At.s K12 K13 ?_;refine At.rg 2 [0,1,2,3] ?_;refine Seq.us [(18,v0),(19,.I x7),(20,.I x1)] ?_;refine Seq.o ?_;refine AV.inv (g:=(gl R)) (u:=v0) (vs:=#[(.I x7),(.I x1)]) (name:=T7) (d:=(some 21)) (x:=(.tmp 18)) (xs:=#[(.tmp 19),(.tmp 20)]) (ts:=#[3,3]) (ty:=0) (gd:=none) (by kernel_rfl) rfl rfl rfl rfl (h.cont (λmB Cc h2=>?_));replace h:=h2;clear h2;obtain⟨rfl,h⟩:=h;refine Seq.done ?_;refine At.rg 3 [0,1] ?_;refine Seq.us [(22,.I x7),(1,.I x7)] (Seq.done ?_);refine At.inBlock ?_;refine At.inLoop ?_;refine At.b 1 K3 ?_;refine At.s K4 K5 ?_;exact At.v [(0,v0),(1,(.I x7))] (h _)
end Bl
namespace UO
variable {De Dl U6 QI JE MB C4 CU Ez EG Dd Dj:Int}{U7 E1:ByteArray}{cQ WV E5 FD:Option Addr}{ad cR VZ WW E6 E7 E8 FE:Nat}{RE EO:Bool}
def M:Fw:=⟨prog,112,f112,[],[2,3],false,[],[],[]⟩
def ok:M.Ok:=⟨AH.nil,mixed,func112,by kernel_rfl⟩
def start (h:∀b2:Nat,∀b3:Nat,Br (De=C4) (Br (Dl=CU) (Bo (ByteArray.toList U7==ByteArray.toList E1) (Br (U6=Ez) (Br (QI=EG) (Br (JE=Dd) (Bo RE (Bo EO (R (.returned (.bool (decide (MB=Dj)))) Z2) (R (.B false) Z2)) (Bo EO (R (.B false) Z2) (R (.returned (.bool (decide (MB=Dj)))) Z2))) (R (.B false) Z2)) (R (.B false) Z2)) (R (.B false) Z2)) (R (.B false) Z2)) (R (.B false) Z2)) (R (.B false) Z2)):Spec prog 112 #[.agg #[.I De,.I Dl,.string U7,.slice cQ ad cR,.I U6,.I QI,.I JE,.slice WV VZ WW,.bool RE,.I MB],.agg #[.I C4,.I CU,.string E1,.slice E5 E6 E7,.I Ez,.I EG,.I Dd,.slice FD E8 FE,.bool EO,.I Dj]] Z2 R:=M.start h ok
end UO
namespace Xg
variable {x0:Int}
def M:Fw:=⟨prog,117,f117,[],[],false,[],[],[]⟩
def ok:M.Ok:=⟨AH.nil,mixed,func117,by kernel_rfl⟩
def start (h:Br (1<=x0) (R (.returned (.bool (decide (x0<=4)))) Z2) (R (.B false) Z2)):Spec prog 117 #[.I x0] Z2 R:=M.start h ok
end Xg
namespace Av
variable {q0 p3:Option Addr}{n3 c3:Nat}
def M:Fw:=⟨prog,122,f122,[97,98,137,138],[],false,[],[],[(480,[(0,wQ),(3,wL)]),(965,[(0,wQ),(3,wL)])]⟩
def ok:M.Ok:=⟨.cons call97 (.cons call98 (.cons call137 (.cons call138 (AH.nil)))),mixed,func122,by kernel_rfl⟩
def CA:=M.pt 0
def RL:=M.pt 1
def start (h:AG 137 #[.pointer q0,(.string (ByteArray.mk #[40]))] Z2 R (λz y=>z=(.tuple #[])/\CA R q0 none 0 0 y)):Spec prog 122 #[.pointer q0] Z2 R:=M.start h ok
def A1 (h:AG 98 #[.pointer q0,.I 5,(.string (ByteArray.mk #[41]))] Z2 R (CB λt7 y=>Bn t7 (Br (0<(n3:Int)) (AG 137 #[.pointer q0,(.string (ByteArray.mk #[44]))] y R (λz G=>z=(.tuple #[])/\RL R q0 p3 n3 c3 G)) (RL R q0 p3 n3 c3 y)) (AG 97 #[.pointer q0] y R (λz G=>∃KT fD AYo AYp,z=(.agg #[.I KT,.I fD,.string AYo,.I AYp])/\R (.returned (.slice p3 n3 c3)) G)))):CA R q0 p3 n3 c3 Z2:=M.of h ok rfl
def La (h:AG 138 #[.pointer q0] Z2 R (CT λG y=>Al y λFb=>AI prog (GO 125 p3 n3 c3 Fb) (Hp.set y Fb (.cells #[.string G] 9 (0,0))) (CS λyd n18 xH AE=>CA R q0 yd n18 xH AE))):RL R q0 p3 n3 c3 Z2:=M.of h ok rfl
end Av
namespace Cv
variable {q0:Option Addr}
def M:Fw:=⟨prog,138,f138,[31,32,97,118],[],false,[],[],[(14,[(0,wQ)])]⟩
def ok:M.Ok:=⟨.cons call31 (.cons call32 (.cons call97 (.cons call118 (AH.nil)))),mixed,func138,by kernel_rfl⟩
def FV:=M.pt 0
def start (h:AG 31 #[.pointer q0] Z2 R (λz y=>∃Fs Hf Jc x4d,z=(.agg #[.I Fs,.I Hf,.string Jc,.I x4d])/\Br (Fs≠3) (AG 32 #[.pointer q0] y R (λz AE=>z=(.tuple #[])/\FV R q0 AE)) (AG 31 #[.pointer q0] y R (λz AE=>∃x9a x9b G x9d,z=(.agg #[.I x9a,.I x9b,.string G,.I x9d])/\AG 118 #[.string G] AE R (CB λt11 AK=>Bn t11 (AG 32 #[.pointer q0] AK R (λz Am=>z=(.tuple #[])/\FV R q0 Am)) (FV R q0 AK)))))):Spec prog 138 #[.pointer q0] Z2 R:=M.start h ok
def A9 (h:AG 97 #[.pointer q0] Z2 R (λz y=>∃TV jd zf G,z=(.agg #[.I TV,.I jd,.string zf,.I G])/\R (.returned (.string zf)) y)):FV R q0 Z2:=M.of h ok rfl
end Cv
namespace UP
variable {s0:ByteArray}
def M:Fw:=⟨prog,152,f152,[181,182,183],[],false,[],[],[]⟩
def ok:M.Ok:=⟨.cons call181 (.cons call182 (.cons call183 (AH.nil))),mixed,func152,by kernel_rfl⟩
def start (h:AG 181 #[.string s0] Z2 R (CB λt7 y=>Bn t7 (R (.T #[.U 0,.bool false]) y) (AG 182 #[.string s0,.I 64] y R (λz AE=>∃G vF,z=(.tuple #[G,vF])/\AG 183 #[G] AE R (CI .u64 λx15 AK=>R (.T #[.U x15,.bool true]) AK))))):Spec prog 152 #[.string s0] Z2 R:=M.start h ok
end UP
namespace UQ
variable {De Dl U6 QI JE MB x1 x2:Int}{U7:ByteArray}{cQ WV:Option Addr}{ad cR VZ WW:Nat}{RE:Bool}
def M:Fw:=⟨prog,168,f168,[213,214,215],[3],false,[],[],[]⟩
def ok:M.Ok:=⟨.cons call213 (.cons call214 (.cons call215 (AH.nil))),mixed,func168,by kernel_rfl⟩
def start (h:∀b3:Nat,AG 213 #[.I Dl,.U x1,.U x2] Z2 R (λz y=>∃TV zd,z=(.tuple #[.U TV,.bool zd])/\Bo zd (R (.T #[.U TV,.bool true]) y) (AG 214 #[.I Dl,.U x1,.U x2] y R (λz AE=>∃G AYr,z=(.tuple #[.bool G,.bool AYr])/\AG 215 #[.bool G] AE R (CI .u64 λud AK=>R (.T #[.U ud,.bool G]) AK))))):Spec prog 168 #[.agg #[.I De,.I Dl,.string U7,.slice cQ ad cR,.I U6,.I QI,.I JE,.slice WV VZ WW,.bool RE,.I MB],.U x1,.U x2] Z2 R:=M.start h ok
end UQ
namespace Ap
variable {q0 E5 FD p2 p3 LL LV Gq Gv KS yj p66:Option Addr}{C4 CU Ez EG Dd Dj JM JN LP LR LU LZ E9 FI eu U3 oL x68:Int}{E1 Ji:ByteArray}{E6 E7 E8 FE n2 c2 n3 c3 LN LO LX LY Gr Gt Gw Gx n14 JG n35 nu zj ry:Nat}{EO NG:Bool}{m10 m12:Option Nat}
def M:Fw:=⟨prog,172,f172,[107,160,216,217],[5,8,16,17,20,21],false,[],[],[(1000,[(3,wL),(5,.X 127 [.I .i64,.I .i64,.T,.L,.I .i64,.I .i64,.I .i64,.L,.B,.I .i64]),(8,.X 164 [.I .i64,.I .u64,.L,.L]),(10,wM),(12,wM),(14,wL),(35,wL),(36,wI),(37,wI)]),(2024,[(5,.X 127 [.I .i64,.I .i64,.T,.L,.I .i64,.I .i64,.I .i64,.L,.B,.I .i64]),(8,.X 164 [.I .i64,.I .u64,.L,.L]),(10,wM),(14,wL),(66,wL),(67,wI),(68,wI)]),(8103,[(5,.X 127 [.I .i64,.I .i64,.T,.L,.I .i64,.I .i64,.I .i64,.L,.B,.I .i64]),(8,.X 164 [.I .i64,.I .u64,.L,.L]),(10,wM),(14,wL),(66,wL),(67,wI),(68,wI)]),(4007,[(3,wL),(5,.X 127 [.I .i64,.I .i64,.T,.L,.I .i64,.I .i64,.I .i64,.L,.B,.I .i64]),(8,.X 164 [.I .i64,.I .u64,.L,.L]),(10,wM),(12,wM),(14,wL),(35,wL),(36,wI),(37,wI)])]⟩
def ok:M.Ok:=⟨.cons call107 (.cons call160 (.cons call216 (.cons call217 (AH.nil)))),mixed,func172,by kernel_rfl⟩
def AEq:=M.pt 0
def TQ:=M.pt 1
def R8:=M.pt 2
def SI:=M.pt 3
def start (h:∀b5:Nat,∀b8:Nat,AG 216 #[.agg #[.I C4,.I CU,.string E1,.slice E5 E6 E7,.I Ez,.I EG,.I Dd,.slice FD E8 FE,.bool EO,.I Dj],.slice p2 n2 c2] Z2 R (λz y=>∃G AYs,z=(.tuple #[.map G,.bool AYs])/\AG 216 #[.agg #[.I C4,.I CU,.string E1,.slice E5 E6 E7,.I Ez,.I EG,.I Dd,.slice FD E8 FE,.bool EO,.I Dj],.slice p3 n3 c3] y R (λz AE=>∃ARY AYt,z=(.tuple #[.map ARY,.bool AYt])/\AEq R p3 n3 c3 C4 CU E1 E5 E6 E7 Ez EG Dd FD E8 FE EO Dj 0 0 none 0 0 none 0 0 G ARY none 0 0 p2 n2 c2 (n2:Int) 0 AE))):Spec prog 172 #[.pointer q0,.agg #[.I C4,.I CU,.string E1,.slice E5 E6 E7,.I Ez,.I EG,.I Dd,.slice FD E8 FE,.bool EO,.I Dj],.slice p2 n2 c2,.slice p3 n3 c3] Z2 R:=M.start h ok
def sB (h:Br (U3<eu) (Pq yj λaH rn=>In U3 (n35:Int)/\∃G AAM AAN AEr,Az Z2 aH (rn+U3.toNat*2) [.slice G AAM AAN,.U AEr]/\∀UE:Nat,AG 217 #[.agg #[.I JM,.I JN,.string Ji,.slice LL LN LO,.I LP,.I LR,.I LU,.slice LV LX LY,.bool NG,.I LZ],.slice G AAM AAN] Z2 R (CS λrY n46 oI y=>AG 107 #[.slice rY n46 oI] y R (CT λs47 AE=>AI prog (Instr.lookup 291 (.map m12) (.string s47) true) AE (λz AK=>∃ARZ ARa ARb ARc ARd,z=(.tuple #[.agg #[.slice ARZ ARa ARb,.U ARc],.bool ARd])/\∀Fb:Nat,Br (JN=12) (Al AK λvG=>AI prog (GO 105 KS n14 JG vG) (Hp.set AK vG (.cells #[.slice G AAM AAN,.U AEr] 109 (0,0))) (CS λp64 zb c64 Am=>SI R p3 n3 c3 JM JN Ji LL LN LO LP LR LU LV LX LY NG LZ E9 FI Gq Gr Gt Gv Gw Gx m10 m12 p64 zb c64 (aD aH rn) n35 nu eu U3 Am)) (Bo ARd (Br (JN=11) (Al AK λvG=>AI prog (GO 105 KS n14 JG vG) (Hp.set AK vG (.cells #[.slice G AAM AAN,.U AEr] 109 (0,0))) (CS λp64 zb c64 Am=>SI R p3 n3 c3 JM JN Ji LL LN LO LP LR LU LV LX LY NG LZ E9 FI Gq Gr Gt Gv Gw Gx m10 m12 p64 zb c64 (aD aH rn) n35 nu eu U3 Am)) (SI R p3 n3 c3 JM JN Ji LL LN LO LP LR LU LV LX LY NG LZ E9 FI Gq Gr Gt Gv Gw Gx m10 m12 KS n14 JG (aD aH rn) n35 nu eu U3 AK)) (Br (JN=11) (SI R p3 n3 c3 JM JN Ji LL LN LO LP LR LU LV LX LY NG LZ E9 FI Gq Gr Gt Gv Gw Gx m10 m12 KS n14 JG (aD aH rn) n35 nu eu U3 AK) (Al AK λvG=>AI prog (GO 105 KS n14 JG vG) (Hp.set AK vG (.cells #[.slice G AAM AAN,.U AEr] 109 (0,0))) (CS λp64 zb c64 Am=>SI R p3 n3 c3 JM JN Ji LL LN LO LP LR LU LV LX LY NG LZ E9 FI Gq Gr Gt Gv Gw Gx m10 m12 p64 zb c64 (aD aH rn) n35 nu eu U3 Am)))))))) (TQ R JM JN Ji LL LN LO LP LR LU LV LX LY NG LZ E9 FI Gq Gr Gt Gv Gw Gx m10 KS n14 JG p3 n3 c3 (n3:Int) 0 Z2)):AEq R p3 n3 c3 JM JN Ji LL LN LO LP LR LU LV LX LY NG LZ E9 FI Gq Gr Gt Gv Gw Gx m10 m12 KS n14 JG yj n35 nu eu U3 Z2:=M.nq h ok rfl λ_ _=>by kernel_rfl
def Va (h:Br (x68<oL) (Pq p66 λG o70=>In x68 (zj:Int)/\∃AKk AKl AKm ARe,Az Z2 G (o70+x68.toNat*2) [.slice AKk AKl AKm,.U ARe]/\∀gk:Nat,AG 217 #[.agg #[.I JM,.I JN,.string Ji,.slice LL LN LO,.I LP,.I LR,.I LU,.slice LV LX LY,.bool NG,.I LZ],.slice AKk AKl AKm] Z2 R (CS λp77 n77 c77 y=>AG 107 #[.slice p77 n77 c77] y R (CT λs78 AE=>AI prog (Instr.lookup 291 (.map m10) (.string s78) true) AE (λz AK=>∃ARf ARg ARh ARi ARj,z=(.tuple #[.agg #[.slice ARf ARg ARh,.U ARi],.bool ARj])/\∀yi:Nat,Bn ARj (Br (JN=12) (Al AK λb91=>AI prog (GO 105 KS n14 JG b91) (Hp.set AK b91 (.cells #[.slice AKk AKl AKm,.U ARe] 109 (0,0))) (CS λp92 n92 c92 Am=>R8 R JM JN Ji LL LN LO LP LR LU LV LX LY NG LZ E9 FI Gq Gr Gt Gv Gw Gx m10 p92 n92 c92 (aD G o70) zj ry oL x68 Am)) (R8 R JM JN Ji LL LN LO LP LR LU LV LX LY NG LZ E9 FI Gq Gr Gt Gv Gw Gx m10 KS n14 JG (aD G o70) zj ry oL x68 AK)) (R8 R JM JN Ji LL LN LO LP LR LU LV LX LY NG LZ E9 FI Gq Gr Gt Gv Gw Gx m10 KS n14 JG (aD G o70) zj ry oL x68 AK))))) (AG 160 #[.slice KS n14 JG] Z2 R (λz y=>∃AHd AHe AHf AHg AHh AHi AHj AHk ARk,z=(.tuple #[.agg #[.I AHd,.U AHe,.slice AHf AHg AHh,.slice AHi AHj AHk],.I ARk])/\R (.T #[.agg #[.I AHd,.U AHe,.slice AHf AHg AHh,.slice AHi AHj AHk],.I ARk]) y))):TQ R JM JN Ji LL LN LO LP LR LU LV LX LY NG LZ E9 FI Gq Gr Gt Gv Gw Gx m10 KS n14 JG p66 zj ry oL x68 Z2:=M.nq h ok rfl λ_ _=>by kernel_rfl
def fC (h:AL (x68+1)/\TQ R JM JN Ji LL LN LO LP LR LU LV LX LY NG LZ E9 FI Gq Gr Gt Gv Gw Gx m10 KS n14 JG p66 zj ry oL (x68+1) Z2):R8 R JM JN Ji LL LN LO LP LR LU LV LX LY NG LZ E9 FI Gq Gr Gt Gv Gw Gx m10 KS n14 JG p66 zj ry oL x68 Z2:=M.nq h ok rfl λ_ _=>by kernel_rfl
def fE (h:AL (U3+1)/\AEq R p3 n3 c3 JM JN Ji LL LN LO LP LR LU LV LX LY NG LZ E9 FI Gq Gr Gt Gv Gw Gx m10 m12 KS n14 JG yj n35 nu eu (U3+1) Z2):SI R p3 n3 c3 JM JN Ji LL LN LO LP LR LU LV LX LY NG LZ E9 FI Gq Gr Gt Gv Gw Gx m10 m12 KS n14 JG yj n35 nu eu U3 Z2:=M.nq h ok rfl λ_ _=>by kernel_rfl
end Ap
namespace Es
variable {p0 p1:Option Addr}{n0 c0 n1 c1:Nat}
def M:Fw:=⟨prog,201,f201,[202],[],false,[],[],[]⟩
def ok:M.Ok:=⟨.cons call202 (AH.nil),mixed,func201,by kernel_rfl⟩
def start (h:AG 202 #[.slice p0 n0 c0] Z2 R (CI .u64 λx6 y=>R (.returned (.U x6)) y)):Spec prog 201 #[.slice p0 n0 c0,.slice p1 n1 c1] Z2 R:=M.start h ok
end Es
namespace MG
variable {s0a mA:ByteArray}{b1:Nat}
def M:Fw:=⟨prog,210,f210,[209],[2],false,[],[],[]⟩
def ok:M.Ok:=⟨.cons call209 (AH.nil),mixed,func210,by kernel_rfl⟩
def start (h:∀b2:Nat,LS Z2 b1 0 λp4 n4 c4=>AG 209 #[.slice p4 n4 c4,.string s0a] Z2 R (CB λt7 y=>R (.returned (.bool (!t7))) y)):Spec prog 210 #[.agg #[.string s0a,.string mA],(.pointer (aD b1 0))] Z2 R:=M.start h ok
end MG
namespace SJ
variable {x0 x1 x2:Int}
def M:Fw:=⟨prog,214,f214,[192],[],false,[],[],[]⟩
def ok:M.Ok:=⟨.cons call192 (AH.nil),mixed,func214,by kernel_rfl⟩
def start (h:AG 192 #[.U x1] Z2 R (λz y=>∃x11,(Value.float .f64 x11)=z/\AG 192 #[.U x2] y R (λz G=>∃Fq,(Value.float .f64 Fq)=z/\Br (x0=5) (∃t19,YF prog ((do eqGuard .eql 258 (.tmp 17) (.tmp 18) (Value.float .f64 x11) (Value.float .f64 Fq);binOp .eql 258 (Value.float .f64 x11) (Value.float .f64 Fq))) G (.bool t19)/\R (.T #[.bool t19,.bool true]) G) (Br (x0=6) (∃t24,YF prog ((do eqGuard .neq 258 (.tmp 22) (.tmp 23) (Value.float .f64 x11) (Value.float .f64 Fq);binOp .neq 258 (Value.float .f64 x11) (Value.float .f64 Fq))) G (.bool t24)/\R (.T #[.bool t24,.bool true]) G) (Br (x0=7) (∃t29,YF prog ((do eqGuard .lss 258 (.tmp 27) (.tmp 28) (Value.float .f64 x11) (Value.float .f64 Fq);binOp .lss 258 (Value.float .f64 x11) (Value.float .f64 Fq))) G (.bool t29)/\R (.T #[.bool t29,.bool true]) G) (Br (x0=8) (∃t34,YF prog ((do eqGuard .leq 258 (.tmp 32) (.tmp 33) (Value.float .f64 x11) (Value.float .f64 Fq);binOp .leq 258 (Value.float .f64 x11) (Value.float .f64 Fq))) G (.bool t34)/\R (.T #[.bool t34,.bool true]) G) (Br (x0=9) (∃t39,YF prog ((do eqGuard .gtr 258 (.tmp 37) (.tmp 38) (Value.float .f64 x11) (Value.float .f64 Fq);binOp .gtr 258 (Value.float .f64 x11) (Value.float .f64 Fq))) G (.bool t39)/\R (.T #[.bool t39,.bool true]) G) (Br (x0=10) (∃t44,YF prog ((do eqGuard .geq 258 (.tmp 42) (.tmp 43) (Value.float .f64 x11) (Value.float .f64 Fq);binOp .geq 258 (Value.float .f64 x11) (Value.float .f64 Fq))) G (.bool t44)/\R (.T #[.bool t44,.bool true]) G) (R (.T #[.bool false,.bool false]) G))))))))):Spec prog 214 #[.I x0,.U x1,.U x2] Z2 R:=M.start h ok
end SJ
namespace strings_Split
variable {s0 s1:ByteArray}
end strings_Split
namespace HW
variable {p0 E5 FD p2:Option Addr}{n0 c0 E6 E7 E8 FE n2 c2 b3:Nat}{C4 CU Ez EG Dd Dj:Int}{E1:ByteArray}{EO:Bool}
def M:Fw:=⟨prog,233,f233,[],[5],false,[],[],[]⟩
def ok:M.Ok:=⟨AH.nil,mixed,func233,by kernel_rfl⟩
def start (h:∀b5:Nat,∃v9,Hp.ld Z2 ⟨b3,0,none⟩=some v9/\∃(f11:Nat) (G jS:Array Value),v9=.func (.func f11) G jS/\Enters prog f11/\Spec prog f11 (G++#[.slice p0 n0 c0]++jS) Z2 (Ab R (CI .u64 λx11 y=>R (.T #[.U x11,.bool true]) y))):Spec prog 233 #[.slice p0 n0 c0,.agg #[.I C4,.I CU,.string E1,.slice E5 E6 E7,.I Ez,.I EG,.I Dd,.slice FD E8 FE,.bool EO,.I Dj],.slice p2 n2 c2,(.pointer (aD b3 0))] Z2 R:=M.start h ok
end HW
namespace Lf
variable {p0 E5 FD p2:Option Addr}{n0 c0 E6 E7 E8 FE n2 c2 b3:Nat}{C4 CU Ez EG Dd Dj:Int}{E1:ByteArray}{EO:Bool}
def M:Fw:=⟨prog,235,f235,[],[5],false,[],[],[]⟩
def ok:M.Ok:=⟨AH.nil,mixed,func235,by kernel_rfl⟩
def start (h:∀b5:Nat,Br ((n0:Int)<2) (R (.T #[.U 0,.bool false]) Z2) (∃v12,Hp.ld Z2 ⟨b3,0,none⟩=some v12/\∃(f15:Nat) (G AHm:Array Value),v12=.func (.func f15) G AHm/\Enters prog f15/\Spec prog f15 (G++#[.slice p0 n0 c0,.slice p2 n2 c2]++AHm) Z2 (Ab R (CI .u64 λx15 y=>R (.T #[.U x15,.bool true]) y)))):Spec prog 235 #[.slice p0 n0 c0,.agg #[.I C4,.I CU,.string E1,.slice E5 E6 E7,.I Ez,.I EG,.I Dd,.slice FD E8 FE,.bool EO,.I Dj],.slice p2 n2 c2,(.pointer (aD b3 0))] Z2 R:=M.start h ok
end Lf
namespace AP
variable {q0:Option Addr}{b2:Nat}{t4:Bool}
def M:Fw:=⟨prog,242,f242,[31,32,97,98,100,137,263,264,265,266],[3],false,[],[],[(124,[(0,wQ),(2,wA),(4,wB)]),(252,[(0,wQ),(2,wA)]),(508,[(0,wQ),(2,wA)]),(255,[(0,wQ),(2,wA)])]⟩
def ok:M.Ok:=⟨.cons call31 (.cons call32 (.cons call97 (.cons call98 (.cons call100 (.cons call137 (.cons call263 (.cons call264 (.cons call265 (.cons call266 (AH.nil)))))))))),mixed,func242,by kernel_rfl⟩
def GQ:=M.pt 0
def HF:=M.pt 1
def Ns:=M.pt 2
def WZ:=M.pt 3
def start (h:Al Z2 λb2=>AI prog (Instr.storeAt 127 (.pointer (aD b2 0)) (.agg #[.I 2,.I 0,(.string (ByteArray.mk #[])),.N,.I 0,.I 0,.I 0,.N,.bool false,.I 0])) (Hp.set Z2 b2 (.cells #[.I 0,.I 0,(.string (ByteArray.mk #[])),.N,.I 0,.I 0,.I 0,.N,.bool false,.I 0] 127 (0,0))) (λ_ y=>AG 31 #[.pointer q0] y R (λz G=>∃x7a x7b s7c x7d,z=(.agg #[.I x7a,.I x7b,.string s7c,.I x7d])/\∀b3:Nat,Br (x7a=3) (AG 263 #[.string s7c] G R (CB λt14 AK=>Bn t14 (AG 97 #[.pointer q0] AK R (λz Am=>∃Ju KR VA zv,z=(.agg #[.I Ju,.I KR,.string VA,.I zv])/\AG 264 #[.pointer q0,(.pointer (aD b2 0)),(.agg #[.I 1,(.string (ByteArray.mk #[95,95,110,97,109,101,95,95])),.string s7c]),.agg #[.I x7a,.I x7b,.string s7c,.I x7d]] Am R (λz CL=>z=(.tuple #[])/\GQ R q0 b2 true CL))) (GQ R q0 b2 false AK))) (GQ R q0 b2 false G)))):Spec prog 242 #[.pointer q0] Z2 R:=M.start h ok
def EA (h:AG 98 #[.pointer q0,.I 5,(.string (ByteArray.mk #[123]))] Z2 R (CB λt27 y=>Bo t27 (AG 97 #[.pointer q0] y R (λz G=>∃AEs ze AYw AYx,z=(.agg #[.I AEs,.I ze,.string AYw,.I AYx])/\AG 265 #[.pointer q0,(.pointer (aD b2 0))] G R (λz AK=>z=(.tuple #[])/\HF R q0 b2 AK))) (Bn t4 (AG 32 #[.pointer q0] y R (λz G=>z=(.tuple #[])/\HF R q0 b2 G)) (HF R q0 b2 y)))):GQ R q0 b2 t4 Z2:=M.of h ok rfl
def Ea (h:AG 98 #[.pointer q0,.I 5,(.string (ByteArray.mk #[91]))] Z2 R (CB λt37 y=>Bo t37 (AG 97 #[.pointer q0] y R (λz AE=>∃AYy AYz G AY1,z=(.agg #[.I AYy,.I AYz,.string G,.I AY1])/\AG 266 #[.pointer q0] AE R (CI .i64 λx41 AK=>AI prog (Instr.storeAt 3 (.pointer (aD b2 0)) (.I 3)) AK (λ_ Am=>AI prog (Instr.storeAt 2 (.pointer (aD b2 4)) (.I x41)) Am (λ_ CL=>AG 137 #[.pointer q0,(.string (ByteArray.mk #[93]))] CL R (λz Gu=>z=(.tuple #[])/\Ns R q0 b2 Gu)))))) (Ns R q0 b2 y))):HF R q0 b2 Z2:=M.of h ok rfl
def Lc (h:AG 98 #[.pointer q0,.I 3,(.string (ByteArray.mk #[111,102,102,115,101,116]))] Z2 R (CB λt47 y=>Bo t47 (AG 97 #[.pointer q0] y R (λz AE=>∃G AY3 AY4 AY5,z=(.agg #[.I G,.I AY3,.string AY4,.I AY5])/\AG 266 #[.pointer q0] AE R (CI .i64 λx51 AK=>AI prog (Instr.storeAt 2 (.pointer (aD b2 5)) (.I x51)) AK (λ_ Am=>WZ R q0 b2 Am)))) (WZ R q0 b2 y))):Ns R q0 b2 Z2:=M.of h ok rfl
def R5 (h:∃jh ji G jj jl jm AAP AAQ AAR AAS AAT AAU AAV AAW,Az Z2 b2 0 [.I jh,.I ji,.string G,.slice jj jl jm,.I AAP,.I AAQ,.I AAR,.slice AAS AAT AAU,.bool AAV,.I AAW]/\AG 100 #[.pointer q0,.agg #[.I jh,.I ji,.string G,.slice jj jl jm,.I AAP,.I AAQ,.I AAR,.slice AAS AAT AAU,.bool AAV,.I AAW]] Z2 R (λz y=>z=(.tuple #[])/\R (.T #[]) y)):WZ R q0 b2 Z2:=M.of h ok rfl
end AP
namespace Ai
variable {q0 q1:Option Addr}{t4:Bool}{JM:Int}{s5b Ji:ByteArray}
def M:Fw:=⟨prog,265,f265,[31,32,95,97,98,137,138,264],[5,6],false,[],[],[(80,[(0,wQ),(1,wQ),(4,wB)]),(658,[(0,wQ),(1,wQ)]),(5278,[(0,wQ),(1,wQ),(5,.X 172 [.I .i64,.T,.T])]),(21118,[(0,wQ),(1,wQ),(5,.X 172 [.I .i64,.T,.T])])]⟩
def ok:M.Ok:=⟨.cons call31 (.cons call32 (.cons call95 (.cons call97 (.cons call98 (.cons call137 (.cons call138 (.cons call264 (AH.nil)))))))),mixed,func265,by kernel_rfl⟩
def jU:=M.pt 0
def HG:=M.pt 1
def SI:=M.pt 2
def Ns:=M.pt 3
def start (h:jU R q0 q1 true Z2):Spec prog 265 #[.pointer q0,.pointer q1] Z2 R:=M.start h ok
def M4 (h:AG 98 #[.pointer q0,.I 5,(.string (ByteArray.mk #[125]))] Z2 R (CB λt8 y=>Bn t8 (Bn t4 (AG 137 #[.pointer q0,(.string (ByteArray.mk #[44]))] y R (λz G=>z=(.tuple #[])/\HG R q0 q1 G)) (HG R q0 q1 y)) (AG 97 #[.pointer q0] y R (λz G=>∃ux ah AY6 AY7,z=(.agg #[.I ux,.I ah,.string AY6,.I AY7])/\R (.T #[]) G)))):jU R q0 q1 t4 Z2:=M.of h ok rfl
def CC (h:AG 138 #[.pointer q0] Z2 R (CT λG y=>∀b5:Nat,Al y λFb=>AG 31 #[.pointer q0] (Hp.set y Fb (.cells #[(.string (ByteArray.mk #[])),(.string (ByteArray.mk #[61])),(.string (ByteArray.mk #[33,61])),(.string (ByteArray.mk #[61,126])),(.string (ByteArray.mk #[33,126]))] 9 (0,0))) R (λz AE=>∃Ju KR VA zv,z=(.agg #[.I Ju,.I KR,.string VA,.I zv])/\AG 95 #[(.slice (aD Fb 0) 5 5),.string VA] AE R (CI .i64 λaF AK=>AG 31 #[.pointer q0] AK R (λz Am=>∃fF aY AEt AY8,z=(.agg #[.I fF,.I aY,.string AEt,.I AY8])/\Br (fF≠5) (AG 32 #[.pointer q0] Am R (λz CL=>z=(.tuple #[])/\SI R q0 q1 aF G (ByteArray.mk #[]) CL)) (Br (aF=0) (AG 32 #[.pointer q0] Am R (λz CL=>z=(.tuple #[])/\SI R q0 q1 aF G (ByteArray.mk #[]) CL)) (SI R q0 q1 aF G (ByteArray.mk #[]) Am))))))):HG R q0 q1 Z2:=M.of h ok rfl
def fE (h:AG 97 #[.pointer q0] Z2 R (λz y=>∃AY9 G AZA AZB,z=(.agg #[.I AY9,.I G,.string AZA,.I AZB])/\AG 31 #[.pointer q0] y R (λz AE=>∃fA fB AZC AZD,z=(.agg #[.I fA,.I fB,.string AZC,.I AZD])/\Br (fA≠4) (AG 32 #[.pointer q0] AE R (λz AK=>z=(.tuple #[])/\Ns R q0 q1 JM s5b Ji AK)) (Ns R q0 q1 JM s5b Ji AE)))):SI R q0 q1 JM s5b Ji Z2:=M.Uu h ok rfl λ_=>by kernel_rfl
def Lc (h:AG 97 #[.pointer q0] Z2 R (λz y=>∃QN LK NF G,z=(.agg #[.I QN,.I LK,.string NF,.I G])/\∀b6:Nat,AG 264 #[.pointer q0,.pointer q1,.agg #[.I JM,.string s5b,.string NF],.agg #[.I QN,.I LK,.string NF,.I G]] y R (λz AE=>z=(.tuple #[])/\jU R q0 q1 false AE))):Ns R q0 q1 JM s5b Ji Z2:=M.Uu h ok rfl λ_=>by kernel_rfl
end Ai
namespace DN
variable {s0 s1:ByteArray}
def M:Fw:=⟨prog,321,f321,[],[],false,[],[],[]⟩
def ok:M.Ok:=⟨AH.nil,mixed,func321,by kernel_rfl⟩
def start (h:Br (((s1.size:Int):Int)<=(s0.size:Int)) (∃G,YF prog (Instr.sliceAt 9 (.string s0) none (some (.I (s1.size:Int))) none) Z2 (.string G)/\R (.returned (.bool (ByteArray.toList G==ByteArray.toList s1))) Z2) (R (.B false) Z2)):Spec prog 321 #[.string s0,.string s1] Z2 R:=M.start h ok
end DN
namespace DG
variable {q0:Option Addr}{v1:Value}
def M:Fw:=⟨prog,363,f363,[],[],false,[(0,9,false)],[],[]⟩
def ok:M.Ok:=⟨AH.nil,mixed,func363,by kernel_rfl⟩
def start (h:Pq q0 λb6 G=>LS Z2 b6 G λp7 n7 c7=>AI prog (Instr.typeAssert v1 20 150 false) Z2 (CQ λq9 y=>Kp [b6] Z2 y/\Al y λDk=>AI prog (GO 147 p7 n7 c7 Dk) (Hp.set y Dk (.cells #[.pointer q9] 150 (0,0))) (CS λMb n11 Mc AE=>AI prog (Instr.storeAt 147 (.pointer (aD b6 G)) (.slice Mb n11 Mc)) AE (λ_ AK=>R (.T #[]) AK)))):Spec prog 363 #[.pointer q0,v1] Z2 R:=M.DJ h ok [(0,.o (.Q q0)),(1,.o (.V v1))] rfl rfl (by kernel_rfl)
end DG
end TwW
end
end
section
set_option maxRecDepth 100000
noncomputable section
namespace TwW
open Go Tw Go.Proofs.Tryz
variable [GF]{R:Rr}{Z2:Hp}

namespace KX
variable {s0:ByteArray}{x1 x5:Int}{p2 p3 p4:Option Addr}{n2 c2 n3 c3 n4 c4:Nat}
def M:Fw:=⟨prog,3,f3,[6,7,8,9,10,11,12,13,14,15,16,17],[],false,[],[],[]⟩
def ok:M.Ok:=⟨.cons call6 (.cons call7 (.cons call8 (.cons call9 (.cons call10 (.cons call11 (.cons call12 (.cons call13 (.cons call14 (.cons call15 (.cons call16 (.cons call17 (AH.nil)))))))))))),mixed,func3,by kernel_rfl⟩
def start (h:AG 7 #[] Z2 R (λz y=>∃AEs ARm ARn ARo,z=(.agg #[.U AEs,.slice ARm ARn ARo])/\AG 6 #[.string s0,.I x1,.I x1,.I 0,.agg #[.U AEs,.slice ARm ARn ARo],.I 3] y R (λz AE=>∃G WH,z=(.tuple #[.pointer G,.I WH])/\AG 8 #[.string s0] AE R (λz AK=>∃AAG AAH AAI AKn ARp,z=(.tuple #[.slice AAG AAH AAI,.I AKn,.I ARp])/\Br (WH≠0) (Bo (Option.isNone G) (AG 9 #[] AK R (CB λt44 Am=>R (.B t44) Am)) (R (.B false) AK)) (Al AK λWX=>AG 10 #[(.slice (aD WX 0) 3 3)] (Hp.set AK WX (.cells #[.slice p2 n2 c2,.slice p3 n3 c3,.slice p4 n4 c4] 22 (0,0))) R (λz Am=>∃AD5 AD6 AD7 jD,z=(.tuple #[.slice AD5 AD6 AD7,.I jD])/\Bo (Option.isNone G) (R (.B false) Am) (Br (ARp≠0) (R (.B false) Am) (Br (jD≠0) (AG 9 #[] Am R (CB λt70 CL=>R (.B t70) CL)) (Br (x5<(-1099511627776)) (AG 9 #[] Am R (CB λt70 CL=>R (.B t70) CL)) (Br (1099511627776<x5) (AG 9 #[] Am R (CB λt70 CL=>R (.B t70) CL)) (AG 12 #[.slice p4 n4 c4] Am R (CS λp73 n73 c73 CL=>AG 11 #[.pointer G,.I 2,.slice p73 n73 c73] CL R (CI .i64 λx74 Gu=>AG 12 #[.slice p2 n2 c2] Gu R (CS λp77 n77 c77 EZ=>AG 11 #[.pointer G,.I 0,.slice p77 n77 c77] EZ R (CI .i64 λx78 S0=>AG 13 #[.pointer G,.agg #[.U 0,.I x5,.N]] S0 R (CI .i64 λx82 UD=>Br (x82≠0) (R (.B false) UD) (AG 12 #[.slice p3 n3 c3] UD R (CS λp86 n86 c86 IJ=>AG 11 #[.pointer G,.I 1,.slice p86 n86 c86] IJ R (CI .i64 λx87 WI=>AG 12 #[.slice p2 n2 c2] WI R (CS λp90 n90 c90 Uv=>AG 11 #[.pointer G,.I 0,.slice p90 n90 c90] Uv R (CI .i64 λx91 TL=>AG 14 #[.pointer G] TL R (λz uU=>∃ARq AKo ARr ARs AKp,z=(.tuple #[.slice ARq AKo ARr,.I ARs,.I AKp])/\AG 16 #[.slice AD5 AD6 AD7,.N,.I x5,.I 4611686018427387904] uU R (CS λAZE n102 AZF WJ=>AG 15 #[.slice AAG AAH AAI,.slice AZE n102 AZF,.I x1] WJ R (λz ai=>∃AHn AHo AHp AAX,z=(.tuple #[.slice AHn AHo AHp,.I AAX])/\Br (AAX≠0) (Br (AKp=AAX) (Br ((AKo:Int)=0) (AG 9 #[] ai R (CB λt118 jg=>R (.B t118) jg)) (R (.B false) ai)) (R (.B false) ai)) (Br (AKp=0) (Br (ARs=x5) (AG 17 #[.slice ARq AKo ARr,.slice AHn AHo AHp] ai R (CB λt130 jg=>Bo t130 (AG 9 #[] jg R (CB λt133 AZG=>R (.B t133) AZG)) (R (.B false) jg))) (R (.B false) ai)) (R (.B false) ai)))))))))))))))))))))))))):Spec prog 3 #[.string s0,.I x1,.slice p2 n2 c2,.slice p3 n3 c3,.slice p4 n4 c4,.I x5] Z2 R:=M.start h ok
end KX
namespace AT
variable {q0 p5 rU:Option Addr}{x3 x4 MA Cd:Int}{n5 c5 n17 cM:Nat}
def M:Fw:=⟨prog,21,f21,[33,53],[7],false,[],[],[(488,[(0,wQ),(3,wI),(4,wI),(5,wL),(17,wL),(18,wI),(19,wI)]),(1959,[(0,wQ),(3,wI),(4,wI),(5,wL),(17,wL),(18,wI),(19,wI)])]⟩
def ok:M.Ok:=⟨.cons call33 (.cons call53 (AH.nil)),mixed,func21,by kernel_rfl⟩
def Dq:=M.pt 0
def RH:=M.pt 1
def start (h:AG 33 #[.pointer q0] Z2 R (λz y=>∃H5 uV,z=(.tuple #[.I H5,.I uV])/\Pq q0 λHe Jb=>∃G uy ARu ARv ARw,Az y He (Jb+7) [.U G,.I uy,.slice ARu ARv ARw]/\AG 53 #[.agg #[.U G,.I uy,.slice ARu ARv ARw]] y R (CS λrU n17 cM AE=>Dq R (aD He Jb) H5 uV none 0 0 rU n17 cM (n17:Int) 0 AE))):Spec prog 21 #[.pointer q0] Z2 R:=M.start h ok
def Bk (h:Br (Cd<MA) (Pq rU λyi G=>In Cd (n17:Int)/\∃AKq ARx AKr AZH AZI AZJ AZK AZL AZM,Az Z2 yi (G+Cd.toNat*7) [.U AKq,.I ARx,.I AKr,.I AZH,.slice AZI AZJ AZK,.I AZL,.I AZM]/\∀b7:Nat,Pq q0 λaZ gi=>LB Z2 aZ (gi+6) λt26=>Bo t26 (Br (ARx<=x4) (Br (x3<=AKr) (LI .i64 Z2 aZ ((gi+7)+1) λx46=>Br (x46<=AKr) (LM Z2 aZ (gi+10) λm53=>AI prog (Instr.lookup 70 (.map m53) (.U AKq) false) Z2 (CI .i64 λx56 y=>Br (x56=0) (Al y λb62=>AI prog (GO 60 p5 n5 c5 b62) (Hp.set y b62 (.cells #[.U AKq] 27 (0,0))) (CS λp63 n63 c63 AE=>RH R (aD aZ gi) x3 x4 p63 n63 c63 (aD yi G) n17 cM MA Cd AE)) (RH R (aD aZ gi) x3 x4 p5 n5 c5 (aD yi G) n17 cM MA Cd y))) (RH R (aD aZ gi) x3 x4 p5 n5 c5 (aD yi G) n17 cM MA Cd Z2)) (RH R (aD aZ gi) x3 x4 p5 n5 c5 (aD yi G) n17 cM MA Cd Z2)) (RH R (aD aZ gi) x3 x4 p5 n5 c5 (aD yi G) n17 cM MA Cd Z2)) (RH R (aD aZ gi) x3 x4 p5 n5 c5 (aD yi G) n17 cM MA Cd Z2)) (R (.returned (.slice p5 n5 c5)) Z2)):Dq R q0 x3 x4 p5 n5 c5 rU n17 cM MA Cd Z2:=M.of h ok rfl
def R4 (h:AL (Cd+1)/\Dq R q0 x3 x4 p5 n5 c5 rU n17 cM MA (Cd+1) Z2):RH R q0 x3 x4 p5 n5 c5 rU n17 cM MA Cd Z2:=M.of h ok rfl
end AT
namespace N5
variable {q0:Option Addr}
end N5
namespace AS
variable {s0 s7c:ByteArray}{p5 p6:Option Addr}{n5 c5 n6 c6:Nat}{x7a x7b x7d x8 x9 Fq ARy:Int}{t201:Bool}
def M:Fw:=⟨prog,28,f28,[58,59,60,61,62],[7],false,[],[],[(1788,[(0,wT),(5,wL),(7,.X 83 [.I .i64,.I .i64,.T,.I .i64]),(8,wI)]),(917472,[(0,wT),(5,wL),(7,.X 83 [.I .i64,.I .i64,.T,.I .i64]),(8,wI),(9,wI)]),(58720224,[(0,wT),(5,wL),(7,.X 83 [.I .i64,.I .i64,.T,.I .i64]),(8,wI),(9,wI)]),(117440508,[(0,wT),(5,wL),(6,wL),(7,.X 83 [.I .i64,.I .i64,.T,.I .i64]),(8,wI),(9,wI)]),(15032385517,[(0,wT),(5,wL),(6,wL),(7,.X 83 [.I .i64,.I .i64,.T,.I .i64]),(8,wI),(9,wI),(13,w8),(199,w8),(201,wB)]),(1879048190,[(0,wT),(5,wL),(6,wL),(7,.X 83 [.I .i64,.I .i64,.T,.I .i64]),(8,wI),(9,wI)]),(458750,[(0,wT),(5,wL),(7,.X 83 [.I .i64,.I .i64,.T,.I .i64]),(8,wI)])]⟩
def ok:M.Ok:=⟨.cons call58 (.cons call59 (.cons call60 (.cons call61 (.cons call62 (AH.nil))))),mixed,func28,by kernel_rfl⟩
def JP:=M.pt 0
def Xh:=M.pt 1
def Xi:=M.pt 2
def cV:=M.pt 3
def AAY:=M.pt 4
def sC:=M.pt 5
def IE:=M.pt 6
def start (h:∀b7:Nat,Br ((4096:Int)<(s0.size:Int)) (R (.T #[.N,.I 0,.I 170]) Z2) (JP R s0 none 0 0 0 0 (ByteArray.mk #[]) 0 0 Z2)):Spec prog 28 #[.string s0] Z2 R:=M.start h ok
def IN (h:Br (x8=(s0.size:Int)) (Al Z2 λaZ=>AI prog (GO 73 p5 n5 c5 aZ) (Hp.set Z2 aZ (.cells #[.I 0,.I x8,(.string (ByteArray.mk #[])),.I 0] 83 (0,0))) (CS λeR n25 eU y=>R (.T #[.slice eR n25 eU,.I 0,.I 0]) y)) (∃G:UInt8,0<=x8/\(ByteArray.data s0)[x8.toNat]?=some G/\Br (((G.toNat:Int):Int)=32) (AL (x8+1)/\JP R s0 p5 n5 c5 x7a x7b s7c x7d (x8+1) Z2) (Br (((G.toNat:Int):Int)=9) (AL (x8+1)/\JP R s0 p5 n5 c5 x7a x7b s7c x7d (x8+1) Z2) (Br (((G.toNat:Int):Int)=13) (AL (x8+1)/\JP R s0 p5 n5 c5 x7a x7b s7c x7d (x8+1) Z2) (Br (((G.toNat:Int):Int)=10) (AL (x8+1)/\JP R s0 p5 n5 c5 x7a x7b s7c x7d (x8+1) Z2) (AG 58 #[(.int .u8 (G.toNat:Int))] Z2 R (CB λt49 y=>Bo t49 (Xh R s0 p5 n5 c5 x7a x7b s7c x7d x8 x8 y) (AG 59 #[(.int .u8 (G.toNat:Int))] y R (CB λt52 AE=>Bo t52 (Xi R s0 p5 n5 c5 x7a x7b s7c x7d x8 x8 AE) (Br (((G.toNat:Int):Int)=34) (AL (x8+1)/\cV R s0 p5 n5 c5 none 0 0 x7a x7b s7c x7d (x8+1) x8 AE) (∃s60,YF prog (Instr.sliceAt 9 (.string s0) (some (.I x8)) none none) AE (.string s60)/\AG 60 #[.string s60] AE R (CT λsD AK=>Bn ((ByteArray.toList sD==ByteArray.toList (ByteArray.mk #[]))) (Al AK λzc=>AI prog (GO 73 p5 n5 c5 zc) (Hp.set AK zc (.cells #[.I 5,.I x8,.string sD,.I 0] 83 (0,0))) (CS λvB n69 vC Am=>AL (x8+(sD.size:Int))/\JP R s0 vB n69 vC x7a x7b s7c x7d ((x8+(sD.size:Int))) Am)) (R (.T #[.N,.I x8,.I 171]) AK))))))))))))):JP R s0 p5 n5 c5 x7a x7b s7c x7d x8 Z2:=M.Uu h ok rfl λ_=>by kernel_rfl
def Vb (h:Br (x8<(s0.size:Int)) (∃u82:UInt8,0<=x8/\(ByteArray.data s0)[x8.toNat]?=some u82/\AG 58 #[(.int .u8 (u82.toNat:Int))] Z2 R (CB λt83 y=>Bo t83 (AL (x8+1)/\Xh R s0 p5 n5 c5 x7a x7b s7c x7d (x8+1) x9 y) (∃u87:UInt8,0<=x8/\(ByteArray.data s0)[x8.toNat]?=some u87/\AG 59 #[(.int .u8 (u87.toNat:Int))] y R (CB λt88 AE=>Bo t88 (∃u92:UInt8,0<=x8/\(ByteArray.data s0)[x8.toNat]?=some u92/\Br (((u92.toNat:Int):Int)≠58) (AL (x8+1)/\Xh R s0 p5 n5 c5 x7a x7b s7c x7d (x8+1) x9 AE) (∃u99:UInt8,0<=x8/\(ByteArray.data s0)[x8.toNat]?=some u99/\Br (((u99.toNat:Int):Int)=46) (AL (x8+1)/\Xh R s0 p5 n5 c5 x7a x7b s7c x7d (x8+1) x9 AE) (∃G,YF prog (Instr.sliceAt 9 (.string s0) (some (.I x9)) (some (.I x8)) none) AE (.string G)/\AG 61 #[.string G] AE R (CI .i64 λLg AK=>Br (0<Lg) (IE R s0 p5 n5 c5 2 x9 G Lg x8 AK) (AG 62 #[.string G] AK R (CB λt121 Am=>Bn t121 (R (.T #[.N,.I x9,.I 172]) Am) (IE R s0 p5 n5 c5 1 x9 G Lg x8 Am))))))) (∃u99:UInt8,0<=x8/\(ByteArray.data s0)[x8.toNat]?=some u99/\Br (((u99.toNat:Int):Int)=46) (AL (x8+1)/\Xh R s0 p5 n5 c5 x7a x7b s7c x7d (x8+1) x9 AE) (∃G,YF prog (Instr.sliceAt 9 (.string s0) (some (.I x9)) (some (.I x8)) none) AE (.string G)/\AG 61 #[.string G] AE R (CI .i64 λLg AK=>Br (0<Lg) (IE R s0 p5 n5 c5 2 x9 G Lg x8 AK) (AG 62 #[.string G] AK R (CB λt121 Am=>Bn t121 (R (.T #[.N,.I x9,.I 172]) Am) (IE R s0 p5 n5 c5 1 x9 G Lg x8 Am)))))))))) (∃G,YF prog (Instr.sliceAt 9 (.string s0) (some (.I x9)) (some (.I x8)) none) Z2 (.string G)/\AG 61 #[.string G] Z2 R (CI .i64 λLg y=>Br (0<Lg) (IE R s0 p5 n5 c5 2 x9 G Lg x8 y) (AG 62 #[.string G] y R (CB λt121 AE=>Bn t121 (R (.T #[.N,.I x9,.I 172]) AE) (IE R s0 p5 n5 c5 1 x9 G Lg x8 AE)))))):Xh R s0 p5 n5 c5 x7a x7b s7c x7d x8 x9 Z2:=M.Uu h ok rfl λ_=>by kernel_rfl
def jz (h:Br (x8<(s0.size:Int)) (∃AR1:UInt8,0<=x8/\(ByteArray.data s0)[x8.toNat]?=some AR1/\AG 59 #[(.int .u8 (AR1.toNat:Int))] Z2 R (CB λt136 y=>Bo t136 (AL (x8+1)/\Xi R s0 p5 n5 c5 x7a x7b s7c x7d (x8+1) x9 y) (∃AR2:UInt8,0<=x8/\(ByteArray.data s0)[x8.toNat]?=some AR2/\AG 58 #[(.int .u8 (AR2.toNat:Int))] y R (CB λt141 AE=>Bo t141 (AL (x8+1)/\Xi R s0 p5 n5 c5 x7a x7b s7c x7d (x8+1) x9 AE) (∃j0,YF prog (Instr.sliceAt 9 (.string s0) (some (.I x9)) (some (.I x8)) none) AE (.string j0)/\Al AE λj1=>AI prog (GO 73 p5 n5 c5 j1) (Hp.set AE j1 (.cells #[.I 3,.I x9,.string j0,.I 0] 83 (0,0))) (CS λAAZ G AAa AK=>JP R s0 AAZ G AAa x7a x7b s7c x7d x8 AK)))))) (∃j0,YF prog (Instr.sliceAt 9 (.string s0) (some (.I x9)) (some (.I x8)) none) Z2 (.string j0)/\Al Z2 λj1=>AI prog (GO 73 p5 n5 c5 j1) (Hp.set Z2 j1 (.cells #[.I 3,.I x9,.string j0,.I 0] 83 (0,0))) (CS λAAZ G AAa y=>JP R s0 AAZ G AAa x7a x7b s7c x7d x8 y))):Xi R s0 p5 n5 c5 x7a x7b s7c x7d x8 x9 Z2:=M.Uu h ok rfl λ_=>by kernel_rfl
def Xj (h:Br (x8=(s0.size:Int)) (R (.T #[.N,.I x9,.I 173]) Z2) (∃AR3:UInt8,0<=x8/\(ByteArray.data s0)[x8.toNat]?=some AR3/\Br (((AR3.toNat:Int):Int)<32) (R (.T #[.N,.I x9,.I 173]) Z2) (∃G:UInt8,0<=x8/\(ByteArray.data s0)[x8.toNat]?=some G/\Br (((G.toNat:Int):Int)=34) (AI prog (convert 134 9 (.slice p6 n6 c6)) Z2 (CT λAZN y=>Al y λAR4=>AI prog (GO 73 p5 n5 c5 AR4) (Hp.set y AR4 (.cells #[.I 4,.I x9,.string AZN,.I 0] 83 (0,0))) (CS λAZO n184 AZP AE=>AL (x8+1)/\JP R s0 AZO n184 AZP x7a x7b s7c x7d (x8+1) AE))) (Br (((G.toNat:Int):Int)=92) (AL (x8+1)/\Br (((x8+1):Int)=(s0.size:Int)) (R (.T #[.N,.I x9,.I 173]) Z2) (AL (x8+1)/\∃oN:UInt8,(0:Int)<=(x8+1)/\(ByteArray.data s0)[Int.toNat (x8+1)]?=some oN/\Br (((oN.toNat:Int):Int)=34) (AAY R s0 p5 n5 c5 p6 n6 c6 x7a x7b s7c x7d x8 x9 ((oN.toNat:Int)) ((oN.toNat:Int)) true Z2) (AAY R s0 p5 n5 c5 p6 n6 c6 x7a x7b s7c x7d x8 x9 ((oN.toNat:Int)) ((oN.toNat:Int)) ((decide (((oN.toNat:Int):Int)=92))) Z2))) (Al Z2 λAKs=>AI prog (GO 134 p6 n6 c6 AKs) (Hp.set Z2 AKs (.cells #[(.int .u8 (G.toNat:Int))] 5 (0,0))) (CS λAZQ n173 AZR y=>AL (x8+1)/\cV R s0 p5 n5 c5 AZQ n173 AZR x7a x7b s7c x7d (x8+1) x9 y)))))):cV R s0 p5 n5 c5 p6 n6 c6 x7a x7b s7c x7d x8 x9 Z2:=M.Uu h ok rfl λ_=>by kernel_rfl
def j3 (h:Bo t201 (Al Z2 λG=>AI prog (GO 134 p6 n6 c6 G) (Hp.set Z2 G (.cells #[.int .u8 Fq] 5 (0,0))) (CS λAZS n207 AZT y=>sC R s0 p5 n5 c5 AZS n207 AZT x7a x7b s7c x7d x8 x9 y)) (Br (ARy=110) (Al Z2 λAR6=>AI prog (GO 134 p6 n6 c6 AR6) (Hp.set Z2 AR6 (.cells #[.int .u8 10] 5 (0,0))) (CS λAZU n212 AZV y=>sC R s0 p5 n5 c5 AZU n212 AZV x7a x7b s7c x7d x8 x9 y)) (R (.T #[.N,.I x9,.I 173]) Z2))):AAY R s0 p5 n5 c5 p6 n6 c6 x7a x7b s7c x7d x8 x9 Fq ARy t201 Z2:=M.Uu h ok rfl λ_=>by kernel_rfl
def AAb (h:AL (x8+2)/\cV R s0 p5 n5 c5 p6 n6 c6 x7a x7b s7c x7d (x8+2) x9 Z2):sC R s0 p5 n5 c5 p6 n6 c6 x7a x7b s7c x7d x8 x9 Z2:=M.Uu h ok rfl λ_=>by kernel_rfl
def Xk (h:Al Z2 λG=>AI prog (GO 73 p5 n5 c5 G) (Hp.set Z2 G (.cells #[.I x7a,.I x7b,.string s7c,.I x7d] 83 (0,0))) (CS λAZW n127 AZX y=>JP R s0 AZW n127 AZX x7a x7b s7c x7d x8 y)):IE R s0 p5 n5 c5 x7a x7b s7c x7d x8 Z2:=M.Uu h ok rfl λ_=>by kernel_rfl
end AS
namespace MH
variable {q0:Option Addr}
def M:Fw:=⟨prog,30,f30,[63],[],false,[],[],[]⟩
def ok:M.Ok:=⟨.cons call63 (AH.nil),mixed,func30,by kernel_rfl⟩
def start (h:AG 63 #[.pointer q0,(.func (.func 64) #[.pointer q0] #[]),.I 12,.I 12] Z2 R (λz y=>z=(.tuple #[])/\R (.T #[]) y)):Spec prog 30 #[.pointer q0] Z2 R:=M.start h ok
end MH
namespace Be
variable {De Dl C4 CU aF FK:Int}{rV p1c UH:Option Addr}{gj rW n1c c1c n20 Ry:Nat}
def M:Fw:=⟨prog,41,f41,[76],[1,4],false,[],[],[(232,[(1,.X 43 [.I .u64,.I .i64,.L]),(20,wL),(21,wI),(22,wI)])]⟩
def ok:M.Ok:=⟨.cons call76 (AH.nil),mixed,func41,by kernel_rfl⟩
def GQ:=M.pt 0
def start (h:∀b1:Nat,Br (256<(gj:Int)) (R (.returned (.I 140)) Z2) (Br (Dl<(-1099511627776)) (R (.returned (.I 140)) Z2) (Br (1099511627776<Dl) (R (.returned (.I 140)) Z2) (GQ R De Dl rV gj rW rV gj rW (gj:Int) 0 Z2)))):Spec prog 41 #[.agg #[.U De,.I Dl,.slice rV gj rW]] Z2 R:=M.start h ok
def EA (h:Br (FK<aF) (Pq UH λNA aG=>In FK (n20:Int)/\∃TT jZ AR8 AR9 ASA ASB ASC QM ja G AKu,Az Z2 NA (aG+FK.toNat*9) [.U TT,.I jZ,.I AR8,.I AR9,.slice ASA ASB ASC,.I QM,.I ja,.bool G,.I AKu]/\∀b4:Nat,AG 76 #[.agg #[.U TT,.I jZ,.I AR8,.I AR9,.slice ASA ASB ASC,.I QM,.I ja]] Z2 R (CB λt29 y=>Bn t29 (R (.returned (.I 140)) y) (Br (0<FK) (AL (FK-1)/\Pq p1c λb42 o42=>In (FK-1) (n1c:Int)/\LI .u64 y b42 (o42+Int.toNat (FK-1)*9) λx45=>Br (TT<=x45) (R (.returned (.I 140)) y) (Bn G (Br (AKu≠0) (R (.returned (.I 140)) y) (AL (FK+1)/\GQ R C4 CU (aD b42 o42) n1c c1c (aD NA aG) n20 Ry aF (FK+1) y)) (AL (FK+1)/\GQ R C4 CU (aD b42 o42) n1c c1c (aD NA aG) n20 Ry aF (FK+1) y))) (Bn G (Br (AKu≠0) (R (.returned (.I 140)) y) (AL (FK+1)/\GQ R C4 CU p1c n1c c1c (aD NA aG) n20 Ry aF (FK+1) y)) (AL (FK+1)/\GQ R C4 CU p1c n1c c1c (aD NA aG) n20 Ry aF (FK+1) y))))) (R (.returned (.I 0)) Z2)):GQ R C4 CU p1c n1c c1c UH n20 Ry aF FK Z2:=M.Uu h ok rfl λ_=>by kernel_rfl
end Be
namespace Dt
variable {p0 p1:Option Addr}{n0 c0 n1 c1:Nat}{x5:Int}
def M:Fw:=⟨prog,49,f49,[],[],false,[(6,9,true)],[],[(464,[(0,wL),(1,wL),(5,wI)])]⟩
def ok:M.Ok:=⟨AH.nil,mixed,func49,by kernel_rfl⟩
def FH:=M.pt 0
def start (h:Br ((n0:Int)≠(n1:Int)) (R (.B false) Z2) (FH R p0 n0 c0 p1 n1 c1 0 Z2)):Spec prog 49 #[.slice p0 n0 c0,.slice p1 n1 c1] Z2 R:=M.start h ok
def EB (h:Br (x5<(n0:Int)) (Pq p0 λKA ae=>In x5 (n0:Int)/\∃G fD,Az Z2 KA (ae+x5.toNat*2) [.I G,.U fD]/\Pq p1 λTR U5=>In x5 (n1:Int)/\∃fF aY,Az Z2 TR (U5+x5.toNat*2) [.I fF,.U aY]/\∃t25,YF prog ((do eqGuard .neq 111 (.tmp 20) (.tmp 24) (.agg #[.I G,.U fD]) (.agg #[.I fF,.U aY]);binOp .neq 111 (.agg #[.I G,.U fD]) (.agg #[.I fF,.U aY]))) Z2 (.bool t25)/\Bo t25 (R (.B false) Z2) (AL (x5+1)/\FH R (aD KA ae) n0 c0 (aD TR U5) n1 c1 (x5+1) Z2)) (R (.B true) Z2)):FH R p0 n0 c0 p1 n1 c1 x5 Z2:=M.of h ok rfl
end Dt
namespace Cw
variable {q0:Option Addr}{x1 rE xG x2d:Int}{s2c:ByteArray}
def M:Fw:=⟨prog,65,f65,[],[5],false,[],[],[]⟩
def ok:M.Ok:=⟨AH.nil,mixed,func65,by kernel_rfl⟩
def start (h:∀b5:Nat,R (.panicked [{ v:=(.iface 80 (.agg #[.I x1,.I xG])),recovered:=false }]) Z2):Spec prog 65 #[.pointer q0,.I x1,.agg #[.I rE,.I xG,.string s2c,.I x2d]] Z2 R:=M.start h ok
end Cw
namespace Bu
variable {q0:Option Addr}{v1:Value}{x4:Int}
def M:Fw:=⟨prog,67,f67,[],[100000],false,[],[],[(48,[(0,wQ),(1,wV),(4,wI)])]⟩
def ok:M.Ok:=⟨AH.nil,mixed,func67,by kernel_rfl⟩
def eX:=M.pt 0
def start (h:Pq q0 λb6 G=>LI .i64 Z2 b6 (G+1) λx8=>eX R (aD b6 G) v1 x8 Z2):Spec prog 67 #[.pointer q0,v1] Z2 R:=M.DJ h ok [(0,.o (.Q q0)),(1,.o (.V v1))] rfl rfl (by kernel_rfl)
def LD (h:∃l11:Nat,v1=.func (.yield l11) #[] #[]/\JY prog l11 #[.I x4] Z2 (Ab R (CB λt11 y=>Bo t11 (Pq q0 λHe G=>LI .i64 y He (G+3) λx16=>Br (0<x16) (LI .i64 y He (G+2) λGA=>AL (GA-x4)/\LI .i64 y He (G+3) λek=>Br (ek<=(GA-x4)) (LI .i64 y He (G+3) λeu=>AL (x4+eu)/\eX R (aD He G) v1 (x4+eu) y) (R (.T #[]) y)) (R (.T #[]) y)) (R (.T #[]) y)))):eX R q0 v1 x4 Z2:=M.of h ok rfl
end Bu
namespace MJ
variable {s0a mA s1a s1b:ByteArray}
def M:Fw:=⟨prog,73,f73,[74,75],[2,3],false,[],[],[]⟩
def ok:M.Ok:=⟨.cons call74 (.cons call75 (AH.nil)),mixed,func73,by kernel_rfl⟩
def start (h:∀b2:Nat,∀b3:Nat,AG 75 #[.string s0a,.string s1a] Z2 R (CI .i64 λx9 y=>AG 75 #[.string mA,.string s1b] y R (CI .i64 λVX G=>Al G λU1=>AG 74 #[(.slice (aD U1 0) 2 2)] (Hp.set G U1 (.cells #[.I x9,.I VX] 3 (0,0))) R (CI .i64 λx16 AK=>R (.returned (.I x16)) AK)))):Spec prog 73 #[.agg #[.string s0a,.string mA],.agg #[.string s1a,.string s1b]] Z2 R:=M.start h ok
end MJ
namespace Cj
variable {q0 E5 FD p2:Option Addr}{C4 CU Ez EG Dd Dj x8:Int}{E1:ByteArray}{E6 E7 E8 FE n2 c2:Nat}{EO:Bool}
def M:Fw:=⟨prog,88,f88,[],[4],false,[],[],[(60,[(2,wL),(8,wI)])]⟩
def ok:M.Ok:=⟨AH.nil,mixed,func88,by kernel_rfl⟩
def Dq:=M.pt 0
def start (h:∀G:Nat,Br (CU=11) (Dq R p2 n2 c2 2 Z2) (Br (CU=12) (Dq R p2 n2 c2 2 Z2) (Dq R p2 n2 c2 3 Z2))):Spec prog 88 #[.pointer q0,.agg #[.I C4,.I CU,.string E1,.slice E5 E6 E7,.I Ez,.I EG,.I Dd,.slice FD E8 FE,.bool EO,.I Dj],.slice p2 n2 c2] Z2 R:=M.start h ok
def Bk (h:Pq p2 λG oJ=>In 0 (n2:Int)/\LI .i64 Z2 G oJ λPo=>Br (Po≠x8) (R (.T #[.I 0,.I 191]) Z2) (R (.T #[.I 2,.I 0]) Z2)):Dq R p2 n2 c2 x8 Z2:=M.of h ok rfl
end Cj
namespace Gh
variable {q0 E5 FD p2:Option Addr}{C4 CU Ez EG Dd Dj:Int}{E1:ByteArray}{E6 E7 E8 FE n2 c2:Nat}{EO:Bool}
def M:Fw:=⟨prog,89,f89,[],[4],false,[],[],[]⟩
def ok:M.Ok:=⟨AH.nil,mixed,func89,by kernel_rfl⟩
def start (h:∀b4:Nat,Pq p2 λb9 G=>In 0 (n2:Int)/\LI .i64 Z2 b9 G λx11=>Br (x11≠2) (R (.T #[.I 0,.I 191]) Z2) (R (.T #[.I 2,.I 0]) Z2)):Spec prog 89 #[.pointer q0,.agg #[.I C4,.I CU,.string E1,.slice E5 E6 E7,.I Ez,.I EG,.I Dd,.slice FD E8 FE,.bool EO,.I Dj],.slice p2 n2 c2] Z2 R:=M.start h ok
end Gh
namespace Xl
variable {De Dl U6 QI JE MB:Int}{U7:ByteArray}{cQ WV:Option Addr}{ad cR VZ WW:Nat}{RE:Bool}
def M:Fw:=⟨prog,113,f113,[],[1,2],false,[(12,7,false),(15,7,false),(18,11,false),(21,15,false)],[],[]⟩
def ok:M.Ok:=⟨AH.nil,mixed,func113,by kernel_rfl⟩
def start (h:∀b1:Nat,∀b2:Nat,Al Z2 λb3=>AI prog (Instr.storeAt 127 (.pointer (aD b3 0)) (.agg #[.I De,.I 0,(.string (ByteArray.mk #[])),.N,.I 0,.I 0,.I 0,.N,.bool false,.I 0])) (Hp.set Z2 b3 (.cells #[.I 0,.I 0,(.string (ByteArray.mk #[])),.N,.I 0,.I 0,.I 0,.N,.bool false,.I 0] 127 (0,0))) (λ_ y=>Br (De=1) (AI prog (Instr.storeAt 9 (.pointer (aD b3 2)) (.string U7)) y (λ_ G=>∃Q9 RA oC AAc AAd AAe AAf AAg AAh AAi AAj AAk AAl AAm,Az G b3 0 [.I Q9,.I RA,.string oC,.slice AAc AAd AAe,.I AAf,.I AAg,.I AAh,.slice AAi AAj AAk,.bool AAl,.I AAm]/\R (.returned (.agg #[.I Q9,.I RA,.string oC,.slice AAc AAd AAe,.I AAf,.I AAg,.I AAh,.slice AAi AAj AAk,.bool AAl,.I AAm])) G)) (Br (De=2) (AI prog (Instr.storeAt 2 (.pointer (aD b3 5)) (.I QI)) y (λ_ G=>∃fF aY AEt ASD ASE ASF ASG ASH ASI ASJ ASK ASL ASM ASN,Az G b3 0 [.I fF,.I aY,.string AEt,.slice ASD ASE ASF,.I ASG,.I ASH,.I ASI,.slice ASJ ASK ASL,.bool ASM,.I ASN]/\R (.returned (.agg #[.I fF,.I aY,.string AEt,.slice ASD ASE ASF,.I ASG,.I ASH,.I ASI,.slice ASJ ASK ASL,.bool ASM,.I ASN])) G)) (Br (De=3) (AI prog (Instr.storeAt 2 (.pointer (aD b3 4)) (.I U6)) y (λ_ G=>AI prog (Instr.storeAt 2 (.pointer (aD b3 5)) (.I QI)) G (λ_ AK=>∃WN AEC ASO ASP ASQ ASR ASS AST ASU ASV ASW ASX ASY ASZ,Az AK b3 0 [.I WN,.I AEC,.string ASO,.slice ASP ASQ ASR,.I ASS,.I AST,.I ASU,.slice ASV ASW ASX,.bool ASY,.I ASZ]/\R (.returned (.agg #[.I WN,.I AEC,.string ASO,.slice ASP ASQ ASR,.I ASS,.I AST,.I ASU,.slice ASV ASW ASX,.bool ASY,.I ASZ])) AK))) (Br (De=4) (AI prog (Instr.storeAt 3 (.pointer (aD b3 1)) (.I Dl)) y (λ_ G=>AI prog (Instr.storeAt 3 (.pointer (aD b3 9)) (.I MB)) G (λ_ AK=>∃ASa ASb ASc ASd ASe ASf ASg ASh ASi ASj ASk ASl ASm ASn,Az AK b3 0 [.I ASa,.I ASb,.string ASc,.slice ASd ASe ASf,.I ASg,.I ASh,.I ASi,.slice ASj ASk ASl,.bool ASm,.I ASn]/\R (.returned (.agg #[.I ASa,.I ASb,.string ASc,.slice ASd ASe ASf,.I ASg,.I ASh,.I ASi,.slice ASj ASk ASl,.bool ASm,.I ASn])) AK))) (Br (De=5) (AI prog (Instr.storeAt 3 (.pointer (aD b3 1)) (.I Dl)) y (λ_ G=>AI prog (Instr.storeAt 3 (.pointer (aD b3 9)) (.I MB)) G (λ_ AK=>AI prog (Instr.storeAt 3 (.pointer (aD b3 6)) (.I JE)) AK (λ_ Am=>∃jh ji AAO jj jl jm AAP AAQ AAR AAS AAT AAU AAV AAW,Az Am b3 0 [.I jh,.I ji,.string AAO,.slice jj jl jm,.I AAP,.I AAQ,.I AAR,.slice AAS AAT AAU,.bool AAV,.I AAW]/\R (.returned (.agg #[.I jh,.I ji,.string AAO,.slice jj jl jm,.I AAP,.I AAQ,.I AAR,.slice AAS AAT AAU,.bool AAV,.I AAW])) Am)))) (Br (De=6) (AI prog (Instr.storeAt 3 (.pointer (aD b3 1)) (.I Dl)) y (λ_ G=>AI prog (Instr.storeAt 3 (.pointer (aD b3 9)) (.I MB)) G (λ_ AK=>AI prog (Instr.storeAt 4 (.pointer (aD b3 8)) (.bool RE)) AK (λ_ Am=>AI prog (Instr.storeAt 3 (.pointer (aD b3 6)) (.I JE)) Am (λ_ CL=>∃Wc Wd We Wf Wg Wh Wi Wj Wk Wl Wm Wn Wo Wp,Az CL b3 0 [.I Wc,.I Wd,.string We,.slice Wf Wg Wh,.I Wi,.I Wj,.I Wk,.slice Wl Wm Wn,.bool Wo,.I Wp]/\R (.returned (.agg #[.I Wc,.I Wd,.string We,.slice Wf Wg Wh,.I Wi,.I Wj,.I Wk,.slice Wl Wm Wn,.bool Wo,.I Wp])) CL))))) (AI prog (Instr.storeAt 3 (.pointer (aD b3 9)) (.I MB)) y (λ_ G=>∃ew U4 yo ASo ASp ASq ASr ASs ASt ASu ASv ASw ASx ASy,Az G b3 0 [.I ew,.I U4,.string yo,.slice ASo ASp ASq,.I ASr,.I ASs,.I ASt,.slice ASu ASv ASw,.bool ASx,.I ASy]/\R (.returned (.agg #[.I ew,.I U4,.string yo,.slice ASo ASp ASq,.I ASr,.I ASs,.I ASt,.slice ASu ASv ASw,.bool ASx,.I ASy])) G))))))))):Spec prog 113 #[.agg #[.I De,.I Dl,.string U7,.slice cQ ad cR,.I U6,.I QI,.I JE,.slice WV VZ WW,.bool RE,.I MB]] Z2 R:=M.start h ok
end Xl
namespace N6
variable {x0:Int}
def M:Fw:=⟨prog,116,f116,[],[],false,[],[],[]⟩
def ok:M.Ok:=⟨AH.nil,mixed,func116,by kernel_rfl⟩
def start (h:Br (5<=x0) (R (.returned (.bool (decide (x0<=10)))) Z2) (R (.B false) Z2)):Spec prog 116 #[.I x0] Z2 R:=M.start h ok
end N6
namespace Bz
variable {s0:ByteArray}{x1:Int}
def M:Fw:=⟨prog,121,f121,[],[],false,[],[],[]⟩
def ok:M.Ok:=⟨AH.nil,mixed,func121,by kernel_rfl⟩
def start (h:EN prog 136 #[.string s0,.int .u8 x1] Z2 (CI .i64 λx7 y=>R (.returned (.I x7)) y)):Spec prog 121 #[.string s0,.int .u8 x1] Z2 R:=M.start h ok
end Bz
namespace B7
variable {q0 E5 FD p2 JI Hy p8 eR:Option Addr}{C4 CU Ez EG Dd Dj Hw Hx af JH:Int}{E1:ByteArray}{E6 E7 E8 FE n2 c2 JJ JK Hz H0 n8 c8 n25 eU:Nat}{EO:Bool}
def M:Fw:=⟨prog,135,f135,[158,160,174],[4,6,10],false,[],[],[(488,[(6,.X 164 [.I .i64,.I .u64,.L,.L]),(8,wL),(25,wL),(26,wI),(27,wI)])]⟩
def ok:M.Ok:=⟨.cons call158 (.cons call160 (.cons call174 (AH.nil))),mixed,func135,by kernel_rfl⟩
def AEv:=M.pt 0
def start (h:∀b4:Nat,∀b6:Nat,Pq p2 λG Je=>In 0 (n2:Int)/\LI .i64 Z2 G Je λVX=>Br (VX=1) (In 0 (n2:Int)/\LI .u64 Z2 G (Je+1) λCd=>AG 174 #[.U Cd] Z2 R (CI .u64 λPo y=>R (.T #[.agg #[.I 1,.U Po,.N,.N],.I 0]) y)) (In 0 (n2:Int)/\LS Z2 G (Je+2) λeR n25 eU=>AEv R 0 0 none 0 0 none 0 0 none 0 0 eR n25 eU (n25:Int) 0 Z2)):Spec prog 135 #[.pointer q0,.agg #[.I C4,.I CU,.string E1,.slice E5 E6 E7,.I Ez,.I EG,.I Dd,.slice FD E8 FE,.bool EO,.I Dj],.slice p2 n2 c2] Z2 R:=M.start h ok
def sE (h:Br (JH<af) (Pq eR λWO cH=>In JH (n25:Int)/\∃zG zH zI WH,Az Z2 WO (cH+JH.toNat*2) [.slice zG zH zI,.U WH]/\∀Dk:Nat,AG 158 #[.slice zG zH zI] Z2 R (CS λp34 n34 c34 y=>AG 174 #[.U WH] y R (CI .u64 λU3 AE=>Al AE λaH=>AI prog (GO 105 p8 n8 c8 aH) (Hp.set AE aH (.cells #[.slice p34 n34 c34,.U U3] 109 (0,0))) (CS λp40 n40 c40 AK=>AL (JH+1)/\AEv R Hw Hx JI JJ JK Hy Hz H0 p40 n40 c40 (aD WO cH) n25 eU af (JH+1) AK)))) (AG 160 #[.slice p8 n8 c8] Z2 R (λz y=>∃G AHs AHt AHu AHv AHw AHx AHy LK,z=(.tuple #[.agg #[.I G,.U AHs,.slice AHt AHu AHv,.slice AHw AHx AHy],.I LK])/\R (.T #[.agg #[.I G,.U AHs,.slice AHt AHu AHv,.slice AHw AHx AHy],.I LK]) y))):AEv R Hw Hx JI JJ JK Hy Hz H0 p8 n8 c8 eR n25 eU af JH Z2:=M.Uu h ok rfl λ_=>by kernel_rfl
end B7
namespace N7
def M:Fw:=⟨prog,159,f159,[194,198],[],false,[],[],[]⟩
def ok:M.Ok:=⟨.cons call194 (.cons call198 (AH.nil)),mixed,func159,by kernel_rfl⟩
def start (h:AG 194 #[(.func (.func 163) #[] #[])] Z2 R (λz y=>∃f1 a1 c1,(Value.func f1 a1 c1)=z/\AG 194 #[(.func (.func 166) #[] #[])] y R (λz AE=>∃f2 a2 c2,(Value.func f2 a2 c2)=z/\AG 194 #[(.func (.func 164) #[] #[])] AE R (λz AK=>∃f3 a3 c3,(Value.func f3 a3 c3)=z/\AG 194 #[(.func (.func 165) #[] #[])] AK R (λz Am=>∃f4 a4 c4,(Value.func f4 a4 c4)=z/\AG 194 #[(.func (.func 167) #[] #[])] Am R (λz CL=>∃f5 a5 c5,(Value.func f5 a5 c5)=z/\AG 194 #[(.func (.func 195) #[] #[])] CL R (λz Gu=>∃f6 a6 c6,(Value.func f6 a6 c6)=z/\AG 194 #[(.func (.func 197) #[] #[])] Gu R (λz EZ=>∃f7 a7 c7,(Value.func f7 a7 c7)=z/\AG 198 #[(.func (.func 199) #[] #[])] EZ R (λz S0=>∃f8 a8 c8,(Value.func f8 a8 c8)=z/\AG 198 #[(.func (.func 201) #[] #[])] S0 R (λz UD=>∃f9 a9 c9,(Value.func f9 a9 c9)=z/\AG 198 #[(.func (.func 203) #[] #[])] UD R (λz G=>∃f10 oO L6,(Value.func f10 oO L6)=z/\Al G λE2=>R (.returned (.slice (aD E2 0) 11 11)) (Hp.set G E2 (.cells #[.nilFunc,(Value.func f10 oO L6),(Value.func f9 a9 c9),(Value.func f8 a8 c8),(Value.func f1 a1 c1),(Value.func f2 a2 c2),(Value.func f3 a3 c3),(Value.func f4 a4 c4),(Value.func f5 a5 c5),(Value.func f6 a6 c6),(Value.func f7 a7 c7)] 240 (0,0)))))))))))))):Spec prog 159 #[] Z2 R:=M.start h ok
end N7
namespace Xm
variable {p0 p1:Option Addr}{n0 c0 n1 c1:Nat}
def M:Fw:=⟨prog,161,f161,[207],[],false,[],[],[]⟩
def ok:M.Ok:=⟨.cons call207 (AH.nil),mixed,func161,by kernel_rfl⟩
def start (h:Al Z2 λb3=>AG 207 #[.slice p0 n0 c0,(.func (.func 208) #[] #[(.pointer (aD b3 0))])] (Hp.set Z2 b3 (.cells #[.slice p1 n1 c1] 125 (0,0))) R (CS λp7 n7 c7 y=>R (.returned (.slice p7 n7 c7)) y)):Spec prog 161 #[.slice p0 n0 c0,.slice p1 n1 c1] Z2 R:=M.start h ok
end Xm
namespace Iu
variable {p0:Option Addr}{n0 c0:Nat}
def M:Fw:=⟨prog,164,f164,[212],[],false,[],[],[]⟩
def ok:M.Ok:=⟨.cons call212 (AH.nil),mixed,func164,by kernel_rfl⟩
def start (h:AG 212 #[.I 7,.slice p0 n0 c0] Z2 R (CI .u64 λx4 y=>R (.returned (.U x4)) y)):Spec prog 164 #[.slice p0 n0 c0] Z2 R:=M.start h ok
end Iu
namespace Iw
variable {s0:ByteArray}{x1:Int}
def M:Fw:=⟨prog,182,f182,[222,223],[],false,[],[],[]⟩
def ok:M.Ok:=⟨.cons call222 (.cons call223 (AH.nil)),mixed,func182,by kernel_rfl⟩
def start (h:AG 222 #[.string s0,.I x1] Z2 R (λz y=>∃vE vF,z=(.tuple #[vE,vF])/\∃t15,YF prog ((do eqGuard .neq 260 (.tmp 14) (.const .nilIface) vF .nilIface;binOp .neq 260 vF .nilIface)) y (.bool t15)/\Bo t15 (AG 223 #[(.string (ByteArray.mk #[80,97,114,115,101,70,108,111,97,116])),.string s0,.I 0,.I x1,vF] y R (λz AE=>∃G,G=z/\R (.T #[vE,G]) AE)) (R (.T #[vE,.nilIface]) y))):Spec prog 182 #[.string s0,.I x1] Z2 R:=M.start h ok
end Iw
namespace BU
variable {p0:Option Addr}{n0 c0:Nat}{x1 x8 x9 x10:Int}{v2:Value}
def M:Fw:=⟨prog,184,f184,[],[],false,[],[],[(480,[(0,wL),(1,wI),(2,wV),(8,wI),(9,wI),(10,wI)])]⟩
def ok:M.Ok:=⟨AH.nil,mixed,func184,by kernel_rfl⟩
def CA:=M.pt 0
def start (h:CA R p0 n0 c0 x1 v2 (n0:Int) 0 (n0:Int) Z2):Spec prog 184 #[.slice p0 n0 c0,.I x1,v2] Z2 R:=M.DJ h ok [(0,.o (.L p0 n0 c0)),(1,.o (.I .i64 x1)),(2,.o (.V v2))] rfl rfl (by kernel_rfl)
def A1 (h:Br (x9<x10) (AL (x9+x10)/\Df (IntKind.u64.wrap (x9+x10)) λaF=>((0:Int)<=1/\1<=((IntKind.bits .u64:Nat):Int))/\Df (aF/2^Int.toNat 1) λFK=>Df (IntKind.i64.wrap FK) λGA=>Pq p0 λzh zi=>In GA (n0:Int)/\∃je Wr,Az Z2 zh (zi+GA.toNat*2) [.I je,.U Wr]/\∃(f30:Nat) (AHz G:Array Value),v2=.func (.func f30) AHz G/\Enters prog f30/\Spec prog f30 (AHz++#[.agg #[.I je,.U Wr],.I x1]++G) Z2 (Ab R (CI .i64 λxL y=>Br (xL<0) (AL (GA+1)/\CA R (aD zh zi) n0 c0 x1 v2 x8 (GA+1) x10 y) (CA R (aD zh zi) n0 c0 x1 v2 x8 x9 GA y)))) (Br (x9<x8) (Pq p0 λrv o43=>In x9 (n0:Int)/\∃Jy Jz,Az Z2 rv (o43+x9.toNat*2) [.I Jy,.U Jz]/\∃(f46:Nat) (AH1 AH2:Array Value),v2=.func (.func f46) AH1 AH2/\Enters prog f46/\Spec prog f46 (AH1++#[.agg #[.I Jy,.U Jz],.I x1]++AH2) Z2 (Ab R (CI .i64 λx46 y=>R (.T #[.I x9,(.bool (decide (x46=0)))]) y))) (R (.T #[.I x9,.bool false]) Z2))):CA R p0 n0 c0 x1 v2 x8 x9 x10 Z2:=M.of h ok rfl
end BU
namespace j4
variable {x0 x1:Int}
def M:Fw:=⟨prog,204,f204,[213],[],false,[],[],[]⟩
def ok:M.Ok:=⟨.cons call213 (AH.nil),mixed,func204,by kernel_rfl⟩
def start (h:AG 213 #[.I 4,.U x0,.U x1] Z2 R (λz y=>∃H5 G,z=(.tuple #[.U H5,.bool G])/\R (.returned (.U H5)) y)):Spec prog 204 #[.U x0,.U x1] Z2 R:=M.start h ok
end j4
namespace Xn
variable {t0:Bool}
def M:Fw:=⟨prog,215,f215,[155],[],false,[],[],[]⟩
def ok:M.Ok:=⟨.cons call155 (AH.nil),mixed,func215,by kernel_rfl⟩
def start (h:Bo t0 (AG 155 #[.I 1] Z2 R (CI .u64 λx4 y=>R (.returned (.U x4)) y)) (AG 155 #[.I 0] Z2 R (CI .u64 λx5 y=>R (.returned (.U x5)) y))):Spec prog 215 #[.bool t0] Z2 R:=M.start h ok
end Xn
namespace sF
variable {De Dl U6 QI JE MB:Int}{U7:ByteArray}{cQ WV p1:Option Addr}{ad cR VZ WW n1 c1:Nat}{RE:Bool}
def M:Fw:=⟨prog,217,f217,[158,161,162],[2],false,[],[],[]⟩
def ok:M.Ok:=⟨.cons call158 (.cons call161 (.cons call162 (AH.nil))),mixed,func217,by kernel_rfl⟩
def start (h:∀b2:Nat,Br (JE=3) (AG 161 #[.slice p1 n1 c1,.slice WV VZ WW] Z2 R (CS λMb n11 Mc y=>R (.returned (.slice Mb n11 Mc)) y)) (AG 162 #[.slice p1 n1 c1,.slice WV VZ WW] Z2 R (CS λVW n15 TM y=>AG 158 #[.slice VW n15 TM] y R (CS λRe n16 P9 G=>R (.returned (.slice Re n16 P9)) G)))):Spec prog 217 #[.agg #[.I De,.I Dl,.string U7,.slice cQ ad cR,.I U6,.I QI,.I JE,.slice WV VZ WW,.bool RE,.I MB],.slice p1 n1 c1] Z2 R:=M.start h ok
end sF
namespace Xo
variable {v0:Value}
def M:Fw:=⟨prog,224,f224,[],[],false,[],[],[]⟩
def ok:M.Ok:=⟨AH.nil,mixed,func224,by kernel_rfl⟩
def start (h:∃t5,YF prog ((do eqGuard .neq 258 (.tmp 3) (.tmp 4) v0 v0;binOp .neq 258 v0 v0)) Z2 (.bool t5)/\R (.B t5) Z2):Spec prog 224 #[v0] Z2 R:=M.DJ h ok [(0,.o (.V v0))] rfl rfl (by kernel_rfl)
end Xo
namespace Qk
def M:Fw:=⟨prog,278,f278,[192],[],false,[],[],[]⟩
def ok:M.Ok:=⟨.cons call192 (AH.nil),mixed,func278,by kernel_rfl⟩
def start (h:AG 192 #[.U 4604544271217802189] Z2 R (λz y=>∃x2,(Value.float .f64 x2)=z/\∃x5,YF prog (Op.unary .neg (Value.float .f64 x2)) y (Value.float .f64 x5)/\∃x6 y6,YF prog (Builtin.complex_ #[258,258] 319 #[(Value.float .f64 x2),(Value.float .f64 x5)]) y (Value.complex .f64 x6 y6)/\∃x8,YF prog (Op.unary .neg (Value.float .f64 x2)) y (Value.float .f64 x8)/\∃x10,YF prog (Op.unary .neg (Value.float .f64 x2)) y (Value.float .f64 x10)/\∃x11 G,YF prog (Builtin.complex_ #[258,258] 319 #[(Value.float .f64 x8),(Value.float .f64 x10)]) y (Value.complex .f64 x11 G)/\∃Fq,YF prog (Op.unary .neg (Value.float .f64 x2)) y (Value.float .f64 Fq)/\∃x15 y15,YF prog (Builtin.complex_ #[258,258] 319 #[(Value.float .f64 Fq),(Value.float .f64 x2)]) y (Value.complex .f64 x15 y15)/\∃MA y18,YF prog (Builtin.complex_ #[258,258] 319 #[(Value.float .f64 x2),(Value.float .f64 x2)]) y (Value.complex .f64 MA y18)/\Al y λKA=>R (.returned (.slice (aD KA 0) 8 8)) (Hp.set y KA (.cells #[.complex .f64 4607182418800017408 0,(Value.complex .f64 x6 y6),.complex .f64 0 13830554455654793216,(Value.complex .f64 x11 G),.complex .f64 13830554455654793216 0,(Value.complex .f64 x15 y15),.complex .f64 0 4607182418800017408,(Value.complex .f64 MA y18)] 319 (0,0))))):Spec prog 278 #[] Z2 R:=M.start h ok
end Qk
namespace BD
variable {s0:ByteArray}{x5 x6 x12 x7:Int}{t13 t16 t19:Bool}
def M:Fw:=⟨prog,282,f282,[305,306,307],[],false,[],[],[(128001,[(0,wT),(5,wI),(6,wI),(12,w8),(13,wB)]),(256005,[(0,wT),(5,wI),(6,wI),(12,w8),(16,wB)]),(8004,[(0,wT),(5,wI),(6,wI)]),(256007,[(0,wT),(19,wB)]),(126,[]),(32022,[(5,wI),(6,wI),(7,wI)]),(32006,[(0,wT),(5,wI)])]⟩
def ok:M.Ok:=⟨.cons call305 (.cons call306 (.cons call307 (AH.nil))),mixed,func282,by kernel_rfl⟩
def Ed:=M.pt 0
def AKv:=M.pt 1
def AZY:=M.pt 2
def RJ:=M.pt 3
def AKw:=M.pt 4
def ASz:=M.pt 6
def start (h:Br (((s0.size:Int):Int)=0) (R (.T #[.float .f64 0,.I 0,.bool false]) Z2) (∃G:UInt8,(0:Int)<=0/\(ByteArray.data s0)[Int.toNat 0]?=some G/\Br (((G.toNat:Int):Int)=43) (Ed R s0 1 0 ((G.toNat:Int)) true Z2) (Ed R s0 1 0 ((G.toNat:Int)) ((decide (((G.toNat:Int):Int)=45))) Z2))):Spec prog 282 #[.string s0] Z2 R:=M.start h ok
def LF (h:Bo t13 (∃G:UInt8,(0:Int)<=0/\(ByteArray.data s0)[Int.toNat 0]?=some G/\Br (((G.toNat:Int):Int)=45) (ASz R s0 (-1) Z2) (ASz R s0 x5 Z2)) (Br (x12=105) (AKv R s0 x5 x6 x12 true Z2) (AKv R s0 x5 x6 x12 ((decide (x12=73))) Z2))):Ed R s0 x5 x6 x12 t13 Z2:=M.of h ok rfl
def AEw (h:Bo t16 (AZY R s0 x5 x6 Z2) (Br (x12=110) (RJ R s0 true Z2) (RJ R s0 ((decide (x12=78))) Z2))):AKv R s0 x5 x6 x12 t16 Z2:=M.of h ok rfl
def Pp (h:Bo t19 (AG 305 #[.string s0,(.string (ByteArray.mk #[110,97,110]))] Z2 R (CI .i64 λyp y=>Br (yp=3) (AG 307 #[] y R (λz G=>∃xM,(Value.float .f64 xM)=z/\R (.T #[(Value.float .f64 xM),.I 3,.bool true]) G)) (AKw R y))) (AKw R Z2)):RJ R s0 t19 Z2:=M.of h ok rfl
def AEx (h:R (.T #[.float .f64 0,.I 0,.bool false]) Z2):AKw R  Z2:=M.of h ok rfl
end BD
namespace AF
variable {s0:ByteArray}{x2 x3 x7 x10 x11 x12 x15 x16 x17 Cd Po:Int}{t4 t5 t6 t8 t9 t13 t14:Bool}
def M:Fw:=⟨prog,283,f283,[308,309],[],false,[],[],[(110,[(0,wT),(2,wU),(3,wI),(4,wB),(5,wB),(6,wB),(7,wI),(8,wB),(9,wB)]),(1790,[(0,wT),(2,wU),(3,wI),(4,wB),(5,wB),(6,wB),(7,wI),(8,wB),(9,wB),(10,wU),(11,wI),(12,w8)]),(1834976,[(0,wT),(2,wU),(3,wI),(4,wB),(5,wB),(6,wB),(7,wI),(8,wB),(9,wB),(10,wU),(11,wI),(12,w8),(13,wB),(14,wB),(15,wI),(16,wI),(17,wI)]),(458748,[(0,wT),(2,wU),(3,wI),(4,wB),(5,wB),(6,wB),(7,wI),(8,wB),(9,wB),(10,wU),(12,w8),(13,wB),(14,wB),(15,wI),(16,wI),(17,wI)]),(1835004,[(0,wT),(2,wU),(3,wI),(4,wB),(5,wB),(6,wB),(7,wI),(8,wB),(9,wB),(10,wU),(12,w8),(16,wI),(17,wI)]),(3670012,[(0,wT),(2,wU),(3,wI),(4,wB),(5,wB),(6,wB),(7,wI),(8,wB),(9,wB),(10,wU),(12,w8),(16,wI),(17,wI)]),(7340028,[(0,wT),(2,wU),(3,wI),(4,wB),(5,wB),(6,wB),(7,wI),(8,wB),(9,wB),(16,wI),(17,wI)]),(14680060,[(0,wT),(2,wU),(3,wI),(4,wB),(5,wB),(6,wB),(7,wI),(8,wB),(9,wB)]),(469761724,[(0,wT),(2,wU),(3,wI),(4,wB),(5,wB),(6,wB),(7,wI),(8,wB),(9,wB),(16,wI),(17,wI),(19,wI)]),(15032375264,[(0,wT),(2,wU),(3,wI),(4,wB),(5,wB),(6,wB),(7,wI),(8,wB),(9,wB),(16,wI),(17,wI),(19,wI),(20,wI)]),(15032375267,[(0,wT),(2,wU),(3,wI),(4,wB),(5,wB),(6,wB),(7,wI),(8,wB),(9,wB),(16,wI),(17,wI),(19,wI),(20,wI)]),(1834979,[(0,wT),(2,wU),(3,wI),(4,wB),(5,wB),(6,wB),(7,wI),(8,wB),(9,wB),(10,wU),(11,wI),(12,w8),(13,wB),(14,wB),(15,wI),(16,wI),(17,wI)])]⟩
def ok:M.Ok:=⟨.cons call308 (.cons call309 (AH.nil)),mixed,func283,by kernel_rfl⟩
def NB:=M.pt 0
def QK:=M.pt 1
def AAn:=M.pt 2
def SK:=M.pt 3
def sG:=M.pt 4
def AAo:=M.pt 5
def AAp:=M.pt 6
def AAq:=M.pt 7
def AAr:=M.pt 8
def Hl:=M.pt 11
def start (h:Br (((s0.size:Int):Int)<=0) (R (.T #[.U 0,.I 0,.bool false,.bool false,.bool false,.I 0,.bool false]) Z2) (∃G:UInt8,(0:Int)<=0/\(ByteArray.data s0)[Int.toNat 0]?=some G/\Br (((G.toNat:Int):Int)=43) (AL (0+1)/\NB R s0 0 0 false false false (0+1) false false Z2) (Br (((G.toNat:Int):Int)=45) (AL (0+1)/\NB R s0 0 0 true false false (0+1) false false Z2) (NB R s0 0 0 false false false 0 false false Z2)))):Spec prog 283 #[.string s0] Z2 R:=M.start h ok
def LG (h:AL (x7+2)/\Br (((x7+2):Int)<(s0.size:Int)) (∃G:UInt8,0<=x7/\(ByteArray.data s0)[x7.toNat]?=some G/\Br (((G.toNat:Int):Int)=48) (AL (x7+1)/\∃u51:UInt8,(0:Int)<=(x7+1)/\(ByteArray.data s0)[Int.toNat (x7+1)]?=some u51/\AG 308 #[(.int .u8 (u51.toNat:Int))] Z2 R (CI .u8 λx52 y=>Br (x52=120) (AL (x7+2)/\QK R s0 x2 x3 t4 t5 true (x7+2) t8 t9 16 16 112 y) (QK R s0 x2 x3 t4 t5 t6 x7 t8 t9 10 19 101 y))) (QK R s0 x2 x3 t4 t5 t6 x7 t8 t9 10 19 101 Z2)) (QK R s0 x2 x3 t4 t5 t6 x7 t8 t9 10 19 101 Z2)):NB R s0 x2 x3 t4 t5 t6 x7 t8 t9 Z2:=M.of h ok rfl
def LH (h:AAn R s0 x2 x3 t4 t5 t6 x7 t8 t9 x10 x11 x12 false false 0 0 0 Z2):QK R s0 x2 x3 t4 t5 t6 x7 t8 t9 x10 x11 x12 Z2:=M.of h ok rfl
def sH (h:Br (x7<(s0.size:Int)) (∃G:UInt8,0<=x7/\(ByteArray.data s0)[x7.toNat]?=some G/\Br (((G.toNat:Int):Int)=95) (Hl R s0 x2 x3 t4 t5 t6 x7 t8 true x10 x11 x12 t13 t14 x15 x16 x17 Z2) (Br (((G.toNat:Int):Int)=46) (Bo t13 (SK R s0 x2 x3 t4 t5 t6 x7 t8 t9 x10 x12 true t14 x15 x16 x17 Z2) (Hl R s0 x2 x3 t4 t5 t6 x7 t8 t9 x10 x11 x12 true t14 x15 x16 x15 Z2)) (Br ((48:Int)<=(G.toNat:Int)) (Br (((G.toNat:Int):Int)<=57) (Br (((G.toNat:Int):Int)=48) (Br (x15=0) (AL (x17-1)/\Hl R s0 x2 x3 t4 t5 t6 x7 t8 t9 x10 x11 x12 t13 true x15 x16 (x17-1) Z2) (AL (x15+1)/\Br (x16<x11) (Df (IntKind.u64.wrap (x2*x10)) λx99=>Df (IntKind.u8.wrap ((G.toNat:Int)-48)) λvH=>Df (IntKind.u64.wrap vH) λvI=>Df (IntKind.u64.wrap (x99+vI)) λoP=>AL (x16+1)/\Hl R s0 oP x3 t4 t5 t6 x7 t8 t9 x10 x11 x12 t13 true (x15+1) (x16+1) x17 Z2) (Br (((G.toNat:Int):Int)≠48) (Hl R s0 x2 x3 t4 true t6 x7 t8 t9 x10 x11 x12 t13 true (x15+1) x16 x17 Z2) (Hl R s0 x2 x3 t4 t5 t6 x7 t8 t9 x10 x11 x12 t13 true (x15+1) x16 x17 Z2)))) (AL (x15+1)/\Br (x16<x11) (Df (IntKind.u64.wrap (x2*x10)) λx99=>Df (IntKind.u8.wrap ((G.toNat:Int)-48)) λvH=>Df (IntKind.u64.wrap vH) λvI=>Df (IntKind.u64.wrap (x99+vI)) λoP=>AL (x16+1)/\Hl R s0 oP x3 t4 t5 t6 x7 t8 t9 x10 x11 x12 t13 true (x15+1) (x16+1) x17 Z2) (Br (((G.toNat:Int):Int)≠48) (Hl R s0 x2 x3 t4 true t6 x7 t8 t9 x10 x11 x12 t13 true (x15+1) x16 x17 Z2) (Hl R s0 x2 x3 t4 t5 t6 x7 t8 t9 x10 x11 x12 t13 true (x15+1) x16 x17 Z2)))) (Br (x10=16) (AG 308 #[(.int .u8 (G.toNat:Int))] Z2 R (CI .u8 λAKx y=>Br (97<=AKx) (AG 308 #[(.int .u8 (G.toNat:Int))] y R (CI .u8 λAKy AE=>Br (AKy<=102) (AL (x15+1)/\Br (x16<x11) (Df (IntKind.u64.wrap (x2*16)) λAKz=>AG 308 #[(.int .u8 (G.toNat:Int))] AE R (CI .u8 λAK0 AK=>Df (IntKind.u8.wrap (AK0-97)) λAK1=>Df (IntKind.u8.wrap (AK1+10)) λAK2=>Df (IntKind.u64.wrap AK2) λAK3=>Df (IntKind.u64.wrap (AKz+AK3)) λAK4=>AL (x16+1)/\Hl R s0 AK4 x3 t4 t5 t6 x7 t8 t9 x10 x11 x12 t13 true (x15+1) (x16+1) x17 AK)) (Hl R s0 x2 x3 t4 true t6 x7 t8 t9 x10 x11 x12 t13 true (x15+1) x16 x17 AE)) (SK R s0 x2 x3 t4 t5 t6 x7 t8 t9 x10 x12 t13 t14 x15 x16 x17 AE))) (SK R s0 x2 x3 t4 t5 t6 x7 t8 t9 x10 x12 t13 t14 x15 x16 x17 y))) (SK R s0 x2 x3 t4 t5 t6 x7 t8 t9 x10 x12 t13 t14 x15 x16 x17 Z2))) (Br (x10=16) (AG 308 #[(.int .u8 (G.toNat:Int))] Z2 R (CI .u8 λAKx y=>Br (97<=AKx) (AG 308 #[(.int .u8 (G.toNat:Int))] y R (CI .u8 λAKy AE=>Br (AKy<=102) (AL (x15+1)/\Br (x16<x11) (Df (IntKind.u64.wrap (x2*16)) λAKz=>AG 308 #[(.int .u8 (G.toNat:Int))] AE R (CI .u8 λAK0 AK=>Df (IntKind.u8.wrap (AK0-97)) λAK1=>Df (IntKind.u8.wrap (AK1+10)) λAK2=>Df (IntKind.u64.wrap AK2) λAK3=>Df (IntKind.u64.wrap (AKz+AK3)) λAK4=>AL (x16+1)/\Hl R s0 AK4 x3 t4 t5 t6 x7 t8 t9 x10 x11 x12 t13 true (x15+1) (x16+1) x17 AK)) (Hl R s0 x2 x3 t4 true t6 x7 t8 t9 x10 x11 x12 t13 true (x15+1) x16 x17 AE)) (SK R s0 x2 x3 t4 t5 t6 x7 t8 t9 x10 x12 t13 t14 x15 x16 x17 AE))) (SK R s0 x2 x3 t4 t5 t6 x7 t8 t9 x10 x12 t13 t14 x15 x16 x17 y))) (SK R s0 x2 x3 t4 t5 t6 x7 t8 t9 x10 x12 t13 t14 x15 x16 x17 Z2))))) (SK R s0 x2 x3 t4 t5 t6 x7 t8 t9 x10 x12 t13 t14 x15 x16 x17 Z2)):AAn R s0 x2 x3 t4 t5 t6 x7 t8 t9 x10 x11 x12 t13 t14 x15 x16 x17 Z2:=M.of h ok rfl
def AAs (h:Bn t14 (R (.T #[.U x2,.I x3,.bool t4,.bool t5,.bool t6,.I x7,.bool t8]) Z2) (Bn t13 (sG R s0 x2 x3 t4 t5 t6 x7 t8 t9 x10 x12 x16 x15 Z2) (sG R s0 x2 x3 t4 t5 t6 x7 t8 t9 x10 x12 x16 x17 Z2))):SK R s0 x2 x3 t4 t5 t6 x7 t8 t9 x10 x12 t13 t14 x15 x16 x17 Z2:=M.of h ok rfl
def AAt (h:Br (x10=16) (AL (x17*4)/\AL (x16*4)/\AAo R s0 x2 x3 t4 t5 t6 x7 t8 t9 x10 x12 (x16*4) (x17*4) Z2) (AAo R s0 x2 x3 t4 t5 t6 x7 t8 t9 x10 x12 x16 x17 Z2)):sG R s0 x2 x3 t4 t5 t6 x7 t8 t9 x10 x12 x16 x17 Z2:=M.of h ok rfl
def AAu (h:Br (x7<(s0.size:Int)) (∃AS1:UInt8,0<=x7/\(ByteArray.data s0)[x7.toNat]?=some AS1/\AG 308 #[(.int .u8 (AS1.toNat:Int))] Z2 R (CI .u8 λAZa y=>Br (AZa=x12) (AL (x7+1)/\Br (((s0.size:Int):Int)<=(x7+1)) (R (.T #[.U x2,.I x3,.bool t4,.bool t5,.bool t6,(.I (x7+1)),.bool t8]) y) (∃G:UInt8,(0:Int)<=(x7+1)/\(ByteArray.data s0)[Int.toNat (x7+1)]?=some G/\Br (((G.toNat:Int):Int)=43) (AL ((x7+1)+1)/\AAr R s0 x2 x3 t4 t5 t6 (((x7+1)+1)) t8 t9 x16 x17 1 y) (Br (((G.toNat:Int):Int)=45) (AL ((x7+1)+1)/\AAr R s0 x2 x3 t4 t5 t6 (((x7+1)+1)) t8 t9 x16 x17 (-1) y) (AAr R s0 x2 x3 t4 t5 t6 (x7+1) t8 t9 x16 x17 1 y)))) (Br (x10=16) (R (.T #[.U x2,.I x3,.bool t4,.bool t5,.bool t6,.I x7,.bool t8]) y) (AAp R s0 x2 x3 t4 t5 t6 x7 t8 t9 x16 x17 y)))) (Br (x10=16) (R (.T #[.U x2,.I x3,.bool t4,.bool t5,.bool t6,.I x7,.bool t8]) Z2) (AAp R s0 x2 x3 t4 t5 t6 x7 t8 t9 x16 x17 Z2))):AAo R s0 x2 x3 t4 t5 t6 x7 t8 t9 x10 x12 x16 x17 Z2:=M.of h ok rfl
def AAv (h:Br (x2≠0) (AL (x17-x16)/\AAq R s0 x2 (x17-x16) t4 t5 t6 x7 t8 t9 Z2) (AAq R s0 x2 x3 t4 t5 t6 x7 t8 t9 Z2)):AAp R s0 x2 x3 t4 t5 t6 x7 t8 t9 x16 x17 Z2:=M.of h ok rfl
def j5 (h:Bo t9 (∃G,YF prog (Instr.sliceAt 9 (.string s0) none (some (.I x7)) none) Z2 (.string G)/\AG 309 #[.string G] Z2 R (CB λt250 y=>Bn t250 (R (.T #[.U x2,.I x3,.bool t4,.bool t5,.bool t6,.I x7,.bool t8]) y) (R (.T #[.U x2,.I x3,.bool t4,.bool t5,.bool t6,.I x7,.bool true]) y))) (R (.T #[.U x2,.I x3,.bool t4,.bool t5,.bool t6,.I x7,.bool true]) Z2)):AAq R s0 x2 x3 t4 t5 t6 x7 t8 t9 Z2:=M.of h ok rfl
def AAw (h:AL (x7+1)/\AAn R s0 x2 x3 t4 t5 t6 (x7+1) t8 t9 x10 x11 x12 t13 t14 x15 x16 x17 Z2):Hl R s0 x2 x3 t4 t5 t6 x7 t8 t9 x10 x11 x12 t13 t14 x15 x16 x17 Z2:=M.of h ok rfl
end AF
end TwW
end
end
section
namespace Tw
open Go
variable [GF]
def BR (O22:Hp):List (Nat×Obj)->Hp
 | []=>O22
 | (b,o)::L=>(BR O22 L).set b o
abbrev names (L:List (Nat×Obj)):List Nat:=L.map Prod.fst
section
variable {O22:Hp}{L:List (Nat×Obj)}{b i:Nat}{o o':Obj}
theorem FN (h:b ∉ names L):BR O22 L b=O22 b:=by
 induction L with
 | nil=>rfl
 | cons p L G=>
  simp only[names,AjR,Ai1,Ak9]at h;simp only[BR,Hp.AB h.1];exact G h.2
theorem BY:∀{L:List (Nat×Obj)} {i:Nat},(names L).Nodup->L[i]?=some (b,o)->BR O22 L b=some o
 | p::L,0,_,h=>by simp at h;subst h;exact Hp.AA _ _ _
 | p::L,i+1,G,h=>by
  simp only[Ajq]at h;have hm:b∈names L:=Ajf.2 ⟨_,Ai6 h,rfl⟩;have G:=Aj0.1 (show(p.1::names L).Nodup from G);have Ad:b≠p.1:=λe=>G.1 (e▸hm);simp only[BR,Hp.AB Ad];exact BY G.2 h
theorem Hp.BA {Z2:Hp}{a b:Nat}{o u:Obj}(h:a≠b):(Z2.set a o).set b u=(Z2.set b u).set a o:=by
 funext k
 simp only[Hp.set];by_cases G:k=a
 .subst G;simp[h]
 .simp[G]
theorem DO:∀{L:List (Nat×Obj)} {i:Nat},(names L).Nodup->L[i]?=some (b,o)->(BR O22 L).set b o'=BR O22 (L.set i (b,o'))
 | p::L,0,_,h=>by simp at h;subst h;exact Hp.set_set
 | p::L,i+1,G,h=>by
  simp only[Ajq]at h;have hm:b∈names L:=Ajf.2 ⟨_,Ai6 h,rfl⟩;have G:=Aj0.1 (show(p.1::names L).Nodup from G);have Ad:b≠p.1:=λe=>G.1 (e▸hm);simp only[BR,AlG];rw[Hp.BA (AjI Ad),DO G.2 h]
theorem RM:∀{L:List (Nat×Obj)},b ∉ names L->(BR O22 L).set b o=BR (O22.set b o) L
 | [],_=>rfl
 | p::L,h=>by
  simp only[names,AjR,Ai1,Ak9]at h;simp only[BR];rw[Hp.BA (AjI h.1),RM h.2]
theorem cW:∀{L:List (Nat×Obj)},b∈names L->BR O22 L b≠none
 | p::L,h=>by
  by_cases hb:b=p.1
  .subst hb;simp only[BR,Hp.AA];simp
  .simp only[names,AjR,Ai1]at h;simp only[BR,Hp.AB hb];exact cW (h.resolve_left hb)
theorem Pr (h:BR O22 L b=none):b ∉ names L/\O22 b=none:=by
 have hs:∀{L:List (Nat×Obj)},b ∉ names L->BR O22 L b=O22 b:=FN;have G:b ∉ names L:=λhm=>cW hm h;exact⟨G,(hs G).symm.trans h⟩
def VB (L:List (Nat×Obj))(O22:Hp):Prop:=∀b∈names L,O22 b=none
theorem VB.ext {O22:Hp}:∀{L:List (Nat×Obj)},(names L).Nodup->VB L O22->Ext O22 (BR O22 L)
 | [],_,_=>.refl O22
 | p::L,G,h=>by
  have G:=Aj0.1 (show(p.1::names L).Nodup from G);have ih:=VB.ext G.2 (λb hb=>h b (Aiz _ hb));refine ih.trans (.set ?_);rw[FN G.1];exact h _ (AjG ..)
theorem VB.set {O22:Hp}{b:Nat}{o:Obj}(h:VB L O22)(hb:b ∉ names L):VB L (O22.set b o):=λc G=>by
 have Ad:c≠b:=λe=>hb (e▸G);rw[Hp.AB Ad];exact h c G
end
theorem Spec.Lh {P:Program}{f:FuncId}{args:Array Value}{O22:Hp}:∀{L:List (Nat×Obj)} {R:Rr},(names L).Nodup->VB L O22->
  Spec P f args O22 (λe G=>VB L G->R e (BR G L))->Spec P f args (BR O22 L) R
 | [],R,_,_,h=>h.mono λe G hr=>hr (λb hb=>by cases hb)
 | p::L,R,hn,ho,h=>by
  have hn:=Aj0.1 (show(p.1::names L).Nodup from hn);refine Spec.AQ (by rw[FN hn.1];exact ho _ (AjG ..)) ?_;refine Spec.Lh hn.2 (λb hb=>ho b (Aiz _ hb)) (h.mono λe G hr fH G6=>hr λb hb=>?_);rcases Ai1.1 (show b∈p.1::names L from hb) with rfl|hb
  .rw[FN hn.1]at G6;exact G6
  .exact fH b hb
theorem AI.Lh {P:Program}{α:Type}{m:Sem α}{O22:Hp}:∀{L:List (Nat×Obj)} {Φ:α->Hp->Prop},(names L).Nodup->VB L O22->
  AI P m O22 (λv G=>VB L G->Φ v (BR G L))->AI P m (BR O22 L) Φ
 | [],R,_,_,h=>h.mono λe G hr=>hr (λb hb=>by cases hb)
 | p::L,R,hn,ho,h=>by
  have hn:=Aj0.1 (show(p.1::names L).Nodup from hn);refine AI.AQ (by rw[FN hn.1];exact ho _ (AjG ..)) ?_;refine AI.Lh hn.2 (λb hb=>ho b (Aiz _ hb)) (h.mono λe G hr fH G6=>hr λb hb=>?_);rcases Ai1.1 (show b∈p.1::names L from hb) with rfl|hb
  .rw[FN hn.1]at G6;exact G6
  .exact fH b hb
theorem AI.RN {P:Program}{O22:Hp}{L:List (Nat×Obj)}{i b n o:Nat}{T t:TypeId}{c c':Array Value}{v:Value}{Φ:Unit->Hp->Prop}(hz:∀w,(Go.sizeOf T).run P w=.ok n w)(G:(names L).Nodup)(hi:L[i]?=some (b,.cells c t (0,0)))
  (hv:v.cells.size=n) (hl:Nat.ble (o+n) c.size=true) (h1:(v.cells.toList.all λu=>u.oneCell')=true) (hc:Ks c o v.cells.toList=c') (h:Φ () (BR O22 (L.set i (b,.cells c' t (0,0))))) :
  AI P (Instr.storeAt T (.pointer (some ⟨b,o,none⟩)) v) (BR O22 L) Φ:=by
 subst hc;refine AI.store hz (BY G hi) hv (Ajo hl) (λu hu=>Ajt.1 h1 u hu) ?_;rw[DO G hi];exact h
theorem ldL {O22:Hp}{L:List (Nat×Obj)}{i b o:Nat}{t:TypeId}{c:Array Value}{v:Value}(G:(names L).Nodup)(hi:L[i]?=some (b,.cells c t (0,0)))(h:c[o]?=some v):Hp.ld (BR O22 L) ⟨b,o,none⟩=some v:=by
 simp[Hp.ld,BY G hi,h]
end Tw
end
section
namespace Tw
open Go Go.MapKept
variable [GF]
def Vw (p:Option Addr):List Nat:=match p with
 | some a=>[a.block]
 | none=>[]
structure Loc (A:Hp->Prop)(Z2:Hp)(S:List Nat):Prop where
 here:A Z2
 known:∀b∈S,Z2 b≠none
 loc:∀Z',(∀b∈S,Z' b=Z2 b)->A Z'
section
variable {P:Program}{Z2:Hp}{α:Type}
theorem AI.obj {m:Sem α}{b:Nat}{o o':Obj}{v:α}{Φ:α->Hp->Prop}(hb:Z2 b=some o)(hm:∀w,Sat Z2 w->∃w1:World,(w1=w\/w1=w.drew)/\m.run P w=.ok v (ChangeMaps.setBlock w1 b o'))(h:Φ v (Z2.set b o')):AI P m Z2 Φ:=λw F hs hF=>by
 obtain⟨w1,hw,CD⟩:=hm w hs;have Ax:b<w.heap.size:=(AjF.1 (hs b o hb)).1;have FA:w1.heap=w.heap:=by rcases hw with rfl|rfl<;>rfl
 refine⟨v,_,_,CD,h,λk u G=>?_,λk G=>?_,?_,?_,?_⟩
 .simp only[ChangeMaps.setBlock,FA];by_cases FB:k=b
  .subst FB;rw[Hp.AA]at G;cases G;simp[Ax]
  .rw[Hp.AB FB]at G;simp[AjI FB,hs k u G]
 .have FB:k≠b:=λe=>by have:=(hF k G).2;rw[e,hb]at this;cases this
  refine⟨by rw[Hp.AB FB];exact(hF k G).2,?_⟩;simp[ChangeMaps.setBlock,FA,AjI FB]
 .rcases hw with rfl|rfl
  .exact .same rfl rfl rfl
  .exact⟨rfl,rfl,λ_=>⟨1,rfl⟩⟩
 .rcases hw with rfl|rfl<;>rfl
 .simp[ChangeMaps.setBlock,FA]
theorem AI.new {m:Sem α}{o:Obj}{v:Nat->α}{Φ:α->Hp->Prop}(hm:∀w,Sat Z2 w->m.run P w=.ok (v w.heap.size) (w.alloc o))(h:∀b,Z2 b=none->Φ (v b) (Z2.set b o)):AI P m Z2 Φ:=λw F G hF=>
 ⟨_,_,_,hm w G,h _ (Hb G),Fin.alloc G hF _ rfl (.same rfl rfl rfl) rfl⟩
class xP (P:Program)(T:TypeId)(K V:outParam TypeId):Prop where
 Us:P.underlying T=some (.map K V)
 key:P.underlying K=some .string
def Ay (Z2:Hp)(b:Nat)(l:List MapEntry)(clock:Nat):Prop:=Z2 b=some (.map l.toArray clock)/\Stamped l.toArray clock/\∀x∈l,IsKey .string x.key
theorem Ay.mono {Z2 Z':Hp}{b:Nat}{l:List MapEntry}{clock:Nat}(h:Ay Z2 b l clock)(G:Ext Z2 Z'):Ay Z' b l clock:=⟨G _ _ h.1,h.2⟩
theorem Ay.loc {Z2 Z':Hp}{b:Nat}{l:List MapEntry}{clock:Nat}(h:Ay Z2 b l clock)(G:Z' b=Z2 b):Ay Z' b l clock:=⟨G.trans h.1,h.2⟩
theorem Ay.nodup {Z2:Hp}{b:Nat}{l:List MapEntry}{clock:Nat}(h:Ay Z2 b l clock):(l.map (·.key)).Nodup:=h.2.1.2.2
theorem C7 {s:ByteArray}{l:List MapEntry}(hk:∀x∈l,IsKey .string x.key):
  (Instr.findNow .string (.string s) l 0=some none/\∀x∈l,x.key≠.string s)\/∃G e l2,l=G++e::l2/\e.key=.string s/\Instr.findNow .string (.string s) l 0=some (some (G.length,e.val)):=by
 rcases findNow_spec (d:=.string) (k:=.string s) trivial l 0 hk with h|⟨j,e,h1,h2,h3⟩
 .exact .inl h
 .obtain⟨hj,rfl⟩:=Ai0.1 h2;refine .inr ⟨l.take j,l[j],l.drop (j+1),?_,h3,?_⟩
  .rw[Ak2,Aj4]
  .rw[h1];simp[AlC (AmX hj)]
section
variable {T K V ty:TypeId}{b clock:Nat}{l:List MapEntry}{s:ByteArray}
theorem Cy {Φ:Value->Hp->Prop}(h:∀b,Z2 b=none->Φ (.map (some b)) (Z2.set b (.map #[] 0))):AI P (Instr.makeMap T none) Z2 Φ:=
 AI.new (v:=λb=>.map (some b)) (λw _=>by simp[Instr.makeMap,Result.andThen]) h
theorem Ay.fresh {b:Nat}{Z2:Hp}:Ay (Z2.set b (.map #[] 0)) b [] 0:=⟨Hp.AA _ _ _,stamped_empty 0,by simp⟩
theorem KY [t:xP P T K V](hm:Ay Z2 b l clock){z:Value}(hz:∀w,(zeroValue V).run P w=.ok z w){Q:Value->Prop}
  (h0:(∀x∈l,x.key≠.string s)->Q z) (h1:∀l1 e l2,l=l1++e::l2->e.key=.string s->Q e.val):∃v,Q v/\YF P (Instr.lookup T (.map (some b)) (.string s) false) Z2 v:=by
 rcases C7 (s:=s) hm.2.2 with ⟨G,hn⟩|⟨l1,e,l2,hl,he,G⟩
 .refine⟨z,h0 hn,λw hs=>?_⟩;have:=hs _ _ hm.1;simp[Instr.lookup,run_underlying t.Us,run_getObj_map this,run_checkKey t.key (k:=.string s) trivial,run_findKey t.key G,hz,Result.andThen]
 .refine⟨e.val,h1 l1 e l2 hl he,λw hs=>?_⟩;have:=hs _ _ hm.1;simp[Instr.lookup,run_underlying t.Us,run_getObj_map this,run_checkKey t.key (k:=.string s) trivial,run_findKey t.key G,Result.andThen]
theorem Li [t:xP P T K V](hm:Ay Z2 b l clock){z:Value}(hz:∀w,(zeroValue V).run P w=.ok z w){Φ:Value->Hp->Prop}
  (G:(∀x∈l,x.key≠.string s)->Φ z Z2) (h1:∀l1 e l2,l=l1++e::l2->e.key=.string s->Φ e.val Z2):AI P (Instr.lookup T (.map (some b)) (.string s) false) Z2 Φ:=by
 obtain⟨v,hq,hy⟩:=KY (T:=T) (K:=K) (s:=s) (Q:=λv=>Φ v Z2) hm hz G h1;exact AI.pu hy hq
theorem oQ [t:xP P T K V](hm:Ay Z2 b l clock):YF P (Builtin.len_ #[T] ty #[.map (some b)]) Z2 (.int .i64 l.length):=λw G=>by
 have:=G _ _ hm.1;simp[Builtin.len_,run_underlying t.Us,run_getObj_map this,goInt,Result.andThen]
abbrev Ky (s:ByteArray)(v:Value)(n:Nat):MapEntry:={ key:=.string s,val:=v,born:=n }
theorem FO [t:xP P T K V](hm:Ay Z2 b l clock){v:Value}{Φ:Unit->Hp->Prop}
  (h0:(∀x∈l,x.key≠.string s)->∀Z',Z'=Z2.set b (.map (l++[Ky s v clock]).toArray (clock+1))->Ay Z' b (l++[Ky s v clock]) (clock+1)->Φ () Z')
  (h1:∀G e l2,l=G++e::l2->e.key=.string s->∀Z',Z'=Z2.set b (.map (G++Ky s v e.born::l2).toArray clock)->Ay Z' b (G++Ky s v e.born::l2) clock->Φ () Z') :
  AI P (Instr.mapUpdate T (.map (some b)) (.string s) v) Z2 Φ:=by
 obtain⟨hb,B9,hk⟩:=hm;rcases C7 (s:=s) hk with ⟨hf,hn⟩|⟨G,e,l2,hl,he,hf⟩
 .have UR:(l++[Ky s v clock]).toArray=l.toArray.push (Ky s v clock):=by simp
  refine AI.obj (v:=()) (o':=.map (l++[Ky s v clock]).toArray (clock+1)) hb (λw hs=>⟨w,.inl rfl,?_⟩) (h0 hn _ rfl ⟨Hp.AA _ _ _,?_,?_⟩)
  .have:=hs _ _ hb;rw[UR];simp only[Instr.mapUpdate,Sem.run_bind,run_underlying t.Us,run_getObj_map this,run_checkKey t.key (k:=.string s) trivial,run_findKey t.key hf,Result.andThen_ok];simp[setObj,Sem.run,this,ChangeMaps.setBlock]
  .rw[UR];exact stamped_push B9 (by simpa using hn)
  .intro x hx;rcases AjU.1 hx with hx|hx
   .exact hk x hx
   .rw[Ai2]at hx;subst hx;trivial
 .subst hl;have VC:(G++Ky s v e.born::l2).toArray=(G++e::l2).toArray.modify G.length (λe=>{ e with key:=.string s,val:=v }):=by
   rw[<-AjS];apply AkA
   intro j;simp only[Aje,AkW,Ak5];by_cases hj:G.length=j
   .subst hj;simp
   .rw[Aiw hj];rcases Aku j G.length with h|h
    .rw[AjV h,AjV h]
    .have:∃k,j=G.length+(k+1):=⟨j-G.length-1,by omega⟩;obtain⟨k,rfl⟩:=this;simp[Ajm]
  have TW:(G++e::l2).toArray[G.length]?=some e:=by simp
  refine AI.obj (v:=()) (o':=.map (G++Ky s v e.born::l2).toArray clock) hb (λw hs=>⟨w,.inl rfl,?_⟩) (h1 G e l2 rfl he _ rfl ⟨Hp.AA _ _ _,?_,?_⟩)
  .have:=hs _ _ hb;rw[VC];simp only[Instr.mapUpdate,Sem.run_bind,run_underlying t.Us,run_getObj_map this,run_checkKey t.key (k:=.string s) trivial,run_findKey t.key hf,Result.andThen_ok,TW,Aju,Ak6,he,
    run_keyThatStays (d:=.string) (k:=.string s) trivial]
   simp[setObj,Sem.run,this,ChangeMaps.setBlock]
  .rw[VC];exact stamped_modify B9 _ _ (λ_ _=>rfl) (λe' _ VD=>by rw[TW]at VD;cases VD;exact he.symm)
  .intro x hx;rcases AjU.1 hx with hx|hx
   .exact hk x (AkI _ hx)
   .rcases Ai1.1 hx with rfl|hx
    .trivial
    .exact hk x (Ak4 _ (Aiz _ hx))
def Ix (Z2:Hp)(i b:Nat)(l L:List MapEntry)(clock:Nat):Prop:=
 ∃seen c0,Z2 i=some (.mapIter (some b) clock seen c0)/\clock<=c0/\L=(leftOf l.toArray seen).toList
theorem Ps [t:xP P T K V](hm:Ay Z2 b l clock){Φ:Value->Hp->Prop}(h:∀i o,Z2 i=none->Ix (Z2.set i o) i b l l clock->Φ (.pointer (some ⟨i,0,none⟩)) (Z2.set i o)):AI P (Instr.range T (.map (some b))) Z2 Φ:=
 AI.new (v:=λi=>.pointer (some ⟨i,0,none⟩)) (o:=.mapIter (some b) clock #[] clock) (λw G=>by
  have:=G _ _ hm.1;simp[Instr.range,run_underlying t.Us,run_getObj_map this,Result.andThen]) λi hi=>h i _ hi ⟨#[],clock,Hp.AA _ _ _,Ai7 _,by simp[leftOf,Akv.2]⟩
theorem TY {l:List MapEntry}{seen:Array Nat}{x:Nat}:(leftOf l.toArray (seen.push x)).toList=(leftOf l.toArray seen).toList.filter (λe=>e.born != x):=by
 simp only[leftOf,List.filter_toArray,List.filter_filter]
 congr 1
 funext e
 rw[Array.contains_push];cases seen.contains e.born<;>cases h:(e.born==x)<;>simp_all [bne]
theorem KZ (hm:Ay Z2 b l clock){i:Nat}{L:List MapEntry}(hi:Ix Z2 i b l L clock){Φ:Value->Hp->Prop}
  (h0:L=[]->Φ (.tuple #[.bool false]) Z2)
  (h1:∀e∈L,e∈l->∀o,(∀O22,O22 i=some o->Ix O22 i b l (L.filter λx=>x.born != e.born) clock)->
   (∀O22,O22 i=some o->O22 b=Z2 b->∀{Ψ:Value->Hp->Prop},Ψ (.tuple #[e.key,e.val]) O22->AI P (Instr.entry (.pointer (some ⟨i,0,none⟩))) O22 Ψ)->Φ (.tuple #[.bool true,e.key,e.val]) (Z2.set i o)) :
  AI P (Instr.next (.pointer (some ⟨i,0,none⟩)) false ty) Z2 Φ:=by
 obtain⟨seen,c0,hi,hc,rfl⟩:=hi;obtain⟨hb,B9,G⟩:=hm;have hold:∀x∈l.toArray.toList,x.born<clock:=B9.1;intro w F hs hF;rcases run_next_at (P:=P) w ty i b clock c0 seen l.toArray clock (hs _ _ hi) (hs _ _ hb) hold hc with ⟨h,CD⟩|⟨e,he,w1,aj,CD⟩
 .exact⟨_,w,Z2,CD,h0 (AjL (by simpa using h)),hs,λk G=>⟨(hF k G).2,rfl⟩,.same rfl rfl rfl,rfl,Ai7 _⟩
 .have xQ:=(mem_left he).1;have h2:=h1 e he (by simpa using xQ) (.mapIter (some b) clock (seen.push e.born) clock) (λO22 hτ=>⟨_,_,hτ,Ai7 _,TY.symm⟩) (λO22 hτ AAx Ψ hΨ=>AI.pu (λw' Pb=>run_entry_at w' i b clock seen l.toArray clock e (Pb _ _ hτ) (Pb _ _ (AAx.trans hb)) xQ B9.2.1) hΨ);have Ax:i<w.heap.size:=(AjF.1 (hs _ _ hi)).1;have FA:w1.heap=w.heap:=by rcases aj with rfl|rfl<;>rfl
  refine⟨_,_,_,CD,h2,λk u G=>?_,λk G=>?_,?_,?_,?_⟩
  .simp only[ChangeMaps.setBlock,FA];by_cases FB:k=i
   .subst FB;rw[Hp.AA]at G;cases G;simp[Ax]
   .rw[Hp.AB FB]at G;simp[AjI FB,hs k u G]
  .have FB:k≠i:=λe=>by have:=(hF k G).2;rw[e,hi]at this;cases this
   refine⟨by rw[Hp.AB FB];exact(hF k G).2,?_⟩;simp[ChangeMaps.setBlock,FA,AjI FB]
  .rcases aj with rfl|rfl
   .exact .same rfl rfl rfl
   .exact⟨rfl,rfl,λ_=>⟨1,rfl⟩⟩
  .rcases aj with rfl|rfl<;>rfl
  .simp[ChangeMaps.setBlock,FA]
end
end
end Tw
end
section
theorem Tw.Hp.AM {Z2:Tw.Hp}{b k:Nat}{o:Go.Obj}(h:(Z2.set b o) k=none):k≠b/\Z2 k=none:=by
 have G:k≠b:=λe=>by rw[e,Tw.Hp.AA]at h;cases h
 exact⟨G,by rw[Tw.Hp.AB G]at h;exact h⟩
namespace xR
open Go Go.MapKept Tw
variable [GF]
section
variable {P:Program}{Z2:Hp}
class xS (P:Program)(T:TypeId)(K V:outParam TypeId):Prop where
 Us:P.underlying T=some (.map K V)
 key:P.underlying K=some (.int .i64)
def Ay (Z2:Hp)(b:Nat)(l:List MapEntry)(clock:Nat):Prop:=Z2 b=some (.map l.toArray clock)/\Stamped l.toArray clock/\∀x∈l,IsKey (.int .i64) x.key
theorem Ay.loc {Z2 Z':Hp}{b:Nat}{l:List MapEntry}{clock:Nat}(h:Ay Z2 b l clock)(G:Z' b=Z2 b):Ay Z' b l clock:=⟨G.trans h.1,h.2⟩
theorem C7 {s:Int}{l:List MapEntry}(hk:∀x∈l,IsKey (.int .i64) x.key):
  (Instr.findNow (.int .i64) (.int .i64 s) l 0=some none/\∀x∈l,x.key≠.int .i64 s)\/∃G e l2,l=G++e::l2/\e.key=.int .i64 s/\Instr.findNow (.int .i64) (.int .i64 s) l 0=some (some (G.length,e.val)):=by
 rcases findNow_spec (d:=.int .i64) (k:=.int .i64 s) rfl l 0 hk with h|⟨j,e,h1,h2,h3⟩
 .exact .inl h
 .obtain⟨hj,rfl⟩:=Ai0.1 h2;refine .inr ⟨l.take j,l[j],l.drop (j+1),?_,h3,?_⟩
  .rw[Ak2,Aj4]
  .rw[h1];simp[AlC (AmX hj)]
section
variable {T K V ty:TypeId}{b clock:Nat}{l:List MapEntry}{s:Int}
theorem Ay.fresh {b:Nat}{Z2:Hp}:Ay (Z2.set b (.map #[] 0)) b [] 0:=⟨Hp.AA _ _ _,stamped_empty 0,by simp⟩
theorem KY [t:xS P T K V](hm:Ay Z2 b l clock){z:Value}(hz:∀w,(zeroValue V).run P w=.ok z w){Q:Value->Prop}
  (h0:(∀x∈l,x.key≠.int .i64 s)->Q z) (h1:∀l1 e l2,l=l1++e::l2->e.key=.int .i64 s->Q e.val):∃v,Q v/\YF P (Instr.lookup T (.map (some b)) (.int .i64 s) false) Z2 v:=by
 rcases C7 (s:=s) hm.2.2 with ⟨G,hn⟩|⟨l1,e,l2,hl,he,G⟩
 .refine⟨z,h0 hn,λw hs=>?_⟩;have:=hs _ _ hm.1;simp[Instr.lookup,run_underlying t.Us,run_getObj_map this,run_checkKey t.key (k:=.int .i64 s) rfl,run_findKey t.key G,hz,Result.andThen]
 .refine⟨e.val,h1 l1 e l2 hl he,λw hs=>?_⟩;have:=hs _ _ hm.1;simp[Instr.lookup,run_underlying t.Us,run_getObj_map this,run_checkKey t.key (k:=.int .i64 s) rfl,run_findKey t.key G,Result.andThen]
theorem Li [t:xS P T K V](hm:Ay Z2 b l clock){z:Value}(hz:∀w,(zeroValue V).run P w=.ok z w){Φ:Value->Hp->Prop}
  (G:(∀x∈l,x.key≠.int .i64 s)->Φ z Z2) (h1:∀l1 e l2,l=l1++e::l2->e.key=.int .i64 s->Φ e.val Z2):AI P (Instr.lookup T (.map (some b)) (.int .i64 s) false) Z2 Φ:=by
 obtain⟨v,hq,hy⟩:=KY (T:=T) (K:=K) (s:=s) (Q:=λv=>Φ v Z2) hm hz G h1;exact AI.pu hy hq
theorem oQ [t:xS P T K V](hm:Ay Z2 b l clock):YF P (Builtin.len_ #[T] ty #[.map (some b)]) Z2 (.int .i64 l.length):=λw G=>by
 have:=G _ _ hm.1;simp[Builtin.len_,run_underlying t.Us,run_getObj_map this,goInt,Result.andThen]
abbrev Ky (s:Int)(v:Value)(n:Nat):MapEntry:={ key:=.int .i64 s,val:=v,born:=n }
theorem FO [t:xS P T K V](hm:Ay Z2 b l clock){v:Value}{Φ:Unit->Hp->Prop}
  (h0:(∀x∈l,x.key≠.int .i64 s)->∀Z',Z'=Z2.set b (.map (l++[Ky s v clock]).toArray (clock+1))->Ay Z' b (l++[Ky s v clock]) (clock+1)->Φ () Z')
  (h1:∀G e l2,l=G++e::l2->e.key=.int .i64 s->∀Z',Z'=Z2.set b (.map (G++Ky s v e.born::l2).toArray clock)->Ay Z' b (G++Ky s v e.born::l2) clock->Φ () Z') :
  AI P (Instr.mapUpdate T (.map (some b)) (.int .i64 s) v) Z2 Φ:=by
 obtain⟨hb,B9,hk⟩:=hm;rcases C7 (s:=s) hk with ⟨hf,hn⟩|⟨G,e,l2,hl,he,hf⟩
 .have UR:(l++[Ky s v clock]).toArray=l.toArray.push (Ky s v clock):=by simp
  refine AI.obj (v:=()) (o':=.map (l++[Ky s v clock]).toArray (clock+1)) hb (λw hs=>⟨w,.inl rfl,?_⟩) (h0 hn _ rfl ⟨Hp.AA _ _ _,?_,?_⟩)
  .have:=hs _ _ hb;rw[UR];simp only[Instr.mapUpdate,Sem.run_bind,run_underlying t.Us,run_getObj_map this,run_checkKey t.key (k:=.int .i64 s) rfl,run_findKey t.key hf,Result.andThen_ok];simp[setObj,Sem.run,this,ChangeMaps.setBlock]
  .rw[UR];exact stamped_push B9 (by simpa using hn)
  .intro x hx;rcases AjU.1 hx with hx|hx
   .exact hk x hx
   .rw[Ai2]at hx;subst hx;rfl
 .subst hl;have VC:(G++Ky s v e.born::l2).toArray=(G++e::l2).toArray.modify G.length (λe=>{ e with key:=.int .i64 s,val:=v }):=by
   rw[<-AjS];apply AkA
   intro j;simp only[Aje,AkW,Ak5];by_cases hj:G.length=j
   .subst hj;simp
   .rw[Aiw hj];rcases Aku j G.length with h|h
    .rw[AjV h,AjV h]
    .have:∃k,j=G.length+(k+1):=⟨j-G.length-1,by omega⟩;obtain⟨k,rfl⟩:=this;simp[Ajm]
  have TW:(G++e::l2).toArray[G.length]?=some e:=by simp
  refine AI.obj (v:=()) (o':=.map (G++Ky s v e.born::l2).toArray clock) hb (λw hs=>⟨w,.inl rfl,?_⟩) (h1 G e l2 rfl he _ rfl ⟨Hp.AA _ _ _,?_,?_⟩)
  .have:=hs _ _ hb;rw[VC];simp only[Instr.mapUpdate,Sem.run_bind,run_underlying t.Us,run_getObj_map this,run_checkKey t.key (k:=.int .i64 s) rfl,run_findKey t.key hf,Result.andThen_ok,TW,Aju,Ak6,he,
    run_keyThatStays (d:=.int .i64) (k:=.int .i64 s) rfl]
   simp[setObj,Sem.run,this,ChangeMaps.setBlock]
  .rw[VC];exact stamped_modify B9 _ _ (λ_ _=>rfl) (λe' _ VD=>by rw[TW]at VD;cases VD;exact he.symm)
  .intro x hx;rcases AjU.1 hx with hx|hx
   .exact hk x (AkI _ hx)
   .rcases Ai1.1 hx with rfl|hx
    .rfl
    .exact hk x (Ak4 _ (Aiz _ hx))
theorem Ps [t:xS P T K V](hm:Ay Z2 b l clock){Φ:Value->Hp->Prop}(h:∀i o,Z2 i=none->Ix (Z2.set i o) i b l l clock->Φ (.pointer (some ⟨i,0,none⟩)) (Z2.set i o)):AI P (Instr.range T (.map (some b))) Z2 Φ:=
 AI.new (v:=λi=>.pointer (some ⟨i,0,none⟩)) (o:=.mapIter (some b) clock #[] clock) (λw G=>by
  have:=G _ _ hm.1;simp[Instr.range,run_underlying t.Us,run_getObj_map this,Result.andThen]) λi hi=>h i _ hi ⟨#[],clock,Hp.AA _ _ _,Ai7 _,by simp[leftOf,Akv.2]⟩
theorem KZ (hm:Ay Z2 b l clock){i:Nat}{L:List MapEntry}(hi:Ix Z2 i b l L clock){Φ:Value->Hp->Prop}
  (h0:L=[]->Φ (.tuple #[.bool false]) Z2)
  (h1:∀e∈L,e∈l->∀o,(∀O22,O22 i=some o->Ix O22 i b l (L.filter λx=>x.born != e.born) clock)->
   (∀O22,O22 i=some o->O22 b=Z2 b->∀{Ψ:Value->Hp->Prop},Ψ (.tuple #[e.key,e.val]) O22->AI P (Instr.entry (.pointer (some ⟨i,0,none⟩))) O22 Ψ)->Φ (.tuple #[.bool true,e.key,e.val]) (Z2.set i o)) :
  AI P (Instr.next (.pointer (some ⟨i,0,none⟩)) false ty) Z2 Φ:=by
 obtain⟨seen,c0,hi,hc,rfl⟩:=hi;obtain⟨hb,B9,G⟩:=hm;have hold:∀x∈l.toArray.toList,x.born<clock:=B9.1;intro w F hs hF;rcases run_next_at (P:=P) w ty i b clock c0 seen l.toArray clock (hs _ _ hi) (hs _ _ hb) hold hc with ⟨h,CD⟩|⟨e,he,w1,aj,CD⟩
 .exact⟨_,w,Z2,CD,h0 (AjL (by simpa using h)),hs,λk G=>⟨(hF k G).2,rfl⟩,.same rfl rfl rfl,rfl,Ai7 _⟩
 .have xQ:=(mem_left he).1;have h2:=h1 e he (by simpa using xQ) (.mapIter (some b) clock (seen.push e.born) clock) (λO22 hτ=>⟨_,_,hτ,Ai7 _,TY.symm⟩) (λO22 hτ AAx Ψ hΨ=>AI.pu (λw' Pb=>run_entry_at w' i b clock seen l.toArray clock e (Pb _ _ hτ) (Pb _ _ (AAx.trans hb)) xQ B9.2.1) hΨ);have Ax:i<w.heap.size:=(AjF.1 (hs _ _ hi)).1;have FA:w1.heap=w.heap:=by rcases aj with rfl|rfl<;>rfl
  refine⟨_,_,_,CD,h2,λk u G=>?_,λk G=>?_,?_,?_,?_⟩
  .simp only[ChangeMaps.setBlock,FA];by_cases FB:k=i
   .subst FB;rw[Hp.AA]at G;cases G;simp[Ax]
   .rw[Hp.AB FB]at G;simp[AjI FB,hs k u G]
  .have FB:k≠i:=λe=>by have:=(hF k G).2;rw[e,hi]at this;cases this
   refine⟨by rw[Hp.AB FB];exact(hF k G).2,?_⟩;simp[ChangeMaps.setBlock,FA,AjI FB]
  .rcases aj with rfl|rfl
   .exact .same rfl rfl rfl
   .exact⟨rfl,rfl,λ_=>⟨1,rfl⟩⟩
  .rcases aj with rfl|rfl<;>rfl
  .simp[ChangeMaps.setBlock,FA]
end
end
end xR
end
section
namespace Tw
open Go
variable [GF]
def Xp (s:ByteArray):List Value:=s.data.toList.map λb=>.int .u8 b.toNat
theorem AAy {s:ByteArray}:(Xp s).length=s.size:=by simp[Xp]
theorem AAz {s:ByteArray}:FZ (Xp s):=λu G=>by obtain⟨x,_,rfl⟩:=Ajf.1 G;rfl
section append
variable {P:Program}{T E ty:TypeId}{bs:Nat}{Z2:Hp}{p:Option Addr}{n c m:Nat}{cs ys:List Value}{Φ:Value->Hp->Prop}
theorem Xq {str:ByteArray}(w:World)(size:Nat):(Builtin.firstCells size str.size (.string str)).run P w=.ok (Xp str).toArray w:=by
 have hx:(Array.map (λb:UInt8=>Value.int IntKind.u8 (b.toNat:Int)) str.data).extract 0 str.size=(Xp str).toArray:=by
  have hs:str.size=(Array.map (λb:UInt8=>Value.int IntKind.u8 (b.toNat:Int)) str.data).size:=by rw[Array.size_map];rfl
  rw[hs,Alo];apply AmM
  simp[Xp]
 have G:Array.map (λb:UInt8=>Value.int IntKind.u8 (b.toNat:Int)) str.data=(Xp str).toArray:=by apply AmM;simp[Xp]
 simp[Builtin.firstCells,G]
theorem AEy [h:J2 P T E 1 bs]{U:TypeId}{str:ByteArray}(hU:P.underlying U=some .string)(CR:BH 1 Z2 p n c cs)(hm:str.size=m)(G:Xp str=ys)(hb:(n+m)*bs<=140737488355328)
  (hΦ:∀p' c' Z',BH 1 Z' p' (n+m) c' (cs++ys)->Ext (Z2.del p) (Z'.del p')->((p'=p/\c'=c/\n+m<=c)\/(c<n+m/\Ext Z2 Z'/\∀a,p'=some a->Z2 a.block=none))->Φ (.slice p' (n+m) c') Z') :
  AI P (Builtin.append_ #[T,U] ty #[.slice p n c,.string str]) Z2 Φ:=by
 obtain⟨ht,⟨i,z,hi,hz,MU,rfl,hzs⟩,Hu,xm⟩:=h;have h1:FZ ys:=G▸AAz;have hyl:ys.length=m*1:=by rw[<-G,<-hm,AkG];exact AAy
 have h62:n+m<=140737488355328:=Aj3 (AlK _ xm) hb;intro w F hs hF;have hf:=Xq (P:=P) (str:=str) w 1;rw[G,hm]at hf;have th:=λw':World=>Xq (P:=P) (str:=str) w' 1;rw[G,hm]at th;have Di:=λw' (hw:Sat Z2 w')=>Pa (P:=P) (d:=c) w' hw CR.rd;have hlen:(cs++ys).length=(n+m)*1:=by rw[Ai5,CR.1,hyl,AkB]
 by_cases JX:n+m<=c
 ·
  rcases CR.2.2 with ⟨hp,hn,hc⟩|⟨b,o,arr,T',rfl,hblk,qf,J1,Rc⟩
  .subst hp hn hc;have hm:m=0:=by omega
   subst hm;have G:ys=[]:=AjL (by simpa using hyl);have Rc:cs=[]:=AjL (by simpa using CR.1);subst G Rc;refine⟨.slice none 0 0,w,Z2,?_,hΦ none 0 Z2 BH.nil (Ext.refl _) (.inl ⟨rfl,rfl,JX⟩),hs,λb hb=>⟨(hF b hb).2,rfl⟩,.same rfl rfl rfl,rfl,Ai7 _⟩;simp[Builtin.append_,run_underlying ht,run_underlying hU,MU,hm,Go.sizeOf,typeInfo,hi,Builtin.lenOf,hf]
  .have hw:=hs _ _ hblk;have AIq:o+n*1+0+ys.length<=arr.size:=by
    rw[hyl];have:(n+m)*1<=c*1:=Ajk _ JX;rw[AkB]at this;omega
   have B9:=GK (P:=P) b (o+n*1) T' ys 0 arr w hw AIq h1;simp only[AkK,AkG]at B9;refine⟨.slice (some ⟨b,o,none⟩) (n+m) c,w.setRow b (Ks arr (o+n) ys),Z2.set b (.cells (Ks arr (o+n) ys) T' (0,0)),?_,hΦ _ _ _ ⟨hlen,by omega,.inr ⟨b,o,_,T',rfl,Hp.AA _ _ _,JX,by rw[KH];exact J1,?_⟩⟩ (by rw[Hp.Ku];exact Ext.refl _) (.inl ⟨rfl,rfl,JX⟩),?_⟩
   .simp[Builtin.append_,run_underlying ht,run_underlying hU,MU,hm,Go.sizeOf,typeInfo,hi,Builtin.lenOf,JX,hf,Cm,B9]
   .refine AkA λj=>?_;rw[AjQ];simp only[Aja,Aje];rw[VP _ _ _ _ (by omega),AkJ];have e1:cs.length=n*1:=CR.1;have e2:ys.length=m*1:=hyl;have e3:(n+m)*1=n*1+m*1:=AkB ..;by_cases hj1:j<cs.length
    .rw[Aiy (by omega),Aiw (by omega),Aiy hj1,<-Rc,AjQ,Aiy (by omega)];simp
    .rw[Aiw hj1];by_cases hj2:j<(n+m)*1
     .rw[Aiy hj2,Aiy (by omega),show o+j-(o+n)=j-cs.length by omega]
     .rw[Aiw hj2,AkF (by omega)]
   .refine⟨λk u hk=>?_,λk hk=>?_,.same rfl rfl rfl,rfl,by simp⟩
    .by_cases FB:k=b
     .subst FB;rw[Hp.AA]at hk;cases hk;exact setRow_heap w k arr _ T' (0,0) hw
     .rw[Hp.AB FB]at hk;rw[setRow_other _ _ _ _ FB];exact hs k u hk
    .have FB:k≠b:=λh=>by have:=(hF k hk).2;rw[h,hblk]at this;cases this
     exact⟨by rw[Hp.AB FB];exact(hF k hk).2,setRow_other _ _ _ _ FB⟩
 ·
  have AN8:Builtin.nextslicecap (n+m) c*i.bytes<=281474976710656:=growslice_fits (by omega) hb;have hgc:=grownCap_ge w (n+m) c E;have Pb:Sat Z2 w.drew:=hs;have CD:(Builtin.append_ #[T,U] ty #[.slice p n c,.string str]).run P w =
    .ok (.slice (some ⟨w.heap.size,0,none⟩) (n+m) (grownCap w (n+m) c E))
     (w.drew.alloc (.cells (cs.toArray++ys.toArray++Builtin.zeroCells z.cells (grownCap w (n+m) c E-(n+m))) E)):=by
   have AIr:¬(9223372036854775807<((n:Int)+(m:Int))):=by omega
   have AIs:¬(281474976710656<Builtin.nextslicecap (n+m) c*i.bytes):=by omega
   simp[Builtin.append_,run_underlying ht,run_underlying hU,MU,hm,Go.sizeOf,typeInfo,zeroValue,hi,hz,Builtin.lenOf,JX,AIr,AIs,Question.forced,th,Di _ Pb,newRow,grownCap]
   congr 2
   apply AmM
   simp[AjT]
  refine⟨_,_,Z2.set w.heap.size _,CD,hΦ _ _ _ ⟨hlen,by omega,.inr ⟨w.heap.size,0,_,E,rfl,Hp.AA _ _ _,hgc,?_,?_⟩⟩ ?_ (.inr ⟨by omega,Ext.set (Hb hs),λa ha=>by cases ha;exact Hb hs⟩),Fin.alloc hs hF _ rfl ⟨rfl,rfl,λ_=>⟨1,rfl⟩⟩ rfl⟩
  .simp only[Alw,Alx,size_zeroCells,hzs,CR.1,hyl,<-AkB];have:n+m+(grownCap w (n+m) c E-(n+m))=grownCap w (n+m) c E:=by omega
   rw[this];omega
  .simp only[Alj,AlI];rw[<-hlen];exact AmG
  .rw[Hp.Ro (Hb hs)];exact Ext.Kt Z2 p
end append
end Tw
end
section
namespace Tw
open Go
variable [GF]
def Hp.or (N M:Hp):Hp:=λk=>match N k with | some o=>some o | none=>M k
def Hp.minus (Z2 N:Hp):Hp:=λk=>match N k with | some _=>none | none=>Z2 k
def Gi (N M:Hp):Prop:=∀k,M k≠none->N k=none
theorem Hp.DZ {N M:Hp}{k:Nat}{o:Obj}(h:N k=some o):N.or M k=some o:=by simp[Hp.or,h]
theorem Hp.EH {N M:Hp}{k:Nat}(h:N k=none):N.or M k=M k:=by simp[Hp.or,h]
theorem Ext.DZ (N M:Hp):Ext N (N.or M):=λ_ _ h=>Hp.DZ h
theorem Ext.EH {N M:Hp}(hd:Gi N M):Ext M (N.or M):=λk o h=>by rw[Hp.EH (hd k (by rw[h];simp))];exact h
theorem Ext.j6 {N M Z2:Hp}(G:Ext N Z2)(h2:Ext M Z2):Ext (N.or M) Z2:=λk o h=>by
 unfold Hp.or at h;split at h
 .rename_i u hu;cases h;exact G _ _ hu
 .exact h2 _ _ h
theorem Hp.HP {Z2 N:Hp}{k:Nat}{o:Obj}:Z2.minus N k=some o↔N k=none/\Z2 k=some o:=by
 unfold Hp.minus;cases N k<;>simp
theorem Ext.AA0 (Z2 N:Hp):Ext (Z2.minus N) Z2:=λ_ _ h=>(Hp.HP.1 h).2
theorem Gi.minus (Z2 N:Hp):Gi N (Z2.minus N):=λk h=>by
 cases G:Z2.minus N k with
 | none=>exact absurd G h
 | some o=>exact(Hp.HP.1 G).1
theorem Ext.AA1 {Z2 Z' N:Hp}(h:Ext Z2 Z')(hd:Gi N Z2):Ext Z2 (Z'.minus N):=λk o G=>Hp.HP.2 ⟨hd k (by rw[G];simp),h _ _ G⟩
theorem Spec.AA2 {P:Program}{f:FuncId}{args:Array Value}{N M Z2:Hp}{R:Rr}(hN:Ext N Z2)(hM:Ext M Z2)(hd:Gi N M)
  (h:Spec P f args N (λe N'=>Gi N' M->R e (N'.or M))):Spec P f args Z2 R:=λw F hs hF=>by
 have hMs:∀k,M k≠none->∃o,M k=some o/\w.heap[k]?=some o:=λk G=>by
  cases hh:M k with
  | none=>exact absurd hh G
  | some o=>exact⟨o,rfl,hs _ _ (hM _ _ hh)⟩
 refine(h w (λk=>F k\/M k≠none) (λk o G=>hs _ _ (hN _ _ G)) λk G=>?_).mono ?_
 .rcases G with G|G
  .exact⟨(hF k G).1,A4 hN (hF k G).2⟩
  .obtain⟨o,_,ho⟩:=hMs k G;exact⟨(AjF.1 ho).1,hd k G⟩
 .rintro e w' ⟨N',hr,hf⟩
  have hd':Gi N' M:=λk G=>(hf.BI k (.inr G)).1;refine⟨N'.or M,hr hd',λk o G=>?_,λk G=>⟨?_,(hf.BI k (.inl G)).2⟩,hf.os,hf.out,hf.grow⟩
  .unfold Hp.or at G;split at G
   .rename_i u hu;cases G;exact hf.sat _ _ hu
   .have Ad:M k≠none:=by rw[G];simp
    obtain⟨o',h1,h2⟩:=hMs k Ad;rw[G]at h1;cases h1;rw[(hf.BI k (.inr Ad)).2];exact h2
  .rw[Hp.EH (hf.BI k (.inl G)).1];exact A4 hM (hF k G).2
end Tw
end
section
namespace TwW
open Go Tw Go.Proofs.Tryz
theorem AJ {Z2:Hp}{b o:Nat}{c:Array Value}{t:TypeId}{fr:Nat×Nat}{v:Value}(h:Z2 b=some (.cells c t fr))(hv:c[o]?=some v):Z2.ld ⟨b,o,none⟩=some v:=by simp[Hp.ld,h,hv]
section
variable {Z2:Hp}{d:Nat}{S:List Nat}{R:Rr}
end
end TwW
namespace TwW
open Go Tw Go.Proofs.Tryz
section
variable {Z2:Hp}{d:Nat}{S:List Nat}{R:Rr}
theorem BH.cap {s:Nat}{Z2:Hp}{p:Option Addr}{n c:Nat}{cs:List Value}(h:BH s Z2 p n c cs):n<=c:=by
 rcases h.2.2 with ⟨_,h1,h2⟩|⟨b,o,arr,T,_,_,G,_⟩
 .omega
 .exact G
end
end TwW
namespace TwW
open Go Tw Go.Proofs.Tryz
def uv (x:Nat):List Int:=if h:128<=x then((x%128+128:Nat):Int)::uv (x/128) else[(x:Int)]
termination_by x
decreasing_by omega
theorem AA3 {x:Nat}(h:128<=x):uv x=((x%128+128:Nat):Int)::uv (x/128):=by rw[uv,dif_pos h]
theorem SL {x:Nat}(h:¬128<=x):uv x=[(x:Int)]:=by rw[uv,dif_neg h]
theorem AA4:∀(k x:Nat),x<128^(k+1)->(uv x).length<=k+1
 | 0,x,h=>by rw[SL (by simpa using h)];simp
 | k+1,x,h=>by
  by_cases G:128<=x
  .rw[AA3 G];have:=AA4 k (x/128) (by rw[AlV (by decide)];rw[AmY]at h;exact h);simp;omega
  .rw[SL G];simp
theorem N8 {x:Nat}(h:x<18446744073709551616):(uv x).length<=10:=AA4 9 x (by omega)
set_option maxRecDepth 100000 in
theorem AS4:∀y:Fin 256,Go.bits .or .u8 (y.1:Int) 128=((y.1%128+128:Nat):Int):=by decide
theorem SM {R:Rr}{Z2:Hp}{p:Option Addr}{n c x:Nat}{xs:List Int}(hr:Dc .u8 Z2 p n xs)(hn:n<=70368744177664)(hx:x<18446744073709551616)
  (h:∀p' G c' Z',DS .u8 (Z2.new Z') p' G c' (xs++uv x)->Ext Z2 Z'->R (.returned (.slice p' G c')) Z'):Spec prog 140 #[.slice p n c,.U x] Z2 R:=by
 refine FJ.start λb hb=>?_;refine D9 BH.empty ((Fj.of_map hr).mono (.set hb)) FZ.Rm (by omega) λp' c' Z' CR N9=>?_;have hq:∀a:Addr,(some (⟨b,0,none⟩:Addr))=some a->Z2 a.block=none:=λa ha=>by cases ha;exact hb
 have ho:=BH.S8 CR (HB hq N9 (.set hb));have he:=Kv hq N9 (.set hb);refine⟨p',0+n,c',rfl,?_⟩;rw[Ajz]at ho ⊢;have hlen:=hr.1
 suffices H:∀(k x G:Nat) p' c' Z' ys,x<128^(k+1)->G+k<=n+9->DS .u8 (Z2.new Z') p' G c' ys->Ext Z2 Z'->(∀p' G c' Z',DS .u8 (Z2.new Z') p' G c' (ys++uv x)->Ext Z2 Z'->R (.returned (.slice p' G c')) Z')->FJ.FV R x p' G c' Z' from
  H 9 x n p' c' Z' xs (by omega) (by omega) ho he h
 intro k
 induction k with
 | zero=>
  intro x G p' c' Z' ys hx MQ ho he h;refine FJ.A9 ⟨λAx=>by omega,λ_ aF AK6 b2 F7=>?_⟩;have Xr:aF=(x:Int):=by rw[AK6];simp[IntKind.wrap,IntKind.bits,IntKind.signed];omega
  subst Xr;refine DS.Ey he ho (by omega) (λp2 c2 Z22 Bq he2 _=>⟨p2,G+1,c2,rfl,h _ _ _ _ ?_ he2⟩) F7;rw[SL (by omega)];exact Bq
 | succ k ih=>
  intro x G p' c' Z' ys hx MQ ho he h;refine FJ.A9 ⟨λAx x15 AEz x16 AZb b2 F7=>?_,λTW aF AK6 b2 F7=>?_⟩
  .have h15:x15=((x%256:Nat):Int):=by rw[AEz];simp[IntKind.wrap,IntKind.bits,IntKind.signed]
   have h16:x16=((x%128+128:Nat):Int):=by
    rw[AZb,h15,AS4 ⟨x%256,AlJ _ (by decide)⟩];have:x%256%128=x%128:=by omega
    rw[this]
   subst h16;refine DS.Ey he ho (by omega) (λp2 c2 Z22 Bq he2 _=>⟨p2,G+1,c2,rfl,by simp[IntKind.bits],λx12 AZc=>?_⟩) F7;have TZ:x12=((x/128:Nat):Int):=by rw[AZc];simp
   subst TZ;refine ih (x/128) (G+1) p2 c2 Z22 _ (by rw[AlV (by decide)];rw[AmY]at hx;exact hx) (by omega) Bq he2 λp3 n3 c3 Z3 Dh he3=>h p3 n3 c3 Z3 ?_ he3;rw[AA3 (by omega)];simpa using Dh
  .have Xr:aF=(x:Int):=by rw[AK6];simp[IntKind.wrap,IntKind.bits,IntKind.signed];omega
   subst Xr;refine DS.Ey he ho (by omega) (λp2 c2 Z22 Bq he2 _=>⟨p2,G+1,c2,rfl,h _ _ _ _ ?_ he2⟩) F7;rw[SL (by omega)];exact Bq
end TwW
namespace TwW
open Go Tw Go.RowKit Go.Proofs.Tryz
theorem Fj.at1 {Z2:Hp}{p:Option Addr}{n k:Nat}{L:List Value}{v:Value}(h:Fj 1 Z2 p n L)(hk:L[k]?=some v):∃b o,p=some ⟨b,o,none⟩/\Z2.ld ⟨b,o+k*1,none⟩=some v:=by
 obtain⟨h1,_,G⟩:=h;have Ax:=(Ai0.1 hk).1;rcases G with G|⟨b,o,hp,hl⟩
 .simp at h1;omega
 .refine⟨b,o,hp,?_⟩;rw[AkG];exact hl.get hk
section
variable {Z2 O22:Hp}{d:Nat}{R:Rr}
end
section
variable {dir:ByteArray}{cnt:Nat}
end
end TwW
namespace TwW
open Go Tw Go.RowKit Go.Proofs.Tryz
def byt (s:ByteArray):List Int:=s.data.toList.map λb=>(b.toNat:Int)
theorem sI {s:ByteArray}:(byt s).length=s.size:=by simp[byt]
theorem AA5 {s:ByteArray}:Xp s=(byt s).map (.int .u8):=by simp[Xp,byt]
theorem AA6 (l:List UInt8):strOfNums (l.map λb=>(b.toNat:Int))=⟨l.toArray⟩:=by
 apply AlR
 apply AjS.1
 rw[strOfNums_data,List.map_map]
 conv=>rhs;rw[<-List.map_id l]
 exact List.map_congr_left λa _=>by simp
section
variable {Z2:Hp}{R:Rr}
theorem SN {p:Option Addr}{n c:Nat}{xs:List Int}{s:ByteArray}(hr:Dc .u8 Z2 p n xs)(hn:n<=1048576)(hs:s.size<=1048576)
  (h:∀p' G c' Z',DS .u8 (Z2.new Z') p' G c' (xs++uv s.size++byt s)->Ext Z2 Z'->R (.returned (.slice p' G c')) Z'):Spec prog 141 #[.slice p n c,.string s] Z2 R:=by
 refine Qh.start λx8 h8=>?_;have e8:x8=(s.size:Int):=by rw[h8];simp[IntKind.wrap,IntKind.bits,IntKind.signed];omega
 subst e8;refine SM hr (by omega) (by omega) λp' G c' Z1 ho BS=>⟨p',G,c',rfl,?_⟩;have hq:∀a,p'=some a->Z2 a.block=none:=λa ha=>by
  have h2:=BH.block ho a ha;cases hh:(Z2.new Z1) a.block with
  | none=>exact absurd hh h2
  | some o=>exact(Ae.1 hh).1
 have hl:(xs++uv s.size).length=G:=by have:=ho.1;simpa using this
 have MK:=N8 (x:=s.size) (by omega);have hxl:xs.length=n:=hr.1;rw[Ai5]at hl;refine AEy underlying9 (BH.mono (Ext.CX _ _) ho) rfl AA5 (by omega) λp2 c2 Z22 Bq Aw _=>⟨p2,_,c2,rfl,?_⟩;have F7:=HB hq Aw BS;refine h p2 _ c2 Z22 ?_ (Kv hq Aw BS);have:=BH.S8 Bq F7;simpa[DS] using this
theorem US {p:Option Addr}{n c:Nat}{xs:List Int}(h:DS .u8 Z2 p n c xs):xs.length=n:=by have:=h.1;simpa using this
theorem j7 {s:ByteArray}:(ByteArray.toList s==ByteArray.toList (ByteArray.mk #[]))=decide (s.size=0):=by
 rw[ByteArray.toList_eq,ByteArray.toList_eq];by_cases h:s.size=0
 .have:s=⟨#[]⟩:=AlR (Ak0 h);subst this;rfl
 .rw[AjE h];simp only[Alk];intro e;apply h
  have:=Ai8 List.length e;simpa using this
end
end TwW
namespace TwW
open Go Tw Go.RowKit Go.Proofs.Tryz
abbrev Lb:=ByteArray×ByteArray
def CW (_:Hp)(vs:List Value)(x:Lb):Prop:=vs=[.string x.1,.string x.2]
theorem CW.mono:HA CW:=λ_ _ _ _ _ h=>h
abbrev Gy:=Af 2 CW
section
variable {Z2:Hp}{R:Rr}
theorem Gy.at {p:Option Addr}{n i:Nat}{ls:List Lb}{x:Lb}(hr:Gy Z2 p n ls)(hx:ls[i]?=some x):∃b o,p=some ⟨b,o,none⟩/\Az Z2 b (o+i*2) [.string x.1,.string x.2]:=by
 obtain⟨b,o,vs,hp,rfl,G⟩:=Af.idx hr hx;exact⟨b,o,hp,G⟩
theorem gm {s t:ByteArray}:(s.toList==t.toList)=decide (s=t):=by
 rw[ByteArray.toList_eq,ByteArray.toList_eq];by_cases h:s=t
 .subst h;simp
 .rw[AjE h,Alk];exact λe=>h (AlR (AjS.1 e))
theorem Vc {α:Type}{xs:List α}{k:Nat}{y:α}(G:xs[k]?=some y):xs.drop k=y::xs.drop (k+1):=by
 obtain⟨h,rfl⟩:=Ai0.1 G;exact AlB h
def Fa:List Lb->ByteArray->ByteArray
 | [],_=>⟨#[]⟩
 | x::l,k=>if x.1=k then x.2 else Fa l k
theorem ak {p:Option Addr}{n c:Nat}{ls:List Lb}{k:ByteArray}(hr:Gy Z2 p n ls)(h:R (.returned (.string (Fa ls k))) Z2):Spec prog 189 #[.slice p n c,.string k] Z2 R:=by
 refine KU.start ?_
 suffices H:∀d i:Nat,n-i=d->i<=n->Fa ls k=Fa (ls.drop i) k->KU.GG R k p n c n i Z2 from H n 0 rfl (AjB _) rfl
 intro d
 induction d with
 | zero=>
  intro i hd hi G;refine KU.BG ⟨λAx=>by omega,λ_=>?_⟩;rw[Ak3 (by rw[hr.1];omega)]at G;rw[G]at h;exact h
 | succ d ih=>
  intro i hd hi G;refine KU.BG ⟨λ_=>?_,λhh=>by omega⟩;have CF:i<n:=by omega
  obtain⟨x,hx⟩:=hr.ex CF;obtain⟨b,o,rfl,hl⟩:=Gy.at hr hx;rw[Vc hx,Fa]at G;refine⟨b,o,rfl,by omega,x.1,x.2,by simpa using hl,λ_=>⟨λhk=>?_,λhk=>⟨AO CF hr.big,ih (i+1) (by omega) (by omega) ?_⟩⟩⟩
  .rw[gm,AjH]at hk;rw[Aiy hk]at G;rw[G]at h;exact h
  .rw[gm,Aji]at hk;rwa[Aiw hk]at G
theorem AE0 {s:ByteArray}{ok:UInt8->Bool}{pt:Int->Prop}{G:Bool->Prop}
  (mj:G true->pt s.size) (L4:∀(k:Nat) (u:UInt8),k<s.size->s.data[Int.toNat (k:Int)]?=some u->AL ((k:Int)+1)->(ok u=true->pt ((k:Int)+1))->(ok u=false->G false)->pt k)
  (h:G (s.data.toList.all ok)) (hb:s.size<=4611686018427387904):pt 0:=by
 have J1:s.data.toList.length=s.size:=rfl
 suffices H:∀d k:Nat,s.size-k=d->k<=s.size->(s.data.toList.take k).all ok=true->pt k from H s.size 0 rfl (AjB _) rfl
 intro d
 induction d with
 | zero=>
  intro k hd hk Kr;rw[Ai4 (by omega)]at Kr;rw[Kr]at h;have:k=s.size:=by omega
  rw[this];exact mj h
 | succ d ih=>
  intro k hd hk Kr;have C8:k<s.size:=by omega
  obtain⟨u,hu⟩:∃u,s.data.toList[k]?=some u:=⟨_,Ai3 (by omega)⟩;refine L4 k u C8 (by simpa using hu) (by unfold AL;omega) (λhc=>ih (k+1) (by omega) (by omega) (by rw[AR hu,List.all_append,Kr];simpa using hc)) λhc=>?_;have:s.data.toList.all ok=false:=by
   rw[List.all_eq_false];exact⟨u,Ai6 hu,by simp[hc]⟩
  rwa[this]at h
def dgt (u:UInt8):Bool:=decide (48<=u.toNat/\u.toNat<=57)
def nch (u:UInt8):Bool:=decide (u.toNat=95\/(48<=u.toNat/\u.toNat<=57)\/(65<=u.toNat/\u.toNat<=90)\/(97<=u.toNat/\u.toNat<=122))
def Du (s:ByteArray):Bool:=decide (0<s.size)&&decide (s.size<=64)&&!(s.data.toList.head?.any dgt)&&s.data.toList.all nch
theorem PA {s:ByteArray}(h:R (.returned (.bool (Du s))) Z2):Spec prog 82 #[.string s] Z2 R:=by
 have J1:s.data.toList.length=s.size:=rfl;refine HJ.start ⟨λh0=>?_,λh0=>⟨λh1=>?_,λh1=>?_⟩⟩
 .rw[j7,AjH]at h0;simpa[Du,h0] using h
 .have:¬s.size<=64:=by omega
  simpa[Du,this] using h
 .rw[j7,Aji]at h0;obtain⟨u,hu⟩:∃u,s.data.toList[0]?=some u:=⟨_,Ai3 (by omega)⟩;have Bi:s.data[Int.toNat (0:Int)]?=some u:=by simpa using hu
  have hh:s.data.toList.head?=some u:=by rw[<-hu];cases s.data.toList<;>rfl
  have rest:dgt u=false->HJ.FH R s 0 Z2:=λhd=>by
   have e:Du s=s.data.toList.all nch:=by simp[Du,show 0<s.size by omega,show s.size<=64 by omega,hh,hd]
   rw[e]at h;refine AE0 (s:=s) (pt:=λk=>HJ.FH R s k Z2) (ok:=nch) (G:=λt=>R (.B t) Z2) (λg=>HJ.EB ⟨λAx=>by omega,λ_=>g⟩) (λk u hk hu hi good bad=>?_) h (by omega);simp only[nch,AjH,Aji]at good bad;refine HJ.EB ⟨λAx=>⟨u,by omega,hu,?_⟩,λTW=>by omega⟩;clear h;generalize u.toNat=n at good bad
   repeat' (first|refine⟨λ_=>?_,λ_=>?_⟩|exact⟨hi,good (by omega)⟩|exact bad (by omega))
  simp only[dgt,Aji]at rest;refine⟨u,by omega,Bi,λh2=>⟨u,by omega,Bi,λh3=>?_,λh3=>rest (by omega)⟩,λh2=>rest (by omega)⟩;have:dgt u=true:=by simp[dgt];omega
  simpa[Du,hh,this] using h
def vl:Nat->Nat->Nat->List UInt8->Bool
 | 0,_,_,[]=>true
 | _+1,_,_,[]=>false
 | 0,_,_,c::r=>
  if c.toNat<128 then vl 0 128 191 r
  else if 194<=c.toNat/\c.toNat<=223 then vl 1 128 191 r
  else if 224<=c.toNat/\c.toNat<=239 then(if c.toNat=224 then vl 2 160 191 r else if c.toNat=237 then vl 2 128 159 r else vl 2 128 191 r)
  else if 240<=c.toNat/\c.toNat<=244 then(if c.toNat=240 then vl 3 144 191 r else if c.toNat=244 then vl 3 128 143 r else vl 3 128 191 r)
  else false
 | m+1,lo,hi,c::r=>if c.toNat<lo\/hi<c.toNat then false else vl m 128 191 r
def al (s:ByteArray):Bool:=vl 0 128 191 s.data.toList
theorem vl0 (l:List UInt8)(a b c d:Nat):vl 0 a b l=vl 0 c d l:=by cases l<;>rfl
attribute [local irreducible] BE.CA BE.JL BE.zF in
theorem VE {s:ByteArray}(hb:s.size<=4611686018427387904)(h:R (.returned (.bool (al s))) Z2):Spec prog 83 #[.string s] Z2 R:=by
 have J1:s.data.toList.length=s.size:=rfl;refine BE.start ?_
 suffices H:∀d:Nat,(∀k:Nat,s.size-k=d->k<=s.size->al s=vl 0 128 191 (s.data.toList.drop k)->BE.CA R s k Z2)/\
   (∀(k m lo hi:Nat),s.size-k=d->k<=s.size->al s=vl m lo hi (s.data.toList.drop k)->m<=3->BE.zF R s k m lo hi Z2) from(H s.size).1 0 (by omega) (by omega) rfl
 intro d
 induction d with
 | zero=>
  have A:∀k:Nat,s.size-k=0->k<=s.size->al s=vl 0 128 191 (s.data.toList.drop k)->BE.CA R s k Z2:=λk hd hk G=>by
   refine BE.A1 ⟨λ_=>?_,λAd=>by omega⟩;rw[Ak3 (by omega)]at G;rw[G]at h;exact h
  refine⟨A,λk m lo hi hd hk G hm=>BE.rk ⟨λh0=>A k hd hk ?_,λh0=>⟨λ_=>?_,λAd=>by omega⟩⟩⟩
  .have:m=0:=by omega
   subst this;rw[G];exact vl0 _ _ _ _ _
  .obtain⟨m',rfl⟩:∃m',m=m'+1:=⟨m-1,by omega⟩;rw[Ak3 (by omega)]at G;rw[G]at h;exact h
 | succ d ih=>
  have A:∀k:Nat,s.size-k=d+1->k<=s.size->al s=vl 0 128 191 (s.data.toList.drop k)->BE.CA R s k Z2:=λk hd hk G=>by
   have C8:k<s.size:=by omega
   obtain⟨u,hu⟩:∃u,s.data.toList[k]?=some u:=⟨_,Ai3 (by omega)⟩;have Bi:s.data[Int.toNat (k:Int)]?=some u:=by simpa using hu
   have hi:AL ((k:Int)+1):=by unfold AL;omega
   rw[Vc hu,vl]at G;have st:∀(m lo hi:Nat),m<=3->al s=vl m lo hi (s.data.toList.drop (k+1))->BE.JL R s k m lo hi Z2:=λm lo hh hm G=>BE.AEY ⟨hi,ih.2 (k+1) m lo hh (by omega) (by omega) G hm⟩;have nx:al s=vl 0 128 191 (s.data.toList.drop (k+1))->BE.CA R s ((k:Int)+1) Z2:=λG=>ih.1 (k+1) (by omega) (by omega) G;have no:al s=false->R (.B false) Z2:=λe=>by rw[e]at h;exact h
   refine BE.A1 ⟨λAd=>by omega,λ_=>⟨u,by omega,Bi,?_⟩⟩;generalize s.data.toList.drop (k+1)=r at G st nx;clear ih h hu Bi;generalize u.toNat=n at G;have st1:=st 1 128 191 (by omega);have st2:=st 2 160 191 (by omega);have st3:=st 2 128 159 (by omega);have st4:=st 2 128 191 (by omega);have st5:=st 3 144 191 (by omega);have st6:=st 3 128 143 (by omega);have st7:=st 3 128 191 (by omega)
   repeat' (first|refine⟨λ_=>?_,λ_=>?_⟩|refine⟨hi,nx ?_⟩|refine st1 ?_|refine st2 ?_|refine st3 ?_|refine st4 ?_|refine st5 ?_|refine st6 ?_|refine st7 ?_|refine no ?_)
   all_goals first|(exfalso;clear G;omega)|(rw[G];repeat' (first|rfl|rw[Aiy (by omega)] | rw[Aiw (by omega)]))
  refine⟨A,λk m lo hi hd hk G hm=>BE.rk ⟨λh0=>A k hd hk ?_,λh0=>⟨λAd=>by omega,λ_=>?_⟩⟩⟩
  .have:m=0:=by omega
   subst this;rw[G];exact vl0 _ _ _ _ _
  .obtain⟨m',rfl⟩:∃m',m=m'+1:=⟨m-1,by omega⟩;have C8:k<s.size:=by omega
   obtain⟨u,hu⟩:∃u,s.data.toList[k]?=some u:=⟨_,Ai3 (by omega)⟩;have Bi:s.data[Int.toNat (k:Int)]?=some u:=by simpa using hu
   rw[Vc hu,vl]at G;refine⟨u,by omega,Bi,λh1=>?_,λh1=>⟨u,by omega,Bi,λh2=>?_,λh2=>⟨by unfold AL;omega,by unfold AL;omega,?_⟩⟩⟩
   .rw[Aiy (by omega)]at G;rw[G]at h;exact h
   .rw[Aiy (by omega)]at G;rw[G]at h;exact h
   .rw[Aiw (by omega)]at G;have:=ih.2 (k+1) m' 128 191 (by omega) (by omega) G (by omega);have e1:((m'+1:Nat):Int)-1=(m':Nat):=by omega
    rw[e1];exact this
end
end TwW
namespace TwW
open Go Tw Go.RowKit Go.Proofs.Tryz
section
variable {Z2:Hp}{R:Rr}
def sle (a b:ByteArray):Bool:=Op.bytesLess a.toList b.toList||a.toList==b.toList
theorem AK8 {x y:Operand}{a b:ByteArray}{T:TypeId}:YF prog (do eqGuard .leq T x y (.string a) (.string b);binOp .leq T (.string a) (.string b)) Z2 (.bool (sle a b)):=λw _=>by
 simp[eqGuard,binOp,Op.stringOp,sle]
def UT:Option ByteArray->List Lb->Int
 | _,[]=>0
 | G,x::l=>if Du x.1=false then 31 else if x.2.size=0\/256<x.2.size\/al x.2=false then 32 else if G.any (sle x.1 ·)=true then 33 else UT (some x.1) l
def VF (ls:List Lb):Int:=if 16<ls.length then 30 else UT none ls
theorem VH {p:Option Addr}{n c:Nat}{ls:List Lb}(hr:Gy Z2 p n ls)(h:R (.returned (.I (VF ls))) Z2):Spec prog 50 #[.slice p n c] Z2 R:=by
 have hn:ls.length=n:=hr.1;refine Fo.start ⟨λh1=>?_,λh1=>?_⟩
 .rw[VF,Aiy (by omega)]at h;exact h
 rw[VF,Aiw (by omega)]at h
 let pv:Nat->Option ByteArray:=λi=>if i=0 then none else(ls[i-1]?).map (·.1)
 suffices H:∀d i:Nat,n-i=d->i<=n->UT none ls=UT (pv i) (ls.drop i)->Fo.GQ R p n c p n c n i Z2 from H n 0 rfl (AjB _) rfl
 intro d
 induction d with
 | zero=>
  intro i hd hi G;refine Fo.EA ⟨λAx=>by omega,λ_=>?_⟩;rw[Ak3 (by omega)]at G;rw[G]at h;exact h
 | succ d ih=>
  intro i hd hi G;have CF:i<n:=by omega
  obtain⟨x,hx⟩:=hr.ex CF;obtain⟨b,o,rfl,hl⟩:=Gy.at hr hx;rw[Vc hx,UT]at G;have out:∀e:Int,UT none ls=e->R (.returned (.I e)) Z2:=λe h1=>h1▸h;refine Fo.EA ⟨λ_=>?_,λhh=>by omega⟩;refine⟨b,o,rfl,by omega,x.1,x.2,by simpa using hl,λ_=>PA ⟨_,rfl,λh1=>out _ ?_,λh1=>?_⟩⟩
  .rw[G,Aiy h1]
  rw[Aiw (by simp[h1])]at G;rw[j7];refine⟨λh2=>out _ ?_,λh2=>⟨λh3=>out _ ?_,λh3=>VE (by omega) ⟨_,rfl,λh4=>out _ ?_,λh4=>?_⟩⟩⟩
  .rw[G,Aiy (.inl (by simpa using h2))]
  .rw[G,Aiy (.inr (.inl (by omega)))]
  .rw[G,Aiy (.inr (.inr h4))]
  rw[Aiw (by rw[Aji]at h2;simp[h2,h4];omega)]at G;have nx:pv (i+1)=some x.1:=by simp[pv,hx]
  have go:(pv i).any (sle x.1 ·)=false->Fo.GQ R (aD b o) n c (aD b o) n c n ((i:Int)+1) Z2:=λh5=>by
   rw[Aiw (by simp[h5]),<-nx]at G;exact ih (i+1) (by omega) (by omega) G
  refine⟨λh5=>?_,λh5=>⟨AO CF hr.big,go ?_⟩⟩
  .obtain⟨y,hy⟩:=hr.ex (k:=i-1) (by omega);obtain⟨b',o',hp,Q7⟩:=Gy.at hr hy;cases hp;have e1:((i:Int)-1).toNat=i-1:=by omega
   have hpv:pv i=some y.1:=by simp[pv,hy,show i≠0 by omega]
   refine⟨by have:=hr.big;unfold AL;omega,b,o,rfl,by omega,y.1,by rw[e1];exact Q7.1,_,AK8,λh6=>out _ ?_,λh6=>⟨AO CF hr.big,go ?_⟩⟩
   .rw[G,Aiy (by rw[hpv];exact h6)]
   .rw[hpv];exact h6
  .have:i=0:=by omega
   simp[pv,this]
theorem cX:∀{ls:List Lb} {pv:Option ByteArray},UT pv ls=0->∀x∈ls,Du x.1=true/\0<x.2.size/\x.2.size<=256/\al x.2=true
 | [],_,_,_,G=>by cases G
 | y::l,pv,h,x,G=>by
  rw[UT]at h;split at h
  .cases h
  split at h
  .cases h
  split at h
  .cases h
  rename_i h1 h2 h3;rcases Ai1.1 G with rfl|G
  .simp only[Ak9,Bool.not_eq_false]at h1 h2;exact⟨h1,by omega,by omega,h2.2.2⟩
  .exact cX h x G
def BM (ls:List Lb):Prop:=ls.length<=16/\∀x∈ls,x.1.size<=256/\x.2.size<=256
theorem BM.of {ls:List Lb}(h:VF ls=0):BM ls:=by
 unfold VF at h;split at h
 .cases h
 .refine⟨by omega,λx hx=>?_⟩;obtain⟨G,_,h2,_⟩:=cX h x hx;simp[Du]at G;exact⟨by omega,h2⟩
theorem CW.one (Z2:Hp)(vs:List Value)(x:Lb)(h:CW Z2 vs x):FZ vs:=by
 rw[h];intro u G;simp only[Ai1,AjK,Ajl]at G;rcases G with rfl|rfl<;>rfl
theorem Fy {G:Hp}{q:Option Addr}{j c b:Nat}{ls:List Lb}{ty:TypeId}{Φ:Value->Hp->Prop}(ht:Gy G q j ls)(hb:j<=1000000000)
  (hΦ:∀p' c' Z',II 2 CW (G.new Z') p' j c' ls->Ext G Z'->Φ (.slice p' j c') Z') (hn:G b=none) :
  AI prog (Builtin.append_ #[95,95] ty #[.slice (some ⟨b,0,none⟩) 0 0,.slice q j c]) (G.set b (.cells #[] 144 (0,0))) Φ:=by
 obtain⟨h1,cs,h2,h3⟩:=ht;refine D9 BH.empty (h2.mono (.set hn)) (Ch.uB CW.one h3 (by decide)) (by omega) λp' c' Z' CR N9=>?_;have hq:∀a:Addr,(some (⟨b,0,none⟩:Addr))=some a->G a.block=none:=λa ha=>by cases ha;exact hn
 rw[Ajz]at CR ⊢;rw[Aj9]at CR;exact hΦ p' c' Z' ⟨h1,cs,BH.S8 CR (HB hq N9 (.set hn)),h3⟩ (Kv hq N9 (.set hn))
def cY (x:Lb):List Int:=uv x.1.size++byt x.1++(uv x.2.size++byt x.2)
def AK9 (ls:List Lb):List Int:=uv ls.length++ls.flatMap cY
theorem vJ {x:Lb}(h:x.1.size<=256/\x.2.size<=256):(cY x).length<=532:=by
 have G:=N8 (x:=x.1.size) (by omega);have h2:=N8 (x:=x.2.size) (by omega);simp only[cY,Ai5,sI];omega
theorem AA7 {ls:List Lb}(h:∀x∈ls,x.1.size<=256/\x.2.size<=256):(ls.flatMap cY).length<=ls.length*532:=by
 induction ls with
 | nil=>simp
 | cons x l ih=>
  have:=ih λy G=>h y (Aiz _ G);have:=vJ (h x (by simp));rw[Akr,Ai5,Aix];omega
theorem fI {p:Option Addr}{n c:Nat}{ls:List Lb}(hr:Gy Z2 p n ls)(hs:BM ls)(h:∀p' n' c' Z',DS .u8 (Z2.new Z') p' n' c' (AK9 ls)->Ext Z2 Z'->R (.returned (.slice p' n' c')) Z'):Spec prog 126 #[.slice p n c] Z2 R:=by
 have hn:ls.length=n:=hr.1;have h16:=hs.1;refine Gc.start λx8 h8=>?_;have e8:x8=(n:Int):=by rw[h8];simp[IntKind.wrap,IntKind.bits,IntKind.signed];omega
 subst e8;refine SM Af.nil (by omega) (by omega) λp1 n1 c1 Z1 Rv BS=>⟨p1,n1,c1,rfl,?_⟩;rw[Aj9]at Rv
 suffices H:∀d k:Nat,∀p3 n3 c3 Z3,n-k=d->k<=n->DS .u8 (Z2.new Z3) p3 n3 c3 (uv n++(ls.take k).flatMap cY)->Ext Z2 Z3->Gc.A0 R p3 n3 c3 p n c n k Z3 from H n 0 p1 n1 c1 Z1 rfl (AjB _) (by simpa using Rv) BS
 intro d
 induction d with
 | zero=>
  intro k p3 n3 c3 Z3 hd hk ho G;refine Gc.AX ⟨λAx=>by omega,λ_=>h p3 n3 c3 Z3 ?_ G⟩;rw[Ai4 (by omega)]at ho;rw[AK9,hn];exact ho
 | succ d ih=>
  intro k p3 n3 c3 Z3 hd hk ho G;have C8:k<n:=by omega
  obtain⟨y,hy⟩:=hr.ex C8;obtain⟨b,o,rfl,hl⟩:=Gy.at hr hy;have sJ:=hs.2 y (Ai6 hy);have hl3:=US ho;have MK:=N8 (x:=n) (by omega);have hfl:=AA7 (ls:=ls.take k) λx G=>hs.2 x (Ak7 G);rw[Ai5]at hl3;rw[AjJ]at hfl;have h3b:n3<=9000:=by omega
  refine Gc.AX ⟨λ_=>⟨b,o,rfl,by omega,y.1,y.2,by simpa using hl.mono G,λ_=>?_⟩,λhh=>by omega⟩;refine SN (DS.rd (BH.mono (Ext.CX _ _) ho)) (by omega) (by omega) λp4 n4 c4 Z4 Iy KB=>⟨p4,n4,c4,rfl,?_⟩;have hl4:=US Iy;have Ql:=N8 (x:=y.1.size) (by omega);simp only[Ai5,sI]at hl4;refine SN (DS.rd (BH.mono (Ext.CX _ _) Iy)) (by omega) (by omega) λp5 n5 c5 Z5 SO gn=>⟨p5,n5,c5,rfl,AO C8 hr.big,?_⟩;refine ih (k+1) p5 n5 c5 Z5 (by omega) (by omega) ?_ (G.trans (KB.trans gn));have:=BH.mono (Ext.Ci (G.trans KB)) SO;rw[AR hy,List.flatMap_append];simpa[cY,DS] using this
end
end TwW
namespace TwW
open Go Tw Go.RowKit Go.Proofs.Tryz
section
variable {Z2 Z' O22:Hp}{R:Rr}
def FP (x:ByteArray)(xs:List ByteArray):Bool:=xs.any λy=>decide (x=y)
theorem j8 {x:ByteArray}{xs:List ByteArray}:FP x xs=true↔x∈xs:=by simp[FP]
theorem PC {p:Option Addr}{n c:Nat}{x:ByteArray}{xs:List ByteArray}(hr:Fj 1 Z2 p n (xs.map .string))(h:R (.returned (.bool (FP x xs))) Z2):Spec prog 209 #[.slice p n c,.string x] Z2 R:=by
 have hn:xs.length=n:=by have:=hr.1;simpa using this
 have SP:n<=4611686018427387904:=hr.2.1;have key:∀i:Int,(0<=i↔x∈xs)->Ab R (CI .i64 λx7 y=>R (.returned (.bool (decide (0<=x7)))) y) (.returned (.I i)) Z2:=λi hi=>⟨i,rfl,by
  dsimp only;rw[show decide (0<=i)=FP x xs by rw[Bool.eq_iff_iff,j8,AjH];exact hi];exact h⟩
 refine GZ.start (CJ.start ?_)
 suffices H:∀d k:Nat,n-k=d->k<=n->x ∉ xs.take k->CJ.GG (Ab R (CI .i64 λx7 y=>R (.returned (.bool (decide (0<=x7)))) y)) p n c x n k Z2 from H n 0 rfl (AjB _) (by simp)
 intro d
 induction d with
 | zero=>
  intro k hd hk G;refine CJ.BG ⟨λAx=>by omega,λ_=>key (-1) ?_⟩;rw[Ai4 (by omega)]at G;exact⟨λh=>absurd h (by decide),λh=>absurd h G⟩
 | succ d ih=>
  intro k hd hk G;have C8:k<n:=by omega
  obtain⟨y,hy⟩:∃y,xs[k]?=some y:=⟨_,Ai3 (by omega)⟩;obtain⟨b,o,rfl,hl⟩:=Fj.at1 hr (k:=k) (v:=.string y) (by rw[Aj7,hy];rfl);refine CJ.BG ⟨λ_=>⟨b,o,rfl,by omega,y,by simpa using hl,λhe=>key k ⟨λ_=>?_,λ_=>by omega⟩,λAd=>⟨AO C8 SP,ih (k+1) (by omega) (by omega) ?_⟩⟩,λTW=>by omega⟩
  .rw[gm,AjH]at he;rw[he];exact Ai6 hy
  .rw[gm,Aji]at Ad;rw[aN hy]
   rintro(h1|h1)
   .exact G h1
   .exact Ad h1
theorem UU {f:Nat}{cap:Array Value}{g:Lb->Bool}{p:Option Addr}{n c:Nat}{ls:List Lb}(KG:Enters prog f)(hr:Gy Z2 p n ls)(hn:n<=1000000)
  (hf:∀(Z':Hp) (x:Lb) (R':Rr),Ext Z2 Z'->R' (.returned (.bool (g x))) Z'->Spec prog f (#[]++#[.agg #[.string x.1,.string x.2]]++cap) Z' R')
  (h:∀p' n' c' Z',II 2 CW (Z2.new Z') p' n' c' (ls.filter g)->Ext Z2 Z'->R (.returned (.slice p' n' c')) Z'):Spec prog 207 #[.slice p n c,.func (.func f) #[] cap] Z2 R:=by
 have vK:ls.length=n:=hr.1;refine DY.start ?_
 suffices H:∀d k:Nat,∀p5 n5 c5 G,n-k=d->k<=n->II 2 CW (Z2.new G) p5 n5 c5 ((ls.take k).filter g)->Ext Z2 G->DY.A0 R (.func (.func f) #[] cap) p5 n5 c5 p n c n k G from H n 0 none 0 0 Z2 rfl (AjB _) II.nil (.refl _)
 intro d
 induction d with
 | zero=>
  intro k p5 n5 c5 G hd hk ho hx;refine DY.AX ⟨λAx=>by omega,λ_=>h p5 n5 c5 G ?_ hx⟩;rw[Ai4 (by omega)]at ho;exact ho
 | succ d ih=>
  intro k p5 n5 c5 G hd hk ho hx;have C8:k<n:=by omega
  obtain⟨x,aq⟩:=hr.ex C8;obtain⟨b,o,rfl,hl⟩:=Gy.at hr aq;have hn5:n5<=n:=by
   have h1:=ho.1;have h2:=Ajb g (ls.take k);rw[AjJ]at h2;omega
  have ht:(ls.take (k+1)).filter g=(ls.take k).filter g++if g x then[x] else[]:=by
   rw[AR aq,Ajy];by_cases hg:g x<;>simp[hg]
  refine DY.AX ⟨λ_=>⟨b,o,rfl,by omega,x.1,x.2,by simpa using hl.mono hx,λ_=>⟨f,#[],cap,rfl,KG,hf G x _ hx ⟨_,rfl,λhg KA AZd=>?_,λhg=>?_⟩⟩⟩,λhh=>by omega⟩
  .refine II.Ey CW.mono (vs:=[.string x.1,.string x.2]) (x:=x) hx ho rfl (CW.one Z2 _ _ rfl) rfl (by omega) (λp' c' Z' Di QO=>⟨_,_,_,rfl,DY.Eg ⟨AO C8 hr.big,ih (k+1) _ _ _ _ (by omega) (by omega) ?_ QO⟩⟩) AZd;rw[ht,Aiy hg];exact Di
  .refine DY.Eg ⟨AO C8 hr.big,ih (k+1) _ _ _ _ (by omega) (by omega) ?_ hx⟩;rw[ht,Aiw (by simp[hg]),Aj1];exact ho
theorem AS6:Enters prog 210:=λargs w=>call210 args w
theorem Lj {p q:Option Addr}{n c m d:Nat}{ls:List Lb}{ns:List ByteArray}(hr:Gy Z2 p n ls)(hn:n<=1000000)(hs:Fj 1 Z2 q m (ns.map .string))
  (h:∀p' n' c' Z',II 2 CW (Z2.new Z') p' n' c' (ls.filter λx=>!FP x.1 ns)->Ext Z2 Z'->R (.returned (.slice p' n' c')) Z'):Spec prog 162 #[.slice p n c,.slice q m d] Z2 R:=by
 refine Qc.start λb3 UW=>?_;have G:Ext Z2 (Z2.set b3 (.cells #[.slice q m d] 125 (0,0))):=.set UW;refine UU (f:=210) (g:=λx=>!FP x.1 ns) AS6 (hr.mono CW.mono G) hn (λZ' x R' hx Mf=>?_) λp' n' c' Z' ho hx=>⟨_,_,_,rfl,h p' n' c' Z' ?_ (G.trans hx)⟩
 .refine MG.start λ_=>⟨q,m,d,AJ (hx _ _ (Hp.AA _ _ _)) rfl,PC (hs.mono (G.trans hx)) ⟨_,rfl,Mf⟩⟩
 .exact ho.mono CW.mono (Ext.Ci G)
end
end TwW
namespace TwW
open Go Tw Go.RowKit Go.Proofs.Tryz
section
variable {Z2 Z' O22:Hp}{R:Rr}
theorem fJ {α:Type}{b:Nat}{T:TypeId}{f:α->Value}{x:α}{ρ:Hp}(h:ρ b=some (.cells #[f x] T (0,0))):Fj 1 ρ (some ⟨b,0,none⟩) 1 ([x].map f):=⟨rfl,by omega,.inr ⟨b,0,rfl,⟨AJ h rfl,trivial⟩⟩⟩
end
end TwW
end
