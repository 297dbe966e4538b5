/-
  Part 3 of the proof that the law QuerierOrderUptoCardSaid of the given program answers true for every input of the given statement; the input reads behind the call as it did. (The texts: packed from 10 texts. Names are shortened by the packing program, for the bound on size.)
-/
import Derived.Test.YtdlkodiemlmmiaaGreatDoorA2
import Derived.Laws.BytesArg
import Derived.Laws.Bits64b
import Derived.Laws.IdiomStrings
set_option linter.all false
section
set_option maxRecDepth 100000
noncomputable section
namespace TwW
open Go Tw Go.Proofs.Tryz
variable [GO]{R:Rr}{Z22:Hp}

namespace Dq
variable {p0 p1:Option Addr}{n0 c0 n1 c1:Nat}{x5:Int}
def M:Fw:=⟨prog,17,f17,[48,49],[],false,[],[],[(464,[(0,wL),(1,wL),(5,wI)])]⟩
def ok:M.Ok:=⟨.cons call48 (.cons call49 (AH.nil)),mixed,func17,by kernel_rfl⟩
def FA:=M.pt 0
def start (h:Br ((n0:Int)≠(n1:Int)) (R (.B false) Z22) (FA R p0 n0 c0 p1 n1 c1 0 Z22)):Spec prog 17 #[.slice p0 n0 c0,.slice p1 n1 c1] Z22 R:=M.start h ok
def DH (h:Br (x5<(n0:Int)) (Pq p0 λG aq=>In x5 (n0:Int)/\LS Z22 G (aq+x5.toNat*2) λSC n21 QT=>Pq p1 λak iF=>In x5 (n1:Int)/\LS Z22 ak (iF+x5.toNat*2) λai n26 aj=>AG 48 #[.slice SC n21 QT,.slice ai n26 aj] Z22 R (CB λt27 y=>Bn t27 (R (.B false) y) (In x5 (n0:Int)/\LS y G ((aq+x5.toNat*2)+1) λp34 n34 c34=>In x5 (n1:Int)/\LS y ak ((iF+x5.toNat*2)+1) λp39 n39 c39=>AG 49 #[.slice p34 n34 c34,.slice p39 n39 c39] y R (CB λt40 AE=>Bn t40 (R (.B false) AE) (AL (x5+1)/\FA R (aD G aq) n0 c0 (aD ak iF) n1 c1 (x5+1) AE))))) (R (.B true) Z22)):FA R p0 n0 c0 p1 n1 c1 x5 Z22:=M.of h ok rfl
end Dq
namespace Bu
noncomputable def K0:=f33.body.getD .skip
def K1:=cl K0
def K2:=cr K0
def K3:=cl K2
def K4:=cr K2
def K5:=cl K4
def K6:=cr K4
def K7:=cl K6
def K8:=cl K7
def K9:=cr K7
def rq:=cl K9
def K11:=cl rq
def K12:=cr rq
def K13:=cl K12
def K14:=cr K6
def K15:=cl K14
def K16:=cr K14
abbrev gl (R:Rr):Gl:=Gl.fn prog 33 32 R
def CD (R:Rr)(l:Nat)(r0:Loop)(b6:Nat)(FV:Int)(Z22:Hp):Prop:=∀(J:Env),At (Gl.round prog 33 32 l R) [.code K11,.beginRound,.code K12] (Mf J [(6,(.pointer (some ⟨b6,0,none⟩))),(22,(.I FV))]) [] Z22
def start {R:Rr}{q0:Option Addr}{Z22:Hp}(h:∃(Dk G:Nat),q0=some ⟨Dk,G,none⟩/\∃aN:Option Addr,∃n12:Nat,∃WZ:Nat,Hp.ld Z22 ⟨Dk,G,none⟩=some (.slice aN n12 WZ)/\AG 66 #[(.slice aN n12 WZ)] Z22 R (λv Z1=>∃IU:Int,∃pC:Int,v=(.tuple #[(.I IU),(.I pC)])/\∃Ce:Int,Hp.ld Z1 ⟨Dk,(G+1),none⟩=some (.I Ce)/\∀b6:Nat,Z1 b6=none->AI prog (Instr.storeAt 2 (.pointer (some ⟨b6,0,none⟩)) (.I Ce)) (Hp.set Z1 b6 (.cells #[(.I 0)] 2 (0,0))) (λ_ Ci=>∀(jZ Tc:Nat) (LR:Loop),jZ≠Tc->Ci jZ=none->Ci Tc=none->(∀(R2:Rr) (Z2:Hp) (AEp:Int),Z2 Tc=some (.loop (lp LR .ready none))->CD R2 Tc LR b6 AEp Z2->Jf prog Tc #[(.I AEp)] Z2 R2)->Spec prog 67 #[(.pointer (some ⟨Dk,G,none⟩)),.func (.yield Tc) #[] #[]] (Hp.set (Hp.set Ci jZ (.deferred (some []))) Tc (.loop (lp LR .ready none))) (λen EV=>∃(v:Value) (s:LoopState) (p:Option Code),en=.returned v/\EV Tc=some (.loop (lp LR s p))/\s≠.busy/\((p=none/\∃JS:Int,Hp.ld (Hp.set EV Tc (.loop (lp LR .exhausted none))) ⟨Dk,(G+1),none⟩=some (.I JS)/\AL (JS-IU)/\∃vG:Int,Hp.ld (Hp.set EV Tc (.loop (lp LR .exhausted none))) ⟨b6,0,none⟩=some (.I vG)/\(Hp.set EV Tc (.loop (lp LR .exhausted none))) jZ=some (.deferred (some []))/\R (.T #[(.I (if((JS-IU):Int)<(-1099511627776) then(-1099511627776) else(JS-IU))),(.I vG)]) (Hp.set (Hp.set EV Tc (.loop (lp LR .exhausted none))) jZ (.deferred none)))))))):Spec prog 33 #[(.pointer q0)] Z22 R:=by
 refine Spec.Vx (fn:=f33) (c:=K0) func33 (by kernel_rfl) (Akd (by kernel_rfl)) (λe he=>?_);refine At.ofL (l:=[(0,(.pointer q0))]) ⟨he 0,trivial⟩ (λJ=>?_);show At (gl R) _ _ _ _
 refine At.s K1 K2 ?_;refine At.rg 0 [0,1] ?_;refine Seq.us [(2,.I 0),(3,.I 0)] (Seq.done ?_);refine At.s K3 K4 ?_;refine At.rg 1 [0,1,2,3,4,5,6,7,8,9] ?_;refine Seq.u 9 (.pointer q0) ?_;obtain⟨Dk,G,hq,h⟩:=h;subst hq;refine Seq.z 10 (.nilCheck (.tmp 9)) 0 (.pointer (some ⟨Dk,G,none⟩)) (Y.nilCheck rfl) ?_;refine Seq.z 11 (.fieldAddr 72 (.tmp 10) 0) 0 (.pointer (some ⟨Dk,G,none⟩)) (Y.fieldAddr (fd:=(Jc prog 72 0)) underlying72 (by kernel_rfl) sizeOf32 rfl rfl) ?_;obtain⟨aN,n12,WZ,hl,h⟩:=h;refine Seq.z 12 (.load 32 (.tmp 11)) 32 (.slice aN n12 WZ) (Y.ld isAgg32 rfl hl) ?_;refine Seq.o ?_;refine AW.cl (some 13) call66 (h.cont λv Z1 h2=>?_);replace h:=h2;clear h2;obtain⟨IU,pC,rfl,h⟩:=h;refine Seq.us [(8,.tuple #[(.I IU),(.I pC)]),(14,.I IU),(15,.I pC),(4,.I IU),(5,.I pC)] (Seq.done ?_);refine At.s K5 K6 ?_;refine At.rg 2 [0,1,2,3,4,5] ?_;refine Seq.u 16 (.pointer (some ⟨Dk,G,none⟩)) ?_;refine Seq.z 17 (.nilCheck (.tmp 16)) 0 (.pointer (some ⟨Dk,G,none⟩)) (Y.nilCheck rfl) ?_;refine Seq.z 18 (.fieldAddr 72 (.tmp 17) 1) 0 (.pointer (some ⟨Dk,(G+1),none⟩)) (Y.fieldAddr (fd:=(Jc prog 72 1)) underlying72 (by kernel_rfl) sizeOf2 rfl rfl) ?_;obtain⟨Ce,hl,h⟩:=h;refine Seq.z 19 (.load 2 (.tmp 18)) 2 (.I Ce) (Y.ld isAgg2 rfl hl) ?_;refine Seq.o ?_;refine AW.dz (T:=2) (d:=(some 6)) (ty:=0)  (gd:=none) (cs:=#[(.I 0)]) (by kernel_rfl) rfl rfl zeroValue2 rfl (λb6 hn=>?_)
 replace h:=h b6 hn
 refine Seq.o ?_;refine AW.store (T:=2) (ty:=0) (x:=(.tmp 6)) (y:=(.tmp 19)) (p:=(.pointer (some ⟨b6,0,none⟩))) (v:=(.I Ce)) (gd:=none) (by kernel_rfl) rfl rfl rfl (h.mono (λ_ Ci h2=>?_));replace h:=h2;clear h2;refine Seq.done ?_;refine At.s K7 K14 (At.s K8 K9 ?_);refine At.rg 3 [0,1] ?_;refine Seq.u 20 (.pointer (some ⟨Dk,G,none⟩)) ?_;refine Seq.z 21 (.makeFunc (.func 67) #[(.tmp 20)] #[]) 142 (.func (.func 67) #[(.pointer (some ⟨Dk,G,none⟩))] #[]) (Y.makeFunc rfl rfl) (Seq.done ?_);refine At.b 0 rq ?_;refine At.ym (gop:=(.tmp 21)) (ps:=#[22]) (assign:=K11) (body:=K12) (gf:=67) (fst:=#[(.pointer (some ⟨Dk,G,none⟩))]) (lb:=#[]) (by kernel_rfl) rfl rfl rfl call67 (λjZ Tc LR hDl hD hl vE cH hra hrb hrs hre=>?_);refine(h jZ Tc LR hDl hD hl (λR2 Z2 AEp AKF hp=>Jf.Vx (n:=32) AKF cH hrs (by decide) hre (fn:=f33) (by rw[vE];exact func33) ?_)).mono (λen EV h=>?_)
 .rw[vE,hra,hrb];exact At.v [(6,(.pointer (some ⟨b6,0,none⟩))),(22,(.I AEp))] (hp _)
 obtain⟨v,s,p,he,yn,hs,h⟩:=h;refine⟨v,s,p,he,yn,hs,?_⟩;obtain⟨rfl,h⟩:=h;show At (Gl.behind prog 33 32 jZ R) [.inBlock 0,.code K14] _ _ _
 refine At.inBlock ?_;refine At.s K15 K16 ?_;refine At.draw (id:=6) (ops:=cO K15) (n:=10) (q:=none) (plan:=[(0,true),(1,true),(2,true),(3,true),(4,true),(5,true),(6,true),(7,true),(8,true),(9,true)]) (tl:=[]) mixed (by kernel_rfl) (by kernel_rfl) ?_;refine Head.u 24 (.pointer (some ⟨Dk,G,none⟩)) ?_;refine Head.z 25 (.nilCheck (.tmp 24)) 0 (.pointer (some ⟨Dk,G,none⟩)) (Y.nilCheck rfl) ?_;refine Head.z 26 (.fieldAddr 72 (.tmp 25) 1) 0 (.pointer (some ⟨Dk,(G+1),none⟩)) (Y.fieldAddr (fd:=(Jc prog 72 1)) underlying72 (by kernel_rfl) sizeOf2 rfl rfl) ?_;obtain⟨JS,hl,h⟩:=h;refine Head.z 27 (.load 2 (.tmp 26)) 2 (.I JS) (Y.ld isAgg2 rfl hl) ?_;refine Head.u 28 (.I IU) ?_;obtain⟨hi,h⟩:=h;refine Head.z 29 (.binOp .sub 2 (.tmp 27) (.tmp 28) 2) 2 (.I (JS-IU)) (Y.uV hi rfl rfl) ?_;refine Head.z 30 (.call { callee:=.builtin .max,args:=#[(.tmp 29),(.const (.I (-1099511627776)))],argTypes:=#[2,2] }) 2 (.I (if((JS-IU):Int)<(-1099511627776) then(-1099511627776) else(JS-IU))) (Y.max2 rfl rfl) ?_;obtain⟨vG,hl,h⟩:=h;refine Head.z 31 (.load 2 (.tmp 6)) 2 (.I vG) (Y.ld isAgg2 rfl hl) ?_;refine Head.u 2 (.I (if((JS-IU):Int)<(-1099511627776) then(-1099511627776) else(JS-IU))) ?_;refine Head.u 3 (.I vG) ?_;refine Head.done ?_;refine Seq.done ?_;obtain⟨hmk,h⟩:=h;exact At.eB (rs:=[.tmp 2,.tmp 3]) (vs:=[(.I (if((JS-IU):Int)<(-1099511627776) then(-1099511627776) else(JS-IU))),(.I vG)]) (by kernel_rfl) func33 (by kernel_rfl) ⟨_,rfl,⟨_,rfl,rfl⟩⟩ h rfl (yj hmk)
def A5 {R:Rr}{l b6:Nat}{r0:Loop}{FV:Int}{Z22:Hp}(h:Z22 l=some (.loop (lp r0 .ready none))/\AI prog (Instr.storeAt 2 (.pointer (some ⟨b6,0,none⟩)) (.I FV)) (Hp.set Z22 l (.loop (lp r0 .busy none))) (λ_ G=>G l=some (.loop (lp r0 .busy none))/\R (.B true) (Hp.set G l (.loop (lp r0 .ready none))))):CD R l r0 b6 FV Z22:=by
 intro J;show At (Gl.round prog 33 32 l R) _ _ _ _
 refine At.rg 4 [0] ?_;refine Seq.u 7 (.I FV) (Seq.done ?_);obtain⟨rJ,h⟩:=h;refine At.beginRound rfl rJ ?_;refine At.b 1 K13 ?_;refine At.rg 5 [0,1] ?_;refine Seq.u 23 (.I FV) ?_;refine Seq.o ?_;refine AW.store (T:=2) (ty:=0) (x:=(.tmp 6)) (y:=(.tmp 23)) (p:=(.pointer (some ⟨b6,0,none⟩))) (v:=(.I FV)) (gd:=none) (by kernel_rfl) rfl rfl rfl (h.mono (λ_ G h2=>?_));replace h:=h2;clear h2;refine Seq.done ?_;refine At.inBlock ?_;exact At.Ru rfl h.1 h.2
end Bu
namespace UY
variable {p0:Option Addr}{n0 c0:Nat}
def M:Fw:=⟨prog,35,f35,[],[],false,[],[],[]⟩
def ok:M.Ok:=⟨AH.nil,mixed,func35,by kernel_rfl⟩
def start (h:Al Z22 λb1=>R (.returned (.func (.func 68) #[] #[(.pointer (aD b1 0))])) (Hp.set Z22 b1 (.cells #[.slice p0 n0 c0] 92 (0,0)))):Spec prog 35 #[.slice p0 n0 c0] Z22 R:=M.start h ok
end UY
namespace DD
variable {DR DT jU oQ Vf WX x10 x11:Int}{ji p2c oT p9:Option Addr}{ah jj n2c c2c me oV n9 c9:Nat}
def M:Fw:=⟨prog,42,f42,[],[1,2,3,5],false,[],[],[(488,[(2,.X 43 [.I .u64,.I .i64,.L]),(3,.X 43 [.I .u64,.I .i64,.L]),(9,wL),(10,wI),(11,wI)])]⟩
def ok:M.Ok:=⟨AH.nil,mixed,func42,by kernel_rfl⟩
def Dp:=M.pt 0
def start (h:∀b1:Nat,∀b2:Nat,∀b3:Nat,Dp R 0 0 none 0 0 DR DT none 0 0 ji ah jj (ah:Int) 0 Z22):Spec prog 42 #[.agg #[.U DR,.I DT,.slice ji ah jj]] Z22 R:=M.start h ok
def Bp (h:Br (x11<x10) (Pq p9 λH8 U4=>In x11 (n9:Int)/\∃HS Tg G vJ AQl AQm AQn AQo AQp AQq AQr,A2 Z22 H8 (U4+x11.toNat*9) [.U HS,.I Tg,.I G,.I vJ,.slice AQl AQm AQn,.I AQo,.I AQp,.bool AQq,.I AQr]/\∀b5:Nat,Al Z22 λU8=>AI prog (Builtin.append_ #[60,60] 60 #[(.slice (aD U8 0) 0 0),.slice AQl AQm AQn]) (Hp.set Z22 U8 (.cells #[] 27 (0,0))) (CS λiD n19 cE y=>Al y λNT=>AI prog (G1 41 oT me oV NT) (Hp.set y NT (.cells #[.U HS,.I Tg,.I G,.I vJ,.slice iD n19 cE,.I AQo,.I AQp,.bool AQq,.I AQr] 91 (0,0))) (CS λai n26 aj AE=>AL (x11+1)/\Dp R jU oQ p2c n2c c2c Vf WX ai n26 aj (aD H8 U4) n9 c9 x10 (x11+1) AE))) (R (.returned (.agg #[.U Vf,.I WX,.slice oT me oV])) Z22)):Dp R jU oQ p2c n2c c2c Vf WX oT me oV p9 n9 c9 x10 x11 Z22:=M.oO h ok rfl λ_ _=>by kernel_rfl
end DD
namespace cX
variable {x0:Int}
def M:Fw:=⟨prog,45,f45,[],[],false,[],[],[]⟩
def ok:M.Ok:=⟨AH.nil,mixed,func45,by kernel_rfl⟩
def start (h:Br (((-1099511627776):Int)<=x0) (R (.returned (.bool (decide (x0<=1099511627776)))) Z22) (R (.B false) Z22)):Spec prog 45 #[.I x0] Z22 R:=M.start h ok
end cX
namespace Hw
variable {p0 p1 G3 G6:Option Addr}{n0 c0 n1 c1 G4 G5 G7 G8:Nat}{x2 FH FT x9:Int}
def M:Fw:=⟨prog,46,f46,[79],[8],false,[],[],[(30,[(8,.X 164 [.I .i64,.I .u64,.L,.L]),(9,wI)])]⟩
def ok:M.Ok:=⟨.cons call79 (AH.nil),mixed,func46,by kernel_rfl⟩
def CD:=M.pt 0
def start (h:Al Z22 λHo=>AG 79 #[(.pointer (aD Ho 0)),.slice p0 n0 c0] (Hp.set Z22 Ho (.cells #[.slice p1 n1 c1,.I x2] 168 (0,0))) R (λz y=>∃sM sN AHZ AHa AHb G AAH AAI vT,z=(.tuple #[.agg #[.I sM,.U sN,.slice AHZ AHa AHb,.slice G AAH AAI],.I vT])/\∀b8:Nat,Br (sM=1) (Al y λNT=>CD R sM sN (aD NT 0) 1 1 G AAH AAI vT (Hp.set y NT (.cells #[.N,.U sN] 109 (0,0)))) (CD R sM sN AHZ AHa AHb G AAH AAI vT y))):Spec prog 46 #[.slice p0 n0 c0,.slice p1 n1 c1,.I x2] Z22 R:=M.start h ok
def A5 (h:R (.T #[.slice G3 G4 G5,.I x9]) Z22):CD R FH FT G3 G4 G5 G6 G7 G8 x9 Z22:=M.WQ h ok rfl λ_=>by kernel_rfl
end Hw
namespace Cb
variable {p0:Option Addr}{n0 c0:Nat}{x3:Int}
def M:Fw:=⟨prog,56,f56,[],[],false,[(4,10,true)],[],[(208,[(0,wL),(3,wI)])]⟩
def ok:M.Ok:=⟨AH.nil,mixed,func56,by kernel_rfl⟩
def GQ:=M.pt 0
def start (h:GQ R p0 n0 c0 1 Z22):Spec prog 56 #[.slice p0 n0 c0] Z22 R:=M.start h ok
def BI (h:Br (x3<(n0:Int)) (Pq p0 λG Jn=>In x3 (n0:Int)/\LI .u32 Z22 G (Jn+x3.toNat*1) λGB=>AL (x3-1)/\In (x3-1) (n0:Int)/\LI .u32 Z22 G (Jn+Int.toNat (x3-1)*1) λMN=>Br (GB<=MN) (R (.B false) Z22) (AL (x3+1)/\GQ R (aD G Jn) n0 c0 (x3+1) Z22)) (R (.B true) Z22)):GQ R p0 n0 c0 x3 Z22:=M.of h ok rfl
end Cb
namespace Fy
variable {v0:Value}{x1:Int}
def M:Fw:=⟨prog,71,f71,[102,103],[],false,[],[],[]⟩
def ok:M.Ok:=⟨.cons call102 (.cons call103 (AH.nil)),mixed,func71,by kernel_rfl⟩
def start (h:MC prog v0 zI #[] Z22 (AY R (CI .i64 λx7 y=>AG 103 #[v0,.I x1,.I x7] y R (CB λt8 G=>Bn t8 (AG 102 #[v0,.I x1] G R (λz AK=>z=(.tuple #[])/\R (.T #[]) AK)) (R (.T #[]) G))))):Spec prog 71 #[v0,.I x1] Z22 R:=M.DL h ok [(0,.o (.V v0)),(1,.o (.I .i64 x1))] rfl rfl (by kernel_rfl)
end Fy
namespace EX
variable {p0 p9 zc:Option Addr}{n0 c0 n9 c9 n18 xv:Nat}{x1 x2 Ce Il:Int}
def M:Fw:=⟨prog,77,f77,[19,105],[11],false,[],[],[(488,[(1,wI),(2,wI),(9,wL),(18,wL),(19,wI),(20,wI)]),(1959,[(1,wI),(2,wI),(9,wL),(18,wL),(19,wI),(20,wI)])]⟩
def ok:M.Ok:=⟨.cons call19 (.cons call105 (AH.nil)),mixed,func77,by kernel_rfl⟩
def HR:=M.pt 0
def fA:=M.pt 1
def start (h:AG 19 #[.slice p0 n0 c0] Z22 R (CI .i64 λVd y=>Br (Vd≠0) (R (.T #[.N,.I Vd]) y) (HR R x1 x2 none 0 0 p0 n0 c0 (n0:Int) 0 y))):Spec prog 77 #[.slice p0 n0 c0,.I x1,.I x2] Z22 R:=M.start h ok
def CF (h:Br (Il<Ce) (Pq zc λed G=>In Il (n18:Int)/\∃vU vV vW AQs AQt AQu,A2 Z22 ed (G+Il.toNat*2) [.slice vU vV vW,.slice AQs AQt AQu]/\∀E4:Nat,AG 105 #[.slice AQs AQt AQu,.I x1,.I x2] Z22 R (CS λp28 n28 c28 y=>Br (0<(n28:Int)) (Al y λU5=>AI prog (Builtin.append_ #[95,95] 95 #[(.slice (aD U5 0) 0 0),.slice vU vV vW]) (Hp.set y U5 (.cells #[] 144 (0,0))) (CS λp36 n36 c36 AE=>Al AE λsO=>AI prog (G1 22 p9 n9 c9 sO) (Hp.set AE sO (.cells #[.slice p36 n36 c36,.slice p28 n28 c28] 98 (0,0))) (CS λp40 n40 c40 AK=>fA R x1 x2 p40 n40 c40 (aD ed G) n18 xv Ce Il AK))) (fA R x1 x2 p9 n9 c9 (aD ed G) n18 xv Ce Il y))) (R (.T #[.slice p9 n9 c9,.I 0]) Z22)):HR R x1 x2 p9 n9 c9 zc n18 xv Ce Il Z22:=M.of h ok rfl
def SB (h:AL (Il+1)/\HR R x1 x2 p9 n9 c9 zc n18 xv Ce (Il+1) Z22):fA R x1 x2 p9 n9 c9 zc n18 xv Ce Il Z22:=M.of h ok rfl
end EX
namespace W0
variable {DR DT VC QS JP MO:Int}{VD:ByteArray}{cV Wd:Option Addr}{al cW Vh We:Nat}{RO:Bool}
def M:Fw:=⟨prog,85,f85,[62,112,113,114,115,116],[1],false,[],[],[]⟩
def ok:M.Ok:=⟨.cons call62 (.cons call112 (.cons call113 (.cons call114 (.cons call115 (.cons call116 (AH.nil)))))),mixed,func85,by kernel_rfl⟩
def start (h:∀b1:Nat,AG 113 #[.agg #[.I DR,.I DT,.string VD,.slice cV al cW,.I VC,.I QS,.I JP,.slice Wd Vh We,.bool RO,.I MO]] Z22 R (λz y=>∃IV IW Jr LZ La Lc Ld Lf Lg Lh Li Lj NY Lk,z=(.agg #[.I IV,.I IW,.string Jr,.slice LZ La Lc,.I Ld,.I Lf,.I Lg,.slice Lh Li Lj,.bool NY,.I Lk])/\AG 112 #[.agg #[.I DR,.I DT,.string VD,.slice cV al cW,.I VC,.I QS,.I JP,.slice Wd Vh We,.bool RO,.I MO],.agg #[.I IV,.I IW,.string Jr,.slice LZ La Lc,.I Ld,.I Lf,.I Lg,.slice Lh Li Lj,.bool NY,.I Lk]] y R (CB λt6 AE=>Bn t6 (R (.B false) AE) (AG 114 #[.agg #[.I DR,.I DT,.string VD,.slice cV al cW,.I VC,.I QS,.I JP,.slice Wd Vh We,.bool RO,.I MO]] AE R (CB λt10 G=>Bn t10 (R (.B false) G) (Br (0<(al:Int)) (Br (DR≠2) (Br (DR≠3) (R (.B false) G) (Br (DR=1) (AG 62 #[.string VD] G R (CB λt35 Ai=>R (.B t35) Ai)) (Br (DR=2) (AG 115 #[.I QS,.I 0] G R (CB λt40 Ai=>R (.B t40) Ai)) (Br (DR=3) (AG 115 #[.I VC,.I 1] G R (CB λt45 Ai=>Bo t45 (AG 115 #[.I QS,.I 0] Ai R (CB λt49 CC=>R (.B t49) CC)) (R (.B false) Ai))) (Br (DR=4) (Br (MO=1) (Br (1<=DT) (R (.returned (.bool (decide (DT<=12)))) G) (R (.B false) G)) (R (.B false) G)) (Br (DR=5) (Br (MO=1) (Br (1<=DT) (Br (DT<=5) (Br (JP=0) (R (.B true) G) (Br (JP=1) (R (.B true) G) (R (.returned (.bool (decide (JP=2)))) G))) (R (.B false) G)) (R (.B false) G)) (R (.B false) G)) (Br (DR=6) (Br (MO=2) (Br (1<=DT) (Br (DT<=13) (Br (JP=0) (Bn RO (R (.B true) G) (AG 116 #[.I DT] G R (CB λt133 Ai=>R (.B t133) Ai))) (Br (JP=3) (Bn RO (R (.B true) G) (AG 116 #[.I DT] G R (CB λt133 Ai=>R (.B t133) Ai))) (Br (JP=4) (Bn RO (R (.B true) G) (AG 116 #[.I DT] G R (CB λt133 Ai=>R (.B t133) Ai))) (R (.B false) G)))) (R (.B false) G)) (R (.B false) G)) (R (.B false) G)) (Br (DR=7) (R (.returned (.bool (decide (MO=1)))) G) (R (.B false) G))))))))) (Br (DR=1) (AG 62 #[.string VD] G R (CB λt35 Ai=>R (.B t35) Ai)) (Br (DR=2) (AG 115 #[.I QS,.I 0] G R (CB λt40 Ai=>R (.B t40) Ai)) (Br (DR=3) (AG 115 #[.I VC,.I 1] G R (CB λt45 Ai=>Bo t45 (AG 115 #[.I QS,.I 0] Ai R (CB λt49 CC=>R (.B t49) CC)) (R (.B false) Ai))) (Br (DR=4) (Br (MO=1) (Br (1<=DT) (R (.returned (.bool (decide (DT<=12)))) G) (R (.B false) G)) (R (.B false) G)) (Br (DR=5) (Br (MO=1) (Br (1<=DT) (Br (DT<=5) (Br (JP=0) (R (.B true) G) (Br (JP=1) (R (.B true) G) (R (.returned (.bool (decide (JP=2)))) G))) (R (.B false) G)) (R (.B false) G)) (R (.B false) G)) (Br (DR=6) (Br (MO=2) (Br (1<=DT) (Br (DT<=13) (Br (JP=0) (Bn RO (R (.B true) G) (AG 116 #[.I DT] G R (CB λt133 Ai=>R (.B t133) Ai))) (Br (JP=3) (Bn RO (R (.B true) G) (AG 116 #[.I DT] G R (CB λt133 Ai=>R (.B t133) Ai))) (Br (JP=4) (Bn RO (R (.B true) G) (AG 116 #[.I DT] G R (CB λt133 Ai=>R (.B t133) Ai))) (R (.B false) G)))) (R (.B false) G)) (R (.B false) G)) (R (.B false) G)) (Br (DR=7) (R (.returned (.bool (decide (MO=1)))) G) (R (.B false) G))))))))) (Br (DR=1) (AG 62 #[.string VD] G R (CB λt35 Ai=>R (.B t35) Ai)) (Br (DR=2) (AG 115 #[.I QS,.I 0] G R (CB λt40 Ai=>R (.B t40) Ai)) (Br (DR=3) (AG 115 #[.I VC,.I 1] G R (CB λt45 Ai=>Bo t45 (AG 115 #[.I QS,.I 0] Ai R (CB λt49 CC=>R (.B t49) CC)) (R (.B false) Ai))) (Br (DR=4) (Br (MO=1) (Br (1<=DT) (R (.returned (.bool (decide (DT<=12)))) G) (R (.B false) G)) (R (.B false) G)) (Br (DR=5) (Br (MO=1) (Br (1<=DT) (Br (DT<=5) (Br (JP=0) (R (.B true) G) (Br (JP=1) (R (.B true) G) (R (.returned (.bool (decide (JP=2)))) G))) (R (.B false) G)) (R (.B false) G)) (R (.B false) G)) (Br (DR=6) (Br (MO=2) (Br (1<=DT) (Br (DT<=13) (Br (JP=0) (Bn RO (R (.B true) G) (AG 116 #[.I DT] G R (CB λt133 Ai=>R (.B t133) Ai))) (Br (JP=3) (Bn RO (R (.B true) G) (AG 116 #[.I DT] G R (CB λt133 Ai=>R (.B t133) Ai))) (Br (JP=4) (Bn RO (R (.B true) G) (AG 116 #[.I DT] G R (CB λt133 Ai=>R (.B t133) Ai))) (R (.B false) G)))) (R (.B false) G)) (R (.B false) G)) (R (.B false) G)) (Br (DR=7) (R (.returned (.bool (decide (MO=1)))) G) (R (.B false) G)))))))))))))):Spec prog 85 #[.agg #[.I DR,.I DT,.string VD,.slice cV al cW,.I VC,.I QS,.I JP,.slice Wd Vh We,.bool RO,.I MO]] Z22 R:=M.start h ok
end W0
namespace Gn
variable {q0 FC FP p2:Option Addr}{Cm CN E8 EK Dg Dj:Int}{E9:ByteArray}{FD FE FG FQ n2 c2:Nat}{EU:Bool}
def M:Fw:=⟨prog,90,f90,[116,120],[4],false,[(1,10,true)],[],[]⟩
def ok:M.Ok:=⟨.cons call116 (.cons call120 (AH.nil)),mixed,func90,by kernel_rfl⟩
def start (h:∀b4:Nat,Pq p2 λH8 U4=>In 0 (n2:Int)/\LI .i64 Z22 H8 U4 λx15=>In 1 (n2:Int)/\LI .i64 Z22 H8 (U4+1) λCe=>Br (x15=2) (Br (x15=1) (Br (x15=3) (R (.T #[.I 0,.I 192]) Z22) (Br (Ce=3) (R (.T #[.I 0,.I 192]) Z22) (AG 120 #[.I CN] Z22 R (CB λt41 y=>Bo t41 (Bm (Ce=2) (R (.T #[.I 0,.I 192]) y) (Br (Ce=1) (AG 116 #[.I CN] y R (CB λt57 G=>Bo t57 (Bn EU (R (.T #[.I 0,.I 192]) G) (R (.T #[(.I (if x15<Ce then Ce else x15)),.I 0]) G)) (R (.T #[(.I (if x15<Ce then Ce else x15)),.I 0]) G))) (R (.T #[(.I (if x15<Ce then Ce else x15)),.I 0]) y))) (Br (Dg≠0) (Bm (Ce=2) (R (.T #[.I 0,.I 192]) y) (Br (Ce=1) (AG 116 #[.I CN] y R (CB λt57 G=>Bo t57 (Bn EU (R (.T #[.I 0,.I 192]) G) (R (.T #[(.I (if x15<Ce then Ce else x15)),.I 0]) G)) (R (.T #[(.I (if x15<Ce then Ce else x15)),.I 0]) G))) (R (.T #[(.I (if x15<Ce then Ce else x15)),.I 0]) y))) (Br (Ce=1) (AG 116 #[.I CN] y R (CB λt57 G=>Bo t57 (Bn EU (R (.T #[.I 0,.I 192]) G) (R (.T #[(.I (if x15<Ce then Ce else x15)),.I 0]) G)) (R (.T #[(.I (if x15<Ce then Ce else x15)),.I 0]) G))) (R (.T #[(.I (if x15<Ce then Ce else x15)),.I 0]) y))))))) (Br (x15=3) (R (.T #[.I 0,.I 192]) Z22) (Br (Ce=3) (R (.T #[.I 0,.I 192]) Z22) (AG 120 #[.I CN] Z22 R (CB λt41 y=>Bo t41 (Bm (Ce=2) (R (.T #[.I 0,.I 192]) y) (R (.T #[(.I (if x15<Ce then Ce else x15)),.I 0]) y)) (Br (Dg≠0) (Bm (Ce=2) (R (.T #[.I 0,.I 192]) y) (R (.T #[(.I (if x15<Ce then Ce else x15)),.I 0]) y)) (R (.T #[(.I (if x15<Ce then Ce else x15)),.I 0]) y))))))) (Br (x15=1) (Br (x15=3) (R (.T #[.I 0,.I 192]) Z22) (Br (Ce=3) (R (.T #[.I 0,.I 192]) Z22) (AG 120 #[.I CN] Z22 R (CB λt41 y=>Bo t41 (R (.T #[.I 0,.I 192]) y) (Br (Dg≠0) (R (.T #[.I 0,.I 192]) y) (Br (Ce=1) (AG 116 #[.I CN] y R (CB λt57 G=>Bo t57 (Bn EU (R (.T #[.I 0,.I 192]) G) (R (.T #[(.I (if x15<Ce then Ce else x15)),.I 0]) G)) (R (.T #[(.I (if x15<Ce then Ce else x15)),.I 0]) G))) (R (.T #[(.I (if x15<Ce then Ce else x15)),.I 0]) y))))))) (Br (x15=3) (R (.T #[.I 0,.I 192]) Z22) (Br (Ce=3) (R (.T #[.I 0,.I 192]) Z22) (AG 120 #[.I CN] Z22 R (CB λt41 y=>Bo t41 (R (.T #[.I 0,.I 192]) y) (Br (Dg≠0) (R (.T #[.I 0,.I 192]) y) (R (.T #[(.I (if x15<Ce then Ce else x15)),.I 0]) y)))))))):Spec prog 90 #[.pointer q0,.agg #[.I Cm,.I CN,.string E9,.slice FC FD FE,.I E8,.I EK,.I Dg,.slice FP FG FQ,.bool EU,.I Dj],.slice p2 n2 c2] Z22 R:=M.start h ok
end Gn
namespace SG
variable {s0:ByteArray}
def M:Fw:=⟨prog,94,f94,[],[],false,[],[],[]⟩
def ok:M.Ok:=⟨AH.nil,mixed,func94,by kernel_rfl⟩
def start (h:Br ((1:Int)<(s0.size:Int)) (∃G:UInt8,(0:Int)<=0/\(ByteArray.data s0)[Int.toNat 0]?=some G/\R (.returned (.bool (decide (((G.toNat:Int):Int)=48)))) Z22) (R (.B false) Z22)):Spec prog 94 #[.string s0] Z22 R:=M.start h ok
end SG
namespace Ep
variable {p0 p7:Option Addr}{n0 c0 n7 c7:Nat}{s1:ByteArray}{x8 x9:Int}
def M:Fw:=⟨prog,95,f95,[],[],false,[],[],[(104,[(1,wT),(7,wL),(8,wI),(9,wI)])]⟩
def ok:M.Ok:=⟨AH.nil,mixed,func95,by kernel_rfl⟩
def Gf:=M.pt 0
def start (h:Gf R s1 p0 n0 c0 (n0:Int) 0 Z22):Spec prog 95 #[.slice p0 n0 c0,.string s1] Z22 R:=M.start h ok
def A0 (h:Br (x9<x8) (Pq p7 λG Jn=>In x9 (n7:Int)/\LT Z22 G (Jn+x9.toNat*1) λs13=>Bo (ByteArray.toList s13==ByteArray.toList s1) (Bn ((ByteArray.toList s1==ByteArray.toList (ByteArray.mk #[]))) (R (.returned (.I x9)) Z22) (AL (x9+1)/\Gf R s1 (aD G Jn) n7 c7 x8 (x9+1) Z22)) (AL (x9+1)/\Gf R s1 (aD G Jn) n7 c7 x8 (x9+1) Z22)) (R (.returned (.I 0)) Z22)):Gf R s1 p7 n7 c7 x8 x9 Z22:=M.of h ok rfl
end Ep
namespace EY
variable {p0 p7 Ro:Option Addr}{n0 c0 n7 c7 n10 MK:Nat}{x1 x2 x11 x12:Int}
def M:Fw:=⟨prog,105,f105,[],[9],false,[],[],[(232,[(1,wI),(2,wI),(7,wL),(10,wL),(11,wI),(12,wI)]),(935,[(1,wI),(2,wI),(7,wL),(10,wL),(11,wI),(12,wI)])]⟩
def ok:M.Ok:=⟨AH.nil,mixed,func105,by kernel_rfl⟩
def A4:=M.pt 0
def Iy:=M.pt 1
def start (h:A4 R x1 x2 none 0 0 p0 n0 c0 (n0:Int) 0 Z22):Spec prog 105 #[.slice p0 n0 c0,.I x1,.I x2] Z22 R:=M.start h ok
def AX (h:Br (x12<x11) (Pq Ro λHo Ji=>In x12 (n10:Int)/\∃vQ ov,A2 Z22 Ho (Ji+x12.toNat*2) [.I vQ,.U ov]/\∀b9:Nat,Br (x1<=vQ) (Br (vQ<=x2) (Al Z22 λG=>AI prog (G1 96 p7 n7 c7 G) (Hp.set Z22 G (.cells #[.I vQ,.U ov] 111 (0,0))) (CS λp29 n29 c29 y=>Iy R x1 x2 p29 n29 c29 (aD Ho Ji) n10 MK x11 x12 y)) (Iy R x1 x2 p7 n7 c7 (aD Ho Ji) n10 MK x11 x12 Z22)) (Iy R x1 x2 p7 n7 c7 (aD Ho Ji) n10 MK x11 x12 Z22)) (R (.returned (.slice p7 n7 c7)) Z22)):A4 R x1 x2 p7 n7 c7 Ro n10 MK x11 x12 Z22:=M.of h ok rfl
def Em (h:AL (x12+1)/\A4 R x1 x2 p7 n7 c7 Ro n10 MK x11 (x12+1) Z22):Iy R x1 x2 p7 n7 c7 Ro n10 MK x11 x12 Z22:=M.of h ok rfl
end EY
namespace Er
variable {DR DT VC QS JP MO:Int}{VD:ByteArray}{cV Wd p1:Option Addr}{al cW Vh We n1 c1 b2:Nat}{RO:Bool}
def M:Fw:=⟨prog,119,f119,[],[3],false,[],[],[]⟩
def ok:M.Ok:=⟨AH.nil,mixed,func119,by kernel_rfl⟩
def start (h:∀b3:Nat,LI .i64 Z22 b2 0 λx7=>R (.T #[.I x7,.I 0]) Z22):Spec prog 119 #[.agg #[.I DR,.I DT,.string VD,.slice cV al cW,.I VC,.I QS,.I JP,.slice Wd Vh We,.bool RO,.I MO],.slice p1 n1 c1,(.pointer (aD b2 0))] Z22 R:=M.start h ok
end Er
namespace Es
variable {q0:Option Addr}
def M:Fw:=⟨prog,123,f123,[63],[],false,[],[],[]⟩
def ok:M.Ok:=⟨.cons call63 (AH.nil),mixed,func123,by kernel_rfl⟩
def start (h:AG 63 #[.pointer q0,(.func (.func 139) #[.pointer q0] #[]),.I 1,.I 2] Z22 R (λz y=>z=(.tuple #[])/\R (.T #[]) y)):Spec prog 123 #[.pointer q0] Z22 R:=M.start h ok
end Es
namespace Gp
variable {p0 p3 Ro:Option Addr}{n0 c0 n3 c3 n10 MK:Nat}{x11 x12:Int}
def M:Fw:=⟨prog,126,f126,[140,141],[5],false,[],[],[(232,[(3,wL),(10,wL),(11,wI),(12,wI)])]⟩
def ok:M.Ok:=⟨.cons call140 (.cons call141 (AH.nil)),mixed,func126,by kernel_rfl⟩
def A4:=M.pt 0
def start (h:Df (IntKind.u64.wrap (n0:Int)) λx8=>AG 140 #[.N,.U x8] Z22 R (CS λp9 n9 c9 y=>A4 R p9 n9 c9 p0 n0 c0 (n0:Int) 0 y)):Spec prog 126 #[.slice p0 n0 c0] Z22 R:=M.start h ok
def AX (h:Br (x12<x11) (Pq Ro λHo Ji=>In x12 (n10:Int)/\∃G AQx,A2 Z22 Ho (Ji+x12.toNat*2) [.string G,.string AQx]/\∀b5:Nat,AG 141 #[.slice p3 n3 c3,.string G] Z22 R (CS λiD n19 cE y=>AG 141 #[.slice iD n19 cE,.string AQx] y R (CS λvM n22 oa AE=>AL (x12+1)/\A4 R vM n22 oa (aD Ho Ji) n10 MK x11 (x12+1) AE))) (R (.returned (.slice p3 n3 c3)) Z22)):A4 R p3 n3 c3 Ro n10 MK x11 x12 Z22:=M.of h ok rfl
end Gp
namespace C1
variable {q0 FC FP p2:Option Addr}{Cm CN E8 EK Dg Dj:Int}{E9:ByteArray}{FD FE FG FQ n2 c2:Nat}{EU:Bool}
def M:Fw:=⟨prog,129,f129,[152],[4,6],false,[],[],[]⟩
def ok:M.Ok:=⟨.cons call152 (AH.nil),mixed,func129,by kernel_rfl⟩
def start (h:∀b4:Nat,∀b6:Nat,AG 152 #[.string E9] Z22 R (λz y=>∃IU G,z=(.tuple #[.U IU,.bool G])/\R (.T #[.agg #[.I 1,.U IU,.N,.N],.I 0]) y)):Spec prog 129 #[.pointer q0,.agg #[.I Cm,.I CN,.string E9,.slice FC FD FE,.I E8,.I EK,.I Dg,.slice FP FG FQ,.bool EU,.I Dj],.slice p2 n2 c2] Z22 R:=M.start h ok
end C1
namespace EZ
variable {q0 FC FP p2:Option Addr}{Cm CN E8 EK Dg Dj:Int}{E9:ByteArray}{FD FE FG FQ n2 c2:Nat}{EU:Bool}
def M:Fw:=⟨prog,134,f134,[120,168,169,172,173],[6],false,[(1,9,false)],[],[]⟩
def ok:M.Ok:=⟨.cons call120 (.cons call168 (.cons call169 (.cons call172 (.cons call173 (AH.nil))))),mixed,func134,by kernel_rfl⟩
def start (h:Al Z22 λb4=>∀b6:Nat,Pq p2 λH8 U4=>In 0 (n2:Int)/\∃HS Tg AKd AKe AKf AKg AKh AKi,A2 (Hp.set Z22 b4 (.cells #[.I Cm,.I CN,.string E9,.slice FC FD FE,.I E8,.I EK,.I Dg,.slice FP FG FQ,.bool EU,.I Dj] 127 (0,0))) H8 U4 [.I HS,.U Tg,.slice AKd AKe AKf,.slice AKg AKh AKi]/\In 1 (n2:Int)/\∃Tm jx AKj AKk AKl vX vY vZ,A2 (Hp.set Z22 b4 (.cells #[.I Cm,.I CN,.string E9,.slice FC FD FE,.I E8,.I EK,.I Dg,.slice FP FG FQ,.bool EU,.I Dj] 127 (0,0))) H8 (U4+4) [.I Tm,.U jx,.slice AKj AKk AKl,.slice vX vY vZ]/\(Al (Hp.set Z22 b4 (.cells #[.I Cm,.I CN,.string E9,.slice FC FD FE,.I E8,.I EK,.I Dg,.slice FP FG FQ,.bool EU,.I Dj] 127 (0,0))) λb8=>Al (Hp.set (Hp.set Z22 b4 (.cells #[.I Cm,.I CN,.string E9,.slice FC FD FE,.I E8,.I EK,.I Dg,.slice FP FG FQ,.bool EU,.I Dj] 127 (0,0))) b8 (.cells #[.I 0,.U 0,.N,.N] 164 (0,0))) λb9=>AI prog (Instr.storeAt 164 (.pointer (aD b8 0)) (.agg #[.I HS,.U Tg,.slice AKd AKe AKf,.slice AKg AKh AKi])) (Hp.set (Hp.set (Hp.set Z22 b4 (.cells #[.I Cm,.I CN,.string E9,.slice FC FD FE,.I E8,.I EK,.I Dg,.slice FP FG FQ,.bool EU,.I Dj] 127 (0,0))) b8 (.cells #[.I 0,.U 0,.N,.N] 164 (0,0))) b9 (.cells #[.I 0,.U 0,.N,.N] 164 (0,0))) (λ_ y=>Kp [H8] (Hp.set (Hp.set (Hp.set Z22 b4 (.cells #[.I Cm,.I CN,.string E9,.slice FC FD FE,.I E8,.I EK,.I Dg,.slice FP FG FQ,.bool EU,.I Dj] 127 (0,0))) b8 (.cells #[.I 0,.U 0,.N,.N] 164 (0,0))) b9 (.cells #[.I 0,.U 0,.N,.N] 164 (0,0))) y/\AI prog (Instr.storeAt 164 (.pointer (aD b9 0)) (.agg #[.I Tm,.U jx,.slice AKj AKk AKl,.slice vX vY vZ])) y (λ_ AE=>LI .i64 AE b8 0 λIl=>Br (Il=1) (LI .i64 AE b9 0 λP0=>Br (P0=1) (∃jy Wy AAJ AAK AAL AAM AAN AAO AAP AAQ AAR AAS AAT AAU,A2 AE b4 0 [.I jy,.I Wy,.string AAJ,.slice AAK AAL AAM,.I AAN,.I AAO,.I AAP,.slice AAQ AAR AAS,.bool AAT,.I AAU]/\LI .u64 AE b8 1 λyC=>LI .u64 AE b9 1 λzo=>AG 168 #[.agg #[.I jy,.I Wy,.string AAJ,.slice AAK AAL AAM,.I AAN,.I AAO,.I AAP,.slice AAQ AAR AAS,.bool AAT,.I AAU],.U yC,.U zo] AE R (λz G=>∃WW zp,z=(.tuple #[.U WW,.bool zp])/\R (.T #[.agg #[.I 1,.U WW,.N,.N],.I 0]) G)) (LI .i64 AE b8 0 λjS=>Br (jS=1) (∃QZ LY NW W1 W2 W3 W4 W5 W6 W7 W8 W9 XA XB,A2 AE b4 0 [.I QZ,.I LY,.string NW,.slice W1 W2 W3,.I W4,.I W5,.I W6,.slice W7 W8 W9,.bool XA,.I XB]/\LS AE b9 2 λp45 n45 c45=>AG 169 #[.pointer q0,.agg #[.I QZ,.I LY,.string NW,.slice W1 W2 W3,.I W4,.I W5,.I W6,.slice W7 W8 W9,.bool XA,.I XB],.slice p45 n45 c45,(.func (.func 170) #[] #[(.pointer (aD b4 0)),(.pointer (aD b8 0))])] AE R (λz G=>∃NZ Na Nb Nc Nf Ng Nh Ni XC,z=(.tuple #[.agg #[.I NZ,.U Na,.slice Nb Nc Nf,.slice Ng Nh Ni],.I XC])/\R (.T #[.agg #[.I NZ,.U Na,.slice Nb Nc Nf,.slice Ng Nh Ni],.I XC]) G)) (LI .i64 AE b9 0 λx52=>Br (x52=1) (∃XD XE XF XG XH XI XJ XK XL XM XN XO XP XQ,A2 AE b4 0 [.I XD,.I XE,.string XF,.slice XG XH XI,.I XJ,.I XK,.I XL,.slice XM XN XO,.bool XP,.I XQ]/\LS AE b8 2 λp57 n57 c57=>AG 169 #[.pointer q0,.agg #[.I XD,.I XE,.string XF,.slice XG XH XI,.I XJ,.I XK,.I XL,.slice XM XN XO,.bool XP,.I XQ],.slice p57 n57 c57,(.func (.func 171) #[] #[(.pointer (aD b4 0)),(.pointer (aD b9 0))])] AE R (λz G=>∃Nj Nk Nl Nn No Np Nq Nr I2,z=(.tuple #[.agg #[.I Nj,.U Nk,.slice Nl Nn No,.slice Np Nq Nr],.I I2])/\R (.T #[.agg #[.I Nj,.U Nk,.slice Nl Nn No,.slice Np Nq Nr],.I I2]) G)) (LI .i64 AE b4 1 λx64=>AG 120 #[.I x64] AE R (CB λt65 G=>Bo t65 (∃NC ND NF NG NH NI NJ NK NL NM NN NO NQ NR,A2 G b4 0 [.I NC,.I ND,.string NF,.slice NG NH NI,.I NJ,.I NK,.I NL,.slice NM NN NO,.bool NQ,.I NR]/\LS G b8 2 λpD n69 pE=>LS G b9 2 λp71 n71 c71=>AG 172 #[.pointer q0,.agg #[.I NC,.I ND,.string NF,.slice NG NH NI,.I NJ,.I NK,.I NL,.slice NM NN NO,.bool NQ,.I NR],.slice pD n69 pE,.slice p71 n71 c71] G R (λz Ai=>∃Ns Nt Nu Nv Nw Nx Ny Nz XR,z=(.tuple #[.agg #[.I Ns,.U Nt,.slice Nu Nv Nw,.slice Nx Ny Nz],.I XR])/\R (.T #[.agg #[.I Ns,.U Nt,.slice Nu Nv Nw,.slice Nx Ny Nz],.I XR]) Ai)) (∃XS XT XU XV XW XX XY XZ Xa Xb Xc Xd Xe Xf,A2 G b4 0 [.I XS,.I XT,.string XU,.slice XV XW XX,.I XY,.I XZ,.I Xa,.slice Xb Xc Xd,.bool Xe,.I Xf]/\LS G b8 2 λp78 n78 c78=>LS G b9 2 λp80 n80 c80=>AG 173 #[.pointer q0,.agg #[.I XS,.I XT,.string XU,.slice XV XW XX,.I XY,.I XZ,.I Xa,.slice Xb Xc Xd,.bool Xe,.I Xf],.slice p78 n78 c78,.slice p80 n80 c80] G R (λz Ai=>∃N0 N6 N7 N8 N9 PC PD PE Xg,z=(.tuple #[.agg #[.I N0,.U N6,.slice N7 N8 N9,.slice PC PD PE],.I Xg])/\R (.T #[.agg #[.I N0,.U N6,.slice N7 N8 N9,.slice PC PD PE],.I Xg]) Ai))))))) (LI .i64 AE b8 0 λjS=>Br (jS=1) (∃QZ LY NW W1 W2 W3 W4 W5 W6 W7 W8 W9 XA XB,A2 AE b4 0 [.I QZ,.I LY,.string NW,.slice W1 W2 W3,.I W4,.I W5,.I W6,.slice W7 W8 W9,.bool XA,.I XB]/\LS AE b9 2 λp45 n45 c45=>AG 169 #[.pointer q0,.agg #[.I QZ,.I LY,.string NW,.slice W1 W2 W3,.I W4,.I W5,.I W6,.slice W7 W8 W9,.bool XA,.I XB],.slice p45 n45 c45,(.func (.func 170) #[] #[(.pointer (aD b4 0)),(.pointer (aD b8 0))])] AE R (λz G=>∃NZ Na Nb Nc Nf Ng Nh Ni XC,z=(.tuple #[.agg #[.I NZ,.U Na,.slice Nb Nc Nf,.slice Ng Nh Ni],.I XC])/\R (.T #[.agg #[.I NZ,.U Na,.slice Nb Nc Nf,.slice Ng Nh Ni],.I XC]) G)) (LI .i64 AE b9 0 λx52=>Br (x52=1) (∃XD XE XF XG XH XI XJ XK XL XM XN XO XP XQ,A2 AE b4 0 [.I XD,.I XE,.string XF,.slice XG XH XI,.I XJ,.I XK,.I XL,.slice XM XN XO,.bool XP,.I XQ]/\LS AE b8 2 λp57 n57 c57=>AG 169 #[.pointer q0,.agg #[.I XD,.I XE,.string XF,.slice XG XH XI,.I XJ,.I XK,.I XL,.slice XM XN XO,.bool XP,.I XQ],.slice p57 n57 c57,(.func (.func 171) #[] #[(.pointer (aD b4 0)),(.pointer (aD b9 0))])] AE R (λz G=>∃Nj Nk Nl Nn No Np Nq Nr I2,z=(.tuple #[.agg #[.I Nj,.U Nk,.slice Nl Nn No,.slice Np Nq Nr],.I I2])/\R (.T #[.agg #[.I Nj,.U Nk,.slice Nl Nn No,.slice Np Nq Nr],.I I2]) G)) (LI .i64 AE b4 1 λx64=>AG 120 #[.I x64] AE R (CB λt65 G=>Bo t65 (∃NC ND NF NG NH NI NJ NK NL NM NN NO NQ NR,A2 G b4 0 [.I NC,.I ND,.string NF,.slice NG NH NI,.I NJ,.I NK,.I NL,.slice NM NN NO,.bool NQ,.I NR]/\LS G b8 2 λpD n69 pE=>LS G b9 2 λp71 n71 c71=>AG 172 #[.pointer q0,.agg #[.I NC,.I ND,.string NF,.slice NG NH NI,.I NJ,.I NK,.I NL,.slice NM NN NO,.bool NQ,.I NR],.slice pD n69 pE,.slice p71 n71 c71] G R (λz Ai=>∃Ns Nt Nu Nv Nw Nx Ny Nz XR,z=(.tuple #[.agg #[.I Ns,.U Nt,.slice Nu Nv Nw,.slice Nx Ny Nz],.I XR])/\R (.T #[.agg #[.I Ns,.U Nt,.slice Nu Nv Nw,.slice Nx Ny Nz],.I XR]) Ai)) (∃XS XT XU XV XW XX XY XZ Xa Xb Xc Xd Xe Xf,A2 G b4 0 [.I XS,.I XT,.string XU,.slice XV XW XX,.I XY,.I XZ,.I Xa,.slice Xb Xc Xd,.bool Xe,.I Xf]/\LS G b8 2 λp78 n78 c78=>LS G b9 2 λp80 n80 c80=>AG 173 #[.pointer q0,.agg #[.I XS,.I XT,.string XU,.slice XV XW XX,.I XY,.I XZ,.I Xa,.slice Xb Xc Xd,.bool Xe,.I Xf],.slice p78 n78 c78,.slice p80 n80 c80] G R (λz Ai=>∃N0 N6 N7 N8 N9 PC PD PE Xg,z=(.tuple #[.agg #[.I N0,.U N6,.slice N7 N8 N9,.slice PC PD PE],.I Xg])/\R (.T #[.agg #[.I N0,.U N6,.slice N7 N8 N9,.slice PC PD PE],.I Xg]) Ai)))))))))/\(Al (Hp.set Z22 b4 (.cells #[.I Cm,.I CN,.string E9,.slice FC FD FE,.I E8,.I EK,.I Dg,.slice FP FG FQ,.bool EU,.I Dj] 127 (0,0))) λb9=>Al (Hp.set (Hp.set Z22 b4 (.cells #[.I Cm,.I CN,.string E9,.slice FC FD FE,.I E8,.I EK,.I Dg,.slice FP FG FQ,.bool EU,.I Dj] 127 (0,0))) b9 (.cells #[.I 0,.U 0,.N,.N] 164 (0,0))) λb8=>AI prog (Instr.storeAt 164 (.pointer (aD b8 0)) (.agg #[.I HS,.U Tg,.slice AKd AKe AKf,.slice AKg AKh AKi])) (Hp.set (Hp.set (Hp.set Z22 b4 (.cells #[.I Cm,.I CN,.string E9,.slice FC FD FE,.I E8,.I EK,.I Dg,.slice FP FG FQ,.bool EU,.I Dj] 127 (0,0))) b9 (.cells #[.I 0,.U 0,.N,.N] 164 (0,0))) b8 (.cells #[.I 0,.U 0,.N,.N] 164 (0,0))) (λ_ y=>Kp [H8] (Hp.set (Hp.set (Hp.set Z22 b4 (.cells #[.I Cm,.I CN,.string E9,.slice FC FD FE,.I E8,.I EK,.I Dg,.slice FP FG FQ,.bool EU,.I Dj] 127 (0,0))) b9 (.cells #[.I 0,.U 0,.N,.N] 164 (0,0))) b8 (.cells #[.I 0,.U 0,.N,.N] 164 (0,0))) y/\AI prog (Instr.storeAt 164 (.pointer (aD b9 0)) (.agg #[.I Tm,.U jx,.slice AKj AKk AKl,.slice vX vY vZ])) y (λ_ AE=>LI .i64 AE b8 0 λIl=>Br (Il=1) (LI .i64 AE b9 0 λP0=>Br (P0=1) (∃jy Wy AAJ AAK AAL AAM AAN AAO AAP AAQ AAR AAS AAT AAU,A2 AE b4 0 [.I jy,.I Wy,.string AAJ,.slice AAK AAL AAM,.I AAN,.I AAO,.I AAP,.slice AAQ AAR AAS,.bool AAT,.I AAU]/\LI .u64 AE b8 1 λyC=>LI .u64 AE b9 1 λzo=>AG 168 #[.agg #[.I jy,.I Wy,.string AAJ,.slice AAK AAL AAM,.I AAN,.I AAO,.I AAP,.slice AAQ AAR AAS,.bool AAT,.I AAU],.U yC,.U zo] AE R (λz G=>∃WW zp,z=(.tuple #[.U WW,.bool zp])/\R (.T #[.agg #[.I 1,.U WW,.N,.N],.I 0]) G)) (LI .i64 AE b8 0 λjS=>Br (jS=1) (∃QZ LY NW W1 W2 W3 W4 W5 W6 W7 W8 W9 XA XB,A2 AE b4 0 [.I QZ,.I LY,.string NW,.slice W1 W2 W3,.I W4,.I W5,.I W6,.slice W7 W8 W9,.bool XA,.I XB]/\LS AE b9 2 λp45 n45 c45=>AG 169 #[.pointer q0,.agg #[.I QZ,.I LY,.string NW,.slice W1 W2 W3,.I W4,.I W5,.I W6,.slice W7 W8 W9,.bool XA,.I XB],.slice p45 n45 c45,(.func (.func 170) #[] #[(.pointer (aD b4 0)),(.pointer (aD b8 0))])] AE R (λz G=>∃NZ Na Nb Nc Nf Ng Nh Ni XC,z=(.tuple #[.agg #[.I NZ,.U Na,.slice Nb Nc Nf,.slice Ng Nh Ni],.I XC])/\R (.T #[.agg #[.I NZ,.U Na,.slice Nb Nc Nf,.slice Ng Nh Ni],.I XC]) G)) (LI .i64 AE b9 0 λx52=>Br (x52=1) (∃XD XE XF XG XH XI XJ XK XL XM XN XO XP XQ,A2 AE b4 0 [.I XD,.I XE,.string XF,.slice XG XH XI,.I XJ,.I XK,.I XL,.slice XM XN XO,.bool XP,.I XQ]/\LS AE b8 2 λp57 n57 c57=>AG 169 #[.pointer q0,.agg #[.I XD,.I XE,.string XF,.slice XG XH XI,.I XJ,.I XK,.I XL,.slice XM XN XO,.bool XP,.I XQ],.slice p57 n57 c57,(.func (.func 171) #[] #[(.pointer (aD b4 0)),(.pointer (aD b9 0))])] AE R (λz G=>∃Nj Nk Nl Nn No Np Nq Nr I2,z=(.tuple #[.agg #[.I Nj,.U Nk,.slice Nl Nn No,.slice Np Nq Nr],.I I2])/\R (.T #[.agg #[.I Nj,.U Nk,.slice Nl Nn No,.slice Np Nq Nr],.I I2]) G)) (LI .i64 AE b4 1 λx64=>AG 120 #[.I x64] AE R (CB λt65 G=>Bo t65 (∃NC ND NF NG NH NI NJ NK NL NM NN NO NQ NR,A2 G b4 0 [.I NC,.I ND,.string NF,.slice NG NH NI,.I NJ,.I NK,.I NL,.slice NM NN NO,.bool NQ,.I NR]/\LS G b8 2 λpD n69 pE=>LS G b9 2 λp71 n71 c71=>AG 172 #[.pointer q0,.agg #[.I NC,.I ND,.string NF,.slice NG NH NI,.I NJ,.I NK,.I NL,.slice NM NN NO,.bool NQ,.I NR],.slice pD n69 pE,.slice p71 n71 c71] G R (λz Ai=>∃Ns Nt Nu Nv Nw Nx Ny Nz XR,z=(.tuple #[.agg #[.I Ns,.U Nt,.slice Nu Nv Nw,.slice Nx Ny Nz],.I XR])/\R (.T #[.agg #[.I Ns,.U Nt,.slice Nu Nv Nw,.slice Nx Ny Nz],.I XR]) Ai)) (∃XS XT XU XV XW XX XY XZ Xa Xb Xc Xd Xe Xf,A2 G b4 0 [.I XS,.I XT,.string XU,.slice XV XW XX,.I XY,.I XZ,.I Xa,.slice Xb Xc Xd,.bool Xe,.I Xf]/\LS G b8 2 λp78 n78 c78=>LS G b9 2 λp80 n80 c80=>AG 173 #[.pointer q0,.agg #[.I XS,.I XT,.string XU,.slice XV XW XX,.I XY,.I XZ,.I Xa,.slice Xb Xc Xd,.bool Xe,.I Xf],.slice p78 n78 c78,.slice p80 n80 c80] G R (λz Ai=>∃N0 N6 N7 N8 N9 PC PD PE Xg,z=(.tuple #[.agg #[.I N0,.U N6,.slice N7 N8 N9,.slice PC PD PE],.I Xg])/\R (.T #[.agg #[.I N0,.U N6,.slice N7 N8 N9,.slice PC PD PE],.I Xg]) Ai))))))) (LI .i64 AE b8 0 λjS=>Br (jS=1) (∃QZ LY NW W1 W2 W3 W4 W5 W6 W7 W8 W9 XA XB,A2 AE b4 0 [.I QZ,.I LY,.string NW,.slice W1 W2 W3,.I W4,.I W5,.I W6,.slice W7 W8 W9,.bool XA,.I XB]/\LS AE b9 2 λp45 n45 c45=>AG 169 #[.pointer q0,.agg #[.I QZ,.I LY,.string NW,.slice W1 W2 W3,.I W4,.I W5,.I W6,.slice W7 W8 W9,.bool XA,.I XB],.slice p45 n45 c45,(.func (.func 170) #[] #[(.pointer (aD b4 0)),(.pointer (aD b8 0))])] AE R (λz G=>∃NZ Na Nb Nc Nf Ng Nh Ni XC,z=(.tuple #[.agg #[.I NZ,.U Na,.slice Nb Nc Nf,.slice Ng Nh Ni],.I XC])/\R (.T #[.agg #[.I NZ,.U Na,.slice Nb Nc Nf,.slice Ng Nh Ni],.I XC]) G)) (LI .i64 AE b9 0 λx52=>Br (x52=1) (∃XD XE XF XG XH XI XJ XK XL XM XN XO XP XQ,A2 AE b4 0 [.I XD,.I XE,.string XF,.slice XG XH XI,.I XJ,.I XK,.I XL,.slice XM XN XO,.bool XP,.I XQ]/\LS AE b8 2 λp57 n57 c57=>AG 169 #[.pointer q0,.agg #[.I XD,.I XE,.string XF,.slice XG XH XI,.I XJ,.I XK,.I XL,.slice XM XN XO,.bool XP,.I XQ],.slice p57 n57 c57,(.func (.func 171) #[] #[(.pointer (aD b4 0)),(.pointer (aD b9 0))])] AE R (λz G=>∃Nj Nk Nl Nn No Np Nq Nr I2,z=(.tuple #[.agg #[.I Nj,.U Nk,.slice Nl Nn No,.slice Np Nq Nr],.I I2])/\R (.T #[.agg #[.I Nj,.U Nk,.slice Nl Nn No,.slice Np Nq Nr],.I I2]) G)) (LI .i64 AE b4 1 λx64=>AG 120 #[.I x64] AE R (CB λt65 G=>Bo t65 (∃NC ND NF NG NH NI NJ NK NL NM NN NO NQ NR,A2 G b4 0 [.I NC,.I ND,.string NF,.slice NG NH NI,.I NJ,.I NK,.I NL,.slice NM NN NO,.bool NQ,.I NR]/\LS G b8 2 λpD n69 pE=>LS G b9 2 λp71 n71 c71=>AG 172 #[.pointer q0,.agg #[.I NC,.I ND,.string NF,.slice NG NH NI,.I NJ,.I NK,.I NL,.slice NM NN NO,.bool NQ,.I NR],.slice pD n69 pE,.slice p71 n71 c71] G R (λz Ai=>∃Ns Nt Nu Nv Nw Nx Ny Nz XR,z=(.tuple #[.agg #[.I Ns,.U Nt,.slice Nu Nv Nw,.slice Nx Ny Nz],.I XR])/\R (.T #[.agg #[.I Ns,.U Nt,.slice Nu Nv Nw,.slice Nx Ny Nz],.I XR]) Ai)) (∃XS XT XU XV XW XX XY XZ Xa Xb Xc Xd Xe Xf,A2 G b4 0 [.I XS,.I XT,.string XU,.slice XV XW XX,.I XY,.I XZ,.I Xa,.slice Xb Xc Xd,.bool Xe,.I Xf]/\LS G b8 2 λp78 n78 c78=>LS G b9 2 λp80 n80 c80=>AG 173 #[.pointer q0,.agg #[.I XS,.I XT,.string XU,.slice XV XW XX,.I XY,.I XZ,.I Xa,.slice Xb Xc Xd,.bool Xe,.I Xf],.slice p78 n78 c78,.slice p80 n80 c80] G R (λz Ai=>∃N0 N6 N7 N8 N9 PC PD PE Xg,z=(.tuple #[.agg #[.I N0,.U N6,.slice N7 N8 N9,.slice PC PD PE],.I Xg])/\R (.T #[.agg #[.I N0,.U N6,.slice N7 N8 N9,.slice PC PD PE],.I Xg]) Ai)))))))))):Spec prog 134 #[.pointer q0,.agg #[.I Cm,.I CN,.string E9,.slice FC FD FE,.I E8,.I EK,.I Dg,.slice FP FG FQ,.bool EU,.I Dj],.slice p2 n2 c2] Z22 R:=M.start h ok
end EZ
namespace EG
variable {q0:Option Addr}
def M:Fw:=⟨prog,139,f139,[63],[],false,[],[],[]⟩
def ok:M.Ok:=⟨.cons call63 (AH.nil),mixed,func139,by kernel_rfl⟩
def start (h:AG 63 #[.pointer q0,(.func (.func 175) #[.pointer q0] #[]),.I 3,.I 4] Z22 R (λz y=>z=(.tuple #[])/\R (.T #[]) y)):Spec prog 139 #[.pointer q0] Z22 R:=M.start h ok
end EG
namespace FW
variable {p0:Option Addr}{n0 c0:Nat}
def M:Fw:=⟨prog,165,f165,[212],[],false,[],[],[]⟩
def ok:M.Ok:=⟨.cons call212 (AH.nil),mixed,func165,by kernel_rfl⟩
def start (h:AG 212 #[.I 9,.slice p0 n0 c0] Z22 R (CI .u64 λx4 y=>R (.returned (.U x4)) y)):Spec prog 165 #[.slice p0 n0 c0] Z22 R:=M.start h ok
end FW
end TwW
end
end
section
set_option maxRecDepth 100000
noncomputable section
namespace TwW
open Go Tw Go.Proofs.Tryz
variable [GO]{R:Rr}{Z22:Hp}

namespace BP
variable {q0 FC FP p2 p3 LZ Lh G3 G6 Ka vF:Option Addr}{Cm CN E8 EK Dg Dj IV IW Ld Lf Lg Lk FH FT jq mj:Int}{E9 Jr:ByteArray}{FD FE FG FQ n2 c2 n3 c3 La Lc Li Lj G4 G5 G7 G8 n14 JR n41 mc:Nat}{EU NY:Bool}{m12:Option Nat}
def M:Fw:=⟨prog,173,f173,[107,116,160,168,216,217],[5,8,16,18],false,[],[],[(2024,[(5,.X 127 [.I .i64,.I .i64,.T,.L,.I .i64,.I .i64,.I .i64,.L,.B,.I .i64]),(8,.X 164 [.I .i64,.I .u64,.L,.L]),(12,wM),(14,wL),(41,wL),(42,wI),(43,wI)]),(8103,[(5,.X 127 [.I .i64,.I .i64,.T,.L,.I .i64,.I .i64,.I .i64,.L,.B,.I .i64]),(8,.X 164 [.I .i64,.I .u64,.L,.L]),(12,wM),(14,wL),(41,wL),(42,wI),(43,wI)])]⟩
def ok:M.Ok:=⟨.cons call107 (.cons call116 (.cons call160 (.cons call168 (.cons call216 (.cons call217 (AH.nil)))))),mixed,func173,by kernel_rfl⟩
def SH:=M.pt 0
def SI:=M.pt 1
def start (h:∀b5:Nat,∀b8:Nat,AG 216 #[.agg #[.I Cm,.I CN,.string E9,.slice FC FD FE,.I E8,.I EK,.I Dg,.slice FP FG FQ,.bool EU,.I Dj],.slice p2 n2 c2] Z22 R (λz y=>∃AYs G,z=(.tuple #[.map AYs,.bool G])/\AG 216 #[.agg #[.I Cm,.I CN,.string E9,.slice FC FD FE,.I E8,.I EK,.I Dg,.slice FP FG FQ,.bool EU,.I Dj],.slice p3 n3 c3] y R (λz AE=>∃AQy AQz,z=(.tuple #[.map AQy,.bool AQz])/\Bn G (R (.T #[.agg #[.I 0,.U 0,.N,.N],.I 223]) AE) (Bn AQz (R (.T #[.agg #[.I 0,.U 0,.N,.N],.I 223]) AE) (SH R Cm CN E9 FC FD FE E8 EK Dg FP FG FQ EU Dj 0 0 none 0 0 none 0 0 AQy none 0 0 p2 n2 c2 (n2:Int) 0 AE))))):Spec prog 173 #[.pointer q0,.agg #[.I Cm,.I CN,.string E9,.slice FC FD FE,.I E8,.I EK,.I Dg,.slice FP FG FQ,.bool EU,.I Dj],.slice p2 n2 c2,.slice p3 n3 c3] Z22 R:=M.start h ok
def Eu (h:Br (mj<jq) (Pq vF λad xu=>In mj (n41:Int)/\∃AKx AKy AKz AK0,A2 Z22 ad (xu+mj.toNat*2) [.slice AKx AKy AKz,.U AK0]/\∀UO:Nat,AG 217 #[.agg #[.I IV,.I IW,.string Jr,.slice LZ La Lc,.I Ld,.I Lf,.I Lg,.slice Lh Li Lj,.bool NY,.I Lk],.slice AKx AKy AKz] Z22 R (CS λpF n50 pG y=>AG 107 #[.slice pF n50 pG] y R (CT λs54 AE=>AI prog (Instr.lookup 291 (.map m12) (.string s54) true) AE (λz AK=>∃AQ0 AQ1 AQ2 AHc AQ3,z=(.tuple #[.agg #[.slice AQ0 AQ1 AQ2,.U AHc],.bool AQ3])/\∀cD:Nat,Bn AQ3 (SI R IV IW Jr LZ La Lc Ld Lf Lg Lh Li Lj NY Lk FH FT G3 G4 G5 G6 G7 G8 m12 Ka n14 JR (aD ad xu) n41 mc jq mj AK) (AG 168 #[.agg #[.I IV,.I IW,.string Jr,.slice LZ La Lc,.I Ld,.I Lf,.I Lg,.slice Lh Li Lj,.bool NY,.I Lk],.U AK0,.U AHc] AK R (λz Ai=>∃AK1 AQ4,z=(.tuple #[.U AK1,.bool AQ4])/\AG 116 #[.I IW] Ai R (CB λt72 CC=>Bn t72 (Al CC λG=>AI prog (G1 105 Ka n14 JR G) (Hp.set CC G (.cells #[.slice pF n50 pG,.U AK1] 109 (0,0))) (CS λp83 n83 c83 G2=>SI R IV IW Jr LZ La Lc Ld Lf Lg Lh Li Lj NY Lk FH FT G3 G4 G5 G6 G7 G8 m12 p83 n83 c83 (aD ad xu) n41 mc jq mj G2)) (Bo NY (Al CC λG=>AI prog (G1 105 Ka n14 JR G) (Hp.set CC G (.cells #[.slice pF n50 pG,.U AK1] 109 (0,0))) (CS λp83 n83 c83 G2=>SI R IV IW Jr LZ La Lc Ld Lf Lg Lh Li Lj true Lk FH FT G3 G4 G5 G6 G7 G8 m12 p83 n83 c83 (aD ad xu) n41 mc jq mj G2)) (Bo AQ4 (Al CC λb88=>AI prog (G1 105 Ka n14 JR b88) (Hp.set CC b88 (.cells #[.slice AKx AKy AKz,.U AK0] 109 (0,0))) (CS λp89 n89 c89 G2=>SI R IV IW Jr LZ La Lc Ld Lf Lg Lh Li Lj false Lk FH FT G3 G4 G5 G6 G7 G8 m12 p89 n89 c89 (aD ad xu) n41 mc jq mj G2)) (SI R IV IW Jr LZ La Lc Ld Lf Lg Lh Li Lj false Lk FH FT G3 G4 G5 G6 G7 G8 m12 Ka n14 JR (aD ad xu) n41 mc jq mj CC)))))))))) (AG 160 #[.slice Ka n14 JR] Z22 R (λz y=>∃AHe AHf AHg AHh AHi AHj AHk AHl AQ8,z=(.tuple #[.agg #[.I AHe,.U AHf,.slice AHg AHh AHi,.slice AHj AHk AHl],.I AQ8])/\R (.T #[.agg #[.I AHe,.U AHf,.slice AHg AHh AHi,.slice AHj AHk AHl],.I AQ8]) y))):SH R IV IW Jr LZ La Lc Ld Lf Lg Lh Li Lj NY Lk FH FT G3 G4 G5 G6 G7 G8 m12 Ka n14 JR vF n41 mc jq mj Z22:=M.oO h ok rfl λ_ _=>by kernel_rfl
def fJ (h:AL (mj+1)/\SH R IV IW Jr LZ La Lc Ld Lf Lg Lh Li Lj NY Lk FH FT G3 G4 G5 G6 G7 G8 m12 Ka n14 JR vF n41 mc jq (mj+1) Z22):SI R IV IW Jr LZ La Lc Ld Lf Lg Lh Li Lj NY Lk FH FT G3 G4 G5 G6 G7 G8 m12 Ka n14 JR vF n41 mc jq mj Z22:=M.oO h ok rfl λ_ _=>by kernel_rfl
end BP
namespace Be
variable {q0:Option Addr}
def M:Fw:=⟨prog,175,f175,[98,100,218,219],[],false,[],[],[]⟩
def ok:M.Ok:=⟨.cons call98 (.cons call100 (.cons call218 (.cons call219 (AH.nil)))),mixed,func175,by kernel_rfl⟩
def start (h:AG 98 #[.pointer q0,.I 5,(.string (ByteArray.mk #[45]))] Z22 R (CB λt3 y=>Bn t3 (AG 218 #[.pointer q0] y R (λz G=>z=(.tuple #[])/\R (.T #[]) G)) (AG 219 #[.pointer q0,(.func (.func 175) #[.pointer q0] #[])] y R (λz G=>z=(.tuple #[])/\AG 100 #[.pointer q0,(.agg #[.I 7,.I 0,(.string (ByteArray.mk #[])),.N,.I 0,.I 0,.I 0,.N,.bool false,.I 1])] G R (λz AK=>z=(.tuple #[])/\R (.T #[]) AK))))):Spec prog 175 #[.pointer q0] Z22 R:=M.start h ok
end Be
namespace Qv
variable {DR DT x1:Int}
def M:Fw:=⟨prog,186,f186,[],[2],false,[],[],[]⟩
def ok:M.Ok:=⟨AH.nil,mixed,func186,by kernel_rfl⟩
def start (h:∀b2:Nat,Br (DR<=x1) (R (.returned (.I (-1))) Z22) (R (.returned (.I 1)) Z22)):Spec prog 186 #[.agg #[.I DR,.U DT],.I x1] Z22 R:=M.start h ok
end Qv
namespace DW
variable {f0:Fn}{a0 c0:Array Value}
def M:Fw:=⟨prog,194,f194,[],[],false,[],[],[]⟩
def ok:M.Ok:=⟨AH.nil,mixed,func194,by kernel_rfl⟩
def start (h:Al Z22 λb1=>R (.returned (.func (.func 233) #[] #[(.pointer (aD b1 0))])) (Hp.set Z22 b1 (.cells #[(Value.func f0 a0 c0)] 246 (0,0)))):Spec prog 194 #[(Value.func f0 a0 c0)] Z22 R:=M.DL h ok [(0,.o (.V (Value.func f0 a0 c0)))] rfl rfl (by kernel_rfl)
end DW
namespace Ev
variable {p0:Option Addr}{n0 c0:Nat}
def M:Fw:=⟨prog,195,f195,[196],[],false,[],[],[]⟩
def ok:M.Ok:=⟨.cons call196 (AH.nil),mixed,func195,by kernel_rfl⟩
def start (h:AL ((n0:Int)-1)/\Pq p0 λb7 G=>In (((n0:Int)-1)) (n0:Int)/\LI .u64 Z22 b7 (G+Int.toNat ((n0:Int)-1)*1) λx8=>AG 196 #[.U x8] Z22 R (CI .u64 λx9 y=>R (.returned (.U x9)) y)):Spec prog 195 #[.slice p0 n0 c0] Z22 R:=M.start h ok
end Ev
namespace I3
variable {DR DT VC QS JP MO jU oQ x2e x2f x2g x2j x11 x12:Int}{VD s2c:ByteArray}{cV Wd p1 p2d p2h Ro:Option Addr}{al cW Vh We n1 c1 n2d c2d n2h c2h n10 MK:Nat}{RO t2i:Bool}{m6:Option Nat}
def M:Fw:=⟨prog,216,f216,[107,217],[2,8],false,[(5,7,false)],[],[(232,[(1,wL),(2,.X 127 [.I .i64,.I .i64,.T,.L,.I .i64,.I .i64,.I .i64,.L,.B,.I .i64]),(6,wM),(10,wL),(11,wI),(12,wI)])]⟩
def ok:M.Ok:=⟨.cons call107 (.cons call217 (AH.nil)),mixed,func216,by kernel_rfl⟩
def A4:=M.pt 0
def start (h:∀b2:Nat,AI prog (Instr.makeMap 291 none) Z22 (λz y=>∃G,z=(.map (some G))/\A4 R p1 n1 c1 DR DT VD cV al cW VC QS JP Wd Vh We RO MO (some G) p1 n1 c1 (n1:Int) 0 y)):Spec prog 216 #[.agg #[.I DR,.I DT,.string VD,.slice cV al cW,.I VC,.I QS,.I JP,.slice Wd Vh We,.bool RO,.I MO],.slice p1 n1 c1] Z22 R:=M.start h ok
def AX (h:Br (x12<x11) (Pq Ro λHo Ji=>In x12 (n10:Int)/\∃G AK3 AK4 ov,A2 Z22 Ho (Ji+x12.toNat*2) [.slice G AK3 AK4,.U ov]/\∀b8:Nat,AG 217 #[.agg #[.I jU,.I oQ,.string s2c,.slice p2d n2d c2d,.I x2e,.I x2f,.I x2g,.slice p2h n2h c2h,.bool t2i,.I x2j],.slice G AK3 AK4] Z22 R (CS λUR n20 R9 y=>AG 107 #[.slice UR n20 R9] y R (CT λs21 AE=>AI prog (Instr.mapUpdate 291 (.map m6) (.string s21) (.agg #[.slice G AK3 AK4,.U ov])) AE (λ_ AK=>AL (x12+1)/\A4 R p1 n1 c1 jU oQ s2c p2d n2d c2d x2e x2f x2g p2h n2h c2h t2i x2j m6 (aD Ho Ji) n10 MK x11 (x12+1) AK)))) (∃au,YF prog (Builtin.len_ #[291] 3 #[.map m6]) Z22 (.I au)/\R (.T #[.map m6,(.bool (decide (au=(n1:Int))))]) Z22)):A4 R p1 n1 c1 jU oQ s2c p2d n2d c2d x2e x2f x2g p2h n2h c2h t2i x2j m6 Ro n10 MK x11 x12 Z22:=M.WQ h ok rfl λ_=>by kernel_rfl
end I3
namespace Xh
variable {p0:Option Addr}{n0 c0:Nat}
def M:Fw:=⟨prog,234,f234,[183,252,253],[],false,[],[],[]⟩
def ok:M.Ok:=⟨.cons call183 (.cons call252 (.cons call253 (AH.nil))),mixed,func234,by kernel_rfl⟩
def start (h:AG 252 #[(.I (n0:Int))] Z22 R (CB λt7 y=>Bn t7 (R (.T #[.U 0,.I 210]) y) ((n0:Int)≠(0:Int)/\Df (Int.tmod 1 (n0:Int)) λx12=>AG 253 #[.slice p0 n0 c0,.I x12] y R (λz AE=>∃GB G,(Value.complex .f64 GB G)=z/\∃x15,YF prog (Builtin.real_ #[319] 258 #[(Value.complex .f64 GB G)]) AE (Value.float .f64 x15)/\∃x17,YF prog (Builtin.real_ #[319] 258 #[(Value.complex .f64 GB G)]) AE (Value.float .f64 x17)/\AI prog (binOp .mul 258 (Value.float .f64 x15) (Value.float .f64 x17)) AE (λz AK=>∃MN,(Value.float .f64 MN)=z/\∃Il,YF prog (Builtin.imag_ #[319] 258 #[(Value.complex .f64 GB G)]) AK (Value.float .f64 Il)/\∃FV,YF prog (Builtin.imag_ #[319] 258 #[(Value.complex .f64 GB G)]) AK (Value.float .f64 FV)/\AI prog (binOp .mul 258 (Value.float .f64 Il) (Value.float .f64 FV)) AK (λz Ai=>∃GL,(Value.float .f64 GL)=z/\AI prog (binOp .add 258 (Value.float .f64 MN) (Value.float .f64 GL)) Ai (λz CC=>∃P0,(Value.float .f64 P0)=z/\AG 183 #[(Value.float .f64 P0)] CC R (CI .u64 λml G2=>R (.T #[.U ml,.I 0]) G2)))))))):Spec prog 234 #[.slice p0 n0 c0] Z22 R:=M.start h ok
end Xh
namespace Ea
variable {iE yG:Option Addr}{R8 cG va yH:Nat}{s1:ByteArray}{x65 x66:Int}
def M:Fw:=⟨prog,272,f272,[275,296,297],[2],false,[(1,14,true)],[],[(2024,[(1,wT),(64,wL),(65,wI),(66,wI)])]⟩
def ok:M.Ok:=⟨.cons call275 (.cons call296 (.cons call297 (AH.nil))),mixed,func272,by kernel_rfl⟩
def HQ:=M.pt 0
def start (h:∀b2:Nat,Pq iE λHV Jn=>In 0 (R8:Int)/\LT Z22 HV Jn λG=>AL ((R8:Int)-1)/\In (((R8:Int)-1)) (R8:Int)/\LT Z22 HV (Jn+Int.toNat ((R8:Int)-1)*1) λs21=>Br ((R8:Int)=1) (R (.returned (.bool (ByteArray.toList s1==ByteArray.toList G))) Z22) (AL ((G.size:Int)+(s21.size:Int))/\Br (((s1.size:Int):Int)<((G.size:Int)+(s21.size:Int))) (R (.B false) Z22) (AG 296 #[.string s1,.string G] Z22 R (CB λt40 y=>Bn t40 (R (.B false) y) (AG 297 #[.string s1,.string s21] y R (CB λt46 AE=>Bn t46 (R (.B false) AE) (AL ((s1.size:Int)-(s21.size:Int))/\∃s57,YF prog (Instr.sliceAt 9 (.string s1) (some (.I (G.size:Int))) (some (.I ((s1.size:Int)-(s21.size:Int)))) none) AE (.string s57)/\AL ((R8:Int)-1)/\((0:Int)<=1/\1<=((R8:Int)-1)/\((R8:Int)-1)<=(cG:Int))/\HQ R s57 ((Ee (aD HV Jn) (1) cG 1)) ((Int.toNat ((R8:Int)-1)-1)) (cG-1) ((((Int.toNat ((R8:Int)-1)-1):Nat):Int)) 0 AE))))))):Spec prog 272 #[.agg #[.slice iE R8 cG],.string s1] Z22 R:=M.start h ok
def DZ (h:Br (x66<x65) (Pq yG λb68 o68=>In x66 (va:Int)/\LT Z22 b68 (o68+x66.toNat*1) λG=>AG 275 #[.string s1,.string G] Z22 R (CI .i64 λx72 y=>Br (x72<0) (R (.B false) y) (AL (x72+(G.size:Int))/\∃s80,YF prog (Instr.sliceAt 9 (.string s1) (some (.I (x72+(G.size:Int)))) none none) y (.string s80)/\AL (x66+1)/\HQ R s80 (aD b68 o68) va yH x65 (x66+1) y))) (R (.B true) Z22)):HQ R s1 yG va yH x65 x66 Z22:=M.of h ok rfl
end Ea
end TwW
end
end
section
set_option maxRecDepth 100000
noncomputable section
namespace TwW
open Go Tw Go.Proofs.Tryz
variable [GO]{R:Rr}{Z22:Hp}

namespace GG
variable {DR Cm x2:Int}{p0b p1b:Option Addr}{n0b c0b n1b c1b:Nat}
def M:Fw:=⟨prog,7,f7,[],[0,1],false,[],[],[(464,[(0,.X 30 [.I .u64,.L]),(1,.X 30 [.I .u64,.L]),(2,wI)])]⟩
def ok:M.Ok:=⟨AH.nil,mixed,func7,by kernel_rfl⟩
def CD:=M.pt 0
def start (h:∀b0:Nat,∀b1:Nat,CD R 0 none 0 0 0 none 0 0 0 Z22):Spec prog 7 #[] Z22 R:=M.start h ok
def A5 (h:Br (x2<3) (Al Z22 λDk=>Al (Hp.set Z22 Dk (.cells #[.int .u32 7] 52 (0,0))) λG=>AI prog (G1 28 p1b n1b c1b G) (Hp.set (Hp.set Z22 Dk (.cells #[.int .u32 7] 52 (0,0))) G (.cells #[.I x2,.I 2,(.slice (aD Dk 0) 1 1)] 55 (0,0))) (CS λvL n13 yA y=>AL (x2+1)/\CD R DR p0b n0b c0b Cm vL n13 yA (x2+1) y)) (R (.returned (.agg #[.U Cm,.slice p1b n1b c1b])) Z22)):CD R DR p0b n0b c0b Cm p1b n1b c1b x2 Z22:=M.oO h ok rfl λ_ _=>by kernel_rfl
end GG
namespace F0
variable {q0 p2:Option Addr}{x1:Int}{n2 c2:Nat}
def M:Fw:=⟨prog,11,f11,[10],[],false,[],[],[]⟩
def ok:M.Ok:=⟨.cons call10 (AH.nil),mixed,func11,by kernel_rfl⟩
def start (h:Pq q0 λH8 U4=>LM Z22 H8 (U4+4) λm15=>AI prog (Instr.lookup 69 (.map m15) (.I x1) true) Z22 (λz y=>∃Tm AAX,z=(.tuple #[.I Tm,.bool AAX])/\Bn AAX (R (.returned (.I 270)) y) (LS y H8 (U4+11) λai n26 aj=>Al y λb28=>AG 10 #[(.slice (aD b28 0) 2 2)] (Hp.set y b28 (.cells #[.slice ai n26 aj,.slice p2 n2 c2] 22 (0,0))) R (λz AE=>∃ARD ARE ARF G,z=(.tuple #[.slice ARD ARE ARF,.I G])/\Br (G≠0) (R (.returned (.I G)) AE) (LM AE H8 (U4+4) λm38=>AI prog (Instr.lookup 69 (.map m38) (.I x1) false) AE (CI .i64 λjS AK=>AL (jS+1)/\AI prog (Instr.mapUpdate 69 (.map m38) (.I x1) (.I (jS+1))) AK (λ_ Ai=>AI prog (Instr.storeAt 22 (.pointer (aD H8 (U4+11))) (.slice ARD ARE ARF)) Ai (λ_ CC=>R (.returned (.I 0)) CC)))))))):Spec prog 11 #[.pointer q0,.I x1,.slice p2 n2 c2] Z22 R:=M.start h ok
end F0
namespace Ew
variable {p0 p1 Mu zY:Option Addr}{n0 c0 n1 c1 n11 Mv n33 xr:Nat}{x2 zZ TV:Int}
def M:Fw:=⟨prog,15,f15,[44,45,46],[13],false,[],[],[(4072,[(2,wI),(11,wL),(33,wL),(34,wI),(35,wI)])]⟩
def ok:M.Ok:=⟨.cons call44 (.cons call45 (.cons call46 (AH.nil))),mixed,func15,by kernel_rfl⟩
def PF:=M.pt 0
def start (h:AG 44 #[.slice p0 n0 c0,.slice p1 n1 c1] Z22 R (CI .i64 λx16 y=>Br (x16≠0) (R (.T #[.N,.I x16]) y) (AG 45 #[.I x2] y R (CB λt21 AE=>Bn t21 (R (.T #[.N,.I 221]) AE) (AG 46 #[.slice p0 n0 c0,.slice p1 n1 c1,.I x2] AE R (λz AK=>∃RP G RQ jz,z=(.tuple #[.slice RP G RQ,.I jz])/\Br (jz≠0) (R (.T #[.N,.I jz]) AK) (PF R x2 none 0 0 RP G RQ (G:Int) 0 AK))))))):Spec prog 15 #[.slice p0 n0 c0,.slice p1 n1 c1,.I x2] Z22 R:=M.start h ok
def Ll (h:Br (TV<zZ) (Pq zY λza zb=>In TV (n33:Int)/\∃AEt AEu AEv JX,A2 Z22 za (zb+TV.toNat*2) [.slice AEt AEu AEv,.U JX]/\∀H8:Nat,(Al Z22 λaZ=>(AI prog (Builtin.append_ #[95,95] 95 #[(.slice (aD aZ 0) 0 0),.slice AEt AEu AEv]) (Hp.set Z22 aZ (.cells #[] 144 (0,0))) (CS λyE n43 yF y=>Al y λVE=>Al (Hp.set y VE (.cells #[.I x2,.U JX] 111 (0,0))) λfF=>AI prog (G1 22 Mu n11 Mv fF) (Hp.set (Hp.set y VE (.cells #[.I x2,.U JX] 111 (0,0))) fF (.cells #[.slice yE n43 yF,(.slice (aD VE 0) 1 1)] 98 (0,0))) (CS λp51 n51 G AE=>AL (TV+1)/\PF R x2 p51 n51 G (aD za zb) n33 xr zZ (TV+1) AE)))/\(Al (Hp.set Z22 aZ (.cells #[] 144 (0,0))) λVE=>AI prog (Builtin.append_ #[95,95] 95 #[(.slice (aD aZ 0) 0 0),.slice AEt AEu AEv]) (Hp.set (Hp.set Z22 aZ (.cells #[] 144 (0,0))) VE (.cells #[.I x2,.U JX] 111 (0,0))) (CS λyE n43 yF y=>Al y λfF=>AI prog (G1 22 Mu n11 Mv fF) (Hp.set y fF (.cells #[.slice yE n43 yF,(.slice (aD VE 0) 1 1)] 98 (0,0))) (CS λp51 n51 G AE=>AL (TV+1)/\PF R x2 p51 n51 G (aD za zb) n33 xr zZ (TV+1) AE))))/\(Al Z22 λVE=>Al (Hp.set Z22 VE (.cells #[.I x2,.U JX] 111 (0,0))) λaZ=>AI prog (Builtin.append_ #[95,95] 95 #[(.slice (aD aZ 0) 0 0),.slice AEt AEu AEv]) (Hp.set (Hp.set Z22 VE (.cells #[.I x2,.U JX] 111 (0,0))) aZ (.cells #[] 144 (0,0))) (CS λyE n43 yF y=>Al y λfF=>AI prog (G1 22 Mu n11 Mv fF) (Hp.set y fF (.cells #[.slice yE n43 yF,(.slice (aD VE 0) 1 1)] 98 (0,0))) (CS λp51 n51 G AE=>AL (TV+1)/\PF R x2 p51 n51 G (aD za zb) n33 xr zZ (TV+1) AE)))) (R (.T #[.slice Mu n11 Mv,.I 0]) Z22)):PF R x2 Mu n11 Mv zY n33 xr zZ TV Z22:=M.of h ok rfl
end Ew
namespace C2
variable {p0 q5 Mu:Option Addr}{n0 c0 n11 Mv:Nat}{x12 GB:Int}
def M:Fw:=⟨prog,24,f24,[54],[7],false,[],[],[(232,[(0,wL),(5,wQ),(11,wL),(12,wI),(13,wI)])]⟩
def ok:M.Ok:=⟨.cons call54 (AH.nil),mixed,func24,by kernel_rfl⟩
def A4:=M.pt 0
def start (h:Al Z22 λDk=>A4 R p0 n0 c0 (aD Dk 0) p0 n0 c0 (n0:Int) 0 (Hp.set Z22 Dk (.cells #[.N] 124 (0,0)))):Spec prog 24 #[.slice p0 n0 c0] Z22 R:=M.start h ok
def AX (h:Br (GB<x12) (Pq Mu λUO eZ=>In GB (n11:Int)/\∃Tm jx G vX vY vZ ARG ARH ARI ARJ ARK ARL ARM ARN,A2 Z22 UO (eZ+GB.toNat*10) [.I Tm,.I jx,.string G,.slice vX vY vZ,.I ARG,.I ARH,.I ARI,.slice ARJ ARK ARL,.bool ARM,.I ARN]/\∀b7:Nat,AG 54 #[.pointer q5,.agg #[.I Tm,.I jx,.string G,.slice vX vY vZ,.I ARG,.I ARH,.I ARI,.slice ARJ ARK ARL,.bool ARM,.I ARN]] Z22 R (CI .i64 λIl y=>Br (Il≠0) (R (.T #[.I 0,.I GB,.I Il]) y) (AL (GB+1)/\A4 R p0 n0 c0 q5 (aD UO eZ) n11 Mv x12 (GB+1) y))) (Pq q5 λb27 o27=>LS Z22 b27 o27 λp29 n29 c29=>Br ((n29:Int)≠1) (R (.T #[.I 0,(.I (n0:Int)),.I 190]) Z22) (Br (4096<(n0:Int)) (R (.T #[.I 0,(.I (n0:Int)),.I 190]) Z22) (LS Z22 b27 o27 λp42 n42 c42=>Pq p42 λsP o43=>In 0 (n42:Int)/\LI .i64 Z22 sP o43 λx45=>R (.T #[.I x45,.I 0,.I 0]) Z22)))):A4 R p0 n0 c0 q5 Mu n11 Mv x12 GB Z22:=M.of h ok rfl
end C2
namespace Xi
def M:Fw:=⟨prog,34,f34,[],[],false,[],[],[]⟩
def ok:M.Ok:=⟨AH.nil,mixed,func34,by kernel_rfl⟩
def start (h:Al Z22 λb2=>Al (Hp.set Z22 b2 (.cells #[(.string (ByteArray.mk #[95,95,110,97,109,101,95,95])),(.string (ByteArray.mk #[120]))] 144 (0,0))) λG=>Al (Hp.set (Hp.set Z22 b2 (.cells #[(.string (ByteArray.mk #[95,95,110,97,109,101,95,95])),(.string (ByteArray.mk #[120]))] 144 (0,0))) G (.cells #[.I 60,.U 5] 111 (0,0))) λb6=>R (.returned (.slice (aD b6 0) 1 1)) (Hp.set (Hp.set (Hp.set Z22 b2 (.cells #[(.string (ByteArray.mk #[95,95,110,97,109,101,95,95])),(.string (ByteArray.mk #[120]))] 144 (0,0))) G (.cells #[.I 60,.U 5] 111 (0,0))) b6 (.cells #[(.slice (aD b2 0) 1 1),(.slice (aD G 0) 1 1)] 98 (0,0)))):Spec prog 34 #[] Z22 R:=M.start h ok
end Xi
namespace An
variable {q0 p7:Option Addr}{n7 c7:Nat}{x8:Int}
def M:Fw:=⟨prog,43,f43,[15,21,77,78],[],false,[(11,9,true)],[],[(508,[(0,wQ),(7,wL),(8,wI)])]⟩
def ok:M.Ok:=⟨.cons call15 (.cons call21 (.cons call77 (.cons call78 (AH.nil)))),mixed,func43,by kernel_rfl⟩
def Iy:=M.pt 0
def start (h:AG 21 #[.pointer q0] Z22 R (CS λRo n10 MK y=>Br (0<(n10:Int)) (R (.T #[.N,.I 0,.I 272]) y) (Pq q0 λG jc=>LS y G (jc+11) λsE n17 cR=>LI .i64 y G ((jc+7)+1) λFV=>AG 77 #[.slice sE n17 cR,.I FV,.I 4611686018427387904] y R (λz AE=>∃vU vV vW jn,z=(.tuple #[.slice vU vV vW,.I jn])/\LI .i64 AE G (jc+3) λey=>Br (ey=0) (LS AE G jc λzh n35 oR=>LI .i64 AE G (jc+1) λjS=>AG 15 #[.slice zh n35 oR,.slice vU vV vW,.I jS] AE R (λz AK=>∃ARO ARP ARQ ARR,z=(.tuple #[.slice ARO ARP ARQ,.I ARR])/\Iy R (aD G jc) ARO ARP ARQ ARR AK)) (LS AE G jc λp48 n48 c48=>LI .i64 AE G (jc+1) λx53=>LI .i64 AE G (jc+2) λx57=>LI .i64 AE G (jc+3) λx61=>AG 78 #[.slice p48 n48 c48,.slice vU vV vW,.I x53,.I x57,.I x61] AE R (λz AK=>∃ARS ART ARU ARV,z=(.tuple #[.slice ARS ART ARU,.I ARV])/\Iy R (aD G jc) ARS ART ARU ARV AK)))))):Spec prog 43 #[.pointer q0] Z22 R:=M.start h ok
def Em (h:Br (x8≠0) (R (.T #[.N,.I 0,.I x8]) Z22) (Pq q0 λG o70=>LI .i64 Z22 G ((o70+7)+1) λx73=>R (.T #[.slice p7 n7 c7,.I x73,.I 0]) Z22)):Iy R q0 p7 n7 c7 x8 Z22:=M.of h ok rfl
end An
namespace MQ
variable {q0 FC FP:Option Addr}{Cm CN E8 EK Dg Dj:Int}{E9:ByteArray}{FD FE FG FQ:Nat}{EU:Bool}
def M:Fw:=⟨prog,54,f54,[85,86,87],[3],false,[(6,9,true)],[],[]⟩
def ok:M.Ok:=⟨.cons call85 (.cons call86 (.cons call87 (AH.nil))),mixed,func54,by kernel_rfl⟩
def start (h:∀b3:Nat,AG 85 #[.agg #[.I Cm,.I CN,.string E9,.slice FC FD FE,.I E8,.I EK,.I Dg,.slice FP FG FQ,.bool EU,.I Dj]] Z22 R (CB λt10 y=>Bn t10 (R (.returned (.I 190)) y) (Pq q0 λUO eZ=>LS y UO eZ λzc n18 xv=>Br ((n18:Int)<Dj) (R (.returned (.I 190)) y) (AG 86 #[.slice FC FD FE] y R (CI .i64 λP0 AE=>Br (P0≠0) (R (.returned (.I 193)) AE) (AI prog (Instr.makeMap 179 none) AE (λz AK=>∃G,z=(.map (some G))/\AG 87 #[.I 1] AK R (λz Ai=>∃f27 a27 yB,(Value.func f27 a27 yB)=z/\AI prog (Instr.mapUpdate 179 (.map (some G)) (.I 1) (Value.func f27 a27 yB)) Ai (λ_ CC=>AG 87 #[.I 2] CC R (λz G2=>∃f28 a28 c28,(Value.func f28 a28 c28)=z/\AI prog (Instr.mapUpdate 179 (.map (some G)) (.I 2) (Value.func f28 a28 c28)) G2 (λ_ ET=>AG 87 #[.I 3] ET R (λz R7=>∃f29 a29 c29,(Value.func f29 a29 c29)=z/\AI prog (Instr.mapUpdate 179 (.map (some G)) (.I 3) (Value.func f29 a29 c29)) R7 (λ_ TW=>AI prog (Instr.mapUpdate 179 (.map (some G)) (.I 4) (.func (.func 88) #[(.pointer (aD UO eZ))] #[])) TW (λ_ H7=>AI prog (Instr.mapUpdate 179 (.map (some G)) (.I 5) (.func (.func 89) #[(.pointer (aD UO eZ))] #[])) H7 (λ_ TY=>AI prog (Instr.mapUpdate 179 (.map (some G)) (.I 6) (.func (.func 90) #[(.pointer (aD UO eZ))] #[])) TY (λ_ U3=>AI prog (Instr.mapUpdate 179 (.map (some G)) (.I 7) (.func (.func 91) #[(.pointer (aD UO eZ))] #[])) U3 (λ_ TZ=>LS TZ UO eZ λp42 n42 c42=>AL ((n42:Int)-Dj)/\LS TZ UO eZ λp56 n56 c56=>((0:Int)<=((n42:Int)-Dj)/\((n42:Int)-Dj)<=(n56:Int))/\AI prog (Instr.lookup 179 (.map (some G)) (.I Cm) false) TZ (λz u4=>∃v51,v51=z/\Kp [UO] TZ u4/\∃(f59:Nat) (AHm AHn:Array Value),v51=.func (.func f59) AHm AHn/\Enters prog f59/\Spec prog f59 (AHm++#[.agg #[.I Cm,.I CN,.string E9,.slice FC FD FE,.I E8,.I EK,.I Dg,.slice FP FG FQ,.bool EU,.I Dj],(.slice (Ee p56 (Int.toNat ((n42:Int)-Dj)) c56 1) (n56-Int.toNat ((n42:Int)-Dj)) (c56-Int.toNat ((n42:Int)-Dj)))]++AHn) u4 (AY R (λz WS=>∃Wi I2,z=(.tuple #[.I Wi,.I I2])/\LS WS UO eZ λp66 n66 sQ=>((0:Int)<=((n42:Int)-Dj)/\((n42:Int)-Dj)<=(sQ:Int))/\Al WS λb71=>AI prog (Builtin.append_ #[122,122] 122 #[(.slice p66 (Int.toNat ((n42:Int)-Dj)) sQ),(.slice (aD b71 0) 1 1)]) (Hp.set WS b71 (.cells #[.I Wi] 130 (0,0))) (CS λp72 n72 c72 AAd=>AI prog (Instr.storeAt 122 (.pointer (aD UO eZ)) (.slice p72 n72 c72)) AAd (λ_ AAe=>R (.returned (.I I2)) AAe)))))))))))))))))))))):Spec prog 54 #[.pointer q0,.agg #[.I Cm,.I CN,.string E9,.slice FC FD FE,.I E8,.I EK,.I Dg,.slice FP FG FQ,.bool EU,.I Dj]] Z22 R:=M.start h ok
end MQ
namespace sR
variable {x0:Int}
def M:Fw:=⟨prog,55,f55,[],[],false,[],[],[]⟩
def ok:M.Ok:=⟨AH.nil,mixed,func55,by kernel_rfl⟩
def start (h:Br (0<=x0) (R (.returned (.bool (decide (x0<16)))) Z22) (R (.B false) Z22)):Spec prog 55 #[.I x0] Z22 R:=M.start h ok
end sR
namespace Xj
variable {x0:Int}
def M:Fw:=⟨prog,59,f59,[],[],false,[],[],[]⟩
def ok:M.Ok:=⟨AH.nil,mixed,func59,by kernel_rfl⟩
def start (h:Br (97<=x0) (Br (x0<=122) (R (.B true) Z22) (Br (65<=x0) (Br (x0<=90) (R (.B true) Z22) (Br (x0=95) (R (.B true) Z22) (R (.returned (.bool (decide (x0=58)))) Z22))) (Br (x0=95) (R (.B true) Z22) (R (.returned (.bool (decide (x0=58)))) Z22)))) (Br (65<=x0) (Br (x0<=90) (R (.B true) Z22) (Br (x0=95) (R (.B true) Z22) (R (.returned (.bool (decide (x0=58)))) Z22))) (Br (x0=95) (R (.B true) Z22) (R (.returned (.bool (decide (x0=58)))) Z22)))):Spec prog 59 #[.int .u8 x0] Z22 R:=M.start h ok
end Xj
namespace Ex
variable {q0:Option Addr}
def M:Fw:=⟨prog,64,f64,[63],[],false,[],[],[]⟩
def ok:M.Ok:=⟨.cons call63 (AH.nil),mixed,func64,by kernel_rfl⟩
def start (h:AG 63 #[.pointer q0,(.func (.func 101) #[.pointer q0] #[]),.I 11,.I 13] Z22 R (λz y=>z=(.tuple #[])/\R (.T #[]) y)):Spec prog 64 #[.pointer q0] Z22 R:=M.start h ok
end Ex
namespace BV
variable {DR DT x0c x0d QS JP Cm CN x1c x1d EK Dg Vd x15 MP ey:Int}{p0e p1e vL p27:Option Addr}{n0e c0e n1e c1e n13 yA n27 yB:Nat}
def M:Fw:=⟨prog,76,f76,[],[1],false,[],[],[(104,[(1,.X 89 [.I .u64,.I .i64,.I .i64,.I .i64,.L,.I .i64,.I .i64]),(13,wL),(14,wI),(15,wI)]),(232,[(1,.X 89 [.I .u64,.I .i64,.I .i64,.I .i64,.L,.I .i64,.I .i64]),(27,wL),(28,wI),(29,wI)])]⟩
def ok:M.Ok:=⟨AH.nil,mixed,func76,by kernel_rfl⟩
def Gf:=M.pt 0
def Fv:=M.pt 1
def start (h:∀b1:Nat,Al Z22 λH8=>Gf R DR DT x0c x0d p0e n0e c0e QS JP (aD H8 0) 3 3 3 0 (Hp.set Z22 H8 (.cells #[.I x0d,.I QS,.I JP] 3 (0,0)))):Spec prog 76 #[.agg #[.U DR,.I DT,.I x0c,.I x0d,.slice p0e n0e c0e,.I QS,.I JP]] Z22 R:=M.start h ok
def A0 (h:Br (x15<Vd) (Pq vL λG vN=>In x15 (n13:Int)/\LI .i64 Z22 G (vN+x15.toNat*1) λMN=>Br (MN<0) (R (.B false) Z22) (Br (2147483647<MN) (R (.B false) Z22) (AL (x15+1)/\Gf R Cm CN x1c x1d p1e n1e c1e EK Dg (aD G vN) n13 yA Vd (x15+1) Z22))) (Fv R Cm CN x1c x1d p1e n1e c1e EK Dg p1e n1e c1e (n1e:Int) 0 Z22)):Gf R Cm CN x1c x1d p1e n1e c1e EK Dg vL n13 yA Vd x15 Z22:=M.WQ h ok rfl λ_=>by kernel_rfl
def Fm (h:Br (ey<MP) (Pq p27 λzl G=>In ey (n27:Int)/\LI .u64 Z22 zl (G+ey.toNat*1) λx33=>Br (0<ey) (AL (ey-1)/\Pq p1e λb42 o42=>In (ey-1) (n1e:Int)/\LI .u64 Z22 b42 (o42+Int.toNat (ey-1)*1) λmj=>Br (x33<=mj) (R (.B false) Z22) (AL (ey+1)/\Fv R Cm CN x1c x1d (aD b42 o42) n1e c1e EK Dg (aD zl G) n27 yB MP (ey+1) Z22)) (AL (ey+1)/\Fv R Cm CN x1c x1d p1e n1e c1e EK Dg (aD zl G) n27 yB MP (ey+1) Z22)) (Br (CN<=x1c) (R (.returned (.bool (decide ((n1e:Int)<=64)))) Z22) (R (.B false) Z22))):Fv R Cm CN x1c x1d p1e n1e c1e EK Dg p27 n27 yB MP ey Z22:=M.WQ h ok rfl λ_=>by kernel_rfl
end BV
namespace DM
variable {q0 p1 p4c Ii p6 p7 Ka:Option Addr}{n1 c1 n4c c4c Ij Ik n6 c6 n7 c7 n14 JR:Nat}{GC Hq x15 x16:Int}
def M:Fw:=⟨prog,79,f79,[110],[4,9],false,[],[],[(488,[(0,wQ),(4,.X 164 [.I .i64,.I .u64,.L,.L]),(6,wL),(7,wL),(14,wL),(15,wI),(16,wI)])]⟩
def ok:M.Ok:=⟨.cons call110 (AH.nil),mixed,func79,by kernel_rfl⟩
def Dp:=M.pt 0
def start (h:∀G:Nat,AG 110 #[] Z22 R (CS λvL n13 yA y=>Dp R q0 0 0 none 0 0 none 0 0 vL n13 yA none 0 0 p1 n1 c1 (n1:Int) 0 y)):Spec prog 79 #[.pointer q0,.slice p1 n1 c1] Z22 R:=M.start h ok
def Bp (h:Br (x16<x15) (Pq Ka λcD ou=>In x16 (n14:Int)/\∃J8 KZ VH AAf AAg AAh AAi AAj AAk AAl AAm AAn AAo G,A2 Z22 cD (ou+x16.toNat*10) [.I J8,.I KZ,.string VH,.slice AAf AAg AAh,.I AAi,.I AAj,.I AAk,.slice AAl AAm AAn,.bool AAo,.I G]/\∀b9:Nat,AL ((n7:Int)-G)/\Pq p6 λS8 cL=>In J8 (n6:Int)/\∃v30,Hp.ld Z22 ⟨S8,(cL+J8.toNat*1),none⟩=some v30/\((0:Int)<=((n7:Int)-G)/\((n7:Int)-G)<=(n7:Int))/\(Al Z22 λU5=>(AI prog (Builtin.append_ #[206,206] 206 #[(.slice (aD U5 0) 0 0),(.slice (Ee p7 (Int.toNat ((n7:Int)-G)) c7 4) (n7-Int.toNat ((n7:Int)-G)) (c7-Int.toNat ((n7:Int)-G)))]) (Hp.set Z22 U5 (.cells #[] 164 (0,0))) (CS λU6 n37 U7 y=>Kp [S8] (Hp.set Z22 U5 (.cells #[] 164 (0,0))) y/\(∃(f38:Nat) (Jo Jp:Array Value),v30=.func (.func f38) Jo Jp/\Enters prog f38/\Spec prog f38 (Jo++#[.pointer q0,.agg #[.I J8,.I KZ,.string VH,.slice AAf AAg AAh,.I AAi,.I AAj,.I AAk,.slice AAl AAm AAn,.bool AAo,.I G],.slice U6 n37 U7]++Jp) y (AY R (λz AE=>∃PH PI PJ PK PL PM PN PO JX,z=(.tuple #[.agg #[.I PH,.U PI,.slice PJ PK PL,.slice PM PN PO],.I JX])/\Al AE λE4=>AI prog (Instr.storeAt 164 (.pointer (aD E4 0)) (.agg #[.I PH,.U PI,.slice PJ PK PL,.slice PM PN PO])) (Hp.set AE E4 (.cells #[.I 0,.U 0,.N,.N] 164 (0,0))) (λ_ AK=>Br (JX≠0) (R (.T #[.agg #[.I 0,.U 0,.N,.N],.I JX]) AK) (((0:Int)<=((n7:Int)-G)/\((n7:Int)-G)<=(c7:Int))/\∃SJ SK SL SM SN SO SP SQ,A2 AK E4 0 [.I SJ,.U SK,.slice SL SM SN,.slice SO SP SQ]/\Al AK λcY=>AI prog (Builtin.append_ #[206,206] 206 #[(.slice p7 (Int.toNat ((n7:Int)-G)) c7),(.slice (aD cY 0) 1 1)]) (Hp.set AK cY (.cells #[.I SJ,.U SK,.slice SL SM SN,.slice SO SP SQ] 164 (0,0))) (CS λpF n50 pG Ai=>AL (x16+1)/\Dp R q0 GC Hq p4c n4c c4c Ii Ij Ik (aD S8 cL) n6 c6 pF n50 pG (aD cD ou) n14 JR x15 (x16+1) Ai))))))/\(Al y λE4=>∃(f38:Nat) (Jo Jp:Array Value),v30=.func (.func f38) Jo Jp/\Enters prog f38/\Spec prog f38 (Jo++#[.pointer q0,.agg #[.I J8,.I KZ,.string VH,.slice AAf AAg AAh,.I AAi,.I AAj,.I AAk,.slice AAl AAm AAn,.bool AAo,.I G],.slice U6 n37 U7]++Jp) (Hp.set y E4 (.cells #[.I 0,.U 0,.N,.N] 164 (0,0))) (AY R (λz AE=>∃PH PI PJ PK PL PM PN PO JX,z=(.tuple #[.agg #[.I PH,.U PI,.slice PJ PK PL,.slice PM PN PO],.I JX])/\AI prog (Instr.storeAt 164 (.pointer (aD E4 0)) (.agg #[.I PH,.U PI,.slice PJ PK PL,.slice PM PN PO])) AE (λ_ AK=>Br (JX≠0) (R (.T #[.agg #[.I 0,.U 0,.N,.N],.I JX]) AK) (((0:Int)<=((n7:Int)-G)/\((n7:Int)-G)<=(c7:Int))/\∃SJ SK SL SM SN SO SP SQ,A2 AK E4 0 [.I SJ,.U SK,.slice SL SM SN,.slice SO SP SQ]/\Al AK λcY=>AI prog (Builtin.append_ #[206,206] 206 #[(.slice p7 (Int.toNat ((n7:Int)-G)) c7),(.slice (aD cY 0) 1 1)]) (Hp.set AK cY (.cells #[.I SJ,.U SK,.slice SL SM SN,.slice SO SP SQ] 164 (0,0))) (CS λpF n50 pG Ai=>AL (x16+1)/\Dp R q0 GC Hq p4c n4c c4c Ii Ij Ik (aD S8 cL) n6 c6 pF n50 pG (aD cD ou) n14 JR x15 (x16+1) Ai))))))))/\(Al (Hp.set Z22 U5 (.cells #[] 164 (0,0))) λE4=>AI prog (Builtin.append_ #[206,206] 206 #[(.slice (aD U5 0) 0 0),(.slice (Ee p7 (Int.toNat ((n7:Int)-G)) c7 4) (n7-Int.toNat ((n7:Int)-G)) (c7-Int.toNat ((n7:Int)-G)))]) (Hp.set (Hp.set Z22 U5 (.cells #[] 164 (0,0))) E4 (.cells #[.I 0,.U 0,.N,.N] 164 (0,0))) (CS λU6 n37 U7 y=>Kp [S8] (Hp.set (Hp.set Z22 U5 (.cells #[] 164 (0,0))) E4 (.cells #[.I 0,.U 0,.N,.N] 164 (0,0))) y/\∃(f38:Nat) (Jo Jp:Array Value),v30=.func (.func f38) Jo Jp/\Enters prog f38/\Spec prog f38 (Jo++#[.pointer q0,.agg #[.I J8,.I KZ,.string VH,.slice AAf AAg AAh,.I AAi,.I AAj,.I AAk,.slice AAl AAm AAn,.bool AAo,.I G],.slice U6 n37 U7]++Jp) y (AY R (λz AE=>∃PH PI PJ PK PL PM PN PO JX,z=(.tuple #[.agg #[.I PH,.U PI,.slice PJ PK PL,.slice PM PN PO],.I JX])/\AI prog (Instr.storeAt 164 (.pointer (aD E4 0)) (.agg #[.I PH,.U PI,.slice PJ PK PL,.slice PM PN PO])) AE (λ_ AK=>Br (JX≠0) (R (.T #[.agg #[.I 0,.U 0,.N,.N],.I JX]) AK) (((0:Int)<=((n7:Int)-G)/\((n7:Int)-G)<=(c7:Int))/\∃SJ SK SL SM SN SO SP SQ,A2 AK E4 0 [.I SJ,.U SK,.slice SL SM SN,.slice SO SP SQ]/\Al AK λcY=>AI prog (Builtin.append_ #[206,206] 206 #[(.slice p7 (Int.toNat ((n7:Int)-G)) c7),(.slice (aD cY 0) 1 1)]) (Hp.set AK cY (.cells #[.I SJ,.U SK,.slice SL SM SN,.slice SO SP SQ] 164 (0,0))) (CS λpF n50 pG Ai=>AL (x16+1)/\Dp R q0 GC Hq p4c n4c c4c Ii Ij Ik (aD S8 cL) n6 c6 pF n50 pG (aD cD ou) n14 JR x15 (x16+1) Ai))))))))/\(Al Z22 λE4=>Al (Hp.set Z22 E4 (.cells #[.I 0,.U 0,.N,.N] 164 (0,0))) λU5=>AI prog (Builtin.append_ #[206,206] 206 #[(.slice (aD U5 0) 0 0),(.slice (Ee p7 (Int.toNat ((n7:Int)-G)) c7 4) (n7-Int.toNat ((n7:Int)-G)) (c7-Int.toNat ((n7:Int)-G)))]) (Hp.set (Hp.set Z22 E4 (.cells #[.I 0,.U 0,.N,.N] 164 (0,0))) U5 (.cells #[] 164 (0,0))) (CS λU6 n37 U7 y=>Kp [S8] (Hp.set (Hp.set Z22 E4 (.cells #[.I 0,.U 0,.N,.N] 164 (0,0))) U5 (.cells #[] 164 (0,0))) y/\∃(f38:Nat) (Jo Jp:Array Value),v30=.func (.func f38) Jo Jp/\Enters prog f38/\Spec prog f38 (Jo++#[.pointer q0,.agg #[.I J8,.I KZ,.string VH,.slice AAf AAg AAh,.I AAi,.I AAj,.I AAk,.slice AAl AAm AAn,.bool AAo,.I G],.slice U6 n37 U7]++Jp) y (AY R (λz AE=>∃PH PI PJ PK PL PM PN PO JX,z=(.tuple #[.agg #[.I PH,.U PI,.slice PJ PK PL,.slice PM PN PO],.I JX])/\AI prog (Instr.storeAt 164 (.pointer (aD E4 0)) (.agg #[.I PH,.U PI,.slice PJ PK PL,.slice PM PN PO])) AE (λ_ AK=>Br (JX≠0) (R (.T #[.agg #[.I 0,.U 0,.N,.N],.I JX]) AK) (((0:Int)<=((n7:Int)-G)/\((n7:Int)-G)<=(c7:Int))/\∃SJ SK SL SM SN SO SP SQ,A2 AK E4 0 [.I SJ,.U SK,.slice SL SM SN,.slice SO SP SQ]/\Al AK λcY=>AI prog (Builtin.append_ #[206,206] 206 #[(.slice p7 (Int.toNat ((n7:Int)-G)) c7),(.slice (aD cY 0) 1 1)]) (Hp.set AK cY (.cells #[.I SJ,.U SK,.slice SL SM SN,.slice SO SP SQ] 164 (0,0))) (CS λpF n50 pG Ai=>AL (x16+1)/\Dp R q0 GC Hq p4c n4c c4c Ii Ij Ik (aD S8 cL) n6 c6 pF n50 pG (aD cD ou) n14 JR x15 (x16+1) Ai)))))))) (Pq p7 λP1 o53=>In 0 (n7:Int)/\∃j0 j1 ARZ ARa ARb j3 j4 j5,A2 Z22 P1 o53 [.I j0,.U j1,.slice ARZ ARa ARb,.slice j3 j4 j5]/\R (.T #[.agg #[.I j0,.U j1,.slice ARZ ARa ARb,.slice j3 j4 j5],.I 0]) Z22)):Dp R q0 GC Hq p4c n4c c4c Ii Ij Ik p6 n6 c6 p7 n7 c7 Ka n14 JR x15 x16 Z22:=M.WQ h ok rfl λ_=>by kernel_rfl
end DM
namespace Bz
variable {DR DT x8 x9:Int}{ji p3 p7:Option Addr}{ah jj n3 c3 n7 c7:Nat}
def M:Fw:=⟨prog,84,f84,[],[1,5],false,[],[],[(232,[(3,wL),(7,wL),(8,wI),(9,wI)]),(935,[(3,wL),(7,wL),(8,wI),(9,wI)])]⟩
def ok:M.Ok:=⟨AH.nil,mixed,func84,by kernel_rfl⟩
def A4:=M.pt 0
def Iy:=M.pt 1
def start (h:∀b1:Nat,A4 R none 0 0 ji ah jj (ah:Int) 0 Z22):Spec prog 84 #[.agg #[.U DR,.I DT,.slice ji ah jj]] Z22 R:=M.start h ok
def AX (h:Br (x9<x8) (Pq p7 λHV Jn=>In x9 (n7:Int)/\∃IU pC AZD AZE AZF AZG AZH AZI AZJ G AZK,A2 Z22 HV (Jn+x9.toNat*9) [.U IU,.I pC,.I AZD,.I AZE,.slice AZF AZG AZH,.I AZI,.I AZJ,.bool G,.I AZK]/\∀b5:Nat,Bn G (Al Z22 λHE=>AI prog (G1 50 p3 n3 c3 HE) (Hp.set Z22 HE (.cells #[.I x9] 3 (0,0))) (CS λUR n20 R9 y=>Iy R UR n20 R9 (aD HV Jn) n7 c7 x8 x9 y)) (Iy R p3 n3 c3 (aD HV Jn) n7 c7 x8 x9 Z22)) (R (.returned (.slice p3 n3 c3)) Z22)):A4 R p3 n3 c3 p7 n7 c7 x8 x9 Z22:=M.of h ok rfl
def Em (h:AL (x9+1)/\A4 R p3 n3 c3 p7 n7 c7 x8 (x9+1) Z22):Iy R p3 n3 c3 p7 n7 c7 x8 x9 Z22:=M.of h ok rfl
end Bz
namespace Gr
variable {s0:ByteArray}{x1:Int}
def M:Fw:=⟨prog,92,f92,[121],[],false,[],[],[]⟩
def ok:M.Ok:=⟨.cons call121 (AH.nil),mixed,func92,by kernel_rfl⟩
def start (h:AG 121 #[.string s0,.int .u8 x1] Z22 R (CI .i64 λx7 y=>R (.returned (.I x7)) y)):Spec prog 92 #[.string s0,.int .u8 x1] Z22 R:=M.start h ok
end Gr
namespace Am
variable {q0 q1:Option Addr}{s2a s2b ALB ALC:ByteArray}{Vf WX x11:Int}{b7:Nat}
def M:Fw:=⟨prog,99,f99,[97,98,122],[6],false,[(6,12,false)],[],[(56,[(0,wQ),(1,wQ),(7,wA),(10,.G [.T,.T]),(11,wI)])]⟩
def ok:M.Ok:=⟨.cons call97 (.cons call98 (.cons call122 (AH.nil))),mixed,func99,by kernel_rfl⟩
def jo:=M.pt 0
def start (h:∀b6:Nat,Al Z22 λb7=>jo R q0 q1 b7 s2a s2b 0 (Hp.set Z22 b7 (.cells #[.I Vf,.I WX] 189 (0,0)))):Spec prog 99 #[.pointer q0,.pointer q1,.agg #[.string s2a,.string s2b],.agg #[.I Vf,.I WX]] Z22 R:=M.start h ok
def NS (h:Br (x11<2) (In x11 2/\∃s14:ByteArray,[ALB,ALC][x11.toNat]?=some s14/\AG 98 #[.pointer q0,.I 3,.string s14] Z22 R (CB λt17 y=>Bo t17 (AG 97 #[.pointer q0] y R (λz AE=>∃J8 KZ VH AAp,z=(.agg #[.I J8,.I KZ,.string VH,.I AAp])/\In x11 2/\LI .i64 AE b7 (0+x11.toNat*1) λP0=>AG 122 #[.pointer q0] AE R (CS λai n26 aj AK=>Kp [b7] AE AK/\Pq q1 λG o27=>AI prog (Instr.storeAt 3 (.pointer (aD G (o27+6))) (.I P0)) AK (λ_ Ai=>AI prog (Instr.storeAt 125 (.pointer (aD G (o27+7))) (.slice ai n26 aj)) Ai (λ_ CC=>R (.T #[]) CC))))) (AL (x11+1)/\jo R q0 q1 b7 ALB ALC (x11+1) y))) (R (.T #[]) Z22)):jo R q0 q1 b7 ALB ALC x11 Z22:=M.of h ok rfl
end Am
namespace DN
variable {s0 s1:ByteArray}
def M:Fw:=⟨prog,104,f104,[],[],false,[],[],[]⟩
def ok:M.Ok:=⟨AH.nil,mixed,func104,by kernel_rfl⟩
def start (h:EN prog 124 #[.string s0,.string s1] Z22 (CI .i64 λx7 y=>R (.returned (.I x7)) y)):Spec prog 104 #[.string s0,.string s1] Z22 R:=M.start h ok
end DN
namespace Xk
variable {x0 x1:Int}
def M:Fw:=⟨prog,115,f115,[],[],false,[],[],[]⟩
def ok:M.Ok:=⟨AH.nil,mixed,func115,by kernel_rfl⟩
def start (h:Br (x1<=x0) (R (.returned (.bool (decide (x0<2147483648)))) Z22) (R (.B false) Z22)):Spec prog 115 #[.I x0,.I x1] Z22 R:=M.start h ok
end Xk
namespace Ag
variable {q0 FC FP p2 Ii KF JT IC p9 vM Vc p79 Td aN sI:Option Addr}{Cm CN E8 EK Dg Dj GC Hq KG IM KH Kz IA IB GL P0 x80 x81 RN:Int}{E9 Jj:ByteArray}{FD FE FG FQ n2 c2 Ij Ik KI KJ JU JV ID IE n9 c9 n22 oa n15 Ta n79 c79 Te Tf n12 WZ:Nat}{EU LA:Bool}{m8:Option Nat}{vR:Value}
def M:Fw:=⟨prog,133,f133,[107,158,160,161,162],[4,6,11],false,[(17,11,false)],[],[(488,[(4,.X 127 [.I .i64,.I .i64,.T,.L,.I .i64,.I .i64,.I .i64,.L,.B,.I .i64]),(6,.X 164 [.I .i64,.I .u64,.L,.L]),(8,wM),(9,wL),(22,wL),(23,wI),(24,wI)]),(4072,[(6,.X 164 [.I .i64,.I .u64,.L,.L]),(14,wV),(15,wL),(79,wL),(80,wI),(81,wI)]),(62670,[(4,.X 127 [.I .i64,.I .i64,.T,.L,.I .i64,.I .i64,.I .i64,.L,.B,.I .i64]),(6,.X 164 [.I .i64,.I .u64,.L,.L]),(8,wM),(9,wL),(11,.X 109 [.L,.I .u64]),(12,wL),(22,wL),(23,wI),(24,wI)]),(125343,[(4,.X 127 [.I .i64,.I .i64,.T,.L,.I .i64,.I .i64,.I .i64,.L,.B,.I .i64]),(6,.X 164 [.I .i64,.I .u64,.L,.L]),(8,wM),(9,wL),(11,.X 109 [.L,.I .u64]),(13,wQ),(22,wL),(23,wI),(24,wI)])]⟩
def ok:M.Ok:=⟨.cons call107 (.cons call158 (.cons call160 (.cons call161 (.cons call162 (AH.nil))))),mixed,func133,by kernel_rfl⟩
def Dp:=M.pt 0
def AEx:=M.pt 1
def Th:=M.pt 2
def AAq:=M.pt 3
def start (h:∀b4:Nat,∀b6:Nat,AI prog (Instr.makeMap 242 none) Z22 (λz y=>∃G,z=(.map (some G))/\Pq p2 λiG od=>In 0 (n2:Int)/\LS y iG (od+2) λvM n22 oa=>Dp R Cm CN E9 FC FD FE E8 EK Dg FP FG FQ EU Dj 0 0 none 0 0 none 0 0 (some G) none 0 0 vM n22 oa (n22:Int) 0 y)):Spec prog 133 #[.pointer q0,.agg #[.I Cm,.I CN,.string E9,.slice FC FD FE,.I E8,.I EK,.I Dg,.slice FP FG FQ,.bool EU,.I Dj],.slice p2 n2 c2] Z22 R:=M.start h ok
def Bp (h:Br (P0<GL) (Pq vM λmh o26=>In P0 (n22:Int)/\∃RP QX RQ jz,A2 Z22 mh (o26+P0.toNat*2) [.slice RP QX RQ,.U jz]/\∀E4:Nat,Br (KH=1) (AG 161 #[.slice RP QX RQ,.slice KF KI KJ] Z22 R (CS λp36 n36 c36 y=>Th R GC Hq Jj Ii Ij Ik KG IM KH KF KI KJ LA Kz IA IB JT JU JV IC ID IE m8 p9 n9 c9 RP QX RQ jz p36 n36 c36 (aD mh o26) n22 oa GL P0 y)) (Br (KH=2) (AG 162 #[.slice RP QX RQ,.slice KF KI KJ] Z22 R (CS λyE n43 yF y=>AG 158 #[.slice yE n43 yF] y R (CS λoS n44 zi AE=>Th R GC Hq Jj Ii Ij Ik KG IM KH KF KI KJ LA Kz IA IB JT JU JV IC ID IE m8 p9 n9 c9 RP QX RQ jz oS n44 zi (aD mh o26) n22 oa GL P0 AE))) (Th R GC Hq Jj Ii Ij Ik KG IM KH KF KI KJ LA Kz IA IB JT JU JV IC ID IE m8 p9 n9 c9 RP QX RQ jz none 0 0 (aD mh o26) n22 oa GL P0 Z22))) (AI prog (Instr.makeMap 247 none) Z22 (λz y=>∃G,z=(.map (some G))/\AI prog (Instr.mapUpdate 247 (.map (some G)) (.I 1) (.func (.func 163) #[] #[])) y (λ_ AE=>AI prog (Instr.mapUpdate 247 (.map (some G)) (.I 2) (.func (.func 164) #[] #[])) AE (λ_ AK=>AI prog (Instr.mapUpdate 247 (.map (some G)) (.I 3) (.func (.func 165) #[] #[])) AK (λ_ Ai=>AI prog (Instr.mapUpdate 247 (.map (some G)) (.I 4) (.func (.func 166) #[] #[])) Ai (λ_ CC=>AI prog (Instr.mapUpdate 247 (.map (some G)) (.I 5) (.func (.func 167) #[] #[])) CC (λ_ G2=>AI prog (Instr.lookup 247 (.map (some G)) (.I Hq) false) G2 (λz ET=>∃v78,v78=z/\AEx R IA IB JT JU JV IC ID IE v78 none 0 0 p9 n9 c9 (n9:Int) 0 ET))))))))):Dp R GC Hq Jj Ii Ij Ik KG IM KH KF KI KJ LA Kz IA IB JT JU JV IC ID IE m8 p9 n9 c9 vM n22 oa GL P0 Z22:=M.oO h ok rfl λ_ _=>by kernel_rfl
def sS (h:Br (x81<x80) (Pq p79 λb83 o83=>In x81 (n79:Int)/\LQ Z22 b83 (o83+x81.toNat*1) λq84=>Pq q84 λG o87=>LS Z22 G o87 λp89 n89 c89=>LS Z22 G (o87+1) λp94 n94 c94=>∃(f95:Nat) (j6 j7:Array Value),vR=.func (.func f95) j6 j7/\Enters prog f95/\Spec prog f95 (j6++#[.slice p94 n94 c94]++j7) Z22 (AY R (CI .u64 λx95 y=>Kp [G] Z22 y/\Al y λb97=>AI prog (G1 105 Vc n15 Ta b97) (Hp.set y b97 (.cells #[.slice p89 n89 c89,.U x95] 109 (0,0))) (CS λp98 n98 c98 AE=>AL (x81+1)/\AEx R IA IB JT JU JV IC ID IE vR p98 n98 c98 (aD b83 o83) n79 c79 x80 (x81+1) AE)))) (AG 160 #[.slice Vc n15 Ta] Z22 R (λz y=>∃AAr AAs AAt AAu AAv AAw AAx AAy j8,z=(.tuple #[.agg #[.I AAr,.U AAs,.slice AAt AAu AAv,.slice AAw AAx AAy],.I j8])/\R (.T #[.agg #[.I AAr,.U AAs,.slice AAt AAu AAv,.slice AAw AAx AAy],.I j8]) y))):AEx R IA IB JT JU JV IC ID IE vR Vc n15 Ta p79 n79 c79 x80 x81 Z22:=M.WQ h ok rfl λ_=>by kernel_rfl
def Vj (h:AG 107 #[.slice aN n12 WZ] Z22 R (CT λs47 y=>AI prog (Instr.lookup 242 (.map m8) (.string s47) false) y (CQ λq48 AE=>Bo (Option.isNone q48) (Al AE λP1=>AG 107 #[.slice aN n12 WZ] (Hp.set AE P1 (.cells #[.slice aN n12 WZ,.N] 234 (0,0))) R (CT λs56 AK=>AI prog (Instr.mapUpdate 242 (.map m8) (.string s56) (.pointer (aD P1 0))) AK (λ_ Ai=>Al Ai λG=>AI prog (G1 243 p9 n9 c9 G) (Hp.set Ai G (.cells #[(.pointer (aD P1 0))] 245 (0,0))) (CS λp61 n61 c61 CC=>AAq R GC Hq Jj Ii Ij Ik KG IM KH KF KI KJ LA Kz IA IB JT JU JV IC ID IE m8 p61 n61 c61 Td Te Tf RN (aD P1 0) vM n22 oa GL P0 CC)))) (AAq R GC Hq Jj Ii Ij Ik KG IM KH KF KI KJ LA Kz IA IB JT JU JV IC ID IE m8 p9 n9 c9 Td Te Tf RN q48 vM n22 oa GL P0 AE)))):Th R GC Hq Jj Ii Ij Ik KG IM KH KF KI KJ LA Kz IA IB JT JU JV IC ID IE m8 p9 n9 c9 Td Te Tf RN aN n12 WZ vM n22 oa GL P0 Z22:=M.of3 h ok rfl λ_ _ _=>by kernel_rfl
def AEy (h:Pq sI λG o64=>LS Z22 G (o64+1) λp66 n66 sQ=>Al Z22 λb69=>AI prog (G1 60 p66 n66 sQ b69) (Hp.set Z22 b69 (.cells #[.U RN] 27 (0,0))) (CS λp70 n70 c70 y=>AI prog (Instr.storeAt 60 (.pointer (aD G (o64+1))) (.slice p70 n70 c70)) y (λ_ AE=>AL (P0+1)/\Dp R GC Hq Jj Ii Ij Ik KG IM KH KF KI KJ LA Kz IA IB JT JU JV IC ID IE m8 p9 n9 c9 vM n22 oa GL (P0+1) AE))):AAq R GC Hq Jj Ii Ij Ik KG IM KH KF KI KJ LA Kz IA IB JT JU JV IC ID IE m8 p9 n9 c9 Td Te Tf RN sI vM n22 oa GL P0 Z22:=M.of3 h ok rfl λ_ _ _=>by kernel_rfl
end Ag
namespace C3
variable {q0:Option Addr}{s1:ByteArray}
def M:Fw:=⟨prog,137,f137,[32,97,98],[],false,[],[],[(3,[(0,wQ)])]⟩
def ok:M.Ok:=⟨.cons call32 (.cons call97 (.cons call98 (AH.nil))),mixed,func137,by kernel_rfl⟩
def eh:=M.pt 0
def start (h:AG 98 #[.pointer q0,.I 5,.string s1] Z22 R (CB λt6 y=>Bn t6 (AG 32 #[.pointer q0] y R (λz G=>z=(.tuple #[])/\eh R q0 G)) (eh R q0 y))):Spec prog 137 #[.pointer q0,.string s1] Z22 R:=M.start h ok
def LU (h:AG 97 #[.pointer q0] Z22 R (λz y=>∃fB RN vK G,z=(.agg #[.I fB,.I RN,.string vK,.I G])/\R (.T #[]) y)):eh R q0 Z22:=M.of h ok rfl
end C3
namespace SR
variable {x0:Int}
def M:Fw:=⟨prog,156,f156,[183,191,192],[],false,[],[],[]⟩
def ok:M.Ok:=⟨.cons call183 (.cons call191 (.cons call192 (AH.nil))),mixed,func156,by kernel_rfl⟩
def start (h:AG 192 #[.U x0] Z22 R (λz y=>∃x4,(Value.float .f64 x4)=z/\AG 191 #[(Value.float .f64 x4)] y R (λz G=>∃x5,(Value.float .f64 x5)=z/\AG 183 #[(Value.float .f64 x5)] G R (CI .u64 λx6 AK=>R (.returned (.U x6)) AK)))):Spec prog 156 #[.U x0] Z22 R:=M.start h ok
end SR
namespace Bh
variable {q0 FC FP p2 LZ Lh G3 G6 Ro Vc:Option Addr}{Cm CN E8 EK Dg Dj IV IW Ld Lf Lg Lk FH FT x16 x17:Int}{E9 Jr:ByteArray}{FD FE FG FQ n2 c2 La Lc Li Lj G4 G5 G7 G8 n10 MK n15 Ta:Nat}{EU NY:Bool}{v3:Value}
def M:Fw:=⟨prog,169,f169,[116,158,160],[5,8,12],false,[],[],[(232,[(3,wV),(5,.X 127 [.I .i64,.I .i64,.T,.L,.I .i64,.I .i64,.I .i64,.L,.B,.I .i64]),(8,.X 164 [.I .i64,.I .u64,.L,.L]),(10,wL),(15,wL),(16,wI),(17,wI)]),(935,[(3,wV),(5,.X 127 [.I .i64,.I .i64,.T,.L,.I .i64,.I .i64,.I .i64,.L,.B,.I .i64]),(8,.X 164 [.I .i64,.I .u64,.L,.L]),(10,wL),(15,wL),(16,wI),(17,wI)])]⟩
def ok:M.Ok:=⟨.cons call116 (.cons call158 (.cons call160 (AH.nil))),mixed,func169,by kernel_rfl⟩
def A4:=M.pt 0
def Fv:=M.pt 1
def start (h:∀b5:Nat,∀G:Nat,A4 R v3 Cm CN E9 FC FD FE E8 EK Dg FP FG FQ EU Dj 0 0 none 0 0 none 0 0 none 0 0 p2 n2 c2 (n2:Int) 0 Z22):Spec prog 169 #[.pointer q0,.agg #[.I Cm,.I CN,.string E9,.slice FC FD FE,.I E8,.I EK,.I Dg,.slice FP FG FQ,.bool EU,.I Dj],.slice p2 n2 c2,v3] Z22 R:=M.DL h ok [(0,.o (.Q q0)),(1,.G [.I .i64 Cm,.I .i64 CN,.T E9,.L FC FD FE,.I .i64 E8,.I .i64 EK,.I .i64 Dg,.L FP FG FQ,.B EU,.I .i64 Dj]),(2,.o (.L p2 n2 c2)),(3,.o (.V v3))] rfl rfl (by kernel_rfl)
def AX (h:Br (x17<x16) (Pq Vc λHE aq=>In x17 (n15:Int)/\∃AEz G AE1 fK,A2 Z22 HE (aq+x17.toNat*2) [.slice AEz G AE1,.U fK]/\∀HV:Nat,∃(f25:Nat) (AHo AHp:Array Value),v3=.func (.func f25) AHo AHp/\Enters prog f25/\Spec prog f25 (AHo++#[.U fK]++AHp) Z22 (AY R (λz y=>∃vO AAV,z=(.tuple #[.U vO,.bool AAV])/\AG 116 #[.I IW] y R (CB λt31 AE=>Bn t31 (AG 158 #[.slice AEz G AE1] AE R (CS λp40 n40 c40 AK=>Al AK λsP=>AI prog (G1 105 Ro n10 MK sP) (Hp.set AK sP (.cells #[.slice p40 n40 c40,.U vO] 109 (0,0))) (CS λoS n44 zi Ai=>Fv R v3 IV IW Jr LZ La Lc Ld Lf Lg Lh Li Lj NY Lk FH FT G3 G4 G5 G6 G7 G8 oS n44 zi (aD HE aq) n15 Ta x16 x17 Ai))) (Bo NY (AG 158 #[.slice AEz G AE1] AE R (CS λp40 n40 c40 AK=>Al AK λsP=>AI prog (G1 105 Ro n10 MK sP) (Hp.set AK sP (.cells #[.slice p40 n40 c40,.U vO] 109 (0,0))) (CS λoS n44 zi Ai=>Fv R v3 IV IW Jr LZ La Lc Ld Lf Lg Lh Li Lj true Lk FH FT G3 G4 G5 G6 G7 G8 oS n44 zi (aD HE aq) n15 Ta x16 x17 Ai))) (Bo AAV (Al AE λcY=>AI prog (G1 105 Ro n10 MK cY) (Hp.set AE cY (.cells #[.slice AEz G AE1,.U fK] 109 (0,0))) (CS λpF n50 pG AK=>Fv R v3 IV IW Jr LZ La Lc Ld Lf Lg Lh Li Lj false Lk FH FT G3 G4 G5 G6 G7 G8 pF n50 pG (aD HE aq) n15 Ta x16 x17 AK)) (Fv R v3 IV IW Jr LZ La Lc Ld Lf Lg Lh Li Lj false Lk FH FT G3 G4 G5 G6 G7 G8 Ro n10 MK (aD HE aq) n15 Ta x16 x17 AE))))))) (AG 160 #[.slice Ro n10 MK] Z22 R (λz y=>∃j9 kD kE kH kI kJ kK kL pH,z=(.tuple #[.agg #[.I j9,.U kD,.slice kE kH kI,.slice kJ kK kL],.I pH])/\R (.T #[.agg #[.I j9,.U kD,.slice kE kH kI,.slice kJ kK kL],.I pH]) y))):A4 R v3 IV IW Jr LZ La Lc Ld Lf Lg Lh Li Lj NY Lk FH FT G3 G4 G5 G6 G7 G8 Ro n10 MK Vc n15 Ta x16 x17 Z22:=M.oO h ok rfl λ_ _=>by kernel_rfl
def Fm (h:AL (x17+1)/\A4 R v3 IV IW Jr LZ La Lc Ld Lf Lg Lh Li Lj NY Lk FH FT G3 G4 G5 G6 G7 G8 Ro n10 MK Vc n15 Ta x16 (x17+1) Z22):Fv R v3 IV IW Jr LZ La Lc Ld Lf Lg Lh Li Lj NY Lk FH FT G3 G4 G5 G6 G7 G8 Ro n10 MK Vc n15 Ta x16 x17 Z22:=M.oO h ok rfl λ_ _=>by kernel_rfl
end Bh
namespace sT
variable {v0:Value}
def M:Fw:=⟨prog,183,f183,[224],[],false,[],[],[]⟩
def ok:M.Ok:=⟨.cons call224 (AH.nil),mixed,func183,by kernel_rfl⟩
def start (h:AG 224 #[v0] Z22 R (CB λt4 y=>Bo t4 (R (.returned (.U 9221120237041090560)) y) (EN prog 190 #[v0] y (CI .u64 λx6 G=>R (.returned (.U x6)) G)))):Spec prog 183 #[v0] Z22 R:=M.DL h ok [(0,.o (.V v0))] rfl rfl (by kernel_rfl)
end sT
namespace kM
variable {x0 x1:Int}
def M:Fw:=⟨prog,200,f200,[213],[],false,[],[],[]⟩
def ok:M.Ok:=⟨.cons call213 (AH.nil),mixed,func200,by kernel_rfl⟩
def start (h:AG 213 #[.I 2,.U x0,.U x1] Z22 R (λz y=>∃IF G,z=(.tuple #[.U IF,.bool G])/\R (.returned (.U IF)) y)):Spec prog 200 #[.U x0,.U x1] Z22 R:=M.start h ok
end kM
namespace Dc
variable {p0 p5 p8:Option Addr}{n0 c0 n5 c5 n8 c8:Nat}{v1:Value}{x9 x10:Int}
def M:Fw:=⟨prog,207,f207,[],[7],false,[],[],[(232,[(1,wV),(5,wL),(8,wL),(9,wI),(10,wI)]),(935,[(1,wV),(5,wL),(8,wL),(9,wI),(10,wI)])]⟩
def ok:M.Ok:=⟨AH.nil,mixed,func207,by kernel_rfl⟩
def A4:=M.pt 0
def Iy:=M.pt 1
def start (h:A4 R v1 none 0 0 p0 n0 c0 (n0:Int) 0 Z22):Spec prog 207 #[.slice p0 n0 c0,v1] Z22 R:=M.DL h ok [(0,.o (.L p0 n0 c0)),(1,.o (.V v1))] rfl rfl (by kernel_rfl)
def AX (h:Br (x10<x9) (Pq p8 λHV Jn=>In x10 (n8:Int)/\∃G vS,A2 Z22 HV (Jn+x10.toNat*2) [.string G,.string vS]/\∀b7:Nat,∃(f16:Nat) (AHq AHr:Array Value),v1=.func (.func f16) AHq AHr/\Enters prog f16/\Spec prog f16 (AHq++#[.agg #[.string G,.string vS]]++AHr) Z22 (AY R (CB λt16 y=>Bo t16 (Al y λHE=>AI prog (G1 95 p5 n5 c5 HE) (Hp.set y HE (.cells #[.string G,.string vS] 144 (0,0))) (CS λUR n20 R9 AE=>Iy R v1 UR n20 R9 (aD HV Jn) n8 c8 x9 x10 AE)) (Iy R v1 p5 n5 c5 (aD HV Jn) n8 c8 x9 x10 y)))) (R (.returned (.slice p5 n5 c5)) Z22)):A4 R v1 p5 n5 c5 p8 n8 c8 x9 x10 Z22:=M.of h ok rfl
def Em (h:AL (x10+1)/\A4 R v1 p5 n5 c5 p8 n8 c8 x9 (x10+1) Z22):Iy R v1 p5 n5 c5 p8 n8 c8 x9 x10 Z22:=M.of h ok rfl
end Dc
namespace IX
variable {s0a mZ:ByteArray}{b1:Nat}
def M:Fw:=⟨prog,208,f208,[209],[2],false,[],[],[]⟩
def ok:M.Ok:=⟨.cons call209 (AH.nil),mixed,func208,by kernel_rfl⟩
def start (h:∀b2:Nat,LS Z22 b1 0 λp4 n4 c4=>AG 209 #[.slice p4 n4 c4,.string s0a] Z22 R (CB λt7 y=>R (.B t7) y)):Spec prog 208 #[.agg #[.string s0a,.string mZ],(.pointer (aD b1 0))] Z22 R:=M.start h ok
end IX
namespace Xl
variable {x0 x1 x2:Int}
def M:Fw:=⟨prog,213,f213,[183,192],[],false,[],[],[]⟩
def ok:M.Ok:=⟨.cons call183 (.cons call192 (AH.nil)),mixed,func213,by kernel_rfl⟩
def start (h:AG 192 #[.U x1] Z22 R (λz y=>∃x11,(Value.float .f64 x11)=z/\AG 192 #[.U x2] y R (λz AE=>∃GB,(Value.float .f64 GB)=z/\Br (x0=1) (AI prog (binOp .add 258 (Value.float .f64 x11) (Value.float .f64 GB)) AE (λz G=>∃Ce,(Value.float .f64 Ce)=z/\AG 183 #[(Value.float .f64 Ce)] G R (CI .u64 λIl Ai=>R (.T #[.U Il,.bool true]) Ai))) (Br (x0=2) (AI prog (binOp .sub 258 (Value.float .f64 x11) (Value.float .f64 GB)) AE (λz G=>∃ml,(Value.float .f64 ml)=z/\AG 183 #[(Value.float .f64 ml)] G R (CI .u64 λau Ai=>R (.T #[.U au,.bool true]) Ai))) (Br (x0=3) (AI prog (binOp .mul 258 (Value.float .f64 x11) (Value.float .f64 GB)) AE (λz G=>∃vG,(Value.float .f64 vG)=z/\AG 183 #[(Value.float .f64 vG)] G R (CI .u64 λzo Ai=>R (.T #[.U zo,.bool true]) Ai))) (Br (x0=4) (AI prog (binOp .quo 258 (Value.float .f64 x11) (Value.float .f64 GB)) AE (λz G=>∃VA,(Value.float .f64 VA)=z/\AG 183 #[(Value.float .f64 VA)] G R (CI .u64 λaY Ai=>R (.T #[.U aY,.bool true]) Ai))) (R (.T #[.U 0,.bool false]) AE))))))):Spec prog 213 #[.I x0,.U x1,.U x2] Z22 R:=M.start h ok
end Xl
namespace EH
variable {s0:ByteArray}{x1:Int}
def M:Fw:=⟨prog,222,f222,[243],[],false,[],[],[]⟩
def ok:M.Ok:=⟨.cons call243 (AH.nil),mixed,func222,by kernel_rfl⟩
def start (h:AG 243 #[.string s0,.I x1] Z22 R (λz y=>∃G VB ARh,z=(.tuple #[G,.I VB,ARh])/\Br (VB≠(s0.size:Int)) (R (.T #[.float .f64 0,(.iface 311 (.I 2))]) y) (R (.T #[G,ARh]) y))):Spec prog 222 #[.string s0,.I x1] Z22 R:=M.start h ok
end EH
namespace Cc
variable {iE p8:Option Addr}{R8 cG n8 c8:Nat}{s1:ByteArray}{x9 x10:Int}
def M:Fw:=⟨prog,248,f248,[272],[2,6],false,[],[],[(104,[(1,wT),(8,wL),(9,wI),(10,wI)])]⟩
def ok:M.Ok:=⟨.cons call272 (AH.nil),mixed,func248,by kernel_rfl⟩
def Gf:=M.pt 0
def start (h:∀b2:Nat,Gf R s1 iE R8 cG (R8:Int) 0 Z22):Spec prog 248 #[.agg #[.slice iE R8 cG],.string s1] Z22 R:=M.start h ok
def A0 (h:Br (x10<x9) (Pq p8 λHV Jn=>In x10 (n8:Int)/\∃G ARj ARk,A2 Z22 HV (Jn+x10.toNat*1) [.slice G ARj ARk]/\∀b6:Nat,AG 272 #[.agg #[.slice G ARj ARk],.string s1] Z22 R (CB λt16 y=>Bo t16 (R (.B true) y) (AL (x10+1)/\Gf R s1 (aD HV Jn) n8 c8 x9 (x10+1) y))) (R (.B false) Z22)):Gf R s1 p8 n8 c8 x9 x10 Z22:=M.of h ok rfl
end Cc
namespace DO
variable {s0 s1:ByteArray}
def M:Fw:=⟨prog,322,f322,[],[],false,[],[],[]⟩
def ok:M.Ok:=⟨AH.nil,mixed,func322,by kernel_rfl⟩
def start (h:Br (((s1.size:Int):Int)<=(s0.size:Int)) (AL ((s0.size:Int)-(s1.size:Int))/\∃G,YF prog (Instr.sliceAt 9 (.string s0) (some (.I ((s0.size:Int)-(s1.size:Int)))) none none) Z22 (.string G)/\R (.returned (.bool (ByteArray.toList G==ByteArray.toList s1))) Z22) (R (.B false) Z22)):Spec prog 322 #[.string s0,.string s1] Z22 R:=M.start h ok
end DO
end TwW
end
end
section
set_option maxRecDepth 100000
noncomputable section
namespace TwW
open Go Tw Go.Proofs.Tryz
variable [GO]{R:Rr}{Z22:Hp}

namespace Bf
variable {s0:ByteArray}{x1 IV IW Il:Int}{p2 p3 p4 p5c sI q15 iD:Option Addr}{n2 c2 n3 c3 n4 c4 n5c c5c n19 cE:Nat}
def M:Fw:=⟨prog,5,f5,[6,7,9,11,12,13,14,17,19,20,21,22,23],[11],false,[],[],[(16777168,[(4,wL),(13,wQ),(15,wQ),(19,wL),(20,wI)]),(2097150,[(13,wQ),(15,wQ)])]⟩
def ok:M.Ok:=⟨.cons call6 (.cons call7 (.cons call9 (.cons call11 (.cons call12 (.cons call13 (.cons call14 (.cons call17 (.cons call19 (.cons call20 (.cons call21 (.cons call22 (.cons call23 (AH.nil))))))))))))),mixed,func5,by kernel_rfl⟩
def AE2:=M.pt 0
def AE3:=M.pt 1
def start (h:∀E4:Nat,AG 7 #[] Z22 R (λz y=>∃ARl ARm ARn ARo,z=(.agg #[.U ARl,.slice ARm ARn ARo])/\AG 6 #[.string s0,.I x1,.I x1,.I 0,.agg #[.U ARl,.slice ARm ARn ARo],.I 3] y R (λz AE=>∃kN vd,z=(.tuple #[.pointer kN,.I vd])/\AG 7 #[] AE R (λz AK=>∃AE4 ARp ARq ARr,z=(.agg #[.U AE4,.slice ARp ARq ARr])/\AG 6 #[.string s0,.I x1,.I x1,.I 0,.agg #[.U AE4,.slice ARp ARq ARr],.I 3] AK R (λz Ai=>∃kO Xm,z=(.tuple #[.pointer kO,.I Xm])/\Br (vd≠0) (Br (vd=Xm) (AG 9 #[] Ai R (CB λt61 CC=>R (.B t61) CC)) (R (.B false) Ai)) (Br (Xm≠0) (Br (vd=Xm) (AG 9 #[] Ai R (CB λt61 CC=>R (.B t61) CC)) (R (.B false) Ai)) (Bo (Option.isNone kN) (Br (vd=Xm) (AG 9 #[] Ai R (CB λt61 CC=>R (.B t61) CC)) (R (.B false) Ai)) (Bo (Option.isNone kO) (Br (vd=Xm) (AG 9 #[] Ai R (CB λt61 CC=>R (.B t61) CC)) (R (.B false) Ai)) (AG 12 #[.slice p2 n2 c2] Ai R (CS λyG va yH CC=>AG 19 #[.slice yG va yH] CC R (CI .i64 λx65 G2=>Br (x65≠0) (AG 9 #[] G2 R (CB λt79 ET=>R (.B t79) ET)) (AG 12 #[.slice p3 n3 c3] G2 R (CS λpD n69 pE ET=>AG 19 #[.slice pD n69 pE] ET R (CI .i64 λx70 R7=>Br (x70≠0) (AG 9 #[] R7 R (CB λt79 TW=>R (.B t79) TW)) (AG 12 #[.slice p4 n4 c4] R7 R (CS λp75 n75 c75 TW=>AG 19 #[.slice p75 n75 c75] TW R (CI .i64 λx76 H7=>Br (x76≠0) (AG 9 #[] H7 R (CB λt79 TY=>R (.B t79) TY)) (AG 11 #[.pointer kN,.I 0,.slice p2 n2 c2] H7 R (CI .i64 λx82 TY=>AG 11 #[.pointer kN,.I 1,.slice p3 n3 c3] TY R (CI .i64 λx85 U3=>AG 20 #[.agg #[.U IV,.I IW,.slice p5c n5c c5c]] U3 R (λz TZ=>∃ARs ARt ARu ARv ARw,z=(.agg #[.U ARs,.I ARt,.slice ARu ARv ARw])/\AG 13 #[.pointer kN,.agg #[.U ARs,.I ARt,.slice ARu ARv ARw]] TZ R (CI .i64 λx89 u4=>AG 11 #[.pointer kO,.I 1,.slice p3 n3 c3] u4 R (CI .i64 λx92 WS=>AG 11 #[.pointer kO,.I 0,.slice p2 n2 c2] WS R (CI .i64 λx95 AAd=>AG 11 #[.pointer kO,.I 1,.slice p3 n3 c3] AAd R (CI .i64 λx98 AAe=>AG 20 #[.agg #[.U IV,.I IW,.slice p5c n5c c5c]] AAe R (λz AZU=>∃AHu j8 AHv AHw AHx,z=(.agg #[.U AHu,.I j8,.slice AHv AHw AHx])/\AG 13 #[.pointer kO,.agg #[.U AHu,.I j8,.slice AHv AHw AHx]] AZU R (CI .i64 λkP AE5=>Br (x89≠kP) (R (.B false) AE5) (Br (x89≠0) (Br (x89=140) (AG 9 #[] AE5 R (CB λt111 ALF=>R (.B t111) ALF)) (R (.B false) AE5)) (AG 21 #[.pointer kN] AE5 R (CS λALG G ALH ALF=>AG 21 #[.pointer kO] ALF R (CS λAZV n117 AZW AZX=>AG 22 #[.slice ALG G ALH,.slice AZV n117 AZW] AZX R (CB λt118 ARx=>Bn t118 (R (.B false) ARx) (AG 23 #[.pointer kN,.slice ALG G ALH,.slice p4 n4 c4] ARx R (CI .i64 λAf6 AZY=>AL ((G:Int)-1)/\AE2 R p4 n4 c4 kN kO ALG G ALH (((G:Int)-1)) AZY)))))))))))))))))))))))))))))))))):Spec prog 5 #[.string s0,.I x1,.slice p2 n2 c2,.slice p3 n3 c3,.slice p4 n4 c4,.agg #[.U IV,.I IW,.slice p5c n5c c5c]] Z22 R:=M.start h ok
def sU (h:Br (0<=Il) (AL (Il+1)/\(0<=Il/\Il<=(Il+1)/\(Il+1)<=(cE:Int))/\AG 23 #[.pointer q15,(.slice (Ee iD (Il.toNat) cE 1) (Int.toNat (Il+1)-Il.toNat) (cE-Il.toNat)),.slice p4 n4 c4] Z22 R (CI .i64 λG y=>AL (Il-1)/\AE2 R p4 n4 c4 sI q15 iD n19 cE (Il-1) y)) (Br ((n19:Int)=0) (AG 23 #[.pointer q15,.N,.slice p4 n4 c4] Z22 R (CI .i64 λAf8 y=>AE3 R sI q15 y)) (AE3 R sI q15 Z22))):AE2 R p4 n4 c4 sI q15 iD n19 cE Il Z22:=M.of h ok rfl
def AE6 (h:AG 14 #[.pointer sI] Z22 R (λz y=>∃AHy AHz G AH1 AH2,z=(.tuple #[.slice AHy AHz G,.I AH1,.I AH2])/\AG 14 #[.pointer q15] y R (λz AE=>∃AH3 AH4 AH5 AH6 AH7,z=(.tuple #[.slice AH3 AH4 AH5,.I AH6,.I AH7])/\Br (AH2=AH7) (Br (AH1=AH6) (AG 17 #[.slice AHy AHz G,.slice AH3 AH4 AH5] AE R (CB λt168 AK=>Bo t168 (AG 21 #[.pointer sI] AK R (CS λAZZ n172 AZa Ai=>Br ((n172:Int)=0) (AG 9 #[] Ai R (CB λt177 CC=>R (.B t177) CC)) (R (.B false) Ai))) (R (.B false) AK))) (R (.B false) AE)) (R (.B false) AE)))):AE3 R sI q15 Z22:=M.of h ok rfl
end Bf
namespace Lm
variable {x0:Int}
def M:Fw:=⟨prog,25,f25,[],[],false,[],[],[]⟩
def ok:M.Ok:=⟨AH.nil,mixed,func25,by kernel_rfl⟩
def start (h:Br (((-1099511627776):Int)<=x0) (R (.returned (.bool (decide (x0<=1099511627776)))) Z22) (R (.B false) Z22)):Spec prog 25 #[.I x0] Z22 R:=M.start h ok
end Lm
namespace I4
variable {DR x8 x9:Int}{p0b p3 p7:Option Addr}{n0b c0b n3 c3 n7 c7:Nat}
def M:Fw:=⟨prog,26,f26,[55,56,57],[1,5],false,[],[],[(232,[(3,wL),(7,wL),(8,wI),(9,wI)])]⟩
def ok:M.Ok:=⟨.cons call55 (.cons call56 (.cons call57 (AH.nil))),mixed,func26,by kernel_rfl⟩
def A4:=M.pt 0
def start (h:∀b1:Nat,A4 R none 0 0 p0b n0b c0b (n0b:Int) 0 Z22):Spec prog 26 #[.agg #[.U DR,.slice p0b n0b c0b]] Z22 R:=M.start h ok
def AX (h:Br (x9<x8) (Pq p7 λE4 ae=>In x9 (n7:Int)/\∃fD VB ARy G ARz,A2 Z22 E4 (ae+x9.toNat*3) [.I fD,.I VB,.slice ARy G ARz]/\∀b5:Nat,Al Z22 λUO=>AI prog (G1 50 p3 n3 c3 UO) (Hp.set Z22 UO (.cells #[.I fD] 3 (0,0))) (CS λsE n17 cR y=>AG 55 #[.I fD] y R (CB λt20 AE=>Bn t20 (R (.returned (.I 130)) AE) (Br (VB<1) (R (.returned (.I 130)) AE) (Br (3<VB) (R (.returned (.I 130)) AE) (Br ((G:Int)=0) (R (.returned (.I 130)) AE) (Br (64<(G:Int)) (R (.returned (.I 130)) AE) (AG 56 #[.slice ARy G ARz] AE R (CB λt47 AK=>Bn t47 (R (.returned (.I 130)) AK) (AL (x9+1)/\A4 R sE n17 cR (aD E4 ae) n7 c7 x8 (x9+1) AK)))))))))) (AG 57 #[.slice p3 n3 c3] Z22 R (CB λt52 y=>Bn t52 (R (.returned (.I 130)) y) (R (.returned (.I 0)) y)))):A4 R p3 n3 c3 p7 n7 c7 x8 x9 Z22:=M.of h ok rfl
end I4
namespace Kf
variable {q0:Option Addr}
def M:Fw:=⟨prog,31,f31,[],[2],false,[],[],[]⟩
def ok:M.Ok:=⟨AH.nil,mixed,func31,by kernel_rfl⟩
def start (h:∀b2:Nat,Pq q0 λb4 o4=>LS Z22 b4 o4 λp6 n6 c6=>Pq p6 λb7 o7=>In 0 (n6:Int)/\∃FH FT G x8d,A2 Z22 b7 o7 [.I FH,.I FT,.string G,.I x8d]/\R (.returned (.agg #[.I FH,.I FT,.string G,.I x8d])) Z22):Spec prog 31 #[.pointer q0] Z22 R:=M.start h ok
end Kf
namespace Bc
variable {p0 p1 p5:Option Addr}{n0 c0 n1 c1 n5 c5:Nat}
def M:Fw:=⟨prog,37,f37,[],[7],false,[(3,9,false)],[],[(224,[(0,wL),(1,wL),(5,wL)])]⟩
def ok:M.Ok:=⟨AH.nil,mixed,func37,by kernel_rfl⟩
def GQ:=M.pt 0
def start (h:GQ R p0 n0 c0 p1 n1 c1 none 0 0 Z22):Spec prog 37 #[.slice p0 n0 c0,.slice p1 n1 c1] Z22 R:=M.start h ok
def BI (h:Br (0<(n0:Int)) (Br (0<(n1:Int)) (Pq p0 λH9 vN=>In 0 (n0:Int)/\∃RL RM,A2 Z22 H9 vN [.I RL,.U RM]/\Pq p1 λiG od=>In 0 (n1:Int)/\∃WY U9,A2 Z22 iG od [.I WY,.U U9]/\(Al Z22 λb6=>∀b7:Nat,AI prog (Instr.storeAt 111 (.pointer (aD b6 0)) (.agg #[.I RL,.U RM])) (Hp.set Z22 b6 (.cells #[.I 0,.U 0] 111 (0,0))) (λ_ y=>Kp [iG] (Hp.set Z22 b6 (.cells #[.I 0,.U 0] 111 (0,0))) y/\LI .i64 y b6 0 λx39=>Br (x39<WY) (∃J9 KA,A2 y b6 0 [.I J9,.U KA]/\((0:Int)<=1/\1<=(n0:Int))/\Al y λad=>AI prog (G1 96 p5 n5 c5 ad) (Hp.set y ad (.cells #[.I J9,.U KA] 111 (0,0))) (CS λsF n46 ot G=>GQ R ((Ee (aD H9 vN) (1) c0 2)) (n0-1) (c0-1) (aD iG od) n1 c1 sF n46 ot G)) (LI .i64 y b6 0 λx53=>Br (WY<x53) (((0:Int)<=1/\1<=(n1:Int))/\Al y λQR=>AI prog (G1 96 p5 n5 c5 QR) (Hp.set y QR (.cells #[.I WY,.U U9] 111 (0,0))) (CS λaM UQ cK G=>GQ R (aD H9 vN) n0 c0 ((Ee (aD iG od) (1) c1 2)) (n1-1) (c1-1) aM UQ cK G)) (LI .i64 y b6 0 λP0=>LI .u64 y b6 1 λau=>((0:Int)<=1/\1<=(n0:Int))/\((0:Int)<=1/\1<=(n1:Int))/\Al y λve=>AI prog (G1 96 p5 n5 c5 ve) (Hp.set y ve (.cells #[.I P0,(.U (if au<U9 then U9 else au))] 111 (0,0))) (CS λp32 n32 c32 G=>GQ R ((Ee (aD H9 vN) (1) c0 2)) (n0-1) (c0-1) ((Ee (aD iG od) (1) c1 2)) (n1-1) (c1-1) p32 n32 c32 G)))))/\(∀b7:Nat,Al Z22 λb6=>AI prog (Instr.storeAt 111 (.pointer (aD b6 0)) (.agg #[.I RL,.U RM])) (Hp.set Z22 b6 (.cells #[.I 0,.U 0] 111 (0,0))) (λ_ y=>Kp [iG] (Hp.set Z22 b6 (.cells #[.I 0,.U 0] 111 (0,0))) y/\LI .i64 y b6 0 λx39=>Br (x39<WY) (∃J9 KA,A2 y b6 0 [.I J9,.U KA]/\((0:Int)<=1/\1<=(n0:Int))/\Al y λad=>AI prog (G1 96 p5 n5 c5 ad) (Hp.set y ad (.cells #[.I J9,.U KA] 111 (0,0))) (CS λsF n46 ot G=>GQ R ((Ee (aD H9 vN) (1) c0 2)) (n0-1) (c0-1) (aD iG od) n1 c1 sF n46 ot G)) (LI .i64 y b6 0 λx53=>Br (WY<x53) (((0:Int)<=1/\1<=(n1:Int))/\Al y λQR=>AI prog (G1 96 p5 n5 c5 QR) (Hp.set y QR (.cells #[.I WY,.U U9] 111 (0,0))) (CS λaM UQ cK G=>GQ R (aD H9 vN) n0 c0 ((Ee (aD iG od) (1) c1 2)) (n1-1) (c1-1) aM UQ cK G)) (LI .i64 y b6 0 λP0=>LI .u64 y b6 1 λau=>((0:Int)<=1/\1<=(n0:Int))/\((0:Int)<=1/\1<=(n1:Int))/\Al y λve=>AI prog (G1 96 p5 n5 c5 ve) (Hp.set y ve (.cells #[.I P0,(.U (if au<U9 then U9 else au))] 111 (0,0))) (CS λp32 n32 c32 G=>GQ R ((Ee (aD H9 vN) (1) c0 2)) (n0-1) (c0-1) ((Ee (aD iG od) (1) c1 2)) (n1-1) (c1-1) p32 n32 c32 G)))))) (AI prog (Builtin.append_ #[96,96] 96 #[.slice p5 n5 c5,.slice p0 n0 c0]) Z22 (CS λp63 n63 c63 y=>AI prog (Builtin.append_ #[96,96] 96 #[.slice p63 n63 c63,.slice p1 n1 c1]) y (CS λp65 n65 c65 G=>R (.returned (.slice p65 n65 c65)) G)))) (AI prog (Builtin.append_ #[96,96] 96 #[.slice p5 n5 c5,.slice p0 n0 c0]) Z22 (CS λp63 n63 c63 y=>AI prog (Builtin.append_ #[96,96] 96 #[.slice p63 n63 c63,.slice p1 n1 c1]) y (CS λp65 n65 c65 G=>R (.returned (.slice p65 n65 c65)) G)))):GQ R p0 n0 c0 p1 n1 c1 p5 n5 c5 Z22:=M.of h ok rfl
end Bc
namespace MR
variable {p0:Option Addr}{n0 c0:Nat}
def M:Fw:=⟨prog,39,f39,[],[],false,[],[],[]⟩
def ok:M.Ok:=⟨AH.nil,mixed,func39,by kernel_rfl⟩
def start (h:Al Z22 λb3=>AI prog (Builtin.append_ #[95,95] 95 #[(.slice (aD b3 0) 0 0),.slice p0 n0 c0]) (Hp.set Z22 b3 (.cells #[] 144 (0,0))) (CS λp5 n5 c5 y=>R (.returned (.slice p5 n5 c5)) y)):Spec prog 39 #[.slice p0 n0 c0] Z22 R:=M.start h ok
end MR
namespace FX
variable {p0:Option Addr}{n0 c0:Nat}{x3:Int}
def M:Fw:=⟨prog,51,f51,[],[],false,[(4,12,true)],[],[(208,[(0,wL),(3,wI)])]⟩
def ok:M.Ok:=⟨AH.nil,mixed,func51,by kernel_rfl⟩
def GQ:=M.pt 0
def start (h:GQ R p0 n0 c0 1 Z22):Spec prog 51 #[.slice p0 n0 c0] Z22 R:=M.start h ok
def BI (h:Br (x3<(n0:Int)) (Pq p0 λG Jn=>In x3 (n0:Int)/\LI .i64 Z22 G (Jn+x3.toNat*2) λVd=>AL (x3-1)/\In (x3-1) (n0:Int)/\LI .i64 Z22 G (Jn+Int.toNat (x3-1)*2) λIl=>Br (Vd<=Il) (R (.B false) Z22) (AL (x3+1)/\GQ R (aD G Jn) n0 c0 (x3+1) Z22)) (R (.returned (.bool (decide (0<(n0:Int))))) Z22)):GQ R p0 n0 c0 x3 Z22:=M.of h ok rfl
end FX
namespace C4
variable {s0:ByteArray}{t8:Bool}
def M:Fw:=⟨prog,60,f60,[92],[],false,[],[],[(28,[(0,wT)]),(213,[(0,wT),(8,wB)])]⟩
def ok:M.Ok:=⟨.cons call92 (AH.nil),mixed,func60,by kernel_rfl⟩
def AAz:=M.pt 0
def Fv:=M.pt 1
def start (h:Br ((1:Int)<(s0.size:Int)) (∃G,YF prog (Instr.sliceAt 9 (.string s0) none (some (.I 2)) none) Z22 (.string G)/\Bo ((ByteArray.toList G==ByteArray.toList (ByteArray.mk #[61,61]))) (Fv R s0 true Z22) (Bo ((ByteArray.toList G==ByteArray.toList (ByteArray.mk #[33,61]))) (Fv R s0 true Z22) (Bo ((ByteArray.toList G==ByteArray.toList (ByteArray.mk #[60,61]))) (Fv R s0 true Z22) (Bo ((ByteArray.toList G==ByteArray.toList (ByteArray.mk #[62,61]))) (Fv R s0 true Z22) (Bo ((ByteArray.toList G==ByteArray.toList (ByteArray.mk #[61,126]))) (Fv R s0 true Z22) (Fv R s0 ((ByteArray.toList G==ByteArray.toList (ByteArray.mk #[33,126]))) Z22)))))) (AAz R s0 Z22)):Spec prog 60 #[.string s0] Z22 R:=M.start h ok
def sV (h:∃u18:UInt8,(0:Int)<=0/\(ByteArray.data s0)[Int.toNat 0]?=some u18/\AG 92 #[(.string (ByteArray.mk #[60,62,61,43,45,42,47,40,41,123,125,91,93,44])),(.int .u8 (u18.toNat:Int))] Z22 R (CI .i64 λCe y=>Br (0<=Ce) (∃G,YF prog (Instr.sliceAt 9 (.string s0) none (some (.I 1)) none) y (.string G)/\R (.returned (.string G)) y) (R (.returned (.string (ByteArray.mk #[]))) y))):AAz R s0 Z22:=M.of h ok rfl
def Fm (h:Bo t8 (∃G,YF prog (Instr.sliceAt 9 (.string s0) none (some (.I 2)) none) Z22 (.string G)/\R (.returned (.string G)) Z22) (AAz R s0 Z22)):Fv R s0 t8 Z22:=M.of h ok rfl
end C4
namespace Xn
variable {s0:ByteArray}
def M:Fw:=⟨prog,62,f62,[93,94],[],false,[],[],[]⟩
def ok:M.Ok:=⟨.cons call93 (.cons call94 (AH.nil)),mixed,func62,by kernel_rfl⟩
def start (h:AG 93 #[.string s0] Z22 R (CI .i64 λx6 y=>Br (x6=0) (R (.B false) y) (∃s12,YF prog (Instr.sliceAt 9 (.string s0) none (some (.I x6)) none) y (.string s12)/\AG 94 #[.string s12] y R (CB λt13 AE=>Bo t13 (R (.B false) AE) (Br (x6=(s0.size:Int)) (R (.returned (.bool (decide (x6<=15)))) AE) (AL (x6+1)/\∃s24,YF prog (Instr.sliceAt 9 (.string s0) (some (.I (x6+1))) none none) AE (.string s24)/\AG 93 #[.string s24] AE R (CI .i64 λG AK=>∃u28:UInt8,0<=x6/\(ByteArray.data s0)[x6.toNat]?=some u28/\Br (((u28.toNat:Int):Int)=46) (Br (0<G) (AL (x6+1)/\AL ((x6+1)+G)/\Br ((((x6+1)+G):Int)=(s0.size:Int)) (AL (x6+G)/\R (.returned (.bool (decide (((x6+G):Int)<=15)))) AK) (R (.B false) AK)) (R (.B false) AK)) (R (.B false) AK)))))))):Spec prog 62 #[.string s0] Z22 R:=M.start h ok
end Xn
namespace AQ
variable {v0:Value}{b1 b3 n7 c7:Nat}{p7:Option Addr}{x8 x9:Int}
def M:Fw:=⟨prog,68,f68,[69,70,71],[100000],false,[],[],[(104,[(0,wV),(3,wA),(7,wL),(8,wI),(9,wI)]),(112,[(0,wV),(3,wA)]),(423,[(0,wV),(3,wA),(7,wL),(8,wI),(9,wI)])]⟩
def ok:M.Ok:=⟨.cons call69 (.cons call70 (.cons call71 (AH.nil))),mixed,func68,by kernel_rfl⟩
def Gf:=M.pt 0
def Kb:=M.pt 1
def SH:=M.pt 2
def start (h:Al Z22 λb3=>LS (Hp.set Z22 b3 (.cells #[.N] 147 (0,0))) b1 0 λp7 n7 c7=>Gf R v0 b3 p7 n7 c7 (n7:Int) 0 (Hp.set Z22 b3 (.cells #[.N] 147 (0,0)))):Spec prog 68 #[v0,(.pointer (aD b1 0))] Z22 R:=M.DL h ok [(0,.o (.V v0)),(1,.o (.A b1))] rfl rfl (by kernel_rfl)
def A0 (h:Br (x9<x8) (Pq p7 λE4 G=>In x9 (n7:Int)/\LS Z22 E4 (G+x9.toNat*1) λaN n12 WZ=>Br (0<(n12:Int)) (Al Z22 λHE=>AG 69 #[(.iface 149 (.pointer (aD b3 0))),(.iface 150 (.pointer (aD HE 0)))] (Hp.set Z22 HE (.cells #[.slice aN n12 WZ] 152 (0,0))) R (λz y=>z=(.tuple #[])/\SH R v0 b3 (aD E4 G) n7 c7 x8 x9 y)) (SH R v0 b3 (aD E4 G) n7 c7 x8 x9 Z22)) (Kb R v0 b3 Z22)):Gf R v0 b3 p7 n7 c7 x8 x9 Z22:=M.of h ok rfl
def Jl (h:LS Z22 b3 0 λmY n23 ec=>Br (0<(n23:Int)) (LS Z22 b3 0 λai n26 aj=>Pq ai λb27 o27=>In 0 (n26:Int)/\LQ Z22 b27 o27 λq28=>Pq q28 λve G=>LS Z22 ve G λzY n33 xr=>Pq zY λb34 o34=>In 0 (n33:Int)/\∃AR5 AR6 AR7 AR8 AR9 ASA,A2 Z22 b34 o34 [.slice AR5 AR6 AR7,.slice AR8 AR9 ASA]/\∃l36:Nat,v0=.func (.yield l36) #[] #[]/\Jf prog l36 #[.agg #[.slice AR5 AR6 AR7,.slice AR8 AR9 ASA]] Z22 (AY R (CB λt36 y=>Bn t36 (R (.T #[]) y) (LS y ve G λp42 n42 c42=>((0:Int)<=1/\1<=(n42:Int))/\AI prog (Instr.storeAt 22 (.pointer (aD ve G)) (.slice (Ee p42 (1) c42 2) (n42-1) (c42-1))) y (λ_ AE=>LS AE ve G λp49 n49 c49=>Br ((n49:Int)=0) (AG 70 #[(.iface 149 (.pointer (aD b3 0)))] AE R (λz AK=>∃v53,v53=z/\Kb R v0 b3 AK)) (AG 71 #[(.iface 149 (.pointer (aD b3 0))),.I 0] AE R (λz AK=>z=(.tuple #[])/\Kb R v0 b3 AK))))))) (R (.T #[]) Z22)):Kb R v0 b3 Z22:=M.of h ok rfl
def Eu (h:AL (x9+1)/\Gf R v0 b3 p7 n7 c7 x8 (x9+1) Z22):SH R v0 b3 p7 n7 c7 x8 x9 Z22:=M.of h ok rfl
end AQ
namespace FB
variable {v0 v1:Value}
def M:Fw:=⟨prog,69,f69,[102],[],false,[],[],[]⟩
def ok:M.Ok:=⟨.cons call102 (AH.nil),mixed,func69,by kernel_rfl⟩
def start (h:MC prog v0 AG3 #[v1] Z22 (AY R (λz y=>z=(.tuple #[])/\MC prog v0 zI #[] y (AY R (CI .i64 λx9 G=>AL (x9-1)/\AG 102 #[v0,(.I (x9-1))] G R (λz AK=>z=(.tuple #[])/\R (.T #[]) AK)))))):Spec prog 69 #[v0,v1] Z22 R:=M.DL h ok [(0,.o (.V v0)),(1,.o (.V v1))] rfl rfl (by kernel_rfl)
end FB
namespace I5
variable {p0 p6:Option Addr}{n0 c0 n6 c6:Nat}{x3 x7 x8:Int}
def M:Fw:=⟨prog,74,f74,[],[],false,[],[],[(232,[(3,wI),(6,wL),(7,wI),(8,wI)])]⟩
def ok:M.Ok:=⟨AH.nil,mixed,func74,by kernel_rfl⟩
def A4:=M.pt 0
def start (h:A4 R 0 p0 n0 c0 (n0:Int) 0 Z22):Spec prog 74 #[.slice p0 n0 c0] Z22 R:=M.start h ok
def AX (h:Br (x8<x7) (Pq p6 λDk G=>In x8 (n6:Int)/\LI .i64 Z22 Dk (G+x8.toNat*1) λx11=>Br (x11≠x3) (R (.returned (.I x11)) Z22) (AL (x8+1)/\A4 R x3 (aD Dk G) n6 c6 x7 (x8+1) Z22)) (R (.returned (.I x3)) Z22)):A4 R x3 p6 n6 c6 x7 x8 Z22:=M.of h ok rfl
end I5
namespace MT
variable {s0 s1:ByteArray}
def M:Fw:=⟨prog,75,f75,[104],[],false,[],[],[]⟩
def ok:M.Ok:=⟨.cons call104 (AH.nil),mixed,func75,by kernel_rfl⟩
def start (h:AG 104 #[.string s0,.string s1] Z22 R (CI .i64 λx7 y=>R (.returned (.I x7)) y)):Spec prog 75 #[.string s0,.string s1] Z22 R:=M.start h ok
end MT
namespace Ey
variable {q0:Option Addr}
def M:Fw:=⟨prog,101,f101,[63],[],false,[],[],[]⟩
def ok:M.Ok:=⟨.cons call63 (AH.nil),mixed,func101,by kernel_rfl⟩
def start (h:AG 63 #[.pointer q0,(.func (.func 123) #[.pointer q0] #[]),.I 5,.I 10] Z22 R (λz y=>z=(.tuple #[])/\R (.T #[]) y)):Spec prog 101 #[.pointer q0] Z22 R:=M.start h ok
end Ey
namespace EI
noncomputable def K0:=f102.body.getD .skip
def K1:=cl K0
def K2:=cl K1
def K3:=cl K2
def K4:=cl K3
def K5:=cr K3
def K6:=cl K5
def K7:=cl K6
def K8:=cr K6
def K9:=cl K8
def rq:=cr K8
def K11:=cr K5
def K12:=cl K11
def K13:=cr K11
abbrev gl (R:Rr):Gl:=Gl.fn prog 102 23 R
def pt4 (R:Rr)(v0:Value)(x1:Int)(Z22:Hp):Prop:=∀(J:Env),At (gl R) [.code K4,.code K5,.inBlock 1,.inLoop K2,.inBlock 0] (Mf J [(0,v0),(1,(.I x1))]) [] Z22
def start {R:Rr}{v0:Value}{x1:Int}{Z22:Hp}(h:AL (x1-1)/\2≠(0:Int)/\∀x7:Int,x7=IntKind.i64.wrap (Int.tdiv (x1-1) 2)->((x7:Int)=x1->R (.T #[]) Z22)/\(¬((x7:Int)=x1)->MC prog v0 UI #[(.I x1),(.I x7)] Z22 (AY R (λv Z1=>∃t15:Bool,v=(.bool t15)/\(t15=false->R (.T #[]) Z1)/\(t15=true->MC prog v0 R5 #[(.I x7),(.I x1)] Z1 (AY R (λma Ci=>ma=(.tuple #[])/\pt4 R v0 x7 Ci))))))):Spec prog 102 #[v0,(.I x1)] Z22 R:=by
 refine Spec.Vx (fn:=f102) (c:=K0) func102 (by kernel_rfl) (Akd (by kernel_rfl)) (λe he=>?_);refine At.ofL (l:=[(0,v0),(1,(.I x1))]) ⟨he 0,he 1,trivial⟩ (λJ=>?_);show At (gl R) _ _ _ _
 refine At.b 0 K1 ?_;refine At.loop (x:=K2) (by kernel_rfl) ?_;refine At.b 1 K3 ?_;refine At.s K4 K5 ?_;refine At.rg 0 [0,1,2,3] ?_;refine Seq.u 5 (.I x1) ?_;obtain⟨hi,h⟩:=h;refine Seq.z 6 (.binOp .sub 3 (.tmp 5) (.const (.I 1)) 3) 3 (.I (x1-1)) (Y.uV hi rfl rfl) ?_;obtain⟨hc,h⟩:=h;obtain⟨x7,G⟩:∃y,y=IntKind.i64.wrap (Int.tdiv (x1-1) 2):=⟨_,rfl⟩
 replace h:=h x7 G
 refine Seq.y (d:=(some 7)) (op:=(.binOp .quo 3 (.tmp 6) (.const (.I 2)) 3)) (ty:=3) (v:=(.I x7)) (by kernel_rfl) rfl (G▸Y.quo hc rfl rfl) ?_;refine Seq.u 4 (.I x7) (Seq.done ?_);refine At.s K6 K11 (At.s K7 K8 ?_);refine At.rg 1 [0,1,2,3,4,5,6,7,8,9] ?_;refine Seq.us [(8,.I x7),(9,.I x1),(10,.bool (decide ((x7:Int)=x1))),(11,.bool (decide ((x7:Int)=x1)))] ?_;cases hb:(decide ((x7:Int)=x1)) with
 | true=>
  replace h:=h.1 (Ajx hb)
  refine Seq.n 12 ?_;refine Seq.n 13 ?_;refine Seq.n 14 ?_;refine Seq.n 15 ?_;refine Seq.n 16 ?_;refine Seq.u 17 (.bool true) (Seq.done ?_);refine At.cT 17 K9 rq ?_;refine At.x 0 [] ?_;exact At.iR (rs:=[]) (vs:=[]) func102 (by kernel_rfl) rfl h
 | false=>
  replace h:=h.2 (AkM hb)
  refine Seq.us [(12,v0),(13,.I x1),(14,.I x7)] ?_;refine Seq.o ?_;refine AW.inv (g:=(gl R)) (u:=v0) (vs:=#[(.I x1),(.I x7)]) (name:=UI) (d:=(some 15)) (x:=(.tmp 12)) (xs:=#[(.tmp 13),(.tmp 14)]) (ts:=#[3,3]) (ty:=4) (gd:=(some (3,false))) (by kernel_rfl) rfl rfl rfl rfl (h.cont (λv Z1 h2=>?_));replace h:=h2;clear h2;obtain⟨t15,rfl,h⟩:=h;refine Seq.us [(16,.bool (!t15)),(17,.bool (!t15))] (Seq.done ?_);cases hb:(!t15) with
  | true=>
   replace h:=h.1 (Tw.nt hb)
   refine At.cT 17 K9 rq ?_;refine At.x 0 [] ?_;exact At.iR (rs:=[]) (vs:=[]) func102 (by kernel_rfl) rfl h
  | false=>
   replace h:=h.2 (Tw.nf hb)
   refine At.cF 17 K9 rq ?_;refine At.skip ?_;refine At.s K12 K13 ?_;refine At.rg 2 [0,1,2,3] ?_;refine Seq.us [(18,v0),(19,.I x7),(20,.I x1)] ?_;refine Seq.o ?_;refine AW.inv (g:=(gl R)) (u:=v0) (vs:=#[(.I x7),(.I x1)]) (name:=R5) (d:=(some 21)) (x:=(.tmp 18)) (xs:=#[(.tmp 19),(.tmp 20)]) (ts:=#[3,3]) (ty:=0) (gd:=none) (by kernel_rfl) rfl rfl rfl rfl (h.cont (λma Ci h2=>?_));replace h:=h2;clear h2;obtain⟨rfl,h⟩:=h;refine Seq.done ?_;refine At.rg 3 [0,1] ?_;refine Seq.us [(22,.I x7),(1,.I x7)] (Seq.done ?_);refine At.inBlock ?_;refine At.inLoop ?_;refine At.b 1 K3 ?_;refine At.s K4 K5 ?_;exact At.v [(0,v0),(1,(.I x7))] (h _)
def ALL {R:Rr}{v0:Value}{x1:Int}{Z22:Hp}(h:AL (x1-1)/\2≠(0:Int)/\∀x7:Int,x7=IntKind.i64.wrap (Int.tdiv (x1-1) 2)->((x7:Int)=x1->R (.T #[]) Z22)/\(¬((x7:Int)=x1)->MC prog v0 UI #[(.I x1),(.I x7)] Z22 (AY R (λv Z1=>∃t15:Bool,v=(.bool t15)/\(t15=false->R (.T #[]) Z1)/\(t15=true->MC prog v0 R5 #[(.I x7),(.I x1)] Z1 (AY R (λma Ci=>ma=(.tuple #[])/\pt4 R v0 x7 Ci))))))):pt4 R v0 x1 Z22:=by
 intro J;show At (gl R) _ _ _ _
 refine At.rg 0 [0,1,2,3] ?_;refine Seq.u 5 (.I x1) ?_;obtain⟨hi,h⟩:=h;refine Seq.z 6 (.binOp .sub 3 (.tmp 5) (.const (.I 1)) 3) 3 (.I (x1-1)) (Y.uV hi rfl rfl) ?_;obtain⟨hc,h⟩:=h;obtain⟨x7,G⟩:∃y,y=IntKind.i64.wrap (Int.tdiv (x1-1) 2):=⟨_,rfl⟩
 replace h:=h x7 G
 refine Seq.y (d:=(some 7)) (op:=(.binOp .quo 3 (.tmp 6) (.const (.I 2)) 3)) (ty:=3) (v:=(.I x7)) (by kernel_rfl) rfl (G▸Y.quo hc rfl rfl) ?_;refine Seq.u 4 (.I x7) (Seq.done ?_);refine At.s K6 K11 (At.s K7 K8 ?_);refine At.rg 1 [0,1,2,3,4,5,6,7,8,9] ?_;refine Seq.us [(8,.I x7),(9,.I x1),(10,.bool (decide ((x7:Int)=x1))),(11,.bool (decide ((x7:Int)=x1)))] ?_;cases hb:(decide ((x7:Int)=x1)) with
 | true=>
  replace h:=h.1 (Ajx hb)
  refine Seq.n 12 ?_;refine Seq.n 13 ?_;refine Seq.n 14 ?_;refine Seq.n 15 ?_;refine Seq.n 16 ?_;refine Seq.u 17 (.bool true) (Seq.done ?_);refine At.cT 17 K9 rq ?_;refine At.x 0 [] ?_;exact At.iR (rs:=[]) (vs:=[]) func102 (by kernel_rfl) rfl h
 | false=>
  replace h:=h.2 (AkM hb)
  refine Seq.us [(12,v0),(13,.I x1),(14,.I x7)] ?_;refine Seq.o ?_;refine AW.inv (g:=(gl R)) (u:=v0) (vs:=#[(.I x1),(.I x7)]) (name:=UI) (d:=(some 15)) (x:=(.tmp 12)) (xs:=#[(.tmp 13),(.tmp 14)]) (ts:=#[3,3]) (ty:=4) (gd:=(some (3,false))) (by kernel_rfl) rfl rfl rfl rfl (h.cont (λv Z1 h2=>?_));replace h:=h2;clear h2;obtain⟨t15,rfl,h⟩:=h;refine Seq.us [(16,.bool (!t15)),(17,.bool (!t15))] (Seq.done ?_);cases hb:(!t15) with
  | true=>
   replace h:=h.1 (Tw.nt hb)
   refine At.cT 17 K9 rq ?_;refine At.x 0 [] ?_;exact At.iR (rs:=[]) (vs:=[]) func102 (by kernel_rfl) rfl h
  | false=>
   replace h:=h.2 (Tw.nf hb)
   refine At.cF 17 K9 rq ?_;refine At.skip ?_;refine At.s K12 K13 ?_;refine At.rg 2 [0,1,2,3] ?_;refine Seq.us [(18,v0),(19,.I x7),(20,.I x1)] ?_;refine Seq.o ?_;refine AW.inv (g:=(gl R)) (u:=v0) (vs:=#[(.I x7),(.I x1)]) (name:=R5) (d:=(some 21)) (x:=(.tmp 18)) (xs:=#[(.tmp 19),(.tmp 20)]) (ts:=#[3,3]) (ty:=0) (gd:=none) (by kernel_rfl) rfl rfl rfl rfl (h.cont (λma Ci h2=>?_));replace h:=h2;clear h2;obtain⟨rfl,h⟩:=h;refine Seq.done ?_;refine At.rg 3 [0,1] ?_;refine Seq.us [(22,.I x7),(1,.I x7)] (Seq.done ?_);refine At.inBlock ?_;refine At.inLoop ?_;refine At.b 1 K3 ?_;refine At.s K4 K5 ?_;exact At.v [(0,v0),(1,(.I x7))] (h _)
end EI
namespace UZ
variable {DR DT VC QS JP MO Cm CN E8 EK Dg Dj:Int}{VD E9:ByteArray}{cV Wd FC FP:Option Addr}{al cW Vh We FD FE FG FQ:Nat}{RO EU:Bool}
def M:Fw:=⟨prog,112,f112,[],[2,3],false,[],[],[]⟩
def ok:M.Ok:=⟨AH.nil,mixed,func112,by kernel_rfl⟩
def start (h:∀b2:Nat,∀b3:Nat,Br (DR=Cm) (Br (DT=CN) (Bo (ByteArray.toList VD==ByteArray.toList E9) (Br (VC=E8) (Br (QS=EK) (Br (JP=Dg) (Bo RO (Bo EU (R (.returned (.bool (decide (MO=Dj)))) Z22) (R (.B false) Z22)) (Bo EU (R (.B false) Z22) (R (.returned (.bool (decide (MO=Dj)))) Z22))) (R (.B false) Z22)) (R (.B false) Z22)) (R (.B false) Z22)) (R (.B false) Z22)) (R (.B false) Z22)) (R (.B false) Z22)):Spec prog 112 #[.agg #[.I DR,.I DT,.string VD,.slice cV al cW,.I VC,.I QS,.I JP,.slice Wd Vh We,.bool RO,.I MO],.agg #[.I Cm,.I CN,.string E9,.slice FC FD FE,.I E8,.I EK,.I Dg,.slice FP FG FQ,.bool EU,.I Dj]] Z22 R:=M.start h ok
end UZ
namespace Xo
variable {x0:Int}
def M:Fw:=⟨prog,117,f117,[],[],false,[],[],[]⟩
def ok:M.Ok:=⟨AH.nil,mixed,func117,by kernel_rfl⟩
def start (h:Br (1<=x0) (R (.returned (.bool (decide (x0<=4)))) Z22) (R (.B false) Z22)):Spec prog 117 #[.I x0] Z22 R:=M.start h ok
end Xo
namespace Au
variable {q0 p3:Option Addr}{n3 c3:Nat}
def M:Fw:=⟨prog,122,f122,[97,98,137,138],[],false,[],[],[(480,[(0,wQ),(3,wL)]),(965,[(0,wQ),(3,wL)])]⟩
def ok:M.Ok:=⟨.cons call97 (.cons call98 (.cons call137 (.cons call138 (AH.nil)))),mixed,func122,by kernel_rfl⟩
def CD:=M.pt 0
def SH:=M.pt 1
def start (h:AG 137 #[.pointer q0,(.string (ByteArray.mk #[40]))] Z22 R (λz y=>z=(.tuple #[])/\CD R q0 none 0 0 y)):Spec prog 122 #[.pointer q0] Z22 R:=M.start h ok
def A5 (h:AG 98 #[.pointer q0,.I 5,(.string (ByteArray.mk #[41]))] Z22 R (CB λt7 y=>Bn t7 (Br (0<(n3:Int)) (AG 137 #[.pointer q0,(.string (ByteArray.mk #[44]))] y R (λz G=>z=(.tuple #[])/\SH R q0 p3 n3 c3 G)) (SH R q0 p3 n3 c3 y)) (AG 97 #[.pointer q0] y R (λz G=>∃Kc fK AZc AZd,z=(.agg #[.I Kc,.I fK,.string AZc,.I AZd])/\R (.returned (.slice p3 n3 c3)) G)))):CD R q0 p3 n3 c3 Z22:=M.of h ok rfl
def Eu (h:AG 138 #[.pointer q0] Z22 R (CT λG y=>Al y λH9=>AI prog (G1 125 p3 n3 c3 H9) (Hp.set y H9 (.cells #[.string G] 9 (0,0))) (CS λzc n18 xv AE=>CD R q0 zc n18 xv AE))):SH R q0 p3 n3 c3 Z22:=M.of h ok rfl
end Au
namespace C5
variable {q0:Option Addr}
def M:Fw:=⟨prog,138,f138,[31,32,97,118],[],false,[],[],[(14,[(0,wQ)])]⟩
def ok:M.Ok:=⟨.cons call31 (.cons call32 (.cons call97 (.cons call118 (AH.nil)))),mixed,func138,by kernel_rfl⟩
def GQ:=M.pt 0
def start (h:AG 31 #[.pointer q0] Z22 R (λz y=>∃GC Hq Jj x4d,z=(.agg #[.I GC,.I Hq,.string Jj,.I x4d])/\Br (GC≠3) (AG 32 #[.pointer q0] y R (λz AE=>z=(.tuple #[])/\GQ R q0 AE)) (AG 31 #[.pointer q0] y R (λz AE=>∃x9a x9b G x9d,z=(.agg #[.I x9a,.I x9b,.string G,.I x9d])/\AG 118 #[.string G] AE R (CB λt11 AK=>Bn t11 (AG 32 #[.pointer q0] AK R (λz Ai=>z=(.tuple #[])/\GQ R q0 Ai)) (GQ R q0 AK)))))):Spec prog 138 #[.pointer q0] Z22 R:=M.start h ok
def BI (h:AG 97 #[.pointer q0] Z22 R (λz y=>∃Tm jx G AZe,z=(.agg #[.I Tm,.I jx,.string G,.I AZe])/\R (.returned (.string G)) y)):GQ R q0 Z22:=M.of h ok rfl
end C5
namespace Ua
variable {s0:ByteArray}
def M:Fw:=⟨prog,152,f152,[181,182,183],[],false,[],[],[]⟩
def ok:M.Ok:=⟨.cons call181 (.cons call182 (.cons call183 (AH.nil))),mixed,func152,by kernel_rfl⟩
def start (h:AG 181 #[.string s0] Z22 R (CB λt7 y=>Bn t7 (R (.T #[.U 0,.bool false]) y) (AG 182 #[.string s0,.I 64] y R (λz AE=>∃G vg,z=(.tuple #[G,vg])/\AG 183 #[G] AE R (CI .u64 λx15 AK=>R (.T #[.U x15,.bool true]) AK))))):Spec prog 152 #[.string s0] Z22 R:=M.start h ok
end Ua
namespace Ub
variable {DR DT VC QS JP MO x1 x2:Int}{VD:ByteArray}{cV Wd:Option Addr}{al cW Vh We:Nat}{RO:Bool}
def M:Fw:=⟨prog,168,f168,[213,214,215],[3],false,[],[],[]⟩
def ok:M.Ok:=⟨.cons call213 (.cons call214 (.cons call215 (AH.nil))),mixed,func168,by kernel_rfl⟩
def start (h:∀b3:Nat,AG 213 #[.I DT,.U x1,.U x2] Z22 R (λz y=>∃Tm AAX,z=(.tuple #[.U Tm,.bool AAX])/\Bo AAX (R (.T #[.U Tm,.bool true]) y) (AG 214 #[.I DT,.U x1,.U x2] y R (λz AE=>∃G AZf,z=(.tuple #[.bool G,.bool AZf])/\AG 215 #[.bool G] AE R (CI .u64 λvG AK=>R (.T #[.U vG,.bool G]) AK))))):Spec prog 168 #[.agg #[.I DR,.I DT,.string VD,.slice cV al cW,.I VC,.I QS,.I JP,.slice Wd Vh We,.bool RO,.I MO],.U x1,.U x2] Z22 R:=M.start h ok
end Ub
namespace Ap
variable {q0 FC FP p2 p3 LZ Lh G3 G6 Ka zh p66:Option Addr}{Cm CN E8 EK Dg Dj IV IW Ld Lf Lg Lk FH FT fC VA oz x68:Int}{E9 Jr:ByteArray}{FD FE FG FQ n2 c2 n3 c3 La Lc Li Lj G4 G5 G7 G8 n14 JR n35 oR n66 sQ:Nat}{EU NY:Bool}{m10 m12:Option Nat}
def M:Fw:=⟨prog,172,f172,[107,160,216,217],[5,8,16,17,20,21],false,[],[],[(1000,[(3,wL),(5,.X 127 [.I .i64,.I .i64,.T,.L,.I .i64,.I .i64,.I .i64,.L,.B,.I .i64]),(8,.X 164 [.I .i64,.I .u64,.L,.L]),(10,wM),(12,wM),(14,wL),(35,wL),(36,wI),(37,wI)]),(2024,[(5,.X 127 [.I .i64,.I .i64,.T,.L,.I .i64,.I .i64,.I .i64,.L,.B,.I .i64]),(8,.X 164 [.I .i64,.I .u64,.L,.L]),(10,wM),(14,wL),(66,wL),(67,wI),(68,wI)]),(8103,[(5,.X 127 [.I .i64,.I .i64,.T,.L,.I .i64,.I .i64,.I .i64,.L,.B,.I .i64]),(8,.X 164 [.I .i64,.I .u64,.L,.L]),(10,wM),(14,wL),(66,wL),(67,wI),(68,wI)]),(4007,[(3,wL),(5,.X 127 [.I .i64,.I .i64,.T,.L,.I .i64,.I .i64,.I .i64,.L,.B,.I .i64]),(8,.X 164 [.I .i64,.I .u64,.L,.L]),(10,wM),(12,wM),(14,wL),(35,wL),(36,wI),(37,wI)])]⟩
def ok:M.Ok:=⟨.cons call107 (.cons call160 (.cons call216 (.cons call217 (AH.nil)))),mixed,func172,by kernel_rfl⟩
def AE8:=M.pt 0
def Th:=M.pt 1
def SI:=M.pt 2
def SS:=M.pt 3
def start (h:∀b5:Nat,∀b8:Nat,AG 216 #[.agg #[.I Cm,.I CN,.string E9,.slice FC FD FE,.I E8,.I EK,.I Dg,.slice FP FG FQ,.bool EU,.I Dj],.slice p2 n2 c2] Z22 R (λz y=>∃G AZg,z=(.tuple #[.map G,.bool AZg])/\AG 216 #[.agg #[.I Cm,.I CN,.string E9,.slice FC FD FE,.I E8,.I EK,.I Dg,.slice FP FG FQ,.bool EU,.I Dj],.slice p3 n3 c3] y R (λz AE=>∃ASC AZh,z=(.tuple #[.map ASC,.bool AZh])/\AE8 R p3 n3 c3 Cm CN E9 FC FD FE E8 EK Dg FP FG FQ EU Dj 0 0 none 0 0 none 0 0 G ASC none 0 0 p2 n2 c2 (n2:Int) 0 AE))):Spec prog 172 #[.pointer q0,.agg #[.I Cm,.I CN,.string E9,.slice FC FD FE,.I E8,.I EK,.I Dg,.slice FP FG FQ,.bool EU,.I Dj],.slice p2 n2 c2,.slice p3 n3 c3] Z22 R:=M.start h ok
def sW (h:Br (VA<fC) (Pq zh λsO G=>In VA (n35:Int)/\∃AA1 AA2 AA3 Xm,A2 Z22 sO (G+VA.toNat*2) [.slice AA1 AA2 AA3,.U Xm]/\∀UO:Nat,AG 217 #[.agg #[.I IV,.I IW,.string Jr,.slice LZ La Lc,.I Ld,.I Lf,.I Lg,.slice Lh Li Lj,.bool NY,.I Lk],.slice AA1 AA2 AA3] Z22 R (CS λsF n46 ot y=>AG 107 #[.slice sF n46 ot] y R (CT λs47 AE=>AI prog (Instr.lookup 291 (.map m12) (.string s47) true) AE (λz AK=>∃ASD ASE ASF ASG ASH,z=(.tuple #[.agg #[.slice ASD ASE ASF,.U ASG],.bool ASH])/\∀H9:Nat,Br (IW=12) (Al AK λvh=>AI prog (G1 105 Ka n14 JR vh) (Hp.set AK vh (.cells #[.slice AA1 AA2 AA3,.U Xm] 109 (0,0))) (CS λyG va yH Ai=>SS R p3 n3 c3 IV IW Jr LZ La Lc Ld Lf Lg Lh Li Lj NY Lk FH FT G3 G4 G5 G6 G7 G8 m10 m12 yG va yH (aD sO G) n35 oR fC VA Ai)) (Bo ASH (Br (IW=11) (Al AK λvh=>AI prog (G1 105 Ka n14 JR vh) (Hp.set AK vh (.cells #[.slice AA1 AA2 AA3,.U Xm] 109 (0,0))) (CS λyG va yH Ai=>SS R p3 n3 c3 IV IW Jr LZ La Lc Ld Lf Lg Lh Li Lj NY Lk FH FT G3 G4 G5 G6 G7 G8 m10 m12 yG va yH (aD sO G) n35 oR fC VA Ai)) (SS R p3 n3 c3 IV IW Jr LZ La Lc Ld Lf Lg Lh Li Lj NY Lk FH FT G3 G4 G5 G6 G7 G8 m10 m12 Ka n14 JR (aD sO G) n35 oR fC VA AK)) (Br (IW=11) (SS R p3 n3 c3 IV IW Jr LZ La Lc Ld Lf Lg Lh Li Lj NY Lk FH FT G3 G4 G5 G6 G7 G8 m10 m12 Ka n14 JR (aD sO G) n35 oR fC VA AK) (Al AK λvh=>AI prog (G1 105 Ka n14 JR vh) (Hp.set AK vh (.cells #[.slice AA1 AA2 AA3,.U Xm] 109 (0,0))) (CS λyG va yH Ai=>SS R p3 n3 c3 IV IW Jr LZ La Lc Ld Lf Lg Lh Li Lj NY Lk FH FT G3 G4 G5 G6 G7 G8 m10 m12 yG va yH (aD sO G) n35 oR fC VA Ai)))))))) (Th R IV IW Jr LZ La Lc Ld Lf Lg Lh Li Lj NY Lk FH FT G3 G4 G5 G6 G7 G8 m10 Ka n14 JR p3 n3 c3 (n3:Int) 0 Z22)):AE8 R p3 n3 c3 IV IW Jr LZ La Lc Ld Lf Lg Lh Li Lj NY Lk FH FT G3 G4 G5 G6 G7 G8 m10 m12 Ka n14 JR zh n35 oR fC VA Z22:=M.oO h ok rfl λ_ _=>by kernel_rfl
def Vj (h:Br (x68<oz) (Pq p66 λG o70=>In x68 (n66:Int)/\∃ALN ALO ALP ASI,A2 Z22 G (o70+x68.toNat*2) [.slice ALN ALO ALP,.U ASI]/\∀iG:Nat,AG 217 #[.agg #[.I IV,.I IW,.string Jr,.slice LZ La Lc,.I Ld,.I Lf,.I Lg,.slice Lh Li Lj,.bool NY,.I Lk],.slice ALN ALO ALP] Z22 R (CS λp77 n77 c77 y=>AG 107 #[.slice p77 n77 c77] y R (CT λs78 AE=>AI prog (Instr.lookup 291 (.map m10) (.string s78) true) AE (λz AK=>∃ASJ ASK ASL ASM ASN,z=(.tuple #[.agg #[.slice ASJ ASK ASL,.U ASM],.bool ASN])/\∀rn:Nat,Bn ASN (Br (IW=12) (Al AK λb91=>AI prog (G1 105 Ka n14 JR b91) (Hp.set AK b91 (.cells #[.slice ALN ALO ALP,.U ASI] 109 (0,0))) (CS λp92 n92 c92 Ai=>SI R IV IW Jr LZ La Lc Ld Lf Lg Lh Li Lj NY Lk FH FT G3 G4 G5 G6 G7 G8 m10 p92 n92 c92 (aD G o70) n66 sQ oz x68 Ai)) (SI R IV IW Jr LZ La Lc Ld Lf Lg Lh Li Lj NY Lk FH FT G3 G4 G5 G6 G7 G8 m10 Ka n14 JR (aD G o70) n66 sQ oz x68 AK)) (SI R IV IW Jr LZ La Lc Ld Lf Lg Lh Li Lj NY Lk FH FT G3 G4 G5 G6 G7 G8 m10 Ka n14 JR (aD G o70) n66 sQ oz x68 AK))))) (AG 160 #[.slice Ka n14 JR] Z22 R (λz y=>∃AH8 AH9 AIA AIB AIC AID AIE AIF ASO,z=(.tuple #[.agg #[.I AH8,.U AH9,.slice AIA AIB AIC,.slice AID AIE AIF],.I ASO])/\R (.T #[.agg #[.I AH8,.U AH9,.slice AIA AIB AIC,.slice AID AIE AIF],.I ASO]) y))):Th R IV IW Jr LZ La Lc Ld Lf Lg Lh Li Lj NY Lk FH FT G3 G4 G5 G6 G7 G8 m10 Ka n14 JR p66 n66 sQ oz x68 Z22:=M.oO h ok rfl λ_ _=>by kernel_rfl
def fJ (h:AL (x68+1)/\Th R IV IW Jr LZ La Lc Ld Lf Lg Lh Li Lj NY Lk FH FT G3 G4 G5 G6 G7 G8 m10 Ka n14 JR p66 n66 sQ oz (x68+1) Z22):SI R IV IW Jr LZ La Lc Ld Lf Lg Lh Li Lj NY Lk FH FT G3 G4 G5 G6 G7 G8 m10 Ka n14 JR p66 n66 sQ oz x68 Z22:=M.oO h ok rfl λ_ _=>by kernel_rfl
def fL (h:AL (VA+1)/\AE8 R p3 n3 c3 IV IW Jr LZ La Lc Ld Lf Lg Lh Li Lj NY Lk FH FT G3 G4 G5 G6 G7 G8 m10 m12 Ka n14 JR zh n35 oR fC (VA+1) Z22):SS R p3 n3 c3 IV IW Jr LZ La Lc Ld Lf Lg Lh Li Lj NY Lk FH FT G3 G4 G5 G6 G7 G8 m10 m12 Ka n14 JR zh n35 oR fC VA Z22:=M.oO h ok rfl λ_ _=>by kernel_rfl
end Ap
namespace Ez
variable {p0 p1:Option Addr}{n0 c0 n1 c1:Nat}
def M:Fw:=⟨prog,201,f201,[202],[],false,[],[],[]⟩
def ok:M.Ok:=⟨.cons call202 (AH.nil),mixed,func201,by kernel_rfl⟩
def start (h:AG 202 #[.slice p0 n0 c0] Z22 R (CI .u64 λx6 y=>R (.returned (.U x6)) y)):Spec prog 201 #[.slice p0 n0 c0,.slice p1 n1 c1] Z22 R:=M.start h ok
end Ez
namespace MU
variable {s0a mZ:ByteArray}{b1:Nat}
def M:Fw:=⟨prog,210,f210,[209],[2],false,[],[],[]⟩
def ok:M.Ok:=⟨.cons call209 (AH.nil),mixed,func210,by kernel_rfl⟩
def start (h:∀b2:Nat,LS Z22 b1 0 λp4 n4 c4=>AG 209 #[.slice p4 n4 c4,.string s0a] Z22 R (CB λt7 y=>R (.returned (.bool (!t7))) y)):Spec prog 210 #[.agg #[.string s0a,.string mZ],(.pointer (aD b1 0))] Z22 R:=M.start h ok
end MU
namespace SU
variable {x0 x1 x2:Int}
def M:Fw:=⟨prog,214,f214,[192],[],false,[],[],[]⟩
def ok:M.Ok:=⟨.cons call192 (AH.nil),mixed,func214,by kernel_rfl⟩
def start (h:AG 192 #[.U x1] Z22 R (λz y=>∃x11,(Value.float .f64 x11)=z/\AG 192 #[.U x2] y R (λz G=>∃GB,(Value.float .f64 GB)=z/\Br (x0=5) (∃t19,YF prog ((do eqGuard .eql 258 (.tmp 17) (.tmp 18) (Value.float .f64 x11) (Value.float .f64 GB);binOp .eql 258 (Value.float .f64 x11) (Value.float .f64 GB))) G (.bool t19)/\R (.T #[.bool t19,.bool true]) G) (Br (x0=6) (∃t24,YF prog ((do eqGuard .neq 258 (.tmp 22) (.tmp 23) (Value.float .f64 x11) (Value.float .f64 GB);binOp .neq 258 (Value.float .f64 x11) (Value.float .f64 GB))) G (.bool t24)/\R (.T #[.bool t24,.bool true]) G) (Br (x0=7) (∃t29,YF prog ((do eqGuard .lss 258 (.tmp 27) (.tmp 28) (Value.float .f64 x11) (Value.float .f64 GB);binOp .lss 258 (Value.float .f64 x11) (Value.float .f64 GB))) G (.bool t29)/\R (.T #[.bool t29,.bool true]) G) (Br (x0=8) (∃t34,YF prog ((do eqGuard .leq 258 (.tmp 32) (.tmp 33) (Value.float .f64 x11) (Value.float .f64 GB);binOp .leq 258 (Value.float .f64 x11) (Value.float .f64 GB))) G (.bool t34)/\R (.T #[.bool t34,.bool true]) G) (Br (x0=9) (∃t39,YF prog ((do eqGuard .gtr 258 (.tmp 37) (.tmp 38) (Value.float .f64 x11) (Value.float .f64 GB);binOp .gtr 258 (Value.float .f64 x11) (Value.float .f64 GB))) G (.bool t39)/\R (.T #[.bool t39,.bool true]) G) (Br (x0=10) (∃t44,YF prog ((do eqGuard .geq 258 (.tmp 42) (.tmp 43) (Value.float .f64 x11) (Value.float .f64 GB);binOp .geq 258 (Value.float .f64 x11) (Value.float .f64 GB))) G (.bool t44)/\R (.T #[.bool t44,.bool true]) G) (R (.T #[.bool false,.bool false]) G))))))))):Spec prog 214 #[.I x0,.U x1,.U x2] Z22 R:=M.start h ok
end SU
namespace strings_Split
variable {s0 s1:ByteArray}
end strings_Split
namespace Hg
variable {p0 FC FP p2:Option Addr}{n0 c0 FD FE FG FQ n2 c2 b3:Nat}{Cm CN E8 EK Dg Dj:Int}{E9:ByteArray}{EU:Bool}
def M:Fw:=⟨prog,233,f233,[],[5],false,[],[],[]⟩
def ok:M.Ok:=⟨AH.nil,mixed,func233,by kernel_rfl⟩
def start (h:∀b5:Nat,∃v9,Hp.ld Z22 ⟨b3,0,none⟩=some v9/\∃(f11:Nat) (G jm:Array Value),v9=.func (.func f11) G jm/\Enters prog f11/\Spec prog f11 (G++#[.slice p0 n0 c0]++jm) Z22 (AY R (CI .u64 λx11 y=>R (.T #[.U x11,.bool true]) y))):Spec prog 233 #[.slice p0 n0 c0,.agg #[.I Cm,.I CN,.string E9,.slice FC FD FE,.I E8,.I EK,.I Dg,.slice FP FG FQ,.bool EU,.I Dj],.slice p2 n2 c2,(.pointer (aD b3 0))] Z22 R:=M.start h ok
end Hg
namespace Ln
variable {p0 FC FP p2:Option Addr}{n0 c0 FD FE FG FQ n2 c2 b3:Nat}{Cm CN E8 EK Dg Dj:Int}{E9:ByteArray}{EU:Bool}
def M:Fw:=⟨prog,235,f235,[],[5],false,[],[],[]⟩
def ok:M.Ok:=⟨AH.nil,mixed,func235,by kernel_rfl⟩
def start (h:∀b5:Nat,Br ((n0:Int)<2) (R (.T #[.U 0,.bool false]) Z22) (∃v12,Hp.ld Z22 ⟨b3,0,none⟩=some v12/\∃(f15:Nat) (G AII:Array Value),v12=.func (.func f15) G AII/\Enters prog f15/\Spec prog f15 (G++#[.slice p0 n0 c0,.slice p2 n2 c2]++AII) Z22 (AY R (CI .u64 λx15 y=>R (.T #[.U x15,.bool true]) y)))):Spec prog 235 #[.slice p0 n0 c0,.agg #[.I Cm,.I CN,.string E9,.slice FC FD FE,.I E8,.I EK,.I Dg,.slice FP FG FQ,.bool EU,.I Dj],.slice p2 n2 c2,(.pointer (aD b3 0))] Z22 R:=M.start h ok
end Ln
namespace AP
variable {q0:Option Addr}{b2:Nat}{t4:Bool}
def M:Fw:=⟨prog,242,f242,[31,32,97,98,100,137,263,264,265,266],[3],false,[],[],[(124,[(0,wQ),(2,wA),(4,wB)]),(252,[(0,wQ),(2,wA)]),(508,[(0,wQ),(2,wA)]),(255,[(0,wQ),(2,wA)])]⟩
def ok:M.Ok:=⟨.cons call31 (.cons call32 (.cons call97 (.cons call98 (.cons call100 (.cons call137 (.cons call263 (.cons call264 (.cons call265 (.cons call266 (AH.nil)))))))))),mixed,func242,by kernel_rfl⟩
def Gc:=M.pt 0
def HQ:=M.pt 1
def PF:=M.pt 2
def Wg:=M.pt 3
def start (h:Al Z22 λb2=>AI prog (Instr.storeAt 127 (.pointer (aD b2 0)) (.agg #[.I 2,.I 0,(.string (ByteArray.mk #[])),.N,.I 0,.I 0,.I 0,.N,.bool false,.I 0])) (Hp.set Z22 b2 (.cells #[.I 0,.I 0,(.string (ByteArray.mk #[])),.N,.I 0,.I 0,.I 0,.N,.bool false,.I 0] 127 (0,0))) (λ_ y=>AG 31 #[.pointer q0] y R (λz AE=>∃x7a x7b s7c x7d,z=(.agg #[.I x7a,.I x7b,.string s7c,.I x7d])/\∀b3:Nat,Br (x7a=3) (AG 263 #[.string s7c] AE R (CB λt14 AK=>Bn t14 (AG 97 #[.pointer q0] AK R (λz Ai=>∃J8 KZ VH G,z=(.agg #[.I J8,.I KZ,.string VH,.I G])/\AG 264 #[.pointer q0,(.pointer (aD b2 0)),(.agg #[.I 1,(.string (ByteArray.mk #[95,95,110,97,109,101,95,95])),.string s7c]),.agg #[.I x7a,.I x7b,.string s7c,.I x7d]] Ai R (λz CC=>z=(.tuple #[])/\Gc R q0 b2 true CC))) (Gc R q0 b2 false AK))) (Gc R q0 b2 false AE)))):Spec prog 242 #[.pointer q0] Z22 R:=M.start h ok
def EE (h:AG 98 #[.pointer q0,.I 5,(.string (ByteArray.mk #[123]))] Z22 R (CB λt27 y=>Bo t27 (AG 97 #[.pointer q0] y R (λz AE=>∃AZk G AZl AZm,z=(.agg #[.I AZk,.I G,.string AZl,.I AZm])/\AG 265 #[.pointer q0,(.pointer (aD b2 0))] AE R (λz AK=>z=(.tuple #[])/\HQ R q0 b2 AK))) (Bn t4 (AG 32 #[.pointer q0] y R (λz AE=>z=(.tuple #[])/\HQ R q0 b2 AE)) (HQ R q0 b2 y)))):Gc R q0 b2 t4 Z22:=M.of h ok rfl
def DZ (h:AG 98 #[.pointer q0,.I 5,(.string (ByteArray.mk #[91]))] Z22 R (CB λt37 y=>Bo t37 (AG 97 #[.pointer q0] y R (λz AE=>∃G AZn AZo AZp,z=(.agg #[.I G,.I AZn,.string AZo,.I AZp])/\AG 266 #[.pointer q0] AE R (CI .i64 λx41 AK=>AI prog (Instr.storeAt 3 (.pointer (aD b2 0)) (.I 3)) AK (λ_ Ai=>AI prog (Instr.storeAt 2 (.pointer (aD b2 4)) (.I x41)) Ai (λ_ CC=>AG 137 #[.pointer q0,(.string (ByteArray.mk #[93]))] CC R (λz G2=>z=(.tuple #[])/\PF R q0 b2 G2)))))) (PF R q0 b2 y))):HQ R q0 b2 Z22:=M.of h ok rfl
def Ll (h:AG 98 #[.pointer q0,.I 3,(.string (ByteArray.mk #[111,102,102,115,101,116]))] Z22 R (CB λt47 y=>Bo t47 (AG 97 #[.pointer q0] y R (λz AE=>∃G AZr AZs AZt,z=(.agg #[.I G,.I AZr,.string AZs,.I AZt])/\AG 266 #[.pointer q0] AE R (CI .i64 λx51 AK=>AI prog (Instr.storeAt 2 (.pointer (aD b2 5)) (.I x51)) AK (λ_ Ai=>Wg R q0 b2 Ai)))) (Wg R q0 b2 y))):PF R q0 b2 Z22:=M.of h ok rfl
def SE (h:∃j0 j1 G j3 j4 j5 AA5 AA6 AA7 AA8 AA9 ABA ABB ABC,A2 Z22 b2 0 [.I j0,.I j1,.string G,.slice j3 j4 j5,.I AA5,.I AA6,.I AA7,.slice AA8 AA9 ABA,.bool ABB,.I ABC]/\AG 100 #[.pointer q0,.agg #[.I j0,.I j1,.string G,.slice j3 j4 j5,.I AA5,.I AA6,.I AA7,.slice AA8 AA9 ABA,.bool ABB,.I ABC]] Z22 R (λz y=>z=(.tuple #[])/\R (.T #[]) y)):Wg R q0 b2 Z22:=M.of h ok rfl
end AP
namespace Aj
variable {q0 q1:Option Addr}{t4:Bool}{IV:Int}{s5b Jr:ByteArray}
def M:Fw:=⟨prog,265,f265,[31,32,95,97,98,137,138,264],[5,6],false,[],[],[(80,[(0,wQ),(1,wQ),(4,wB)]),(658,[(0,wQ),(1,wQ)]),(5278,[(0,wQ),(1,wQ),(5,.X 172 [.I .i64,.T,.T])]),(21118,[(0,wQ),(1,wQ),(5,.X 172 [.I .i64,.T,.T])])]⟩
def ok:M.Ok:=⟨.cons call31 (.cons call32 (.cons call95 (.cons call97 (.cons call98 (.cons call137 (.cons call138 (.cons call264 (AH.nil)))))))),mixed,func265,by kernel_rfl⟩
def jo:=M.pt 0
def HR:=M.pt 1
def SS:=M.pt 2
def PF:=M.pt 3
def start (h:jo R q0 q1 true Z22):Spec prog 265 #[.pointer q0,.pointer q1] Z22 R:=M.start h ok
def NS (h:AG 98 #[.pointer q0,.I 5,(.string (ByteArray.mk #[125]))] Z22 R (CB λt8 y=>Bn t8 (Bn t4 (AG 137 #[.pointer q0,(.string (ByteArray.mk #[44]))] y R (λz G=>z=(.tuple #[])/\HR R q0 q1 G)) (HR R q0 q1 y)) (AG 97 #[.pointer q0] y R (λz G=>∃AZu pH AZv AZw,z=(.agg #[.I AZu,.I pH,.string AZv,.I AZw])/\R (.T #[]) G)))):jo R q0 q1 t4 Z22:=M.of h ok rfl
def CF (h:AG 138 #[.pointer q0] Z22 R (CT λG y=>∀b5:Nat,Al y λH9=>AG 31 #[.pointer q0] (Hp.set y H9 (.cells #[(.string (ByteArray.mk #[])),(.string (ByteArray.mk #[61])),(.string (ByteArray.mk #[33,61])),(.string (ByteArray.mk #[61,126])),(.string (ByteArray.mk #[33,126]))] 9 (0,0))) R (λz AE=>∃J8 KZ VH AAp,z=(.agg #[.I J8,.I KZ,.string VH,.I AAp])/\AG 95 #[(.slice (aD H9 0) 5 5),.string VH] AE R (CI .i64 λaO AK=>AG 31 #[.pointer q0] AK R (λz Ai=>∃fM af AE9 AZx,z=(.agg #[.I fM,.I af,.string AE9,.I AZx])/\Br (fM≠5) (AG 32 #[.pointer q0] Ai R (λz CC=>z=(.tuple #[])/\SS R q0 q1 aO G (ByteArray.mk #[]) CC)) (Br (aO=0) (AG 32 #[.pointer q0] Ai R (λz CC=>z=(.tuple #[])/\SS R q0 q1 aO G (ByteArray.mk #[]) CC)) (SS R q0 q1 aO G (ByteArray.mk #[]) Ai))))))):HR R q0 q1 Z22:=M.of h ok rfl
def fL (h:AG 97 #[.pointer q0] Z22 R (λz y=>∃AZy AZz G AZ1,z=(.agg #[.I AZy,.I AZz,.string G,.I AZ1])/\AG 31 #[.pointer q0] y R (λz AE=>∃fH fI AZ2 AZ3,z=(.agg #[.I fH,.I fI,.string AZ2,.I AZ3])/\Br (fH≠4) (AG 32 #[.pointer q0] AE R (λz AK=>z=(.tuple #[])/\PF R q0 q1 IV s5b Jr AK)) (PF R q0 q1 IV s5b Jr AE)))):SS R q0 q1 IV s5b Jr Z22:=M.WQ h ok rfl λ_=>by kernel_rfl
def Ll (h:AG 97 #[.pointer q0] Z22 R (λz y=>∃QZ LY NW G,z=(.agg #[.I QZ,.I LY,.string NW,.I G])/\∀b6:Nat,AG 264 #[.pointer q0,.pointer q1,.agg #[.I IV,.string s5b,.string NW],.agg #[.I QZ,.I LY,.string NW,.I G]] y R (λz AE=>z=(.tuple #[])/\jo R q0 q1 false AE))):PF R q0 q1 IV s5b Jr Z22:=M.WQ h ok rfl λ_=>by kernel_rfl
end Aj
namespace DP
variable {s0 s1:ByteArray}
def M:Fw:=⟨prog,321,f321,[],[],false,[],[],[]⟩
def ok:M.Ok:=⟨AH.nil,mixed,func321,by kernel_rfl⟩
def start (h:Br (((s1.size:Int):Int)<=(s0.size:Int)) (∃G,YF prog (Instr.sliceAt 9 (.string s0) none (some (.I (s1.size:Int))) none) Z22 (.string G)/\R (.returned (.bool (ByteArray.toList G==ByteArray.toList s1))) Z22) (R (.B false) Z22)):Spec prog 321 #[.string s0,.string s1] Z22 R:=M.start h ok
end DP
namespace CM
variable {q0:Option Addr}{v1:Value}
def M:Fw:=⟨prog,363,f363,[],[],false,[(0,9,false)],[],[]⟩
def ok:M.Ok:=⟨AH.nil,mixed,func363,by kernel_rfl⟩
def start (h:Pq q0 λb6 G=>LS Z22 b6 G λp7 n7 c7=>AI prog (Instr.typeAssert v1 20 150 false) Z22 (CQ λq9 y=>Kp [b6] Z22 y/\Al y λDk=>AI prog (G1 147 p7 n7 c7 Dk) (Hp.set y Dk (.cells #[.pointer q9] 150 (0,0))) (CS λMu n11 Mv AE=>AI prog (Instr.storeAt 147 (.pointer (aD b6 G)) (.slice Mu n11 Mv)) AE (λ_ AK=>R (.T #[]) AK)))):Spec prog 363 #[.pointer q0,v1] Z22 R:=M.DL h ok [(0,.o (.Q q0)),(1,.o (.V v1))] rfl rfl (by kernel_rfl)
end CM
end TwW
end
end
section
set_option maxRecDepth 100000
noncomputable section
namespace TwW
open Go Tw Go.Proofs.Tryz
variable [GO]{R:Rr}{Z22:Hp}

namespace AT
variable {q0 p5 sE:Option Addr}{x3 x4 MN Ce:Int}{n5 c5 n17 cR:Nat}
def M:Fw:=⟨prog,21,f21,[33,53],[7],false,[],[],[(488,[(0,wQ),(3,wI),(4,wI),(5,wL),(17,wL),(18,wI),(19,wI)]),(1959,[(0,wQ),(3,wI),(4,wI),(5,wL),(17,wL),(18,wI),(19,wI)])]⟩
def ok:M.Ok:=⟨.cons call33 (.cons call53 (AH.nil)),mixed,func21,by kernel_rfl⟩
def Dp:=M.pt 0
def RR:=M.pt 1
def start (h:AG 33 #[.pointer q0] Z22 R (λz y=>∃IF u5,z=(.tuple #[.I IF,.I u5])/\Pq q0 λHo Ji=>∃G vT ASR ASS AST,A2 y Ho (Ji+7) [.U G,.I vT,.slice ASR ASS AST]/\AG 53 #[.agg #[.U G,.I vT,.slice ASR ASS AST]] y R (CS λsE n17 cR AE=>Dp R (aD Ho Ji) IF u5 none 0 0 sE n17 cR (n17:Int) 0 AE))):Spec prog 21 #[.pointer q0] Z22 R:=M.start h ok
def Bp (h:Br (Ce<MN) (Pq sE λrn xy=>In Ce (n17:Int)/\∃vH zk vI AER AES AET AEU AEV AEW,A2 Z22 rn (xy+Ce.toNat*7) [.U vH,.I zk,.I vI,.I AER,.slice AES AET AEU,.I AEV,.I AEW]/\∀b7:Nat,Pq q0 λG iF=>LB Z22 G (iF+6) λt26=>Bo t26 (Br (zk<=x4) (Br (x3<=vI) (LI .i64 Z22 G ((iF+7)+1) λx46=>Br (x46<=vI) (LM Z22 G (iF+10) λm53=>AI prog (Instr.lookup 70 (.map m53) (.U vH) false) Z22 (CI .i64 λx56 y=>Br (x56=0) (Al y λb62=>AI prog (G1 60 p5 n5 c5 b62) (Hp.set y b62 (.cells #[.U vH] 27 (0,0))) (CS λp63 n63 c63 AE=>RR R (aD G iF) x3 x4 p63 n63 c63 (aD rn xy) n17 cR MN Ce AE)) (RR R (aD G iF) x3 x4 p5 n5 c5 (aD rn xy) n17 cR MN Ce y))) (RR R (aD G iF) x3 x4 p5 n5 c5 (aD rn xy) n17 cR MN Ce Z22)) (RR R (aD G iF) x3 x4 p5 n5 c5 (aD rn xy) n17 cR MN Ce Z22)) (RR R (aD G iF) x3 x4 p5 n5 c5 (aD rn xy) n17 cR MN Ce Z22)) (RR R (aD G iF) x3 x4 p5 n5 c5 (aD rn xy) n17 cR MN Ce Z22)) (R (.returned (.slice p5 n5 c5)) Z22)):Dp R q0 x3 x4 p5 n5 c5 sE n17 cR MN Ce Z22:=M.of h ok rfl
def SD (h:AL (Ce+1)/\Dp R q0 x3 x4 p5 n5 c5 sE n17 cR MN (Ce+1) Z22):RR R q0 x3 x4 p5 n5 c5 sE n17 cR MN Ce Z22:=M.of h ok rfl
end AT
namespace PQ
variable {q0:Option Addr}
end PQ
namespace AS
variable {s0 s7c:ByteArray}{p5 p6:Option Addr}{n5 c5 n6 c6:Nat}{x7a x7b x7d x8 x9 GB ASU:Int}{t201:Bool}
def M:Fw:=⟨prog,28,f28,[58,59,60,61,62],[7],false,[],[],[(1788,[(0,wT),(5,wL),(7,.X 83 [.I .i64,.I .i64,.T,.I .i64]),(8,wI)]),(917472,[(0,wT),(5,wL),(7,.X 83 [.I .i64,.I .i64,.T,.I .i64]),(8,wI),(9,wI)]),(58720224,[(0,wT),(5,wL),(7,.X 83 [.I .i64,.I .i64,.T,.I .i64]),(8,wI),(9,wI)]),(117440508,[(0,wT),(5,wL),(6,wL),(7,.X 83 [.I .i64,.I .i64,.T,.I .i64]),(8,wI),(9,wI)]),(15032385517,[(0,wT),(5,wL),(6,wL),(7,.X 83 [.I .i64,.I .i64,.T,.I .i64]),(8,wI),(9,wI),(13,w8),(199,w8),(201,wB)]),(1879048190,[(0,wT),(5,wL),(6,wL),(7,.X 83 [.I .i64,.I .i64,.T,.I .i64]),(8,wI),(9,wI)]),(458750,[(0,wT),(5,wL),(7,.X 83 [.I .i64,.I .i64,.T,.I .i64]),(8,wI)])]⟩
def ok:M.Ok:=⟨.cons call58 (.cons call59 (.cons call60 (.cons call61 (.cons call62 (AH.nil))))),mixed,func28,by kernel_rfl⟩
def JY:=M.pt 0
def Xp:=M.pt 1
def Xq:=M.pt 2
def cZ:=M.pt 3
def ABD:=M.pt 4
def sY:=M.pt 5
def IN:=M.pt 6
def start (h:∀b7:Nat,Br ((4096:Int)<(s0.size:Int)) (R (.T #[.N,.I 0,.I 170]) Z22) (JY R s0 none 0 0 0 0 (ByteArray.mk #[]) 0 0 Z22)):Spec prog 28 #[.string s0] Z22 R:=M.start h ok
def IY (h:Br (x8=(s0.size:Int)) (Al Z22 λak=>AI prog (G1 73 p5 n5 c5 ak) (Hp.set Z22 ak (.cells #[.I 0,.I x8,(.string (ByteArray.mk #[])),.I 0] 83 (0,0))) (CS λja n25 jb y=>R (.T #[.slice ja n25 jb,.I 0,.I 0]) y)) (∃G:UInt8,0<=x8/\(ByteArray.data s0)[x8.toNat]?=some G/\Br (((G.toNat:Int):Int)=32) (AL (x8+1)/\JY R s0 p5 n5 c5 x7a x7b s7c x7d (x8+1) Z22) (Br (((G.toNat:Int):Int)=9) (AL (x8+1)/\JY R s0 p5 n5 c5 x7a x7b s7c x7d (x8+1) Z22) (Br (((G.toNat:Int):Int)=13) (AL (x8+1)/\JY R s0 p5 n5 c5 x7a x7b s7c x7d (x8+1) Z22) (Br (((G.toNat:Int):Int)=10) (AL (x8+1)/\JY R s0 p5 n5 c5 x7a x7b s7c x7d (x8+1) Z22) (AG 58 #[(.int .u8 (G.toNat:Int))] Z22 R (CB λt49 y=>Bo t49 (Xp R s0 p5 n5 c5 x7a x7b s7c x7d x8 x8 y) (AG 59 #[(.int .u8 (G.toNat:Int))] y R (CB λt52 AE=>Bo t52 (Xq R s0 p5 n5 c5 x7a x7b s7c x7d x8 x8 AE) (Br (((G.toNat:Int):Int)=34) (AL (x8+1)/\cZ R s0 p5 n5 c5 none 0 0 x7a x7b s7c x7d (x8+1) x8 AE) (∃s60,YF prog (Instr.sliceAt 9 (.string s0) (some (.I x8)) none none) AE (.string s60)/\AG 60 #[.string s60] AE R (CT λsZ AK=>Bn ((ByteArray.toList sZ==ByteArray.toList (ByteArray.mk #[]))) (Al AK λb68=>AI prog (G1 73 p5 n5 c5 b68) (Hp.set AK b68 (.cells #[.I 5,.I x8,.string sZ,.I 0] 83 (0,0))) (CS λpD n69 pE Ai=>AL (x8+(sZ.size:Int))/\JY R s0 pD n69 pE x7a x7b s7c x7d ((x8+(sZ.size:Int))) Ai)) (R (.T #[.N,.I x8,.I 171]) AK))))))))))))):JY R s0 p5 n5 c5 x7a x7b s7c x7d x8 Z22:=M.WQ h ok rfl λ_=>by kernel_rfl
def Vk (h:Br (x8<(s0.size:Int)) (∃u82:UInt8,0<=x8/\(ByteArray.data s0)[x8.toNat]?=some u82/\AG 58 #[(.int .u8 (u82.toNat:Int))] Z22 R (CB λt83 y=>Bo t83 (AL (x8+1)/\Xp R s0 p5 n5 c5 x7a x7b s7c x7d (x8+1) x9 y) (∃u87:UInt8,0<=x8/\(ByteArray.data s0)[x8.toNat]?=some u87/\AG 59 #[(.int .u8 (u87.toNat:Int))] y R (CB λt88 AE=>Bo t88 (∃u92:UInt8,0<=x8/\(ByteArray.data s0)[x8.toNat]?=some u92/\Br (((u92.toNat:Int):Int)≠58) (AL (x8+1)/\Xp R s0 p5 n5 c5 x7a x7b s7c x7d (x8+1) x9 AE) (∃u99:UInt8,0<=x8/\(ByteArray.data s0)[x8.toNat]?=some u99/\Br (((u99.toNat:Int):Int)=46) (AL (x8+1)/\Xp R s0 p5 n5 c5 x7a x7b s7c x7d (x8+1) x9 AE) (∃G,YF prog (Instr.sliceAt 9 (.string s0) (some (.I x9)) (some (.I x8)) none) AE (.string G)/\AG 61 #[.string G] AE R (CI .i64 λLp AK=>Br (0<Lp) (IN R s0 p5 n5 c5 2 x9 G Lp x8 AK) (AG 62 #[.string G] AK R (CB λt121 Ai=>Bn t121 (R (.T #[.N,.I x9,.I 172]) Ai) (IN R s0 p5 n5 c5 1 x9 G Lp x8 Ai))))))) (∃u99:UInt8,0<=x8/\(ByteArray.data s0)[x8.toNat]?=some u99/\Br (((u99.toNat:Int):Int)=46) (AL (x8+1)/\Xp R s0 p5 n5 c5 x7a x7b s7c x7d (x8+1) x9 AE) (∃G,YF prog (Instr.sliceAt 9 (.string s0) (some (.I x9)) (some (.I x8)) none) AE (.string G)/\AG 61 #[.string G] AE R (CI .i64 λLp AK=>Br (0<Lp) (IN R s0 p5 n5 c5 2 x9 G Lp x8 AK) (AG 62 #[.string G] AK R (CB λt121 Ai=>Bn t121 (R (.T #[.N,.I x9,.I 172]) Ai) (IN R s0 p5 n5 c5 1 x9 G Lp x8 Ai)))))))))) (∃G,YF prog (Instr.sliceAt 9 (.string s0) (some (.I x9)) (some (.I x8)) none) Z22 (.string G)/\AG 61 #[.string G] Z22 R (CI .i64 λLp y=>Br (0<Lp) (IN R s0 p5 n5 c5 2 x9 G Lp x8 y) (AG 62 #[.string G] y R (CB λt121 AE=>Bn t121 (R (.T #[.N,.I x9,.I 172]) AE) (IN R s0 p5 n5 c5 1 x9 G Lp x8 AE)))))):Xp R s0 p5 n5 c5 x7a x7b s7c x7d x8 x9 Z22:=M.WQ h ok rfl λ_=>by kernel_rfl
def kQ (h:Br (x8<(s0.size:Int)) (∃ASX:UInt8,0<=x8/\(ByteArray.data s0)[x8.toNat]?=some ASX/\AG 59 #[(.int .u8 (ASX.toNat:Int))] Z22 R (CB λt136 y=>Bo t136 (AL (x8+1)/\Xq R s0 p5 n5 c5 x7a x7b s7c x7d (x8+1) x9 y) (∃ASY:UInt8,0<=x8/\(ByteArray.data s0)[x8.toNat]?=some ASY/\AG 58 #[(.int .u8 (ASY.toNat:Int))] y R (CB λt141 AE=>Bo t141 (AL (x8+1)/\Xq R s0 p5 n5 c5 x7a x7b s7c x7d (x8+1) x9 AE) (∃kR,YF prog (Instr.sliceAt 9 (.string s0) (some (.I x9)) (some (.I x8)) none) AE (.string kR)/\Al AE λkS=>AI prog (G1 73 p5 n5 c5 kS) (Hp.set AE kS (.cells #[.I 3,.I x9,.string kR,.I 0] 83 (0,0))) (CS λABE G ABF AK=>JY R s0 ABE G ABF x7a x7b s7c x7d x8 AK)))))) (∃kR,YF prog (Instr.sliceAt 9 (.string s0) (some (.I x9)) (some (.I x8)) none) Z22 (.string kR)/\Al Z22 λkS=>AI prog (G1 73 p5 n5 c5 kS) (Hp.set Z22 kS (.cells #[.I 3,.I x9,.string kR,.I 0] 83 (0,0))) (CS λABE G ABF y=>JY R s0 ABE G ABF x7a x7b s7c x7d x8 y))):Xq R s0 p5 n5 c5 x7a x7b s7c x7d x8 x9 Z22:=M.WQ h ok rfl λ_=>by kernel_rfl
def Xr (h:Br (x8=(s0.size:Int)) (R (.T #[.N,.I x9,.I 173]) Z22) (∃ASZ:UInt8,0<=x8/\(ByteArray.data s0)[x8.toNat]?=some ASZ/\Br (((ASZ.toNat:Int):Int)<32) (R (.T #[.N,.I x9,.I 173]) Z22) (∃G:UInt8,0<=x8/\(ByteArray.data s0)[x8.toNat]?=some G/\Br (((G.toNat:Int):Int)=34) (AI prog (convert 134 9 (.slice p6 n6 c6)) Z22 (CT λAZ4 y=>Al y λASa=>AI prog (G1 73 p5 n5 c5 ASa) (Hp.set y ASa (.cells #[.I 4,.I x9,.string AZ4,.I 0] 83 (0,0))) (CS λAZ5 n184 AZ6 AE=>AL (x8+1)/\JY R s0 AZ5 n184 AZ6 x7a x7b s7c x7d (x8+1) AE))) (Br (((G.toNat:Int):Int)=92) (AL (x8+1)/\Br (((x8+1):Int)=(s0.size:Int)) (R (.T #[.N,.I x9,.I 173]) Z22) (AL (x8+1)/\∃pK:UInt8,(0:Int)<=(x8+1)/\(ByteArray.data s0)[Int.toNat (x8+1)]?=some pK/\Br (((pK.toNat:Int):Int)=34) (ABD R s0 p5 n5 c5 p6 n6 c6 x7a x7b s7c x7d x8 x9 ((pK.toNat:Int)) ((pK.toNat:Int)) true Z22) (ABD R s0 p5 n5 c5 p6 n6 c6 x7a x7b s7c x7d x8 x9 ((pK.toNat:Int)) ((pK.toNat:Int)) ((decide (((pK.toNat:Int):Int)=92))) Z22))) (Al Z22 λALQ=>AI prog (G1 134 p6 n6 c6 ALQ) (Hp.set Z22 ALQ (.cells #[(.int .u8 (G.toNat:Int))] 5 (0,0))) (CS λAZ7 n173 AZ8 y=>AL (x8+1)/\cZ R s0 p5 n5 c5 AZ7 n173 AZ8 x7a x7b s7c x7d (x8+1) x9 y)))))):cZ R s0 p5 n5 c5 p6 n6 c6 x7a x7b s7c x7d x8 x9 Z22:=M.WQ h ok rfl λ_=>by kernel_rfl
def kT (h:Bo t201 (Al Z22 λG=>AI prog (G1 134 p6 n6 c6 G) (Hp.set Z22 G (.cells #[.int .u8 GB] 5 (0,0))) (CS λAZ9 n207 AaA y=>sY R s0 p5 n5 c5 AZ9 n207 AaA x7a x7b s7c x7d x8 x9 y)) (Br (ASU=110) (Al Z22 λASc=>AI prog (G1 134 p6 n6 c6 ASc) (Hp.set Z22 ASc (.cells #[.int .u8 10] 5 (0,0))) (CS λAaB n212 AaC y=>sY R s0 p5 n5 c5 AaB n212 AaC x7a x7b s7c x7d x8 x9 y)) (R (.T #[.N,.I x9,.I 173]) Z22))):ABD R s0 p5 n5 c5 p6 n6 c6 x7a x7b s7c x7d x8 x9 GB ASU t201 Z22:=M.WQ h ok rfl λ_=>by kernel_rfl
def ABG (h:AL (x8+2)/\cZ R s0 p5 n5 c5 p6 n6 c6 x7a x7b s7c x7d (x8+2) x9 Z22):sY R s0 p5 n5 c5 p6 n6 c6 x7a x7b s7c x7d x8 x9 Z22:=M.WQ h ok rfl λ_=>by kernel_rfl
def Xs (h:Al Z22 λG=>AI prog (G1 73 p5 n5 c5 G) (Hp.set Z22 G (.cells #[.I x7a,.I x7b,.string s7c,.I x7d] 83 (0,0))) (CS λAaD n127 AaE y=>JY R s0 AaD n127 AaE x7a x7b s7c x7d x8 y)):IN R s0 p5 n5 c5 x7a x7b s7c x7d x8 Z22:=M.WQ h ok rfl λ_=>by kernel_rfl
end AS
namespace MV
variable {q0:Option Addr}
def M:Fw:=⟨prog,30,f30,[63],[],false,[],[],[]⟩
def ok:M.Ok:=⟨.cons call63 (AH.nil),mixed,func30,by kernel_rfl⟩
def start (h:AG 63 #[.pointer q0,(.func (.func 64) #[.pointer q0] #[]),.I 12,.I 12] Z22 R (λz y=>z=(.tuple #[])/\R (.T #[]) y)):Spec prog 30 #[.pointer q0] Z22 R:=M.start h ok
end MV
namespace Bi
variable {DR DT Cm CN aO FV:Int}{ji zj UR:Option Addr}{ah jj oU xw n20 R9:Nat}
def M:Fw:=⟨prog,41,f41,[76],[1,4],false,[],[],[(232,[(1,.X 43 [.I .u64,.I .i64,.L]),(20,wL),(21,wI),(22,wI)])]⟩
def ok:M.Ok:=⟨.cons call76 (AH.nil),mixed,func41,by kernel_rfl⟩
def Gc:=M.pt 0
def start (h:∀b1:Nat,Br (256<(ah:Int)) (R (.returned (.I 140)) Z22) (Br (DT<(-1099511627776)) (R (.returned (.I 140)) Z22) (Br (1099511627776<DT) (R (.returned (.I 140)) Z22) (Gc R DR DT ji ah jj ji ah jj (ah:Int) 0 Z22)))):Spec prog 41 #[.agg #[.U DR,.I DT,.slice ji ah jj]] Z22 R:=M.start h ok
def EE (h:Br (FV<aO) (Pq UR λNT aQ=>In FV (n20:Int)/\∃Tj ju ASe ASf ASg ASh ASi QY jv G ALS,A2 Z22 NT (aQ+FV.toNat*9) [.U Tj,.I ju,.I ASe,.I ASf,.slice ASg ASh ASi,.I QY,.I jv,.bool G,.I ALS]/\∀b4:Nat,AG 76 #[.agg #[.U Tj,.I ju,.I ASe,.I ASf,.slice ASg ASh ASi,.I QY,.I jv]] Z22 R (CB λt29 y=>Bn t29 (R (.returned (.I 140)) y) (Br (0<FV) (AL (FV-1)/\Pq zj λb42 o42=>In (FV-1) (oU:Int)/\LI .u64 y b42 (o42+Int.toNat (FV-1)*9) λx45=>Br (Tj<=x45) (R (.returned (.I 140)) y) (Bn G (Br (ALS≠0) (R (.returned (.I 140)) y) (AL (FV+1)/\Gc R Cm CN (aD b42 o42) oU xw (aD NT aQ) n20 R9 aO (FV+1) y)) (AL (FV+1)/\Gc R Cm CN (aD b42 o42) oU xw (aD NT aQ) n20 R9 aO (FV+1) y))) (Bn G (Br (ALS≠0) (R (.returned (.I 140)) y) (AL (FV+1)/\Gc R Cm CN zj oU xw (aD NT aQ) n20 R9 aO (FV+1) y)) (AL (FV+1)/\Gc R Cm CN zj oU xw (aD NT aQ) n20 R9 aO (FV+1) y))))) (R (.returned (.I 0)) Z22)):Gc R Cm CN zj oU xw UR n20 R9 aO FV Z22:=M.WQ h ok rfl λ_=>by kernel_rfl
end Bi
namespace Dr
variable {p0 p1:Option Addr}{n0 c0 n1 c1:Nat}{x5:Int}
def M:Fw:=⟨prog,49,f49,[],[],false,[(6,9,true)],[],[(464,[(0,wL),(1,wL),(5,wI)])]⟩
def ok:M.Ok:=⟨AH.nil,mixed,func49,by kernel_rfl⟩
def FA:=M.pt 0
def start (h:Br ((n0:Int)≠(n1:Int)) (R (.B false) Z22) (FA R p0 n0 c0 p1 n1 c1 0 Z22)):Spec prog 49 #[.slice p0 n0 c0,.slice p1 n1 c1] Z22 R:=M.start h ok
def DH (h:Br (x5<(n0:Int)) (Pq p0 λHE aq=>In x5 (n0:Int)/\∃G fK,A2 Z22 HE (aq+x5.toNat*2) [.I G,.U fK]/\Pq p1 λaP cU=>In x5 (n1:Int)/\∃fM af,A2 Z22 aP (cU+x5.toNat*2) [.I fM,.U af]/\∃t25,YF prog ((do eqGuard .neq 111 (.tmp 20) (.tmp 24) (.agg #[.I G,.U fK]) (.agg #[.I fM,.U af]);binOp .neq 111 (.agg #[.I G,.U fK]) (.agg #[.I fM,.U af]))) Z22 (.bool t25)/\Bo t25 (R (.B false) Z22) (AL (x5+1)/\FA R (aD HE aq) n0 c0 (aD aP cU) n1 c1 (x5+1) Z22)) (R (.B true) Z22)):FA R p0 n0 c0 p1 n1 c1 x5 Z22:=M.of h ok rfl
end Dr
namespace C6
variable {q0:Option Addr}{x1 jU oQ x2d:Int}{s2c:ByteArray}
def M:Fw:=⟨prog,65,f65,[],[5],false,[],[],[]⟩
def ok:M.Ok:=⟨AH.nil,mixed,func65,by kernel_rfl⟩
def start (h:∀b5:Nat,R (.panicked [{ v:=(.iface 80 (.agg #[.I x1,.I oQ])),recovered:=false }]) Z22):Spec prog 65 #[.pointer q0,.I x1,.agg #[.I jU,.I oQ,.string s2c,.I x2d]] Z22 R:=M.start h ok
end C6
namespace By
variable {q0:Option Addr}{v1:Value}{x4:Int}
def M:Fw:=⟨prog,67,f67,[],[100000],false,[],[],[(48,[(0,wQ),(1,wV),(4,wI)])]⟩
def ok:M.Ok:=⟨AH.nil,mixed,func67,by kernel_rfl⟩
def eh:=M.pt 0
def start (h:Pq q0 λb6 G=>LI .i64 Z22 b6 (G+1) λx8=>eh R (aD b6 G) v1 x8 Z22):Spec prog 67 #[.pointer q0,v1] Z22 R:=M.DL h ok [(0,.o (.Q q0)),(1,.o (.V v1))] rfl rfl (by kernel_rfl)
def LU (h:∃l11:Nat,v1=.func (.yield l11) #[] #[]/\Jf prog l11 #[.I x4] Z22 (AY R (CB λt11 y=>Bo t11 (Pq q0 λHo G=>LI .i64 y Ho (G+3) λx16=>Br (0<x16) (LI .i64 y Ho (G+2) λGL=>AL (GL-x4)/\LI .i64 y Ho (G+3) λey=>Br (ey<=(GL-x4)) (LI .i64 y Ho (G+3) λfC=>AL (x4+fC)/\eh R (aD Ho G) v1 (x4+fC) y) (R (.T #[]) y)) (R (.T #[]) y)) (R (.T #[]) y)))):eh R q0 v1 x4 Z22:=M.of h ok rfl
end By
namespace MW
variable {s0a mZ s1a s1b:ByteArray}
def M:Fw:=⟨prog,73,f73,[74,75],[2,3],false,[],[],[]⟩
def ok:M.Ok:=⟨.cons call74 (.cons call75 (AH.nil)),mixed,func73,by kernel_rfl⟩
def start (h:∀b2:Nat,∀b3:Nat,AG 75 #[.string s0a,.string s1a] Z22 R (CI .i64 λx9 y=>AG 75 #[.string mZ,.string s1b] y R (CI .i64 λVd G=>Al G λU8=>AG 74 #[(.slice (aD U8 0) 2 2)] (Hp.set G U8 (.cells #[.I x9,.I Vd] 3 (0,0))) R (CI .i64 λx16 AK=>R (.returned (.I x16)) AK)))):Spec prog 73 #[.agg #[.string s0a,.string mZ],.agg #[.string s1a,.string s1b]] Z22 R:=M.start h ok
end MW
namespace Cr
variable {q0 FC FP p2:Option Addr}{Cm CN E8 EK Dg Dj x8:Int}{E9:ByteArray}{FD FE FG FQ n2 c2:Nat}{EU:Bool}
def M:Fw:=⟨prog,88,f88,[],[4],false,[],[],[(60,[(2,wL),(8,wI)])]⟩
def ok:M.Ok:=⟨AH.nil,mixed,func88,by kernel_rfl⟩
def Dp:=M.pt 0
def start (h:∀G:Nat,Br (CN=11) (Dp R p2 n2 c2 2 Z22) (Br (CN=12) (Dp R p2 n2 c2 2 Z22) (Dp R p2 n2 c2 3 Z22))):Spec prog 88 #[.pointer q0,.agg #[.I Cm,.I CN,.string E9,.slice FC FD FE,.I E8,.I EK,.I Dg,.slice FP FG FQ,.bool EU,.I Dj],.slice p2 n2 c2] Z22 R:=M.start h ok
def Bp (h:Pq p2 λG ou=>In 0 (n2:Int)/\LI .i64 Z22 G ou λIl=>Br (Il≠x8) (R (.T #[.I 0,.I 191]) Z22) (R (.T #[.I 2,.I 0]) Z22)):Dp R p2 n2 c2 x8 Z22:=M.of h ok rfl
end Cr
namespace Gu
variable {q0 FC FP p2:Option Addr}{Cm CN E8 EK Dg Dj:Int}{E9:ByteArray}{FD FE FG FQ n2 c2:Nat}{EU:Bool}
def M:Fw:=⟨prog,89,f89,[],[4],false,[],[],[]⟩
def ok:M.Ok:=⟨AH.nil,mixed,func89,by kernel_rfl⟩
def start (h:∀b4:Nat,Pq p2 λb9 G=>In 0 (n2:Int)/\LI .i64 Z22 b9 G λx11=>Br (x11≠2) (R (.T #[.I 0,.I 191]) Z22) (R (.T #[.I 2,.I 0]) Z22)):Spec prog 89 #[.pointer q0,.agg #[.I Cm,.I CN,.string E9,.slice FC FD FE,.I E8,.I EK,.I Dg,.slice FP FG FQ,.bool EU,.I Dj],.slice p2 n2 c2] Z22 R:=M.start h ok
end Gu
namespace Xt
variable {DR DT VC QS JP MO:Int}{VD:ByteArray}{cV Wd:Option Addr}{al cW Vh We:Nat}{RO:Bool}
def M:Fw:=⟨prog,113,f113,[],[1,2],false,[(12,7,false),(15,7,false),(18,11,false),(21,15,false)],[],[]⟩
def ok:M.Ok:=⟨AH.nil,mixed,func113,by kernel_rfl⟩
def start (h:∀b1:Nat,∀b2:Nat,Al Z22 λb3=>AI prog (Instr.storeAt 127 (.pointer (aD b3 0)) (.agg #[.I DR,.I 0,(.string (ByteArray.mk #[])),.N,.I 0,.I 0,.I 0,.N,.bool false,.I 0])) (Hp.set Z22 b3 (.cells #[.I 0,.I 0,(.string (ByteArray.mk #[])),.N,.I 0,.I 0,.I 0,.N,.bool false,.I 0] 127 (0,0))) (λ_ y=>Br (DR=1) (AI prog (Instr.storeAt 9 (.pointer (aD b3 2)) (.string VD)) y (λ_ G=>∃RL RM oZ ABH ABI ABJ ABK ABL ABM ABN ABO ABP ABQ ABR,A2 G b3 0 [.I RL,.I RM,.string oZ,.slice ABH ABI ABJ,.I ABK,.I ABL,.I ABM,.slice ABN ABO ABP,.bool ABQ,.I ABR]/\R (.returned (.agg #[.I RL,.I RM,.string oZ,.slice ABH ABI ABJ,.I ABK,.I ABL,.I ABM,.slice ABN ABO ABP,.bool ABQ,.I ABR])) G)) (Br (DR=2) (AI prog (Instr.storeAt 2 (.pointer (aD b3 5)) (.I QS)) y (λ_ G=>∃fM af AE9 ASj ASk ASl ASm ASn ASo ASp ASq ASr ASs ASt,A2 G b3 0 [.I fM,.I af,.string AE9,.slice ASj ASk ASl,.I ASm,.I ASn,.I ASo,.slice ASp ASq ASr,.bool ASs,.I ASt]/\R (.returned (.agg #[.I fM,.I af,.string AE9,.slice ASj ASk ASl,.I ASm,.I ASn,.I ASo,.slice ASp ASq ASr,.bool ASs,.I ASt])) G)) (Br (DR=3) (AI prog (Instr.storeAt 2 (.pointer (aD b3 4)) (.I VC)) y (λ_ G=>AI prog (Instr.storeAt 2 (.pointer (aD b3 5)) (.I QS)) G (λ_ AK=>∃WW AEL ASu ASv ASw ASx ASy ASz AS0 AS1 AS2 AS3 AS4 AS5,A2 AK b3 0 [.I WW,.I AEL,.string ASu,.slice ASv ASw ASx,.I ASy,.I ASz,.I AS0,.slice AS1 AS2 AS3,.bool AS4,.I AS5]/\R (.returned (.agg #[.I WW,.I AEL,.string ASu,.slice ASv ASw ASx,.I ASy,.I ASz,.I AS0,.slice AS1 AS2 AS3,.bool AS4,.I AS5])) AK))) (Br (DR=4) (AI prog (Instr.storeAt 3 (.pointer (aD b3 1)) (.I DT)) y (λ_ G=>AI prog (Instr.storeAt 3 (.pointer (aD b3 9)) (.I MO)) G (λ_ AK=>∃AS6 AS7 AS8 AS9 ATA ATB ATC ATD ATE ATF ATG ATH ATI ATJ,A2 AK b3 0 [.I AS6,.I AS7,.string AS8,.slice AS9 ATA ATB,.I ATC,.I ATD,.I ATE,.slice ATF ATG ATH,.bool ATI,.I ATJ]/\R (.returned (.agg #[.I AS6,.I AS7,.string AS8,.slice AS9 ATA ATB,.I ATC,.I ATD,.I ATE,.slice ATF ATG ATH,.bool ATI,.I ATJ])) AK))) (Br (DR=5) (AI prog (Instr.storeAt 3 (.pointer (aD b3 1)) (.I DT)) y (λ_ G=>AI prog (Instr.storeAt 3 (.pointer (aD b3 9)) (.I MO)) G (λ_ AK=>AI prog (Instr.storeAt 3 (.pointer (aD b3 6)) (.I JP)) AK (λ_ Ai=>∃j0 j1 AA4 j3 j4 j5 AA5 AA6 AA7 AA8 AA9 ABA ABB ABC,A2 Ai b3 0 [.I j0,.I j1,.string AA4,.slice j3 j4 j5,.I AA5,.I AA6,.I AA7,.slice AA8 AA9 ABA,.bool ABB,.I ABC]/\R (.returned (.agg #[.I j0,.I j1,.string AA4,.slice j3 j4 j5,.I AA5,.I AA6,.I AA7,.slice AA8 AA9 ABA,.bool ABB,.I ABC])) Ai)))) (Br (DR=6) (AI prog (Instr.storeAt 3 (.pointer (aD b3 1)) (.I DT)) y (λ_ G=>AI prog (Instr.storeAt 3 (.pointer (aD b3 9)) (.I MO)) G (λ_ AK=>AI prog (Instr.storeAt 4 (.pointer (aD b3 8)) (.bool RO)) AK (λ_ Ai=>AI prog (Instr.storeAt 3 (.pointer (aD b3 6)) (.I JP)) Ai (λ_ CC=>∃Wj Wk Wl Wm Wn Wo Wp Wq Wr Ws Wt Wu Wv Ww,A2 CC b3 0 [.I Wj,.I Wk,.string Wl,.slice Wm Wn Wo,.I Wp,.I Wq,.I Wr,.slice Ws Wt Wu,.bool Wv,.I Ww]/\R (.returned (.agg #[.I Wj,.I Wk,.string Wl,.slice Wm Wn Wo,.I Wp,.I Wq,.I Wr,.slice Ws Wt Wu,.bool Wv,.I Ww])) CC))))) (AI prog (Instr.storeAt 3 (.pointer (aD b3 9)) (.I MO)) y (λ_ G=>∃fD VB zm ATK ATL ATM ATN ATO ATP ATQ ATR ATS ATT ATU,A2 G b3 0 [.I fD,.I VB,.string zm,.slice ATK ATL ATM,.I ATN,.I ATO,.I ATP,.slice ATQ ATR ATS,.bool ATT,.I ATU]/\R (.returned (.agg #[.I fD,.I VB,.string zm,.slice ATK ATL ATM,.I ATN,.I ATO,.I ATP,.slice ATQ ATR ATS,.bool ATT,.I ATU])) G))))))))):Spec prog 113 #[.agg #[.I DR,.I DT,.string VD,.slice cV al cW,.I VC,.I QS,.I JP,.slice Wd Vh We,.bool RO,.I MO]] Z22 R:=M.start h ok
end Xt
namespace PR
variable {x0:Int}
def M:Fw:=⟨prog,116,f116,[],[],false,[],[],[]⟩
def ok:M.Ok:=⟨AH.nil,mixed,func116,by kernel_rfl⟩
def start (h:Br (5<=x0) (R (.returned (.bool (decide (x0<=10)))) Z22) (R (.B false) Z22)):Spec prog 116 #[.I x0] Z22 R:=M.start h ok
end PR
namespace B0
variable {s0:ByteArray}{x1:Int}
def M:Fw:=⟨prog,121,f121,[],[],false,[],[],[]⟩
def ok:M.Ok:=⟨AH.nil,mixed,func121,by kernel_rfl⟩
def start (h:EN prog 136 #[.string s0,.int .u8 x1] Z22 (CI .i64 λx7 y=>R (.returned (.I x7)) y)):Spec prog 121 #[.string s0,.int .u8 x1] Z22 R:=M.start h ok
end B0
namespace B8
variable {q0 FC FP p2 JT IC p8 ja:Option Addr}{Cm CN E8 EK Dg Dj IA IB au JS:Int}{E9:ByteArray}{FD FE FG FQ n2 c2 JU JV ID IE n8 c8 n25 jb:Nat}{EU:Bool}
def M:Fw:=⟨prog,135,f135,[158,160,174],[4,6,10],false,[],[],[(488,[(6,.X 164 [.I .i64,.I .u64,.L,.L]),(8,wL),(25,wL),(26,wI),(27,wI)])]⟩
def ok:M.Ok:=⟨.cons call158 (.cons call160 (.cons call174 (AH.nil))),mixed,func135,by kernel_rfl⟩
def AFB:=M.pt 0
def start (h:∀b4:Nat,∀b6:Nat,Pq p2 λG Jn=>In 0 (n2:Int)/\LI .i64 Z22 G Jn λVd=>Br (Vd=1) (In 0 (n2:Int)/\LI .u64 Z22 G (Jn+1) λCe=>AG 174 #[.U Ce] Z22 R (CI .u64 λIl y=>R (.T #[.agg #[.I 1,.U Il,.N,.N],.I 0]) y)) (In 0 (n2:Int)/\LS Z22 G (Jn+2) λja n25 jb=>AFB R 0 0 none 0 0 none 0 0 none 0 0 ja n25 jb (n25:Int) 0 Z22)):Spec prog 135 #[.pointer q0,.agg #[.I Cm,.I CN,.string E9,.slice FC FD FE,.I E8,.I EK,.I Dg,.slice FP FG FQ,.bool EU,.I Dj],.slice p2 n2 c2] Z22 R:=M.start h ok
def sa (h:Br (JS<au) (Pq ja λS8 cL=>In JS (n25:Int)/\∃G AAC AAD jR,A2 Z22 S8 (cL+JS.toNat*2) [.slice G AAC AAD,.U jR]/\∀Dk:Nat,AG 158 #[.slice G AAC AAD] Z22 R (CS λp34 n34 c34 y=>AG 174 #[.U jR] y R (CI .u64 λVA AE=>Al AE λsO=>AI prog (G1 105 p8 n8 c8 sO) (Hp.set AE sO (.cells #[.slice p34 n34 c34,.U VA] 109 (0,0))) (CS λp40 n40 c40 AK=>AL (JS+1)/\AFB R IA IB JT JU JV IC ID IE p40 n40 c40 (aD S8 cL) n25 jb au (JS+1) AK)))) (AG 160 #[.slice p8 n8 c8] Z22 R (λz y=>∃AIK AIL AIM AIN AIO AIP AIQ AIR LY,z=(.tuple #[.agg #[.I AIK,.U AIL,.slice AIM AIN AIO,.slice AIP AIQ AIR],.I LY])/\R (.T #[.agg #[.I AIK,.U AIL,.slice AIM AIN AIO,.slice AIP AIQ AIR],.I LY]) y))):AFB R IA IB JT JU JV IC ID IE p8 n8 c8 ja n25 jb au JS Z22:=M.WQ h ok rfl λ_=>by kernel_rfl
end B8
namespace PS
def M:Fw:=⟨prog,159,f159,[194,198],[],false,[],[],[]⟩
def ok:M.Ok:=⟨.cons call194 (.cons call198 (AH.nil)),mixed,func159,by kernel_rfl⟩
def start (h:AG 194 #[(.func (.func 163) #[] #[])] Z22 R (λz y=>∃f1 a1 c1,(Value.func f1 a1 c1)=z/\AG 194 #[(.func (.func 166) #[] #[])] y R (λz AE=>∃f2 a2 c2,(Value.func f2 a2 c2)=z/\AG 194 #[(.func (.func 164) #[] #[])] AE R (λz AK=>∃f3 a3 c3,(Value.func f3 a3 c3)=z/\AG 194 #[(.func (.func 165) #[] #[])] AK R (λz Ai=>∃f4 a4 c4,(Value.func f4 a4 c4)=z/\AG 194 #[(.func (.func 167) #[] #[])] Ai R (λz CC=>∃f5 a5 c5,(Value.func f5 a5 c5)=z/\AG 194 #[(.func (.func 195) #[] #[])] CC R (λz G2=>∃f6 a6 c6,(Value.func f6 a6 c6)=z/\AG 194 #[(.func (.func 197) #[] #[])] G2 R (λz ET=>∃f7 a7 c7,(Value.func f7 a7 c7)=z/\AG 198 #[(.func (.func 199) #[] #[])] ET R (λz R7=>∃f8 a8 c8,(Value.func f8 a8 c8)=z/\AG 198 #[(.func (.func 201) #[] #[])] R7 R (λz TW=>∃f9 a9 c9,(Value.func f9 a9 c9)=z/\AG 198 #[(.func (.func 203) #[] #[])] TW R (λz G=>∃f10 pL MK,(Value.func f10 pL MK)=z/\Al G λE4=>R (.returned (.slice (aD E4 0) 11 11)) (Hp.set G E4 (.cells #[.nilFunc,(Value.func f10 pL MK),(Value.func f9 a9 c9),(Value.func f8 a8 c8),(Value.func f1 a1 c1),(Value.func f2 a2 c2),(Value.func f3 a3 c3),(Value.func f4 a4 c4),(Value.func f5 a5 c5),(Value.func f6 a6 c6),(Value.func f7 a7 c7)] 240 (0,0)))))))))))))):Spec prog 159 #[] Z22 R:=M.start h ok
end PS
namespace Xu
variable {p0 p1:Option Addr}{n0 c0 n1 c1:Nat}
def M:Fw:=⟨prog,161,f161,[207],[],false,[],[],[]⟩
def ok:M.Ok:=⟨.cons call207 (AH.nil),mixed,func161,by kernel_rfl⟩
def start (h:Al Z22 λb3=>AG 207 #[.slice p0 n0 c0,(.func (.func 208) #[] #[(.pointer (aD b3 0))])] (Hp.set Z22 b3 (.cells #[.slice p1 n1 c1] 125 (0,0))) R (CS λp7 n7 c7 y=>R (.returned (.slice p7 n7 c7)) y)):Spec prog 161 #[.slice p0 n0 c0,.slice p1 n1 c1] Z22 R:=M.start h ok
end Xu
namespace I6
variable {p0:Option Addr}{n0 c0:Nat}
def M:Fw:=⟨prog,164,f164,[212],[],false,[],[],[]⟩
def ok:M.Ok:=⟨.cons call212 (AH.nil),mixed,func164,by kernel_rfl⟩
def start (h:AG 212 #[.I 7,.slice p0 n0 c0] Z22 R (CI .u64 λx4 y=>R (.returned (.U x4)) y)):Spec prog 164 #[.slice p0 n0 c0] Z22 R:=M.start h ok
end I6
namespace I7
variable {s0:ByteArray}{x1:Int}
def M:Fw:=⟨prog,182,f182,[222,223],[],false,[],[],[]⟩
def ok:M.Ok:=⟨.cons call222 (.cons call223 (AH.nil)),mixed,func182,by kernel_rfl⟩
def start (h:AG 222 #[.string s0,.I x1] Z22 R (λz y=>∃vf vg,z=(.tuple #[vf,vg])/\∃t15,YF prog ((do eqGuard .neq 260 (.tmp 14) (.const .nilIface) vg .nilIface;binOp .neq 260 vg .nilIface)) y (.bool t15)/\Bo t15 (AG 223 #[(.string (ByteArray.mk #[80,97,114,115,101,70,108,111,97,116])),.string s0,.I 0,.I x1,vg] y R (λz AE=>∃G,G=z/\R (.T #[vf,G]) AE)) (R (.T #[vf,.nilIface]) y))):Spec prog 182 #[.string s0,.I x1] Z22 R:=M.start h ok
end I7
namespace BY
variable {p0:Option Addr}{n0 c0:Nat}{x1 x8 x9 x10:Int}{v2:Value}
def M:Fw:=⟨prog,184,f184,[],[],false,[],[],[(480,[(0,wL),(1,wI),(2,wV),(8,wI),(9,wI),(10,wI)])]⟩
def ok:M.Ok:=⟨AH.nil,mixed,func184,by kernel_rfl⟩
def CD:=M.pt 0
def start (h:CD R p0 n0 c0 x1 v2 (n0:Int) 0 (n0:Int) Z22):Spec prog 184 #[.slice p0 n0 c0,.I x1,v2] Z22 R:=M.DL h ok [(0,.o (.L p0 n0 c0)),(1,.o (.I .i64 x1)),(2,.o (.V v2))] rfl rfl (by kernel_rfl)
def A5 (h:Br (x9<x10) (AL (x9+x10)/\Df (IntKind.u64.wrap (x9+x10)) λaO=>((0:Int)<=1/\1<=((IntKind.bits .u64:Nat):Int))/\Df (aO/2^Int.toNat 1) λFV=>Df (IntKind.i64.wrap FV) λGL=>Pq p0 λG o27=>In GL (n0:Int)/\∃jy Wy,A2 Z22 G (o27+GL.toNat*2) [.I jy,.U Wy]/\∃(f30:Nat) (AIS AIT:Array Value),v2=.func (.func f30) AIS AIT/\Enters prog f30/\Spec prog f30 (AIS++#[.agg #[.I jy,.U Wy],.I x1]++AIT) Z22 (AY R (CI .i64 λyC y=>Br (yC<0) (AL (GL+1)/\CD R (aD G o27) n0 c0 x1 v2 x8 (GL+1) x10 y) (CD R (aD G o27) n0 c0 x1 v2 x8 x9 GL y)))) (Br (x9<x8) (Pq p0 λsP o43=>In x9 (n0:Int)/\∃J9 KA,A2 Z22 sP (o43+x9.toNat*2) [.I J9,.U KA]/\∃(f46:Nat) (AIU AIV:Array Value),v2=.func (.func f46) AIU AIV/\Enters prog f46/\Spec prog f46 (AIU++#[.agg #[.I J9,.U KA],.I x1]++AIV) Z22 (AY R (CI .i64 λx46 y=>R (.T #[.I x9,(.bool (decide (x46=0)))]) y))) (R (.T #[.I x9,.bool false]) Z22))):CD R p0 n0 c0 x1 v2 x8 x9 x10 Z22:=M.of h ok rfl
end BY
namespace kU
variable {x0 x1:Int}
def M:Fw:=⟨prog,204,f204,[213],[],false,[],[],[]⟩
def ok:M.Ok:=⟨.cons call213 (AH.nil),mixed,func204,by kernel_rfl⟩
def start (h:AG 213 #[.I 4,.U x0,.U x1] Z22 R (λz y=>∃IF G,z=(.tuple #[.U IF,.bool G])/\R (.returned (.U IF)) y)):Spec prog 204 #[.U x0,.U x1] Z22 R:=M.start h ok
end kU
namespace Xv
variable {t0:Bool}
def M:Fw:=⟨prog,215,f215,[155],[],false,[],[],[]⟩
def ok:M.Ok:=⟨.cons call155 (AH.nil),mixed,func215,by kernel_rfl⟩
def start (h:Bo t0 (AG 155 #[.I 1] Z22 R (CI .u64 λx4 y=>R (.returned (.U x4)) y)) (AG 155 #[.I 0] Z22 R (CI .u64 λx5 y=>R (.returned (.U x5)) y))):Spec prog 215 #[.bool t0] Z22 R:=M.start h ok
end Xv
namespace sd
variable {DR DT VC QS JP MO:Int}{VD:ByteArray}{cV Wd p1:Option Addr}{al cW Vh We n1 c1:Nat}{RO:Bool}
def M:Fw:=⟨prog,217,f217,[158,161,162],[2],false,[],[],[]⟩
def ok:M.Ok:=⟨.cons call158 (.cons call161 (.cons call162 (AH.nil))),mixed,func217,by kernel_rfl⟩
def start (h:∀b2:Nat,Br (JP=3) (AG 161 #[.slice p1 n1 c1,.slice Wd Vh We] Z22 R (CS λMu n11 Mv y=>R (.returned (.slice Mu n11 Mv)) y)) (AG 162 #[.slice p1 n1 c1,.slice Wd Vh We] Z22 R (CS λVc n15 Ta y=>AG 158 #[.slice Vc n15 Ta] y R (CS λRm n16 QJ G=>R (.returned (.slice Rm n16 QJ)) G)))):Spec prog 217 #[.agg #[.I DR,.I DT,.string VD,.slice cV al cW,.I VC,.I QS,.I JP,.slice Wd Vh We,.bool RO,.I MO],.slice p1 n1 c1] Z22 R:=M.start h ok
end sd
namespace Xw
variable {v0:Value}
def M:Fw:=⟨prog,224,f224,[],[],false,[],[],[]⟩
def ok:M.Ok:=⟨AH.nil,mixed,func224,by kernel_rfl⟩
def start (h:∃t5,YF prog ((do eqGuard .neq 258 (.tmp 3) (.tmp 4) v0 v0;binOp .neq 258 v0 v0)) Z22 (.bool t5)/\R (.B t5) Z22):Spec prog 224 #[v0] Z22 R:=M.DL h ok [(0,.o (.V v0))] rfl rfl (by kernel_rfl)
end Xw
namespace Qw
def M:Fw:=⟨prog,278,f278,[192],[],false,[],[],[]⟩
def ok:M.Ok:=⟨.cons call192 (AH.nil),mixed,func278,by kernel_rfl⟩
def start (h:AG 192 #[.U 4604544271217802189] Z22 R (λz y=>∃x2,(Value.float .f64 x2)=z/\∃x5,YF prog (Op.unary .neg (Value.float .f64 x2)) y (Value.float .f64 x5)/\∃x6 y6,YF prog (Builtin.complex_ #[258,258] 319 #[(Value.float .f64 x2),(Value.float .f64 x5)]) y (Value.complex .f64 x6 y6)/\∃x8,YF prog (Op.unary .neg (Value.float .f64 x2)) y (Value.float .f64 x8)/\∃x10,YF prog (Op.unary .neg (Value.float .f64 x2)) y (Value.float .f64 x10)/\∃x11 G,YF prog (Builtin.complex_ #[258,258] 319 #[(Value.float .f64 x8),(Value.float .f64 x10)]) y (Value.complex .f64 x11 G)/\∃GB,YF prog (Op.unary .neg (Value.float .f64 x2)) y (Value.float .f64 GB)/\∃x15 y15,YF prog (Builtin.complex_ #[258,258] 319 #[(Value.float .f64 GB),(Value.float .f64 x2)]) y (Value.complex .f64 x15 y15)/\∃MN y18,YF prog (Builtin.complex_ #[258,258] 319 #[(Value.float .f64 x2),(Value.float .f64 x2)]) y (Value.complex .f64 MN y18)/\Al y λHE=>R (.returned (.slice (aD HE 0) 8 8)) (Hp.set y HE (.cells #[.complex .f64 4607182418800017408 0,(Value.complex .f64 x6 y6),.complex .f64 0 13830554455654793216,(Value.complex .f64 x11 G),.complex .f64 13830554455654793216 0,(Value.complex .f64 x15 y15),.complex .f64 0 4607182418800017408,(Value.complex .f64 MN y18)] 319 (0,0))))):Spec prog 278 #[] Z22 R:=M.start h ok
end Qw
namespace BG
variable {s0:ByteArray}{x5 x6 x12 x7:Int}{t13 t16 t19:Bool}
def M:Fw:=⟨prog,282,f282,[305,306,307],[],false,[],[],[(128001,[(0,wT),(5,wI),(6,wI),(12,w8),(13,wB)]),(256005,[(0,wT),(5,wI),(6,wI),(12,w8),(16,wB)]),(8004,[(0,wT),(5,wI),(6,wI)]),(256007,[(0,wT),(19,wB)]),(126,[]),(32022,[(5,wI),(6,wI),(7,wI)]),(32006,[(0,wT),(5,wI)])]⟩
def ok:M.Ok:=⟨.cons call305 (.cons call306 (.cons call307 (AH.nil))),mixed,func282,by kernel_rfl⟩
def Gh:=M.pt 0
def ALT:=M.pt 1
def AaF:=M.pt 2
def fG:=M.pt 3
def ALU:=M.pt 4
def ATV:=M.pt 6
def start (h:Br (((s0.size:Int):Int)=0) (R (.T #[.float .f64 0,.I 0,.bool false]) Z22) (∃G:UInt8,(0:Int)<=0/\(ByteArray.data s0)[Int.toNat 0]?=some G/\Br (((G.toNat:Int):Int)=43) (Gh R s0 1 0 ((G.toNat:Int)) true Z22) (Gh R s0 1 0 ((G.toNat:Int)) ((decide (((G.toNat:Int):Int)=45))) Z22))):Spec prog 282 #[.string s0] Z22 R:=M.start h ok
def Vg (h:Bo t13 (∃G:UInt8,(0:Int)<=0/\(ByteArray.data s0)[Int.toNat 0]?=some G/\Br (((G.toNat:Int):Int)=45) (ATV R s0 (-1) Z22) (ATV R s0 x5 Z22)) (Br (x12=105) (ALT R s0 x5 x6 x12 true Z22) (ALT R s0 x5 x6 x12 ((decide (x12=73))) Z22))):Gh R s0 x5 x6 x12 t13 Z22:=M.of h ok rfl
def AFC (h:Bo t16 (AaF R s0 x5 x6 Z22) (Br (x12=110) (fG R s0 true Z22) (fG R s0 ((decide (x12=78))) Z22))):ALT R s0 x5 x6 x12 t16 Z22:=M.of h ok rfl
def Vi (h:Bo t19 (AG 305 #[.string s0,(.string (ByteArray.mk #[110,97,110]))] Z22 R (CI .i64 λzn y=>Br (zn=3) (AG 307 #[] y R (λz G=>∃yD,(Value.float .f64 yD)=z/\R (.T #[(Value.float .f64 yD),.I 3,.bool true]) G)) (ALU R y))) (ALU R Z22)):fG R s0 t19 Z22:=M.of h ok rfl
def AFD (h:R (.T #[.float .f64 0,.I 0,.bool false]) Z22):ALU R  Z22:=M.of h ok rfl
end BG
namespace AF
variable {s0:ByteArray}{x2 x3 x7 x10 x11 x12 x15 x16 x17 Ce Il:Int}{t4 t5 t6 t8 t9 t13 t14:Bool}
def M:Fw:=⟨prog,283,f283,[308,309],[],false,[],[],[(110,[(0,wT),(2,wU),(3,wI),(4,wB),(5,wB),(6,wB),(7,wI),(8,wB),(9,wB)]),(1790,[(0,wT),(2,wU),(3,wI),(4,wB),(5,wB),(6,wB),(7,wI),(8,wB),(9,wB),(10,wU),(11,wI),(12,w8)]),(1834976,[(0,wT),(2,wU),(3,wI),(4,wB),(5,wB),(6,wB),(7,wI),(8,wB),(9,wB),(10,wU),(11,wI),(12,w8),(13,wB),(14,wB),(15,wI),(16,wI),(17,wI)]),(458748,[(0,wT),(2,wU),(3,wI),(4,wB),(5,wB),(6,wB),(7,wI),(8,wB),(9,wB),(10,wU),(12,w8),(13,wB),(14,wB),(15,wI),(16,wI),(17,wI)]),(1835004,[(0,wT),(2,wU),(3,wI),(4,wB),(5,wB),(6,wB),(7,wI),(8,wB),(9,wB),(10,wU),(12,w8),(16,wI),(17,wI)]),(3670012,[(0,wT),(2,wU),(3,wI),(4,wB),(5,wB),(6,wB),(7,wI),(8,wB),(9,wB),(10,wU),(12,w8),(16,wI),(17,wI)]),(7340028,[(0,wT),(2,wU),(3,wI),(4,wB),(5,wB),(6,wB),(7,wI),(8,wB),(9,wB),(16,wI),(17,wI)]),(14680060,[(0,wT),(2,wU),(3,wI),(4,wB),(5,wB),(6,wB),(7,wI),(8,wB),(9,wB)]),(469761724,[(0,wT),(2,wU),(3,wI),(4,wB),(5,wB),(6,wB),(7,wI),(8,wB),(9,wB),(16,wI),(17,wI),(19,wI)]),(15032375264,[(0,wT),(2,wU),(3,wI),(4,wB),(5,wB),(6,wB),(7,wI),(8,wB),(9,wB),(16,wI),(17,wI),(19,wI),(20,wI)]),(15032375267,[(0,wT),(2,wU),(3,wI),(4,wB),(5,wB),(6,wB),(7,wI),(8,wB),(9,wB),(16,wI),(17,wI),(19,wI),(20,wI)]),(1834979,[(0,wT),(2,wU),(3,wI),(4,wB),(5,wB),(6,wB),(7,wI),(8,wB),(9,wB),(10,wU),(11,wI),(12,w8),(13,wB),(14,wB),(15,wI),(16,wI),(17,wI)])]⟩
def ok:M.Ok:=⟨.cons call308 (.cons call309 (AH.nil)),mixed,func283,by kernel_rfl⟩
def Kb:=M.pt 0
def QW:=M.pt 1
def ABS:=M.pt 2
def SX:=M.pt 3
def se:=M.pt 4
def ABT:=M.pt 5
def ABU:=M.pt 6
def ABV:=M.pt 7
def ABW:=M.pt 8
def Hx:=M.pt 11
def start (h:Br (((s0.size:Int):Int)<=0) (R (.T #[.U 0,.I 0,.bool false,.bool false,.bool false,.I 0,.bool false]) Z22) (∃G:UInt8,(0:Int)<=0/\(ByteArray.data s0)[Int.toNat 0]?=some G/\Br (((G.toNat:Int):Int)=43) (AL (0+1)/\Kb R s0 0 0 false false false (0+1) false false Z22) (Br (((G.toNat:Int):Int)=45) (AL (0+1)/\Kb R s0 0 0 true false false (0+1) false false Z22) (Kb R s0 0 0 false false false 0 false false Z22)))):Spec prog 283 #[.string s0] Z22 R:=M.start h ok
def Jl (h:AL (x7+2)/\Br (((x7+2):Int)<(s0.size:Int)) (∃G:UInt8,0<=x7/\(ByteArray.data s0)[x7.toNat]?=some G/\Br (((G.toNat:Int):Int)=48) (AL (x7+1)/\∃u51:UInt8,(0:Int)<=(x7+1)/\(ByteArray.data s0)[Int.toNat (x7+1)]?=some u51/\AG 308 #[(.int .u8 (u51.toNat:Int))] Z22 R (CI .u8 λx52 y=>Br (x52=120) (AL (x7+2)/\QW R s0 x2 x3 t4 t5 true (x7+2) t8 t9 16 16 112 y) (QW R s0 x2 x3 t4 t5 t6 x7 t8 t9 10 19 101 y))) (QW R s0 x2 x3 t4 t5 t6 x7 t8 t9 10 19 101 Z22)) (QW R s0 x2 x3 t4 t5 t6 x7 t8 t9 10 19 101 Z22)):Kb R s0 x2 x3 t4 t5 t6 x7 t8 t9 Z22:=M.of h ok rfl
def LV (h:ABS R s0 x2 x3 t4 t5 t6 x7 t8 t9 x10 x11 x12 false false 0 0 0 Z22):QW R s0 x2 x3 t4 t5 t6 x7 t8 t9 x10 x11 x12 Z22:=M.of h ok rfl
def sg (h:Br (x7<(s0.size:Int)) (∃G:UInt8,0<=x7/\(ByteArray.data s0)[x7.toNat]?=some G/\Br (((G.toNat:Int):Int)=95) (Hx R s0 x2 x3 t4 t5 t6 x7 t8 true x10 x11 x12 t13 t14 x15 x16 x17 Z22) (Br (((G.toNat:Int):Int)=46) (Bo t13 (SX R s0 x2 x3 t4 t5 t6 x7 t8 t9 x10 x12 true t14 x15 x16 x17 Z22) (Hx R s0 x2 x3 t4 t5 t6 x7 t8 t9 x10 x11 x12 true t14 x15 x16 x15 Z22)) (Br ((48:Int)<=(G.toNat:Int)) (Br (((G.toNat:Int):Int)<=57) (Br (((G.toNat:Int):Int)=48) (Br (x15=0) (AL (x17-1)/\Hx R s0 x2 x3 t4 t5 t6 x7 t8 t9 x10 x11 x12 t13 true x15 x16 (x17-1) Z22) (AL (x15+1)/\Br (x16<x11) (Df (IntKind.u64.wrap (x2*x10)) λx99=>Df (IntKind.u8.wrap ((G.toNat:Int)-48)) λkP=>Df (IntKind.u64.wrap kP) λvi=>Df (IntKind.u64.wrap (x99+vi)) λpM=>AL (x16+1)/\Hx R s0 pM x3 t4 t5 t6 x7 t8 t9 x10 x11 x12 t13 true (x15+1) (x16+1) x17 Z22) (Br (((G.toNat:Int):Int)≠48) (Hx R s0 x2 x3 t4 true t6 x7 t8 t9 x10 x11 x12 t13 true (x15+1) x16 x17 Z22) (Hx R s0 x2 x3 t4 t5 t6 x7 t8 t9 x10 x11 x12 t13 true (x15+1) x16 x17 Z22)))) (AL (x15+1)/\Br (x16<x11) (Df (IntKind.u64.wrap (x2*x10)) λx99=>Df (IntKind.u8.wrap ((G.toNat:Int)-48)) λkP=>Df (IntKind.u64.wrap kP) λvi=>Df (IntKind.u64.wrap (x99+vi)) λpM=>AL (x16+1)/\Hx R s0 pM x3 t4 t5 t6 x7 t8 t9 x10 x11 x12 t13 true (x15+1) (x16+1) x17 Z22) (Br (((G.toNat:Int):Int)≠48) (Hx R s0 x2 x3 t4 true t6 x7 t8 t9 x10 x11 x12 t13 true (x15+1) x16 x17 Z22) (Hx R s0 x2 x3 t4 t5 t6 x7 t8 t9 x10 x11 x12 t13 true (x15+1) x16 x17 Z22)))) (Br (x10=16) (AG 308 #[(.int .u8 (G.toNat:Int))] Z22 R (CI .u8 λALV y=>Br (97<=ALV) (AG 308 #[(.int .u8 (G.toNat:Int))] y R (CI .u8 λALW AE=>Br (ALW<=102) (AL (x15+1)/\Br (x16<x11) (Df (IntKind.u64.wrap (x2*16)) λALX=>AG 308 #[(.int .u8 (G.toNat:Int))] AE R (CI .u8 λALY AK=>Df (IntKind.u8.wrap (ALY-97)) λALZ=>Df (IntKind.u8.wrap (ALZ+10)) λALa=>Df (IntKind.u64.wrap ALa) λALb=>Df (IntKind.u64.wrap (ALX+ALb)) λALc=>AL (x16+1)/\Hx R s0 ALc x3 t4 t5 t6 x7 t8 t9 x10 x11 x12 t13 true (x15+1) (x16+1) x17 AK)) (Hx R s0 x2 x3 t4 true t6 x7 t8 t9 x10 x11 x12 t13 true (x15+1) x16 x17 AE)) (SX R s0 x2 x3 t4 t5 t6 x7 t8 t9 x10 x12 t13 t14 x15 x16 x17 AE))) (SX R s0 x2 x3 t4 t5 t6 x7 t8 t9 x10 x12 t13 t14 x15 x16 x17 y))) (SX R s0 x2 x3 t4 t5 t6 x7 t8 t9 x10 x12 t13 t14 x15 x16 x17 Z22))) (Br (x10=16) (AG 308 #[(.int .u8 (G.toNat:Int))] Z22 R (CI .u8 λALV y=>Br (97<=ALV) (AG 308 #[(.int .u8 (G.toNat:Int))] y R (CI .u8 λALW AE=>Br (ALW<=102) (AL (x15+1)/\Br (x16<x11) (Df (IntKind.u64.wrap (x2*16)) λALX=>AG 308 #[(.int .u8 (G.toNat:Int))] AE R (CI .u8 λALY AK=>Df (IntKind.u8.wrap (ALY-97)) λALZ=>Df (IntKind.u8.wrap (ALZ+10)) λALa=>Df (IntKind.u64.wrap ALa) λALb=>Df (IntKind.u64.wrap (ALX+ALb)) λALc=>AL (x16+1)/\Hx R s0 ALc x3 t4 t5 t6 x7 t8 t9 x10 x11 x12 t13 true (x15+1) (x16+1) x17 AK)) (Hx R s0 x2 x3 t4 true t6 x7 t8 t9 x10 x11 x12 t13 true (x15+1) x16 x17 AE)) (SX R s0 x2 x3 t4 t5 t6 x7 t8 t9 x10 x12 t13 t14 x15 x16 x17 AE))) (SX R s0 x2 x3 t4 t5 t6 x7 t8 t9 x10 x12 t13 t14 x15 x16 x17 y))) (SX R s0 x2 x3 t4 t5 t6 x7 t8 t9 x10 x12 t13 t14 x15 x16 x17 Z22))))) (SX R s0 x2 x3 t4 t5 t6 x7 t8 t9 x10 x12 t13 t14 x15 x16 x17 Z22)):ABS R s0 x2 x3 t4 t5 t6 x7 t8 t9 x10 x11 x12 t13 t14 x15 x16 x17 Z22:=M.of h ok rfl
def ABX (h:Bn t14 (R (.T #[.U x2,.I x3,.bool t4,.bool t5,.bool t6,.I x7,.bool t8]) Z22) (Bn t13 (se R s0 x2 x3 t4 t5 t6 x7 t8 t9 x10 x12 x16 x15 Z22) (se R s0 x2 x3 t4 t5 t6 x7 t8 t9 x10 x12 x16 x17 Z22))):SX R s0 x2 x3 t4 t5 t6 x7 t8 t9 x10 x12 t13 t14 x15 x16 x17 Z22:=M.of h ok rfl
def ABY (h:Br (x10=16) (AL (x17*4)/\AL (x16*4)/\ABT R s0 x2 x3 t4 t5 t6 x7 t8 t9 x10 x12 (x16*4) (x17*4) Z22) (ABT R s0 x2 x3 t4 t5 t6 x7 t8 t9 x10 x12 x16 x17 Z22)):se R s0 x2 x3 t4 t5 t6 x7 t8 t9 x10 x12 x16 x17 Z22:=M.of h ok rfl
def ABZ (h:Br (x7<(s0.size:Int)) (∃ATX:UInt8,0<=x7/\(ByteArray.data s0)[x7.toNat]?=some ATX/\AG 308 #[(.int .u8 (ATX.toNat:Int))] Z22 R (CI .u8 λAaH y=>Br (AaH=x12) (AL (x7+1)/\Br (((s0.size:Int):Int)<=(x7+1)) (R (.T #[.U x2,.I x3,.bool t4,.bool t5,.bool t6,(.I (x7+1)),.bool t8]) y) (∃G:UInt8,(0:Int)<=(x7+1)/\(ByteArray.data s0)[Int.toNat (x7+1)]?=some G/\Br (((G.toNat:Int):Int)=43) (AL ((x7+1)+1)/\ABW R s0 x2 x3 t4 t5 t6 (((x7+1)+1)) t8 t9 x16 x17 1 y) (Br (((G.toNat:Int):Int)=45) (AL ((x7+1)+1)/\ABW R s0 x2 x3 t4 t5 t6 (((x7+1)+1)) t8 t9 x16 x17 (-1) y) (ABW R s0 x2 x3 t4 t5 t6 (x7+1) t8 t9 x16 x17 1 y)))) (Br (x10=16) (R (.T #[.U x2,.I x3,.bool t4,.bool t5,.bool t6,.I x7,.bool t8]) y) (ABU R s0 x2 x3 t4 t5 t6 x7 t8 t9 x16 x17 y)))) (Br (x10=16) (R (.T #[.U x2,.I x3,.bool t4,.bool t5,.bool t6,.I x7,.bool t8]) Z22) (ABU R s0 x2 x3 t4 t5 t6 x7 t8 t9 x16 x17 Z22))):ABT R s0 x2 x3 t4 t5 t6 x7 t8 t9 x10 x12 x16 x17 Z22:=M.of h ok rfl
def ABa (h:Br (x2≠0) (AL (x17-x16)/\ABV R s0 x2 (x17-x16) t4 t5 t6 x7 t8 t9 Z22) (ABV R s0 x2 x3 t4 t5 t6 x7 t8 t9 Z22)):ABU R s0 x2 x3 t4 t5 t6 x7 t8 t9 x16 x17 Z22:=M.of h ok rfl
def kV (h:Bo t9 (∃G,YF prog (Instr.sliceAt 9 (.string s0) none (some (.I x7)) none) Z22 (.string G)/\AG 309 #[.string G] Z22 R (CB λt250 y=>Bn t250 (R (.T #[.U x2,.I x3,.bool t4,.bool t5,.bool t6,.I x7,.bool t8]) y) (R (.T #[.U x2,.I x3,.bool t4,.bool t5,.bool t6,.I x7,.bool true]) y))) (R (.T #[.U x2,.I x3,.bool t4,.bool t5,.bool t6,.I x7,.bool true]) Z22)):ABV R s0 x2 x3 t4 t5 t6 x7 t8 t9 Z22:=M.of h ok rfl
def ABb (h:AL (x7+1)/\ABS R s0 x2 x3 t4 t5 t6 (x7+1) t8 t9 x10 x11 x12 t13 t14 x15 x16 x17 Z22):Hx R s0 x2 x3 t4 t5 t6 x7 t8 t9 x10 x11 x12 t13 t14 x15 x16 x17 Z22:=M.of h ok rfl
end AF
end TwW
end
end
section
namespace Tw
open Go
variable [GO]
def BW (O2:Hp):List (Nat×Obj)->Hp
 | []=>O2
 | (b,o)::L=>(BW O2 L).set b o
abbrev names (L:List (Nat×Obj)):List Nat:=L.map Prod.fst
section
variable {O2:Hp}{L:List (Nat×Obj)}{b i:Nat}{o o':Obj}
theorem FY (h:b ∉ names L):BW O2 L b=O2 b:=by
 induction L with
 | nil=>rfl
 | cons p L G=>
  simp only[names,AkR,Ajo,Alw]at h;simp only[BW,Hp.AB h.1];exact G h.2
theorem Bd:∀{L:List (Nat×Obj)} {i:Nat},(names L).Nodup->L[i]?=some (b,o)->BW O2 L b=some o
 | p::L,0,_,h=>by simp at h;subst h;exact Hp.AA _ _ _
 | p::L,i+1,G,h=>by
  simp only[AkU]at h;have hm:b∈names L:=AkT.2 ⟨_,Aju h,rfl⟩;have G:=Ako.1 (show(p.1::names L).Nodup from G);have Av:b≠p.1:=λe=>G.1 (e▸hm);simp only[BW,Hp.AB Av];exact Bd G.2 h
theorem Hp.BD {Z22:Hp}{a b:Nat}{o u:Obj}(h:a≠b):(Z22.set a o).set b u=(Z22.set b u).set a o:=by
 funext k
 simp only[Hp.set];by_cases G:k=a
 .subst G;simp[h]
 .simp[G]
theorem DQ:∀{L:List (Nat×Obj)} {i:Nat},(names L).Nodup->L[i]?=some (b,o)->(BW O2 L).set b o'=BW O2 (L.set i (b,o'))
 | p::L,0,_,h=>by simp at h;subst h;exact Hp.set_set
 | p::L,i+1,G,h=>by
  simp only[AkU]at h;have hm:b∈names L:=AkT.2 ⟨_,Aju h,rfl⟩;have G:=Ako.1 (show(p.1::names L).Nodup from G);have Av:b≠p.1:=λe=>G.1 (e▸hm);simp only[BW,Al2];rw[Hp.BD (Aj4 Av),DQ G.2 h]
theorem RS:∀{L:List (Nat×Obj)},b ∉ names L->(BW O2 L).set b o=BW (O2.set b o) L
 | [],_=>rfl
 | p::L,h=>by
  simp only[names,AkR,Ajo,Alw]at h;simp only[BW];rw[Hp.BD (Aj4 h.1),RS h.2]
theorem cd:∀{L:List (Nat×Obj)},b∈names L->BW O2 L b≠none
 | p::L,h=>by
  by_cases hb:b=p.1
  .subst hb;simp only[BW,Hp.AA];simp
  .simp only[names,AkR,Ajo]at h;simp only[BW,Hp.AB hb];exact cd (h.resolve_left hb)
theorem P3 (h:BW O2 L b=none):b ∉ names L/\O2 b=none:=by
 have hs:∀{L:List (Nat×Obj)},b ∉ names L->BW O2 L b=O2 b:=FY;have G:b ∉ names L:=λhm=>cd hm h;exact⟨G,(hs G).symm.trans h⟩
def VI (L:List (Nat×Obj))(O2:Hp):Prop:=∀b∈names L,O2 b=none
theorem VI.ext {O2:Hp}:∀{L:List (Nat×Obj)},(names L).Nodup->VI L O2->Ext O2 (BW O2 L)
 | [],_,_=>.refl O2
 | p::L,G,h=>by
  have G:=Ako.1 (show(p.1::names L).Nodup from G);have ih:=VI.ext G.2 (λb hb=>h b (Ajm _ hb));refine ih.trans (.set ?_);rw[FY G.1];exact h _ (Aj5 ..)
theorem VI.set {O2:Hp}{b:Nat}{o:Obj}(h:VI L O2)(hb:b ∉ names L):VI L (O2.set b o):=λc G=>by
 have Av:c≠b:=λe=>hb (e▸G);rw[Hp.AB Av];exact h c G
end
theorem Spec.Lq {P:Program}{f:FuncId}{args:Array Value}{O2:Hp}:∀{L:List (Nat×Obj)} {R:Rr},(names L).Nodup->VI L O2->
  Spec P f args O2 (λe G=>VI L G->R e (BW G L))->Spec P f args (BW O2 L) R
 | [],R,_,_,h=>h.mono λe G hr=>hr (λb hb=>by cases hb)
 | p::L,R,hn,ho,h=>by
  have hn:=Ako.1 (show(p.1::names L).Nodup from hn);refine Spec.AR (by rw[FY hn.1];exact ho _ (Aj5 ..)) ?_;refine Spec.Lq hn.2 (λb hb=>ho b (Ajm _ hb)) (h.mono λe G hr fN HF=>hr λb hb=>?_);rcases Ajo.1 (show b∈p.1::names L from hb) with rfl|hb
  .rw[FY hn.1]at HF;exact HF
  .exact fN b hb
theorem AI.Lq {P:Program}{α:Type}{m:Sem α}{O2:Hp}:∀{L:List (Nat×Obj)} {Φ:α->Hp->Prop},(names L).Nodup->VI L O2->
  AI P m O2 (λv G=>VI L G->Φ v (BW G L))->AI P m (BW O2 L) Φ
 | [],R,_,_,h=>h.mono λe G hr=>hr (λb hb=>by cases hb)
 | p::L,R,hn,ho,h=>by
  have hn:=Ako.1 (show(p.1::names L).Nodup from hn);refine AI.AR (by rw[FY hn.1];exact ho _ (Aj5 ..)) ?_;refine AI.Lq hn.2 (λb hb=>ho b (Ajm _ hb)) (h.mono λe G hr fN HF=>hr λb hb=>?_);rcases Ajo.1 (show b∈p.1::names L from hb) with rfl|hb
  .rw[FY hn.1]at HF;exact HF
  .exact fN b hb
theorem AI.RT {P:Program}{O2:Hp}{L:List (Nat×Obj)}{i b n o:Nat}{T t:TypeId}{c c':Array Value}{v:Value}{Φ:Unit->Hp->Prop}(hz:∀w,(Go.sizeOf T).run P w=.ok n w)(G:(names L).Nodup)(hi:L[i]?=some (b,.cells c t (0,0)))
  (hv:v.cells.size=n) (hl:Nat.ble (o+n) c.size=true) (h1:(v.cells.toList.all λu=>u.oneCell')=true) (hc:LF c o v.cells.toList=c') (h:Φ () (BW O2 (L.set i (b,.cells c' t (0,0))))) :
  AI P (Instr.storeAt T (.pointer (some ⟨b,o,none⟩)) v) (BW O2 L) Φ:=by
 subst hc;refine AI.store hz (Bd G hi) hv (Akd hl) (λu hu=>Akk.1 h1 u hu) ?_;rw[DQ G hi];exact h
theorem ldL {O2:Hp}{L:List (Nat×Obj)}{i b o:Nat}{t:TypeId}{c:Array Value}{v:Value}(G:(names L).Nodup)(hi:L[i]?=some (b,.cells c t (0,0)))(h:c[o]?=some v):Hp.ld (BW O2 L) ⟨b,o,none⟩=some v:=by
 simp[Hp.ld,Bd G hi,h]
end Tw
end
section
namespace Tw
open Go Go.MapKept
variable [GO]
def V5 (p:Option Addr):List Nat:=match p with
 | some a=>[a.block]
 | none=>[]
structure Loc (A:Hp->Prop)(Z22:Hp)(S:List Nat):Prop where
 here:A Z22
 known:∀b∈S,Z22 b≠none
 loc:∀Z',(∀b∈S,Z' b=Z22 b)->A Z'
section
variable {P:Program}{Z22:Hp}{α:Type}
theorem AI.obj {m:Sem α}{b:Nat}{o o':Obj}{v:α}{Φ:α->Hp->Prop}(hb:Z22 b=some o)(hm:∀w,Sat Z22 w->∃w1:World,(w1=w\/w1=w.drew)/\m.run P w=.ok v (ChangeMaps.setBlock w1 b o'))(h:Φ v (Z22.set b o')):AI P m Z22 Φ:=λw F hs hF=>by
 obtain⟨w1,hw,CG⟩:=hm w hs;have Ax:b<w.heap.size:=(Aj2.1 (hs b o hb)).1;have FJ:w1.heap=w.heap:=by rcases hw with rfl|rfl<;>rfl
 refine⟨v,_,_,CG,h,λk u G=>?_,λk G=>?_,?_,?_,?_⟩
 .simp only[ChangeMaps.setBlock,FJ];by_cases FM:k=b
  .subst FM;rw[Hp.AA]at G;cases G;simp[Ax]
  .rw[Hp.AB FM]at G;simp[Aj4 FM,hs k u G]
 .have FM:k≠b:=λe=>by have:=(hF k G).2;rw[e,hb]at this;cases this
  refine⟨by rw[Hp.AB FM];exact(hF k G).2,?_⟩;simp[ChangeMaps.setBlock,FJ,Aj4 FM]
 .rcases hw with rfl|rfl
  .exact .same rfl rfl rfl
  .exact⟨rfl,rfl,λ_=>⟨1,rfl⟩⟩
 .rcases hw with rfl|rfl<;>rfl
 .simp[ChangeMaps.setBlock,FJ]
theorem AI.new {m:Sem α}{o:Obj}{v:Nat->α}{Φ:α->Hp->Prop}(hm:∀w,Sat Z22 w->m.run P w=.ok (v w.heap.size) (w.alloc o))(h:∀b,Z22 b=none->Φ (v b) (Z22.set b o)):AI P m Z22 Φ:=λw F G hF=>
 ⟨_,_,_,hm w G,h _ (Hl G),Fin.alloc G hF _ rfl (.same rfl rfl rfl) rfl⟩
class yI (P:Program)(T:TypeId)(K V:outParam TypeId):Prop where
 U1:P.underlying T=some (.map K V)
 key:P.underlying K=some .string
def Az (Z22:Hp)(b:Nat)(l:List MapEntry)(clock:Nat):Prop:=Z22 b=some (.map l.toArray clock)/\Stamped l.toArray clock/\∀x∈l,IsKey .string x.key
theorem Az.mono {Z22 Z':Hp}{b:Nat}{l:List MapEntry}{clock:Nat}(h:Az Z22 b l clock)(G:Ext Z22 Z'):Az Z' b l clock:=⟨G _ _ h.1,h.2⟩
theorem Az.loc {Z22 Z':Hp}{b:Nat}{l:List MapEntry}{clock:Nat}(h:Az Z22 b l clock)(G:Z' b=Z22 b):Az Z' b l clock:=⟨G.trans h.1,h.2⟩
theorem Az.nodup {Z22:Hp}{b:Nat}{l:List MapEntry}{clock:Nat}(h:Az Z22 b l clock):(l.map (·.key)).Nodup:=h.2.1.2.2
theorem DE {s:ByteArray}{l:List MapEntry}(hk:∀x∈l,IsKey .string x.key):
  (Instr.findNow .string (.string s) l 0=some none/\∀x∈l,x.key≠.string s)\/∃G e l2,l=G++e::l2/\e.key=.string s/\Instr.findNow .string (.string s) l 0=some (some (G.length,e.val)):=by
 rcases findNow_spec (d:=.string) (k:=.string s) trivial l 0 hk with h|⟨j,e,h1,h2,h3⟩
 .exact .inl h
 .obtain⟨hj,rfl⟩:=Ajn.1 h2;refine .inr ⟨l.take j,l[j],l.drop (j+1),?_,h3,?_⟩
  .rw[Alm,Aks]
  .rw[h1];simp[Alz (AnJ hj)]
section
variable {T K V ty:TypeId}{b clock:Nat}{l:List MapEntry}{s:ByteArray}
theorem C7 {Φ:Value->Hp->Prop}(h:∀b,Z22 b=none->Φ (.map (some b)) (Z22.set b (.map #[] 0))):AI P (Instr.makeMap T none) Z22 Φ:=
 AI.new (v:=λb=>.map (some b)) (λw _=>by simp[Instr.makeMap,Result.andThen]) h
theorem Az.fresh {b:Nat}{Z22:Hp}:Az (Z22.set b (.map #[] 0)) b [] 0:=⟨Hp.AA _ _ _,stamped_empty 0,by simp⟩
theorem Kg [t:yI P T K V](hm:Az Z22 b l clock){z:Value}(hz:∀w,(zeroValue V).run P w=.ok z w){Q:Value->Prop}
  (h0:(∀x∈l,x.key≠.string s)->Q z) (h1:∀l1 e l2,l=l1++e::l2->e.key=.string s->Q e.val):∃v,Q v/\YF P (Instr.lookup T (.map (some b)) (.string s) false) Z22 v:=by
 rcases DE (s:=s) hm.2.2 with ⟨G,hn⟩|⟨l1,e,l2,hl,he,G⟩
 .refine⟨z,h0 hn,λw hs=>?_⟩;have:=hs _ _ hm.1;simp[Instr.lookup,run_underlying t.U1,run_getObj_map this,run_checkKey t.key (k:=.string s) trivial,run_findKey t.key G,hz,Result.andThen]
 .refine⟨e.val,h1 l1 e l2 hl he,λw hs=>?_⟩;have:=hs _ _ hm.1;simp[Instr.lookup,run_underlying t.U1,run_getObj_map this,run_checkKey t.key (k:=.string s) trivial,run_findKey t.key G,Result.andThen]
theorem Lr [t:yI P T K V](hm:Az Z22 b l clock){z:Value}(hz:∀w,(zeroValue V).run P w=.ok z w){Φ:Value->Hp->Prop}
  (G:(∀x∈l,x.key≠.string s)->Φ z Z22) (h1:∀l1 e l2,l=l1++e::l2->e.key=.string s->Φ e.val Z22):AI P (Instr.lookup T (.map (some b)) (.string s) false) Z22 Φ:=by
 obtain⟨v,hq,hy⟩:=Kg (T:=T) (K:=K) (s:=s) (Q:=λv=>Φ v Z22) hm hz G h1;exact AI.pu hy hq
theorem pN [t:yI P T K V](hm:Az Z22 b l clock):YF P (Builtin.len_ #[T] ty #[.map (some b)]) Z22 (.int .i64 l.length):=λw G=>by
 have:=G _ _ hm.1;simp[Builtin.len_,run_underlying t.U1,run_getObj_map this,goInt,Result.andThen]
abbrev LN (s:ByteArray)(v:Value)(n:Nat):MapEntry:={ key:=.string s,val:=v,born:=n }
theorem FZ [t:yI P T K V](hm:Az Z22 b l clock){v:Value}{Φ:Unit->Hp->Prop}
  (h0:(∀x∈l,x.key≠.string s)->∀Z',Z'=Z22.set b (.map (l++[LN s v clock]).toArray (clock+1))->Az Z' b (l++[LN s v clock]) (clock+1)->Φ () Z')
  (h1:∀G e l2,l=G++e::l2->e.key=.string s->∀Z',Z'=Z22.set b (.map (G++LN s v e.born::l2).toArray clock)->Az Z' b (G++LN s v e.born::l2) clock->Φ () Z') :
  AI P (Instr.mapUpdate T (.map (some b)) (.string s) v) Z22 Φ:=by
 obtain⟨hb,CA,hk⟩:=hm;rcases DE (s:=s) hk with ⟨hf,hn⟩|⟨G,e,l2,hl,he,hf⟩
 .have Uc:(l++[LN s v clock]).toArray=l.toArray.push (LN s v clock):=by simp
  refine AI.obj (v:=()) (o':=.map (l++[LN s v clock]).toArray (clock+1)) hb (λw hs=>⟨w,.inl rfl,?_⟩) (h0 hn _ rfl ⟨Hp.AA _ _ _,?_,?_⟩)
  .have:=hs _ _ hb;rw[Uc];simp only[Instr.mapUpdate,Sem.run_bind,run_underlying t.U1,run_getObj_map this,run_checkKey t.key (k:=.string s) trivial,run_findKey t.key hf,Result.andThen_ok];simp[setObj,Sem.run,this,ChangeMaps.setBlock]
  .rw[Uc];exact stamped_push CA (by simpa using hn)
  .intro x hx;rcases AkH.1 hx with hx|hx
   .exact hk x hx
   .rw[Ajp]at hx;subst hx;trivial
 .subst hl;have kW:(G++LN s v e.born::l2).toArray=(G++e::l2).toArray.modify G.length (λe=>{ e with key:=.string s,val:=v }):=by
   rw[<-AkD];apply Akv
   intro j;simp only[AkQ,AlJ,Als];by_cases hj:G.length=j
   .subst hj;simp
   .rw[Ajj hj];rcases Alc j G.length with h|h
    .rw[AkJ h,AkJ h]
    .have:∃k,j=G.length+(k+1):=⟨j-G.length-1,by omega⟩;obtain⟨k,rfl⟩:=this;simp[Akf]
  have RU:(G++e::l2).toArray[G.length]?=some e:=by simp
  refine AI.obj (v:=()) (o':=.map (G++LN s v e.born::l2).toArray clock) hb (λw hs=>⟨w,.inl rfl,?_⟩) (h1 G e l2 rfl he _ rfl ⟨Hp.AA _ _ _,?_,?_⟩)
  .have:=hs _ _ hb;rw[kW];simp only[Instr.mapUpdate,Sem.run_bind,run_underlying t.U1,run_getObj_map this,run_checkKey t.key (k:=.string s) trivial,run_findKey t.key hf,Result.andThen_ok,RU,Aki,Ak6,he,
    run_keyThatStays (d:=.string) (k:=.string s) trivial]
   simp[setObj,Sem.run,this,ChangeMaps.setBlock]
  .rw[kW];exact stamped_modify CA _ _ (λ_ _=>rfl) (λe' _ VJ=>by rw[RU]at VJ;cases VJ;exact he.symm)
  .intro x hx;rcases AkH.1 hx with hx|hx
   .exact hk x (Aky _ hx)
   .rcases Ajo.1 hx with rfl|hx
    .trivial
    .exact hk x (AlX _ (Ajm _ hx))
def I8 (Z22:Hp)(i b:Nat)(l L:List MapEntry)(clock:Nat):Prop:=
 ∃seen c0,Z22 i=some (.mapIter (some b) clock seen c0)/\clock<=c0/\L=(leftOf l.toArray seen).toList
theorem P4 [t:yI P T K V](hm:Az Z22 b l clock){Φ:Value->Hp->Prop}(h:∀i o,Z22 i=none->I8 (Z22.set i o) i b l l clock->Φ (.pointer (some ⟨i,0,none⟩)) (Z22.set i o)):AI P (Instr.range T (.map (some b))) Z22 Φ:=
 AI.new (v:=λi=>.pointer (some ⟨i,0,none⟩)) (o:=.mapIter (some b) clock #[] clock) (λw G=>by
  have:=G _ _ hm.1;simp[Instr.range,run_underlying t.U1,run_getObj_map this,Result.andThen]) λi hi=>h i _ hi ⟨#[],clock,Hp.AA _ _ _,Ajt _,by simp[leftOf,Alf.2]⟩
theorem Tn {l:List MapEntry}{seen:Array Nat}{x:Nat}:(leftOf l.toArray (seen.push x)).toList=(leftOf l.toArray seen).toList.filter (λe=>e.born != x):=by
 simp only[leftOf,List.filter_toArray,List.filter_filter]
 congr 1
 funext e
 rw[Array.contains_push];cases seen.contains e.born<;>cases h:(e.born==x)<;>simp_all [bne]
theorem Kh (hm:Az Z22 b l clock){i:Nat}{L:List MapEntry}(hi:I8 Z22 i b l L clock){Φ:Value->Hp->Prop}
  (h0:L=[]->Φ (.tuple #[.bool false]) Z22)
  (h1:∀e∈L,e∈l->∀o,(∀O2,O2 i=some o->I8 O2 i b l (L.filter λx=>x.born != e.born) clock)->
   (∀O2,O2 i=some o->O2 b=Z22 b->∀{Ψ:Value->Hp->Prop},Ψ (.tuple #[e.key,e.val]) O2->AI P (Instr.entry (.pointer (some ⟨i,0,none⟩))) O2 Ψ)->Φ (.tuple #[.bool true,e.key,e.val]) (Z22.set i o)) :
  AI P (Instr.next (.pointer (some ⟨i,0,none⟩)) false ty) Z22 Φ:=by
 obtain⟨seen,c0,hi,hc,rfl⟩:=hi;obtain⟨hb,CA,G⟩:=hm;have hold:∀x∈l.toArray.toList,x.born<clock:=CA.1;intro w F hs hF;rcases run_next_at (P:=P) w ty i b clock c0 seen l.toArray clock (hs _ _ hi) (hs _ _ hb) hold hc with ⟨h,CG⟩|⟨e,he,w1,av,CG⟩
 .exact⟨_,w,Z22,CG,h0 (Aj8 (by simpa using h)),hs,λk G=>⟨(hF k G).2,rfl⟩,.same rfl rfl rfl,rfl,Ajt _⟩
 .have yJ:=(mem_left he).1;have h2:=h1 e he (by simpa using yJ) (.mapIter (some b) clock (seen.push e.born) clock) (λO2 hτ=>⟨_,_,hτ,Ajt _,Tn.symm⟩) (λO2 hτ ABc Ψ hΨ=>AI.pu (λw' Ms=>run_entry_at w' i b clock seen l.toArray clock e (Ms _ _ hτ) (Ms _ _ (ABc.trans hb)) yJ CA.2.1) hΨ);have Ax:i<w.heap.size:=(Aj2.1 (hs _ _ hi)).1;have FJ:w1.heap=w.heap:=by rcases av with rfl|rfl<;>rfl
  refine⟨_,_,_,CG,h2,λk u G=>?_,λk G=>?_,?_,?_,?_⟩
  .simp only[ChangeMaps.setBlock,FJ];by_cases FM:k=i
   .subst FM;rw[Hp.AA]at G;cases G;simp[Ax]
   .rw[Hp.AB FM]at G;simp[Aj4 FM,hs k u G]
  .have FM:k≠i:=λe=>by have:=(hF k G).2;rw[e,hi]at this;cases this
   refine⟨by rw[Hp.AB FM];exact(hF k G).2,?_⟩;simp[ChangeMaps.setBlock,FJ,Aj4 FM]
  .rcases av with rfl|rfl
   .exact .same rfl rfl rfl
   .exact⟨rfl,rfl,λ_=>⟨1,rfl⟩⟩
  .rcases av with rfl|rfl<;>rfl
  .simp[ChangeMaps.setBlock,FJ]
end
end
end Tw
end
section
theorem Tw.Hp.AM {Z22:Tw.Hp}{b k:Nat}{o:Go.Obj}(h:(Z22.set b o) k=none):k≠b/\Z22 k=none:=by
 have G:k≠b:=λe=>by rw[e,Tw.Hp.AA]at h;cases h
 exact⟨G,by rw[Tw.Hp.AB G]at h;exact h⟩
namespace yK
open Go Go.MapKept Tw
variable [GO]
section
variable {P:Program}{Z22:Hp}
class yL (P:Program)(T:TypeId)(K V:outParam TypeId):Prop where
 U1:P.underlying T=some (.map K V)
 key:P.underlying K=some (.int .i64)
def Az (Z22:Hp)(b:Nat)(l:List MapEntry)(clock:Nat):Prop:=Z22 b=some (.map l.toArray clock)/\Stamped l.toArray clock/\∀x∈l,IsKey (.int .i64) x.key
theorem Az.loc {Z22 Z':Hp}{b:Nat}{l:List MapEntry}{clock:Nat}(h:Az Z22 b l clock)(G:Z' b=Z22 b):Az Z' b l clock:=⟨G.trans h.1,h.2⟩
theorem DE {s:Int}{l:List MapEntry}(hk:∀x∈l,IsKey (.int .i64) x.key):
  (Instr.findNow (.int .i64) (.int .i64 s) l 0=some none/\∀x∈l,x.key≠.int .i64 s)\/∃G e l2,l=G++e::l2/\e.key=.int .i64 s/\Instr.findNow (.int .i64) (.int .i64 s) l 0=some (some (G.length,e.val)):=by
 rcases findNow_spec (d:=.int .i64) (k:=.int .i64 s) rfl l 0 hk with h|⟨j,e,h1,h2,h3⟩
 .exact .inl h
 .obtain⟨hj,rfl⟩:=Ajn.1 h2;refine .inr ⟨l.take j,l[j],l.drop (j+1),?_,h3,?_⟩
  .rw[Alm,Aks]
  .rw[h1];simp[Alz (AnJ hj)]
section
variable {T K V ty:TypeId}{b clock:Nat}{l:List MapEntry}{s:Int}
theorem Az.fresh {b:Nat}{Z22:Hp}:Az (Z22.set b (.map #[] 0)) b [] 0:=⟨Hp.AA _ _ _,stamped_empty 0,by simp⟩
theorem Kg [t:yL P T K V](hm:Az Z22 b l clock){z:Value}(hz:∀w,(zeroValue V).run P w=.ok z w){Q:Value->Prop}
  (h0:(∀x∈l,x.key≠.int .i64 s)->Q z) (h1:∀l1 e l2,l=l1++e::l2->e.key=.int .i64 s->Q e.val):∃v,Q v/\YF P (Instr.lookup T (.map (some b)) (.int .i64 s) false) Z22 v:=by
 rcases DE (s:=s) hm.2.2 with ⟨G,hn⟩|⟨l1,e,l2,hl,he,G⟩
 .refine⟨z,h0 hn,λw hs=>?_⟩;have:=hs _ _ hm.1;simp[Instr.lookup,run_underlying t.U1,run_getObj_map this,run_checkKey t.key (k:=.int .i64 s) rfl,run_findKey t.key G,hz,Result.andThen]
 .refine⟨e.val,h1 l1 e l2 hl he,λw hs=>?_⟩;have:=hs _ _ hm.1;simp[Instr.lookup,run_underlying t.U1,run_getObj_map this,run_checkKey t.key (k:=.int .i64 s) rfl,run_findKey t.key G,Result.andThen]
theorem Lr [t:yL P T K V](hm:Az Z22 b l clock){z:Value}(hz:∀w,(zeroValue V).run P w=.ok z w){Φ:Value->Hp->Prop}
  (G:(∀x∈l,x.key≠.int .i64 s)->Φ z Z22) (h1:∀l1 e l2,l=l1++e::l2->e.key=.int .i64 s->Φ e.val Z22):AI P (Instr.lookup T (.map (some b)) (.int .i64 s) false) Z22 Φ:=by
 obtain⟨v,hq,hy⟩:=Kg (T:=T) (K:=K) (s:=s) (Q:=λv=>Φ v Z22) hm hz G h1;exact AI.pu hy hq
theorem pN [t:yL P T K V](hm:Az Z22 b l clock):YF P (Builtin.len_ #[T] ty #[.map (some b)]) Z22 (.int .i64 l.length):=λw G=>by
 have:=G _ _ hm.1;simp[Builtin.len_,run_underlying t.U1,run_getObj_map this,goInt,Result.andThen]
abbrev LN (s:Int)(v:Value)(n:Nat):MapEntry:={ key:=.int .i64 s,val:=v,born:=n }
theorem FZ [t:yL P T K V](hm:Az Z22 b l clock){v:Value}{Φ:Unit->Hp->Prop}
  (h0:(∀x∈l,x.key≠.int .i64 s)->∀Z',Z'=Z22.set b (.map (l++[LN s v clock]).toArray (clock+1))->Az Z' b (l++[LN s v clock]) (clock+1)->Φ () Z')
  (h1:∀G e l2,l=G++e::l2->e.key=.int .i64 s->∀Z',Z'=Z22.set b (.map (G++LN s v e.born::l2).toArray clock)->Az Z' b (G++LN s v e.born::l2) clock->Φ () Z') :
  AI P (Instr.mapUpdate T (.map (some b)) (.int .i64 s) v) Z22 Φ:=by
 obtain⟨hb,CA,hk⟩:=hm;rcases DE (s:=s) hk with ⟨hf,hn⟩|⟨G,e,l2,hl,he,hf⟩
 .have Uc:(l++[LN s v clock]).toArray=l.toArray.push (LN s v clock):=by simp
  refine AI.obj (v:=()) (o':=.map (l++[LN s v clock]).toArray (clock+1)) hb (λw hs=>⟨w,.inl rfl,?_⟩) (h0 hn _ rfl ⟨Hp.AA _ _ _,?_,?_⟩)
  .have:=hs _ _ hb;rw[Uc];simp only[Instr.mapUpdate,Sem.run_bind,run_underlying t.U1,run_getObj_map this,run_checkKey t.key (k:=.int .i64 s) rfl,run_findKey t.key hf,Result.andThen_ok];simp[setObj,Sem.run,this,ChangeMaps.setBlock]
  .rw[Uc];exact stamped_push CA (by simpa using hn)
  .intro x hx;rcases AkH.1 hx with hx|hx
   .exact hk x hx
   .rw[Ajp]at hx;subst hx;rfl
 .subst hl;have kW:(G++LN s v e.born::l2).toArray=(G++e::l2).toArray.modify G.length (λe=>{ e with key:=.int .i64 s,val:=v }):=by
   rw[<-AkD];apply Akv
   intro j;simp only[AkQ,AlJ,Als];by_cases hj:G.length=j
   .subst hj;simp
   .rw[Ajj hj];rcases Alc j G.length with h|h
    .rw[AkJ h,AkJ h]
    .have:∃k,j=G.length+(k+1):=⟨j-G.length-1,by omega⟩;obtain⟨k,rfl⟩:=this;simp[Akf]
  have RU:(G++e::l2).toArray[G.length]?=some e:=by simp
  refine AI.obj (v:=()) (o':=.map (G++LN s v e.born::l2).toArray clock) hb (λw hs=>⟨w,.inl rfl,?_⟩) (h1 G e l2 rfl he _ rfl ⟨Hp.AA _ _ _,?_,?_⟩)
  .have:=hs _ _ hb;rw[kW];simp only[Instr.mapUpdate,Sem.run_bind,run_underlying t.U1,run_getObj_map this,run_checkKey t.key (k:=.int .i64 s) rfl,run_findKey t.key hf,Result.andThen_ok,RU,Aki,Ak6,he,
    run_keyThatStays (d:=.int .i64) (k:=.int .i64 s) rfl]
   simp[setObj,Sem.run,this,ChangeMaps.setBlock]
  .rw[kW];exact stamped_modify CA _ _ (λ_ _=>rfl) (λe' _ VJ=>by rw[RU]at VJ;cases VJ;exact he.symm)
  .intro x hx;rcases AkH.1 hx with hx|hx
   .exact hk x (Aky _ hx)
   .rcases Ajo.1 hx with rfl|hx
    .rfl
    .exact hk x (AlX _ (Ajm _ hx))
theorem P4 [t:yL P T K V](hm:Az Z22 b l clock){Φ:Value->Hp->Prop}(h:∀i o,Z22 i=none->I8 (Z22.set i o) i b l l clock->Φ (.pointer (some ⟨i,0,none⟩)) (Z22.set i o)):AI P (Instr.range T (.map (some b))) Z22 Φ:=
 AI.new (v:=λi=>.pointer (some ⟨i,0,none⟩)) (o:=.mapIter (some b) clock #[] clock) (λw G=>by
  have:=G _ _ hm.1;simp[Instr.range,run_underlying t.U1,run_getObj_map this,Result.andThen]) λi hi=>h i _ hi ⟨#[],clock,Hp.AA _ _ _,Ajt _,by simp[leftOf,Alf.2]⟩
theorem Kh (hm:Az Z22 b l clock){i:Nat}{L:List MapEntry}(hi:I8 Z22 i b l L clock){Φ:Value->Hp->Prop}
  (h0:L=[]->Φ (.tuple #[.bool false]) Z22)
  (h1:∀e∈L,e∈l->∀o,(∀O2,O2 i=some o->I8 O2 i b l (L.filter λx=>x.born != e.born) clock)->
   (∀O2,O2 i=some o->O2 b=Z22 b->∀{Ψ:Value->Hp->Prop},Ψ (.tuple #[e.key,e.val]) O2->AI P (Instr.entry (.pointer (some ⟨i,0,none⟩))) O2 Ψ)->Φ (.tuple #[.bool true,e.key,e.val]) (Z22.set i o)) :
  AI P (Instr.next (.pointer (some ⟨i,0,none⟩)) false ty) Z22 Φ:=by
 obtain⟨seen,c0,hi,hc,rfl⟩:=hi;obtain⟨hb,CA,G⟩:=hm;have hold:∀x∈l.toArray.toList,x.born<clock:=CA.1;intro w F hs hF;rcases run_next_at (P:=P) w ty i b clock c0 seen l.toArray clock (hs _ _ hi) (hs _ _ hb) hold hc with ⟨h,CG⟩|⟨e,he,w1,av,CG⟩
 .exact⟨_,w,Z22,CG,h0 (Aj8 (by simpa using h)),hs,λk G=>⟨(hF k G).2,rfl⟩,.same rfl rfl rfl,rfl,Ajt _⟩
 .have yJ:=(mem_left he).1;have h2:=h1 e he (by simpa using yJ) (.mapIter (some b) clock (seen.push e.born) clock) (λO2 hτ=>⟨_,_,hτ,Ajt _,Tn.symm⟩) (λO2 hτ ABc Ψ hΨ=>AI.pu (λw' Ms=>run_entry_at w' i b clock seen l.toArray clock e (Ms _ _ hτ) (Ms _ _ (ABc.trans hb)) yJ CA.2.1) hΨ);have Ax:i<w.heap.size:=(Aj2.1 (hs _ _ hi)).1;have FJ:w1.heap=w.heap:=by rcases av with rfl|rfl<;>rfl
  refine⟨_,_,_,CG,h2,λk u G=>?_,λk G=>?_,?_,?_,?_⟩
  .simp only[ChangeMaps.setBlock,FJ];by_cases FM:k=i
   .subst FM;rw[Hp.AA]at G;cases G;simp[Ax]
   .rw[Hp.AB FM]at G;simp[Aj4 FM,hs k u G]
  .have FM:k≠i:=λe=>by have:=(hF k G).2;rw[e,hi]at this;cases this
   refine⟨by rw[Hp.AB FM];exact(hF k G).2,?_⟩;simp[ChangeMaps.setBlock,FJ,Aj4 FM]
  .rcases av with rfl|rfl
   .exact .same rfl rfl rfl
   .exact⟨rfl,rfl,λ_=>⟨1,rfl⟩⟩
  .rcases av with rfl|rfl<;>rfl
  .simp[ChangeMaps.setBlock,FJ]
end
end
end yK
end
section
namespace Tw
open Go
variable [GO]
def Xx (s:ByteArray):List Value:=s.data.toList.map λb=>.int .u8 b.toNat
theorem ABd {s:ByteArray}:(Xx s).length=s.size:=by simp[Xx]
theorem ABe {s:ByteArray}:FL (Xx s):=λu G=>by obtain⟨x,_,rfl⟩:=AkT.1 G;rfl
section append
variable {P:Program}{T E ty:TypeId}{bs:Nat}{Z22:Hp}{p:Option Addr}{n c m:Nat}{cs ys:List Value}{Φ:Value->Hp->Prop}
theorem Xy {str:ByteArray}(w:World)(size:Nat):(Builtin.firstCells size str.size (.string str)).run P w=.ok (Xx str).toArray w:=by
 have hx:(Array.map (λb:UInt8=>Value.int IntKind.u8 (b.toNat:Int)) str.data).extract 0 str.size=(Xx str).toArray:=by
  have hs:str.size=(Array.map (λb:UInt8=>Value.int IntKind.u8 (b.toNat:Int)) str.data).size:=by rw[Array.size_map];rfl
  rw[hs,Ame];apply Am8
  simp[Xx]
 have G:Array.map (λb:UInt8=>Value.int IntKind.u8 (b.toNat:Int)) str.data=(Xx str).toArray:=by apply Am8;simp[Xx]
 simp[Builtin.firstCells,G]
theorem AFE [h:KE P T E 1 bs]{U:TypeId}{str:ByteArray}(hU:P.underlying U=some .string)(CV:BL 1 Z22 p n c cs)(hm:str.size=m)(G:Xx str=ys)(hb:(n+m)*bs<=140737488355328)
  (hΦ:∀p' c' Z',BL 1 Z' p' (n+m) c' (cs++ys)->Ext (Z22.del p) (Z'.del p')->((p'=p/\c'=c/\n+m<=c)\/(c<n+m/\Ext Z22 Z'/\∀a,p'=some a->Z22 a.block=none))->Φ (.slice p' (n+m) c') Z') :
  AI P (Builtin.append_ #[T,U] ty #[.slice p n c,.string str]) Z22 Φ:=by
 obtain⟨ht,⟨i,z,hi,hz,Ml,rfl,hzs⟩,Is,yh⟩:=h;have h1:FL ys:=G▸ABe;have hyl:ys.length=m*1:=by rw[<-G,<-hm,AlQ];exact ABd
 have h62:n+m<=140737488355328:=Ake (Al5 _ yh) hb;intro w F hs hF;have hf:=Xy (P:=P) (str:=str) w 1;rw[G,hm]at hf;have uR:=λw':World=>Xy (P:=P) (str:=str) w' 1;rw[G,hm]at uR;have EM:=λw' (hw:Sat Z22 w')=>Ps (P:=P) (d:=c) w' hw CV.rd;have hlen:(cs++ys).length=(n+m)*1:=by rw[Ajr,CV.1,hyl,Akw]
 by_cases Je:n+m<=c
 ·
  rcases CV.2.2 with ⟨hp,hn,hc⟩|⟨b,o,arr,T',rfl,hblk,rM,KD,RD⟩
  .subst hp hn hc;have hm:m=0:=by omega
   subst hm;have G:ys=[]:=Aj8 (by simpa using hyl);have RD:cs=[]:=Aj8 (by simpa using CV.1);subst G RD;refine⟨.slice none 0 0,w,Z22,?_,hΦ none 0 Z22 BL.nil (Ext.refl _) (.inl ⟨rfl,rfl,Je⟩),hs,λb hb=>⟨(hF b hb).2,rfl⟩,.same rfl rfl rfl,rfl,Ajt _⟩;simp[Builtin.append_,run_underlying ht,run_underlying hU,Ml,hm,Go.sizeOf,typeInfo,hi,Builtin.lenOf,hf]
  .have hw:=hs _ _ hblk;have AJM:o+n*1+0+ys.length<=arr.size:=by
    rw[hyl];have:(n+m)*1<=c*1:=AkZ _ Je;rw[Akw]at this;omega
   have CA:=GY (P:=P) b (o+n*1) T' ys 0 arr w hw AJM h1;simp only[Ak7,AlQ]at CA;refine⟨.slice (some ⟨b,o,none⟩) (n+m) c,w.setRow b (LF arr (o+n) ys),Z22.set b (.cells (LF arr (o+n) ys) T' (0,0)),?_,hΦ _ _ _ ⟨hlen,by omega,.inr ⟨b,o,_,T',rfl,Hp.AA _ _ _,Je,by rw[KR];exact KD,?_⟩⟩ (by rw[Hp.LH];exact Ext.refl _) (.inl ⟨rfl,rfl,Je⟩),?_⟩
   .simp[Builtin.append_,run_underlying ht,run_underlying hU,Ml,hm,Go.sizeOf,typeInfo,hi,Builtin.lenOf,Je,hf,Cv,CA]
   .refine Akv λj=>?_;rw[AkE];simp only[AkL,AkQ];rw[VW _ _ _ _ (by omega),Ak5];have e1:cs.length=n*1:=CV.1;have e2:ys.length=m*1:=hyl;have e3:(n+m)*1=n*1+m*1:=Akw ..;by_cases hj1:j<cs.length
    .rw[Ajl (by omega),Ajj (by omega),Ajl hj1,<-RD,AkE,Ajl (by omega)];simp
    .rw[Ajj hj1];by_cases hj2:j<(n+m)*1
     .rw[Ajl hj2,Ajl (by omega),show o+j-(o+n)=j-cs.length by omega]
     .rw[Ajj hj2,Ak2 (by omega)]
   .refine⟨λk u hk=>?_,λk hk=>?_,.same rfl rfl rfl,rfl,by simp⟩
    .by_cases FM:k=b
     .subst FM;rw[Hp.AA]at hk;cases hk;exact setRow_heap w k arr _ T' (0,0) hw
     .rw[Hp.AB FM]at hk;rw[setRow_other _ _ _ _ FM];exact hs k u hk
    .have FM:k≠b:=λh=>by have:=(hF k hk).2;rw[h,hblk]at this;cases this
     exact⟨by rw[Hp.AB FM];exact(hF k hk).2,setRow_other _ _ _ _ FM⟩
 ·
  have AOZ:Builtin.nextslicecap (n+m) c*i.bytes<=281474976710656:=growslice_fits (by omega) hb;have hgc:=grownCap_ge w (n+m) c E;have Ms:Sat Z22 w.drew:=hs;have CG:(Builtin.append_ #[T,U] ty #[.slice p n c,.string str]).run P w =
    .ok (.slice (some ⟨w.heap.size,0,none⟩) (n+m) (grownCap w (n+m) c E))
     (w.drew.alloc (.cells (cs.toArray++ys.toArray++Builtin.zeroCells z.cells (grownCap w (n+m) c E-(n+m))) E)):=by
   have AJN:¬(9223372036854775807<((n:Int)+(m:Int))):=by omega
   have AJO:¬(281474976710656<Builtin.nextslicecap (n+m) c*i.bytes):=by omega
   simp[Builtin.append_,run_underlying ht,run_underlying hU,Ml,hm,Go.sizeOf,typeInfo,zeroValue,hi,hz,Builtin.lenOf,Je,AJN,AJO,Question.forced,uR,EM _ Ms,newRow,grownCap]
   congr 2
   apply Am8
   simp[AkC]
  refine⟨_,_,Z22.set w.heap.size _,CG,hΦ _ _ _ ⟨hlen,by omega,.inr ⟨w.heap.size,0,_,E,rfl,Hp.AA _ _ _,hgc,?_,?_⟩⟩ ?_ (.inr ⟨by omega,Ext.set (Hl hs),λa ha=>by cases ha;exact Hl hs⟩),Fin.alloc hs hF _ rfl ⟨rfl,rfl,λ_=>⟨1,rfl⟩⟩ rfl⟩
  .simp only[Aml,Amm,size_zeroCells,hzs,CV.1,hyl,<-Akw];have:n+m+(grownCap w (n+m) c E-(n+m))=grownCap w (n+m) c E:=by omega
   rw[this];omega
  .simp only[Ama,Alr];rw[<-hlen];exact Am3
  .rw[Hp.Rx (Hl hs)];exact Ext.LG Z22 p
end append
end Tw
end
section
namespace Tw
open Go
variable [GO]
def Hp.or (N M:Hp):Hp:=λk=>match N k with | some o=>some o | none=>M k
def Hp.minus (Z22 N:Hp):Hp:=λk=>match N k with | some _=>none | none=>Z22 k
def FI (N M:Hp):Prop:=∀k,M k≠none->N k=none
theorem Hp.Cf {N M:Hp}{k:Nat}{o:Obj}(h:N k=some o):N.or M k=some o:=by simp[Hp.or,h]
theorem Hp.Cn {N M:Hp}{k:Nat}(h:N k=none):N.or M k=M k:=by simp[Hp.or,h]
theorem Ext.Cf (N M:Hp):Ext N (N.or M):=λ_ _ h=>Hp.Cf h
theorem Ext.Cn {N M:Hp}(hd:FI N M):Ext M (N.or M):=λk o h=>by rw[Hp.Cn (hd k (by rw[h];simp))];exact h
theorem Ext.kX {N M Z22:Hp}(G:Ext N Z22)(h2:Ext M Z22):Ext (N.or M) Z22:=λk o h=>by
 unfold Hp.or at h;split at h
 .rename_i u hu;cases h;exact G _ _ hu
 .exact h2 _ _ h
theorem Hp.HY {Z22 N:Hp}{k:Nat}{o:Obj}:Z22.minus N k=some o↔N k=none/\Z22 k=some o:=by
 unfold Hp.minus;cases N k<;>simp
theorem Ext.ABf (Z22 N:Hp):Ext (Z22.minus N) Z22:=λ_ _ h=>(Hp.HY.1 h).2
theorem FI.minus (Z22 N:Hp):FI N (Z22.minus N):=λk h=>by
 cases G:Z22.minus N k with
 | none=>exact absurd G h
 | some o=>exact(Hp.HY.1 G).1
theorem Ext.ABg {Z22 Z' N:Hp}(h:Ext Z22 Z')(hd:FI N Z22):Ext Z22 (Z'.minus N):=λk o G=>Hp.HY.2 ⟨hd k (by rw[G];simp),h _ _ G⟩
theorem Spec.ABh {P:Program}{f:FuncId}{args:Array Value}{N M Z22:Hp}{R:Rr}(hN:Ext N Z22)(hM:Ext M Z22)(hd:FI N M)
  (h:Spec P f args N (λe N'=>FI N' M->R e (N'.or M))):Spec P f args Z22 R:=λw F hs hF=>by
 have hMs:∀k,M k≠none->∃o,M k=some o/\w.heap[k]?=some o:=λk G=>by
  cases hh:M k with
  | none=>exact absurd hh G
  | some o=>exact⟨o,rfl,hs _ _ (hM _ _ hh)⟩
 refine(h w (λk=>F k\/M k≠none) (λk o G=>hs _ _ (hN _ _ G)) λk G=>?_).mono ?_
 .rcases G with G|G
  .exact⟨(hF k G).1,A7 hN (hF k G).2⟩
  .obtain⟨o,_,ho⟩:=hMs k G;exact⟨(Aj2.1 ho).1,hd k G⟩
 .rintro e w' ⟨N',hr,hf⟩
  have hd':FI N' M:=λk G=>(hf.BM k (.inr G)).1;refine⟨N'.or M,hr hd',λk o G=>?_,λk G=>⟨?_,(hf.BM k (.inl G)).2⟩,hf.os,hf.out,hf.grow⟩
  .unfold Hp.or at G;split at G
   .rename_i u hu;cases G;exact hf.sat _ _ hu
   .have Av:M k≠none:=by rw[G];simp
    obtain⟨o',h1,h2⟩:=hMs k Av;rw[G]at h1;cases h1;rw[(hf.BM k (.inr Av)).2];exact h2
  .rw[Hp.Cn (hf.BM k (.inl G)).1];exact A7 hM (hF k G).2
end Tw
end
section
namespace TwW
open Go Tw Go.Proofs.Tryz
theorem AJ {Z22:Hp}{b o:Nat}{c:Array Value}{t:TypeId}{fr:Nat×Nat}{v:Value}(h:Z22 b=some (.cells c t fr))(hv:c[o]?=some v):Z22.ld ⟨b,o,none⟩=some v:=by simp[Hp.ld,h,hv]
section
variable {Z22:Hp}{d:Nat}{S:List Nat}{R:Rr}
end
end TwW
namespace TwW
open Go Tw Go.Proofs.Tryz
section
variable {Z22:Hp}{d:Nat}{S:List Nat}{R:Rr}
theorem BL.cap {s:Nat}{Z22:Hp}{p:Option Addr}{n c:Nat}{cs:List Value}(h:BL s Z22 p n c cs):n<=c:=by
 rcases h.2.2 with ⟨_,h1,h2⟩|⟨b,o,arr,T,_,_,G,_⟩
 .omega
 .exact G
end
end TwW
namespace TwW
open Go Tw Go.Proofs.Tryz
def uv (x:Nat):List Int:=if h:128<=x then((x%128+128:Nat):Int)::uv (x/128) else[(x:Int)]
termination_by x
decreasing_by omega
theorem ABi {x:Nat}(h:128<=x):uv x=((x%128+128:Nat):Int)::uv (x/128):=by rw[uv,dif_pos h]
theorem SY {x:Nat}(h:¬128<=x):uv x=[(x:Int)]:=by rw[uv,dif_neg h]
theorem ABj:∀(k x:Nat),x<128^(k+1)->(uv x).length<=k+1
 | 0,x,h=>by rw[SY (by simpa using h)];simp
 | k+1,x,h=>by
  by_cases G:128<=x
  .rw[ABi G];have:=ABj k (x/128) (by rw[AmI (by decide)];rw[AnK]at h;exact h);simp;omega
  .rw[SY G];simp
theorem PT {x:Nat}(h:x<18446744073709551616):(uv x).length<=10:=ABj 9 x (by omega)
set_option maxRecDepth 100000 in
theorem ATa:∀y:Fin 256,Go.bits .or .u8 (y.1:Int) 128=((y.1%128+128:Nat):Int):=by decide
theorem SZ {R:Rr}{Z22:Hp}{p:Option Addr}{n c x:Nat}{xs:List Int}(hr:DB .u8 Z22 p n xs)(hn:n<=70368744177664)(hx:x<18446744073709551616)
  (h:∀p' G c' Z',DS .u8 (Z22.new Z') p' G c' (xs++uv x)->Ext Z22 Z'->R (.returned (.slice p' G c')) Z'):Spec prog 140 #[.slice p n c,.U x] Z22 R:=by
 refine FU.start λb hb=>?_;refine ED BL.empty ((Fo.of_map hr).mono (.set hb)) FL.Pr (by omega) λp' c' Z' CV PU=>?_;have hq:∀a:Addr,(some (⟨b,0,none⟩:Addr))=some a->Z22 a.block=none:=λa ha=>by cases ha;exact hb
 have ho:=BL.TJ CV (HL hq PU (.set hb));have he:=LJ hq PU (.set hb);refine⟨p',0+n,c',rfl,?_⟩;rw[Akn]at ho ⊢;have hlen:=hr.1
 suffices H:∀(k x G:Nat) p' c' Z' ys,x<128^(k+1)->G+k<=n+9->DS .u8 (Z22.new Z') p' G c' ys->Ext Z22 Z'->(∀p' G c' Z',DS .u8 (Z22.new Z') p' G c' (ys++uv x)->Ext Z22 Z'->R (.returned (.slice p' G c')) Z')->FU.GQ R x p' G c' Z' from
  H 9 x n p' c' Z' xs (by omega) (by omega) ho he h
 intro k
 induction k with
 | zero=>
  intro x G p' c' Z' ys hx Mh ho he h;refine FU.BI ⟨λAx=>by omega,λ_ aO ALe b2 Fi=>?_⟩;have Xz:aO=(x:Int):=by rw[ALe];simp[IntKind.wrap,IntKind.bits,IntKind.signed];omega
  subst Xz;refine DS.FN he ho (by omega) (λp2 c2 Z2 B6 si _=>⟨p2,G+1,c2,rfl,h _ _ _ _ ?_ si⟩) Fi;rw[SY (by omega)];exact B6
 | succ k ih=>
  intro x G p' c' Z' ys hx Mh ho he h;refine FU.BI ⟨λAx x15 aw x16 AaI b2 Fi=>?_,λRU aO ALe b2 Fi=>?_⟩
  .have h15:x15=((x%256:Nat):Int):=by rw[aw];simp[IntKind.wrap,IntKind.bits,IntKind.signed]
   have h16:x16=((x%128+128:Nat):Int):=by
    rw[AaI,h15,ATa ⟨x%256,Al4 _ (by decide)⟩];have:x%256%128=x%128:=by omega
    rw[this]
   subst h16;refine DS.FN he ho (by omega) (λp2 c2 Z2 B6 si _=>⟨p2,G+1,c2,rfl,by simp[IntKind.bits],λx12 ABk=>?_⟩) Fi;have To:x12=((x/128:Nat):Int):=by rw[ABk];simp
   subst To;refine ih (x/128) (G+1) p2 c2 Z2 _ (by rw[AmI (by decide)];rw[AnK]at hx;exact hx) (by omega) B6 si λp3 n3 c3 Z3 Di he3=>h p3 n3 c3 Z3 ?_ he3;rw[ABi (by omega)];simpa using Di
  .have Xz:aO=(x:Int):=by rw[ALe];simp[IntKind.wrap,IntKind.bits,IntKind.signed];omega
   subst Xz;refine DS.FN he ho (by omega) (λp2 c2 Z2 B6 si _=>⟨p2,G+1,c2,rfl,h _ _ _ _ ?_ si⟩) Fi;rw[SY (by omega)];exact B6
end TwW
namespace TwW
open Go Tw Go.RowKit Go.Proofs.Tryz
theorem Fo.at1 {Z22:Hp}{p:Option Addr}{n k:Nat}{L:List Value}{v:Value}(h:Fo 1 Z22 p n L)(hk:L[k]?=some v):∃b o,p=some ⟨b,o,none⟩/\Z22.ld ⟨b,o+k*1,none⟩=some v:=by
 obtain⟨h1,_,G⟩:=h;have Ax:=(Ajn.1 hk).1;rcases G with G|⟨b,o,hp,hl⟩
 .simp at h1;omega
 .refine⟨b,o,hp,?_⟩;rw[AlQ];exact hl.get hk
section
variable {Z22 O2:Hp}{d:Nat}{R:Rr}
end
section
variable {dir:ByteArray}{cnt:Nat}
end
end TwW
namespace TwW
open Go Tw Go.RowKit Go.Proofs.Tryz
def byt (s:ByteArray):List Int:=s.data.toList.map λb=>(b.toNat:Int)
theorem sj {s:ByteArray}:(byt s).length=s.size:=by simp[byt]
theorem ABl {s:ByteArray}:Xx s=(byt s).map (.int .u8):=by simp[Xx,byt]
theorem ABm (l:List UInt8):strOfNums (l.map λb=>(b.toNat:Int))=⟨l.toArray⟩:=by
 apply AmE
 apply AkD.1
 rw[strOfNums_data,List.map_map]
 conv=>rhs;rw[<-List.map_id l]
 exact List.map_congr_left λa _=>by simp
section
variable {Z22:Hp}{R:Rr}
theorem Sa {p:Option Addr}{n c:Nat}{xs:List Int}{s:ByteArray}(hr:DB .u8 Z22 p n xs)(hn:n<=1048576)(hs:s.size<=1048576)
  (h:∀p' G c' Z',DS .u8 (Z22.new Z') p' G c' (xs++uv s.size++byt s)->Ext Z22 Z'->R (.returned (.slice p' G c')) Z'):Spec prog 141 #[.slice p n c,.string s] Z22 R:=by
 refine Qt.start λx8 h8=>?_;have e8:x8=(s.size:Int):=by rw[h8];simp[IntKind.wrap,IntKind.bits,IntKind.signed];omega
 subst e8;refine SZ hr (by omega) (by omega) λp' G c' Z1 ho BC=>⟨p',G,c',rfl,?_⟩;have hq:∀a,p'=some a->Z22 a.block=none:=λa ha=>by
  have h2:=BL.block ho a ha;cases hh:(Z22.new Z1) a.block with
  | none=>exact absurd hh h2
  | some o=>exact(Af.1 hh).1
 have hl:(xs++uv s.size).length=G:=by have:=ho.1;simpa using this
 have MX:=PT (x:=s.size) (by omega);have sk:xs.length=n:=hr.1;rw[Ajr]at hl;refine AFE underlying9 (BL.mono (Ext.CY _ _) ho) rfl ABl (by omega) λp2 c2 Z2 B6 Ao _=>⟨p2,_,c2,rfl,?_⟩;have Fi:=HL hq Ao BC;refine h p2 _ c2 Z2 ?_ (LJ hq Ao BC);have:=BL.TJ B6 Fi;simpa[DS] using this
theorem Ud {p:Option Addr}{n c:Nat}{xs:List Int}(h:DS .u8 Z22 p n c xs):xs.length=n:=by have:=h.1;simpa using this
theorem kY {s:ByteArray}:(ByteArray.toList s==ByteArray.toList (ByteArray.mk #[]))=decide (s.size=0):=by
 rw[ByteArray.toList_eq,ByteArray.toList_eq];by_cases h:s.size=0
 .have:s=⟨#[]⟩:=AmE (Alk h);subst this;rfl
 .rw[Aj1 h];simp only[Amb];intro e;apply h
  have:=Ajw List.length e;simpa using this
end
end TwW
namespace TwW
open Go Tw Go.RowKit Go.Proofs.Tryz
abbrev Lb:=ByteArray×ByteArray
def Cg (_:Hp)(vs:List Value)(x:Lb):Prop:=vs=[.string x.1,.string x.2]
theorem Cg.mono:Hk Cg:=λ_ _ _ _ _ h=>h
abbrev HG:=Ae 2 Cg
section
variable {Z22:Hp}{R:Rr}
theorem HG.at {p:Option Addr}{n i:Nat}{ls:List Lb}{x:Lb}(hr:HG Z22 p n ls)(hx:ls[i]?=some x):∃b o,p=some ⟨b,o,none⟩/\A2 Z22 b (o+i*2) [.string x.1,.string x.2]:=by
 obtain⟨b,o,vs,hp,rfl,G⟩:=Ae.idx hr hx;exact⟨b,o,hp,G⟩
theorem iH {s t:ByteArray}:(s.toList==t.toList)=decide (s=t):=by
 rw[ByteArray.toList_eq,ByteArray.toList_eq];by_cases h:s=t
 .subst h;simp
 .rw[Aj1 h,Amb];exact λe=>h (AmE (AkD.1 e))
theorem Vm {α:Type}{xs:List α}{k:Nat}{y:α}(G:xs[k]?=some y):xs.drop k=y::xs.drop (k+1):=by
 obtain⟨h,rfl⟩:=Ajn.1 G;exact Aly h
def Fp:List Lb->ByteArray->ByteArray
 | [],_=>⟨#[]⟩
 | x::l,k=>if x.1=k then x.2 else Fp l k
theorem ax {p:Option Addr}{n c:Nat}{ls:List Lb}{k:ByteArray}(hr:HG Z22 p n ls)(h:R (.returned (.string (Fp ls k))) Z22):Spec prog 189 #[.slice p n c,.string k] Z22 R:=by
 refine Kd.start ?_
 suffices H:∀d i:Nat,n-i=d->i<=n->Fp ls k=Fp (ls.drop i) k->Kd.Gf R k p n c n i Z22 from H n 0 rfl (Ajy _) rfl
 intro d
 induction d with
 | zero=>
  intro i hd hi G;refine Kd.A0 ⟨λAx=>by omega,λ_=>?_⟩;rw[Aln (by rw[hr.1];omega)]at G;rw[G]at h;exact h
 | succ d ih=>
  intro i hd hi G;refine Kd.A0 ⟨λ_=>?_,λhh=>by omega⟩;have CO:i<n:=by omega
  obtain⟨x,hx⟩:=hr.ex CO;obtain⟨b,o,rfl,hl⟩:=HG.at hr hx;rw[Vm hx,Fp]at G;refine⟨b,o,rfl,by omega,x.1,x.2,by simpa using hl,λ_=>⟨λhk=>?_,λhk=>⟨AO CO hr.big,ih (i+1) (by omega) (by omega) ?_⟩⟩⟩
  .rw[iH,Aj3]at hk;rw[Ajl hk]at G;rw[G]at h;exact h
  .rw[iH,AkY]at hk;rwa[Ajj hk]at G
theorem AFF {s:ByteArray}{ok:UInt8->Bool}{pt:Int->Prop}{G:Bool->Prop}
  (iU:G true->pt s.size) (MH:∀(k:Nat) (u:UInt8),k<s.size->s.data[Int.toNat (k:Int)]?=some u->AL ((k:Int)+1)->(ok u=true->pt ((k:Int)+1))->(ok u=false->G false)->pt k)
  (h:G (s.data.toList.all ok)) (hb:s.size<=4611686018427387904):pt 0:=by
 have KD:s.data.toList.length=s.size:=rfl
 suffices H:∀d k:Nat,s.size-k=d->k<=s.size->(s.data.toList.take k).all ok=true->pt k from H s.size 0 rfl (Ajy _) rfl
 intro d
 induction d with
 | zero=>
  intro k hd hk Mg;rw[Ajq (by omega)]at Mg;rw[Mg]at h;have:k=s.size:=by omega
  rw[this];exact iU h
 | succ d ih=>
  intro k hd hk Mg;have Cs:k<s.size:=by omega
  obtain⟨u,hu⟩:∃u,s.data.toList[k]?=some u:=⟨_,Ajs (by omega)⟩;refine MH k u Cs (by simpa using hu) (by unfold AL;omega) (λhc=>ih (k+1) (by omega) (by omega) (by rw[AU hu,List.all_append,Mg];simpa using hc)) λhc=>?_;have:s.data.toList.all ok=false:=by
   rw[List.all_eq_false];exact⟨u,Aju hu,by simp[hc]⟩
  rwa[this]at h
def dgt (u:UInt8):Bool:=decide (48<=u.toNat/\u.toNat<=57)
def nch (u:UInt8):Bool:=decide (u.toNat=95\/(48<=u.toNat/\u.toNat<=57)\/(65<=u.toNat/\u.toNat<=90)\/(97<=u.toNat/\u.toNat<=122))
def Dt (s:ByteArray):Bool:=decide (0<s.size)&&decide (s.size<=64)&&!(s.data.toList.head?.any dgt)&&s.data.toList.all nch
theorem PW {s:ByteArray}(h:R (.returned (.bool (Dt s))) Z22):Spec prog 82 #[.string s] Z22 R:=by
 have KD:s.data.toList.length=s.size:=rfl;refine HT.start ⟨λh0=>?_,λh0=>⟨λh1=>?_,λh1=>?_⟩⟩
 .rw[kY,Aj3]at h0;simpa[Dt,h0] using h
 .have:¬s.size<=64:=by omega
  simpa[Dt,this] using h
 .rw[kY,AkY]at h0;obtain⟨u,hu⟩:∃u,s.data.toList[0]?=some u:=⟨_,Ajs (by omega)⟩;have Bt:s.data[Int.toNat (0:Int)]?=some u:=by simpa using hu
  have hh:s.data.toList.head?=some u:=by rw[<-hu];cases s.data.toList<;>rfl
  have rest:dgt u=false->HT.FA R s 0 Z22:=λhd=>by
   have e:Dt s=s.data.toList.all nch:=by simp[Dt,show 0<s.size by omega,show s.size<=64 by omega,hh,hd]
   rw[e]at h;refine AFF (s:=s) (pt:=λk=>HT.FA R s k Z22) (ok:=nch) (G:=λt=>R (.B t) Z22) (λg=>HT.DH ⟨λAx=>by omega,λ_=>g⟩) (λk u hk hu hi good bad=>?_) h (by omega);simp only[nch,Aj3,AkY]at good bad;refine HT.DH ⟨λAx=>⟨u,by omega,hu,?_⟩,λRU=>by omega⟩;clear h;generalize u.toNat=n at good bad
   repeat' (first|refine⟨λ_=>?_,λ_=>?_⟩|exact⟨hi,good (by omega)⟩|exact bad (by omega))
  simp only[dgt,AkY]at rest;refine⟨u,by omega,Bt,λh2=>⟨u,by omega,Bt,λh3=>?_,λh3=>rest (by omega)⟩,λh2=>rest (by omega)⟩;have:dgt u=true:=by simp[dgt];omega
  simpa[Dt,hh,this] using h
def vl:Nat->Nat->Nat->List UInt8->Bool
 | 0,_,_,[]=>true
 | _+1,_,_,[]=>false
 | 0,_,_,c::r=>
  if c.toNat<128 then vl 0 128 191 r
  else if 194<=c.toNat/\c.toNat<=223 then vl 1 128 191 r
  else if 224<=c.toNat/\c.toNat<=239 then(if c.toNat=224 then vl 2 160 191 r else if c.toNat=237 then vl 2 128 159 r else vl 2 128 191 r)
  else if 240<=c.toNat/\c.toNat<=244 then(if c.toNat=240 then vl 3 144 191 r else if c.toNat=244 then vl 3 128 143 r else vl 3 128 191 r)
  else false
 | m+1,lo,hi,c::r=>if c.toNat<lo\/hi<c.toNat then false else vl m 128 191 r
def ay (s:ByteArray):Bool:=vl 0 128 191 s.data.toList
theorem vl0 (l:List UInt8)(a b c d:Nat):vl 0 a b l=vl 0 c d l:=by cases l<;>rfl
attribute [local irreducible] BH.CD BH.JW BH.AAA in
theorem VK {s:ByteArray}(hb:s.size<=4611686018427387904)(h:R (.returned (.bool (ay s))) Z22):Spec prog 83 #[.string s] Z22 R:=by
 have KD:s.data.toList.length=s.size:=rfl;refine BH.start ?_
 suffices H:∀d:Nat,(∀k:Nat,s.size-k=d->k<=s.size->ay s=vl 0 128 191 (s.data.toList.drop k)->BH.CD R s k Z22)/\
   (∀(k m lo hi:Nat),s.size-k=d->k<=s.size->ay s=vl m lo hi (s.data.toList.drop k)->m<=3->BH.AAA R s k m lo hi Z22) from(H s.size).1 0 (by omega) (by omega) rfl
 intro d
 induction d with
 | zero=>
  have A:∀k:Nat,s.size-k=0->k<=s.size->ay s=vl 0 128 191 (s.data.toList.drop k)->BH.CD R s k Z22:=λk hd hk G=>by
   refine BH.A5 ⟨λ_=>?_,λAv=>by omega⟩;rw[Aln (by omega)]at G;rw[G]at h;exact h
  refine⟨A,λk m lo hi hd hk G hm=>BH.sL ⟨λh0=>A k hd hk ?_,λh0=>⟨λ_=>?_,λAv=>by omega⟩⟩⟩
  .have:m=0:=by omega
   subst this;rw[G];exact vl0 _ _ _ _ _
  .obtain⟨m',rfl⟩:∃m',m=m'+1:=⟨m-1,by omega⟩;rw[Aln (by omega)]at G;rw[G]at h;exact h
 | succ d ih=>
  have A:∀k:Nat,s.size-k=d+1->k<=s.size->ay s=vl 0 128 191 (s.data.toList.drop k)->BH.CD R s k Z22:=λk hd hk G=>by
   have Cs:k<s.size:=by omega
   obtain⟨u,hu⟩:∃u,s.data.toList[k]?=some u:=⟨_,Ajs (by omega)⟩;have Bt:s.data[Int.toNat (k:Int)]?=some u:=by simpa using hu
   have hi:AL ((k:Int)+1):=by unfold AL;omega
   rw[Vm hu,vl]at G;have st:∀(m lo hi:Nat),m<=3->ay s=vl m lo hi (s.data.toList.drop (k+1))->BH.JW R s k m lo hi Z22:=λm lo hh hm G=>BH.AEm ⟨hi,ih.2 (k+1) m lo hh (by omega) (by omega) G hm⟩;have nx:ay s=vl 0 128 191 (s.data.toList.drop (k+1))->BH.CD R s ((k:Int)+1) Z22:=λG=>ih.1 (k+1) (by omega) (by omega) G;have no:ay s=false->R (.B false) Z22:=λe=>by rw[e]at h;exact h
   refine BH.A5 ⟨λAv=>by omega,λ_=>⟨u,by omega,Bt,?_⟩⟩;generalize s.data.toList.drop (k+1)=r at G st nx;clear ih h hu Bt;generalize u.toNat=n at G;have st1:=st 1 128 191 (by omega);have st2:=st 2 160 191 (by omega);have st3:=st 2 128 159 (by omega);have st4:=st 2 128 191 (by omega);have st5:=st 3 144 191 (by omega);have st6:=st 3 128 143 (by omega);have st7:=st 3 128 191 (by omega)
   repeat' (first|refine⟨λ_=>?_,λ_=>?_⟩|refine⟨hi,nx ?_⟩|refine st1 ?_|refine st2 ?_|refine st3 ?_|refine st4 ?_|refine st5 ?_|refine st6 ?_|refine st7 ?_|refine no ?_)
   all_goals first|(exfalso;clear G;omega)|(rw[G];repeat' (first|rfl|rw[Ajl (by omega)] | rw[Ajj (by omega)]))
  refine⟨A,λk m lo hi hd hk G hm=>BH.sL ⟨λh0=>A k hd hk ?_,λh0=>⟨λAv=>by omega,λ_=>?_⟩⟩⟩
  .have:m=0:=by omega
   subst this;rw[G];exact vl0 _ _ _ _ _
  .obtain⟨m',rfl⟩:∃m',m=m'+1:=⟨m-1,by omega⟩;have Cs:k<s.size:=by omega
   obtain⟨u,hu⟩:∃u,s.data.toList[k]?=some u:=⟨_,Ajs (by omega)⟩;have Bt:s.data[Int.toNat (k:Int)]?=some u:=by simpa using hu
   rw[Vm hu,vl]at G;refine⟨u,by omega,Bt,λh1=>?_,λh1=>⟨u,by omega,Bt,λh2=>?_,λh2=>⟨by unfold AL;omega,by unfold AL;omega,?_⟩⟩⟩
   .rw[Ajl (by omega)]at G;rw[G]at h;exact h
   .rw[Ajl (by omega)]at G;rw[G]at h;exact h
   .rw[Ajj (by omega)]at G;have:=ih.2 (k+1) m' 128 191 (by omega) (by omega) G (by omega);have e1:((m'+1:Nat):Int)-1=(m':Nat):=by omega
    rw[e1];exact this
end
end TwW
namespace TwW
open Go Tw Go.RowKit Go.Proofs.Tryz
section
variable {Z22:Hp}{R:Rr}
def sle (a b:ByteArray):Bool:=Op.bytesLess a.toList b.toList||a.toList==b.toList
theorem ALg {x y:Operand}{a b:ByteArray}{T:TypeId}:YF prog (do eqGuard .leq T x y (.string a) (.string b);binOp .leq T (.string a) (.string b)) Z22 (.bool (sle a b)):=λw _=>by
 simp[eqGuard,binOp,Op.stringOp,sle]
def Ue:Option ByteArray->List Lb->Int
 | _,[]=>0
 | G,x::l=>if Dt x.1=false then 31 else if x.2.size=0\/256<x.2.size\/ay x.2=false then 32 else if G.any (sle x.1 ·)=true then 33 else Ue (some x.1) l
def VL (ls:List Lb):Int:=if 16<ls.length then 30 else Ue none ls
theorem VM {p:Option Addr}{n c:Nat}{ls:List Lb}(hr:HG Z22 p n ls)(h:R (.returned (.I (VL ls))) Z22):Spec prog 50 #[.slice p n c] Z22 R:=by
 have hn:ls.length=n:=hr.1;refine F7.start ⟨λh1=>?_,λh1=>?_⟩
 .rw[VL,Ajl (by omega)]at h;exact h
 rw[VL,Ajj (by omega)]at h
 let pv:Nat->Option ByteArray:=λi=>if i=0 then none else(ls[i-1]?).map (·.1)
 suffices H:∀d i:Nat,n-i=d->i<=n->Ue none ls=Ue (pv i) (ls.drop i)->F7.Gc R p n c p n c n i Z22 from H n 0 rfl (Ajy _) rfl
 intro d
 induction d with
 | zero=>
  intro i hd hi G;refine F7.EE ⟨λAx=>by omega,λ_=>?_⟩;rw[Aln (by omega)]at G;rw[G]at h;exact h
 | succ d ih=>
  intro i hd hi G;have CO:i<n:=by omega
  obtain⟨x,hx⟩:=hr.ex CO;obtain⟨b,o,rfl,hl⟩:=HG.at hr hx;rw[Vm hx,Ue]at G;have out:∀e:Int,Ue none ls=e->R (.returned (.I e)) Z22:=λe h1=>h1▸h;refine F7.EE ⟨λ_=>?_,λhh=>by omega⟩;refine⟨b,o,rfl,by omega,x.1,x.2,by simpa using hl,λ_=>PW ⟨_,rfl,λh1=>out _ ?_,λh1=>?_⟩⟩
  .rw[G,Ajl h1]
  rw[Ajj (by simp[h1])]at G;rw[kY];refine⟨λh2=>out _ ?_,λh2=>⟨λh3=>out _ ?_,λh3=>VK (by omega) ⟨_,rfl,λh4=>out _ ?_,λh4=>?_⟩⟩⟩
  .rw[G,Ajl (.inl (by simpa using h2))]
  .rw[G,Ajl (.inr (.inl (by omega)))]
  .rw[G,Ajl (.inr (.inr h4))]
  rw[Ajj (by rw[AkY]at h2;simp[h2,h4];omega)]at G;have nx:pv (i+1)=some x.1:=by simp[pv,hx]
  have go:(pv i).any (sle x.1 ·)=false->F7.Gc R (aD b o) n c (aD b o) n c n ((i:Int)+1) Z22:=λh5=>by
   rw[Ajj (by simp[h5]),<-nx]at G;exact ih (i+1) (by omega) (by omega) G
  refine⟨λh5=>?_,λh5=>⟨AO CO hr.big,go ?_⟩⟩
  .obtain⟨y,hy⟩:=hr.ex (k:=i-1) (by omega);obtain⟨b',o',hp,RI⟩:=HG.at hr hy;cases hp;have e1:((i:Int)-1).toNat=i-1:=by omega
   have hpv:pv i=some y.1:=by simp[pv,hy,show i≠0 by omega]
   refine⟨by have:=hr.big;unfold AL;omega,b,o,rfl,by omega,y.1,by rw[e1];exact RI.1,_,ALg,λh6=>out _ ?_,λh6=>⟨AO CO hr.big,go ?_⟩⟩
   .rw[G,Ajl (by rw[hpv];exact h6)]
   .rw[hpv];exact h6
  .have:i=0:=by omega
   simp[pv,this]
theorem cg:∀{ls:List Lb} {pv:Option ByteArray},Ue pv ls=0->∀x∈ls,Dt x.1=true/\0<x.2.size/\x.2.size<=256/\ay x.2=true
 | [],_,_,_,G=>by cases G
 | y::l,pv,h,x,G=>by
  rw[Ue]at h;split at h
  .cases h
  split at h
  .cases h
  split at h
  .cases h
  rename_i h1 h2 h3;rcases Ajo.1 G with rfl|G
  .simp only[Alw,Bool.not_eq_false]at h1 h2;exact⟨h1,by omega,by omega,h2.2.2⟩
  .exact cg h x G
def BQ (ls:List Lb):Prop:=ls.length<=16/\∀x∈ls,x.1.size<=256/\x.2.size<=256
theorem BQ.of {ls:List Lb}(h:VL ls=0):BQ ls:=by
 unfold VL at h;split at h
 .cases h
 .refine⟨by omega,λx hx=>?_⟩;obtain⟨G,_,h2,_⟩:=cg h x hx;simp[Dt]at G;exact⟨by omega,h2⟩
theorem Cg.one (Z22:Hp)(vs:List Value)(x:Lb)(h:Cg Z22 vs x):FL vs:=by
 rw[h];intro u G;simp only[Ajo,Aj7,Akc]at G;rcases G with rfl|rfl<;>rfl
theorem HZ {G:Hp}{q:Option Addr}{j c b:Nat}{ls:List Lb}{ty:TypeId}{Φ:Value->Hp->Prop}(ht:HG G q j ls)(hb:j<=1000000000)
  (hΦ:∀p' c' Z',IT 2 Cg (G.new Z') p' j c' ls->Ext G Z'->Φ (.slice p' j c') Z') (hn:G b=none) :
  AI prog (Builtin.append_ #[95,95] ty #[.slice (some ⟨b,0,none⟩) 0 0,.slice q j c]) (G.set b (.cells #[] 144 (0,0))) Φ:=by
 obtain⟨h1,cs,h2,h3⟩:=ht;refine ED BL.empty (h2.mono (.set hn)) (Ch.uY Cg.one h3 (by decide)) (by omega) λp' c' Z' CV PU=>?_;have hq:∀a:Addr,(some (⟨b,0,none⟩:Addr))=some a->G a.block=none:=λa ha=>by cases ha;exact hn
 rw[Akn]at CV ⊢;rw[Akp]at CV;exact hΦ p' c' Z' ⟨h1,cs,BL.TJ CV (HL hq PU (.set hn)),h3⟩ (LJ hq PU (.set hn))
def ck (x:Lb):List Int:=uv x.1.size++byt x.1++(uv x.2.size++byt x.2)
def ALh (ls:List Lb):List Int:=uv ls.length++ls.flatMap ck
theorem vj {x:Lb}(h:x.1.size<=256/\x.2.size<=256):(ck x).length<=532:=by
 have G:=PT (x:=x.1.size) (by omega);have h2:=PT (x:=x.2.size) (by omega);simp only[ck,Ajr,sj];omega
theorem ABn {ls:List Lb}(h:∀x∈ls,x.1.size<=256/\x.2.size<=256):(ls.flatMap ck).length<=ls.length*532:=by
 induction ls with
 | nil=>simp
 | cons x l ih=>
  have:=ih λy G=>h y (Ajm _ G);have:=vj (h x (by simp));rw[Ala,Ajr,Ajk];omega
theorem fO {p:Option Addr}{n c:Nat}{ls:List Lb}(hr:HG Z22 p n ls)(hs:BQ ls)(h:∀p' n' c' Z',DS .u8 (Z22.new Z') p' n' c' (ALh ls)->Ext Z22 Z'->R (.returned (.slice p' n' c')) Z'):Spec prog 126 #[.slice p n c] Z22 R:=by
 have hn:ls.length=n:=hr.1;have h16:=hs.1;refine Gp.start λx8 h8=>?_;have e8:x8=(n:Int):=by rw[h8];simp[IntKind.wrap,IntKind.bits,IntKind.signed];omega
 subst e8;refine SZ Ae.nil (by omega) (by omega) λp1 n1 c1 Z1 R6 BC=>⟨p1,n1,c1,rfl,?_⟩;rw[Akp]at R6
 suffices H:∀d k:Nat,∀p3 n3 c3 Z3,n-k=d->k<=n->DS .u8 (Z22.new Z3) p3 n3 c3 (uv n++(ls.take k).flatMap ck)->Ext Z22 Z3->Gp.A4 R p3 n3 c3 p n c n k Z3 from H n 0 p1 n1 c1 Z1 rfl (Ajy _) (by simpa using R6) BC
 intro d
 induction d with
 | zero=>
  intro k p3 n3 c3 Z3 hd hk ho G;refine Gp.AX ⟨λAx=>by omega,λ_=>h p3 n3 c3 Z3 ?_ G⟩;rw[Ajq (by omega)]at ho;rw[ALh,hn];exact ho
 | succ d ih=>
  intro k p3 n3 c3 Z3 hd hk ho G;have Cs:k<n:=by omega
  obtain⟨y,hy⟩:=hr.ex Cs;obtain⟨b,o,rfl,hl⟩:=HG.at hr hy;have so:=hs.2 y (Aju hy);have hl3:=Ud ho;have MX:=PT (x:=n) (by omega);have hfl:=ABn (ls:=ls.take k) λx G=>hs.2 x (Alu G);rw[Ajr]at hl3;rw[AkA]at hfl;have h3b:n3<=9000:=by omega
  refine Gp.AX ⟨λ_=>⟨b,o,rfl,by omega,y.1,y.2,by simpa using hl.mono G,λ_=>?_⟩,λhh=>by omega⟩;refine Sa (DS.rd (BL.mono (Ext.CY _ _) ho)) (by omega) (by omega) λp4 n4 c4 Z4 Hy KK=>⟨p4,n4,c4,rfl,?_⟩;have hl4:=Ud Hy;have Qy:=PT (x:=y.1.size) (by omega);simp only[Ajr,sj]at hl4;refine Sa (DS.rd (BL.mono (Ext.CY _ _) Hy)) (by omega) (by omega) λp5 n5 c5 Z5 Sb Rp=>⟨p5,n5,c5,rfl,AO Cs hr.big,?_⟩;refine ih (k+1) p5 n5 c5 Z5 (by omega) (by omega) ?_ (G.trans (KK.trans Rp));have:=BL.mono (Ext.Cq (G.trans KK)) Sb;rw[AU hy,List.flatMap_append];simpa[ck,DS] using this
end
end TwW
namespace TwW
open Go Tw Go.RowKit Go.Proofs.Tryz
section
variable {Z22 Z' O2:Hp}{R:Rr}
def Fa (x:ByteArray)(xs:List ByteArray):Bool:=xs.any λy=>decide (x=y)
theorem kZ {x:ByteArray}{xs:List ByteArray}:Fa x xs=true↔x∈xs:=by simp[Fa]
theorem PY {p:Option Addr}{n c:Nat}{x:ByteArray}{xs:List ByteArray}(hr:Fo 1 Z22 p n (xs.map .string))(h:R (.returned (.bool (Fa x xs))) Z22):Spec prog 209 #[.slice p n c,.string x] Z22 R:=by
 have hn:xs.length=n:=by have:=hr.1;simpa using this
 have RV:n<=4611686018427387904:=hr.2.1;have key:∀i:Int,(0<=i↔x∈xs)->AY R (CI .i64 λx7 y=>R (.returned (.bool (decide (0<=x7)))) y) (.returned (.I i)) Z22:=λi hi=>⟨i,rfl,by
  dsimp only;rw[show decide (0<=i)=Fa x xs by rw[Bool.eq_iff_iff,kZ,Aj3];exact hi];exact h⟩
 refine Gk.start (CL.start ?_)
 suffices H:∀d k:Nat,n-k=d->k<=n->x ∉ xs.take k->CL.Gf (AY R (CI .i64 λx7 y=>R (.returned (.bool (decide (0<=x7)))) y)) p n c x n k Z22 from H n 0 rfl (Ajy _) (by simp)
 intro d
 induction d with
 | zero=>
  intro k hd hk G;refine CL.A0 ⟨λAx=>by omega,λ_=>key (-1) ?_⟩;rw[Ajq (by omega)]at G;exact⟨λh=>absurd h (by decide),λh=>absurd h G⟩
 | succ d ih=>
  intro k hd hk G;have Cs:k<n:=by omega
  obtain⟨y,hy⟩:∃y,xs[k]?=some y:=⟨_,Ajs (by omega)⟩;obtain⟨b,o,rfl,hl⟩:=Fo.at1 hr (k:=k) (v:=.string y) (by rw[Akt,hy];rfl);refine CL.A0 ⟨λ_=>⟨b,o,rfl,by omega,y,by simpa using hl,λhe=>key k ⟨λ_=>?_,λ_=>by omega⟩,λAv=>⟨AO Cs RV,ih (k+1) (by omega) (by omega) ?_⟩⟩,λRU=>by omega⟩
  .rw[iH,Aj3]at he;rw[he];exact Aju hy
  .rw[iH,AkY]at Av;rw[aT hy]
   rintro(h1|h1)
   .exact G h1
   .exact Av h1
theorem Uf {f:Nat}{cap:Array Value}{g:Lb->Bool}{p:Option Addr}{n c:Nat}{ls:List Lb}(KQ:Enters prog f)(hr:HG Z22 p n ls)(hn:n<=1000000)
  (hf:∀(Z':Hp) (x:Lb) (R':Rr),Ext Z22 Z'->R' (.returned (.bool (g x))) Z'->Spec prog f (#[]++#[.agg #[.string x.1,.string x.2]]++cap) Z' R')
  (h:∀p' n' c' Z',IT 2 Cg (Z22.new Z') p' n' c' (ls.filter g)->Ext Z22 Z'->R (.returned (.slice p' n' c')) Z'):Spec prog 207 #[.slice p n c,.func (.func f) #[] cap] Z22 R:=by
 have pP:ls.length=n:=hr.1;refine Dc.start ?_
 suffices H:∀d k:Nat,∀p5 n5 c5 G,n-k=d->k<=n->IT 2 Cg (Z22.new G) p5 n5 c5 ((ls.take k).filter g)->Ext Z22 G->Dc.A4 R (.func (.func f) #[] cap) p5 n5 c5 p n c n k G from H n 0 none 0 0 Z22 rfl (Ajy _) IT.nil (.refl _)
 intro d
 induction d with
 | zero=>
  intro k p5 n5 c5 G hd hk ho hx;refine Dc.AX ⟨λAx=>by omega,λ_=>h p5 n5 c5 G ?_ hx⟩;rw[Ajq (by omega)]at ho;exact ho
 | succ d ih=>
  intro k p5 n5 c5 G hd hk ho hx;have Cs:k<n:=by omega
  obtain⟨x,Ug⟩:=hr.ex Cs;obtain⟨b,o,rfl,hl⟩:=HG.at hr Ug;have hn5:n5<=n:=by
   have h1:=ho.1;have h2:=AkG g (ls.take k);rw[AkA]at h2;omega
  have ht:(ls.take (k+1)).filter g=(ls.take k).filter g++if g x then[x] else[]:=by
   rw[AU Ug,Ak0];by_cases hg:g x<;>simp[hg]
  refine Dc.AX ⟨λ_=>⟨b,o,rfl,by omega,x.1,x.2,by simpa using hl.mono hx,λ_=>⟨f,#[],cap,rfl,KQ,hf G x _ hx ⟨_,rfl,λhg HE AaJ=>?_,λhg=>?_⟩⟩⟩,λhh=>by omega⟩
  .refine IT.FN Cg.mono (vs:=[.string x.1,.string x.2]) (x:=x) hx ho rfl (Cg.one Z22 _ _ rfl) rfl (by omega) (λp' c' Z' EM Sc=>⟨_,_,_,rfl,Dc.Em ⟨AO Cs hr.big,ih (k+1) _ _ _ _ (by omega) (by omega) ?_ Sc⟩⟩) AaJ;rw[ht,Ajl hg];exact EM
  .refine Dc.Em ⟨AO Cs hr.big,ih (k+1) _ _ _ _ (by omega) (by omega) ?_ hx⟩;rw[ht,Ajj (by simp[hg]),Akq];exact ho
theorem ATc:Enters prog 210:=λargs w=>call210 args w
theorem Ls {p q:Option Addr}{n c m d:Nat}{ls:List Lb}{ns:List ByteArray}(hr:HG Z22 p n ls)(hn:n<=1000000)(hs:Fo 1 Z22 q m (ns.map .string))
  (h:∀p' n' c' Z',IT 2 Cg (Z22.new Z') p' n' c' (ls.filter λx=>!Fa x.1 ns)->Ext Z22 Z'->R (.returned (.slice p' n' c')) Z'):Spec prog 162 #[.slice p n c,.slice q m d] Z22 R:=by
 refine Qo.start λb3 Uh=>?_;have G:Ext Z22 (Z22.set b3 (.cells #[.slice q m d] 125 (0,0))):=.set Uh;refine Uf (f:=210) (g:=λx=>!Fa x.1 ns) ATc (hr.mono Cg.mono G) hn (λZ' x R' hx Mx=>?_) λp' n' c' Z' ho hx=>⟨_,_,_,rfl,h p' n' c' Z' ?_ (G.trans hx)⟩
 .refine MU.start λ_=>⟨q,m,d,AJ (hx _ _ (Hp.AA _ _ _)) rfl,PY (hs.mono (G.trans hx)) ⟨_,rfl,Mx⟩⟩
 .exact ho.mono Cg.mono (Ext.Cq G)
end
end TwW
namespace TwW
open Go Tw Go.RowKit Go.Proofs.Tryz
section
variable {Z22 Z' O2:Hp}{R:Rr}
theorem fP {α:Type}{b:Nat}{T:TypeId}{f:α->Value}{x:α}{ρ:Hp}(h:ρ b=some (.cells #[f x] T (0,0))):Fo 1 ρ (some ⟨b,0,none⟩) 1 ([x].map f):=⟨rfl,by omega,.inr ⟨b,0,rfl,⟨AJ h rfl,trivial⟩⟩⟩
end
end TwW
end
