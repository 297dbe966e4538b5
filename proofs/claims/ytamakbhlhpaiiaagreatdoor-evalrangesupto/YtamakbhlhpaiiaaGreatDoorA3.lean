/-
  Part 3 of the proof that the law EvalRangesUptoCardSaid of the given program answers true for every input of the given statement; the input reads behind the call as it did. (The texts: packed from 4 texts. Names are shortened by the packing program, for the bound on size.)
-/
import Derived.Test.YtamakbhlhpaiiaaGreatDoorA2
set_option linter.all false
section
set_option maxRecDepth 100000
noncomputable section
namespace TwW
open Go Tw Go.Proofs.Tryz
variable [HL]{R:Rr}{Z:Hp}

namespace Kk
variable {p0:Option Addr}{n0 c0:Nat}
def M:Fw:=⟨prog,21,f21,[],[],false,[],[],[]⟩
def ok:M.Ok:=⟨AH.nil,mixed,func21,by kernel_rfl⟩
def start (h:Al Z λb3=>AJ prog (Builtin.append_ #[41,41] 41 #[(.slice (aD b3 0) 0 0),.slice p0 n0 c0]) (Hp.set Z b3 (.cells #[] 75 (0,0))) (CS λp5 n5 c5 y=>R (.returned (.slice p5 n5 c5)) y)):Spec prog 21 #[.slice p0 n0 c0] Z R:=M.start h ok
end Kk
namespace Em
variable {p0 p1:Option Addr}{n0 c0 n1 c1:Nat}{x5:Int}
def M:Fw:=⟨prog,32,f32,[],[],false,[(6,9,true)],[],[(464,[(0,wL),(1,wL),(5,wI)])]⟩
def ok:M.Ok:=⟨AH.nil,mixed,func32,by kernel_rfl⟩
def Au:=M.pt 0
def start (h:Br ((n0:Int)≠(n1:Int)) (R (.B false) Z) (Au R p0 n0 c0 p1 n1 c1 0 Z)):Spec prog 32 #[.slice p0 n0 c0,.slice p1 n1 c1] Z R:=M.start h ok
def Aq (h:Br (x5<(n0:Int)) (Pq p0 λD8 XM=>In x5 (n0:Int)/\∃A G,Af Z D8 (XM+x5.toNat*2) [.string A,.string G]/\Pq p1 λJc VA=>In x5 (n1:Int)/\∃C qE,Af Z Jc (VA+x5.toNat*2) [.string C,.string qE]/\∃t25,YF prog ((do eqGuard .neq 71 (.tmp 20) (.tmp 24) (.agg #[.string A,.string G]) (.agg #[.string C,.string qE]);binOp .neq 71 (.agg #[.string A,.string G]) (.agg #[.string C,.string qE]))) Z (.bool t25)/\Bo t25 (R (.B false) Z) (AF (x5+1)/\Au R (aD D8 XM) n0 c0 (aD Jc VA) n1 c1 (x5+1) Z)) (R (.B true) Z)):Au R p0 n0 c0 p1 n1 c1 x5 Z:=M.of h ok rfl
end Em
namespace Bq
variable {p0 p2:Option Addr}{n0 c0 n2 c2:Nat}{x3 x4:Int}
def M:Fw:=⟨prog,34,f34,[],[],false,[],[],[(208,[(0,wL),(2,wL),(3,wI)]),(240,[(0,wL),(4,wI)])]⟩
def ok:M.Ok:=⟨AH.nil,mixed,func34,by kernel_rfl⟩
def E5:=M.pt 0
def iA:=M.pt 1
def start (h:Al Z λA=>AJ prog (DV 47 p0 n0 c0 A) (Hp.set Z A (.cells #[(.string (ByteArray.mk #[115,112,111,105,108,116])),(.string (ByteArray.mk #[115,112,111,105,108,116]))] 71 (0,0))) (CS λp8 n8 c8 y=>E5 R p0 n0 c0 p8 n8 c8 0 y)):Spec prog 34 #[.slice p0 n0 c0] Z R:=M.start h ok
def Ag (h:Br (x3<(n2:Int)) (Pq p2 λA C=>In x3 (n2:Int)/\AJ prog (Instr.storeAt 71 (.pointer (aD A (C+x3.toNat*2))) (.agg #[(.string (ByteArray.mk #[115,112,111,105,108,116])),(.string (ByteArray.mk #[115,112,111,105,108,116]))])) Z (λ_ y=>AF (x3+1)/\E5 R p0 n0 c0 (aD A C) n2 c2 (x3+1) y)) (iA R p0 n0 c0 0 Z)):E5 R p0 n0 c0 p2 n2 c2 x3 Z:=M.of h ok rfl
def TJ (h:Br (x4<(n0:Int)) (Pq p0 λA C=>In x4 (n0:Int)/\AJ prog (Instr.storeAt 71 (.pointer (aD A (C+x4.toNat*2))) (.agg #[(.string (ByteArray.mk #[115,112,111,105,108,116])),(.string (ByteArray.mk #[115,112,111,105,108,116]))])) Z (λ_ y=>AF (x4+1)/\iA R (aD A C) n0 c0 (x4+1) y)) (R (.T #[]) Z)):iA R p0 n0 c0 x4 Z:=M.of h ok rfl
end Bq
namespace Ha
variable {p0 p3 N3:Option Addr}{n0 c0 n3 c3 n10 MF:Nat}{x11 x12:Int}
def M:Fw:=⟨prog,56,f56,[89,90],[5],false,[],[],[(232,[(3,wL),(10,wL),(11,wI),(12,wI)])]⟩
def ok:M.Ok:=⟨.cons call89 (.cons call90 (AH.nil)),mixed,func56,by kernel_rfl⟩
def B9:=M.pt 0
def start (h:Df (IntKind.u64.wrap (n0:Int)) λx8=>AG 89 #[.N,.U x8] Z R (CS λp9 n9 c9 y=>B9 R p9 n9 c9 p0 n0 c0 (n0:Int) 0 y)):Spec prog 56 #[.slice p0 n0 c0] Z R:=M.start h ok
def As (h:Br (x12<x11) (Pq N3 λDL Wq=>In x12 (n10:Int)/\∃A C,Af Z DL (Wq+x12.toNat*2) [.string A,.string C]/\∀b5:Nat,AG 90 #[.slice p3 n3 c3,.string A] Z R (CS λvh G pq y=>AG 90 #[.slice vh G pq,.string C] y R (CS λfH n22 cz AB=>AF (x12+1)/\B9 R fH n22 cz (aD DL Wq) n10 MF x11 (x12+1) AB))) (R (.returned (.slice p3 n3 c3)) Z)):B9 R p3 n3 c3 N3 n10 MF x11 x12 Z:=M.of h ok rfl
end Ha
namespace BY
variable {p0 p1 Nk:Option Addr}{n0 c0 n1 c1 n11 Q3:Nat}{v2:Value}{x12 DB:Int}
def M:Fw:=⟨prog,59,f59,[],[8,9],false,[],[],[(104,[(0,wL),(1,wL),(2,wV),(11,wL),(12,wI),(13,wI)])]⟩
def ok:M.Ok:=⟨AH.nil,mixed,func59,by kernel_rfl⟩
def Sc:=M.pt 0
def start (h:Sc R p0 n0 c0 p1 n1 c1 v2 p0 n0 c0 (n0:Int) 0 Z):Spec prog 59 #[.slice p0 n0 c0,.slice p1 n1 c1,v2] Z R:=M.HU h ok [(0,.o (.L p0 n0 c0)),(1,.o (.L p1 n1 c1)),(2,.o (.V v2))] rfl rfl (by kernel_rfl)
def FY (h:Br (DB<x12) (Pq Nk λHy Ru=>In DB (n11:Int)/\∃G ARN,Af Z Hy (Ru+DB.toNat*2) [.string G,.string ARN]/\∀b8:Nat,Br ((n1:Int)<=DB) (R (.returned (.I 1)) Z) (Pq p1 λb24 o24=>In DB (n1:Int)/\∃ARO ARP,Af Z b24 (o24+DB.toNat*2) [.string ARO,.string ARP]/\∀b9:Nat,∃(f29:Nat) (A C:Array Value),v2=.func (.func f29) A C/\Enters prog f29/\Spec prog f29 (A++#[.agg #[.string G,.string ARN],.agg #[.string ARO,.string ARP]]++C) Z (BV R (CI .i64 λyR y=>Br (yR≠0) (R (.returned (.I yR)) y) (AF (DB+1)/\Sc R p0 n0 c0 (aD b24 o24) n1 c1 v2 (aD Hy Ru) n11 Q3 x12 (DB+1) y))))) (Br ((n0:Int)<(n1:Int)) (R (.returned (.I (-1))) Z) (R (.returned (.I 0)) Z))):Sc R p0 n0 c0 p1 n1 c1 v2 Nk n11 Q3 x12 DB Z:=M.of h ok rfl
end BY
namespace Jt
variable {s0:ByteArray}{x3:Int}
def M:Fw:=⟨prog,63,f63,[],[],false,[],[],[(464,[(0,wT),(3,wI)])]⟩
def ok:M.Ok:=⟨AH.nil,mixed,func63,by kernel_rfl⟩
def Au:=M.pt 0
def start (h:Br (((s0.size:Int):Int)<1) (R (.B false) Z) (Br ((64:Int)<(s0.size:Int)) (R (.B false) Z) (∃A:UInt8,(0:Int)<=0/\(ByteArray.data s0)[Int.toNat 0]?=some A/\Br ((48:Int)<=(A.toNat:Int)) (∃C:UInt8,(0:Int)<=0/\(ByteArray.data s0)[Int.toNat 0]?=some C/\Br (((C.toNat:Int):Int)<=57) (R (.B false) Z) (Au R s0 0 Z)) (Au R s0 0 Z)))):Spec prog 63 #[.string s0] Z R:=M.start h ok
def Aq (h:Br (x3<(s0.size:Int)) (∃A:UInt8,0<=x3/\(ByteArray.data s0)[x3.toNat]?=some A/\Br ((65:Int)<=(A.toNat:Int)) (Br (((A.toNat:Int):Int)<=90) (AF (x3+1)/\Au R s0 (x3+1) Z) (Br ((97:Int)<=(A.toNat:Int)) (Br (((A.toNat:Int):Int)<=122) (AF (x3+1)/\Au R s0 (x3+1) Z) (Br ((48:Int)<=(A.toNat:Int)) (Br (((A.toNat:Int):Int)<=57) (AF (x3+1)/\Au R s0 (x3+1) Z) (Bm (((A.toNat:Int):Int)=95) (R (.B false) Z) (AF (x3+1)/\Au R s0 (x3+1) Z))) (Bm (((A.toNat:Int):Int)=95) (R (.B false) Z) (AF (x3+1)/\Au R s0 (x3+1) Z)))) (Br ((48:Int)<=(A.toNat:Int)) (Br (((A.toNat:Int):Int)<=57) (AF (x3+1)/\Au R s0 (x3+1) Z) (Bm (((A.toNat:Int):Int)=95) (R (.B false) Z) (AF (x3+1)/\Au R s0 (x3+1) Z))) (Bm (((A.toNat:Int):Int)=95) (R (.B false) Z) (AF (x3+1)/\Au R s0 (x3+1) Z))))) (Br ((97:Int)<=(A.toNat:Int)) (Br (((A.toNat:Int):Int)<=122) (AF (x3+1)/\Au R s0 (x3+1) Z) (Br ((48:Int)<=(A.toNat:Int)) (Br (((A.toNat:Int):Int)<=57) (AF (x3+1)/\Au R s0 (x3+1) Z) (Bm (((A.toNat:Int):Int)=95) (R (.B false) Z) (AF (x3+1)/\Au R s0 (x3+1) Z))) (Bm (((A.toNat:Int):Int)=95) (R (.B false) Z) (AF (x3+1)/\Au R s0 (x3+1) Z)))) (Br ((48:Int)<=(A.toNat:Int)) (Br (((A.toNat:Int):Int)<=57) (AF (x3+1)/\Au R s0 (x3+1) Z) (Bm (((A.toNat:Int):Int)=95) (R (.B false) Z) (AF (x3+1)/\Au R s0 (x3+1) Z))) (Bm (((A.toNat:Int):Int)=95) (R (.B false) Z) (AF (x3+1)/\Au R s0 (x3+1) Z))))) (R (.B true) Z)):Au R s0 x3 Z:=M.of h ok rfl
end Jt
namespace Ee
variable {s0:ByteArray}{x3:Int}
def M:Fw:=⟨prog,64,f64,[102],[],false,[],[],[(464,[(0,wT),(3,wI)])]⟩
def ok:M.Ok:=⟨.cons call102 (AH.nil),mixed,func64,by kernel_rfl⟩
def Au:=M.pt 0
def start (h:Br (((s0.size:Int):Int)<1) (R (.B false) Z) (Br ((256:Int)<(s0.size:Int)) (R (.B false) Z) (Au R s0 0 Z))):Spec prog 64 #[.string s0] Z R:=M.start h ok
def Aq (h:Br (x3<(s0.size:Int)) (AG 102 #[.string s0,.I x3] Z R (CI .i64 λGI y=>Br (GI=0) (R (.B false) y) (AF (x3+GI)/\Au R s0 (x3+GI) y))) (R (.B true) Z)):Au R s0 x3 Z:=M.of h ok rfl
end Ee
namespace Ef
variable {s0:ByteArray}{x4 x5 x7:Int}{t6:Bool}
def M:Fw:=⟨prog,66,f66,[85,103],[],false,[],[],[(2000,[(0,wT),(4,wU),(5,wU),(6,wB),(7,wI)]),(2003,[(0,wT),(4,wU),(5,wU),(6,wB),(7,wI)])]⟩
def ok:M.Ok:=⟨.cons call85 (.cons call103 (AH.nil)),mixed,func66,by kernel_rfl⟩
def Ws:=M.pt 0
def gx:=M.pt 1
def start (h:AG 85 #[.string s0] Z R (CB λt9 y=>Bn t9 (R (.T #[.U 0,.bool false]) y) (Ws R s0 0 1 false 0 y))):Spec prog 66 #[.string s0] Z R:=M.start h ok
def TM (h:Br (x7<(s0.size:Int)) (∃A:UInt8,0<=x7/\(ByteArray.data s0)[x7.toNat]?=some A/\Br (((A.toNat:Int):Int)=46) (gx R s0 x4 x5 true x7 Z) (Df (IntKind.u64.wrap (10*x4)) λLi=>∃C:UInt8,0<=x7/\(ByteArray.data s0)[x7.toNat]?=some C/\Df (IntKind.u8.wrap ((C.toNat:Int)-48)) λjv=>Df (IntKind.u64.wrap jv) λLY=>Df (IntKind.u64.wrap (Li+LY)) λG=>Bo t6 (Df (IntKind.u64.wrap (10*x5)) λYh=>gx R s0 G Yh true x7 Z) (gx R s0 G x5 false x7 Z))) (AJ prog (convert 57 73 (.U x4)) Z (λz y=>∃fR,(Value.float .f64 fR)=z/\AJ prog (convert 57 73 (.U x5)) y (λz AB=>∃Q1,(Value.float .f64 Q1)=z/\AJ prog (binOp .quo 73 (Value.float .f64 fR) (Value.float .f64 Q1)) AB (λz AK=>∃No,(Value.float .f64 No)=z/\AG 103 #[(Value.float .f64 No)] AK R (CI .u64 λUd AX=>R (.T #[.U Ud,.bool true]) AX)))))):Ws R s0 x4 x5 t6 x7 Z:=M.of h ok rfl
def gy (h:AF (x7+1)/\Ws R s0 x4 x5 t6 (x7+1) Z):gx R s0 x4 x5 t6 x7 Z:=M.of h ok rfl
end Ef
namespace CG
variable {Ae A1 Bf Bh BM BS By BQ Q4 GO Gm XP XQ VK XR Bi A6 VC BZ BX EI x6 x9a x9b x9d x10 x8:Int}{BW XS:ByteArray}{CJ B4 PI Q5 VE Wt Wl Wm Hq EJ p5 p9c p9e p7:Option Addr}{CD CK Bl B8 Nn PJ Q6 Q7 VF VH Wu Wv RX V2 TI V3 CM De EK EL n5 c5 n9c c9c n9e c9e n7 c7:Nat}{Bj Ww:Bool}
def M:Fw:=⟨prog,70,f70,[44,109,110],[2,3,4,9],false,[(11,17,false),(16,19,false)],[],[(464,[(2,.X 44 [.I .i64,.I .i64,.T,.L,.I .i64,.I .i64,.I .i64,.L,.B,.I .i64]),(3,.X 90 [.I .i64,.I .u64,.L,.I .i64,.L]),(4,.X 90 [.I .i64,.I .u64,.L,.I .i64,.L]),(5,wL),(6,wI)]),(2000,[(2,.X 44 [.I .i64,.I .i64,.T,.L,.I .i64,.I .i64,.I .i64,.L,.B,.I .i64]),(4,.X 90 [.I .i64,.I .u64,.L,.I .i64,.L]),(5,wL),(9,.X 90 [.I .i64,.I .u64,.L,.I .i64,.L]),(10,wI)]),(119392,[(2,.X 44 [.I .i64,.I .i64,.T,.L,.I .i64,.I .i64,.I .i64,.L,.B,.I .i64]),(3,.X 90 [.I .i64,.I .u64,.L,.I .i64,.L]),(4,.X 90 [.I .i64,.I .u64,.L,.I .i64,.L]),(5,wL),(6,wI),(7,wL),(8,wI)]),(14927,[(2,.X 44 [.I .i64,.I .i64,.T,.L,.I .i64,.I .i64,.I .i64,.L,.B,.I .i64]),(3,.X 90 [.I .i64,.I .u64,.L,.I .i64,.L]),(4,.X 90 [.I .i64,.I .u64,.L,.I .i64,.L]),(5,wL),(6,wI),(8,wI)])]⟩
def ok:M.Ok:=⟨.cons call44 (.cons call109 (.cons call110 (AH.nil))),mixed,func70,by kernel_rfl⟩
def AR:=M.pt 0
def AAK:=M.pt 1
def dU:=M.pt 2
def MD:=M.pt 3
def start (h:∀b2:Nat,∀b3:Nat,∀A:Nat,AR R Ae A1 BW CJ CD CK Bf Bh BM B4 Bl B8 Bj BS By BQ PI Nn PJ Q4 Q5 Q6 Q7 0 0 none 0 0 0 none 0 0 none 0 0 0 Z):Spec prog 70 #[.agg #[.I Ae,.I A1,.string BW,.slice CJ CD CK,.I Bf,.I Bh,.I BM,.slice B4 Bl B8,.bool Bj,.I BS],.agg #[.I By,.U BQ,.slice PI Nn PJ,.I Q4,.slice Q5 Q6 Q7]] Z R:=M.start h ok
def AM (h:Br (x6<(RX:Int)) (Pq Wl λIG Q8=>In x6 (RX:Int)/\LS Z IG (Q8+x6.toNat*2) λyJ C po=>AG 109 #[.I VK,.slice Wt Wu Wv,.slice yJ C po] Z R (CS λp28 G A y=>dU R GO Gm XS VE VF VH XP XQ VK Wt Wu Wv Ww XR Bi A6 (aD IG Q8) RX V2 VC Wm TI V3 BZ BX Hq CM De EI EJ EK EL p5 n5 c5 x6 p28 G A 0 y)) (∀b9:Nat,AAK R GO Gm XS VE VF VH XP XQ VK Wt Wu Wv Ww XR BZ BX Hq CM De EI EJ EK EL p5 n5 c5 2 0 none 0 0 0 none 0 0 0 Z)):AR R GO Gm XS VE VF VH XP XQ VK Wt Wu Wv Ww XR Bi A6 Wl RX V2 VC Wm TI V3 BZ BX Hq CM De EI EJ EK EL p5 n5 c5 x6 Z:=M.dL h ok rfl λ_ _ _=>by kernel_rfl
def tX (h:Br (x10<(n5:Int)) (Pq p5 λG A=>In x10 (n5:Int)/\LS Z G (A+x10.toNat*2) λp84 n84 c84=>In x10 (n5:Int)/\LS Z G ((A+x10.toNat*2)+1) λp91 n91 c91=>AG 110 #[.I Gm,.slice p91 n91 c91] Z R (CI .u64 λqK y=>Kp [G] Z y/\Al y λC=>AJ prog (DV 87 p9c n9c c9c C) (Hp.set y C (.cells #[.slice p84 n84 c84,.U qK] 94 (0,0))) (CS λp95 n95 c95 AB=>AF (x10+1)/\AAK R GO Gm XS VE VF VH XP XQ VK Wt Wu Wv Ww XR BZ BX Hq CM De EI EJ EK EL (aD G A) n5 c5 x9a x9b p95 n95 c95 x9d p9e n9e c9e (x10+1) AB))) (R (.returned (.agg #[.I x9a,.U x9b,.slice p9c n9c c9c,.I x9d,.slice p9e n9e c9e])) Z)):AAK R GO Gm XS VE VF VH XP XQ VK Wt Wu Wv Ww XR BZ BX Hq CM De EI EJ EK EL p5 n5 c5 x9a x9b p9c n9c c9c x9d p9e n9e c9e x10 Z:=M.dL h ok rfl λ_ _ _=>by kernel_rfl
def XN (h:Br (x8<(n5:Int)) (Pq p5 λfN A=>In x8 (n5:Int)/\LS Z fN (A+x8.toNat*2) λp38 n38 c38=>AG 44 #[.slice p38 n38 c38,.slice p7 n7 c7] Z R (CI .i64 λjs y=>Br (js≠0) (AF (x8+1)/\dU R GO Gm XS VE VF VH XP XQ VK Wt Wu Wv Ww XR Bi A6 Wl RX V2 VC Wm TI V3 BZ BX Hq CM De EI EJ EK EL (aD fN A) n5 c5 x6 p7 n7 c7 (x8+1) y) (Br (x8=(n5:Int)) (Al y λoO=>AJ prog (Builtin.append_ #[88,88] 88 #[(.slice (aD fN A) n5 c5),(.slice (aD oO 0) 1 1)]) (Hp.set y oO (.cells #[.slice p7 n7 c7,.N] 165 (0,0))) (CS λp53 G C AB=>MD R GO Gm XS VE VF VH XP XQ VK Wt Wu Wv Ww XR Bi A6 Wl RX V2 VC Wm TI V3 BZ BX Hq CM De EI EJ EK EL p53 G C x6 x8 AB)) (MD R GO Gm XS VE VF VH XP XQ VK Wt Wu Wv Ww XR Bi A6 Wl RX V2 VC Wm TI V3 BZ BX Hq CM De EI EJ EK EL (aD fN A) n5 c5 x6 x8 y)))) (Br (x8=(n5:Int)) (Al Z λoO=>AJ prog (DV 88 p5 n5 c5 oO) (Hp.set Z oO (.cells #[.slice p7 n7 c7,.N] 165 (0,0))) (CS λp53 G C y=>MD R GO Gm XS VE VF VH XP XQ VK Wt Wu Wv Ww XR Bi A6 Wl RX V2 VC Wm TI V3 BZ BX Hq CM De EI EJ EK EL p53 G C x6 x8 y)) (MD R GO Gm XS VE VF VH XP XQ VK Wt Wu Wv Ww XR Bi A6 Wl RX V2 VC Wm TI V3 BZ BX Hq CM De EI EJ EK EL p5 n5 c5 x6 x8 Z))):dU R GO Gm XS VE VF VH XP XQ VK Wt Wu Wv Ww XR Bi A6 Wl RX V2 VC Wm TI V3 BZ BX Hq CM De EI EJ EK EL p5 n5 c5 x6 p7 n7 c7 x8 Z:=M.dL h ok rfl λ_ _ _=>by kernel_rfl
def M4 (h:Pq p5 λA C=>In x8 (n5:Int)/\LS Z A ((C+x8.toNat*2)+1) λp60 n60 c60=>Pq Wl λwS yS=>In x6 (RX:Int)/\LI .u64 Z wS ((yS+x6.toNat*2)+1) λwP=>Al Z λG=>AJ prog (DV 163 p60 n60 c60 G) (Hp.set Z G (.cells #[.U wP] 57 (0,0))) (CS λp68 n68 c68 y=>In x8 (n5:Int)/\AJ prog (Instr.storeAt 163 (.pointer (aD A ((C+x8.toNat*2)+1))) (.slice p68 n68 c68)) y (λ_ AB=>AF (x6+1)/\AR R GO Gm XS VE VF VH XP XQ VK Wt Wu Wv Ww XR Bi A6 (aD wS yS) RX V2 VC Wm TI V3 BZ BX Hq CM De EI EJ EK EL (aD A C) n5 c5 (x6+1) AB))):MD R GO Gm XS VE VF VH XP XQ VK Wt Wu Wv Ww XR Bi A6 Wl RX V2 VC Wm TI V3 BZ BX Hq CM De EI EJ EK EL p5 n5 c5 x6 x8 Z:=M.dL h ok rfl λ_ _ _=>by kernel_rfl
end CG
namespace I0
variable {p0:Option Addr}{n0 c0:Nat}{x3:Int}
def M:Fw:=⟨prog,84,f84,[63],[],false,[],[],[(208,[(0,wL),(3,wI)])]⟩
def ok:M.Ok:=⟨.cons call63 (AH.nil),mixed,func84,by kernel_rfl⟩
def E5:=M.pt 0
def start (h:E5 R p0 n0 c0 0 Z):Spec prog 84 #[.slice p0 n0 c0] Z R:=M.start h ok
def Ag (h:Br (x3<(n0:Int)) (Pq p0 λD1 C=>In x3 (n0:Int)/\LT Z D1 (C+x3.toNat*1) λA=>AG 63 #[.string A] Z R (CB λt14 y=>Bn t14 (R (.B false) y) (AF (x3+1)/\E5 R (aD D1 C) n0 c0 (x3+1) y))) (R (.B true) Z)):E5 R p0 n0 c0 x3 Z:=M.of h ok rfl
end I0
namespace CE
variable {s0:ByteArray}{x3 x4 x5:Int}
def M:Fw:=⟨prog,85,f85,[137,138],[],false,[],[],[(464,[(0,wT),(3,wI),(4,wI)]),(4048,[(0,wT),(3,wI),(5,wI)]),(467,[(0,wT),(3,wI),(4,wI)])]⟩
def ok:M.Ok:=⟨.cons call137 (.cons call138 (AH.nil)),mixed,func85,by kernel_rfl⟩
def AR:=M.pt 0
def AFo:=M.pt 1
def JK:=M.pt 2
def start (h:AF ((s0.size:Int)-1)/\AR R s0 ((s0.size:Int)) (((s0.size:Int)-1)) Z):Spec prog 85 #[.string s0] Z R:=M.start h ok
def AM (h:Br (0<=x4) (∃C:UInt8,0<=x4/\(ByteArray.data s0)[x4.toNat]?=some C/\Br (((C.toNat:Int):Int)=46) (JK R s0 x4 x4 Z) (JK R s0 x3 x4 Z)) (∃A,YF prog (Instr.sliceAt 9 (.string s0) none (some (.I x3)) none) Z (.string A)/\AG 137 #[.string A] Z R (CB λt23 y=>Bn t23 (R (.B false) y) (Br (x3=(s0.size:Int)) (R (.returned (.bool (decide (((s0.size:Int):Int)<=15)))) y) (AF (x3+1)/\AFo R s0 x3 (x3+1) y))))):AR R s0 x3 x4 Z:=M.of h ok rfl
def tY (h:Br (x5<(s0.size:Int)) (∃A:UInt8,0<=x5/\(ByteArray.data s0)[x5.toNat]?=some A/\AG 138 #[(.int .u8 (A.toNat:Int))] Z R (CB λt43 y=>Bn t43 (R (.B false) y) (AF (x5+1)/\AFo R s0 x3 (x5+1) y))) (AF (x3+1)/\Br (((x3+1):Int)<(s0.size:Int)) (R (.returned (.bool (decide (((s0.size:Int):Int)<=16)))) Z) (R (.B false) Z))):AFo R s0 x3 x5 Z:=M.of h ok rfl
def Gn (h:AF (x4-1)/\AR R s0 x3 (x4-1) Z):JK R s0 x3 x4 Z:=M.of h ok rfl
end CE
namespace Cb
variable {p0 p1 p5:Option Addr}{n0 c0 n1 c1 n5 c5:Nat}{x6 x7:Int}
def M:Fw:=⟨prog,88,f88,[],[],false,[(7,24,true),(10,18,true)],[],[(480,[(0,wL),(1,wL),(5,wL),(6,wI),(7,wI)])]⟩
def ok:M.Ok:=⟨AH.nil,mixed,func88,by kernel_rfl⟩
def AR:=M.pt 0
def start (h:AR R p0 n0 c0 p1 n1 c1 none 0 0 0 0 Z):Spec prog 88 #[.slice p0 n0 c0,.slice p1 n1 c1] Z R:=M.start h ok
def AM (h:Br (x6<(n0:Int)) (Br (x7=(n1:Int)) (Pq p0 λqX o69=>In x6 (n0:Int)/\∃Yk Yl,Af Z qX (o69+x6.toNat*2) [.I Yk,.U Yl]/\Al Z λNj=>AJ prog (DV 49 p5 n5 c5 Nj) (Hp.set Z Nj (.cells #[.I Yk,.U Yl] 61 (0,0))) (CS λvz v7 wC y=>AF (x6+1)/\AR R (aD qX o69) n0 c0 p1 n1 c1 vz v7 wC (x6+1) x7 y)) (Br (x6<(n0:Int)) (Pq p0 λDC EM=>In x6 (n0:Int)/\LI .i64 Z DC (EM+x6.toNat*2) λx57=>Pq p1 λS5 iC=>In x7 (n1:Int)/\LI .i64 Z S5 (iC+x7.toNat*2) λdT=>Br (x57<dT) (In x6 (n0:Int)/\∃Yk Yl,Af Z DC (EM+x6.toNat*2) [.I Yk,.U Yl]/\Al Z λNj=>AJ prog (DV 49 p5 n5 c5 Nj) (Hp.set Z Nj (.cells #[.I Yk,.U Yl] 61 (0,0))) (CS λvz v7 wC y=>AF (x6+1)/\AR R (aD DC EM) n0 c0 (aD S5 iC) n1 c1 vz v7 wC (x6+1) x7 y)) (Br (x6=(n0:Int)) (In x7 (n1:Int)/\∃G C,Af Z S5 (iC+x7.toNat*2) [.I G,.U C]/\Al Z λS6=>AJ prog (DV 49 p5 n5 c5 S6) (Hp.set Z S6 (.cells #[.I G,.U C] 61 (0,0))) (CS λiD A iE y=>AF (x7+1)/\AR R (aD DC EM) n0 c0 (aD S5 iC) n1 c1 iD A iE x6 (x7+1) y)) (In x7 (n1:Int)/\LI .i64 Z S5 (iC+x7.toNat*2) λx85=>In x6 (n0:Int)/\LI .i64 Z DC (EM+x6.toNat*2) λx90=>Br (x85<x90) (In x7 (n1:Int)/\∃G C,Af Z S5 (iC+x7.toNat*2) [.I G,.U C]/\Al Z λS6=>AJ prog (DV 49 p5 n5 c5 S6) (Hp.set Z S6 (.cells #[.I G,.U C] 61 (0,0))) (CS λiD A iE y=>AF (x7+1)/\AR R (aD DC EM) n0 c0 (aD S5 iC) n1 c1 iD A iE x6 (x7+1) y)) (In x6 (n0:Int)/\LI .i64 Z DC (EM+x6.toNat*2) λE3=>In x6 (n0:Int)/\LI .u64 Z DC ((EM+x6.toNat*2)+1) λKj=>In x7 (n1:Int)/\LI .u64 Z S5 ((iC+x7.toNat*2)+1) λfR=>Al Z λfN=>AJ prog (DV 49 p5 n5 c5 fN) (Hp.set Z fN (.cells #[.I E3,(.U (if Kj<fR then fR else Kj))] 61 (0,0))) (CS λUe n37 Uf y=>AF (x6+1)/\AF (x7+1)/\AR R (aD DC EM) n0 c0 (aD S5 iC) n1 c1 Ue n37 Uf (x6+1) (x7+1) y))))) (Br (x6=(n0:Int)) (Pq p1 λjn o96=>In x7 (n1:Int)/\∃G C,Af Z jn (o96+x7.toNat*2) [.I G,.U C]/\Al Z λS6=>AJ prog (DV 49 p5 n5 c5 S6) (Hp.set Z S6 (.cells #[.I G,.U C] 61 (0,0))) (CS λiD A iE y=>AF (x7+1)/\AR R p0 n0 c0 (aD jn o96) n1 c1 iD A iE x6 (x7+1) y)) (Pq p1 λjw tZ=>In x7 (n1:Int)/\LI .i64 Z jw (tZ+x7.toNat*2) λx85=>Pq p0 λlF o88=>In x6 (n0:Int)/\LI .i64 Z lF (o88+x6.toNat*2) λx90=>Br (x85<x90) (In x7 (n1:Int)/\∃G C,Af Z jw (tZ+x7.toNat*2) [.I G,.U C]/\Al Z λS6=>AJ prog (DV 49 p5 n5 c5 S6) (Hp.set Z S6 (.cells #[.I G,.U C] 61 (0,0))) (CS λiD A iE y=>AF (x7+1)/\AR R (aD lF o88) n0 c0 (aD jw tZ) n1 c1 iD A iE x6 (x7+1) y)) (In x6 (n0:Int)/\LI .i64 Z lF (o88+x6.toNat*2) λE3=>In x6 (n0:Int)/\LI .u64 Z lF ((o88+x6.toNat*2)+1) λKj=>In x7 (n1:Int)/\LI .u64 Z jw ((tZ+x7.toNat*2)+1) λfR=>Al Z λfN=>AJ prog (DV 49 p5 n5 c5 fN) (Hp.set Z fN (.cells #[.I E3,(.U (if Kj<fR then fR else Kj))] 61 (0,0))) (CS λUe n37 Uf y=>AF (x6+1)/\AF (x7+1)/\AR R (aD lF o88) n0 c0 (aD jw tZ) n1 c1 Ue n37 Uf (x6+1) (x7+1) y)))))) (Br (x7<(n1:Int)) (Br (x7=(n1:Int)) (Pq p0 λqX o69=>In x6 (n0:Int)/\∃Yk Yl,Af Z qX (o69+x6.toNat*2) [.I Yk,.U Yl]/\Al Z λNj=>AJ prog (DV 49 p5 n5 c5 Nj) (Hp.set Z Nj (.cells #[.I Yk,.U Yl] 61 (0,0))) (CS λvz v7 wC y=>AF (x6+1)/\AR R (aD qX o69) n0 c0 p1 n1 c1 vz v7 wC (x6+1) x7 y)) (Br (x6<(n0:Int)) (Pq p0 λDC EM=>In x6 (n0:Int)/\LI .i64 Z DC (EM+x6.toNat*2) λx57=>Pq p1 λS5 iC=>In x7 (n1:Int)/\LI .i64 Z S5 (iC+x7.toNat*2) λdT=>Br (x57<dT) (In x6 (n0:Int)/\∃Yk Yl,Af Z DC (EM+x6.toNat*2) [.I Yk,.U Yl]/\Al Z λNj=>AJ prog (DV 49 p5 n5 c5 Nj) (Hp.set Z Nj (.cells #[.I Yk,.U Yl] 61 (0,0))) (CS λvz v7 wC y=>AF (x6+1)/\AR R (aD DC EM) n0 c0 (aD S5 iC) n1 c1 vz v7 wC (x6+1) x7 y)) (Br (x6=(n0:Int)) (In x7 (n1:Int)/\∃G C,Af Z S5 (iC+x7.toNat*2) [.I G,.U C]/\Al Z λS6=>AJ prog (DV 49 p5 n5 c5 S6) (Hp.set Z S6 (.cells #[.I G,.U C] 61 (0,0))) (CS λiD A iE y=>AF (x7+1)/\AR R (aD DC EM) n0 c0 (aD S5 iC) n1 c1 iD A iE x6 (x7+1) y)) (In x7 (n1:Int)/\LI .i64 Z S5 (iC+x7.toNat*2) λx85=>In x6 (n0:Int)/\LI .i64 Z DC (EM+x6.toNat*2) λx90=>Br (x85<x90) (In x7 (n1:Int)/\∃G C,Af Z S5 (iC+x7.toNat*2) [.I G,.U C]/\Al Z λS6=>AJ prog (DV 49 p5 n5 c5 S6) (Hp.set Z S6 (.cells #[.I G,.U C] 61 (0,0))) (CS λiD A iE y=>AF (x7+1)/\AR R (aD DC EM) n0 c0 (aD S5 iC) n1 c1 iD A iE x6 (x7+1) y)) (In x6 (n0:Int)/\LI .i64 Z DC (EM+x6.toNat*2) λE3=>In x6 (n0:Int)/\LI .u64 Z DC ((EM+x6.toNat*2)+1) λKj=>In x7 (n1:Int)/\LI .u64 Z S5 ((iC+x7.toNat*2)+1) λfR=>Al Z λfN=>AJ prog (DV 49 p5 n5 c5 fN) (Hp.set Z fN (.cells #[.I E3,(.U (if Kj<fR then fR else Kj))] 61 (0,0))) (CS λUe n37 Uf y=>AF (x6+1)/\AF (x7+1)/\AR R (aD DC EM) n0 c0 (aD S5 iC) n1 c1 Ue n37 Uf (x6+1) (x7+1) y))))) (Br (x6=(n0:Int)) (Pq p1 λjn o96=>In x7 (n1:Int)/\∃G C,Af Z jn (o96+x7.toNat*2) [.I G,.U C]/\Al Z λS6=>AJ prog (DV 49 p5 n5 c5 S6) (Hp.set Z S6 (.cells #[.I G,.U C] 61 (0,0))) (CS λiD A iE y=>AF (x7+1)/\AR R p0 n0 c0 (aD jn o96) n1 c1 iD A iE x6 (x7+1) y)) (Pq p1 λjw tZ=>In x7 (n1:Int)/\LI .i64 Z jw (tZ+x7.toNat*2) λx85=>Pq p0 λlF o88=>In x6 (n0:Int)/\LI .i64 Z lF (o88+x6.toNat*2) λx90=>Br (x85<x90) (In x7 (n1:Int)/\∃G C,Af Z jw (tZ+x7.toNat*2) [.I G,.U C]/\Al Z λS6=>AJ prog (DV 49 p5 n5 c5 S6) (Hp.set Z S6 (.cells #[.I G,.U C] 61 (0,0))) (CS λiD A iE y=>AF (x7+1)/\AR R (aD lF o88) n0 c0 (aD jw tZ) n1 c1 iD A iE x6 (x7+1) y)) (In x6 (n0:Int)/\LI .i64 Z lF (o88+x6.toNat*2) λE3=>In x6 (n0:Int)/\LI .u64 Z lF ((o88+x6.toNat*2)+1) λKj=>In x7 (n1:Int)/\LI .u64 Z jw ((tZ+x7.toNat*2)+1) λfR=>Al Z λfN=>AJ prog (DV 49 p5 n5 c5 fN) (Hp.set Z fN (.cells #[.I E3,(.U (if Kj<fR then fR else Kj))] 61 (0,0))) (CS λUe n37 Uf y=>AF (x6+1)/\AF (x7+1)/\AR R (aD lF o88) n0 c0 (aD jw tZ) n1 c1 Ue n37 Uf (x6+1) (x7+1) y)))))) (R (.returned (.slice p5 n5 c5)) Z))):AR R p0 n0 c0 p1 n1 c1 p5 n5 c5 x6 x7 Z:=M.of h ok rfl
end Cb
namespace V5
variable {x0 x1 x2:Int}
def M:Fw:=⟨prog,114,f114,[152],[],false,[],[],[]⟩
def ok:M.Ok:=⟨.cons call152 (AH.nil),mixed,func114,by kernel_rfl⟩
def start (h:AG 152 #[.I x0,.U x1,.U x2] Z R (λz y=>∃A C,z=(.tuple #[.bool A,.bool C])/\R (.B A) y)):Spec prog 114 #[.I x0,.U x1,.U x2] Z R:=M.start h ok
end V5
namespace BE
variable {s0:ByteArray}{x3 x4 x5 x6:Int}
def M:Fw:=⟨prog,119,f119,[],[],false,[],[],[(220,[(0,wT),(3,wI)]),(894,[(0,wT),(3,wI),(4,wI),(5,w8),(6,w8)]),(7164,[(0,wT),(3,wI),(4,wI),(5,w8),(6,w8)])]⟩
def ok:M.Ok:=⟨AH.nil,mixed,func119,by kernel_rfl⟩
def AR:=M.pt 0
def KX:=M.pt 1
def AAM:=M.pt 2
def start (h:AR R s0 0 Z):Spec prog 119 #[.string s0] Z R:=M.start h ok
def AM (h:Br (x3=(s0.size:Int)) (R (.B true) Z) (∃A:UInt8,0<=x3/\(ByteArray.data s0)[x3.toNat]?=some A/\Br (((A.toNat:Int):Int)<128) (AF (x3+1)/\AR R s0 (x3+1) Z) (Br ((194:Int)<=(A.toNat:Int)) (Br (((A.toNat:Int):Int)<=223) (KX R s0 x3 1 128 191 Z) (Br ((224:Int)<=(A.toNat:Int)) (Br (((A.toNat:Int):Int)<=239) (Br (((A.toNat:Int):Int)=224) (KX R s0 x3 2 160 191 Z) (Br (((A.toNat:Int):Int)=237) (KX R s0 x3 2 128 159 Z) (KX R s0 x3 2 128 191 Z))) (Br ((240:Int)<=(A.toNat:Int)) (Br (((A.toNat:Int):Int)<=244) (Br (((A.toNat:Int):Int)=240) (KX R s0 x3 3 144 191 Z) (Br (((A.toNat:Int):Int)=244) (KX R s0 x3 3 128 143 Z) (KX R s0 x3 3 128 191 Z))) (R (.B false) Z)) (R (.B false) Z))) (Br ((240:Int)<=(A.toNat:Int)) (Br (((A.toNat:Int):Int)<=244) (Br (((A.toNat:Int):Int)=240) (KX R s0 x3 3 144 191 Z) (Br (((A.toNat:Int):Int)=244) (KX R s0 x3 3 128 143 Z) (KX R s0 x3 3 128 191 Z))) (R (.B false) Z)) (R (.B false) Z)))) (Br ((224:Int)<=(A.toNat:Int)) (Br (((A.toNat:Int):Int)<=239) (Br (((A.toNat:Int):Int)=224) (KX R s0 x3 2 160 191 Z) (Br (((A.toNat:Int):Int)=237) (KX R s0 x3 2 128 159 Z) (KX R s0 x3 2 128 191 Z))) (Br ((240:Int)<=(A.toNat:Int)) (Br (((A.toNat:Int):Int)<=244) (Br (((A.toNat:Int):Int)=240) (KX R s0 x3 3 144 191 Z) (Br (((A.toNat:Int):Int)=244) (KX R s0 x3 3 128 143 Z) (KX R s0 x3 3 128 191 Z))) (R (.B false) Z)) (R (.B false) Z))) (Br ((240:Int)<=(A.toNat:Int)) (Br (((A.toNat:Int):Int)<=244) (Br (((A.toNat:Int):Int)=240) (KX R s0 x3 3 144 191 Z) (Br (((A.toNat:Int):Int)=244) (KX R s0 x3 3 128 143 Z) (KX R s0 x3 3 128 191 Z))) (R (.B false) Z)) (R (.B false) Z)))))):AR R s0 x3 Z:=M.of h ok rfl
def AFp (h:AF (x3+1)/\AAM R s0 (x3+1) x4 x5 x6 Z):KX R s0 x3 x4 x5 x6 Z:=M.of h ok rfl
def ta (h:Br (x4=0) (AR R s0 x3 Z) (Br (x3=(s0.size:Int)) (R (.B false) Z) (∃A:UInt8,0<=x3/\(ByteArray.data s0)[x3.toNat]?=some A/\Br (((A.toNat:Int):Int)<x5) (R (.B false) Z) (∃C:UInt8,0<=x3/\(ByteArray.data s0)[x3.toNat]?=some C/\Br (x6<(C.toNat:Int)) (R (.B false) Z) (AF (x4-1)/\AF (x3+1)/\AAM R s0 (x3+1) (x4-1) 128 191 Z))))):AAM R s0 x3 x4 x5 x6 Z:=M.of h ok rfl
end BE
namespace V6
variable {Ae A1 Bf Bh BM BS By BQ FN FO D9 ET:Int}{BW FP:ByteArray}{CJ B4 Fm GG:Option Addr}{CD CK Bl B8 Fo Fp Fq GH:Nat}{Bj EU:Bool}
def M:Fw:=⟨prog,127,f127,[],[2,3],false,[],[],[]⟩
def ok:M.Ok:=⟨AH.nil,mixed,func127,by kernel_rfl⟩
def start (h:∀b2:Nat,∀b3:Nat,Br (Ae=By) (Br (A1=BQ) (Bo (ByteArray.toList BW==ByteArray.toList FP) (Br (Bf=FN) (Br (Bh=FO) (Br (BM=D9) (Bo Bj (Bo EU (R (.returned (.bool (decide (BS=ET)))) Z) (R (.B false) Z)) (Bo EU (R (.B false) Z) (R (.returned (.bool (decide (BS=ET)))) Z))) (R (.B false) Z)) (R (.B false) Z)) (R (.B false) Z)) (R (.B false) Z)) (R (.B false) Z)) (R (.B false) Z)):Spec prog 127 #[.agg #[.I Ae,.I A1,.string BW,.slice CJ CD CK,.I Bf,.I Bh,.I BM,.slice B4 Bl B8,.bool Bj,.I BS],.agg #[.I By,.I BQ,.string FP,.slice Fm Fo Fp,.I FN,.I FO,.I D9,.slice GG Fq GH,.bool EU,.I ET]] Z R:=M.start h ok
end V6
namespace Ym
variable {x0:Int}
def M:Fw:=⟨prog,136,f136,[],[],false,[],[],[]⟩
def ok:M.Ok:=⟨AH.nil,mixed,func136,by kernel_rfl⟩
def start (h:Br (11<=x0) (R (.returned (.bool (decide (x0<=13)))) Z) (R (.B false) Z)):Spec prog 136 #[.I x0] Z R:=M.start h ok
end Ym
namespace V7
variable {x0:Int}
def M:Fw:=⟨prog,138,f138,[],[],false,[],[],[]⟩
def ok:M.Ok:=⟨AH.nil,mixed,func138,by kernel_rfl⟩
def start (h:Br (48<=x0) (R (.returned (.bool (decide (x0<=57)))) Z) (R (.B false) Z)):Spec prog 138 #[.int .u8 x0] Z R:=M.start h ok
end V7
namespace Gu
variable {p0 p1 p5 p9:Option Addr}{n0 c0 n1 c1 n5 c5 n9 c9:Nat}{x10 x11:Int}
def M:Fw:=⟨prog,158,f158,[133,194,195,196],[7],false,[],[],[(232,[(1,wL),(5,wL),(9,wL),(10,wI),(11,wI)])]⟩
def ok:M.Ok:=⟨.cons call133 (.cons call194 (.cons call195 (.cons call196 (AH.nil)))),mixed,func158,by kernel_rfl⟩
def B9:=M.pt 0
def start (h:AG 194 #[] Z R (CS λp8 n8 c8 y=>B9 R p1 n1 c1 p8 n8 c8 p0 n0 c0 (n0:Int) 0 y)):Spec prog 158 #[.slice p0 n0 c0,.slice p1 n1 c1] Z R:=M.start h ok
def As (h:Br (x11<x10) (Pq p9 λD0 gw=>In x11 (n9:Int)/\∃MB qG A,Af Z D0 (gw+x11.toNat*3) [.I MB,.string qG,.string A]/\∀b7:Nat,AG 133 #[.I MB] Z R (CB λt17 y=>Bn t17 (R (.B false) y) (Pq p5 λG VA=>In MB (n5:Int)/\∃C,Hp.ld y ⟨G,(VA+MB.toNat*1),none⟩=some C/\AG 195 #[.string A] y R (λz AB=>∃SX RW SY,z=(.agg #[.slice SX RW SY])/\Kp [G] y AB/\AG 196 #[.slice p1 n1 c1,.string qG] AB R (CT λs34 AK=>Kp [G] AB AK/\∃(f35:Nat) (lG lH:Array Value),C=.func (.func f35) lG lH/\Enters prog f35/\Spec prog f35 (lG++#[.agg #[.slice SX RW SY,.string A],.string s34]++lH) AK (BV R (CB λt35 AX=>Bn t35 (R (.B false) AX) (AF (x11+1)/\B9 R p1 n1 c1 (aD G VA) n5 c5 (aD D0 gw) n9 c9 x10 (x11+1) AX)))))))) (R (.B true) Z)):B9 R p1 n1 c1 p5 n5 c5 p9 n9 c9 x10 x11 Z:=M.of h ok rfl
end Gu
namespace F3
variable {x0:Int}{b1 b2:Nat}
def M:Fw:=⟨prog,174,f174,[172],[],false,[],[],[]⟩
def ok:M.Ok:=⟨.cons call172 (AH.nil),mixed,func174,by kernel_rfl⟩
def start (h:∃BC BD s6c JL JM JN x6e x6f x6g G C A t6i x6j,Af Z b1 0 [.I BC,.I BD,.string s6c,.slice JL JM JN,.I x6e,.I x6f,.I x6g,.slice G C A,.bool t6i,.I x6j]/\LI .u64 Z b2 1 λx8=>AG 172 #[.agg #[.I BC,.I BD,.string s6c,.slice JL JM JN,.I x6e,.I x6f,.I x6g,.slice G C A,.bool t6i,.I x6j],.U x8,.U x0] Z R (λz y=>∃GV YL,z=(.tuple #[.U GV,.bool YL])/\R (.T #[.U GV,.bool YL]) y)):Spec prog 174 #[.U x0,(.pointer (aD b1 0)),(.pointer (aD b2 0))] Z R:=M.start h ok
end F3
namespace BL
variable {q0 Fm GG p2 p3 M6 NC CW Hs N1 p41:Option Addr}{By BQ FN FO D9 ET Ca CL M9 NA NB NG CO CP MA Rq:Int}{FP M5:ByteArray}{Fo Fp Fq GH n2 c2 n3 c3 M7 M8 ND NF CN CR Ht Hu n14 MC n41 qY:Nat}{EU PS:Bool}{m12:Option Nat}
def M:Fw:=⟨prog,177,f177,[39,132,164,172,221,222],[5,8,16,18],false,[],[],[(2024,[(5,.X 44 [.I .i64,.I .i64,.T,.L,.I .i64,.I .i64,.I .i64,.L,.B,.I .i64]),(8,.X 97 [.I .i64,.I .u64,.L,.L]),(12,wM),(14,wL),(41,wL),(42,wI),(43,wI)]),(8103,[(5,.X 44 [.I .i64,.I .i64,.T,.L,.I .i64,.I .i64,.I .i64,.L,.B,.I .i64]),(8,.X 97 [.I .i64,.I .u64,.L,.L]),(12,wM),(14,wL),(41,wL),(42,wI),(43,wI)])]⟩
def ok:M.Ok:=⟨.cons call39 (.cons call132 (.cons call164 (.cons call172 (.cons call221 (.cons call222 (AH.nil)))))),mixed,func177,by kernel_rfl⟩
def JK:=M.pt 0
def TN:=M.pt 1
def start (h:∀b5:Nat,∀b8:Nat,AG 221 #[.agg #[.I By,.I BQ,.string FP,.slice Fm Fo Fp,.I FN,.I FO,.I D9,.slice GG Fq GH,.bool EU,.I ET],.slice p2 n2 c2] Z R (λz y=>∃AbM A,z=(.tuple #[.map AbM,.bool A])/\AG 221 #[.agg #[.I By,.I BQ,.string FP,.slice Fm Fo Fp,.I FN,.I FO,.I D9,.slice GG Fq GH,.bool EU,.I ET],.slice p3 n3 c3] y R (λz AB=>∃C G,z=(.tuple #[.map C,.bool G])/\Bn A (R (.T #[.agg #[.I 0,.U 0,.N,.N],.I 223]) AB) (Bn G (R (.T #[.agg #[.I 0,.U 0,.N,.N],.I 223]) AB) (JK R By BQ FP Fm Fo Fp FN FO D9 GG Fq GH EU ET 0 0 none 0 0 none 0 0 C none 0 0 p2 n2 c2 (n2:Int) 0 AB))))):Spec prog 177 #[.pointer q0,.agg #[.I By,.I BQ,.string FP,.slice Fm Fo Fp,.I FN,.I FO,.I D9,.slice GG Fq GH,.bool EU,.I ET],.slice p2 n2 c2,.slice p3 n3 c3] Z R:=M.start h ok
def Gn (h:Br (Rq<MA) (Pq p41 λyK yL=>In Rq (n41:Int)/\∃A C G AMC,Af Z yK (yL+Rq.toNat*2) [.slice A C G,.U AMC]/\∀Hy:Nat,AG 222 #[.agg #[.I Ca,.I CL,.string M5,.slice M6 M7 M8,.I M9,.I NA,.I NB,.slice NC ND NF,.bool PS,.I NG],.slice A C G] Z R (CS λlI n50 oP y=>AG 39 #[.slice lI n50 oP] y R (CT λs54 AB=>AJ prog (Instr.lookup 247 (.map m12) (.string s54) true) AB (λz AK=>∃ARf ARg ARh AIT ARi,z=(.tuple #[.agg #[.slice ARf ARg ARh,.U AIT],.bool ARi])/\∀Kh:Nat,Bn ARi (TN R Ca CL M5 M6 M7 M8 M9 NA NB NC ND NF PS NG CO CP CW CN CR Hs Ht Hu m12 N1 n14 MC (aD yK yL) n41 qY MA Rq AK) (AG 172 #[.agg #[.I Ca,.I CL,.string M5,.slice M6 M7 M8,.I M9,.I NA,.I NB,.slice NC ND NF,.bool PS,.I NG],.U AMC,.U AIT] AK R (λz AX=>∃iB AAA,z=(.tuple #[.U iB,.bool AAA])/\AG 132 #[.I CL] AX R (CB λt72 DK=>Bn t72 (Al DK λlE=>AJ prog (DV 54 N1 n14 MC lE) (Hp.set DK lE (.cells #[.slice lI n50 oP,.U iB] 59 (0,0))) (CS λvj dQ vk GK=>TN R Ca CL M5 M6 M7 M8 M9 NA NB NC ND NF PS NG CO CP CW CN CR Hs Ht Hu m12 vj dQ vk (aD yK yL) n41 qY MA Rq GK)) (Bo PS (Al DK λlE=>AJ prog (DV 54 N1 n14 MC lE) (Hp.set DK lE (.cells #[.slice lI n50 oP,.U iB] 59 (0,0))) (CS λvj dQ vk GK=>TN R Ca CL M5 M6 M7 M8 M9 NA NB NC ND NF true NG CO CP CW CN CR Hs Ht Hu m12 vj dQ vk (aD yK yL) n41 qY MA Rq GK)) (Bo AAA (Al DK λlF=>AJ prog (DV 54 N1 n14 MC lF) (Hp.set DK lF (.cells #[.slice A C G,.U AMC] 59 (0,0))) (CS λp89 n89 c89 GK=>TN R Ca CL M5 M6 M7 M8 M9 NA NB NC ND NF false NG CO CP CW CN CR Hs Ht Hu m12 p89 n89 c89 (aD yK yL) n41 qY MA Rq GK)) (TN R Ca CL M5 M6 M7 M8 M9 NA NB NC ND NF false NG CO CP CW CN CR Hs Ht Hu m12 N1 n14 MC (aD yK yL) n41 qY MA Rq DK)))))))))) (AG 164 #[.slice N1 n14 MC] Z R (λz y=>∃AIU AIV AIW AIX AIY AIZ AIa AIb ARm,z=(.tuple #[.agg #[.I AIU,.U AIV,.slice AIW AIX AIY,.slice AIZ AIa AIb],.I ARm])/\R (.T #[.agg #[.I AIU,.U AIV,.slice AIW AIX AIY,.slice AIZ AIa AIb],.I ARm]) y))):JK R Ca CL M5 M6 M7 M8 M9 NA NB NC ND NF PS NG CO CP CW CN CR Hs Ht Hu m12 N1 n14 MC p41 n41 qY MA Rq Z:=M.pn h ok rfl λ_ _=>by kernel_rfl
def iF (h:AF (Rq+1)/\JK R Ca CL M5 M6 M7 M8 M9 NA NB NC ND NF PS NG CO CP CW CN CR Hs Ht Hu m12 N1 n14 MC p41 n41 qY MA (Rq+1) Z):TN R Ca CL M5 M6 M7 M8 M9 NA NB NC ND NF PS NG CO CP CW CN CR Hs Ht Hu m12 N1 n14 MC p41 n41 qY MA Rq Z:=M.pn h ok rfl λ_ _=>by kernel_rfl
end BL
namespace TO
variable {p0:Option Addr}{n0 c0:Nat}{s1:ByteArray}{x5:Int}
def M:Fw:=⟨prog,186,f186,[],[],false,[],[],[(208,[(0,wL),(1,wT),(5,wI)])]⟩
def ok:M.Ok:=⟨AH.nil,mixed,func186,by kernel_rfl⟩
def E5:=M.pt 0
def start (h:E5 R p0 n0 c0 s1 0 Z):Spec prog 186 #[.slice p0 n0 c0,.string s1] Z R:=M.start h ok
def Ag (h:Br (x5<(n0:Int)) (Pq p0 λDL C=>In x5 (n0:Int)/\LT Z DL (C+x5.toNat*1) λA=>Bo (ByteArray.toList A==ByteArray.toList s1) (R (.B true) Z) (AF (x5+1)/\E5 R (aD DL C) n0 c0 s1 (x5+1) Z)) (R (.B false) Z)):E5 R p0 n0 c0 s1 x5 Z:=M.of h ok rfl
end TO
namespace F5
variable {p0:Option Addr}{n0 c0:Nat}
def M:Fw:=⟨prog,200,f200,[201],[],false,[],[],[]⟩
def ok:M.Ok:=⟨.cons call201 (AH.nil),mixed,func200,by kernel_rfl⟩
def start (h:AF ((n0:Int)-1)/\Pq p0 λA C=>In (((n0:Int)-1)) (n0:Int)/\LI .u64 Z A (C+Int.toNat ((n0:Int)-1)*1) λx8=>AG 201 #[.U x8] Z R (CI .u64 λx9 y=>R (.returned (.U x9)) y)):Spec prog 200 #[.slice p0 n0 c0] Z R:=M.start h ok
end F5
namespace lJ
variable {x0 x1:Int}
def M:Fw:=⟨prog,205,f205,[218],[],false,[],[],[]⟩
def ok:M.Ok:=⟨.cons call218 (AH.nil),mixed,func205,by kernel_rfl⟩
def start (h:AG 218 #[.I 2,.U x0,.U x1] Z R (λz y=>∃GV A,z=(.tuple #[.U GV,.bool A])/\R (.returned (.U GV)) y)):Spec prog 205 #[.U x0,.U x1] Z R:=M.start h ok
end lJ
namespace R3
variable {V1 p1a:Option Addr}{Nu UW n1a c1a:Nat}{A1 BQ:Int}
def M:Fw:=⟨prog,211,f211,[42],[2,3],false,[],[],[]⟩
def ok:M.Ok:=⟨.cons call42 (AH.nil),mixed,func211,by kernel_rfl⟩
def start (h:∀b2:Nat,∀b3:Nat,AG 42 #[.slice V1 Nu UW,.slice p1a n1a c1a] Z R (CI .i64 λx9 y=>R (.returned (.I x9)) y)):Spec prog 211 #[.agg #[.slice V1 Nu UW,.U A1],.agg #[.slice p1a n1a c1a,.U BQ]] Z R:=M.start h ok
end R3
namespace R4
variable {x0 x1:Int}
def M:Fw:=⟨prog,227,f227,[147],[],false,[(4,16,true)],[],[]⟩
def ok:M.Ok:=⟨.cons call147 (AH.nil),mixed,func227,by kernel_rfl⟩
def start (h:AG 147 #[.U 4604544271217802189] Z R (λz y=>∃x9,(Value.float .f64 x9)=z/\∃x12,YF prog (Op.unary .neg (Value.float .f64 x9)) y (Value.float .f64 x12)/\∃N2,YF prog (Op.unary .neg (Value.float .f64 x9)) y (Value.float .f64 N2)/\Al y λA=>∃Uc,YF prog (Op.unary .neg (Value.float .f64 x9)) (Hp.set y A (.cells #[.float .f64 4607182418800017408,(Value.float .f64 x9),.float .f64 0,(Value.float .f64 x12),.float .f64 13830554455654793216,(Value.float .f64 N2),.float .f64 0,(Value.float .f64 x9)] 73 (0,0))) (Value.float .f64 Uc)/\∃Ig,YF prog (Op.unary .neg (Value.float .f64 x9)) (Hp.set y A (.cells #[.float .f64 4607182418800017408,(Value.float .f64 x9),.float .f64 0,(Value.float .f64 x12),.float .f64 13830554455654793216,(Value.float .f64 N2),.float .f64 0,(Value.float .f64 x9)] 73 (0,0))) (Value.float .f64 Ig)/\Al (Hp.set y A (.cells #[.float .f64 4607182418800017408,(Value.float .f64 x9),.float .f64 0,(Value.float .f64 x12),.float .f64 13830554455654793216,(Value.float .f64 N2),.float .f64 0,(Value.float .f64 x9)] 73 (0,0))) λC=>x0≠(0:Int)/\Df (IntKind.i64.wrap (Int.tdiv 8 x0)) λLY=>AF (x1*LY)/\In (x1*LY) 8/\∃G,Hp.ld (Hp.set (Hp.set y A (.cells #[.float .f64 4607182418800017408,(Value.float .f64 x9),.float .f64 0,(Value.float .f64 x12),.float .f64 13830554455654793216,(Value.float .f64 N2),.float .f64 0,(Value.float .f64 x9)] 73 (0,0))) C (.cells #[.float .f64 0,(Value.float .f64 Uc),.float .f64 13830554455654793216,(Value.float .f64 Ig),.float .f64 0,(Value.float .f64 x9),.float .f64 4607182418800017408,(Value.float .f64 x9)] 73 (0,0))) ⟨A,(0+Int.toNat (x1*LY)*1),none⟩=some (Value.float .f64 G)/\x0≠(0:Int)/\Df (IntKind.i64.wrap (Int.tdiv 8 x0)) λUX=>AF (x1*UX)/\In (x1*UX) 8/\∃Ud,Hp.ld (Hp.set (Hp.set y A (.cells #[.float .f64 4607182418800017408,(Value.float .f64 x9),.float .f64 0,(Value.float .f64 x12),.float .f64 13830554455654793216,(Value.float .f64 N2),.float .f64 0,(Value.float .f64 x9)] 73 (0,0))) C (.cells #[.float .f64 0,(Value.float .f64 Uc),.float .f64 13830554455654793216,(Value.float .f64 Ig),.float .f64 0,(Value.float .f64 x9),.float .f64 4607182418800017408,(Value.float .f64 x9)] 73 (0,0))) ⟨C,(0+Int.toNat (x1*UX)*1),none⟩=some (Value.float .f64 Ud)/\R (.T #[(Value.float .f64 G),(Value.float .f64 Ud)]) (Hp.set (Hp.set y A (.cells #[.float .f64 4607182418800017408,(Value.float .f64 x9),.float .f64 0,(Value.float .f64 x12),.float .f64 13830554455654793216,(Value.float .f64 N2),.float .f64 0,(Value.float .f64 x9)] 73 (0,0))) C (.cells #[.float .f64 0,(Value.float .f64 Uc),.float .f64 13830554455654793216,(Value.float .f64 Ig),.float .f64 0,(Value.float .f64 x9),.float .f64 4607182418800017408,(Value.float .f64 x9)] 73 (0,0))))):Spec prog 227 #[.I x0,.I x1] Z R:=M.start h ok
end R4
namespace MG
variable {p0 p5:Option Addr}{n0 c0 n5 c5:Nat}{x1 x7:Int}{v6:Value}
def M:Fw:=⟨prog,252,f252,[198,272],[],false,[],[],[(444,[(0,wL),(1,wI),(5,wL),(6,wV),(7,wI)])]⟩
def ok:M.Ok:=⟨.cons call198 (.cons call272 (AH.nil)),mixed,func252,by kernel_rfl⟩
def J6:=M.pt 0
def start (h:AG 272 #[] Z R (CS λN3 n10 MF y=>J6 R p0 n0 c0 x1 N3 n10 MF (.complex .f64 0 0) 0 y)):Spec prog 252 #[.slice p0 n0 c0,.I x1] Z R:=M.start h ok
def HX (h:Br (x7=(n0:Int)) (R (.returned v6) Z) (Pq p0 λKh M1=>In x7 (n0:Int)/\LI .u64 Z Kh (M1+x7.toNat*1) λGI=>AF (x1*x7)/\(n0:Int)≠(0:Int)/\Df (Int.tmod (x1*x7) (n0:Int)) λLY=>(n0:Int)≠(0:Int)/\Df (IntKind.i64.wrap (Int.tdiv 8 (n0:Int))) λLz=>AF (LY*Lz)/\Pq p5 λA G=>In (LY*Lz) (n5:Int)/\∃fR C,Hp.ld Z ⟨A,(G+Int.toNat (LY*Lz)*1),none⟩=some (Value.complex .f64 fR C)/\AG 198 #[.U GI] Z R (λz y=>∃Ig,(Value.float .f64 Ig)=z/\Kp [A] Z y/\∃Q1,YF prog (Builtin.real_ #[273] 73 #[v6]) y (Value.float .f64 Q1)/\∃x38,YF prog (Builtin.real_ #[273] 73 #[(Value.complex .f64 fR C)]) y (Value.float .f64 x38)/\AJ prog (binOp .mul 73 (Value.float .f64 Ig) (Value.float .f64 x38)) y (λz AB=>∃x39,(Value.float .f64 x39)=z/\AJ prog (binOp .add 73 (Value.float .f64 Q1) (Value.float .f64 x39)) AB (λz AK=>∃js,(Value.float .f64 js)=z/\∃MA,YF prog (Builtin.imag_ #[273] 73 #[v6]) AK (Value.float .f64 MA)/\∃jt,YF prog (Builtin.imag_ #[273] 73 #[(Value.complex .f64 fR C)]) AK (Value.float .f64 jt)/\AJ prog (binOp .mul 73 (Value.float .f64 Ig) (Value.float .f64 jt)) AK (λz AX=>∃hY,(Value.float .f64 hY)=z/\AJ prog (binOp .add 73 (Value.float .f64 MA) (Value.float .f64 hY)) AX (λz DK=>∃tN,(Value.float .f64 tN)=z/\∃iG y48,YF prog (Builtin.complex_ #[73,73] 273 #[(Value.float .f64 js),(Value.float .f64 tN)]) DK (Value.complex .f64 iG y48)/\AF (x7+1)/\J6 R (aD Kh M1) n0 c0 x1 (aD A G) n5 c5 (Value.complex .f64 iG y48) (x7+1) DK))))))):J6 R p0 n0 c0 x1 p5 n5 c5 v6 x7 Z:=M.of h ok rfl
end MG
namespace G3
variable {s0:ByteArray}{x3 x8 x9 x16:Int}{v4 v2:Value}{t11:Bool}
def M:Fw:=⟨prog,264,f264,[276,277,278,283,284,285,287,288],[],false,[],[],[(254,[(0,wT),(3,wI),(4,wV)]),(8190,[(2,wV),(3,wI),(4,wV)]),(32446,[(0,wT),(3,wI),(4,wV),(8,wU),(9,wI),(11,wB),(16,wU)])]⟩
def ok:M.Ok:=⟨.cons call276 (.cons call277 (.cons call278 (.cons call283 (.cons call284 (.cons call285 (.cons call287 (.cons call288 (AH.nil)))))))),mixed,func264,by kernel_rfl⟩
def AbQ:=M.pt 0
def ARn:=M.pt 2
def start (h:AG 276 #[.string s0] Z R (λz y=>∃ARo Yn ARp,z=(.tuple #[ARo,.I Yn,.bool ARp])/\Bo ARp (R (.T #[ARo,.I Yn,.nilIface]) y) (AG 277 #[.string s0] y R (λz AB=>∃wX qZ C AMD ARq A ARr,z=(.tuple #[.U wX,.I qZ,.bool C,.bool AMD,.bool ARq,.I A,.bool ARr])/\Bn ARr (R (.T #[.float .f64 0,.I A,(.iface 268 (.I 2))]) AB) (Bo ARq (∃s53,YF prog (Instr.sliceAt 9 (.string s0) none (some (.I A)) none) AB (.string s53)/\AG 278 #[.string s53,(.pointer (aD 6 0)),.U wX,.I qZ,.bool C,.bool AMD] AB R (λz AK=>∃ARs ARt,z=(.tuple #[ARs,ARt])/\R (.T #[ARs,.I A,ARt]) AK)) (LB AB 5 0 λt64=>Bo t64 (AG 285 #[.bool C] AB R (CI .u64 λwP AK=>((0:Int)<=63/\63<=((IntKind.bits .u64:Nat):Int))/\Df (IntKind.u64.wrap (wP*2^Int.toNat 63)) λju=>Br (wX=0) (Df (Go.bits .or .u64 ju 0) λx71=>EN prog 286 #[.U x71] AK (λz G=>∃yN,(Value.float .f64 yN)=z/\R (.T #[(Value.float .f64 yN),.I A,.nilIface]) G)) (Br (310<qZ) (Df (Go.bits .or .u64 ju 9218868437227405312) λx77=>EN prog 286 #[.U x77] AK (λz G=>∃x78,(Value.float .f64 x78)=z/\R (.T #[(Value.float .f64 x78),.I A,(.iface 268 (.I 1))]) G)) (Br (qZ<(-345)) (Df (Go.bits .or .u64 ju 0) λx84=>EN prog 286 #[.U x84] AK (λz G=>∃x85,(Value.float .f64 x85)=z/\R (.T #[(Value.float .f64 x85),.I A,.nilIface]) G)) (Bn AMD (AG 287 #[.U wX,.I qZ,.bool C] AK R (λz G=>∃ARu ARv,z=(.tuple #[ARu,.bool ARv])/\Bo ARv (R (.T #[ARu,.I A,.nilIface]) G) (ARn R s0 A .nilIface wX qZ false ju G))) (ARn R s0 A .nilIface wX qZ true ju AK)))))) (AbQ R s0 A .nilIface AB))))))):Spec prog 264 #[.string s0] Z R:=M.start h ok
end G3
namespace strings_Index
variable {s0 s1:ByteArray}
end strings_Index
namespace Kl
variable {s0 s1:ByteArray}
def M:Fw:=⟨prog,290,f290,[313],[],false,[],[],[]⟩
def ok:M.Ok:=⟨.cons call313 (AH.nil),mixed,func290,by kernel_rfl⟩
def start (h:AG 313 #[.string s0,.string s1] Z R (CB λt7 y=>R (.B t7) y)):Spec prog 290 #[.string s0,.string s1] Z R:=M.start h ok
end Kl
namespace EC
variable {s0 s1:ByteArray}
def M:Fw:=⟨prog,313,f313,[],[],false,[],[],[]⟩
def ok:M.Ok:=⟨AH.nil,mixed,func313,by kernel_rfl⟩
def start (h:Br (((s1.size:Int):Int)<=(s0.size:Int)) (∃A,YF prog (Instr.sliceAt 9 (.string s0) none (some (.I (s1.size:Int))) none) Z (.string A)/\R (.returned (.bool (ByteArray.toList A==ByteArray.toList s1))) Z) (R (.B false) Z)):Spec prog 313 #[.string s0,.string s1] Z R:=M.start h ok
end EC
end TwW
end
end
section
set_option maxRecDepth 100000
noncomputable section
namespace TwW
open Go Tw Go.Proofs.Tryz
variable [HL]{R:Rr}{Z:Hp}

namespace Yp
variable {x0:Int}
def M:Fw:=⟨prog,19,f19,[],[],false,[],[],[]⟩
def ok:M.Ok:=⟨AH.nil,mixed,func19,by kernel_rfl⟩
def start (h:Br (((-1099511627776):Int)<=x0) (R (.returned (.bool (decide (x0<=1099511627776)))) Z) (R (.B false) Z)):Spec prog 19 #[.I x0] Z R:=M.start h ok
end Yp
namespace R5
variable {p0 p1:Option Addr}{n0 c0 n1 c1:Nat}
def M:Fw:=⟨prog,42,f42,[59],[],false,[],[],[]⟩
def ok:M.Ok:=⟨.cons call59 (AH.nil),mixed,func42,by kernel_rfl⟩
def start (h:AG 59 #[.slice p0 n0 c0,.slice p1 n1 c1,(.func (.func 60) #[] #[])] Z R (CI .i64 λx7 y=>R (.returned (.I x7)) y)):Spec prog 42 #[.slice p0 n0 c0,.slice p1 n1 c1] Z R:=M.start h ok
end R5
namespace F6
variable {p0 p1:Option Addr}{n0 c0 n1 c1:Nat}{x5:Int}
def M:Fw:=⟨prog,44,f44,[65],[],false,[],[],[(208,[(0,wL),(1,wL),(5,wI)])]⟩
def ok:M.Ok:=⟨.cons call65 (AH.nil),mixed,func44,by kernel_rfl⟩
def E5:=M.pt 0
def start (h:E5 R p0 n0 c0 p1 n1 c1 0 Z):Spec prog 44 #[.slice p0 n0 c0,.slice p1 n1 c1] Z R:=M.start h ok
def Ag (h:Br (x5<(n0:Int)) (Br (x5<(n1:Int)) (Pq p0 λC G=>In x5 (n0:Int)/\LT Z C (G+x5.toNat*2) λs24=>Pq p1 λA tT=>In x5 (n1:Int)/\LT Z A (tT+x5.toNat*2) λs29=>AG 65 #[.string s24,.string s29] Z R (CI .i64 λLz y=>Br (Lz≠0) (R (.returned (.I Lz)) y) (In x5 (n0:Int)/\LT y C ((G+x5.toNat*2)+1) λs38=>In x5 (n1:Int)/\LT y A ((tT+x5.toNat*2)+1) λs43=>AG 65 #[.string s38,.string s43] y R (CI .i64 λWr AB=>Br (Wr≠0) (R (.returned (.I Wr)) AB) (AF (x5+1)/\E5 R (aD C G) n0 c0 (aD A tT) n1 c1 (x5+1) AB))))) (Br ((n0:Int)<(n1:Int)) (R (.returned (.I (-1))) Z) (Br ((n1:Int)<(n0:Int)) (R (.returned (.I 1)) Z) (R (.returned (.I 0)) Z)))) (Br ((n0:Int)<(n1:Int)) (R (.returned (.I (-1))) Z) (Br ((n1:Int)<(n0:Int)) (R (.returned (.I 1)) Z) (R (.returned (.I 0)) Z)))):E5 R p0 n0 c0 p1 n1 c1 x5 Z:=M.of h ok rfl
end F6
namespace ED
variable {q0 p1 Hq Jq p6 p7 N1:Option Addr}{n1 c1 CM De Jr Js n6 c6 n7 c7 n14 MC:Nat}{BZ BX x15 x16:Int}
def M:Fw:=⟨prog,47,f47,[76],[4,9],false,[],[],[(488,[(0,wQ),(4,.X 97 [.I .i64,.I .u64,.L,.L]),(6,wL),(7,wL),(14,wL),(15,wI),(16,wI)])]⟩
def ok:M.Ok:=⟨.cons call76 (AH.nil),mixed,func47,by kernel_rfl⟩
def GX:=M.pt 0
def start (h:∀b4:Nat,AG 76 #[] Z R (CS λG C A y=>GX R q0 0 0 none 0 0 none 0 0 G C A none 0 0 p1 n1 c1 (n1:Int) 0 y)):Spec prog 47 #[.pointer q0,.slice p1 n1 c1] Z R:=M.start h ok
def Fv (h:Br (x16<x15) (Pq N1 λKh M1=>In x16 (n14:Int)/\∃VL iH AAP AAQ AAR AAS AAT AAU AAV AAW AAX AAY AAZ A,Af Z Kh (M1+x16.toNat*10) [.I VL,.I iH,.string AAP,.slice AAQ AAR AAS,.I AAT,.I AAU,.I AAV,.slice AAW AAX AAY,.bool AAZ,.I A]/\∀b9:Nat,AF ((n7:Int)-A)/\Pq p6 λLy S4=>In VL (n6:Int)/\∃v30,Hp.ld Z ⟨Ly,(S4+VL.toNat*1),none⟩=some v30/\((0:Int)<=((n7:Int)-A)/\((n7:Int)-A)<=(n7:Int))/\(Al Z λtc=>(AJ prog (Builtin.append_ #[140,140] 140 #[(.slice (aD tc 0) 0 0),(.slice (Mp p7 (Int.toNat ((n7:Int)-A)) c7 4) (n7-Int.toNat ((n7:Int)-A)) (c7-Int.toNat ((n7:Int)-A)))]) (Hp.set Z tc (.cells #[] 97 (0,0))) (CS λUe n37 Uf y=>Kp [Ly] (Hp.set Z tc (.cells #[] 97 (0,0))) y/\(∃(f38:Nat) (Km Kn:Array Value),v30=.func (.func f38) Km Kn/\Enters prog f38/\Spec prog f38 (Km++#[.pointer q0,.agg #[.I VL,.I iH,.string AAP,.slice AAQ AAR AAS,.I AAT,.I AAU,.I AAV,.slice AAW AAX AAY,.bool AAZ,.I A],.slice Ue n37 Uf]++Kn) y (BV R (λz AB=>∃PU PW PY PZ Pa Pb Pc Pd G,z=(.tuple #[.agg #[.I PU,.U PW,.slice PY PZ Pa,.slice Pb Pc Pd],.I G])/\Al AB λBu=>AJ prog (Instr.storeAt 97 (.pointer (aD Bu 0)) (.agg #[.I PU,.U PW,.slice PY PZ Pa,.slice Pb Pc Pd])) (Hp.set AB Bu (.cells #[.I 0,.U 0,.N,.N] 97 (0,0))) (λ_ C=>Br (G≠0) (R (.T #[.agg #[.I 0,.U 0,.N,.N],.I G]) C) (((0:Int)<=((n7:Int)-A)/\((n7:Int)-A)<=(c7:Int))/\∃TP TQ TR TT TU TV TW TX,Af C Bu 0 [.I TP,.U TQ,.slice TR TT TU,.slice TV TW TX]/\Al C λV8=>AJ prog (Builtin.append_ #[140,140] 140 #[(.slice p7 (Int.toNat ((n7:Int)-A)) c7),(.slice (aD V8 0) 1 1)]) (Hp.set C V8 (.cells #[.I TP,.U TQ,.slice TR TT TU,.slice TV TW TX] 97 (0,0))) (CS λlI n50 oP AX=>AF (x16+1)/\GX R q0 BZ BX Hq CM De Jq Jr Js (aD Ly S4) n6 c6 lI n50 oP (aD Kh M1) n14 MC x15 (x16+1) AX))))))/\(Al y λBu=>∃(f38:Nat) (Km Kn:Array Value),v30=.func (.func f38) Km Kn/\Enters prog f38/\Spec prog f38 (Km++#[.pointer q0,.agg #[.I VL,.I iH,.string AAP,.slice AAQ AAR AAS,.I AAT,.I AAU,.I AAV,.slice AAW AAX AAY,.bool AAZ,.I A],.slice Ue n37 Uf]++Kn) (Hp.set y Bu (.cells #[.I 0,.U 0,.N,.N] 97 (0,0))) (BV R (λz AB=>∃PU PW PY PZ Pa Pb Pc Pd G,z=(.tuple #[.agg #[.I PU,.U PW,.slice PY PZ Pa,.slice Pb Pc Pd],.I G])/\AJ prog (Instr.storeAt 97 (.pointer (aD Bu 0)) (.agg #[.I PU,.U PW,.slice PY PZ Pa,.slice Pb Pc Pd])) AB (λ_ C=>Br (G≠0) (R (.T #[.agg #[.I 0,.U 0,.N,.N],.I G]) C) (((0:Int)<=((n7:Int)-A)/\((n7:Int)-A)<=(c7:Int))/\∃TP TQ TR TT TU TV TW TX,Af C Bu 0 [.I TP,.U TQ,.slice TR TT TU,.slice TV TW TX]/\Al C λV8=>AJ prog (Builtin.append_ #[140,140] 140 #[(.slice p7 (Int.toNat ((n7:Int)-A)) c7),(.slice (aD V8 0) 1 1)]) (Hp.set C V8 (.cells #[.I TP,.U TQ,.slice TR TT TU,.slice TV TW TX] 97 (0,0))) (CS λlI n50 oP AX=>AF (x16+1)/\GX R q0 BZ BX Hq CM De Jq Jr Js (aD Ly S4) n6 c6 lI n50 oP (aD Kh M1) n14 MC x15 (x16+1) AX))))))))/\(Al (Hp.set Z tc (.cells #[] 97 (0,0))) λBu=>AJ prog (Builtin.append_ #[140,140] 140 #[(.slice (aD tc 0) 0 0),(.slice (Mp p7 (Int.toNat ((n7:Int)-A)) c7 4) (n7-Int.toNat ((n7:Int)-A)) (c7-Int.toNat ((n7:Int)-A)))]) (Hp.set (Hp.set Z tc (.cells #[] 97 (0,0))) Bu (.cells #[.I 0,.U 0,.N,.N] 97 (0,0))) (CS λUe n37 Uf y=>Kp [Ly] (Hp.set (Hp.set Z tc (.cells #[] 97 (0,0))) Bu (.cells #[.I 0,.U 0,.N,.N] 97 (0,0))) y/\∃(f38:Nat) (Km Kn:Array Value),v30=.func (.func f38) Km Kn/\Enters prog f38/\Spec prog f38 (Km++#[.pointer q0,.agg #[.I VL,.I iH,.string AAP,.slice AAQ AAR AAS,.I AAT,.I AAU,.I AAV,.slice AAW AAX AAY,.bool AAZ,.I A],.slice Ue n37 Uf]++Kn) y (BV R (λz AB=>∃PU PW PY PZ Pa Pb Pc Pd G,z=(.tuple #[.agg #[.I PU,.U PW,.slice PY PZ Pa,.slice Pb Pc Pd],.I G])/\AJ prog (Instr.storeAt 97 (.pointer (aD Bu 0)) (.agg #[.I PU,.U PW,.slice PY PZ Pa,.slice Pb Pc Pd])) AB (λ_ C=>Br (G≠0) (R (.T #[.agg #[.I 0,.U 0,.N,.N],.I G]) C) (((0:Int)<=((n7:Int)-A)/\((n7:Int)-A)<=(c7:Int))/\∃TP TQ TR TT TU TV TW TX,Af C Bu 0 [.I TP,.U TQ,.slice TR TT TU,.slice TV TW TX]/\Al C λV8=>AJ prog (Builtin.append_ #[140,140] 140 #[(.slice p7 (Int.toNat ((n7:Int)-A)) c7),(.slice (aD V8 0) 1 1)]) (Hp.set C V8 (.cells #[.I TP,.U TQ,.slice TR TT TU,.slice TV TW TX] 97 (0,0))) (CS λlI n50 oP AX=>AF (x16+1)/\GX R q0 BZ BX Hq CM De Jq Jr Js (aD Ly S4) n6 c6 lI n50 oP (aD Kh M1) n14 MC x15 (x16+1) AX))))))))/\(Al Z λBu=>Al (Hp.set Z Bu (.cells #[.I 0,.U 0,.N,.N] 97 (0,0))) λtc=>AJ prog (Builtin.append_ #[140,140] 140 #[(.slice (aD tc 0) 0 0),(.slice (Mp p7 (Int.toNat ((n7:Int)-A)) c7 4) (n7-Int.toNat ((n7:Int)-A)) (c7-Int.toNat ((n7:Int)-A)))]) (Hp.set (Hp.set Z Bu (.cells #[.I 0,.U 0,.N,.N] 97 (0,0))) tc (.cells #[] 97 (0,0))) (CS λUe n37 Uf y=>Kp [Ly] (Hp.set (Hp.set Z Bu (.cells #[.I 0,.U 0,.N,.N] 97 (0,0))) tc (.cells #[] 97 (0,0))) y/\∃(f38:Nat) (Km Kn:Array Value),v30=.func (.func f38) Km Kn/\Enters prog f38/\Spec prog f38 (Km++#[.pointer q0,.agg #[.I VL,.I iH,.string AAP,.slice AAQ AAR AAS,.I AAT,.I AAU,.I AAV,.slice AAW AAX AAY,.bool AAZ,.I A],.slice Ue n37 Uf]++Kn) y (BV R (λz AB=>∃PU PW PY PZ Pa Pb Pc Pd G,z=(.tuple #[.agg #[.I PU,.U PW,.slice PY PZ Pa,.slice Pb Pc Pd],.I G])/\AJ prog (Instr.storeAt 97 (.pointer (aD Bu 0)) (.agg #[.I PU,.U PW,.slice PY PZ Pa,.slice Pb Pc Pd])) AB (λ_ C=>Br (G≠0) (R (.T #[.agg #[.I 0,.U 0,.N,.N],.I G]) C) (((0:Int)<=((n7:Int)-A)/\((n7:Int)-A)<=(c7:Int))/\∃TP TQ TR TT TU TV TW TX,Af C Bu 0 [.I TP,.U TQ,.slice TR TT TU,.slice TV TW TX]/\Al C λV8=>AJ prog (Builtin.append_ #[140,140] 140 #[(.slice p7 (Int.toNat ((n7:Int)-A)) c7),(.slice (aD V8 0) 1 1)]) (Hp.set C V8 (.cells #[.I TP,.U TQ,.slice TR TT TU,.slice TV TW TX] 97 (0,0))) (CS λlI n50 oP AX=>AF (x16+1)/\GX R q0 BZ BX Hq CM De Jq Jr Js (aD Ly S4) n6 c6 lI n50 oP (aD Kh M1) n14 MC x15 (x16+1) AX)))))))) (Pq p7 λSb o53=>In 0 (n7:Int)/\∃AAa AAb ARw ARx ARy AAc AAd AAe,Af Z Sb o53 [.I AAa,.U AAb,.slice ARw ARx ARy,.slice AAc AAd AAe]/\R (.T #[.agg #[.I AAa,.U AAb,.slice ARw ARx ARy,.slice AAc AAd AAe],.I 0]) Z)):GX R q0 BZ BX Hq CM De Jq Jr Js p6 n6 c6 p7 n7 c7 N1 n14 MC x15 x16 Z:=M.oJ h ok rfl λ_=>by kernel_rfl
end ED
namespace DH
variable {p0 p1 p5:Option Addr}{n0 c0 n1 c1 n5 c5:Nat}{x6 x7 x8:Int}
def M:Fw:=⟨prog,54,f54,[44,87,88],[],false,[],[],[(480,[(0,wL),(1,wL),(5,wL),(6,wI),(7,wI)]),(7724,[(0,wL),(1,wL),(5,wL),(6,wI),(7,wI),(8,wI)])]⟩
def ok:M.Ok:=⟨.cons call44 (.cons call87 (.cons call88 (AH.nil))),mixed,func54,by kernel_rfl⟩
def AR:=M.pt 0
def IH:=M.pt 1
def start (h:AR R p0 n0 c0 p1 n1 c1 none 0 0 0 0 Z):Spec prog 54 #[.slice p0 n0 c0,.slice p1 n1 c1] Z R:=M.start h ok
def AM (h:Br (x6<(n0:Int)) (Br (x7=(n1:Int)) (IH R p0 n0 c0 p1 n1 c1 p5 n5 c5 x6 x7 (-1) Z) (Br (x6=(n0:Int)) (IH R p0 n0 c0 p1 n1 c1 p5 n5 c5 x6 x7 1 Z) (Pq p0 λyT A=>In x6 (n0:Int)/\LS Z yT (A+x6.toNat*2) λpr G pz=>Pq p1 λXT iI=>In x7 (n1:Int)/\LS Z XT (iI+x7.toNat*2) λp28 n28 C=>AG 44 #[.slice pr G pz,.slice p28 n28 C] Z R (CI .i64 λyR y=>IH R (aD yT A) n0 c0 (aD XT iI) n1 c1 p5 n5 c5 x6 x7 yR y)))) (Br (x7<(n1:Int)) (Br (x7=(n1:Int)) (IH R p0 n0 c0 p1 n1 c1 p5 n5 c5 x6 x7 (-1) Z) (Br (x6=(n0:Int)) (IH R p0 n0 c0 p1 n1 c1 p5 n5 c5 x6 x7 1 Z) (Pq p0 λyT A=>In x6 (n0:Int)/\LS Z yT (A+x6.toNat*2) λpr G pz=>Pq p1 λXT iI=>In x7 (n1:Int)/\LS Z XT (iI+x7.toNat*2) λp28 n28 C=>AG 44 #[.slice pr G pz,.slice p28 n28 C] Z R (CI .i64 λyR y=>IH R (aD yT A) n0 c0 (aD XT iI) n1 c1 p5 n5 c5 x6 x7 yR y)))) (R (.returned (.slice p5 n5 c5)) Z))):AR R p0 n0 c0 p1 n1 c1 p5 n5 c5 x6 x7 Z:=M.of h ok rfl
def Io (h:Br (x8<0) (Pq p0 λoM yM=>In x6 (n0:Int)/\∃ARz AR0 AR1 AR2 AR3 AR4,Af Z oM (yM+x6.toNat*2) [.slice ARz AR0 AR1,.slice AR2 AR3 AR4]/\AG 87 #[.agg #[.slice ARz AR0 AR1,.slice AR2 AR3 AR4]] Z R (λz y=>∃AAg AAh AAi AAj AAk AAl,z=(.agg #[.slice AAg AAh AAi,.slice AAj AAk AAl])/\Al y λoQ=>AJ prog (DV 23 p5 n5 c5 oQ) (Hp.set y oQ (.cells #[.slice AAg AAh AAi,.slice AAj AAk AAl] 51 (0,0))) (CS λzn zo zp AB=>AF (x6+1)/\AR R (aD oM yM) n0 c0 p1 n1 c1 zn zo zp (x6+1) x7 AB))) (Br (0<x8) (Pq p1 λb85 o85=>In x7 (n1:Int)/\∃AR5 AR6 AR7 AR8 AR9 ASA,Af Z b85 (o85+x7.toNat*2) [.slice AR5 AR6 AR7,.slice AR8 AR9 ASA]/\AG 87 #[.agg #[.slice AR5 AR6 AR7,.slice AR8 AR9 ASA]] Z R (λz y=>∃ASB ASC ASD ASE ASF ASG,z=(.agg #[.slice ASB ASC ASD,.slice ASE ASF ASG])/\Al y λlF=>AJ prog (DV 23 p5 n5 c5 lF) (Hp.set y lF (.cells #[.slice ASB ASC ASD,.slice ASE ASF ASG] 51 (0,0))) (CS λp89 n89 c89 AB=>AF (x7+1)/\AR R p0 n0 c0 (aD b85 o85) n1 c1 p89 n89 c89 x6 (x7+1) AB))) (Pq p0 λA G=>In x6 (n0:Int)/\LS Z A (G+x6.toNat*2) λiJ n46 fS=>In x6 (n0:Int)/\LS Z A ((G+x6.toNat*2)+1) λp52 n52 c52=>Pq p1 λDC EM=>In x7 (n1:Int)/\LS Z DC ((EM+x7.toNat*2)+1) λzy n57 zz=>Al Z λC=>AJ prog (Builtin.append_ #[47,47] 47 #[(.slice (aD C 0) 0 0),.slice iJ n46 fS]) (Hp.set Z C (.cells #[] 71 (0,0))) (CS λp47 n47 c47 y=>Kp [DC,A] (Hp.set Z C (.cells #[] 71 (0,0))) y/\AG 88 #[.slice p52 n52 c52,.slice zy n57 zz] y R (CS λU7 U8 Wk AB=>Al AB λS5=>AJ prog (DV 23 p5 n5 c5 S5) (Hp.set AB S5 (.cells #[.slice p47 n47 c47,.slice U7 U8 Wk] 51 (0,0))) (CS λoR n61 oS AK=>AF (x6+1)/\AF (x7+1)/\AR R (aD A G) n0 c0 (aD DC EM) n1 c1 oR n61 oS (x6+1) (x7+1) AK)))))):IH R p0 n0 c0 p1 n1 c1 p5 n5 c5 x6 x7 x8 Z:=M.of h ok rfl
end DH
namespace GZ
variable {p0:Option Addr}{n0 c0:Nat}{x3:Int}
def M:Fw:=⟨prog,75,f75,[],[],false,[(4,12,true)],[],[(208,[(0,wL),(3,wI)])]⟩
def ok:M.Ok:=⟨AH.nil,mixed,func75,by kernel_rfl⟩
def E5:=M.pt 0
def start (h:E5 R p0 n0 c0 1 Z):Spec prog 75 #[.slice p0 n0 c0] Z R:=M.start h ok
def Ag (h:Br (x3<(n0:Int)) (Pq p0 λD1 A=>In x3 (n0:Int)/\LI .i64 Z D1 (A+x3.toNat*2) λN2=>AF (x3-1)/\In (x3-1) (n0:Int)/\LI .i64 Z D1 (A+Int.toNat (x3-1)*2) λIg=>Br (N2<=Ig) (R (.B false) Z) (AF (x3+1)/\E5 R (aD D1 A) n0 c0 (x3+1) Z)) (R (.returned (.bool (decide (0<(n0:Int))))) Z)):E5 R p0 n0 c0 x3 Z:=M.of h ok rfl
end GZ
namespace R6
variable {p0:Option Addr}{n0 c0:Nat}{s1:ByteArray}
def M:Fw:=⟨prog,90,f90,[89],[],false,[],[],[]⟩
def ok:M.Ok:=⟨.cons call89 (AH.nil),mixed,func90,by kernel_rfl⟩
def start (h:Df (IntKind.u64.wrap (s1.size:Int)) λx8=>AG 89 #[.slice p0 n0 c0,.U x8] Z R (CS λp9 n9 c9 y=>AJ prog (Builtin.append_ #[117,9] 117 #[.slice p9 n9 c9,.string s1]) y (CS λNk n11 Q3 A=>R (.returned (.slice Nk n11 Q3)) A))):Spec prog 90 #[.slice p0 n0 c0,.string s1] Z R:=M.start h ok
end R6
namespace II
variable {p0 p1:Option Addr}{n0 c0 n1 c1:Nat}{x5:Int}{t7:Bool}
def M:Fw:=⟨prog,104,f104,[145,146],[],false,[],[],[(208,[(0,wL),(1,wL),(5,wI)]),(6734,[(0,wL),(1,wL),(5,wI),(7,wB)])]⟩
def ok:M.Ok:=⟨.cons call145 (.cons call146 (AH.nil)),mixed,func104,by kernel_rfl⟩
def E5:=M.pt 0
def Wx:=M.pt 1
def start (h:E5 R p0 n0 c0 p1 n1 c1 0 Z):Spec prog 104 #[.slice p0 n0 c0,.slice p1 n1 c1] Z R:=M.start h ok
def Ag (h:Br (x5<(n0:Int)) (Pq p0 λC A=>In x5 (n0:Int)/\LT Z C ((A+x5.toNat*3)+1) λs19=>AG 145 #[.slice p1 n1 c1,.string s19] Z R (CT λG y=>In x5 (n0:Int)/\LI .i64 y C (A+x5.toNat*3) λKi=>Br (Ki=1) (In x5 (n0:Int)/\LT y C ((A+x5.toNat*3)+2) λs33=>Wx R (aD C A) n0 c0 p1 n1 c1 x5 (ByteArray.toList G==ByteArray.toList s33) y) (Br (Ki=2) (In x5 (n0:Int)/\LT y C ((A+x5.toNat*3)+2) λs42=>Wx R (aD C A) n0 c0 p1 n1 c1 x5 ((!(ByteArray.toList G==ByteArray.toList s42))) y) (Br (Ki=3) (In x5 (n0:Int)/\LT y C ((A+x5.toNat*3)+2) λs50=>AG 146 #[.string s50,.string G] y R (CB λt52 AB=>Wx R (aD C A) n0 c0 p1 n1 c1 x5 t52 AB)) (Br (Ki=4) (In x5 (n0:Int)/\LT y C ((A+x5.toNat*3)+2) λs59=>AG 146 #[.string s59,.string G] y R (CB λt61 AB=>Wx R (aD C A) n0 c0 p1 n1 c1 x5 (!t61) AB)) (Wx R (aD C A) n0 c0 p1 n1 c1 x5 false y)))))) (R (.B true) Z)):E5 R p0 n0 c0 p1 n1 c1 x5 Z:=M.of h ok rfl
def iK (h:Bn t7 (R (.B false) Z) (AF (x5+1)/\E5 R p0 n0 c0 p1 n1 c1 (x5+1) Z)):Wx R p0 n0 c0 p1 n1 c1 x5 t7 Z:=M.of h ok rfl
end II
namespace DD
variable {Ae A1 Bf Bh BM BS By BQ Q4 GO Gm UY Bi A6 Ct CZ C1 C2 BZ BX EI Ca CL Fy BC BD C3 LK LL LM x9 x10 x11:Int}{BW C4:ByteArray}{CJ B4 PI Q5 Rv UZ Cu C5 Hq EJ GY Fz BG C6 LN LO p8:Option Addr}{CD CK Bl B8 Nn PJ Q6 Q7 Rx Ry Ua Ub Cv Cw C7 C8 CM De EK EL Dp FR F0 F1 BH BI C9 DA LP LR LU LV n8 c8:Nat}{Bj Dd:Bool}
def M:Fw:=⟨prog,116,f116,[107,112,113,114,115],[3,4,5,6,7],false,[(6,9,true),(11,17,false),(13,18,false),(15,9,false)],[],[(976,[(3,.X 44 [.I .i64,.I .i64,.T,.L,.I .i64,.I .i64,.I .i64,.L,.B,.I .i64]),(4,.X 90 [.I .i64,.I .u64,.L,.I .i64,.L]),(5,.X 90 [.I .i64,.I .u64,.L,.I .i64,.L]),(6,.X 90 [.I .i64,.I .u64,.L,.I .i64,.L]),(7,.X 90 [.I .i64,.I .u64,.L,.I .i64,.L]),(8,wL),(9,wI)]),(31308,[(3,.X 44 [.I .i64,.I .i64,.T,.L,.I .i64,.I .i64,.I .i64,.L,.B,.I .i64]),(4,.X 90 [.I .i64,.I .u64,.L,.I .i64,.L]),(5,.X 90 [.I .i64,.I .u64,.L,.I .i64,.L]),(6,.X 90 [.I .i64,.I .u64,.L,.I .i64,.L]),(7,.X 90 [.I .i64,.I .u64,.L,.I .i64,.L]),(8,wL),(9,wI),(10,wU),(11,wU)]),(979,[(3,.X 44 [.I .i64,.I .i64,.T,.L,.I .i64,.I .i64,.I .i64,.L,.B,.I .i64]),(4,.X 90 [.I .i64,.I .u64,.L,.I .i64,.L]),(5,.X 90 [.I .i64,.I .u64,.L,.I .i64,.L]),(6,.X 90 [.I .i64,.I .u64,.L,.I .i64,.L]),(7,.X 90 [.I .i64,.I .u64,.L,.I .i64,.L]),(8,wL),(9,wI)])]⟩
def ok:M.Ok:=⟨.cons call107 (.cons call112 (.cons call113 (.cons call114 (.cons call115 (AH.nil))))),mixed,func116,by kernel_rfl⟩
def J6:=M.pt 0
def IH:=M.pt 1
def Yq:=M.pt 2
def start (h:∀b3:Nat,∀b4:Nat,∀b5:Nat,∀b6:Nat,∀b7:Nat,Al Z λD0=>AJ prog (Builtin.append_ #[87,87] 87 #[(.slice (aD D0 0) 0 0),.slice PI Nn PJ]) (Hp.set Z D0 (.cells #[] 94 (0,0))) (CS λkz n16 fQ y=>AJ prog (Builtin.append_ #[87,87] 87 #[.slice kz n16 fQ,.slice Rv Rx Ry]) y (CS λvh A G C=>J6 R Ae A1 BW CJ CD CK Bf Bh BM B4 Bl B8 Bj BS By BQ PI Nn PJ Q4 Q5 Q6 Q7 GO Gm Rv Rx Ry UY UZ Ua Ub 0 0 none 0 0 0 none 0 0 2 0 none 0 0 0 none 0 0 vh A G 0 C))):Spec prog 116 #[.agg #[.I Ae,.I A1,.string BW,.slice CJ CD CK,.I Bf,.I Bh,.I BM,.slice B4 Bl B8,.bool Bj,.I BS],.agg #[.I By,.U BQ,.slice PI Nn PJ,.I Q4,.slice Q5 Q6 Q7],.agg #[.I GO,.U Gm,.slice Rv Rx Ry,.I UY,.slice UZ Ua Ub]] Z R:=M.start h ok
def HX (h:Br (x9<(n8:Int)) (Pq p8 λA C=>In x9 (n8:Int)/\LI .u64 Z A ((C+x9.toNat*2)+1) λG=>Br (BZ=1) (In x9 (n8:Int)/\LI .u64 Z A ((C+x9.toNat*2)+1) λMA=>IH R Bi A6 C4 Cu Cv Cw Ct CZ C1 C5 C7 C8 Dd C2 BZ BX Hq CM De EI EJ EK EL Ca CL GY Dp FR Fy Fz F0 F1 BC BD BG BH BI C3 C6 C9 DA LK LL LN LP LR LM LO LU LV (aD A C) n8 c8 x9 BX MA Z) (IH R Bi A6 C4 Cu Cv Cw Ct CZ C1 C5 C7 C8 Dd C2 BZ BX Hq CM De EI EJ EK EL Ca CL GY Dp FR Fy Fz F0 F1 BC BD BG BH BI C3 C6 C9 DA LK LL LN LP LR LM LO LU LV (aD A C) n8 c8 x9 G CL Z)) (R (.returned (.agg #[.I LK,.U LL,.slice LN LP LR,.I LM,.slice LO LU LV])) Z)):J6 R Bi A6 C4 Cu Cv Cw Ct CZ C1 C5 C7 C8 Dd C2 BZ BX Hq CM De EI EJ EK EL Ca CL GY Dp FR Fy Fz F0 F1 BC BD BG BH BI C3 C6 C9 DA LK LL LN LP LR LM LO LU LV p8 n8 c8 x9 Z:=M.of5 h ok rfl λ_ _ _ _ _=>by kernel_rfl
def Io (h:AG 112 #[.I A6] Z R (CB λt46 y=>Bn t46 (Pq p8 λoO o52=>In x9 (n8:Int)/\LS y oO (o52+x9.toNat*2) λp54 n54 c54=>AG 107 #[.slice p54 n54 c54] y R (CS λp55 n55 c55 A=>AG 115 #[.I A6,.U x10,.U x11] A R (CI .u64 λqH C=>Al C λte=>AJ prog (DV 87 LN LP LR te) (Hp.set C te (.cells #[.slice p55 n55 c55,.U qH] 94 (0,0))) (CS λp63 n63 c63 AX=>Yq R Bi A6 C4 Cu Cv Cw Ct CZ C1 C5 C7 C8 Dd C2 BZ BX Hq CM De EI EJ EK EL Ca CL GY Dp FR Fy Fz F0 F1 BC BD BG BH BI C3 C6 C9 DA LK LL p63 n63 c63 LM LO LU LV (aD oO o52) n8 c8 x9 AX)))) (Bo Dd (Pq p8 λoM yM=>In x9 (n8:Int)/\LS y oM (yM+x9.toNat*2) λp74 n74 c74=>AG 107 #[.slice p74 n74 c74] y R (CS λp75 n75 c75 A=>AG 114 #[.I A6,.U x10,.U x11] A R (CB λt80 C=>AG 113 #[.bool t80] C R (CI .u64 λx81 AX=>Al AX λjw=>AJ prog (DV 87 LN LP LR jw) (Hp.set AX jw (.cells #[.slice p75 n75 c75,.U x81] 94 (0,0))) (CS λp84 n84 c84 DK=>Yq R Bi A6 C4 Cu Cv Cw Ct CZ C1 C5 C7 C8 true C2 BZ BX Hq CM De EI EJ EK EL Ca CL GY Dp FR Fy Fz F0 F1 BC BD BG BH BI C3 C6 C9 DA LK LL p84 n84 c84 LM LO LU LV (aD oM yM) n8 c8 x9 DK))))) (AG 114 #[.I A6,.U x10,.U x11] y R (CB λt91 A=>Bo t91 (Pq p8 λjn o96=>In x9 (n8:Int)/\∃G ASI ASJ Hb,Af A jn (o96+x9.toNat*2) [.slice G ASI ASJ,.U Hb]/\Al A λS6=>AJ prog (DV 87 LN LP LR S6) (Hp.set A S6 (.cells #[.slice G ASI ASJ,.U Hb] 94 (0,0))) (CS λiD n99 iE C=>Yq R Bi A6 C4 Cu Cv Cw Ct CZ C1 C5 C7 C8 false C2 BZ BX Hq CM De EI EJ EK EL Ca CL GY Dp FR Fy Fz F0 F1 BC BD BG BH BI C3 C6 C9 DA LK LL iD n99 iE LM LO LU LV (aD jn o96) n8 c8 x9 C)) (Yq R Bi A6 C4 Cu Cv Cw Ct CZ C1 C5 C7 C8 false C2 BZ BX Hq CM De EI EJ EK EL Ca CL GY Dp FR Fy Fz F0 F1 BC BD BG BH BI C3 C6 C9 DA LK LL LN LP LR LM LO LU LV p8 n8 c8 x9 A)))))):IH R Bi A6 C4 Cu Cv Cw Ct CZ C1 C5 C7 C8 Dd C2 BZ BX Hq CM De EI EJ EK EL Ca CL GY Dp FR Fy Fz F0 F1 BC BD BG BH BI C3 C6 C9 DA LK LL LN LP LR LM LO LU LV p8 n8 c8 x9 x10 x11 Z:=M.of5 h ok rfl λ_ _ _ _ _=>by kernel_rfl
def XU (h:AF (x9+1)/\J6 R Bi A6 C4 Cu Cv Cw Ct CZ C1 C5 C7 C8 Dd C2 BZ BX Hq CM De EI EJ EK EL Ca CL GY Dp FR Fy Fz F0 F1 BC BD BG BH BI C3 C6 C9 DA LK LL LN LP LR LM LO LU LV p8 n8 c8 (x9+1) Z):Yq R Bi A6 C4 Cu Cv Cw Ct CZ C1 C5 C7 C8 Dd C2 BZ BX Hq CM De EI EJ EK EL Ca CL GY Dp FR Fy Fz F0 F1 BC BD BG BH BI C3 C6 C9 DA LK LL LN LP LR LM LO LU LV p8 n8 c8 x9 Z:=M.of5 h ok rfl λ_ _ _ _ _=>by kernel_rfl
end DD
namespace Ah
variable {q0 Fm GG p2 Jq Lc BG JL p8 wD wY p47:Option Addr}{By BQ FN FO D9 ET BZ BX Ld JV Lf Mm BC BD jv LY iG UU:Int}{FP Mn:ByteArray}{Fo Fp Fq GH n2 c2 Jr Js Lg Lh BH BI JM JN n8 c8 n25 wE n12 tg n47 c47:Nat}{EU Mo:Bool}{v9:Value}
def M:Fw:=⟨prog,123,f123,[162,163,164],[4,6,11,14],false,[],[],[(488,[(2,wL),(4,.X 44 [.I .i64,.I .i64,.T,.L,.I .i64,.I .i64,.I .i64,.L,.B,.I .i64]),(6,.X 97 [.I .i64,.I .u64,.L,.L]),(8,wL),(9,wV),(25,wL),(26,wI),(27,wI)]),(2024,[(2,wL),(4,.X 44 [.I .i64,.I .i64,.T,.L,.I .i64,.I .i64,.I .i64,.L,.B,.I .i64]),(6,.X 97 [.I .i64,.I .u64,.L,.L]),(8,wL),(12,wL),(47,wL),(48,wI),(49,wI)]),(8103,[(2,wL),(4,.X 44 [.I .i64,.I .i64,.T,.L,.I .i64,.I .i64,.I .i64,.L,.B,.I .i64]),(6,.X 97 [.I .i64,.I .u64,.L,.L]),(8,wL),(12,wL),(47,wL),(48,wI),(49,wI)])]⟩
def ok:M.Ok:=⟨.cons call162 (.cons call163 (.cons call164 (AH.nil))),mixed,func123,by kernel_rfl⟩
def GX:=M.pt 0
def IH:=M.pt 1
def LX:=M.pt 2
def start (h:∀b4:Nat,∀b6:Nat,AJ prog (Instr.makeMap 201 none) Z (λz y=>∃A,z=(.map (some A))/\AJ prog (Instr.mapUpdate 201 (.map (some A)) (.I 11) (.func (.func 160) #[] #[])) y (λ_ AB=>AJ prog (Instr.mapUpdate 201 (.map (some A)) (.I 12) (.func (.func 161) #[] #[])) AB (λ_ AK=>AJ prog (Instr.lookup 201 (.map (some A)) (.I BQ) false) AK (λz G=>∃C,C=z/\Pq p2 λJc VA=>In 0 (n2:Int)/\LS G Jc (VA+2) λwD n25 wE=>GX R (aD Jc VA) n2 c2 By BQ FP Fm Fo Fp FN FO D9 GG Fq GH EU ET 0 0 none 0 0 none 0 0 none 0 0 C wD n25 wE (n25:Int) 0 G))))):Spec prog 123 #[.pointer q0,.agg #[.I By,.I BQ,.string FP,.slice Fm Fo Fp,.I FN,.I FO,.I D9,.slice GG Fq GH,.bool EU,.I ET],.slice p2 n2 c2] Z R:=M.start h ok
def Fv (h:Br (LY<jv) (Pq wD λLy S4=>In LY (n25:Int)/\∃A C G AAr,Af Z Ly (S4+LY.toNat*2) [.slice A C G,.U AAr]/\∀Bu:Nat,AG 162 #[.slice A C G] Z R (CS λp34 n34 c34 y=>∃(f38:Nat) (Km Kn:Array Value),v9=.func (.func f38) Km Kn/\Enters prog f38/\Spec prog f38 (Km++#[.U AAr]++Kn) y (BV R (CI .u64 λx38 AB=>Al AB λdV=>AJ prog (DV 54 p8 n8 c8 dV) (Hp.set AB dV (.cells #[.slice p34 n34 c34,.U x38] 59 (0,0))) (CS λp41 n41 qY AK=>AF (LY+1)/\GX R p2 n2 c2 BZ BX Mn Jq Jr Js Ld JV Lf Lc Lg Lh Mo Mm BC BD BG BH BI JL JM JN p41 n41 qY v9 (aD Ly S4) n25 wE jv (LY+1) AK))))) (AG 163 #[] Z R (CS λjq n43 jr y=>Pq p2 λyK yL=>In 0 (n2:Int)/\LS y yK (yL+3) λp47 n47 c47=>IH R (aD yK yL) n2 c2 BZ BX Mn Jq Jr Js Ld JV Lf Lc Lg Lh Mo Mm BC BD BG BH BI JL JM JN p8 n8 c8 jq n43 jr p47 n47 c47 (n47:Int) 0 y))):GX R p2 n2 c2 BZ BX Mn Jq Jr Js Ld JV Lf Lc Lg Lh Mo Mm BC BD BG BH BI JL JM JN p8 n8 c8 v9 wD n25 wE jv LY Z:=M.pn h ok rfl λ_ _=>by kernel_rfl
def Io (h:Br (UU<iG) (Pq p47 λA C=>In UU (n47:Int)/\∃ASK ASL ASM ASN ASO ASP,Af Z A (C+UU.toNat*2) [.slice ASK ASL ASM,.slice ASN ASO ASP]/\∀DL:Nat,Pq wY λRY G=>In BX (n12:Int)/\∃v58,Hp.ld Z ⟨RY,(G+BX.toNat*1),none⟩=some v58/\∃(f63:Nat) (Pe Pf:Array Value),v58=.func (.func f63) Pe Pf/\Enters prog f63/\Spec prog f63 (Pe++#[.slice ASN ASO ASP,.agg #[.I BZ,.I BX,.string Mn,.slice Jq Jr Js,.I Ld,.I JV,.I Lf,.slice Lc Lg Lh,.bool Mo,.I Mm],.slice p2 n2 c2]++Pf) Z (BV R (λz y=>∃ASQ ASR,z=(.tuple #[.U ASQ,.bool ASR])/\Bo ASR (AG 162 #[.slice ASK ASL ASM] y R (CS λp70 n70 c70 AB=>Al AB λb73=>AJ prog (DV 54 p8 n8 c8 b73) (Hp.set AB b73 (.cells #[.slice p70 n70 c70,.U ASQ] 59 (0,0))) (CS λp74 n74 c74 AK=>LX R p2 n2 c2 BZ BX Mn Jq Jr Js Ld JV Lf Lc Lg Lh Mo Mm BC BD BG BH BI JL JM JN p74 n74 c74 (aD RY G) n12 tg (aD A C) n47 c47 iG UU AK))) (LX R p2 n2 c2 BZ BX Mn Jq Jr Js Ld JV Lf Lc Lg Lh Mo Mm BC BD BG BH BI JL JM JN p8 n8 c8 (aD RY G) n12 tg (aD A C) n47 c47 iG UU y)))) (AG 164 #[.slice p8 n8 c8] Z R (λz y=>∃AIe AIf AIg AIh AIi AIj AIk AIl ASS,z=(.tuple #[.agg #[.I AIe,.U AIf,.slice AIg AIh AIi,.slice AIj AIk AIl],.I ASS])/\R (.T #[.agg #[.I AIe,.U AIf,.slice AIg AIh AIi,.slice AIj AIk AIl],.I ASS]) y))):IH R p2 n2 c2 BZ BX Mn Jq Jr Js Ld JV Lf Lc Lg Lh Mo Mm BC BD BG BH BI JL JM JN p8 n8 c8 wY n12 tg p47 n47 c47 iG UU Z:=M.pn h ok rfl λ_ _=>by kernel_rfl
def Jf (h:AF (UU+1)/\IH R p2 n2 c2 BZ BX Mn Jq Jr Js Ld JV Lf Lc Lg Lh Mo Mm BC BD BG BH BI JL JM JN p8 n8 c8 wY n12 tg p47 n47 c47 iG (UU+1) Z):LX R p2 n2 c2 BZ BX Mn Jq Jr Js Ld JV Lf Lc Lg Lh Mo Mm BC BD BG BH BI JL JM JN p8 n8 c8 wY n12 tg p47 n47 c47 iG UU Z:=M.pn h ok rfl λ_ _=>by kernel_rfl
end Ah
namespace FZ
variable {q0 Fm GG p2:Option Addr}{By BQ FN FO D9 ET:Int}{FP:ByteArray}{Fo Fp Fq GH n2 c2:Nat}{EU:Bool}
def M:Fw:=⟨prog,125,f125,[136,172,173,176,177],[6],false,[(1,9,false)],[],[]⟩
def ok:M.Ok:=⟨.cons call136 (.cons call172 (.cons call173 (.cons call176 (.cons call177 (AH.nil))))),mixed,func125,by kernel_rfl⟩
def start (h:Al Z λG=>∀b6:Nat,Pq p2 λD0 gw=>In 0 (n2:Int)/\∃MB vw AMG AMH AMI AMJ AMK AML,Af (Hp.set Z G (.cells #[.I By,.I BQ,.string FP,.slice Fm Fo Fp,.I FN,.I FO,.I D9,.slice GG Fq GH,.bool EU,.I ET] 44 (0,0))) D0 gw [.I MB,.U vw,.slice AMG AMH AMI,.slice AMJ AMK AML]/\In 1 (n2:Int)/\∃hZ wH AMM AMN AMO wJ wK wN,Af (Hp.set Z G (.cells #[.I By,.I BQ,.string FP,.slice Fm Fo Fp,.I FN,.I FO,.I D9,.slice GG Fq GH,.bool EU,.I ET] 44 (0,0))) D0 (gw+4) [.I hZ,.U wH,.slice AMM AMN AMO,.slice wJ wK wN]/\(Al (Hp.set Z G (.cells #[.I By,.I BQ,.string FP,.slice Fm Fo Fp,.I FN,.I FO,.I D9,.slice GG Fq GH,.bool EU,.I ET] 44 (0,0))) λb8=>Al (Hp.set (Hp.set Z G (.cells #[.I By,.I BQ,.string FP,.slice Fm Fo Fp,.I FN,.I FO,.I D9,.slice GG Fq GH,.bool EU,.I ET] 44 (0,0))) b8 (.cells #[.I 0,.U 0,.N,.N] 97 (0,0))) λb9=>AJ prog (Instr.storeAt 97 (.pointer (aD b8 0)) (.agg #[.I MB,.U vw,.slice AMG AMH AMI,.slice AMJ AMK AML])) (Hp.set (Hp.set (Hp.set Z G (.cells #[.I By,.I BQ,.string FP,.slice Fm Fo Fp,.I FN,.I FO,.I D9,.slice GG Fq GH,.bool EU,.I ET] 44 (0,0))) b8 (.cells #[.I 0,.U 0,.N,.N] 97 (0,0))) b9 (.cells #[.I 0,.U 0,.N,.N] 97 (0,0))) (λ_ y=>Kp [D0] (Hp.set (Hp.set (Hp.set Z G (.cells #[.I By,.I BQ,.string FP,.slice Fm Fo Fp,.I FN,.I FO,.I D9,.slice GG Fq GH,.bool EU,.I ET] 44 (0,0))) b8 (.cells #[.I 0,.U 0,.N,.N] 97 (0,0))) b9 (.cells #[.I 0,.U 0,.N,.N] 97 (0,0))) y/\AJ prog (Instr.storeAt 97 (.pointer (aD b9 0)) (.agg #[.I hZ,.U wH,.slice AMM AMN AMO,.slice wJ wK wN])) y (λ_ C=>LI .i64 C b8 0 λIg=>Br (Ig=1) (LI .i64 C b9 0 λJT=>Br (JT=1) (∃lK Yn AAs AAt AAu AAv AAw AAx AAy AAz AA0 AA1 AA2 AA3,Af C G 0 [.I lK,.I Yn,.string AAs,.slice AAt AAu AAv,.I AAw,.I AAx,.I AAy,.slice AAz AA0 AA1,.bool AA2,.I AA3]/\LI .u64 C b8 1 λLz=>LI .u64 C b9 1 λqW=>AG 172 #[.agg #[.I lK,.I Yn,.string AAs,.slice AAt AAu AAv,.I AAw,.I AAx,.I AAy,.slice AAz AA0 AA1,.bool AA2,.I AA3],.U Lz,.U qW] C R (λz A=>∃lL AA4,z=(.tuple #[.U lL,.bool AA4])/\R (.T #[.agg #[.I 1,.U lL,.N,.N],.I 0]) A)) (LI .i64 C b8 0 λjs=>Br (js=1) (∃Yr TY Ys Yt Yu Yv Yw Yx Yy Yz Y0 Y1 Y2 Y3,Af C G 0 [.I Yr,.I TY,.string Ys,.slice Yt Yu Yv,.I Yw,.I Yx,.I Yy,.slice Yz Y0 Y1,.bool Y2,.I Y3]/\LS C b9 2 λp45 n45 c45=>AG 173 #[.pointer q0,.agg #[.I Yr,.I TY,.string Ys,.slice Yt Yu Yv,.I Yw,.I Yx,.I Yy,.slice Yz Y0 Y1,.bool Y2,.I Y3],.slice p45 n45 c45,(.func (.func 174) #[] #[(.pointer (aD G 0)),(.pointer (aD b8 0))])] C R (λz A=>∃Pg Ph Pj Pk Pm Pn Po Pp Y4,z=(.tuple #[.agg #[.I Pg,.U Ph,.slice Pj Pk Pm,.slice Pn Po Pp],.I Y4])/\R (.T #[.agg #[.I Pg,.U Ph,.slice Pj Pk Pm,.slice Pn Po Pp],.I Y4]) A)) (LI .i64 C b9 0 λx52=>Br (x52=1) (∃Y5 Y6 Y7 Y8 Y9 aA aB aC aF aG aH aI aJ aK,Af C G 0 [.I Y5,.I Y6,.string Y7,.slice Y8 Y9 aA,.I aB,.I aC,.I aF,.slice aG aH aI,.bool aJ,.I aK]/\LS C b8 2 λzy n57 zz=>AG 173 #[.pointer q0,.agg #[.I Y5,.I Y6,.string Y7,.slice Y8 Y9 aA,.I aB,.I aC,.I aF,.slice aG aH aI,.bool aJ,.I aK],.slice zy n57 zz,(.func (.func 175) #[] #[(.pointer (aD G 0)),(.pointer (aD b9 0))])] C R (λz A=>∃Pr Ps Pu Pv Pw Px Py Pz PH,z=(.tuple #[.agg #[.I Pr,.U Ps,.slice Pu Pv Pw,.slice Px Py Pz],.I PH])/\R (.T #[.agg #[.I Pr,.U Ps,.slice Pu Pv Pw,.slice Px Py Pz],.I PH]) A)) (LI .i64 C G 1 λoN=>AG 136 #[.I oN] C R (CB λt65 A=>Bo t65 (∃aL aM aN aO aP aQ aR aS aT aU aV aW aX aY,Af A G 0 [.I aL,.I aM,.string aN,.slice aO aP aQ,.I aR,.I aS,.I aT,.slice aU aV aW,.bool aX,.I aY]/\LS A b8 2 λV9 n69 WA=>LS A b9 2 λp71 n71 c71=>AG 176 #[.pointer q0,.agg #[.I aL,.I aM,.string aN,.slice aO aP aQ,.I aR,.I aS,.I aT,.slice aU aV aW,.bool aX,.I aY],.slice V9 n69 WA,.slice p71 n71 c71] A R (λz AX=>∃P0 P1 P2 P3 P4 P5 P6 P7 Lx,z=(.tuple #[.agg #[.I P0,.U P1,.slice P2 P3 P4,.slice P5 P6 P7],.I Lx])/\R (.T #[.agg #[.I P0,.U P1,.slice P2 P3 P4,.slice P5 P6 P7],.I Lx]) AX)) (∃aZ VM ad ae af ah ai aj ak al ao aq au aw,Af A G 0 [.I aZ,.I VM,.string ad,.slice ae af ah,.I ai,.I aj,.I ak,.slice al ao aq,.bool au,.I aw]/\LS A b8 2 λyP wO yQ=>LS A b9 2 λp80 n80 c80=>AG 177 #[.pointer q0,.agg #[.I aZ,.I VM,.string ad,.slice ae af ah,.I ai,.I aj,.I ak,.slice al ao aq,.bool au,.I aw],.slice yP wO yQ,.slice p80 n80 c80] A R (λz AX=>∃P8 QA QB QC QD QE QF QG ax,z=(.tuple #[.agg #[.I P8,.U QA,.slice QB QC QD,.slice QE QF QG],.I ax])/\R (.T #[.agg #[.I P8,.U QA,.slice QB QC QD,.slice QE QF QG],.I ax]) AX))))))) (LI .i64 C b8 0 λjs=>Br (js=1) (∃Yr TY Ys Yt Yu Yv Yw Yx Yy Yz Y0 Y1 Y2 Y3,Af C G 0 [.I Yr,.I TY,.string Ys,.slice Yt Yu Yv,.I Yw,.I Yx,.I Yy,.slice Yz Y0 Y1,.bool Y2,.I Y3]/\LS C b9 2 λp45 n45 c45=>AG 173 #[.pointer q0,.agg #[.I Yr,.I TY,.string Ys,.slice Yt Yu Yv,.I Yw,.I Yx,.I Yy,.slice Yz Y0 Y1,.bool Y2,.I Y3],.slice p45 n45 c45,(.func (.func 174) #[] #[(.pointer (aD G 0)),(.pointer (aD b8 0))])] C R (λz A=>∃Pg Ph Pj Pk Pm Pn Po Pp Y4,z=(.tuple #[.agg #[.I Pg,.U Ph,.slice Pj Pk Pm,.slice Pn Po Pp],.I Y4])/\R (.T #[.agg #[.I Pg,.U Ph,.slice Pj Pk Pm,.slice Pn Po Pp],.I Y4]) A)) (LI .i64 C b9 0 λx52=>Br (x52=1) (∃Y5 Y6 Y7 Y8 Y9 aA aB aC aF aG aH aI aJ aK,Af C G 0 [.I Y5,.I Y6,.string Y7,.slice Y8 Y9 aA,.I aB,.I aC,.I aF,.slice aG aH aI,.bool aJ,.I aK]/\LS C b8 2 λzy n57 zz=>AG 173 #[.pointer q0,.agg #[.I Y5,.I Y6,.string Y7,.slice Y8 Y9 aA,.I aB,.I aC,.I aF,.slice aG aH aI,.bool aJ,.I aK],.slice zy n57 zz,(.func (.func 175) #[] #[(.pointer (aD G 0)),(.pointer (aD b9 0))])] C R (λz A=>∃Pr Ps Pu Pv Pw Px Py Pz PH,z=(.tuple #[.agg #[.I Pr,.U Ps,.slice Pu Pv Pw,.slice Px Py Pz],.I PH])/\R (.T #[.agg #[.I Pr,.U Ps,.slice Pu Pv Pw,.slice Px Py Pz],.I PH]) A)) (LI .i64 C G 1 λoN=>AG 136 #[.I oN] C R (CB λt65 A=>Bo t65 (∃aL aM aN aO aP aQ aR aS aT aU aV aW aX aY,Af A G 0 [.I aL,.I aM,.string aN,.slice aO aP aQ,.I aR,.I aS,.I aT,.slice aU aV aW,.bool aX,.I aY]/\LS A b8 2 λV9 n69 WA=>LS A b9 2 λp71 n71 c71=>AG 176 #[.pointer q0,.agg #[.I aL,.I aM,.string aN,.slice aO aP aQ,.I aR,.I aS,.I aT,.slice aU aV aW,.bool aX,.I aY],.slice V9 n69 WA,.slice p71 n71 c71] A R (λz AX=>∃P0 P1 P2 P3 P4 P5 P6 P7 Lx,z=(.tuple #[.agg #[.I P0,.U P1,.slice P2 P3 P4,.slice P5 P6 P7],.I Lx])/\R (.T #[.agg #[.I P0,.U P1,.slice P2 P3 P4,.slice P5 P6 P7],.I Lx]) AX)) (∃aZ VM ad ae af ah ai aj ak al ao aq au aw,Af A G 0 [.I aZ,.I VM,.string ad,.slice ae af ah,.I ai,.I aj,.I ak,.slice al ao aq,.bool au,.I aw]/\LS A b8 2 λyP wO yQ=>LS A b9 2 λp80 n80 c80=>AG 177 #[.pointer q0,.agg #[.I aZ,.I VM,.string ad,.slice ae af ah,.I ai,.I aj,.I ak,.slice al ao aq,.bool au,.I aw],.slice yP wO yQ,.slice p80 n80 c80] A R (λz AX=>∃P8 QA QB QC QD QE QF QG ax,z=(.tuple #[.agg #[.I P8,.U QA,.slice QB QC QD,.slice QE QF QG],.I ax])/\R (.T #[.agg #[.I P8,.U QA,.slice QB QC QD,.slice QE QF QG],.I ax]) AX)))))))))/\(Al (Hp.set Z G (.cells #[.I By,.I BQ,.string FP,.slice Fm Fo Fp,.I FN,.I FO,.I D9,.slice GG Fq GH,.bool EU,.I ET] 44 (0,0))) λb9=>Al (Hp.set (Hp.set Z G (.cells #[.I By,.I BQ,.string FP,.slice Fm Fo Fp,.I FN,.I FO,.I D9,.slice GG Fq GH,.bool EU,.I ET] 44 (0,0))) b9 (.cells #[.I 0,.U 0,.N,.N] 97 (0,0))) λb8=>AJ prog (Instr.storeAt 97 (.pointer (aD b8 0)) (.agg #[.I MB,.U vw,.slice AMG AMH AMI,.slice AMJ AMK AML])) (Hp.set (Hp.set (Hp.set Z G (.cells #[.I By,.I BQ,.string FP,.slice Fm Fo Fp,.I FN,.I FO,.I D9,.slice GG Fq GH,.bool EU,.I ET] 44 (0,0))) b9 (.cells #[.I 0,.U 0,.N,.N] 97 (0,0))) b8 (.cells #[.I 0,.U 0,.N,.N] 97 (0,0))) (λ_ y=>Kp [D0] (Hp.set (Hp.set (Hp.set Z G (.cells #[.I By,.I BQ,.string FP,.slice Fm Fo Fp,.I FN,.I FO,.I D9,.slice GG Fq GH,.bool EU,.I ET] 44 (0,0))) b9 (.cells #[.I 0,.U 0,.N,.N] 97 (0,0))) b8 (.cells #[.I 0,.U 0,.N,.N] 97 (0,0))) y/\AJ prog (Instr.storeAt 97 (.pointer (aD b9 0)) (.agg #[.I hZ,.U wH,.slice AMM AMN AMO,.slice wJ wK wN])) y (λ_ C=>LI .i64 C b8 0 λIg=>Br (Ig=1) (LI .i64 C b9 0 λJT=>Br (JT=1) (∃lK Yn AAs AAt AAu AAv AAw AAx AAy AAz AA0 AA1 AA2 AA3,Af C G 0 [.I lK,.I Yn,.string AAs,.slice AAt AAu AAv,.I AAw,.I AAx,.I AAy,.slice AAz AA0 AA1,.bool AA2,.I AA3]/\LI .u64 C b8 1 λLz=>LI .u64 C b9 1 λqW=>AG 172 #[.agg #[.I lK,.I Yn,.string AAs,.slice AAt AAu AAv,.I AAw,.I AAx,.I AAy,.slice AAz AA0 AA1,.bool AA2,.I AA3],.U Lz,.U qW] C R (λz A=>∃lL AA4,z=(.tuple #[.U lL,.bool AA4])/\R (.T #[.agg #[.I 1,.U lL,.N,.N],.I 0]) A)) (LI .i64 C b8 0 λjs=>Br (js=1) (∃Yr TY Ys Yt Yu Yv Yw Yx Yy Yz Y0 Y1 Y2 Y3,Af C G 0 [.I Yr,.I TY,.string Ys,.slice Yt Yu Yv,.I Yw,.I Yx,.I Yy,.slice Yz Y0 Y1,.bool Y2,.I Y3]/\LS C b9 2 λp45 n45 c45=>AG 173 #[.pointer q0,.agg #[.I Yr,.I TY,.string Ys,.slice Yt Yu Yv,.I Yw,.I Yx,.I Yy,.slice Yz Y0 Y1,.bool Y2,.I Y3],.slice p45 n45 c45,(.func (.func 174) #[] #[(.pointer (aD G 0)),(.pointer (aD b8 0))])] C R (λz A=>∃Pg Ph Pj Pk Pm Pn Po Pp Y4,z=(.tuple #[.agg #[.I Pg,.U Ph,.slice Pj Pk Pm,.slice Pn Po Pp],.I Y4])/\R (.T #[.agg #[.I Pg,.U Ph,.slice Pj Pk Pm,.slice Pn Po Pp],.I Y4]) A)) (LI .i64 C b9 0 λx52=>Br (x52=1) (∃Y5 Y6 Y7 Y8 Y9 aA aB aC aF aG aH aI aJ aK,Af C G 0 [.I Y5,.I Y6,.string Y7,.slice Y8 Y9 aA,.I aB,.I aC,.I aF,.slice aG aH aI,.bool aJ,.I aK]/\LS C b8 2 λzy n57 zz=>AG 173 #[.pointer q0,.agg #[.I Y5,.I Y6,.string Y7,.slice Y8 Y9 aA,.I aB,.I aC,.I aF,.slice aG aH aI,.bool aJ,.I aK],.slice zy n57 zz,(.func (.func 175) #[] #[(.pointer (aD G 0)),(.pointer (aD b9 0))])] C R (λz A=>∃Pr Ps Pu Pv Pw Px Py Pz PH,z=(.tuple #[.agg #[.I Pr,.U Ps,.slice Pu Pv Pw,.slice Px Py Pz],.I PH])/\R (.T #[.agg #[.I Pr,.U Ps,.slice Pu Pv Pw,.slice Px Py Pz],.I PH]) A)) (LI .i64 C G 1 λoN=>AG 136 #[.I oN] C R (CB λt65 A=>Bo t65 (∃aL aM aN aO aP aQ aR aS aT aU aV aW aX aY,Af A G 0 [.I aL,.I aM,.string aN,.slice aO aP aQ,.I aR,.I aS,.I aT,.slice aU aV aW,.bool aX,.I aY]/\LS A b8 2 λV9 n69 WA=>LS A b9 2 λp71 n71 c71=>AG 176 #[.pointer q0,.agg #[.I aL,.I aM,.string aN,.slice aO aP aQ,.I aR,.I aS,.I aT,.slice aU aV aW,.bool aX,.I aY],.slice V9 n69 WA,.slice p71 n71 c71] A R (λz AX=>∃P0 P1 P2 P3 P4 P5 P6 P7 Lx,z=(.tuple #[.agg #[.I P0,.U P1,.slice P2 P3 P4,.slice P5 P6 P7],.I Lx])/\R (.T #[.agg #[.I P0,.U P1,.slice P2 P3 P4,.slice P5 P6 P7],.I Lx]) AX)) (∃aZ VM ad ae af ah ai aj ak al ao aq au aw,Af A G 0 [.I aZ,.I VM,.string ad,.slice ae af ah,.I ai,.I aj,.I ak,.slice al ao aq,.bool au,.I aw]/\LS A b8 2 λyP wO yQ=>LS A b9 2 λp80 n80 c80=>AG 177 #[.pointer q0,.agg #[.I aZ,.I VM,.string ad,.slice ae af ah,.I ai,.I aj,.I ak,.slice al ao aq,.bool au,.I aw],.slice yP wO yQ,.slice p80 n80 c80] A R (λz AX=>∃P8 QA QB QC QD QE QF QG ax,z=(.tuple #[.agg #[.I P8,.U QA,.slice QB QC QD,.slice QE QF QG],.I ax])/\R (.T #[.agg #[.I P8,.U QA,.slice QB QC QD,.slice QE QF QG],.I ax]) AX))))))) (LI .i64 C b8 0 λjs=>Br (js=1) (∃Yr TY Ys Yt Yu Yv Yw Yx Yy Yz Y0 Y1 Y2 Y3,Af C G 0 [.I Yr,.I TY,.string Ys,.slice Yt Yu Yv,.I Yw,.I Yx,.I Yy,.slice Yz Y0 Y1,.bool Y2,.I Y3]/\LS C b9 2 λp45 n45 c45=>AG 173 #[.pointer q0,.agg #[.I Yr,.I TY,.string Ys,.slice Yt Yu Yv,.I Yw,.I Yx,.I Yy,.slice Yz Y0 Y1,.bool Y2,.I Y3],.slice p45 n45 c45,(.func (.func 174) #[] #[(.pointer (aD G 0)),(.pointer (aD b8 0))])] C R (λz A=>∃Pg Ph Pj Pk Pm Pn Po Pp Y4,z=(.tuple #[.agg #[.I Pg,.U Ph,.slice Pj Pk Pm,.slice Pn Po Pp],.I Y4])/\R (.T #[.agg #[.I Pg,.U Ph,.slice Pj Pk Pm,.slice Pn Po Pp],.I Y4]) A)) (LI .i64 C b9 0 λx52=>Br (x52=1) (∃Y5 Y6 Y7 Y8 Y9 aA aB aC aF aG aH aI aJ aK,Af C G 0 [.I Y5,.I Y6,.string Y7,.slice Y8 Y9 aA,.I aB,.I aC,.I aF,.slice aG aH aI,.bool aJ,.I aK]/\LS C b8 2 λzy n57 zz=>AG 173 #[.pointer q0,.agg #[.I Y5,.I Y6,.string Y7,.slice Y8 Y9 aA,.I aB,.I aC,.I aF,.slice aG aH aI,.bool aJ,.I aK],.slice zy n57 zz,(.func (.func 175) #[] #[(.pointer (aD G 0)),(.pointer (aD b9 0))])] C R (λz A=>∃Pr Ps Pu Pv Pw Px Py Pz PH,z=(.tuple #[.agg #[.I Pr,.U Ps,.slice Pu Pv Pw,.slice Px Py Pz],.I PH])/\R (.T #[.agg #[.I Pr,.U Ps,.slice Pu Pv Pw,.slice Px Py Pz],.I PH]) A)) (LI .i64 C G 1 λoN=>AG 136 #[.I oN] C R (CB λt65 A=>Bo t65 (∃aL aM aN aO aP aQ aR aS aT aU aV aW aX aY,Af A G 0 [.I aL,.I aM,.string aN,.slice aO aP aQ,.I aR,.I aS,.I aT,.slice aU aV aW,.bool aX,.I aY]/\LS A b8 2 λV9 n69 WA=>LS A b9 2 λp71 n71 c71=>AG 176 #[.pointer q0,.agg #[.I aL,.I aM,.string aN,.slice aO aP aQ,.I aR,.I aS,.I aT,.slice aU aV aW,.bool aX,.I aY],.slice V9 n69 WA,.slice p71 n71 c71] A R (λz AX=>∃P0 P1 P2 P3 P4 P5 P6 P7 Lx,z=(.tuple #[.agg #[.I P0,.U P1,.slice P2 P3 P4,.slice P5 P6 P7],.I Lx])/\R (.T #[.agg #[.I P0,.U P1,.slice P2 P3 P4,.slice P5 P6 P7],.I Lx]) AX)) (∃aZ VM ad ae af ah ai aj ak al ao aq au aw,Af A G 0 [.I aZ,.I VM,.string ad,.slice ae af ah,.I ai,.I aj,.I ak,.slice al ao aq,.bool au,.I aw]/\LS A b8 2 λyP wO yQ=>LS A b9 2 λp80 n80 c80=>AG 177 #[.pointer q0,.agg #[.I aZ,.I VM,.string ad,.slice ae af ah,.I ai,.I aj,.I ak,.slice al ao aq,.bool au,.I aw],.slice yP wO yQ,.slice p80 n80 c80] A R (λz AX=>∃P8 QA QB QC QD QE QF QG ax,z=(.tuple #[.agg #[.I P8,.U QA,.slice QB QC QD,.slice QE QF QG],.I ax])/\R (.T #[.agg #[.I P8,.U QA,.slice QB QC QD,.slice QE QF QG],.I ax]) AX)))))))))):Spec prog 125 #[.pointer q0,.agg #[.I By,.I BQ,.string FP,.slice Fm Fo Fp,.I FN,.I FO,.I D9,.slice GG Fq GH,.bool EU,.I ET],.slice p2 n2 c2] Z R:=M.start h ok
end FZ
namespace I2
variable {Ae A1 Bf Bh BM BS By BQ FN FO D9 ET x7 x8:Int}{BW FP:ByteArray}{CJ B4 Fm GG p6:Option Addr}{CD CK Bl B8 Fo Fp Fq GH n6 c6:Nat}{Bj EU:Bool}
def M:Fw:=⟨prog,129,f129,[134],[1],false,[],[],[(104,[(1,.X 44 [.I .i64,.I .i64,.T,.L,.I .i64,.I .i64,.I .i64,.L,.B,.I .i64]),(6,wL),(7,wI),(8,wI)])]⟩
def ok:M.Ok:=⟨.cons call134 (AH.nil),mixed,func129,by kernel_rfl⟩
def Sc:=M.pt 0
def start (h:∀b1:Nat,Sc R Ae A1 BW CJ CD CK Bf Bh BM B4 Bl B8 Bj BS B4 Bl B8 (Bl:Int) 0 Z):Spec prog 129 #[.agg #[.I Ae,.I A1,.string BW,.slice CJ CD CK,.I Bf,.I Bh,.I BM,.slice B4 Bl B8,.bool Bj,.I BS]] Z R:=M.start h ok
def FY (h:Br (x8<x7) (Pq p6 λE2 A=>In x8 (n6:Int)/\LT Z E2 (A+x8.toNat*1) λs11=>AG 134 #[.string s11] Z R (CB λt13 y=>Bn t13 (R (.B false) y) (AF (x8+1)/\Sc R By BQ FP Fm Fo Fp FN FO D9 GG Fq GH EU ET (aD E2 A) n6 c6 x7 (x8+1) y))) (Br ((Fq:Int)=0) (R (.B true) Z) (R (.returned (.bool (decide (D9≠0)))) Z))):Sc R By BQ FP Fm Fo Fp FN FO D9 GG Fq GH EU ET p6 n6 c6 x7 x8 Z:=M.oJ h ok rfl λ_=>by kernel_rfl
end I2
namespace ay
variable {s0:ByteArray}
def M:Fw:=⟨prog,134,f134,[118],[],false,[],[],[]⟩
def ok:M.Ok:=⟨.cons call118 (AH.nil),mixed,func134,by kernel_rfl⟩
def start (h:AG 118 #[.string s0] Z R (CB λt4 y=>R (.B t4) y)):Spec prog 134 #[.string s0] Z R:=M.start h ok
end ay
namespace Sd
variable {v0:Value}
def M:Fw:=⟨prog,148,f148,[],[],false,[],[],[]⟩
def ok:M.Ok:=⟨AH.nil,mixed,func148,by kernel_rfl⟩
def start (h:EN prog 184 #[v0] Z (λz y=>∃x4,(Value.float .f64 x4)=z/\R (.returned (Value.float .f64 x4)) y)):Spec prog 148 #[v0] Z R:=M.HU h ok [(0,.o (.V v0))] rfl rfl (by kernel_rfl)
end Sd
namespace WB
variable {s0:ByteArray}
def M:Fw:=⟨prog,156,f156,[188,189,190],[],false,[],[],[]⟩
def ok:M.Ok:=⟨.cons call188 (.cons call189 (.cons call190 (AH.nil))),mixed,func156,by kernel_rfl⟩
def start (h:AG 188 #[.string s0] Z R (CB λt7 y=>Bn t7 (R (.T #[.U 0,.bool false]) y) (AG 189 #[.string s0,.I 64] y R (λz C=>∃A wG,z=(.tuple #[A,wG])/\AG 190 #[A] C R (CI .u64 λx15 G=>R (.T #[.U x15,.bool true]) G))))):Spec prog 156 #[.string s0] Z R:=M.start h ok
end WB
namespace QH
def M:Fw:=⟨prog,163,f163,[199,203],[],false,[],[],[]⟩
def ok:M.Ok:=⟨.cons call199 (.cons call203 (AH.nil)),mixed,func163,by kernel_rfl⟩
def start (h:AG 199 #[(.func (.func 167) #[] #[])] Z R (λz y=>∃f1 A c1,(Value.func f1 A c1)=z/\AG 199 #[(.func (.func 170) #[] #[])] y R (λz AB=>∃f2 C c2,(Value.func f2 C c2)=z/\AG 199 #[(.func (.func 168) #[] #[])] AB R (λz AK=>∃f3 G c3,(Value.func f3 G c3)=z/\AG 199 #[(.func (.func 169) #[] #[])] AK R (λz AX=>∃f4 a4 c4,(Value.func f4 a4 c4)=z/\AG 199 #[(.func (.func 171) #[] #[])] AX R (λz DK=>∃f5 a5 c5,(Value.func f5 a5 c5)=z/\AG 199 #[(.func (.func 200) #[] #[])] DK R (λz GK=>∃f6 a6 c6,(Value.func f6 a6 c6)=z/\AG 199 #[(.func (.func 202) #[] #[])] GK R (λz RR=>∃f7 a7 c7,(Value.func f7 a7 c7)=z/\AG 203 #[(.func (.func 204) #[] #[])] RR R (λz YG=>∃f8 a8 c8,(Value.func f8 a8 c8)=z/\AG 203 #[(.func (.func 206) #[] #[])] YG R (λz fG=>∃f9 a9 c9,(Value.func f9 a9 c9)=z/\AG 203 #[(.func (.func 208) #[] #[])] fG R (λz dM=>∃f10 a10 MF,(Value.func f10 a10 MF)=z/\Al dM λBu=>R (.returned (.slice (aD Bu 0) 11 11)) (Hp.set dM Bu (.cells #[.nilFunc,(Value.func f10 a10 MF),(Value.func f9 a9 c9),(Value.func f8 a8 c8),(Value.func f1 A c1),(Value.func f2 C c2),(Value.func f3 G c3),(Value.func f4 a4 c4),(Value.func f5 a5 c5),(Value.func f6 a6 c6),(Value.func f7 a7 c7)] 205 (0,0)))))))))))))):Spec prog 163 #[] Z R:=M.start h ok
end QH
end TwW
end
end
section
set_option maxRecDepth 100000
noncomputable section
namespace TwW
open Go Tw Go.Proofs.Tryz
variable [HL]{R:Rr}{Z:Hp}

namespace I3
variable {p0 Nk:Option Addr}{n0 c0 n11 Q3:Nat}{x3 x12 DB:Int}
def M:Fw:=⟨prog,167,f167,[201,216],[],false,[],[],[(232,[(3,wU),(11,wL),(12,wI),(13,wI)])]⟩
def ok:M.Ok:=⟨.cons call201 (.cons call216 (AH.nil)),mixed,func167,by kernel_rfl⟩
def B9:=M.pt 0
def start (h:Pq p0 λA C=>In 0 (n0:Int)/\LI .u64 Z A C λx8=>AG 201 #[.U x8] Z R (CI .u64 λx9 y=>((0:Int)<=1/\1<=(n0:Int))/\B9 R x9 ((Mp (aD A C) (1) c0 1)) (n0-1) (c0-1) ((((n0-1):Nat):Int)) 0 y)):Spec prog 167 #[.slice p0 n0 c0] Z R:=M.start h ok
def As (h:Br (DB<x12) (Pq Nk λA C=>In DB (n11:Int)/\LI .u64 Z A (C+DB.toNat*1) λx16=>AG 216 #[.U x3,.U x16] Z R (CI .u64 λGI y=>AF (DB+1)/\B9 R GI (aD A C) n11 Q3 x12 (DB+1) y)) (R (.returned (.U x3)) Z)):B9 R x3 Nk n11 Q3 x12 DB Z:=M.of h ok rfl
end I3
namespace Ga
variable {p0:Option Addr}{n0 c0:Nat}
def M:Fw:=⟨prog,169,f169,[217],[],false,[],[],[]⟩
def ok:M.Ok:=⟨.cons call217 (AH.nil),mixed,func169,by kernel_rfl⟩
def start (h:AG 217 #[.I 9,.slice p0 n0 c0] Z R (CI .u64 λx4 y=>R (.returned (.U x4)) y)):Spec prog 169 #[.slice p0 n0 c0] Z R:=M.start h ok
end Ga
namespace Hd
variable {p0:Option Addr}{n0 c0:Nat}
def M:Fw:=⟨prog,170,f170,[167,171,209],[],false,[],[],[]⟩
def ok:M.Ok:=⟨.cons call167 (.cons call171 (.cons call209 (AH.nil))),mixed,func170,by kernel_rfl⟩
def start (h:AG 167 #[.slice p0 n0 c0] Z R (CI .u64 λx4 y=>AG 171 #[.slice p0 n0 c0] y R (CI .u64 λx6 A=>AG 209 #[.U x4,.U x6] A R (CI .u64 λx7 C=>R (.returned (.U x7)) C)))):Spec prog 170 #[.slice p0 n0 c0] Z R:=M.start h ok
end Hd
namespace TZ
variable {s0:ByteArray}
def M:Fw:=⟨prog,180,f180,[],[],false,[],[],[]⟩
def ok:M.Ok:=⟨AH.nil,mixed,func180,by kernel_rfl⟩
def start (h:Br ((1:Int)<(s0.size:Int)) (∃A:UInt8,(0:Int)<=0/\(ByteArray.data s0)[Int.toNat 0]?=some A/\R (.returned (.bool (decide (((A.toNat:Int):Int)=48)))) Z) (R (.B false) Z)):Spec prog 180 #[.string s0] Z R:=M.start h ok
end TZ
namespace R7
variable {Ae A1 x1:Int}
def M:Fw:=⟨prog,192,f192,[],[2],false,[],[],[]⟩
def ok:M.Ok:=⟨AH.nil,mixed,func192,by kernel_rfl⟩
def start (h:∀b2:Nat,Br (Ae<=x1) (R (.returned (.I (-1))) Z) (R (.returned (.I 1)) Z)):Spec prog 192 #[.agg #[.I Ae,.U A1],.I x1] Z R:=M.start h ok
end R7
namespace Gb
variable {s0:ByteArray}{p2 p3 p7:Option Addr}{n2 c2 n3 c3 n7 c7:Nat}{x8 x9:Int}
def M:Fw:=⟨prog,195,f195,[235],[2,3],false,[(5,8,false)],[],[(232,[(2,.X 235 [.L]),(3,.X 235 [.L]),(7,wL),(8,wI),(9,wI)])]⟩
def ok:M.Ok:=⟨.cons call235 (AH.nil),mixed,func195,by kernel_rfl⟩
def B9:=M.pt 0
def start (h:∀b2:Nat,∀b3:Nat,AG 235 #[.string s0,(.string (ByteArray.mk #[124]))] Z R (CS λp7 n7 c7 y=>B9 R none 0 0 none 0 0 p7 n7 c7 (n7:Int) 0 y)):Spec prog 195 #[.string s0] Z R:=M.start h ok
def As (h:Br (x9<x8) (Pq p7 λBu km=>In x9 (n7:Int)/\LT Z Bu (km+x9.toNat*1) λC=>AG 235 #[.string C,(.string (ByteArray.mk #[42]))] Z R (CS λkz n16 fQ y=>Al y λG=>AJ prog (DV 233 p3 n3 c3 G) (Hp.set y G (.cells #[.slice kz n16 fQ] 260 (0,0))) (CS λvh A pq AB=>AF (x9+1)/\B9 R p2 n2 c2 vh A pq (aD Bu km) n7 c7 x8 (x9+1) AB))) (R (.returned (.agg #[.slice p3 n3 c3])) Z)):B9 R p2 n2 c2 p3 n3 c3 p7 n7 c7 x8 x9 Z:=M.pn h ok rfl λ_ _=>by kernel_rfl
end Gb
namespace MH
variable {p0 p7:Option Addr}{n0 c0 n7 c7:Nat}{s1:ByteArray}{x8 x9:Int}
def M:Fw:=⟨prog,196,f196,[],[6],false,[],[],[(104,[(1,wT),(7,wL),(8,wI),(9,wI)])]⟩
def ok:M.Ok:=⟨AH.nil,mixed,func196,by kernel_rfl⟩
def Sc:=M.pt 0
def start (h:Sc R s1 p0 n0 c0 (n0:Int) 0 Z):Spec prog 196 #[.slice p0 n0 c0,.string s1] Z R:=M.start h ok
def FY (h:Br (x9<x8) (Pq p7 λBu G=>In x9 (n7:Int)/\∃A C,Af Z Bu (G+x9.toNat*2) [.string A,.string C]/\∀b6:Nat,Bo (ByteArray.toList A==ByteArray.toList s1) (R (.returned (.string C)) Z) (AF (x9+1)/\Sc R s1 (aD Bu G) n7 c7 x8 (x9+1) Z)) (R (.returned (.string (ByteArray.mk #[]))) Z)):Sc R s1 p7 n7 c7 x8 x9 Z:=M.of h ok rfl
end MH
namespace EW
variable {f0:Fn}{a0 c0:Array Value}
def M:Fw:=⟨prog,199,f199,[],[],false,[],[],[]⟩
def ok:M.Ok:=⟨AH.nil,mixed,func199,by kernel_rfl⟩
def start (h:Al Z λb1=>R (.returned (.func (.func 236) #[] #[(.pointer (aD b1 0))])) (Hp.set Z b1 (.cells #[(Value.func f0 a0 c0)] 211 (0,0)))):Spec prog 199 #[(Value.func f0 a0 c0)] Z R:=M.HU h ok [(0,.o (.V (Value.func f0 a0 c0)))] rfl rfl (by kernel_rfl)
end EW
namespace WC
variable {x0:Int}
def M:Fw:=⟨prog,201,f201,[190,198],[],false,[],[],[]⟩
def ok:M.Ok:=⟨.cons call190 (.cons call198 (AH.nil)),mixed,func201,by kernel_rfl⟩
def start (h:AG 198 #[.U x0] Z R (λz y=>∃x4,(Value.float .f64 x4)=z/\AG 190 #[(Value.float .f64 x4)] y R (CI .u64 λx5 A=>R (.returned (.U x5)) A))):Spec prog 201 #[.U x0] Z R:=M.start h ok
end WC
namespace He
variable {V1:Option Addr}{Nu UW:Nat}{oL s1:ByteArray}
def M:Fw:=⟨prog,232,f232,[],[2],false,[],[],[]⟩
def ok:M.Ok:=⟨AH.nil,mixed,func232,by kernel_rfl⟩
def start (h:∀b2:Nat,R (.returned (.bool (!(ByteArray.toList s1==ByteArray.toList oL)))) Z):Spec prog 232 #[.agg #[.slice V1 Nu UW,.string oL],.string s1] Z R:=M.start h ok
end He
namespace Ip
variable {p0 Fm GG p2:Option Addr}{n0 c0 Fo Fp Fq GH n2 c2 b3:Nat}{By BQ FN FO D9 ET:Int}{FP:ByteArray}{EU:Bool}
def M:Fw:=⟨prog,236,f236,[],[5],false,[],[],[]⟩
def ok:M.Ok:=⟨AH.nil,mixed,func236,by kernel_rfl⟩
def start (h:∀b5:Nat,∃v9,Hp.ld Z ⟨b3,0,none⟩=some v9/\∃(f11:Nat) (A C:Array Value),v9=.func (.func f11) A C/\Enters prog f11/\Spec prog f11 (A++#[.slice p0 n0 c0]++C) Z (BV R (CI .u64 λx11 y=>R (.T #[.U x11,.bool true]) y))):Spec prog 236 #[.slice p0 n0 c0,.agg #[.I By,.I BQ,.string FP,.slice Fm Fo Fp,.I FN,.I FO,.I D9,.slice GG Fq GH,.bool EU,.I ET],.slice p2 n2 c2,(.pointer (aD b3 0))] Z R:=M.start h ok
end Ip
namespace Fa
variable {V1 p64:Option Addr}{Nu UW n64 c64:Nat}{s1:ByteArray}{x65 wP:Int}
def M:Fw:=⟨prog,268,f268,[271,290,291],[2],false,[(1,14,true)],[],[(2024,[(1,wT),(64,wL),(65,wI),(66,wI)])]⟩
def ok:M.Ok:=⟨.cons call271 (.cons call290 (.cons call291 (AH.nil))),mixed,func268,by kernel_rfl⟩
def Nw:=M.pt 0
def start (h:∀b2:Nat,Pq V1 λD1 VJ=>In 0 (Nu:Int)/\LT Z D1 VJ λA=>AF ((Nu:Int)-1)/\In (((Nu:Int)-1)) (Nu:Int)/\LT Z D1 (VJ+Int.toNat ((Nu:Int)-1)*1) λC=>Br ((Nu:Int)=1) (R (.returned (.bool (ByteArray.toList s1==ByteArray.toList A))) Z) (AF ((A.size:Int)+(C.size:Int))/\Br (((s1.size:Int):Int)<((A.size:Int)+(C.size:Int))) (R (.B false) Z) (AG 290 #[.string s1,.string A] Z R (CB λt40 y=>Bn t40 (R (.B false) y) (AG 291 #[.string s1,.string C] y R (CB λt46 AB=>Bn t46 (R (.B false) AB) (AF ((s1.size:Int)-(C.size:Int))/\∃G,YF prog (Instr.sliceAt 9 (.string s1) (some (.I (A.size:Int))) (some (.I ((s1.size:Int)-(C.size:Int)))) none) AB (.string G)/\AF ((Nu:Int)-1)/\((0:Int)<=1/\1<=((Nu:Int)-1)/\((Nu:Int)-1)<=(UW:Int))/\Nw R G ((Mp (aD D1 VJ) (1) UW 1)) ((Int.toNat ((Nu:Int)-1)-1)) (UW-1) ((((Int.toNat ((Nu:Int)-1)-1):Nat):Int)) 0 AB))))))):Spec prog 268 #[.agg #[.slice V1 Nu UW],.string s1] Z R:=M.start h ok
def NH (h:Br (wP<x65) (Pq p64 λC G=>In wP (n64:Int)/\LT Z C (G+wP.toNat*1) λA=>AG 271 #[.string s1,.string A] Z R (CI .i64 λyN y=>Br (yN<0) (R (.B false) y) (AF (yN+(A.size:Int))/\∃s80,YF prog (Instr.sliceAt 9 (.string s1) (some (.I (yN+(A.size:Int)))) none none) y (.string s80)/\AF (wP+1)/\Nw R s80 (aD C G) n64 c64 x65 (wP+1) y))) (R (.B true) Z)):Nw R s1 p64 n64 c64 x65 wP Z:=M.of h ok rfl
end Fa
end TwW
end
end
section
set_option maxRecDepth 100000
noncomputable section
namespace TwW
open Go Tw Go.Proofs.Tryz
variable [HL]{R:Rr}{Z:Hp}

namespace Fb
variable {p0 p3:Option Addr}{n0 c0 n3 c3:Nat}{x4:Int}
def M:Fw:=⟨prog,6,f6,[21,22],[5],false,[],[],[(464,[(0,wL),(3,wL),(4,wI)])]⟩
def ok:M.Ok:=⟨.cons call21 (.cons call22 (AH.nil)),mixed,func6,by kernel_rfl⟩
def AR:=M.pt 0
def start (h:AR R p0 n0 c0 none 0 0 0 Z):Spec prog 6 #[.slice p0 n0 c0] Z R:=M.start h ok
def AM (h:Br (x4<(n0:Int)) (Pq p0 λDL Wq=>In x4 (n0:Int)/\∃A qb C G ASX ASY ASZ ASa ASb ASc ASd ASe ASf ASg,Af Z DL (Wq+x4.toNat*10) [.I A,.I qb,.string C,.slice G ASX ASY,.I ASZ,.I ASa,.I ASb,.slice ASc ASd ASe,.bool ASf,.I ASg]/\∀b5:Nat,AG 21 #[.slice G ASX ASY] Z R (CS λp18 n18 c18 y=>AG 22 #[.slice ASc ASd ASe] y R (CS λfH n22 cz AB=>Al AB λXT=>AJ prog (DV 22 p3 n3 c3 XT) (Hp.set AB XT (.cells #[.I A,.I qb,.string C,.slice p18 n18 c18,.I ASZ,.I ASa,.I ASb,.slice fH n22 cz,.bool ASf,.I ASg] 44 (0,0))) (CS λyJ n27 po AK=>AF (x4+1)/\AR R (aD DL Wq) n0 c0 yJ n27 po (x4+1) AK)))) (R (.returned (.slice p3 n3 c3)) Z)):AR R p0 n0 c0 p3 n3 c3 x4 Z:=M.of h ok rfl
end Fb
namespace Dk
variable {p0 TF AbV AbW:Option Addr}{n0 c0 n21 RS AbX AbY AbZ Aba:Nat}{x7 x8 Li E3 Abb qc Abc AFu Abd Abe x12:Int}{t9 Abf:Bool}{Abg:ByteArray}
def M:Fw:=⟨prog,9,f9,[28],[11],false,[],[],[(488,[(7,wI),(8,wI),(9,wB),(21,wL),(22,wI),(23,wI)]),(1959,[(7,wI),(8,wI),(9,wB),(21,wL),(22,wI),(23,wI)]),(125342,[(7,wI),(8,wI),(9,wB),(11,.X 44 [.I .i64,.I .i64,.T,.L,.I .i64,.I .i64,.I .i64,.L,.B,.I .i64]),(12,wI),(21,wL),(22,wI),(23,wI)]),(250687,[(7,wI),(8,wI),(21,wL),(22,wI),(23,wI)])]⟩
def ok:M.Ok:=⟨.cons call28 (AH.nil),mixed,func9,by kernel_rfl⟩
def AMX:=M.pt 0
def AMY:=M.pt 1
def AA9:=M.pt 2
def LJ:=M.pt 3
def start (h:AG 28 #[.slice p0 n0 c0] Z R (λz y=>∃C G A,z=(.tuple #[.I C,.I G,.I A])/\Br (A≠0) (R (.T #[.I 0,.I 0]) y) (AMX R 0 0 false p0 n0 c0 (n0:Int) 0 y))):Spec prog 9 #[.slice p0 n0 c0] Z R:=M.start h ok
def iL (h:Br (E3<Li) (Pq TF λIG Q8=>In E3 (n21:Int)/\∃G iM iN iO iP iQ A C iR iS iT iU az bA,Af Z IG (Q8+E3.toNat*10) [.I G,.I iM,.string iN,.slice iO iP iQ,.I A,.I C,.I iR,.slice iS iT iU,.bool az,.I bA]/\∀Bu:Nat,Br (G≠2) (Br (G≠3) (AMY R x7 x8 t9 (aD IG Q8) n21 RS Li E3 Z) (AF (C+A)/\Br (G=2) (AF ((C+A)+300)/\AA9 R x7 x8 t9 G iM iN iO iP iQ A C iR iS iT iU az bA (((C+A)+300)) (aD IG Q8) n21 RS Li E3 Z) (AA9 R x7 x8 t9 G iM iN iO iP iQ A C iR iS iT iU az bA (C+A) (aD IG Q8) n21 RS Li E3 Z))) (AF (C+A)/\Br (G=2) (AF ((C+A)+300)/\AA9 R x7 x8 t9 G iM iN iO iP iQ A C iR iS iT iU az bA (((C+A)+300)) (aD IG Q8) n21 RS Li E3 Z) (AA9 R x7 x8 t9 G iM iN iO iP iQ A C iR iS iT iU az bA (C+A) (aD IG Q8) n21 RS Li E3 Z))) (R (.T #[.I x7,.I x8]) Z)):AMX R x7 x8 t9 TF n21 RS Li E3 Z:=M.of h ok rfl
def th (h:AF (E3+1)/\AMX R x7 x8 t9 TF n21 RS Li (E3+1) Z):AMY R x7 x8 t9 TF n21 RS Li E3 Z:=M.of h ok rfl
def AFv (h:Bn t9 (LJ R (if x7<x12 then x12 else x7) AFu TF n21 RS Li E3 Z) (Br (AFu<x8) (LJ R (if x7<x12 then x12 else x7) AFu TF n21 RS Li E3 Z) (LJ R (if x7<x12 then x12 else x7) x8 TF n21 RS Li E3 Z))):AA9 R x7 x8 t9 Abb qc Abg AbV AbX AbY Abc AFu Abd AbW AbZ Aba Abf Abe x12 TF n21 RS Li E3 Z:=M.oJ h ok rfl λ_=>by kernel_rfl
def M3 (h:AMY R x7 x8 true TF n21 RS Li E3 Z):LJ R x7 x8 TF n21 RS Li E3 Z:=M.of h ok rfl
end Dk
namespace Ay
variable {p0:Option Addr}{n0 c0:Nat}{x3 x4:Int}
def M:Fw:=⟨prog,18,f18,[43,44],[],false,[(9,20,true)],[],[(208,[(0,wL),(3,wI)]),(26928,[(0,wL),(3,wI),(4,wI)])]⟩
def ok:M.Ok:=⟨.cons call43 (.cons call44 (AH.nil)),mixed,func18,by kernel_rfl⟩
def E5:=M.pt 0
def Nx:=M.pt 1
def start (h:E5 R p0 n0 c0 0 Z):Spec prog 18 #[.slice p0 n0 c0] Z R:=M.start h ok
def Ag (h:Br (x3<(n0:Int)) (Pq p0 λD0 A=>In x3 (n0:Int)/\LS Z D0 (A+x3.toNat*2) λoT n15 iV=>AG 43 #[.slice oT n15 iV] Z R (CI .i64 λx16 y=>Br (x16≠0) (R (.returned (.I 100)) y) (In x3 (n0:Int)/\LS y D0 ((A+x3.toNat*2)+1) λpr G pz=>Br ((G:Int)=0) (R (.returned (.I 100)) y) (Br (0<x3) (AF (x3-1)/\In (x3-1) (n0:Int)/\LS y D0 (A+Int.toNat (x3-1)*2) λp36 n36 C=>In x3 (n0:Int)/\LS y D0 (A+x3.toNat*2) λp41 n41 qY=>AG 44 #[.slice p36 n36 C,.slice p41 n41 qY] y R (CI .i64 λMA AB=>Br (0<=MA) (R (.returned (.I 100)) AB) (Nx R (aD D0 A) n0 c0 x3 1 AB))) (Nx R (aD D0 A) n0 c0 x3 1 y))))) (R (.returned (.I 0)) Z)):E5 R p0 n0 c0 x3 Z:=M.of h ok rfl
def Jg (h:Pq p0 λC A=>In x3 (n0:Int)/\LS Z C ((A+x3.toNat*2)+1) λp51 G c51=>Br (x4<(G:Int)) (In x3 (n0:Int)/\LS Z C ((A+x3.toNat*2)+1) λp60 n60 c60=>Pq p60 λte o62=>In x4 (n60:Int)/\LI .i64 Z te (o62+x4.toNat*2) λoN=>In x3 (n0:Int)/\LS Z C ((A+x3.toNat*2)+1) λV9 n69 WA=>AF (x4-1)/\Pq V9 λoM yM=>In (x4-1) (n69:Int)/\LI .i64 Z oM (yM+Int.toNat (x4-1)*2) λx74=>Br (oN<=x74) (R (.returned (.I 100)) Z) (AF (x4+1)/\Nx R (aD C A) n0 c0 x3 (x4+1) Z)) (AF (x3+1)/\E5 R (aD C A) n0 c0 (x3+1) Z)):Nx R p0 n0 c0 x3 x4 Z:=M.of h ok rfl
end Ay
namespace MJ
variable {p0 p1 CW Ik N3:Option Addr}{n0 c0 n1 c1 CN CR Il Im n10 MF:Nat}{x2 CO CP Ij x11:Int}
def M:Fw:=⟨prog,20,f20,[45],[8],false,[],[],[(4048,[(2,wI),(8,.X 90 [.I .i64,.I .u64,.L,.I .i64,.L]),(10,wL),(11,wI)])]⟩
def ok:M.Ok:=⟨.cons call45 (AH.nil),mixed,func20,by kernel_rfl⟩
def Nx:=M.pt 0
def start (h:AG 45 #[.slice p0 n0 c0,.slice p1 n1 c1,.I x2] Z R (λz y=>∃WD Ta lM lN lO A C G AIs ASj,z=(.tuple #[.agg #[.I WD,.U Ta,.slice lM lN lO,.I A,.slice C G AIs],.bool ASj])/\∀b8:Nat,Bn ASj (R (.T #[.N,.I 223]) y) (Br (WD=1) (Al y λdB=>Al (Hp.set y dB (.cells #[.I x2,.U Ta] 61 (0,0))) λjx=>R (.T #[(.slice (aD jx 0) 1 1),.I 0]) (Hp.set (Hp.set y dB (.cells #[.I x2,.U Ta] 61 (0,0))) jx (.cells #[.N,(.slice (aD dB 0) 1 1)] 51 (0,0)))) (Nx R x2 WD Ta lM lN lO A C G AIs none 0 0 0 y)))):Spec prog 20 #[.slice p0 n0 c0,.slice p1 n1 c1,.I x2] Z R:=M.start h ok
def Jg (h:Br (x11<(CN:Int)) (Pq CW λdW A=>In x11 (CN:Int)/\LS Z dW (A+x11.toNat*2) λp45 n45 c45=>In x11 (CN:Int)/\LI .u64 Z dW ((A+x11.toNat*2)+1) λC=>(Al Z λRA=>(AJ prog (Builtin.append_ #[47,47] 47 #[(.slice (aD RA 0) 0 0),.slice p45 n45 c45]) (Hp.set Z RA (.cells #[] 71 (0,0))) (CS λiJ n46 fS y=>Kp [dW] (Hp.set Z RA (.cells #[] 71 (0,0))) y/\Al y λG=>Al (Hp.set y G (.cells #[.I x2,.U C] 61 (0,0))) λRY=>AJ prog (DV 23 N3 n10 MF RY) (Hp.set (Hp.set y G (.cells #[.I x2,.U C] 61 (0,0))) RY (.cells #[.slice iJ n46 fS,(.slice (aD G 0) 1 1)] 51 (0,0))) (CS λU7 U8 Wk AB=>AF (x11+1)/\Nx R x2 CO CP (aD dW A) CN CR Ij Ik Il Im U7 U8 Wk (x11+1) AB)))/\(Al (Hp.set Z RA (.cells #[] 71 (0,0))) λG=>AJ prog (Builtin.append_ #[47,47] 47 #[(.slice (aD RA 0) 0 0),.slice p45 n45 c45]) (Hp.set (Hp.set Z RA (.cells #[] 71 (0,0))) G (.cells #[.I x2,.U C] 61 (0,0))) (CS λiJ n46 fS y=>Al y λRY=>AJ prog (DV 23 N3 n10 MF RY) (Hp.set y RY (.cells #[.slice iJ n46 fS,(.slice (aD G 0) 1 1)] 51 (0,0))) (CS λU7 U8 Wk AB=>AF (x11+1)/\Nx R x2 CO CP (aD dW A) CN CR Ij Ik Il Im U7 U8 Wk (x11+1) AB))))/\(Al Z λG=>Al (Hp.set Z G (.cells #[.I x2,.U C] 61 (0,0))) λRA=>AJ prog (Builtin.append_ #[47,47] 47 #[(.slice (aD RA 0) 0 0),.slice p45 n45 c45]) (Hp.set (Hp.set Z G (.cells #[.I x2,.U C] 61 (0,0))) RA (.cells #[] 71 (0,0))) (CS λiJ n46 fS y=>Al y λRY=>AJ prog (DV 23 N3 n10 MF RY) (Hp.set y RY (.cells #[.slice iJ n46 fS,(.slice (aD G 0) 1 1)] 51 (0,0))) (CS λU7 U8 Wk AB=>AF (x11+1)/\Nx R x2 CO CP (aD dW A) CN CR Ij Ik Il Im U7 U8 Wk (x11+1) AB)))) (R (.T #[.slice N3 n10 MF,.I 0]) Z)):Nx R x2 CO CP CW CN CR Ij Ik Il Im N3 n10 MF x11 Z:=M.oJ h ok rfl λ_=>by kernel_rfl
end MJ
namespace I4
variable {p0 p1 CW Hs:Option Addr}{n0 c0 n1 c1 CN CR Ht Hu:Nat}{x2 CO CP x9:Int}
def M:Fw:=⟨prog,27,f27,[47],[8],false,[],[],[(30,[(8,.X 97 [.I .i64,.I .u64,.L,.L]),(9,wI)])]⟩
def ok:M.Ok:=⟨.cons call47 (AH.nil),mixed,func27,by kernel_rfl⟩
def AR:=M.pt 0
def start (h:Al Z λDL=>AG 47 #[(.pointer (aD DL 0)),.slice p0 n0 c0] (Hp.set Z DL (.cells #[.slice p1 n1 c1,.I x2] 101 (0,0))) R (λz y=>∃WD Ta lM lN lO A C G AMZ,z=(.tuple #[.agg #[.I WD,.U Ta,.slice lM lN lO,.slice A C G],.I AMZ])/\∀b8:Nat,Br (WD=1) (Al y λIG=>AR R WD Ta (aD IG 0) 1 1 A C G AMZ (Hp.set y IG (.cells #[.N,.U Ta] 59 (0,0)))) (AR R WD Ta lM lN lO A C G AMZ y))):Spec prog 27 #[.slice p0 n0 c0,.slice p1 n1 c1,.I x2] Z R:=M.start h ok
def AM (h:R (.T #[.slice CW CN CR,.I x9]) Z):AR R CO CP CW CN CR Hs Ht Hu x9 Z:=M.oJ h ok rfl λ_=>by kernel_rfl
end I4
namespace I5
variable {Ae A1 Bf Bh BM BS GO Gm XP XQ VK XR x6:Int}{BW XS:ByteArray}{CJ B4 p1 VE Wt:Option Addr}{CD CK Bl B8 n1 c1 VF VH Wu Wv:Nat}{Bj Ww t7 t8:Bool}
def M:Fw:=⟨prog,52,f52,[],[2],false,[],[],[(110572,[(1,wL),(6,wI)]),(248,[(1,wL),(2,.X 44 [.I .i64,.I .i64,.T,.L,.I .i64,.I .i64,.I .i64,.L,.B,.I .i64]),(7,wB),(8,wB)]),(998,[(2,.X 44 [.I .i64,.I .i64,.T,.L,.I .i64,.I .i64,.I .i64,.L,.B,.I .i64]),(8,wB)])]⟩
def ok:M.Ok:=⟨AH.nil,mixed,func52,by kernel_rfl⟩
def GL:=M.pt 0
def wZ:=M.pt 1
def wa:=M.pt 2
def start (h:∀b2:Nat,Br (Ae=1) (R (.T #[.I 1,.I 0]) Z) (Br (Ae=2) (R (.T #[.I 2,.I 0]) Z) (Br (Ae=3) (R (.T #[.I 3,.I 0]) Z) (Br (Ae=4) (Br (A1=11) (GL R p1 n1 c1 2 Z) (Br (A1=12) (GL R p1 n1 c1 2 Z) (GL R p1 n1 c1 3 Z))) (Br (Ae=5) (Pq p1 λb35 o35=>In 0 (n1:Int)/\LI .i64 Z b35 o35 λNo=>Br (No≠2) (R (.T #[.I 0,.I 191]) Z) (R (.T #[.I 2,.I 0]) Z)) (Br (Ae=7) (Pq p1 λb41 o41=>In 0 (n1:Int)/\LI .i64 Z b41 o41 λMA=>Br (MA=3) (R (.T #[.I 0,.I 191]) Z) (In 0 (n1:Int)/\LI .i64 Z b41 o41 λhY=>R (.T #[.I hY,.I 0]) Z)) (Pq p1 λA C=>In 0 (n1:Int)/\LI .i64 Z A C λUU=>Br (UU=2) (In 1 (n1:Int)/\LI .i64 Z A (C+1) λx54=>In 0 (n1:Int)/\LI .i64 Z A C λG=>Br (G=1) (In 1 (n1:Int)/\LI .i64 Z A (C+1) λoN=>wZ R (aD A C) n1 c1 Ae A1 BW CJ CD CK Bf Bh BM B4 Bl B8 Bj BS ((decide (x54=2))) ((decide (oN=1))) Z) (wZ R (aD A C) n1 c1 Ae A1 BW CJ CD CK Bf Bh BM B4 Bl B8 Bj BS ((decide (x54=2))) false Z)) (In 0 (n1:Int)/\LI .i64 Z A C λG=>Br (G=1) (In 1 (n1:Int)/\LI .i64 Z A (C+1) λoN=>wZ R (aD A C) n1 c1 Ae A1 BW CJ CD CK Bf Bh BM B4 Bl B8 Bj BS false ((decide (oN=1))) Z) (wZ R (aD A C) n1 c1 Ae A1 BW CJ CD CK Bf Bh BM B4 Bl B8 Bj BS false false Z))))))))):Spec prog 52 #[.agg #[.I Ae,.I A1,.string BW,.slice CJ CD CK,.I Bf,.I Bh,.I BM,.slice B4 Bl B8,.bool Bj,.I BS],.slice p1 n1 c1] Z R:=M.start h ok
def AFw (h:Pq p1 λG A=>In 0 (n1:Int)/\LI .i64 Z G A λzu=>Br (zu=3) (R (.T #[.I 0,.I 192]) Z) (In 1 (n1:Int)/\LI .i64 Z G (A+1) λC=>Br (C=3) (R (.T #[.I 0,.I 192]) Z) (Br (11<=Gm) (Bn t7 (R (.T #[.I 0,.I 192]) Z) (Br (VK≠0) (wa R GO Gm XS VE VF VH XP XQ VK Wt Wu Wv Ww XR t8 Z) (wa R GO Gm XS VE VF VH XP XQ VK Wt Wu Wv Ww XR t8 Z))) (Br (VK≠0) (Bn t7 (R (.T #[.I 0,.I 192]) Z) (wa R GO Gm XS VE VF VH XP XQ VK Wt Wu Wv Ww XR t8 Z)) (wa R GO Gm XS VE VF VH XP XQ VK Wt Wu Wv Ww XR t8 Z))))):wZ R p1 n1 c1 GO Gm XS VE VF VH XP XQ VK Wt Wu Wv Ww XR t7 t8 Z:=M.oJ h ok rfl λ_=>by kernel_rfl
def AFx (h:Br (5<=Gm) (Br (Gm<=10) (Bo t8 (Bn Ww (R (.T #[.I 0,.I 192]) Z) (R (.T #[.I 1,.I 0]) Z)) (R (.T #[.I 2,.I 0]) Z)) (Bo t8 (R (.T #[.I 1,.I 0]) Z) (R (.T #[.I 2,.I 0]) Z))) (Bo t8 (R (.T #[.I 1,.I 0]) Z) (R (.T #[.I 2,.I 0]) Z))):wa R GO Gm XS VE VF VH XP XQ VK Wt Wu Wv Ww XR t8 Z:=M.oJ h ok rfl λ_=>by kernel_rfl
def Ih (h:Pq p1 λA C=>In 0 (n1:Int)/\LI .i64 Z A C λG=>Br (G≠x6) (R (.T #[.I 0,.I 191]) Z) (R (.T #[.I 2,.I 0]) Z)):GL R p1 n1 c1 x6 Z:=M.of h ok rfl
end I5
namespace A4
variable {p0 p4:Option Addr}{n0 c0 n4 c4:Nat}{x5 x6:Int}
def M:Fw:=⟨prog,73,f73,[44],[],false,[],[],[(464,[(0,wL),(4,wL),(5,wI)]),(59680,[(0,wL),(4,wL),(5,wI),(6,wI)]),(59682,[(0,wL),(4,wL),(5,wI),(6,wI)]),(14924,[(0,wL),(4,wL),(5,wI),(6,wI)]),(14926,[(0,wL),(4,wL),(5,wI),(6,wI)])]⟩
def ok:M.Ok:=⟨.cons call44 (AH.nil),mixed,func73,by kernel_rfl⟩
def AR:=M.pt 0
def VI:=M.pt 1
def Nx:=M.pt 2
def Nv:=M.pt 3
def AFy:=M.pt 4
def start (h:AR R p0 n0 c0 none 0 0 0 Z):Spec prog 73 #[.slice p0 n0 c0] Z R:=M.start h ok
def AM (h:Br (x5<(n0:Int)) (VI R p0 n0 c0 p4 n4 c4 x5 (n4:Int) Z) (R (.T #[.slice p4 n4 c4,.bool true]) Z)):AR R p0 n0 c0 p4 n4 c4 x5 Z:=M.of h ok rfl
def NI (h:Br (0<x6) (AF (x6-1)/\Pq p4 λG qI=>In (x6-1) (n4:Int)/\LS Z G (qI+Int.toNat (x6-1)*2) λp24 n24 A=>Pq p0 λC tT=>In x5 (n0:Int)/\LS Z C (tT+x5.toNat*2) λp29 n29 vg=>AG 44 #[.slice p24 n24 A,.slice p29 n29 vg] Z R (CI .i64 λLz y=>Br (0<Lz) (Nx R (aD C tT) n0 c0 (aD G qI) n4 c4 x5 x6 y) (Nv R (aD C tT) n0 c0 (aD G qI) n4 c4 x5 x6 y))) (Nv R p0 n0 c0 p4 n4 c4 x5 x6 Z)):VI R p0 n0 c0 p4 n4 c4 x5 x6 Z:=M.of h ok rfl
def Jg (h:AF (x6-1)/\VI R p0 n0 c0 p4 n4 c4 x5 (x6-1) Z):Nx R p0 n0 c0 p4 n4 c4 x5 x6 Z:=M.of h ok rfl
def Ii (h:Br (0<x6) (AF (x6-1)/\Pq p4 λA C=>In (x6-1) (n4:Int)/\LS Z A (C+Int.toNat (x6-1)*2) λjq n43 jr=>Pq p0 λk8 G=>In x5 (n0:Int)/\LS Z k8 (G+x5.toNat*2) λp48 n48 c48=>AG 44 #[.slice jq n43 jr,.slice p48 n48 c48] Z R (CI .i64 λUU y=>Br (UU=0) (R (.T #[.N,.bool false]) y) (AFy R (aD k8 G) n0 c0 (aD A C) n4 c4 x5 x6 y))) (AFy R p0 n0 c0 p4 n4 c4 x5 x6 Z)):Nv R p0 n0 c0 p4 n4 c4 x5 x6 Z:=M.of h ok rfl
def AFz (h:Al Z λoO=>(0<=x6/\x6<=(n4:Int))/\AJ prog (Builtin.append_ #[87,87] 87 #[(.slice (aD oO 0) 0 0),(.slice (Mp p4 (x6.toNat) c4 2) (n4-x6.toNat) (c4-x6.toNat))]) (Hp.set Z oO (.cells #[] 94 (0,0))) (CS λp56 n56 c56 y=>(0<=x6/\x6<=(c4:Int))/\Pq p0 λwS yS=>In x5 (n0:Int)/\∃A C G lP,Af y wS (yS+x5.toNat*2) [.slice A C G,.U lP]/\(Al y λRY=>(AJ prog (Builtin.append_ #[87,87] 87 #[(.slice (aD RY 0) 0 0),(.slice p4 (x6.toNat) c4)]) (Hp.set y RY (.cells #[] 94 (0,0))) (CS λoR n61 oS AB=>Kp [wS] (Hp.set y RY (.cells #[] 94 (0,0))) AB/\Al AB λiW=>AJ prog (DV 87 oR n61 oS iW) (Hp.set AB iW (.cells #[.slice A C G,.U lP] 94 (0,0))) (CS λS3 Ml RT AK=>AJ prog (Builtin.append_ #[87,87] 87 #[.slice S3 Ml RT,.slice p56 n56 c56]) AK (CS λV9 n69 WA AX=>AF (x5+1)/\AR R (aD wS yS) n0 c0 V9 n69 WA (x5+1) AX))))/\(Al (Hp.set y RY (.cells #[] 94 (0,0))) λiW=>AJ prog (Builtin.append_ #[87,87] 87 #[(.slice (aD RY 0) 0 0),(.slice p4 (x6.toNat) c4)]) (Hp.set (Hp.set y RY (.cells #[] 94 (0,0))) iW (.cells #[.slice A C G,.U lP] 94 (0,0))) (CS λoR n61 oS AB=>AJ prog (DV 87 oR n61 oS iW) AB (CS λS3 Ml RT AK=>AJ prog (Builtin.append_ #[87,87] 87 #[.slice S3 Ml RT,.slice p56 n56 c56]) AK (CS λV9 n69 WA AX=>AF (x5+1)/\AR R (aD wS yS) n0 c0 V9 n69 WA (x5+1) AX)))))/\(Al y λiW=>Al (Hp.set y iW (.cells #[.slice A C G,.U lP] 94 (0,0))) λRY=>AJ prog (Builtin.append_ #[87,87] 87 #[(.slice (aD RY 0) 0 0),(.slice p4 (x6.toNat) c4)]) (Hp.set (Hp.set y iW (.cells #[.slice A C G,.U lP] 94 (0,0))) RY (.cells #[] 94 (0,0))) (CS λoR n61 oS AB=>AJ prog (DV 87 oR n61 oS iW) AB (CS λS3 Ml RT AK=>AJ prog (Builtin.append_ #[87,87] 87 #[.slice S3 Ml RT,.slice p56 n56 c56]) AK (CS λV9 n69 WA AX=>AF (x5+1)/\AR R (aD wS yS) n0 c0 V9 n69 WA (x5+1) AX)))))):AFy R p0 n0 c0 p4 n4 c4 x5 x6 Z:=M.of h ok rfl
end A4
namespace Dg
variable {q0 Fm GG p2:Option Addr}{By BQ FN FO D9 ET x8:Int}{FP:ByteArray}{Fo Fp Fq GH n2 c2:Nat}{EU:Bool}
def M:Fw:=⟨prog,80,f80,[],[4],false,[],[],[(60,[(2,wL),(8,wI)])]⟩
def ok:M.Ok:=⟨AH.nil,mixed,func80,by kernel_rfl⟩
def GX:=M.pt 0
def start (h:∀A:Nat,Br (BQ=11) (GX R p2 n2 c2 2 Z) (Br (BQ=12) (GX R p2 n2 c2 2 Z) (GX R p2 n2 c2 3 Z))):Spec prog 80 #[.pointer q0,.agg #[.I By,.I BQ,.string FP,.slice Fm Fo Fp,.I FN,.I FO,.I D9,.slice GG Fq GH,.bool EU,.I ET],.slice p2 n2 c2] Z R:=M.start h ok
def Fv (h:Pq p2 λA C=>In 0 (n2:Int)/\LI .i64 Z A C λIg=>Br (Ig≠x8) (R (.T #[.I 0,.I 191]) Z) (R (.T #[.I 2,.I 0]) Z)):GX R p2 n2 c2 x8 Z:=M.of h ok rfl
end Dg
namespace bB
variable {x0 x1:Int}
def M:Fw:=⟨prog,86,f86,[],[],false,[],[],[]⟩
def ok:M.Ok:=⟨AH.nil,mixed,func86,by kernel_rfl⟩
def start (h:Br (x1<=x0) (R (.returned (.bool (decide (x0<=2147483647)))) Z) (R (.B false) Z)):Spec prog 86 #[.I x0,.I x1] Z R:=M.start h ok
end bB
namespace Gd
variable {p0 p5:Option Addr}{n0 c0 n5 c5:Nat}{x1:Int}
def M:Fw:=⟨prog,89,f89,[],[],false,[],[],[(224,[(1,wU),(5,wL)])]⟩
def ok:M.Ok:=⟨AH.nil,mixed,func89,by kernel_rfl⟩
def E5:=M.pt 0
def start (h:Al Z λb6=>AJ prog (Builtin.append_ #[117,117] 117 #[(.slice (aD b6 0) 0 0),.slice p0 n0 c0]) (Hp.set Z b6 (.cells #[] 5 (0,0))) (CS λp8 n8 c8 y=>E5 R x1 p8 n8 c8 y)):Spec prog 89 #[.slice p0 n0 c0,.U x1] Z R:=M.start h ok
def Ag (h:Br (127<x1) (Df (IntKind.u8.wrap x1) λx15=>Df (Go.bits .or .u8 x15 128) λx16=>Al Z λqa=>AJ prog (DV 117 p5 n5 c5 qa) (Hp.set Z qa (.cells #[.int .u8 x16] 5 (0,0))) (CS λp18 C A y=>((0:Int)<=7/\7<=((IntKind.bits .u64:Nat):Int))/\Df (x1/2^Int.toNat 7) λx12=>E5 R x12 p18 C A y)) (Df (IntKind.u8.wrap x1) λWE=>Al Z λjo=>AJ prog (DV 117 p5 n5 c5 jo) (Hp.set Z jo (.cells #[.int .u8 WE] 5 (0,0))) (CS λpr G pz y=>R (.returned (.slice pr G pz)) y))):E5 R x1 p5 n5 c5 Z:=M.of h ok rfl
end Gd
namespace IJ
variable {s0:ByteArray}{x3:Int}
def M:Fw:=⟨prog,118,f118,[],[],false,[],[],[(464,[(0,wT),(3,wI)])]⟩
def ok:M.Ok:=⟨AH.nil,mixed,func118,by kernel_rfl⟩
def Au:=M.pt 0
def start (h:Bo ((ByteArray.toList s0==ByteArray.toList (ByteArray.mk #[]))) (R (.B false) Z) (Br ((64:Int)<(s0.size:Int)) (R (.B false) Z) (∃C:UInt8,(0:Int)<=0/\(ByteArray.data s0)[Int.toNat 0]?=some C/\Br ((48:Int)<=(C.toNat:Int)) (∃A:UInt8,(0:Int)<=0/\(ByteArray.data s0)[Int.toNat 0]?=some A/\Br (((A.toNat:Int):Int)<=57) (R (.B false) Z) (Au R s0 0 Z)) (Au R s0 0 Z)))):Spec prog 118 #[.string s0] Z R:=M.start h ok
def Aq (h:Br (x3<(s0.size:Int)) (∃A:UInt8,0<=x3/\(ByteArray.data s0)[x3.toNat]?=some A/\Br (((A.toNat:Int):Int)≠95) (Br (((A.toNat:Int):Int)<48) (Br (((A.toNat:Int):Int)<65) (Br (((A.toNat:Int):Int)<97) (R (.B false) Z) (Br ((122:Int)<(A.toNat:Int)) (R (.B false) Z) (AF (x3+1)/\Au R s0 (x3+1) Z))) (Br ((90:Int)<(A.toNat:Int)) (Br (((A.toNat:Int):Int)<97) (R (.B false) Z) (Br ((122:Int)<(A.toNat:Int)) (R (.B false) Z) (AF (x3+1)/\Au R s0 (x3+1) Z))) (AF (x3+1)/\Au R s0 (x3+1) Z))) (Br ((57:Int)<(A.toNat:Int)) (Br (((A.toNat:Int):Int)<65) (Br (((A.toNat:Int):Int)<97) (R (.B false) Z) (Br ((122:Int)<(A.toNat:Int)) (R (.B false) Z) (AF (x3+1)/\Au R s0 (x3+1) Z))) (Br ((90:Int)<(A.toNat:Int)) (Br (((A.toNat:Int):Int)<97) (R (.B false) Z) (Br ((122:Int)<(A.toNat:Int)) (R (.B false) Z) (AF (x3+1)/\Au R s0 (x3+1) Z))) (AF (x3+1)/\Au R s0 (x3+1) Z))) (AF (x3+1)/\Au R s0 (x3+1) Z))) (AF (x3+1)/\Au R s0 (x3+1) Z)) (R (.B true) Z)):Au R s0 x3 Z:=M.of h ok rfl
end IJ
namespace AZ
variable {q0 Fm GG p2 Jq Lc BG JL p9 fH oT p79 lQ wY q13:Option Addr}{By BQ FN FO D9 ET BZ BX Ld JV Lf Mm BC BD E3 JT x80 x81 qc:Int}{FP Mn:ByteArray}{Fo Fp Fq GH n2 c2 Jr Js Lg Lh BH BI JM JN n9 c9 n22 cz n15 iV n79 c79 lR lS n12 tg:Nat}{EU Mo:Bool}{m8:Option Nat}{v14:Value}
def M:Fw:=⟨prog,124,f124,[39,162,164,165,166],[4,6,11],false,[(17,11,false)],[],[(488,[(4,.X 44 [.I .i64,.I .i64,.T,.L,.I .i64,.I .i64,.I .i64,.L,.B,.I .i64]),(6,.X 97 [.I .i64,.I .u64,.L,.L]),(8,wM),(9,wL),(22,wL),(23,wI),(24,wI)]),(4072,[(6,.X 97 [.I .i64,.I .u64,.L,.L]),(14,wV),(15,wL),(79,wL),(80,wI),(81,wI)]),(62670,[(4,.X 44 [.I .i64,.I .i64,.T,.L,.I .i64,.I .i64,.I .i64,.L,.B,.I .i64]),(6,.X 97 [.I .i64,.I .u64,.L,.L]),(8,wM),(9,wL),(11,.X 59 [.L,.I .u64]),(12,wL),(22,wL),(23,wI),(24,wI)]),(125343,[(4,.X 44 [.I .i64,.I .i64,.T,.L,.I .i64,.I .i64,.I .i64,.L,.B,.I .i64]),(6,.X 97 [.I .i64,.I .u64,.L,.L]),(8,wM),(9,wL),(11,.X 59 [.L,.I .u64]),(13,wQ),(22,wL),(23,wI),(24,wI)])]⟩
def ok:M.Ok:=⟨.cons call39 (.cons call162 (.cons call164 (.cons call165 (.cons call166 (AH.nil))))),mixed,func124,by kernel_rfl⟩
def GX:=M.pt 0
def Wy:=M.pt 1
def GL:=M.pt 2
def ABG:=M.pt 3
def start (h:∀b4:Nat,∀b6:Nat,AJ prog (Instr.makeMap 207 none) Z (λz y=>∃A,z=(.map (some A))/\Pq p2 λG C=>In 0 (n2:Int)/\LS y G (C+2) λfH n22 cz=>GX R By BQ FP Fm Fo Fp FN FO D9 GG Fq GH EU ET 0 0 none 0 0 none 0 0 (some A) none 0 0 fH n22 cz (n22:Int) 0 y)):Spec prog 124 #[.pointer q0,.agg #[.I By,.I BQ,.string FP,.slice Fm Fo Fp,.I FN,.I FO,.I D9,.slice GG Fq GH,.bool EU,.I ET],.slice p2 n2 c2] Z R:=M.start h ok
def Fv (h:Br (JT<E3) (Pq fH λXT iI=>In JT (n22:Int)/\∃G C SY YM,Af Z XT (iI+JT.toNat*2) [.slice G C SY,.U YM]/\∀Bu:Nat,Br (Lf=1) (AG 165 #[.slice G C SY,.slice Lc Lg Lh] Z R (CS λp36 n36 c36 y=>GL R BZ BX Mn Jq Jr Js Ld JV Lf Lc Lg Lh Mo Mm BC BD BG BH BI JL JM JN m8 p9 n9 c9 G C SY YM p36 n36 c36 (aD XT iI) n22 cz E3 JT y)) (Br (Lf=2) (AG 166 #[.slice G C SY,.slice Lc Lg Lh] Z R (CS λjq n43 jr y=>AG 162 #[.slice jq n43 jr] y R (CS λp44 n44 c44 AB=>GL R BZ BX Mn Jq Jr Js Ld JV Lf Lc Lg Lh Mo Mm BC BD BG BH BI JL JM JN m8 p9 n9 c9 G C SY YM p44 n44 c44 (aD XT iI) n22 cz E3 JT AB))) (GL R BZ BX Mn Jq Jr Js Ld JV Lf Lc Lg Lh Mo Mm BC BD BG BH BI JL JM JN m8 p9 n9 c9 G C SY YM none 0 0 (aD XT iI) n22 cz E3 JT Z))) (AJ prog (Instr.makeMap 212 none) Z (λz y=>∃A,z=(.map (some A))/\AJ prog (Instr.mapUpdate 212 (.map (some A)) (.I 1) (.func (.func 167) #[] #[])) y (λ_ AB=>AJ prog (Instr.mapUpdate 212 (.map (some A)) (.I 2) (.func (.func 168) #[] #[])) AB (λ_ AK=>AJ prog (Instr.mapUpdate 212 (.map (some A)) (.I 3) (.func (.func 169) #[] #[])) AK (λ_ AX=>AJ prog (Instr.mapUpdate 212 (.map (some A)) (.I 4) (.func (.func 170) #[] #[])) AX (λ_ DK=>AJ prog (Instr.mapUpdate 212 (.map (some A)) (.I 5) (.func (.func 171) #[] #[])) DK (λ_ GK=>AJ prog (Instr.lookup 212 (.map (some A)) (.I BX) false) GK (λz RR=>∃v78,v78=z/\Wy R BC BD BG BH BI JL JM JN v78 none 0 0 p9 n9 c9 (n9:Int) 0 RR))))))))):GX R BZ BX Mn Jq Jr Js Ld JV Lf Lc Lg Lh Mo Mm BC BD BG BH BI JL JM JN m8 p9 n9 c9 fH n22 cz E3 JT Z:=M.pn h ok rfl λ_ _=>by kernel_rfl
def XV (h:Br (x81<x80) (Pq p79 λjw tZ=>In x81 (n79:Int)/\LQ Z jw (tZ+x81.toNat*1) λq84=>Pq q84 λA o87=>LS Z A o87 λp89 n89 c89=>LS Z A (o87+1) λp94 n94 c94=>∃(f95:Nat) (lT lU:Array Value),v14=.func (.func f95) lT lU/\Enters prog f95/\Spec prog f95 (lT++#[.slice p94 n94 c94]++lU) Z (BV R (CI .u64 λx95 y=>Kp [A] Z y/\Al y λb97=>AJ prog (DV 54 oT n15 iV b97) (Hp.set y b97 (.cells #[.slice p89 n89 c89,.U x95] 59 (0,0))) (CS λp98 n98 c98 AB=>AF (x81+1)/\Wy R BC BD BG BH BI JL JM JN v14 p98 n98 c98 (aD jw tZ) n79 c79 x80 (x81+1) AB)))) (AG 164 #[.slice oT n15 iV] Z R (λz y=>∃C G ABJ ABK ABL ABM ABN ABO AIt,z=(.tuple #[.agg #[.I C,.U G,.slice ABJ ABK ABL,.slice ABM ABN ABO],.I AIt])/\R (.T #[.agg #[.I C,.U G,.slice ABJ ABK ABL,.slice ABM ABN ABO],.I AIt]) y))):Wy R BC BD BG BH BI JL JM JN v14 oT n15 iV p79 n79 c79 x80 x81 Z:=M.oJ h ok rfl λ_=>by kernel_rfl
def Ih (h:AG 39 #[.slice wY n12 tg] Z R (CT λs47 y=>AJ prog (Instr.lookup 207 (.map m8) (.string s47) false) y (CQ λA G=>Bo (Option.isNone A) (Al G λC=>AG 39 #[.slice wY n12 tg] (Hp.set G C (.cells #[.slice wY n12 tg,.N] 200 (0,0))) R (CT λs56 AK=>AJ prog (Instr.mapUpdate 207 (.map m8) (.string s56) (.pointer (aD C 0))) AK (λ_ AX=>Al AX λS5=>AJ prog (DV 208 p9 n9 c9 S5) (Hp.set AX S5 (.cells #[(.pointer (aD C 0))] 210 (0,0))) (CS λoR n61 oS DK=>ABG R BZ BX Mn Jq Jr Js Ld JV Lf Lc Lg Lh Mo Mm BC BD BG BH BI JL JM JN m8 oR n61 oS lQ lR lS qc (aD C 0) fH n22 cz E3 JT DK)))) (ABG R BZ BX Mn Jq Jr Js Ld JV Lf Lc Lg Lh Mo Mm BC BD BG BH BI JL JM JN m8 p9 n9 c9 lQ lR lS qc A fH n22 cz E3 JT G)))):GL R BZ BX Mn Jq Jr Js Ld JV Lf Lc Lg Lh Mo Mm BC BD BG BH BI JL JM JN m8 p9 n9 c9 lQ lR lS qc wY n12 tg fH n22 cz E3 JT Z:=M.dL h ok rfl λ_ _ _=>by kernel_rfl
def AF0 (h:Pq q13 λwS yS=>LS Z wS (yS+1) λp66 zw tO=>Al Z λqX=>AJ prog (DV 163 p66 zw tO qX) (Hp.set Z qX (.cells #[.U qc] 57 (0,0))) (CS λG C A y=>AJ prog (Instr.storeAt 163 (.pointer (aD wS (yS+1))) (.slice G C A)) y (λ_ AB=>AF (JT+1)/\GX R BZ BX Mn Jq Jr Js Ld JV Lf Lc Lg Lh Mo Mm BC BD BG BH BI JL JM JN m8 p9 n9 c9 fH n22 cz E3 (JT+1) AB))):ABG R BZ BX Mn Jq Jr Js Ld JV Lf Lc Lg Lh Mo Mm BC BD BG BH BI JL JM JN m8 p9 n9 c9 lQ lR lS qc q13 fH n22 cz E3 JT Z:=M.dL h ok rfl λ_ _ _=>by kernel_rfl
end AZ
namespace WG
variable {x0 x1 x2:Int}
def M:Fw:=⟨prog,153,f153,[103,147],[],false,[],[],[]⟩
def ok:M.Ok:=⟨.cons call103 (.cons call147 (AH.nil)),mixed,func153,by kernel_rfl⟩
def start (h:AG 147 #[.U x1] Z R (λz y=>∃x11,(Value.float .f64 x11)=z/\AG 147 #[.U x2] y R (λz G=>∃DB,(Value.float .f64 DB)=z/\Br (x0=1) (AJ prog (binOp .add 73 (Value.float .f64 x11) (Value.float .f64 DB)) G (λz A=>∃GI,(Value.float .f64 GI)=z/\AG 103 #[(Value.float .f64 GI)] A R (CI .u64 λIg C=>R (.T #[.U Ig,.bool true]) C))) (Br (x0=2) (AJ prog (binOp .sub 73 (Value.float .f64 x11) (Value.float .f64 DB)) G (λz A=>∃Ki,(Value.float .f64 Ki)=z/\AG 103 #[(Value.float .f64 Ki)] A R (CI .u64 λjv C=>R (.T #[.U jv,.bool true]) C))) (Br (x0=3) (AJ prog (binOp .mul 73 (Value.float .f64 x11) (Value.float .f64 DB)) G (λz A=>∃Yh,(Value.float .f64 Yh)=z/\AG 103 #[(Value.float .f64 Yh)] A R (CI .u64 λqW C=>R (.T #[.U qW,.bool true]) C))) (Br (x0=4) (AJ prog (binOp .quo 73 (Value.float .f64 x11) (Value.float .f64 DB)) G (λz A=>∃Ud,(Value.float .f64 Ud)=z/\AG 103 #[(Value.float .f64 Ud)] A R (CI .u64 λx38 C=>R (.T #[.U x38,.bool true]) C))) (R (.T #[.U 0,.bool false]) G))))))):Spec prog 153 #[.I x0,.U x1,.U x2] Z R:=M.start h ok
end WG
namespace fT
variable {Ae A1 Bf Bh BM BS:Int}{BW:ByteArray}{CJ B4 p1:Option Addr}{CD CK Bl B8 n1 c1:Nat}{Bj:Bool}
def M:Fw:=⟨prog,155,f155,[107,109],[2],false,[],[],[]⟩
def ok:M.Ok:=⟨.cons call107 (.cons call109 (AH.nil)),mixed,func155,by kernel_rfl⟩
def start (h:∀b2:Nat,Br (BM=0) (AG 107 #[.slice p1 n1 c1] Z R (CS λp9 n9 c9 y=>R (.returned (.slice p9 n9 c9)) y)) (AG 109 #[.I BM,.slice B4 Bl B8,.slice p1 n1 c1] Z R (CS λoT n15 iV y=>R (.returned (.slice oT n15 iV)) y))):Spec prog 155 #[.agg #[.I Ae,.I A1,.string BW,.slice CJ CD CK,.I Bf,.I Bh,.I BM,.slice B4 Bl B8,.bool Bj,.I BS],.slice p1 n1 c1] Z R:=M.start h ok
end fT
namespace fU
variable {p0:Option Addr}{n0 c0:Nat}
def M:Fw:=⟨prog,162,f162,[166],[],false,[],[],[]⟩
def ok:M.Ok:=⟨.cons call166 (AH.nil),mixed,func162,by kernel_rfl⟩
def start (h:Al Z λA=>AG 166 #[.slice p0 n0 c0,(.slice (aD A 0) 1 1)] (Hp.set Z A (.cells #[(.string (ByteArray.mk #[95,95,110,97,109,101,95,95]))] 9 (0,0))) R (CS λp5 n5 c5 y=>R (.returned (.slice p5 n5 c5)) y)):Spec prog 162 #[.slice p0 n0 c0] Z R:=M.start h ok
end fU
namespace R8
variable {p0 p1:Option Addr}{n0 c0 n1 c1:Nat}
def M:Fw:=⟨prog,166,f166,[212],[],false,[],[],[]⟩
def ok:M.Ok:=⟨.cons call212 (AH.nil),mixed,func166,by kernel_rfl⟩
def start (h:Al Z λb3=>AG 212 #[.slice p0 n0 c0,(.func (.func 215) #[] #[(.pointer (aD b3 0))])] (Hp.set Z b3 (.cells #[.slice p1 n1 c1] 42 (0,0))) R (CS λp7 n7 c7 y=>R (.returned (.slice p7 n7 c7)) y)):Spec prog 166 #[.slice p0 n0 c0,.slice p1 n1 c1] Z R:=M.start h ok
end R8
namespace KA
variable {p0:Option Addr}{n0 c0:Nat}
def M:Fw:=⟨prog,168,f168,[217],[],false,[],[],[]⟩
def ok:M.Ok:=⟨.cons call217 (AH.nil),mixed,func168,by kernel_rfl⟩
def start (h:AG 217 #[.I 7,.slice p0 n0 c0] Z R (CI .u64 λx4 y=>R (.returned (.U x4)) y)):Spec prog 168 #[.slice p0 n0 c0] Z R:=M.start h ok
end KA
namespace WH
variable {Ae A1 Bf Bh BM BS x1 x2:Int}{BW:ByteArray}{CJ B4:Option Addr}{CD CK Bl B8:Nat}{Bj:Bool}
def M:Fw:=⟨prog,172,f172,[218,219,220],[3],false,[],[],[]⟩
def ok:M.Ok:=⟨.cons call218 (.cons call219 (.cons call220 (AH.nil))),mixed,func172,by kernel_rfl⟩
def start (h:∀b3:Nat,AG 218 #[.I A1,.U x1,.U x2] Z R (λz y=>∃hZ C,z=(.tuple #[.U hZ,.bool C])/\Bo C (R (.T #[.U hZ,.bool true]) y) (AG 219 #[.I A1,.U x1,.U x2] y R (λz AB=>∃A G,z=(.tuple #[.bool A,.bool G])/\AG 220 #[.bool A] AB R (CI .u64 λYh AK=>R (.T #[.U Yh,.bool A]) AK))))):Spec prog 172 #[.agg #[.I Ae,.I A1,.string BW,.slice CJ CD CK,.I Bf,.I Bh,.I BM,.slice B4 Bl B8,.bool Bj,.I BS],.U x1,.U x2] Z R:=M.start h ok
end WH
namespace A8
variable {s0 s1:ByteArray}{p5 p8:Option Addr}{n5 c5 n8 c8:Nat}{x6 x7 x9 x10:Int}
def M:Fw:=⟨prog,182,f182,[],[],false,[(16,19,true)],[],[(976,[(0,wT),(1,wT),(5,wL),(6,wI)]),(2000,[(0,wT),(1,wT),(5,wL),(7,wI)]),(512592,[(0,wT),(1,wT),(5,wL),(7,wI),(8,wL),(9,wI)]),(1025232,[(0,wT),(1,wT),(7,wI),(8,wL),(10,wI)]),(4100754,[(0,wT),(1,wT),(5,wL),(7,wI),(8,wL),(9,wI)]),(512595,[(0,wT),(1,wT),(5,wL),(7,wI),(8,wL),(9,wI)])]⟩
def ok:M.Ok:=⟨AH.nil,mixed,func182,by kernel_rfl⟩
def J6:=M.pt 0
def Nw:=M.pt 1
def Yq:=M.pt 2
def lV:=M.pt 3
def wc:=M.pt 4
def Wy:=M.pt 5
def start (h:AF ((s0.size:Int)+1)/\AJ prog (Instr.makeSlice 251 (.I ((s0.size:Int)+1)) (.I ((s0.size:Int)+1))) Z (CS λN1 n14 MC y=>Pq N1 λA C=>In 0 (n14:Int)/\AJ prog (Instr.storeAt 4 (.pointer (aD A C)) (.bool true)) y (λ_ G=>J6 R s0 s1 (aD A C) n14 MC 0 G))):Spec prog 182 #[.string s0,.string s1] Z R:=M.start h ok
def HX (h:Br (x6<(s0.size:Int)) (AF (x6+1)/\AF (x6+1)/\Pq p5 λA C=>In (x6+1) (n5:Int)/\LB Z A (C+Int.toNat (x6+1)*1) λt30=>Bo t30 (In (x6+1) (n5:Int)/\AJ prog (Instr.storeAt 4 (.pointer (aD A (C+Int.toNat (x6+1)*1))) (.bool true)) Z (λ_ y=>AF (x6+1)/\J6 R s0 s1 (aD A C) n5 c5 (x6+1) y)) (In x6 (n5:Int)/\LB Z A (C+x6.toNat*1) λt35=>Bo t35 (∃G:UInt8,0<=x6/\(ByteArray.data s0)[x6.toNat]?=some G/\In (x6+1) (n5:Int)/\AJ prog (Instr.storeAt 4 (.pointer (aD A (C+Int.toNat (x6+1)*1))) (.bool (decide (((G.toNat:Int):Int)=42)))) Z (λ_ y=>AF (x6+1)/\J6 R s0 s1 (aD A C) n5 c5 (x6+1) y)) (In (x6+1) (n5:Int)/\AJ prog (Instr.storeAt 4 (.pointer (aD A (C+Int.toNat (x6+1)*1))) (.bool false)) Z (λ_ y=>AF (x6+1)/\J6 R s0 s1 (aD A C) n5 c5 (x6+1) y)))) (Nw R s0 s1 p5 n5 c5 0 Z)):J6 R s0 s1 p5 n5 c5 x6 Z:=M.of h ok rfl
def NH (h:Br (x7<(s1.size:Int)) (AF ((s0.size:Int)+1)/\AJ prog (Instr.makeSlice 251 (.I ((s0.size:Int)+1)) (.I ((s0.size:Int)+1))) Z (CS λp53 n53 G y=>Yq R s0 s1 p5 n5 c5 x7 p53 n53 G 0 y)) (Pq p5 λA C=>In ((s0.size:Int)) (n5:Int)/\LB Z A (C+Int.toNat (s0.size:Int)*1) λt128=>R (.B t128) Z)):Nw R s0 s1 p5 n5 c5 x7 Z:=M.of h ok rfl
def XU (h:Br (x9<(s0.size:Int)) (Pq p5 λG A=>In x9 (n5:Int)/\LB Z G (A+x9.toNat*1) λt63=>Bo t63 (∃C:UInt8,0<=x9/\(ByteArray.data s0)[x9.toNat]?=some C/\Br (((C.toNat:Int):Int)=42) (Pq p8 λoM yM=>In x9 (n8:Int)/\AJ prog (Instr.storeAt 4 (.pointer (aD oM (yM+x9.toNat*1))) (.bool true)) Z (λ_ y=>wc R s0 s1 (aD G A) n5 c5 x7 (aD oM yM) n8 c8 x9 y)) (wc R s0 s1 (aD G A) n5 c5 x7 p8 n8 c8 x9 Z)) (wc R s0 s1 (aD G A) n5 c5 x7 p8 n8 c8 x9 Z)) (lV R s0 s1 x7 p8 n8 c8 0 Z)):Yq R s0 s1 p5 n5 c5 x7 p8 n8 c8 x9 Z:=M.of h ok rfl
def ti (h:Br (x10<(s0.size:Int)) (AF (x10+1)/\AF (x10+1)/\Pq p8 λA C=>In (x10+1) (n8:Int)/\LB Z A (C+Int.toNat (x10+1)*1) λt109=>Bo t109 (In (x10+1) (n8:Int)/\AJ prog (Instr.storeAt 4 (.pointer (aD A (C+Int.toNat (x10+1)*1))) (.bool true)) Z (λ_ y=>AF (x10+1)/\lV R s0 s1 x7 (aD A C) n8 c8 (x10+1) y)) (In x10 (n8:Int)/\LB Z A (C+x10.toNat*1) λt114=>Bo t114 (∃G:UInt8,0<=x10/\(ByteArray.data s0)[x10.toNat]?=some G/\In (x10+1) (n8:Int)/\AJ prog (Instr.storeAt 4 (.pointer (aD A (C+Int.toNat (x10+1)*1))) (.bool (decide (((G.toNat:Int):Int)=42)))) Z (λ_ y=>AF (x10+1)/\lV R s0 s1 x7 (aD A C) n8 c8 (x10+1) y)) (In (x10+1) (n8:Int)/\AJ prog (Instr.storeAt 4 (.pointer (aD A (C+Int.toNat (x10+1)*1))) (.bool false)) Z (λ_ y=>AF (x10+1)/\lV R s0 s1 x7 (aD A C) n8 c8 (x10+1) y)))) (AF (x7+1)/\Nw R s0 s1 p8 n8 c8 (x7+1) Z)):lV R s0 s1 x7 p8 n8 c8 x10 Z:=M.of h ok rfl
def AF1 (h:Pq p5 λoQ A=>In x9 (n5:Int)/\LB Z oQ (A+x9.toNat*1) λt76=>Bo t76 (∃u80:UInt8,0<=x9/\(ByteArray.data s0)[x9.toNat]?=some u80/\Br (((u80.toNat:Int):Int)≠42) (∃u86:UInt8,0<=x9/\(ByteArray.data s0)[x9.toNat]?=some u86/\∃u89:UInt8,0<=x7/\(ByteArray.data s1)[x7.toNat]?=some u89/\Br (((u86.toNat:Int):Int)=(u89.toNat:Int)) (AF (x9+1)/\Pq p8 λC G=>In (x9+1) (n8:Int)/\AJ prog (Instr.storeAt 4 (.pointer (aD C (G+Int.toNat (x9+1)*1))) (.bool true)) Z (λ_ y=>Wy R s0 s1 (aD oQ A) n5 c5 x7 (aD C G) n8 c8 x9 y)) (Wy R s0 s1 (aD oQ A) n5 c5 x7 p8 n8 c8 x9 Z)) (Wy R s0 s1 (aD oQ A) n5 c5 x7 p8 n8 c8 x9 Z)) (Wy R s0 s1 (aD oQ A) n5 c5 x7 p8 n8 c8 x9 Z)):wc R s0 s1 p5 n5 c5 x7 p8 n8 c8 x9 Z:=M.of h ok rfl
def XV (h:AF (x9+1)/\Yq R s0 s1 p5 n5 c5 x7 p8 n8 c8 (x9+1) Z):Wy R s0 s1 p5 n5 c5 x7 p8 n8 c8 x9 Z:=M.of h ok rfl
end A8
namespace BU
variable {p0:Option Addr}{n0 c0:Nat}{x1 x8 x9 x10:Int}{v2:Value}
def M:Fw:=⟨prog,191,f191,[],[],false,[],[],[(480,[(0,wL),(1,wI),(2,wV),(8,wI),(9,wI),(10,wI)])]⟩
def ok:M.Ok:=⟨AH.nil,mixed,func191,by kernel_rfl⟩
def AR:=M.pt 0
def start (h:AR R p0 n0 c0 x1 v2 (n0:Int) 0 (n0:Int) Z):Spec prog 191 #[.slice p0 n0 c0,.I x1,v2] Z R:=M.HU h ok [(0,.o (.L p0 n0 c0)),(1,.o (.I .i64 x1)),(2,.o (.V v2))] rfl rfl (by kernel_rfl)
def AM (h:Br (x9<x10) (AF (x9+x10)/\Df (IntKind.u64.wrap (x9+x10)) λWE=>((0:Int)<=1/\1<=((IntKind.bits .u64:Nat):Int))/\Df (WE/2^Int.toNat 1) λLi=>Df (IntKind.i64.wrap Li) λE3=>Pq p0 λdA tT=>In E3 (n0:Int)/\∃lK Yn,Af Z dA (tT+E3.toNat*2) [.I lK,.U Yn]/\∃(f30:Nat) (A C:Array Value),v2=.func (.func f30) A C/\Enters prog f30/\Spec prog f30 (A++#[.agg #[.I lK,.U Yn],.I x1]++C) Z (BV R (CI .i64 λLz y=>Br (Lz<0) (AF (E3+1)/\AR R (aD dA tT) n0 c0 x1 v2 x8 (E3+1) x10 y) (AR R (aD dA tT) n0 c0 x1 v2 x8 x9 E3 y)))) (Br (x9<x8) (Pq p0 λdW o43=>In x9 (n0:Int)/\∃ASp ASq,Af Z dW (o43+x9.toNat*2) [.I ASp,.U ASq]/\∃(f46:Nat) (G AIx:Array Value),v2=.func (.func f46) G AIx/\Enters prog f46/\Spec prog f46 (G++#[.agg #[.I ASp,.U ASq],.I x1]++AIx) Z (BV R (CI .i64 λhY y=>R (.T #[.I x9,(.bool (decide (hY=0)))]) y))) (R (.T #[.I x9,.bool false]) Z))):AR R p0 n0 c0 x1 v2 x8 x9 x10 Z:=M.of h ok rfl
end BU
namespace WI
def M:Fw:=⟨prog,194,f194,[],[],false,[],[],[]⟩
def ok:M.Ok:=⟨AH.nil,mixed,func194,by kernel_rfl⟩
def start (h:Al Z λb1=>R (.returned (.slice (aD b1 0) 5 5)) (Hp.set Z b1 (.cells #[.nilFunc,(.func (.func 231) #[] #[]),(.func (.func 232) #[] #[]),(.func (.func 233) #[] #[]),(.func (.func 234) #[] #[])] 232 (0,0)))):Spec prog 194 #[] Z R:=M.start h ok
end WI
namespace lY
variable {v0:Value}
def M:Fw:=⟨prog,197,f197,[],[],false,[],[],[]⟩
def ok:M.Ok:=⟨AH.nil,mixed,func197,by kernel_rfl⟩
def start (h:EN prog 53 #[v0] Z (CI .u64 λx4 y=>Df (Go.bits .andNot .u64 x4 9223372036854775808) λx5=>EN prog 183 #[.U x5] y (λz A=>∃x6,(Value.float .f64 x6)=z/\R (.returned (Value.float .f64 x6)) A))):Spec prog 197 #[v0] Z R:=M.HU h ok [(0,.o (.V v0))] rfl rfl (by kernel_rfl)
end lY
namespace Gv
variable {p0:Option Addr}{n0 c0:Nat}{x3 x4:Int}
def M:Fw:=⟨prog,207,f207,[205,216,219],[],false,[],[],[(464,[(0,wL),(3,wU),(4,wI)]),(467,[(0,wL),(3,wU),(4,wI)])]⟩
def ok:M.Ok:=⟨.cons call205 (.cons call216 (.cons call219 (AH.nil))),mixed,func207,by kernel_rfl⟩
def AR:=M.pt 0
def VI:=M.pt 1
def start (h:AF ((n0:Int)-1)/\Pq p0 λBu A=>In (((n0:Int)-1)) (n0:Int)/\LI .u64 Z Bu (A+Int.toNat ((n0:Int)-1)*1) λx12=>In 0 (n0:Int)/\LI .u64 Z Bu A λx15=>AG 205 #[.U x12,.U x15] Z R (CI .u64 λx16 y=>AR R (aD Bu A) n0 c0 x16 1 y)):Spec prog 207 #[.slice p0 n0 c0] Z R:=M.start h ok
def AM (h:Br (x4<(n0:Int)) (Pq p0 λC G=>In x4 (n0:Int)/\LI .u64 Z C (G+x4.toNat*1) λLY=>AF (x4-1)/\In (x4-1) (n0:Int)/\LI .u64 Z C (G+Int.toNat (x4-1)*1) λqW=>AG 219 #[.I 7,.U LY,.U qW] Z R (λz y=>∃A AA4,z=(.tuple #[.bool A,.bool AA4])/\Bo A (AF (x4-1)/\In (x4-1) (n0:Int)/\LI .u64 y C (G+Int.toNat (x4-1)*1) λMA=>AG 216 #[.U x3,.U MA] y R (CI .u64 λRq AB=>VI R (aD C G) n0 c0 Rq x4 AB)) (VI R (aD C G) n0 c0 x3 x4 y))) (R (.returned (.U x3)) Z)):AR R p0 n0 c0 x3 x4 Z:=M.of h ok rfl
def NI (h:AF (x4+1)/\AR R p0 n0 c0 x3 (x4+1) Z):VI R p0 n0 c0 x3 x4 Z:=M.of h ok rfl
end Gv
namespace lZ
variable {x0 x1:Int}
def M:Fw:=⟨prog,209,f209,[218],[],false,[],[],[]⟩
def ok:M.Ok:=⟨.cons call218 (AH.nil),mixed,func209,by kernel_rfl⟩
def start (h:AG 218 #[.I 4,.U x0,.U x1] Z R (λz y=>∃GV A,z=(.tuple #[.U GV,.bool A])/\R (.returned (.U GV)) y)):Spec prog 209 #[.U x0,.U x1] Z R:=M.start h ok
end lZ
namespace Hf
variable {p0:Option Addr}{n0 c0:Nat}{s1:ByteArray}
def M:Fw:=⟨prog,214,f214,[240],[],false,[],[],[]⟩
def ok:M.Ok:=⟨.cons call240 (AH.nil),mixed,func214,by kernel_rfl⟩
def start (h:AG 240 #[.slice p0 n0 c0,.string s1] Z R (CI .i64 λx7 y=>R (.returned (.bool (decide (0<=x7)))) y)):Spec prog 214 #[.slice p0 n0 c0,.string s1] Z R:=M.start h ok
end Hf
namespace tj
variable {Ae A1 Bf Bh BM BS:Int}{BW:ByteArray}{CJ B4 p1:Option Addr}{CD CK Bl B8 n1 c1:Nat}{Bj:Bool}
def M:Fw:=⟨prog,222,f222,[162,165,166],[2],false,[],[],[]⟩
def ok:M.Ok:=⟨.cons call162 (.cons call165 (.cons call166 (AH.nil))),mixed,func222,by kernel_rfl⟩
def start (h:∀b2:Nat,Br (BM=3) (AG 165 #[.slice p1 n1 c1,.slice B4 Bl B8] Z R (CS λNk n11 Q3 y=>R (.returned (.slice Nk n11 Q3)) y)) (AG 166 #[.slice p1 n1 c1,.slice B4 Bl B8] Z R (CS λoT n15 iV y=>AG 162 #[.slice oT n15 iV] y R (CS λkz n16 fQ A=>R (.returned (.slice kz n16 fQ)) A)))):Spec prog 222 #[.agg #[.I Ae,.I A1,.string BW,.slice CJ CD CK,.I Bf,.I Bh,.I BM,.slice B4 Bl B8,.bool Bj,.I BS],.slice p1 n1 c1] Z R:=M.start h ok
end tj
namespace Cy
variable {p0:Option Addr}{n0 c0:Nat}{s1:ByteArray}{x7 x8:Int}
def M:Fw:=⟨prog,240,f240,[],[],false,[],[],[(104,[(0,wL),(1,wT),(7,wI),(8,wI)])]⟩
def ok:M.Ok:=⟨AH.nil,mixed,func240,by kernel_rfl⟩
def Sc:=M.pt 0
def start (h:Sc R p0 n0 c0 s1 (n0:Int) 0 Z):Spec prog 240 #[.slice p0 n0 c0,.string s1] Z R:=M.start h ok
def FY (h:Br (x8<x7) (Pq p0 λDL C=>In x8 (n0:Int)/\LT Z DL (C+x8.toNat*1) λA=>Bo (ByteArray.toList s1==ByteArray.toList A) (R (.returned (.I x8)) Z) (AF (x8+1)/\Sc R (aD DL C) n0 c0 s1 x7 (x8+1) Z)) (R (.returned (.I (-1))) Z)):Sc R p0 n0 c0 s1 x7 x8 Z:=M.of h ok rfl
end Cy
namespace la
variable {x0:Int}
def M:Fw:=⟨prog,241,f241,[201],[],false,[],[],[]⟩
def ok:M.Ok:=⟨.cons call201 (AH.nil),mixed,func241,by kernel_rfl⟩
def start (h:AG 201 #[.U x0] Z R (CI .u64 λx4 y=>R (.returned (.bool (decide (x4=9221120237041090560)))) y)):Spec prog 241 #[.U x0] Z R:=M.start h ok
end la
namespace EX
variable {t0:Bool}
def M:Fw:=⟨prog,285,f285,[],[],false,[],[],[]⟩
def ok:M.Ok:=⟨AH.nil,mixed,func285,by kernel_rfl⟩
def start (h:Bo t0 (R (.returned (.U 1)) Z) (R (.returned (.U 0)) Z)):Spec prog 285 #[.bool t0] Z R:=M.start h ok
end EX
namespace Ko
variable {s0 s1:ByteArray}
def M:Fw:=⟨prog,291,f291,[314],[],false,[],[],[]⟩
def ok:M.Ok:=⟨.cons call314 (AH.nil),mixed,func291,by kernel_rfl⟩
def start (h:AG 314 #[.string s0,.string s1] Z R (CB λt7 y=>R (.B t7) y)):Spec prog 291 #[.string s0,.string s1] Z R:=M.start h ok
end Ko
end TwW
end
end
section
set_option maxRecDepth 100000
noncomputable section
namespace TwW
open Go Tw Go.Proofs.Tryz
variable [HL]{R:Rr}{Z:Hp}

namespace Ci
variable {p0 p1:Option Addr}{n0 c0 n1 c1:Nat}{x5:Int}
def M:Fw:=⟨prog,11,f11,[30,31],[7],false,[(6,11,false)],[],[(464,[(0,wL),(1,wL),(5,wI)])]⟩
def ok:M.Ok:=⟨.cons call30 (.cons call31 (AH.nil)),mixed,func11,by kernel_rfl⟩
def Au:=M.pt 0
def start (h:Br ((n0:Int)≠(n1:Int)) (R (.B false) Z) (Au R p0 n0 c0 p1 n1 c1 0 Z)):Spec prog 11 #[.slice p0 n0 c0,.slice p1 n1 c1] Z R:=M.start h ok
def Aq (h:Br (x5<(n0:Int)) (Pq p0 λyT G=>In x5 (n0:Int)/\∃AMf AMg AMh AMi AMj AMk AMl AMm AMn AMo AMp AMq AMr AMs,Af Z yT (G+x5.toNat*10) [.I AMf,.I AMg,.string AMh,.slice AMi AMj AMk,.I AMl,.I AMm,.I AMn,.slice AMo AMp AMq,.bool AMr,.I AMs]/\Pq p1 λIG Q8=>In x5 (n1:Int)/\∃VN iM iN iO iP iQ QI QJ iR iS iT iU az bA,Af Z IG (Q8+x5.toNat*10) [.I VN,.I iM,.string iN,.slice iO iP iQ,.I QI,.I QJ,.I iR,.slice iS iT iU,.bool az,.I bA]/\(Al Z λb6=>∀b7:Nat,AJ prog (Instr.storeAt 44 (.pointer (aD b6 0)) (.agg #[.I AMf,.I AMg,.string AMh,.slice AMi AMj AMk,.I AMl,.I AMm,.I AMn,.slice AMo AMp AMq,.bool AMr,.I AMs])) (Hp.set Z b6 (.cells #[.I 0,.I 0,(.string (ByteArray.mk #[])),.N,.I 0,.I 0,.I 0,.N,.bool false,.I 0] 44 (0,0))) (λ_ y=>Kp [IG] (Hp.set Z b6 (.cells #[.I 0,.I 0,(.string (ByteArray.mk #[])),.N,.I 0,.I 0,.I 0,.N,.bool false,.I 0] 44 (0,0))) y/\LI .i64 y b6 0 λKj=>Br (Kj≠VN) (R (.B false) y) (LI .i64 y b6 1 λUX=>Br (UX≠iM) (R (.B false) y) (LT y b6 2 λs41=>Bn (ByteArray.toList s41==ByteArray.toList iN) (R (.B false) y) (LS y b6 3 λp48 n48 c48=>AG 30 #[.slice p48 n48 c48,.slice iO iP iQ] y R (CB λt51 C=>Bn t51 (R (.B false) C) (LI .i64 C b6 4 λtJ=>Br (tJ≠QI) (R (.B false) C) (LI .i64 C b6 5 λJp=>Br (Jp≠QJ) (R (.B false) C) (LI .i64 C b6 6 λzu=>Br (zu≠iR) (R (.B false) C) (LS C b6 7 λp77 n77 c77=>AG 31 #[.slice p77 n77 c77,.slice iS iT iU] C R (CB λt80 A=>Bn t80 (R (.B false) A) (LB A b6 8 λt85=>Bo t85 (Bo az (LI .i64 A b6 9 λqK=>Br (qK≠bA) (R (.B false) A) (AF (x5+1)/\Au R (aD yT G) n0 c0 (aD IG Q8) n1 c1 (x5+1) A)) (R (.B false) A)) (Bo az (R (.B false) A) (LI .i64 A b6 9 λqK=>Br (qK≠bA) (R (.B false) A) (AF (x5+1)/\Au R (aD yT G) n0 c0 (aD IG Q8) n1 c1 (x5+1) A)))))))))))))))/\(∀b7:Nat,Al Z λb6=>AJ prog (Instr.storeAt 44 (.pointer (aD b6 0)) (.agg #[.I AMf,.I AMg,.string AMh,.slice AMi AMj AMk,.I AMl,.I AMm,.I AMn,.slice AMo AMp AMq,.bool AMr,.I AMs])) (Hp.set Z b6 (.cells #[.I 0,.I 0,(.string (ByteArray.mk #[])),.N,.I 0,.I 0,.I 0,.N,.bool false,.I 0] 44 (0,0))) (λ_ y=>Kp [IG] (Hp.set Z b6 (.cells #[.I 0,.I 0,(.string (ByteArray.mk #[])),.N,.I 0,.I 0,.I 0,.N,.bool false,.I 0] 44 (0,0))) y/\LI .i64 y b6 0 λKj=>Br (Kj≠VN) (R (.B false) y) (LI .i64 y b6 1 λUX=>Br (UX≠iM) (R (.B false) y) (LT y b6 2 λs41=>Bn (ByteArray.toList s41==ByteArray.toList iN) (R (.B false) y) (LS y b6 3 λp48 n48 c48=>AG 30 #[.slice p48 n48 c48,.slice iO iP iQ] y R (CB λt51 C=>Bn t51 (R (.B false) C) (LI .i64 C b6 4 λtJ=>Br (tJ≠QI) (R (.B false) C) (LI .i64 C b6 5 λJp=>Br (Jp≠QJ) (R (.B false) C) (LI .i64 C b6 6 λzu=>Br (zu≠iR) (R (.B false) C) (LS C b6 7 λp77 n77 c77=>AG 31 #[.slice p77 n77 c77,.slice iS iT iU] C R (CB λt80 A=>Bn t80 (R (.B false) A) (LB A b6 8 λt85=>Bo t85 (Bo az (LI .i64 A b6 9 λqK=>Br (qK≠bA) (R (.B false) A) (AF (x5+1)/\Au R (aD yT G) n0 c0 (aD IG Q8) n1 c1 (x5+1) A)) (R (.B false) A)) (Bo az (R (.B false) A) (LI .i64 A b6 9 λqK=>Br (qK≠bA) (R (.B false) A) (AF (x5+1)/\Au R (aD yT G) n0 c0 (aD IG Q8) n1 c1 (x5+1) A)))))))))))))))) (R (.B true) Z)):Au R p0 n0 c0 p1 n1 c1 x5 Z:=M.of h ok rfl
end Ci
namespace WJ
def M:Fw:=⟨prog,14,f14,[8,9,16,33,36],[],false,[],[],[]⟩
def ok:M.Ok:=⟨.cons call8 (.cons call9 (.cons call16 (.cons call33 (.cons call36 (AH.nil))))),mixed,func14,by kernel_rfl⟩
def start (h:Al Z λBu=>AG 36 #[.float .f64 4607182418800017408] (Hp.set Z Bu (.cells #[(.string (ByteArray.mk #[95,95,110,97,109,101,95,95])),(.string (ByteArray.mk #[120])),(.string (ByteArray.mk #[97])),(.string (ByteArray.mk #[49]))] 71 (0,0))) R (CI .u64 λx12 y=>AG 36 #[.float .f64 4613937818241073152] y R (CI .u64 λN2 AB=>Al AB λHy=>Al (Hp.set AB Hy (.cells #[.I 0,.U x12,.I 60,.U N2] 61 (0,0))) λlD=>AG 36 #[.float .f64 4617315517961601024] (Hp.set (Hp.set AB Hy (.cells #[.I 0,.U x12,.I 60,.U N2] 61 (0,0))) lD (.cells #[(.string (ByteArray.mk #[95,95,110,97,109,101,95,95])),(.string (ByteArray.mk #[120])),(.string (ByteArray.mk #[97])),(.string (ByteArray.mk #[50]))] 71 (0,0))) R (CI .u64 λWE AK=>Al AK λC=>Al (Hp.set AK C (.cells #[.I 60,.U WE] 61 (0,0))) λIG=>Al (Hp.set (Hp.set AK C (.cells #[.I 60,.U WE] 61 (0,0))) IG (.cells #[(.slice (aD Bu 0) 2 2),(.slice (aD Hy 0) 2 2),(.slice (aD lD 0) 2 2),(.slice (aD C 0) 1 1)] 51 (0,0))) λdA=>Al (Hp.set (Hp.set (Hp.set AK C (.cells #[.I 60,.U WE] 61 (0,0))) IG (.cells #[(.slice (aD Bu 0) 2 2),(.slice (aD Hy 0) 2 2),(.slice (aD lD 0) 2 2),(.slice (aD C 0) 1 1)] 51 (0,0))) dA (.cells #[.I 1,(.string (ByteArray.mk #[95,95,110,97,109,101,95,95])),(.string (ByteArray.mk #[120]))] 75 (0,0))) λjx=>AG 8 #[(.slice (aD jx 0) 2 2),(.slice (aD IG 0) 2 2),.I 60] (Hp.set (Hp.set (Hp.set (Hp.set AK C (.cells #[.I 60,.U WE] 61 (0,0))) IG (.cells #[(.slice (aD Bu 0) 2 2),(.slice (aD Hy 0) 2 2),(.slice (aD lD 0) 2 2),(.slice (aD C 0) 1 1)] 51 (0,0))) dA (.cells #[.I 1,(.string (ByteArray.mk #[95,95,110,97,109,101,95,95])),(.string (ByteArray.mk #[120]))] 75 (0,0))) jx (.cells #[.I 2,.I 0,(.string (ByteArray.mk #[])),(.slice (aD dA 0) 1 1),.I 0,.I 0,.I 0,.N,.bool false,.I 0,.I 5,.I 1,(.string (ByteArray.mk #[])),.N,.I 0,.I 0,.I 0,.N,.bool false,.I 1] 44 (0,0))) R (λz AX=>∃ASs A Abs ABP,z=(.tuple #[.slice ASs A Abs,.I ABP])/\AG 16 #[(.slice (aD jx 0) 2 2),(.slice (aD IG 0) 2 2),.I 0,.I 60,.I 60] AX R (λz DK=>∃lf iX qd qe,z=(.tuple #[.slice lf iX qd,.I qe])/\AG 9 #[(.slice (aD jx 0) 2 2)] DK R (λz GK=>∃ASt ASu,z=(.tuple #[.I ASt,.I ASu])/\Br (ABP=0) (Br ((A:Int)=1) (Pq ASs λRY o57=>In 0 (A:Int)/\LS GK RY (o57+1) λp59 n59 c59=>AG 36 #[.float .f64 4620693217682128896] GK R (CI .u64 λqH RR=>Kp [RY] GK RR/\Al RR λte=>AG 33 #[.slice p59 n59 c59,(.slice (aD te 0) 1 1)] (Hp.set RR te (.cells #[.I 60,.U qH] 61 (0,0))) R (CB λt63 G=>Bo t63 (Br (qe=0) (Br ((iX:Int)=1) (Pq lf λb76 o76=>In 0 (iX:Int)/\LS G b76 (o76+1) λyP wO yQ=>Br ((wO:Int)=2) (Br (ASt=300) (R (.returned (.bool (decide (ASu=0)))) G) (R (.B false) G)) (R (.B false) G)) (R (.B false) G)) (R (.B false) G)) (R (.B false) G)))) (R (.B false) GK)) (R (.B false) GK)))))))):Spec prog 14 #[] Z R:=M.start h ok
end WJ
namespace Nq
variable {p0:Option Addr}{n0 c0:Nat}
def M:Fw:=⟨prog,23,f23,[],[],false,[],[],[]⟩
def ok:M.Ok:=⟨AH.nil,mixed,func23,by kernel_rfl⟩
def start (h:Al Z λb3=>AJ prog (Builtin.append_ #[47,47] 47 #[(.slice (aD b3 0) 0 0),.slice p0 n0 c0]) (Hp.set Z b3 (.cells #[] 71 (0,0))) (CS λp5 n5 c5 y=>R (.returned (.slice p5 n5 c5)) y)):Spec prog 23 #[.slice p0 n0 c0] Z R:=M.start h ok
end Nq
namespace Nr
variable {p0:Option Addr}{n0 c0:Nat}
def M:Fw:=⟨prog,24,f24,[],[],false,[],[],[]⟩
def ok:M.Ok:=⟨AH.nil,mixed,func24,by kernel_rfl⟩
def start (h:Al Z λb3=>AJ prog (Builtin.append_ #[49,49] 49 #[(.slice (aD b3 0) 0 0),.slice p0 n0 c0]) (Hp.set Z b3 (.cells #[] 61 (0,0))) (CS λp5 n5 c5 y=>R (.returned (.slice p5 n5 c5)) y)):Spec prog 24 #[.slice p0 n0 c0] Z R:=M.start h ok
end Nr
namespace fV
variable {x0:Int}
def M:Fw:=⟨prog,26,f26,[],[],false,[],[],[]⟩
def ok:M.Ok:=⟨AH.nil,mixed,func26,by kernel_rfl⟩
def start (h:Br (((-1099511627776):Int)<=x0) (R (.returned (.bool (decide (x0<=1099511627776)))) Z) (R (.B false) Z)):Spec prog 26 #[.I x0] Z R:=M.start h ok
end fV
namespace I6
variable {p0 p5:Option Addr}{n0 c0 n5 c5:Nat}{x6:Int}
def M:Fw:=⟨prog,29,f29,[49,50,51,52],[],false,[],[],[(464,[(0,wL),(5,wL),(6,wI)])]⟩
def ok:M.Ok:=⟨.cons call49 (.cons call50 (.cons call51 (.cons call52 (AH.nil)))),mixed,func29,by kernel_rfl⟩
def AR:=M.pt 0
def start (h:AR R p0 n0 c0 none 0 0 0 Z):Spec prog 29 #[.slice p0 n0 c0] Z R:=M.start h ok
def AM (h:Br (x6<(n0:Int)) (Pq p0 λKh M1=>In x6 (n0:Int)/\LI .i64 Z Kh (M1+x6.toNat*10) λIg=>AG 49 #[.I Ig] Z R (CI .i64 λA y=>Br (A<0) (R (.T #[.I 0,.I x6,.I 190]) y) (Br ((n5:Int)<A) (R (.T #[.I 0,.I x6,.I 190]) y) (In x6 (n0:Int)/\∃ASv C ASw ASx ASy ASz AS0 AS1 AS2 AS3 AS4 AS5 AS6 AS7,Af y Kh (M1+x6.toNat*10) [.I ASv,.I C,.string ASw,.slice ASx ASy ASz,.I AS0,.I AS1,.I AS2,.slice AS3 AS4 AS5,.bool AS6,.I AS7]/\AG 50 #[.agg #[.I ASv,.I C,.string ASw,.slice ASx ASy ASz,.I AS0,.I AS1,.I AS2,.slice AS3 AS4 AS5,.bool AS6,.I AS7]] y R (CB λt35 AB=>Bn t35 (R (.T #[.I 0,.I x6,.I 190]) AB) (In x6 (n0:Int)/\LS AB Kh ((M1+x6.toNat*10)+3) λjq n43 jr=>AG 51 #[.slice jq n43 jr] AB R (CI .i64 λWr AK=>Br (Wr≠0) (R (.T #[.I 0,.I x6,.I 193]) AK) (In x6 (n0:Int)/\∃AF2 we AS8 AS9 ATA ATB ATC ATD ATE ATF ATG ATH ATI ATJ,Af AK Kh (M1+x6.toNat*10) [.I AF2,.I we,.string AS8,.slice AS9 ATA ATB,.I ATC,.I ATD,.I ATE,.slice ATF ATG ATH,.bool ATI,.I ATJ]/\AF ((n5:Int)-A)/\((0:Int)<=((n5:Int)-A)/\((n5:Int)-A)<=(n5:Int))/\AG 52 #[.agg #[.I AF2,.I we,.string AS8,.slice AS9 ATA ATB,.I ATC,.I ATD,.I ATE,.slice ATF ATG ATH,.bool ATI,.I ATJ],(.slice (Mp p5 (Int.toNat ((n5:Int)-A)) c5 1) (n5-Int.toNat ((n5:Int)-A)) (c5-Int.toNat ((n5:Int)-A)))] AK R (λz AX=>∃G wg,z=(.tuple #[.I G,.I wg])/\Br (wg≠0) (R (.T #[.I 0,.I x6,.I wg]) AX) (AF ((n5:Int)-A)/\((0:Int)<=((n5:Int)-A)/\((n5:Int)-A)<=(c5:Int))/\Al AX λoM=>AJ prog (Builtin.append_ #[110,110] 110 #[(.slice p5 (Int.toNat ((n5:Int)-A)) c5),(.slice (aD oM 0) 1 1)]) (Hp.set AX oM (.cells #[.I G] 3 (0,0))) (CS λp73 n73 c73 DK=>AF (x6+1)/\AR R (aD Kh M1) n0 c0 p73 n73 c73 (x6+1) DK))))))))))) (Br ((n5:Int)≠1) (R (.T #[.I 0,(.I (n0:Int)),.I 190]) Z) (Br (4096<(n0:Int)) (R (.T #[.I 0,(.I (n0:Int)),.I 190]) Z) (Pq p5 λb85 o85=>In 0 (n5:Int)/\LI .i64 Z b85 o85 λx86=>R (.T #[.I x86,.I 0,.I 0]) Z)))):AR R p0 n0 c0 p5 n5 c5 x6 Z:=M.of h ok rfl
end I6
namespace Dl
variable {p0 p6:Option Addr}{n0 c0 n6 c6:Nat}{x4 x7:Int}
def M:Fw:=⟨prog,37,f37,[18,54],[],false,[],[],[(208,[(0,wL),(4,wI)]),(976,[(0,wL),(6,wL),(7,wI)])]⟩
def ok:M.Ok:=⟨.cons call18 (.cons call54 (AH.nil)),mixed,func37,by kernel_rfl⟩
def E5:=M.pt 0
def VD:=M.pt 1
def start (h:E5 R p0 n0 c0 0 Z):Spec prog 37 #[.slice p0 n0 c0] Z R:=M.start h ok
def Ag (h:Br (x4<(n0:Int)) (Pq p0 λHy Ru=>In x4 (n0:Int)/\LS Z Hy (Ru+x4.toNat*1) λG C A=>AG 18 #[.slice G C A] Z R (CI .i64 λUc y=>Br (Uc≠0) (R (.T #[.N,.I Uc]) y) (AF (x4+1)/\E5 R (aD Hy Ru) n0 c0 (x4+1) y))) (VD R p0 n0 c0 none 0 0 0 Z)):E5 R p0 n0 c0 x4 Z:=M.of h ok rfl
def Jd (h:Br (x7<(n0:Int)) (Pq p0 λtP tQ=>In x7 (n0:Int)/\LS Z tP (tQ+x7.toNat*1) λG C A=>AG 54 #[.slice p6 n6 c6,.slice G C A] Z R (CS λp33 n33 c33 y=>AF (x7+1)/\VD R (aD tP tQ) n0 c0 p33 n33 c33 (x7+1) y)) (R (.T #[.slice p6 n6 c6,.I 0]) Z)):VD R p0 n0 c0 p6 n6 c6 x7 Z:=M.of h ok rfl
end Dl
namespace DP
variable {p0:Option Addr}{n0 c0:Nat}{x3:Int}
def M:Fw:=⟨prog,43,f43,[63,64],[],false,[(10,17,true)],[],[(464,[(0,wL),(3,wI)])]⟩
def ok:M.Ok:=⟨.cons call63 (.cons call64 (AH.nil)),mixed,func43,by kernel_rfl⟩
def Au:=M.pt 0
def start (h:Br (16<(n0:Int)) (R (.returned (.I 30)) Z) (Au R p0 n0 c0 0 Z)):Spec prog 43 #[.slice p0 n0 c0] Z R:=M.start h ok
def Aq (h:Br (x3<(n0:Int)) (Pq p0 λC G=>In x3 (n0:Int)/\LT Z C (G+x3.toNat*2) λs18=>AG 63 #[.string s18] Z R (CB λt19 y=>Bn t19 (R (.returned (.I 31)) y) (In x3 (n0:Int)/\LT y C ((G+x3.toNat*2)+1) λs26=>AG 64 #[.string s26] y R (CB λt27 A=>Bn t27 (R (.returned (.I 32)) A) (Br (0<x3) (In x3 (n0:Int)/\LT A C (G+x3.toNat*2) λs37=>AF (x3-1)/\In (x3-1) (n0:Int)/\LT A C (G+Int.toNat (x3-1)*2) λs43=>∃t44,YF prog ((do eqGuard .leq 9 (.tmp 37) (.tmp 43) (.string s37) (.string s43);binOp .leq 9 (.string s37) (.string s43))) A (.bool t44)/\Bo t44 (R (.returned (.I 33)) A) (AF (x3+1)/\Au R (aD C G) n0 c0 (x3+1) A)) (AF (x3+1)/\Au R (aD C G) n0 c0 (x3+1) A)))))) (R (.returned (.I 0)) Z)):Au R p0 n0 c0 x3 Z:=M.of h ok rfl
end DP
namespace IK
variable {Ae A1 Bf Bh BM BS By BQ FN FO D9 ET:Int}{BW FP:ByteArray}{CJ B4 Fm GG:Option Addr}{CD CK Bl B8 Fo Fp Fq GH:Nat}{Bj EU:Bool}
def M:Fw:=⟨prog,50,f50,[49,84,85,86],[1],false,[],[],[(60,[(1,.X 44 [.I .i64,.I .i64,.T,.L,.I .i64,.I .i64,.I .i64,.L,.B,.I .i64])]),(124,[(1,.X 44 [.I .i64,.I .i64,.T,.L,.I .i64,.I .i64,.I .i64,.L,.B,.I .i64])])]⟩
def ok:M.Ok:=⟨.cons call49 (.cons call84 (.cons call85 (.cons call86 (AH.nil)))),mixed,func50,by kernel_rfl⟩
def CY:=M.pt 0
def JK:=M.pt 1
def start (h:∀b1:Nat,Br (Ae=2) (AG 49 #[.I Ae] Z R (CI .i64 λx17 y=>Br (BS≠x17) (R (.B false) y) (AG 84 #[.slice B4 Bl B8] y R (CB λt22 A=>Bn t22 (R (.B false) A) (Br (BM=0) (Br (0<(Bl:Int)) (R (.B false) A) (Br (Ae≠3) (Br (Bf≠0) (R (.B false) A) (Br (Ae≠1) (Bn ((ByteArray.toList BW==ByteArray.toList (ByteArray.mk #[]))) (R (.B false) A) (Br (Ae≠6) (Bo Bj (R (.B false) A) (CY R Ae A1 BW CJ CD CK Bf Bh BM B4 Bl B8 false BS A)) (CY R Ae A1 BW CJ CD CK Bf Bh BM B4 Bl B8 Bj BS A))) (Br (Ae≠6) (Bo Bj (R (.B false) A) (CY R Ae A1 BW CJ CD CK Bf Bh BM B4 Bl B8 false BS A)) (CY R Ae A1 BW CJ CD CK Bf Bh BM B4 Bl B8 Bj BS A)))) (Br (Ae≠1) (Bn ((ByteArray.toList BW==ByteArray.toList (ByteArray.mk #[]))) (R (.B false) A) (Br (Ae≠6) (Bo Bj (R (.B false) A) (CY R Ae A1 BW CJ CD CK Bf Bh BM B4 Bl B8 false BS A)) (CY R Ae A1 BW CJ CD CK Bf Bh BM B4 Bl B8 Bj BS A))) (Br (Ae≠6) (Bo Bj (R (.B false) A) (CY R Ae A1 BW CJ CD CK Bf Bh BM B4 Bl B8 false BS A)) (CY R Ae A1 BW CJ CD CK Bf Bh BM B4 Bl B8 Bj BS A))))) (Br (Ae≠3) (Br (Bf≠0) (R (.B false) A) (Br (Ae≠1) (Bn ((ByteArray.toList BW==ByteArray.toList (ByteArray.mk #[]))) (R (.B false) A) (Br (Ae≠6) (Bo Bj (R (.B false) A) (CY R Ae A1 BW CJ CD CK Bf Bh BM B4 Bl B8 false BS A)) (CY R Ae A1 BW CJ CD CK Bf Bh BM B4 Bl B8 Bj BS A))) (Br (Ae≠6) (Bo Bj (R (.B false) A) (CY R Ae A1 BW CJ CD CK Bf Bh BM B4 Bl B8 false BS A)) (CY R Ae A1 BW CJ CD CK Bf Bh BM B4 Bl B8 Bj BS A)))) (Br (Ae≠1) (Bn ((ByteArray.toList BW==ByteArray.toList (ByteArray.mk #[]))) (R (.B false) A) (Br (Ae≠6) (Bo Bj (R (.B false) A) (CY R Ae A1 BW CJ CD CK Bf Bh BM B4 Bl B8 false BS A)) (CY R Ae A1 BW CJ CD CK Bf Bh BM B4 Bl B8 Bj BS A))) (Br (Ae≠6) (Bo Bj (R (.B false) A) (CY R Ae A1 BW CJ CD CK Bf Bh BM B4 Bl B8 false BS A)) (CY R Ae A1 BW CJ CD CK Bf Bh BM B4 Bl B8 Bj BS A))))))))) (AG 49 #[.I Ae] Z R (CI .i64 λx17 y=>Br (BS≠x17) (R (.B false) y) (AG 84 #[.slice B4 Bl B8] y R (CB λt22 A=>Bn t22 (R (.B false) A) (Br (BM=0) (Br (0<(Bl:Int)) (R (.B false) A) (Bm (Ae=3) (Br (0<(CD:Int)) (R (.B false) A) (Br (Bh≠0) (R (.B false) A) (Br (Ae≠3) (Br (Bf≠0) (R (.B false) A) (Br (Ae≠1) (Bn ((ByteArray.toList BW==ByteArray.toList (ByteArray.mk #[]))) (R (.B false) A) (Br (Ae≠6) (Bo Bj (R (.B false) A) (CY R Ae A1 BW CJ CD CK Bf Bh BM B4 Bl B8 false BS A)) (CY R Ae A1 BW CJ CD CK Bf Bh BM B4 Bl B8 Bj BS A))) (Br (Ae≠6) (Bo Bj (R (.B false) A) (CY R Ae A1 BW CJ CD CK Bf Bh BM B4 Bl B8 false BS A)) (CY R Ae A1 BW CJ CD CK Bf Bh BM B4 Bl B8 Bj BS A)))) (Br (Ae≠1) (Bn ((ByteArray.toList BW==ByteArray.toList (ByteArray.mk #[]))) (R (.B false) A) (Br (Ae≠6) (Bo Bj (R (.B false) A) (CY R Ae A1 BW CJ CD CK Bf Bh BM B4 Bl B8 false BS A)) (CY R Ae A1 BW CJ CD CK Bf Bh BM B4 Bl B8 Bj BS A))) (Br (Ae≠6) (Bo Bj (R (.B false) A) (CY R Ae A1 BW CJ CD CK Bf Bh BM B4 Bl B8 false BS A)) (CY R Ae A1 BW CJ CD CK Bf Bh BM B4 Bl B8 Bj BS A)))))) (Br (Ae≠3) (Br (Bf≠0) (R (.B false) A) (Br (Ae≠1) (Bn ((ByteArray.toList BW==ByteArray.toList (ByteArray.mk #[]))) (R (.B false) A) (Br (Ae≠6) (Bo Bj (R (.B false) A) (CY R Ae A1 BW CJ CD CK Bf Bh BM B4 Bl B8 false BS A)) (CY R Ae A1 BW CJ CD CK Bf Bh BM B4 Bl B8 Bj BS A))) (Br (Ae≠6) (Bo Bj (R (.B false) A) (CY R Ae A1 BW CJ CD CK Bf Bh BM B4 Bl B8 false BS A)) (CY R Ae A1 BW CJ CD CK Bf Bh BM B4 Bl B8 Bj BS A)))) (Br (Ae≠1) (Bn ((ByteArray.toList BW==ByteArray.toList (ByteArray.mk #[]))) (R (.B false) A) (Br (Ae≠6) (Bo Bj (R (.B false) A) (CY R Ae A1 BW CJ CD CK Bf Bh BM B4 Bl B8 false BS A)) (CY R Ae A1 BW CJ CD CK Bf Bh BM B4 Bl B8 Bj BS A))) (Br (Ae≠6) (Bo Bj (R (.B false) A) (CY R Ae A1 BW CJ CD CK Bf Bh BM B4 Bl B8 false BS A)) (CY R Ae A1 BW CJ CD CK Bf Bh BM B4 Bl B8 Bj BS A)))))) (Bm (Ae=3) (Br (0<(CD:Int)) (R (.B false) A) (Br (Bh≠0) (R (.B false) A) (Br (Ae≠3) (Br (Bf≠0) (R (.B false) A) (Br (Ae≠1) (Bn ((ByteArray.toList BW==ByteArray.toList (ByteArray.mk #[]))) (R (.B false) A) (Br (Ae≠6) (Bo Bj (R (.B false) A) (CY R Ae A1 BW CJ CD CK Bf Bh BM B4 Bl B8 false BS A)) (CY R Ae A1 BW CJ CD CK Bf Bh BM B4 Bl B8 Bj BS A))) (Br (Ae≠6) (Bo Bj (R (.B false) A) (CY R Ae A1 BW CJ CD CK Bf Bh BM B4 Bl B8 false BS A)) (CY R Ae A1 BW CJ CD CK Bf Bh BM B4 Bl B8 Bj BS A)))) (Br (Ae≠1) (Bn ((ByteArray.toList BW==ByteArray.toList (ByteArray.mk #[]))) (R (.B false) A) (Br (Ae≠6) (Bo Bj (R (.B false) A) (CY R Ae A1 BW CJ CD CK Bf Bh BM B4 Bl B8 false BS A)) (CY R Ae A1 BW CJ CD CK Bf Bh BM B4 Bl B8 Bj BS A))) (Br (Ae≠6) (Bo Bj (R (.B false) A) (CY R Ae A1 BW CJ CD CK Bf Bh BM B4 Bl B8 false BS A)) (CY R Ae A1 BW CJ CD CK Bf Bh BM B4 Bl B8 Bj BS A)))))) (Br (Ae≠3) (Br (Bf≠0) (R (.B false) A) (Br (Ae≠1) (Bn ((ByteArray.toList BW==ByteArray.toList (ByteArray.mk #[]))) (R (.B false) A) (Br (Ae≠6) (Bo Bj (R (.B false) A) (CY R Ae A1 BW CJ CD CK Bf Bh BM B4 Bl B8 false BS A)) (CY R Ae A1 BW CJ CD CK Bf Bh BM B4 Bl B8 Bj BS A))) (Br (Ae≠6) (Bo Bj (R (.B false) A) (CY R Ae A1 BW CJ CD CK Bf Bh BM B4 Bl B8 false BS A)) (CY R Ae A1 BW CJ CD CK Bf Bh BM B4 Bl B8 Bj BS A)))) (Br (Ae≠1) (Bn ((ByteArray.toList BW==ByteArray.toList (ByteArray.mk #[]))) (R (.B false) A) (Br (Ae≠6) (Bo Bj (R (.B false) A) (CY R Ae A1 BW CJ CD CK Bf Bh BM B4 Bl B8 false BS A)) (CY R Ae A1 BW CJ CD CK Bf Bh BM B4 Bl B8 Bj BS A))) (Br (Ae≠6) (Bo Bj (R (.B false) A) (CY R Ae A1 BW CJ CD CK Bf Bh BM B4 Bl B8 false BS A)) (CY R Ae A1 BW CJ CD CK Bf Bh BM B4 Bl B8 Bj BS A))))))))))):Spec prog 50 #[.agg #[.I Ae,.I A1,.string BW,.slice CJ CD CK,.I Bf,.I Bh,.I BM,.slice B4 Bl B8,.bool Bj,.I BS]] Z R:=M.start h ok
def XW (h:Br (By≠5) (Br (By≠6) (Br (D9≠0) (R (.B false) Z) (JK R By BQ FP Fm Fo Fp FN FO D9 GG Fq GH EU ET Z)) (JK R By BQ FP Fm Fo Fp FN FO D9 GG Fq GH EU ET Z)) (JK R By BQ FP Fm Fo Fp FN FO D9 GG Fq GH EU ET Z)):CY R By BQ FP Fm Fo Fp FN FO D9 GG Fq GH EU ET Z:=M.oJ h ok rfl λ_=>by kernel_rfl
def Gn (h:Br (By=1) (Br (BQ=0) (AG 85 #[.string FP] Z R (CB λt103 y=>R (.B t103) y)) (R (.B false) Z)) (Br (By=2) (Br (BQ=0) (AG 86 #[.I FO,.I 0] Z R (CB λt113 y=>R (.B t113) y)) (R (.B false) Z)) (Br (By=3) (Br (BQ=0) (AG 86 #[.I FO,.I 0] Z R (CB λt123 y=>Bo t123 (AG 86 #[.I FN,.I 1] y R (CB λt128 A=>R (.B t128) A)) (R (.B false) y))) (R (.B false) Z)) (Br (By=4) (Br (1<=BQ) (R (.returned (.bool (decide (BQ<=12)))) Z) (R (.B false) Z)) (Br (By=5) (Br (1<=BQ) (Br (BQ<=5) (Br (0<=D9) (R (.returned (.bool (decide (D9<=2)))) Z) (R (.B false) Z)) (R (.B false) Z)) (R (.B false) Z)) (Br (By=7) (R (.returned (.bool (decide (BQ=0)))) Z) (Br (5<=BQ) (Br (1<=BQ) (Br (BQ<=13) (Br (D9=0) (Br (BQ<=10) (R (.B true) Z) (R (.returned (.bool (!EU))) Z)) (Br (D9=3) (Br (BQ<=10) (R (.B true) Z) (R (.returned (.bool (!EU))) Z)) (Br (D9=4) (Br (BQ<=10) (R (.B true) Z) (R (.returned (.bool (!EU))) Z)) (R (.B false) Z)))) (R (.B false) Z)) (R (.B false) Z)) (Br (1<=BQ) (Br (BQ<=13) (Br (D9=0) (R (.returned (.bool (!EU))) Z) (Br (D9=3) (R (.returned (.bool (!EU))) Z) (Br (D9=4) (R (.returned (.bool (!EU))) Z) (R (.B false) Z)))) (R (.B false) Z)) (R (.B false) Z))))))))):JK R By BQ FP Fm Fo Fp FN FO D9 GG Fq GH EU ET Z:=M.oJ h ok rfl λ_=>by kernel_rfl
end IK
namespace Ns
variable {s0a oL s1a s1b:ByteArray}
def M:Fw:=⟨prog,60,f60,[61,62],[2,3],false,[],[],[]⟩
def ok:M.Ok:=⟨.cons call61 (.cons call62 (AH.nil)),mixed,func60,by kernel_rfl⟩
def start (h:∀b2:Nat,∀b3:Nat,AG 62 #[.string s0a,.string s1a] Z R (CI .i64 λx9 y=>AG 62 #[.string oL,.string s1b] y R (CI .i64 λN2 C=>Al C λA=>AG 61 #[(.slice (aD A 0) 2 2)] (Hp.set C A (.cells #[.I x9,.I N2] 3 (0,0))) R (CI .i64 λx16 G=>R (.returned (.I x16)) G)))):Spec prog 60 #[.agg #[.string s0a,.string oL],.agg #[.string s1a,.string s1b]] Z R:=M.start h ok
end Ns
namespace KB
variable {p0 p6:Option Addr}{n0 c0 n6 c6:Nat}{x3 x7 x8:Int}
def M:Fw:=⟨prog,61,f61,[],[],false,[],[],[(232,[(3,wI),(6,wL),(7,wI),(8,wI)])]⟩
def ok:M.Ok:=⟨AH.nil,mixed,func61,by kernel_rfl⟩
def B9:=M.pt 0
def start (h:B9 R 0 p0 n0 c0 (n0:Int) 0 Z):Spec prog 61 #[.slice p0 n0 c0] Z R:=M.start h ok
def As (h:Br (x8<x7) (Pq p6 λE2 A=>In x8 (n6:Int)/\LI .i64 Z E2 (A+x8.toNat*1) λx11=>Br (x11≠x3) (R (.returned (.I x11)) Z) (AF (x8+1)/\B9 R x3 (aD E2 A) n6 c6 x7 (x8+1) Z)) (R (.returned (.I x3)) Z)):B9 R x3 p6 n6 c6 x7 x8 Z:=M.of h ok rfl
end KB
namespace BN
variable {Ae A1 Bf Bh BM BS x2 Bi A6 Ct CZ C1 C2 BC BD C3 LK LL LM x8 x10:Int}{BW C4:ByteArray}{CJ B4 p1 Cu C5 BG C6 LN LO p9a p9b:Option Addr}{CD CK Bl B8 n1 c1 Cv Cw C7 C8 BH BI C9 DA LP LR LU LV n9a c9a n9b c9b:Nat}{Bj Dd:Bool}
def M:Fw:=⟨prog,68,f68,[104],[3,6,7,9,11],false,[],[],[(464,[(1,wL),(2,wI),(3,.X 44 [.I .i64,.I .i64,.T,.L,.I .i64,.I .i64,.I .i64,.L,.B,.I .i64]),(6,.X 90 [.I .i64,.I .u64,.L,.I .i64,.L]),(7,.X 90 [.I .i64,.I .u64,.L,.I .i64,.L]),(8,wI)]),(467,[(1,wL),(2,wI),(3,.X 44 [.I .i64,.I .i64,.T,.L,.I .i64,.I .i64,.I .i64,.L,.B,.I .i64]),(6,.X 90 [.I .i64,.I .u64,.L,.I .i64,.L]),(7,.X 90 [.I .i64,.I .u64,.L,.I .i64,.L]),(8,wI)]),(238800,[(1,wL),(2,wI),(3,.X 44 [.I .i64,.I .i64,.T,.L,.I .i64,.I .i64,.I .i64,.L,.B,.I .i64]),(6,.X 90 [.I .i64,.I .u64,.L,.I .i64,.L]),(7,.X 90 [.I .i64,.I .u64,.L,.I .i64,.L]),(8,wI),(9,.X 165 [.L,.L]),(10,wI)]),(238803,[(1,wL),(2,wI),(3,.X 44 [.I .i64,.I .i64,.T,.L,.I .i64,.I .i64,.I .i64,.L,.B,.I .i64]),(6,.X 90 [.I .i64,.I .u64,.L,.I .i64,.L]),(7,.X 90 [.I .i64,.I .u64,.L,.I .i64,.L]),(8,wI),(9,.X 165 [.L,.L]),(10,wI)])]⟩
def ok:M.Ok:=⟨.cons call104 (AH.nil),mixed,func68,by kernel_rfl⟩
def AR:=M.pt 0
def LJ:=M.pt 1
def Nv:=M.pt 2
def Gt:=M.pt 3
def start (h:∀b3:Nat,∀b6:Nat,∀A:Nat,AR R p1 n1 c1 x2 Ae A1 BW CJ CD CK Bf Bh BM B4 Bl B8 Bj BS 0 0 none 0 0 0 none 0 0 3 0 none 0 0 Bf none 0 0 0 Z):Spec prog 68 #[.agg #[.I Ae,.I A1,.string BW,.slice CJ CD CK,.I Bf,.I Bh,.I BM,.slice B4 Bl B8,.bool Bj,.I BS],.slice p1 n1 c1,.I x2] Z R:=M.start h ok
def AM (h:Br (x8<(n1:Int)) (Pq p1 λA C=>In x8 (n1:Int)/\LS Z A (C+x8.toNat*2) λyJ n27 po=>AG 104 #[.slice Cu Cv Cw,.slice yJ n27 po] Z R (CB λt28 y=>Bn t28 (LJ R (aD A C) n1 c1 x2 Bi A6 C4 Cu Cv Cw Ct CZ C1 C5 C7 C8 Dd C2 BC BD BG BH BI C3 C6 C9 DA LK LL LN LP LR LM LO LU LV x8 y) (In x8 (n1:Int)/\LS y A (C+x8.toNat*2) λp34 n34 G=>∀b9:Nat,Nv R (aD A C) n1 c1 x2 Bi A6 C4 Cu Cv Cw Ct CZ C1 C5 C7 C8 Dd C2 BC BD BG BH BI C3 C6 C9 DA LK LL LN LP LR LM LO LU LV x8 p34 n34 G none 0 0 0 y))) (R (.returned (.agg #[.I LK,.U LL,.slice LN LP LR,.I LM,.slice LO LU LV])) Z)):AR R p1 n1 c1 x2 Bi A6 C4 Cu Cv Cw Ct CZ C1 C5 C7 C8 Dd C2 BC BD BG BH BI C3 C6 C9 DA LK LL LN LP LR LM LO LU LV x8 Z:=M.dL h ok rfl λ_ _ _=>by kernel_rfl
def M3 (h:AF (x8+1)/\AR R p1 n1 c1 x2 Bi A6 C4 Cu Cv Cw Ct CZ C1 C5 C7 C8 Dd C2 BC BD BG BH BI C3 C6 C9 DA LK LL LN LP LR LM LO LU LV (x8+1) Z):LJ R p1 n1 c1 x2 Bi A6 C4 Cu Cv Cw Ct CZ C1 C5 C7 C8 Dd C2 BC BD BG BH BI C3 C6 C9 DA LK LL LN LP LR LM LO LU LV x8 Z:=M.dL h ok rfl λ_ _ _=>by kernel_rfl
def Ii (h:Pq p1 λA C=>In x8 (n1:Int)/\LS Z A ((C+x8.toNat*2)+1) λp41 n41 qY=>Br (x10<(n41:Int)) (In x8 (n1:Int)/\LS Z A ((C+x8.toNat*2)+1) λlI n50 oP=>Pq lI λoO o52=>In x10 (n50:Int)/\∃G iY,Af Z oO (o52+x10.toNat*2) [.I G,.U iY]/\∀Bu:Nat,AF (x2-CZ)/\AF ((x2-CZ)-Ct)/\Br ((((x2-CZ)-Ct):Int)<G) (AF (x2-CZ)/\Br (G<=(x2-CZ)) (Br (iY≠9218868437227405314) (Al Z λlE=>AJ prog (DV 163 p9b n9b c9b lE) (Hp.set Z lE (.cells #[.U iY] 57 (0,0))) (CS λvj dQ vk y=>Gt R (aD A C) n1 c1 x2 Bi A6 C4 Cu Cv Cw Ct CZ C1 C5 C7 C8 Dd C2 BC BD BG BH BI C3 C6 C9 DA LK LL LN LP LR LM LO LU LV x8 p9a n9a c9a vj dQ vk x10 y)) (Gt R (aD A C) n1 c1 x2 Bi A6 C4 Cu Cv Cw Ct CZ C1 C5 C7 C8 Dd C2 BC BD BG BH BI C3 C6 C9 DA LK LL LN LP LR LM LO LU LV x8 p9a n9a c9a p9b n9b c9b x10 Z)) (Gt R (aD A C) n1 c1 x2 Bi A6 C4 Cu Cv Cw Ct CZ C1 C5 C7 C8 Dd C2 BC BD BG BH BI C3 C6 C9 DA LK LL LN LP LR LM LO LU LV x8 p9a n9a c9a p9b n9b c9b x10 Z)) (Gt R (aD A C) n1 c1 x2 Bi A6 C4 Cu Cv Cw Ct CZ C1 C5 C7 C8 Dd C2 BC BD BG BH BI C3 C6 C9 DA LK LL LN LP LR LM LO LU LV x8 p9a n9a c9a p9b n9b c9b x10 Z)) (Br (0<(n9b:Int)) (Al Z λb92=>AJ prog (DV 88 LO LU LV b92) (Hp.set Z b92 (.cells #[.slice p9a n9a c9a,.slice p9b n9b c9b] 165 (0,0))) (CS λp93 n93 c93 y=>LJ R (aD A C) n1 c1 x2 Bi A6 C4 Cu Cv Cw Ct CZ C1 C5 C7 C8 Dd C2 BC BD BG BH BI C3 C6 C9 DA LK LL LN LP LR LM p93 n93 c93 x8 y)) (LJ R (aD A C) n1 c1 x2 Bi A6 C4 Cu Cv Cw Ct CZ C1 C5 C7 C8 Dd C2 BC BD BG BH BI C3 C6 C9 DA LK LL LN LP LR LM LO LU LV x8 Z))):Nv R p1 n1 c1 x2 Bi A6 C4 Cu Cv Cw Ct CZ C1 C5 C7 C8 Dd C2 BC BD BG BH BI C3 C6 C9 DA LK LL LN LP LR LM LO LU LV x8 p9a n9a c9a p9b n9b c9b x10 Z:=M.of4 h ok rfl λ_ _ _ _=>by kernel_rfl
def FA (h:AF (x10+1)/\Nv R p1 n1 c1 x2 Bi A6 C4 Cu Cv Cw Ct CZ C1 C5 C7 C8 Dd C2 BC BD BG BH BI C3 C6 C9 DA LK LL LN LP LR LM LO LU LV x8 p9a n9a c9a p9b n9b c9b (x10+1) Z):Gt R p1 n1 c1 x2 Bi A6 C4 Cu Cv Cw Ct CZ C1 C5 C7 C8 Dd C2 BC BD BG BH BI C3 C6 C9 DA LK LL LN LP LR LM LO LU LV x8 p9a n9a c9a p9b n9b c9b x10 Z:=M.of4 h ok rfl λ_ _ _ _=>by kernel_rfl
end BN
namespace fW
variable {Ae A1 Bf Bh BM BS By BQ Q4 GO Gm UY:Int}{BW:ByteArray}{CJ B4 PI Q5 Rv UZ:Option Addr}{CD CK Bl B8 Nn PJ Q6 Q7 Rx Ry Ua Ub:Nat}{Bj:Bool}
def M:Fw:=⟨prog,72,f72,[112,113,114,115,116,117],[3,4,5,6],false,[],[],[]⟩
def ok:M.Ok:=⟨.cons call112 (.cons call113 (.cons call114 (.cons call115 (.cons call116 (.cons call117 (AH.nil)))))),mixed,func72,by kernel_rfl⟩
def start (h:∀b3:Nat,∀b4:Nat,∀b5:Nat,∀b6:Nat,Br (By=1) (Br (GO=1) (AG 112 #[.I A1] Z R (CB λt20 y=>Bo t20 (AG 114 #[.I A1,.U BQ,.U Gm] y R (CB λt28 AB=>AG 113 #[.bool t28] AB R (CI .u64 λyR AK=>R (.T #[.agg #[.I 1,.U yR,.N,.I 0,.N],.bool true]) AK))) (Br (By=1) (Br (GO=1) (AG 115 #[.I A1,.U BQ,.U Gm] y R (CI .u64 λhY AB=>R (.T #[.agg #[.I 1,.U hY,.N,.I 0,.N],.bool true]) AB)) (Br (By=1) (AG 116 #[.agg #[.I Ae,.I A1,.string BW,.slice CJ CD CK,.I Bf,.I Bh,.I BM,.slice B4 Bl B8,.bool Bj,.I BS],.agg #[.I By,.U BQ,.slice PI Nn PJ,.I Q4,.slice Q5 Q6 Q7],.agg #[.I GO,.U Gm,.slice Rv Rx Ry,.I UY,.slice UZ Ua Ub]] y R (λz AB=>∃A C G Er Es Eu Ev Ew Ex,z=(.agg #[.I A,.U C,.slice G Er Es,.I Eu,.slice Ev Ew Ex])/\R (.T #[.agg #[.I A,.U C,.slice G Er Es,.I Eu,.slice Ev Ew Ex],.bool true]) AB)) (Br (GO=1) (AG 116 #[.agg #[.I Ae,.I A1,.string BW,.slice CJ CD CK,.I Bf,.I Bh,.I BM,.slice B4 Bl B8,.bool Bj,.I BS],.agg #[.I By,.U BQ,.slice PI Nn PJ,.I Q4,.slice Q5 Q6 Q7],.agg #[.I GO,.U Gm,.slice Rv Rx Ry,.I UY,.slice UZ Ua Ub]] y R (λz AB=>∃A C G Er Es Eu Ev Ew Ex,z=(.agg #[.I A,.U C,.slice G Er Es,.I Eu,.slice Ev Ew Ex])/\R (.T #[.agg #[.I A,.U C,.slice G Er Es,.I Eu,.slice Ev Ew Ex],.bool true]) AB)) (AG 117 #[.agg #[.I Ae,.I A1,.string BW,.slice CJ CD CK,.I Bf,.I Bh,.I BM,.slice B4 Bl B8,.bool Bj,.I BS],.agg #[.I By,.U BQ,.slice PI Nn PJ,.I Q4,.slice Q5 Q6 Q7],.agg #[.I GO,.U Gm,.slice Rv Rx Ry,.I UY,.slice UZ Ua Ub]] y R (λz AB=>∃G4 G5 G6 G7 G8 G9 HA HB HC MK,z=(.tuple #[.agg #[.I G4,.U G5,.slice G6 G7 G8,.I G9,.slice HA HB HC],.bool MK])/\R (.T #[.agg #[.I G4,.U G5,.slice G6 G7 G8,.I G9,.slice HA HB HC],.bool MK]) AB))))) (Br (By=1) (AG 116 #[.agg #[.I Ae,.I A1,.string BW,.slice CJ CD CK,.I Bf,.I Bh,.I BM,.slice B4 Bl B8,.bool Bj,.I BS],.agg #[.I By,.U BQ,.slice PI Nn PJ,.I Q4,.slice Q5 Q6 Q7],.agg #[.I GO,.U Gm,.slice Rv Rx Ry,.I UY,.slice UZ Ua Ub]] y R (λz AB=>∃A C G Er Es Eu Ev Ew Ex,z=(.agg #[.I A,.U C,.slice G Er Es,.I Eu,.slice Ev Ew Ex])/\R (.T #[.agg #[.I A,.U C,.slice G Er Es,.I Eu,.slice Ev Ew Ex],.bool true]) AB)) (Br (GO=1) (AG 116 #[.agg #[.I Ae,.I A1,.string BW,.slice CJ CD CK,.I Bf,.I Bh,.I BM,.slice B4 Bl B8,.bool Bj,.I BS],.agg #[.I By,.U BQ,.slice PI Nn PJ,.I Q4,.slice Q5 Q6 Q7],.agg #[.I GO,.U Gm,.slice Rv Rx Ry,.I UY,.slice UZ Ua Ub]] y R (λz AB=>∃A C G Er Es Eu Ev Ew Ex,z=(.agg #[.I A,.U C,.slice G Er Es,.I Eu,.slice Ev Ew Ex])/\R (.T #[.agg #[.I A,.U C,.slice G Er Es,.I Eu,.slice Ev Ew Ex],.bool true]) AB)) (AG 117 #[.agg #[.I Ae,.I A1,.string BW,.slice CJ CD CK,.I Bf,.I Bh,.I BM,.slice B4 Bl B8,.bool Bj,.I BS],.agg #[.I By,.U BQ,.slice PI Nn PJ,.I Q4,.slice Q5 Q6 Q7],.agg #[.I GO,.U Gm,.slice Rv Rx Ry,.I UY,.slice UZ Ua Ub]] y R (λz AB=>∃G4 G5 G6 G7 G8 G9 HA HB HC MK,z=(.tuple #[.agg #[.I G4,.U G5,.slice G6 G7 G8,.I G9,.slice HA HB HC],.bool MK])/\R (.T #[.agg #[.I G4,.U G5,.slice G6 G7 G8,.I G9,.slice HA HB HC],.bool MK]) AB))))))) (Br (By=1) (Br (GO=1) (AG 115 #[.I A1,.U BQ,.U Gm] Z R (CI .u64 λhY y=>R (.T #[.agg #[.I 1,.U hY,.N,.I 0,.N],.bool true]) y)) (Br (By=1) (AG 116 #[.agg #[.I Ae,.I A1,.string BW,.slice CJ CD CK,.I Bf,.I Bh,.I BM,.slice B4 Bl B8,.bool Bj,.I BS],.agg #[.I By,.U BQ,.slice PI Nn PJ,.I Q4,.slice Q5 Q6 Q7],.agg #[.I GO,.U Gm,.slice Rv Rx Ry,.I UY,.slice UZ Ua Ub]] Z R (λz y=>∃A C G Er Es Eu Ev Ew Ex,z=(.agg #[.I A,.U C,.slice G Er Es,.I Eu,.slice Ev Ew Ex])/\R (.T #[.agg #[.I A,.U C,.slice G Er Es,.I Eu,.slice Ev Ew Ex],.bool true]) y)) (Br (GO=1) (AG 116 #[.agg #[.I Ae,.I A1,.string BW,.slice CJ CD CK,.I Bf,.I Bh,.I BM,.slice B4 Bl B8,.bool Bj,.I BS],.agg #[.I By,.U BQ,.slice PI Nn PJ,.I Q4,.slice Q5 Q6 Q7],.agg #[.I GO,.U Gm,.slice Rv Rx Ry,.I UY,.slice UZ Ua Ub]] Z R (λz y=>∃A C G Er Es Eu Ev Ew Ex,z=(.agg #[.I A,.U C,.slice G Er Es,.I Eu,.slice Ev Ew Ex])/\R (.T #[.agg #[.I A,.U C,.slice G Er Es,.I Eu,.slice Ev Ew Ex],.bool true]) y)) (AG 117 #[.agg #[.I Ae,.I A1,.string BW,.slice CJ CD CK,.I Bf,.I Bh,.I BM,.slice B4 Bl B8,.bool Bj,.I BS],.agg #[.I By,.U BQ,.slice PI Nn PJ,.I Q4,.slice Q5 Q6 Q7],.agg #[.I GO,.U Gm,.slice Rv Rx Ry,.I UY,.slice UZ Ua Ub]] Z R (λz y=>∃G4 G5 G6 G7 G8 G9 HA HB HC MK,z=(.tuple #[.agg #[.I G4,.U G5,.slice G6 G7 G8,.I G9,.slice HA HB HC],.bool MK])/\R (.T #[.agg #[.I G4,.U G5,.slice G6 G7 G8,.I G9,.slice HA HB HC],.bool MK]) y))))) (Br (By=1) (AG 116 #[.agg #[.I Ae,.I A1,.string BW,.slice CJ CD CK,.I Bf,.I Bh,.I BM,.slice B4 Bl B8,.bool Bj,.I BS],.agg #[.I By,.U BQ,.slice PI Nn PJ,.I Q4,.slice Q5 Q6 Q7],.agg #[.I GO,.U Gm,.slice Rv Rx Ry,.I UY,.slice UZ Ua Ub]] Z R (λz y=>∃A C G Er Es Eu Ev Ew Ex,z=(.agg #[.I A,.U C,.slice G Er Es,.I Eu,.slice Ev Ew Ex])/\R (.T #[.agg #[.I A,.U C,.slice G Er Es,.I Eu,.slice Ev Ew Ex],.bool true]) y)) (Br (GO=1) (AG 116 #[.agg #[.I Ae,.I A1,.string BW,.slice CJ CD CK,.I Bf,.I Bh,.I BM,.slice B4 Bl B8,.bool Bj,.I BS],.agg #[.I By,.U BQ,.slice PI Nn PJ,.I Q4,.slice Q5 Q6 Q7],.agg #[.I GO,.U Gm,.slice Rv Rx Ry,.I UY,.slice UZ Ua Ub]] Z R (λz y=>∃A C G Er Es Eu Ev Ew Ex,z=(.agg #[.I A,.U C,.slice G Er Es,.I Eu,.slice Ev Ew Ex])/\R (.T #[.agg #[.I A,.U C,.slice G Er Es,.I Eu,.slice Ev Ew Ex],.bool true]) y)) (AG 117 #[.agg #[.I Ae,.I A1,.string BW,.slice CJ CD CK,.I Bf,.I Bh,.I BM,.slice B4 Bl B8,.bool Bj,.I BS],.agg #[.I By,.U BQ,.slice PI Nn PJ,.I Q4,.slice Q5 Q6 Q7],.agg #[.I GO,.U Gm,.slice Rv Rx Ry,.I UY,.slice UZ Ua Ub]] Z R (λz y=>∃G4 G5 G6 G7 G8 G9 HA HB HC MK,z=(.tuple #[.agg #[.I G4,.U G5,.slice G6 G7 G8,.I G9,.slice HA HB HC],.bool MK])/\R (.T #[.agg #[.I G4,.U G5,.slice G6 G7 G8,.I G9,.slice HA HB HC],.bool MK]) y)))))) (Br (By=1) (Br (GO=1) (AG 115 #[.I A1,.U BQ,.U Gm] Z R (CI .u64 λhY y=>R (.T #[.agg #[.I 1,.U hY,.N,.I 0,.N],.bool true]) y)) (Br (By=1) (AG 116 #[.agg #[.I Ae,.I A1,.string BW,.slice CJ CD CK,.I Bf,.I Bh,.I BM,.slice B4 Bl B8,.bool Bj,.I BS],.agg #[.I By,.U BQ,.slice PI Nn PJ,.I Q4,.slice Q5 Q6 Q7],.agg #[.I GO,.U Gm,.slice Rv Rx Ry,.I UY,.slice UZ Ua Ub]] Z R (λz y=>∃A C G Er Es Eu Ev Ew Ex,z=(.agg #[.I A,.U C,.slice G Er Es,.I Eu,.slice Ev Ew Ex])/\R (.T #[.agg #[.I A,.U C,.slice G Er Es,.I Eu,.slice Ev Ew Ex],.bool true]) y)) (Br (GO=1) (AG 116 #[.agg #[.I Ae,.I A1,.string BW,.slice CJ CD CK,.I Bf,.I Bh,.I BM,.slice B4 Bl B8,.bool Bj,.I BS],.agg #[.I By,.U BQ,.slice PI Nn PJ,.I Q4,.slice Q5 Q6 Q7],.agg #[.I GO,.U Gm,.slice Rv Rx Ry,.I UY,.slice UZ Ua Ub]] Z R (λz y=>∃A C G Er Es Eu Ev Ew Ex,z=(.agg #[.I A,.U C,.slice G Er Es,.I Eu,.slice Ev Ew Ex])/\R (.T #[.agg #[.I A,.U C,.slice G Er Es,.I Eu,.slice Ev Ew Ex],.bool true]) y)) (AG 117 #[.agg #[.I Ae,.I A1,.string BW,.slice CJ CD CK,.I Bf,.I Bh,.I BM,.slice B4 Bl B8,.bool Bj,.I BS],.agg #[.I By,.U BQ,.slice PI Nn PJ,.I Q4,.slice Q5 Q6 Q7],.agg #[.I GO,.U Gm,.slice Rv Rx Ry,.I UY,.slice UZ Ua Ub]] Z R (λz y=>∃G4 G5 G6 G7 G8 G9 HA HB HC MK,z=(.tuple #[.agg #[.I G4,.U G5,.slice G6 G7 G8,.I G9,.slice HA HB HC],.bool MK])/\R (.T #[.agg #[.I G4,.U G5,.slice G6 G7 G8,.I G9,.slice HA HB HC],.bool MK]) y))))) (Br (By=1) (AG 116 #[.agg #[.I Ae,.I A1,.string BW,.slice CJ CD CK,.I Bf,.I Bh,.I BM,.slice B4 Bl B8,.bool Bj,.I BS],.agg #[.I By,.U BQ,.slice PI Nn PJ,.I Q4,.slice Q5 Q6 Q7],.agg #[.I GO,.U Gm,.slice Rv Rx Ry,.I UY,.slice UZ Ua Ub]] Z R (λz y=>∃A C G Er Es Eu Ev Ew Ex,z=(.agg #[.I A,.U C,.slice G Er Es,.I Eu,.slice Ev Ew Ex])/\R (.T #[.agg #[.I A,.U C,.slice G Er Es,.I Eu,.slice Ev Ew Ex],.bool true]) y)) (Br (GO=1) (AG 116 #[.agg #[.I Ae,.I A1,.string BW,.slice CJ CD CK,.I Bf,.I Bh,.I BM,.slice B4 Bl B8,.bool Bj,.I BS],.agg #[.I By,.U BQ,.slice PI Nn PJ,.I Q4,.slice Q5 Q6 Q7],.agg #[.I GO,.U Gm,.slice Rv Rx Ry,.I UY,.slice UZ Ua Ub]] Z R (λz y=>∃A C G Er Es Eu Ev Ew Ex,z=(.agg #[.I A,.U C,.slice G Er Es,.I Eu,.slice Ev Ew Ex])/\R (.T #[.agg #[.I A,.U C,.slice G Er Es,.I Eu,.slice Ev Ew Ex],.bool true]) y)) (AG 117 #[.agg #[.I Ae,.I A1,.string BW,.slice CJ CD CK,.I Bf,.I Bh,.I BM,.slice B4 Bl B8,.bool Bj,.I BS],.agg #[.I By,.U BQ,.slice PI Nn PJ,.I Q4,.slice Q5 Q6 Q7],.agg #[.I GO,.U Gm,.slice Rv Rx Ry,.I UY,.slice UZ Ua Ub]] Z R (λz y=>∃G4 G5 G6 G7 G8 G9 HA HB HC MK,z=(.tuple #[.agg #[.I G4,.U G5,.slice G6 G7 G8,.I G9,.slice HA HB HC],.bool MK])/\R (.T #[.agg #[.I G4,.U G5,.slice G6 G7 G8,.I G9,.slice HA HB HC],.bool MK]) y)))))):Spec prog 72 #[.agg #[.I Ae,.I A1,.string BW,.slice CJ CD CK,.I Bf,.I Bh,.I BM,.slice B4 Bl B8,.bool Bj,.I BS],.agg #[.I By,.U BQ,.slice PI Nn PJ,.I Q4,.slice Q5 Q6 Q7],.agg #[.I GO,.U Gm,.slice Rv Rx Ry,.I UY,.slice UZ Ua Ub]] Z R:=M.start h ok
end fW
namespace I7
variable {p0 p8:Option Addr}{n0 c0 n8 c8:Nat}{x9 x10:Int}
def M:Fw:=⟨prog,78,f78,[133,134],[4],false,[],[],[(232,[(8,wL),(9,wI),(10,wI)])]⟩
def ok:M.Ok:=⟨.cons call133 (.cons call134 (AH.nil)),mixed,func78,by kernel_rfl⟩
def PF:=M.pt 0
def start (h:Br (8<(n0:Int)) (R (.returned (.I 41)) Z) (PF R p0 n0 c0 (n0:Int) 0 Z)):Spec prog 78 #[.slice p0 n0 c0] Z R:=M.start h ok
def Kg (h:Br (x10<x9) (Pq p8 λD1 G=>In x10 (n8:Int)/\∃ky wR A,Af Z D1 (G+x10.toNat*3) [.I ky,.string wR,.string A]/\∀b4:Nat,AG 133 #[.I ky] Z R (CB λt16 y=>Bn t16 (R (.returned (.I 40)) y) (AG 134 #[.string wR] y R (CB λt21 C=>Bn t21 (R (.returned (.I 40)) C) (Br ((256:Int)<(A.size:Int)) (R (.returned (.I 40)) C) (AF (x10+1)/\PF R (aD D1 G) n8 c8 x9 (x10+1) C)))))) (R (.returned (.I 0)) Z)):PF R p8 n8 c8 x9 x10 Z:=M.of h ok rfl
end I7
namespace Tc
variable {V1 p0b:Option Addr}{Nu UW n0b c0b:Nat}
def M:Fw:=⟨prog,87,f87,[],[1,2],false,[(1,9,false)],[],[]⟩
def ok:M.Ok:=⟨AH.nil,mixed,func87,by kernel_rfl⟩
def start (h:∀b1:Nat,∀b2:Nat,(Al Z λb3=>(AJ prog (Builtin.append_ #[47,47] 47 #[(.slice (aD b3 0) 0 0),.slice V1 Nu UW]) (Hp.set Z b3 (.cells #[] 71 (0,0))) (CS λp6 n6 c6 y=>Al y λA=>AJ prog (Builtin.append_ #[49,49] 49 #[(.slice (aD A 0) 0 0),.slice p0b n0b c0b]) (Hp.set y A (.cells #[] 61 (0,0))) (CS λN3 n10 MF C=>R (.returned (.agg #[.slice p6 n6 c6,.slice N3 n10 MF])) C)))/\(Al (Hp.set Z b3 (.cells #[] 71 (0,0))) λA=>AJ prog (Builtin.append_ #[47,47] 47 #[(.slice (aD b3 0) 0 0),.slice V1 Nu UW]) (Hp.set (Hp.set Z b3 (.cells #[] 71 (0,0))) A (.cells #[] 61 (0,0))) (CS λp6 n6 c6 y=>AJ prog (Builtin.append_ #[49,49] 49 #[(.slice (aD A 0) 0 0),.slice p0b n0b c0b]) y (CS λN3 n10 MF C=>R (.returned (.agg #[.slice p6 n6 c6,.slice N3 n10 MF])) C))))/\(Al Z λA=>Al (Hp.set Z A (.cells #[] 61 (0,0))) λb3=>AJ prog (Builtin.append_ #[47,47] 47 #[(.slice (aD b3 0) 0 0),.slice V1 Nu UW]) (Hp.set (Hp.set Z A (.cells #[] 61 (0,0))) b3 (.cells #[] 71 (0,0))) (CS λp6 n6 c6 y=>AJ prog (Builtin.append_ #[49,49] 49 #[(.slice (aD A 0) 0 0),.slice p0b n0b c0b]) y (CS λN3 n10 MF C=>R (.returned (.agg #[.slice p6 n6 c6,.slice N3 n10 MF])) C)))):Spec prog 87 #[.agg #[.slice V1 Nu UW,.slice p0b n0b c0b]] Z R:=M.start h ok
end Tc
namespace fX
variable {x0:Int}
def M:Fw:=⟨prog,105,f105,[147],[],false,[],[],[]⟩
def ok:M.Ok:=⟨.cons call147 (AH.nil),mixed,func105,by kernel_rfl⟩
def start (h:AG 147 #[.U x0] Z R (λz y=>∃x5,(Value.float .f64 x5)=z/\∃t8,YF prog ((do eqGuard .neq 73 (.tmp 6) (.tmp 7) (Value.float .f64 x5) (Value.float .f64 x5);binOp .neq 73 (Value.float .f64 x5) (Value.float .f64 x5))) y (.bool t8)/\Bo t8 (R (.returned (.U 9221120237041090560)) y) (Df (Go.bits .andNot .u64 x0 9223372036854775808) λx10=>R (.returned (.U x10)) y))):Spec prog 105 #[.U x0] Z R:=M.start h ok
end fX
namespace Cj
variable {q0 Fm GG p2 BG JL p8 wD:Option Addr}{By BQ FN FO D9 ET BC BD jv LY:Int}{FP:ByteArray}{Fo Fp Fq GH n2 c2 BH BI JM JN n8 c8 n25 wE:Nat}{EU:Bool}
def M:Fw:=⟨prog,126,f126,[162,164,178],[4,6,10],false,[],[],[(488,[(6,.X 97 [.I .i64,.I .u64,.L,.L]),(8,wL),(25,wL),(26,wI),(27,wI)])]⟩
def ok:M.Ok:=⟨.cons call162 (.cons call164 (.cons call178 (AH.nil))),mixed,func126,by kernel_rfl⟩
def AF4:=M.pt 0
def start (h:∀C:Nat,∀b6:Nat,Pq p2 λD1 A=>In 0 (n2:Int)/\LI .i64 Z D1 A λN2=>Br (N2=1) (In 0 (n2:Int)/\LI .u64 Z D1 (A+1) λGI=>AG 178 #[.U GI] Z R (CI .u64 λIg y=>R (.T #[.agg #[.I 1,.U Ig,.N,.N],.I 0]) y)) (In 0 (n2:Int)/\LS Z D1 (A+2) λwD n25 wE=>AF4 R 0 0 none 0 0 none 0 0 none 0 0 wD n25 wE (n25:Int) 0 Z)):Spec prog 126 #[.pointer q0,.agg #[.I By,.I BQ,.string FP,.slice Fm Fo Fp,.I FN,.I FO,.I D9,.slice GG Fq GH,.bool EU,.I ET],.slice p2 n2 c2] Z R:=M.start h ok
def tn (h:Br (LY<jv) (Pq wD λLy S4=>In LY (n25:Int)/\∃A C G AAr,Af Z Ly (S4+LY.toNat*2) [.slice A C G,.U AAr]/\∀E2:Nat,AG 162 #[.slice A C G] Z R (CS λp34 n34 c34 y=>AG 178 #[.U AAr] y R (CI .u64 λUd AB=>Al AB λRA=>AJ prog (DV 54 p8 n8 c8 RA) (Hp.set AB RA (.cells #[.slice p34 n34 c34,.U Ud] 59 (0,0))) (CS λp40 n40 c40 AK=>AF (LY+1)/\AF4 R BC BD BG BH BI JL JM JN p40 n40 c40 (aD Ly S4) n25 wE jv (LY+1) AK)))) (AG 164 #[.slice p8 n8 c8] Z R (λz y=>∃AI3 AI4 AI5 AI6 AI7 AI8 AI9 AJA TY,z=(.tuple #[.agg #[.I AI3,.U AI4,.slice AI5 AI6 AI7,.slice AI8 AI9 AJA],.I TY])/\R (.T #[.agg #[.I AI3,.U AI4,.slice AI5 AI6 AI7,.slice AI8 AI9 AJA],.I TY]) y))):AF4 R BC BD BG BH BI JL JM JN p8 n8 c8 wD n25 wE jv LY Z:=M.oJ h ok rfl λ_=>by kernel_rfl
end Cj
namespace F7
variable {s0 s1:ByteArray}{x5 x6:Int}
def M:Fw:=⟨prog,146,f146,[182],[],false,[],[],[(464,[(0,wT),(1,wT),(5,wI),(6,wI)]),(467,[(0,wT),(1,wT),(5,wI),(6,wI)])]⟩
def ok:M.Ok:=⟨.cons call182 (AH.nil),mixed,func146,by kernel_rfl⟩
def AR:=M.pt 0
def IF:=M.pt 1
def start (h:AR R s0 s1 0 0 Z):Spec prog 146 #[.string s0,.string s1] Z R:=M.start h ok
def AM (h:Br (x6<=(s0.size:Int)) (Br (x6=(s0.size:Int)) (∃A,YF prog (Instr.sliceAt 9 (.string s0) (some (.I x5)) (some (.I x6)) none) Z (.string A)/\AG 182 #[.string A,.string s1] Z R (CB λt28 y=>Bo t28 (R (.B true) y) (AF (x6+1)/\IF R s0 s1 (x6+1) x6 y))) (∃C:UInt8,0<=x6/\(ByteArray.data s0)[x6.toNat]?=some C/\Br (((C.toNat:Int):Int)=124) (∃A,YF prog (Instr.sliceAt 9 (.string s0) (some (.I x5)) (some (.I x6)) none) Z (.string A)/\AG 182 #[.string A,.string s1] Z R (CB λt28 y=>Bo t28 (R (.B true) y) (AF (x6+1)/\IF R s0 s1 (x6+1) x6 y))) (IF R s0 s1 x5 x6 Z))) (R (.B false) Z)):AR R s0 s1 x5 x6 Z:=M.of h ok rfl
def Fu (h:AF (x6+1)/\AR R s0 s1 x5 (x6+1) Z):IF R s0 s1 x5 x6 Z:=M.of h ok rfl
end F7
namespace IL
variable {p0 p1 p7:Option Addr}{n0 c0 n1 c1 n7 c7:Nat}{t2:Bool}{x8:Int}
def M:Fw:=⟨prog,149,f149,[186],[],false,[],[],[(464,[(0,wL),(1,wL),(2,wB),(7,wL),(8,wI)]),(467,[(0,wL),(1,wL),(2,wB),(7,wL),(8,wI)])]⟩
def ok:M.Ok:=⟨.cons call186 (AH.nil),mixed,func149,by kernel_rfl⟩
def AR:=M.pt 0
def JK:=M.pt 1
def start (h:AR R p0 n0 c0 p1 n1 c1 t2 none 0 0 0 Z):Spec prog 149 #[.slice p0 n0 c0,.slice p1 n1 c1,.bool t2] Z R:=M.start h ok
def AM (h:Br (x8<(n0:Int)) (Pq p0 λG M1=>In x8 (n0:Int)/\LT Z G (M1+x8.toNat*2) λs20=>AG 186 #[.slice p1 n1 c1,.string s20] Z R (CB λt21 y=>Bo t21 (Bo t2 (In x8 (n0:Int)/\∃A C,Af y G (M1+x8.toNat*2) [.string A,.string C]/\Al y λLy=>AJ prog (DV 47 p7 n7 c7 Ly) (Hp.set y Ly (.cells #[.string A,.string C] 71 (0,0))) (CS λp30 n30 c30 AB=>JK R (aD G M1) n0 c0 p1 n1 c1 true p30 n30 c30 x8 AB)) (JK R (aD G M1) n0 c0 p1 n1 c1 false p7 n7 c7 x8 y)) (Bo t2 (JK R (aD G M1) n0 c0 p1 n1 c1 true p7 n7 c7 x8 y) (In x8 (n0:Int)/\∃A C,Af y G (M1+x8.toNat*2) [.string A,.string C]/\Al y λLy=>AJ prog (DV 47 p7 n7 c7 Ly) (Hp.set y Ly (.cells #[.string A,.string C] 71 (0,0))) (CS λp30 n30 c30 AB=>JK R (aD G M1) n0 c0 p1 n1 c1 false p30 n30 c30 x8 AB))))) (R (.returned (.slice p7 n7 c7)) Z)):AR R p0 n0 c0 p1 n1 c1 t2 p7 n7 c7 x8 Z:=M.of h ok rfl
def Gn (h:AF (x8+1)/\AR R p0 n0 c0 p1 n1 c1 t2 p7 n7 c7 (x8+1) Z):JK R p0 n0 c0 p1 n1 c1 t2 p7 n7 c7 x8 Z:=M.of h ok rfl
end IL
end TwW
end
end
section
set_option maxRecDepth 100000
noncomputable section
namespace TwW
open Go Tw Go.Proofs.Tryz
variable [HL]{R:Rr}{Z:Hp}

namespace Td
variable {x0:Int}
def M:Fw:=⟨prog,160,f160,[190,197,198],[],false,[],[],[]⟩
def ok:M.Ok:=⟨.cons call190 (.cons call197 (.cons call198 (AH.nil))),mixed,func160,by kernel_rfl⟩
def start (h:AG 198 #[.U x0] Z R (λz y=>∃x4,(Value.float .f64 x4)=z/\AG 197 #[(Value.float .f64 x4)] y R (λz A=>∃x5,(Value.float .f64 x5)=z/\AG 190 #[(Value.float .f64 x5)] A R (CI .u64 λx6 C=>R (.returned (.U x6)) C)))):Spec prog 160 #[.U x0] Z R:=M.start h ok
end Td
namespace NJ
variable {x0:Int}
def M:Fw:=⟨prog,161,f161,[148,190,198],[],false,[],[],[]⟩
def ok:M.Ok:=⟨.cons call148 (.cons call190 (.cons call198 (AH.nil))),mixed,func161,by kernel_rfl⟩
def start (h:AG 198 #[.U x0] Z R (λz y=>∃x4,(Value.float .f64 x4)=z/\AG 148 #[(Value.float .f64 x4)] y R (λz A=>∃x5,(Value.float .f64 x5)=z/\AG 190 #[(Value.float .f64 x5)] A R (CI .u64 λx6 C=>R (.returned (.U x6)) C)))):Spec prog 161 #[.U x0] Z R:=M.start h ok
end NJ
namespace Bs
variable {q0 Fm GG p2 M6 NC CW Hs N3 oT:Option Addr}{By BQ FN FO D9 ET Ca CL M9 NA NB NG CO CP x16 x17:Int}{FP M5:ByteArray}{Fo Fp Fq GH n2 c2 M7 M8 ND NF CN CR Ht Hu n10 MF n15 iV:Nat}{EU PS:Bool}{v3:Value}
def M:Fw:=⟨prog,173,f173,[132,162,164],[5,8,12],false,[],[],[(232,[(3,wV),(5,.X 44 [.I .i64,.I .i64,.T,.L,.I .i64,.I .i64,.I .i64,.L,.B,.I .i64]),(8,.X 97 [.I .i64,.I .u64,.L,.L]),(10,wL),(15,wL),(16,wI),(17,wI)]),(935,[(3,wV),(5,.X 44 [.I .i64,.I .i64,.T,.L,.I .i64,.I .i64,.I .i64,.L,.B,.I .i64]),(8,.X 97 [.I .i64,.I .u64,.L,.L]),(10,wL),(15,wL),(16,wI),(17,wI)])]⟩
def ok:M.Ok:=⟨.cons call132 (.cons call162 (.cons call164 (AH.nil))),mixed,func173,by kernel_rfl⟩
def B9:=M.pt 0
def IH:=M.pt 1
def start (h:∀b5:Nat,∀A:Nat,B9 R v3 By BQ FP Fm Fo Fp FN FO D9 GG Fq GH EU ET 0 0 none 0 0 none 0 0 none 0 0 p2 n2 c2 (n2:Int) 0 Z):Spec prog 173 #[.pointer q0,.agg #[.I By,.I BQ,.string FP,.slice Fm Fo Fp,.I FN,.I FO,.I D9,.slice GG Fq GH,.bool EU,.I ET],.slice p2 n2 c2,v3] Z R:=M.HU h ok [(0,.o (.Q q0)),(1,.G [.I .i64 By,.I .i64 BQ,.T FP,.L Fm Fo Fp,.I .i64 FN,.I .i64 FO,.I .i64 D9,.L GG Fq GH,.B EU,.I .i64 ET]),(2,.o (.L p2 n2 c2)),(3,.o (.V v3))] rfl rfl (by kernel_rfl)
def As (h:Br (x17<x16) (Pq oT λD8 XM=>In x17 (n15:Int)/\∃A C G qF,Af Z D8 (XM+x17.toNat*2) [.slice A C G,.U qF]/\∀D1:Nat,∃(f25:Nat) (AJB AJC:Array Value),v3=.func (.func f25) AJB AJC/\Enters prog f25/\Spec prog f25 (AJB++#[.U qF]++AJC) Z (BV R (λz y=>∃AMz AAO,z=(.tuple #[.U AMz,.bool AAO])/\AG 132 #[.I CL] y R (CB λt31 AB=>Bn t31 (AG 162 #[.slice A C G] AB R (CS λp40 n40 c40 AK=>Al AK λdW=>AJ prog (DV 54 N3 n10 MF dW) (Hp.set AK dW (.cells #[.slice p40 n40 c40,.U AMz] 59 (0,0))) (CS λp44 n44 c44 AX=>IH R v3 Ca CL M5 M6 M7 M8 M9 NA NB NC ND NF PS NG CO CP CW CN CR Hs Ht Hu p44 n44 c44 (aD D8 XM) n15 iV x16 x17 AX))) (Bo PS (AG 162 #[.slice A C G] AB R (CS λp40 n40 c40 AK=>Al AK λdW=>AJ prog (DV 54 N3 n10 MF dW) (Hp.set AK dW (.cells #[.slice p40 n40 c40,.U AMz] 59 (0,0))) (CS λp44 n44 c44 AX=>IH R v3 Ca CL M5 M6 M7 M8 M9 NA NB NC ND NF true NG CO CP CW CN CR Hs Ht Hu p44 n44 c44 (aD D8 XM) n15 iV x16 x17 AX))) (Bo AAO (Al AB λV8=>AJ prog (DV 54 N3 n10 MF V8) (Hp.set AB V8 (.cells #[.slice A C G,.U qF] 59 (0,0))) (CS λlI n50 oP AK=>IH R v3 Ca CL M5 M6 M7 M8 M9 NA NB NC ND NF false NG CO CP CW CN CR Hs Ht Hu lI n50 oP (aD D8 XM) n15 iV x16 x17 AK)) (IH R v3 Ca CL M5 M6 M7 M8 M9 NA NB NC ND NF false NG CO CP CW CN CR Hs Ht Hu N3 n10 MF (aD D8 XM) n15 iV x16 x17 AB))))))) (AG 164 #[.slice N3 n10 MF] Z R (λz y=>∃lg lh lj ll lq lr lu lv iY,z=(.tuple #[.agg #[.I lg,.U lh,.slice lj ll lq,.slice lr lu lv],.I iY])/\R (.T #[.agg #[.I lg,.U lh,.slice lj ll lq,.slice lr lu lv],.I iY]) y))):B9 R v3 Ca CL M5 M6 M7 M8 M9 NA NB NC ND NF PS NG CO CP CW CN CR Hs Ht Hu N3 n10 MF oT n15 iV x16 x17 Z:=M.pn h ok rfl λ_ _=>by kernel_rfl
def Io (h:AF (x17+1)/\B9 R v3 Ca CL M5 M6 M7 M8 M9 NA NB NC ND NF PS NG CO CP CW CN CR Hs Ht Hu N3 n10 MF oT n15 iV x16 (x17+1) Z):IH R v3 Ca CL M5 M6 M7 M8 M9 NA NB NC ND NF PS NG CO CP CW CN CR Hs Ht Hu N3 n10 MF oT n15 iV x16 x17 Z:=M.pn h ok rfl λ_ _=>by kernel_rfl
end Bs
namespace GA
variable {x0:Int}{b1 b2:Nat}
def M:Fw:=⟨prog,175,f175,[172],[],false,[],[],[]⟩
def ok:M.Ok:=⟨.cons call172 (AH.nil),mixed,func175,by kernel_rfl⟩
def start (h:∃BC BD s6c JL JM JN x6e x6f x6g G C A t6i x6j,Af Z b1 0 [.I BC,.I BD,.string s6c,.slice JL JM JN,.I x6e,.I x6f,.I x6g,.slice G C A,.bool t6i,.I x6j]/\LI .u64 Z b2 1 λx9=>AG 172 #[.agg #[.I BC,.I BD,.string s6c,.slice JL JM JN,.I x6e,.I x6f,.I x6g,.slice G C A,.bool t6i,.I x6j],.U x0,.U x9] Z R (λz y=>∃GV YL,z=(.tuple #[.U GV,.bool YL])/\R (.T #[.U GV,.bool YL]) y)):Spec prog 175 #[.U x0,(.pointer (aD b1 0)),(.pointer (aD b2 0))] Z R:=M.start h ok
end GA
namespace An
variable {q0 Fm GG p2 p3 M6 NC CW Hs N1 p35 p66:Option Addr}{By BQ FN FO D9 ET Ca CL M9 NA NB NG CO CP No Ud ju RU:Int}{FP M5:ByteArray}{Fo Fp Fq GH n2 c2 n3 c3 M7 M8 ND NF CN CR Ht Hu n14 MC n35 c35 zw tO:Nat}{EU PS:Bool}{m10 m12:Option Nat}
def M:Fw:=⟨prog,176,f176,[39,164,221,222],[5,8,16,17,20,21],false,[],[],[(1000,[(3,wL),(5,.X 44 [.I .i64,.I .i64,.T,.L,.I .i64,.I .i64,.I .i64,.L,.B,.I .i64]),(8,.X 97 [.I .i64,.I .u64,.L,.L]),(10,wM),(12,wM),(14,wL),(35,wL),(36,wI),(37,wI)]),(2024,[(5,.X 44 [.I .i64,.I .i64,.T,.L,.I .i64,.I .i64,.I .i64,.L,.B,.I .i64]),(8,.X 97 [.I .i64,.I .u64,.L,.L]),(10,wM),(14,wL),(66,wL),(67,wI),(68,wI)]),(8103,[(5,.X 44 [.I .i64,.I .i64,.T,.L,.I .i64,.I .i64,.I .i64,.L,.B,.I .i64]),(8,.X 97 [.I .i64,.I .u64,.L,.L]),(10,wM),(14,wL),(66,wL),(67,wI),(68,wI)]),(4007,[(3,wL),(5,.X 44 [.I .i64,.I .i64,.T,.L,.I .i64,.I .i64,.I .i64,.L,.B,.I .i64]),(8,.X 97 [.I .i64,.I .u64,.L,.L]),(10,wM),(12,wM),(14,wL),(35,wL),(36,wI),(37,wI)])]⟩
def ok:M.Ok:=⟨.cons call39 (.cons call164 (.cons call221 (.cons call222 (AH.nil)))),mixed,func176,by kernel_rfl⟩
def CY:=M.pt 0
def GL:=M.pt 1
def TN:=M.pt 2
def IF:=M.pt 3
def start (h:∀b5:Nat,∀b8:Nat,AG 221 #[.agg #[.I By,.I BQ,.string FP,.slice Fm Fo Fp,.I FN,.I FO,.I D9,.slice GG Fq GH,.bool EU,.I ET],.slice p2 n2 c2] Z R (λz y=>∃A G,z=(.tuple #[.map A,.bool G])/\AG 221 #[.agg #[.I By,.I BQ,.string FP,.slice Fm Fo Fp,.I FN,.I FO,.I D9,.slice GG Fq GH,.bool EU,.I ET],.slice p3 n3 c3] y R (λz AB=>∃C Abx,z=(.tuple #[.map C,.bool Abx])/\CY R p3 n3 c3 By BQ FP Fm Fo Fp FN FO D9 GG Fq GH EU ET 0 0 none 0 0 none 0 0 A C none 0 0 p2 n2 c2 (n2:Int) 0 AB))):Spec prog 176 #[.pointer q0,.agg #[.I By,.I BQ,.string FP,.slice Fm Fo Fp,.I FN,.I FO,.I D9,.slice GG Fq GH,.bool EU,.I ET],.slice p2 n2 c2,.slice p3 n3 c3] Z R:=M.start h ok
def XW (h:Br (Ud<No) (Pq p35 λG qf=>In Ud (n35:Int)/\∃lf iX qd qe,Af Z G (qf+Ud.toNat*2) [.slice lf iX qd,.U qe]/\∀Hy:Nat,AG 222 #[.agg #[.I Ca,.I CL,.string M5,.slice M6 M7 M8,.I M9,.I NA,.I NB,.slice NC ND NF,.bool PS,.I NG],.slice lf iX qd] Z R (CS λiJ n46 fS y=>AG 39 #[.slice iJ n46 fS] y R (CT λs47 AB=>AJ prog (Instr.lookup 247 (.map m12) (.string s47) true) AB (λz A=>∃ATN ATO ATP ATQ ATR,z=(.tuple #[.agg #[.slice ATN ATO ATP,.U ATQ],.bool ATR])/\∀qa:Nat,Br (CL=12) (Al A λC=>AJ prog (DV 54 N1 n14 MC C) (Hp.set A C (.cells #[.slice lf iX qd,.U qe] 59 (0,0))) (CS λp64 n64 c64 AX=>IF R p3 n3 c3 Ca CL M5 M6 M7 M8 M9 NA NB NC ND NF PS NG CO CP CW CN CR Hs Ht Hu m10 m12 p64 n64 c64 (aD G qf) n35 c35 No Ud AX)) (Bo ATR (Br (CL=11) (Al A λC=>AJ prog (DV 54 N1 n14 MC C) (Hp.set A C (.cells #[.slice lf iX qd,.U qe] 59 (0,0))) (CS λp64 n64 c64 AX=>IF R p3 n3 c3 Ca CL M5 M6 M7 M8 M9 NA NB NC ND NF PS NG CO CP CW CN CR Hs Ht Hu m10 m12 p64 n64 c64 (aD G qf) n35 c35 No Ud AX)) (IF R p3 n3 c3 Ca CL M5 M6 M7 M8 M9 NA NB NC ND NF PS NG CO CP CW CN CR Hs Ht Hu m10 m12 N1 n14 MC (aD G qf) n35 c35 No Ud A)) (Br (CL=11) (IF R p3 n3 c3 Ca CL M5 M6 M7 M8 M9 NA NB NC ND NF PS NG CO CP CW CN CR Hs Ht Hu m10 m12 N1 n14 MC (aD G qf) n35 c35 No Ud A) (Al A λC=>AJ prog (DV 54 N1 n14 MC C) (Hp.set A C (.cells #[.slice lf iX qd,.U qe] 59 (0,0))) (CS λp64 n64 c64 AX=>IF R p3 n3 c3 Ca CL M5 M6 M7 M8 M9 NA NB NC ND NF PS NG CO CP CW CN CR Hs Ht Hu m10 m12 p64 n64 c64 (aD G qf) n35 c35 No Ud AX)))))))) (GL R Ca CL M5 M6 M7 M8 M9 NA NB NC ND NF PS NG CO CP CW CN CR Hs Ht Hu m10 N1 n14 MC p3 n3 c3 (n3:Int) 0 Z)):CY R p3 n3 c3 Ca CL M5 M6 M7 M8 M9 NA NB NC ND NF PS NG CO CP CW CN CR Hs Ht Hu m10 m12 N1 n14 MC p35 n35 c35 No Ud Z:=M.pn h ok rfl λ_ _=>by kernel_rfl
def Ih (h:Br (RU<ju) (Pq p66 λA C=>In RU (zw:Int)/\∃G AM1 AM2 ATS,Af Z A (C+RU.toNat*2) [.slice G AM1 AM2,.U ATS]/\∀lD:Nat,AG 222 #[.agg #[.I Ca,.I CL,.string M5,.slice M6 M7 M8,.I M9,.I NA,.I NB,.slice NC ND NF,.bool PS,.I NG],.slice G AM1 AM2] Z R (CS λp77 n77 c77 y=>AG 39 #[.slice p77 n77 c77] y R (CT λs78 AB=>AJ prog (Instr.lookup 247 (.map m10) (.string s78) true) AB (λz AK=>∃ATT ATU ATV ATW ATX,z=(.tuple #[.agg #[.slice ATT ATU ATV,.U ATW],.bool ATX])/\∀yT:Nat,Bn ATX (Br (CL=12) (Al AK λtL=>AJ prog (DV 54 N1 n14 MC tL) (Hp.set AK tL (.cells #[.slice G AM1 AM2,.U ATS] 59 (0,0))) (CS λp92 n92 c92 AX=>TN R Ca CL M5 M6 M7 M8 M9 NA NB NC ND NF PS NG CO CP CW CN CR Hs Ht Hu m10 p92 n92 c92 (aD A C) zw tO ju RU AX)) (TN R Ca CL M5 M6 M7 M8 M9 NA NB NC ND NF PS NG CO CP CW CN CR Hs Ht Hu m10 N1 n14 MC (aD A C) zw tO ju RU AK)) (TN R Ca CL M5 M6 M7 M8 M9 NA NB NC ND NF PS NG CO CP CW CN CR Hs Ht Hu m10 N1 n14 MC (aD A C) zw tO ju RU AK))))) (AG 164 #[.slice N1 n14 MC] Z R (λz y=>∃AJE AJF AJG AJH AJI AJJ AJK AJL ATY,z=(.tuple #[.agg #[.I AJE,.U AJF,.slice AJG AJH AJI,.slice AJJ AJK AJL],.I ATY])/\R (.T #[.agg #[.I AJE,.U AJF,.slice AJG AJH AJI,.slice AJJ AJK AJL],.I ATY]) y))):GL R Ca CL M5 M6 M7 M8 M9 NA NB NC ND NF PS NG CO CP CW CN CR Hs Ht Hu m10 N1 n14 MC p66 zw tO ju RU Z:=M.pn h ok rfl λ_ _=>by kernel_rfl
def iF (h:AF (RU+1)/\GL R Ca CL M5 M6 M7 M8 M9 NA NB NC ND NF PS NG CO CP CW CN CR Hs Ht Hu m10 N1 n14 MC p66 zw tO ju (RU+1) Z):TN R Ca CL M5 M6 M7 M8 M9 NA NB NC ND NF PS NG CO CP CW CN CR Hs Ht Hu m10 N1 n14 MC p66 zw tO ju RU Z:=M.pn h ok rfl λ_ _=>by kernel_rfl
def Fu (h:AF (Ud+1)/\CY R p3 n3 c3 Ca CL M5 M6 M7 M8 M9 NA NB NC ND NF PS NG CO CP CW CN CR Hs Ht Hu m10 m12 N1 n14 MC p35 n35 c35 No (Ud+1) Z):IF R p3 n3 c3 Ca CL M5 M6 M7 M8 M9 NA NB NC ND NF PS NG CO CP CW CN CR Hs Ht Hu m10 m12 N1 n14 MC p35 n35 c35 No Ud Z:=M.pn h ok rfl λ_ _=>by kernel_rfl
end An
namespace R9
variable {Ae A1 x1:Int}
def M:Fw:=⟨prog,193,f193,[],[2],false,[],[],[]⟩
def ok:M.Ok:=⟨AH.nil,mixed,func193,by kernel_rfl⟩
def start (h:∀b2:Nat,Br (Ae<=x1) (R (.returned (.I (-1))) Z) (R (.returned (.I 1)) Z)):Spec prog 193 #[.agg #[.I Ae,.U A1],.I x1] Z R:=M.start h ok
end R9
namespace tq
variable {x0:Int}
def M:Fw:=⟨prog,198,f198,[],[],false,[],[],[]⟩
def ok:M.Ok:=⟨AH.nil,mixed,func198,by kernel_rfl⟩
def start (h:EN prog 183 #[.U x0] Z (λz y=>∃x4,(Value.float .f64 x4)=z/\R (.returned (Value.float .f64 x4)) y)):Spec prog 198 #[.U x0] Z R:=M.start h ok
end tq
namespace GB
variable {p0 p1:Option Addr}{n0 c0 n1 c1:Nat}
def M:Fw:=⟨prog,206,f206,[207],[],false,[],[],[]⟩
def ok:M.Ok:=⟨.cons call207 (AH.nil),mixed,func206,by kernel_rfl⟩
def start (h:AG 207 #[.slice p0 n0 c0] Z R (CI .u64 λx6 y=>R (.returned (.U x6)) y)):Spec prog 206 #[.slice p0 n0 c0,.slice p1 n1 c1] Z R:=M.start h ok
end GB
namespace KC
variable {Ae A1 Bf Bh BM BS GO Gm XP XQ VK XR x11 x12:Int}{BW XS:ByteArray}{CJ B4 p1 VE Wt N3:Option Addr}{CD CK Bl B8 n1 c1 VF VH Wu Wv n10 MF:Nat}{Bj Ww:Bool}{m6:Option Nat}
def M:Fw:=⟨prog,221,f221,[39,222],[2,8],false,[(5,7,false)],[],[(232,[(1,wL),(2,.X 44 [.I .i64,.I .i64,.T,.L,.I .i64,.I .i64,.I .i64,.L,.B,.I .i64]),(6,wM),(10,wL),(11,wI),(12,wI)])]⟩
def ok:M.Ok:=⟨.cons call39 (.cons call222 (AH.nil)),mixed,func221,by kernel_rfl⟩
def B9:=M.pt 0
def start (h:∀b2:Nat,AJ prog (Instr.makeMap 247 none) Z (λz y=>∃A,z=(.map (some A))/\B9 R p1 n1 c1 Ae A1 BW CJ CD CK Bf Bh BM B4 Bl B8 Bj BS (some A) p1 n1 c1 (n1:Int) 0 y)):Spec prog 221 #[.agg #[.I Ae,.I A1,.string BW,.slice CJ CD CK,.I Bf,.I Bh,.I BM,.slice B4 Bl B8,.bool Bj,.I BS],.slice p1 n1 c1] Z R:=M.start h ok
def As (h:Br (x12<x11) (Pq N3 λDL Wq=>In x12 (n10:Int)/\∃A C G qb,Af Z DL (Wq+x12.toNat*2) [.slice A C G,.U qb]/\∀b8:Nat,AG 222 #[.agg #[.I GO,.I Gm,.string XS,.slice VE VF VH,.I XP,.I XQ,.I VK,.slice Wt Wu Wv,.bool Ww,.I XR],.slice A C G] Z R (CS λp20 n20 c20 y=>AG 39 #[.slice p20 n20 c20] y R (CT λs21 AB=>AJ prog (Instr.mapUpdate 247 (.map m6) (.string s21) (.agg #[.slice A C G,.U qb])) AB (λ_ AK=>AF (x12+1)/\B9 R p1 n1 c1 GO Gm XS VE VF VH XP XQ VK Wt Wu Wv Ww XR m6 (aD DL Wq) n10 MF x11 (x12+1) AK)))) (∃jv,YF prog (Builtin.len_ #[247] 3 #[.map m6]) Z (.I jv)/\R (.T #[.map m6,(.bool (decide (jv=(n1:Int))))]) Z)):B9 R p1 n1 c1 GO Gm XS VE VF VH XP XQ VK Wt Wu Wv Ww XR m6 N3 n10 MF x11 x12 Z:=M.oJ h ok rfl λ_=>by kernel_rfl
end KC
namespace I8
variable {s0:ByteArray}{x3:Int}
def M:Fw:=⟨prog,228,f228,[],[],false,[],[],[(224,[(0,wT),(3,wI)])]⟩
def ok:M.Ok:=⟨AH.nil,mixed,func228,by kernel_rfl⟩
def E5:=M.pt 0
def start (h:E5 R s0 0 Z):Spec prog 228 #[.string s0] Z R:=M.start h ok
def Ag (h:Br (x3<(s0.size:Int)) (∃A:UInt8,0<=x3/\(ByteArray.data s0)[x3.toNat]?=some A/\Br ((48:Int)<=(A.toNat:Int)) (∃C:UInt8,0<=x3/\(ByteArray.data s0)[x3.toNat]?=some C/\Br (((C.toNat:Int):Int)<=57) (AF (x3+1)/\E5 R s0 (x3+1) Z) (R (.returned (.I x3)) Z)) (R (.returned (.I x3)) Z)) (R (.returned (.I x3)) Z)):E5 R s0 x3 Z:=M.of h ok rfl
end I8
namespace Gp
variable {V1:Option Addr}{Nu UW:Nat}{oL s1:ByteArray}
def M:Fw:=⟨prog,234,f234,[249],[2],false,[],[],[]⟩
def ok:M.Ok:=⟨.cons call249 (AH.nil),mixed,func234,by kernel_rfl⟩
def start (h:∀b2:Nat,AG 249 #[.agg #[.slice V1 Nu UW],.string s1] Z R (CB λt8 y=>R (.returned (.bool (!t8))) y)):Spec prog 234 #[.agg #[.slice V1 Nu UW,.string oL],.string s1] Z R:=M.start h ok
end Gp
namespace NK
variable {p0 Fm GG p2:Option Addr}{n0 c0 Fo Fp Fq GH n2 c2 b3:Nat}{By BQ FN FO D9 ET:Int}{FP:ByteArray}{EU:Bool}
def M:Fw:=⟨prog,238,f238,[],[5],false,[],[],[]⟩
def ok:M.Ok:=⟨AH.nil,mixed,func238,by kernel_rfl⟩
def start (h:∀b5:Nat,Br ((n0:Int)<2) (R (.T #[.U 0,.bool false]) Z) (∃G,Hp.ld Z ⟨b3,0,none⟩=some G/\∃(f15:Nat) (A C:Array Value),G=.func (.func f15) A C/\Enters prog f15/\Spec prog f15 (A++#[.slice p0 n0 c0,.slice p2 n2 c2]++C) Z (BV R (CI .u64 λx15 y=>R (.T #[.U x15,.bool true]) y)))):Spec prog 238 #[.slice p0 n0 c0,.agg #[.I By,.I BQ,.string FP,.slice Fm Fo Fp,.I FN,.I FO,.I D9,.slice GG Fq GH,.bool EU,.I ET],.slice p2 n2 c2,(.pointer (aD b3 0))] Z R:=M.start h ok
end NK
end TwW
end
end
