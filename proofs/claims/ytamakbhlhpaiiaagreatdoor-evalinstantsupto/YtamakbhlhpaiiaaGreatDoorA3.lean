/-
  Part 3 of the proof that the law EvalInstantsUptoCardSaid of the given program answers true for every input of the given statement; the input reads behind the call as it did. (The texts: packed from 6 texts. Names are shortened by the packing program, for the bound on size.)
-/
import Derived.Test.YtamakbhlhpaiiaaGreatDoorA2
set_option linter.all false
section
set_option maxRecDepth 100000
noncomputable section
namespace TwW
open Go Tw Go.Proofs.Tryz
variable [G9]{R:Rr}{σ:Hp}

namespace KN
variable {p0:Option Addr}{n0 c0:Nat}
def M:Fw:=⟨prog,21,f21,[],[],false,[],[],[]⟩
def ok:M.Ok:=⟨AH.nil,mixed,func21,by kernel_rfl⟩
def start (h:Al σ fun b3=>AK prog (Builtin.append_ #[41,41] 41 #[(.slice (aD b3 0) 0 0),.slice p0 n0 c0]) (Hp.set σ b3 (.cells #[] 75 (0,0))) (CS fun p5 n5 c5 y=>R (.returned (.slice p5 n5 c5)) y)):Spec prog 21 #[.slice p0 n0 c0] σ R:=M.start h ok
end KN
namespace EU
variable {p0 p1:Option Addr}{n0 c0 n1 c1:Nat}{x5:Int}
def M:Fw:=⟨prog,32,f32,[],[],false,[(6,9,true)],[],[(464,[(0,wL),(1,wL),(5,wI)])]⟩
def ok:M.Ok:=⟨AH.nil,mixed,func32,by kernel_rfl⟩
def Aw:=M.pt 0
def start (h:Br ((n0:Int)≠(n1:Int)) (R (.B false) σ) (Aw R p0 n0 c0 p1 n1 c1 0 σ)):Spec prog 32 #[.slice p0 n0 c0,.slice p1 n1 c1] σ R:=M.start h ok
def Ay (h:Br (x5<(n0:Int)) (Pq p0 fun Dl Vg=>In x5 (n0:Int)∧∃AIQ lQ,Ae σ Dl (Vg+x5.toNat*2) [.string AIQ,.string lQ]∧Pq p1 fun JH TP=>In x5 (n1:Int)∧∃AIR lR,Ae σ JH (TP+x5.toNat*2) [.string AIR,.string lR]∧∃t25,YF prog ((do eqGuard .neq 71 (.tmp 20) (.tmp 24) (.agg #[.string AIQ,.string lQ]) (.agg #[.string AIR,.string lR]);binOp .neq 71 (.agg #[.string AIQ,.string lQ]) (.agg #[.string AIR,.string lR]))) σ (.bool t25)∧Bo t25 (R (.B false) σ) (AG (x5+1)∧Aw R (aD Dl Vg) n0 c0 (aD JH TP) n1 c1 (x5+1) σ)) (R (.B true) σ)):Aw R p0 n0 c0 p1 n1 c1 x5 σ:=M.of h ok rfl
end EU
namespace Bj
variable {p0 p2:Option Addr}{n0 c0 n2 c2:Nat}{x3 x4:Int}
def M:Fw:=⟨prog,34,f34,[],[],false,[],[],[(208,[(0,wL),(2,wL),(3,wI)]),(240,[(0,wL),(4,wI)])]⟩
def ok:M.Ok:=⟨AH.nil,mixed,func34,by kernel_rfl⟩
def Fm:=M.pt 0
def cQ:=M.pt 1
def start (h:Al σ fun b7=>AK prog (E3 47 p0 n0 c0 b7) (Hp.set σ b7 (.cells #[(.string (ByteArray.mk #[115,112,111,105,108,116])),(.string (ByteArray.mk #[115,112,111,105,108,116]))] 71 (0,0))) (CS fun p8 n8 c8 y=>Fm R p0 n0 c0 p8 n8 c8 0 y)):Spec prog 34 #[.slice p0 n0 c0] σ R:=M.start h ok
def As (h:Br (x3<(n2:Int)) (Pq p2 fun KL MV=>In x3 (n2:Int)∧AK prog (Instr.storeAt 71 (.pointer (aD KL (MV+x3.toNat*2))) (.agg #[(.string (ByteArray.mk #[115,112,111,105,108,116])),(.string (ByteArray.mk #[115,112,111,105,108,116]))])) σ (fun _ y=>AG (x3+1)∧Fm R p0 n0 c0 (aD KL MV) n2 c2 (x3+1) y)) (cQ R p0 n0 c0 0 σ)):Fm R p0 n0 c0 p2 n2 c2 x3 σ:=M.of h ok rfl
def Rf (h:Br (x4<(n0:Int)) (Pq p0 fun Rh cR=>In x4 (n0:Int)∧AK prog (Instr.storeAt 71 (.pointer (aD Rh (cR+x4.toNat*2))) (.agg #[(.string (ByteArray.mk #[115,112,111,105,108,116])),(.string (ByteArray.mk #[115,112,111,105,108,116]))])) σ (fun _ y=>AG (x4+1)∧cQ R (aD Rh cR) n0 c0 (x4+1) y)) (R (.T #[]) σ)):cQ R p0 n0 c0 x4 σ:=M.of h ok rfl
end Bj
namespace HM
variable {p0 p3 Su:Option Addr}{n0 c0 n3 c3 n10 Pu:Nat}{x11 x12:Int}
def M:Fw:=⟨prog,56,f56,[89,90],[5],false,[],[],[(232,[(3,wL),(10,wL),(11,wI),(12,wI)])]⟩
def ok:M.Ok:=⟨.cons call89 (.cons call90 (AH.nil)),mixed,func56,by kernel_rfl⟩
def B4:=M.pt 0
def start (h:Df (IntKind.u64.wrap (n0:Int)) fun x8=>AF 89 #[.N,.U x8] σ R (CS fun p9 n9 c9 y=>B4 R p9 n9 c9 p0 n0 c0 (n0:Int) 0 y)):Spec prog 56 #[.slice p0 n0 c0] σ R:=M.start h ok
def Ap (h:Br (x12<x11) (Pq Su fun DO U7=>In x12 (n10:Int)∧∃ANF ANG,Ae σ DO (U7+x12.toNat*2) [.string ANF,.string ANG]∧∀b5:Nat,AF 90 #[.slice p3 n3 c3,.string ANF] σ R (CS fun rE n19 lM y=>AF 90 #[.slice rE n19 lM,.string ANG] y R (CS fun aR n22 ZD AB=>AG (x12+1)∧B4 R aR n22 ZD (aD DO U7) n10 Pu x11 (x12+1) AB))) (R (.returned (.slice p3 n3 c3)) σ)):B4 R p3 n3 c3 Su n10 Pu x11 x12 σ:=M.of h ok rfl
end HM
namespace BV
variable {p0 p1 M7:Option Addr}{n0 c0 n1 c1 n11 PM:Nat}{v2:Value}{x12 DP:Int}
def M:Fw:=⟨prog,59,f59,[],[8,9],false,[],[],[(104,[(0,wL),(1,wL),(2,wV),(11,wL),(12,wI),(13,wI)])]⟩
def ok:M.Ok:=⟨AH.nil,mixed,func59,by kernel_rfl⟩
def Q2:=M.pt 0
def start (h:Q2 R p0 n0 c0 p1 n1 c1 v2 p0 n0 c0 (n0:Int) 0 σ):Spec prog 59 #[.slice p0 n0 c0,.slice p1 n1 c1,v2] σ R:=M.HF h ok [(0,.o (.L p0 n0 c0)),(1,.o (.L p1 n1 c1)),(2,.o (.V v2))] rfl rfl (by kernel_rfl)
def FO (h:Br (DP<x12) (Pq M7 fun IY Rb=>In DP (n11:Int)∧∃ANH ANI,Ae σ IY (Rb+DP.toNat*2) [.string ANH,.string ANI]∧∀b8:Nat,Br ((n1:Int)≤DP) (R (.returned (.I 1)) σ) (Pq p1 fun b24 o24=>In DP (n1:Int)∧∃ANJ ANK,Ae σ b24 (o24+DP.toNat*2) [.string ANJ,.string ANK]∧∀b9:Nat,∃(f29:Nat) (AEt AEu:Array Value),v2=.func (.func f29) AEt AEu∧Enters prog f29∧Spec prog f29 (AEt++#[.agg #[.string ANH,.string ANI],.agg #[.string ANJ,.string ANK]]++AEu) σ (BB R (CI .i64 fun x29 y=>Br (x29≠0) (R (.returned (.I x29)) y) (AG (DP+1)∧Q2 R p0 n0 c0 (aD b24 o24) n1 c1 v2 (aD IY Rb) n11 PM x12 (DP+1) y))))) (Br ((n0:Int)<(n1:Int)) (R (.returned (.I (-1))) σ) (R (.returned (.I 0)) σ))):Q2 R p0 n0 c0 p1 n1 c1 v2 M7 n11 PM x12 DP σ:=M.of h ok rfl
end BV
namespace JV
variable {s0:ByteArray}{x3:Int}
def M:Fw:=⟨prog,63,f63,[],[],false,[],[],[(464,[(0,wT),(3,wI)])]⟩
def ok:M.Ok:=⟨AH.nil,mixed,func63,by kernel_rfl⟩
def Aw:=M.pt 0
def start (h:Br (((s0.size:Int):Int)<1) (R (.B false) σ) (Br ((64:Int)<(s0.size:Int)) (R (.B false) σ) (∃u15:UInt8,(0:Int)≤0∧(ByteArray.data s0)[Int.toNat 0]?=some u15∧Br ((48:Int)≤(u15.toNat:Int)) (∃u19:UInt8,(0:Int)≤0∧(ByteArray.data s0)[Int.toNat 0]?=some u19∧Br (((u19.toNat:Int):Int)≤57) (R (.B false) σ) (Aw R s0 0 σ)) (Aw R s0 0 σ)))):Spec prog 63 #[.string s0] σ R:=M.start h ok
def Ay (h:Br (x3<(s0.size:Int)) (∃QP:UInt8,0≤x3∧(ByteArray.data s0)[x3.toNat]?=some QP∧Br ((65:Int)≤(QP.toNat:Int)) (Br (((QP.toNat:Int):Int)≤90) (AG (x3+1)∧Aw R s0 (x3+1) σ) (Br ((97:Int)≤(QP.toNat:Int)) (Br (((QP.toNat:Int):Int)≤122) (AG (x3+1)∧Aw R s0 (x3+1) σ) (Br ((48:Int)≤(QP.toNat:Int)) (Br (((QP.toNat:Int):Int)≤57) (AG (x3+1)∧Aw R s0 (x3+1) σ) (Bm (((QP.toNat:Int):Int)=95) (R (.B false) σ) (AG (x3+1)∧Aw R s0 (x3+1) σ))) (Bm (((QP.toNat:Int):Int)=95) (R (.B false) σ) (AG (x3+1)∧Aw R s0 (x3+1) σ)))) (Br ((48:Int)≤(QP.toNat:Int)) (Br (((QP.toNat:Int):Int)≤57) (AG (x3+1)∧Aw R s0 (x3+1) σ) (Bm (((QP.toNat:Int):Int)=95) (R (.B false) σ) (AG (x3+1)∧Aw R s0 (x3+1) σ))) (Bm (((QP.toNat:Int):Int)=95) (R (.B false) σ) (AG (x3+1)∧Aw R s0 (x3+1) σ))))) (Br ((97:Int)≤(QP.toNat:Int)) (Br (((QP.toNat:Int):Int)≤122) (AG (x3+1)∧Aw R s0 (x3+1) σ) (Br ((48:Int)≤(QP.toNat:Int)) (Br (((QP.toNat:Int):Int)≤57) (AG (x3+1)∧Aw R s0 (x3+1) σ) (Bm (((QP.toNat:Int):Int)=95) (R (.B false) σ) (AG (x3+1)∧Aw R s0 (x3+1) σ))) (Bm (((QP.toNat:Int):Int)=95) (R (.B false) σ) (AG (x3+1)∧Aw R s0 (x3+1) σ)))) (Br ((48:Int)≤(QP.toNat:Int)) (Br (((QP.toNat:Int):Int)≤57) (AG (x3+1)∧Aw R s0 (x3+1) σ) (Bm (((QP.toNat:Int):Int)=95) (R (.B false) σ) (AG (x3+1)∧Aw R s0 (x3+1) σ))) (Bm (((QP.toNat:Int):Int)=95) (R (.B false) σ) (AG (x3+1)∧Aw R s0 (x3+1) σ))))) (R (.B true) σ)):Aw R s0 x3 σ:=M.of h ok rfl
end JV
namespace Jl
variable {s0:ByteArray}{x3:Int}
def M:Fw:=⟨prog,64,f64,[102],[],false,[],[],[(464,[(0,wT),(3,wI)])]⟩
def ok:M.Ok:=⟨.cons call102 (AH.nil),mixed,func64,by kernel_rfl⟩
def Aw:=M.pt 0
def start (h:Br (((s0.size:Int):Int)<1) (R (.B false) σ) (Br ((256:Int)<(s0.size:Int)) (R (.B false) σ) (Aw R s0 0 σ))):Spec prog 64 #[.string s0] σ R:=M.start h ok
def Ay (h:Br (x3<(s0.size:Int)) (AF 102 #[.string s0,.I x3] σ R (CI .i64 fun FV y=>Br (FV=0) (R (.B false) y) (AG (x3+FV)∧Aw R s0 (x3+FV) y))) (R (.B true) σ)):Aw R s0 x3 σ:=M.of h ok rfl
end Jl
namespace EM
variable {s0:ByteArray}{x4 x5 x7:Int}{t6:Bool}
def M:Fw:=⟨prog,66,f66,[85,103],[],false,[],[],[(2000,[(0,wT),(4,wU),(5,wU),(6,wB),(7,wI)]),(2003,[(0,wT),(4,wU),(5,wU),(6,wB),(7,wI)])]⟩
def ok:M.Ok:=⟨.cons call85 (.cons call103 (AH.nil)),mixed,func66,by kernel_rfl⟩
def Ns:=M.pt 0
def cJ:=M.pt 1
def start (h:AF 85 #[.string s0] σ R (CB fun t9 y=>Bn t9 (R (.T #[.U 0,.bool false]) y) (Ns R s0 0 1 false 0 y))):Spec prog 66 #[.string s0] σ R:=M.start h ok
def KM (h:Br (x7<(s0.size:Int)) (∃u19:UInt8,0≤x7∧(ByteArray.data s0)[x7.toNat]?=some u19∧Br (((u19.toNat:Int):Int)=46) (cJ R s0 x4 x5 true x7 σ) (Df (IntKind.u64.wrap (10*x4)) fun MH=>∃u25:UInt8,0≤x7∧(ByteArray.data s0)[x7.toNat]?=some u25∧Df (IntKind.u8.wrap ((u25.toNat:Int)-48)) fun eb=>Df (IntKind.u64.wrap eb) fun Kv=>Df (IntKind.u64.wrap (MH+Kv)) fun QN=>Bo t6 (Df (IntKind.u64.wrap (10*x5)) fun W5=>cJ R s0 QN W5 true x7 σ) (cJ R s0 QN x5 false x7 σ))) (AK prog (convert 57 73 (.U x4)) σ (fun z y=>∃x33,(Value.float .f64 x33)=z∧AK prog (convert 57 73 (.U x5)) y (fun z AB=>∃QG,(Value.float .f64 QG)=z∧AK prog (binOp .quo 73 (Value.float .f64 x33) (Value.float .f64 QG)) AB (fun z AI=>∃NB,(Value.float .f64 NB)=z∧AF 103 #[(Value.float .f64 NB)] AI R (CI .u64 fun Ss AU=>R (.T #[.U Ss,.bool true]) AU)))))):Ns R s0 x4 x5 t6 x7 σ:=M.of h ok rfl
def cK (h:AG (x7+1)∧Ns R s0 x4 x5 t6 (x7+1) σ):cJ R s0 x4 x5 t6 x7 σ:=M.of h ok rfl
end EM
namespace CG
variable {Ac Ax Bb Be BI BO Bq BM PO GH Ge Vm Vn TZ Vo Bf A4 TT BZ BT D2 x6 x9a x9b x9d x10 x8:Int}{BS Vp:ByteArray}{CJ Bt Ng PQ TU U8 U1 U2 Hd D3 p5 p9c p9e p7:Option Addr}{CC CK Bh Bu M9 Nh PR PS TV TW U9 VA Ps UM Rc UN CM DR D4 D5 n5 c5 n9c c9c n9e c9e n7 c7:Nat}{Bg VB:Bool}
def M:Fw:=⟨prog,70,f70,[44,109,110],[2,3,4,9],false,[(11,17,false),(16,19,false)],[],[(464,[(2,.X 44 [.I .i64,.I .i64,.T,.L,.I .i64,.I .i64,.I .i64,.L,.B,.I .i64]),(3,.X 90 [.I .i64,.I .u64,.L,.I .i64,.L]),(4,.X 90 [.I .i64,.I .u64,.L,.I .i64,.L]),(5,wL),(6,wI)]),(2000,[(2,.X 44 [.I .i64,.I .i64,.T,.L,.I .i64,.I .i64,.I .i64,.L,.B,.I .i64]),(4,.X 90 [.I .i64,.I .u64,.L,.I .i64,.L]),(5,wL),(9,.X 90 [.I .i64,.I .u64,.L,.I .i64,.L]),(10,wI)]),(119392,[(2,.X 44 [.I .i64,.I .i64,.T,.L,.I .i64,.I .i64,.I .i64,.L,.B,.I .i64]),(3,.X 90 [.I .i64,.I .u64,.L,.I .i64,.L]),(4,.X 90 [.I .i64,.I .u64,.L,.I .i64,.L]),(5,wL),(6,wI),(7,wL),(8,wI)]),(14927,[(2,.X 44 [.I .i64,.I .i64,.T,.L,.I .i64,.I .i64,.I .i64,.L,.B,.I .i64]),(3,.X 90 [.I .i64,.I .u64,.L,.I .i64,.L]),(4,.X 90 [.I .i64,.I .u64,.L,.I .i64,.L]),(5,wL),(6,wI),(8,wI)])]⟩
def ok:M.Ok:=⟨.cons call44 (.cons call109 (.cons call110 (AH.nil))),mixed,func70,by kernel_rfl⟩
def Ab:=M.pt 0
def vz:=M.pt 1
def ZX:=M.pt 2
def Nc:=M.pt 3
def start (h:∀b2:Nat,∀b3:Nat,∀b4:Nat,Ab R Ac Ax BS CJ CC CK Bb Be BI Bt Bh Bu Bg BO Bq BM Ng M9 Nh PO PQ PR PS 0 0 none 0 0 0 none 0 0 none 0 0 0 σ):Spec prog 70 #[.agg #[.I Ac,.I Ax,.string BS,.slice CJ CC CK,.I Bb,.I Be,.I BI,.slice Bt Bh Bu,.bool Bg,.I BO],.agg #[.I Bq,.U BM,.slice Ng M9 Nh,.I PO,.slice PQ PR PS]] σ R:=M.start h ok
def AO (h:Br (x6<(Ps:Int)) (Pq U1 fun H0 PT=>In x6 (Ps:Int)∧LS σ H0 (PT+x6.toNat*2) fun gC n27 aQ=>AF 109 #[.I TZ,.slice U8 U9 VA,.slice gC n27 aQ] σ R (CS fun p28 n28 c28 y=>ZX R GH Ge Vp TU TV TW Vm Vn TZ U8 U9 VA VB Vo Bf A4 (aD H0 PT) Ps UM TT U2 Rc UN BZ BT Hd CM DR D2 D3 D4 D5 p5 n5 c5 x6 p28 n28 c28 0 y)) (∀b9:Nat,vz R GH Ge Vp TU TV TW Vm Vn TZ U8 U9 VA VB Vo BZ BT Hd CM DR D2 D3 D4 D5 p5 n5 c5 2 0 none 0 0 0 none 0 0 0 σ)):Ab R GH Ge Vp TU TV TW Vm Vn TZ U8 U9 VA VB Vo Bf A4 U1 Ps UM TT U2 Rc UN BZ BT Hd CM DR D2 D3 D4 D5 p5 n5 c5 x6 σ:=M.ZP h ok rfl fun _ _ _=>by kernel_rfl
def ox (h:Br (x10<(n5:Int)) (Pq p5 fun gh o82=>In x10 (n5:Int)∧LS σ gh (o82+x10.toNat*2) fun p84 n84 c84=>In x10 (n5:Int)∧LS σ gh ((o82+x10.toNat*2)+1) fun p91 n91 c91=>AF 110 #[.I Ge,.slice p91 n91 c91] σ R (CI .u64 fun lX y=>Kp [gh] σ y∧Al y fun b94=>AK prog (E3 87 p9c n9c c9c b94) (Hp.set y b94 (.cells #[.slice p84 n84 c84,.U lX] 94 (0,0))) (CS fun p95 n95 c95 AB=>AG (x10+1)∧vz R GH Ge Vp TU TV TW Vm Vn TZ U8 U9 VA VB Vo BZ BT Hd CM DR D2 D3 D4 D5 (aD gh o82) n5 c5 x9a x9b p95 n95 c95 x9d p9e n9e c9e (x10+1) AB))) (R (.returned (.agg #[.I x9a,.U x9b,.slice p9c n9c c9c,.I x9d,.slice p9e n9e c9e])) σ)):vz R GH Ge Vp TU TV TW Vm Vn TZ U8 U9 VA VB Vo BZ BT Hd CM DR D2 D3 D4 D5 p5 n5 c5 x9a x9b p9c n9c c9c x9d p9e n9e c9e x10 σ:=M.ZP h ok rfl fun _ _ _=>by kernel_rfl
def Vh (h:Br (x8<(n5:Int)) (Pq p5 fun b36 o36=>In x8 (n5:Int)∧LS σ b36 (o36+x8.toNat*2) fun p38 n38 c38=>AF 44 #[.slice p38 n38 c38,.slice p7 n7 c7] σ R (CI .i64 fun eY y=>Br (eY≠0) (AG (x8+1)∧ZX R GH Ge Vp TU TV TW Vm Vn TZ U8 U9 VA VB Vo Bf A4 U1 Ps UM TT U2 Rc UN BZ BT Hd CM DR D2 D3 D4 D5 (aD b36 o36) n5 c5 x6 p7 n7 c7 (x8+1) y) (Br (x8=(n5:Int)) (Al y fun j8=>AK prog (Builtin.append_ #[88,88] 88 #[(.slice (aD b36 o36) n5 c5),(.slice (aD j8 0) 1 1)]) (Hp.set y j8 (.cells #[.slice p7 n7 c7,.N] 165 (0,0))) (CS fun p53 n53 c53 AB=>Nc R GH Ge Vp TU TV TW Vm Vn TZ U8 U9 VA VB Vo Bf A4 U1 Ps UM TT U2 Rc UN BZ BT Hd CM DR D2 D3 D4 D5 p53 n53 c53 x6 x8 AB)) (Nc R GH Ge Vp TU TV TW Vm Vn TZ U8 U9 VA VB Vo Bf A4 U1 Ps UM TT U2 Rc UN BZ BT Hd CM DR D2 D3 D4 D5 (aD b36 o36) n5 c5 x6 x8 y)))) (Br (x8=(n5:Int)) (Al σ fun j8=>AK prog (E3 88 p5 n5 c5 j8) (Hp.set σ j8 (.cells #[.slice p7 n7 c7,.N] 165 (0,0))) (CS fun p53 n53 c53 y=>Nc R GH Ge Vp TU TV TW Vm Vn TZ U8 U9 VA VB Vo Bf A4 U1 Ps UM TT U2 Rc UN BZ BT Hd CM DR D2 D3 D4 D5 p53 n53 c53 x6 x8 y)) (Nc R GH Ge Vp TU TV TW Vm Vn TZ U8 U9 VA VB Vo Bf A4 U1 Ps UM TT U2 Rc UN BZ BT Hd CM DR D2 D3 D4 D5 p5 n5 c5 x6 x8 σ))):ZX R GH Ge Vp TU TV TW Vm Vn TZ U8 U9 VA VB Vo Bf A4 U1 Ps UM TT U2 Rc UN BZ BT Hd CM DR D2 D3 D4 D5 p5 n5 c5 x6 p7 n7 c7 x8 σ:=M.ZP h ok rfl fun _ _ _=>by kernel_rfl
def PN (h:Pq p5 fun b58 o58=>In x8 (n5:Int)∧LS σ b58 ((o58+x8.toNat*2)+1) fun p60 n60 c60=>Pq U1 fun rm tu=>In x6 (Ps:Int)∧LI .u64 σ rm ((tu+x6.toNat*2)+1) fun rk=>Al σ fun b67=>AK prog (E3 163 p60 n60 c60 b67) (Hp.set σ b67 (.cells #[.U rk] 57 (0,0))) (CS fun p68 n68 c68 y=>In x8 (n5:Int)∧AK prog (Instr.storeAt 163 (.pointer (aD b58 ((o58+x8.toNat*2)+1))) (.slice p68 n68 c68)) y (fun _ AB=>AG (x6+1)∧Ab R GH Ge Vp TU TV TW Vm Vn TZ U8 U9 VA VB Vo Bf A4 (aD rm tu) Ps UM TT U2 Rc UN BZ BT Hd CM DR D2 D3 D4 D5 (aD b58 o58) n5 c5 (x6+1) AB))):Nc R GH Ge Vp TU TV TW Vm Vn TZ U8 U9 VA VB Vo Bf A4 U1 Ps UM TT U2 Rc UN BZ BT Hd CM DR D2 D3 D4 D5 p5 n5 c5 x6 x8 σ:=M.ZP h ok rfl fun _ _ _=>by kernel_rfl
end CG
namespace Ib
variable {p0:Option Addr}{n0 c0:Nat}{x3:Int}
def M:Fw:=⟨prog,84,f84,[63],[],false,[],[],[(208,[(0,wL),(3,wI)])]⟩
def ok:M.Ok:=⟨.cons call63 (AH.nil),mixed,func84,by kernel_rfl⟩
def Fm:=M.pt 0
def start (h:Fm R p0 n0 c0 0 σ):Spec prog 84 #[.slice p0 n0 c0] σ R:=M.start h ok
def As (h:Br (x3<(n0:Int)) (Pq p0 fun Dd TY=>In x3 (n0:Int)∧LT σ Dd (TY+x3.toNat*1) fun s13=>AF 63 #[.string s13] σ R (CB fun t14 y=>Bn t14 (R (.B false) y) (AG (x3+1)∧Fm R (aD Dd TY) n0 c0 (x3+1) y))) (R (.B true) σ)):Fm R p0 n0 c0 x3 σ:=M.of h ok rfl
end Ib
namespace CD
variable {s0:ByteArray}{x3 x4 x5:Int}
def M:Fw:=⟨prog,85,f85,[137,138],[],false,[],[],[(464,[(0,wT),(3,wI),(4,wI)]),(4048,[(0,wT),(3,wI),(5,wI)]),(467,[(0,wT),(3,wI),(4,wI)])]⟩
def ok:M.Ok:=⟨.cons call137 (.cons call138 (AH.nil)),mixed,func85,by kernel_rfl⟩
def Ab:=M.pt 0
def ACK:=M.pt 1
def Iy:=M.pt 2
def start (h:AG ((s0.size:Int)-1)∧Ab R s0 ((s0.size:Int)) (((s0.size:Int)-1)) σ):Spec prog 85 #[.string s0] σ R:=M.start h ok
def AO (h:Br (0≤x4) (∃u17:UInt8,0≤x4∧(ByteArray.data s0)[x4.toNat]?=some u17∧Br (((u17.toNat:Int):Int)=46) (Iy R s0 x4 x4 σ) (Iy R s0 x3 x4 σ)) (∃s22,YF prog (Instr.sliceAt 9 (.string s0) none (some (.I x3)) none) σ (.string s22)∧AF 137 #[.string s22] σ R (CB fun t23 y=>Bn t23 (R (.B false) y) (Br (x3=(s0.size:Int)) (R (.returned (.bool (decide (((s0.size:Int):Int)≤15)))) y) (AG (x3+1)∧ACK R s0 x3 (x3+1) y))))):Ab R s0 x3 x4 σ:=M.of h ok rfl
def oy (h:Br (x5<(s0.size:Int)) (∃u42:UInt8,0≤x5∧(ByteArray.data s0)[x5.toNat]?=some u42∧AF 138 #[(.int .u8 (u42.toNat:Int))] σ R (CB fun t43 y=>Bn t43 (R (.B false) y) (AG (x5+1)∧ACK R s0 x3 (x5+1) y))) (AG (x3+1)∧Br (((x3+1):Int)<(s0.size:Int)) (R (.returned (.bool (decide (((s0.size:Int):Int)≤16)))) σ) (R (.B false) σ))):ACK R s0 x3 x5 σ:=M.of h ok rfl
def Gf (h:AG (x4-1)∧Ab R s0 x3 (x4-1) σ):Iy R s0 x3 x4 σ:=M.of h ok rfl
end CD
namespace UP
variable {x0 x1 x2:Int}
def M:Fw:=⟨prog,114,f114,[152],[],false,[],[],[]⟩
def ok:M.Ok:=⟨.cons call152 (AH.nil),mixed,func114,by kernel_rfl⟩
def start (h:AF 152 #[.I x0,.U x1,.U x2] σ R (fun z y=>∃ANN vi,z=(.tuple #[.bool ANN,.bool vi])∧R (.B ANN) y)):Spec prog 114 #[.I x0,.U x1,.U x2] σ R:=M.start h ok
end UP
namespace BA
variable {s0:ByteArray}{x3 x4 x5 x6:Int}
def M:Fw:=⟨prog,119,f119,[],[],false,[],[],[(220,[(0,wT),(3,wI)]),(894,[(0,wT),(3,wI),(4,wI),(5,w8),(6,w8)]),(7164,[(0,wT),(3,wI),(4,wI),(5,w8),(6,w8)])]⟩
def ok:M.Ok:=⟨AH.nil,mixed,func119,by kernel_rfl⟩
def Ab:=M.pt 0
def KB:=M.pt 1
def v7:=M.pt 2
def start (h:Ab R s0 0 σ):Spec prog 119 #[.string s0] σ R:=M.start h ok
def AO (h:Br (x3=(s0.size:Int)) (R (.B true) σ) (∃PU:UInt8,0≤x3∧(ByteArray.data s0)[x3.toNat]?=some PU∧Br (((PU.toNat:Int):Int)<128) (AG (x3+1)∧Ab R s0 (x3+1) σ) (Br ((194:Int)≤(PU.toNat:Int)) (Br (((PU.toNat:Int):Int)≤223) (KB R s0 x3 1 128 191 σ) (Br ((224:Int)≤(PU.toNat:Int)) (Br (((PU.toNat:Int):Int)≤239) (Br (((PU.toNat:Int):Int)=224) (KB R s0 x3 2 160 191 σ) (Br (((PU.toNat:Int):Int)=237) (KB R s0 x3 2 128 159 σ) (KB R s0 x3 2 128 191 σ))) (Br ((240:Int)≤(PU.toNat:Int)) (Br (((PU.toNat:Int):Int)≤244) (Br (((PU.toNat:Int):Int)=240) (KB R s0 x3 3 144 191 σ) (Br (((PU.toNat:Int):Int)=244) (KB R s0 x3 3 128 143 σ) (KB R s0 x3 3 128 191 σ))) (R (.B false) σ)) (R (.B false) σ))) (Br ((240:Int)≤(PU.toNat:Int)) (Br (((PU.toNat:Int):Int)≤244) (Br (((PU.toNat:Int):Int)=240) (KB R s0 x3 3 144 191 σ) (Br (((PU.toNat:Int):Int)=244) (KB R s0 x3 3 128 143 σ) (KB R s0 x3 3 128 191 σ))) (R (.B false) σ)) (R (.B false) σ)))) (Br ((224:Int)≤(PU.toNat:Int)) (Br (((PU.toNat:Int):Int)≤239) (Br (((PU.toNat:Int):Int)=224) (KB R s0 x3 2 160 191 σ) (Br (((PU.toNat:Int):Int)=237) (KB R s0 x3 2 128 159 σ) (KB R s0 x3 2 128 191 σ))) (Br ((240:Int)≤(PU.toNat:Int)) (Br (((PU.toNat:Int):Int)≤244) (Br (((PU.toNat:Int):Int)=240) (KB R s0 x3 3 144 191 σ) (Br (((PU.toNat:Int):Int)=244) (KB R s0 x3 3 128 143 σ) (KB R s0 x3 3 128 191 σ))) (R (.B false) σ)) (R (.B false) σ))) (Br ((240:Int)≤(PU.toNat:Int)) (Br (((PU.toNat:Int):Int)≤244) (Br (((PU.toNat:Int):Int)=240) (KB R s0 x3 3 144 191 σ) (Br (((PU.toNat:Int):Int)=244) (KB R s0 x3 3 128 143 σ) (KB R s0 x3 3 128 191 σ))) (R (.B false) σ)) (R (.B false) σ)))))):Ab R s0 x3 σ:=M.of h ok rfl
def ACL (h:AG (x3+1)∧v7 R s0 (x3+1) x4 x5 x6 σ):KB R s0 x3 x4 x5 x6 σ:=M.of h ok rfl
def oz (h:Br (x4=0) (Ab R s0 x3 σ) (Br (x3=(s0.size:Int)) (R (.B false) σ) (∃u60:UInt8,0≤x3∧(ByteArray.data s0)[x3.toNat]?=some u60∧Br (((u60.toNat:Int):Int)<x5) (R (.B false) σ) (∃u67:UInt8,0≤x3∧(ByteArray.data s0)[x3.toNat]?=some u67∧Br (x6<(u67.toNat:Int)) (R (.B false) σ) (AG (x4-1)∧AG (x3+1)∧v7 R s0 (x3+1) (x4-1) 128 191 σ))))):v7 R s0 x3 x4 x5 x6 σ:=M.of h ok rfl
end BA
namespace UQ
variable {Ac Ax Bb Be BI BO Bq BM FD FE Dm EB:Int}{BS FG:ByteArray}{CJ Bt FZ F2:Option Addr}{CC CK Bh Bu Fa Fb Fc F3:Nat}{Bg EC:Bool}
def M:Fw:=⟨prog,127,f127,[],[2,3],false,[],[],[]⟩
def ok:M.Ok:=⟨AH.nil,mixed,func127,by kernel_rfl⟩
def start (h:∀b2:Nat,∀b3:Nat,Br (Ac=Bq) (Br (Ax=BM) (Bo (ByteArray.toList BS==ByteArray.toList FG) (Br (Bb=FD) (Br (Be=FE) (Br (BI=Dm) (Bo Bg (Bo EC (R (.returned (.bool (decide (BO=EB)))) σ) (R (.B false) σ)) (Bo EC (R (.B false) σ) (R (.returned (.bool (decide (BO=EB)))) σ))) (R (.B false) σ)) (R (.B false) σ)) (R (.B false) σ)) (R (.B false) σ)) (R (.B false) σ)) (R (.B false) σ)):Spec prog 127 #[.agg #[.I Ac,.I Ax,.string BS,.slice CJ CC CK,.I Bb,.I Be,.I BI,.slice Bt Bh Bu,.bool Bg,.I BO],.agg #[.I Bq,.I BM,.string FG,.slice FZ Fa Fb,.I FD,.I FE,.I Dm,.slice F2 Fc F3,.bool EC,.I EB]] σ R:=M.start h ok
end UQ
namespace W8
variable {x0:Int}
def M:Fw:=⟨prog,136,f136,[],[],false,[],[],[]⟩
def ok:M.Ok:=⟨AH.nil,mixed,func136,by kernel_rfl⟩
def start (h:Br (11≤x0) (R (.returned (.bool (decide (x0≤13)))) σ) (R (.B false) σ)):Spec prog 136 #[.I x0] σ R:=M.start h ok
end W8
namespace UR
variable {x0:Int}
def M:Fw:=⟨prog,138,f138,[],[],false,[],[],[]⟩
def ok:M.Ok:=⟨AH.nil,mixed,func138,by kernel_rfl⟩
def start (h:Br (48≤x0) (R (.returned (.bool (decide (x0≤57)))) σ) (R (.B false) σ)):Spec prog 138 #[.int .u8 x0] σ R:=M.start h ok
end UR
namespace Gk
variable {p0 p1 p5 p9:Option Addr}{n0 c0 n1 c1 n5 c5 n9 c9:Nat}{x10 x11:Int}
def M:Fw:=⟨prog,158,f158,[133,194,195,196],[7],false,[],[],[(232,[(1,wL),(5,wL),(9,wL),(10,wI),(11,wI)])]⟩
def ok:M.Ok:=⟨.cons call133 (.cons call194 (.cons call195 (.cons call196 (AH.nil)))),mixed,func158,by kernel_rfl⟩
def B4:=M.pt 0
def start (h:AF 194 #[] σ R (CS fun p8 n8 c8 y=>B4 R p1 n1 c1 p8 n8 c8 p0 n0 c0 (n0:Int) 0 y)):Spec prog 158 #[.slice p0 n0 c0,.slice p1 n1 c1] σ R:=M.start h ok
def Ap (h:Br (x11<x10) (Pq p9 fun D9 cI=>In x11 (n9:Int)∧∃J9 lT AIY,Ae σ D9 (cI+x11.toNat*3) [.I J9,.string lT,.string AIY]∧∀b7:Nat,AF 133 #[.I J9] σ R (CB fun t17 y=>Bn t17 (R (.B false) y) (Pq p5 fun JH TP=>In J9 (n5:Int)∧∃v24,Hp.ld y ⟨JH,(TP+J9.toNat*1),none⟩=some v24∧AF 195 #[.string AIY] y R (fun z AB=>∃Qw Pr Qy,z=(.agg #[.slice Qw Pr Qy])∧Kp [JH] y AB∧AF 196 #[.slice p1 n1 c1,.string lT] AB R (CT fun s34 AI=>Kp [JH] AB AI∧∃(f35:Nat) (gi gj:Array Value),v24=.func (.func f35) gi gj∧Enters prog f35∧Spec prog f35 (gi++#[.agg #[.slice Qw Pr Qy,.string AIY],.string s34]++gj) AI (BB R (CB fun t35 AU=>Bn t35 (R (.B false) AU) (AG (x11+1)∧B4 R p1 n1 c1 (aD JH TP) n5 c5 (aD D9 cI) n9 c9 x10 (x11+1) AU)))))))) (R (.B true) σ)):B4 R p1 n1 c1 p5 n5 c5 p9 n9 c9 x10 x11 σ:=M.of h ok rfl
end Gk
namespace Fp
variable {x0:Int}{b1 b2:Nat}
def M:Fw:=⟨prog,174,f174,[172],[],false,[],[],[]⟩
def ok:M.Ok:=⟨.cons call172 (AH.nil),mixed,func174,by kernel_rfl⟩
def start (h:∃A8 A9 s6c Iz I0 I1 x6e x6f x6g p6h n6h c6h t6i x6j,Ae σ b1 0 [.I A8,.I A9,.string s6c,.slice Iz I0 I1,.I x6e,.I x6f,.I x6g,.slice p6h n6h c6h,.bool t6i,.I x6j]∧LI .u64 σ b2 1 fun x8=>AF 172 #[.agg #[.I A8,.I A9,.string s6c,.slice Iz I0 I1,.I x6e,.I x6f,.I x6g,.slice p6h n6h c6h,.bool t6i,.I x6j],.U x8,.U x0] σ R (fun z y=>∃FY Wm,z=(.tuple #[.U FY,.bool Wm])∧R (.T #[.U FY,.bool Wm]) y)):Spec prog 174 #[.U x0,(.pointer (aD b1 0)),(.pointer (aD b2 0))] σ R:=M.start h ok
end Fp
namespace BH
variable {q0 FZ F2 p2 p3 MX Md CV Hf NO wC:Option Addr}{Bq BM FD FE Dm EB Ca CL Ma Mb Mc Mg CO CP La QF:Int}{FG MW:ByteArray}{Fa Fb Fc F3 n2 c2 n3 c3 MY MZ Me Mf CN CR Hg Hh n14 Lc n41 lz:Nat}{EC Nq:Bool}{m12:Option Nat}
def M:Fw:=⟨prog,177,f177,[39,132,164,172,221,222],[5,8,16,18],false,[],[],[(2024,[(5,.X 44 [.I .i64,.I .i64,.T,.L,.I .i64,.I .i64,.I .i64,.L,.B,.I .i64]),(8,.X 97 [.I .i64,.I .u64,.L,.L]),(12,wM),(14,wL),(41,wL),(42,wI),(43,wI)]),(8103,[(5,.X 44 [.I .i64,.I .i64,.T,.L,.I .i64,.I .i64,.I .i64,.L,.B,.I .i64]),(8,.X 97 [.I .i64,.I .u64,.L,.L]),(12,wM),(14,wL),(41,wL),(42,wI),(43,wI)])]⟩
def ok:M.Ok:=⟨.cons call39 (.cons call132 (.cons call164 (.cons call172 (.cons call221 (.cons call222 (AH.nil)))))),mixed,func177,by kernel_rfl⟩
def Iy:=M.pt 0
def Rj:=M.pt 1
def start (h:∀b5:Nat,∀b8:Nat,AF 221 #[.agg #[.I Bq,.I BM,.string FG,.slice FZ Fa Fb,.I FD,.I FE,.I Dm,.slice F2 Fc F3,.bool EC,.I EB],.slice p2 n2 c2] σ R (fun z y=>∃AW0 wD,z=(.tuple #[.map AW0,.bool wD])∧AF 221 #[.agg #[.I Bq,.I BM,.string FG,.slice FZ Fa Fb,.I FD,.I FE,.I Dm,.slice F2 Fc F3,.bool EC,.I EB],.slice p3 n3 c3] y R (fun z AB=>∃ANY ANZ,z=(.tuple #[.map ANY,.bool ANZ])∧Bn wD (R (.T #[.agg #[.I 0,.U 0,.N,.N],.I 223]) AB) (Bn ANZ (R (.T #[.agg #[.I 0,.U 0,.N,.N],.I 223]) AB) (Iy R Bq BM FG FZ Fa Fb FD FE Dm F2 Fc F3 EC EB 0 0 none 0 0 none 0 0 ANY none 0 0 p2 n2 c2 (n2:Int) 0 AB))))):Spec prog 177 #[.pointer q0,.agg #[.I Bq,.I BM,.string FG,.slice FZ Fa Fb,.I FD,.I FE,.I Dm,.slice F2 Fc F3,.bool EC,.I EB],.slice p2 n2 c2,.slice p3 n3 c3] σ R:=M.start h ok
def Gf (h:Br (QF<La) (Pq wC fun ti tj=>In QF (n41:Int)∧∃AIZ AIa AIb AIc,Ae σ ti (tj+QF.toNat*2) [.slice AIZ AIa AIb,.U AIc]∧∀IY:Nat,AF 222 #[.agg #[.I Ca,.I CL,.string MW,.slice MX MY MZ,.I Ma,.I Mb,.I Mc,.slice Md Me Mf,.bool Nq,.I Mg],.slice AIZ AIa AIb] σ R (CS fun gk n50 j9 y=>AF 39 #[.slice gk n50 j9] y R (CT fun s54 AB=>AK prog (Instr.lookup 247 (.map m12) (.string s54) true) AB (fun z AI=>∃ANa ANb ANc AEw ANd,z=(.tuple #[.agg #[.slice ANa ANb ANc,.U AEw],.bool ANd])∧∀KL:Nat,Bn ANd (Rj R Ca CL MW MX MY MZ Ma Mb Mc Md Me Mf Nq Mg CO CP CV CN CR Hf Hg Hh m12 NO n14 Lc (aD ti tj) n41 lz La QF AI) (AF 172 #[.agg #[.I Ca,.I CL,.string MW,.slice MX MY MZ,.I Ma,.I Mb,.I Mc,.slice Md Me Mf,.bool Nq,.I Mg],.U AIc,.U AEw] AI R (fun z AU=>∃cS vj,z=(.tuple #[.U cS,.bool vj])∧AF 132 #[.I CL] AU R (CB fun t72 DI=>Bn t72 (Al DI fun gh=>AK prog (E3 54 NO n14 Lc gh) (Hp.set DI gh (.cells #[.slice gk n50 j9,.U cS] 59 (0,0))) (CS fun rH ZV rI Gi=>Rj R Ca CL MW MX MY MZ Ma Mb Mc Md Me Mf Nq Mg CO CP CV CN CR Hf Hg Hh m12 rH ZV rI (aD ti tj) n41 lz La QF Gi)) (Bo Nq (Al DI fun gh=>AK prog (E3 54 NO n14 Lc gh) (Hp.set DI gh (.cells #[.slice gk n50 j9,.U cS] 59 (0,0))) (CS fun rH ZV rI Gi=>Rj R Ca CL MW MX MY MZ Ma Mb Mc Md Me Mf true Mg CO CP CV CN CR Hf Hg Hh m12 rH ZV rI (aD ti tj) n41 lz La QF Gi)) (Bo vj (Al DI fun b88=>AK prog (E3 54 NO n14 Lc b88) (Hp.set DI b88 (.cells #[.slice AIZ AIa AIb,.U AIc] 59 (0,0))) (CS fun p89 n89 c89 Gi=>Rj R Ca CL MW MX MY MZ Ma Mb Mc Md Me Mf false Mg CO CP CV CN CR Hf Hg Hh m12 p89 n89 c89 (aD ti tj) n41 lz La QF Gi)) (Rj R Ca CL MW MX MY MZ Ma Mb Mc Md Me Mf false Mg CO CP CV CN CR Hf Hg Hh m12 NO n14 Lc (aD ti tj) n41 lz La QF DI)))))))))) (AF 164 #[.slice NO n14 Lc] σ R (fun z y=>∃AEx AEy AEz AE0 AE1 AE2 AE3 AE4 ANe,z=(.tuple #[.agg #[.I AEx,.U AEy,.slice AEz AE0 AE1,.slice AE2 AE3 AE4],.I ANe])∧R (.T #[.agg #[.I AEx,.U AEy,.slice AEz AE0 AE1,.slice AE2 AE3 AE4],.I ANe]) y))):Iy R Ca CL MW MX MY MZ Ma Mb Mc Md Me Mf Nq Mg CO CP CV CN CR Hf Hg Hh m12 NO n14 Lc wC n41 lz La QF σ:=M.lJ h ok rfl fun _ _=>by kernel_rfl
def cU (h:AG (QF+1)∧Iy R Ca CL MW MX MY MZ Ma Mb Mc Md Me Mf Nq Mg CO CP CV CN CR Hf Hg Hh m12 NO n14 Lc wC n41 lz La (QF+1) σ):Rj R Ca CL MW MX MY MZ Ma Mb Mc Md Me Mf Nq Mg CO CP CV CN CR Hf Hg Hh m12 NO n14 Lc wC n41 lz La QF σ:=M.lJ h ok rfl fun _ _=>by kernel_rfl
end BH
namespace Rk
variable {p0:Option Addr}{n0 c0:Nat}{s1:ByteArray}{x5:Int}
def M:Fw:=⟨prog,186,f186,[],[],false,[],[],[(208,[(0,wL),(1,wT),(5,wI)])]⟩
def ok:M.Ok:=⟨AH.nil,mixed,func186,by kernel_rfl⟩
def Fm:=M.pt 0
def start (h:Fm R p0 n0 c0 s1 0 σ):Spec prog 186 #[.slice p0 n0 c0,.string s1] σ R:=M.start h ok
def As (h:Br (x5<(n0:Int)) (Pq p0 fun DO U7=>In x5 (n0:Int)∧LT σ DO (U7+x5.toNat*1) fun s15=>Bo (ByteArray.toList s15==ByteArray.toList s1) (R (.B true) σ) (AG (x5+1)∧Fm R (aD DO U7) n0 c0 s1 (x5+1) σ)) (R (.B false) σ)):Fm R p0 n0 c0 s1 x5 σ:=M.of h ok rfl
end Rk
namespace Fq
variable {p0:Option Addr}{n0 c0:Nat}
def M:Fw:=⟨prog,200,f200,[201],[],false,[],[],[]⟩
def ok:M.Ok:=⟨.cons call201 (AH.nil),mixed,func200,by kernel_rfl⟩
def start (h:AG ((n0:Int)-1)∧Pq p0 fun b7 o7=>In (((n0:Int)-1)) (n0:Int)∧LI .u64 σ b7 (o7+Int.toNat ((n0:Int)-1)*1) fun x8=>AF 201 #[.U x8] σ R (CI .u64 fun x9 y=>R (.returned (.U x9)) y)):Spec prog 200 #[.slice p0 n0 c0] σ R:=M.start h ok
end Fq
namespace gn
variable {x0 x1:Int}
def M:Fw:=⟨prog,205,f205,[218],[],false,[],[],[]⟩
def ok:M.Ok:=⟨.cons call218 (AH.nil),mixed,func205,by kernel_rfl⟩
def start (h:AF 218 #[.I 2,.U x0,.U x1] σ R (fun z y=>∃FY Wm,z=(.tuple #[.U FY,.bool Wm])∧R (.returned (.U FY)) y)):Spec prog 205 #[.U x0,.U x1] σ R:=M.start h ok
end gn
namespace QQ
variable {ZY p1a:Option Addr}{QH Wn n1a c1a:Nat}{Ax BM:Int}
def M:Fw:=⟨prog,211,f211,[42],[2,3],false,[],[],[]⟩
def ok:M.Ok:=⟨.cons call42 (AH.nil),mixed,func211,by kernel_rfl⟩
def start (h:∀b2:Nat,∀b3:Nat,AF 42 #[.slice ZY QH Wn,.slice p1a n1a c1a] σ R (CI .i64 fun x9 y=>R (.returned (.I x9)) y)):Spec prog 211 #[.agg #[.slice ZY QH Wn,.U Ax],.agg #[.slice p1a n1a c1a,.U BM]] σ R:=M.start h ok
end QQ
namespace QR
variable {x0 x1:Int}
def M:Fw:=⟨prog,227,f227,[147],[],false,[(4,16,true)],[],[]⟩
def ok:M.Ok:=⟨.cons call147 (AH.nil),mixed,func227,by kernel_rfl⟩
def start (h:AF 147 #[.U 4604544271217802189] σ R (fun z y=>∃x9,(Value.float .f64 x9)=z∧∃x12,YF prog (Op.unary .neg (Value.float .f64 x9)) y (Value.float .f64 x12)∧∃NA,YF prog (Op.unary .neg (Value.float .f64 x9)) y (Value.float .f64 NA)∧Al y fun IY=>∃U6,YF prog (Op.unary .neg (Value.float .f64 x9)) (Hp.set y IY (.cells #[.float .f64 4607182418800017408,(Value.float .f64 x9),.float .f64 0,(Value.float .f64 x12),.float .f64 13830554455654793216,(Value.float .f64 NA),.float .f64 0,(Value.float .f64 x9)] 73 (0,0))) (Value.float .f64 U6)∧∃II,YF prog (Op.unary .neg (Value.float .f64 x9)) (Hp.set y IY (.cells #[.float .f64 4607182418800017408,(Value.float .f64 x9),.float .f64 0,(Value.float .f64 x12),.float .f64 13830554455654793216,(Value.float .f64 NA),.float .f64 0,(Value.float .f64 x9)] 73 (0,0))) (Value.float .f64 II)∧Al (Hp.set y IY (.cells #[.float .f64 4607182418800017408,(Value.float .f64 x9),.float .f64 0,(Value.float .f64 x12),.float .f64 13830554455654793216,(Value.float .f64 NA),.float .f64 0,(Value.float .f64 x9)] 73 (0,0))) fun JH=>x0≠(0:Int)∧Df (IntKind.i64.wrap (Int.tdiv 8 x0)) fun Kv=>AG (x1*Kv)∧In (x1*Kv) 8∧∃LZ,Hp.ld (Hp.set (Hp.set y IY (.cells #[.float .f64 4607182418800017408,(Value.float .f64 x9),.float .f64 0,(Value.float .f64 x12),.float .f64 13830554455654793216,(Value.float .f64 NA),.float .f64 0,(Value.float .f64 x9)] 73 (0,0))) JH (.cells #[.float .f64 0,(Value.float .f64 U6),.float .f64 13830554455654793216,(Value.float .f64 II),.float .f64 0,(Value.float .f64 x9),.float .f64 4607182418800017408,(Value.float .f64 x9)] 73 (0,0))) ⟨IY,(0+Int.toNat (x1*Kv)*1),none⟩=some (Value.float .f64 LZ)∧x0≠(0:Int)∧Df (IntKind.i64.wrap (Int.tdiv 8 x0)) fun TR=>AG (x1*TR)∧In (x1*TR) 8∧∃Ss,Hp.ld (Hp.set (Hp.set y IY (.cells #[.float .f64 4607182418800017408,(Value.float .f64 x9),.float .f64 0,(Value.float .f64 x12),.float .f64 13830554455654793216,(Value.float .f64 NA),.float .f64 0,(Value.float .f64 x9)] 73 (0,0))) JH (.cells #[.float .f64 0,(Value.float .f64 U6),.float .f64 13830554455654793216,(Value.float .f64 II),.float .f64 0,(Value.float .f64 x9),.float .f64 4607182418800017408,(Value.float .f64 x9)] 73 (0,0))) ⟨JH,(0+Int.toNat (x1*TR)*1),none⟩=some (Value.float .f64 Ss)∧R (.T #[(Value.float .f64 LZ),(Value.float .f64 Ss)]) (Hp.set (Hp.set y IY (.cells #[.float .f64 4607182418800017408,(Value.float .f64 x9),.float .f64 0,(Value.float .f64 x12),.float .f64 13830554455654793216,(Value.float .f64 NA),.float .f64 0,(Value.float .f64 x9)] 73 (0,0))) JH (.cells #[.float .f64 0,(Value.float .f64 U6),.float .f64 13830554455654793216,(Value.float .f64 II),.float .f64 0,(Value.float .f64 x9),.float .f64 4607182418800017408,(Value.float .f64 x9)] 73 (0,0))))):Spec prog 227 #[.I x0,.I x1] σ R:=M.start h ok
end QR
namespace Lf
variable {p0 p5:Option Addr}{n0 c0 n5 c5:Nat}{x1 x7:Int}{v6:Value}
def M:Fw:=⟨prog,252,f252,[198,272],[],false,[],[],[(444,[(0,wL),(1,wI),(5,wL),(6,wV),(7,wI)])]⟩
def ok:M.Ok:=⟨.cons call198 (.cons call272 (AH.nil)),mixed,func252,by kernel_rfl⟩
def Jh:=M.pt 0
def start (h:AF 272 #[] σ R (CS fun Su n10 Pu y=>Jh R p0 n0 c0 x1 Su n10 Pu (.complex .f64 0 0) 0 y)):Spec prog 252 #[.slice p0 n0 c0,.I x1] σ R:=M.start h ok
def HJ (h:Br (x7=(n0:Int)) (R (.returned v6) σ) (Pq p0 fun KL MV=>In x7 (n0:Int)∧LI .u64 σ KL (MV+x7.toNat*1) fun FV=>AG (x1*x7)∧(n0:Int)≠(0:Int)∧Df (Int.tmod (x1*x7) (n0:Int)) fun Kv=>(n0:Int)≠(0:Int)∧Df (IntKind.i64.wrap (Int.tdiv 8 (n0:Int))) fun LZ=>AG (Kv*LZ)∧Pq p5 fun b32 o32=>In (Kv*LZ) (n5:Int)∧∃x33 y33,Hp.ld σ ⟨b32,(o32+Int.toNat (Kv*LZ)*1),none⟩=some (Value.complex .f64 x33 y33)∧AF 198 #[.U FV] σ R (fun z y=>∃II,(Value.float .f64 II)=z∧Kp [b32] σ y∧∃QG,YF prog (Builtin.real_ #[273] 73 #[v6]) y (Value.float .f64 QG)∧∃x38,YF prog (Builtin.real_ #[273] 73 #[(Value.complex .f64 x33 y33)]) y (Value.float .f64 x38)∧AK prog (binOp .mul 73 (Value.float .f64 II) (Value.float .f64 x38)) y (fun z AB=>∃x39,(Value.float .f64 x39)=z∧AK prog (binOp .add 73 (Value.float .f64 QG) (Value.float .f64 x39)) AB (fun z AI=>∃eY,(Value.float .f64 eY)=z∧∃La,YF prog (Builtin.imag_ #[273] 73 #[v6]) AI (Value.float .f64 La)∧∃j6,YF prog (Builtin.imag_ #[273] 73 #[(Value.complex .f64 x33 y33)]) AI (Value.float .f64 j6)∧AK prog (binOp .mul 73 (Value.float .f64 II) (Value.float .f64 j6)) AI (fun z AU=>∃cL,(Value.float .f64 cL)=z∧AK prog (binOp .add 73 (Value.float .f64 La) (Value.float .f64 cL)) AU (fun z DI=>∃vd,(Value.float .f64 vd)=z∧∃cV y48,YF prog (Builtin.complex_ #[73,73] 273 #[(Value.float .f64 eY),(Value.float .f64 vd)]) DI (Value.complex .f64 cV y48)∧AG (x7+1)∧Jh R (aD KL MV) n0 c0 x1 (aD b32 o32) n5 c5 (Value.complex .f64 cV y48) (x7+1) DI))))))):Jh R p0 n0 c0 x1 p5 n5 c5 v6 x7 σ:=M.of h ok rfl
end Lf
namespace Gs
variable {s0:ByteArray}{x3 x8 x9 x16:Int}{v4 v2:Value}{t11:Bool}
def M:Fw:=⟨prog,264,f264,[276,277,278,283,284,285,287,288],[],false,[],[],[(254,[(0,wT),(3,wI),(4,wV)]),(8190,[(2,wV),(3,wI),(4,wV)]),(32446,[(0,wT),(3,wI),(4,wV),(8,wU),(9,wI),(11,wB),(16,wU)])]⟩
def ok:M.Ok:=⟨.cons call276 (.cons call277 (.cons call278 (.cons call283 (.cons call284 (.cons call285 (.cons call287 (.cons call288 (AH.nil)))))))),mixed,func264,by kernel_rfl⟩
def AW7:=M.pt 0
def ANf:=M.pt 2
def start (h:AF 276 #[.string s0] σ R (fun z y=>∃ANg W9 ANh,z=(.tuple #[ANg,.I W9,.bool ANh])∧Bo ANh (R (.T #[ANg,.I W9,.nilIface]) y) (AF 277 #[.string s0] y R (fun z AB=>∃rn l5 ACN AId ANi XA ANj,z=(.tuple #[.U rn,.I l5,.bool ACN,.bool AId,.bool ANi,.I XA,.bool ANj])∧Bn ANj (R (.T #[.float .f64 0,.I XA,(.iface 268 (.I 2))]) AB) (Bo ANi (∃s53,YF prog (Instr.sliceAt 9 (.string s0) none (some (.I XA)) none) AB (.string s53)∧AF 278 #[.string s53,(.pointer (aD 6 0)),.U rn,.I l5,.bool ACN,.bool AId] AB R (fun z AI=>∃ANk ANl,z=(.tuple #[ANk,ANl])∧R (.T #[ANk,.I XA,ANl]) AI)) (LB AB 5 0 fun t64=>Bo t64 (AF 285 #[.bool ACN] AB R (CI .u64 fun rk AI=>((0:Int)≤63∧63≤((IntKind.bits .u64:Nat):Int))∧Df (IntKind.u64.wrap (rk*2^Int.toNat 63)) fun eZ=>Br (rn=0) (Df (Go.bits .or .u64 eZ 0) fun x71=>EN prog 286 #[.U x71] AI (fun z AU=>∃tn,(Value.float .f64 tn)=z∧R (.T #[(Value.float .f64 tn),.I XA,.nilIface]) AU)) (Br (310<l5) (Df (Go.bits .or .u64 eZ 9218868437227405312) fun x77=>EN prog 286 #[.U x77] AI (fun z AU=>∃x78,(Value.float .f64 x78)=z∧R (.T #[(Value.float .f64 x78),.I XA,(.iface 268 (.I 1))]) AU)) (Br (l5<(-345)) (Df (Go.bits .or .u64 eZ 0) fun x84=>EN prog 286 #[.U x84] AI (fun z AU=>∃x85,(Value.float .f64 x85)=z∧R (.T #[(Value.float .f64 x85),.I XA,.nilIface]) AU)) (Bn AId (AF 287 #[.U rn,.I l5,.bool ACN] AI R (fun z AU=>∃ANm ANn,z=(.tuple #[ANm,.bool ANn])∧Bo ANn (R (.T #[ANm,.I XA,.nilIface]) AU) (ANf R s0 XA .nilIface rn l5 false eZ AU))) (ANf R s0 XA .nilIface rn l5 true eZ AI)))))) (AW7 R s0 XA .nilIface AB))))))):Spec prog 264 #[.string s0] σ R:=M.start h ok
end Gs
namespace strings_Index
variable {s0 s1:ByteArray}
end strings_Index
namespace KO
variable {s0 s1:ByteArray}
def M:Fw:=⟨prog,290,f290,[313],[],false,[],[],[]⟩
def ok:M.Ok:=⟨.cons call313 (AH.nil),mixed,func290,by kernel_rfl⟩
def start (h:AF 313 #[.string s0,.string s1] σ R (CB fun t7 y=>R (.B t7) y)):Spec prog 290 #[.string s0,.string s1] σ R:=M.start h ok
end KO
namespace Dt
variable {s0 s1:ByteArray}
def M:Fw:=⟨prog,313,f313,[],[],false,[],[],[]⟩
def ok:M.Ok:=⟨AH.nil,mixed,func313,by kernel_rfl⟩
def start (h:Br (((s1.size:Int):Int)≤(s0.size:Int)) (∃s14,YF prog (Instr.sliceAt 9 (.string s0) none (some (.I (s1.size:Int))) none) σ (.string s14)∧R (.returned (.bool (ByteArray.toList s14==ByteArray.toList s1))) σ) (R (.B false) σ)):Spec prog 313 #[.string s0,.string s1] σ R:=M.start h ok
end Dt
end TwW
end
end
section
set_option maxRecDepth 100000
noncomputable section
namespace TwW
open Go Tw Go.Proofs.Tryz
variable [G9]{R:Rr}{σ:Hp}

namespace QS
variable {p0 p1:Option Addr}{n0 c0 n1 c1:Nat}{x2:Int}
def M:Fw:=⟨prog,5,f5,[17,18,19,20],[],false,[],[],[]⟩
def ok:M.Ok:=⟨.cons call17 (.cons call18 (.cons call19 (.cons call20 (AH.nil)))),mixed,func5,by kernel_rfl⟩
def start (h:AF 17 #[.slice p0 n0 c0] σ R (CB fun t10 y=>Bn t10 (R (.T #[.N,.I 220]) y) (AF 18 #[.slice p1 n1 c1] y R (CI .i64 fun NA AB=>Br (NA≠0) (R (.T #[.N,.I 224]) AB) (AF 19 #[.I x2] AB R (CB fun t18 AI=>Bn t18 (R (.T #[.N,.I 221]) AI) (AF 20 #[.slice p0 n0 c0,.slice p1 n1 c1,.I x2] AI R (fun z AU=>∃q8 q9 rC gB,z=(.tuple #[.slice q8 q9 rC,.I gB])∧R (.T #[.slice q8 q9 rC,.I gB]) AU)))))))):Spec prog 5 #[.slice p0 n0 c0,.slice p1 n1 c1,.I x2] σ R:=M.start h ok
end QS
namespace XB
variable {x0:Int}
def M:Fw:=⟨prog,19,f19,[],[],false,[],[],[]⟩
def ok:M.Ok:=⟨AH.nil,mixed,func19,by kernel_rfl⟩
def start (h:Br (((-1099511627776):Int)≤x0) (R (.returned (.bool (decide (x0≤1099511627776)))) σ) (R (.B false) σ)):Spec prog 19 #[.I x0] σ R:=M.start h ok
end XB
namespace QT
variable {p0 p1:Option Addr}{n0 c0 n1 c1:Nat}
def M:Fw:=⟨prog,42,f42,[59],[],false,[],[],[]⟩
def ok:M.Ok:=⟨.cons call59 (AH.nil),mixed,func42,by kernel_rfl⟩
def start (h:AF 59 #[.slice p0 n0 c0,.slice p1 n1 c1,(.func (.func 60) #[] #[])] σ R (CI .i64 fun x7 y=>R (.returned (.I x7)) y)):Spec prog 42 #[.slice p0 n0 c0,.slice p1 n1 c1] σ R:=M.start h ok
end QT
namespace Fs
variable {p0 p1:Option Addr}{n0 c0 n1 c1:Nat}{x5:Int}
def M:Fw:=⟨prog,44,f44,[65],[],false,[],[],[(208,[(0,wL),(1,wL),(5,wI)])]⟩
def ok:M.Ok:=⟨.cons call65 (AH.nil),mixed,func44,by kernel_rfl⟩
def Fm:=M.pt 0
def start (h:Fm R p0 n0 c0 p1 n1 c1 0 σ):Spec prog 44 #[.slice p0 n0 c0,.slice p1 n1 c1] σ R:=M.start h ok
def As (h:Br (x5<(n0:Int)) (Br (x5<(n1:Int)) (Pq p0 fun eX lV=>In x5 (n0:Int)∧LT σ eX (lV+x5.toNat*2) fun s24=>Pq p1 fun ZE ot=>In x5 (n1:Int)∧LT σ ZE (ot+x5.toNat*2) fun s29=>AF 65 #[.string s24,.string s29] σ R (CI .i64 fun LZ y=>Br (LZ≠0) (R (.returned (.I LZ)) y) (In x5 (n0:Int)∧LT y eX ((lV+x5.toNat*2)+1) fun s38=>In x5 (n1:Int)∧LT y ZE ((ot+x5.toNat*2)+1) fun s43=>AF 65 #[.string s38,.string s43] y R (CI .i64 fun Vk AB=>Br (Vk≠0) (R (.returned (.I Vk)) AB) (AG (x5+1)∧Fm R (aD eX lV) n0 c0 (aD ZE ot) n1 c1 (x5+1) AB))))) (Br ((n0:Int)<(n1:Int)) (R (.returned (.I (-1))) σ) (Br ((n1:Int)<(n0:Int)) (R (.returned (.I 1)) σ) (R (.returned (.I 0)) σ)))) (Br ((n0:Int)<(n1:Int)) (R (.returned (.I (-1))) σ) (Br ((n1:Int)<(n0:Int)) (R (.returned (.I 1)) σ) (R (.returned (.I 0)) σ)))):Fm R p0 n0 c0 p1 n1 c1 x5 σ:=M.of h ok rfl
end Fs
namespace Du
variable {q0 p1 Hd JS p6 p7 NO:Option Addr}{n1 c1 CM DR JT JU n6 c6 n7 c7 n14 Lc:Nat}{BZ BT x15 x16:Int}
def M:Fw:=⟨prog,47,f47,[76],[4,9],false,[],[],[(488,[(0,wQ),(4,.X 97 [.I .i64,.I .u64,.L,.L]),(6,wL),(7,wL),(14,wL),(15,wI),(16,wI)])]⟩
def ok:M.Ok:=⟨.cons call76 (AH.nil),mixed,func47,by kernel_rfl⟩
def GL:=M.pt 0
def start (h:∀b4:Nat,AF 76 #[] σ R (CS fun p13 n13 c13 y=>GL R q0 0 0 none 0 0 none 0 0 p13 n13 c13 none 0 0 p1 n1 c1 (n1:Int) 0 y)):Spec prog 47 #[.pointer q0,.slice p1 n1 c1] σ R:=M.start h ok
def Fg (h:Br (x16<x15) (Pq NO fun KL MV=>In x16 (n14:Int)∧∃Ta cW wE wF wG wH wJ wK wN wO wP wR wS HN,Ae σ KL (MV+x16.toNat*10) [.I Ta,.I cW,.string wE,.slice wF wG wH,.I wJ,.I wK,.I wN,.slice wO wP wR,.bool wS,.I HN]∧∀b9:Nat,AG ((n7:Int)-HN)∧Pq p6 fun LY RL=>In Ta (n6:Int)∧∃v30,Hp.ld σ ⟨LY,(RL+Ta.toNat*1),none⟩=some v30∧((0:Int)≤((n7:Int)-HN)∧((n7:Int)-HN)≤(n7:Int))∧(Al σ fun o0=>(AK prog (Builtin.append_ #[140,140] 140 #[(.slice (aD o0 0) 0 0),(.slice (MK p7 (Int.toNat ((n7:Int)-HN)) c7 4) (n7-Int.toNat ((n7:Int)-HN)) (c7-Int.toNat ((n7:Int)-HN)))]) (Hp.set σ o0 (.cells #[] 97 (0,0))) (CS fun ad n37 ae y=>Kp [LY] (Hp.set σ o0 (.cells #[] 97 (0,0))) y∧(∃(f38:Nat) (KQ KR:Array Value),v30=.func (.func f38) KQ KR∧Enters prog f38∧Spec prog f38 (KQ++#[.pointer q0,.agg #[.I Ta,.I cW,.string wE,.slice wF wG wH,.I wJ,.I wK,.I wN,.slice wO wP wR,.bool wS,.I HN],.slice ad n37 ae]++KR) y (BB R (fun z AB=>∃Nt Nu Nv Nw Nx Ny Nz N0 KA,z=(.tuple #[.agg #[.I Nt,.U Nu,.slice Nv Nw Nx,.slice Ny Nz N0],.I KA])∧Al AB fun CH=>AK prog (Instr.storeAt 97 (.pointer (aD CH 0)) (.agg #[.I Nt,.U Nu,.slice Nv Nw Nx,.slice Ny Nz N0])) (Hp.set AB CH (.cells #[.I 0,.U 0,.N,.N] 97 (0,0))) (fun _ AI=>Br (KA≠0) (R (.T #[.agg #[.I 0,.U 0,.N,.N],.I KA]) AI) (((0:Int)≤((n7:Int)-HN)∧((n7:Int)-HN)≤(c7:Int))∧∃Rl Rm Rn Ro Rp Rq Rt Ru,Ae AI CH 0 [.I Rl,.U Rm,.slice Rn Ro Rp,.slice Rq Rt Ru]∧Al AI fun US=>AK prog (Builtin.append_ #[140,140] 140 #[(.slice p7 (Int.toNat ((n7:Int)-HN)) c7),(.slice (aD US 0) 1 1)]) (Hp.set AI US (.cells #[.I Rl,.U Rm,.slice Rn Ro Rp,.slice Rq Rt Ru] 97 (0,0))) (CS fun gk n50 j9 AU=>AG (x16+1)∧GL R q0 BZ BT Hd CM DR JS JT JU (aD LY RL) n6 c6 gk n50 j9 (aD KL MV) n14 Lc x15 (x16+1) AU))))))∧(Al y fun CH=>∃(f38:Nat) (KQ KR:Array Value),v30=.func (.func f38) KQ KR∧Enters prog f38∧Spec prog f38 (KQ++#[.pointer q0,.agg #[.I Ta,.I cW,.string wE,.slice wF wG wH,.I wJ,.I wK,.I wN,.slice wO wP wR,.bool wS,.I HN],.slice ad n37 ae]++KR) (Hp.set y CH (.cells #[.I 0,.U 0,.N,.N] 97 (0,0))) (BB R (fun z AB=>∃Nt Nu Nv Nw Nx Ny Nz N0 KA,z=(.tuple #[.agg #[.I Nt,.U Nu,.slice Nv Nw Nx,.slice Ny Nz N0],.I KA])∧AK prog (Instr.storeAt 97 (.pointer (aD CH 0)) (.agg #[.I Nt,.U Nu,.slice Nv Nw Nx,.slice Ny Nz N0])) AB (fun _ AI=>Br (KA≠0) (R (.T #[.agg #[.I 0,.U 0,.N,.N],.I KA]) AI) (((0:Int)≤((n7:Int)-HN)∧((n7:Int)-HN)≤(c7:Int))∧∃Rl Rm Rn Ro Rp Rq Rt Ru,Ae AI CH 0 [.I Rl,.U Rm,.slice Rn Ro Rp,.slice Rq Rt Ru]∧Al AI fun US=>AK prog (Builtin.append_ #[140,140] 140 #[(.slice p7 (Int.toNat ((n7:Int)-HN)) c7),(.slice (aD US 0) 1 1)]) (Hp.set AI US (.cells #[.I Rl,.U Rm,.slice Rn Ro Rp,.slice Rq Rt Ru] 97 (0,0))) (CS fun gk n50 j9 AU=>AG (x16+1)∧GL R q0 BZ BT Hd CM DR JS JT JU (aD LY RL) n6 c6 gk n50 j9 (aD KL MV) n14 Lc x15 (x16+1) AU))))))))∧(Al (Hp.set σ o0 (.cells #[] 97 (0,0))) fun CH=>AK prog (Builtin.append_ #[140,140] 140 #[(.slice (aD o0 0) 0 0),(.slice (MK p7 (Int.toNat ((n7:Int)-HN)) c7 4) (n7-Int.toNat ((n7:Int)-HN)) (c7-Int.toNat ((n7:Int)-HN)))]) (Hp.set (Hp.set σ o0 (.cells #[] 97 (0,0))) CH (.cells #[.I 0,.U 0,.N,.N] 97 (0,0))) (CS fun ad n37 ae y=>Kp [LY] (Hp.set (Hp.set σ o0 (.cells #[] 97 (0,0))) CH (.cells #[.I 0,.U 0,.N,.N] 97 (0,0))) y∧∃(f38:Nat) (KQ KR:Array Value),v30=.func (.func f38) KQ KR∧Enters prog f38∧Spec prog f38 (KQ++#[.pointer q0,.agg #[.I Ta,.I cW,.string wE,.slice wF wG wH,.I wJ,.I wK,.I wN,.slice wO wP wR,.bool wS,.I HN],.slice ad n37 ae]++KR) y (BB R (fun z AB=>∃Nt Nu Nv Nw Nx Ny Nz N0 KA,z=(.tuple #[.agg #[.I Nt,.U Nu,.slice Nv Nw Nx,.slice Ny Nz N0],.I KA])∧AK prog (Instr.storeAt 97 (.pointer (aD CH 0)) (.agg #[.I Nt,.U Nu,.slice Nv Nw Nx,.slice Ny Nz N0])) AB (fun _ AI=>Br (KA≠0) (R (.T #[.agg #[.I 0,.U 0,.N,.N],.I KA]) AI) (((0:Int)≤((n7:Int)-HN)∧((n7:Int)-HN)≤(c7:Int))∧∃Rl Rm Rn Ro Rp Rq Rt Ru,Ae AI CH 0 [.I Rl,.U Rm,.slice Rn Ro Rp,.slice Rq Rt Ru]∧Al AI fun US=>AK prog (Builtin.append_ #[140,140] 140 #[(.slice p7 (Int.toNat ((n7:Int)-HN)) c7),(.slice (aD US 0) 1 1)]) (Hp.set AI US (.cells #[.I Rl,.U Rm,.slice Rn Ro Rp,.slice Rq Rt Ru] 97 (0,0))) (CS fun gk n50 j9 AU=>AG (x16+1)∧GL R q0 BZ BT Hd CM DR JS JT JU (aD LY RL) n6 c6 gk n50 j9 (aD KL MV) n14 Lc x15 (x16+1) AU))))))))∧(Al σ fun CH=>Al (Hp.set σ CH (.cells #[.I 0,.U 0,.N,.N] 97 (0,0))) fun o0=>AK prog (Builtin.append_ #[140,140] 140 #[(.slice (aD o0 0) 0 0),(.slice (MK p7 (Int.toNat ((n7:Int)-HN)) c7 4) (n7-Int.toNat ((n7:Int)-HN)) (c7-Int.toNat ((n7:Int)-HN)))]) (Hp.set (Hp.set σ CH (.cells #[.I 0,.U 0,.N,.N] 97 (0,0))) o0 (.cells #[] 97 (0,0))) (CS fun ad n37 ae y=>Kp [LY] (Hp.set (Hp.set σ CH (.cells #[.I 0,.U 0,.N,.N] 97 (0,0))) o0 (.cells #[] 97 (0,0))) y∧∃(f38:Nat) (KQ KR:Array Value),v30=.func (.func f38) KQ KR∧Enters prog f38∧Spec prog f38 (KQ++#[.pointer q0,.agg #[.I Ta,.I cW,.string wE,.slice wF wG wH,.I wJ,.I wK,.I wN,.slice wO wP wR,.bool wS,.I HN],.slice ad n37 ae]++KR) y (BB R (fun z AB=>∃Nt Nu Nv Nw Nx Ny Nz N0 KA,z=(.tuple #[.agg #[.I Nt,.U Nu,.slice Nv Nw Nx,.slice Ny Nz N0],.I KA])∧AK prog (Instr.storeAt 97 (.pointer (aD CH 0)) (.agg #[.I Nt,.U Nu,.slice Nv Nw Nx,.slice Ny Nz N0])) AB (fun _ AI=>Br (KA≠0) (R (.T #[.agg #[.I 0,.U 0,.N,.N],.I KA]) AI) (((0:Int)≤((n7:Int)-HN)∧((n7:Int)-HN)≤(c7:Int))∧∃Rl Rm Rn Ro Rp Rq Rt Ru,Ae AI CH 0 [.I Rl,.U Rm,.slice Rn Ro Rp,.slice Rq Rt Ru]∧Al AI fun US=>AK prog (Builtin.append_ #[140,140] 140 #[(.slice p7 (Int.toNat ((n7:Int)-HN)) c7),(.slice (aD US 0) 1 1)]) (Hp.set AI US (.cells #[.I Rl,.U Rm,.slice Rn Ro Rp,.slice Rq Rt Ru] 97 (0,0))) (CS fun gk n50 j9 AU=>AG (x16+1)∧GL R q0 BZ BT Hd CM DR JS JT JU (aD LY RL) n6 c6 gk n50 j9 (aD KL MV) n14 Lc x15 (x16+1) AU)))))))) (Pq p7 fun Q1 o53=>In 0 (n7:Int)∧∃wX wY ANo ANp ANq wZ wa wc,Ae σ Q1 o53 [.I wX,.U wY,.slice ANo ANp ANq,.slice wZ wa wc]∧R (.T #[.agg #[.I wX,.U wY,.slice ANo ANp ANq,.slice wZ wa wc],.I 0]) σ)):GL R q0 BZ BT Hd CM DR JS JT JU p6 n6 c6 p7 n7 c7 NO n14 Lc x15 x16 σ:=M.fy h ok rfl fun _=>by kernel_rfl
end Du
namespace GN
variable {p0:Option Addr}{n0 c0:Nat}{x3:Int}
def M:Fw:=⟨prog,75,f75,[],[],false,[(4,12,true)],[],[(208,[(0,wL),(3,wI)])]⟩
def ok:M.Ok:=⟨AH.nil,mixed,func75,by kernel_rfl⟩
def Fm:=M.pt 0
def start (h:Fm R p0 n0 c0 1 σ):Spec prog 75 #[.slice p0 n0 c0] σ R:=M.start h ok
def As (h:Br (x3<(n0:Int)) (Pq p0 fun Dd TY=>In x3 (n0:Int)∧LI .i64 σ Dd (TY+x3.toNat*2) fun NA=>AG (x3-1)∧In (x3-1) (n0:Int)∧LI .i64 σ Dd (TY+Int.toNat (x3-1)*2) fun II=>Br (NA≤II) (R (.B false) σ) (AG (x3+1)∧Fm R (aD Dd TY) n0 c0 (x3+1) σ)) (R (.returned (.bool (decide (0<(n0:Int))))) σ)):Fm R p0 n0 c0 x3 σ:=M.of h ok rfl
end GN
namespace QU
variable {p0:Option Addr}{n0 c0:Nat}{s1:ByteArray}
def M:Fw:=⟨prog,90,f90,[89],[],false,[],[],[]⟩
def ok:M.Ok:=⟨.cons call89 (AH.nil),mixed,func90,by kernel_rfl⟩
def start (h:Df (IntKind.u64.wrap (s1.size:Int)) fun x8=>AF 89 #[.slice p0 n0 c0,.U x8] σ R (CS fun p9 n9 c9 y=>AK prog (Builtin.append_ #[117,9] 117 #[.slice p9 n9 c9,.string s1]) y (CS fun M7 n11 PM AB=>R (.returned (.slice M7 n11 PM)) AB))):Spec prog 90 #[.slice p0 n0 c0,.string s1] σ R:=M.start h ok
end QU
namespace H3
variable {p0 p1:Option Addr}{n0 c0 n1 c1:Nat}{x5:Int}{t7:Bool}
def M:Fw:=⟨prog,104,f104,[145,146],[],false,[],[],[(208,[(0,wL),(1,wL),(5,wI)]),(6734,[(0,wL),(1,wL),(5,wI),(7,wB)])]⟩
def ok:M.Ok:=⟨.cons call145 (.cons call146 (AH.nil)),mixed,func104,by kernel_rfl⟩
def Fm:=M.pt 0
def VC:=M.pt 1
def start (h:Fm R p0 n0 c0 p1 n1 c1 0 σ):Spec prog 104 #[.slice p0 n0 c0,.slice p1 n1 c1] σ R:=M.start h ok
def As (h:Br (x5<(n0:Int)) (Pq p0 fun l6 we=>In x5 (n0:Int)∧LT σ l6 ((we+x5.toNat*3)+1) fun s19=>AF 145 #[.slice p1 n1 c1,.string s19] σ R (CT fun s20 y=>In x5 (n0:Int)∧LI .i64 y l6 (we+x5.toNat*3) fun Kz=>Br (Kz=1) (In x5 (n0:Int)∧LT y l6 ((we+x5.toNat*3)+2) fun s33=>VC R (aD l6 we) n0 c0 p1 n1 c1 x5 (ByteArray.toList s20==ByteArray.toList s33) y) (Br (Kz=2) (In x5 (n0:Int)∧LT y l6 ((we+x5.toNat*3)+2) fun s42=>VC R (aD l6 we) n0 c0 p1 n1 c1 x5 ((!(ByteArray.toList s20==ByteArray.toList s42))) y) (Br (Kz=3) (In x5 (n0:Int)∧LT y l6 ((we+x5.toNat*3)+2) fun s50=>AF 146 #[.string s50,.string s20] y R (CB fun t52 AB=>VC R (aD l6 we) n0 c0 p1 n1 c1 x5 t52 AB)) (Br (Kz=4) (In x5 (n0:Int)∧LT y l6 ((we+x5.toNat*3)+2) fun s59=>AF 146 #[.string s59,.string s20] y R (CB fun t61 AB=>VC R (aD l6 we) n0 c0 p1 n1 c1 x5 (!t61) AB)) (VC R (aD l6 we) n0 c0 p1 n1 c1 x5 false y)))))) (R (.B true) σ)):Fm R p0 n0 c0 p1 n1 c1 x5 σ:=M.of h ok rfl
def cX (h:Bn t7 (R (.B false) σ) (AG (x5+1)∧Fm R p0 n0 c0 p1 n1 c1 (x5+1) σ)):VC R p0 n0 c0 p1 n1 c1 x5 t7 σ:=M.of h ok rfl
end H3
namespace C5
variable {Ac Ax Bb Be BI BO Bq BM PO GH Ge Sl Bf A4 Cp CZ Cu Cv BZ BT D2 Ca CL Fh A8 A9 Cw Kk Kl Km x9 x10 x11:Int}{BS Cy:ByteArray}{CJ Bt Ng PQ QJ Sm Cq Cz Hd D3 GM Fi BC C0 Kn Ko p8:Option Addr}{CC CK Bh Bu M9 Nh PR PS QK QL Sn Sp Cr Cs C1 C2 CM DR D4 D5 Da FI Fj Fk BD BE C3 C4 Kq Kr Ks Kt n8 c8:Nat}{Bg DQ:Bool}
def M:Fw:=⟨prog,116,f116,[107,112,113,114,115],[3,4,5,6,7],false,[(6,9,true),(11,17,false),(13,18,false),(15,9,false)],[],[(976,[(3,.X 44 [.I .i64,.I .i64,.T,.L,.I .i64,.I .i64,.I .i64,.L,.B,.I .i64]),(4,.X 90 [.I .i64,.I .u64,.L,.I .i64,.L]),(5,.X 90 [.I .i64,.I .u64,.L,.I .i64,.L]),(6,.X 90 [.I .i64,.I .u64,.L,.I .i64,.L]),(7,.X 90 [.I .i64,.I .u64,.L,.I .i64,.L]),(8,wL),(9,wI)]),(31308,[(3,.X 44 [.I .i64,.I .i64,.T,.L,.I .i64,.I .i64,.I .i64,.L,.B,.I .i64]),(4,.X 90 [.I .i64,.I .u64,.L,.I .i64,.L]),(5,.X 90 [.I .i64,.I .u64,.L,.I .i64,.L]),(6,.X 90 [.I .i64,.I .u64,.L,.I .i64,.L]),(7,.X 90 [.I .i64,.I .u64,.L,.I .i64,.L]),(8,wL),(9,wI),(10,wU),(11,wU)]),(979,[(3,.X 44 [.I .i64,.I .i64,.T,.L,.I .i64,.I .i64,.I .i64,.L,.B,.I .i64]),(4,.X 90 [.I .i64,.I .u64,.L,.I .i64,.L]),(5,.X 90 [.I .i64,.I .u64,.L,.I .i64,.L]),(6,.X 90 [.I .i64,.I .u64,.L,.I .i64,.L]),(7,.X 90 [.I .i64,.I .u64,.L,.I .i64,.L]),(8,wL),(9,wI)])]⟩
def ok:M.Ok:=⟨.cons call107 (.cons call112 (.cons call113 (.cons call114 (.cons call115 (AH.nil))))),mixed,func116,by kernel_rfl⟩
def Jh:=M.pt 0
def N1:=M.pt 1
def XC:=M.pt 2
def start (h:∀b3:Nat,∀b4:Nat,∀b5:Nat,∀b6:Nat,∀b7:Nat,Al σ fun D9=>AK prog (Builtin.append_ #[87,87] 87 #[(.slice (aD D9 0) 0 0),.slice Ng M9 Nh]) (Hp.set σ D9 (.cells #[] 94 (0,0))) (CS fun gV n16 aZ y=>AK prog (Builtin.append_ #[87,87] 87 #[.slice gV n16 aZ,.slice QJ QK QL]) y (CS fun rE n19 lM AB=>Jh R Ac Ax BS CJ CC CK Bb Be BI Bt Bh Bu Bg BO Bq BM Ng M9 Nh PO PQ PR PS GH Ge QJ QK QL Sl Sm Sn Sp 0 0 none 0 0 0 none 0 0 2 0 none 0 0 0 none 0 0 rE n19 lM 0 AB))):Spec prog 116 #[.agg #[.I Ac,.I Ax,.string BS,.slice CJ CC CK,.I Bb,.I Be,.I BI,.slice Bt Bh Bu,.bool Bg,.I BO],.agg #[.I Bq,.U BM,.slice Ng M9 Nh,.I PO,.slice PQ PR PS],.agg #[.I GH,.U Ge,.slice QJ QK QL,.I Sl,.slice Sm Sn Sp]] σ R:=M.start h ok
def HJ (h:Br (x9<(n8:Int)) (Pq p8 fun Rh cR=>In x9 (n8:Int)∧LI .u64 σ Rh ((cR+x9.toNat*2)+1) fun LZ=>Br (BZ=1) (In x9 (n8:Int)∧LI .u64 σ Rh ((cR+x9.toNat*2)+1) fun La=>N1 R Bf A4 Cy Cq Cr Cs Cp CZ Cu Cz C1 C2 DQ Cv BZ BT Hd CM DR D2 D3 D4 D5 Ca CL GM Da FI Fh Fi Fj Fk A8 A9 BC BD BE Cw C0 C3 C4 Kk Kl Kn Kq Kr Km Ko Ks Kt (aD Rh cR) n8 c8 x9 BT La σ) (N1 R Bf A4 Cy Cq Cr Cs Cp CZ Cu Cz C1 C2 DQ Cv BZ BT Hd CM DR D2 D3 D4 D5 Ca CL GM Da FI Fh Fi Fj Fk A8 A9 BC BD BE Cw C0 C3 C4 Kk Kl Kn Kq Kr Km Ko Ks Kt (aD Rh cR) n8 c8 x9 LZ CL σ)) (R (.returned (.agg #[.I Kk,.U Kl,.slice Kn Kq Kr,.I Km,.slice Ko Ks Kt])) σ)):Jh R Bf A4 Cy Cq Cr Cs Cp CZ Cu Cz C1 C2 DQ Cv BZ BT Hd CM DR D2 D3 D4 D5 Ca CL GM Da FI Fh Fi Fj Fk A8 A9 BC BD BE Cw C0 C3 C4 Kk Kl Kn Kq Kr Km Ko Ks Kt p8 n8 c8 x9 σ:=M.of5 h ok rfl fun _ _ _ _ _=>by kernel_rfl
def PW (h:AF 112 #[.I A4] σ R (CB fun t46 y=>Bn t46 (Pq p8 fun j8 o52=>In x9 (n8:Int)∧LS y j8 (o52+x9.toNat*2) fun p54 n54 c54=>AF 107 #[.slice p54 n54 c54] y R (CS fun p55 n55 c55 AB=>AF 115 #[.I A4,.U x10,.U x11] AB R (CI .u64 fun lU AI=>Al AI fun o6=>AK prog (E3 87 Kn Kq Kr o6) (Hp.set AI o6 (.cells #[.slice p55 n55 c55,.U lU] 94 (0,0))) (CS fun p63 n63 c63 AU=>XC R Bf A4 Cy Cq Cr Cs Cp CZ Cu Cz C1 C2 DQ Cv BZ BT Hd CM DR D2 D3 D4 D5 Ca CL GM Da FI Fh Fi Fj Fk A8 A9 BC BD BE Cw C0 C3 C4 Kk Kl p63 n63 c63 Km Ko Ks Kt (aD j8 o52) n8 c8 x9 AU)))) (Bo DQ (Pq p8 fun rX o72=>In x9 (n8:Int)∧LS y rX (o72+x9.toNat*2) fun p74 n74 c74=>AF 107 #[.slice p74 n74 c74] y R (CS fun p75 n75 c75 AB=>AF 114 #[.I A4,.U x10,.U x11] AB R (CB fun t80 AI=>AF 113 #[.bool t80] AI R (CI .u64 fun x81 AU=>Al AU fun b83=>AK prog (E3 87 Kn Kq Kr b83) (Hp.set AU b83 (.cells #[.slice p75 n75 c75,.U x81] 94 (0,0))) (CS fun p84 n84 c84 DI=>XC R Bf A4 Cy Cq Cr Cs Cp CZ Cu Cz C1 C2 true Cv BZ BT Hd CM DR D2 D3 D4 D5 Ca CL GM Da FI Fh Fi Fj Fk A8 A9 BC BD BE Cw C0 C3 C4 Kk Kl p84 n84 c84 Km Ko Ks Kt (aD rX o72) n8 c8 x9 DI))))) (AF 114 #[.I A4,.U x10,.U x11] y R (CB fun t91 AB=>Bo t91 (Pq p8 fun th o96=>In x9 (n8:Int)∧∃ANr ANs ANt ANu,Ae AB th (o96+x9.toNat*2) [.slice ANr ANs ANt,.U ANu]∧Al AB fun b98=>AK prog (E3 87 Kn Kq Kr b98) (Hp.set AB b98 (.cells #[.slice ANr ANs ANt,.U ANu] 94 (0,0))) (CS fun p99 n99 c99 AI=>XC R Bf A4 Cy Cq Cr Cs Cp CZ Cu Cz C1 C2 false Cv BZ BT Hd CM DR D2 D3 D4 D5 Ca CL GM Da FI Fh Fi Fj Fk A8 A9 BC BD BE Cw C0 C3 C4 Kk Kl p99 n99 c99 Km Ko Ks Kt (aD th o96) n8 c8 x9 AI)) (XC R Bf A4 Cy Cq Cr Cs Cp CZ Cu Cz C1 C2 false Cv BZ BT Hd CM DR D2 D3 D4 D5 Ca CL GM Da FI Fh Fi Fj Fk A8 A9 BC BD BE Cw C0 C3 C4 Kk Kl Kn Kq Kr Km Ko Ks Kt p8 n8 c8 x9 AB)))))):N1 R Bf A4 Cy Cq Cr Cs Cp CZ Cu Cz C1 C2 DQ Cv BZ BT Hd CM DR D2 D3 D4 D5 Ca CL GM Da FI Fh Fi Fj Fk A8 A9 BC BD BE Cw C0 C3 C4 Kk Kl Kn Kq Kr Km Ko Ks Kt p8 n8 c8 x9 x10 x11 σ:=M.of5 h ok rfl fun _ _ _ _ _=>by kernel_rfl
def Vq (h:AG (x9+1)∧Jh R Bf A4 Cy Cq Cr Cs Cp CZ Cu Cz C1 C2 DQ Cv BZ BT Hd CM DR D2 D3 D4 D5 Ca CL GM Da FI Fh Fi Fj Fk A8 A9 BC BD BE Cw C0 C3 C4 Kk Kl Kn Kq Kr Km Ko Ks Kt p8 n8 c8 (x9+1) σ):XC R Bf A4 Cy Cq Cr Cs Cp CZ Cu Cz C1 C2 DQ Cv BZ BT Hd CM DR D2 D3 D4 D5 Ca CL GM Da FI Fh Fi Fj Fk A8 A9 BC BD BE Cw C0 C3 C4 Kk Kl Kn Kq Kr Km Ko Ks Kt p8 n8 c8 x9 σ:=M.of5 h ok rfl fun _ _ _ _ _=>by kernel_rfl
end C5
namespace Ad
variable {q0 FZ F2 p2 JS LA BC Iz p8 rV p12 p47:Option Addr}{Bq BM FD FE Dm EB BZ BT LC JA LD ME A8 A9 eb Kv cV RY:Int}{FG MF:ByteArray}{Fa Fb Fc F3 n2 c2 JT JU LF LG BD BE I0 I1 n8 c8 n25 rW n12 c12 n47 c47:Nat}{EC MG:Bool}{v9:Value}
def M:Fw:=⟨prog,123,f123,[162,163,164],[4,6,11,14],false,[],[],[(488,[(2,wL),(4,.X 44 [.I .i64,.I .i64,.T,.L,.I .i64,.I .i64,.I .i64,.L,.B,.I .i64]),(6,.X 97 [.I .i64,.I .u64,.L,.L]),(8,wL),(9,wV),(25,wL),(26,wI),(27,wI)]),(2024,[(2,wL),(4,.X 44 [.I .i64,.I .i64,.T,.L,.I .i64,.I .i64,.I .i64,.L,.B,.I .i64]),(6,.X 97 [.I .i64,.I .u64,.L,.L]),(8,wL),(12,wL),(47,wL),(48,wI),(49,wI)]),(8103,[(2,wL),(4,.X 44 [.I .i64,.I .i64,.T,.L,.I .i64,.I .i64,.I .i64,.L,.B,.I .i64]),(6,.X 97 [.I .i64,.I .u64,.L,.L]),(8,wL),(12,wL),(47,wL),(48,wI),(49,wI)])]⟩
def ok:M.Ok:=⟨.cons call162 (.cons call163 (.cons call164 (AH.nil))),mixed,func123,by kernel_rfl⟩
def GL:=M.pt 0
def N1:=M.pt 1
def Ku:=M.pt 2
def start (h:∀b4:Nat,∀b6:Nat,AK prog (Instr.makeMap 201 none) σ (fun z y=>∃m17,z=(.map (some m17))∧AK prog (Instr.mapUpdate 201 (.map (some m17)) (.I 11) (.func (.func 160) #[] #[])) y (fun _ AB=>AK prog (Instr.mapUpdate 201 (.map (some m17)) (.I 12) (.func (.func 161) #[] #[])) AB (fun _ AI=>AK prog (Instr.lookup 201 (.map (some m17)) (.I BM) false) AI (fun z AU=>∃v21,v21=z∧Pq p2 fun JH TP=>In 0 (n2:Int)∧LS AU JH (TP+2) fun rV n25 rW=>GL R (aD JH TP) n2 c2 Bq BM FG FZ Fa Fb FD FE Dm F2 Fc F3 EC EB 0 0 none 0 0 none 0 0 none 0 0 v21 rV n25 rW (n25:Int) 0 AU))))):Spec prog 123 #[.pointer q0,.agg #[.I Bq,.I BM,.string FG,.slice FZ Fa Fb,.I FD,.I FE,.I Dm,.slice F2 Fc F3,.bool EC,.I EB],.slice p2 n2 c2] σ R:=M.start h ok
def Fg (h:Br (Kv<eb) (Pq rV fun LY RL=>In Kv (n25:Int)∧∃wg wh wj wk,Ae σ LY (RL+Kv.toNat*2) [.slice wg wh wj,.U wk]∧∀CH:Nat,AF 162 #[.slice wg wh wj] σ R (CS fun p34 n34 c34 y=>∃(f38:Nat) (KQ KR:Array Value),v9=.func (.func f38) KQ KR∧Enters prog f38∧Spec prog f38 (KQ++#[.U wk]++KR) y (BB R (CI .u64 fun x38 AB=>Al AB fun Vi=>AK prog (E3 54 p8 n8 c8 Vi) (Hp.set AB Vi (.cells #[.slice p34 n34 c34,.U x38] 59 (0,0))) (CS fun wC n41 lz AI=>AG (Kv+1)∧GL R p2 n2 c2 BZ BT MF JS JT JU LC JA LD LA LF LG MG ME A8 A9 BC BD BE Iz I0 I1 wC n41 lz v9 (aD LY RL) n25 rW eb (Kv+1) AI))))) (AF 163 #[] σ R (CS fun ZZ n43 Za y=>Pq p2 fun ti tj=>In 0 (n2:Int)∧LS y ti (tj+3) fun p47 n47 c47=>N1 R (aD ti tj) n2 c2 BZ BT MF JS JT JU LC JA LD LA LF LG MG ME A8 A9 BC BD BE Iz I0 I1 p8 n8 c8 ZZ n43 Za p47 n47 c47 (n47:Int) 0 y))):GL R p2 n2 c2 BZ BT MF JS JT JU LC JA LD LA LF LG MG ME A8 A9 BC BD BE Iz I0 I1 p8 n8 c8 v9 rV n25 rW eb Kv σ:=M.lJ h ok rfl fun _ _=>by kernel_rfl
def PW (h:Br (RY<cV) (Pq p47 fun b51 o51=>In RY (n47:Int)∧∃ANv ANw ANx ANy ANz AN0,Ae σ b51 (o51+RY.toNat*2) [.slice ANv ANw ANx,.slice ANy ANz AN0]∧∀DO:Nat,Pq p12 fun QV o57=>In BT (n12:Int)∧∃v58,Hp.ld σ ⟨QV,(o57+BT.toNat*1),none⟩=some v58∧∃(f63:Nat) (N2 N3:Array Value),v58=.func (.func f63) N2 N3∧Enters prog f63∧Spec prog f63 (N2++#[.slice ANy ANz AN0,.agg #[.I BZ,.I BT,.string MF,.slice JS JT JU,.I LC,.I JA,.I LD,.slice LA LF LG,.bool MG,.I ME],.slice p2 n2 c2]++N3) σ (BB R (fun z y=>∃AN1 AN2,z=(.tuple #[.U AN1,.bool AN2])∧Bo AN2 (AF 162 #[.slice ANv ANw ANx] y R (CS fun p70 n70 c70 AB=>Al AB fun vr=>AK prog (E3 54 p8 n8 c8 vr) (Hp.set AB vr (.cells #[.slice p70 n70 c70,.U AN1] 59 (0,0))) (CS fun p74 n74 c74 AI=>Ku R p2 n2 c2 BZ BT MF JS JT JU LC JA LD LA LF LG MG ME A8 A9 BC BD BE Iz I0 I1 p74 n74 c74 (aD QV o57) n12 c12 (aD b51 o51) n47 c47 cV RY AI))) (Ku R p2 n2 c2 BZ BT MF JS JT JU LC JA LD LA LF LG MG ME A8 A9 BC BD BE Iz I0 I1 p8 n8 c8 (aD QV o57) n12 c12 (aD b51 o51) n47 c47 cV RY y)))) (AF 164 #[.slice p8 n8 c8] σ R (fun z y=>∃AE6 AE7 AE8 AE9 AFA AFB AFC AFD AN3,z=(.tuple #[.agg #[.I AE6,.U AE7,.slice AE8 AE9 AFA,.slice AFB AFC AFD],.I AN3])∧R (.T #[.agg #[.I AE6,.U AE7,.slice AE8 AE9 AFA,.slice AFB AFC AFD],.I AN3]) y))):N1 R p2 n2 c2 BZ BT MF JS JT JU LC JA LD LA LF LG MG ME A8 A9 BC BD BE Iz I0 I1 p8 n8 c8 p12 n12 c12 p47 n47 c47 cV RY σ:=M.lJ h ok rfl fun _ _=>by kernel_rfl
def JJ (h:AG (RY+1)∧N1 R p2 n2 c2 BZ BT MF JS JT JU LC JA LD LA LF LG MG ME A8 A9 BC BD BE Iz I0 I1 p8 n8 c8 p12 n12 c12 p47 n47 c47 cV (RY+1) σ):Ku R p2 n2 c2 BZ BT MF JS JT JU LC JA LD LA LF LG MG ME A8 A9 BC BD BE Iz I0 I1 p8 n8 c8 p12 n12 c12 p47 n47 c47 cV RY σ:=M.lJ h ok rfl fun _ _=>by kernel_rfl
end Ad
namespace FP
variable {q0 FZ F2 p2:Option Addr}{Bq BM FD FE Dm EB:Int}{FG:ByteArray}{Fa Fb Fc F3 n2 c2:Nat}{EC:Bool}
def M:Fw:=⟨prog,125,f125,[136,172,173,176,177],[6],false,[(1,9,false)],[],[]⟩
def ok:M.Ok:=⟨.cons call136 (.cons call172 (.cons call173 (.cons call176 (.cons call177 (AH.nil))))),mixed,func125,by kernel_rfl⟩
def start (h:Al σ fun b4=>∀b6:Nat,Pq p2 fun D9 cI=>In 0 (n2:Int)∧∃J9 gQ AIf AIg AIh AIi AIj AIk,Ae (Hp.set σ b4 (.cells #[.I Bq,.I BM,.string FG,.slice FZ Fa Fb,.I FD,.I FE,.I Dm,.slice F2 Fc F3,.bool EC,.I EB] 44 (0,0))) D9 cI [.I J9,.U gQ,.slice AIf AIg AIh,.slice AIi AIj AIk]∧In 1 (n2:Int)∧∃cP ra AIl AIm AIn rf rh ri,Ae (Hp.set σ b4 (.cells #[.I Bq,.I BM,.string FG,.slice FZ Fa Fb,.I FD,.I FE,.I Dm,.slice F2 Fc F3,.bool EC,.I EB] 44 (0,0))) D9 (cI+4) [.I cP,.U ra,.slice AIl AIm AIn,.slice rf rh ri]∧(Al (Hp.set σ b4 (.cells #[.I Bq,.I BM,.string FG,.slice FZ Fa Fb,.I FD,.I FE,.I Dm,.slice F2 Fc F3,.bool EC,.I EB] 44 (0,0))) fun b8=>Al (Hp.set (Hp.set σ b4 (.cells #[.I Bq,.I BM,.string FG,.slice FZ Fa Fb,.I FD,.I FE,.I Dm,.slice F2 Fc F3,.bool EC,.I EB] 44 (0,0))) b8 (.cells #[.I 0,.U 0,.N,.N] 97 (0,0))) fun b9=>AK prog (Instr.storeAt 97 (.pointer (aD b8 0)) (.agg #[.I J9,.U gQ,.slice AIf AIg AIh,.slice AIi AIj AIk])) (Hp.set (Hp.set (Hp.set σ b4 (.cells #[.I Bq,.I BM,.string FG,.slice FZ Fa Fb,.I FD,.I FE,.I Dm,.slice F2 Fc F3,.bool EC,.I EB] 44 (0,0))) b8 (.cells #[.I 0,.U 0,.N,.N] 97 (0,0))) b9 (.cells #[.I 0,.U 0,.N,.N] 97 (0,0))) (fun _ y=>Kp [D9] (Hp.set (Hp.set (Hp.set σ b4 (.cells #[.I Bq,.I BM,.string FG,.slice FZ Fa Fb,.I FD,.I FE,.I Dm,.slice F2 Fc F3,.bool EC,.I EB] 44 (0,0))) b8 (.cells #[.I 0,.U 0,.N,.N] 97 (0,0))) b9 (.cells #[.I 0,.U 0,.N,.N] 97 (0,0))) y∧AK prog (Instr.storeAt 97 (.pointer (aD b9 0)) (.agg #[.I cP,.U ra,.slice AIl AIm AIn,.slice rf rh ri])) y (fun _ AB=>LI .i64 AB b8 0 fun II=>Br (II=1) (LI .i64 AB b9 0 fun JG=>Br (JG=1) (∃gp W9 wm wo wq wu wv wx wy wz w5 w6 w7 w9,Ae AB b4 0 [.I gp,.I W9,.string wm,.slice wo wq wu,.I wv,.I wx,.I wy,.slice wz w5 w6,.bool w7,.I w9]∧LI .u64 AB b8 1 fun LZ=>LI .u64 AB b9 1 fun lv=>AF 172 #[.agg #[.I gp,.I W9,.string wm,.slice wo wq wu,.I wv,.I wx,.I wy,.slice wz w5 w6,.bool w7,.I w9],.U LZ,.U lv] AB R (fun z AI=>∃gq xA,z=(.tuple #[.U gq,.bool xA])∧R (.T #[.agg #[.I 1,.U gq,.N,.N],.I 0]) AI)) (LI .i64 AB b8 0 fun eY=>Br (eY=1) (∃XD Rv XE XF XG XH XI XJ XK XL XM XN XO XP,Ae AB b4 0 [.I XD,.I Rv,.string XE,.slice XF XG XH,.I XI,.I XJ,.I XK,.slice XL XM XN,.bool XO,.I XP]∧LS AB b9 2 fun xB n45 xC=>AF 173 #[.pointer q0,.agg #[.I XD,.I Rv,.string XE,.slice XF XG XH,.I XI,.I XJ,.I XK,.slice XL XM XN,.bool XO,.I XP],.slice xB n45 xC,(.func (.func 174) #[] #[(.pointer (aD b4 0)),(.pointer (aD b8 0))])] AB R (fun z AI=>∃N4 N5 N6 N7 N8 N9 OA OB XQ,z=(.tuple #[.agg #[.I N4,.U N5,.slice N6 N7 N8,.slice N9 OA OB],.I XQ])∧R (.T #[.agg #[.I N4,.U N5,.slice N6 N7 N8,.slice N9 OA OB],.I XQ]) AI)) (LI .i64 AB b9 0 fun x52=>Br (x52=1) (∃XR XS XT XU XV XW XX XY XZ Xa Xb Xc Xd Xe,Ae AB b4 0 [.I XR,.I XS,.string XT,.slice XU XV XW,.I XX,.I XY,.I XZ,.slice Xa Xb Xc,.bool Xd,.I Xe]∧LS AB b8 2 fun p57 n57 c57=>AF 173 #[.pointer q0,.agg #[.I XR,.I XS,.string XT,.slice XU XV XW,.I XX,.I XY,.I XZ,.slice Xa Xb Xc,.bool Xd,.I Xe],.slice p57 n57 c57,(.func (.func 175) #[] #[(.pointer (aD b4 0)),(.pointer (aD b9 0))])] AB R (fun z AI=>∃OC OD OE OF OG OH OI OJ Nf,z=(.tuple #[.agg #[.I OC,.U OD,.slice OE OF OG,.slice OH OI OJ],.I Nf])∧R (.T #[.agg #[.I OC,.U OD,.slice OE OF OG,.slice OH OI OJ],.I Nf]) AI)) (LI .i64 AB b4 1 fun j7=>AF 136 #[.I j7] AB R (CB fun t65 AI=>Bo t65 (∃Xf Xg Xh Xi Xj Xk Xl Xm Xn Xo Xp Xq Xr Xs,Ae AI b4 0 [.I Xf,.I Xg,.string Xh,.slice Xi Xj Xk,.I Xl,.I Xm,.I Xn,.slice Xo Xp Xq,.bool Xr,.I Xs]∧LS AI b8 2 fun UT n69 UU=>LS AI b9 2 fun p71 n71 c71=>AF 176 #[.pointer q0,.agg #[.I Xf,.I Xg,.string Xh,.slice Xi Xj Xk,.I Xl,.I Xm,.I Xn,.slice Xo Xp Xq,.bool Xr,.I Xs],.slice UT n69 UU,.slice p71 n71 c71] AI R (fun z AU=>∃OK OL OM ON OO OP OQ OR LX,z=(.tuple #[.agg #[.I OK,.U OL,.slice OM ON OO,.slice OP OQ OR],.I LX])∧R (.T #[.agg #[.I OK,.U OL,.slice OM ON OO,.slice OP OQ OR],.I LX]) AU)) (∃Xt Xu Xv Xw Xx Xy Xz X0 X4 X5 X6 X8 X9 YA,Ae AI b4 0 [.I Xt,.I Xu,.string Xv,.slice Xw Xx Xy,.I Xz,.I X0,.I X4,.slice X5 X6 X8,.bool X9,.I YA]∧LS AI b8 2 fun tq rj tr=>LS AI b9 2 fun p80 n80 c80=>AF 177 #[.pointer q0,.agg #[.I Xt,.I Xu,.string Xv,.slice Xw Xx Xy,.I Xz,.I X0,.I X4,.slice X5 X6 X8,.bool X9,.I YA],.slice tq rj tr,.slice p80 n80 c80] AI R (fun z AU=>∃OS OT OU OV OW OX OY OZ YB,z=(.tuple #[.agg #[.I OS,.U OT,.slice OU OV OW,.slice OX OY OZ],.I YB])∧R (.T #[.agg #[.I OS,.U OT,.slice OU OV OW,.slice OX OY OZ],.I YB]) AU))))))) (LI .i64 AB b8 0 fun eY=>Br (eY=1) (∃XD Rv XE XF XG XH XI XJ XK XL XM XN XO XP,Ae AB b4 0 [.I XD,.I Rv,.string XE,.slice XF XG XH,.I XI,.I XJ,.I XK,.slice XL XM XN,.bool XO,.I XP]∧LS AB b9 2 fun xB n45 xC=>AF 173 #[.pointer q0,.agg #[.I XD,.I Rv,.string XE,.slice XF XG XH,.I XI,.I XJ,.I XK,.slice XL XM XN,.bool XO,.I XP],.slice xB n45 xC,(.func (.func 174) #[] #[(.pointer (aD b4 0)),(.pointer (aD b8 0))])] AB R (fun z AI=>∃N4 N5 N6 N7 N8 N9 OA OB XQ,z=(.tuple #[.agg #[.I N4,.U N5,.slice N6 N7 N8,.slice N9 OA OB],.I XQ])∧R (.T #[.agg #[.I N4,.U N5,.slice N6 N7 N8,.slice N9 OA OB],.I XQ]) AI)) (LI .i64 AB b9 0 fun x52=>Br (x52=1) (∃XR XS XT XU XV XW XX XY XZ Xa Xb Xc Xd Xe,Ae AB b4 0 [.I XR,.I XS,.string XT,.slice XU XV XW,.I XX,.I XY,.I XZ,.slice Xa Xb Xc,.bool Xd,.I Xe]∧LS AB b8 2 fun p57 n57 c57=>AF 173 #[.pointer q0,.agg #[.I XR,.I XS,.string XT,.slice XU XV XW,.I XX,.I XY,.I XZ,.slice Xa Xb Xc,.bool Xd,.I Xe],.slice p57 n57 c57,(.func (.func 175) #[] #[(.pointer (aD b4 0)),(.pointer (aD b9 0))])] AB R (fun z AI=>∃OC OD OE OF OG OH OI OJ Nf,z=(.tuple #[.agg #[.I OC,.U OD,.slice OE OF OG,.slice OH OI OJ],.I Nf])∧R (.T #[.agg #[.I OC,.U OD,.slice OE OF OG,.slice OH OI OJ],.I Nf]) AI)) (LI .i64 AB b4 1 fun j7=>AF 136 #[.I j7] AB R (CB fun t65 AI=>Bo t65 (∃Xf Xg Xh Xi Xj Xk Xl Xm Xn Xo Xp Xq Xr Xs,Ae AI b4 0 [.I Xf,.I Xg,.string Xh,.slice Xi Xj Xk,.I Xl,.I Xm,.I Xn,.slice Xo Xp Xq,.bool Xr,.I Xs]∧LS AI b8 2 fun UT n69 UU=>LS AI b9 2 fun p71 n71 c71=>AF 176 #[.pointer q0,.agg #[.I Xf,.I Xg,.string Xh,.slice Xi Xj Xk,.I Xl,.I Xm,.I Xn,.slice Xo Xp Xq,.bool Xr,.I Xs],.slice UT n69 UU,.slice p71 n71 c71] AI R (fun z AU=>∃OK OL OM ON OO OP OQ OR LX,z=(.tuple #[.agg #[.I OK,.U OL,.slice OM ON OO,.slice OP OQ OR],.I LX])∧R (.T #[.agg #[.I OK,.U OL,.slice OM ON OO,.slice OP OQ OR],.I LX]) AU)) (∃Xt Xu Xv Xw Xx Xy Xz X0 X4 X5 X6 X8 X9 YA,Ae AI b4 0 [.I Xt,.I Xu,.string Xv,.slice Xw Xx Xy,.I Xz,.I X0,.I X4,.slice X5 X6 X8,.bool X9,.I YA]∧LS AI b8 2 fun tq rj tr=>LS AI b9 2 fun p80 n80 c80=>AF 177 #[.pointer q0,.agg #[.I Xt,.I Xu,.string Xv,.slice Xw Xx Xy,.I Xz,.I X0,.I X4,.slice X5 X6 X8,.bool X9,.I YA],.slice tq rj tr,.slice p80 n80 c80] AI R (fun z AU=>∃OS OT OU OV OW OX OY OZ YB,z=(.tuple #[.agg #[.I OS,.U OT,.slice OU OV OW,.slice OX OY OZ],.I YB])∧R (.T #[.agg #[.I OS,.U OT,.slice OU OV OW,.slice OX OY OZ],.I YB]) AU)))))))))∧(Al (Hp.set σ b4 (.cells #[.I Bq,.I BM,.string FG,.slice FZ Fa Fb,.I FD,.I FE,.I Dm,.slice F2 Fc F3,.bool EC,.I EB] 44 (0,0))) fun b9=>Al (Hp.set (Hp.set σ b4 (.cells #[.I Bq,.I BM,.string FG,.slice FZ Fa Fb,.I FD,.I FE,.I Dm,.slice F2 Fc F3,.bool EC,.I EB] 44 (0,0))) b9 (.cells #[.I 0,.U 0,.N,.N] 97 (0,0))) fun b8=>AK prog (Instr.storeAt 97 (.pointer (aD b8 0)) (.agg #[.I J9,.U gQ,.slice AIf AIg AIh,.slice AIi AIj AIk])) (Hp.set (Hp.set (Hp.set σ b4 (.cells #[.I Bq,.I BM,.string FG,.slice FZ Fa Fb,.I FD,.I FE,.I Dm,.slice F2 Fc F3,.bool EC,.I EB] 44 (0,0))) b9 (.cells #[.I 0,.U 0,.N,.N] 97 (0,0))) b8 (.cells #[.I 0,.U 0,.N,.N] 97 (0,0))) (fun _ y=>Kp [D9] (Hp.set (Hp.set (Hp.set σ b4 (.cells #[.I Bq,.I BM,.string FG,.slice FZ Fa Fb,.I FD,.I FE,.I Dm,.slice F2 Fc F3,.bool EC,.I EB] 44 (0,0))) b9 (.cells #[.I 0,.U 0,.N,.N] 97 (0,0))) b8 (.cells #[.I 0,.U 0,.N,.N] 97 (0,0))) y∧AK prog (Instr.storeAt 97 (.pointer (aD b9 0)) (.agg #[.I cP,.U ra,.slice AIl AIm AIn,.slice rf rh ri])) y (fun _ AB=>LI .i64 AB b8 0 fun II=>Br (II=1) (LI .i64 AB b9 0 fun JG=>Br (JG=1) (∃gp W9 wm wo wq wu wv wx wy wz w5 w6 w7 w9,Ae AB b4 0 [.I gp,.I W9,.string wm,.slice wo wq wu,.I wv,.I wx,.I wy,.slice wz w5 w6,.bool w7,.I w9]∧LI .u64 AB b8 1 fun LZ=>LI .u64 AB b9 1 fun lv=>AF 172 #[.agg #[.I gp,.I W9,.string wm,.slice wo wq wu,.I wv,.I wx,.I wy,.slice wz w5 w6,.bool w7,.I w9],.U LZ,.U lv] AB R (fun z AI=>∃gq xA,z=(.tuple #[.U gq,.bool xA])∧R (.T #[.agg #[.I 1,.U gq,.N,.N],.I 0]) AI)) (LI .i64 AB b8 0 fun eY=>Br (eY=1) (∃XD Rv XE XF XG XH XI XJ XK XL XM XN XO XP,Ae AB b4 0 [.I XD,.I Rv,.string XE,.slice XF XG XH,.I XI,.I XJ,.I XK,.slice XL XM XN,.bool XO,.I XP]∧LS AB b9 2 fun xB n45 xC=>AF 173 #[.pointer q0,.agg #[.I XD,.I Rv,.string XE,.slice XF XG XH,.I XI,.I XJ,.I XK,.slice XL XM XN,.bool XO,.I XP],.slice xB n45 xC,(.func (.func 174) #[] #[(.pointer (aD b4 0)),(.pointer (aD b8 0))])] AB R (fun z AI=>∃N4 N5 N6 N7 N8 N9 OA OB XQ,z=(.tuple #[.agg #[.I N4,.U N5,.slice N6 N7 N8,.slice N9 OA OB],.I XQ])∧R (.T #[.agg #[.I N4,.U N5,.slice N6 N7 N8,.slice N9 OA OB],.I XQ]) AI)) (LI .i64 AB b9 0 fun x52=>Br (x52=1) (∃XR XS XT XU XV XW XX XY XZ Xa Xb Xc Xd Xe,Ae AB b4 0 [.I XR,.I XS,.string XT,.slice XU XV XW,.I XX,.I XY,.I XZ,.slice Xa Xb Xc,.bool Xd,.I Xe]∧LS AB b8 2 fun p57 n57 c57=>AF 173 #[.pointer q0,.agg #[.I XR,.I XS,.string XT,.slice XU XV XW,.I XX,.I XY,.I XZ,.slice Xa Xb Xc,.bool Xd,.I Xe],.slice p57 n57 c57,(.func (.func 175) #[] #[(.pointer (aD b4 0)),(.pointer (aD b9 0))])] AB R (fun z AI=>∃OC OD OE OF OG OH OI OJ Nf,z=(.tuple #[.agg #[.I OC,.U OD,.slice OE OF OG,.slice OH OI OJ],.I Nf])∧R (.T #[.agg #[.I OC,.U OD,.slice OE OF OG,.slice OH OI OJ],.I Nf]) AI)) (LI .i64 AB b4 1 fun j7=>AF 136 #[.I j7] AB R (CB fun t65 AI=>Bo t65 (∃Xf Xg Xh Xi Xj Xk Xl Xm Xn Xo Xp Xq Xr Xs,Ae AI b4 0 [.I Xf,.I Xg,.string Xh,.slice Xi Xj Xk,.I Xl,.I Xm,.I Xn,.slice Xo Xp Xq,.bool Xr,.I Xs]∧LS AI b8 2 fun UT n69 UU=>LS AI b9 2 fun p71 n71 c71=>AF 176 #[.pointer q0,.agg #[.I Xf,.I Xg,.string Xh,.slice Xi Xj Xk,.I Xl,.I Xm,.I Xn,.slice Xo Xp Xq,.bool Xr,.I Xs],.slice UT n69 UU,.slice p71 n71 c71] AI R (fun z AU=>∃OK OL OM ON OO OP OQ OR LX,z=(.tuple #[.agg #[.I OK,.U OL,.slice OM ON OO,.slice OP OQ OR],.I LX])∧R (.T #[.agg #[.I OK,.U OL,.slice OM ON OO,.slice OP OQ OR],.I LX]) AU)) (∃Xt Xu Xv Xw Xx Xy Xz X0 X4 X5 X6 X8 X9 YA,Ae AI b4 0 [.I Xt,.I Xu,.string Xv,.slice Xw Xx Xy,.I Xz,.I X0,.I X4,.slice X5 X6 X8,.bool X9,.I YA]∧LS AI b8 2 fun tq rj tr=>LS AI b9 2 fun p80 n80 c80=>AF 177 #[.pointer q0,.agg #[.I Xt,.I Xu,.string Xv,.slice Xw Xx Xy,.I Xz,.I X0,.I X4,.slice X5 X6 X8,.bool X9,.I YA],.slice tq rj tr,.slice p80 n80 c80] AI R (fun z AU=>∃OS OT OU OV OW OX OY OZ YB,z=(.tuple #[.agg #[.I OS,.U OT,.slice OU OV OW,.slice OX OY OZ],.I YB])∧R (.T #[.agg #[.I OS,.U OT,.slice OU OV OW,.slice OX OY OZ],.I YB]) AU))))))) (LI .i64 AB b8 0 fun eY=>Br (eY=1) (∃XD Rv XE XF XG XH XI XJ XK XL XM XN XO XP,Ae AB b4 0 [.I XD,.I Rv,.string XE,.slice XF XG XH,.I XI,.I XJ,.I XK,.slice XL XM XN,.bool XO,.I XP]∧LS AB b9 2 fun xB n45 xC=>AF 173 #[.pointer q0,.agg #[.I XD,.I Rv,.string XE,.slice XF XG XH,.I XI,.I XJ,.I XK,.slice XL XM XN,.bool XO,.I XP],.slice xB n45 xC,(.func (.func 174) #[] #[(.pointer (aD b4 0)),(.pointer (aD b8 0))])] AB R (fun z AI=>∃N4 N5 N6 N7 N8 N9 OA OB XQ,z=(.tuple #[.agg #[.I N4,.U N5,.slice N6 N7 N8,.slice N9 OA OB],.I XQ])∧R (.T #[.agg #[.I N4,.U N5,.slice N6 N7 N8,.slice N9 OA OB],.I XQ]) AI)) (LI .i64 AB b9 0 fun x52=>Br (x52=1) (∃XR XS XT XU XV XW XX XY XZ Xa Xb Xc Xd Xe,Ae AB b4 0 [.I XR,.I XS,.string XT,.slice XU XV XW,.I XX,.I XY,.I XZ,.slice Xa Xb Xc,.bool Xd,.I Xe]∧LS AB b8 2 fun p57 n57 c57=>AF 173 #[.pointer q0,.agg #[.I XR,.I XS,.string XT,.slice XU XV XW,.I XX,.I XY,.I XZ,.slice Xa Xb Xc,.bool Xd,.I Xe],.slice p57 n57 c57,(.func (.func 175) #[] #[(.pointer (aD b4 0)),(.pointer (aD b9 0))])] AB R (fun z AI=>∃OC OD OE OF OG OH OI OJ Nf,z=(.tuple #[.agg #[.I OC,.U OD,.slice OE OF OG,.slice OH OI OJ],.I Nf])∧R (.T #[.agg #[.I OC,.U OD,.slice OE OF OG,.slice OH OI OJ],.I Nf]) AI)) (LI .i64 AB b4 1 fun j7=>AF 136 #[.I j7] AB R (CB fun t65 AI=>Bo t65 (∃Xf Xg Xh Xi Xj Xk Xl Xm Xn Xo Xp Xq Xr Xs,Ae AI b4 0 [.I Xf,.I Xg,.string Xh,.slice Xi Xj Xk,.I Xl,.I Xm,.I Xn,.slice Xo Xp Xq,.bool Xr,.I Xs]∧LS AI b8 2 fun UT n69 UU=>LS AI b9 2 fun p71 n71 c71=>AF 176 #[.pointer q0,.agg #[.I Xf,.I Xg,.string Xh,.slice Xi Xj Xk,.I Xl,.I Xm,.I Xn,.slice Xo Xp Xq,.bool Xr,.I Xs],.slice UT n69 UU,.slice p71 n71 c71] AI R (fun z AU=>∃OK OL OM ON OO OP OQ OR LX,z=(.tuple #[.agg #[.I OK,.U OL,.slice OM ON OO,.slice OP OQ OR],.I LX])∧R (.T #[.agg #[.I OK,.U OL,.slice OM ON OO,.slice OP OQ OR],.I LX]) AU)) (∃Xt Xu Xv Xw Xx Xy Xz X0 X4 X5 X6 X8 X9 YA,Ae AI b4 0 [.I Xt,.I Xu,.string Xv,.slice Xw Xx Xy,.I Xz,.I X0,.I X4,.slice X5 X6 X8,.bool X9,.I YA]∧LS AI b8 2 fun tq rj tr=>LS AI b9 2 fun p80 n80 c80=>AF 177 #[.pointer q0,.agg #[.I Xt,.I Xu,.string Xv,.slice Xw Xx Xy,.I Xz,.I X0,.I X4,.slice X5 X6 X8,.bool X9,.I YA],.slice tq rj tr,.slice p80 n80 c80] AI R (fun z AU=>∃OS OT OU OV OW OX OY OZ YB,z=(.tuple #[.agg #[.I OS,.U OT,.slice OU OV OW,.slice OX OY OZ],.I YB])∧R (.T #[.agg #[.I OS,.U OT,.slice OU OV OW,.slice OX OY OZ],.I YB]) AU)))))))))):Spec prog 125 #[.pointer q0,.agg #[.I Bq,.I BM,.string FG,.slice FZ Fa Fb,.I FD,.I FE,.I Dm,.slice F2 Fc F3,.bool EC,.I EB],.slice p2 n2 c2] σ R:=M.start h ok
end FP
namespace Ic
variable {Ac Ax Bb Be BI BO Bq BM FD FE Dm EB x7 x8:Int}{BS FG:ByteArray}{CJ Bt FZ F2 p6:Option Addr}{CC CK Bh Bu Fa Fb Fc F3 n6 c6:Nat}{Bg EC:Bool}
def M:Fw:=⟨prog,129,f129,[134],[1],false,[],[],[(104,[(1,.X 44 [.I .i64,.I .i64,.T,.L,.I .i64,.I .i64,.I .i64,.L,.B,.I .i64]),(6,wL),(7,wI),(8,wI)])]⟩
def ok:M.Ok:=⟨.cons call134 (AH.nil),mixed,func129,by kernel_rfl⟩
def Q2:=M.pt 0
def start (h:∀b1:Nat,Q2 R Ac Ax BS CJ CC CK Bb Be BI Bt Bh Bu Bg BO Bt Bh Bu (Bh:Int) 0 σ):Spec prog 129 #[.agg #[.I Ac,.I Ax,.string BS,.slice CJ CC CK,.I Bb,.I Be,.I BI,.slice Bt Bh Bu,.bool Bg,.I BO]] σ R:=M.start h ok
def FO (h:Br (x8<x7) (Pq p6 fun FB o10=>In x8 (n6:Int)∧LT σ FB (o10+x8.toNat*1) fun s11=>AF 134 #[.string s11] σ R (CB fun t13 y=>Bn t13 (R (.B false) y) (AG (x8+1)∧Q2 R Bq BM FG FZ Fa Fb FD FE Dm F2 Fc F3 EC EB (aD FB o10) n6 c6 x7 (x8+1) y))) (Br ((Fc:Int)=0) (R (.B true) σ) (R (.returned (.bool (decide (Dm≠0)))) σ))):Q2 R Bq BM FG FZ Fa Fb FD FE Dm F2 Fc F3 EC EB p6 n6 c6 x7 x8 σ:=M.fy h ok rfl fun _=>by kernel_rfl
end Ic
namespace YC
variable {s0:ByteArray}
def M:Fw:=⟨prog,134,f134,[118],[],false,[],[],[]⟩
def ok:M.Ok:=⟨.cons call118 (AH.nil),mixed,func134,by kernel_rfl⟩
def start (h:AF 118 #[.string s0] σ R (CB fun t4 y=>R (.B t4) y)):Spec prog 134 #[.string s0] σ R:=M.start h ok
end YC
namespace Q3
variable {v0:Value}
def M:Fw:=⟨prog,148,f148,[],[],false,[],[],[]⟩
def ok:M.Ok:=⟨AH.nil,mixed,func148,by kernel_rfl⟩
def start (h:EN prog 184 #[v0] σ (fun z y=>∃x4,(Value.float .f64 x4)=z∧R (.returned (Value.float .f64 x4)) y)):Spec prog 148 #[v0] σ R:=M.HF h ok [(0,.o (.V v0))] rfl rfl (by kernel_rfl)
end Q3
namespace UW
variable {s0:ByteArray}
def M:Fw:=⟨prog,156,f156,[188,189,190],[],false,[],[],[]⟩
def ok:M.Ok:=⟨.cons call188 (.cons call189 (.cons call190 (AH.nil))),mixed,func156,by kernel_rfl⟩
def start (h:AF 188 #[.string s0] σ R (CB fun t7 y=>Bn t7 (R (.T #[.U 0,.bool false]) y) (AF 189 #[.string s0,.I 64] y R (fun z AB=>∃rY rZ,z=(.tuple #[rY,rZ])∧AF 190 #[rY] AB R (CI .u64 fun x15 AI=>R (.T #[.U x15,.bool true]) AI))))):Spec prog 156 #[.string s0] σ R:=M.start h ok
end UW
namespace Oa
def M:Fw:=⟨prog,163,f163,[199,203],[],false,[],[],[]⟩
def ok:M.Ok:=⟨.cons call199 (.cons call203 (AH.nil)),mixed,func163,by kernel_rfl⟩
def start (h:AF 199 #[(.func (.func 167) #[] #[])] σ R (fun z y=>∃f1 a1 c1,(Value.func f1 a1 c1)=z∧AF 199 #[(.func (.func 170) #[] #[])] y R (fun z AB=>∃f2 a2 c2,(Value.func f2 a2 c2)=z∧AF 199 #[(.func (.func 168) #[] #[])] AB R (fun z AI=>∃f3 a3 c3,(Value.func f3 a3 c3)=z∧AF 199 #[(.func (.func 169) #[] #[])] AI R (fun z AU=>∃f4 a4 c4,(Value.func f4 a4 c4)=z∧AF 199 #[(.func (.func 171) #[] #[])] AU R (fun z DI=>∃f5 a5 c5,(Value.func f5 a5 c5)=z∧AF 199 #[(.func (.func 200) #[] #[])] DI R (fun z Gi=>∃f6 a6 c6,(Value.func f6 a6 c6)=z∧AF 199 #[(.func (.func 202) #[] #[])] Gi R (fun z Pn=>∃f7 a7 c7,(Value.func f7 a7 c7)=z∧AF 203 #[(.func (.func 204) #[] #[])] Pn R (fun z Qv=>∃f8 a8 c8,(Value.func f8 a8 c8)=z∧AF 203 #[(.func (.func 206) #[] #[])] Qv R (fun z gH=>∃f9 a9 c9,(Value.func f9 a9 c9)=z∧AF 203 #[(.func (.func 208) #[] #[])] gH R (fun z ZQ=>∃f10 a10 Pu,(Value.func f10 a10 Pu)=z∧Al ZQ fun CH=>R (.returned (.slice (aD CH 0) 11 11)) (Hp.set ZQ CH (.cells #[.nilFunc,(Value.func f10 a10 Pu),(Value.func f9 a9 c9),(Value.func f8 a8 c8),(Value.func f1 a1 c1),(Value.func f2 a2 c2),(Value.func f3 a3 c3),(Value.func f4 a4 c4),(Value.func f5 a5 c5),(Value.func f6 a6 c6),(Value.func f7 a7 c7)] 205 (0,0)))))))))))))):Spec prog 163 #[] σ R:=M.start h ok
end Oa
namespace Ie
variable {p0 M7:Option Addr}{n0 c0 n11 PM:Nat}{x3 x12 DP:Int}
def M:Fw:=⟨prog,167,f167,[201,216],[],false,[],[],[(232,[(3,wU),(11,wL),(12,wI),(13,wI)])]⟩
def ok:M.Ok:=⟨.cons call201 (.cons call216 (AH.nil)),mixed,func167,by kernel_rfl⟩
def B4:=M.pt 0
def start (h:Pq p0 fun b7 o7=>In 0 (n0:Int)∧LI .u64 σ b7 o7 fun x8=>AF 201 #[.U x8] σ R (CI .u64 fun x9 y=>((0:Int)≤1∧1≤(n0:Int))∧B4 R x9 ((MK (aD b7 o7) (1) c0 1)) (n0-1) (c0-1) ((((n0-1):Nat):Int)) 0 y)):Spec prog 167 #[.slice p0 n0 c0] σ R:=M.start h ok
def Ap (h:Br (DP<x12) (Pq M7 fun xD o15=>In DP (n11:Int)∧LI .u64 σ xD (o15+DP.toNat*1) fun x16=>AF 216 #[.U x3,.U x16] σ R (CI .u64 fun FV y=>AG (DP+1)∧B4 R FV (aD xD o15) n11 PM x12 (DP+1) y)) (R (.returned (.U x3)) σ)):B4 R x3 M7 n11 PM x12 DP σ:=M.of h ok rfl
end Ie
namespace GO
variable {p0:Option Addr}{n0 c0:Nat}
def M:Fw:=⟨prog,169,f169,[217],[],false,[],[],[]⟩
def ok:M.Ok:=⟨.cons call217 (AH.nil),mixed,func169,by kernel_rfl⟩
def start (h:AF 217 #[.I 9,.slice p0 n0 c0] σ R (CI .u64 fun x4 y=>R (.returned (.U x4)) y)):Spec prog 169 #[.slice p0 n0 c0] σ R:=M.start h ok
end GO
namespace HO
variable {p0:Option Addr}{n0 c0:Nat}
def M:Fw:=⟨prog,170,f170,[167,171,209],[],false,[],[],[]⟩
def ok:M.Ok:=⟨.cons call167 (.cons call171 (.cons call209 (AH.nil))),mixed,func170,by kernel_rfl⟩
def start (h:AF 167 #[.slice p0 n0 c0] σ R (CI .u64 fun x4 y=>AF 171 #[.slice p0 n0 c0] y R (CI .u64 fun x6 AB=>AF 209 #[.U x4,.U x6] AB R (CI .u64 fun x7 AI=>R (.returned (.U x7)) AI)))):Spec prog 170 #[.slice p0 n0 c0] σ R:=M.start h ok
end HO
namespace Rx
variable {s0:ByteArray}
def M:Fw:=⟨prog,180,f180,[],[],false,[],[],[]⟩
def ok:M.Ok:=⟨AH.nil,mixed,func180,by kernel_rfl⟩
def start (h:Br ((1:Int)<(s0.size:Int)) (∃u8:UInt8,(0:Int)≤0∧(ByteArray.data s0)[Int.toNat 0]?=some u8∧R (.returned (.bool (decide (((u8.toNat:Int):Int)=48)))) σ) (R (.B false) σ)):Spec prog 180 #[.string s0] σ R:=M.start h ok
end Rx
namespace QW
variable {Ac Ax x1:Int}
def M:Fw:=⟨prog,192,f192,[],[2],false,[],[],[]⟩
def ok:M.Ok:=⟨AH.nil,mixed,func192,by kernel_rfl⟩
def start (h:∀b2:Nat,Br (Ac≤x1) (R (.returned (.I (-1))) σ) (R (.returned (.I 1)) σ)):Spec prog 192 #[.agg #[.I Ac,.U Ax],.I x1] σ R:=M.start h ok
end QW
end TwW
end
end
section
set_option maxRecDepth 100000
noncomputable section
namespace TwW
open Go Tw Go.Proofs.Tryz
variable [G9]{R:Rr}{σ:Hp}

namespace GQ
variable {s0:ByteArray}{p2 p3 p7:Option Addr}{n2 c2 n3 c3 n7 c7:Nat}{x8 x9:Int}
def M:Fw:=⟨prog,195,f195,[235],[2,3],false,[(5,8,false)],[],[(232,[(2,.X 235 [.L]),(3,.X 235 [.L]),(7,wL),(8,wI),(9,wI)])]⟩
def ok:M.Ok:=⟨.cons call235 (AH.nil),mixed,func195,by kernel_rfl⟩
def B4:=M.pt 0
def start (h:∀b2:Nat,∀b3:Nat,AF 235 #[.string s0,(.string (ByteArray.mk #[124]))] σ R (CS fun p7 n7 c7 y=>B4 R none 0 0 none 0 0 p7 n7 c7 (n7:Int) 0 y)):Spec prog 195 #[.string s0] σ R:=M.start h ok
def Ap (h:Br (x9<x8) (Pq p7 fun CH gL=>In x9 (n7:Int)∧LT σ CH (gL+x9.toNat*1) fun s12=>AF 235 #[.string s12,(.string (ByteArray.mk #[42]))] σ R (CS fun gV n16 aZ y=>Al y fun KL=>AK prog (E3 233 p3 n3 c3 KL) (Hp.set y KL (.cells #[.slice gV n16 aZ] 260 (0,0))) (CS fun rE n19 lM AB=>AG (x9+1)∧B4 R p2 n2 c2 rE n19 lM (aD CH gL) n7 c7 x8 (x9+1) AB))) (R (.returned (.agg #[.slice p3 n3 c3])) σ)):B4 R p2 n2 c2 p3 n3 c3 p7 n7 c7 x8 x9 σ:=M.lJ h ok rfl fun _ _=>by kernel_rfl
end GQ
namespace Lg
variable {p0 p7:Option Addr}{n0 c0 n7 c7:Nat}{s1:ByteArray}{x8 x9:Int}
def M:Fw:=⟨prog,196,f196,[],[6],false,[],[],[(104,[(1,wT),(7,wL),(8,wI),(9,wI)])]⟩
def ok:M.Ok:=⟨AH.nil,mixed,func196,by kernel_rfl⟩
def Q2:=M.pt 0
def start (h:Q2 R s1 p0 n0 c0 (n0:Int) 0 σ):Spec prog 196 #[.slice p0 n0 c0,.string s1] σ R:=M.start h ok
def FO (h:Br (x9<x8) (Pq p7 fun CH gL=>In x9 (n7:Int)∧∃AN4 AN5,Ae σ CH (gL+x9.toNat*2) [.string AN4,.string AN5]∧∀b6:Nat,Bo (ByteArray.toList AN4==ByteArray.toList s1) (R (.returned (.string AN5)) σ) (AG (x9+1)∧Q2 R s1 (aD CH gL) n7 c7 x8 (x9+1) σ)) (R (.returned (.string (ByteArray.mk #[]))) σ)):Q2 R s1 p7 n7 c7 x8 x9 σ:=M.of h ok rfl
end Lg
namespace EE
variable {f0:Fn}{a0 c0:Array Value}
def M:Fw:=⟨prog,199,f199,[],[],false,[],[],[]⟩
def ok:M.Ok:=⟨AH.nil,mixed,func199,by kernel_rfl⟩
def start (h:Al σ fun b1=>R (.returned (.func (.func 236) #[] #[(.pointer (aD b1 0))])) (Hp.set σ b1 (.cells #[(Value.func f0 a0 c0)] 211 (0,0)))):Spec prog 199 #[(Value.func f0 a0 c0)] σ R:=M.HF h ok [(0,.o (.V (Value.func f0 a0 c0)))] rfl rfl (by kernel_rfl)
end EE
namespace UX
variable {x0:Int}
def M:Fw:=⟨prog,201,f201,[190,198],[],false,[],[],[]⟩
def ok:M.Ok:=⟨.cons call190 (.cons call198 (AH.nil)),mixed,func201,by kernel_rfl⟩
def start (h:AF 198 #[.U x0] σ R (fun z y=>∃x4,(Value.float .f64 x4)=z∧AF 190 #[(Value.float .f64 x4)] y R (CI .u64 fun x5 AB=>R (.returned (.U x5)) AB))):Spec prog 201 #[.U x0] σ R:=M.start h ok
end UX
namespace HP
variable {ZY:Option Addr}{QH Wn:Nat}{j5 s1:ByteArray}
def M:Fw:=⟨prog,232,f232,[],[2],false,[],[],[]⟩
def ok:M.Ok:=⟨AH.nil,mixed,func232,by kernel_rfl⟩
def start (h:∀b2:Nat,R (.returned (.bool (!(ByteArray.toList s1==ByteArray.toList j5)))) σ):Spec prog 232 #[.agg #[.slice ZY QH Wn,.string j5],.string s1] σ R:=M.start h ok
end HP
namespace IS
variable {p0 FZ F2 p2:Option Addr}{n0 c0 Fa Fb Fc F3 n2 c2 b3:Nat}{Bq BM FD FE Dm EB:Int}{FG:ByteArray}{EC:Bool}
def M:Fw:=⟨prog,236,f236,[],[5],false,[],[],[]⟩
def ok:M.Ok:=⟨AH.nil,mixed,func236,by kernel_rfl⟩
def start (h:∀b5:Nat,∃v9,Hp.ld σ ⟨b3,0,none⟩=some v9∧∃(f11:Nat) (AFF AFG:Array Value),v9=.func (.func f11) AFF AFG∧Enters prog f11∧Spec prog f11 (AFF++#[.slice p0 n0 c0]++AFG) σ (BB R (CI .u64 fun x11 y=>R (.T #[.U x11,.bool true]) y))):Spec prog 236 #[.slice p0 n0 c0,.agg #[.I Bq,.I BM,.string FG,.slice FZ Fa Fb,.I FD,.I FE,.I Dm,.slice F2 Fc F3,.bool EC,.I EB],.slice p2 n2 c2,(.pointer (aD b3 0))] σ R:=M.start h ok
end IS
namespace FQ
variable {ZY p64:Option Addr}{QH Wn xE c64:Nat}{s1:ByteArray}{x65 rk:Int}
def M:Fw:=⟨prog,268,f268,[271,290,291],[2],false,[(1,14,true)],[],[(2024,[(1,wT),(64,wL),(65,wI),(66,wI)])]⟩
def ok:M.Ok:=⟨.cons call271 (.cons call290 (.cons call291 (AH.nil))),mixed,func268,by kernel_rfl⟩
def NK:=M.pt 0
def start (h:∀b2:Nat,Pq ZY fun Dd TY=>In 0 (QH:Int)∧LT σ Dd TY fun s13=>AG ((QH:Int)-1)∧In (((QH:Int)-1)) (QH:Int)∧LT σ Dd (TY+Int.toNat ((QH:Int)-1)*1) fun s21=>Br ((QH:Int)=1) (R (.returned (.bool (ByteArray.toList s1==ByteArray.toList s13))) σ) (AG ((s13.size:Int)+(s21.size:Int))∧Br (((s1.size:Int):Int)<((s13.size:Int)+(s21.size:Int))) (R (.B false) σ) (AF 290 #[.string s1,.string s13] σ R (CB fun t40 y=>Bn t40 (R (.B false) y) (AF 291 #[.string s1,.string s21] y R (CB fun t46 AB=>Bn t46 (R (.B false) AB) (AG ((s1.size:Int)-(s21.size:Int))∧∃s57,YF prog (Instr.sliceAt 9 (.string s1) (some (.I (s13.size:Int))) (some (.I ((s1.size:Int)-(s21.size:Int)))) none) AB (.string s57)∧AG ((QH:Int)-1)∧((0:Int)≤1∧1≤((QH:Int)-1)∧((QH:Int)-1)≤(Wn:Int))∧NK R s57 ((MK (aD Dd TY) (1) Wn 1)) ((Int.toNat ((QH:Int)-1)-1)) (Wn-1) ((((Int.toNat ((QH:Int)-1)-1):Nat):Int)) 0 AB))))))):Spec prog 268 #[.agg #[.slice ZY QH Wn],.string s1] σ R:=M.start h ok
def Mh (h:Br (rk<x65) (Pq p64 fun b68 o68=>In rk (xE:Int)∧LT σ b68 (o68+rk.toNat*1) fun s69=>AF 271 #[.string s1,.string s69] σ R (CI .i64 fun tn y=>Br (tn<0) (R (.B false) y) (AG (tn+(s69.size:Int))∧∃s80,YF prog (Instr.sliceAt 9 (.string s1) (some (.I (tn+(s69.size:Int)))) none none) y (.string s80)∧AG (rk+1)∧NK R s80 (aD b68 o68) xE c64 x65 (rk+1) y))) (R (.B true) σ)):NK R s1 p64 xE c64 x65 rk σ:=M.of h ok rfl
end FQ
end TwW
end
end
section
set_option maxRecDepth 100000
noncomputable section
namespace TwW
open Go Tw Go.Proofs.Tryz
variable [G9]{R:Rr}{σ:Hp}

namespace FR
variable {p0 p3:Option Addr}{n0 c0 n3 c3:Nat}{x4:Int}
def M:Fw:=⟨prog,6,f6,[21,22],[5],false,[],[],[(464,[(0,wL),(3,wL),(4,wI)])]⟩
def ok:M.Ok:=⟨.cons call21 (.cons call22 (AH.nil)),mixed,func6,by kernel_rfl⟩
def Ab:=M.pt 0
def start (h:Ab R p0 n0 c0 none 0 0 0 σ):Spec prog 6 #[.slice p0 n0 c0] σ R:=M.start h ok
def AO (h:Br (x4<(n0:Int)) (Pq p0 fun DO U7=>In x4 (n0:Int)∧∃ACR l8 AN6 AN7 AN8 AN9 AOA AOB AOC AOD AOE AOF AOG AOH,Ae σ DO (U7+x4.toNat*10) [.I ACR,.I l8,.string AN6,.slice AN7 AN8 AN9,.I AOA,.I AOB,.I AOC,.slice AOD AOE AOF,.bool AOG,.I AOH]∧∀b5:Nat,AF 21 #[.slice AN7 AN8 AN9] σ R (CS fun p18 n18 c18 y=>AF 22 #[.slice AOD AOE AOF] y R (CS fun aR n22 ZD AB=>Al AB fun ec=>AK prog (E3 22 p3 n3 c3 ec) (Hp.set AB ec (.cells #[.I ACR,.I l8,.string AN6,.slice p18 n18 c18,.I AOA,.I AOB,.I AOC,.slice aR n22 ZD,.bool AOG,.I AOH] 44 (0,0))) (CS fun gC n27 aQ AI=>AG (x4+1)∧Ab R (aD DO U7) n0 c0 gC n27 aQ (x4+1) AI)))) (R (.returned (.slice p3 n3 c3)) σ)):Ab R p0 n0 c0 p3 n3 c3 x4 σ:=M.of h ok rfl
end FR
namespace Ak
variable {p0 RW AXD AXE:Option Addr}{n0 c0 n21 Pp AXF AXG AXH AXI:Nat}{x7 x8 MH GC AXJ mA AXK ACS AXL AXM x12:Int}{t9 AXN:Bool}{AXO:ByteArray}
def M:Fw:=⟨prog,9,f9,[28],[11],false,[],[],[(488,[(7,wI),(8,wI),(9,wB),(21,wL),(22,wI),(23,wI)]),(1959,[(7,wI),(8,wI),(9,wB),(21,wL),(22,wI),(23,wI)]),(125342,[(7,wI),(8,wI),(9,wB),(11,.X 44 [.I .i64,.I .i64,.T,.L,.I .i64,.I .i64,.I .i64,.L,.B,.I .i64]),(12,wI),(21,wL),(22,wI),(23,wI)]),(250687,[(7,wI),(8,wI),(21,wL),(22,wI),(23,wI)])]⟩
def ok:M.Ok:=⟨.cons call28 (AH.nil),mixed,func9,by kernel_rfl⟩
def ACT:=M.pt 0
def ACU:=M.pt 1
def Tc:=M.pt 2
def Kj:=M.pt 3
def start (h:AF 28 #[.slice p0 n0 c0] σ R (fun z y=>∃ACR l8 AOI,z=(.tuple #[.I ACR,.I l8,.I AOI])∧Br (AOI≠0) (R (.T #[.I 0,.I 0]) y) (ACT R 0 0 false p0 n0 c0 (n0:Int) 0 y))):Spec prog 9 #[.slice p0 n0 c0] σ R:=M.start h ok
def Ry (h:Br (GC<MH) (Pq RW fun H0 PT=>In GC (n21:Int)∧∃Td cY cZ cd cg ck Ob Oc cm cp cq ct YD YE,Ae σ H0 (PT+GC.toNat*10) [.I Td,.I cY,.string cZ,.slice cd cg ck,.I Ob,.I Oc,.I cm,.slice cp cq ct,.bool YD,.I YE]∧∀CH:Nat,Br (Td≠2) (Br (Td≠3) (ACU R x7 x8 t9 (aD H0 PT) n21 Pp MH GC σ) (AG (Oc+Ob)∧Br (Td=2) (AG ((Oc+Ob)+300)∧Tc R x7 x8 t9 Td cY cZ cd cg ck Ob Oc cm cp cq ct YD YE (((Oc+Ob)+300)) (aD H0 PT) n21 Pp MH GC σ) (Tc R x7 x8 t9 Td cY cZ cd cg ck Ob Oc cm cp cq ct YD YE (Oc+Ob) (aD H0 PT) n21 Pp MH GC σ))) (AG (Oc+Ob)∧Br (Td=2) (AG ((Oc+Ob)+300)∧Tc R x7 x8 t9 Td cY cZ cd cg ck Ob Oc cm cp cq ct YD YE (((Oc+Ob)+300)) (aD H0 PT) n21 Pp MH GC σ) (Tc R x7 x8 t9 Td cY cZ cd cg ck Ob Oc cm cp cq ct YD YE (Oc+Ob) (aD H0 PT) n21 Pp MH GC σ))) (R (.T #[.I x7,.I x8]) σ)):ACT R x7 x8 t9 RW n21 Pp MH GC σ:=M.of h ok rfl
def cu (h:AG (GC+1)∧ACT R x7 x8 t9 RW n21 Pp MH (GC+1) σ):ACU R x7 x8 t9 RW n21 Pp MH GC σ:=M.of h ok rfl
def Vr (h:Bn t9 (Kj R (if x7<x12 then x12 else x7) ACS RW n21 Pp MH GC σ) (Br (ACS<x8) (Kj R (if x7<x12 then x12 else x7) ACS RW n21 Pp MH GC σ) (Kj R (if x7<x12 then x12 else x7) x8 RW n21 Pp MH GC σ))):Tc R x7 x8 t9 AXJ mA AXO AXD AXF AXG AXK ACS AXL AXE AXH AXI AXN AXM x12 RW n21 Pp MH GC σ:=M.fy h ok rfl fun _=>by kernel_rfl
def IL (h:ACU R x7 x8 true RW n21 Pp MH GC σ):Kj R x7 x8 RW n21 Pp MH GC σ:=M.of h ok rfl
end Ak
namespace DX
variable {p0:Option Addr}{n0 c0:Nat}{x3 x4:Int}
def M:Fw:=⟨prog,18,f18,[43,44],[],false,[(9,20,true)],[],[(208,[(0,wL),(3,wI)]),(26928,[(0,wL),(3,wI),(4,wI)])]⟩
def ok:M.Ok:=⟨.cons call43 (.cons call44 (AH.nil)),mixed,func18,by kernel_rfl⟩
def Fm:=M.pt 0
def Pv:=M.pt 1
def start (h:Fm R p0 n0 c0 0 σ):Spec prog 18 #[.slice p0 n0 c0] σ R:=M.start h ok
def As (h:Br (x3<(n0:Int)) (Pq p0 fun D9 cI=>In x3 (n0:Int)∧LS σ D9 (cI+x3.toNat*2) fun kA n15 cz=>AF 43 #[.slice kA n15 cz] σ R (CI .i64 fun x16 y=>Br (x16≠0) (R (.returned (.I 100)) y) (In x3 (n0:Int)∧LS y D9 ((cI+x3.toNat*2)+1) fun vQ n23 vR=>Br ((n23:Int)=0) (R (.returned (.I 100)) y) (Br (0<x3) (AG (x3-1)∧In (x3-1) (n0:Int)∧LS y D9 (cI+Int.toNat (x3-1)*2) fun p36 n36 c36=>In x3 (n0:Int)∧LS y D9 (cI+x3.toNat*2) fun wC n41 lz=>AF 44 #[.slice p36 n36 c36,.slice wC n41 lz] y R (CI .i64 fun La AB=>Br (0≤La) (R (.returned (.I 100)) AB) (Pv R (aD D9 cI) n0 c0 x3 1 AB))) (Pv R (aD D9 cI) n0 c0 x3 1 y))))) (R (.returned (.I 0)) σ)):Fm R p0 n0 c0 x3 σ:=M.of h ok rfl
def Mj (h:Pq p0 fun US o49=>In x3 (n0:Int)∧LS σ US ((o49+x3.toNat*2)+1) fun p51 n51 c51=>Br (x4<(n51:Int)) (In x3 (n0:Int)∧LS σ US ((o49+x3.toNat*2)+1) fun p60 n60 c60=>Pq p60 fun o6 o62=>In x4 (n60:Int)∧LI .i64 σ o6 (o62+x4.toNat*2) fun j7=>In x3 (n0:Int)∧LS σ US ((o49+x3.toNat*2)+1) fun UT n69 UU=>AG (x4-1)∧Pq UT fun rX o72=>In (x4-1) (n69:Int)∧LI .i64 σ rX (o72+Int.toNat (x4-1)*2) fun x74=>Br (j7≤x74) (R (.returned (.I 100)) σ) (AG (x4+1)∧Pv R (aD US o49) n0 c0 x3 (x4+1) σ)) (AG (x3+1)∧Fm R (aD US o49) n0 c0 (x3+1) σ)):Pv R p0 n0 c0 x3 x4 σ:=M.of h ok rfl
end DX
namespace Lh
variable {p0 p1 CV IN Su:Option Addr}{n0 c0 n1 c1 CN CR IP IQ n10 Pu:Nat}{x2 CO CP IM x11:Int}
def M:Fw:=⟨prog,20,f20,[45],[8],false,[],[],[(4048,[(2,wI),(8,.X 90 [.I .i64,.I .u64,.L,.I .i64,.L]),(10,wL),(11,wI)])]⟩
def ok:M.Ok:=⟨.cons call45 (AH.nil),mixed,func20,by kernel_rfl⟩
def Pv:=M.pt 0
def start (h:AF 45 #[.slice p0 n0 c0,.slice p1 n1 c1,.I x2] σ R (fun z y=>∃UY Rz gu gw gx AFH AFI AFJ AFK AOK,z=(.tuple #[.agg #[.I UY,.U Rz,.slice gu gw gx,.I AFH,.slice AFI AFJ AFK],.bool AOK])∧∀b8:Nat,Bn AOK (R (.T #[.N,.I 223]) y) (Br (UY=1) (Al y fun Rh=>Al (Hp.set y Rh (.cells #[.I x2,.U Rz] 61 (0,0))) fun eh=>R (.T #[(.slice (aD eh 0) 1 1),.I 0]) (Hp.set (Hp.set y Rh (.cells #[.I x2,.U Rz] 61 (0,0))) eh (.cells #[.N,(.slice (aD Rh 0) 1 1)] 51 (0,0)))) (Pv R x2 UY Rz gu gw gx AFH AFI AFJ AFK none 0 0 0 y)))):Spec prog 20 #[.slice p0 n0 c0,.slice p1 n1 c1,.I x2] σ R:=M.start h ok
def Mj (h:Br (x11<(CN:Int)) (Pq CV fun Zb o43=>In x11 (CN:Int)∧LS σ Zb (o43+x11.toNat*2) fun xB n45 xC=>In x11 (CN:Int)∧LI .u64 σ Zb ((o43+x11.toNat*2)+1) fun x53=>(Al σ fun PY=>(AK prog (Builtin.append_ #[47,47] 47 #[(.slice (aD PY 0) 0 0),.slice xB n45 xC]) (Hp.set σ PY (.cells #[] 71 (0,0))) (CS fun gy n46 eo y=>Kp [Zb] (Hp.set σ PY (.cells #[] 71 (0,0))) y∧Al y fun Er=>Al (Hp.set y Er (.cells #[.I x2,.U x53] 61 (0,0))) fun QV=>AK prog (E3 23 Su n10 Pu QV) (Hp.set (Hp.set y Er (.cells #[.I x2,.U x53] 61 (0,0))) QV (.cells #[.slice gy n46 eo,(.slice (aD Er 0) 1 1)] 51 (0,0))) (CS fun Uy Uz Wi AB=>AG (x11+1)∧Pv R x2 CO CP (aD Zb o43) CN CR IM IN IP IQ Uy Uz Wi (x11+1) AB)))∧(Al (Hp.set σ PY (.cells #[] 71 (0,0))) fun Er=>AK prog (Builtin.append_ #[47,47] 47 #[(.slice (aD PY 0) 0 0),.slice xB n45 xC]) (Hp.set (Hp.set σ PY (.cells #[] 71 (0,0))) Er (.cells #[.I x2,.U x53] 61 (0,0))) (CS fun gy n46 eo y=>Al y fun QV=>AK prog (E3 23 Su n10 Pu QV) (Hp.set y QV (.cells #[.slice gy n46 eo,(.slice (aD Er 0) 1 1)] 51 (0,0))) (CS fun Uy Uz Wi AB=>AG (x11+1)∧Pv R x2 CO CP (aD Zb o43) CN CR IM IN IP IQ Uy Uz Wi (x11+1) AB))))∧(Al σ fun Er=>Al (Hp.set σ Er (.cells #[.I x2,.U x53] 61 (0,0))) fun PY=>AK prog (Builtin.append_ #[47,47] 47 #[(.slice (aD PY 0) 0 0),.slice xB n45 xC]) (Hp.set (Hp.set σ Er (.cells #[.I x2,.U x53] 61 (0,0))) PY (.cells #[] 71 (0,0))) (CS fun gy n46 eo y=>Al y fun QV=>AK prog (E3 23 Su n10 Pu QV) (Hp.set y QV (.cells #[.slice gy n46 eo,(.slice (aD Er 0) 1 1)] 51 (0,0))) (CS fun Uy Uz Wi AB=>AG (x11+1)∧Pv R x2 CO CP (aD Zb o43) CN CR IM IN IP IQ Uy Uz Wi (x11+1) AB)))) (R (.T #[.slice Su n10 Pu,.I 0]) σ)):Pv R x2 CO CP CV CN CR IM IN IP IQ Su n10 Pu x11 σ:=M.fy h ok rfl fun _=>by kernel_rfl
end Lh
namespace Ig
variable {p0 p1 CV Hf:Option Addr}{n0 c0 n1 c1 CN CR Hg Hh:Nat}{x2 CO CP x9:Int}
def M:Fw:=⟨prog,27,f27,[47],[8],false,[],[],[(30,[(8,.X 97 [.I .i64,.I .u64,.L,.L]),(9,wI)])]⟩
def ok:M.Ok:=⟨.cons call47 (AH.nil),mixed,func27,by kernel_rfl⟩
def Ab:=M.pt 0
def start (h:Al σ fun DO=>AF 47 #[(.pointer (aD DO 0)),.slice p0 n0 c0] (Hp.set σ DO (.cells #[.slice p1 n1 c1,.I x2] 101 (0,0))) R (fun z y=>∃UY Rz gu gw gx xF xG xH AIw,z=(.tuple #[.agg #[.I UY,.U Rz,.slice gu gw gx,.slice xF xG xH],.I AIw])∧∀b8:Nat,Br (UY=1) (Al y fun H0=>Ab R UY Rz (aD H0 0) 1 1 xF xG xH AIw (Hp.set y H0 (.cells #[.N,.U Rz] 59 (0,0)))) (Ab R UY Rz gu gw gx xF xG xH AIw y))):Spec prog 27 #[.slice p0 n0 c0,.slice p1 n1 c1,.I x2] σ R:=M.start h ok
def AO (h:R (.T #[.slice CV CN CR,.I x9]) σ):Ab R CO CP CV CN CR Hf Hg Hh x9 σ:=M.fy h ok rfl fun _=>by kernel_rfl
end Ig
namespace Ih
variable {Ac Ax Bb Be BI BO GH Ge Vm Vn TZ Vo x6:Int}{BS Vp:ByteArray}{CJ Bt p1 TU U8:Option Addr}{CC CK Bh Bu n1 c1 TV TW U9 VA:Nat}{Bg VB t7 t8:Bool}
def M:Fw:=⟨prog,52,f52,[],[2],false,[],[],[(110572,[(1,wL),(6,wI)]),(248,[(1,wL),(2,.X 44 [.I .i64,.I .i64,.T,.L,.I .i64,.I .i64,.I .i64,.L,.B,.I .i64]),(7,wB),(8,wB)]),(998,[(2,.X 44 [.I .i64,.I .i64,.T,.L,.I .i64,.I .i64,.I .i64,.L,.B,.I .i64]),(8,wB)])]⟩
def ok:M.Ok:=⟨AH.nil,mixed,func52,by kernel_rfl⟩
def F7:=M.pt 0
def rq:=M.pt 1
def rr:=M.pt 2
def start (h:∀b2:Nat,Br (Ac=1) (R (.T #[.I 1,.I 0]) σ) (Br (Ac=2) (R (.T #[.I 2,.I 0]) σ) (Br (Ac=3) (R (.T #[.I 3,.I 0]) σ) (Br (Ac=4) (Br (Ax=11) (F7 R p1 n1 c1 2 σ) (Br (Ax=12) (F7 R p1 n1 c1 2 σ) (F7 R p1 n1 c1 3 σ))) (Br (Ac=5) (Pq p1 fun b35 o35=>In 0 (n1:Int)∧LI .i64 σ b35 o35 fun NB=>Br (NB≠2) (R (.T #[.I 0,.I 191]) σ) (R (.T #[.I 2,.I 0]) σ)) (Br (Ac=7) (Pq p1 fun b41 o41=>In 0 (n1:Int)∧LI .i64 σ b41 o41 fun La=>Br (La=3) (R (.T #[.I 0,.I 191]) σ) (In 0 (n1:Int)∧LI .i64 σ b41 o41 fun cL=>R (.T #[.I cL,.I 0]) σ)) (Pq p1 fun I9 aV=>In 0 (n1:Int)∧LI .i64 σ I9 aV fun RY=>Br (RY=2) (In 1 (n1:Int)∧LI .i64 σ I9 (aV+1) fun x54=>In 0 (n1:Int)∧LI .i64 σ I9 aV fun x59=>Br (x59=1) (In 1 (n1:Int)∧LI .i64 σ I9 (aV+1) fun j7=>rq R (aD I9 aV) n1 c1 Ac Ax BS CJ CC CK Bb Be BI Bt Bh Bu Bg BO ((decide (x54=2))) ((decide (j7=1))) σ) (rq R (aD I9 aV) n1 c1 Ac Ax BS CJ CC CK Bb Be BI Bt Bh Bu Bg BO ((decide (x54=2))) false σ)) (In 0 (n1:Int)∧LI .i64 σ I9 aV fun x59=>Br (x59=1) (In 1 (n1:Int)∧LI .i64 σ I9 (aV+1) fun j7=>rq R (aD I9 aV) n1 c1 Ac Ax BS CJ CC CK Bb Be BI Bt Bh Bu Bg BO false ((decide (j7=1))) σ) (rq R (aD I9 aV) n1 c1 Ac Ax BS CJ CC CK Bb Be BI Bt Bh Bu Bg BO false false σ))))))))):Spec prog 52 #[.agg #[.I Ac,.I Ax,.string BS,.slice CJ CC CK,.I Bb,.I Be,.I BI,.slice Bt Bh Bu,.bool Bg,.I BO],.slice p1 n1 c1] σ R:=M.start h ok
def ACV (h:Pq p1 fun b69 o69=>In 0 (n1:Int)∧LI .i64 σ b69 o69 fun va=>Br (va=3) (R (.T #[.I 0,.I 192]) σ) (In 1 (n1:Int)∧LI .i64 σ b69 (o69+1) fun x75=>Br (x75=3) (R (.T #[.I 0,.I 192]) σ) (Br (11≤Ge) (Bn t7 (R (.T #[.I 0,.I 192]) σ) (Br (TZ≠0) (rr R GH Ge Vp TU TV TW Vm Vn TZ U8 U9 VA VB Vo t8 σ) (rr R GH Ge Vp TU TV TW Vm Vn TZ U8 U9 VA VB Vo t8 σ))) (Br (TZ≠0) (Bn t7 (R (.T #[.I 0,.I 192]) σ) (rr R GH Ge Vp TU TV TW Vm Vn TZ U8 U9 VA VB Vo t8 σ)) (rr R GH Ge Vp TU TV TW Vm Vn TZ U8 U9 VA VB Vo t8 σ))))):rq R p1 n1 c1 GH Ge Vp TU TV TW Vm Vn TZ U8 U9 VA VB Vo t7 t8 σ:=M.fy h ok rfl fun _=>by kernel_rfl
def ACX (h:Br (5≤Ge) (Br (Ge≤10) (Bo t8 (Bn VB (R (.T #[.I 0,.I 192]) σ) (R (.T #[.I 1,.I 0]) σ)) (R (.T #[.I 2,.I 0]) σ)) (Bo t8 (R (.T #[.I 1,.I 0]) σ) (R (.T #[.I 2,.I 0]) σ))) (Bo t8 (R (.T #[.I 1,.I 0]) σ) (R (.T #[.I 2,.I 0]) σ))):rr R GH Ge Vp TU TV TW Vm Vn TZ U8 U9 VA VB Vo t8 σ:=M.fy h ok rfl fun _=>by kernel_rfl
def IJ (h:Pq p1 fun Rh cR=>In 0 (n1:Int)∧LI .i64 σ Rh cR fun x29=>Br (x29≠x6) (R (.T #[.I 0,.I 191]) σ) (R (.T #[.I 2,.I 0]) σ)):F7 R p1 n1 c1 x6 σ:=M.of h ok rfl
end Ih
namespace A2
variable {p0 p4:Option Addr}{n0 c0 n4 c4:Nat}{x5 x6:Int}
def M:Fw:=⟨prog,73,f73,[44],[],false,[],[],[(464,[(0,wL),(4,wL),(5,wI)]),(59680,[(0,wL),(4,wL),(5,wI),(6,wI)]),(59682,[(0,wL),(4,wL),(5,wI),(6,wI)]),(14924,[(0,wL),(4,wL),(5,wI),(6,wI)]),(14926,[(0,wL),(4,wL),(5,wI),(6,wI)])]⟩
def ok:M.Ok:=⟨.cons call44 (AH.nil),mixed,func73,by kernel_rfl⟩
def Ab:=M.pt 0
def TX:=M.pt 1
def Pv:=M.pt 2
def NJ:=M.pt 3
def ACY:=M.pt 4
def start (h:Ab R p0 n0 c0 none 0 0 0 σ):Spec prog 73 #[.slice p0 n0 c0] σ R:=M.start h ok
def AO (h:Br (x5<(n0:Int)) (TX R p0 n0 c0 p4 n4 c4 x5 (n4:Int) σ) (R (.T #[.slice p4 n4 c4,.bool true]) σ)):Ab R p0 n0 c0 p4 n4 c4 x5 σ:=M.of h ok rfl
def Mi (h:Br (0<x6) (AG (x6-1)∧Pq p4 fun eX lV=>In (x6-1) (n4:Int)∧LS σ eX (lV+Int.toNat (x6-1)*2) fun p24 n24 c24=>Pq p0 fun ZE ot=>In x5 (n0:Int)∧LS σ ZE (ot+x5.toNat*2) fun oY n29 gD=>AF 44 #[.slice p24 n24 c24,.slice oY n29 gD] σ R (CI .i64 fun LZ y=>Br (0<LZ) (Pv R (aD ZE ot) n0 c0 (aD eX lV) n4 c4 x5 x6 y) (NJ R (aD ZE ot) n0 c0 (aD eX lV) n4 c4 x5 x6 y))) (NJ R p0 n0 c0 p4 n4 c4 x5 x6 σ)):TX R p0 n0 c0 p4 n4 c4 x5 x6 σ:=M.of h ok rfl
def Mj (h:AG (x6-1)∧TX R p0 n0 c0 p4 n4 c4 x5 (x6-1) σ):Pv R p0 n0 c0 p4 n4 c4 x5 x6 σ:=M.of h ok rfl
def IK (h:Br (0<x6) (AG (x6-1)∧Pq p4 fun b41 o41=>In (x6-1) (n4:Int)∧LS σ b41 (o41+Int.toNat (x6-1)*2) fun ZZ n43 Za=>Pq p0 fun gW o46=>In x5 (n0:Int)∧LS σ gW (o46+x5.toNat*2) fun p48 n48 c48=>AF 44 #[.slice ZZ n43 Za,.slice p48 n48 c48] σ R (CI .i64 fun RY y=>Br (RY=0) (R (.T #[.N,.bool false]) y) (ACY R (aD gW o46) n0 c0 (aD b41 o41) n4 c4 x5 x6 y))) (ACY R p0 n0 c0 p4 n4 c4 x5 x6 σ)):NJ R p0 n0 c0 p4 n4 c4 x5 x6 σ:=M.of h ok rfl
def ACZ (h:Al σ fun j8=>(0≤x6∧x6≤(n4:Int))∧AK prog (Builtin.append_ #[87,87] 87 #[(.slice (aD j8 0) 0 0),(.slice (MK p4 (x6.toNat) c4 2) (n4-x6.toNat) (c4-x6.toNat))]) (Hp.set σ j8 (.cells #[] 94 (0,0))) (CS fun p56 n56 c56 y=>(0≤x6∧x6≤(c4:Int))∧Pq p0 fun rm tu=>In x5 (n0:Int)∧∃xI xJ xK hY,Ae y rm (tu+x5.toNat*2) [.slice xI xJ xK,.U hY]∧(Al y fun QV=>(AK prog (Builtin.append_ #[87,87] 87 #[(.slice (aD QV 0) 0 0),(.slice p4 (x6.toNat) c4)]) (Hp.set y QV (.cells #[] 94 (0,0))) (CS fun pA n61 pB AB=>Kp [rm] (Hp.set y QV (.cells #[] 94 (0,0))) AB∧Al AB fun dA=>AK prog (E3 87 pA n61 pB dA) (Hp.set AB dA (.cells #[.slice xI xJ xK,.U hY] 94 (0,0))) (CS fun ZS Wg Uw AI=>AK prog (Builtin.append_ #[87,87] 87 #[.slice ZS Wg Uw,.slice p56 n56 c56]) AI (CS fun UT n69 UU AU=>AG (x5+1)∧Ab R (aD rm tu) n0 c0 UT n69 UU (x5+1) AU))))∧(Al (Hp.set y QV (.cells #[] 94 (0,0))) fun dA=>AK prog (Builtin.append_ #[87,87] 87 #[(.slice (aD QV 0) 0 0),(.slice p4 (x6.toNat) c4)]) (Hp.set (Hp.set y QV (.cells #[] 94 (0,0))) dA (.cells #[.slice xI xJ xK,.U hY] 94 (0,0))) (CS fun pA n61 pB AB=>AK prog (E3 87 pA n61 pB dA) AB (CS fun ZS Wg Uw AI=>AK prog (Builtin.append_ #[87,87] 87 #[.slice ZS Wg Uw,.slice p56 n56 c56]) AI (CS fun UT n69 UU AU=>AG (x5+1)∧Ab R (aD rm tu) n0 c0 UT n69 UU (x5+1) AU)))))∧(Al y fun dA=>Al (Hp.set y dA (.cells #[.slice xI xJ xK,.U hY] 94 (0,0))) fun QV=>AK prog (Builtin.append_ #[87,87] 87 #[(.slice (aD QV 0) 0 0),(.slice p4 (x6.toNat) c4)]) (Hp.set (Hp.set y dA (.cells #[.slice xI xJ xK,.U hY] 94 (0,0))) QV (.cells #[] 94 (0,0))) (CS fun pA n61 pB AB=>AK prog (E3 87 pA n61 pB dA) AB (CS fun ZS Wg Uw AI=>AK prog (Builtin.append_ #[87,87] 87 #[.slice ZS Wg Uw,.slice p56 n56 c56]) AI (CS fun UT n69 UU AU=>AG (x5+1)∧Ab R (aD rm tu) n0 c0 UT n69 UU (x5+1) AU)))))):ACY R p0 n0 c0 p4 n4 c4 x5 x6 σ:=M.of h ok rfl
end A2
namespace DS
variable {q0 FZ F2 p2:Option Addr}{Bq BM FD FE Dm EB x8:Int}{FG:ByteArray}{Fa Fb Fc F3 n2 c2:Nat}{EC:Bool}
def M:Fw:=⟨prog,80,f80,[],[4],false,[],[],[(60,[(2,wL),(8,wI)])]⟩
def ok:M.Ok:=⟨AH.nil,mixed,func80,by kernel_rfl⟩
def GL:=M.pt 0
def start (h:∀b4:Nat,Br (BM=11) (GL R p2 n2 c2 2 σ) (Br (BM=12) (GL R p2 n2 c2 2 σ) (GL R p2 n2 c2 3 σ))):Spec prog 80 #[.pointer q0,.agg #[.I Bq,.I BM,.string FG,.slice FZ Fa Fb,.I FD,.I FE,.I Dm,.slice F2 Fc F3,.bool EC,.I EB],.slice p2 n2 c2] σ R:=M.start h ok
def Fg (h:Pq p2 fun KL MV=>In 0 (n2:Int)∧LI .i64 σ KL MV fun II=>Br (II≠x8) (R (.T #[.I 0,.I 191]) σ) (R (.T #[.I 2,.I 0]) σ)):GL R p2 n2 c2 x8 σ:=M.of h ok rfl
end DS
namespace YG
variable {x0 x1:Int}
def M:Fw:=⟨prog,86,f86,[],[],false,[],[],[]⟩
def ok:M.Ok:=⟨AH.nil,mixed,func86,by kernel_rfl⟩
def start (h:Br (x1≤x0) (R (.returned (.bool (decide (x0≤2147483647)))) σ) (R (.B false) σ)):Spec prog 86 #[.I x0,.I x1] σ R:=M.start h ok
end YG
namespace GU
variable {p0 p5:Option Addr}{n0 c0 n5 c5:Nat}{x1:Int}
def M:Fw:=⟨prog,89,f89,[],[],false,[],[],[(224,[(1,wU),(5,wL)])]⟩
def ok:M.Ok:=⟨AH.nil,mixed,func89,by kernel_rfl⟩
def Fm:=M.pt 0
def start (h:Al σ fun b6=>AK prog (Builtin.append_ #[117,117] 117 #[(.slice (aD b6 0) 0 0),.slice p0 n0 c0]) (Hp.set σ b6 (.cells #[] 5 (0,0))) (CS fun p8 n8 c8 y=>Fm R x1 p8 n8 c8 y)):Spec prog 89 #[.slice p0 n0 c0,.U x1] σ R:=M.start h ok
def As (h:Br (127<x1) (Df (IntKind.u8.wrap x1) fun x15=>Df (Go.bits .or .u8 x15 128) fun x16=>Al σ fun l6=>AK prog (E3 117 p5 n5 c5 l6) (Hp.set σ l6 (.cells #[.int .u8 x16] 5 (0,0))) (CS fun p18 n18 c18 y=>((0:Int)≤7∧7≤((IntKind.bits .u64:Nat):Int))∧Df (x1/2^Int.toNat 7) fun x12=>Fm R x12 p18 n18 c18 y)) (Df (IntKind.u8.wrap x1) fun UZ=>Al σ fun eX=>AK prog (E3 117 p5 n5 c5 eX) (Hp.set σ eX (.cells #[.int .u8 UZ] 5 (0,0))) (CS fun vQ n23 vR y=>R (.returned (.slice vQ n23 vR)) y))):Fm R x1 p5 n5 c5 σ:=M.of h ok rfl
end GU
namespace H4
variable {s0:ByteArray}{x3:Int}
def M:Fw:=⟨prog,118,f118,[],[],false,[],[],[(464,[(0,wT),(3,wI)])]⟩
def ok:M.Ok:=⟨AH.nil,mixed,func118,by kernel_rfl⟩
def Aw:=M.pt 0
def start (h:Bo ((ByteArray.toList s0==ByteArray.toList (ByteArray.mk #[]))) (R (.B false) σ) (Br ((64:Int)<(s0.size:Int)) (R (.B false) σ) (∃PU:UInt8,(0:Int)≤0∧(ByteArray.data s0)[Int.toNat 0]?=some PU∧Br ((48:Int)≤(PU.toNat:Int)) (∃u18:UInt8,(0:Int)≤0∧(ByteArray.data s0)[Int.toNat 0]?=some u18∧Br (((u18.toNat:Int):Int)≤57) (R (.B false) σ) (Aw R s0 0 σ)) (Aw R s0 0 σ)))):Spec prog 118 #[.string s0] σ R:=M.start h ok
def Ay (h:Br (x3<(s0.size:Int)) (∃kB:UInt8,0≤x3∧(ByteArray.data s0)[x3.toNat]?=some kB∧Br (((kB.toNat:Int):Int)≠95) (Br (((kB.toNat:Int):Int)<48) (Br (((kB.toNat:Int):Int)<65) (Br (((kB.toNat:Int):Int)<97) (R (.B false) σ) (Br ((122:Int)<(kB.toNat:Int)) (R (.B false) σ) (AG (x3+1)∧Aw R s0 (x3+1) σ))) (Br ((90:Int)<(kB.toNat:Int)) (Br (((kB.toNat:Int):Int)<97) (R (.B false) σ) (Br ((122:Int)<(kB.toNat:Int)) (R (.B false) σ) (AG (x3+1)∧Aw R s0 (x3+1) σ))) (AG (x3+1)∧Aw R s0 (x3+1) σ))) (Br ((57:Int)<(kB.toNat:Int)) (Br (((kB.toNat:Int):Int)<65) (Br (((kB.toNat:Int):Int)<97) (R (.B false) σ) (Br ((122:Int)<(kB.toNat:Int)) (R (.B false) σ) (AG (x3+1)∧Aw R s0 (x3+1) σ))) (Br ((90:Int)<(kB.toNat:Int)) (Br (((kB.toNat:Int):Int)<97) (R (.B false) σ) (Br ((122:Int)<(kB.toNat:Int)) (R (.B false) σ) (AG (x3+1)∧Aw R s0 (x3+1) σ))) (AG (x3+1)∧Aw R s0 (x3+1) σ))) (AG (x3+1)∧Aw R s0 (x3+1) σ))) (AG (x3+1)∧Aw R s0 (x3+1) σ)) (R (.B true) σ)):Aw R s0 x3 σ:=M.of h ok rfl
end H4
namespace AX
variable {q0 FZ F2 p2 JS LA BC Iz p9 aR kA p79 hZ p12 q13:Option Addr}{Bq BM FD FE Dm EB BZ BT LC JA LD ME A8 A9 GC JG x80 x81 mA:Int}{FG MF:ByteArray}{Fa Fb Fc F3 n2 c2 JT JU LF LG BD BE I0 I1 n9 c9 n22 ZD n15 cz n79 c79 iA iB n12 c12:Nat}{EC MG:Bool}{m8:Option Nat}{v14:Value}
def M:Fw:=⟨prog,124,f124,[39,162,164,165,166],[4,6,11],false,[(17,11,false)],[],[(488,[(4,.X 44 [.I .i64,.I .i64,.T,.L,.I .i64,.I .i64,.I .i64,.L,.B,.I .i64]),(6,.X 97 [.I .i64,.I .u64,.L,.L]),(8,wM),(9,wL),(22,wL),(23,wI),(24,wI)]),(4072,[(6,.X 97 [.I .i64,.I .u64,.L,.L]),(14,wV),(15,wL),(79,wL),(80,wI),(81,wI)]),(62670,[(4,.X 44 [.I .i64,.I .i64,.T,.L,.I .i64,.I .i64,.I .i64,.L,.B,.I .i64]),(6,.X 97 [.I .i64,.I .u64,.L,.L]),(8,wM),(9,wL),(11,.X 59 [.L,.I .u64]),(12,wL),(22,wL),(23,wI),(24,wI)]),(125343,[(4,.X 44 [.I .i64,.I .i64,.T,.L,.I .i64,.I .i64,.I .i64,.L,.B,.I .i64]),(6,.X 97 [.I .i64,.I .u64,.L,.L]),(8,wM),(9,wL),(11,.X 59 [.L,.I .u64]),(13,wQ),(22,wL),(23,wI),(24,wI)])]⟩
def ok:M.Ok:=⟨.cons call39 (.cons call162 (.cons call164 (.cons call165 (.cons call166 (AH.nil))))),mixed,func124,by kernel_rfl⟩
def GL:=M.pt 0
def VD:=M.pt 1
def F7:=M.pt 2
def xL:=M.pt 3
def start (h:∀b4:Nat,∀b6:Nat,AK prog (Instr.makeMap 207 none) σ (fun z y=>∃m18,z=(.map (some m18))∧Pq p2 fun gb o20=>In 0 (n2:Int)∧LS y gb (o20+2) fun aR n22 ZD=>GL R Bq BM FG FZ Fa Fb FD FE Dm F2 Fc F3 EC EB 0 0 none 0 0 none 0 0 (some m18) none 0 0 aR n22 ZD (n22:Int) 0 y)):Spec prog 124 #[.pointer q0,.agg #[.I Bq,.I BM,.string FG,.slice FZ Fa Fb,.I FD,.I FE,.I Dm,.slice F2 Fc F3,.bool EC,.I EB],.slice p2 n2 c2] σ R:=M.start h ok
def Fg (h:Br (JG<GC) (Pq aR fun ec ru=>In JG (n22:Int)∧∃Qw Pr Qy Wo,Ae σ ec (ru+JG.toNat*2) [.slice Qw Pr Qy,.U Wo]∧∀CH:Nat,Br (LD=1) (AF 165 #[.slice Qw Pr Qy,.slice LA LF LG] σ R (CS fun p36 n36 c36 y=>F7 R BZ BT MF JS JT JU LC JA LD LA LF LG MG ME A8 A9 BC BD BE Iz I0 I1 m8 p9 n9 c9 Qw Pr Qy Wo p36 n36 c36 (aD ec ru) n22 ZD GC JG y)) (Br (LD=2) (AF 166 #[.slice Qw Pr Qy,.slice LA LF LG] σ R (CS fun ZZ n43 Za y=>AF 162 #[.slice ZZ n43 Za] y R (CS fun rv n44 c44 AB=>F7 R BZ BT MF JS JT JU LC JA LD LA LF LG MG ME A8 A9 BC BD BE Iz I0 I1 m8 p9 n9 c9 Qw Pr Qy Wo rv n44 c44 (aD ec ru) n22 ZD GC JG AB))) (F7 R BZ BT MF JS JT JU LC JA LD LA LF LG MG ME A8 A9 BC BD BE Iz I0 I1 m8 p9 n9 c9 Qw Pr Qy Wo none 0 0 (aD ec ru) n22 ZD GC JG σ))) (AK prog (Instr.makeMap 212 none) σ (fun z y=>∃lO,z=(.map (some lO))∧AK prog (Instr.mapUpdate 212 (.map (some lO)) (.I 1) (.func (.func 167) #[] #[])) y (fun _ AB=>AK prog (Instr.mapUpdate 212 (.map (some lO)) (.I 2) (.func (.func 168) #[] #[])) AB (fun _ AI=>AK prog (Instr.mapUpdate 212 (.map (some lO)) (.I 3) (.func (.func 169) #[] #[])) AI (fun _ AU=>AK prog (Instr.mapUpdate 212 (.map (some lO)) (.I 4) (.func (.func 170) #[] #[])) AU (fun _ DI=>AK prog (Instr.mapUpdate 212 (.map (some lO)) (.I 5) (.func (.func 171) #[] #[])) DI (fun _ Gi=>AK prog (Instr.lookup 212 (.map (some lO)) (.I BT) false) Gi (fun z Pn=>∃v78,v78=z∧VD R A8 A9 BC BD BE Iz I0 I1 v78 none 0 0 p9 n9 c9 (n9:Int) 0 Pn))))))))):GL R BZ BT MF JS JT JU LC JA LD LA LF LG MG ME A8 A9 BC BD BE Iz I0 I1 m8 p9 n9 c9 aR n22 ZD GC JG σ:=M.lJ h ok rfl fun _ _=>by kernel_rfl
def Vs (h:Br (x81<x80) (Pq p79 fun b83 o83=>In x81 (n79:Int)∧LQ σ b83 (o83+x81.toNat*1) fun q84=>Pq q84 fun b87 o87=>LS σ b87 o87 fun p89 n89 c89=>LS σ b87 (o87+1) fun p94 n94 c94=>∃(f95:Nat) (iC iD:Array Value),v14=.func (.func f95) iC iD∧Enters prog f95∧Spec prog f95 (iC++#[.slice p94 n94 c94]++iD) σ (BB R (CI .u64 fun x95 y=>Kp [b87] σ y∧Al y fun b97=>AK prog (E3 54 kA n15 cz b97) (Hp.set y b97 (.cells #[.slice p89 n89 c89,.U x95] 59 (0,0))) (CS fun p98 n98 c98 AB=>AG (x81+1)∧VD R A8 A9 BC BD BE Iz I0 I1 v14 p98 n98 c98 (aD b83 o83) n79 c79 x80 (x81+1) AB)))) (AF 164 #[.slice kA n15 cz] σ R (fun z y=>∃xM xN xO xP xQ xR xS xT AFL,z=(.tuple #[.agg #[.I xM,.U xN,.slice xO xP xQ,.slice xR xS xT],.I AFL])∧R (.T #[.agg #[.I xM,.U xN,.slice xO xP xQ,.slice xR xS xT],.I AFL]) y))):VD R A8 A9 BC BD BE Iz I0 I1 v14 kA n15 cz p79 n79 c79 x80 x81 σ:=M.fy h ok rfl fun _=>by kernel_rfl
def IJ (h:AF 39 #[.slice p12 n12 c12] σ R (CT fun s47 y=>AK prog (Instr.lookup 207 (.map m8) (.string s47) false) y (CQ fun q48 AB=>Bo (Option.isNone q48) (Al AB fun Q1=>AF 39 #[.slice p12 n12 c12] (Hp.set AB Q1 (.cells #[.slice p12 n12 c12,.N] 200 (0,0))) R (CT fun s56 AI=>AK prog (Instr.mapUpdate 207 (.map m8) (.string s56) (.pointer (aD Q1 0))) AI (fun _ AU=>Al AU fun b60=>AK prog (E3 208 p9 n9 c9 b60) (Hp.set AU b60 (.cells #[(.pointer (aD Q1 0))] 210 (0,0))) (CS fun pA n61 pB DI=>xL R BZ BT MF JS JT JU LC JA LD LA LF LG MG ME A8 A9 BC BD BE Iz I0 I1 m8 pA n61 pB hZ iA iB mA (aD Q1 0) aR n22 ZD GC JG DI)))) (xL R BZ BT MF JS JT JU LC JA LD LA LF LG MG ME A8 A9 BC BD BE Iz I0 I1 m8 p9 n9 c9 hZ iA iB mA q48 aR n22 ZD GC JG AB)))):F7 R BZ BT MF JS JT JU LC JA LD LA LF LG MG ME A8 A9 BC BD BE Iz I0 I1 m8 p9 n9 c9 hZ iA iB mA p12 n12 c12 aR n22 ZD GC JG σ:=M.ZP h ok rfl fun _ _ _=>by kernel_rfl
def ACa (h:Pq q13 fun rm tu=>LS σ rm (tu+1) fun p66 vf od=>Al σ fun b69=>AK prog (E3 163 p66 vf od b69) (Hp.set σ b69 (.cells #[.U mA] 57 (0,0))) (CS fun p70 n70 c70 y=>AK prog (Instr.storeAt 163 (.pointer (aD rm (tu+1))) (.slice p70 n70 c70)) y (fun _ AB=>AG (JG+1)∧GL R BZ BT MF JS JT JU LC JA LD LA LF LG MG ME A8 A9 BC BD BE Iz I0 I1 m8 p9 n9 c9 aR n22 ZD GC (JG+1) AB))):xL R BZ BT MF JS JT JU LC JA LD LA LF LG MG ME A8 A9 BC BD BE Iz I0 I1 m8 p9 n9 c9 hZ iA iB mA q13 aR n22 ZD GC JG σ:=M.ZP h ok rfl fun _ _ _=>by kernel_rfl
end AX
namespace Ua
variable {x0 x1 x2:Int}
def M:Fw:=⟨prog,153,f153,[103,147],[],false,[],[],[]⟩
def ok:M.Ok:=⟨.cons call103 (.cons call147 (AH.nil)),mixed,func153,by kernel_rfl⟩
def start (h:AF 147 #[.U x1] σ R (fun z y=>∃x11,(Value.float .f64 x11)=z∧AF 147 #[.U x2] y R (fun z AB=>∃DP,(Value.float .f64 DP)=z∧Br (x0=1) (AK prog (binOp .add 73 (Value.float .f64 x11) (Value.float .f64 DP)) AB (fun z AI=>∃FV,(Value.float .f64 FV)=z∧AF 103 #[(Value.float .f64 FV)] AI R (CI .u64 fun II AU=>R (.T #[.U II,.bool true]) AU))) (Br (x0=2) (AK prog (binOp .sub 73 (Value.float .f64 x11) (Value.float .f64 DP)) AB (fun z AI=>∃Kz,(Value.float .f64 Kz)=z∧AF 103 #[(Value.float .f64 Kz)] AI R (CI .u64 fun eb AU=>R (.T #[.U eb,.bool true]) AU))) (Br (x0=3) (AK prog (binOp .mul 73 (Value.float .f64 x11) (Value.float .f64 DP)) AB (fun z AI=>∃W5,(Value.float .f64 W5)=z∧AF 103 #[(Value.float .f64 W5)] AI R (CI .u64 fun lv AU=>R (.T #[.U lv,.bool true]) AU))) (Br (x0=4) (AK prog (binOp .quo 73 (Value.float .f64 x11) (Value.float .f64 DP)) AB (fun z AI=>∃Ss,(Value.float .f64 Ss)=z∧AF 103 #[(Value.float .f64 Ss)] AI R (CI .u64 fun x38 AU=>R (.T #[.U x38,.bool true]) AU))) (R (.T #[.U 0,.bool false]) AB))))))):Spec prog 153 #[.I x0,.U x1,.U x2] σ R:=M.start h ok
end Ua
namespace af
variable {Ac Ax Bb Be BI BO:Int}{BS:ByteArray}{CJ Bt p1:Option Addr}{CC CK Bh Bu n1 c1:Nat}{Bg:Bool}
def M:Fw:=⟨prog,155,f155,[107,109],[2],false,[],[],[]⟩
def ok:M.Ok:=⟨.cons call107 (.cons call109 (AH.nil)),mixed,func155,by kernel_rfl⟩
def start (h:∀b2:Nat,Br (BI=0) (AF 107 #[.slice p1 n1 c1] σ R (CS fun p9 n9 c9 y=>R (.returned (.slice p9 n9 c9)) y)) (AF 109 #[.I BI,.slice Bt Bh Bu,.slice p1 n1 c1] σ R (CS fun kA n15 cz y=>R (.returned (.slice kA n15 cz)) y))):Spec prog 155 #[.agg #[.I Ac,.I Ax,.string BS,.slice CJ CC CK,.I Bb,.I Be,.I BI,.slice Bt Bh Bu,.bool Bg,.I BO],.slice p1 n1 c1] σ R:=M.start h ok
end af
namespace ah
variable {p0:Option Addr}{n0 c0:Nat}
def M:Fw:=⟨prog,162,f162,[166],[],false,[],[],[]⟩
def ok:M.Ok:=⟨.cons call166 (AH.nil),mixed,func162,by kernel_rfl⟩
def start (h:Al σ fun b4=>AF 166 #[.slice p0 n0 c0,(.slice (aD b4 0) 1 1)] (Hp.set σ b4 (.cells #[(.string (ByteArray.mk #[95,95,110,97,109,101,95,95]))] 9 (0,0))) R (CS fun p5 n5 c5 y=>R (.returned (.slice p5 n5 c5)) y)):Spec prog 162 #[.slice p0 n0 c0] σ R:=M.start h ok
end ah
namespace QX
variable {p0 p1:Option Addr}{n0 c0 n1 c1:Nat}
def M:Fw:=⟨prog,166,f166,[212],[],false,[],[],[]⟩
def ok:M.Ok:=⟨.cons call212 (AH.nil),mixed,func166,by kernel_rfl⟩
def start (h:Al σ fun b3=>AF 212 #[.slice p0 n0 c0,(.func (.func 215) #[] #[(.pointer (aD b3 0))])] (Hp.set σ b3 (.cells #[.slice p1 n1 c1] 42 (0,0))) R (CS fun p7 n7 c7 y=>R (.returned (.slice p7 n7 c7)) y)):Spec prog 166 #[.slice p0 n0 c0,.slice p1 n1 c1] σ R:=M.start h ok
end QX
namespace Jm
variable {p0:Option Addr}{n0 c0:Nat}
def M:Fw:=⟨prog,168,f168,[217],[],false,[],[],[]⟩
def ok:M.Ok:=⟨.cons call217 (AH.nil),mixed,func168,by kernel_rfl⟩
def start (h:AF 217 #[.I 7,.slice p0 n0 c0] σ R (CI .u64 fun x4 y=>R (.returned (.U x4)) y)):Spec prog 168 #[.slice p0 n0 c0] σ R:=M.start h ok
end Jm
namespace Ub
variable {Ac Ax Bb Be BI BO x1 x2:Int}{BS:ByteArray}{CJ Bt:Option Addr}{CC CK Bh Bu:Nat}{Bg:Bool}
def M:Fw:=⟨prog,172,f172,[218,219,220],[3],false,[],[],[]⟩
def ok:M.Ok:=⟨.cons call218 (.cons call219 (.cons call220 (AH.nil))),mixed,func172,by kernel_rfl⟩
def start (h:∀b3:Nat,AF 218 #[.I Ax,.U x1,.U x2] σ R (fun z y=>∃cP AOO,z=(.tuple #[.U cP,.bool AOO])∧Bo AOO (R (.T #[.U cP,.bool true]) y) (AF 219 #[.I Ax,.U x1,.U x2] y R (fun z AB=>∃AI0 AXX,z=(.tuple #[.bool AI0,.bool AXX])∧AF 220 #[.bool AI0] AB R (CI .u64 fun W5 AI=>R (.T #[.U W5,.bool AI0]) AI))))):Spec prog 172 #[.agg #[.I Ac,.I Ax,.string BS,.slice CJ CC CK,.I Bb,.I Be,.I BI,.slice Bt Bh Bu,.bool Bg,.I BO],.U x1,.U x2] σ R:=M.start h ok
end Ub
namespace A5
variable {s0 s1:ByteArray}{p5 p8:Option Addr}{n5 c5 n8 c8:Nat}{x6 x7 x9 x10:Int}
def M:Fw:=⟨prog,182,f182,[],[],false,[(16,19,true)],[],[(976,[(0,wT),(1,wT),(5,wL),(6,wI)]),(2000,[(0,wT),(1,wT),(5,wL),(7,wI)]),(512592,[(0,wT),(1,wT),(5,wL),(7,wI),(8,wL),(9,wI)]),(1025232,[(0,wT),(1,wT),(7,wI),(8,wL),(10,wI)]),(4100754,[(0,wT),(1,wT),(5,wL),(7,wI),(8,wL),(9,wI)]),(512595,[(0,wT),(1,wT),(5,wL),(7,wI),(8,wL),(9,wI)])]⟩
def ok:M.Ok:=⟨AH.nil,mixed,func182,by kernel_rfl⟩
def Jh:=M.pt 0
def NK:=M.pt 1
def XC:=M.pt 2
def iE:=M.pt 3
def ry:=M.pt 4
def VD:=M.pt 5
def start (h:AG ((s0.size:Int)+1)∧AK prog (Instr.makeSlice 251 (.I ((s0.size:Int)+1)) (.I ((s0.size:Int)+1))) σ (CS fun NO n14 Lc y=>Pq NO fun IY Rb=>In 0 (n14:Int)∧AK prog (Instr.storeAt 4 (.pointer (aD IY Rb)) (.bool true)) y (fun _ AB=>Jh R s0 s1 (aD IY Rb) n14 Lc 0 AB))):Spec prog 182 #[.string s0,.string s1] σ R:=M.start h ok
def HJ (h:Br (x6<(s0.size:Int)) (AG (x6+1)∧AG (x6+1)∧Pq p5 fun LY RL=>In (x6+1) (n5:Int)∧LB σ LY (RL+Int.toNat (x6+1)*1) fun t30=>Bo t30 (In (x6+1) (n5:Int)∧AK prog (Instr.storeAt 4 (.pointer (aD LY (RL+Int.toNat (x6+1)*1))) (.bool true)) σ (fun _ y=>AG (x6+1)∧Jh R s0 s1 (aD LY RL) n5 c5 (x6+1) y)) (In x6 (n5:Int)∧LB σ LY (RL+x6.toNat*1) fun t35=>Bo t35 (∃u39:UInt8,0≤x6∧(ByteArray.data s0)[x6.toNat]?=some u39∧In (x6+1) (n5:Int)∧AK prog (Instr.storeAt 4 (.pointer (aD LY (RL+Int.toNat (x6+1)*1))) (.bool (decide (((u39.toNat:Int):Int)=42)))) σ (fun _ y=>AG (x6+1)∧Jh R s0 s1 (aD LY RL) n5 c5 (x6+1) y)) (In (x6+1) (n5:Int)∧AK prog (Instr.storeAt 4 (.pointer (aD LY (RL+Int.toNat (x6+1)*1))) (.bool false)) σ (fun _ y=>AG (x6+1)∧Jh R s0 s1 (aD LY RL) n5 c5 (x6+1) y)))) (NK R s0 s1 p5 n5 c5 0 σ)):Jh R s0 s1 p5 n5 c5 x6 σ:=M.of h ok rfl
def Mh (h:Br (x7<(s1.size:Int)) (AG ((s0.size:Int)+1)∧AK prog (Instr.makeSlice 251 (.I ((s0.size:Int)+1)) (.I ((s0.size:Int)+1))) σ (CS fun p53 n53 c53 y=>XC R s0 s1 p5 n5 c5 x7 p53 n53 c53 0 y)) (Pq p5 fun AXY AXZ=>In ((s0.size:Int)) (n5:Int)∧LB σ AXY (AXZ+Int.toNat (s0.size:Int)*1) fun t128=>R (.B t128) σ)):NK R s0 s1 p5 n5 c5 x7 σ:=M.of h ok rfl
def Vq (h:Br (x9<(s0.size:Int)) (Pq p5 fun o6 o62=>In x9 (n5:Int)∧LB σ o6 (o62+x9.toNat*1) fun t63=>Bo t63 (∃u67:UInt8,0≤x9∧(ByteArray.data s0)[x9.toNat]?=some u67∧Br (((u67.toNat:Int):Int)=42) (Pq p8 fun rX o72=>In x9 (n8:Int)∧AK prog (Instr.storeAt 4 (.pointer (aD rX (o72+x9.toNat*1))) (.bool true)) σ (fun _ y=>ry R s0 s1 (aD o6 o62) n5 c5 x7 (aD rX o72) n8 c8 x9 y)) (ry R s0 s1 (aD o6 o62) n5 c5 x7 p8 n8 c8 x9 σ)) (ry R s0 s1 (aD o6 o62) n5 c5 x7 p8 n8 c8 x9 σ)) (iE R s0 s1 x7 p8 n8 c8 0 σ)):XC R s0 s1 p5 n5 c5 x7 p8 n8 c8 x9 σ:=M.of h ok rfl
def pC (h:Br (x10<(s0.size:Int)) (AG (x10+1)∧AG (x10+1)∧Pq p8 fun iF iG=>In (x10+1) (n8:Int)∧LB σ iF (iG+Int.toNat (x10+1)*1) fun t109=>Bo t109 (In (x10+1) (n8:Int)∧AK prog (Instr.storeAt 4 (.pointer (aD iF (iG+Int.toNat (x10+1)*1))) (.bool true)) σ (fun _ y=>AG (x10+1)∧iE R s0 s1 x7 (aD iF iG) n8 c8 (x10+1) y)) (In x10 (n8:Int)∧LB σ iF (iG+x10.toNat*1) fun t114=>Bo t114 (∃AOP:UInt8,0≤x10∧(ByteArray.data s0)[x10.toNat]?=some AOP∧In (x10+1) (n8:Int)∧AK prog (Instr.storeAt 4 (.pointer (aD iF (iG+Int.toNat (x10+1)*1))) (.bool (decide (((AOP.toNat:Int):Int)=42)))) σ (fun _ y=>AG (x10+1)∧iE R s0 s1 x7 (aD iF iG) n8 c8 (x10+1) y)) (In (x10+1) (n8:Int)∧AK prog (Instr.storeAt 4 (.pointer (aD iF (iG+Int.toNat (x10+1)*1))) (.bool false)) σ (fun _ y=>AG (x10+1)∧iE R s0 s1 x7 (aD iF iG) n8 c8 (x10+1) y)))) (AG (x7+1)∧NK R s0 s1 p8 n8 c8 (x7+1) σ)):iE R s0 s1 x7 p8 n8 c8 x10 σ:=M.of h ok rfl
def ACb (h:Pq p5 fun b75 o75=>In x9 (n5:Int)∧LB σ b75 (o75+x9.toNat*1) fun t76=>Bo t76 (∃u80:UInt8,0≤x9∧(ByteArray.data s0)[x9.toNat]?=some u80∧Br (((u80.toNat:Int):Int)≠42) (∃u86:UInt8,0≤x9∧(ByteArray.data s0)[x9.toNat]?=some u86∧∃u89:UInt8,0≤x7∧(ByteArray.data s1)[x7.toNat]?=some u89∧Br (((u86.toNat:Int):Int)=(u89.toNat:Int)) (AG (x9+1)∧Pq p8 fun b95 o95=>In (x9+1) (n8:Int)∧AK prog (Instr.storeAt 4 (.pointer (aD b95 (o95+Int.toNat (x9+1)*1))) (.bool true)) σ (fun _ y=>VD R s0 s1 (aD b75 o75) n5 c5 x7 (aD b95 o95) n8 c8 x9 y)) (VD R s0 s1 (aD b75 o75) n5 c5 x7 p8 n8 c8 x9 σ)) (VD R s0 s1 (aD b75 o75) n5 c5 x7 p8 n8 c8 x9 σ)) (VD R s0 s1 (aD b75 o75) n5 c5 x7 p8 n8 c8 x9 σ)):ry R s0 s1 p5 n5 c5 x7 p8 n8 c8 x9 σ:=M.of h ok rfl
def Vs (h:AG (x9+1)∧XC R s0 s1 p5 n5 c5 x7 p8 n8 c8 (x9+1) σ):VD R s0 s1 p5 n5 c5 x7 p8 n8 c8 x9 σ:=M.of h ok rfl
end A5
namespace BR
variable {p0:Option Addr}{n0 c0:Nat}{x1 x8 x9 x10:Int}{v2:Value}
def M:Fw:=⟨prog,191,f191,[],[],false,[],[],[(480,[(0,wL),(1,wI),(2,wV),(8,wI),(9,wI),(10,wI)])]⟩
def ok:M.Ok:=⟨AH.nil,mixed,func191,by kernel_rfl⟩
def Ab:=M.pt 0
def start (h:Ab R p0 n0 c0 x1 v2 (n0:Int) 0 (n0:Int) σ):Spec prog 191 #[.slice p0 n0 c0,.I x1,v2] σ R:=M.HF h ok [(0,.o (.L p0 n0 c0)),(1,.o (.I .i64 x1)),(2,.o (.V v2))] rfl rfl (by kernel_rfl)
def AO (h:Br (x9<x10) (AG (x9+x10)∧Df (IntKind.u64.wrap (x9+x10)) fun UZ=>((0:Int)≤1∧1≤((IntKind.bits .u64:Nat):Int))∧Df (UZ/2^Int.toNat 1) fun MH=>Df (IntKind.i64.wrap MH) fun GC=>Pq p0 fun ZE ot=>In GC (n0:Int)∧∃gp W9,Ae σ ZE (ot+GC.toNat*2) [.I gp,.U W9]∧∃(f30:Nat) (AFM AFN:Array Value),v2=.func (.func f30) AFM AFN∧Enters prog f30∧Spec prog f30 (AFM++#[.agg #[.I gp,.U W9],.I x1]++AFN) σ (BB R (CI .i64 fun LZ y=>Br (LZ<0) (AG (GC+1)∧Ab R (aD ZE ot) n0 c0 x1 v2 x8 (GC+1) x10 y) (Ab R (aD ZE ot) n0 c0 x1 v2 x8 x9 GC y)))) (Br (x9<x8) (Pq p0 fun Zb o43=>In x9 (n0:Int)∧∃gF gG,Ae σ Zb (o43+x9.toNat*2) [.I gF,.U gG]∧∃(f46:Nat) (AFO AFP:Array Value),v2=.func (.func f46) AFO AFP∧Enters prog f46∧Spec prog f46 (AFO++#[.agg #[.I gF,.U gG],.I x1]++AFP) σ (BB R (CI .i64 fun cL y=>R (.T #[.I x9,(.bool (decide (cL=0)))]) y))) (R (.T #[.I x9,.bool false]) σ))):Ab R p0 n0 c0 x1 v2 x8 x9 x10 σ:=M.of h ok rfl
end BR
namespace Uc
def M:Fw:=⟨prog,194,f194,[],[],false,[],[],[]⟩
def ok:M.Ok:=⟨AH.nil,mixed,func194,by kernel_rfl⟩
def start (h:Al σ fun b1=>R (.returned (.slice (aD b1 0) 5 5)) (Hp.set σ b1 (.cells #[.nilFunc,(.func (.func 231) #[] #[]),(.func (.func 232) #[] #[]),(.func (.func 233) #[] #[]),(.func (.func 234) #[] #[])] 232 (0,0)))):Spec prog 194 #[] σ R:=M.start h ok
end Uc
namespace iH
variable {v0:Value}
def M:Fw:=⟨prog,197,f197,[],[],false,[],[],[]⟩
def ok:M.Ok:=⟨AH.nil,mixed,func197,by kernel_rfl⟩
def start (h:EN prog 53 #[v0] σ (CI .u64 fun x4 y=>Df (Go.bits .andNot .u64 x4 9223372036854775808) fun x5=>EN prog 183 #[.U x5] y (fun z AB=>∃x6,(Value.float .f64 x6)=z∧R (.returned (Value.float .f64 x6)) AB))):Spec prog 197 #[v0] σ R:=M.HF h ok [(0,.o (.V v0))] rfl rfl (by kernel_rfl)
end iH
namespace Gm
variable {p0:Option Addr}{n0 c0:Nat}{x3 x4:Int}
def M:Fw:=⟨prog,207,f207,[205,216,219],[],false,[],[],[(464,[(0,wL),(3,wU),(4,wI)]),(467,[(0,wL),(3,wU),(4,wI)])]⟩
def ok:M.Ok:=⟨.cons call205 (.cons call216 (.cons call219 (AH.nil))),mixed,func207,by kernel_rfl⟩
def Ab:=M.pt 0
def TX:=M.pt 1
def start (h:AG ((n0:Int)-1)∧Pq p0 fun CH gL=>In (((n0:Int)-1)) (n0:Int)∧LI .u64 σ CH (gL+Int.toNat ((n0:Int)-1)*1) fun x12=>In 0 (n0:Int)∧LI .u64 σ CH gL fun x15=>AF 205 #[.U x12,.U x15] σ R (CI .u64 fun x16 y=>Ab R (aD CH gL) n0 c0 x16 1 y)):Spec prog 207 #[.slice p0 n0 c0] σ R:=M.start h ok
def AO (h:Br (x4<(n0:Int)) (Pq p0 fun ec ru=>In x4 (n0:Int)∧LI .u64 σ ec (ru+x4.toNat*1) fun Kv=>AG (x4-1)∧In (x4-1) (n0:Int)∧LI .u64 σ ec (ru+Int.toNat (x4-1)*1) fun lv=>AF 219 #[.I 7,.U Kv,.U lv] σ R (fun z y=>∃AOS xA,z=(.tuple #[.bool AOS,.bool xA])∧Bo AOS (AG (x4-1)∧In (x4-1) (n0:Int)∧LI .u64 y ec (ru+Int.toNat (x4-1)*1) fun La=>AF 216 #[.U x3,.U La] y R (CI .u64 fun QF AB=>TX R (aD ec ru) n0 c0 QF x4 AB)) (TX R (aD ec ru) n0 c0 x3 x4 y))) (R (.returned (.U x3)) σ)):Ab R p0 n0 c0 x3 x4 σ:=M.of h ok rfl
def Mi (h:AG (x4+1)∧Ab R p0 n0 c0 x3 (x4+1) σ):TX R p0 n0 c0 x3 x4 σ:=M.of h ok rfl
end Gm
namespace iI
variable {x0 x1:Int}
def M:Fw:=⟨prog,209,f209,[218],[],false,[],[],[]⟩
def ok:M.Ok:=⟨.cons call218 (AH.nil),mixed,func209,by kernel_rfl⟩
def start (h:AF 218 #[.I 4,.U x0,.U x1] σ R (fun z y=>∃FY Wm,z=(.tuple #[.U FY,.bool Wm])∧R (.returned (.U FY)) y)):Spec prog 209 #[.U x0,.U x1] σ R:=M.start h ok
end iI
namespace HQ
variable {p0:Option Addr}{n0 c0:Nat}{s1:ByteArray}
def M:Fw:=⟨prog,214,f214,[240],[],false,[],[],[]⟩
def ok:M.Ok:=⟨.cons call240 (AH.nil),mixed,func214,by kernel_rfl⟩
def start (h:AF 240 #[.slice p0 n0 c0,.string s1] σ R (CI .i64 fun x7 y=>R (.returned (.bool (decide (0≤x7)))) y)):Spec prog 214 #[.slice p0 n0 c0,.string s1] σ R:=M.start h ok
end HQ
namespace pD
variable {Ac Ax Bb Be BI BO:Int}{BS:ByteArray}{CJ Bt p1:Option Addr}{CC CK Bh Bu n1 c1:Nat}{Bg:Bool}
def M:Fw:=⟨prog,222,f222,[162,165,166],[2],false,[],[],[]⟩
def ok:M.Ok:=⟨.cons call162 (.cons call165 (.cons call166 (AH.nil))),mixed,func222,by kernel_rfl⟩
def start (h:∀b2:Nat,Br (BI=3) (AF 165 #[.slice p1 n1 c1,.slice Bt Bh Bu] σ R (CS fun M7 n11 PM y=>R (.returned (.slice M7 n11 PM)) y)) (AF 166 #[.slice p1 n1 c1,.slice Bt Bh Bu] σ R (CS fun kA n15 cz y=>AF 162 #[.slice kA n15 cz] y R (CS fun gV n16 aZ AB=>R (.returned (.slice gV n16 aZ)) AB)))):Spec prog 222 #[.agg #[.I Ac,.I Ax,.string BS,.slice CJ CC CK,.I Bb,.I Be,.I BI,.slice Bt Bh Bu,.bool Bg,.I BO],.slice p1 n1 c1] σ R:=M.start h ok
end pD
namespace Ct
variable {p0:Option Addr}{n0 c0:Nat}{s1:ByteArray}{x7 x8:Int}
def M:Fw:=⟨prog,240,f240,[],[],false,[],[],[(104,[(0,wL),(1,wT),(7,wI),(8,wI)])]⟩
def ok:M.Ok:=⟨AH.nil,mixed,func240,by kernel_rfl⟩
def Q2:=M.pt 0
def start (h:Q2 R p0 n0 c0 s1 (n0:Int) 0 σ):Spec prog 240 #[.slice p0 n0 c0,.string s1] σ R:=M.start h ok
def FO (h:Br (x8<x7) (Pq p0 fun DO U7=>In x8 (n0:Int)∧LT σ DO (U7+x8.toNat*1) fun s15=>Bo (ByteArray.toList s1==ByteArray.toList s15) (R (.returned (.I x8)) σ) (AG (x8+1)∧Q2 R (aD DO U7) n0 c0 s1 x7 (x8+1) σ)) (R (.returned (.I (-1))) σ)):Q2 R p0 n0 c0 s1 x7 x8 σ:=M.of h ok rfl
end Ct
namespace iJ
variable {x0:Int}
def M:Fw:=⟨prog,241,f241,[201],[],false,[],[],[]⟩
def ok:M.Ok:=⟨.cons call201 (AH.nil),mixed,func241,by kernel_rfl⟩
def start (h:AF 201 #[.U x0] σ R (CI .u64 fun x4 y=>R (.returned (.bool (decide (x4=9221120237041090560)))) y)):Spec prog 241 #[.U x0] σ R:=M.start h ok
end iJ
namespace EF
variable {t0:Bool}
def M:Fw:=⟨prog,285,f285,[],[],false,[],[],[]⟩
def ok:M.Ok:=⟨AH.nil,mixed,func285,by kernel_rfl⟩
def start (h:Bo t0 (R (.returned (.U 1)) σ) (R (.returned (.U 0)) σ)):Spec prog 285 #[.bool t0] σ R:=M.start h ok
end EF
namespace KS
variable {s0 s1:ByteArray}
def M:Fw:=⟨prog,291,f291,[314],[],false,[],[],[]⟩
def ok:M.Ok:=⟨.cons call314 (AH.nil),mixed,func291,by kernel_rfl⟩
def start (h:AF 314 #[.string s0,.string s1] σ R (CB fun t7 y=>R (.B t7) y)):Spec prog 291 #[.string s0,.string s1] σ R:=M.start h ok
end KS
end TwW
end
end
section
set_option maxRecDepth 100000
noncomputable section
namespace TwW
open Go Tw Go.Proofs.Tryz
variable [G9]{R:Rr}{σ:Hp}

namespace C6
variable {p0 Pw Px:Option Addr}{n0 c0 Py Pz P0 P1:Nat}{x7 x8 x9 FY MU P2 Mk P3 Li x11:Int}{Od:ByteArray}{P4:Bool}
def M:Fw:=⟨prog,10,f10,[29],[10],false,[],[],[(976,[(0,wL),(7,wI),(8,wI),(9,wI)]),(979,[(0,wL),(7,wI),(8,wI),(9,wI)]),(62622,[(0,wL),(7,wI),(8,wI),(9,wI),(10,.X 44 [.I .i64,.I .i64,.T,.L,.I .i64,.I .i64,.I .i64,.L,.B,.I .i64]),(11,wI)])]⟩
def ok:M.Ok:=⟨.cons call29 (AH.nil),mixed,func10,by kernel_rfl⟩
def Ns:=M.pt 0
def rz:=M.pt 1
def Tc:=M.pt 2
def start (h:AF 29 #[.slice p0 n0 c0] σ R (fun z y=>∃J9 gQ AOT,z=(.tuple #[.I J9,.I gQ,.I AOT])∧Br (AOT≠0) (R (.T #[.I 0,.I 0]) y) (Ns R p0 n0 c0 0 (-1) 0 y))):Spec prog 10 #[.slice p0 n0 c0] σ R:=M.start h ok
def KM (h:Br (x9<(n0:Int)) (Pq p0 fun Rh cR=>In x9 (n0:Int)∧∃dB xU xV xW xX xY dC Te xZ xd xe xf xg xh,Ae σ Rh (cR+x9.toNat*10) [.I dB,.I xU,.string xV,.slice xW xX xY,.I dC,.I Te,.I xZ,.slice xd xe xf,.bool xg,.I xh]∧∀FB:Nat,Br (dB≠2) (Br (dB≠3) (rz R (aD Rh cR) n0 c0 x7 x8 x9 σ) (AG (Te+dC)∧Br (dB=2) (AG (Te+300)∧Tc R (aD Rh cR) n0 c0 x7 x8 x9 dB xU xV xW xX xY dC Te xZ xd xe xf xg xh (Te+300) σ) (Tc R (aD Rh cR) n0 c0 x7 x8 x9 dB xU xV xW xX xY dC Te xZ xd xe xf xg xh (Te+dC) σ))) (AG (Te+dC)∧Br (dB=2) (AG (Te+300)∧Tc R (aD Rh cR) n0 c0 x7 x8 x9 dB xU xV xW xX xY dC Te xZ xd xe xf xg xh (Te+300) σ) (Tc R (aD Rh cR) n0 c0 x7 x8 x9 dB xU xV xW xX xY dC Te xZ xd xe xf xg xh (Te+dC) σ))) (R (.T #[.I x7,(.I (if x8<0 then 0 else x8))]) σ)):Ns R p0 n0 c0 x7 x8 x9 σ:=M.of h ok rfl
def ACc (h:AG (x9+1)∧Ns R p0 n0 c0 x7 x8 (x9+1) σ):rz R p0 n0 c0 x7 x8 x9 σ:=M.of h ok rfl
def Vr (h:Br (x8<0) (rz R p0 n0 c0 (if x7<x11 then x11 else x7) Mk x9 σ) (Br (Mk<x8) (rz R p0 n0 c0 (if x7<x11 then x11 else x7) Mk x9 σ) (rz R p0 n0 c0 (if x7<x11 then x11 else x7) x8 x9 σ))):Tc R p0 n0 c0 x7 x8 x9 FY MU Od Pw Py Pz P2 Mk P3 Px P0 P1 P4 Li x11 σ:=M.fy h ok rfl fun _=>by kernel_rfl
end C6
namespace Ce
variable {p0 p1:Option Addr}{n0 c0 n1 c1:Nat}{x5:Int}
def M:Fw:=⟨prog,11,f11,[30,31],[7],false,[(6,11,false)],[],[(464,[(0,wL),(1,wL),(5,wI)])]⟩
def ok:M.Ok:=⟨.cons call30 (.cons call31 (AH.nil)),mixed,func11,by kernel_rfl⟩
def Aw:=M.pt 0
def start (h:Br ((n0:Int)≠(n1:Int)) (R (.B false) σ) (Aw R p0 n0 c0 p1 n1 c1 0 σ)):Spec prog 11 #[.slice p0 n0 c0,.slice p1 n1 c1] σ R:=M.start h ok
def Ay (h:Br (x5<(n0:Int)) (Pq p0 fun b21 o21=>In x5 (n0:Int)∧∃AI1 AI2 AI3 AI4 AI5 AI6 AI7 AI8 AI9 AJA AJB AJC AJD AJE,Ae σ b21 (o21+x5.toNat*10) [.I AI1,.I AI2,.string AI3,.slice AI4 AI5 AI6,.I AI7,.I AI8,.I AI9,.slice AJA AJB AJC,.bool AJD,.I AJE]∧Pq p1 fun H0 PT=>In x5 (n1:Int)∧∃Td cY cZ cd cg ck Ob Oc cm cp cq ct YD YE,Ae σ H0 (PT+x5.toNat*10) [.I Td,.I cY,.string cZ,.slice cd cg ck,.I Ob,.I Oc,.I cm,.slice cp cq ct,.bool YD,.I YE]∧(Al σ fun b6=>∀b7:Nat,AK prog (Instr.storeAt 44 (.pointer (aD b6 0)) (.agg #[.I AI1,.I AI2,.string AI3,.slice AI4 AI5 AI6,.I AI7,.I AI8,.I AI9,.slice AJA AJB AJC,.bool AJD,.I AJE])) (Hp.set σ b6 (.cells #[.I 0,.I 0,(.string (ByteArray.mk #[])),.N,.I 0,.I 0,.I 0,.N,.bool false,.I 0] 44 (0,0))) (fun _ y=>Kp [H0] (Hp.set σ b6 (.cells #[.I 0,.I 0,(.string (ByteArray.mk #[])),.N,.I 0,.I 0,.I 0,.N,.bool false,.I 0] 44 (0,0))) y∧LI .i64 y b6 0 fun QN=>Br (QN≠Td) (R (.B false) y) (LI .i64 y b6 1 fun TR=>Br (TR≠cY) (R (.B false) y) (LT y b6 2 fun s41=>Bn (ByteArray.toList s41==ByteArray.toList cZ) (R (.B false) y) (LS y b6 3 fun p48 n48 c48=>AF 30 #[.slice p48 n48 c48,.slice cd cg ck] y R (CB fun t51 AB=>Bn t51 (R (.B false) AB) (LI .i64 AB b6 4 fun oZ=>Br (oZ≠Ob) (R (.B false) AB) (LI .i64 AB b6 5 fun JR=>Br (JR≠Oc) (R (.B false) AB) (LI .i64 AB b6 6 fun va=>Br (va≠cm) (R (.B false) AB) (LS AB b6 7 fun vk vm vo=>AF 31 #[.slice vk vm vo,.slice cp cq ct] AB R (CB fun t80 AI=>Bn t80 (R (.B false) AI) (LB AI b6 8 fun t85=>Bo t85 (Bo YD (LI .i64 AI b6 9 fun lX=>Br (lX≠YE) (R (.B false) AI) (AG (x5+1)∧Aw R (aD b21 o21) n0 c0 (aD H0 PT) n1 c1 (x5+1) AI)) (R (.B false) AI)) (Bo YD (R (.B false) AI) (LI .i64 AI b6 9 fun lX=>Br (lX≠YE) (R (.B false) AI) (AG (x5+1)∧Aw R (aD b21 o21) n0 c0 (aD H0 PT) n1 c1 (x5+1) AI)))))))))))))))∧(∀b7:Nat,Al σ fun b6=>AK prog (Instr.storeAt 44 (.pointer (aD b6 0)) (.agg #[.I AI1,.I AI2,.string AI3,.slice AI4 AI5 AI6,.I AI7,.I AI8,.I AI9,.slice AJA AJB AJC,.bool AJD,.I AJE])) (Hp.set σ b6 (.cells #[.I 0,.I 0,(.string (ByteArray.mk #[])),.N,.I 0,.I 0,.I 0,.N,.bool false,.I 0] 44 (0,0))) (fun _ y=>Kp [H0] (Hp.set σ b6 (.cells #[.I 0,.I 0,(.string (ByteArray.mk #[])),.N,.I 0,.I 0,.I 0,.N,.bool false,.I 0] 44 (0,0))) y∧LI .i64 y b6 0 fun QN=>Br (QN≠Td) (R (.B false) y) (LI .i64 y b6 1 fun TR=>Br (TR≠cY) (R (.B false) y) (LT y b6 2 fun s41=>Bn (ByteArray.toList s41==ByteArray.toList cZ) (R (.B false) y) (LS y b6 3 fun p48 n48 c48=>AF 30 #[.slice p48 n48 c48,.slice cd cg ck] y R (CB fun t51 AB=>Bn t51 (R (.B false) AB) (LI .i64 AB b6 4 fun oZ=>Br (oZ≠Ob) (R (.B false) AB) (LI .i64 AB b6 5 fun JR=>Br (JR≠Oc) (R (.B false) AB) (LI .i64 AB b6 6 fun va=>Br (va≠cm) (R (.B false) AB) (LS AB b6 7 fun vk vm vo=>AF 31 #[.slice vk vm vo,.slice cp cq ct] AB R (CB fun t80 AI=>Bn t80 (R (.B false) AI) (LB AI b6 8 fun t85=>Bo t85 (Bo YD (LI .i64 AI b6 9 fun lX=>Br (lX≠YE) (R (.B false) AI) (AG (x5+1)∧Aw R (aD b21 o21) n0 c0 (aD H0 PT) n1 c1 (x5+1) AI)) (R (.B false) AI)) (Bo YD (R (.B false) AI) (LI .i64 AI b6 9 fun lX=>Br (lX≠YE) (R (.B false) AI) (AG (x5+1)∧Aw R (aD b21 o21) n0 c0 (aD H0 PT) n1 c1 (x5+1) AI)))))))))))))))) (R (.B true) σ)):Aw R p0 n0 c0 p1 n1 c1 x5 σ:=M.of h ok rfl
end Ce
namespace Ud
def M:Fw:=⟨prog,14,f14,[8,9,16,33,36],[],false,[],[],[]⟩
def ok:M.Ok:=⟨.cons call8 (.cons call9 (.cons call16 (.cons call33 (.cons call36 (AH.nil))))),mixed,func14,by kernel_rfl⟩
def start (h:Al σ fun CH=>AF 36 #[.float .f64 4607182418800017408] (Hp.set σ CH (.cells #[(.string (ByteArray.mk #[95,95,110,97,109,101,95,95])),(.string (ByteArray.mk #[120])),(.string (ByteArray.mk #[97])),(.string (ByteArray.mk #[49]))] 71 (0,0))) R (CI .u64 fun x12 y=>AF 36 #[.float .f64 4613937818241073152] y R (CI .u64 fun NA AB=>Al AB fun IY=>Al (Hp.set AB IY (.cells #[.I 0,.U x12,.I 60,.U NA] 61 (0,0))) fun gb=>AF 36 #[.float .f64 4617315517961601024] (Hp.set (Hp.set AB IY (.cells #[.I 0,.U x12,.I 60,.U NA] 61 (0,0))) gb (.cells #[(.string (ByteArray.mk #[95,95,110,97,109,101,95,95])),(.string (ByteArray.mk #[120])),(.string (ByteArray.mk #[97])),(.string (ByteArray.mk #[50]))] 71 (0,0))) R (CI .u64 fun UZ AI=>Al AI fun JH=>Al (Hp.set AI JH (.cells #[.I 60,.U UZ] 61 (0,0))) fun H0=>Al (Hp.set (Hp.set AI JH (.cells #[.I 60,.U UZ] 61 (0,0))) H0 (.cells #[(.slice (aD CH 0) 2 2),(.slice (aD IY 0) 2 2),(.slice (aD gb 0) 2 2),(.slice (aD JH 0) 1 1)] 51 (0,0))) fun ZE=>Al (Hp.set (Hp.set (Hp.set AI JH (.cells #[.I 60,.U UZ] 61 (0,0))) H0 (.cells #[(.slice (aD CH 0) 2 2),(.slice (aD IY 0) 2 2),(.slice (aD gb 0) 2 2),(.slice (aD JH 0) 1 1)] 51 (0,0))) ZE (.cells #[.I 1,(.string (ByteArray.mk #[95,95,110,97,109,101,95,95])),(.string (ByteArray.mk #[120]))] 75 (0,0))) fun eh=>AF 8 #[(.slice (aD eh 0) 2 2),(.slice (aD H0 0) 2 2),.I 60] (Hp.set (Hp.set (Hp.set (Hp.set AI JH (.cells #[.I 60,.U UZ] 61 (0,0))) H0 (.cells #[(.slice (aD CH 0) 2 2),(.slice (aD IY 0) 2 2),(.slice (aD gb 0) 2 2),(.slice (aD JH 0) 1 1)] 51 (0,0))) ZE (.cells #[.I 1,(.string (ByteArray.mk #[95,95,110,97,109,101,95,95])),(.string (ByteArray.mk #[120]))] 75 (0,0))) eh (.cells #[.I 2,.I 0,(.string (ByteArray.mk #[])),(.slice (aD ZE 0) 1 1),.I 0,.I 0,.I 0,.N,.bool false,.I 0,.I 5,.I 1,(.string (ByteArray.mk #[])),.N,.I 0,.I 0,.I 0,.N,.bool false,.I 1] 44 (0,0))) R (fun z AU=>∃rD lK vM gE,z=(.tuple #[.slice rD lK vM,.I gE])∧AF 16 #[(.slice (aD eh 0) 2 2),(.slice (aD H0 0) 2 2),.I 0,.I 60,.I 60] AU R (fun z DI=>∃iK dD mB mC,z=(.tuple #[.slice iK dD mB,.I mC])∧AF 9 #[(.slice (aD eh 0) 2 2)] DI R (fun z Gi=>∃AOV AOW,z=(.tuple #[.I AOV,.I AOW])∧Br (gE=0) (Br ((lK:Int)=1) (Pq rD fun QV o57=>In 0 (lK:Int)∧LS Gi QV (o57+1) fun p59 n59 c59=>AF 36 #[.float .f64 4620693217682128896] Gi R (CI .u64 fun lU Pn=>Kp [QV] Gi Pn∧Al Pn fun o6=>AF 33 #[.slice p59 n59 c59,(.slice (aD o6 0) 1 1)] (Hp.set Pn o6 (.cells #[.I 60,.U lU] 61 (0,0))) R (CB fun t63 Qv=>Bo t63 (Br (mC=0) (Br ((dD:Int)=1) (Pq iK fun b76 o76=>In 0 (dD:Int)∧LS Qv b76 (o76+1) fun tq rj tr=>Br ((rj:Int)=2) (Br (AOV=300) (R (.returned (.bool (decide (AOW=0)))) Qv) (R (.B false) Qv)) (R (.B false) Qv)) (R (.B false) Qv)) (R (.B false) Qv)) (R (.B false) Qv)))) (R (.B false) Gi)) (R (.B false) Gi)))))))):Spec prog 14 #[] σ R:=M.start h ok
end Ud
namespace ND
variable {p0:Option Addr}{n0 c0:Nat}
def M:Fw:=⟨prog,23,f23,[],[],false,[],[],[]⟩
def ok:M.Ok:=⟨AH.nil,mixed,func23,by kernel_rfl⟩
def start (h:Al σ fun b3=>AK prog (Builtin.append_ #[47,47] 47 #[(.slice (aD b3 0) 0 0),.slice p0 n0 c0]) (Hp.set σ b3 (.cells #[] 71 (0,0))) (CS fun p5 n5 c5 y=>R (.returned (.slice p5 n5 c5)) y)):Spec prog 23 #[.slice p0 n0 c0] σ R:=M.start h ok
end ND
namespace NF
variable {p0:Option Addr}{n0 c0:Nat}
def M:Fw:=⟨prog,24,f24,[],[],false,[],[],[]⟩
def ok:M.Ok:=⟨AH.nil,mixed,func24,by kernel_rfl⟩
def start (h:Al σ fun b3=>AK prog (Builtin.append_ #[49,49] 49 #[(.slice (aD b3 0) 0 0),.slice p0 n0 c0]) (Hp.set σ b3 (.cells #[] 61 (0,0))) (CS fun p5 n5 c5 y=>R (.returned (.slice p5 n5 c5)) y)):Spec prog 24 #[.slice p0 n0 c0] σ R:=M.start h ok
end NF
namespace ai
variable {x0:Int}
def M:Fw:=⟨prog,26,f26,[],[],false,[],[],[]⟩
def ok:M.Ok:=⟨AH.nil,mixed,func26,by kernel_rfl⟩
def start (h:Br (((-1099511627776):Int)≤x0) (R (.returned (.bool (decide (x0≤1099511627776)))) σ) (R (.B false) σ)):Spec prog 26 #[.I x0] σ R:=M.start h ok
end ai
namespace Ii
variable {p0 p5:Option Addr}{n0 c0 n5 c5:Nat}{x6:Int}
def M:Fw:=⟨prog,29,f29,[49,50,51,52],[],false,[],[],[(464,[(0,wL),(5,wL),(6,wI)])]⟩
def ok:M.Ok:=⟨.cons call49 (.cons call50 (.cons call51 (.cons call52 (AH.nil)))),mixed,func29,by kernel_rfl⟩
def Ab:=M.pt 0
def start (h:Ab R p0 n0 c0 none 0 0 0 σ):Spec prog 29 #[.slice p0 n0 c0] σ R:=M.start h ok
def AO (h:Br (x6<(n0:Int)) (Pq p0 fun KL MV=>In x6 (n0:Int)∧LI .i64 σ KL (MV+x6.toNat*10) fun II=>AF 49 #[.I II] σ R (CI .i64 fun UZ y=>Br (UZ<0) (R (.T #[.I 0,.I x6,.I 190]) y) (Br ((n5:Int)<UZ) (R (.T #[.I 0,.I x6,.I 190]) y) (In x6 (n0:Int)∧∃AOX gE AOY AOZ AOa AOb AOc AOd AOe AOf AOg AOh AOi AOj,Ae y KL (MV+x6.toNat*10) [.I AOX,.I gE,.string AOY,.slice AOZ AOa AOb,.I AOc,.I AOd,.I AOe,.slice AOf AOg AOh,.bool AOi,.I AOj]∧AF 50 #[.agg #[.I AOX,.I gE,.string AOY,.slice AOZ AOa AOb,.I AOc,.I AOd,.I AOe,.slice AOf AOg AOh,.bool AOi,.I AOj]] y R (CB fun t35 AB=>Bn t35 (R (.T #[.I 0,.I x6,.I 190]) AB) (In x6 (n0:Int)∧LS AB KL ((MV+x6.toNat*10)+3) fun ZZ n43 Za=>AF 51 #[.slice ZZ n43 Za] AB R (CI .i64 fun Vk AI=>Br (Vk≠0) (R (.T #[.I 0,.I x6,.I 193]) AI) (In x6 (n0:Int)∧∃ACd r4 AOk AOl AOm AOn AOo AOp AOq AOr AOs AOt AOu AOv,Ae AI KL (MV+x6.toNat*10) [.I ACd,.I r4,.string AOk,.slice AOl AOm AOn,.I AOo,.I AOp,.I AOq,.slice AOr AOs AOt,.bool AOu,.I AOv]∧AG ((n5:Int)-UZ)∧((0:Int)≤((n5:Int)-UZ)∧((n5:Int)-UZ)≤(n5:Int))∧AF 52 #[.agg #[.I ACd,.I r4,.string AOk,.slice AOl AOm AOn,.I AOo,.I AOp,.I AOq,.slice AOr AOs AOt,.bool AOu,.I AOv],(.slice (MK p5 (Int.toNat ((n5:Int)-UZ)) c5 1) (n5-Int.toNat ((n5:Int)-UZ)) (c5-Int.toNat ((n5:Int)-UZ)))] AI R (fun z AU=>∃xi r5,z=(.tuple #[.I xi,.I r5])∧Br (r5≠0) (R (.T #[.I 0,.I x6,.I r5]) AU) (AG ((n5:Int)-UZ)∧((0:Int)≤((n5:Int)-UZ)∧((n5:Int)-UZ)≤(c5:Int))∧Al AU fun rX=>AK prog (Builtin.append_ #[110,110] 110 #[(.slice p5 (Int.toNat ((n5:Int)-UZ)) c5),(.slice (aD rX 0) 1 1)]) (Hp.set AU rX (.cells #[.I xi] 3 (0,0))) (CS fun p73 n73 c73 DI=>AG (x6+1)∧Ab R (aD KL MV) n0 c0 p73 n73 c73 (x6+1) DI))))))))))) (Br ((n5:Int)≠1) (R (.T #[.I 0,(.I (n0:Int)),.I 190]) σ) (Br (4096<(n0:Int)) (R (.T #[.I 0,(.I (n0:Int)),.I 190]) σ) (Pq p5 fun b85 o85=>In 0 (n5:Int)∧LI .i64 σ b85 o85 fun x86=>R (.T #[.I x86,.I 0,.I 0]) σ)))):Ab R p0 n0 c0 p5 n5 c5 x6 σ:=M.of h ok rfl
end Ii
namespace H5
variable {p0:Option Addr}{n0 c0:Nat}{x3:Int}
def M:Fw:=⟨prog,43,f43,[63,64],[],false,[(10,17,true)],[],[(464,[(0,wL),(3,wI)])]⟩
def ok:M.Ok:=⟨.cons call63 (.cons call64 (AH.nil)),mixed,func43,by kernel_rfl⟩
def Aw:=M.pt 0
def start (h:Br (16<(n0:Int)) (R (.returned (.I 30)) σ) (Aw R p0 n0 c0 0 σ)):Spec prog 43 #[.slice p0 n0 c0] σ R:=M.start h ok
def Ay (h:Br (x3<(n0:Int)) (Pq p0 fun IY Rb=>In x3 (n0:Int)∧LT σ IY (Rb+x3.toNat*2) fun s18=>AF 63 #[.string s18] σ R (CB fun t19 y=>Bn t19 (R (.returned (.I 31)) y) (In x3 (n0:Int)∧LT y IY ((Rb+x3.toNat*2)+1) fun s26=>AF 64 #[.string s26] y R (CB fun t27 AB=>Bn t27 (R (.returned (.I 32)) AB) (Br (0<x3) (In x3 (n0:Int)∧LT AB IY (Rb+x3.toNat*2) fun s37=>AG (x3-1)∧In (x3-1) (n0:Int)∧LT AB IY (Rb+Int.toNat (x3-1)*2) fun s43=>∃t44,YF prog ((do eqGuard .leq 9 (.tmp 37) (.tmp 43) (.string s37) (.string s43);binOp .leq 9 (.string s37) (.string s43))) AB (.bool t44)∧Bo t44 (R (.returned (.I 33)) AB) (AG (x3+1)∧Aw R (aD IY Rb) n0 c0 (x3+1) AB)) (AG (x3+1)∧Aw R (aD IY Rb) n0 c0 (x3+1) AB)))))) (R (.returned (.I 0)) σ)):Aw R p0 n0 c0 x3 σ:=M.of h ok rfl
end H5
namespace H6
variable {Ac Ax Bb Be BI BO Bq BM FD FE Dm EB:Int}{BS FG:ByteArray}{CJ Bt FZ F2:Option Addr}{CC CK Bh Bu Fa Fb Fc F3:Nat}{Bg EC:Bool}
def M:Fw:=⟨prog,50,f50,[49,84,85,86],[1],false,[],[],[(60,[(1,.X 44 [.I .i64,.I .i64,.T,.L,.I .i64,.I .i64,.I .i64,.L,.B,.I .i64])]),(124,[(1,.X 44 [.I .i64,.I .i64,.T,.L,.I .i64,.I .i64,.I .i64,.L,.B,.I .i64])])]⟩
def ok:M.Ok:=⟨.cons call49 (.cons call84 (.cons call85 (.cons call86 (AH.nil)))),mixed,func50,by kernel_rfl⟩
def CX:=M.pt 0
def Iy:=M.pt 1
def start (h:∀b1:Nat,Br (Ac=2) (AF 49 #[.I Ac] σ R (CI .i64 fun x17 y=>Br (BO≠x17) (R (.B false) y) (AF 84 #[.slice Bt Bh Bu] y R (CB fun t22 AB=>Bn t22 (R (.B false) AB) (Br (BI=0) (Br (0<(Bh:Int)) (R (.B false) AB) (Br (Ac≠3) (Br (Bb≠0) (R (.B false) AB) (Br (Ac≠1) (Bn ((ByteArray.toList BS==ByteArray.toList (ByteArray.mk #[]))) (R (.B false) AB) (Br (Ac≠6) (Bo Bg (R (.B false) AB) (CX R Ac Ax BS CJ CC CK Bb Be BI Bt Bh Bu false BO AB)) (CX R Ac Ax BS CJ CC CK Bb Be BI Bt Bh Bu Bg BO AB))) (Br (Ac≠6) (Bo Bg (R (.B false) AB) (CX R Ac Ax BS CJ CC CK Bb Be BI Bt Bh Bu false BO AB)) (CX R Ac Ax BS CJ CC CK Bb Be BI Bt Bh Bu Bg BO AB)))) (Br (Ac≠1) (Bn ((ByteArray.toList BS==ByteArray.toList (ByteArray.mk #[]))) (R (.B false) AB) (Br (Ac≠6) (Bo Bg (R (.B false) AB) (CX R Ac Ax BS CJ CC CK Bb Be BI Bt Bh Bu false BO AB)) (CX R Ac Ax BS CJ CC CK Bb Be BI Bt Bh Bu Bg BO AB))) (Br (Ac≠6) (Bo Bg (R (.B false) AB) (CX R Ac Ax BS CJ CC CK Bb Be BI Bt Bh Bu false BO AB)) (CX R Ac Ax BS CJ CC CK Bb Be BI Bt Bh Bu Bg BO AB))))) (Br (Ac≠3) (Br (Bb≠0) (R (.B false) AB) (Br (Ac≠1) (Bn ((ByteArray.toList BS==ByteArray.toList (ByteArray.mk #[]))) (R (.B false) AB) (Br (Ac≠6) (Bo Bg (R (.B false) AB) (CX R Ac Ax BS CJ CC CK Bb Be BI Bt Bh Bu false BO AB)) (CX R Ac Ax BS CJ CC CK Bb Be BI Bt Bh Bu Bg BO AB))) (Br (Ac≠6) (Bo Bg (R (.B false) AB) (CX R Ac Ax BS CJ CC CK Bb Be BI Bt Bh Bu false BO AB)) (CX R Ac Ax BS CJ CC CK Bb Be BI Bt Bh Bu Bg BO AB)))) (Br (Ac≠1) (Bn ((ByteArray.toList BS==ByteArray.toList (ByteArray.mk #[]))) (R (.B false) AB) (Br (Ac≠6) (Bo Bg (R (.B false) AB) (CX R Ac Ax BS CJ CC CK Bb Be BI Bt Bh Bu false BO AB)) (CX R Ac Ax BS CJ CC CK Bb Be BI Bt Bh Bu Bg BO AB))) (Br (Ac≠6) (Bo Bg (R (.B false) AB) (CX R Ac Ax BS CJ CC CK Bb Be BI Bt Bh Bu false BO AB)) (CX R Ac Ax BS CJ CC CK Bb Be BI Bt Bh Bu Bg BO AB))))))))) (AF 49 #[.I Ac] σ R (CI .i64 fun x17 y=>Br (BO≠x17) (R (.B false) y) (AF 84 #[.slice Bt Bh Bu] y R (CB fun t22 AB=>Bn t22 (R (.B false) AB) (Br (BI=0) (Br (0<(Bh:Int)) (R (.B false) AB) (Bm (Ac=3) (Br (0<(CC:Int)) (R (.B false) AB) (Br (Be≠0) (R (.B false) AB) (Br (Ac≠3) (Br (Bb≠0) (R (.B false) AB) (Br (Ac≠1) (Bn ((ByteArray.toList BS==ByteArray.toList (ByteArray.mk #[]))) (R (.B false) AB) (Br (Ac≠6) (Bo Bg (R (.B false) AB) (CX R Ac Ax BS CJ CC CK Bb Be BI Bt Bh Bu false BO AB)) (CX R Ac Ax BS CJ CC CK Bb Be BI Bt Bh Bu Bg BO AB))) (Br (Ac≠6) (Bo Bg (R (.B false) AB) (CX R Ac Ax BS CJ CC CK Bb Be BI Bt Bh Bu false BO AB)) (CX R Ac Ax BS CJ CC CK Bb Be BI Bt Bh Bu Bg BO AB)))) (Br (Ac≠1) (Bn ((ByteArray.toList BS==ByteArray.toList (ByteArray.mk #[]))) (R (.B false) AB) (Br (Ac≠6) (Bo Bg (R (.B false) AB) (CX R Ac Ax BS CJ CC CK Bb Be BI Bt Bh Bu false BO AB)) (CX R Ac Ax BS CJ CC CK Bb Be BI Bt Bh Bu Bg BO AB))) (Br (Ac≠6) (Bo Bg (R (.B false) AB) (CX R Ac Ax BS CJ CC CK Bb Be BI Bt Bh Bu false BO AB)) (CX R Ac Ax BS CJ CC CK Bb Be BI Bt Bh Bu Bg BO AB)))))) (Br (Ac≠3) (Br (Bb≠0) (R (.B false) AB) (Br (Ac≠1) (Bn ((ByteArray.toList BS==ByteArray.toList (ByteArray.mk #[]))) (R (.B false) AB) (Br (Ac≠6) (Bo Bg (R (.B false) AB) (CX R Ac Ax BS CJ CC CK Bb Be BI Bt Bh Bu false BO AB)) (CX R Ac Ax BS CJ CC CK Bb Be BI Bt Bh Bu Bg BO AB))) (Br (Ac≠6) (Bo Bg (R (.B false) AB) (CX R Ac Ax BS CJ CC CK Bb Be BI Bt Bh Bu false BO AB)) (CX R Ac Ax BS CJ CC CK Bb Be BI Bt Bh Bu Bg BO AB)))) (Br (Ac≠1) (Bn ((ByteArray.toList BS==ByteArray.toList (ByteArray.mk #[]))) (R (.B false) AB) (Br (Ac≠6) (Bo Bg (R (.B false) AB) (CX R Ac Ax BS CJ CC CK Bb Be BI Bt Bh Bu false BO AB)) (CX R Ac Ax BS CJ CC CK Bb Be BI Bt Bh Bu Bg BO AB))) (Br (Ac≠6) (Bo Bg (R (.B false) AB) (CX R Ac Ax BS CJ CC CK Bb Be BI Bt Bh Bu false BO AB)) (CX R Ac Ax BS CJ CC CK Bb Be BI Bt Bh Bu Bg BO AB)))))) (Bm (Ac=3) (Br (0<(CC:Int)) (R (.B false) AB) (Br (Be≠0) (R (.B false) AB) (Br (Ac≠3) (Br (Bb≠0) (R (.B false) AB) (Br (Ac≠1) (Bn ((ByteArray.toList BS==ByteArray.toList (ByteArray.mk #[]))) (R (.B false) AB) (Br (Ac≠6) (Bo Bg (R (.B false) AB) (CX R Ac Ax BS CJ CC CK Bb Be BI Bt Bh Bu false BO AB)) (CX R Ac Ax BS CJ CC CK Bb Be BI Bt Bh Bu Bg BO AB))) (Br (Ac≠6) (Bo Bg (R (.B false) AB) (CX R Ac Ax BS CJ CC CK Bb Be BI Bt Bh Bu false BO AB)) (CX R Ac Ax BS CJ CC CK Bb Be BI Bt Bh Bu Bg BO AB)))) (Br (Ac≠1) (Bn ((ByteArray.toList BS==ByteArray.toList (ByteArray.mk #[]))) (R (.B false) AB) (Br (Ac≠6) (Bo Bg (R (.B false) AB) (CX R Ac Ax BS CJ CC CK Bb Be BI Bt Bh Bu false BO AB)) (CX R Ac Ax BS CJ CC CK Bb Be BI Bt Bh Bu Bg BO AB))) (Br (Ac≠6) (Bo Bg (R (.B false) AB) (CX R Ac Ax BS CJ CC CK Bb Be BI Bt Bh Bu false BO AB)) (CX R Ac Ax BS CJ CC CK Bb Be BI Bt Bh Bu Bg BO AB)))))) (Br (Ac≠3) (Br (Bb≠0) (R (.B false) AB) (Br (Ac≠1) (Bn ((ByteArray.toList BS==ByteArray.toList (ByteArray.mk #[]))) (R (.B false) AB) (Br (Ac≠6) (Bo Bg (R (.B false) AB) (CX R Ac Ax BS CJ CC CK Bb Be BI Bt Bh Bu false BO AB)) (CX R Ac Ax BS CJ CC CK Bb Be BI Bt Bh Bu Bg BO AB))) (Br (Ac≠6) (Bo Bg (R (.B false) AB) (CX R Ac Ax BS CJ CC CK Bb Be BI Bt Bh Bu false BO AB)) (CX R Ac Ax BS CJ CC CK Bb Be BI Bt Bh Bu Bg BO AB)))) (Br (Ac≠1) (Bn ((ByteArray.toList BS==ByteArray.toList (ByteArray.mk #[]))) (R (.B false) AB) (Br (Ac≠6) (Bo Bg (R (.B false) AB) (CX R Ac Ax BS CJ CC CK Bb Be BI Bt Bh Bu false BO AB)) (CX R Ac Ax BS CJ CC CK Bb Be BI Bt Bh Bu Bg BO AB))) (Br (Ac≠6) (Bo Bg (R (.B false) AB) (CX R Ac Ax BS CJ CC CK Bb Be BI Bt Bh Bu false BO AB)) (CX R Ac Ax BS CJ CC CK Bb Be BI Bt Bh Bu Bg BO AB))))))))))):Spec prog 50 #[.agg #[.I Ac,.I Ax,.string BS,.slice CJ CC CK,.I Bb,.I Be,.I BI,.slice Bt Bh Bu,.bool Bg,.I BO]] σ R:=M.start h ok
def Vt (h:Br (Bq≠5) (Br (Bq≠6) (Br (Dm≠0) (R (.B false) σ) (Iy R Bq BM FG FZ Fa Fb FD FE Dm F2 Fc F3 EC EB σ)) (Iy R Bq BM FG FZ Fa Fb FD FE Dm F2 Fc F3 EC EB σ)) (Iy R Bq BM FG FZ Fa Fb FD FE Dm F2 Fc F3 EC EB σ)):CX R Bq BM FG FZ Fa Fb FD FE Dm F2 Fc F3 EC EB σ:=M.fy h ok rfl fun _=>by kernel_rfl
def Gf (h:Br (Bq=1) (Br (BM=0) (AF 85 #[.string FG] σ R (CB fun t103 y=>R (.B t103) y)) (R (.B false) σ)) (Br (Bq=2) (Br (BM=0) (AF 86 #[.I FE,.I 0] σ R (CB fun t113 y=>R (.B t113) y)) (R (.B false) σ)) (Br (Bq=3) (Br (BM=0) (AF 86 #[.I FE,.I 0] σ R (CB fun t123 y=>Bo t123 (AF 86 #[.I FD,.I 1] y R (CB fun t128 AB=>R (.B t128) AB)) (R (.B false) y))) (R (.B false) σ)) (Br (Bq=4) (Br (1≤BM) (R (.returned (.bool (decide (BM≤12)))) σ) (R (.B false) σ)) (Br (Bq=5) (Br (1≤BM) (Br (BM≤5) (Br (0≤Dm) (R (.returned (.bool (decide (Dm≤2)))) σ) (R (.B false) σ)) (R (.B false) σ)) (R (.B false) σ)) (Br (Bq=7) (R (.returned (.bool (decide (BM=0)))) σ) (Br (5≤BM) (Br (1≤BM) (Br (BM≤13) (Br (Dm=0) (Br (BM≤10) (R (.B true) σ) (R (.returned (.bool (!EC))) σ)) (Br (Dm=3) (Br (BM≤10) (R (.B true) σ) (R (.returned (.bool (!EC))) σ)) (Br (Dm=4) (Br (BM≤10) (R (.B true) σ) (R (.returned (.bool (!EC))) σ)) (R (.B false) σ)))) (R (.B false) σ)) (R (.B false) σ)) (Br (1≤BM) (Br (BM≤13) (Br (Dm=0) (R (.returned (.bool (!EC))) σ) (Br (Dm=3) (R (.returned (.bool (!EC))) σ) (Br (Dm=4) (R (.returned (.bool (!EC))) σ) (R (.B false) σ)))) (R (.B false) σ)) (R (.B false) σ))))))))):Iy R Bq BM FG FZ Fa Fb FD FE Dm F2 Fc F3 EC EB σ:=M.fy h ok rfl fun _=>by kernel_rfl
end H6
namespace NG
variable {s0a j5 s1a s1b:ByteArray}
def M:Fw:=⟨prog,60,f60,[61,62],[2,3],false,[],[],[]⟩
def ok:M.Ok:=⟨.cons call61 (.cons call62 (AH.nil)),mixed,func60,by kernel_rfl⟩
def start (h:∀b2:Nat,∀b3:Nat,AF 62 #[.string s0a,.string s1a] σ R (CI .i64 fun x9 y=>AF 62 #[.string j5,.string s1b] y R (CI .i64 fun NA AB=>Al AB fun xD=>AF 61 #[(.slice (aD xD 0) 2 2)] (Hp.set AB xD (.cells #[.I x9,.I NA] 3 (0,0))) R (CI .i64 fun x16 AI=>R (.returned (.I x16)) AI)))):Spec prog 60 #[.agg #[.string s0a,.string j5],.agg #[.string s1a,.string s1b]] σ R:=M.start h ok
end NG
namespace Jn
variable {p0 p6:Option Addr}{n0 c0 n6 c6:Nat}{x3 x7 x8:Int}
def M:Fw:=⟨prog,61,f61,[],[],false,[],[],[(232,[(3,wI),(6,wL),(7,wI),(8,wI)])]⟩
def ok:M.Ok:=⟨AH.nil,mixed,func61,by kernel_rfl⟩
def B4:=M.pt 0
def start (h:B4 R 0 p0 n0 c0 (n0:Int) 0 σ):Spec prog 61 #[.slice p0 n0 c0] σ R:=M.start h ok
def Ap (h:Br (x8<x7) (Pq p6 fun FB o10=>In x8 (n6:Int)∧LI .i64 σ FB (o10+x8.toNat*1) fun x11=>Br (x11≠x3) (R (.returned (.I x11)) σ) (AG (x8+1)∧B4 R x3 (aD FB o10) n6 c6 x7 (x8+1) σ)) (R (.returned (.I x3)) σ)):B4 R x3 p6 n6 c6 x7 x8 σ:=M.of h ok rfl
end Jn
namespace BJ
variable {Ac Ax Bb Be BI BO x2 Bf A4 Cp CZ Cu Cv A8 A9 Cw Kk Kl Km x8 x10:Int}{BS Cy:ByteArray}{CJ Bt p1 Cq Cz BC C0 Kn Ko p9a p9b:Option Addr}{CC CK Bh Bu n1 c1 Cr Cs C1 C2 BD BE C3 C4 Kq Kr Ks Kt n9a c9a n9b c9b:Nat}{Bg DQ:Bool}
def M:Fw:=⟨prog,68,f68,[104],[3,6,7,9,11],false,[],[],[(464,[(1,wL),(2,wI),(3,.X 44 [.I .i64,.I .i64,.T,.L,.I .i64,.I .i64,.I .i64,.L,.B,.I .i64]),(6,.X 90 [.I .i64,.I .u64,.L,.I .i64,.L]),(7,.X 90 [.I .i64,.I .u64,.L,.I .i64,.L]),(8,wI)]),(467,[(1,wL),(2,wI),(3,.X 44 [.I .i64,.I .i64,.T,.L,.I .i64,.I .i64,.I .i64,.L,.B,.I .i64]),(6,.X 90 [.I .i64,.I .u64,.L,.I .i64,.L]),(7,.X 90 [.I .i64,.I .u64,.L,.I .i64,.L]),(8,wI)]),(238800,[(1,wL),(2,wI),(3,.X 44 [.I .i64,.I .i64,.T,.L,.I .i64,.I .i64,.I .i64,.L,.B,.I .i64]),(6,.X 90 [.I .i64,.I .u64,.L,.I .i64,.L]),(7,.X 90 [.I .i64,.I .u64,.L,.I .i64,.L]),(8,wI),(9,.X 165 [.L,.L]),(10,wI)]),(238803,[(1,wL),(2,wI),(3,.X 44 [.I .i64,.I .i64,.T,.L,.I .i64,.I .i64,.I .i64,.L,.B,.I .i64]),(6,.X 90 [.I .i64,.I .u64,.L,.I .i64,.L]),(7,.X 90 [.I .i64,.I .u64,.L,.I .i64,.L]),(8,wI),(9,.X 165 [.L,.L]),(10,wI)])]⟩
def ok:M.Ok:=⟨.cons call104 (AH.nil),mixed,func68,by kernel_rfl⟩
def Ab:=M.pt 0
def Kj:=M.pt 1
def NJ:=M.pt 2
def Gj:=M.pt 3
def start (h:∀b3:Nat,∀b6:Nat,∀b7:Nat,Ab R p1 n1 c1 x2 Ac Ax BS CJ CC CK Bb Be BI Bt Bh Bu Bg BO 0 0 none 0 0 0 none 0 0 3 0 none 0 0 Bb none 0 0 0 σ):Spec prog 68 #[.agg #[.I Ac,.I Ax,.string BS,.slice CJ CC CK,.I Bb,.I Be,.I BI,.slice Bt Bh Bu,.bool Bg,.I BO],.slice p1 n1 c1,.I x2] σ R:=M.start h ok
def AO (h:Br (x8<(n1:Int)) (Pq p1 fun H0 PT=>In x8 (n1:Int)∧LS σ H0 (PT+x8.toNat*2) fun gC n27 aQ=>AF 104 #[.slice Cq Cr Cs,.slice gC n27 aQ] σ R (CB fun t28 y=>Bn t28 (Kj R (aD H0 PT) n1 c1 x2 Bf A4 Cy Cq Cr Cs Cp CZ Cu Cz C1 C2 DQ Cv A8 A9 BC BD BE Cw C0 C3 C4 Kk Kl Kn Kq Kr Km Ko Ks Kt x8 y) (In x8 (n1:Int)∧LS y H0 (PT+x8.toNat*2) fun p34 n34 c34=>∀b9:Nat,NJ R (aD H0 PT) n1 c1 x2 Bf A4 Cy Cq Cr Cs Cp CZ Cu Cz C1 C2 DQ Cv A8 A9 BC BD BE Cw C0 C3 C4 Kk Kl Kn Kq Kr Km Ko Ks Kt x8 p34 n34 c34 none 0 0 0 y))) (R (.returned (.agg #[.I Kk,.U Kl,.slice Kn Kq Kr,.I Km,.slice Ko Ks Kt])) σ)):Ab R p1 n1 c1 x2 Bf A4 Cy Cq Cr Cs Cp CZ Cu Cz C1 C2 DQ Cv A8 A9 BC BD BE Cw C0 C3 C4 Kk Kl Kn Kq Kr Km Ko Ks Kt x8 σ:=M.ZP h ok rfl fun _ _ _=>by kernel_rfl
def IL (h:AG (x8+1)∧Ab R p1 n1 c1 x2 Bf A4 Cy Cq Cr Cs Cp CZ Cu Cz C1 C2 DQ Cv A8 A9 BC BD BE Cw C0 C3 C4 Kk Kl Kn Kq Kr Km Ko Ks Kt (x8+1) σ):Kj R p1 n1 c1 x2 Bf A4 Cy Cq Cr Cs Cp CZ Cu Cz C1 C2 DQ Cv A8 A9 BC BD BE Cw C0 C3 C4 Kk Kl Kn Kq Kr Km Ko Ks Kt x8 σ:=M.ZP h ok rfl fun _ _ _=>by kernel_rfl
def IK (h:Pq p1 fun PY mD=>In x8 (n1:Int)∧LS σ PY ((mD+x8.toNat*2)+1) fun wC n41 lz=>Br (x10<(n41:Int)) (In x8 (n1:Int)∧LS σ PY ((mD+x8.toNat*2)+1) fun gk n50 j9=>Pq gk fun j8 o52=>In x10 (n50:Int)∧∃AJH dE,Ae σ j8 (o52+x10.toNat*2) [.I AJH,.U dE]∧∀CH:Nat,AG (x2-CZ)∧AG ((x2-CZ)-Cp)∧Br ((((x2-CZ)-Cp):Int)<AJH) (AG (x2-CZ)∧Br (AJH≤(x2-CZ)) (Br (dE≠9218868437227405314) (Al σ fun gh=>AK prog (E3 163 p9b n9b c9b gh) (Hp.set σ gh (.cells #[.U dE] 57 (0,0))) (CS fun rH ZV rI y=>Gj R (aD PY mD) n1 c1 x2 Bf A4 Cy Cq Cr Cs Cp CZ Cu Cz C1 C2 DQ Cv A8 A9 BC BD BE Cw C0 C3 C4 Kk Kl Kn Kq Kr Km Ko Ks Kt x8 p9a n9a c9a rH ZV rI x10 y)) (Gj R (aD PY mD) n1 c1 x2 Bf A4 Cy Cq Cr Cs Cp CZ Cu Cz C1 C2 DQ Cv A8 A9 BC BD BE Cw C0 C3 C4 Kk Kl Kn Kq Kr Km Ko Ks Kt x8 p9a n9a c9a p9b n9b c9b x10 σ)) (Gj R (aD PY mD) n1 c1 x2 Bf A4 Cy Cq Cr Cs Cp CZ Cu Cz C1 C2 DQ Cv A8 A9 BC BD BE Cw C0 C3 C4 Kk Kl Kn Kq Kr Km Ko Ks Kt x8 p9a n9a c9a p9b n9b c9b x10 σ)) (Gj R (aD PY mD) n1 c1 x2 Bf A4 Cy Cq Cr Cs Cp CZ Cu Cz C1 C2 DQ Cv A8 A9 BC BD BE Cw C0 C3 C4 Kk Kl Kn Kq Kr Km Ko Ks Kt x8 p9a n9a c9a p9b n9b c9b x10 σ)) (Br (0<(n9b:Int)) (Al σ fun b92=>AK prog (E3 88 Ko Ks Kt b92) (Hp.set σ b92 (.cells #[.slice p9a n9a c9a,.slice p9b n9b c9b] 165 (0,0))) (CS fun p93 n93 c93 y=>Kj R (aD PY mD) n1 c1 x2 Bf A4 Cy Cq Cr Cs Cp CZ Cu Cz C1 C2 DQ Cv A8 A9 BC BD BE Cw C0 C3 C4 Kk Kl Kn Kq Kr Km p93 n93 c93 x8 y)) (Kj R (aD PY mD) n1 c1 x2 Bf A4 Cy Cq Cr Cs Cp CZ Cu Cz C1 C2 DQ Cv A8 A9 BC BD BE Cw C0 C3 C4 Kk Kl Kn Kq Kr Km Ko Ks Kt x8 σ))):NJ R p1 n1 c1 x2 Bf A4 Cy Cq Cr Cs Cp CZ Cu Cz C1 C2 DQ Cv A8 A9 BC BD BE Cw C0 C3 C4 Kk Kl Kn Kq Kr Km Ko Ks Kt x8 p9a n9a c9a p9b n9b c9b x10 σ:=M.of4 h ok rfl fun _ _ _ _=>by kernel_rfl
def HH (h:AG (x10+1)∧NJ R p1 n1 c1 x2 Bf A4 Cy Cq Cr Cs Cp CZ Cu Cz C1 C2 DQ Cv A8 A9 BC BD BE Cw C0 C3 C4 Kk Kl Kn Kq Kr Km Ko Ks Kt x8 p9a n9a c9a p9b n9b c9b (x10+1) σ):Gj R p1 n1 c1 x2 Bf A4 Cy Cq Cr Cs Cp CZ Cu Cz C1 C2 DQ Cv A8 A9 BC BD BE Cw C0 C3 C4 Kk Kl Kn Kq Kr Km Ko Ks Kt x8 p9a n9a c9a p9b n9b c9b x10 σ:=M.of4 h ok rfl fun _ _ _ _=>by kernel_rfl
end BJ
namespace aj
variable {Ac Ax Bb Be BI BO Bq BM PO GH Ge Sl:Int}{BS:ByteArray}{CJ Bt Ng PQ QJ Sm:Option Addr}{CC CK Bh Bu M9 Nh PR PS QK QL Sn Sp:Nat}{Bg:Bool}
def M:Fw:=⟨prog,72,f72,[112,113,114,115,116,117],[3,4,5,6],false,[],[],[]⟩
def ok:M.Ok:=⟨.cons call112 (.cons call113 (.cons call114 (.cons call115 (.cons call116 (.cons call117 (AH.nil)))))),mixed,func72,by kernel_rfl⟩
def start (h:∀b3:Nat,∀b4:Nat,∀b5:Nat,∀b6:Nat,Br (Bq=1) (Br (GH=1) (AF 112 #[.I Ax] σ R (CB fun t20 y=>Bo t20 (AF 114 #[.I Ax,.U BM,.U Ge] y R (CB fun t28 AB=>AF 113 #[.bool t28] AB R (CI .u64 fun x29 AI=>R (.T #[.agg #[.I 1,.U x29,.N,.I 0,.N],.bool true]) AI))) (Br (Bq=1) (Br (GH=1) (AF 115 #[.I Ax,.U BM,.U Ge] y R (CI .u64 fun cL AB=>R (.T #[.agg #[.I 1,.U cL,.N,.I 0,.N],.bool true]) AB)) (Br (Bq=1) (AF 116 #[.agg #[.I Ac,.I Ax,.string BS,.slice CJ CC CK,.I Bb,.I Be,.I BI,.slice Bt Bh Bu,.bool Bg,.I BO],.agg #[.I Bq,.U BM,.slice Ng M9 Nh,.I PO,.slice PQ PR PS],.agg #[.I GH,.U Ge,.slice QJ QK QL,.I Sl,.slice Sm Sn Sp]] y R (fun z AB=>∃EV EW EX EY EZ Ea Eb Ec Ed,z=(.agg #[.I EV,.U EW,.slice EX EY EZ,.I Ea,.slice Eb Ec Ed])∧R (.T #[.agg #[.I EV,.U EW,.slice EX EY EZ,.I Ea,.slice Eb Ec Ed],.bool true]) AB)) (Br (GH=1) (AF 116 #[.agg #[.I Ac,.I Ax,.string BS,.slice CJ CC CK,.I Bb,.I Be,.I BI,.slice Bt Bh Bu,.bool Bg,.I BO],.agg #[.I Bq,.U BM,.slice Ng M9 Nh,.I PO,.slice PQ PR PS],.agg #[.I GH,.U Ge,.slice QJ QK QL,.I Sl,.slice Sm Sn Sp]] y R (fun z AB=>∃EV EW EX EY EZ Ea Eb Ec Ed,z=(.agg #[.I EV,.U EW,.slice EX EY EZ,.I Ea,.slice Eb Ec Ed])∧R (.T #[.agg #[.I EV,.U EW,.slice EX EY EZ,.I Ea,.slice Eb Ec Ed],.bool true]) AB)) (AF 117 #[.agg #[.I Ac,.I Ax,.string BS,.slice CJ CC CK,.I Bb,.I Be,.I BI,.slice Bt Bh Bu,.bool Bg,.I BO],.agg #[.I Bq,.U BM,.slice Ng M9 Nh,.I PO,.slice PQ PR PS],.agg #[.I GH,.U Ge,.slice QJ QK QL,.I Sl,.slice Sm Sn Sp]] y R (fun z AB=>∃Gt Gu Gv Gw Gx Gy Gz G0 G1 Lj,z=(.tuple #[.agg #[.I Gt,.U Gu,.slice Gv Gw Gx,.I Gy,.slice Gz G0 G1],.bool Lj])∧R (.T #[.agg #[.I Gt,.U Gu,.slice Gv Gw Gx,.I Gy,.slice Gz G0 G1],.bool Lj]) AB))))) (Br (Bq=1) (AF 116 #[.agg #[.I Ac,.I Ax,.string BS,.slice CJ CC CK,.I Bb,.I Be,.I BI,.slice Bt Bh Bu,.bool Bg,.I BO],.agg #[.I Bq,.U BM,.slice Ng M9 Nh,.I PO,.slice PQ PR PS],.agg #[.I GH,.U Ge,.slice QJ QK QL,.I Sl,.slice Sm Sn Sp]] y R (fun z AB=>∃EV EW EX EY EZ Ea Eb Ec Ed,z=(.agg #[.I EV,.U EW,.slice EX EY EZ,.I Ea,.slice Eb Ec Ed])∧R (.T #[.agg #[.I EV,.U EW,.slice EX EY EZ,.I Ea,.slice Eb Ec Ed],.bool true]) AB)) (Br (GH=1) (AF 116 #[.agg #[.I Ac,.I Ax,.string BS,.slice CJ CC CK,.I Bb,.I Be,.I BI,.slice Bt Bh Bu,.bool Bg,.I BO],.agg #[.I Bq,.U BM,.slice Ng M9 Nh,.I PO,.slice PQ PR PS],.agg #[.I GH,.U Ge,.slice QJ QK QL,.I Sl,.slice Sm Sn Sp]] y R (fun z AB=>∃EV EW EX EY EZ Ea Eb Ec Ed,z=(.agg #[.I EV,.U EW,.slice EX EY EZ,.I Ea,.slice Eb Ec Ed])∧R (.T #[.agg #[.I EV,.U EW,.slice EX EY EZ,.I Ea,.slice Eb Ec Ed],.bool true]) AB)) (AF 117 #[.agg #[.I Ac,.I Ax,.string BS,.slice CJ CC CK,.I Bb,.I Be,.I BI,.slice Bt Bh Bu,.bool Bg,.I BO],.agg #[.I Bq,.U BM,.slice Ng M9 Nh,.I PO,.slice PQ PR PS],.agg #[.I GH,.U Ge,.slice QJ QK QL,.I Sl,.slice Sm Sn Sp]] y R (fun z AB=>∃Gt Gu Gv Gw Gx Gy Gz G0 G1 Lj,z=(.tuple #[.agg #[.I Gt,.U Gu,.slice Gv Gw Gx,.I Gy,.slice Gz G0 G1],.bool Lj])∧R (.T #[.agg #[.I Gt,.U Gu,.slice Gv Gw Gx,.I Gy,.slice Gz G0 G1],.bool Lj]) AB))))))) (Br (Bq=1) (Br (GH=1) (AF 115 #[.I Ax,.U BM,.U Ge] σ R (CI .u64 fun cL y=>R (.T #[.agg #[.I 1,.U cL,.N,.I 0,.N],.bool true]) y)) (Br (Bq=1) (AF 116 #[.agg #[.I Ac,.I Ax,.string BS,.slice CJ CC CK,.I Bb,.I Be,.I BI,.slice Bt Bh Bu,.bool Bg,.I BO],.agg #[.I Bq,.U BM,.slice Ng M9 Nh,.I PO,.slice PQ PR PS],.agg #[.I GH,.U Ge,.slice QJ QK QL,.I Sl,.slice Sm Sn Sp]] σ R (fun z y=>∃EV EW EX EY EZ Ea Eb Ec Ed,z=(.agg #[.I EV,.U EW,.slice EX EY EZ,.I Ea,.slice Eb Ec Ed])∧R (.T #[.agg #[.I EV,.U EW,.slice EX EY EZ,.I Ea,.slice Eb Ec Ed],.bool true]) y)) (Br (GH=1) (AF 116 #[.agg #[.I Ac,.I Ax,.string BS,.slice CJ CC CK,.I Bb,.I Be,.I BI,.slice Bt Bh Bu,.bool Bg,.I BO],.agg #[.I Bq,.U BM,.slice Ng M9 Nh,.I PO,.slice PQ PR PS],.agg #[.I GH,.U Ge,.slice QJ QK QL,.I Sl,.slice Sm Sn Sp]] σ R (fun z y=>∃EV EW EX EY EZ Ea Eb Ec Ed,z=(.agg #[.I EV,.U EW,.slice EX EY EZ,.I Ea,.slice Eb Ec Ed])∧R (.T #[.agg #[.I EV,.U EW,.slice EX EY EZ,.I Ea,.slice Eb Ec Ed],.bool true]) y)) (AF 117 #[.agg #[.I Ac,.I Ax,.string BS,.slice CJ CC CK,.I Bb,.I Be,.I BI,.slice Bt Bh Bu,.bool Bg,.I BO],.agg #[.I Bq,.U BM,.slice Ng M9 Nh,.I PO,.slice PQ PR PS],.agg #[.I GH,.U Ge,.slice QJ QK QL,.I Sl,.slice Sm Sn Sp]] σ R (fun z y=>∃Gt Gu Gv Gw Gx Gy Gz G0 G1 Lj,z=(.tuple #[.agg #[.I Gt,.U Gu,.slice Gv Gw Gx,.I Gy,.slice Gz G0 G1],.bool Lj])∧R (.T #[.agg #[.I Gt,.U Gu,.slice Gv Gw Gx,.I Gy,.slice Gz G0 G1],.bool Lj]) y))))) (Br (Bq=1) (AF 116 #[.agg #[.I Ac,.I Ax,.string BS,.slice CJ CC CK,.I Bb,.I Be,.I BI,.slice Bt Bh Bu,.bool Bg,.I BO],.agg #[.I Bq,.U BM,.slice Ng M9 Nh,.I PO,.slice PQ PR PS],.agg #[.I GH,.U Ge,.slice QJ QK QL,.I Sl,.slice Sm Sn Sp]] σ R (fun z y=>∃EV EW EX EY EZ Ea Eb Ec Ed,z=(.agg #[.I EV,.U EW,.slice EX EY EZ,.I Ea,.slice Eb Ec Ed])∧R (.T #[.agg #[.I EV,.U EW,.slice EX EY EZ,.I Ea,.slice Eb Ec Ed],.bool true]) y)) (Br (GH=1) (AF 116 #[.agg #[.I Ac,.I Ax,.string BS,.slice CJ CC CK,.I Bb,.I Be,.I BI,.slice Bt Bh Bu,.bool Bg,.I BO],.agg #[.I Bq,.U BM,.slice Ng M9 Nh,.I PO,.slice PQ PR PS],.agg #[.I GH,.U Ge,.slice QJ QK QL,.I Sl,.slice Sm Sn Sp]] σ R (fun z y=>∃EV EW EX EY EZ Ea Eb Ec Ed,z=(.agg #[.I EV,.U EW,.slice EX EY EZ,.I Ea,.slice Eb Ec Ed])∧R (.T #[.agg #[.I EV,.U EW,.slice EX EY EZ,.I Ea,.slice Eb Ec Ed],.bool true]) y)) (AF 117 #[.agg #[.I Ac,.I Ax,.string BS,.slice CJ CC CK,.I Bb,.I Be,.I BI,.slice Bt Bh Bu,.bool Bg,.I BO],.agg #[.I Bq,.U BM,.slice Ng M9 Nh,.I PO,.slice PQ PR PS],.agg #[.I GH,.U Ge,.slice QJ QK QL,.I Sl,.slice Sm Sn Sp]] σ R (fun z y=>∃Gt Gu Gv Gw Gx Gy Gz G0 G1 Lj,z=(.tuple #[.agg #[.I Gt,.U Gu,.slice Gv Gw Gx,.I Gy,.slice Gz G0 G1],.bool Lj])∧R (.T #[.agg #[.I Gt,.U Gu,.slice Gv Gw Gx,.I Gy,.slice Gz G0 G1],.bool Lj]) y)))))) (Br (Bq=1) (Br (GH=1) (AF 115 #[.I Ax,.U BM,.U Ge] σ R (CI .u64 fun cL y=>R (.T #[.agg #[.I 1,.U cL,.N,.I 0,.N],.bool true]) y)) (Br (Bq=1) (AF 116 #[.agg #[.I Ac,.I Ax,.string BS,.slice CJ CC CK,.I Bb,.I Be,.I BI,.slice Bt Bh Bu,.bool Bg,.I BO],.agg #[.I Bq,.U BM,.slice Ng M9 Nh,.I PO,.slice PQ PR PS],.agg #[.I GH,.U Ge,.slice QJ QK QL,.I Sl,.slice Sm Sn Sp]] σ R (fun z y=>∃EV EW EX EY EZ Ea Eb Ec Ed,z=(.agg #[.I EV,.U EW,.slice EX EY EZ,.I Ea,.slice Eb Ec Ed])∧R (.T #[.agg #[.I EV,.U EW,.slice EX EY EZ,.I Ea,.slice Eb Ec Ed],.bool true]) y)) (Br (GH=1) (AF 116 #[.agg #[.I Ac,.I Ax,.string BS,.slice CJ CC CK,.I Bb,.I Be,.I BI,.slice Bt Bh Bu,.bool Bg,.I BO],.agg #[.I Bq,.U BM,.slice Ng M9 Nh,.I PO,.slice PQ PR PS],.agg #[.I GH,.U Ge,.slice QJ QK QL,.I Sl,.slice Sm Sn Sp]] σ R (fun z y=>∃EV EW EX EY EZ Ea Eb Ec Ed,z=(.agg #[.I EV,.U EW,.slice EX EY EZ,.I Ea,.slice Eb Ec Ed])∧R (.T #[.agg #[.I EV,.U EW,.slice EX EY EZ,.I Ea,.slice Eb Ec Ed],.bool true]) y)) (AF 117 #[.agg #[.I Ac,.I Ax,.string BS,.slice CJ CC CK,.I Bb,.I Be,.I BI,.slice Bt Bh Bu,.bool Bg,.I BO],.agg #[.I Bq,.U BM,.slice Ng M9 Nh,.I PO,.slice PQ PR PS],.agg #[.I GH,.U Ge,.slice QJ QK QL,.I Sl,.slice Sm Sn Sp]] σ R (fun z y=>∃Gt Gu Gv Gw Gx Gy Gz G0 G1 Lj,z=(.tuple #[.agg #[.I Gt,.U Gu,.slice Gv Gw Gx,.I Gy,.slice Gz G0 G1],.bool Lj])∧R (.T #[.agg #[.I Gt,.U Gu,.slice Gv Gw Gx,.I Gy,.slice Gz G0 G1],.bool Lj]) y))))) (Br (Bq=1) (AF 116 #[.agg #[.I Ac,.I Ax,.string BS,.slice CJ CC CK,.I Bb,.I Be,.I BI,.slice Bt Bh Bu,.bool Bg,.I BO],.agg #[.I Bq,.U BM,.slice Ng M9 Nh,.I PO,.slice PQ PR PS],.agg #[.I GH,.U Ge,.slice QJ QK QL,.I Sl,.slice Sm Sn Sp]] σ R (fun z y=>∃EV EW EX EY EZ Ea Eb Ec Ed,z=(.agg #[.I EV,.U EW,.slice EX EY EZ,.I Ea,.slice Eb Ec Ed])∧R (.T #[.agg #[.I EV,.U EW,.slice EX EY EZ,.I Ea,.slice Eb Ec Ed],.bool true]) y)) (Br (GH=1) (AF 116 #[.agg #[.I Ac,.I Ax,.string BS,.slice CJ CC CK,.I Bb,.I Be,.I BI,.slice Bt Bh Bu,.bool Bg,.I BO],.agg #[.I Bq,.U BM,.slice Ng M9 Nh,.I PO,.slice PQ PR PS],.agg #[.I GH,.U Ge,.slice QJ QK QL,.I Sl,.slice Sm Sn Sp]] σ R (fun z y=>∃EV EW EX EY EZ Ea Eb Ec Ed,z=(.agg #[.I EV,.U EW,.slice EX EY EZ,.I Ea,.slice Eb Ec Ed])∧R (.T #[.agg #[.I EV,.U EW,.slice EX EY EZ,.I Ea,.slice Eb Ec Ed],.bool true]) y)) (AF 117 #[.agg #[.I Ac,.I Ax,.string BS,.slice CJ CC CK,.I Bb,.I Be,.I BI,.slice Bt Bh Bu,.bool Bg,.I BO],.agg #[.I Bq,.U BM,.slice Ng M9 Nh,.I PO,.slice PQ PR PS],.agg #[.I GH,.U Ge,.slice QJ QK QL,.I Sl,.slice Sm Sn Sp]] σ R (fun z y=>∃Gt Gu Gv Gw Gx Gy Gz G0 G1 Lj,z=(.tuple #[.agg #[.I Gt,.U Gu,.slice Gv Gw Gx,.I Gy,.slice Gz G0 G1],.bool Lj])∧R (.T #[.agg #[.I Gt,.U Gu,.slice Gv Gw Gx,.I Gy,.slice Gz G0 G1],.bool Lj]) y)))))):Spec prog 72 #[.agg #[.I Ac,.I Ax,.string BS,.slice CJ CC CK,.I Bb,.I Be,.I BI,.slice Bt Bh Bu,.bool Bg,.I BO],.agg #[.I Bq,.U BM,.slice Ng M9 Nh,.I PO,.slice PQ PR PS],.agg #[.I GH,.U Ge,.slice QJ QK QL,.I Sl,.slice Sm Sn Sp]] σ R:=M.start h ok
end aj
namespace Ij
variable {p0 p8:Option Addr}{n0 c0 n8 c8:Nat}{x9 x10:Int}
def M:Fw:=⟨prog,78,f78,[133,134],[4],false,[],[],[(232,[(8,wL),(9,wI),(10,wI)])]⟩
def ok:M.Ok:=⟨.cons call133 (.cons call134 (AH.nil)),mixed,func78,by kernel_rfl⟩
def Nb:=M.pt 0
def start (h:Br (8<(n0:Int)) (R (.returned (.I 41)) σ) (Nb R p0 n0 c0 (n0:Int) 0 σ)):Spec prog 78 #[.slice p0 n0 c0] σ R:=M.start h ok
def KK (h:Br (x10<x9) (Pq p8 fun Dd TY=>In x10 (n8:Int)∧∃gU rl AOw,Ae σ Dd (TY+x10.toNat*3) [.I gU,.string rl,.string AOw]∧∀b4:Nat,AF 133 #[.I gU] σ R (CB fun t16 y=>Bn t16 (R (.returned (.I 40)) y) (AF 134 #[.string rl] y R (CB fun t21 AB=>Bn t21 (R (.returned (.I 40)) AB) (Br ((256:Int)<(AOw.size:Int)) (R (.returned (.I 40)) AB) (AG (x10+1)∧Nb R (aD Dd TY) n8 c8 x9 (x10+1) AB)))))) (R (.returned (.I 0)) σ)):Nb R p8 n8 c8 x9 x10 σ:=M.of h ok rfl
end Ij
namespace ak
variable {x0:Int}
def M:Fw:=⟨prog,105,f105,[147],[],false,[],[],[]⟩
def ok:M.Ok:=⟨.cons call147 (AH.nil),mixed,func105,by kernel_rfl⟩
def start (h:AF 147 #[.U x0] σ R (fun z y=>∃x5,(Value.float .f64 x5)=z∧∃t8,YF prog ((do eqGuard .neq 73 (.tmp 6) (.tmp 7) (Value.float .f64 x5) (Value.float .f64 x5);binOp .neq 73 (Value.float .f64 x5) (Value.float .f64 x5))) y (.bool t8)∧Bo t8 (R (.returned (.U 9221120237041090560)) y) (Df (Go.bits .andNot .u64 x0 9223372036854775808) fun x10=>R (.returned (.U x10)) y))):Spec prog 105 #[.U x0] σ R:=M.start h ok
end ak
namespace Cf
variable {q0 FZ F2 p2 BC Iz p8 rV:Option Addr}{Bq BM FD FE Dm EB A8 A9 eb Kv:Int}{FG:ByteArray}{Fa Fb Fc F3 n2 c2 BD BE I0 I1 n8 c8 n25 rW:Nat}{EC:Bool}
def M:Fw:=⟨prog,126,f126,[162,164,178],[4,6,10],false,[],[],[(488,[(6,.X 97 [.I .i64,.I .u64,.L,.L]),(8,wL),(25,wL),(26,wI),(27,wI)])]⟩
def ok:M.Ok:=⟨.cons call162 (.cons call164 (.cons call178 (AH.nil))),mixed,func126,by kernel_rfl⟩
def ACf:=M.pt 0
def start (h:∀b4:Nat,∀b6:Nat,Pq p2 fun Dd TY=>In 0 (n2:Int)∧LI .i64 σ Dd TY fun NA=>Br (NA=1) (In 0 (n2:Int)∧LI .u64 σ Dd (TY+1) fun FV=>AF 178 #[.U FV] σ R (CI .u64 fun II y=>R (.T #[.agg #[.I 1,.U II,.N,.N],.I 0]) y)) (In 0 (n2:Int)∧LS σ Dd (TY+2) fun rV n25 rW=>ACf R 0 0 none 0 0 none 0 0 none 0 0 rV n25 rW (n25:Int) 0 σ)):Spec prog 126 #[.pointer q0,.agg #[.I Bq,.I BM,.string FG,.slice FZ Fa Fb,.I FD,.I FE,.I Dm,.slice F2 Fc F3,.bool EC,.I EB],.slice p2 n2 c2] σ R:=M.start h ok
def pE (h:Br (Kv<eb) (Pq rV fun LY RL=>In Kv (n25:Int)∧∃wg wh wj wk,Ae σ LY (RL+Kv.toNat*2) [.slice wg wh wj,.U wk]∧∀FB:Nat,AF 162 #[.slice wg wh wj] σ R (CS fun p34 n34 c34 y=>AF 178 #[.U wk] y R (CI .u64 fun Ss AB=>Al AB fun PY=>AK prog (E3 54 p8 n8 c8 PY) (Hp.set AB PY (.cells #[.slice p34 n34 c34,.U Ss] 59 (0,0))) (CS fun p40 n40 c40 AI=>AG (Kv+1)∧ACf R A8 A9 BC BD BE Iz I0 I1 p40 n40 c40 (aD LY RL) n25 rW eb (Kv+1) AI)))) (AF 164 #[.slice p8 n8 c8] σ R (fun z y=>∃AFV AFW AFX AFY AFZ AFa AFb AFc Rv,z=(.tuple #[.agg #[.I AFV,.U AFW,.slice AFX AFY AFZ,.slice AFa AFb AFc],.I Rv])∧R (.T #[.agg #[.I AFV,.U AFW,.slice AFX AFY AFZ,.slice AFa AFb AFc],.I Rv]) y))):ACf R A8 A9 BC BD BE Iz I0 I1 p8 n8 c8 rV n25 rW eb Kv σ:=M.fy h ok rfl fun _=>by kernel_rfl
end Cf
namespace Ft
variable {s0 s1:ByteArray}{x5 x6:Int}
def M:Fw:=⟨prog,146,f146,[182],[],false,[],[],[(464,[(0,wT),(1,wT),(5,wI),(6,wI)]),(467,[(0,wT),(1,wT),(5,wI),(6,wI)])]⟩
def ok:M.Ok:=⟨.cons call182 (AH.nil),mixed,func146,by kernel_rfl⟩
def Ab:=M.pt 0
def Hz:=M.pt 1
def start (h:Ab R s0 s1 0 0 σ):Spec prog 146 #[.string s0,.string s1] σ R:=M.start h ok
def AO (h:Br (x6≤(s0.size:Int)) (Br (x6=(s0.size:Int)) (∃s26,YF prog (Instr.sliceAt 9 (.string s0) (some (.I x5)) (some (.I x6)) none) σ (.string s26)∧AF 182 #[.string s26,.string s1] σ R (CB fun t28 y=>Bo t28 (R (.B true) y) (AG (x6+1)∧Hz R s0 s1 (x6+1) x6 y))) (∃u20:UInt8,0≤x6∧(ByteArray.data s0)[x6.toNat]?=some u20∧Br (((u20.toNat:Int):Int)=124) (∃s26,YF prog (Instr.sliceAt 9 (.string s0) (some (.I x5)) (some (.I x6)) none) σ (.string s26)∧AF 182 #[.string s26,.string s1] σ R (CB fun t28 y=>Bo t28 (R (.B true) y) (AG (x6+1)∧Hz R s0 s1 (x6+1) x6 y))) (Hz R s0 s1 x5 x6 σ))) (R (.B false) σ)):Ab R s0 s1 x5 x6 σ:=M.of h ok rfl
def Ff (h:AG (x6+1)∧Ab R s0 s1 x5 (x6+1) σ):Hz R s0 s1 x5 x6 σ:=M.of h ok rfl
end Ft
namespace H7
variable {p0 p1 p7:Option Addr}{n0 c0 n1 c1 n7 c7:Nat}{t2:Bool}{x8:Int}
def M:Fw:=⟨prog,149,f149,[186],[],false,[],[],[(464,[(0,wL),(1,wL),(2,wB),(7,wL),(8,wI)]),(467,[(0,wL),(1,wL),(2,wB),(7,wL),(8,wI)])]⟩
def ok:M.Ok:=⟨.cons call186 (AH.nil),mixed,func149,by kernel_rfl⟩
def Ab:=M.pt 0
def Iy:=M.pt 1
def start (h:Ab R p0 n0 c0 p1 n1 c1 t2 none 0 0 0 σ):Spec prog 149 #[.slice p0 n0 c0,.slice p1 n1 c1,.bool t2] σ R:=M.start h ok
def AO (h:Br (x8<(n0:Int)) (Pq p0 fun KL MV=>In x8 (n0:Int)∧LT σ KL (MV+x8.toNat*2) fun s20=>AF 186 #[.slice p1 n1 c1,.string s20] σ R (CB fun t21 y=>Bo t21 (Bo t2 (In x8 (n0:Int)∧∃xj xk,Ae y KL (MV+x8.toNat*2) [.string xj,.string xk]∧Al y fun LY=>AK prog (E3 47 p7 n7 c7 LY) (Hp.set y LY (.cells #[.string xj,.string xk] 71 (0,0))) (CS fun p30 n30 c30 AB=>Iy R (aD KL MV) n0 c0 p1 n1 c1 true p30 n30 c30 x8 AB)) (Iy R (aD KL MV) n0 c0 p1 n1 c1 false p7 n7 c7 x8 y)) (Bo t2 (Iy R (aD KL MV) n0 c0 p1 n1 c1 true p7 n7 c7 x8 y) (In x8 (n0:Int)∧∃xj xk,Ae y KL (MV+x8.toNat*2) [.string xj,.string xk]∧Al y fun LY=>AK prog (E3 47 p7 n7 c7 LY) (Hp.set y LY (.cells #[.string xj,.string xk] 71 (0,0))) (CS fun p30 n30 c30 AB=>Iy R (aD KL MV) n0 c0 p1 n1 c1 false p30 n30 c30 x8 AB))))) (R (.returned (.slice p7 n7 c7)) σ)):Ab R p0 n0 c0 p1 n1 c1 t2 p7 n7 c7 x8 σ:=M.of h ok rfl
def Gf (h:AG (x8+1)∧Ab R p0 n0 c0 p1 n1 c1 t2 p7 n7 c7 (x8+1) σ):Iy R p0 n0 c0 p1 n1 c1 t2 p7 n7 c7 x8 σ:=M.of h ok rfl
end H7
end TwW
end
end
section
set_option maxRecDepth 100000
noncomputable section
namespace TwW
open Go Tw Go.Proofs.Tryz
variable [G9]{R:Rr}{σ:Hp}

namespace R0
variable {x0:Int}
def M:Fw:=⟨prog,160,f160,[190,197,198],[],false,[],[],[]⟩
def ok:M.Ok:=⟨.cons call190 (.cons call197 (.cons call198 (AH.nil))),mixed,func160,by kernel_rfl⟩
def start (h:AF 198 #[.U x0] σ R (fun z y=>∃x4,(Value.float .f64 x4)=z∧AF 197 #[(Value.float .f64 x4)] y R (fun z AB=>∃x5,(Value.float .f64 x5)=z∧AF 190 #[(Value.float .f64 x5)] AB R (CI .u64 fun x6 AI=>R (.returned (.U x6)) AI)))):Spec prog 160 #[.U x0] σ R:=M.start h ok
end R0
namespace Ml
variable {x0:Int}
def M:Fw:=⟨prog,161,f161,[148,190,198],[],false,[],[],[]⟩
def ok:M.Ok:=⟨.cons call148 (.cons call190 (.cons call198 (AH.nil))),mixed,func161,by kernel_rfl⟩
def start (h:AF 198 #[.U x0] σ R (fun z y=>∃x4,(Value.float .f64 x4)=z∧AF 148 #[(Value.float .f64 x4)] y R (fun z AB=>∃x5,(Value.float .f64 x5)=z∧AF 190 #[(Value.float .f64 x5)] AB R (CI .u64 fun x6 AI=>R (.returned (.U x6)) AI)))):Spec prog 161 #[.U x0] σ R:=M.start h ok
end Ml
namespace Bk
variable {q0 FZ F2 p2 MX Md CV Hf Su kA:Option Addr}{Bq BM FD FE Dm EB Ca CL Ma Mb Mc Mg CO CP x16 x17:Int}{FG MW:ByteArray}{Fa Fb Fc F3 n2 c2 MY MZ Me Mf CN CR Hg Hh n10 Pu n15 cz:Nat}{EC Nq:Bool}{v3:Value}
def M:Fw:=⟨prog,173,f173,[132,162,164],[5,8,12],false,[],[],[(232,[(3,wV),(5,.X 44 [.I .i64,.I .i64,.T,.L,.I .i64,.I .i64,.I .i64,.L,.B,.I .i64]),(8,.X 97 [.I .i64,.I .u64,.L,.L]),(10,wL),(15,wL),(16,wI),(17,wI)]),(935,[(3,wV),(5,.X 44 [.I .i64,.I .i64,.T,.L,.I .i64,.I .i64,.I .i64,.L,.B,.I .i64]),(8,.X 97 [.I .i64,.I .u64,.L,.L]),(10,wL),(15,wL),(16,wI),(17,wI)])]⟩
def ok:M.Ok:=⟨.cons call132 (.cons call162 (.cons call164 (AH.nil))),mixed,func173,by kernel_rfl⟩
def B4:=M.pt 0
def N1:=M.pt 1
def start (h:∀b5:Nat,∀b8:Nat,B4 R v3 Bq BM FG FZ Fa Fb FD FE Dm F2 Fc F3 EC EB 0 0 none 0 0 none 0 0 none 0 0 p2 n2 c2 (n2:Int) 0 σ):Spec prog 173 #[.pointer q0,.agg #[.I Bq,.I BM,.string FG,.slice FZ Fa Fb,.I FD,.I FE,.I Dm,.slice F2 Fc F3,.bool EC,.I EB],.slice p2 n2 c2,v3] σ R:=M.HF h ok [(0,.o (.Q q0)),(1,.G [.I .i64 Bq,.I .i64 BM,.T FG,.L FZ Fa Fb,.I .i64 FD,.I .i64 FE,.I .i64 Dm,.L F2 Fc F3,.B EC,.I .i64 EB]),(2,.o (.L p2 n2 c2)),(3,.o (.V v3))] rfl rfl (by kernel_rfl)
def Ap (h:Br (x17<x16) (Pq kA fun Dl Vg=>In x17 (n15:Int)∧∃ACg ACh ACi lS,Ae σ Dl (Vg+x17.toNat*2) [.slice ACg ACh ACi,.U lS]∧∀Dd:Nat,∃(f25:Nat) (AFd AFe:Array Value),v3=.func (.func f25) AFd AFe∧Enters prog f25∧Spec prog f25 (AFd++#[.U lS]++AFe) σ (BB R (fun z y=>∃AJK wD,z=(.tuple #[.U AJK,.bool wD])∧AF 132 #[.I CL] y R (CB fun t31 AB=>Bn t31 (AF 162 #[.slice ACg ACh ACi] AB R (CS fun p40 n40 c40 AI=>Al AI fun Zb=>AK prog (E3 54 Su n10 Pu Zb) (Hp.set AI Zb (.cells #[.slice p40 n40 c40,.U AJK] 59 (0,0))) (CS fun rv n44 c44 AU=>N1 R v3 Ca CL MW MX MY MZ Ma Mb Mc Md Me Mf Nq Mg CO CP CV CN CR Hf Hg Hh rv n44 c44 (aD Dl Vg) n15 cz x16 x17 AU))) (Bo Nq (AF 162 #[.slice ACg ACh ACi] AB R (CS fun p40 n40 c40 AI=>Al AI fun Zb=>AK prog (E3 54 Su n10 Pu Zb) (Hp.set AI Zb (.cells #[.slice p40 n40 c40,.U AJK] 59 (0,0))) (CS fun rv n44 c44 AU=>N1 R v3 Ca CL MW MX MY MZ Ma Mb Mc Md Me Mf true Mg CO CP CV CN CR Hf Hg Hh rv n44 c44 (aD Dl Vg) n15 cz x16 x17 AU))) (Bo wD (Al AB fun US=>AK prog (E3 54 Su n10 Pu US) (Hp.set AB US (.cells #[.slice ACg ACh ACi,.U lS] 59 (0,0))) (CS fun gk n50 j9 AI=>N1 R v3 Ca CL MW MX MY MZ Ma Mb Mc Md Me Mf false Mg CO CP CV CN CR Hf Hg Hh gk n50 j9 (aD Dl Vg) n15 cz x16 x17 AI)) (N1 R v3 Ca CL MW MX MY MZ Ma Mb Mc Md Me Mf false Mg CO CP CV CN CR Hf Hg Hh Su n10 Pu (aD Dl Vg) n15 cz x16 x17 AB))))))) (AF 164 #[.slice Su n10 Pu] σ R (fun z y=>∃iL iM iN iO iP iQ iR iS dE,z=(.tuple #[.agg #[.I iL,.U iM,.slice iN iO iP,.slice iQ iR iS],.I dE])∧R (.T #[.agg #[.I iL,.U iM,.slice iN iO iP,.slice iQ iR iS],.I dE]) y))):B4 R v3 Ca CL MW MX MY MZ Ma Mb Mc Md Me Mf Nq Mg CO CP CV CN CR Hf Hg Hh Su n10 Pu kA n15 cz x16 x17 σ:=M.lJ h ok rfl fun _ _=>by kernel_rfl
def PW (h:AG (x17+1)∧B4 R v3 Ca CL MW MX MY MZ Ma Mb Mc Md Me Mf Nq Mg CO CP CV CN CR Hf Hg Hh Su n10 Pu kA n15 cz x16 (x17+1) σ):N1 R v3 Ca CL MW MX MY MZ Ma Mb Mc Md Me Mf Nq Mg CO CP CV CN CR Hf Hg Hh Su n10 Pu kA n15 cz x16 x17 σ:=M.lJ h ok rfl fun _ _=>by kernel_rfl
end Bk
namespace Fu
variable {x0:Int}{b1 b2:Nat}
def M:Fw:=⟨prog,175,f175,[172],[],false,[],[],[]⟩
def ok:M.Ok:=⟨.cons call172 (AH.nil),mixed,func175,by kernel_rfl⟩
def start (h:∃A8 A9 s6c Iz I0 I1 x6e x6f x6g p6h n6h c6h t6i x6j,Ae σ b1 0 [.I A8,.I A9,.string s6c,.slice Iz I0 I1,.I x6e,.I x6f,.I x6g,.slice p6h n6h c6h,.bool t6i,.I x6j]∧LI .u64 σ b2 1 fun x9=>AF 172 #[.agg #[.I A8,.I A9,.string s6c,.slice Iz I0 I1,.I x6e,.I x6f,.I x6g,.slice p6h n6h c6h,.bool t6i,.I x6j],.U x0,.U x9] σ R (fun z y=>∃FY Wm,z=(.tuple #[.U FY,.bool Wm])∧R (.T #[.U FY,.bool Wm]) y)):Spec prog 175 #[.U x0,(.pointer (aD b1 0)),(.pointer (aD b2 0))] σ R:=M.start h ok
end Fu
namespace Ai
variable {q0 FZ F2 p2 p3 MX Md CV Hf NO p35 p66:Option Addr}{Bq BM FD FE Dm EB Ca CL Ma Mb Mc Mg CO CP NB Ss eZ RX:Int}{FG MW:ByteArray}{Fa Fb Fc F3 n2 c2 n3 c3 MY MZ Me Mf CN CR Hg Hh n14 Lc n35 c35 vf od:Nat}{EC Nq:Bool}{m10 m12:Option Nat}
def M:Fw:=⟨prog,176,f176,[39,164,221,222],[5,8,16,17,20,21],false,[],[],[(1000,[(3,wL),(5,.X 44 [.I .i64,.I .i64,.T,.L,.I .i64,.I .i64,.I .i64,.L,.B,.I .i64]),(8,.X 97 [.I .i64,.I .u64,.L,.L]),(10,wM),(12,wM),(14,wL),(35,wL),(36,wI),(37,wI)]),(2024,[(5,.X 44 [.I .i64,.I .i64,.T,.L,.I .i64,.I .i64,.I .i64,.L,.B,.I .i64]),(8,.X 97 [.I .i64,.I .u64,.L,.L]),(10,wM),(14,wL),(66,wL),(67,wI),(68,wI)]),(8103,[(5,.X 44 [.I .i64,.I .i64,.T,.L,.I .i64,.I .i64,.I .i64,.L,.B,.I .i64]),(8,.X 97 [.I .i64,.I .u64,.L,.L]),(10,wM),(14,wL),(66,wL),(67,wI),(68,wI)]),(4007,[(3,wL),(5,.X 44 [.I .i64,.I .i64,.T,.L,.I .i64,.I .i64,.I .i64,.L,.B,.I .i64]),(8,.X 97 [.I .i64,.I .u64,.L,.L]),(10,wM),(12,wM),(14,wL),(35,wL),(36,wI),(37,wI)])]⟩
def ok:M.Ok:=⟨.cons call39 (.cons call164 (.cons call221 (.cons call222 (AH.nil)))),mixed,func176,by kernel_rfl⟩
def CX:=M.pt 0
def F7:=M.pt 1
def Rj:=M.pt 2
def Hz:=M.pt 3
def start (h:∀b5:Nat,∀b8:Nat,AF 221 #[.agg #[.I Bq,.I BM,.string FG,.slice FZ Fa Fb,.I FD,.I FE,.I Dm,.slice F2 Fc F3,.bool EC,.I EB],.slice p2 n2 c2] σ R (fun z y=>∃AOx AXd,z=(.tuple #[.map AOx,.bool AXd])∧AF 221 #[.agg #[.I Bq,.I BM,.string FG,.slice FZ Fa Fb,.I FD,.I FE,.I Dm,.slice F2 Fc F3,.bool EC,.I EB],.slice p3 n3 c3] y R (fun z AB=>∃AOy AXe,z=(.tuple #[.map AOy,.bool AXe])∧CX R p3 n3 c3 Bq BM FG FZ Fa Fb FD FE Dm F2 Fc F3 EC EB 0 0 none 0 0 none 0 0 AOx AOy none 0 0 p2 n2 c2 (n2:Int) 0 AB))):Spec prog 176 #[.pointer q0,.agg #[.I Bq,.I BM,.string FG,.slice FZ Fa Fb,.I FD,.I FE,.I Dm,.slice F2 Fc F3,.bool EC,.I EB],.slice p2 n2 c2,.slice p3 n3 c3] σ R:=M.start h ok
def Vt (h:Br (Ss<NB) (Pq p35 fun PY mD=>In Ss (n35:Int)∧∃iK dD mB mC,Ae σ PY (mD+Ss.toNat*2) [.slice iK dD mB,.U mC]∧∀IY:Nat,AF 222 #[.agg #[.I Ca,.I CL,.string MW,.slice MX MY MZ,.I Ma,.I Mb,.I Mc,.slice Md Me Mf,.bool Nq,.I Mg],.slice iK dD mB] σ R (CS fun gy n46 eo y=>AF 39 #[.slice gy n46 eo] y R (CT fun s47 AB=>AK prog (Instr.lookup 247 (.map m12) (.string s47) true) AB (fun z AI=>∃AOz AO0 AO1 AO2 AO3,z=(.tuple #[.agg #[.slice AOz AO0 AO1,.U AO2],.bool AO3])∧∀l6:Nat,Br (CL=12) (Al AI fun r6=>AK prog (E3 54 NO n14 Lc r6) (Hp.set AI r6 (.cells #[.slice iK dD mB,.U mC] 59 (0,0))) (CS fun p64 xE c64 AU=>Hz R p3 n3 c3 Ca CL MW MX MY MZ Ma Mb Mc Md Me Mf Nq Mg CO CP CV CN CR Hf Hg Hh m10 m12 p64 xE c64 (aD PY mD) n35 c35 NB Ss AU)) (Bo AO3 (Br (CL=11) (Al AI fun r6=>AK prog (E3 54 NO n14 Lc r6) (Hp.set AI r6 (.cells #[.slice iK dD mB,.U mC] 59 (0,0))) (CS fun p64 xE c64 AU=>Hz R p3 n3 c3 Ca CL MW MX MY MZ Ma Mb Mc Md Me Mf Nq Mg CO CP CV CN CR Hf Hg Hh m10 m12 p64 xE c64 (aD PY mD) n35 c35 NB Ss AU)) (Hz R p3 n3 c3 Ca CL MW MX MY MZ Ma Mb Mc Md Me Mf Nq Mg CO CP CV CN CR Hf Hg Hh m10 m12 NO n14 Lc (aD PY mD) n35 c35 NB Ss AI)) (Br (CL=11) (Hz R p3 n3 c3 Ca CL MW MX MY MZ Ma Mb Mc Md Me Mf Nq Mg CO CP CV CN CR Hf Hg Hh m10 m12 NO n14 Lc (aD PY mD) n35 c35 NB Ss AI) (Al AI fun r6=>AK prog (E3 54 NO n14 Lc r6) (Hp.set AI r6 (.cells #[.slice iK dD mB,.U mC] 59 (0,0))) (CS fun p64 xE c64 AU=>Hz R p3 n3 c3 Ca CL MW MX MY MZ Ma Mb Mc Md Me Mf Nq Mg CO CP CV CN CR Hf Hg Hh m10 m12 p64 xE c64 (aD PY mD) n35 c35 NB Ss AU)))))))) (F7 R Ca CL MW MX MY MZ Ma Mb Mc Md Me Mf Nq Mg CO CP CV CN CR Hf Hg Hh m10 NO n14 Lc p3 n3 c3 (n3:Int) 0 σ)):CX R p3 n3 c3 Ca CL MW MX MY MZ Ma Mb Mc Md Me Mf Nq Mg CO CP CV CN CR Hf Hg Hh m10 m12 NO n14 Lc p35 n35 c35 NB Ss σ:=M.lJ h ok rfl fun _ _=>by kernel_rfl
def IJ (h:Br (RX<eZ) (Pq p66 fun b70 o70=>In RX (vf:Int)∧∃AJL AJM AJN AO4,Ae σ b70 (o70+RX.toNat*2) [.slice AJL AJM AJN,.U AO4]∧∀gb:Nat,AF 222 #[.agg #[.I Ca,.I CL,.string MW,.slice MX MY MZ,.I Ma,.I Mb,.I Mc,.slice Md Me Mf,.bool Nq,.I Mg],.slice AJL AJM AJN] σ R (CS fun vk vm vo y=>AF 39 #[.slice vk vm vo] y R (CT fun s78 AB=>AK prog (Instr.lookup 247 (.map m10) (.string s78) true) AB (fun z AI=>∃AO5 AO6 AO7 AO8 AO9,z=(.tuple #[.agg #[.slice AO5 AO6 AO7,.U AO8],.bool AO9])∧∀b21:Nat,Bn AO9 (Br (CL=12) (Al AI fun tg=>AK prog (E3 54 NO n14 Lc tg) (Hp.set AI tg (.cells #[.slice AJL AJM AJN,.U AO4] 59 (0,0))) (CS fun p92 n92 c92 AU=>Rj R Ca CL MW MX MY MZ Ma Mb Mc Md Me Mf Nq Mg CO CP CV CN CR Hf Hg Hh m10 p92 n92 c92 (aD b70 o70) vf od eZ RX AU)) (Rj R Ca CL MW MX MY MZ Ma Mb Mc Md Me Mf Nq Mg CO CP CV CN CR Hf Hg Hh m10 NO n14 Lc (aD b70 o70) vf od eZ RX AI)) (Rj R Ca CL MW MX MY MZ Ma Mb Mc Md Me Mf Nq Mg CO CP CV CN CR Hf Hg Hh m10 NO n14 Lc (aD b70 o70) vf od eZ RX AI))))) (AF 164 #[.slice NO n14 Lc] σ R (fun z y=>∃AFg AFh AFi AFj AFk AFl AFm AFn APA,z=(.tuple #[.agg #[.I AFg,.U AFh,.slice AFi AFj AFk,.slice AFl AFm AFn],.I APA])∧R (.T #[.agg #[.I AFg,.U AFh,.slice AFi AFj AFk,.slice AFl AFm AFn],.I APA]) y))):F7 R Ca CL MW MX MY MZ Ma Mb Mc Md Me Mf Nq Mg CO CP CV CN CR Hf Hg Hh m10 NO n14 Lc p66 vf od eZ RX σ:=M.lJ h ok rfl fun _ _=>by kernel_rfl
def cU (h:AG (RX+1)∧F7 R Ca CL MW MX MY MZ Ma Mb Mc Md Me Mf Nq Mg CO CP CV CN CR Hf Hg Hh m10 NO n14 Lc p66 vf od eZ (RX+1) σ):Rj R Ca CL MW MX MY MZ Ma Mb Mc Md Me Mf Nq Mg CO CP CV CN CR Hf Hg Hh m10 NO n14 Lc p66 vf od eZ RX σ:=M.lJ h ok rfl fun _ _=>by kernel_rfl
def Ff (h:AG (Ss+1)∧CX R p3 n3 c3 Ca CL MW MX MY MZ Ma Mb Mc Md Me Mf Nq Mg CO CP CV CN CR Hf Hg Hh m10 m12 NO n14 Lc p35 n35 c35 NB (Ss+1) σ):Hz R p3 n3 c3 Ca CL MW MX MY MZ Ma Mb Mc Md Me Mf Nq Mg CO CP CV CN CR Hf Hg Hh m10 m12 NO n14 Lc p35 n35 c35 NB Ss σ:=M.lJ h ok rfl fun _ _=>by kernel_rfl
end Ai
namespace QY
variable {Ac Ax x1:Int}
def M:Fw:=⟨prog,193,f193,[],[2],false,[],[],[]⟩
def ok:M.Ok:=⟨AH.nil,mixed,func193,by kernel_rfl⟩
def start (h:∀b2:Nat,Br (Ac≤x1) (R (.returned (.I (-1))) σ) (R (.returned (.I 1)) σ)):Spec prog 193 #[.agg #[.I Ac,.U Ax],.I x1] σ R:=M.start h ok
end QY
namespace pF
variable {x0:Int}
def M:Fw:=⟨prog,198,f198,[],[],false,[],[],[]⟩
def ok:M.Ok:=⟨AH.nil,mixed,func198,by kernel_rfl⟩
def start (h:EN prog 183 #[.U x0] σ (fun z y=>∃x4,(Value.float .f64 x4)=z∧R (.returned (Value.float .f64 x4)) y)):Spec prog 198 #[.U x0] σ R:=M.start h ok
end pF
namespace Fv
variable {p0 p1:Option Addr}{n0 c0 n1 c1:Nat}
def M:Fw:=⟨prog,206,f206,[207],[],false,[],[],[]⟩
def ok:M.Ok:=⟨.cons call207 (AH.nil),mixed,func206,by kernel_rfl⟩
def start (h:AF 207 #[.slice p0 n0 c0] σ R (CI .u64 fun x6 y=>R (.returned (.U x6)) y)):Spec prog 206 #[.slice p0 n0 c0,.slice p1 n1 c1] σ R:=M.start h ok
end Fv
namespace Jo
variable {Ac Ax Bb Be BI BO GH Ge Vm Vn TZ Vo x11 x12:Int}{BS Vp:ByteArray}{CJ Bt p1 TU U8 Su:Option Addr}{CC CK Bh Bu n1 c1 TV TW U9 VA n10 Pu:Nat}{Bg VB:Bool}{m6:Option Nat}
def M:Fw:=⟨prog,221,f221,[39,222],[2,8],false,[(5,7,false)],[],[(232,[(1,wL),(2,.X 44 [.I .i64,.I .i64,.T,.L,.I .i64,.I .i64,.I .i64,.L,.B,.I .i64]),(6,wM),(10,wL),(11,wI),(12,wI)])]⟩
def ok:M.Ok:=⟨.cons call39 (.cons call222 (AH.nil)),mixed,func221,by kernel_rfl⟩
def B4:=M.pt 0
def start (h:∀b2:Nat,AK prog (Instr.makeMap 247 none) σ (fun z y=>∃m9,z=(.map (some m9))∧B4 R p1 n1 c1 Ac Ax BS CJ CC CK Bb Be BI Bt Bh Bu Bg BO (some m9) p1 n1 c1 (n1:Int) 0 y)):Spec prog 221 #[.agg #[.I Ac,.I Ax,.string BS,.slice CJ CC CK,.I Bb,.I Be,.I BI,.slice Bt Bh Bu,.bool Bg,.I BO],.slice p1 n1 c1] σ R:=M.start h ok
def Ap (h:Br (x12<x11) (Pq Su fun DO U7=>In x12 (n10:Int)∧∃AJO AJP AJQ l8,Ae σ DO (U7+x12.toNat*2) [.slice AJO AJP AJQ,.U l8]∧∀b8:Nat,AF 222 #[.agg #[.I GH,.I Ge,.string Vp,.slice TU TV TW,.I Vm,.I Vn,.I TZ,.slice U8 U9 VA,.bool VB,.I Vo],.slice AJO AJP AJQ] σ R (CS fun p20 n20 c20 y=>AF 39 #[.slice p20 n20 c20] y R (CT fun s21 AB=>AK prog (Instr.mapUpdate 247 (.map m6) (.string s21) (.agg #[.slice AJO AJP AJQ,.U l8])) AB (fun _ AI=>AG (x12+1)∧B4 R p1 n1 c1 GH Ge Vp TU TV TW Vm Vn TZ U8 U9 VA VB Vo m6 (aD DO U7) n10 Pu x11 (x12+1) AI)))) (∃eb,YF prog (Builtin.len_ #[247] 3 #[.map m6]) σ (.I eb)∧R (.T #[.map m6,(.bool (decide (eb=(n1:Int))))]) σ)):B4 R p1 n1 c1 GH Ge Vp TU TV TW Vm Vn TZ U8 U9 VA VB Vo m6 Su n10 Pu x11 x12 σ:=M.fy h ok rfl fun _=>by kernel_rfl
end Jo
namespace Ik
variable {s0:ByteArray}{x3:Int}
def M:Fw:=⟨prog,228,f228,[],[],false,[],[],[(224,[(0,wT),(3,wI)])]⟩
def ok:M.Ok:=⟨AH.nil,mixed,func228,by kernel_rfl⟩
def Fm:=M.pt 0
def start (h:Fm R s0 0 σ):Spec prog 228 #[.string s0] σ R:=M.start h ok
def As (h:Br (x3<(s0.size:Int)) (∃u11:UInt8,0≤x3∧(ByteArray.data s0)[x3.toNat]?=some u11∧Br ((48:Int)≤(u11.toNat:Int)) (∃u17:UInt8,0≤x3∧(ByteArray.data s0)[x3.toNat]?=some u17∧Br (((u17.toNat:Int):Int)≤57) (AG (x3+1)∧Fm R s0 (x3+1) σ) (R (.returned (.I x3)) σ)) (R (.returned (.I x3)) σ)) (R (.returned (.I x3)) σ)):Fm R s0 x3 σ:=M.of h ok rfl
end Ik
namespace Gg
variable {ZY:Option Addr}{QH Wn:Nat}{j5 s1:ByteArray}
def M:Fw:=⟨prog,234,f234,[249],[2],false,[],[],[]⟩
def ok:M.Ok:=⟨.cons call249 (AH.nil),mixed,func234,by kernel_rfl⟩
def start (h:∀b2:Nat,AF 249 #[.agg #[.slice ZY QH Wn],.string s1] σ R (CB fun t8 y=>R (.returned (.bool (!t8))) y)):Spec prog 234 #[.agg #[.slice ZY QH Wn,.string j5],.string s1] σ R:=M.start h ok
end Gg
namespace Mm
variable {p0 FZ F2 p2:Option Addr}{n0 c0 Fa Fb Fc F3 n2 c2 b3:Nat}{Bq BM FD FE Dm EB:Int}{FG:ByteArray}{EC:Bool}
def M:Fw:=⟨prog,238,f238,[],[5],false,[],[],[]⟩
def ok:M.Ok:=⟨AH.nil,mixed,func238,by kernel_rfl⟩
def start (h:∀b5:Nat,Br ((n0:Int)<2) (R (.T #[.U 0,.bool false]) σ) (∃v12,Hp.ld σ ⟨b3,0,none⟩=some v12∧∃(f15:Nat) (AFo AFp:Array Value),v12=.func (.func f15) AFo AFp∧Enters prog f15∧Spec prog f15 (AFo++#[.slice p0 n0 c0,.slice p2 n2 c2]++AFp) σ (BB R (CI .u64 fun x15 y=>R (.T #[.U x15,.bool true]) y)))):Spec prog 238 #[.slice p0 n0 c0,.agg #[.I Bq,.I BM,.string FG,.slice FZ Fa Fb,.I FD,.I FE,.I Dm,.slice F2 Fc F3,.bool EC,.I EB],.slice p2 n2 c2,(.pointer (aD b3 0))] σ R:=M.start h ok
end Mm
end TwW
end
end
section
set_option maxRecDepth 100000
noncomputable section
namespace TwW
open Go Tw Go.Proofs.Tryz
variable [G9]{R:Rr}{σ:Hp}

namespace R1
variable {x0 x1 x2:Int}
def M:Fw:=⟨prog,38,f38,[],[],false,[],[],[]⟩
def ok:M.Ok:=⟨AH.nil,mixed,func38,by kernel_rfl⟩
def start (h:Al σ fun b3=>Al (Hp.set σ b3 (.cells #[.I x0] 2 (0,0))) fun b4=>Al (Hp.set (Hp.set σ b3 (.cells #[.I x0] 2 (0,0))) b4 (.cells #[.I x1] 2 (0,0))) fun b5=>R (.returned (.func (.func 55) #[] #[(.pointer (aD b3 0)),(.pointer (aD b5 0)),(.pointer (aD b4 0))])) (Hp.set (Hp.set (Hp.set σ b3 (.cells #[.I x0] 2 (0,0))) b4 (.cells #[.I x1] 2 (0,0))) b5 (.cells #[.I x2] 2 (0,0)))):Spec prog 38 #[.I x0,.I x1,.I x2] σ R:=M.start h ok
end R1
namespace Cb
variable {p0 p1 BC C0 p8 Pw Px M7:Option Addr}{n0 c0 n1 c1 BD BE C3 C4 n8 c8 Py Pz P0 P1 n11 PM Dd:Nat}{x2 A8 A9 Cw x9 FY MU P2 Mk P3 Li NB:Int}{Od:ByteArray}{P4 t13:Bool}
def M:Fw:=⟨prog,45,f45,[66,67,68,69,70,71,72,73],[6,10],false,[(18,5,true),(20,4,true)],[],[(464,[(0,wL),(1,wL),(2,wI),(6,.X 90 [.I .i64,.I .u64,.L,.I .i64,.L]),(8,wL),(9,wI)]),(59710,[(0,wL),(1,wL),(2,wI),(6,.X 90 [.I .i64,.I .u64,.L,.I .i64,.L]),(8,wL),(9,wI),(10,.X 44 [.I .i64,.I .i64,.T,.L,.I .i64,.I .i64,.I .i64,.L,.B,.I .i64]),(12,wA),(13,wB)]),(238836,[(0,wL),(1,wL),(2,wI),(6,.X 90 [.I .i64,.I .u64,.L,.I .i64,.L]),(8,wL),(9,wI),(10,.X 44 [.I .i64,.I .i64,.T,.L,.I .i64,.I .i64,.I .i64,.L,.B,.I .i64]),(11,wL),(12,wA),(13,wB),(36,wI)])]⟩
def ok:M.Ok:=⟨.cons call66 (.cons call67 (.cons call68 (.cons call69 (.cons call70 (.cons call71 (.cons call72 (.cons call73 (AH.nil)))))))),mixed,func45,by kernel_rfl⟩
def Ab:=M.pt 0
def VE:=M.pt 1
def Hz:=M.pt 2
def start (h:∀b6:Nat,Ab R p0 n0 c0 p1 n1 c1 x2 0 0 none 0 0 0 none 0 0 none 0 0 0 σ):Spec prog 45 #[.slice p0 n0 c0,.slice p1 n1 c1,.I x2] σ R:=M.start h ok
def AO (h:Br (x9<(n0:Int)) (Pq p0 fun ec ru=>In x9 (n0:Int)∧∃AJR Wo APB APC APD APE APF APG APH API APJ APK APL iT,Ae σ ec (ru+x9.toNat*10) [.I AJR,.I Wo,.string APB,.slice APC APD APE,.I APF,.I APG,.I APH,.slice API APJ APK,.bool APL,.I iT]∧∀FB:Nat,AG ((n8:Int)-iT)∧((0:Int)≤((n8:Int)-iT)∧((n8:Int)-iT)≤(n8:Int))∧Al σ fun Dd=>Hz R (aD ec ru) n0 c0 p1 n1 c1 x2 A8 A9 BC BD BE Cw C0 C3 C4 p8 n8 c8 x9 AJR Wo APB APC APD APE APF APG APH API APJ APK APL iT ((MK p8 (Int.toNat ((n8:Int)-iT)) c8 5)) ((n8-Int.toNat ((n8:Int)-iT))) ((c8-Int.toNat ((n8:Int)-iT))) Dd true AJR (Hp.set σ Dd (.cells #[.I 0,.U 0,.N,.I 0,.N] 90 (0,0)))) (Pq p8 fun AXf AXg=>In 0 (n8:Int)∧∃AFq AFr AFs AFt AFu AFv AFw AFx AFy,Ae σ AXf AXg [.I AFq,.U AFr,.slice AFs AFt AFu,.I AFv,.slice AFw AFx AFy]∧R (.T #[.agg #[.I AFq,.U AFr,.slice AFs AFt AFu,.I AFv,.slice AFw AFx AFy],.bool true]) σ)):Ab R p0 n0 c0 p1 n1 c1 x2 A8 A9 BC BD BE Cw C0 C3 C4 p8 n8 c8 x9 σ:=M.fy h ok rfl fun _=>by kernel_rfl
def Ff (h:Br (NB=1) (AF 66 #[.string Od] σ R (fun z y=>∃xl AXh,z=(.tuple #[.U xl,.bool AXh])∧AK prog (Instr.storeAt 90 (.pointer (aD Dd 0)) (.agg #[.I 1,.U xl,.N,.I 0,.N])) y (fun _ AB=>VE R p0 n0 c0 p1 n1 c1 x2 A8 A9 BC BD BE Cw C0 C3 C4 p8 n8 c8 x9 FY MU Od Pw Py Pz P2 Mk P3 Px P0 P1 P4 Li Dd t13 AB))) (Br (NB=2) (AF 67 #[.agg #[.I FY,.I MU,.string Od,.slice Pw Py Pz,.I P2,.I Mk,.I P3,.slice Px P0 P1,.bool P4,.I Li],.slice p1 n1 c1,.I x2] σ R (fun z y=>∃xn xo xp xq xr xt xu xv xw,z=(.agg #[.I xn,.U xo,.slice xp xq xr,.I xt,.slice xu xv xw])∧AK prog (Instr.storeAt 90 (.pointer (aD Dd 0)) (.agg #[.I xn,.U xo,.slice xp xq xr,.I xt,.slice xu xv xw])) y (fun _ AB=>VE R p0 n0 c0 p1 n1 c1 x2 A8 A9 BC BD BE Cw C0 C3 C4 p8 n8 c8 x9 FY MU Od Pw Py Pz P2 Mk P3 Px P0 P1 P4 Li Dd t13 AB))) (Br (NB=3) (AF 68 #[.agg #[.I FY,.I MU,.string Od,.slice Pw Py Pz,.I P2,.I Mk,.I P3,.slice Px P0 P1,.bool P4,.I Li],.slice p1 n1 c1,.I x2] σ R (fun z y=>∃xi r5 APM APN APO APP APQ APR APS,z=(.agg #[.I xi,.U r5,.slice APM APN APO,.I APP,.slice APQ APR APS])∧AK prog (Instr.storeAt 90 (.pointer (aD Dd 0)) (.agg #[.I xi,.U r5,.slice APM APN APO,.I APP,.slice APQ APR APS])) y (fun _ AB=>VE R p0 n0 c0 p1 n1 c1 x2 A8 A9 BC BD BE Cw C0 C3 C4 p8 n8 c8 x9 FY MU Od Pw Py Pz P2 Mk P3 Px P0 P1 P4 Li Dd t13 AB))) (Br (NB=4) (Pq M7 fun rm tu=>In 0 (n11:Int)∧∃APT hY APU APV APW APX APY APZ APa,Ae σ rm tu [.I APT,.U hY,.slice APU APV APW,.I APX,.slice APY APZ APa]∧AF 69 #[.I MU,.agg #[.I APT,.U hY,.slice APU APV APW,.I APX,.slice APY APZ APa]] σ R (fun z y=>∃cS APb APc APd APe APf APg APh APi,z=(.agg #[.I cS,.U APb,.slice APc APd APe,.I APf,.slice APg APh APi])∧AK prog (Instr.storeAt 90 (.pointer (aD Dd 0)) (.agg #[.I cS,.U APb,.slice APc APd APe,.I APf,.slice APg APh APi])) y (fun _ AB=>VE R p0 n0 c0 p1 n1 c1 x2 A8 A9 BC BD BE Cw C0 C3 C4 p8 n8 c8 x9 FY MU Od Pw Py Pz P2 Mk P3 Px P0 P1 P4 Li Dd t13 AB))) (Br (NB=5) (Pq M7 fun U0 rG=>In 0 (n11:Int)∧∃APj LX APk APl APm APn APo APp APq,Ae σ U0 rG [.I APj,.U LX,.slice APk APl APm,.I APn,.slice APo APp APq]∧AF 70 #[.agg #[.I FY,.I MU,.string Od,.slice Pw Py Pz,.I P2,.I Mk,.I P3,.slice Px P0 P1,.bool P4,.I Li],.agg #[.I APj,.U LX,.slice APk APl APm,.I APn,.slice APo APp APq]] σ R (fun z y=>∃APr APs APt APu APv APw APx APy APz,z=(.agg #[.I APr,.U APs,.slice APt APu APv,.I APw,.slice APx APy APz])∧AK prog (Instr.storeAt 90 (.pointer (aD Dd 0)) (.agg #[.I APr,.U APs,.slice APt APu APv,.I APw,.slice APx APy APz])) y (fun _ AB=>VE R p0 n0 c0 p1 n1 c1 x2 A8 A9 BC BD BE Cw C0 C3 C4 p8 n8 c8 x9 FY MU Od Pw Py Pz P2 Mk P3 Px P0 P1 P4 Li Dd t13 AB))) (Br (NB=7) (Pq M7 fun b77 o77=>In 0 (n11:Int)∧∃ZT AP1 AP2 AP3 AP4 AP5 AP6 AP7 AP8,Ae σ b77 o77 [.I ZT,.U AP1,.slice AP2 AP3 AP4,.I AP5,.slice AP6 AP7 AP8]∧AF 71 #[.agg #[.I ZT,.U AP1,.slice AP2 AP3 AP4,.I AP5,.slice AP6 AP7 AP8]] σ R (fun z y=>∃AP9 AQA AQB AQC AQD AQE AQF AQG AQH,z=(.agg #[.I AP9,.U AQA,.slice AQB AQC AQD,.I AQE,.slice AQF AQG AQH])∧AK prog (Instr.storeAt 90 (.pointer (aD Dd 0)) (.agg #[.I AP9,.U AQA,.slice AQB AQC AQD,.I AQE,.slice AQF AQG AQH])) y (fun _ AB=>VE R p0 n0 c0 p1 n1 c1 x2 A8 A9 BC BD BE Cw C0 C3 C4 p8 n8 c8 x9 FY MU Od Pw Py Pz P2 Mk P3 Px P0 P1 P4 Li Dd t13 AB))) (Br (NB=6) (Pq M7 fun b85 o85=>In 0 (n11:Int)∧∃AQI AQJ AQK AQL AQM AQN AQO AQP AQQ,Ae σ b85 o85 [.I AQI,.U AQJ,.slice AQK AQL AQM,.I AQN,.slice AQO AQP AQQ]∧In 1 (n11:Int)∧∃AQR AQS AQT AQU AQV AQW AQX AQY AQZ,Ae σ b85 (o85+5) [.I AQR,.U AQS,.slice AQT AQU AQV,.I AQW,.slice AQX AQY AQZ]∧AF 72 #[.agg #[.I FY,.I MU,.string Od,.slice Pw Py Pz,.I P2,.I Mk,.I P3,.slice Px P0 P1,.bool P4,.I Li],.agg #[.I AQI,.U AQJ,.slice AQK AQL AQM,.I AQN,.slice AQO AQP AQQ],.agg #[.I AQR,.U AQS,.slice AQT AQU AQV,.I AQW,.slice AQX AQY AQZ]] σ R (fun z y=>∃AFz AF0 AF1 AF2 AF3 AF4 AF5 AF6 AF7 AQa,z=(.tuple #[.agg #[.I AFz,.U AF0,.slice AF1 AF2 AF3,.I AF4,.slice AF5 AF6 AF7],.bool AQa])∧AK prog (Instr.storeAt 90 (.pointer (aD Dd 0)) (.agg #[.I AFz,.U AF0,.slice AF1 AF2 AF3,.I AF4,.slice AF5 AF6 AF7])) y (fun _ AB=>VE R p0 n0 c0 p1 n1 c1 x2 A8 A9 BC BD BE Cw C0 C3 C4 p8 n8 c8 x9 FY MU Od Pw Py Pz P2 Mk P3 Px P0 P1 P4 Li Dd AQa AB))) (VE R p0 n0 c0 p1 n1 c1 x2 A8 A9 BC BD BE Cw C0 C3 C4 p8 n8 c8 x9 FY MU Od Pw Py Pz P2 Mk P3 Px P0 P1 P4 Li Dd t13 σ)))))))):Hz R p0 n0 c0 p1 n1 c1 x2 A8 A9 BC BD BE Cw C0 C3 C4 p8 n8 c8 x9 FY MU Od Pw Py Pz P2 Mk P3 Px P0 P1 P4 Li M7 n11 PM Dd t13 NB σ:=M.lJ h ok rfl fun _ _=>by kernel_rfl
def ACj (h:LS σ Dd 2 fun p95 n95 c95=>AF 73 #[.slice p95 n95 c95] σ R (fun z y=>∃AQb AQc AQd AQe,z=(.tuple #[.slice AQb AQc AQd,.bool AQe])∧Bn t13 (R (.T #[.agg #[.I 0,.U 0,.N,.I 0,.N],.bool false]) y) (Bn AQe (R (.T #[.agg #[.I 0,.U 0,.N,.I 0,.N],.bool false]) y) (AK prog (Instr.storeAt 87 (.pointer (aD Dd 2)) (.slice AQb AQc AQd)) y (fun _ AB=>AG ((n8:Int)-Li)∧((0:Int)≤((n8:Int)-Li)∧((n8:Int)-Li)≤(c8:Int))∧∃AF8 AF9 AGA AGB AGC AGD AGE AGF AGG,Ae AB Dd 0 [.I AF8,.U AF9,.slice AGA AGB AGC,.I AGD,.slice AGE AGF AGG]∧Al AB fun AJS=>AK prog (Builtin.append_ #[127,127] 127 #[(.slice p8 (Int.toNat ((n8:Int)-Li)) c8),(.slice (aD AJS 0) 1 1)]) (Hp.set AB AJS (.cells #[.I AF8,.U AF9,.slice AGA AGB AGC,.I AGD,.slice AGE AGF AGG] 90 (0,0))) (CS fun AXi n117 AXj AI=>AG (x9+1)∧Ab R p0 n0 c0 p1 n1 c1 x2 A8 A9 BC BD BE Cw C0 C3 C4 AXi n117 AXj (x9+1) AI)))))):VE R p0 n0 c0 p1 n1 c1 x2 A8 A9 BC BD BE Cw C0 C3 C4 p8 n8 c8 x9 FY MU Od Pw Py Pz P2 Mk P3 Px P0 P1 P4 Li Dd t13 σ:=M.lJ h ok rfl fun _ _=>by kernel_rfl
end Cb
namespace Fy
variable {p0 p5:Option Addr}{n0 c0 n5 c5:Nat}{x6 x7:Int}
def M:Fw:=⟨prog,46,f46,[42,74,75],[4],false,[],[],[(104,[(0,wL),(5,wL),(6,wI),(7,wI)])]⟩
def ok:M.Ok:=⟨.cons call42 (.cons call74 (.cons call75 (AH.nil))),mixed,func46,by kernel_rfl⟩
def Q2:=M.pt 0
def start (h:Q2 R p0 n0 c0 p0 n0 c0 (n0:Int) 0 σ):Spec prog 46 #[.slice p0 n0 c0] σ R:=M.start h ok
def FO (h:Br (x7<x6) (Pq p5 fun FB o10=>In x7 (n5:Int)∧∃hZ iA iB AQf AQg AQh,Ae σ FB (o10+x7.toNat*2) [.slice hZ iA iB,.slice AQf AQg AQh]∧∀b4:Nat,AF 74 #[.slice hZ iA iB] σ R (CI .i64 fun NA y=>Br (NA≠0) (R (.returned (.I 100)) y) (AF 75 #[.slice AQf AQg AQh] y R (CB fun t19 AB=>Bn t19 (R (.returned (.I 100)) AB) (Br (0<x7) (AG (x7-1)∧Pq p0 fun LY RL=>In (x7-1) (n0:Int)∧LS AB LY (RL+Int.toNat (x7-1)*2) fun p31 n31 c31=>AF 42 #[.slice p31 n31 c31,.slice hZ iA iB] AB R (CI .i64 fun TR AI=>Br (0≤TR) (R (.returned (.I 100)) AI) (AG (x7+1)∧Q2 R (aD LY RL) n0 c0 (aD FB o10) n5 c5 x6 (x7+1) AI))) (AG (x7+1)∧Q2 R p0 n0 c0 (aD FB o10) n5 c5 x6 (x7+1) AB)))))) (R (.returned (.I 0)) σ)):Q2 R p0 n0 c0 p5 n5 c5 x6 x7 σ:=M.of h ok rfl
end Fy
namespace Jp
variable {p0:Option Addr}{n0 c0:Nat}{x3:Int}
def M:Fw:=⟨prog,51,f51,[63],[],false,[],[],[(464,[(0,wL),(3,wI)])]⟩
def ok:M.Ok:=⟨.cons call63 (AH.nil),mixed,func51,by kernel_rfl⟩
def Aw:=M.pt 0
def start (h:Br (8<(n0:Int)) (R (.returned (.I 41)) σ) (Aw R p0 n0 c0 0 σ)):Spec prog 51 #[.slice p0 n0 c0] σ R:=M.start h ok
def Ay (h:Br (x3<(n0:Int)) (Pq p0 fun xD o15=>In x3 (n0:Int)∧LI .i64 σ xD (o15+x3.toNat*3) fun x17=>Br (x17<1) (R (.returned (.I 40)) σ) (In x3 (n0:Int)∧LI .i64 σ xD (o15+x3.toNat*3) fun JG=>Br (4<JG) (R (.returned (.I 40)) σ) (In x3 (n0:Int)∧LT σ xD ((o15+x3.toNat*3)+1) fun s32=>AF 63 #[.string s32] σ R (CB fun t33 y=>Bn t33 (R (.returned (.I 40)) y) (In x3 (n0:Int)∧LT y xD ((o15+x3.toNat*3)+2) fun s41=>Br ((256:Int)<(s41.size:Int)) (R (.returned (.I 40)) y) (AG (x3+1)∧Aw R (aD xD o15) n0 c0 (x3+1) y)))))) (R (.returned (.I 0)) σ)):Aw R p0 n0 c0 x3 σ:=M.of h ok rfl
end Jp
namespace NH
variable {s0 s1:ByteArray}
def M:Fw:=⟨prog,62,f62,[101],[],false,[],[],[]⟩
def ok:M.Ok:=⟨.cons call101 (AH.nil),mixed,func62,by kernel_rfl⟩
def start (h:AF 101 #[.string s0,.string s1] σ R (CI .i64 fun x7 y=>R (.returned (.I x7)) y)):Spec prog 62 #[.string s0,.string s1] σ R:=M.start h ok
end NH
namespace YH
def M:Fw:=⟨prog,76,f76,[],[],false,[],[],[]⟩
def ok:M.Ok:=⟨AH.nil,mixed,func76,by kernel_rfl⟩
def start (h:Al σ fun b1=>R (.returned (.slice (aD b1 0) 8 8)) (Hp.set σ b1 (.cells #[.nilFunc,(.func (.func 120) #[] #[]),(.func (.func 121) #[] #[]),(.func (.func 122) #[] #[]),(.func (.func 123) #[] #[]),(.func (.func 124) #[] #[]),(.func (.func 125) #[] #[]),(.func (.func 126) #[] #[])] 141 (0,0)))):Spec prog 76 #[] σ R:=M.start h ok
end YH
namespace HR
variable {q0 FZ F2 p2:Option Addr}{Bq BM FD FE Dm EB:Int}{FG:ByteArray}{Fa Fb Fc F3 n2 c2:Nat}{EC:Bool}
def M:Fw:=⟨prog,83,f83,[],[4],false,[],[],[]⟩
def ok:M.Ok:=⟨AH.nil,mixed,func83,by kernel_rfl⟩
def start (h:∀b4:Nat,Pq p2 fun b9 o9=>In 0 (n2:Int)∧LI .i64 σ b9 o9 fun x11=>Br (x11=3) (R (.T #[.I 0,.I 191]) σ) (In 0 (n2:Int)∧LI .i64 σ b9 o9 fun x16=>R (.T #[.I x16,.I 0]) σ)):Spec prog 83 #[.pointer q0,.agg #[.I Bq,.I BM,.string FG,.slice FZ Fa Fb,.I FD,.I FE,.I Dm,.slice F2 Fc F3,.bool EC,.I EB],.slice p2 n2 c2] σ R:=M.start h ok
end HR
namespace AW
variable {s0:ByteArray}{x1 x6 x7 x8 x9:Int}
def M:Fw:=⟨prog,102,f102,[],[],false,[],[],[(252,[(0,wT),(1,wI),(6,wI),(7,.o (.I .i32)),(8,.o (.I .i32))]),(8144,[(0,wT),(1,wI),(6,wI),(7,.o (.I .i32)),(8,.o (.I .i32)),(9,wI)])]⟩
def ok:M.Ok:=⟨AH.nil,mixed,func102,by kernel_rfl⟩
def Gj:=M.pt 0
def Zc:=M.pt 1
def start (h:∃QI:UInt8,0≤x1∧(ByteArray.data s0)[x1.toNat]?=some QI∧Br (((QI.toNat:Int):Int)<128) (R (.returned (.I 1)) σ) (Br ((192:Int)≤(QI.toNat:Int)) (Br (((QI.toNat:Int):Int)<224) (Df (Go.bits .and .u8 (QI.toNat:Int) 31) fun JG=>Df (IntKind.i32.wrap JG) fun Kz=>Gj R s0 x1 2 128 Kz σ) (Br ((224:Int)≤(QI.toNat:Int)) (Br (((QI.toNat:Int):Int)<240) (Df (Go.bits .and .u8 (QI.toNat:Int) 15) fun TR=>Df (IntKind.i32.wrap TR) fun QG=>Gj R s0 x1 3 2048 QG σ) (Br ((240:Int)≤(QI.toNat:Int)) (Br (((QI.toNat:Int):Int)<248) (Df (Go.bits .and .u8 (QI.toNat:Int) 7) fun Vk=>Df (IntKind.i32.wrap Vk) fun j6=>Gj R s0 x1 4 65536 j6 σ) (R (.returned (.I 0)) σ)) (R (.returned (.I 0)) σ))) (Br ((240:Int)≤(QI.toNat:Int)) (Br (((QI.toNat:Int):Int)<248) (Df (Go.bits .and .u8 (QI.toNat:Int) 7) fun Vk=>Df (IntKind.i32.wrap Vk) fun j6=>Gj R s0 x1 4 65536 j6 σ) (R (.returned (.I 0)) σ)) (R (.returned (.I 0)) σ)))) (Br ((224:Int)≤(QI.toNat:Int)) (Br (((QI.toNat:Int):Int)<240) (Df (Go.bits .and .u8 (QI.toNat:Int) 15) fun TR=>Df (IntKind.i32.wrap TR) fun QG=>Gj R s0 x1 3 2048 QG σ) (Br ((240:Int)≤(QI.toNat:Int)) (Br (((QI.toNat:Int):Int)<248) (Df (Go.bits .and .u8 (QI.toNat:Int) 7) fun Vk=>Df (IntKind.i32.wrap Vk) fun j6=>Gj R s0 x1 4 65536 j6 σ) (R (.returned (.I 0)) σ)) (R (.returned (.I 0)) σ))) (Br ((240:Int)≤(QI.toNat:Int)) (Br (((QI.toNat:Int):Int)<248) (Df (Go.bits .and .u8 (QI.toNat:Int) 7) fun Vk=>Df (IntKind.i32.wrap Vk) fun j6=>Gj R s0 x1 4 65536 j6 σ) (R (.returned (.I 0)) σ)) (R (.returned (.I 0)) σ))))):Spec prog 102 #[.string s0,.I x1] σ R:=M.start h ok
def HH (h:AG (x1+x6)∧Br (((s0.size:Int):Int)<(x1+x6)) (R (.returned (.I 0)) σ) (Zc R s0 x1 x6 x7 x8 1 σ)):Gj R s0 x1 x6 x7 x8 σ:=M.of h ok rfl
def dF (h:Br (x9<x6) (AG (x1+x9)∧∃u61:UInt8,(0:Int)≤(x1+x9)∧(ByteArray.data s0)[Int.toNat (x1+x9)]?=some u61∧Df (Go.bits .and .u8 (u61.toNat:Int) 192) fun gO=>Br (gO≠128) (R (.returned (.I 0)) σ) (((0:Int)≤6∧6≤((IntKind.bits .i32:Nat):Int))∧Df (IntKind.i32.wrap (x8*2^Int.toNat 6)) fun x65=>AG (x1+x9)∧∃u70:UInt8,(0:Int)≤(x1+x9)∧(ByteArray.data s0)[Int.toNat (x1+x9)]?=some u70∧Df (Go.bits .and .u8 (u70.toNat:Int) 63) fun x71=>Df (IntKind.i32.wrap x71) fun tn=>Df (Go.bits .or .i32 x65 tn) fun x73=>AG (x9+1)∧Zc R s0 x1 x6 x7 x73 (x9+1) σ)) (Br (x8<x7) (R (.returned (.I 0)) σ) (Br (1114111<x8) (R (.returned (.I 0)) σ) (Br (55296≤x8) (Br (x8≤57343) (R (.returned (.I 0)) σ) (R (.returned (.I x6)) σ)) (R (.returned (.I x6)) σ))))):Zc R s0 x1 x6 x7 x8 x9 σ:=M.of h ok rfl
end AW
namespace pG
variable {v0:Value}
def M:Fw:=⟨prog,103,f103,[],[],false,[],[],[]⟩
def ok:M.Ok:=⟨AH.nil,mixed,func103,by kernel_rfl⟩
def start (h:∃t5,YF prog ((do eqGuard .neq 73 (.tmp 3) (.tmp 4) v0 v0;binOp .neq 73 v0 v0)) σ (.bool t5)∧Bo t5 (R (.returned (.U 9221120237041090560)) σ) (EN prog 53 #[v0] σ (CI .u64 fun x7 y=>R (.returned (.U x7)) y))):Spec prog 103 #[v0] σ R:=M.HF h ok [(0,.o (.V v0))] rfl rfl (by kernel_rfl)
end pG
namespace Ue
variable {x0:Int}
def M:Fw:=⟨prog,106,f106,[103,147,148],[],false,[],[],[]⟩
def ok:M.Ok:=⟨.cons call103 (.cons call147 (.cons call148 (AH.nil))),mixed,func106,by kernel_rfl⟩
def start (h:AF 147 #[.U x0] σ R (fun z y=>∃x4,(Value.float .f64 x4)=z∧AF 148 #[(Value.float .f64 x4)] y R (fun z AB=>∃x5,(Value.float .f64 x5)=z∧AF 103 #[(Value.float .f64 x5)] AB R (CI .u64 fun x6 AI=>R (.returned (.U x6)) AI)))):Spec prog 106 #[.U x0] σ R:=M.start h ok
end Ue
namespace R3
variable {x0:Int}
def M:Fw:=⟨prog,111,f111,[103,147],[],false,[],[],[]⟩
def ok:M.Ok:=⟨.cons call103 (.cons call147 (AH.nil)),mixed,func111,by kernel_rfl⟩
def start (h:AF 147 #[.U x0] σ R (fun z y=>∃x4,(Value.float .f64 x4)=z∧∃x5,YF prog (Op.unary .neg (Value.float .f64 x4)) y (Value.float .f64 x5)∧AF 103 #[(Value.float .f64 x5)] y R (CI .u64 fun x6 AB=>R (.returned (.U x6)) AB))):Spec prog 111 #[.U x0] σ R:=M.start h ok
end R3
namespace AZ
variable {q0 FZ F2 p2 JS LA BC Iz CV Hf RW Zd iU M7 gy:Option Addr}{Bq BM FD FE Dm EB BZ BT LC JA LD ME A8 A9 CO CP MH GC vd cV:Int}{FG MF:ByteArray}{Fa Fb Fc F3 n2 c2 JT JU LF LG BD BE I0 I1 CN CR Hg Hh n21 Pp YI dG dH mE n11 PM n46 eo:Nat}{EC MG:Bool}
def M:Fw:=⟨prog,122,f122,[157,158,159],[4,6,8,10,13],false,[],[],[(232,[(0,wQ),(4,.X 44 [.I .i64,.I .i64,.T,.L,.I .i64,.I .i64,.I .i64,.L,.B,.I .i64]),(6,.X 97 [.I .i64,.I .u64,.L,.L]),(8,.X 97 [.I .i64,.I .u64,.L,.L]),(21,wL),(22,wI),(23,wI)]),(239208,[(0,wQ),(4,.X 44 [.I .i64,.I .i64,.T,.L,.I .i64,.I .i64,.I .i64,.L,.B,.I .i64]),(6,.X 97 [.I .i64,.I .u64,.L,.L]),(8,.X 97 [.I .i64,.I .u64,.L,.L]),(10,.X 51 [.L,.L]),(11,wL),(21,wL),(22,wI),(23,wI),(46,wL),(47,wI),(48,wI)]),(935,[(0,wQ),(4,.X 44 [.I .i64,.I .i64,.T,.L,.I .i64,.I .i64,.I .i64,.L,.B,.I .i64]),(6,.X 97 [.I .i64,.I .u64,.L,.L]),(8,.X 97 [.I .i64,.I .u64,.L,.L]),(21,wL),(22,wI),(23,wI)]),(956839,[(0,wQ),(4,.X 44 [.I .i64,.I .i64,.T,.L,.I .i64,.I .i64,.I .i64,.L,.B,.I .i64]),(6,.X 97 [.I .i64,.I .u64,.L,.L]),(8,.X 97 [.I .i64,.I .u64,.L,.L]),(10,.X 51 [.L,.L]),(11,wL),(21,wL),(22,wI),(23,wI),(46,wL),(47,wI),(48,wI)])]⟩
def ok:M.Ok:=⟨.cons call157 (.cons call158 (.cons call159 (AH.nil))),mixed,func122,by kernel_rfl⟩
def B4:=M.pt 0
def Ze:=M.pt 1
def Ku:=M.pt 2
def VC:=M.pt 3
def start (h:∀b4:Nat,∀b6:Nat,AF 159 #[.I FD] σ R (CI .u64 fun x16 y=>∀b8:Nat,Pq q0 fun Dl Vg=>LS y Dl Vg fun RW n21 Pp=>B4 R (aD Dl Vg) Bq BM FG FZ Fa Fb FD FE Dm F2 Fc F3 EC EB 0 0 none 0 0 none 0 0 3 x16 none 0 0 none 0 0 RW n21 Pp (n21:Int) 0 y)):Spec prog 122 #[.pointer q0,.agg #[.I Bq,.I BM,.string FG,.slice FZ Fa Fb,.I FD,.I FE,.I Dm,.slice F2 Fc F3,.bool EC,.I EB],.slice p2 n2 c2] σ R:=M.start h ok
def Ap (h:Br (GC<MH) (Pq RW fun H0 PT=>In GC (n21:Int)∧∃AQi AQj AQk AJT AJU AJV,Ae σ H0 (PT+GC.toNat*2) [.slice AQi AQj AQk,.slice AJT AJU AJV]∧∀FB:Nat,Pq q0 fun eh o30=>LI .i64 σ eh (o30+1) fun lv=>AG (lv-JA)∧AG ((lv-JA)-LC)∧LI .i64 σ eh (o30+1) fun La=>AG (La-JA)∧AF 157 #[.slice AJT AJU AJV,(.I ((lv-JA)-LC)),(.I (La-JA))] σ R (CS fun gy n46 eo y=>Ze R (aD eh o30) BZ BT MF JS JT JU LC JA LD LA LF LG MG ME A8 A9 BC BD BE Iz I0 I1 CO CP CV CN CR Hf Hg Hh AQi AQj AQk AJT AJU AJV none 0 0 (aD H0 PT) n21 Pp MH GC gy n46 eo (n46:Int) 0 y)) (R (.T #[.agg #[.I CO,.U CP,.slice CV CN CR,.slice Hf Hg Hh],.I 0]) σ)):B4 R q0 BZ BT MF JS JT JU LC JA LD LA LF LG MG ME A8 A9 BC BD BE Iz I0 I1 CO CP CV CN CR Hf Hg Hh RW n21 Pp MH GC σ:=M.ZP h ok rfl fun _ _ _=>by kernel_rfl
def Vu (h:Br (cV<vd) (Pq gy fun RM o50=>In cV (n46:Int)∧∃ACd r4,Ae σ RM (o50+cV.toNat*2) [.I ACd,.U r4]∧∀D9:Nat,Br (r4≠9218868437227405314) (Al σ fun b58=>AK prog (E3 163 M7 n11 PM b58) (Hp.set σ b58 (.cells #[.U r4] 57 (0,0))) (CS fun p59 n59 c59 y=>VC R q0 BZ BT MF JS JT JU LC JA LD LA LF LG MG ME A8 A9 BC BD BE Iz I0 I1 CO CP CV CN CR Hf Hg Hh Zd YI dG iU dH mE p59 n59 c59 RW n21 Pp MH GC (aD RM o50) n46 eo vd cV y)) (VC R q0 BZ BT MF JS JT JU LC JA LD LA LF LG MG ME A8 A9 BC BD BE Iz I0 I1 CO CP CV CN CR Hf Hg Hh Zd YI dG iU dH mE M7 n11 PM RW n21 Pp MH GC (aD RM o50) n46 eo vd cV σ)) (Br (0<(n11:Int)) (AF 158 #[.slice JS JT JU,.slice Zd YI dG] σ R (CB fun t69 y=>Bo t69 (Al y fun b77=>AK prog (E3 95 Hf Hg Hh b77) (Hp.set y b77 (.cells #[.slice Zd YI dG,.slice M7 n11 PM] 200 (0,0))) (CS fun tq rj tr AB=>Ku R q0 BZ BT MF JS JT JU LC JA LD LA LF LG MG ME A8 A9 BC BD BE Iz I0 I1 CO CP CV CN CR tq rj tr RW n21 Pp MH GC AB)) (Ku R q0 BZ BT MF JS JT JU LC JA LD LA LF LG MG ME A8 A9 BC BD BE Iz I0 I1 CO CP CV CN CR Hf Hg Hh RW n21 Pp MH GC y))) (Ku R q0 BZ BT MF JS JT JU LC JA LD LA LF LG MG ME A8 A9 BC BD BE Iz I0 I1 CO CP CV CN CR Hf Hg Hh RW n21 Pp MH GC σ))):Ze R q0 BZ BT MF JS JT JU LC JA LD LA LF LG MG ME A8 A9 BC BD BE Iz I0 I1 CO CP CV CN CR Hf Hg Hh Zd YI dG iU dH mE M7 n11 PM RW n21 Pp MH GC gy n46 eo vd cV σ:=M.of4 h ok rfl fun _ _ _ _=>by kernel_rfl
def JJ (h:AG (GC+1)∧B4 R q0 BZ BT MF JS JT JU LC JA LD LA LF LG MG ME A8 A9 BC BD BE Iz I0 I1 CO CP CV CN CR Hf Hg Hh RW n21 Pp MH (GC+1) σ):Ku R q0 BZ BT MF JS JT JU LC JA LD LA LF LG MG ME A8 A9 BC BD BE Iz I0 I1 CO CP CV CN CR Hf Hg Hh RW n21 Pp MH GC σ:=M.ZP h ok rfl fun _ _ _=>by kernel_rfl
def cX (h:AG (cV+1)∧Ze R q0 BZ BT MF JS JT JU LC JA LD LA LF LG MG ME A8 A9 BC BD BE Iz I0 I1 CO CP CV CN CR Hf Hg Hh Zd YI dG iU dH mE M7 n11 PM RW n21 Pp MH GC gy n46 eo vd (cV+1) σ):VC R q0 BZ BT MF JS JT JU LC JA LD LA LF LG MG ME A8 A9 BC BD BE Iz I0 I1 CO CP CV CN CR Hf Hg Hh Zd YI dG iU dH mE M7 n11 PM RW n21 Pp MH GC gy n46 eo vd cV σ:=M.of4 h ok rfl fun _ _ _ _=>by kernel_rfl
end AZ
namespace YJ
variable {Ac Ax Bb Be BI BO:Int}{BS:ByteArray}{CJ Bt:Option Addr}{CC CK Bh Bu:Nat}{Bg:Bool}
def M:Fw:=⟨prog,128,f128,[],[1,2],false,[(12,7,false),(15,7,false),(18,11,false),(21,15,false)],[],[]⟩
def ok:M.Ok:=⟨AH.nil,mixed,func128,by kernel_rfl⟩
def start (h:∀b1:Nat,∀b2:Nat,Al σ fun b3=>AK prog (Instr.storeAt 44 (.pointer (aD b3 0)) (.agg #[.I Ac,.I 0,(.string (ByteArray.mk #[])),.N,.I 0,.I 0,.I 0,.N,.bool false,.I 0])) (Hp.set σ b3 (.cells #[.I 0,.I 0,(.string (ByteArray.mk #[])),.N,.I 0,.I 0,.I 0,.N,.bool false,.I 0] 44 (0,0))) (fun _ y=>Br (Ac=1) (AK prog (Instr.storeAt 9 (.pointer (aD b3 2)) (.string BS)) y (fun _ AB=>∃xx xy yA yB yC yD yE yF yG yH yI yJ yK yL,Ae AB b3 0 [.I xx,.I xy,.string yA,.slice yB yC yD,.I yE,.I yF,.I yG,.slice yH yI yJ,.bool yK,.I yL]∧R (.returned (.agg #[.I xx,.I xy,.string yA,.slice yB yC yD,.I yE,.I yF,.I yG,.slice yH yI yJ,.bool yK,.I yL])) AB)) (Br (Ac=2) (AK prog (Instr.storeAt 2 (.pointer (aD b3 5)) (.I Be)) y (fun _ AB=>∃ZW rR rO AQl AQm AQn AQo AQp AQq AQr AQs AQt AQu AQv,Ae AB b3 0 [.I ZW,.I rR,.string rO,.slice AQl AQm AQn,.I AQo,.I AQp,.I AQq,.slice AQr AQs AQt,.bool AQu,.I AQv]∧R (.returned (.agg #[.I ZW,.I rR,.string rO,.slice AQl AQm AQn,.I AQo,.I AQp,.I AQq,.slice AQr AQs AQt,.bool AQu,.I AQv])) AB)) (Br (Ac=3) (AK prog (Instr.storeAt 2 (.pointer (aD b3 4)) (.I Bb)) y (fun _ AB=>AK prog (Instr.storeAt 2 (.pointer (aD b3 5)) (.I Be)) AB (fun _ AI=>∃gq AQw AQx AQy AQz AQ0 AQ1 AQ2 AQ3 AQ4 AQ5 AQ6 AQ7 AQ8,Ae AI b3 0 [.I gq,.I AQw,.string AQx,.slice AQy AQz AQ0,.I AQ1,.I AQ2,.I AQ3,.slice AQ4 AQ5 AQ6,.bool AQ7,.I AQ8]∧R (.returned (.agg #[.I gq,.I AQw,.string AQx,.slice AQy AQz AQ0,.I AQ1,.I AQ2,.I AQ3,.slice AQ4 AQ5 AQ6,.bool AQ7,.I AQ8])) AI))) (Br (Ac=4) (AK prog (Instr.storeAt 3 (.pointer (aD b3 1)) (.I Ax)) y (fun _ AB=>AK prog (Instr.storeAt 3 (.pointer (aD b3 9)) (.I BO)) AB (fun _ AI=>∃xl AQ9 ARA ARB ARC ARD ARE ARF ARG ARH ARI ARJ ARK ARL,Ae AI b3 0 [.I xl,.I AQ9,.string ARA,.slice ARB ARC ARD,.I ARE,.I ARF,.I ARG,.slice ARH ARI ARJ,.bool ARK,.I ARL]∧R (.returned (.agg #[.I xl,.I AQ9,.string ARA,.slice ARB ARC ARD,.I ARE,.I ARF,.I ARG,.slice ARH ARI ARJ,.bool ARK,.I ARL])) AI))) (Br (Ac=5) (AK prog (Instr.storeAt 3 (.pointer (aD b3 1)) (.I Ax)) y (fun _ AB=>AK prog (Instr.storeAt 3 (.pointer (aD b3 9)) (.I BO)) AB (fun _ AI=>AK prog (Instr.storeAt 3 (.pointer (aD b3 6)) (.I BI)) AI (fun _ AU=>∃wX wY ARM wZ wa wc ARN ARO ARP ARQ ARR ARS ART ARU,Ae AU b3 0 [.I wX,.I wY,.string ARM,.slice wZ wa wc,.I ARN,.I ARO,.I ARP,.slice ARQ ARR ARS,.bool ART,.I ARU]∧R (.returned (.agg #[.I wX,.I wY,.string ARM,.slice wZ wa wc,.I ARN,.I ARO,.I ARP,.slice ARQ ARR ARS,.bool ART,.I ARU])) AU)))) (Br (Ac=6) (AK prog (Instr.storeAt 3 (.pointer (aD b3 1)) (.I Ax)) y (fun _ AB=>AK prog (Instr.storeAt 3 (.pointer (aD b3 9)) (.I BO)) AB (fun _ AI=>AK prog (Instr.storeAt 4 (.pointer (aD b3 8)) (.bool Bg)) AI (fun _ AU=>AK prog (Instr.storeAt 3 (.pointer (aD b3 6)) (.I BI)) AU (fun _ DI=>∃ARV ARW ARX ARY ARZ ARa ARb ARc ARd ARe ARf ARg ARh ARi,Ae DI b3 0 [.I ARV,.I ARW,.string ARX,.slice ARY ARZ ARa,.I ARb,.I ARc,.I ARd,.slice ARe ARf ARg,.bool ARh,.I ARi]∧R (.returned (.agg #[.I ARV,.I ARW,.string ARX,.slice ARY ARZ ARa,.I ARb,.I ARc,.I ARd,.slice ARe ARf ARg,.bool ARh,.I ARi])) DI))))) (AK prog (Instr.storeAt 3 (.pointer (aD b3 9)) (.I BO)) y (fun _ AB=>∃ARj vw ARk ARl ARm ARn ARo ARp ARq ARr ARs ARt ARu ARv,Ae AB b3 0 [.I ARj,.I vw,.string ARk,.slice ARl ARm ARn,.I ARo,.I ARp,.I ARq,.slice ARr ARs ARt,.bool ARu,.I ARv]∧R (.returned (.agg #[.I ARj,.I vw,.string ARk,.slice ARl ARm ARn,.I ARo,.I ARp,.I ARq,.slice ARr ARs ARt,.bool ARu,.I ARv])) AB))))))))):Spec prog 128 #[.agg #[.I Ac,.I Ax,.string BS,.slice CJ CC CK,.I Bb,.I Be,.I BI,.slice Bt Bh Bu,.bool Bg,.I BO]] σ R:=M.start h ok
end YJ
namespace YK
variable {x0:Int}
def M:Fw:=⟨prog,133,f133,[],[],false,[],[],[]⟩
def ok:M.Ok:=⟨AH.nil,mixed,func133,by kernel_rfl⟩
def start (h:Br (1≤x0) (R (.returned (.bool (decide (x0≤4)))) σ) (R (.B false) σ)):Spec prog 133 #[.I x0] σ R:=M.start h ok
end YK
namespace Fz
variable {Ac Ax Bb Be BI BO:Int}{BS:ByteArray}{CJ Bt p1:Option Addr}{CC CK Bh Bu n1 c1 b2:Nat}{Bg:Bool}
def M:Fw:=⟨prog,135,f135,[],[3],false,[],[],[]⟩
def ok:M.Ok:=⟨AH.nil,mixed,func135,by kernel_rfl⟩
def start (h:∀b3:Nat,LI .i64 σ b2 0 fun x7=>R (.T #[.I x7,.I 0]) σ):Spec prog 135 #[.agg #[.I Ac,.I Ax,.string BS,.slice CJ CC CK,.I Bb,.I Be,.I BI,.slice Bt Bh Bu,.bool Bg,.I BO],.slice p1 n1 c1,(.pointer (aD b2 0))] σ R:=M.start h ok
end Fz
namespace Oe
variable {p0:Option Addr}{n0 c0:Nat}{s1:ByteArray}{x5:Int}
def M:Fw:=⟨prog,145,f145,[],[],false,[],[],[(208,[(0,wL),(1,wT),(5,wI)])]⟩
def ok:M.Ok:=⟨AH.nil,mixed,func145,by kernel_rfl⟩
def Fm:=M.pt 0
def start (h:Fm R p0 n0 c0 s1 0 σ):Spec prog 145 #[.slice p0 n0 c0,.string s1] σ R:=M.start h ok
def As (h:Br (x5<(n0:Int)) (Pq p0 fun DO U7=>In x5 (n0:Int)∧LT σ DO (U7+x5.toNat*2) fun s16=>Bo (ByteArray.toList s16==ByteArray.toList s1) (In x5 (n0:Int)∧LT σ DO ((U7+x5.toNat*2)+1) fun s23=>R (.returned (.string s23)) σ) (AG (x5+1)∧Fm R (aD DO U7) n0 c0 s1 (x5+1) σ)) (R (.returned (.string (ByteArray.mk #[]))) σ)):Fm R p0 n0 c0 s1 x5 σ:=M.of h ok rfl
end Oe
namespace Uf
variable {p0:Option Addr}{n0 c0:Nat}
def M:Fw:=⟨prog,150,f150,[103,147,187],[],false,[],[],[]⟩
def ok:M.Ok:=⟨.cons call103 (.cons call147 (.cons call187 (AH.nil))),mixed,func150,by kernel_rfl⟩
def start (h:AF 187 #[.slice p0 n0 c0] σ R (fun z y=>∃Zd YI dG iU dH mE rL,z=(.tuple #[.slice Zd YI dG,.slice iU dH mE,.I rL])∧Br (rL≠0) (R (.T #[.U 0,.I rL]) y) (AG ((n0:Int)-1)∧Pq Zd fun JH TP=>In ((if(1:Int)<((n0:Int)-1) then 1 else((n0:Int)-1))) (YI:Int)∧LI .u64 y JH (TP+Int.toNat (if(1:Int)<((n0:Int)-1) then 1 else((n0:Int)-1))*1) fun JG=>In ((if(1:Int)<((n0:Int)-1) then 1 else((n0:Int)-1))) (YI:Int)∧LI .u64 y JH (TP+Int.toNat (if(1:Int)<((n0:Int)-1) then 1 else((n0:Int)-1))*1) fun x29=>Pq iU fun yM o34=>In ((if(1:Int)<((n0:Int)-1) then 1 else((n0:Int)-1))) (dH:Int)∧LI .u64 y yM (o34+Int.toNat (if(1:Int)<((n0:Int)-1) then 1 else((n0:Int)-1))*1) fun QG=>In ((if(1:Int)<((n0:Int)-1) then 1 else((n0:Int)-1))) (dH:Int)∧LI .u64 y yM (o34+Int.toNat (if(1:Int)<((n0:Int)-1) then 1 else((n0:Int)-1))*1) fun eY=>AF 147 #[.U JG] y R (fun z AB=>∃Kz,(Value.float .f64 Kz)=z∧Kp [yM,yM,JH] y AB∧AF 147 #[.U x29] AB R (fun z AI=>∃LZ,(Value.float .f64 LZ)=z∧Kp [yM,yM] AB AI∧(AK prog (binOp .mul 73 (Value.float .f64 Kz) (Value.float .f64 LZ)) AI (fun z AU=>∃W5,(Value.float .f64 W5)=z∧Kp [yM,yM] AI AU∧AF 147 #[.U QG] AU R (fun z DI=>∃NB,(Value.float .f64 NB)=z∧Kp [yM] AU DI∧AF 147 #[.U eY] DI R (fun z Gi=>∃rU,(Value.float .f64 rU)=z∧AK prog (binOp .mul 73 (Value.float .f64 NB) (Value.float .f64 rU)) Gi (fun z Pn=>∃La,(Value.float .f64 La)=z∧AK prog (binOp .add 73 (Value.float .f64 W5) (Value.float .f64 La)) Pn (fun z Qv=>∃QF,(Value.float .f64 QF)=z∧AF 103 #[(Value.float .f64 QF)] Qv R (CI .u64 fun Vk gH=>R (.T #[.U Vk,.I 0]) gH)))))))∧(AF 147 #[.U QG] AI R (fun z AU=>∃NB,(Value.float .f64 NB)=z∧Kp [yM] AI AU∧(AK prog (binOp .mul 73 (Value.float .f64 Kz) (Value.float .f64 LZ)) AU (fun z DI=>∃W5,(Value.float .f64 W5)=z∧Kp [yM] AU DI∧AF 147 #[.U eY] DI R (fun z Gi=>∃rU,(Value.float .f64 rU)=z∧AK prog (binOp .mul 73 (Value.float .f64 NB) (Value.float .f64 rU)) Gi (fun z Pn=>∃La,(Value.float .f64 La)=z∧AK prog (binOp .add 73 (Value.float .f64 W5) (Value.float .f64 La)) Pn (fun z Qv=>∃QF,(Value.float .f64 QF)=z∧AF 103 #[(Value.float .f64 QF)] Qv R (CI .u64 fun Vk gH=>R (.T #[.U Vk,.I 0]) gH))))))∧(AF 147 #[.U eY] AU R (fun z DI=>∃rU,(Value.float .f64 rU)=z∧(AK prog (binOp .mul 73 (Value.float .f64 Kz) (Value.float .f64 LZ)) DI (fun z Gi=>∃W5,(Value.float .f64 W5)=z∧AK prog (binOp .mul 73 (Value.float .f64 NB) (Value.float .f64 rU)) Gi (fun z Pn=>∃La,(Value.float .f64 La)=z∧AK prog (binOp .add 73 (Value.float .f64 W5) (Value.float .f64 La)) Pn (fun z Qv=>∃QF,(Value.float .f64 QF)=z∧AF 103 #[(Value.float .f64 QF)] Qv R (CI .u64 fun Vk gH=>R (.T #[.U Vk,.I 0]) gH)))))∧(AK prog (binOp .mul 73 (Value.float .f64 NB) (Value.float .f64 rU)) DI (fun z Gi=>∃La,(Value.float .f64 La)=z∧AK prog (binOp .mul 73 (Value.float .f64 Kz) (Value.float .f64 LZ)) Gi (fun z Pn=>∃W5,(Value.float .f64 W5)=z∧AK prog (binOp .add 73 (Value.float .f64 W5) (Value.float .f64 La)) Pn (fun z Qv=>∃QF,(Value.float .f64 QF)=z∧AF 103 #[(Value.float .f64 QF)] Qv R (CI .u64 fun Vk gH=>R (.T #[.U Vk,.I 0]) gH)))))))))))))):Spec prog 150 #[.slice p0 n0 c0] σ R:=M.start h ok
end Uf
namespace Ug
variable {x0:Int}
def M:Fw:=⟨prog,151,f151,[103],[],false,[],[],[]⟩
def ok:M.Ok:=⟨.cons call103 (AH.nil),mixed,func151,by kernel_rfl⟩
def start (h:AK prog (convert 2 73 (.I x0)) σ (fun z y=>∃x4,(Value.float .f64 x4)=z∧AF 103 #[(Value.float .f64 x4)] y R (CI .u64 fun x5 AB=>R (.returned (.U x5)) AB))):Spec prog 151 #[.I x0] σ R:=M.start h ok
end Ug
namespace Jq
variable {p0:Option Addr}{n0 c0:Nat}
def M:Fw:=⟨prog,171,f171,[159],[],false,[],[],[]⟩
def ok:M.Ok:=⟨.cons call159 (AH.nil),mixed,func171,by kernel_rfl⟩
def start (h:AF 159 #[(.I (n0:Int))] σ R (CI .u64 fun x5 y=>R (.returned (.U x5)) y)):Spec prog 171 #[.slice p0 n0 c0] σ R:=M.start h ok
end Jq
namespace Uh
variable {s0:ByteArray}
def M:Fw:=⟨prog,188,f188,[228],[],false,[],[],[]⟩
def ok:M.Ok:=⟨.cons call228 (AH.nil),mixed,func188,by kernel_rfl⟩
def start (h:AF 228 #[.string s0] σ R (CI .i64 fun x6 y=>Br (x6=0) (R (.B false) y) (Br (1<x6) (∃PU:UInt8,(0:Int)≤0∧(ByteArray.data s0)[Int.toNat 0]?=some PU∧Br (((PU.toNat:Int):Int)=48) (R (.B false) y) (Br (x6=(s0.size:Int)) (R (.returned (.bool (decide (x6≤15)))) y) (AG (x6+1)∧∃s27,YF prog (Instr.sliceAt 9 (.string s0) (some (.I (x6+1))) none none) y (.string s27)∧AF 228 #[.string s27] y R (CI .i64 fun QN AB=>∃QP:UInt8,0≤x6∧(ByteArray.data s0)[x6.toNat]?=some QP∧Br (((QP.toNat:Int):Int)=46) (Br (0<QN) (AG (x6+1)∧AG ((x6+1)+QN)∧Br ((((x6+1)+QN):Int)=(s0.size:Int)) (AG (x6+QN)∧R (.returned (.bool (decide (((x6+QN):Int)≤15)))) AB) (R (.B false) AB)) (R (.B false) AB)) (R (.B false) AB))))) (Br (x6=(s0.size:Int)) (R (.returned (.bool (decide (x6≤15)))) y) (AG (x6+1)∧∃s27,YF prog (Instr.sliceAt 9 (.string s0) (some (.I (x6+1))) none none) y (.string s27)∧AF 228 #[.string s27] y R (CI .i64 fun QN AB=>∃QP:UInt8,0≤x6∧(ByteArray.data s0)[x6.toNat]?=some QP∧Br (((QP.toNat:Int):Int)=46) (Br (0<QN) (AG (x6+1)∧AG ((x6+1)+QN)∧Br ((((x6+1)+QN):Int)=(s0.size:Int)) (AG (x6+QN)∧R (.returned (.bool (decide (((x6+QN):Int)≤15)))) AB) (R (.B false) AB)) (R (.B false) AB)) (R (.B false) AB))))))):Spec prog 188 #[.string s0] σ R:=M.start h ok
end Uh
namespace C7
variable {p0:Option Addr}{n0 c0:Nat}{x3:Int}
def M:Fw:=⟨prog,202,f202,[237],[],false,[],[],[(224,[(0,wL),(3,wI)])]⟩
def ok:M.Ok:=⟨.cons call237 (AH.nil),mixed,func202,by kernel_rfl⟩
def Fm:=M.pt 0
def start (h:Fm R p0 n0 c0 8 σ):Spec prog 202 #[.slice p0 n0 c0] σ R:=M.start h ok
def As (h:Br ((n0:Int)<x3) (2≠(0:Int)∧Df (IntKind.i64.wrap (Int.tdiv x3 2)) fun x11=>Fm R p0 n0 c0 x11 σ) (AG ((n0:Int)-x3)∧((0:Int)≤((n0:Int)-x3)∧((n0:Int)-x3)≤(n0:Int))∧AF 237 #[(.slice (MK p0 (Int.toNat ((n0:Int)-x3)) c0 1) (n0-Int.toNat ((n0:Int)-x3)) (c0-Int.toNat ((n0:Int)-x3)))] σ R (fun z y=>∃Ta cW,z=(.tuple #[.U Ta,.I cW])∧R (.returned (.U Ta)) y))):Fm R p0 n0 c0 x3 σ:=M.of h ok rfl
end C7
namespace R4
variable {f0:Fn}{a0 c0:Array Value}
def M:Fw:=⟨prog,203,f203,[],[],false,[],[],[]⟩
def ok:M.Ok:=⟨AH.nil,mixed,func203,by kernel_rfl⟩
def start (h:Al σ fun b1=>R (.returned (.func (.func 238) #[] #[(.pointer (aD b1 0))])) (Hp.set σ b1 (.cells #[(Value.func f0 a0 c0)] 242 (0,0)))):Spec prog 203 #[(Value.func f0 a0 c0)] σ R:=M.HF h ok [(0,.o (.V (Value.func f0 a0 c0)))] rfl rfl (by kernel_rfl)
end R4
namespace strings_Split
variable {s0 s1:ByteArray}
end strings_Split
namespace DF
variable {ZY p8:Option Addr}{QH Wn n8 c8:Nat}{s1:ByteArray}{x9 x10:Int}
def M:Fw:=⟨prog,249,f249,[268],[2,6],false,[],[],[(104,[(1,wT),(8,wL),(9,wI),(10,wI)])]⟩
def ok:M.Ok:=⟨.cons call268 (AH.nil),mixed,func249,by kernel_rfl⟩
def Q2:=M.pt 0
def start (h:∀b2:Nat,Q2 R s1 ZY QH Wn (QH:Int) 0 σ):Spec prog 249 #[.agg #[.slice ZY QH Wn],.string s1] σ R:=M.start h ok
def FO (h:Br (x10<x9) (Pq p8 fun Dd TY=>In x10 (n8:Int)∧∃ARw ARx ARy,Ae σ Dd (TY+x10.toNat*1) [.slice ARw ARx ARy]∧∀b6:Nat,AF 268 #[.agg #[.slice ARw ARx ARy],.string s1] σ R (CB fun t16 y=>Bo t16 (R (.B true) y) (AG (x10+1)∧Q2 R s1 (aD Dd TY) n8 c8 x9 (x10+1) y))) (R (.B false) σ)):Q2 R s1 p8 n8 c8 x9 x10 σ:=M.of h ok rfl
end DF
namespace AE
variable {s0:ByteArray}{x2 x3 x7 x10 x11 x12 x15 x16 x17 FV II:Int}{t4 t5 t6 t8 t9 t13 t14:Bool}
def M:Fw:=⟨prog,277,f277,[300,301],[],false,[],[],[(110,[(0,wT),(2,wU),(3,wI),(4,wB),(5,wB),(6,wB),(7,wI),(8,wB),(9,wB)]),(1790,[(0,wT),(2,wU),(3,wI),(4,wB),(5,wB),(6,wB),(7,wI),(8,wB),(9,wB),(10,wU),(11,wI),(12,w8)]),(1834976,[(0,wT),(2,wU),(3,wI),(4,wB),(5,wB),(6,wB),(7,wI),(8,wB),(9,wB),(10,wU),(11,wI),(12,w8),(13,wB),(14,wB),(15,wI),(16,wI),(17,wI)]),(458748,[(0,wT),(2,wU),(3,wI),(4,wB),(5,wB),(6,wB),(7,wI),(8,wB),(9,wB),(10,wU),(12,w8),(13,wB),(14,wB),(15,wI),(16,wI),(17,wI)]),(1835004,[(0,wT),(2,wU),(3,wI),(4,wB),(5,wB),(6,wB),(7,wI),(8,wB),(9,wB),(10,wU),(12,w8),(16,wI),(17,wI)]),(3670012,[(0,wT),(2,wU),(3,wI),(4,wB),(5,wB),(6,wB),(7,wI),(8,wB),(9,wB),(10,wU),(12,w8),(16,wI),(17,wI)]),(7340028,[(0,wT),(2,wU),(3,wI),(4,wB),(5,wB),(6,wB),(7,wI),(8,wB),(9,wB),(16,wI),(17,wI)]),(14680060,[(0,wT),(2,wU),(3,wI),(4,wB),(5,wB),(6,wB),(7,wI),(8,wB),(9,wB)]),(469761724,[(0,wT),(2,wU),(3,wI),(4,wB),(5,wB),(6,wB),(7,wI),(8,wB),(9,wB),(16,wI),(17,wI),(19,wI)]),(15032375264,[(0,wT),(2,wU),(3,wI),(4,wB),(5,wB),(6,wB),(7,wI),(8,wB),(9,wB),(16,wI),(17,wI),(19,wI),(20,wI)]),(15032375267,[(0,wT),(2,wU),(3,wI),(4,wB),(5,wB),(6,wB),(7,wI),(8,wB),(9,wB),(16,wI),(17,wI),(19,wI),(20,wI)]),(1834979,[(0,wT),(2,wU),(3,wI),(4,wB),(5,wB),(6,wB),(7,wI),(8,wB),(9,wB),(10,wU),(11,wI),(12,w8),(13,wB),(14,wB),(15,wI),(16,wI),(17,wI)])]⟩
def ok:M.Ok:=⟨.cons call300 (.cons call301 (AH.nil)),mixed,func277,by kernel_rfl⟩
def Ze:=M.pt 0
def Ku:=M.pt 1
def yN:=M.pt 2
def R5:=M.pt 3
def pH:=M.pt 4
def yO:=M.pt 5
def yP:=M.pt 6
def yQ:=M.pt 7
def yR:=M.pt 8
def Il:=M.pt 11
def start (h:Br (((s0.size:Int):Int)≤0) (R (.T #[.U 0,.I 0,.bool false,.bool false,.bool false,.I 0,.bool false]) σ) (∃u27:UInt8,(0:Int)≤0∧(ByteArray.data s0)[Int.toNat 0]?=some u27∧Br (((u27.toNat:Int):Int)=43) (AG (0+1)∧Ze R s0 0 0 false false false (0+1) false false σ) (Br (((u27.toNat:Int):Int)=45) (AG (0+1)∧Ze R s0 0 0 true false false (0+1) false false σ) (Ze R s0 0 0 false false false 0 false false σ)))):Spec prog 277 #[.string s0] σ R:=M.start h ok
def Vu (h:AG (x7+2)∧Br (((x7+2):Int)<(s0.size:Int)) (∃u44:UInt8,0≤x7∧(ByteArray.data s0)[x7.toNat]?=some u44∧Br (((u44.toNat:Int):Int)=48) (AG (x7+1)∧∃u51:UInt8,(0:Int)≤(x7+1)∧(ByteArray.data s0)[Int.toNat (x7+1)]?=some u51∧AF 300 #[(.int .u8 (u51.toNat:Int))] σ R (CI .u8 fun x52 y=>Br (x52=120) (AG (x7+2)∧Ku R s0 x2 x3 t4 t5 true (x7+2) t8 t9 16 16 112 y) (Ku R s0 x2 x3 t4 t5 t6 x7 t8 t9 10 19 101 y))) (Ku R s0 x2 x3 t4 t5 t6 x7 t8 t9 10 19 101 σ)) (Ku R s0 x2 x3 t4 t5 t6 x7 t8 t9 10 19 101 σ)):Ze R s0 x2 x3 t4 t5 t6 x7 t8 t9 σ:=M.of h ok rfl
def JJ (h:yN R s0 x2 x3 t4 t5 t6 x7 t8 t9 x10 x11 x12 false false 0 0 0 σ):Ku R s0 x2 x3 t4 t5 t6 x7 t8 t9 x10 x11 x12 σ:=M.of h ok rfl
def pI (h:Br (x7<(s0.size:Int)) (∃kC:UInt8,0≤x7∧(ByteArray.data s0)[x7.toNat]?=some kC∧Br (((kC.toNat:Int):Int)=95) (Il R s0 x2 x3 t4 t5 t6 x7 t8 true x10 x11 x12 t13 t14 x15 x16 x17 σ) (Br (((kC.toNat:Int):Int)=46) (Bo t13 (R5 R s0 x2 x3 t4 t5 t6 x7 t8 t9 x10 x12 true t14 x15 x16 x17 σ) (Il R s0 x2 x3 t4 t5 t6 x7 t8 t9 x10 x11 x12 true t14 x15 x16 x15 σ)) (Br ((48:Int)≤(kC.toNat:Int)) (Br (((kC.toNat:Int):Int)≤57) (Br (((kC.toNat:Int):Int)=48) (Br (x15=0) (AG (x17-1)∧Il R s0 x2 x3 t4 t5 t6 x7 t8 t9 x10 x11 x12 t13 true x15 x16 (x17-1) σ) (AG (x15+1)∧Br (x16<x11) (Df (IntKind.u64.wrap (x2*x10)) fun x99=>Df (IntKind.u8.wrap ((kC.toNat:Int)-48)) fun gX=>Df (IntKind.u64.wrap gX) fun gY=>Df (IntKind.u64.wrap (x99+gY)) fun mF=>AG (x16+1)∧Il R s0 mF x3 t4 t5 t6 x7 t8 t9 x10 x11 x12 t13 true (x15+1) (x16+1) x17 σ) (Br (((kC.toNat:Int):Int)≠48) (Il R s0 x2 x3 t4 true t6 x7 t8 t9 x10 x11 x12 t13 true (x15+1) x16 x17 σ) (Il R s0 x2 x3 t4 t5 t6 x7 t8 t9 x10 x11 x12 t13 true (x15+1) x16 x17 σ)))) (AG (x15+1)∧Br (x16<x11) (Df (IntKind.u64.wrap (x2*x10)) fun x99=>Df (IntKind.u8.wrap ((kC.toNat:Int)-48)) fun gX=>Df (IntKind.u64.wrap gX) fun gY=>Df (IntKind.u64.wrap (x99+gY)) fun mF=>AG (x16+1)∧Il R s0 mF x3 t4 t5 t6 x7 t8 t9 x10 x11 x12 t13 true (x15+1) (x16+1) x17 σ) (Br (((kC.toNat:Int):Int)≠48) (Il R s0 x2 x3 t4 true t6 x7 t8 t9 x10 x11 x12 t13 true (x15+1) x16 x17 σ) (Il R s0 x2 x3 t4 t5 t6 x7 t8 t9 x10 x11 x12 t13 true (x15+1) x16 x17 σ)))) (Br (x10=16) (AF 300 #[(.int .u8 (kC.toNat:Int))] σ R (CI .u8 fun AJW y=>Br (97≤AJW) (AF 300 #[(.int .u8 (kC.toNat:Int))] y R (CI .u8 fun AJX AB=>Br (AJX≤102) (AG (x15+1)∧Br (x16<x11) (Df (IntKind.u64.wrap (x2*16)) fun Wr=>AF 300 #[(.int .u8 (kC.toNat:Int))] AB R (CI .u8 fun AJY AI=>Df (IntKind.u8.wrap (AJY-97)) fun AJZ=>Df (IntKind.u8.wrap (AJZ+10)) fun AJa=>Df (IntKind.u64.wrap AJa) fun Wu=>Df (IntKind.u64.wrap (Wr+Wu)) fun Wv=>AG (x16+1)∧Il R s0 Wv x3 t4 t5 t6 x7 t8 t9 x10 x11 x12 t13 true (x15+1) (x16+1) x17 AI)) (Il R s0 x2 x3 t4 true t6 x7 t8 t9 x10 x11 x12 t13 true (x15+1) x16 x17 AB)) (R5 R s0 x2 x3 t4 t5 t6 x7 t8 t9 x10 x12 t13 t14 x15 x16 x17 AB))) (R5 R s0 x2 x3 t4 t5 t6 x7 t8 t9 x10 x12 t13 t14 x15 x16 x17 y))) (R5 R s0 x2 x3 t4 t5 t6 x7 t8 t9 x10 x12 t13 t14 x15 x16 x17 σ))) (Br (x10=16) (AF 300 #[(.int .u8 (kC.toNat:Int))] σ R (CI .u8 fun AJW y=>Br (97≤AJW) (AF 300 #[(.int .u8 (kC.toNat:Int))] y R (CI .u8 fun AJX AB=>Br (AJX≤102) (AG (x15+1)∧Br (x16<x11) (Df (IntKind.u64.wrap (x2*16)) fun Wr=>AF 300 #[(.int .u8 (kC.toNat:Int))] AB R (CI .u8 fun AJY AI=>Df (IntKind.u8.wrap (AJY-97)) fun AJZ=>Df (IntKind.u8.wrap (AJZ+10)) fun AJa=>Df (IntKind.u64.wrap AJa) fun Wu=>Df (IntKind.u64.wrap (Wr+Wu)) fun Wv=>AG (x16+1)∧Il R s0 Wv x3 t4 t5 t6 x7 t8 t9 x10 x11 x12 t13 true (x15+1) (x16+1) x17 AI)) (Il R s0 x2 x3 t4 true t6 x7 t8 t9 x10 x11 x12 t13 true (x15+1) x16 x17 AB)) (R5 R s0 x2 x3 t4 t5 t6 x7 t8 t9 x10 x12 t13 t14 x15 x16 x17 AB))) (R5 R s0 x2 x3 t4 t5 t6 x7 t8 t9 x10 x12 t13 t14 x15 x16 x17 y))) (R5 R s0 x2 x3 t4 t5 t6 x7 t8 t9 x10 x12 t13 t14 x15 x16 x17 σ))))) (R5 R s0 x2 x3 t4 t5 t6 x7 t8 t9 x10 x12 t13 t14 x15 x16 x17 σ)):yN R s0 x2 x3 t4 t5 t6 x7 t8 t9 x10 x11 x12 t13 t14 x15 x16 x17 σ:=M.of h ok rfl
def yS (h:Bn t14 (R (.T #[.U x2,.I x3,.bool t4,.bool t5,.bool t6,.I x7,.bool t8]) σ) (Bn t13 (pH R s0 x2 x3 t4 t5 t6 x7 t8 t9 x10 x12 x16 x15 σ) (pH R s0 x2 x3 t4 t5 t6 x7 t8 t9 x10 x12 x16 x17 σ))):R5 R s0 x2 x3 t4 t5 t6 x7 t8 t9 x10 x12 t13 t14 x15 x16 x17 σ:=M.of h ok rfl
def yT (h:Br (x10=16) (AG (x17*4)∧AG (x16*4)∧yO R s0 x2 x3 t4 t5 t6 x7 t8 t9 x10 x12 (x16*4) (x17*4) σ) (yO R s0 x2 x3 t4 t5 t6 x7 t8 t9 x10 x12 x16 x17 σ)):pH R s0 x2 x3 t4 t5 t6 x7 t8 t9 x10 x12 x16 x17 σ:=M.of h ok rfl
def yU (h:Br (x7<(s0.size:Int)) (∃ARz:UInt8,0≤x7∧(ByteArray.data s0)[x7.toNat]?=some ARz∧AF 300 #[(.int .u8 (ARz.toNat:Int))] σ R (CI .u8 fun AXo y=>Br (AXo=x12) (AG (x7+1)∧Br (((s0.size:Int):Int)≤(x7+1)) (R (.T #[.U x2,.I x3,.bool t4,.bool t5,.bool t6,(.I (x7+1)),.bool t8]) y) (∃AJb:UInt8,(0:Int)≤(x7+1)∧(ByteArray.data s0)[Int.toNat (x7+1)]?=some AJb∧Br (((AJb.toNat:Int):Int)=43) (AG ((x7+1)+1)∧yR R s0 x2 x3 t4 t5 t6 (((x7+1)+1)) t8 t9 x16 x17 1 y) (Br (((AJb.toNat:Int):Int)=45) (AG ((x7+1)+1)∧yR R s0 x2 x3 t4 t5 t6 (((x7+1)+1)) t8 t9 x16 x17 (-1) y) (yR R s0 x2 x3 t4 t5 t6 (x7+1) t8 t9 x16 x17 1 y)))) (Br (x10=16) (R (.T #[.U x2,.I x3,.bool t4,.bool t5,.bool t6,.I x7,.bool t8]) y) (yP R s0 x2 x3 t4 t5 t6 x7 t8 t9 x16 x17 y)))) (Br (x10=16) (R (.T #[.U x2,.I x3,.bool t4,.bool t5,.bool t6,.I x7,.bool t8]) σ) (yP R s0 x2 x3 t4 t5 t6 x7 t8 t9 x16 x17 σ))):yO R s0 x2 x3 t4 t5 t6 x7 t8 t9 x10 x12 x16 x17 σ:=M.of h ok rfl
def yV (h:Br (x2≠0) (AG (x17-x16)∧yQ R s0 x2 (x17-x16) t4 t5 t6 x7 t8 t9 σ) (yQ R s0 x2 x3 t4 t5 t6 x7 t8 t9 σ)):yP R s0 x2 x3 t4 t5 t6 x7 t8 t9 x16 x17 σ:=M.of h ok rfl
def iV (h:Bo t9 (∃AR0,YF prog (Instr.sliceAt 9 (.string s0) none (some (.I x7)) none) σ (.string AR0)∧AF 301 #[.string AR0] σ R (CB fun t250 y=>Bn t250 (R (.T #[.U x2,.I x3,.bool t4,.bool t5,.bool t6,.I x7,.bool t8]) y) (R (.T #[.U x2,.I x3,.bool t4,.bool t5,.bool t6,.I x7,.bool true]) y))) (R (.T #[.U x2,.I x3,.bool t4,.bool t5,.bool t6,.I x7,.bool true]) σ)):yQ R s0 x2 x3 t4 t5 t6 x7 t8 t9 σ:=M.of h ok rfl
def yW (h:AG (x7+1)∧yN R s0 x2 x3 t4 t5 t6 (x7+1) t8 t9 x10 x11 x12 t13 t14 x15 x16 x17 σ):Il R s0 x2 x3 t4 t5 t6 x7 t8 t9 x10 x11 x12 t13 t14 x15 x16 x17 σ:=M.of h ok rfl
end AE
end TwW
end
end
section
namespace Tw
open Go
variable [G9]
def BP (τ:Hp):List (Nat×Obj)→Hp
 | []=>τ
 | (b,o)::L=>(BP τ L).set b o
abbrev names (L:List (Nat×Obj)):List Nat:=L.map Prod.fst
section
variable {τ:Hp}{L:List (Nat×Obj)}{b i:Nat}{o o':Obj}
theorem Lk (h:b ∉ names L):BP τ L b=τ b:=by
 induction L with
 | nil=>rfl
 | cons p L ih=>
  simp only[names,Ai4,AiT,not_or]at h;simp only[BP,Hp.AM h.1];exact ih h.2
theorem HS:∀{L:List (Nat×Obj)} {i:Nat},(names L).Nodup→L[i]?=some (b,o)→BP τ L b=some o
 | p::L,0,_,h=>by simp at h;subst h;exact Hp.AA _ _ _
 | p::L,i+1,hn,h=>by
  simp only[Ai3]at h;have hm:b∈names L:=List.mem_map.2 ⟨_,AiM h,rfl⟩;have hn:=List.nodup_cons.1 (show(p.1::names L).Nodup from hn);have Ah:b≠p.1:=fun e=>hn.1 (e▸hm);simp only[BP,Hp.AM Ah];exact HS hn.2 h
theorem Hp.Ll {σ:Hp}{a b:Nat}{o u:Obj}(h:a≠b):(σ.set a o).set b u=(σ.set b u).set a o:=by
 funext k
 simp only[Hp.set];by_cases h1:k=a
 ·subst h1;simp[h]
 ·simp[h1]
theorem R6:∀{L:List (Nat×Obj)} {i:Nat},(names L).Nodup→L[i]?=some (b,o)→(BP τ L).set b o'=BP τ (L.set i (b,o'))
 | p::L,0,_,h=>by simp at h;subst h;exact Hp.set_set
 | p::L,i+1,hn,h=>by
  simp only[Ai3]at h;have hm:b∈names L:=List.mem_map.2 ⟨_,AiM h,rfl⟩;have hn:=List.nodup_cons.1 (show(p.1::names L).Nodup from hn);have Ah:b≠p.1:=fun e=>hn.1 (e▸hm);simp only[BP,List.set_cons_succ];rw[Hp.Ll (AjI Ah),R6 hn.2 h]
theorem Jr:∀{L:List (Nat×Obj)},b ∉ names L→(BP τ L).set b o=BP (τ.set b o) L
 | [],_=>rfl
 | p::L,h=>by
  simp only[names,Ai4,AiT,not_or]at h;simp only[BP];rw[Hp.Ll (AjI h.1),Jr h.2]
theorem al:∀{L:List (Nat×Obj)},b∈names L→BP τ L b≠none
 | p::L,h=>by
  by_cases hb:b=p.1
  ·subst hb;simp only[BP,Hp.AA];simp
  ·simp only[names,Ai4,AiT]at h;simp only[BP,Hp.AM hb];exact al (h.resolve_left hb)
theorem Dx (h:BP τ L b=none):b ∉ names L∧τ b=none:=by
 have hs:∀{L:List (Nat×Obj)},b ∉ names L→BP τ L b=τ b:=Lk;have hn:b ∉ names L:=fun hm=>al hm h;exact⟨hn,(hs hn).symm.trans h⟩
def Ui (L:List (Nat×Obj))(τ:Hp):Prop:=∀b∈names L,τ b=none
theorem Ui.ext {τ:Hp}:∀{L:List (Nat×Obj)},(names L).Nodup→Ui L τ→Ext τ (BP τ L)
 | [],_,_=>.refl τ
 | p::L,hn,h=>by
  have hn:=List.nodup_cons.1 (show(p.1::names L).Nodup from hn);have ih:=Ui.ext hn.2 (fun b hb=>h b (AiX _ hb));refine ih.trans (.set ?_);rw[Lk hn.1];exact h _ (Aih ..)
theorem Ui.set {τ:Hp}{b:Nat}{o:Obj}(h:Ui L τ)(hb:b ∉ names L):Ui L (τ.set b o):=fun c hc=>by
 have Ah:c≠b:=fun e=>hb (e▸hc);rw[Hp.AM Ah];exact h c hc
end
theorem Spec.HT {P:Program}{f:FuncId}{args:Array Value}{τ:Hp}:∀{L:List (Nat×Obj)} {R:Rr},(names L).Nodup→Ui L τ→
  Spec P f args τ (fun e τ'=>Ui L τ'→R e (BP τ' L))→Spec P f args (BP τ L) R
 | [],R,_,_,h=>h.mono fun e τ' hr=>hr (fun b hb=>by cases hb)
 | p::L,R,hn,ho,h=>by
  have hn:=List.nodup_cons.1 (show(p.1::names L).Nodup from hn);refine Spec.F6 (by rw[Lk hn.1];exact ho _ (Aih ..)) ?_;refine Spec.HT hn.2 (fun b hb=>ho b (AiX _ hb)) (h.mono fun e τ' hr Zf Hj=>hr fun b hb=>?_);rcases AiT.1 (show b∈p.1::names L from hb) with rfl|hb
  ·rw[Lk hn.1]at Hj;exact Hj
  ·exact Zf b hb
theorem AK.HT {P:Program}{α:Type}{m:Sem α}{τ:Hp}:∀{L:List (Nat×Obj)} {Φ:α→Hp→Prop},(names L).Nodup→Ui L τ→
  AK P m τ (fun v τ'=>Ui L τ'→Φ v (BP τ' L))→AK P m (BP τ L) Φ
 | [],R,_,_,h=>h.mono fun e τ' hr=>hr (fun b hb=>by cases hb)
 | p::L,R,hn,ho,h=>by
  have hn:=List.nodup_cons.1 (show(p.1::names L).Nodup from hn);refine AK.F6 (by rw[Lk hn.1];exact ho _ (Aih ..)) ?_;refine AK.HT hn.2 (fun b hb=>ho b (AiX _ hb)) (h.mono fun e τ' hr Zf Hj=>hr fun b hb=>?_);rcases AiT.1 (show b∈p.1::names L from hb) with rfl|hb
  ·rw[Lk hn.1]at Hj;exact Hj
  ·exact Zf b hb
theorem AK.YL {P:Program}{τ:Hp}{L:List (Nat×Obj)}{i b n o:Nat}{T t:TypeId}{c c':Array Value}{v:Value}{Φ:Unit→Hp→Prop}(hz:∀w,(Go.sizeOf T).run P w=.ok n w)(hn:(names L).Nodup)(hi:L[i]?=some (b,.cells c t (0,0)))
  (hv:v.cells.size=n) (hl:Nat.ble (o+n) c.size=true) (h1:(v.cells.toList.all fun u=>u.oneCell')=true) (hc:Qp c o v.cells.toList=c') (h:Φ () (BP τ (L.set i (b,.cells c' t (0,0))))) :
  AK P (Instr.storeAt T (.pointer (some ⟨b,o,none⟩)) v) (BP τ L) Φ:=by
 subst hc;refine AK.store hz (HS hn hi) hv (AjF hl) (fun u hu=>List.all_eq_true.1 h1 u hu) ?_;rw[R6 hn hi];exact h
theorem iW {τ:Hp}{L:List (Nat×Obj)}{i b o:Nat}{t:TypeId}{c:Array Value}{v:Value}(hn:(names L).Nodup)(hi:L[i]?=some (b,.cells c t (0,0)))(h:c[o]?=some v):Hp.ld (BP τ L) ⟨b,o,none⟩=some v:=by
 simp[Hp.ld,HS hn hi,h]
end Tw
end
