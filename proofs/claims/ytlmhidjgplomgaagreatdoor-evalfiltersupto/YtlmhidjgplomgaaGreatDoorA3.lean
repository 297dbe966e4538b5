/-
  Part 3 of the proof that the law EvalFiltersUptoCardSaid of the given program answers true for every input of the given statement; the input reads behind the call as it did. (The texts: packed from 15 texts. Names are shortened by the packing program, for the bound on size.)
-/
import Derived.Test.YtlmhidjgplomgaaGreatDoorA2
import Derived.Laws.BytesArg
import Derived.Laws.Bits64b
import Derived.Laws.IdiomStrings
import Derived.Lib.Bytealg
import Derived.Lib.Split
import Derived.Lib.Index
set_option linter.all false
section
set_option maxRecDepth 100000
noncomputable section
namespace TwW
open Go Tw Go.Proofs.Tryz
variable [E5] {R : Rr} {σ : Hp}

namespace P2
def M : Fw := ⟨prog,14,f14,[11,15,25,35,36],[],false,[],[],[]⟩
theorem ok : M.Ok := ⟨.cons call11 (.cons call15 (.cons call25 (.cons call35 (.cons call36 (AG.nil))))),mixed,func14,by kernel_rfl⟩
theorem start (h : Al σ fun BG => Spec prog 25 #[.float .f64 4607182418800017408] (Hp.set σ BG (.cells #[(.string (ByteArray.mk #[95,95,110,97,109,101,95,95])),(.string (ByteArray.mk #[120])),(.string (ByteArray.mk #[97])),(.string (ByteArray.mk #[49]))] 56 (0,0))) (AA R (CI .u64 fun x12 y => Spec prog 25 #[.float .f64 4613937818241073152] y (AA R (CI .u64 fun QY AF => Al AF fun H0 => Al (Hp.set AF H0 (.cells #[.int .i64 0,.int .u64 x12,.int .i64 60,.int .u64 QY] 50 (0,0))) fun Yc => Spec prog 25 #[.float .f64 4617315517961601024] (Hp.set (Hp.set AF H0 (.cells #[.int .i64 0,.int .u64 x12,.int .i64 60,.int .u64 QY] 50 (0,0))) Yc (.cells #[(.string (ByteArray.mk #[95,95,110,97,109,101,95,95])),(.string (ByteArray.mk #[120])),(.string (ByteArray.mk #[97])),(.string (ByteArray.mk #[50]))] 56 (0,0))) (AA R (CI .u64 fun cA AH => Al AH fun Qd => Al (Hp.set AH Qd (.cells #[.int .i64 60,.int .u64 cA] 50 (0,0))) fun Jw => Al (Hp.set (Hp.set AH Qd (.cells #[.int .i64 60,.int .u64 cA] 50 (0,0))) Jw (.cells #[(.slice (aD BG 0) 2 2),(.slice (aD H0 0) 2 2),(.slice (aD Yc 0) 2 2),(.slice (aD Qd 0) 1 1)] 40 (0,0))) fun O6 => Al (Hp.set (Hp.set (Hp.set AH Qd (.cells #[.int .i64 60,.int .u64 cA] 50 (0,0))) Jw (.cells #[(.slice (aD BG 0) 2 2),(.slice (aD H0 0) 2 2),(.slice (aD Yc 0) 2 2),(.slice (aD Qd 0) 1 1)] 40 (0,0))) O6 (.cells #[.int .i64 1,(.string (ByteArray.mk #[95,95,110,97,109,101,95,95])),(.string (ByteArray.mk #[120]))] 77 (0,0))) fun iG => Spec prog 11 #[(.slice (aD iG 0) 2 2),(.slice (aD Jw 0) 2 2),.int .i64 60] (Hp.set (Hp.set (Hp.set (Hp.set AH Qd (.cells #[.int .i64 60,.int .u64 cA] 50 (0,0))) Jw (.cells #[(.slice (aD BG 0) 2 2),(.slice (aD H0 0) 2 2),(.slice (aD Yc 0) 2 2),(.slice (aD Qd 0) 1 1)] 40 (0,0))) O6 (.cells #[.int .i64 1,(.string (ByteArray.mk #[95,95,110,97,109,101,95,95])),(.string (ByteArray.mk #[120]))] 77 (0,0))) iG (.cells #[.int .i64 2,.int .i64 0,(.string (ByteArray.mk #[])),(.slice (aD O6 0) 1 1),.int .i64 0,.int .i64 0,.int .i64 0,.slice none 0 0,.bool false,.int .i64 0,.int .i64 5,.int .i64 1,(.string (ByteArray.mk #[])),.slice none 0 0,.int .i64 0,.int .i64 0,.int .i64 0,.slice none 0 0,.bool false,.int .i64 1] 36 (0,0))) (AA R (fun z Ab => ∃ AFA zo ALr AFB,z = (.tuple #[.slice AFA zo ALr,.int .i64 AFB]) ∧ Spec prog 35 #[(.slice (aD iG 0) 2 2),(.slice (aD Jw 0) 2 2),.int .i64 0,.int .i64 60,.int .i64 60] Ab (AA R (fun z C4 => ∃ Ye WL cB cC,z = (.tuple #[.slice Ye WL cB,.int .i64 cC]) ∧ Spec prog 15 #[(.slice (aD iG 0) 2 2)] C4 (AA R (fun z FE => ∃ AFC AFD,z = (.tuple #[.int .i64 AFC,.int .i64 AFD]) ∧ Br (AFB = 0) (Br ((zo : Int) = 1) (Pq AFA fun wG zp => In 0 (zo : Int) ∧ LS FE wG (zp + 1) fun vR n59 vS => Spec prog 25 #[.float .f64 4620693217682128896] FE (AA R (CI .u64 fun tA G4 => Kp [wG] FE G4 ∧ Al G4 fun yz => Spec prog 36 #[.slice vR n59 vS,(.slice (aD yz 0) 1 1)] (Hp.set G4 yz (.cells #[.int .i64 60,.int .u64 tA] 50 (0,0))) (AA R (CB fun t63 NS => Bo t63 (Br (cC = 0) (Br ((WL : Int) = 1) (Pq Ye fun b76 o76 => In 0 (WL : Int) ∧ LS NS b76 (o76 + 1) fun qu mH qw => Br ((mH : Int) = 2) (Br (AFC = 300) (R (.returned (.bool (decide (AFD = 0)))) NS) (R (.returned (.bool false)) NS)) (R (.returned (.bool false)) NS)) (R (.returned (.bool false)) NS)) (R (.returned (.bool false)) NS)) (R (.returned (.bool false)) NS)))))) (R (.returned (.bool false)) FE)) (R (.returned (.bool false)) FE)))))))))))))) : Spec prog 14 #[] σ R := M.start h ok
end P2
namespace B4
variable {p0 p1 : Option Addr} {n0 c0 n1 c1 : Nat} {x5 x6 : Int}
def M : Fw := ⟨prog,21,f21,[39,44],[],false,[],[],[(464,[(0,wL),(1,wL),(5,wI)]),(29840,[(0,wL),(1,wL),(5,wI),(6,wI)])]⟩
theorem ok : M.Ok := ⟨.cons call39 (.cons call44 (AG.nil)),mixed,func21,by kernel_rfl⟩
def BE := M.pt 0
def Rx := M.pt 1
theorem start (h : Spec prog 39 #[.slice p0 n0 c0] σ (AA R (CI .i64 fun x10 y => Br (x10 ≠ 0) (R (.returned (.bool false)) y) (Spec prog 39 #[.slice p1 n1 c1] y (AA R (CI .i64 fun QY AF => Br (QY ≠ 0) (R (.returned (.bool false)) AF) (BE R p0 n0 c0 p1 n1 c1 0 AF))))))) : Spec prog 21 #[.slice p0 n0 c0,.slice p1 n1 c1] σ R := M.start h ok
theorem Bz (h : Br (x5 < (n1 : Int)) (Rx R p0 n0 c0 p1 n1 c1 x5 0 σ) (R (.returned (.bool true)) σ)) : BE R p0 n0 c0 p1 n1 c1 x5 σ := M.of h ok rfl
theorem Nj (h : Pq p1 fun Q9 S1 => In x5 (n1 : Int) ∧ LS σ Q9 ((S1 + Int.toNat x5 * 2) + 1) fun p28 n28 zK => Br (x6 < (n28 : Int)) (In x5 (n1 : Int) ∧ LS σ Q9 (S1 + Int.toNat x5 * 2) fun p39 n39 c39 => In x5 (n1 : Int) ∧ LS σ Q9 ((S1 + Int.toNat x5 * 2) + 1) fun sU n44 vx => Pq sU fun b46 o46 => In x6 (n44 : Int) ∧ LI .i64 σ b46 (o46 + Int.toNat x6 * 2) fun UO => Spec prog 44 #[.slice p0 n0 c0,.slice p39 n39 c39,.int .i64 UO] σ (AA R (fun z y => ∃ tB AFE,z = (.tuple #[.int .u64 tB,.bool AFE]) ∧ Bn AFE (R (.returned (.bool false)) y) (In x5 (n1 : Int) ∧ LS y Q9 ((S1 + Int.toNat x5 * 2) + 1) fun p60 n60 c60 => Pq p60 fun yz o62 => In x6 (n60 : Int) ∧ LI .u64 y yz ((o62 + Int.toNat x6 * 2) + 1) fun lJ => Br (tB ≠ lJ) (R (.returned (.bool false)) y) (AI (x6 + 1) ∧ Rx R p0 n0 c0 (aD Q9 S1) n1 c1 x5 (x6 + 1) y))))) (AI (x5 + 1) ∧ BE R p0 n0 c0 (aD Q9 S1) n1 c1 (x5 + 1) σ)) : Rx R p0 n0 c0 p1 n1 c1 x5 x6 σ := M.of h ok rfl
end B4
namespace Jk
variable {p0 : Option Addr} {n0 c0 : Nat}
def M : Fw := ⟨prog,33,f33,[],[],false,[],[],[]⟩
theorem ok : M.Ok := ⟨AG.nil,mixed,func33,by kernel_rfl⟩
theorem start (h : Al σ fun b3 => AK prog (Builtin.append_ #[37,37] 37 #[(.slice (aD b3 0) 0 0),.slice p0 n0 c0]) (Hp.set σ b3 (.cells #[] 56 (0,0))) (CS fun p5 n5 c5 y => R (.returned (.slice p5 n5 c5)) y)) : Spec prog 33 #[.slice p0 n0 c0] σ R := M.start h ok
end Jk
namespace S2
variable {x0 : Int}
def M : Fw := ⟨prog,81,f81,[],[],false,[],[],[]⟩
theorem ok : M.Ok := ⟨AG.nil,mixed,func81,by kernel_rfl⟩
theorem start (h : Al σ fun b1 => R (.returned (.func (.func 127) #[] #[(.pointer (aD b1 0))])) (Hp.set σ b1 (.cells #[.int .i64 x0] 3 (0,0)))) : Spec prog 81 #[.int .i64 x0] σ R := M.start h ok
end S2
namespace G7
variable {s0 : ByteArray} {x3 : Int}
def M : Fw := ⟨prog,88,f88,[129],[],false,[],[],[(464,[(0,wT),(3,wI)])]⟩
theorem ok : M.Ok := ⟨.cons call129 (AG.nil),mixed,func88,by kernel_rfl⟩
def BE := M.pt 0
theorem start (h : Br ((((ByteArray.size s0 : Nat) : Int) : Int) < 1) (R (.returned (.bool false)) σ) (Br ((256 : Int) < ((ByteArray.size s0 : Nat) : Int)) (R (.returned (.bool false)) σ) (BE R s0 0 σ))) : Spec prog 88 #[.string s0] σ R := M.start h ok
theorem Bz (h : Br (x3 < ((ByteArray.size s0 : Nat) : Int)) (Spec prog 129 #[.string s0,.int .i64 x3] σ (AA R (CI .i64 fun DT y => Br (DT = 0) (R (.returned (.bool false)) y) (AI (x3 + DT) ∧ BE R s0 (x3 + DT) y)))) (R (.returned (.bool true)) σ)) : BE R s0 x3 σ := M.of h ok rfl
end G7
namespace AT
variable {q0 : Option Addr} {v1 : Value} {x2 x3 : Int} {b9 : Nat}
def M : Fw := ⟨prog,95,f95,[66,133,134,135,136,137,138],[],false,[],[],[(48,[(0,wQ),(1,wV),(2,wI),(3,wI)]),(3198,[(0,wQ),(1,wV),(2,wI),(3,wI),(9,wA)])]⟩
theorem ok : M.Ok := ⟨.cons call66 (.cons call133 (.cons call134 (.cons call135 (.cons call136 (.cons call137 (.cons call138 (AG.nil))))))),mixed,func95,by kernel_rfl⟩
def cD := M.pt 0
def FT := M.pt 1
theorem start (h : ∃ (f11 : Nat) (Ya Yb : Array Value),v1 = .func (.func f11) Ya Yb ∧ Enters prog f11 ∧ Spec prog f11 (Ya ++ #[] ++ Yb) σ (AA R (fun z y => z = (.tuple #[]) ∧ cD R q0 v1 x2 x3 y))) : Spec prog 95 #[.pointer q0,v1,.int .i64 x2,.int .i64 x3] σ R := M.EF h ok [(0,.o (.Q q0)),(1,.o (.V v1)),(2,.o (.I .i64 x2)),(3,.o (.I .i64 x3))] rfl rfl (by kernel_rfl)
theorem PC (h : Spec prog 134 #[] σ (AA R (CS fun cE n12 aP y => Spec prog 66 #[.pointer q0] y (AA R (fun z AF => ∃ GZ UL WM zq,z = (.agg #[.int .i64 GZ,.int .i64 UL,.string WM,.int .i64 zq]) ∧ Spec prog 133 #[.slice cE n12 aP,.string WM] AF (AA R (CI .i64 fun x16 AH => Spec prog 66 #[.pointer q0] AH (AA R (fun z Ab => ∃ Yf cG cH ALs,z = (.agg #[.int .i64 Yf,.int .i64 cG,.string cH,.int .i64 ALs]) ∧ Br (Yf ≠ 5) (Spec prog 66 #[.pointer q0] Ab (AA R (fun z C4 => ∃ tC iB zr zt,z = (.agg #[.int .i64 tC,.int .i64 iB,.string zr,.int .i64 zt]) ∧ Br (tC ≠ 3) (R (.returned (.tuple #[])) C4) (Br (x16 < x2) (R (.returned (.tuple #[])) C4) (Br (x3 < x16) (R (.returned (.tuple #[])) C4) (Br (x2 = 11) (Br (x16 = 12) (R (.returned (.tuple #[])) C4) (Spec prog 135 #[.pointer q0] C4 (AA R (fun z FE => ∃ Qe MP WN WO,z = (.agg #[.int .i64 Qe,.int .i64 MP,.string WN,.int .i64 WO]) ∧ Al FE fun b9 => AK prog (Instr.storeAt 36 (.pointer (aD b9 0)) (.agg #[.int .i64 6,.int .i64 x16,(.string (ByteArray.mk #[])),.slice none 0 0,.int .i64 0,.int .i64 0,.int .i64 0,.slice none 0 0,.bool false,.int .i64 2])) (Hp.set FE b9 (.cells #[.int .i64 0,.int .i64 0,(.string (ByteArray.mk #[])),.slice none 0 0,.int .i64 0,.int .i64 0,.int .i64 0,.slice none 0 0,.bool false,.int .i64 0] 36 (0,0))) (fun _ G4 => Br (5 ≤ x16) (Br (x16 ≤ 10) (Spec prog 136 #[.pointer q0,.int .i64 3,(.string (ByteArray.mk #[98,111,111,108]))] G4 (AA R (CB fun t55 NS => Bo t55 (Spec prog 135 #[.pointer q0] NS (AA R (fun z WC => ∃ WQ WR WS WT,z = (.agg #[.int .i64 WQ,.int .i64 WR,.string WS,.int .i64 WT]) ∧ AK prog (Instr.storeAt 4 (.pointer (aD b9 8)) (.bool true)) WC (fun _ MO => FT R q0 v1 x2 x3 b9 MO)))) (FT R q0 v1 x2 x3 b9 NS)))) (FT R q0 v1 x2 x3 b9 G4)) (FT R q0 v1 x2 x3 b9 G4)))))) (Spec prog 135 #[.pointer q0] C4 (AA R (fun z FE => ∃ Qe MP WN WO,z = (.agg #[.int .i64 Qe,.int .i64 MP,.string WN,.int .i64 WO]) ∧ Al FE fun b9 => AK prog (Instr.storeAt 36 (.pointer (aD b9 0)) (.agg #[.int .i64 6,.int .i64 x16,(.string (ByteArray.mk #[])),.slice none 0 0,.int .i64 0,.int .i64 0,.int .i64 0,.slice none 0 0,.bool false,.int .i64 2])) (Hp.set FE b9 (.cells #[.int .i64 0,.int .i64 0,(.string (ByteArray.mk #[])),.slice none 0 0,.int .i64 0,.int .i64 0,.int .i64 0,.slice none 0 0,.bool false,.int .i64 0] 36 (0,0))) (fun _ G4 => Br (5 ≤ x16) (Br (x16 ≤ 10) (Spec prog 136 #[.pointer q0,.int .i64 3,(.string (ByteArray.mk #[98,111,111,108]))] G4 (AA R (CB fun t55 NS => Bo t55 (Spec prog 135 #[.pointer q0] NS (AA R (fun z WC => ∃ WQ WR WS WT,z = (.agg #[.int .i64 WQ,.int .i64 WR,.string WS,.int .i64 WT]) ∧ AK prog (Instr.storeAt 4 (.pointer (aD b9 8)) (.bool true)) WC (fun _ MO => FT R q0 v1 x2 x3 b9 MO)))) (FT R q0 v1 x2 x3 b9 NS)))) (FT R q0 v1 x2 x3 b9 G4)) (FT R q0 v1 x2 x3 b9 G4))))))))))) (Br (x16 < x2) (R (.returned (.tuple #[])) Ab) (Br (x3 < x16) (R (.returned (.tuple #[])) Ab) (Br (x2 = 11) (Br (x16 = 12) (R (.returned (.tuple #[])) Ab) (Spec prog 135 #[.pointer q0] Ab (AA R (fun z C4 => ∃ Qe MP WN WO,z = (.agg #[.int .i64 Qe,.int .i64 MP,.string WN,.int .i64 WO]) ∧ Al C4 fun b9 => AK prog (Instr.storeAt 36 (.pointer (aD b9 0)) (.agg #[.int .i64 6,.int .i64 x16,(.string (ByteArray.mk #[])),.slice none 0 0,.int .i64 0,.int .i64 0,.int .i64 0,.slice none 0 0,.bool false,.int .i64 2])) (Hp.set C4 b9 (.cells #[.int .i64 0,.int .i64 0,(.string (ByteArray.mk #[])),.slice none 0 0,.int .i64 0,.int .i64 0,.int .i64 0,.slice none 0 0,.bool false,.int .i64 0] 36 (0,0))) (fun _ FE => Br (5 ≤ x16) (Br (x16 ≤ 10) (Spec prog 136 #[.pointer q0,.int .i64 3,(.string (ByteArray.mk #[98,111,111,108]))] FE (AA R (CB fun t55 G4 => Bo t55 (Spec prog 135 #[.pointer q0] G4 (AA R (fun z NS => ∃ WQ WR WS WT,z = (.agg #[.int .i64 WQ,.int .i64 WR,.string WS,.int .i64 WT]) ∧ AK prog (Instr.storeAt 4 (.pointer (aD b9 8)) (.bool true)) NS (fun _ WC => FT R q0 v1 x2 x3 b9 WC)))) (FT R q0 v1 x2 x3 b9 G4)))) (FT R q0 v1 x2 x3 b9 FE)) (FT R q0 v1 x2 x3 b9 FE)))))) (Spec prog 135 #[.pointer q0] Ab (AA R (fun z C4 => ∃ Qe MP WN WO,z = (.agg #[.int .i64 Qe,.int .i64 MP,.string WN,.int .i64 WO]) ∧ Al C4 fun b9 => AK prog (Instr.storeAt 36 (.pointer (aD b9 0)) (.agg #[.int .i64 6,.int .i64 x16,(.string (ByteArray.mk #[])),.slice none 0 0,.int .i64 0,.int .i64 0,.int .i64 0,.slice none 0 0,.bool false,.int .i64 2])) (Hp.set C4 b9 (.cells #[.int .i64 0,.int .i64 0,(.string (ByteArray.mk #[])),.slice none 0 0,.int .i64 0,.int .i64 0,.int .i64 0,.slice none 0 0,.bool false,.int .i64 0] 36 (0,0))) (fun _ FE => Br (5 ≤ x16) (Br (x16 ≤ 10) (Spec prog 136 #[.pointer q0,.int .i64 3,(.string (ByteArray.mk #[98,111,111,108]))] FE (AA R (CB fun t55 G4 => Bo t55 (Spec prog 135 #[.pointer q0] G4 (AA R (fun z NS => ∃ WQ WR WS WT,z = (.agg #[.int .i64 WQ,.int .i64 WR,.string WS,.int .i64 WT]) ∧ AK prog (Instr.storeAt 4 (.pointer (aD b9 8)) (.bool true)) NS (fun _ WC => FT R q0 v1 x2 x3 b9 WC)))) (FT R q0 v1 x2 x3 b9 G4)))) (FT R q0 v1 x2 x3 b9 FE)) (FT R q0 v1 x2 x3 b9 FE))))))))))))))))) : cD R q0 v1 x2 x3 σ := M.of h ok rfl
theorem WH (h : Spec prog 137 #[.pointer q0,(.pointer (aD b9 0)),(.agg #[(.string (ByteArray.mk #[111,110])),(.string (ByteArray.mk #[105,103,110,111,114,105,110,103]))]),.agg #[.int .i64 3,.int .i64 4]] σ (AA R (fun z y => z = (.tuple #[]) ∧ ∃ (f65 : Nat) (wH wJ : Array Value),v1 = .func (.func f65) wH wJ ∧ Enters prog f65 ∧ Spec prog f65 (wH ++ #[] ++ wJ) y (AA R (fun z AF => z = (.tuple #[]) ∧ ∃ Ka Kb Kc Kd Ke Kf Kg Kh Ki Kj Kk Kl Km Kn,Aw AF b9 0 [.int .i64 Ka,.int .i64 Kb,.string Kc,.slice Kd Ke Kf,.int .i64 Kg,.int .i64 Kh,.int .i64 Ki,.slice Kj Kk Kl,.bool Km,.int .i64 Kn] ∧ Spec prog 138 #[.pointer q0,.agg #[.int .i64 Ka,.int .i64 Kb,.string Kc,.slice Kd Ke Kf,.int .i64 Kg,.int .i64 Kh,.int .i64 Ki,.slice Kj Kk Kl,.bool Km,.int .i64 Kn]] AF (AA R (fun z AH => z = (.tuple #[]) ∧ cD R q0 v1 x2 x3 AH))))))) : FT R q0 v1 x2 x3 b9 σ := M.of h ok rfl
end AT
namespace AU
variable {q0 Dx D5 p2 Gk H5 HR GJ p8 iH cE wK : Option Addr} {Dq Cb Dr Dy DF Cd GF Fm H6 GQ H7 Ir GH GI jv Jj UO Ro : Int} {Dt He : ByteArray} {Dz D0 D1 D6 n2 c2 Gm Gn H8 H9 HS HT GK GL n8 c8 n25 iI n12 aP n47 tD : Nat} {DG Is : Bool} {v9 : Value}
def M : Fw := ⟨prog,103,f103,[146,147,148],[4,6,11,14],false,[],[],[(488,[(2,wL),(4,.X 36 [.I .i64,.I .i64,.T,.L,.I .i64,.I .i64,.I .i64,.L,.B,.I .i64]),(6,.X 93 [.I .i64,.I .u64,.L,.L]),(8,wL),(9,wV),(25,wL),(26,wI),(27,wI)]),(2024,[(2,wL),(4,.X 36 [.I .i64,.I .i64,.T,.L,.I .i64,.I .i64,.I .i64,.L,.B,.I .i64]),(6,.X 93 [.I .i64,.I .u64,.L,.L]),(8,wL),(12,wL),(47,wL),(48,wI),(49,wI)]),(8103,[(2,wL),(4,.X 36 [.I .i64,.I .i64,.T,.L,.I .i64,.I .i64,.I .i64,.L,.B,.I .i64]),(6,.X 93 [.I .i64,.I .u64,.L,.L]),(8,wL),(12,wL),(47,wL),(48,wI),(49,wI)])]⟩
theorem ok : M.Ok := ⟨.cons call146 (.cons call147 (.cons call148 (AG.nil))),mixed,func103,by kernel_rfl⟩
def FG := M.pt 0
def DU := M.pt 1
def MT := M.pt 2
theorem start (h : ∀ b4 : Nat,∀ b6 : Nat,AK prog (Instr.makeMap 191 none) σ (fun z y => ∃ m17,z = (.map (some m17)) ∧ AK prog (Instr.mapUpdate 191 (.map (some m17)) (.int .i64 11) (.func (.func 144) #[] #[])) y (fun _ AF => AK prog (Instr.mapUpdate 191 (.map (some m17)) (.int .i64 12) (.func (.func 145) #[] #[])) AF (fun _ AH => AK prog (Instr.lookup 191 (.map (some m17)) (.int .i64 Cb) false) AH (fun z Ab => ∃ v21,v21 = z ∧ Pq p2 fun Qd mI => In 0 (n2 : Int) ∧ LS Ab Qd (mI + 2) fun iH n25 iI => FG R (aD Qd mI) n2 c2 Dq Cb Dt Dx Dz D0 Dr Dy DF D5 D1 D6 DG Cd 0 0 none 0 0 none 0 0 none 0 0 v21 iH n25 iI (n25 : Int) 0 Ab))))) : Spec prog 103 #[.pointer q0,.agg #[.int .i64 Dq,.int .i64 Cb,.string Dt,.slice Dx Dz D0,.int .i64 Dr,.int .i64 Dy,.int .i64 DF,.slice D5 D1 D6,.bool DG,.int .i64 Cd],.slice p2 n2 c2] σ R := M.start h ok
theorem Ff (h : Br (Jj < jv) (Pq iH fun YS fA => In Jj (n25 : Int) ∧ ∃ mJ mK mL mM,Aw σ YS (fA + Int.toNat Jj * 2) [.slice mJ mK mL,.int .u64 mM] ∧ ∀ BG : Nat,Spec prog 146 #[.slice mJ mK mL] σ (AA R (CS fun p34 n34 c34 y => ∃ (f38 : Nat) (Hh Hi : Array Value),v9 = .func (.func f38) Hh Hi ∧ Enters prog f38 ∧ Spec prog f38 (Hh ++ #[.int .u64 mM] ++ Hi) y (AA R (CI .u64 fun wN AF => Al AF fun U4 => AK prog (Builtin.append_ #[67,67] 67 #[.slice p8 n8 c8,(.slice (aD U4 0) 1 1)]) (Hp.set AF U4 (.cells #[.slice p34 n34 c34,.int .u64 wN] 71 (0,0))) (CS fun qk n41 eo AH => AI (Jj + 1) ∧ FG R p2 n2 c2 GF Fm He Gk Gm Gn H6 GQ H7 H5 H8 H9 Is Ir GH GI HR HS HT GJ GK GL qk n41 eo v9 (aD YS fA) n25 iI jv (Jj + 1) AH)))))) (Spec prog 147 #[] σ (AA R (CS fun jt n43 ju y => Pq p2 fun jo jq => In 0 (n2 : Int) ∧ LS y jo (jq + 3) fun wK n47 tD => DU R (aD jo jq) n2 c2 GF Fm He Gk Gm Gn H6 GQ H7 H5 H8 H9 Is Ir GH GI HR HS HT GJ GK GL p8 n8 c8 jt n43 ju wK n47 tD (n47 : Int) 0 y)))) : FG R p2 n2 c2 GF Fm He Gk Gm Gn H6 GQ H7 H5 H8 H9 Is Ir GH GI HR HS HT GJ GK GL p8 n8 c8 v9 iH n25 iI jv Jj σ := M.gk h ok rfl fun _ _ => by kernel_rfl
theorem Fe (h : Br (Ro < UO) (Pq wK fun b51 o51 => In Ro (n47 : Int) ∧ ∃ AFF AFG AFH AFI AFJ AFK,Aw σ b51 (o51 + Int.toNat Ro * 2) [.slice AFF AFG AFH,.slice AFI AFJ AFK] ∧ ∀ BO : Nat,Pq cE fun wG zp => In Fm (n12 : Int) ∧ ∃ v58,Hp.ld σ ⟨wG,(zp + Int.toNat Fm * 1),none⟩ = some v58 ∧ ∃ (f63 : Nat) (LH LJ : Array Value),v58 = .func (.func f63) LH LJ ∧ Enters prog f63 ∧ Spec prog f63 (LH ++ #[.slice AFI AFJ AFK,.agg #[.int .i64 GF,.int .i64 Fm,.string He,.slice Gk Gm Gn,.int .i64 H6,.int .i64 GQ,.int .i64 H7,.slice H5 H8 H9,.bool Is,.int .i64 Ir],.slice p2 n2 c2] ++ LJ) σ (AA R (fun z y => ∃ AFL AFM,z = (.tuple #[.int .u64 AFL,.bool AFM]) ∧ Bo AFM (Spec prog 146 #[.slice AFF AFG AFH] y (AA R (CS fun p70 n70 c70 AF => Al AF fun zu => AK prog (Builtin.append_ #[67,67] 67 #[.slice p8 n8 c8,(.slice (aD zu 0) 1 1)]) (Hp.set AF zu (.cells #[.slice p70 n70 c70,.int .u64 AFL] 71 (0,0))) (CS fun p74 n74 c74 AH => MT R p2 n2 c2 GF Fm He Gk Gm Gn H6 GQ H7 H5 H8 H9 Is Ir GH GI HR HS HT GJ GK GL p74 n74 c74 (aD wG zp) n12 aP (aD b51 o51) n47 tD UO Ro AH)))) (MT R p2 n2 c2 GF Fm He Gk Gm Gn H6 GQ H7 H5 H8 H9 Is Ir GH GI HR HS HT GJ GK GL p8 n8 c8 (aD wG zp) n12 aP (aD b51 o51) n47 tD UO Ro y)))) (Spec prog 148 #[.slice p8 n8 c8] σ (AA R (fun z y => ∃ wO wP wR wS wX wY wZ wa AFQ,z = (.tuple #[.agg #[.int .i64 wO,.int .u64 wP,.slice wR wS wX,.slice wY wZ wa],.int .i64 AFQ]) ∧ R (.returned (.tuple #[.agg #[.int .i64 wO,.int .u64 wP,.slice wR wS wX,.slice wY wZ wa],.int .i64 AFQ])) y)))) : DU R p2 n2 c2 GF Fm He Gk Gm Gn H6 GQ H7 H5 H8 H9 Is Ir GH GI HR HS HT GJ GK GL p8 n8 c8 cE n12 aP wK n47 tD UO Ro σ := M.gk h ok rfl fun _ _ => by kernel_rfl
theorem JJ (h : AI (Ro + 1) ∧ DU R p2 n2 c2 GF Fm He Gk Gm Gn H6 GQ H7 H5 H8 H9 Is Ir GH GI HR HS HT GJ GK GL p8 n8 c8 cE n12 aP wK n47 tD UO (Ro + 1) σ) : MT R p2 n2 c2 GF Fm He Gk Gm Gn H6 GQ H7 H5 H8 H9 Is Ir GH GI HR HS HT GJ GK GL p8 n8 c8 cE n12 aP wK n47 tD UO Ro σ := M.gk h ok rfl fun _ _ => by kernel_rfl
end AU
namespace BL
variable {q0 Dx D5 p2 HR GJ p8 iH : Option Addr} {Dq Cb Dr Dy DF Cd GH GI jv Jj : Int} {Dt : ByteArray} {Dz D0 D1 D6 n2 c2 HS HT GK GL n8 c8 n25 iI : Nat} {DG : Bool}
def M : Fw := ⟨prog,106,f106,[146,148,162],[4,6,10],false,[],[],[(488,[(6,.X 93 [.I .i64,.I .u64,.L,.L]),(8,wL),(25,wL),(26,wI),(27,wI)])]⟩
theorem ok : M.Ok := ⟨.cons call146 (.cons call148 (.cons call162 (AG.nil))),mixed,func106,by kernel_rfl⟩
def tE := M.pt 0
theorem start (h : ∀ b4 : Nat,∀ b6 : Nat,Pq p2 fun Pu QV => In 0 (n2 : Int) ∧ LI .i64 σ Pu QV fun QY => Br (QY = 1) (In 0 (n2 : Int) ∧ LI .u64 σ Pu (QV + 1) fun DT => Spec prog 162 #[.int .u64 DT] σ (AA R (CI .u64 fun Hv y => R (.returned (.tuple #[.agg #[.int .i64 1,.int .u64 Hv,.slice none 0 0,.slice none 0 0],.int .i64 0])) y))) (In 0 (n2 : Int) ∧ LS σ Pu (QV + 2) fun iH n25 iI => tE R 0 0 none 0 0 none 0 0 none 0 0 iH n25 iI (n25 : Int) 0 σ)) : Spec prog 106 #[.pointer q0,.agg #[.int .i64 Dq,.int .i64 Cb,.string Dt,.slice Dx Dz D0,.int .i64 Dr,.int .i64 Dy,.int .i64 DF,.slice D5 D1 D6,.bool DG,.int .i64 Cd],.slice p2 n2 c2] σ R := M.start h ok
theorem fF (h : Br (Jj < jv) (Pq iH fun YS fA => In Jj (n25 : Int) ∧ ∃ mJ mK mL mM,Aw σ YS (fA + Int.toNat Jj * 2) [.slice mJ mK mL,.int .u64 mM] ∧ ∀ Cj : Nat,Spec prog 146 #[.slice mJ mK mL] σ (AA R (CS fun p34 n34 c34 y => Spec prog 162 #[.int .u64 mM] y (AA R (CI .u64 fun Qb AF => Al AF fun qz => AK prog (Builtin.append_ #[67,67] 67 #[.slice p8 n8 c8,(.slice (aD qz 0) 1 1)]) (Hp.set AF qz (.cells #[.slice p34 n34 c34,.int .u64 Qb] 71 (0,0))) (CS fun zO n40 zP AH => AI (Jj + 1) ∧ tE R GH GI HR HS HT GJ GK GL zO n40 zP (aD YS fA) n25 iI jv (Jj + 1) AH)))))) (Spec prog 148 #[.slice p8 n8 c8] σ (AA R (fun z y => ∃ wc we wg wh wj wk wm wo MR,z = (.tuple #[.agg #[.int .i64 wc,.int .u64 we,.slice wg wh wj,.slice wk wm wo],.int .i64 MR]) ∧ R (.returned (.tuple #[.agg #[.int .i64 wc,.int .u64 we,.slice wg wh wj,.slice wk wm wo],.int .i64 MR])) y)))) : tE R GH GI HR HS HT GJ GK GL p8 n8 c8 iH n25 iI jv Jj σ := M.jj h ok rfl fun _ => by kernel_rfl
end BL
namespace D9
variable {p0 p5 : Option Addr} {n0 c0 n5 c5 : Nat} {x1 : Int}
def M : Fw := ⟨prog,107,f107,[],[],false,[],[],[(224,[(1,wU),(5,wL)])]⟩
theorem ok : M.Ok := ⟨AG.nil,mixed,func107,by kernel_rfl⟩
def Dm := M.pt 0
theorem start (h : Al σ fun b6 => AK prog (Builtin.append_ #[90,90] 90 #[(.slice (aD b6 0) 0 0),.slice p0 n0 c0]) (Hp.set σ b6 (.cells #[] 5 (0,0))) (CS fun p8 n8 c8 y => Dm R x1 p8 n8 c8 y)) : Spec prog 107 #[.slice p0 n0 c0,.int .u64 x1] σ R := M.start h ok
theorem Ac (h : Br (127 < x1) (Df (IntKind.u8.wrap x1) fun x15 => Df (Go.bits .or .u8 x15 128) fun x16 => Al σ fun b17 => AK prog (Builtin.append_ #[90,90] 90 #[.slice p5 n5 c5,(.slice (aD b17 0) 1 1)]) (Hp.set σ b17 (.cells #[.int .u8 x16] 5 (0,0))) (CS fun p18 n18 c18 y => ((0 : Int) ≤ 7 ∧ 7 ≤ ((IntKind.bits .u64 : Nat) : Int)) ∧ Df (x1 / 2 ^ Int.toNat 7) fun x12 => Dm R x12 p18 n18 c18 y)) (Df (IntKind.u8.wrap x1) fun cA => Al σ fun b22 => AK prog (Builtin.append_ #[90,90] 90 #[.slice p5 n5 c5,(.slice (aD b22 0) 1 1)]) (Hp.set σ b22 (.cells #[.int .u8 cA] 5 (0,0))) (CS fun bg n23 bh y => R (.returned (.slice bg n23 bh)) y))) : Dm R x1 p5 n5 c5 σ := M.of h ok rfl
end D9
namespace S3
variable {x0 : Int}
def M : Fw := ⟨prog,128,f128,[],[],false,[],[],[]⟩
theorem ok : M.Ok := ⟨AG.nil,mixed,func128,by kernel_rfl⟩
theorem start (h : Br (11 ≤ x0) (R (.returned (.bool (decide (x0 ≤ 13)))) σ) (R (.returned (.bool false)) σ)) : Spec prog 128 #[.int .i64 x0] σ R := M.start h ok
end S3
namespace Jl
variable {q0 : Option Addr} {x1 : Int} {s2 : ByteArray}
def M : Fw := ⟨prog,136,f136,[66],[],false,[],[],[]⟩
theorem ok : M.Ok := ⟨.cons call66 (AG.nil),mixed,func136,by kernel_rfl⟩
theorem start (h : Spec prog 66 #[.pointer q0] σ (AA R (fun z y => ∃ EG ER s8c x8d,z = (.agg #[.int .i64 EG,.int .i64 ER,.string s8c,.int .i64 x8d]) ∧ Br (EG = x1) (Spec prog 66 #[.pointer q0] y (AA R (fun z AF => ∃ GZ UL WM zq,z = (.agg #[.int .i64 GZ,.int .i64 UL,.string WM,.int .i64 zq]) ∧ R (.returned (.bool (ByteArray.toList WM == ByteArray.toList s2))) AF))) (R (.returned (.bool false)) y)))) : Spec prog 136 #[.pointer q0,.int .i64 x1,.string s2] σ R := M.start h ok
end Jl
namespace EH
variable {p0 p1 p5 p9 : Option Addr} {n0 c0 n1 c1 n5 c5 n9 c9 : Nat} {x10 x11 : Int}
def M : Fw := ⟨prog,142,f142,[125,178,179,180],[7],false,[],[],[(232,[(1,wL),(5,wL),(9,wL),(10,wI),(11,wI)])]⟩
theorem ok : M.Ok := ⟨.cons call125 (.cons call178 (.cons call179 (.cons call180 (AG.nil)))),mixed,func142,by kernel_rfl⟩
def A7 := M.pt 0
theorem start (h : Spec prog 178 #[] σ (AA R (CS fun p8 n8 c8 y => A7 R p1 n1 c1 p8 n8 c8 p0 n0 c0 (n0 : Int) 0 y))) : Spec prog 142 #[.slice p0 n0 c0,.slice p1 n1 c1] σ R := M.start h ok
theorem Aa (h : Br (x11 < x10) (Pq p9 fun Ck V5 => In x11 (n9 : Int) ∧ ∃ GZ bp WM,Aw σ Ck (V5 + Int.toNat x11 * 3) [.int .i64 GZ,.string bp,.string WM] ∧ ∀ b7 : Nat,Spec prog 125 #[.int .i64 GZ] σ (AA R (CB fun t17 y => Bn t17 (R (.returned (.bool false)) y) (Pq p5 fun Qd mI => In GZ (n5 : Int) ∧ ∃ v24,Hp.ld y ⟨Qd,(mI + Int.toNat GZ * 1),none⟩ = some v24 ∧ Spec prog 179 #[.string WM] y (AA R (fun z AF => ∃ M0 MQ M1,z = (.agg #[.slice M0 MQ M1]) ∧ Kp [Qd] y AF ∧ Spec prog 180 #[.slice p1 n1 c1,.string bp] AF (AA R (CT fun s34 AH => Kp [Qd] AF AH ∧ ∃ (f35 : Nat) (Yg Yh : Array Value),v24 = .func (.func f35) Yg Yh ∧ Enters prog f35 ∧ Spec prog f35 (Yg ++ #[.agg #[.slice M0 MQ M1,.string WM],.string s34] ++ Yh) AH (AA R (CB fun t35 Ab => Bn t35 (R (.returned (.bool false)) Ab) (AI (x11 + 1) ∧ A7 R p1 n1 c1 (aD Qd mI) n5 c5 (aD Ck V5) n9 c9 x10 (x11 + 1) Ab))))))))))) (R (.returned (.bool true)) σ)) : A7 R p1 n1 c1 p5 n5 c5 p9 n9 c9 x10 x11 σ := M.of h ok rfl
end EH
namespace U7
variable {p0 : Option Addr} {n0 c0 : Nat}
def M : Fw := ⟨prog,146,f146,[150],[],false,[],[],[]⟩
theorem ok : M.Ok := ⟨.cons call150 (AG.nil),mixed,func146,by kernel_rfl⟩
theorem start (h : Al σ fun b4 => Spec prog 150 #[.slice p0 n0 c0,(.slice (aD b4 0) 1 1)] (Hp.set σ b4 (.cells #[(.string (ByteArray.mk #[95,95,110,97,109,101,95,95]))] 9 (0,0))) (AA R (CS fun p5 n5 c5 y => R (.returned (.slice p5 n5 c5)) y))) : Spec prog 146 #[.slice p0 n0 c0] σ R := M.start h ok
end U7
namespace ET
variable {p0 p2c p2d : Option Addr} {n0 c0 n2c c2c n2d c2d : Nat} {tF x2b x4 : Int}
def M : Fw := ⟨prog,148,f148,[52,195],[2],false,[],[],[(464,[(0,wL),(2,.X 93 [.I .i64,.I .u64,.L,.L]),(4,wI)])]⟩
theorem ok : M.Ok := ⟨.cons call52 (.cons call195 (AG.nil)),mixed,func148,by kernel_rfl⟩
def Bh := M.pt 0
theorem start (h : ∀ b2 : Nat,Spec prog 195 #[.slice p0 n0 c0,(.func (.func 196) #[] #[])] σ (AA R (fun z y => z = (.tuple #[]) ∧ Bh R p0 n0 c0 0 0 none 0 0 none 0 0 1 y))) : Spec prog 148 #[.slice p0 n0 c0] σ R := M.start h ok
theorem A0 (h : Br (x4 < (n0 : Int)) (AI (x4 - 1) ∧ Pq p0 fun H0 Nh => In (x4 - 1) (n0 : Int) ∧ LS σ H0 (Nh + Int.toNat (x4 - 1) * 2) fun p18 n18 c18 => In x4 (n0 : Int) ∧ LS σ H0 (Nh + Int.toNat x4 * 2) fun bg n23 bh => Spec prog 52 #[.slice p18 n18 c18,.slice bg n23 bh] σ (AA R (CI .i64 fun IM y => Br (IM = 0) (R (.returned (.tuple #[.agg #[.int .i64 0,.int .u64 0,.slice none 0 0,.slice none 0 0],.int .i64 223])) y) (AI (x4 + 1) ∧ Bh R (aD H0 Nh) n0 c0 tF x2b p2c n2c c2c p2d n2d c2d (x4 + 1) y)))) (R (.returned (.tuple #[.agg #[.int .i64 2,.int .u64 0,.slice p0 n0 c0,.slice none 0 0],.int .i64 0])) σ)) : Bh R p0 n0 c0 tF x2b p2c n2c c2c p2d n2d c2d x4 σ := M.jj h ok rfl fun _ => by kernel_rfl
end ET
namespace DZ
variable {x0 : Int} {b1 b2 : Nat}
def M : Fw := ⟨prog,158,f158,[156],[],false,[],[],[]⟩
theorem ok : M.Ok := ⟨.cons call156 (AG.nil),mixed,func158,by kernel_rfl⟩
theorem start (h : ∃ GH GI s6c GJ GK GL x6e x6f x6g p6h n6h c6h t6i x6j,Aw σ b1 0 [.int .i64 GH,.int .i64 GI,.string s6c,.slice GJ GK GL,.int .i64 x6e,.int .i64 x6f,.int .i64 x6g,.slice p6h n6h c6h,.bool t6i,.int .i64 x6j] ∧ LI .u64 σ b2 1 fun x8 => Spec prog 156 #[.agg #[.int .i64 GH,.int .i64 GI,.string s6c,.slice GJ GK GL,.int .i64 x6e,.int .i64 x6f,.int .i64 x6g,.slice p6h n6h c6h,.bool t6i,.int .i64 x6j],.int .u64 x8,.int .u64 x0] σ (AA R (fun z y => ∃ I3 Rv,z = (.tuple #[.int .u64 I3,.bool Rv]) ∧ R (.returned (.tuple #[.int .u64 I3,.bool Rv])) y))) : Spec prog 158 #[.int .u64 x0,(.pointer (aD b1 0)),(.pointer (aD b2 0))] σ R := M.start h ok
end DZ
namespace Da
variable {q0 : Option Addr}
def M : Fw := ⟨prog,171,f171,[95],[],false,[],[],[]⟩
theorem ok : M.Ok := ⟨.cons call95 (AG.nil),mixed,func171,by kernel_rfl⟩
theorem start (h : Spec prog 95 #[.pointer q0,(.func (.func 212) #[.pointer q0] #[]),.int .i64 1,.int .i64 2] σ (AA R (fun z y => z = (.tuple #[]) ∧ R (.returned (.tuple #[])) y))) : Spec prog 171 #[.pointer q0] σ R := M.start h ok
end Da
namespace IT
variable {p0 p7 : Option Addr} {n0 c0 n7 c7 : Nat} {s1 : ByteArray} {x8 x9 : Int}
def M : Fw := ⟨prog,180,f180,[],[6],false,[],[],[(104,[(1,wT),(7,wL),(8,wI),(9,wI)])]⟩
theorem ok : M.Ok := ⟨AG.nil,mixed,func180,by kernel_rfl⟩
def H3 := M.pt 0
theorem start (h : H3 R s1 p0 n0 c0 (n0 : Int) 0 σ) : Spec prog 180 #[.slice p0 n0 c0,.string s1] σ R := M.start h ok
theorem Bp (h : Br (x9 < x8) (Pq p7 fun BG jr => In x9 (n7 : Int) ∧ ∃ AFR AFS,Aw σ BG (jr + Int.toNat x9 * 2) [.string AFR,.string AFS] ∧ ∀ b6 : Nat,Bo (ByteArray.toList AFR == ByteArray.toList s1) (R (.returned (.string AFS)) σ) (AI (x9 + 1) ∧ H3 R s1 (aD BG jr) n7 c7 x8 (x9 + 1) σ)) (R (.returned (.string (ByteArray.mk #[]))) σ)) : H3 R s1 p7 n7 c7 x8 x9 σ := M.of h ok rfl
end IT
namespace Db
variable {p0 p1 : Option Addr} {n0 c0 n1 c1 : Nat}
def M : Fw := ⟨prog,191,f191,[192],[],false,[],[],[]⟩
theorem ok : M.Ok := ⟨.cons call192 (AG.nil),mixed,func191,by kernel_rfl⟩
theorem start (h : Spec prog 192 #[.slice p0 n0 c0] σ (AA R (CI .u64 fun x6 y => R (.returned (.int .u64 x6)) y))) : Spec prog 191 #[.slice p0 n0 c0,.slice p1 n1 c1] σ R := M.start h ok
end Db
namespace S4
variable {x0 x1 x2 : Int}
def M : Fw := ⟨prog,203,f203,[174,182],[],false,[],[],[]⟩
theorem ok : M.Ok := ⟨.cons call174 (.cons call182 (AG.nil)),mixed,func203,by kernel_rfl⟩
theorem start (h : Spec prog 182 #[.int .u64 x1] σ (AA R (fun z y => ∃ x11,(Value.float .f64 x11) = z ∧ Spec prog 182 #[.int .u64 x2] y (AA R (fun z AF => ∃ FI,(Value.float .f64 FI) = z ∧ Br (x0 = 1) (AK prog (binOp .add 51 (Value.float .f64 x11) (Value.float .f64 FI)) AF (fun z AH => ∃ DT,(Value.float .f64 DT) = z ∧ Spec prog 174 #[(Value.float .f64 DT)] AH (AA R (CI .u64 fun Hv Ab => R (.returned (.tuple #[.int .u64 Hv,.bool true])) Ab)))) (Br (x0 = 2) (AK prog (binOp .sub 51 (Value.float .f64 x11) (Value.float .f64 FI)) AF (fun z AH => ∃ P3,(Value.float .f64 P3) = z ∧ Spec prog 174 #[(Value.float .f64 P3)] AH (AA R (CI .u64 fun jv Ab => R (.returned (.tuple #[.int .u64 jv,.bool true])) Ab)))) (Br (x0 = 3) (AK prog (binOp .mul 51 (Value.float .f64 x11) (Value.float .f64 FI)) AF (fun z AH => ∃ x31,(Value.float .f64 x31) = z ∧ Spec prog 174 #[(Value.float .f64 x31)] AH (AA R (CI .u64 fun mF Ab => R (.returned (.tuple #[.int .u64 mF,.bool true])) Ab)))) (Br (x0 = 4) (AK prog (binOp .quo 51 (Value.float .f64 x11) (Value.float .f64 FI)) AF (fun z AH => ∃ Qb,(Value.float .f64 Qb) = z ∧ Spec prog 174 #[(Value.float .f64 Qb)] AH (AA R (CI .u64 fun wN Ab => R (.returned (.tuple #[.int .u64 wN,.bool true])) Ab)))) (R (.returned (.tuple #[.int .u64 0,.bool false])) AF))))))))) : Spec prog 203 #[.int .i64 x0,.int .u64 x1,.int .u64 x2] σ R := M.start h ok
end S4
namespace S5
variable {t0 : Bool}
def M : Fw := ⟨prog,205,f205,[143],[],false,[],[],[]⟩
theorem ok : M.Ok := ⟨.cons call143 (AG.nil),mixed,func205,by kernel_rfl⟩
theorem start (h : Bo t0 (Spec prog 143 #[.int .i64 1] σ (AA R (CI .u64 fun x4 y => R (.returned (.int .u64 x4)) y))) (Spec prog 143 #[.int .i64 0] σ (AA R (CI .u64 fun x5 y => R (.returned (.int .u64 x5)) y)))) : Spec prog 205 #[.bool t0] σ R := M.start h ok
end S5
namespace Cz
variable {s0 : ByteArray} {x1 : Int}
def M : Fw := ⟨prog,214,f214,[231],[],false,[],[],[]⟩
theorem ok : M.Ok := ⟨.cons call231 (AG.nil),mixed,func214,by kernel_rfl⟩
theorem start (h : Spec prog 231 #[.string s0,.int .i64 x1] σ (AA R (fun z y => ∃ AFT mN AFU,z = (.tuple #[AFT,.int .i64 mN,AFU]) ∧ Br (mN ≠ ((ByteArray.size s0 : Nat) : Int)) (R (.returned (.tuple #[.float .f64 0,(.iface 264 (.int .i64 2))])) y) (R (.returned (.tuple #[AFT,AFU])) y)))) : Spec prog 214 #[.string s0,.int .i64 x1] σ R := M.start h ok
end Cz
namespace Ep
variable {Py : Option Addr} {Js OZ : Nat} {aM s1 : ByteArray}
def M : Fw := ⟨prog,217,f217,[],[2],false,[],[],[]⟩
theorem ok : M.Ok := ⟨AG.nil,mixed,func217,by kernel_rfl⟩
theorem start (h : ∀ b2 : Nat,R (.returned (.bool (ByteArray.toList s1 == ByteArray.toList aM))) σ) : Spec prog 217 #[.agg #[.slice Py Js OZ,.string aM],.string s1] σ R := M.start h ok
end Ep
namespace S6
variable {p0 : Option Addr} {n0 c0 : Nat}
def M : Fw := ⟨prog,225,f225,[174,240,241],[],false,[],[],[]⟩
theorem ok : M.Ok := ⟨.cons call174 (.cons call240 (.cons call241 (AG.nil))),mixed,func225,by kernel_rfl⟩
theorem start (h : Spec prog 240 #[(.int .i64 (n0 : Int))] σ (AA R (CB fun t7 y => Bn t7 (R (.returned (.tuple #[.int .u64 0,.int .i64 210])) y) ((n0 : Int) ≠ (0 : Int) ∧ Df (Int.tmod 1 (n0 : Int)) fun x12 => Spec prog 241 #[.slice p0 n0 c0,.int .i64 x12] y (AA R (fun z AF => ∃ FI y13,(Value.complex .f64 FI y13) = z ∧ ∃ x15,YF prog (Builtin.real_ #[272] 51 #[(Value.complex .f64 FI y13)]) AF (Value.float .f64 x15) ∧ ∃ x17,YF prog (Builtin.real_ #[272] 51 #[(Value.complex .f64 FI y13)]) AF (Value.float .f64 x17) ∧ AK prog (binOp .mul 51 (Value.float .f64 x15) (Value.float .f64 x17)) AF (fun z AH => ∃ R9,(Value.float .f64 R9) = z ∧ ∃ Hv,YF prog (Builtin.imag_ #[272] 51 #[(Value.complex .f64 FI y13)]) AH (Value.float .f64 Hv) ∧ ∃ Iq,YF prog (Builtin.imag_ #[272] 51 #[(Value.complex .f64 FI y13)]) AH (Value.float .f64 Iq) ∧ AK prog (binOp .mul 51 (Value.float .f64 Hv) (Value.float .f64 Iq)) AH (fun z Ab => ∃ EI,(Value.float .f64 EI) = z ∧ AK prog (binOp .add 51 (Value.float .f64 R9) (Value.float .f64 EI)) Ab (fun z C4 => ∃ IM,(Value.float .f64 IM) = z ∧ Spec prog 174 #[(Value.float .f64 IM)] C4 (AA R (CI .u64 fun P3 FE => R (.returned (.tuple #[.int .u64 P3,.int .i64 0])) FE))))))))))) : Spec prog 225 #[.slice p0 n0 c0] σ R := M.start h ok
end S6
namespace P4
def M : Fw := ⟨prog,267,f267,[],[],false,[],[],[]⟩
theorem ok : M.Ok := ⟨AG.nil,mixed,func267,by kernel_rfl⟩
theorem start (h : Al σ fun b1 => R (.returned (.slice (aD b1 0) 13 13)) (Hp.set σ b1 (.cells #[(.string (ByteArray.mk #[])),(.string (ByteArray.mk #[114,97,116,101])),(.string (ByteArray.mk #[105,110,99,114,101,97,115,101])),(.string (ByteArray.mk #[100,101,108,116,97])),(.string (ByteArray.mk #[115,117,109,95,111,118,101,114,95,116,105,109,101])),(.string (ByteArray.mk #[97,118,103,95,111,118,101,114,95,116,105,109,101])),(.string (ByteArray.mk #[109,105,110,95,111,118,101,114,95,116,105,109,101])),(.string (ByteArray.mk #[109,97,120,95,111,118,101,114,95,116,105,109,101])),(.string (ByteArray.mk #[99,111,117,110,116,95,111,118,101,114,95,116,105,109,101])),(.string (ByteArray.mk #[108,97,115,116,95,111,118,101,114,95,116,105,109,101])),(.string (ByteArray.mk #[119,97,118,101])),(.string (ByteArray.mk #[97,98,115])),(.string (ByteArray.mk #[102,108,111,111,114]))] 9 (0,0)))) : Spec prog 267 #[] σ R := M.start h ok
end P4
namespace Am
variable {q0 : Option Addr} {b2 : Nat} {t4 : Bool}
def M : Fw := ⟨prog,270,f270,[66,67,135,136,138,210,295,296,297,298],[3],false,[],[],[(124,[(0,wQ),(2,wA),(4,wB)]),(252,[(0,wQ),(2,wA)]),(508,[(0,wQ),(2,wA)]),(255,[(0,wQ),(2,wA)])]⟩
theorem ok : M.Ok := ⟨.cons call66 (.cons call67 (.cons call135 (.cons call136 (.cons call138 (.cons call210 (.cons call295 (.cons call296 (.cons call297 (.cons call298 (AG.nil)))))))))),mixed,func270,by kernel_rfl⟩
def MM := M.pt 0
def MN := M.pt 1
def QZ := M.pt 2
def WU := M.pt 3
theorem start (h : Al σ fun b2 => AK prog (Instr.storeAt 36 (.pointer (aD b2 0)) (.agg #[.int .i64 2,.int .i64 0,(.string (ByteArray.mk #[])),.slice none 0 0,.int .i64 0,.int .i64 0,.int .i64 0,.slice none 0 0,.bool false,.int .i64 0])) (Hp.set σ b2 (.cells #[.int .i64 0,.int .i64 0,(.string (ByteArray.mk #[])),.slice none 0 0,.int .i64 0,.int .i64 0,.int .i64 0,.slice none 0 0,.bool false,.int .i64 0] 36 (0,0))) (fun _ y => Spec prog 66 #[.pointer q0] y (AA R (fun z AF => ∃ Fs Gp Ft Gq,z = (.agg #[.int .i64 Fs,.int .i64 Gp,.string Ft,.int .i64 Gq]) ∧ ∀ b3 : Nat,Br (Fs = 3) (Spec prog 295 #[.string Ft] AF (AA R (CB fun t14 AH => Bn t14 (Spec prog 135 #[.pointer q0] AH (AA R (fun z Ab => ∃ J9 O7 V7 y8,z = (.agg #[.int .i64 J9,.int .i64 O7,.string V7,.int .i64 y8]) ∧ Spec prog 296 #[.pointer q0,(.pointer (aD b2 0)),(.agg #[.int .i64 1,(.string (ByteArray.mk #[95,95,110,97,109,101,95,95])),.string Ft]),.agg #[.int .i64 Fs,.int .i64 Gp,.string Ft,.int .i64 Gq]] Ab (AA R (fun z C4 => z = (.tuple #[]) ∧ MM R q0 b2 true C4))))) (MM R q0 b2 false AH)))) (MM R q0 b2 false AF))))) : Spec prog 270 #[.pointer q0] σ R := M.start h ok
theorem I2 (h : Spec prog 136 #[.pointer q0,.int .i64 5,(.string (ByteArray.mk #[123]))] σ (AA R (CB fun t27 y => Bo t27 (Spec prog 135 #[.pointer q0] y (AA R (fun z AF => ∃ ALz AL0 AL1 AL2,z = (.agg #[.int .i64 ALz,.int .i64 AL0,.string AL1,.int .i64 AL2]) ∧ Spec prog 297 #[.pointer q0,(.pointer (aD b2 0))] AF (AA R (fun z AH => z = (.tuple #[]) ∧ MN R q0 b2 AH))))) (Bn t4 (Spec prog 67 #[.pointer q0] y (AA R (fun z AF => z = (.tuple #[]) ∧ MN R q0 b2 AF))) (MN R q0 b2 y))))) : MM R q0 b2 t4 σ := M.of h ok rfl
theorem JH (h : Spec prog 136 #[.pointer q0,.int .i64 5,(.string (ByteArray.mk #[91]))] σ (AA R (CB fun t37 y => Bo t37 (Spec prog 135 #[.pointer q0] y (AA R (fun z AF => ∃ AL3 AL4 AL5 AL6,z = (.agg #[.int .i64 AL3,.int .i64 AL4,.string AL5,.int .i64 AL6]) ∧ Spec prog 298 #[.pointer q0] AF (AA R (CI .i64 fun x41 AH => AK prog (Instr.storeAt 3 (.pointer (aD b2 0)) (.int .i64 3)) AH (fun _ Ab => AK prog (Instr.storeAt 2 (.pointer (aD b2 4)) (.int .i64 x41)) Ab (fun _ C4 => Spec prog 210 #[.pointer q0,(.string (ByteArray.mk #[93]))] C4 (AA R (fun z FE => z = (.tuple #[]) ∧ QZ R q0 b2 FE))))))))) (QZ R q0 b2 y)))) : MN R q0 b2 σ := M.of h ok rfl
theorem Q8 (h : Spec prog 136 #[.pointer q0,.int .i64 3,(.string (ByteArray.mk #[111,102,102,115,101,116]))] σ (AA R (CB fun t47 y => Bo t47 (Spec prog 135 #[.pointer q0] y (AA R (fun z AF => ∃ tB AL7 AL8 AL9,z = (.agg #[.int .i64 tB,.int .i64 AL7,.string AL8,.int .i64 AL9]) ∧ Spec prog 298 #[.pointer q0] AF (AA R (CI .i64 fun x51 AH => AK prog (Instr.storeAt 2 (.pointer (aD b2 5)) (.int .i64 x51)) AH (fun _ Ab => WU R q0 b2 Ab)))))) (WU R q0 b2 y)))) : QZ R q0 b2 σ := M.of h ok rfl
theorem WV (h : ∃ YT YU mO YV YW YX mP mQ mR mS mT mU mV mW,Aw σ b2 0 [.int .i64 YT,.int .i64 YU,.string mO,.slice YV YW YX,.int .i64 mP,.int .i64 mQ,.int .i64 mR,.slice mS mT mU,.bool mV,.int .i64 mW] ∧ Spec prog 138 #[.pointer q0,.agg #[.int .i64 YT,.int .i64 YU,.string mO,.slice YV YW YX,.int .i64 mP,.int .i64 mQ,.int .i64 mR,.slice mS mT mU,.bool mV,.int .i64 mW]] σ (AA R (fun z y => z = (.tuple #[]) ∧ R (.returned (.tuple #[])) y))) : WU R q0 b2 σ := M.of h ok rfl
end Am
namespace BM
variable {x0 x1 : Int} {t2 t7 : Bool} {v6 : Value}
def M : Fw := ⟨prog,282,f282,[],[],false,[],[],[(248,[(1,wI),(6,wV),(7,wB)]),(15988,[(1,wI),(6,wV),(7,wB)])]⟩
theorem ok : M.Ok := ⟨AG.nil,mixed,func282,by kernel_rfl⟩
def zv := M.pt 0
def J4 := M.pt 1
theorem start (h : LI .u64 σ 6 0 fun x10 => (0 ≤ x10 ∧ x10 ≤ ((IntKind.bits .u64 : Nat) : Int)) ∧ Df (x0 / 2 ^ Int.toNat x10) fun x11 => Br (x11 ≠ 0) (R (.returned (.tuple #[.float .f64 0,.bool false])) σ) (AK prog (convert 48 51 (.int .u64 x0)) σ (fun z y => ∃ QY,(Value.float .f64 QY) = z ∧ Bo t2 (∃ x17,YF prog (Op.unary .neg (Value.float .f64 QY)) y (Value.float .f64 x17) ∧ zv R x1 (Value.float .f64 x17) false y) (zv R x1 (Value.float .f64 QY) false y)))) : Spec prog 282 #[.int .u64 x0,.int .i64 x1,.bool t2] σ R := M.start h ok
theorem tG (h : Br (x1 = 0) (R (.returned (.tuple #[v6,.bool true])) σ) (Br (0 < x1) (Br (x1 ≤ 37) (Br (22 < x1) (LS σ 9 0 fun p32 n32 c32 => AI (x1 - 22) ∧ Pq p32 fun b35 o35 => In (x1 - 22) (n32 : Int) ∧ ∃ aN,Hp.ld σ ⟨b35,(o35 + Int.toNat (x1 - 22) * 1),none⟩ = some (Value.float .f64 aN) ∧ AK prog (binOp .mul 51 v6 (Value.float .f64 aN)) σ (fun z y => ∃ Qb,(Value.float .f64 Qb) = z ∧ J4 R 22 (Value.float .f64 Qb) t7 y)) (J4 R x1 v6 t7 σ)) (Br (x1 < 0) (Br (((-22) : Int) ≤ x1) (LS σ 9 0 fun qj jm vQ => Df (IntKind.i64.wrap (0 - x1)) fun tA => Pq qj fun b61 o61 => In tA (jm : Int) ∧ ∃ jw,Hp.ld σ ⟨b61,(o61 + Int.toNat tA * 1),none⟩ = some (Value.float .f64 jw) ∧ AK prog (binOp .quo 51 v6 (Value.float .f64 jw)) σ (fun z y => ∃ x63,(Value.float .f64 x63) = z ∧ R (.returned (.tuple #[(Value.float .f64 x63),.bool true])) y)) (R (.returned (.tuple #[v6,.bool t7])) σ)) (R (.returned (.tuple #[v6,.bool t7])) σ))) (Br (x1 < 0) (Br (((-22) : Int) ≤ x1) (LS σ 9 0 fun qj jm vQ => Df (IntKind.i64.wrap (0 - x1)) fun tA => Pq qj fun b61 o61 => In tA (jm : Int) ∧ ∃ jw,Hp.ld σ ⟨b61,(o61 + Int.toNat tA * 1),none⟩ = some (Value.float .f64 jw) ∧ AK prog (binOp .quo 51 v6 (Value.float .f64 jw)) σ (fun z y => ∃ x63,(Value.float .f64 x63) = z ∧ R (.returned (.tuple #[(Value.float .f64 x63),.bool true])) y)) (R (.returned (.tuple #[v6,.bool t7])) σ)) (R (.returned (.tuple #[v6,.bool t7])) σ)))) : zv R x1 v6 t7 σ := M.of h ok rfl
end BM
end TwW
end
end
section
set_option maxRecDepth 100000
noncomputable section
namespace TwW
open Go Tw Go.Proofs.Tryz
variable [E5] {R : Rr} {σ : Hp}


namespace B8
variable {p0 PD AMC AMD : Option Addr} {n0 c0 n21 M3 AME AMF AMG AMH : Nat} {x7 x8 Iq EI iE Qc AMI tH AMJ AMK x12 : Int} {t9 AML : Bool} {iF : ByteArray}
def M : Fw := ⟨prog,15,f15,[37],[11],false,[],[],[(488,[(7,wI),(8,wI),(9,wB),(21,wL),(22,wI),(23,wI)]),(1959,[(7,wI),(8,wI),(9,wB),(21,wL),(22,wI),(23,wI)]),(125342,[(7,wI),(8,wI),(9,wB),(11,.X 36 [.I .i64,.I .i64,.T,.L,.I .i64,.I .i64,.I .i64,.L,.B,.I .i64]),(12,wI),(21,wL),(22,wI),(23,wI)]),(250687,[(7,wI),(8,wI),(21,wL),(22,wI),(23,wI)])]⟩
theorem ok : M.Ok := ⟨.cons call37 (AG.nil),mixed,func15,by kernel_rfl⟩
def zw := M.pt 0
def zx := M.pt 1
def WU := M.pt 2
def YQ := M.pt 3
theorem start (h : Spec prog 37 #[.slice p0 n0 c0] σ (AA R (fun z y => ∃ AMM tI AFX,z = (.tuple #[.int .i64 AMM,.int .i64 tI,.int .i64 AFX]) ∧ Br (AFX ≠ 0) (R (.returned (.tuple #[.int .i64 0,.int .i64 0])) y) (zw R 0 0 false p0 n0 c0 (n0 : Int) 0 y)))) : Spec prog 15 #[.slice p0 n0 c0] σ R := M.start h ok
theorem WW (h : Br (EI < Iq) (Pq PD fun Jw XF => In EI (n21 : Int) ∧ ∃ WX mX mY mZ mc me PE PF mg mh mi mj ml mn,Aw σ Jw (XF + Int.toNat EI * 10) [.int .i64 WX,.int .i64 mX,.string mY,.slice mZ mc me,.int .i64 PE,.int .i64 PF,.int .i64 mg,.slice mh mi mj,.bool ml,.int .i64 mn] ∧ ∀ BG : Nat,Br (WX ≠ 2) (Br (WX ≠ 3) (zx R x7 x8 t9 (aD Jw XF) n21 M3 Iq EI σ) (AI (PF + PE) ∧ Br (WX = 2) (AI ((PF + PE) + 300) ∧ WU R x7 x8 t9 WX mX mY mZ mc me PE PF mg mh mi mj ml mn (((PF + PE) + 300)) (aD Jw XF) n21 M3 Iq EI σ) (WU R x7 x8 t9 WX mX mY mZ mc me PE PF mg mh mi mj ml mn (PF + PE) (aD Jw XF) n21 M3 Iq EI σ))) (AI (PF + PE) ∧ Br (WX = 2) (AI ((PF + PE) + 300) ∧ WU R x7 x8 t9 WX mX mY mZ mc me PE PF mg mh mi mj ml mn (((PF + PE) + 300)) (aD Jw XF) n21 M3 Iq EI σ) (WU R x7 x8 t9 WX mX mY mZ mc me PE PF mg mh mi mj ml mn (PF + PE) (aD Jw XF) n21 M3 Iq EI σ))) (R (.returned (.tuple #[.int .i64 x7,.int .i64 x8])) σ)) : zw R x7 x8 t9 PD n21 M3 Iq EI σ := M.of h ok rfl
theorem fG (h : AI (EI + 1) ∧ zw R x7 x8 t9 PD n21 M3 Iq (EI + 1) σ) : zx R x7 x8 t9 PD n21 M3 Iq EI σ := M.of h ok rfl
theorem WV (h : Bn t9 (YQ R (if x7 < x12 then x12 else x7) tH PD n21 M3 Iq EI σ) (Br (tH < x8) (YQ R (if x7 < x12 then x12 else x7) tH PD n21 M3 Iq EI σ) (YQ R (if x7 < x12 then x12 else x7) x8 PD n21 M3 Iq EI σ))) : WU R x7 x8 t9 iE Qc iF AMC AME AMF AMI tH AMJ AMD AMG AMH AML AMK x12 PD n21 M3 Iq EI σ := M.jj h ok rfl fun _ => by kernel_rfl
theorem WI (h : zx R x7 x8 true PD n21 M3 Iq EI σ) : YQ R x7 x8 PD n21 M3 Iq EI σ := M.of h ok rfl
end B8
namespace U8
variable {s0 : ByteArray} {p1 : Option Addr} {n1 c1 : Nat} {x2 : Int}
def M : Fw := ⟨prog,20,f20,[11,13,43],[],false,[],[],[]⟩
theorem ok : M.Ok := ⟨.cons call11 (.cons call13 (.cons call43 (AG.nil))),mixed,func20,by kernel_rfl⟩
theorem start (h : Spec prog 43 #[.string s0] σ (AA R (fun z y => ∃ lU lV lW AMN zy,z = (.tuple #[.slice lU lV lW,.int .i64 AMN,.int .i64 zy]) ∧ Br (zy ≠ 0) (R (.returned (.tuple #[.slice none 0 0,.int .i64 zy])) y) (Spec prog 13 #[.slice p1 n1 c1] y (AA R (CS fun Uz n22 UB AF => Spec prog 11 #[.slice lU lV lW,.slice Uz n22 UB,.int .i64 x2] AF (AA R (fun z AH => ∃ AFY AFZ AFa WY,z = (.tuple #[.slice AFY AFZ AFa,.int .i64 WY]) ∧ R (.returned (.tuple #[.slice AFY AFZ AFa,.int .i64 WY])) AH)))))))) : Spec prog 20 #[.string s0,.slice p1 n1 c1,.int .i64 x2] σ R := M.start h ok
end U8
namespace Ny
variable {Py p0b p1a p1b : Option Addr} {Js OZ n0b c0b n1a c1a n1b c1b : Nat}
def M : Fw := ⟨prog,51,f51,[52],[2,3],false,[],[],[]⟩
theorem ok : M.Ok := ⟨.cons call52 (AG.nil),mixed,func51,by kernel_rfl⟩
theorem start (h : ∀ b2 : Nat,∀ b3 : Nat,Spec prog 52 #[.slice Py Js OZ,.slice p1a n1a c1a] σ (AA R (CI .i64 fun x9 y => R (.returned (.int .i64 x9)) y))) : Spec prog 51 #[.agg #[.slice Py Js OZ,.slice p0b n0b c0b],.agg #[.slice p1a n1a c1a,.slice p1b n1b c1b]] σ R := M.start h ok
end Ny
namespace Mc
variable {p0 p1 : Option Addr} {n0 c0 n1 c1 : Nat}
def M : Fw := ⟨prog,52,f52,[75],[],false,[],[],[]⟩
theorem ok : M.Ok := ⟨.cons call75 (AG.nil),mixed,func52,by kernel_rfl⟩
theorem start (h : Spec prog 75 #[.slice p0 n0 c0,.slice p1 n1 c1,(.func (.func 76) #[] #[])] σ (AA R (CI .i64 fun x7 y => R (.returned (.int .i64 x7)) y))) : Spec prog 52 #[.slice p0 n0 c0,.slice p1 n1 c1] σ R := M.start h ok
end Mc
namespace FV
variable {p0 : Option Addr} {n0 c0 : Nat} {x3 : Int}
def M : Fw := ⟨prog,56,f56,[87,88],[],false,[(10,17,true)],[],[(464,[(0,wL),(3,wI)])]⟩
theorem ok : M.Ok := ⟨.cons call87 (.cons call88 (AG.nil)),mixed,func56,by kernel_rfl⟩
def BE := M.pt 0
theorem start (h : Br (16 < (n0 : Int)) (R (.returned (.int .i64 30)) σ) (BE R p0 n0 c0 0 σ)) : Spec prog 56 #[.slice p0 n0 c0] σ R := M.start h ok
theorem Bz (h : Br (x3 < (n0 : Int)) (Pq p0 fun H0 Nh => In x3 (n0 : Int) ∧ LT σ H0 (Nh + Int.toNat x3 * 2) fun s18 => Spec prog 87 #[.string s18] σ (AA R (CB fun t19 y => Bn t19 (R (.returned (.int .i64 31)) y) (In x3 (n0 : Int) ∧ LT y H0 ((Nh + Int.toNat x3 * 2) + 1) fun s26 => Spec prog 88 #[.string s26] y (AA R (CB fun t27 AF => Bn t27 (R (.returned (.int .i64 32)) AF) (Br (0 < x3) (In x3 (n0 : Int) ∧ LT AF H0 (Nh + Int.toNat x3 * 2) fun s37 => AI (x3 - 1) ∧ In (x3 - 1) (n0 : Int) ∧ LT AF H0 (Nh + Int.toNat (x3 - 1) * 2) fun s43 => ∃ t44,YF prog ((do eqGuard .leq 9 (.tmp 37) (.tmp 43) (.string s37) (.string s43); binOp .leq 9 (.string s37) (.string s43))) AF (.bool t44) ∧ Bo t44 (R (.returned (.int .i64 33)) AF) (AI (x3 + 1) ∧ BE R (aD H0 Nh) n0 c0 (x3 + 1) AF)) (AI (x3 + 1) ∧ BE R (aD H0 Nh) n0 c0 (x3 + 1) AF)))))))) (R (.returned (.int .i64 0)) σ)) : BE R p0 n0 c0 x3 σ := M.of h ok rfl
end FV
namespace Nz
variable {Py p0b : Option Addr} {Js OZ n0b c0b : Nat}
def M : Fw := ⟨prog,58,f58,[],[1,2],false,[(1,9,false)],[],[]⟩
theorem ok : M.Ok := ⟨AG.nil,mixed,func58,by kernel_rfl⟩
theorem start (h : ∀ b1 : Nat,∀ b2 : Nat,(Al σ fun b3 => (AK prog (Builtin.append_ #[37,37] 37 #[(.slice (aD b3 0) 0 0),.slice Py Js OZ]) (Hp.set σ b3 (.cells #[] 56 (0,0))) (CS fun p6 n6 c6 y => Al y fun b7 => AK prog (Builtin.append_ #[38,38] 38 #[(.slice (aD b7 0) 0 0),.slice p0b n0b c0b]) (Hp.set y b7 (.cells #[] 50 (0,0))) (CS fun Q6 n10 Np AF => R (.returned (.agg #[.slice p6 n6 c6,.slice Q6 n10 Np])) AF))) ∧ (Al (Hp.set σ b3 (.cells #[] 56 (0,0))) fun b7 => AK prog (Builtin.append_ #[37,37] 37 #[(.slice (aD b3 0) 0 0),.slice Py Js OZ]) (Hp.set (Hp.set σ b3 (.cells #[] 56 (0,0))) b7 (.cells #[] 50 (0,0))) (CS fun p6 n6 c6 y => AK prog (Builtin.append_ #[38,38] 38 #[(.slice (aD b7 0) 0 0),.slice p0b n0b c0b]) y (CS fun Q6 n10 Np AF => R (.returned (.agg #[.slice p6 n6 c6,.slice Q6 n10 Np])) AF)))) ∧ (Al σ fun b7 => Al (Hp.set σ b7 (.cells #[] 50 (0,0))) fun b3 => AK prog (Builtin.append_ #[37,37] 37 #[(.slice (aD b3 0) 0 0),.slice Py Js OZ]) (Hp.set (Hp.set σ b7 (.cells #[] 50 (0,0))) b3 (.cells #[] 56 (0,0))) (CS fun p6 n6 c6 y => AK prog (Builtin.append_ #[38,38] 38 #[(.slice (aD b7 0) 0 0),.slice p0b n0b c0b]) y (CS fun Q6 n10 Np AF => R (.returned (.agg #[.slice p6 n6 c6,.slice Q6 n10 Np])) AF)))) : Spec prog 58 #[.agg #[.slice Py Js OZ,.slice p0b n0b c0b]] σ R := M.start h ok
end Nz
namespace S7
def M : Fw := ⟨prog,62,f62,[],[],false,[],[],[]⟩
theorem ok : M.Ok := ⟨AG.nil,mixed,func62,by kernel_rfl⟩
theorem start (h : Al σ fun b1 => R (.returned (.slice (aD b1 0) 5 5)) (Hp.set σ b1 (.cells #[(.string (ByteArray.mk #[115,117,109])),(.string (ByteArray.mk #[109,105,110])),(.string (ByteArray.mk #[109,97,120])),(.string (ByteArray.mk #[97,118,103])),(.string (ByteArray.mk #[99,111,117,110,116]))] 9 (0,0)))) : Spec prog 62 #[] σ R := M.start h ok
end S7
namespace Av
variable {s0 Ft : ByteArray} {p5 p6 : Option Addr} {n5 c5 n6 c6 : Nat} {Fs Gp Gq x8 x9 FI ASz : Int} {t201 : Bool}
def M : Fw := ⟨prog,63,f63,[90,91,92,93,94],[7],false,[],[],[(1788,[(0,wT),(5,wL),(7,.X 131 [.I .i64,.I .i64,.T,.I .i64]),(8,wI)]),(917472,[(0,wT),(5,wL),(7,.X 131 [.I .i64,.I .i64,.T,.I .i64]),(8,wI),(9,wI)]),(58720224,[(0,wT),(5,wL),(7,.X 131 [.I .i64,.I .i64,.T,.I .i64]),(8,wI),(9,wI)]),(117440508,[(0,wT),(5,wL),(6,wL),(7,.X 131 [.I .i64,.I .i64,.T,.I .i64]),(8,wI),(9,wI)]),(15032385517,[(0,wT),(5,wL),(6,wL),(7,.X 131 [.I .i64,.I .i64,.T,.I .i64]),(8,wI),(9,wI),(13,w8),(199,w8),(201,wB)]),(1879048190,[(0,wT),(5,wL),(6,wL),(7,.X 131 [.I .i64,.I .i64,.T,.I .i64]),(8,wI),(9,wI)]),(458750,[(0,wT),(5,wL),(7,.X 131 [.I .i64,.I .i64,.T,.I .i64]),(8,wI)])]⟩
theorem ok : M.Ok := ⟨.cons call90 (.cons call91 (.cons call92 (.cons call93 (.cons call94 (AG.nil))))),mixed,func63,by kernel_rfl⟩
def M4 := M.pt 0
def Yi := M.pt 1
def U9 := M.pt 2
def AFb := M.pt 3
def LK := M.pt 6
theorem start (h : ∀ b7 : Nat,Br ((4096 : Int) < ((ByteArray.size s0 : Nat) : Int)) (R (.returned (.tuple #[.slice none 0 0,.int .i64 0,.int .i64 170])) σ) (M4 R s0 none 0 0 0 0 (ByteArray.mk #[]) 0 0 σ)) : Spec prog 63 #[.string s0] σ R := M.start h ok
theorem Lv (h : Br (x8 = ((ByteArray.size s0 : Nat) : Int)) (Al σ fun b24 => AK prog (Builtin.append_ #[121,121] 121 #[.slice p5 n5 c5,(.slice (aD b24 0) 1 1)]) (Hp.set σ b24 (.cells #[.int .i64 0,.int .i64 x8,(.string (ByteArray.mk #[])),.int .i64 0] 131 (0,0))) (CS fun iH n25 iI y => R (.returned (.tuple #[.slice iH n25 iI,.int .i64 0,.int .i64 0])) y)) (∃ wq : UInt8,0 ≤ x8 ∧ (ByteArray.data s0)[Int.toNat x8]? = some wq ∧ Br ((((UInt8.toNat wq : Nat) : Int) : Int) = 32) (AI (x8 + 1) ∧ M4 R s0 p5 n5 c5 Fs Gp Ft Gq (x8 + 1) σ) (Br ((((UInt8.toNat wq : Nat) : Int) : Int) = 9) (AI (x8 + 1) ∧ M4 R s0 p5 n5 c5 Fs Gp Ft Gq (x8 + 1) σ) (Br ((((UInt8.toNat wq : Nat) : Int) : Int) = 13) (AI (x8 + 1) ∧ M4 R s0 p5 n5 c5 Fs Gp Ft Gq (x8 + 1) σ) (Br ((((UInt8.toNat wq : Nat) : Int) : Int) = 10) (AI (x8 + 1) ∧ M4 R s0 p5 n5 c5 Fs Gp Ft Gq (x8 + 1) σ) (Spec prog 90 #[(.int .u8 ((UInt8.toNat wq : Nat) : Int))] σ (AA R (CB fun t49 y => Bo t49 (Yi R s0 p5 n5 c5 Fs Gp Ft Gq x8 x8 y) (Spec prog 91 #[(.int .u8 ((UInt8.toNat wq : Nat) : Int))] y (AA R (CB fun t52 AF => Bo t52 (U9 R s0 p5 n5 c5 Fs Gp Ft Gq x8 x8 AF) (Br ((((UInt8.toNat wq : Nat) : Int) : Int) = 34) (AI (x8 + 1) ∧ AFb R s0 p5 n5 c5 none 0 0 Fs Gp Ft Gq (x8 + 1) x8 AF) (∃ s60,YF prog (Instr.sliceAt 9 (.string s0) (some (.int .i64 x8)) none none) AF (.string s60) ∧ Spec prog 92 #[.string s60] AF (AA R (CT fun s61 AH => Bn ((ByteArray.toList s61 == ByteArray.toList (ByteArray.mk #[]))) (Al AH fun b68 => AK prog (Builtin.append_ #[121,121] 121 #[.slice p5 n5 c5,(.slice (aD b68 0) 1 1)]) (Hp.set AH b68 (.cells #[.int .i64 5,.int .i64 x8,.string s61,.int .i64 0] 131 (0,0))) (CS fun lK n69 ql Ab => AI (x8 + ((ByteArray.size s61 : Nat) : Int)) ∧ M4 R s0 lK n69 ql Fs Gp Ft Gq ((x8 + ((ByteArray.size s61 : Nat) : Int))) Ab)) (R (.returned (.tuple #[.slice none 0 0,.int .i64 x8,.int .i64 171])) AH)))))))))))))))) : M4 R s0 p5 n5 c5 Fs Gp Ft Gq x8 σ := M.jj h ok rfl fun _ => by kernel_rfl
theorem fH (h : Br (x8 < ((ByteArray.size s0 : Nat) : Int)) (∃ u82 : UInt8,0 ≤ x8 ∧ (ByteArray.data s0)[Int.toNat x8]? = some u82 ∧ Spec prog 90 #[(.int .u8 ((UInt8.toNat u82 : Nat) : Int))] σ (AA R (CB fun t83 y => Bo t83 (AI (x8 + 1) ∧ Yi R s0 p5 n5 c5 Fs Gp Ft Gq (x8 + 1) x9 y) (∃ u87 : UInt8,0 ≤ x8 ∧ (ByteArray.data s0)[Int.toNat x8]? = some u87 ∧ Spec prog 91 #[(.int .u8 ((UInt8.toNat u87 : Nat) : Int))] y (AA R (CB fun t88 AF => Bo t88 (∃ u92 : UInt8,0 ≤ x8 ∧ (ByteArray.data s0)[Int.toNat x8]? = some u92 ∧ Br ((((UInt8.toNat u92 : Nat) : Int) : Int) ≠ 58) (AI (x8 + 1) ∧ Yi R s0 p5 n5 c5 Fs Gp Ft Gq (x8 + 1) x9 AF) (∃ u99 : UInt8,0 ≤ x8 ∧ (ByteArray.data s0)[Int.toNat x8]? = some u99 ∧ Br ((((UInt8.toNat u99 : Nat) : Int) : Int) = 46) (AI (x8 + 1) ∧ Yi R s0 p5 n5 c5 Fs Gp Ft Gq (x8 + 1) x9 AF) (∃ G8,YF prog (Instr.sliceAt 9 (.string s0) (some (.int .i64 x9)) (some (.int .i64 x8)) none) AF (.string G8) ∧ Spec prog 93 #[.string G8] AF (AA R (CI .i64 fun M5 AH => Br (0 < M5) (LK R s0 p5 n5 c5 2 x9 G8 M5 x8 AH) (Spec prog 94 #[.string G8] AH (AA R (CB fun t121 Ab => Bn t121 (R (.returned (.tuple #[.slice none 0 0,.int .i64 x9,.int .i64 172])) Ab) (LK R s0 p5 n5 c5 1 x9 G8 M5 x8 Ab))))))))) (∃ u99 : UInt8,0 ≤ x8 ∧ (ByteArray.data s0)[Int.toNat x8]? = some u99 ∧ Br ((((UInt8.toNat u99 : Nat) : Int) : Int) = 46) (AI (x8 + 1) ∧ Yi R s0 p5 n5 c5 Fs Gp Ft Gq (x8 + 1) x9 AF) (∃ G8,YF prog (Instr.sliceAt 9 (.string s0) (some (.int .i64 x9)) (some (.int .i64 x8)) none) AF (.string G8) ∧ Spec prog 93 #[.string G8] AF (AA R (CI .i64 fun M5 AH => Br (0 < M5) (LK R s0 p5 n5 c5 2 x9 G8 M5 x8 AH) (Spec prog 94 #[.string G8] AH (AA R (CB fun t121 Ab => Bn t121 (R (.returned (.tuple #[.slice none 0 0,.int .i64 x9,.int .i64 172])) Ab) (LK R s0 p5 n5 c5 1 x9 G8 M5 x8 Ab)))))))))))))) (∃ G8,YF prog (Instr.sliceAt 9 (.string s0) (some (.int .i64 x9)) (some (.int .i64 x8)) none) σ (.string G8) ∧ Spec prog 93 #[.string G8] σ (AA R (CI .i64 fun M5 y => Br (0 < M5) (LK R s0 p5 n5 c5 2 x9 G8 M5 x8 y) (Spec prog 94 #[.string G8] y (AA R (CB fun t121 AF => Bn t121 (R (.returned (.tuple #[.slice none 0 0,.int .i64 x9,.int .i64 172])) AF) (LK R s0 p5 n5 c5 1 x9 G8 M5 x8 AF)))))))) : Yi R s0 p5 n5 c5 Fs Gp Ft Gq x8 x9 σ := M.jj h ok rfl fun _ => by kernel_rfl
theorem Yj (h : Br (x8 < ((ByteArray.size s0 : Nat) : Int)) (∃ AFd : UInt8,0 ≤ x8 ∧ (ByteArray.data s0)[Int.toNat x8]? = some AFd ∧ Spec prog 91 #[(.int .u8 ((UInt8.toNat AFd : Nat) : Int))] σ (AA R (CB fun t136 y => Bo t136 (AI (x8 + 1) ∧ U9 R s0 p5 n5 c5 Fs Gp Ft Gq (x8 + 1) x9 y) (∃ AFe : UInt8,0 ≤ x8 ∧ (ByteArray.data s0)[Int.toNat x8]? = some AFe ∧ Spec prog 90 #[(.int .u8 ((UInt8.toNat AFe : Nat) : Int))] y (AA R (CB fun t141 AF => Bo t141 (AI (x8 + 1) ∧ U9 R s0 p5 n5 c5 Fs Gp Ft Gq (x8 + 1) x9 AF) (∃ Yk,YF prog (Instr.sliceAt 9 (.string s0) (some (.int .i64 x9)) (some (.int .i64 x8)) none) AF (.string Yk) ∧ Al AF fun Yl => AK prog (Builtin.append_ #[121,121] 121 #[.slice p5 n5 c5,(.slice (aD Yl 0) 1 1)]) (Hp.set AF Yl (.cells #[.int .i64 3,.int .i64 x9,.string Yk,.int .i64 0] 131 (0,0))) (CS fun mo n154 mq AH => M4 R s0 mo n154 mq Fs Gp Ft Gq x8 AH)))))))) (∃ Yk,YF prog (Instr.sliceAt 9 (.string s0) (some (.int .i64 x9)) (some (.int .i64 x8)) none) σ (.string Yk) ∧ Al σ fun Yl => AK prog (Builtin.append_ #[121,121] 121 #[.slice p5 n5 c5,(.slice (aD Yl 0) 1 1)]) (Hp.set σ Yl (.cells #[.int .i64 3,.int .i64 x9,.string Yk,.int .i64 0] 131 (0,0))) (CS fun mo n154 mq y => M4 R s0 mo n154 mq Fs Gp Ft Gq x8 y))) : U9 R s0 p5 n5 c5 Fs Gp Ft Gq x8 x9 σ := M.jj h ok rfl fun _ => by kernel_rfl
theorem Ym (h : Al σ fun AFf => AK prog (Builtin.append_ #[121,121] 121 #[.slice p5 n5 c5,(.slice (aD AFf 0) 1 1)]) (Hp.set σ AFf (.cells #[.int .i64 Fs,.int .i64 Gp,.string Ft,.int .i64 Gq] 131 (0,0))) (CS fun AMO n127 AMP y => M4 R s0 AMO n127 AMP Fs Gp Ft Gq x8 y)) : LK R s0 p5 n5 c5 Fs Gp Ft Gq x8 σ := M.jj h ok rfl fun _ => by kernel_rfl
end Av
namespace Er
variable {q0 Dx D5 p2 : Option Addr} {Dq Cb Dr Dy DF Cd : Int} {Dt : ByteArray} {Dz D0 D1 D6 n2 c2 : Nat} {DG : Bool}
def M : Fw := ⟨prog,84,f84,[124,128],[4],false,[(1,10,true)],[],[]⟩
theorem ok : M.Ok := ⟨.cons call124 (.cons call128 (AG.nil)),mixed,func84,by kernel_rfl⟩
theorem start (h : ∀ b4 : Nat,Pq p2 fun Ck V5 => In 0 (n2 : Int) ∧ LI .i64 σ Ck V5 fun x15 => In 1 (n2 : Int) ∧ LI .i64 σ Ck (V5 + 1) fun DT => Br (x15 = 2) (Br (x15 = 1) (Br (x15 = 3) (R (.returned (.tuple #[.int .i64 0,.int .i64 192])) σ) (Br (DT = 3) (R (.returned (.tuple #[.int .i64 0,.int .i64 192])) σ) (Spec prog 128 #[.int .i64 Cb] σ (AA R (CB fun t41 y => Bo t41 (Bm (DT = 2) (R (.returned (.tuple #[.int .i64 0,.int .i64 192])) y) (Br (DT = 1) (Spec prog 124 #[.int .i64 Cb] y (AA R (CB fun t57 AF => Bo t57 (Bn DG (R (.returned (.tuple #[.int .i64 0,.int .i64 192])) AF) (R (.returned (.tuple #[(.int .i64 (if x15 < DT then DT else x15)),.int .i64 0])) AF)) (R (.returned (.tuple #[(.int .i64 (if x15 < DT then DT else x15)),.int .i64 0])) AF)))) (R (.returned (.tuple #[(.int .i64 (if x15 < DT then DT else x15)),.int .i64 0])) y))) (Br (DF ≠ 0) (Bm (DT = 2) (R (.returned (.tuple #[.int .i64 0,.int .i64 192])) y) (Br (DT = 1) (Spec prog 124 #[.int .i64 Cb] y (AA R (CB fun t57 AF => Bo t57 (Bn DG (R (.returned (.tuple #[.int .i64 0,.int .i64 192])) AF) (R (.returned (.tuple #[(.int .i64 (if x15 < DT then DT else x15)),.int .i64 0])) AF)) (R (.returned (.tuple #[(.int .i64 (if x15 < DT then DT else x15)),.int .i64 0])) AF)))) (R (.returned (.tuple #[(.int .i64 (if x15 < DT then DT else x15)),.int .i64 0])) y))) (Br (DT = 1) (Spec prog 124 #[.int .i64 Cb] y (AA R (CB fun t57 AF => Bo t57 (Bn DG (R (.returned (.tuple #[.int .i64 0,.int .i64 192])) AF) (R (.returned (.tuple #[(.int .i64 (if x15 < DT then DT else x15)),.int .i64 0])) AF)) (R (.returned (.tuple #[(.int .i64 (if x15 < DT then DT else x15)),.int .i64 0])) AF)))) (R (.returned (.tuple #[(.int .i64 (if x15 < DT then DT else x15)),.int .i64 0])) y)))))))) (Br (x15 = 3) (R (.returned (.tuple #[.int .i64 0,.int .i64 192])) σ) (Br (DT = 3) (R (.returned (.tuple #[.int .i64 0,.int .i64 192])) σ) (Spec prog 128 #[.int .i64 Cb] σ (AA R (CB fun t41 y => Bo t41 (Bm (DT = 2) (R (.returned (.tuple #[.int .i64 0,.int .i64 192])) y) (R (.returned (.tuple #[(.int .i64 (if x15 < DT then DT else x15)),.int .i64 0])) y)) (Br (DF ≠ 0) (Bm (DT = 2) (R (.returned (.tuple #[.int .i64 0,.int .i64 192])) y) (R (.returned (.tuple #[(.int .i64 (if x15 < DT then DT else x15)),.int .i64 0])) y)) (R (.returned (.tuple #[(.int .i64 (if x15 < DT then DT else x15)),.int .i64 0])) y)))))))) (Br (x15 = 1) (Br (x15 = 3) (R (.returned (.tuple #[.int .i64 0,.int .i64 192])) σ) (Br (DT = 3) (R (.returned (.tuple #[.int .i64 0,.int .i64 192])) σ) (Spec prog 128 #[.int .i64 Cb] σ (AA R (CB fun t41 y => Bo t41 (R (.returned (.tuple #[.int .i64 0,.int .i64 192])) y) (Br (DF ≠ 0) (R (.returned (.tuple #[.int .i64 0,.int .i64 192])) y) (Br (DT = 1) (Spec prog 124 #[.int .i64 Cb] y (AA R (CB fun t57 AF => Bo t57 (Bn DG (R (.returned (.tuple #[.int .i64 0,.int .i64 192])) AF) (R (.returned (.tuple #[(.int .i64 (if x15 < DT then DT else x15)),.int .i64 0])) AF)) (R (.returned (.tuple #[(.int .i64 (if x15 < DT then DT else x15)),.int .i64 0])) AF)))) (R (.returned (.tuple #[(.int .i64 (if x15 < DT then DT else x15)),.int .i64 0])) y)))))))) (Br (x15 = 3) (R (.returned (.tuple #[.int .i64 0,.int .i64 192])) σ) (Br (DT = 3) (R (.returned (.tuple #[.int .i64 0,.int .i64 192])) σ) (Spec prog 128 #[.int .i64 Cb] σ (AA R (CB fun t41 y => Bo t41 (R (.returned (.tuple #[.int .i64 0,.int .i64 192])) y) (Br (DF ≠ 0) (R (.returned (.tuple #[.int .i64 0,.int .i64 192])) y) (R (.returned (.tuple #[(.int .i64 (if x15 < DT then DT else x15)),.int .i64 0])) y))))))))) : Spec prog 84 #[.pointer q0,.agg #[.int .i64 Dq,.int .i64 Cb,.string Dt,.slice Dx Dz D0,.int .i64 Dr,.int .i64 Dy,.int .i64 DF,.slice D5 D1 D6,.bool DG,.int .i64 Cd],.slice p2 n2 c2] σ R := M.start h ok
end Er
namespace S8
variable {x0 : Int}
def M : Fw := ⟨prog,91,f91,[],[],false,[],[],[]⟩
theorem ok : M.Ok := ⟨AG.nil,mixed,func91,by kernel_rfl⟩
theorem start (h : Br (97 ≤ x0) (Br (x0 ≤ 122) (R (.returned (.bool true)) σ) (Br (65 ≤ x0) (Br (x0 ≤ 90) (R (.returned (.bool true)) σ) (Br (x0 = 95) (R (.returned (.bool true)) σ) (R (.returned (.bool (decide (x0 = 58)))) σ))) (Br (x0 = 95) (R (.returned (.bool true)) σ) (R (.returned (.bool (decide (x0 = 58)))) σ)))) (Br (65 ≤ x0) (Br (x0 ≤ 90) (R (.returned (.bool true)) σ) (Br (x0 = 95) (R (.returned (.bool true)) σ) (R (.returned (.bool (decide (x0 = 58)))) σ))) (Br (x0 = 95) (R (.returned (.bool true)) σ) (R (.returned (.bool (decide (x0 = 58)))) σ)))) : Spec prog 91 #[.int .u8 x0] σ R := M.start h ok
end S8
namespace Es
variable {s0 : ByteArray} {t8 : Bool}
def M : Fw := ⟨prog,92,f92,[130],[],false,[],[],[(28,[(0,wT)]),(213,[(0,wT),(8,wB)])]⟩
theorem ok : M.Ok := ⟨.cons call130 (AG.nil),mixed,func92,by kernel_rfl⟩
def YC := M.pt 0
def DU := M.pt 1
theorem start (h : Br ((1 : Int) < ((ByteArray.size s0 : Nat) : Int)) (∃ s7,YF prog (Instr.sliceAt 9 (.string s0) none (some (.int .i64 2)) none) σ (.string s7) ∧ Bo ((ByteArray.toList s7 == ByteArray.toList (ByteArray.mk #[61,61]))) (DU R s0 true σ) (Bo ((ByteArray.toList s7 == ByteArray.toList (ByteArray.mk #[33,61]))) (DU R s0 true σ) (Bo ((ByteArray.toList s7 == ByteArray.toList (ByteArray.mk #[60,61]))) (DU R s0 true σ) (Bo ((ByteArray.toList s7 == ByteArray.toList (ByteArray.mk #[62,61]))) (DU R s0 true σ) (Bo ((ByteArray.toList s7 == ByteArray.toList (ByteArray.mk #[61,126]))) (DU R s0 true σ) (DU R s0 ((ByteArray.toList s7 == ByteArray.toList (ByteArray.mk #[33,126]))) σ)))))) (YC R s0 σ)) : Spec prog 92 #[.string s0] σ R := M.start h ok
theorem WB (h : ∃ u18 : UInt8,(0 : Int) ≤ 0 ∧ (ByteArray.data s0)[Int.toNat 0]? = some u18 ∧ Spec prog 130 #[(.string (ByteArray.mk #[60,62,61,43,45,42,47,40,41,123,125,91,93,44])),(.int .u8 ((UInt8.toNat u18 : Nat) : Int))] σ (AA R (CI .i64 fun DT y => Br (0 ≤ DT) (∃ s22,YF prog (Instr.sliceAt 9 (.string s0) none (some (.int .i64 1)) none) y (.string s22) ∧ R (.returned (.string s22)) y) (R (.returned (.string (ByteArray.mk #[]))) y)))) : YC R s0 σ := M.of h ok rfl
theorem Fe (h : Bo t8 (∃ s16,YF prog (Instr.sliceAt 9 (.string s0) none (some (.int .i64 2)) none) σ (.string s16) ∧ R (.returned (.string s16)) σ) (YC R s0 σ)) : DU R s0 t8 σ := M.of h ok rfl
end Es
namespace B9
variable {q0 Dx D5 p2 : Option Addr} {Dq Cb Dr Dy DF Cd : Int} {Dt : ByteArray} {Dz D0 D1 D6 n2 c2 : Nat} {DG : Bool}
def M : Fw := ⟨prog,100,f100,[140],[4,6],false,[],[],[]⟩
theorem ok : M.Ok := ⟨.cons call140 (AG.nil),mixed,func100,by kernel_rfl⟩
theorem start (h : ∀ b4 : Nat,∀ b6 : Nat,Spec prog 140 #[.string Dt] σ (AA R (fun z y => ∃ lx AMQ,z = (.tuple #[.int .u64 lx,.bool AMQ]) ∧ R (.returned (.tuple #[.agg #[.int .i64 1,.int .u64 lx,.slice none 0 0,.slice none 0 0],.int .i64 0])) y))) : Spec prog 100 #[.pointer q0,.agg #[.int .i64 Dq,.int .i64 Cb,.string Dt,.slice Dx Dz D0,.int .i64 Dr,.int .i64 Dy,.int .i64 DF,.slice D5 D1 D6,.bool DG,.int .i64 Cd],.slice p2 n2 c2] σ R := M.start h ok
end B9
namespace S9
variable {x0 x1 : Int}
def M : Fw := ⟨prog,123,f123,[],[],false,[],[],[]⟩
theorem ok : M.Ok := ⟨AG.nil,mixed,func123,by kernel_rfl⟩
theorem start (h : Br (x1 ≤ x0) (R (.returned (.bool (decide (x0 < 2147483648)))) σ) (R (.returned (.bool false)) σ)) : Spec prog 123 #[.int .i64 x0,.int .i64 x1] σ R := M.start h ok
end S9
namespace TA
variable {s0 : ByteArray}
def M : Fw := ⟨prog,126,f126,[98],[],false,[],[],[]⟩
theorem ok : M.Ok := ⟨.cons call98 (AG.nil),mixed,func126,by kernel_rfl⟩
theorem start (h : Spec prog 98 #[.string s0] σ (AA R (CB fun t4 y => R (.returned (.bool t4)) y))) : Spec prog 126 #[.string s0] σ R := M.start h ok
end TA
namespace BW
variable {s0 : ByteArray} {x1 x6 x7 x8 x9 : Int}
def M : Fw := ⟨prog,129,f129,[],[],false,[],[],[(252,[(0,wT),(1,wI),(6,wI),(7,.o (.I .i32)),(8,.o (.I .i32))]),(8144,[(0,wT),(1,wI),(6,wI),(7,.o (.I .i32)),(8,.o (.I .i32)),(9,wI)])]⟩
theorem ok : M.Ok := ⟨AG.nil,mixed,func129,by kernel_rfl⟩
def Yn := M.pt 0
def iJ := M.pt 1
theorem start (h : ∃ Ma : UInt8,0 ≤ x1 ∧ (ByteArray.data s0)[Int.toNat x1]? = some Ma ∧ Br ((((UInt8.toNat Ma : Nat) : Int) : Int) < 128) (R (.returned (.int .i64 1)) σ) (Br ((192 : Int) ≤ ((UInt8.toNat Ma : Nat) : Int)) (Br ((((UInt8.toNat Ma : Nat) : Int) : Int) < 224) (Df (Go.bits .and .u8 ((UInt8.toNat Ma : Nat) : Int) 31) fun IM => Df (IntKind.i32.wrap IM) fun P3 => Yn R s0 x1 2 128 P3 σ) (Br ((224 : Int) ≤ ((UInt8.toNat Ma : Nat) : Int)) (Br ((((UInt8.toNat Ma : Nat) : Int) : Int) < 240) (Df (Go.bits .and .u8 ((UInt8.toNat Ma : Nat) : Int) 15) fun js => Df (IntKind.i32.wrap js) fun Q7 => Yn R s0 x1 3 2048 Q7 σ) (Br ((240 : Int) ≤ ((UInt8.toNat Ma : Nat) : Int)) (Br ((((UInt8.toNat Ma : Nat) : Int) : Int) < 248) (Df (Go.bits .and .u8 ((UInt8.toNat Ma : Nat) : Int) 7) fun mr => Df (IntKind.i32.wrap mr) fun eh => Yn R s0 x1 4 65536 eh σ) (R (.returned (.int .i64 0)) σ)) (R (.returned (.int .i64 0)) σ))) (Br ((240 : Int) ≤ ((UInt8.toNat Ma : Nat) : Int)) (Br ((((UInt8.toNat Ma : Nat) : Int) : Int) < 248) (Df (Go.bits .and .u8 ((UInt8.toNat Ma : Nat) : Int) 7) fun mr => Df (IntKind.i32.wrap mr) fun eh => Yn R s0 x1 4 65536 eh σ) (R (.returned (.int .i64 0)) σ)) (R (.returned (.int .i64 0)) σ)))) (Br ((224 : Int) ≤ ((UInt8.toNat Ma : Nat) : Int)) (Br ((((UInt8.toNat Ma : Nat) : Int) : Int) < 240) (Df (Go.bits .and .u8 ((UInt8.toNat Ma : Nat) : Int) 15) fun js => Df (IntKind.i32.wrap js) fun Q7 => Yn R s0 x1 3 2048 Q7 σ) (Br ((240 : Int) ≤ ((UInt8.toNat Ma : Nat) : Int)) (Br ((((UInt8.toNat Ma : Nat) : Int) : Int) < 248) (Df (Go.bits .and .u8 ((UInt8.toNat Ma : Nat) : Int) 7) fun mr => Df (IntKind.i32.wrap mr) fun eh => Yn R s0 x1 4 65536 eh σ) (R (.returned (.int .i64 0)) σ)) (R (.returned (.int .i64 0)) σ))) (Br ((240 : Int) ≤ ((UInt8.toNat Ma : Nat) : Int)) (Br ((((UInt8.toNat Ma : Nat) : Int) : Int) < 248) (Df (Go.bits .and .u8 ((UInt8.toNat Ma : Nat) : Int) 7) fun mr => Df (IntKind.i32.wrap mr) fun eh => Yn R s0 x1 4 65536 eh σ) (R (.returned (.int .i64 0)) σ)) (R (.returned (.int .i64 0)) σ))))) : Spec prog 129 #[.string s0,.int .i64 x1] σ R := M.start h ok
theorem WZ (h : AI (x1 + x6) ∧ Br ((((ByteArray.size s0 : Nat) : Int) : Int) < (x1 + x6)) (R (.returned (.int .i64 0)) σ) (iJ R s0 x1 x6 x7 x8 1 σ)) : Yn R s0 x1 x6 x7 x8 σ := M.of h ok rfl
theorem fI (h : Br (x9 < x6) (AI (x1 + x9) ∧ ∃ u61 : UInt8,(0 : Int) ≤ (x1 + x9) ∧ (ByteArray.data s0)[Int.toNat (x1 + x9)]? = some u61 ∧ Df (Go.bits .and .u8 ((UInt8.toNat u61 : Nat) : Int) 192) fun jw => Br (jw ≠ 128) (R (.returned (.int .i64 0)) σ) (((0 : Int) ≤ 6 ∧ 6 ≤ ((IntKind.bits .i32 : Nat) : Int)) ∧ Df (IntKind.i32.wrap (x8 * 2 ^ Int.toNat 6)) fun zF => AI (x1 + x9) ∧ ∃ u70 : UInt8,(0 : Int) ≤ (x1 + x9) ∧ (ByteArray.data s0)[Int.toNat (x1 + x9)]? = some u70 ∧ Df (Go.bits .and .u8 ((UInt8.toNat u70 : Nat) : Int) 63) fun vy => Df (IntKind.i32.wrap vy) fun qq => Df (Go.bits .or .i32 zF qq) fun x73 => AI (x9 + 1) ∧ iJ R s0 x1 x6 x7 x73 (x9 + 1) σ)) (Br (x8 < x7) (R (.returned (.int .i64 0)) σ) (Br (1114111 < x8) (R (.returned (.int .i64 0)) σ) (Br (55296 ≤ x8) (Br (x8 ≤ 57343) (R (.returned (.int .i64 0)) σ) (R (.returned (.int .i64 x6)) σ)) (R (.returned (.int .i64 x6)) σ))))) : iJ R s0 x1 x6 x7 x8 x9 σ := M.of h ok rfl
end BW
namespace Hj
variable {q0 Dx D5 : Option Addr} {Dq Cb Dr Dy DF Cd : Int} {Dt : ByteArray} {Dz D0 D1 D6 : Nat} {DG : Bool}
def M : Fw := ⟨prog,138,f138,[],[3],false,[(1,10,false)],[],[]⟩
theorem ok : M.Ok := ⟨AG.nil,mixed,func138,by kernel_rfl⟩
theorem start (h : ∀ b3 : Nat,Pq q0 fun b6 o6 => LS σ b6 (o6 + 2) fun p8 n8 c8 => Al σ fun Cj => AK prog (Builtin.append_ #[22,22] 22 #[.slice p8 n8 c8,(.slice (aD Cj 0) 1 1)]) (Hp.set σ Cj (.cells #[.int .i64 Dq,.int .i64 Cb,.string Dt,.slice Dx Dz D0,.int .i64 Dr,.int .i64 Dy,.int .i64 DF,.slice D5 D1 D6,.bool DG,.int .i64 Cd] 36 (0,0))) (CS fun IN n11 IP y => AK prog (Instr.storeAt 22 (.pointer (aD b6 (o6 + 2))) (.slice IN n11 IP)) y (fun _ AF => R (.returned (.tuple #[])) AF))) : Spec prog 138 #[.pointer q0,.agg #[.int .i64 Dq,.int .i64 Cb,.string Dt,.slice Dx Dz D0,.int .i64 Dr,.int .i64 Dy,.int .i64 DF,.slice D5 D1 D6,.bool DG,.int .i64 Cd]] σ R := M.start h ok
end Hj
namespace Eu
variable {p0 : Option Addr} {n0 c0 : Nat}
def M : Fw := ⟨prog,154,f154,[151,155,194],[],false,[],[],[]⟩
theorem ok : M.Ok := ⟨.cons call151 (.cons call155 (.cons call194 (AG.nil))),mixed,func154,by kernel_rfl⟩
theorem start (h : Spec prog 151 #[.slice p0 n0 c0] σ (AA R (CI .u64 fun x4 y => Spec prog 155 #[.slice p0 n0 c0] y (AA R (CI .u64 fun x6 AF => Spec prog 194 #[.int .u64 x4,.int .u64 x6] AF (AA R (CI .u64 fun x7 AH => R (.returned (.int .u64 x7)) AH))))))) : Spec prog 154 #[.slice p0 n0 c0] σ R := M.start h ok
end Eu
namespace AX
variable {q0 Dx D5 p2 p3 I6 JC E6 FB Jf p35 qs : Option Addr} {Dq Cb Dr Dy DF Cd I4 HO I9 JA JB JF EG ER aN Qb bz Nf : Int} {Dt I5 : ByteArray} {Dz D0 D1 D6 n2 c2 n3 c3 I7 I8 JD JE E7 E8 FC FD n14 Hd n35 wu lR ey : Nat} {DG J8 : Bool} {m10 m12 : Option Nat}
def M : Fw := ⟨prog,160,f160,[49,148,206,207],[5,8,16,17,20,21],false,[],[],[(1000,[(3,wL),(5,.X 36 [.I .i64,.I .i64,.T,.L,.I .i64,.I .i64,.I .i64,.L,.B,.I .i64]),(8,.X 93 [.I .i64,.I .u64,.L,.L]),(10,wM),(12,wM),(14,wL),(35,wL),(36,wI),(37,wI)]),(2024,[(5,.X 36 [.I .i64,.I .i64,.T,.L,.I .i64,.I .i64,.I .i64,.L,.B,.I .i64]),(8,.X 93 [.I .i64,.I .u64,.L,.L]),(10,wM),(14,wL),(66,wL),(67,wI),(68,wI)]),(8103,[(5,.X 36 [.I .i64,.I .i64,.T,.L,.I .i64,.I .i64,.I .i64,.L,.B,.I .i64]),(8,.X 93 [.I .i64,.I .u64,.L,.L]),(10,wM),(14,wL),(66,wL),(67,wI),(68,wI)]),(4007,[(3,wL),(5,.X 36 [.I .i64,.I .i64,.T,.L,.I .i64,.I .i64,.I .i64,.L,.B,.I .i64]),(8,.X 93 [.I .i64,.I .u64,.L,.L]),(10,wM),(12,wM),(14,wL),(35,wL),(36,wI),(37,wI)])]⟩
theorem ok : M.Ok := ⟨.cons call49 (.cons call148 (.cons call206 (.cons call207 (AG.nil)))),mixed,func160,by kernel_rfl⟩
def tJ := M.pt 0
def J4 := M.pt 1
def Nl := M.pt 2
def Wa := M.pt 3
theorem start (h : ∀ b5 : Nat,∀ b8 : Nat,Spec prog 206 #[.agg #[.int .i64 Dq,.int .i64 Cb,.string Dt,.slice Dx Dz D0,.int .i64 Dr,.int .i64 Dy,.int .i64 DF,.slice D5 D1 D6,.bool DG,.int .i64 Cd],.slice p2 n2 c2] σ (AA R (fun z y => ∃ AFg AMS,z = (.tuple #[.map AFg,.bool AMS]) ∧ Spec prog 206 #[.agg #[.int .i64 Dq,.int .i64 Cb,.string Dt,.slice Dx Dz D0,.int .i64 Dr,.int .i64 Dy,.int .i64 DF,.slice D5 D1 D6,.bool DG,.int .i64 Cd],.slice p3 n3 c3] y (AA R (fun z AF => ∃ AFh AMT,z = (.tuple #[.map AFh,.bool AMT]) ∧ tJ R p3 n3 c3 Dq Cb Dt Dx Dz D0 Dr Dy DF D5 D1 D6 DG Cd 0 0 none 0 0 none 0 0 AFg AFh none 0 0 p2 n2 c2 (n2 : Int) 0 AF))))) : Spec prog 160 #[.pointer q0,.agg #[.int .i64 Dq,.int .i64 Cb,.string Dt,.slice Dx Dz D0,.int .i64 Dr,.int .i64 Dy,.int .i64 DF,.slice D5 D1 D6,.bool DG,.int .i64 Cd],.slice p2 n2 c2,.slice p3 n3 c3] σ R := M.start h ok
theorem fJ (h : Br (Qb < aN) (Pq p35 fun qz o39 => In Qb (n35 : Int) ∧ ∃ Ye WL cB cC,Aw σ qz (o39 + Int.toNat Qb * 2) [.slice Ye WL cB,.int .u64 cC] ∧ ∀ H0 : Nat,Spec prog 207 #[.agg #[.int .i64 I4,.int .i64 HO,.string I5,.slice I6 I7 I8,.int .i64 I9,.int .i64 JA,.int .i64 JB,.slice JC JD JE,.bool J8,.int .i64 JF],.slice Ye WL cB] σ (AA R (CS fun q8 n46 mu y => Spec prog 49 #[.slice q8 n46 mu] y (AA R (CT fun s47 AF => AK prog (Instr.lookup 243 (.map m12) (.string s47) true) AF (fun z AH => ∃ AFi AFj AFk AFl AFm,z = (.tuple #[.agg #[.slice AFi AFj AFk,.int .u64 AFl],.bool AFm]) ∧ ∀ b17 : Nat,Br (HO = 12) (Al AH fun iK => AK prog (Builtin.append_ #[67,67] 67 #[.slice Jf n14 Hd,(.slice (aD iK 0) 1 1)]) (Hp.set AH iK (.cells #[.slice Ye WL cB,.int .u64 cC] 71 (0,0))) (CS fun qo lM qp Ab => Wa R p3 n3 c3 I4 HO I5 I6 I7 I8 I9 JA JB JC JD JE J8 JF EG ER E6 E7 E8 FB FC FD m10 m12 qo lM qp (aD qz o39) n35 wu aN Qb Ab)) (Bo AFm (Br (HO = 11) (Al AH fun iK => AK prog (Builtin.append_ #[67,67] 67 #[.slice Jf n14 Hd,(.slice (aD iK 0) 1 1)]) (Hp.set AH iK (.cells #[.slice Ye WL cB,.int .u64 cC] 71 (0,0))) (CS fun qo lM qp Ab => Wa R p3 n3 c3 I4 HO I5 I6 I7 I8 I9 JA JB JC JD JE J8 JF EG ER E6 E7 E8 FB FC FD m10 m12 qo lM qp (aD qz o39) n35 wu aN Qb Ab)) (Wa R p3 n3 c3 I4 HO I5 I6 I7 I8 I9 JA JB JC JD JE J8 JF EG ER E6 E7 E8 FB FC FD m10 m12 Jf n14 Hd (aD qz o39) n35 wu aN Qb AH)) (Br (HO = 11) (Wa R p3 n3 c3 I4 HO I5 I6 I7 I8 I9 JA JB JC JD JE J8 JF EG ER E6 E7 E8 FB FC FD m10 m12 Jf n14 Hd (aD qz o39) n35 wu aN Qb AH) (Al AH fun iK => AK prog (Builtin.append_ #[67,67] 67 #[.slice Jf n14 Hd,(.slice (aD iK 0) 1 1)]) (Hp.set AH iK (.cells #[.slice Ye WL cB,.int .u64 cC] 71 (0,0))) (CS fun qo lM qp Ab => Wa R p3 n3 c3 I4 HO I5 I6 I7 I8 I9 JA JB JC JD JE J8 JF EG ER E6 E7 E8 FB FC FD m10 m12 qo lM qp (aD qz o39) n35 wu aN Qb Ab)))))))))) (J4 R I4 HO I5 I6 I7 I8 I9 JA JB JC JD JE J8 JF EG ER E6 E7 E8 FB FC FD m10 Jf n14 Hd p3 n3 c3 (n3 : Int) 0 σ)) : tJ R p3 n3 c3 I4 HO I5 I6 I7 I8 I9 JA JB JC JD JE J8 JF EG ER E6 E7 E8 FB FC FD m10 m12 Jf n14 Hd p35 n35 wu aN Qb σ := M.gk h ok rfl fun _ _ => by kernel_rfl
theorem Ls (h : Br (Nf < bz) (Pq qs fun b70 o70 => In Nf (lR : Int) ∧ ∃ zz AAA AAB AFn,Aw σ b70 (o70 + Int.toNat Nf * 2) [.slice zz AAA AAB,.int .u64 AFn] ∧ ∀ Yc : Nat,Spec prog 207 #[.agg #[.int .i64 I4,.int .i64 HO,.string I5,.slice I6 I7 I8,.int .i64 I9,.int .i64 JA,.int .i64 JB,.slice JC JD JE,.bool J8,.int .i64 JF],.slice zz AAA AAB] σ (AA R (CS fun p77 n77 c77 y => Spec prog 49 #[.slice p77 n77 c77] y (AA R (CT fun s78 AF => AK prog (Instr.lookup 243 (.map m10) (.string s78) true) AF (fun z AH => ∃ AFo AFp AFq AFr AFs,z = (.tuple #[.agg #[.slice AFo AFp AFq,.int .u64 AFr],.bool AFs]) ∧ ∀ b21 : Nat,Bn AFs (Br (HO = 12) (Al AH fun jn => AK prog (Builtin.append_ #[67,67] 67 #[.slice Jf n14 Hd,(.slice (aD jn 0) 1 1)]) (Hp.set AH jn (.cells #[.slice zz AAA AAB,.int .u64 AFn] 71 (0,0))) (CS fun p92 n92 c92 Ab => Nl R I4 HO I5 I6 I7 I8 I9 JA JB JC JD JE J8 JF EG ER E6 E7 E8 FB FC FD m10 p92 n92 c92 (aD b70 o70) lR ey bz Nf Ab)) (Nl R I4 HO I5 I6 I7 I8 I9 JA JB JC JD JE J8 JF EG ER E6 E7 E8 FB FC FD m10 Jf n14 Hd (aD b70 o70) lR ey bz Nf AH)) (Nl R I4 HO I5 I6 I7 I8 I9 JA JB JC JD JE J8 JF EG ER E6 E7 E8 FB FC FD m10 Jf n14 Hd (aD b70 o70) lR ey bz Nf AH))))))) (Spec prog 148 #[.slice Jf n14 Hd] σ (AA R (fun z y => ∃ wv wx wy wz w6 w7 w9 xA AFt,z = (.tuple #[.agg #[.int .i64 wv,.int .u64 wx,.slice wy wz w6,.slice w7 w9 xA],.int .i64 AFt]) ∧ R (.returned (.tuple #[.agg #[.int .i64 wv,.int .u64 wx,.slice wy wz w6,.slice w7 w9 xA],.int .i64 AFt])) y)))) : J4 R I4 HO I5 I6 I7 I8 I9 JA JB JC JD JE J8 JF EG ER E6 E7 E8 FB FC FD m10 Jf n14 Hd qs lR ey bz Nf σ := M.gk h ok rfl fun _ _ => by kernel_rfl
theorem V9 (h : AI (Nf + 1) ∧ J4 R I4 HO I5 I6 I7 I8 I9 JA JB JC JD JE J8 JF EG ER E6 E7 E8 FB FC FD m10 Jf n14 Hd qs lR ey bz (Nf + 1) σ) : Nl R I4 HO I5 I6 I7 I8 I9 JA JB JC JD JE J8 JF EG ER E6 E7 E8 FB FC FD m10 Jf n14 Hd qs lR ey bz Nf σ := M.gk h ok rfl fun _ _ => by kernel_rfl
theorem tK (h : AI (Qb + 1) ∧ tJ R p3 n3 c3 I4 HO I5 I6 I7 I8 I9 JA JB JC JD JE J8 JF EG ER E6 E7 E8 FB FC FD m10 m12 Jf n14 Hd p35 n35 wu aN (Qb + 1) σ) : Wa R p3 n3 c3 I4 HO I5 I6 I7 I8 I9 JA JB JC JD JE J8 JF EG ER E6 E7 E8 FB FC FD m10 m12 Jf n14 Hd p35 n35 wu aN Qb σ := M.gk h ok rfl fun _ _ => by kernel_rfl
end AX
namespace Md
variable {FA Eg x1 : Int}
def M : Fw := ⟨prog,177,f177,[],[2],false,[],[],[]⟩
theorem ok : M.Ok := ⟨AG.nil,mixed,func177,by kernel_rfl⟩
theorem start (h : ∀ b2 : Nat,Br (FA ≤ x1) (R (.returned (.int .i64 (-1))) σ) (R (.returned (.int .i64 1)) σ)) : Spec prog 177 #[.agg #[.int .i64 FA,.int .u64 Eg],.int .i64 x1] σ R := M.start h ok
end Md
namespace Ga
variable {wD aM : ByteArray} {b1 : Nat}
def M : Fw := ⟨prog,198,f198,[199],[2],false,[],[],[]⟩
theorem ok : M.Ok := ⟨.cons call199 (AG.nil),mixed,func198,by kernel_rfl⟩
theorem start (h : ∀ b2 : Nat,LS σ b1 0 fun p4 n4 c4 => Spec prog 199 #[.slice p4 n4 c4,.string wD] σ (AA R (CB fun t7 y => R (.returned (.bool t7)) y))) : Spec prog 198 #[.agg #[.string wD,.string aM],(.pointer (aD b1 0))] σ R := M.start h ok
end Ga
namespace Ev
variable {q0 : Option Addr} {s1 : ByteArray}
def M : Fw := ⟨prog,210,f210,[67,135,136],[],false,[],[],[(3,[(0,wQ)])]⟩
theorem ok : M.Ok := ⟨.cons call67 (.cons call135 (.cons call136 (AG.nil))),mixed,func210,by kernel_rfl⟩
def cD := M.pt 0
theorem start (h : Spec prog 136 #[.pointer q0,.int .i64 5,.string s1] σ (AA R (CB fun t6 y => Bn t6 (Spec prog 67 #[.pointer q0] y (AA R (fun z AF => z = (.tuple #[]) ∧ cD R q0 AF))) (cD R q0 y)))) : Spec prog 210 #[.pointer q0,.string s1] σ R := M.start h ok
theorem PC (h : Spec prog 135 #[.pointer q0] σ (AA R (fun z y => ∃ iE Qc iF sv,z = (.agg #[.int .i64 iE,.int .i64 Qc,.string iF,.int .i64 sv]) ∧ R (.returned (.tuple #[])) y))) : cD R q0 σ := M.of h ok rfl
end Ev
namespace C0
variable {q0 : Option Addr}
def M : Fw := ⟨prog,212,f212,[95],[],false,[],[],[]⟩
theorem ok : M.Ok := ⟨.cons call95 (AG.nil),mixed,func212,by kernel_rfl⟩
theorem start (h : Spec prog 95 #[.pointer q0,(.func (.func 230) #[.pointer q0] #[]),.int .i64 3,.int .i64 4] σ (AA R (fun z y => z = (.tuple #[]) ∧ R (.returned (.tuple #[])) y))) : Spec prog 212 #[.pointer q0] σ R := M.start h ok
end C0
namespace Ew
variable {Py : Option Addr} {Js OZ : Nat} {aM s1 : ByteArray}
def M : Fw := ⟨prog,218,f218,[],[2],false,[],[],[]⟩
theorem ok : M.Ok := ⟨AG.nil,mixed,func218,by kernel_rfl⟩
theorem start (h : ∀ b2 : Nat,R (.returned (.bool (!(ByteArray.toList s1 == ByteArray.toList aM)))) σ) : Spec prog 218 #[.agg #[.slice Py Js OZ,.string aM],.string s1] σ R := M.start h ok
end Ew
namespace VA
variable {x0 : Int}
def M : Fw := ⟨prog,240,f240,[],[],false,[],[],[]⟩
theorem ok : M.Ok := ⟨AG.nil,mixed,func240,by kernel_rfl⟩
theorem start (h : Br (x0 = 1) (R (.returned (.bool true)) σ) (Br (x0 = 2) (R (.returned (.bool true)) σ) (Br (x0 = 4) (R (.returned (.bool true)) σ) (R (.returned (.bool (decide (x0 = 8)))) σ)))) : Spec prog 240 #[.int .i64 x0] σ R := M.start h ok
end VA
namespace Me
def M : Fw := ⟨prog,263,f263,[182],[],false,[],[],[]⟩
theorem ok : M.Ok := ⟨.cons call182 (AG.nil),mixed,func263,by kernel_rfl⟩
theorem start (h : Spec prog 182 #[.int .u64 4604544271217802189] σ (AA R (fun z y => ∃ x2,(Value.float .f64 x2) = z ∧ ∃ x5,YF prog (Op.unary .neg (Value.float .f64 x2)) y (Value.float .f64 x5) ∧ ∃ x6 y6,YF prog (Builtin.complex_ #[51,51] 272 #[(Value.float .f64 x2),(Value.float .f64 x5)]) y (Value.complex .f64 x6 y6) ∧ ∃ x8,YF prog (Op.unary .neg (Value.float .f64 x2)) y (Value.float .f64 x8) ∧ ∃ x10,YF prog (Op.unary .neg (Value.float .f64 x2)) y (Value.float .f64 x10) ∧ ∃ x11 y11,YF prog (Builtin.complex_ #[51,51] 272 #[(Value.float .f64 x8),(Value.float .f64 x10)]) y (Value.complex .f64 x11 y11) ∧ ∃ FI,YF prog (Op.unary .neg (Value.float .f64 x2)) y (Value.float .f64 FI) ∧ ∃ x15 y15,YF prog (Builtin.complex_ #[51,51] 272 #[(Value.float .f64 FI),(Value.float .f64 x2)]) y (Value.complex .f64 x15 y15) ∧ ∃ R9 y18,YF prog (Builtin.complex_ #[51,51] 272 #[(Value.float .f64 x2),(Value.float .f64 x2)]) y (Value.complex .f64 R9 y18) ∧ Al y fun DO => R (.returned (.slice (aD DO 0) 8 8)) (Hp.set y DO (.cells #[.complex .f64 4607182418800017408 0,(Value.complex .f64 x6 y6),.complex .f64 0 13830554455654793216,(Value.complex .f64 x11 y11),.complex .f64 13830554455654793216 0,(Value.complex .f64 x15 y15),.complex .f64 0 4607182418800017408,(Value.complex .f64 R9 y18)] 272 (0,0)))))) : Spec prog 263 #[] σ R := M.start h ok
end Me
end TwW
end
end
section
set_option maxRecDepth 100000
noncomputable section
namespace TwW
open Go Tw Go.Proofs.Tryz
variable [E5] {R : Rr} {σ : Hp}

namespace IU
variable {p0 : Option Addr} {n0 c0 : Nat} {x1 x5 : Int}
def M : Fw := ⟨prog,23,f23,[],[],false,[],[],[(208,[(0,wL),(1,wU),(5,wI)])]⟩
theorem ok : M.Ok := ⟨AG.nil,mixed,func23,by kernel_rfl⟩
def Dm := M.pt 0
theorem start (h : Dm R p0 n0 c0 x1 0 σ) : Spec prog 23 #[.slice p0 n0 c0,.int .u64 x1] σ R := M.start h ok
theorem Ac (h : Br (x5 < (n0 : Int)) (Pq p0 fun BO Nc => In x5 (n0 : Int) ∧ LS σ BO ((Nc + Int.toNat x5 * 2) + 1) fun bd n16 XE => Br ((n16 : Int) = 1) (In x5 (n0 : Int) ∧ LS σ BO ((Nc + Int.toNat x5 * 2) + 1) fun p24 n24 c24 => Pq p24 fun Jw XF => In 0 (n24 : Int) ∧ LI .u64 σ Jw (XF + 1) fun Jj => Br (Jj = x1) (R (.returned (.bool true)) σ) (AI (x5 + 1) ∧ Dm R (aD BO Nc) n0 c0 x1 (x5 + 1) σ)) (AI (x5 + 1) ∧ Dm R (aD BO Nc) n0 c0 x1 (x5 + 1) σ)) (R (.returned (.bool false)) σ)) : Dm R p0 n0 c0 x1 x5 σ := M.of h ok rfl
end IU
namespace VB
variable {v0 : Value}
def M : Fw := ⟨prog,25,f25,[],[],false,[],[],[]⟩
theorem ok : M.Ok := ⟨AG.nil,mixed,func25,by kernel_rfl⟩
theorem start (h : EN prog 45 #[v0] σ (CI .u64 fun x4 y => R (.returned (.int .u64 x4)) y)) : Spec prog 25 #[v0] σ R := M.EF h ok [(0,.o (.V v0))] rfl rfl (by kernel_rfl)
end VB
namespace VC
variable {p0 p1 : Option Addr} {n0 c0 n1 c1 : Nat}
def M : Fw := ⟨prog,28,f28,[37,46],[],false,[],[],[]⟩
theorem ok : M.Ok := ⟨.cons call37 (.cons call46 (AG.nil)),mixed,func28,by kernel_rfl⟩
theorem start (h : Spec prog 37 #[.slice p0 n0 c0] σ (AA R (fun z y => ∃ I3 zI AFu,z = (.tuple #[.int .i64 I3,.int .i64 zI,.int .i64 AFu]) ∧ Br (AFu ≠ 0) (R (.returned (.int .i64 220)) y) (Br (I3 = 3) (R (.returned (.int .i64 220)) y) (Spec prog 46 #[.slice p1 n1 c1] y (AA R (CI .i64 fun EI AF => Br (EI ≠ 0) (R (.returned (.int .i64 224)) AF) (R (.returned (.int .i64 0)) AF)))))))) : Spec prog 28 #[.slice p0 n0 c0,.slice p1 n1 c1] σ R := M.start h ok
end VC
namespace Dc
variable {p0 p5 : Option Addr} {n0 c0 n5 c5 : Nat} {x6 x7 : Int}
def M : Fw := ⟨prog,46,f46,[52,68,69],[4],false,[],[],[(104,[(0,wL),(5,wL),(6,wI),(7,wI)])]⟩
theorem ok : M.Ok := ⟨.cons call52 (.cons call68 (.cons call69 (AG.nil))),mixed,func46,by kernel_rfl⟩
def H3 := M.pt 0
theorem start (h : H3 R p0 n0 c0 p0 n0 c0 (n0 : Int) 0 σ) : Spec prog 46 #[.slice p0 n0 c0] σ R := M.start h ok
theorem Bp (h : Br (x7 < x6) (Pq p5 fun Cj iL => In x7 (n5 : Int) ∧ ∃ Yo Yp Yq AFv AFw AFx,Aw σ Cj (iL + Int.toNat x7 * 2) [.slice Yo Yp Yq,.slice AFv AFw AFx] ∧ ∀ b4 : Nat,Spec prog 68 #[.slice Yo Yp Yq] σ (AA R (CI .i64 fun QY y => Br (QY ≠ 0) (R (.returned (.int .i64 100)) y) (Spec prog 69 #[.slice AFv AFw AFx] y (AA R (CB fun t19 AF => Bn t19 (R (.returned (.int .i64 100)) AF) (Br (0 < x7) (AI (x7 - 1) ∧ Pq p0 fun YS fA => In (x7 - 1) (n0 : Int) ∧ LS AF YS (fA + Int.toNat (x7 - 1) * 2) fun p31 n31 c31 => Spec prog 52 #[.slice p31 n31 c31,.slice Yo Yp Yq] AF (AA R (CI .i64 fun js AH => Br (0 ≤ js) (R (.returned (.int .i64 100)) AH) (AI (x7 + 1) ∧ H3 R (aD YS fA) n0 c0 (aD Cj iL) n5 c5 x6 (x7 + 1) AH)))) (AI (x7 + 1) ∧ H3 R p0 n0 c0 (aD Cj iL) n5 c5 x6 (x7 + 1) AF)))))))) (R (.returned (.int .i64 0)) σ)) : H3 R p0 n0 c0 p5 n5 c5 x6 x7 σ := M.of h ok rfl
end Dc
namespace Fu
variable {p0 : Option Addr} {n0 c0 : Nat} {s1 : ByteArray} {x5 : Int}
def M : Fw := ⟨prog,60,f60,[],[],false,[],[],[(208,[(0,wL),(1,wT),(5,wI)])]⟩
theorem ok : M.Ok := ⟨AG.nil,mixed,func60,by kernel_rfl⟩
def Dm := M.pt 0
theorem start (h : Dm R p0 n0 c0 s1 0 σ) : Spec prog 60 #[.slice p0 n0 c0,.string s1] σ R := M.start h ok
theorem Ac (h : Br (x5 < (n0 : Int)) (Pq p0 fun BO Nc => In x5 (n0 : Int) ∧ LT σ BO (Nc + Int.toNat x5 * 1) fun s15 => Bo (ByteArray.toList s15 == ByteArray.toList s1) (R (.returned (.int .i64 x5)) σ) (AI (x5 + 1) ∧ Dm R (aD BO Nc) n0 c0 s1 (x5 + 1) σ)) (R (.returned (.int .i64 (-1))) σ)) : Dm R p0 n0 c0 s1 x5 σ := M.of h ok rfl
end Fu
namespace PH
variable {x0 : Int}
def M : Fw := ⟨prog,90,f90,[],[],false,[],[],[]⟩
theorem ok : M.Ok := ⟨AG.nil,mixed,func90,by kernel_rfl⟩
theorem start (h : Br (48 ≤ x0) (R (.returned (.bool (decide (x0 ≤ 57)))) σ) (R (.returned (.bool false)) σ)) : Spec prog 90 #[.int .u8 x0] σ R := M.start h ok
end PH
namespace Ag
variable {q0 Dx D5 p2 Gk H5 HR GJ E6 FB bd : Option Addr} {Dq Cb Dr Dy DF Cd GF Fm H6 GQ H7 Ir GH GI EG ER x17 R9 : Int} {Dt He : ByteArray} {Dz D0 D1 D6 n2 c2 Gm Gn H8 H9 HS HT GK GL E7 E8 FC FD n16 XE : Nat} {DG Is : Bool}
def M : Fw := ⟨prog,101,f101,[141,142],[4,6,8,10],false,[(7,15,false)],[],[(232,[(0,wQ),(4,.X 36 [.I .i64,.I .i64,.T,.L,.I .i64,.I .i64,.I .i64,.L,.B,.I .i64]),(6,.X 93 [.I .i64,.I .u64,.L,.L]),(8,.X 93 [.I .i64,.I .u64,.L,.L]),(16,wL),(17,wI),(18,wI)]),(935,[(0,wQ),(4,.X 36 [.I .i64,.I .i64,.T,.L,.I .i64,.I .i64,.I .i64,.L,.B,.I .i64]),(6,.X 93 [.I .i64,.I .u64,.L,.L]),(8,.X 93 [.I .i64,.I .u64,.L,.L]),(16,wL),(17,wI),(18,wI)])]⟩
theorem ok : M.Ok := ⟨.cons call141 (.cons call142 (AG.nil)),mixed,func101,by kernel_rfl⟩
def A7 := M.pt 0
def MN := M.pt 1
theorem start (h : ∀ b4 : Nat,∀ b6 : Nat,∀ b8 : Nat,Pq q0 fun BO Nc => LS σ BO Nc fun bd n16 XE => A7 R (aD BO Nc) Dq Cb Dt Dx Dz D0 Dr Dy DF D5 D1 D6 DG Cd 0 0 none 0 0 none 0 0 2 0 none 0 0 none 0 0 bd n16 XE (n16 : Int) 0 σ) : Spec prog 101 #[.pointer q0,.agg #[.int .i64 Dq,.int .i64 Cb,.string Dt,.slice Dx Dz D0,.int .i64 Dr,.int .i64 Dy,.int .i64 DF,.slice D5 D1 D6,.bool DG,.int .i64 Cd],.slice p2 n2 c2] σ R := M.start h ok
theorem Aa (h : Br (R9 < x17) (Pq bd fun Yc o20 => In R9 (n16 : Int) ∧ ∃ AAD AAE AAF AFy AFz AF0,Aw σ Yc (o20 + Int.toNat R9 * 2) [.slice AAD AAE AAF,.slice AFy AFz AF0] ∧ ∀ Cj : Nat,Pq q0 fun Jw XF => LI .i64 σ Jw (XF + 1) fun Jj => AI (Jj - GQ) ∧ AI ((Jj - GQ) - 300) ∧ LI .i64 σ Jw (XF + 1) fun Q7 => AI (Q7 - GQ) ∧ Spec prog 141 #[.slice AFy AFz AF0,(.int .i64 ((Jj - GQ) - 300)),(.int .i64 (Q7 - GQ))] σ (AA R (CS fun p39 n39 c39 y => Br ((n39 : Int) = 0) (MN R (aD Jw XF) GF Fm He Gk Gm Gn H6 GQ H7 H5 H8 H9 Is Ir GH GI HR HS HT GJ GK GL EG ER E6 E7 E8 FB FC FD (aD Yc o20) n16 XE x17 R9 y) (AI ((n39 : Int) - 1) ∧ Pq p39 fun Qa o48 => In (((n39 : Int) - 1)) (n39 : Int) ∧ LI .u64 y Qa ((o48 + Int.toNat ((n39 : Int) - 1) * 2) + 1) fun x50 => Br (x50 = 9218868437227405314) (MN R (aD Jw XF) GF Fm He Gk Gm Gn H6 GQ H7 H5 H8 H9 Is Ir GH GI HR HS HT GJ GK GL EG ER E6 E7 E8 FB FC FD (aD Yc o20) n16 XE x17 R9 y) (Spec prog 142 #[.slice Gk Gm Gn,.slice AAD AAE AAF] y (AA R (CB fun t58 AF => Bn t58 (MN R (aD Jw XF) GF Fm He Gk Gm Gn H6 GQ H7 H5 H8 H9 Is Ir GH GI HR HS HT GJ GK GL EG ER E6 E7 E8 FB FC FD (aD Yc o20) n16 XE x17 R9 AF) (AI ((n39 : Int) - 1) ∧ In (((n39 : Int) - 1)) (n39 : Int) ∧ LI .u64 AF Qa ((o48 + Int.toNat ((n39 : Int) - 1) * 2) + 1) fun vy => Al AF fun zu => AK prog (Builtin.append_ #[67,67] 67 #[.slice E6 E7 E8,(.slice (aD zu 0) 1 1)]) (Hp.set AF zu (.cells #[.slice AAD AAE AAF,.int .u64 vy] 71 (0,0))) (CS fun p74 n74 c74 AH => MN R (aD Jw XF) GF Fm He Gk Gm Gn H6 GQ H7 H5 H8 H9 Is Ir GH GI HR HS HT GJ GK GL EG ER p74 n74 c74 FB FC FD (aD Yc o20) n16 XE x17 R9 AH))))))))) (R (.returned (.tuple #[.agg #[.int .i64 EG,.int .u64 ER,.slice E6 E7 E8,.slice FB FC FD],.int .i64 0])) σ)) : A7 R q0 GF Fm He Gk Gm Gn H6 GQ H7 H5 H8 H9 Is Ir GH GI HR HS HT GJ GK GL EG ER E6 E7 E8 FB FC FD bd n16 XE x17 R9 σ := M.of3 h ok rfl fun _ _ _ => by kernel_rfl
theorem JH (h : AI (R9 + 1) ∧ A7 R q0 GF Fm He Gk Gm Gn H6 GQ H7 H5 H8 H9 Is Ir GH GI HR HS HT GJ GK GL EG ER E6 E7 E8 FB FC FD bd n16 XE x17 (R9 + 1) σ) : MN R q0 GF Fm He Gk Gm Gn H6 GQ H7 H5 H8 H9 Is Ir GH GI HR HS HT GJ GK GL EG ER E6 E7 E8 FB FC FD bd n16 XE x17 R9 σ := M.of3 h ok rfl fun _ _ _ => by kernel_rfl
end Ag
namespace AQ
variable {q0 Dx D5 p2 Gk H5 HR GJ E6 FB PD cI mw IN q8 : Option Addr} {Dq Cb Dr Dy DF Cd GF Fm H6 GQ H7 Ir GH GI EG ER Iq EI lX UO : Int} {Dt He : ByteArray} {Dz D0 D1 D6 n2 c2 Gm Gn H8 H9 HS HT GK GL E7 E8 FC FD n21 M3 cJ cK mz nB n11 IP n46 mu : Nat} {DG Is : Bool}
def M : Fw := ⟨prog,102,f102,[141,142,143],[4,6,8,10,13],false,[],[],[(232,[(0,wQ),(4,.X 36 [.I .i64,.I .i64,.T,.L,.I .i64,.I .i64,.I .i64,.L,.B,.I .i64]),(6,.X 93 [.I .i64,.I .u64,.L,.L]),(8,.X 93 [.I .i64,.I .u64,.L,.L]),(21,wL),(22,wI),(23,wI)]),(239208,[(0,wQ),(4,.X 36 [.I .i64,.I .i64,.T,.L,.I .i64,.I .i64,.I .i64,.L,.B,.I .i64]),(6,.X 93 [.I .i64,.I .u64,.L,.L]),(8,.X 93 [.I .i64,.I .u64,.L,.L]),(10,.X 40 [.L,.L]),(11,wL),(21,wL),(22,wI),(23,wI),(46,wL),(47,wI),(48,wI)]),(935,[(0,wQ),(4,.X 36 [.I .i64,.I .i64,.T,.L,.I .i64,.I .i64,.I .i64,.L,.B,.I .i64]),(6,.X 93 [.I .i64,.I .u64,.L,.L]),(8,.X 93 [.I .i64,.I .u64,.L,.L]),(21,wL),(22,wI),(23,wI)]),(956839,[(0,wQ),(4,.X 36 [.I .i64,.I .i64,.T,.L,.I .i64,.I .i64,.I .i64,.L,.B,.I .i64]),(6,.X 93 [.I .i64,.I .u64,.L,.L]),(8,.X 93 [.I .i64,.I .u64,.L,.L]),(10,.X 40 [.L,.L]),(11,wL),(21,wL),(22,wI),(23,wI),(46,wL),(47,wI),(48,wI)])]⟩
theorem ok : M.Ok := ⟨.cons call141 (.cons call142 (.cons call143 (AG.nil))),mixed,func102,by kernel_rfl⟩
def A7 := M.pt 0
def UP := M.pt 1
def MT := M.pt 2
def tL := M.pt 3
theorem start (h : ∀ b4 : Nat,∀ b6 : Nat,Spec prog 143 #[.int .i64 Dr] σ (AA R (CI .u64 fun x16 y => ∀ b8 : Nat,Pq q0 fun DO lS => LS y DO lS fun PD n21 M3 => A7 R (aD DO lS) Dq Cb Dt Dx Dz D0 Dr Dy DF D5 D1 D6 DG Cd 0 0 none 0 0 none 0 0 3 x16 none 0 0 none 0 0 PD n21 M3 (n21 : Int) 0 y))) : Spec prog 102 #[.pointer q0,.agg #[.int .i64 Dq,.int .i64 Cb,.string Dt,.slice Dx Dz D0,.int .i64 Dr,.int .i64 Dy,.int .i64 DF,.slice D5 D1 D6,.bool DG,.int .i64 Cd],.slice p2 n2 c2] σ R := M.start h ok
theorem Aa (h : Br (EI < Iq) (Pq PD fun Jw XF => In EI (n21 : Int) ∧ ∃ AF1 AF2 AF3 AAG AAH AAI,Aw σ Jw (XF + Int.toNat EI * 2) [.slice AF1 AF2 AF3,.slice AAG AAH AAI] ∧ ∀ Cj : Nat,Pq q0 fun iG o30 => LI .i64 σ iG (o30 + 1) fun mF => AI (mF - GQ) ∧ AI ((mF - GQ) - H6) ∧ LI .i64 σ iG (o30 + 1) fun UM => AI (UM - GQ) ∧ Spec prog 141 #[.slice AAG AAH AAI,(.int .i64 ((mF - GQ) - H6)),(.int .i64 (UM - GQ))] σ (AA R (CS fun q8 n46 mu y => UP R (aD iG o30) GF Fm He Gk Gm Gn H6 GQ H7 H5 H8 H9 Is Ir GH GI HR HS HT GJ GK GL EG ER E6 E7 E8 FB FC FD AF1 AF2 AF3 AAG AAH AAI none 0 0 (aD Jw XF) n21 M3 Iq EI q8 n46 mu (n46 : Int) 0 y))) (R (.returned (.tuple #[.agg #[.int .i64 EG,.int .u64 ER,.slice E6 E7 E8,.slice FB FC FD],.int .i64 0])) σ)) : A7 R q0 GF Fm He Gk Gm Gn H6 GQ H7 H5 H8 H9 Is Ir GH GI HR HS HT GJ GK GL EG ER E6 E7 E8 FB FC FD PD n21 M3 Iq EI σ := M.of3 h ok rfl fun _ _ _ => by kernel_rfl
theorem RA (h : Br (UO < lX) (Pq q8 fun WJ o50 => In UO (n46 : Int) ∧ ∃ AMW AAJ,Aw σ WJ (o50 + Int.toNat UO * 2) [.int .i64 AMW,.int .u64 AAJ] ∧ ∀ Ck : Nat,Br (AAJ ≠ 9218868437227405314) (Al σ fun b58 => AK prog (Builtin.append_ #[187,187] 187 #[.slice IN n11 IP,(.slice (aD b58 0) 1 1)]) (Hp.set σ b58 (.cells #[.int .u64 AAJ] 48 (0,0))) (CS fun vR n59 vS y => tL R q0 GF Fm He Gk Gm Gn H6 GQ H7 H5 H8 H9 Is Ir GH GI HR HS HT GJ GK GL EG ER E6 E7 E8 FB FC FD cI cJ cK mw mz nB vR n59 vS PD n21 M3 Iq EI (aD WJ o50) n46 mu lX UO y)) (tL R q0 GF Fm He Gk Gm Gn H6 GQ H7 H5 H8 H9 Is Ir GH GI HR HS HT GJ GK GL EG ER E6 E7 E8 FB FC FD cI cJ cK mw mz nB IN n11 IP PD n21 M3 Iq EI (aD WJ o50) n46 mu lX UO σ)) (Br (0 < (n11 : Int)) (Spec prog 142 #[.slice Gk Gm Gn,.slice cI cJ cK] σ (AA R (CB fun t69 y => Bo t69 (Al y fun b77 => AK prog (Builtin.append_ #[91,91] 91 #[.slice FB FC FD,(.slice (aD b77 0) 1 1)]) (Hp.set y b77 (.cells #[.slice cI cJ cK,.slice IN n11 IP] 189 (0,0))) (CS fun qu mH qw AF => MT R q0 GF Fm He Gk Gm Gn H6 GQ H7 H5 H8 H9 Is Ir GH GI HR HS HT GJ GK GL EG ER E6 E7 E8 qu mH qw PD n21 M3 Iq EI AF)) (MT R q0 GF Fm He Gk Gm Gn H6 GQ H7 H5 H8 H9 Is Ir GH GI HR HS HT GJ GK GL EG ER E6 E7 E8 FB FC FD PD n21 M3 Iq EI y)))) (MT R q0 GF Fm He Gk Gm Gn H6 GQ H7 H5 H8 H9 Is Ir GH GI HR HS HT GJ GK GL EG ER E6 E7 E8 FB FC FD PD n21 M3 Iq EI σ))) : UP R q0 GF Fm He Gk Gm Gn H6 GQ H7 H5 H8 H9 Is Ir GH GI HR HS HT GJ GK GL EG ER E6 E7 E8 FB FC FD cI cJ cK mw mz nB IN n11 IP PD n21 M3 Iq EI q8 n46 mu lX UO σ := M.of4 h ok rfl fun _ _ _ _ => by kernel_rfl
theorem JJ (h : AI (EI + 1) ∧ A7 R q0 GF Fm He Gk Gm Gn H6 GQ H7 H5 H8 H9 Is Ir GH GI HR HS HT GJ GK GL EG ER E6 E7 E8 FB FC FD PD n21 M3 Iq (EI + 1) σ) : MT R q0 GF Fm He Gk Gm Gn H6 GQ H7 H5 H8 H9 Is Ir GH GI HR HS HT GJ GK GL EG ER E6 E7 E8 FB FC FD PD n21 M3 Iq EI σ := M.of3 h ok rfl fun _ _ _ => by kernel_rfl
theorem tM (h : AI (UO + 1) ∧ UP R q0 GF Fm He Gk Gm Gn H6 GQ H7 H5 H8 H9 Is Ir GH GI HR HS HT GJ GK GL EG ER E6 E7 E8 FB FC FD cI cJ cK mw mz nB IN n11 IP PD n21 M3 Iq EI q8 n46 mu lX (UO + 1) σ) : tL R q0 GF Fm He Gk Gm Gn H6 GQ H7 H5 H8 H9 Is Ir GH GI HR HS HT GJ GK GL EG ER E6 E7 E8 FB FC FD cI cJ cK mw mz nB IN n11 IP PD n21 M3 Iq EI q8 n46 mu lX UO σ := M.of4 h ok rfl fun _ _ _ _ => by kernel_rfl
end AQ
namespace Fv
variable {FA Eg QW Nk H4 Je Dq Cb Dr Dy DF Cd x7 x8 : Int} {QX Dt : ByteArray} {U1 R0 Dx D5 p6 : Option Addr} {UN U2 Q3 R3 Dz D0 D1 D6 n6 c6 : Nat} {Mz DG : Bool}
def M : Fw := ⟨prog,122,f122,[126],[1],false,[],[],[(104,[(1,.X 36 [.I .i64,.I .i64,.T,.L,.I .i64,.I .i64,.I .i64,.L,.B,.I .i64]),(6,wL),(7,wI),(8,wI)])]⟩
theorem ok : M.Ok := ⟨.cons call126 (AG.nil),mixed,func122,by kernel_rfl⟩
def H3 := M.pt 0
theorem start (h : ∀ b1 : Nat,H3 R FA Eg QX U1 UN U2 QW Nk H4 R0 Q3 R3 Mz Je R0 Q3 R3 (Q3 : Int) 0 σ) : Spec prog 122 #[.agg #[.int .i64 FA,.int .i64 Eg,.string QX,.slice U1 UN U2,.int .i64 QW,.int .i64 Nk,.int .i64 H4,.slice R0 Q3 R3,.bool Mz,.int .i64 Je]] σ R := M.start h ok
theorem Bp (h : Br (x8 < x7) (Pq p6 fun Cj iL => In x8 (n6 : Int) ∧ LT σ Cj (iL + Int.toNat x8 * 1) fun s11 => Spec prog 126 #[.string s11] σ (AA R (CB fun t13 y => Bn t13 (R (.returned (.bool false)) y) (AI (x8 + 1) ∧ H3 R Dq Cb Dt Dx Dz D0 Dr Dy DF D5 D1 D6 DG Cd (aD Cj iL) n6 c6 x7 (x8 + 1) y)))) (Br ((D1 : Int) = 0) (R (.returned (.bool true)) σ) (R (.returned (.bool (decide (DF ≠ 0)))) σ))) : H3 R Dq Cb Dt Dx Dz D0 Dr Dy DF D5 D1 D6 DG Cd p6 n6 c6 x7 x8 σ := M.jj h ok rfl fun _ => by kernel_rfl
end Fv
namespace Dd
variable {FA Eg QW Nk H4 Je : Int} {QX : ByteArray} {U1 R0 p1 : Option Addr} {UN U2 Q3 R3 n1 c1 b2 : Nat} {Mz : Bool}
def M : Fw := ⟨prog,127,f127,[],[3],false,[],[],[]⟩
theorem ok : M.Ok := ⟨AG.nil,mixed,func127,by kernel_rfl⟩
theorem start (h : ∀ b3 : Nat,LI .i64 σ b2 0 fun x7 => R (.returned (.tuple #[.int .i64 x7,.int .i64 0])) σ) : Spec prog 127 #[.agg #[.int .i64 FA,.int .i64 Eg,.string QX,.slice U1 UN U2,.int .i64 QW,.int .i64 Nk,.int .i64 H4,.slice R0 Q3 R3,.bool Mz,.int .i64 Je],.slice p1 n1 c1,(.pointer (aD b2 0))] σ R := M.start h ok
end Dd
namespace N0
variable {x0 : Int}
def M : Fw := ⟨prog,144,f144,[174,181,182],[],false,[],[],[]⟩
theorem ok : M.Ok := ⟨.cons call174 (.cons call181 (.cons call182 (AG.nil))),mixed,func144,by kernel_rfl⟩
theorem start (h : Spec prog 182 #[.int .u64 x0] σ (AA R (fun z y => ∃ x4,(Value.float .f64 x4) = z ∧ Spec prog 181 #[(Value.float .f64 x4)] y (AA R (fun z AF => ∃ x5,(Value.float .f64 x5) = z ∧ Spec prog 174 #[(Value.float .f64 x5)] AF (AA R (CI .u64 fun x6 AH => R (.returned (.int .u64 x6)) AH))))))) : Spec prog 144 #[.int .u64 x0] σ R := M.start h ok
end N0
namespace Fy
variable {p0 IN : Option Addr} {n0 c0 n11 IP : Nat} {x3 x12 FI : Int}
def M : Fw := ⟨prog,151,f151,[186,201],[],false,[],[],[(232,[(3,wU),(11,wL),(12,wI),(13,wI)])]⟩
theorem ok : M.Ok := ⟨.cons call186 (.cons call201 (AG.nil)),mixed,func151,by kernel_rfl⟩
def A7 := M.pt 0
theorem start (h : Pq p0 fun b7 o7 => In 0 (n0 : Int) ∧ LI .u64 σ b7 o7 fun x8 => Spec prog 186 #[.int .u64 x8] σ (AA R (CI .u64 fun x9 y => ((0 : Int) ≤ 1 ∧ 1 ≤ (n0 : Int)) ∧ A7 R x9 ((Ip (aD b7 o7) (1) c0 1)) (n0 - 1) (c0 - 1) ((((n0 - 1) : Nat) : Int)) 0 y))) : Spec prog 151 #[.slice p0 n0 c0] σ R := M.start h ok
theorem Aa (h : Br (FI < x12) (Pq IN fun b15 o15 => In FI (n11 : Int) ∧ LI .u64 σ b15 (o15 + Int.toNat FI * 1) fun x16 => Spec prog 201 #[.int .u64 x3,.int .u64 x16] σ (AA R (CI .u64 fun DT y => AI (FI + 1) ∧ A7 R DT (aD b15 o15) n11 IP x12 (FI + 1) y))) (R (.returned (.int .u64 x3)) σ)) : A7 R x3 IN n11 IP x12 FI σ := M.of h ok rfl
end Fy
namespace G9
variable {p0 : Option Addr} {n0 c0 : Nat}
def M : Fw := ⟨prog,152,f152,[202],[],false,[],[],[]⟩
theorem ok : M.Ok := ⟨.cons call202 (AG.nil),mixed,func152,by kernel_rfl⟩
theorem start (h : Spec prog 202 #[.int .i64 7,.slice p0 n0 c0] σ (AA R (CI .u64 fun x4 y => R (.returned (.int .u64 x4)) y))) : Spec prog 152 #[.slice p0 n0 c0] σ R := M.start h ok
end G9
namespace P5
variable {FA Eg QW Nk H4 Je x1 x2 : Int} {QX : ByteArray} {U1 R0 : Option Addr} {UN U2 Q3 R3 : Nat} {Mz : Bool}
def M : Fw := ⟨prog,156,f156,[203,204,205],[3],false,[],[],[]⟩
theorem ok : M.Ok := ⟨.cons call203 (.cons call204 (.cons call205 (AG.nil))),mixed,func156,by kernel_rfl⟩
theorem start (h : ∀ b3 : Nat,Spec prog 203 #[.int .i64 Eg,.int .u64 x1,.int .u64 x2] σ (AA R (fun z y => ∃ Rt AF4,z = (.tuple #[.int .u64 Rt,.bool AF4]) ∧ Bo AF4 (R (.returned (.tuple #[.int .u64 Rt,.bool true])) y) (Spec prog 204 #[.int .i64 Eg,.int .u64 x1,.int .u64 x2] y (AA R (fun z AF => ∃ AAK AMa,z = (.tuple #[.bool AAK,.bool AMa]) ∧ Spec prog 205 #[.bool AAK] AF (AA R (CI .u64 fun x31 AH => R (.returned (.tuple #[.int .u64 x31,.bool AAK])) AH)))))))) : Spec prog 156 #[.agg #[.int .i64 FA,.int .i64 Eg,.string QX,.slice U1 UN U2,.int .i64 QW,.int .i64 Nk,.int .i64 H4,.slice R0 Q3 R3,.bool Mz,.int .i64 Je],.int .u64 x1,.int .u64 x2] σ R := M.start h ok
end P5
namespace HA
variable {s0 : ByteArray} {x1 : Int}
def M : Fw := ⟨prog,173,f173,[214,215],[],false,[],[],[]⟩
theorem ok : M.Ok := ⟨.cons call214 (.cons call215 (AG.nil)),mixed,func173,by kernel_rfl⟩
theorem start (h : Spec prog 214 #[.string s0,.int .i64 x1] σ (AA R (fun z y => ∃ hY hZ,z = (.tuple #[hY,hZ]) ∧ ∃ t15,YF prog ((do eqGuard .neq 214 (.tmp 14) (.const .nilIface) hZ .nilIface; binOp .neq 214 hZ .nilIface)) y (.bool t15) ∧ Bo t15 (Spec prog 215 #[(.string (ByteArray.mk #[80,97,114,115,101,70,108,111,97,116])),.string s0,.int .i64 0,.int .i64 x1,hZ] y (AA R (fun z AF => ∃ v20,v20 = z ∧ R (.returned (.tuple #[hY,v20])) AF))) (R (.returned (.tuple #[hY,.nilIface])) y)))) : Spec prog 173 #[.string s0,.int .i64 x1] σ R := M.start h ok
end HA
namespace fK
variable {v0 : Value}
def M : Fw := ⟨prog,174,f174,[216],[],false,[],[],[]⟩
theorem ok : M.Ok := ⟨.cons call216 (AG.nil),mixed,func174,by kernel_rfl⟩
theorem start (h : Spec prog 216 #[v0] σ (AA R (CB fun t4 y => Bo t4 (R (.returned (.int .u64 9221120237041090560)) y) (EN prog 45 #[v0] y (CI .u64 fun x6 AF => R (.returned (.int .u64 x6)) AF))))) : Spec prog 174 #[v0] σ R := M.EF h ok [(0,.o (.V v0))] rfl rfl (by kernel_rfl)
end fK
namespace Ax
variable {p0 : Option Addr} {n0 c0 : Nat} {x1 x8 x9 x10 : Int} {v2 : Value}
def M : Fw := ⟨prog,175,f175,[],[],false,[],[],[(480,[(0,wL),(1,wI),(2,wV),(8,wI),(9,wI),(10,wI)])]⟩
theorem ok : M.Ok := ⟨AG.nil,mixed,func175,by kernel_rfl⟩
def Bh := M.pt 0
theorem start (h : Bh R p0 n0 c0 x1 v2 (n0 : Int) 0 (n0 : Int) σ) : Spec prog 175 #[.slice p0 n0 c0,.int .i64 x1,v2] σ R := M.EF h ok [(0,.o (.L p0 n0 c0)),(1,.o (.I .i64 x1)),(2,.o (.V v2))] rfl rfl (by kernel_rfl)
theorem A0 (h : Br (x9 < x10) (AI (x9 + x10) ∧ Df (IntKind.u64.wrap (x9 + x10)) fun cA => ((0 : Int) ≤ 1 ∧ 1 ≤ ((IntKind.bits .u64 : Nat) : Int)) ∧ Df (cA / 2 ^ Int.toNat 1) fun Iq => Df (IntKind.i64.wrap Iq) fun EI => Pq p0 fun O6 V4 => In EI (n0 : Int) ∧ ∃ YY KA,Aw σ O6 (V4 + Int.toNat EI * 2) [.int .i64 YY,.int .u64 KA] ∧ ∃ (f30 : Nat) (xB xC : Array Value),v2 = .func (.func f30) xB xC ∧ Enters prog f30 ∧ Spec prog f30 (xB ++ #[.agg #[.int .i64 YY,.int .u64 KA],.int .i64 x1] ++ xC) σ (AA R (CI .i64 fun SB y => Br (SB < 0) (AI (EI + 1) ∧ Bh R (aD O6 V4) n0 c0 x1 v2 x8 (EI + 1) x10 y) (Bh R (aD O6 V4) n0 c0 x1 v2 x8 x9 EI y)))) (Br (x9 < x8) (Pq p0 fun ed o43 => In x9 (n0 : Int) ∧ ∃ Qe MP,Aw σ ed (o43 + Int.toNat x9 * 2) [.int .i64 Qe,.int .u64 MP] ∧ ∃ (f46 : Nat) (xD xE : Array Value),v2 = .func (.func f46) xD xE ∧ Enters prog f46 ∧ Spec prog f46 (xD ++ #[.agg #[.int .i64 Qe,.int .u64 MP],.int .i64 x1] ++ xE) σ (AA R (CI .i64 fun x46 y => R (.returned (.tuple #[.int .i64 x9,(.bool (decide (x46 = 0)))])) y))) (R (.returned (.tuple #[.int .i64 x9,.bool false])) σ))) : Bh R p0 n0 c0 x1 v2 x8 x9 x10 σ := M.of h ok rfl
end Ax
namespace Yr
variable {x0 x1 : Int}
def M : Fw := ⟨prog,190,f190,[203],[],false,[],[],[]⟩
theorem ok : M.Ok := ⟨.cons call203 (AG.nil),mixed,func190,by kernel_rfl⟩
theorem start (h : Spec prog 203 #[.int .i64 2,.int .u64 x0,.int .u64 x1] σ (AA R (fun z y => ∃ I3 Rv,z = (.tuple #[.int .u64 I3,.bool Rv]) ∧ R (.returned (.int .u64 I3)) y))) : Spec prog 190 #[.int .u64 x0,.int .u64 x1] σ R := M.start h ok
end Yr
namespace EJ
variable {p0 : Option Addr} {n0 c0 : Nat} {x3 x4 : Int}
def M : Fw := ⟨prog,192,f192,[190,201,204],[],false,[],[],[(464,[(0,wL),(3,wU),(4,wI)]),(467,[(0,wL),(3,wU),(4,wI)])]⟩
theorem ok : M.Ok := ⟨.cons call190 (.cons call201 (.cons call204 (AG.nil))),mixed,func192,by kernel_rfl⟩
def Bh := M.pt 0
def QU := M.pt 1
theorem start (h : AI ((n0 : Int) - 1) ∧ Pq p0 fun BG jr => In (((n0 : Int) - 1)) (n0 : Int) ∧ LI .u64 σ BG (jr + Int.toNat ((n0 : Int) - 1) * 1) fun x12 => In 0 (n0 : Int) ∧ LI .u64 σ BG jr fun x15 => Spec prog 190 #[.int .u64 x12,.int .u64 x15] σ (AA R (CI .u64 fun x16 y => Bh R (aD BG jr) n0 c0 x16 1 y))) : Spec prog 192 #[.slice p0 n0 c0] σ R := M.start h ok
theorem A0 (h : Br (x4 < (n0 : Int)) (Pq p0 fun Q9 S1 => In x4 (n0 : Int) ∧ LI .u64 σ Q9 (S1 + Int.toNat x4 * 1) fun Jj => AI (x4 - 1) ∧ In (x4 - 1) (n0 : Int) ∧ LI .u64 σ Q9 (S1 + Int.toNat (x4 - 1) * 1) fun mF => Spec prog 204 #[.int .i64 7,.int .u64 Jj,.int .u64 mF] σ (AA R (fun z y => ∃ AF5 mG,z = (.tuple #[.bool AF5,.bool mG]) ∧ Bo AF5 (AI (x4 - 1) ∧ In (x4 - 1) (n0 : Int) ∧ LI .u64 y Q9 (S1 + Int.toNat (x4 - 1) * 1) fun UM => Spec prog 201 #[.int .u64 x3,.int .u64 UM] y (AA R (CI .u64 fun et AF => QU R (aD Q9 S1) n0 c0 et x4 AF))) (QU R (aD Q9 S1) n0 c0 x3 x4 y)))) (R (.returned (.int .u64 x3)) σ)) : Bh R p0 n0 c0 x3 x4 σ := M.of h ok rfl
theorem Lu (h : AI (x4 + 1) ∧ Bh R p0 n0 c0 x3 (x4 + 1) σ) : QU R p0 n0 c0 x3 x4 σ := M.of h ok rfl
end EJ
namespace Jm
variable {wD aM : ByteArray} {b1 : Nat}
def M : Fw := ⟨prog,200,f200,[199],[2],false,[],[],[]⟩
theorem ok : M.Ok := ⟨.cons call199 (AG.nil),mixed,func200,by kernel_rfl⟩
theorem start (h : ∀ b2 : Nat,LS σ b1 0 fun p4 n4 c4 => Spec prog 199 #[.slice p4 n4 c4,.string wD] σ (AA R (CB fun t7 y => R (.returned (.bool (!t7))) y))) : Spec prog 200 #[.agg #[.string wD,.string aM],(.pointer (aD b1 0))] σ R := M.start h ok
end Jm
namespace Fz
variable {s0 : ByteArray} {x3 : Int}
def M : Fw := ⟨prog,213,f213,[],[],false,[],[],[(224,[(0,wT),(3,wI)])]⟩
theorem ok : M.Ok := ⟨AG.nil,mixed,func213,by kernel_rfl⟩
def Dm := M.pt 0
theorem start (h : Dm R s0 0 σ) : Spec prog 213 #[.string s0] σ R := M.start h ok
theorem Ac (h : Br (x3 < ((ByteArray.size s0 : Nat) : Int)) (∃ u11 : UInt8,0 ≤ x3 ∧ (ByteArray.data s0)[Int.toNat x3]? = some u11 ∧ Br ((48 : Int) ≤ ((UInt8.toNat u11 : Nat) : Int)) (∃ u17 : UInt8,0 ≤ x3 ∧ (ByteArray.data s0)[Int.toNat x3]? = some u17 ∧ Br ((((UInt8.toNat u17 : Nat) : Int) : Int) ≤ 57) (AI (x3 + 1) ∧ Dm R s0 (x3 + 1) σ) (R (.returned (.int .i64 x3)) σ)) (R (.returned (.int .i64 x3)) σ)) (R (.returned (.int .i64 x3)) σ)) : Dm R s0 x3 σ := M.of h ok rfl
end Fz
namespace ED
variable {Py : Option Addr} {Js OZ : Nat} {aM s1 : ByteArray}
def M : Fw := ⟨prog,220,f220,[236],[2],false,[],[],[]⟩
theorem ok : M.Ok := ⟨.cons call236 (AG.nil),mixed,func220,by kernel_rfl⟩
theorem start (h : ∀ b2 : Nat,Spec prog 236 #[.agg #[.slice Py Js OZ],.string s1] σ (AA R (CB fun t8 y => R (.returned (.bool (!t8))) y))) : Spec prog 220 #[.agg #[.slice Py Js OZ,.string aM],.string s1] σ R := M.start h ok
end ED
namespace IV
variable {p0 p5 : Option Addr} {n0 c0 n5 c5 : Nat} {x1 x7 : Int} {v6 : Value}
def M : Fw := ⟨prog,241,f241,[182,263],[],false,[],[],[(444,[(0,wL),(1,wI),(5,wL),(6,wV),(7,wI)])]⟩
theorem ok : M.Ok := ⟨.cons call182 (.cons call263 (AG.nil)),mixed,func241,by kernel_rfl⟩
def tN := M.pt 0
theorem start (h : Spec prog 263 #[] σ (AA R (CS fun Q6 n10 Np y => tN R p0 n0 c0 x1 Q6 n10 Np (.complex .f64 0 0) 0 y))) : Spec prog 241 #[.slice p0 n0 c0,.int .i64 x1] σ R := M.start h ok
theorem fL (h : Br (x7 = (n0 : Int)) (R (.returned v6) σ) (Pq p0 fun Q5 WA => In x7 (n0 : Int) ∧ LI .u64 σ Q5 (WA + Int.toNat x7 * 1) fun DT => AI (x1 * x7) ∧ (n0 : Int) ≠ (0 : Int) ∧ Df (Int.tmod (x1 * x7) (n0 : Int)) fun Jj => (n0 : Int) ≠ (0 : Int) ∧ Df (IntKind.i64.wrap (Int.tdiv 8 (n0 : Int))) fun SB => AI (Jj * SB) ∧ Pq p5 fun b32 o32 => In (Jj * SB) (n5 : Int) ∧ ∃ x33 y33,Hp.ld σ ⟨b32,(o32 + Int.toNat (Jj * SB) * 1),none⟩ = some (Value.complex .f64 x33 y33) ∧ Spec prog 182 #[.int .u64 DT] σ (AA R (fun z y => ∃ Hv,(Value.float .f64 Hv) = z ∧ Kp [b32] σ y ∧ ∃ Q7,YF prog (Builtin.real_ #[272] 51 #[v6]) y (Value.float .f64 Q7) ∧ ∃ wN,YF prog (Builtin.real_ #[272] 51 #[(Value.complex .f64 x33 y33)]) y (Value.float .f64 wN) ∧ AK prog (binOp .mul 51 (Value.float .f64 Hv) (Value.float .f64 wN)) y (fun z AF => ∃ x39,(Value.float .f64 x39) = z ∧ AK prog (binOp .add 51 (Value.float .f64 Q7) (Value.float .f64 x39)) AF (fun z AH => ∃ qt,(Value.float .f64 qt) = z ∧ ∃ UM,YF prog (Builtin.imag_ #[272] 51 #[v6]) AH (Value.float .f64 UM) ∧ ∃ eh,YF prog (Builtin.imag_ #[272] 51 #[(Value.complex .f64 x33 y33)]) AH (Value.float .f64 eh) ∧ AK prog (binOp .mul 51 (Value.float .f64 Hv) (Value.float .f64 eh)) AH (fun z Ab => ∃ x46,(Value.float .f64 x46) = z ∧ AK prog (binOp .add 51 (Value.float .f64 UM) (Value.float .f64 x46)) Ab (fun z C4 => ∃ lX,(Value.float .f64 lX) = z ∧ ∃ UO y48,YF prog (Builtin.complex_ #[51,51] 272 #[(Value.float .f64 qt),(Value.float .f64 lX)]) C4 (Value.complex .f64 UO y48) ∧ AI (x7 + 1) ∧ tN R (aD Q5 WA) n0 c0 x1 (aD b32 o32) n5 c5 (Value.complex .f64 UO y48) (x7 + 1) C4)))))))) : tN R p0 n0 c0 x1 p5 n5 c5 v6 x7 σ := M.of h ok rfl
end IV
namespace IW
variable {q0 : Option Addr}
def M : Fw := ⟨prog,250,f250,[66,133,135,136,137,138,267,268,269,270],[2],false,[],[],[]⟩
theorem ok : M.Ok := ⟨.cons call66 (.cons call133 (.cons call135 (.cons call136 (.cons call137 (.cons call138 (.cons call267 (.cons call268 (.cons call269 (.cons call270 (AG.nil)))))))))),mixed,func250,by kernel_rfl⟩
theorem start (h : Spec prog 66 #[.pointer q0] σ (AA R (fun z y => ∃ Fs Gp Ft Gq,z = (.agg #[.int .i64 Fs,.int .i64 Gp,.string Ft,.int .i64 Gq]) ∧ ∀ b2 : Nat,Spec prog 267 #[] y (AA R (CS fun p8 n8 c8 AF => Spec prog 133 #[.slice p8 n8 c8,.string Ft] AF (AA R (CI .i64 fun x11 AH => Spec prog 268 #[] AH (AA R (CS fun cE n12 aP Ab => Spec prog 133 #[.slice cE n12 aP,.string Ft] Ab (AA R (CI .i64 fun x15 C4 => Br (Fs = 1) (Spec prog 135 #[.pointer q0] C4 (AA R (fun z FE => ∃ tC iB zr zt,z = (.agg #[.int .i64 tC,.int .i64 iB,.string zr,.int .i64 zt]) ∧ Spec prog 138 #[.pointer q0,.agg #[.int .i64 1,.int .i64 0,.string Ft,.slice none 0 0,.int .i64 0,.int .i64 0,.int .i64 0,.slice none 0 0,.bool false,.int .i64 0]] FE (AA R (fun z G4 => z = (.tuple #[]) ∧ R (.returned (.tuple #[])) G4))))) (Spec prog 136 #[.pointer q0,.int .i64 5,(.string (ByteArray.mk #[40]))] C4 (AA R (CB fun t31 FE => Bo t31 (Spec prog 269 #[.pointer q0] FE (AA R (fun z G4 => z = (.tuple #[]) ∧ R (.returned (.tuple #[])) G4))) (Br (Fs = 3) (Br (0 < x11) (Spec prog 135 #[.pointer q0] FE (AA R (fun z G4 => ∃ O9 MR PA AMe,z = (.agg #[.int .i64 O9,.int .i64 MR,.string PA,.int .i64 AMe]) ∧ Spec prog 269 #[.pointer q0] G4 (AA R (fun z NS => z = (.tuple #[]) ∧ Spec prog 138 #[.pointer q0,(.agg #[.int .i64 4,.int .i64 x11,(.string (ByteArray.mk #[])),.slice none 0 0,.int .i64 0,.int .i64 0,.int .i64 0,.slice none 0 0,.bool false,.int .i64 1])] NS (AA R (fun z WC => z = (.tuple #[]) ∧ R (.returned (.tuple #[])) WC))))))) (Br (Fs = 3) (Br (0 < x15) (Spec prog 135 #[.pointer q0] FE (AA R (fun z G4 => ∃ WD Hw AAL AAM,z = (.agg #[.int .i64 WD,.int .i64 Hw,.string AAL,.int .i64 AAM]) ∧ Al G4 fun b5 => AK prog (Instr.storeAt 36 (.pointer (aD b5 0)) (.agg #[.int .i64 5,.int .i64 x15,(.string (ByteArray.mk #[])),.slice none 0 0,.int .i64 0,.int .i64 0,.int .i64 0,.slice none 0 0,.bool false,.int .i64 1])) (Hp.set G4 b5 (.cells #[.int .i64 0,.int .i64 0,(.string (ByteArray.mk #[])),.slice none 0 0,.int .i64 0,.int .i64 0,.int .i64 0,.slice none 0 0,.bool false,.int .i64 0] 36 (0,0))) (fun _ NS => Spec prog 137 #[.pointer q0,(.pointer (aD b5 0)),(.agg #[(.string (ByteArray.mk #[98,121])),(.string (ByteArray.mk #[119,105,116,104,111,117,116]))]),.agg #[.int .i64 1,.int .i64 2]] NS (AA R (fun z WC => z = (.tuple #[]) ∧ Spec prog 269 #[.pointer q0] WC (AA R (fun z MO => z = (.tuple #[]) ∧ ∃ Ys Yt Yu Yv Yw Yx Yy Yz Y0 Y1 Y2 Y3 Y4 Y5,Aw MO b5 0 [.int .i64 Ys,.int .i64 Yt,.string Yu,.slice Yv Yw Yx,.int .i64 Yy,.int .i64 Yz,.int .i64 Y0,.slice Y1 Y2 Y3,.bool Y4,.int .i64 Y5] ∧ Spec prog 138 #[.pointer q0,.agg #[.int .i64 Ys,.int .i64 Yt,.string Yu,.slice Yv Yw Yx,.int .i64 Yy,.int .i64 Yz,.int .i64 Y0,.slice Y1 Y2 Y3,.bool Y4,.int .i64 Y5]] MO (AA R (fun z lQ => z = (.tuple #[]) ∧ R (.returned (.tuple #[])) lQ)))))))))) (Spec prog 270 #[.pointer q0] FE (AA R (fun z G4 => z = (.tuple #[]) ∧ R (.returned (.tuple #[])) G4)))) (Spec prog 270 #[.pointer q0] FE (AA R (fun z G4 => z = (.tuple #[]) ∧ R (.returned (.tuple #[])) G4))))) (Br (Fs = 3) (Br (0 < x15) (Spec prog 135 #[.pointer q0] FE (AA R (fun z G4 => ∃ WD Hw AAL AAM,z = (.agg #[.int .i64 WD,.int .i64 Hw,.string AAL,.int .i64 AAM]) ∧ Al G4 fun b5 => AK prog (Instr.storeAt 36 (.pointer (aD b5 0)) (.agg #[.int .i64 5,.int .i64 x15,(.string (ByteArray.mk #[])),.slice none 0 0,.int .i64 0,.int .i64 0,.int .i64 0,.slice none 0 0,.bool false,.int .i64 1])) (Hp.set G4 b5 (.cells #[.int .i64 0,.int .i64 0,(.string (ByteArray.mk #[])),.slice none 0 0,.int .i64 0,.int .i64 0,.int .i64 0,.slice none 0 0,.bool false,.int .i64 0] 36 (0,0))) (fun _ NS => Spec prog 137 #[.pointer q0,(.pointer (aD b5 0)),(.agg #[(.string (ByteArray.mk #[98,121])),(.string (ByteArray.mk #[119,105,116,104,111,117,116]))]),.agg #[.int .i64 1,.int .i64 2]] NS (AA R (fun z WC => z = (.tuple #[]) ∧ Spec prog 269 #[.pointer q0] WC (AA R (fun z MO => z = (.tuple #[]) ∧ ∃ Ys Yt Yu Yv Yw Yx Yy Yz Y0 Y1 Y2 Y3 Y4 Y5,Aw MO b5 0 [.int .i64 Ys,.int .i64 Yt,.string Yu,.slice Yv Yw Yx,.int .i64 Yy,.int .i64 Yz,.int .i64 Y0,.slice Y1 Y2 Y3,.bool Y4,.int .i64 Y5] ∧ Spec prog 138 #[.pointer q0,.agg #[.int .i64 Ys,.int .i64 Yt,.string Yu,.slice Yv Yw Yx,.int .i64 Yy,.int .i64 Yz,.int .i64 Y0,.slice Y1 Y2 Y3,.bool Y4,.int .i64 Y5]] MO (AA R (fun z lQ => z = (.tuple #[]) ∧ R (.returned (.tuple #[])) lQ)))))))))) (Spec prog 270 #[.pointer q0] FE (AA R (fun z G4 => z = (.tuple #[]) ∧ R (.returned (.tuple #[])) G4)))) (Spec prog 270 #[.pointer q0] FE (AA R (fun z G4 => z = (.tuple #[]) ∧ R (.returned (.tuple #[])) G4))))))))))))))))))) : Spec prog 250 #[.pointer q0] σ R := M.start h ok
end IW
namespace strings_Index
variable {s0 s1 : ByteArray}
end strings_Index
namespace TB
def M : Fw := ⟨prog,268,f268,[],[],false,[],[],[]⟩
theorem ok : M.Ok := ⟨AG.nil,mixed,func268,by kernel_rfl⟩
theorem start (h : Al σ fun b1 => R (.returned (.slice (aD b1 0) 6 6)) (Hp.set σ b1 (.cells #[(.string (ByteArray.mk #[])),(.string (ByteArray.mk #[115,117,109])),(.string (ByteArray.mk #[109,105,110])),(.string (ByteArray.mk #[109,97,120])),(.string (ByteArray.mk #[97,118,103])),(.string (ByteArray.mk #[99,111,117,110,116]))] 9 (0,0)))) : Spec prog 268 #[] σ R := M.start h ok
end TB
namespace AE
variable {s0 : ByteArray} {x2 x3 x7 x10 x11 x12 x15 x16 x17 DT Hv : Int} {t4 t5 t6 t8 t9 t13 t14 : Bool}
def M : Fw := ⟨prog,272,f272,[302,303],[],false,[],[],[(110,[(0,wT),(2,wU),(3,wI),(4,wB),(5,wB),(6,wB),(7,wI),(8,wB),(9,wB)]),(1790,[(0,wT),(2,wU),(3,wI),(4,wB),(5,wB),(6,wB),(7,wI),(8,wB),(9,wB),(10,wU),(11,wI),(12,w8)]),(1834976,[(0,wT),(2,wU),(3,wI),(4,wB),(5,wB),(6,wB),(7,wI),(8,wB),(9,wB),(10,wU),(11,wI),(12,w8),(13,wB),(14,wB),(15,wI),(16,wI),(17,wI)]),(458748,[(0,wT),(2,wU),(3,wI),(4,wB),(5,wB),(6,wB),(7,wI),(8,wB),(9,wB),(10,wU),(12,w8),(13,wB),(14,wB),(15,wI),(16,wI),(17,wI)]),(1835004,[(0,wT),(2,wU),(3,wI),(4,wB),(5,wB),(6,wB),(7,wI),(8,wB),(9,wB),(10,wU),(12,w8),(16,wI),(17,wI)]),(3670012,[(0,wT),(2,wU),(3,wI),(4,wB),(5,wB),(6,wB),(7,wI),(8,wB),(9,wB),(10,wU),(12,w8),(16,wI),(17,wI)]),(7340028,[(0,wT),(2,wU),(3,wI),(4,wB),(5,wB),(6,wB),(7,wI),(8,wB),(9,wB),(16,wI),(17,wI)]),(14680060,[(0,wT),(2,wU),(3,wI),(4,wB),(5,wB),(6,wB),(7,wI),(8,wB),(9,wB)]),(469761724,[(0,wT),(2,wU),(3,wI),(4,wB),(5,wB),(6,wB),(7,wI),(8,wB),(9,wB),(16,wI),(17,wI),(19,wI)]),(15032375264,[(0,wT),(2,wU),(3,wI),(4,wB),(5,wB),(6,wB),(7,wI),(8,wB),(9,wB),(16,wI),(17,wI),(19,wI),(20,wI)]),(15032375267,[(0,wT),(2,wU),(3,wI),(4,wB),(5,wB),(6,wB),(7,wI),(8,wB),(9,wB),(16,wI),(17,wI),(19,wI),(20,wI)]),(1834979,[(0,wT),(2,wU),(3,wI),(4,wB),(5,wB),(6,wB),(7,wI),(8,wB),(9,wB),(10,wU),(11,wI),(12,w8),(13,wB),(14,wB),(15,wI),(16,wI),(17,wI)])]⟩
theorem ok : M.Ok := ⟨.cons call302 (.cons call303 (AG.nil)),mixed,func272,by kernel_rfl⟩
def UP := M.pt 0
def MT := M.pt 1
def nC := M.pt 2
def N1 := M.pt 3
def fM := M.pt 4
def nE := M.pt 5
def nF := M.pt 6
def nG := M.pt 7
def nH := M.pt 8
def F0 := M.pt 11
theorem start (h : Br ((((ByteArray.size s0 : Nat) : Int) : Int) ≤ 0) (R (.returned (.tuple #[.int .u64 0,.int .i64 0,.bool false,.bool false,.bool false,.int .i64 0,.bool false])) σ) (∃ u27 : UInt8,(0 : Int) ≤ 0 ∧ (ByteArray.data s0)[Int.toNat 0]? = some u27 ∧ Br ((((UInt8.toNat u27 : Nat) : Int) : Int) = 43) (AI (0 + 1) ∧ UP R s0 0 0 false false false (0 + 1) false false σ) (Br ((((UInt8.toNat u27 : Nat) : Int) : Int) = 45) (AI (0 + 1) ∧ UP R s0 0 0 true false false (0 + 1) false false σ) (UP R s0 0 0 false false false 0 false false σ)))) : Spec prog 272 #[.string s0] σ R := M.start h ok
theorem RA (h : AI (x7 + 2) ∧ Br (((x7 + 2) : Int) < ((ByteArray.size s0 : Nat) : Int)) (∃ u44 : UInt8,0 ≤ x7 ∧ (ByteArray.data s0)[Int.toNat x7]? = some u44 ∧ Br ((((UInt8.toNat u44 : Nat) : Int) : Int) = 48) (AI (x7 + 1) ∧ ∃ u51 : UInt8,(0 : Int) ≤ (x7 + 1) ∧ (ByteArray.data s0)[Int.toNat (x7 + 1)]? = some u51 ∧ Spec prog 302 #[(.int .u8 ((UInt8.toNat u51 : Nat) : Int))] σ (AA R (CI .u8 fun sq y => Br (sq = 120) (AI (x7 + 2) ∧ MT R s0 x2 x3 t4 t5 true (x7 + 2) t8 t9 16 16 112 y) (MT R s0 x2 x3 t4 t5 t6 x7 t8 t9 10 19 101 y)))) (MT R s0 x2 x3 t4 t5 t6 x7 t8 t9 10 19 101 σ)) (MT R s0 x2 x3 t4 t5 t6 x7 t8 t9 10 19 101 σ)) : UP R s0 x2 x3 t4 t5 t6 x7 t8 t9 σ := M.of h ok rfl
theorem JJ (h : nC R s0 x2 x3 t4 t5 t6 x7 t8 t9 x10 x11 x12 false false 0 0 0 σ) : MT R s0 x2 x3 t4 t5 t6 x7 t8 t9 x10 x11 x12 σ := M.of h ok rfl
theorem fN (h : Br (x7 < ((ByteArray.size s0 : Nat) : Int)) (∃ aQ : UInt8,0 ≤ x7 ∧ (ByteArray.data s0)[Int.toNat x7]? = some aQ ∧ Br ((((UInt8.toNat aQ : Nat) : Int) : Int) = 95) (F0 R s0 x2 x3 t4 t5 t6 x7 t8 true x10 x11 x12 t13 t14 x15 x16 x17 σ) (Br ((((UInt8.toNat aQ : Nat) : Int) : Int) = 46) (Bo t13 (N1 R s0 x2 x3 t4 t5 t6 x7 t8 t9 x10 x12 true t14 x15 x16 x17 σ) (F0 R s0 x2 x3 t4 t5 t6 x7 t8 t9 x10 x11 x12 true t14 x15 x16 x15 σ)) (Br ((48 : Int) ≤ ((UInt8.toNat aQ : Nat) : Int)) (Br ((((UInt8.toNat aQ : Nat) : Int) : Int) ≤ 57) (Br ((((UInt8.toNat aQ : Nat) : Int) : Int) = 48) (Br (x15 = 0) (AI (x17 - 1) ∧ F0 R s0 x2 x3 t4 t5 t6 x7 t8 t9 x10 x11 x12 t13 true x15 x16 (x17 - 1) σ) (AI (x15 + 1) ∧ Br (x16 < x11) (Df (IntKind.u64.wrap (x2 * x10)) fun x99 => Df (IntKind.u8.wrap (((UInt8.toNat aQ : Nat) : Int) - 48)) fun iM => Df (IntKind.u64.wrap iM) fun iN => Df (IntKind.u64.wrap (x99 + iN)) fun cL => AI (x16 + 1) ∧ F0 R s0 cL x3 t4 t5 t6 x7 t8 t9 x10 x11 x12 t13 true (x15 + 1) (x16 + 1) x17 σ) (Br ((((UInt8.toNat aQ : Nat) : Int) : Int) ≠ 48) (F0 R s0 x2 x3 t4 true t6 x7 t8 t9 x10 x11 x12 t13 true (x15 + 1) x16 x17 σ) (F0 R s0 x2 x3 t4 t5 t6 x7 t8 t9 x10 x11 x12 t13 true (x15 + 1) x16 x17 σ)))) (AI (x15 + 1) ∧ Br (x16 < x11) (Df (IntKind.u64.wrap (x2 * x10)) fun x99 => Df (IntKind.u8.wrap (((UInt8.toNat aQ : Nat) : Int) - 48)) fun iM => Df (IntKind.u64.wrap iM) fun iN => Df (IntKind.u64.wrap (x99 + iN)) fun cL => AI (x16 + 1) ∧ F0 R s0 cL x3 t4 t5 t6 x7 t8 t9 x10 x11 x12 t13 true (x15 + 1) (x16 + 1) x17 σ) (Br ((((UInt8.toNat aQ : Nat) : Int) : Int) ≠ 48) (F0 R s0 x2 x3 t4 true t6 x7 t8 t9 x10 x11 x12 t13 true (x15 + 1) x16 x17 σ) (F0 R s0 x2 x3 t4 t5 t6 x7 t8 t9 x10 x11 x12 t13 true (x15 + 1) x16 x17 σ)))) (Br (x10 = 16) (Spec prog 302 #[(.int .u8 ((UInt8.toNat aQ : Nat) : Int))] σ (AA R (CI .u8 fun AAN y => Br (97 ≤ AAN) (Spec prog 302 #[(.int .u8 ((UInt8.toNat aQ : Nat) : Int))] y (AA R (CI .u8 fun AAO AF => Br (AAO ≤ 102) (AI (x15 + 1) ∧ Br (x16 < x11) (Df (IntKind.u64.wrap (x2 * 16)) fun AAP => Spec prog 302 #[(.int .u8 ((UInt8.toNat aQ : Nat) : Int))] AF (AA R (CI .u8 fun AAQ AH => Df (IntKind.u8.wrap (AAQ - 97)) fun AAR => Df (IntKind.u8.wrap (AAR + 10)) fun AAS => Df (IntKind.u64.wrap AAS) fun AAT => Df (IntKind.u64.wrap (AAP + AAT)) fun AAU => AI (x16 + 1) ∧ F0 R s0 AAU x3 t4 t5 t6 x7 t8 t9 x10 x11 x12 t13 true (x15 + 1) (x16 + 1) x17 AH))) (F0 R s0 x2 x3 t4 true t6 x7 t8 t9 x10 x11 x12 t13 true (x15 + 1) x16 x17 AF)) (N1 R s0 x2 x3 t4 t5 t6 x7 t8 t9 x10 x12 t13 t14 x15 x16 x17 AF)))) (N1 R s0 x2 x3 t4 t5 t6 x7 t8 t9 x10 x12 t13 t14 x15 x16 x17 y)))) (N1 R s0 x2 x3 t4 t5 t6 x7 t8 t9 x10 x12 t13 t14 x15 x16 x17 σ))) (Br (x10 = 16) (Spec prog 302 #[(.int .u8 ((UInt8.toNat aQ : Nat) : Int))] σ (AA R (CI .u8 fun AAN y => Br (97 ≤ AAN) (Spec prog 302 #[(.int .u8 ((UInt8.toNat aQ : Nat) : Int))] y (AA R (CI .u8 fun AAO AF => Br (AAO ≤ 102) (AI (x15 + 1) ∧ Br (x16 < x11) (Df (IntKind.u64.wrap (x2 * 16)) fun AAP => Spec prog 302 #[(.int .u8 ((UInt8.toNat aQ : Nat) : Int))] AF (AA R (CI .u8 fun AAQ AH => Df (IntKind.u8.wrap (AAQ - 97)) fun AAR => Df (IntKind.u8.wrap (AAR + 10)) fun AAS => Df (IntKind.u64.wrap AAS) fun AAT => Df (IntKind.u64.wrap (AAP + AAT)) fun AAU => AI (x16 + 1) ∧ F0 R s0 AAU x3 t4 t5 t6 x7 t8 t9 x10 x11 x12 t13 true (x15 + 1) (x16 + 1) x17 AH))) (F0 R s0 x2 x3 t4 true t6 x7 t8 t9 x10 x11 x12 t13 true (x15 + 1) x16 x17 AF)) (N1 R s0 x2 x3 t4 t5 t6 x7 t8 t9 x10 x12 t13 t14 x15 x16 x17 AF)))) (N1 R s0 x2 x3 t4 t5 t6 x7 t8 t9 x10 x12 t13 t14 x15 x16 x17 y)))) (N1 R s0 x2 x3 t4 t5 t6 x7 t8 t9 x10 x12 t13 t14 x15 x16 x17 σ))))) (N1 R s0 x2 x3 t4 t5 t6 x7 t8 t9 x10 x12 t13 t14 x15 x16 x17 σ)) : nC R s0 x2 x3 t4 t5 t6 x7 t8 t9 x10 x11 x12 t13 t14 x15 x16 x17 σ := M.of h ok rfl
theorem nI (h : Bn t14 (R (.returned (.tuple #[.int .u64 x2,.int .i64 x3,.bool t4,.bool t5,.bool t6,.int .i64 x7,.bool t8])) σ) (Bn t13 (fM R s0 x2 x3 t4 t5 t6 x7 t8 t9 x10 x12 x16 x15 σ) (fM R s0 x2 x3 t4 t5 t6 x7 t8 t9 x10 x12 x16 x17 σ))) : N1 R s0 x2 x3 t4 t5 t6 x7 t8 t9 x10 x12 t13 t14 x15 x16 x17 σ := M.of h ok rfl
theorem nJ (h : Br (x10 = 16) (AI (x17 * 4) ∧ AI (x16 * 4) ∧ nE R s0 x2 x3 t4 t5 t6 x7 t8 t9 x10 x12 (x16 * 4) (x17 * 4) σ) (nE R s0 x2 x3 t4 t5 t6 x7 t8 t9 x10 x12 x16 x17 σ)) : fM R s0 x2 x3 t4 t5 t6 x7 t8 t9 x10 x12 x16 x17 σ := M.of h ok rfl
theorem nK (h : Br (x7 < ((ByteArray.size s0 : Nat) : Int)) (∃ AF6 : UInt8,0 ≤ x7 ∧ (ByteArray.data s0)[Int.toNat x7]? = some AF6 ∧ Spec prog 302 #[(.int .u8 ((UInt8.toNat AF6 : Nat) : Int))] σ (AA R (CI .u8 fun AMg y => Br (AMg = x12) (AI (x7 + 1) ∧ Br ((((ByteArray.size s0 : Nat) : Int) : Int) ≤ (x7 + 1)) (R (.returned (.tuple #[.int .u64 x2,.int .i64 x3,.bool t4,.bool t5,.bool t6,(.int .i64 (x7 + 1)),.bool t8])) y) (∃ AAV : UInt8,(0 : Int) ≤ (x7 + 1) ∧ (ByteArray.data s0)[Int.toNat (x7 + 1)]? = some AAV ∧ Br ((((UInt8.toNat AAV : Nat) : Int) : Int) = 43) (AI ((x7 + 1) + 1) ∧ nH R s0 x2 x3 t4 t5 t6 (((x7 + 1) + 1)) t8 t9 x16 x17 1 y) (Br ((((UInt8.toNat AAV : Nat) : Int) : Int) = 45) (AI ((x7 + 1) + 1) ∧ nH R s0 x2 x3 t4 t5 t6 (((x7 + 1) + 1)) t8 t9 x16 x17 (-1) y) (nH R s0 x2 x3 t4 t5 t6 (x7 + 1) t8 t9 x16 x17 1 y)))) (Br (x10 = 16) (R (.returned (.tuple #[.int .u64 x2,.int .i64 x3,.bool t4,.bool t5,.bool t6,.int .i64 x7,.bool t8])) y) (nF R s0 x2 x3 t4 t5 t6 x7 t8 t9 x16 x17 y))))) (Br (x10 = 16) (R (.returned (.tuple #[.int .u64 x2,.int .i64 x3,.bool t4,.bool t5,.bool t6,.int .i64 x7,.bool t8])) σ) (nF R s0 x2 x3 t4 t5 t6 x7 t8 t9 x16 x17 σ))) : nE R s0 x2 x3 t4 t5 t6 x7 t8 t9 x10 x12 x16 x17 σ := M.of h ok rfl
theorem nL (h : Br (x2 ≠ 0) (AI (x17 - x16) ∧ nG R s0 x2 (x17 - x16) t4 t5 t6 x7 t8 t9 σ) (nG R s0 x2 x3 t4 t5 t6 x7 t8 t9 σ)) : nF R s0 x2 x3 t4 t5 t6 x7 t8 t9 x16 x17 σ := M.of h ok rfl
theorem Y7 (h : Bo t9 (∃ AF7,YF prog (Instr.sliceAt 9 (.string s0) none (some (.int .i64 x7)) none) σ (.string AF7) ∧ Spec prog 303 #[.string AF7] σ (AA R (CB fun t250 y => Bn t250 (R (.returned (.tuple #[.int .u64 x2,.int .i64 x3,.bool t4,.bool t5,.bool t6,.int .i64 x7,.bool t8])) y) (R (.returned (.tuple #[.int .u64 x2,.int .i64 x3,.bool t4,.bool t5,.bool t6,.int .i64 x7,.bool true])) y)))) (R (.returned (.tuple #[.int .u64 x2,.int .i64 x3,.bool t4,.bool t5,.bool t6,.int .i64 x7,.bool true])) σ)) : nG R s0 x2 x3 t4 t5 t6 x7 t8 t9 σ := M.of h ok rfl
theorem nM (h : AI (x7 + 1) ∧ nC R s0 x2 x3 t4 t5 t6 (x7 + 1) t8 t9 x10 x11 x12 t13 t14 x15 x16 x17 σ) : F0 R s0 x2 x3 t4 t5 t6 x7 t8 t9 x10 x11 x12 t13 t14 x15 x16 x17 σ := M.of h ok rfl
end AE
namespace HB
variable {s0 : ByteArray} {t4 : Bool}
def M : Fw := ⟨prog,295,f295,[133,267,268],[],false,[],[],[(53,[(0,wT),(4,wB)])]⟩
theorem ok : M.Ok := ⟨.cons call133 (.cons call267 (.cons call268 (AG.nil))),mixed,func295,by kernel_rfl⟩
def Qf := M.pt 0
theorem start (h : Bo ((ByteArray.toList s0 == ByteArray.toList (ByteArray.mk #[111,114]))) (Qf R s0 true σ) (Bo ((ByteArray.toList s0 == ByteArray.toList (ByteArray.mk #[97,110,100]))) (Qf R s0 true σ) (Bo ((ByteArray.toList s0 == ByteArray.toList (ByteArray.mk #[117,110,108,101,115,115]))) (Qf R s0 true σ) (Bo ((ByteArray.toList s0 == ByteArray.toList (ByteArray.mk #[98,111,111,108]))) (Qf R s0 true σ) (Bo ((ByteArray.toList s0 == ByteArray.toList (ByteArray.mk #[111,110]))) (Qf R s0 true σ) (Bo ((ByteArray.toList s0 == ByteArray.toList (ByteArray.mk #[105,103,110,111,114,105,110,103]))) (Qf R s0 true σ) (Bo ((ByteArray.toList s0 == ByteArray.toList (ByteArray.mk #[98,121]))) (Qf R s0 true σ) (Bo ((ByteArray.toList s0 == ByteArray.toList (ByteArray.mk #[119,105,116,104,111,117,116]))) (Qf R s0 true σ) (Qf R s0 ((ByteArray.toList s0 == ByteArray.toList (ByteArray.mk #[111,102,102,115,101,116]))) σ))))))))) : Spec prog 295 #[.string s0] σ R := M.start h ok
theorem tO (h : Bo t4 (R (.returned (.bool true)) σ) (Spec prog 267 #[] σ (AA R (CS fun Jf n14 Hd y => Spec prog 133 #[.slice Jf n14 Hd,.string s0] y (AA R (CI .i64 fun x16 AF => Br (0 < x16) (R (.returned (.bool true)) AF) (Spec prog 268 #[] AF (AA R (CS fun p19 n19 c19 AH => Spec prog 133 #[.slice p19 n19 c19,.string s0] AH (AA R (CI .i64 fun cA Ab => R (.returned (.bool (decide (0 < cA)))) Ab))))))))))) : Qf R s0 t4 σ := M.of h ok rfl
end HB
namespace IX
variable {q0 q1 : Option Addr} {tF x3a x3b x3d : Int} {s2b s2c s3c : ByteArray}
def M : Fw := ⟨prog,296,f296,[80,97],[6,7],false,[(1,10,false)],[],[]⟩
theorem ok : M.Ok := ⟨.cons call80 (.cons call97 (AG.nil)),mixed,func296,by kernel_rfl⟩
theorem start (h : ∀ b6 : Nat,∀ b7 : Nat,Pq q1 fun Cj iL => LS σ Cj (iL + 3) fun cE n12 aP => Al σ fun BO => AK prog (Builtin.append_ #[33,33] 33 #[.slice cE n12 aP,(.slice (aD BO 0) 1 1)]) (Hp.set σ BO (.cells #[.int .i64 tF,.string s2b,.string s2c] 77 (0,0))) (CS fun aL n15 V6 y => AK prog (Instr.storeAt 33 (.pointer (aD Cj (iL + 3))) (.slice aL n15 V6)) y (fun _ AF => LS AF Cj (iL + 3) fun PD n21 M3 => Spec prog 80 #[.slice PD n21 M3] AF (AA R (CI .i64 fun Iq AH => Br (Iq ≠ 0) (Spec prog 97 #[.pointer q0,.int .i64 183,.agg #[.int .i64 x3a,.int .i64 x3b,.string s3c,.int .i64 x3d]] AH (AA R (fun z Ab => z = (.tuple #[]) ∧ R (.returned (.tuple #[])) Ab))) (R (.returned (.tuple #[])) AH)))))) : Spec prog 296 #[.pointer q0,.pointer q1,.agg #[.int .i64 tF,.string s2b,.string s2c],.agg #[.int .i64 x3a,.int .i64 x3b,.string s3c,.int .i64 x3d]] σ R := M.start h ok
end IX
end TwW
end
end
section
set_option maxRecDepth 100000
noncomputable section
namespace TwW
open Go Tw Go.Proofs.Tryz
variable [E5] {R : Rr} {σ : Hp}

namespace VD
variable {x0 : Int}
def M : Fw := ⟨prog,29,f29,[],[],false,[],[],[]⟩
theorem ok : M.Ok := ⟨AG.nil,mixed,func29,by kernel_rfl⟩
theorem start (h : Br (((-1099511627776) : Int) ≤ x0) (R (.returned (.bool (decide (x0 ≤ 1099511627776)))) σ) (R (.returned (.bool false)) σ)) : Spec prog 29 #[.int .i64 x0] σ R := M.start h ok
end VD
namespace Ce
variable {p0 p1 : Option Addr} {n0 c0 n1 c1 : Nat} {x5 : Int}
def M : Fw := ⟨prog,36,f36,[],[],false,[(6,9,true)],[],[(464,[(0,wL),(1,wL),(5,wI)])]⟩
theorem ok : M.Ok := ⟨AG.nil,mixed,func36,by kernel_rfl⟩
def BE := M.pt 0
theorem start (h : Br ((n0 : Int) ≠ (n1 : Int)) (R (.returned (.bool false)) σ) (BE R p0 n0 c0 p1 n1 c1 0 σ)) : Spec prog 36 #[.slice p0 n0 c0,.slice p1 n1 c1] σ R := M.start h ok
theorem Bz (h : Br (x5 < (n0 : Int)) (Pq p0 fun DO lS => In x5 (n0 : Int) ∧ ∃ IS WE,Aw σ DO (lS + Int.toNat x5 * 2) [.int .i64 IS,.int .u64 WE] ∧ Pq p1 fun Qd mI => In x5 (n1 : Int) ∧ ∃ iO WY,Aw σ Qd (mI + Int.toNat x5 * 2) [.int .i64 iO,.int .u64 WY] ∧ ∃ t25,YF prog ((do eqGuard .neq 50 (.tmp 20) (.tmp 24) (.agg #[.int .i64 IS,.int .u64 WE]) (.agg #[.int .i64 iO,.int .u64 WY]); binOp .neq 50 (.agg #[.int .i64 IS,.int .u64 WE]) (.agg #[.int .i64 iO,.int .u64 WY]))) σ (.bool t25) ∧ Bo t25 (R (.returned (.bool false)) σ) (AI (x5 + 1) ∧ BE R (aD DO lS) n0 c0 (aD Qd mI) n1 c1 (x5 + 1) σ)) (R (.returned (.bool true)) σ)) : BE R p0 n0 c0 p1 n1 c1 x5 σ := M.of h ok rfl
end Ce
namespace BX
variable {p0 p1 p5 : Option Addr} {n0 c0 n1 c1 n5 c5 : Nat} {x6 x7 x8 : Int}
def M : Fw := ⟨prog,40,f40,[57,58,59],[],false,[],[],[(480,[(0,wL),(1,wL),(5,wL),(6,wI),(7,wI)]),(7724,[(0,wL),(1,wL),(5,wL),(6,wI),(7,wI),(8,wI)])]⟩
theorem ok : M.Ok := ⟨.cons call57 (.cons call58 (.cons call59 (AG.nil))),mixed,func40,by kernel_rfl⟩
def Bh := M.pt 0
def DU := M.pt 1
theorem start (h : Bh R p0 n0 c0 p1 n1 c1 none 0 0 0 0 σ) : Spec prog 40 #[.slice p0 n0 c0,.slice p1 n1 c1] σ R := M.start h ok
theorem A0 (h : Br (x6 < (n0 : Int)) (Br (x7 = (n1 : Int)) (DU R p0 n0 c0 p1 n1 c1 p5 n5 c5 x6 x7 (-1) σ) (Br (x6 = (n0 : Int)) (DU R p0 n0 c0 p1 n1 c1 p5 n5 c5 x6 x7 1 σ) (Pq p0 fun b21 o21 => In x6 (n0 : Int) ∧ LS σ b21 (o21 + Int.toNat x6 * 2) fun bg n23 bh => Pq p1 fun Q9 S1 => In x7 (n1 : Int) ∧ LS σ Q9 (S1 + Int.toNat x7 * 2) fun p28 n28 zK => Spec prog 57 #[.slice bg n23 bh,.slice p28 n28 zK] σ (AA R (CI .i64 fun x29 y => DU R (aD b21 o21) n0 c0 (aD Q9 S1) n1 c1 p5 n5 c5 x6 x7 x29 y))))) (Br (x7 < (n1 : Int)) (Br (x7 = (n1 : Int)) (DU R p0 n0 c0 p1 n1 c1 p5 n5 c5 x6 x7 (-1) σ) (Br (x6 = (n0 : Int)) (DU R p0 n0 c0 p1 n1 c1 p5 n5 c5 x6 x7 1 σ) (Pq p0 fun b21 o21 => In x6 (n0 : Int) ∧ LS σ b21 (o21 + Int.toNat x6 * 2) fun bg n23 bh => Pq p1 fun Q9 S1 => In x7 (n1 : Int) ∧ LS σ Q9 (S1 + Int.toNat x7 * 2) fun p28 n28 zK => Spec prog 57 #[.slice bg n23 bh,.slice p28 n28 zK] σ (AA R (CI .i64 fun x29 y => DU R (aD b21 o21) n0 c0 (aD Q9 S1) n1 c1 p5 n5 c5 x6 x7 x29 y))))) (R (.returned (.slice p5 n5 c5)) σ))) : Bh R p0 n0 c0 p1 n1 c1 p5 n5 c5 x6 x7 σ := M.of h ok rfl
theorem Fe (h : Br (x8 < 0) (Pq p0 fun b72 o72 => In x6 (n0 : Int) ∧ ∃ AF9 AGA AGB AGC AGD AGE,Aw σ b72 (o72 + Int.toNat x6 * 2) [.slice AF9 AGA AGB,.slice AGC AGD AGE] ∧ Spec prog 58 #[.agg #[.slice AF9 AGA AGB,.slice AGC AGD AGE]] σ (AA R (fun z y => ∃ nN nO nP nQ nR nS,z = (.agg #[.slice nN nO nP,.slice nQ nR nS]) ∧ Al y fun b75 => AK prog (Builtin.append_ #[23,23] 23 #[.slice p5 n5 c5,(.slice (aD b75 0) 1 1)]) (Hp.set y b75 (.cells #[.slice nN nO nP,.slice nQ nR nS] 40 (0,0))) (CS fun lC lD lE AF => AI (x6 + 1) ∧ Bh R (aD b72 o72) n0 c0 p1 n1 c1 lC lD lE (x6 + 1) x7 AF)))) (Br (0 < x8) (Pq p1 fun b85 o85 => In x7 (n1 : Int) ∧ ∃ AGF AGG AGH AGI AGJ AGK,Aw σ b85 (o85 + Int.toNat x7 * 2) [.slice AGF AGG AGH,.slice AGI AGJ AGK] ∧ Spec prog 58 #[.agg #[.slice AGF AGG AGH,.slice AGI AGJ AGK]] σ (AA R (fun z y => ∃ AGL AGM AGN AGO AGP AGQ,z = (.agg #[.slice AGL AGM AGN,.slice AGO AGP AGQ]) ∧ Al y fun b88 => AK prog (Builtin.append_ #[23,23] 23 #[.slice p5 n5 c5,(.slice (aD b88 0) 1 1)]) (Hp.set y b88 (.cells #[.slice AGL AGM AGN,.slice AGO AGP AGQ] 40 (0,0))) (CS fun p89 n89 c89 AF => AI (x7 + 1) ∧ Bh R p0 n0 c0 (aD b85 o85) n1 c1 p89 n89 c89 x6 (x7 + 1) AF)))) (Pq p0 fun b44 o44 => In x6 (n0 : Int) ∧ LS σ b44 (o44 + Int.toNat x6 * 2) fun q8 n46 mu => In x6 (n0 : Int) ∧ LS σ b44 ((o44 + Int.toNat x6 * 2) + 1) fun p52 n52 c52 => Pq p1 fun b55 o55 => In x7 (n1 : Int) ∧ LS σ b55 ((o55 + Int.toNat x7 * 2) + 1) fun sr n57 su => Al σ fun b41 => AK prog (Builtin.append_ #[37,37] 37 #[(.slice (aD b41 0) 0 0),.slice q8 n46 mu]) (Hp.set σ b41 (.cells #[] 56 (0,0))) (CS fun wK n47 tD y => Kp [b55,b44] (Hp.set σ b41 (.cells #[] 56 (0,0))) y ∧ Spec prog 59 #[.slice p52 n52 c52,.slice sr n57 su] y (AA R (CS fun qj jm vQ AF => Al AF fun tP => AK prog (Builtin.append_ #[23,23] 23 #[.slice p5 n5 c5,(.slice (aD tP 0) 1 1)]) (Hp.set AF tP (.cells #[.slice wK n47 tD,.slice qj jm vQ] 40 (0,0))) (CS fun p61 n61 c61 AH => AI (x6 + 1) ∧ AI (x7 + 1) ∧ Bh R (aD b44 o44) n0 c0 (aD b55 o55) n1 c1 p61 n61 c61 (x6 + 1) (x7 + 1) AH))))))) : DU R p0 n0 c0 p1 n1 c1 p5 n5 c5 x6 x7 x8 σ := M.of h ok rfl
end BX
namespace De
variable {p0 p1 : Option Addr} {n0 c0 n1 c1 : Nat} {x5 : Int}
def M : Fw := ⟨prog,57,f57,[89],[],false,[],[],[(208,[(0,wL),(1,wL),(5,wI)])]⟩
theorem ok : M.Ok := ⟨.cons call89 (AG.nil),mixed,func57,by kernel_rfl⟩
def Dm := M.pt 0
theorem start (h : Dm R p0 n0 c0 p1 n1 c1 0 σ) : Spec prog 57 #[.slice p0 n0 c0,.slice p1 n1 c1] σ R := M.start h ok
theorem Ac (h : Br (x5 < (n0 : Int)) (Br (x5 < (n1 : Int)) (Pq p0 fun b22 o22 => In x5 (n0 : Int) ∧ LT σ b22 (o22 + Int.toNat x5 * 2) fun s24 => Pq p1 fun O6 V4 => In x5 (n1 : Int) ∧ LT σ O6 (V4 + Int.toNat x5 * 2) fun s29 => Spec prog 89 #[.string s24,.string s29] σ (AA R (CI .i64 fun SB y => Br (SB ≠ 0) (R (.returned (.int .i64 SB)) y) (In x5 (n0 : Int) ∧ LT y b22 ((o22 + Int.toNat x5 * 2) + 1) fun s38 => In x5 (n1 : Int) ∧ LT y O6 ((V4 + Int.toNat x5 * 2) + 1) fun s43 => Spec prog 89 #[.string s38,.string s43] y (AA R (CI .i64 fun mr AF => Br (mr ≠ 0) (R (.returned (.int .i64 mr)) AF) (AI (x5 + 1) ∧ Dm R (aD b22 o22) n0 c0 (aD O6 V4) n1 c1 (x5 + 1) AF))))))) (Br ((n0 : Int) < (n1 : Int)) (R (.returned (.int .i64 (-1))) σ) (Br ((n1 : Int) < (n0 : Int)) (R (.returned (.int .i64 1)) σ) (R (.returned (.int .i64 0)) σ)))) (Br ((n0 : Int) < (n1 : Int)) (R (.returned (.int .i64 (-1))) σ) (Br ((n1 : Int) < (n0 : Int)) (R (.returned (.int .i64 1)) σ) (R (.returned (.int .i64 0)) σ)))) : Dm R p0 n0 c0 p1 n1 c1 x5 σ := M.of h ok rfl
end De
namespace CP
variable {v0 : Value} {b1 b2 b3 : Nat} {x5 : Int}
def M : Fw := ⟨prog,71,f71,[],[100000],false,[],[],[(48,[(0,wV),(2,wA),(3,wA),(5,wI)])]⟩
theorem ok : M.Ok := ⟨AG.nil,mixed,func71,by kernel_rfl⟩
def cD := M.pt 0
theorem start (h : LI .i64 σ b1 0 fun x6 => cD R v0 b2 b3 x6 σ) : Spec prog 71 #[v0,(.pointer (aD b1 0)),(.pointer (aD b2 0)),(.pointer (aD b3 0))] σ R := M.EF h ok [(0,.o (.V v0)),(1,.o (.A b1)),(2,.o (.A b2)),(3,.o (.A b3))] rfl rfl (by kernel_rfl)
theorem PC (h : ∃ l9 : Nat,v0 = .func (.yield l9) #[] #[] ∧ IE prog l9 #[.int .i64 x5] σ (AA R (CB fun t9 y => Bo t9 (LI .i64 y b2 0 fun x11 => LI .i64 y b3 0 fun x12 => AI (x12 - x5) ∧ Br (x11 ≤ (x12 - x5)) (LI .i64 y b2 0 fun R9 => AI (x5 + R9) ∧ cD R v0 b2 b3 (x5 + R9) y) (R (.returned (.tuple #[])) y)) (R (.returned (.tuple #[])) y)))) : cD R v0 b2 b3 x5 σ := M.of h ok rfl
end CP
namespace Ex
variable {p0 p3 Q6 : Option Addr} {n0 c0 n3 c3 n10 Np : Nat} {x11 x12 : Int}
def M : Fw := ⟨prog,72,f72,[107,108],[5],false,[],[],[(232,[(3,wL),(10,wL),(11,wI),(12,wI)])]⟩
theorem ok : M.Ok := ⟨.cons call107 (.cons call108 (AG.nil)),mixed,func72,by kernel_rfl⟩
def A7 := M.pt 0
theorem start (h : Df (IntKind.u64.wrap (n0 : Int)) fun x8 => Spec prog 107 #[.slice none 0 0,.int .u64 x8] σ (AA R (CS fun p9 n9 c9 y => A7 R p9 n9 c9 p0 n0 c0 (n0 : Int) 0 y))) : Spec prog 72 #[.slice p0 n0 c0] σ R := M.start h ok
theorem Aa (h : Br (x12 < x11) (Pq Q6 fun BO Nc => In x12 (n10 : Int) ∧ ∃ AGR AGS,Aw σ BO (Nc + Int.toNat x12 * 2) [.string AGR,.string AGS] ∧ ∀ b5 : Nat,Spec prog 108 #[.slice p3 n3 c3,.string AGR] σ (AA R (CS fun p19 n19 c19 y => Spec prog 108 #[.slice p19 n19 c19,.string AGS] y (AA R (CS fun Uz n22 UB AF => AI (x12 + 1) ∧ A7 R Uz n22 UB (aD BO Nc) n10 Np x11 (x12 + 1) AF))))) (R (.returned (.slice p3 n3 c3)) σ)) : A7 R p3 n3 c3 Q6 n10 Np x11 x12 σ := M.of h ok rfl
end Ex
namespace HC
variable {p0 p6 : Option Addr} {n0 c0 n6 c6 : Nat} {x3 x7 x8 : Int}
def M : Fw := ⟨prog,77,f77,[],[],false,[],[],[(232,[(3,wI),(6,wL),(7,wI),(8,wI)])]⟩
theorem ok : M.Ok := ⟨AG.nil,mixed,func77,by kernel_rfl⟩
def A7 := M.pt 0
theorem start (h : A7 R 0 p0 n0 c0 (n0 : Int) 0 σ) : Spec prog 77 #[.slice p0 n0 c0] σ R := M.start h ok
theorem Aa (h : Br (x8 < x7) (Pq p6 fun Cj iL => In x8 (n6 : Int) ∧ LI .i64 σ Cj (iL + Int.toNat x8 * 1) fun x11 => Br (x11 ≠ x3) (R (.returned (.int .i64 x11)) σ) (AI (x8 + 1) ∧ A7 R x3 (aD Cj iL) n6 c6 x7 (x8 + 1) σ)) (R (.returned (.int .i64 x3)) σ)) : A7 R x3 p6 n6 c6 x7 x8 σ := M.of h ok rfl
end HC
namespace Ey
variable {q0 Dx D5 p2 : Option Addr} {Dq Cb Dr Dy DF Cd : Int} {Dt : ByteArray} {Dz D0 D1 D6 n2 c2 : Nat} {DG : Bool}
def M : Fw := ⟨prog,85,f85,[],[4],false,[],[],[]⟩
theorem ok : M.Ok := ⟨AG.nil,mixed,func85,by kernel_rfl⟩
theorem start (h : ∀ b4 : Nat,Pq p2 fun b9 o9 => In 0 (n2 : Int) ∧ LI .i64 σ b9 o9 fun x11 => Br (x11 = 3) (R (.returned (.tuple #[.int .i64 0,.int .i64 191])) σ) (In 0 (n2 : Int) ∧ LI .i64 σ b9 o9 fun x16 => R (.returned (.tuple #[.int .i64 x16,.int .i64 0])) σ)) : Spec prog 85 #[.pointer q0,.agg #[.int .i64 Dq,.int .i64 Cb,.string Dt,.slice Dx Dz D0,.int .i64 Dr,.int .i64 Dy,.int .i64 DF,.slice D5 D1 D6,.bool DG,.int .i64 Cd],.slice p2 n2 c2] σ R := M.start h ok
end Ey
namespace Gr
variable {s0 : ByteArray} {x3 : Int}
def M : Fw := ⟨prog,87,f87,[],[],false,[],[],[(464,[(0,wT),(3,wI)])]⟩
theorem ok : M.Ok := ⟨AG.nil,mixed,func87,by kernel_rfl⟩
def BE := M.pt 0
theorem start (h : Br ((((ByteArray.size s0 : Nat) : Int) : Int) < 1) (R (.returned (.bool false)) σ) (Br ((64 : Int) < ((ByteArray.size s0 : Nat) : Int)) (R (.returned (.bool false)) σ) (∃ u15 : UInt8,(0 : Int) ≤ 0 ∧ (ByteArray.data s0)[Int.toNat 0]? = some u15 ∧ Br ((48 : Int) ≤ ((UInt8.toNat u15 : Nat) : Int)) (∃ u19 : UInt8,(0 : Int) ≤ 0 ∧ (ByteArray.data s0)[Int.toNat 0]? = some u19 ∧ Br ((((UInt8.toNat u19 : Nat) : Int) : Int) ≤ 57) (R (.returned (.bool false)) σ) (BE R s0 0 σ)) (BE R s0 0 σ)))) : Spec prog 87 #[.string s0] σ R := M.start h ok
theorem Bz (h : Br (x3 < ((ByteArray.size s0 : Nat) : Int)) (∃ MY : UInt8,0 ≤ x3 ∧ (ByteArray.data s0)[Int.toNat x3]? = some MY ∧ Br ((65 : Int) ≤ ((UInt8.toNat MY : Nat) : Int)) (Br ((((UInt8.toNat MY : Nat) : Int) : Int) ≤ 90) (AI (x3 + 1) ∧ BE R s0 (x3 + 1) σ) (Br ((97 : Int) ≤ ((UInt8.toNat MY : Nat) : Int)) (Br ((((UInt8.toNat MY : Nat) : Int) : Int) ≤ 122) (AI (x3 + 1) ∧ BE R s0 (x3 + 1) σ) (Br ((48 : Int) ≤ ((UInt8.toNat MY : Nat) : Int)) (Br ((((UInt8.toNat MY : Nat) : Int) : Int) ≤ 57) (AI (x3 + 1) ∧ BE R s0 (x3 + 1) σ) (Bm ((((UInt8.toNat MY : Nat) : Int) : Int) = 95) (R (.returned (.bool false)) σ) (AI (x3 + 1) ∧ BE R s0 (x3 + 1) σ))) (Bm ((((UInt8.toNat MY : Nat) : Int) : Int) = 95) (R (.returned (.bool false)) σ) (AI (x3 + 1) ∧ BE R s0 (x3 + 1) σ)))) (Br ((48 : Int) ≤ ((UInt8.toNat MY : Nat) : Int)) (Br ((((UInt8.toNat MY : Nat) : Int) : Int) ≤ 57) (AI (x3 + 1) ∧ BE R s0 (x3 + 1) σ) (Bm ((((UInt8.toNat MY : Nat) : Int) : Int) = 95) (R (.returned (.bool false)) σ) (AI (x3 + 1) ∧ BE R s0 (x3 + 1) σ))) (Bm ((((UInt8.toNat MY : Nat) : Int) : Int) = 95) (R (.returned (.bool false)) σ) (AI (x3 + 1) ∧ BE R s0 (x3 + 1) σ))))) (Br ((97 : Int) ≤ ((UInt8.toNat MY : Nat) : Int)) (Br ((((UInt8.toNat MY : Nat) : Int) : Int) ≤ 122) (AI (x3 + 1) ∧ BE R s0 (x3 + 1) σ) (Br ((48 : Int) ≤ ((UInt8.toNat MY : Nat) : Int)) (Br ((((UInt8.toNat MY : Nat) : Int) : Int) ≤ 57) (AI (x3 + 1) ∧ BE R s0 (x3 + 1) σ) (Bm ((((UInt8.toNat MY : Nat) : Int) : Int) = 95) (R (.returned (.bool false)) σ) (AI (x3 + 1) ∧ BE R s0 (x3 + 1) σ))) (Bm ((((UInt8.toNat MY : Nat) : Int) : Int) = 95) (R (.returned (.bool false)) σ) (AI (x3 + 1) ∧ BE R s0 (x3 + 1) σ)))) (Br ((48 : Int) ≤ ((UInt8.toNat MY : Nat) : Int)) (Br ((((UInt8.toNat MY : Nat) : Int) : Int) ≤ 57) (AI (x3 + 1) ∧ BE R s0 (x3 + 1) σ) (Bm ((((UInt8.toNat MY : Nat) : Int) : Int) = 95) (R (.returned (.bool false)) σ) (AI (x3 + 1) ∧ BE R s0 (x3 + 1) σ))) (Bm ((((UInt8.toNat MY : Nat) : Int) : Int) = 95) (R (.returned (.bool false)) σ) (AI (x3 + 1) ∧ BE R s0 (x3 + 1) σ))))) (R (.returned (.bool true)) σ)) : BE R s0 x3 σ := M.of h ok rfl
end Gr
namespace TC
variable {s0 : ByteArray}
def M : Fw := ⟨prog,94,f94,[131,132],[],false,[],[],[]⟩
theorem ok : M.Ok := ⟨.cons call131 (.cons call132 (AG.nil)),mixed,func94,by kernel_rfl⟩
theorem start (h : Spec prog 131 #[.string s0] σ (AA R (CI .i64 fun x6 y => Br (x6 = 0) (R (.returned (.bool false)) y) (∃ s12,YF prog (Instr.sliceAt 9 (.string s0) none (some (.int .i64 x6)) none) y (.string s12) ∧ Spec prog 132 #[.string s12] y (AA R (CB fun t13 AF => Bo t13 (R (.returned (.bool false)) AF) (Br (x6 = ((ByteArray.size s0 : Nat) : Int)) (R (.returned (.bool (decide (x6 ≤ 15)))) AF) (AI (x6 + 1) ∧ ∃ s24,YF prog (Instr.sliceAt 9 (.string s0) (some (.int .i64 (x6 + 1))) none none) AF (.string s24) ∧ Spec prog 131 #[.string s24] AF (AA R (CI .i64 fun P3 AH => ∃ u28 : UInt8,0 ≤ x6 ∧ (ByteArray.data s0)[Int.toNat x6]? = some u28 ∧ Br ((((UInt8.toNat u28 : Nat) : Int) : Int) = 46) (Br (0 < P3) (AI (x6 + 1) ∧ AI ((x6 + 1) + P3) ∧ Br ((((x6 + 1) + P3) : Int) = ((ByteArray.size s0 : Nat) : Int)) (AI (x6 + P3) ∧ R (.returned (.bool (decide (((x6 + P3) : Int) ≤ 15)))) AH) (R (.returned (.bool false)) AH)) (R (.returned (.bool false)) AH)) (R (.returned (.bool false)) AH))))))))))) : Spec prog 94 #[.string s0] σ R := M.start h ok
end TC
namespace AO
variable {q0 Dx D5 p2 Gk H5 HR GJ p9 Uz aL p79 Yo cE q13 : Option Addr} {Dq Cb Dr Dy DF Cd GF Fm H6 GQ H7 Ir GH GI EI IM x80 x81 Qc : Int} {Dt He : ByteArray} {Dz D0 D1 D6 n2 c2 Gm Gn H8 H9 HS HT GK GL n9 c9 n22 UB n15 V6 n79 c79 Yp Yq n12 aP : Nat} {DG Is : Bool} {m8 : Option Nat} {q9 : Value}
def M : Fw := ⟨prog,104,f104,[49,146,148,149,150],[4,6,11],false,[(17,11,false)],[],[(488,[(4,.X 36 [.I .i64,.I .i64,.T,.L,.I .i64,.I .i64,.I .i64,.L,.B,.I .i64]),(6,.X 93 [.I .i64,.I .u64,.L,.L]),(8,wM),(9,wL),(22,wL),(23,wI),(24,wI)]),(4072,[(6,.X 93 [.I .i64,.I .u64,.L,.L]),(14,wV),(15,wL),(79,wL),(80,wI),(81,wI)]),(62670,[(4,.X 36 [.I .i64,.I .i64,.T,.L,.I .i64,.I .i64,.I .i64,.L,.B,.I .i64]),(6,.X 93 [.I .i64,.I .u64,.L,.L]),(8,wM),(9,wL),(11,.X 71 [.L,.I .u64]),(12,wL),(22,wL),(23,wI),(24,wI)]),(125343,[(4,.X 36 [.I .i64,.I .i64,.T,.L,.I .i64,.I .i64,.I .i64,.L,.B,.I .i64]),(6,.X 93 [.I .i64,.I .u64,.L,.L]),(8,wM),(9,wL),(11,.X 71 [.L,.I .u64]),(13,wQ),(22,wL),(23,wI),(24,wI)])]⟩
theorem ok : M.Ok := ⟨.cons call49 (.cons call146 (.cons call148 (.cons call149 (.cons call150 (AG.nil))))),mixed,func104,by kernel_rfl⟩
def FG := M.pt 0
def tQ := M.pt 1
def J4 := M.pt 2
def nT := M.pt 3
theorem start (h : ∀ b4 : Nat,∀ b6 : Nat,AK prog (Instr.makeMap 197 none) σ (fun z y => ∃ m18,z = (.map (some m18)) ∧ Pq p2 fun Yc o20 => In 0 (n2 : Int) ∧ LS y Yc (o20 + 2) fun Uz n22 UB => FG R Dq Cb Dt Dx Dz D0 Dr Dy DF D5 D1 D6 DG Cd 0 0 none 0 0 none 0 0 (some m18) none 0 0 Uz n22 UB (n22 : Int) 0 y)) : Spec prog 104 #[.pointer q0,.agg #[.int .i64 Dq,.int .i64 Cb,.string Dt,.slice Dx Dz D0,.int .i64 Dr,.int .i64 Dy,.int .i64 DF,.slice D5 D1 D6,.bool DG,.int .i64 Cd],.slice p2 n2 c2] σ R := M.start h ok
theorem Ff (h : Br (IM < EI) (Pq Uz fun Q9 S1 => In IM (n22 : Int) ∧ ∃ M0 MQ M1 YR,Aw σ Q9 (S1 + Int.toNat IM * 2) [.slice M0 MQ M1,.int .u64 YR] ∧ ∀ BG : Nat,Br (H7 = 1) (Spec prog 149 #[.slice M0 MQ M1,.slice H5 H8 H9] σ (AA R (CS fun p36 n36 c36 y => J4 R GF Fm He Gk Gm Gn H6 GQ H7 H5 H8 H9 Is Ir GH GI HR HS HT GJ GK GL m8 p9 n9 c9 M0 MQ M1 YR p36 n36 c36 (aD Q9 S1) n22 UB EI IM y))) (Br (H7 = 2) (Spec prog 150 #[.slice M0 MQ M1,.slice H5 H8 H9] σ (AA R (CS fun jt n43 ju y => Spec prog 146 #[.slice jt n43 ju] y (AA R (CS fun sU n44 vx AF => J4 R GF Fm He Gk Gm Gn H6 GQ H7 H5 H8 H9 Is Ir GH GI HR HS HT GJ GK GL m8 p9 n9 c9 M0 MQ M1 YR sU n44 vx (aD Q9 S1) n22 UB EI IM AF))))) (J4 R GF Fm He Gk Gm Gn H6 GQ H7 H5 H8 H9 Is Ir GH GI HR HS HT GJ GK GL m8 p9 n9 c9 M0 MQ M1 YR none 0 0 (aD Q9 S1) n22 UB EI IM σ))) (AK prog (Instr.makeMap 202 none) σ (fun z y => ∃ bm,z = (.map (some bm)) ∧ AK prog (Instr.mapUpdate 202 (.map (some bm)) (.int .i64 1) (.func (.func 151) #[] #[])) y (fun _ AF => AK prog (Instr.mapUpdate 202 (.map (some bm)) (.int .i64 2) (.func (.func 152) #[] #[])) AF (fun _ AH => AK prog (Instr.mapUpdate 202 (.map (some bm)) (.int .i64 3) (.func (.func 153) #[] #[])) AH (fun _ Ab => AK prog (Instr.mapUpdate 202 (.map (some bm)) (.int .i64 4) (.func (.func 154) #[] #[])) Ab (fun _ C4 => AK prog (Instr.mapUpdate 202 (.map (some bm)) (.int .i64 5) (.func (.func 155) #[] #[])) C4 (fun _ FE => AK prog (Instr.lookup 202 (.map (some bm)) (.int .i64 Fm) false) FE (fun z G4 => ∃ v78,v78 = z ∧ tQ R GH GI HR HS HT GJ GK GL v78 none 0 0 p9 n9 c9 (n9 : Int) 0 G4))))))))) : FG R GF Fm He Gk Gm Gn H6 GQ H7 H5 H8 H9 Is Ir GH GI HR HS HT GJ GK GL m8 p9 n9 c9 Uz n22 UB EI IM σ := M.gk h ok rfl fun _ _ => by kernel_rfl
theorem fO (h : Br (x81 < x80) (Pq p79 fun b83 o83 => In x81 (n79 : Int) ∧ LQ σ b83 (o83 + Int.toNat x81 * 1) fun q84 => Pq q84 fun b87 o87 => LS σ b87 o87 fun p89 n89 c89 => LS σ b87 (o87 + 1) fun sG sH sI => ∃ (f95 : Nat) (Y8 Y9 : Array Value),q9 = .func (.func f95) Y8 Y9 ∧ Enters prog f95 ∧ Spec prog f95 (Y8 ++ #[.slice sG sH sI] ++ Y9) σ (AA R (CI .u64 fun zU y => Kp [b87] σ y ∧ Al y fun b97 => AK prog (Builtin.append_ #[67,67] 67 #[.slice aL n15 V6,(.slice (aD b97 0) 1 1)]) (Hp.set y b97 (.cells #[.slice p89 n89 c89,.int .u64 zU] 71 (0,0))) (CS fun p98 n98 c98 AF => AI (x81 + 1) ∧ tQ R GH GI HR HS HT GJ GK GL q9 p98 n98 c98 (aD b83 o83) n79 c79 x80 (x81 + 1) AF)))) (Spec prog 148 #[.slice aL n15 V6] σ (AA R (fun z y => ∃ nU nW nX nY nZ na nc ng xF,z = (.tuple #[.agg #[.int .i64 nU,.int .u64 nW,.slice nX nY nZ,.slice na nc ng],.int .i64 xF]) ∧ R (.returned (.tuple #[.agg #[.int .i64 nU,.int .u64 nW,.slice nX nY nZ,.slice na nc ng],.int .i64 xF])) y)))) : tQ R GH GI HR HS HT GJ GK GL q9 aL n15 V6 p79 n79 c79 x80 x81 σ := M.jj h ok rfl fun _ => by kernel_rfl
theorem Ls (h : Spec prog 49 #[.slice cE n12 aP] σ (AA R (CT fun s47 y => AK prog (Instr.lookup 197 (.map m8) (.string s47) false) y (CQ fun q48 AF => Bo (Option.isNone q48) (Al AF fun O8 => Spec prog 49 #[.slice cE n12 aP] (Hp.set AF O8 (.cells #[.slice cE n12 aP,.slice none 0 0] 189 (0,0))) (AA R (CT fun s56 AH => AK prog (Instr.mapUpdate 197 (.map m8) (.string s56) (.pointer (aD O8 0))) AH (fun _ Ab => Al Ab fun tP => AK prog (Builtin.append_ #[198,198] 198 #[.slice p9 n9 c9,(.slice (aD tP 0) 1 1)]) (Hp.set Ab tP (.cells #[(.pointer (aD O8 0))] 200 (0,0))) (CS fun p61 n61 c61 C4 => nT R GF Fm He Gk Gm Gn H6 GQ H7 H5 H8 H9 Is Ir GH GI HR HS HT GJ GK GL m8 p61 n61 c61 Yo Yp Yq Qc (aD O8 0) Uz n22 UB EI IM C4))))) (nT R GF Fm He Gk Gm Gn H6 GQ H7 H5 H8 H9 Is Ir GH GI HR HS HT GJ GK GL m8 p9 n9 c9 Yo Yp Yq Qc q48 Uz n22 UB EI IM AF))))) : J4 R GF Fm He Gk Gm Gn H6 GQ H7 H5 H8 H9 Is Ir GH GI HR HS HT GJ GK GL m8 p9 n9 c9 Yo Yp Yq Qc cE n12 aP Uz n22 UB EI IM σ := M.of3 h ok rfl fun _ _ _ => by kernel_rfl
theorem tR (h : Pq q13 fun b64 o64 => LS σ b64 (o64 + 1) fun qs lR ey => Al σ fun b69 => AK prog (Builtin.append_ #[187,187] 187 #[.slice qs lR ey,(.slice (aD b69 0) 1 1)]) (Hp.set σ b69 (.cells #[.int .u64 Qc] 48 (0,0))) (CS fun p70 n70 c70 y => AK prog (Instr.storeAt 187 (.pointer (aD b64 (o64 + 1))) (.slice p70 n70 c70)) y (fun _ AF => AI (IM + 1) ∧ FG R GF Fm He Gk Gm Gn H6 GQ H7 H5 H8 H9 Is Ir GH GI HR HS HT GJ GK GL m8 p9 n9 c9 Uz n22 UB EI (IM + 1) AF))) : nT R GF Fm He Gk Gm Gn H6 GQ H7 H5 H8 H9 Is Ir GH GI HR HS HT GJ GK GL m8 p9 n9 c9 Yo Yp Yq Qc q13 Uz n22 UB EI IM σ := M.of3 h ok rfl fun _ _ _ => by kernel_rfl
end AO
namespace TD
variable {FA Eg QW Nk H4 Je : Int} {QX : ByteArray} {U1 R0 : Option Addr} {UN U2 Q3 R3 : Nat} {Mz : Bool}
def M : Fw := ⟨prog,121,f121,[],[1,2],false,[(12,7,false),(15,7,false),(18,11,false),(21,15,false)],[],[]⟩
theorem ok : M.Ok := ⟨AG.nil,mixed,func121,by kernel_rfl⟩
theorem start (h : ∀ b1 : Nat,∀ b2 : Nat,Al σ fun b3 => AK prog (Instr.storeAt 36 (.pointer (aD b3 0)) (.agg #[.int .i64 FA,.int .i64 0,(.string (ByteArray.mk #[])),.slice none 0 0,.int .i64 0,.int .i64 0,.int .i64 0,.slice none 0 0,.bool false,.int .i64 0])) (Hp.set σ b3 (.cells #[.int .i64 0,.int .i64 0,(.string (ByteArray.mk #[])),.slice none 0 0,.int .i64 0,.int .i64 0,.int .i64 0,.slice none 0 0,.bool false,.int .i64 0] 36 (0,0))) (fun _ y => Br (FA = 1) (AK prog (Instr.storeAt 9 (.pointer (aD b3 2)) (.string QX)) y (fun _ AF => ∃ Yf cG cH nh ni nj nk nq nr nu nw nz oA oB,Aw AF b3 0 [.int .i64 Yf,.int .i64 cG,.string cH,.slice nh ni nj,.int .i64 nk,.int .i64 nq,.int .i64 nr,.slice nu nw nz,.bool oA,.int .i64 oB] ∧ R (.returned (.agg #[.int .i64 Yf,.int .i64 cG,.string cH,.slice nh ni nj,.int .i64 nk,.int .i64 nq,.int .i64 nr,.slice nu nw nz,.bool oA,.int .i64 oB])) AF)) (Br (FA = 2) (AK prog (Instr.storeAt 2 (.pointer (aD b3 5)) (.int .i64 Nk)) y (fun _ AF => ∃ iO WY AGU AGV AGW AGX AGY AGZ AGa AGb AGc AGd AGe AGf,Aw AF b3 0 [.int .i64 iO,.int .i64 WY,.string AGU,.slice AGV AGW AGX,.int .i64 AGY,.int .i64 AGZ,.int .i64 AGa,.slice AGb AGc AGd,.bool AGe,.int .i64 AGf] ∧ R (.returned (.agg #[.int .i64 iO,.int .i64 WY,.string AGU,.slice AGV AGW AGX,.int .i64 AGY,.int .i64 AGZ,.int .i64 AGa,.slice AGb AGc AGd,.bool AGe,.int .i64 AGf])) AF)) (Br (FA = 3) (AK prog (Instr.storeAt 2 (.pointer (aD b3 4)) (.int .i64 QW)) y (fun _ AF => AK prog (Instr.storeAt 2 (.pointer (aD b3 5)) (.int .i64 Nk)) AF (fun _ AH => ∃ YZ AGg AGh AGi AGj AGk AGl AGm AGn AGo AGp AGq AGr AGs,Aw AH b3 0 [.int .i64 YZ,.int .i64 AGg,.string AGh,.slice AGi AGj AGk,.int .i64 AGl,.int .i64 AGm,.int .i64 AGn,.slice AGo AGp AGq,.bool AGr,.int .i64 AGs] ∧ R (.returned (.agg #[.int .i64 YZ,.int .i64 AGg,.string AGh,.slice AGi AGj AGk,.int .i64 AGl,.int .i64 AGm,.int .i64 AGn,.slice AGo AGp AGq,.bool AGr,.int .i64 AGs])) AH))) (Br (FA = 4) (AK prog (Instr.storeAt 3 (.pointer (aD b3 1)) (.int .i64 Eg)) y (fun _ AF => AK prog (Instr.storeAt 3 (.pointer (aD b3 9)) (.int .i64 Je)) AF (fun _ AH => ∃ AGt AGu AGv AGw AGx AGy AGz AG0 AG1 AG2 AG3 AG4 AG5 AG6,Aw AH b3 0 [.int .i64 AGt,.int .i64 AGu,.string AGv,.slice AGw AGx AGy,.int .i64 AGz,.int .i64 AG0,.int .i64 AG1,.slice AG2 AG3 AG4,.bool AG5,.int .i64 AG6] ∧ R (.returned (.agg #[.int .i64 AGt,.int .i64 AGu,.string AGv,.slice AGw AGx AGy,.int .i64 AGz,.int .i64 AG0,.int .i64 AG1,.slice AG2 AG3 AG4,.bool AG5,.int .i64 AG6])) AH))) (Br (FA = 5) (AK prog (Instr.storeAt 3 (.pointer (aD b3 1)) (.int .i64 Eg)) y (fun _ AF => AK prog (Instr.storeAt 3 (.pointer (aD b3 9)) (.int .i64 Je)) AF (fun _ AH => AK prog (Instr.storeAt 3 (.pointer (aD b3 6)) (.int .i64 H4)) AH (fun _ Ab => ∃ YT YU mO YV YW YX mP mQ mR mS mT mU mV mW,Aw Ab b3 0 [.int .i64 YT,.int .i64 YU,.string mO,.slice YV YW YX,.int .i64 mP,.int .i64 mQ,.int .i64 mR,.slice mS mT mU,.bool mV,.int .i64 mW] ∧ R (.returned (.agg #[.int .i64 YT,.int .i64 YU,.string mO,.slice YV YW YX,.int .i64 mP,.int .i64 mQ,.int .i64 mR,.slice mS mT mU,.bool mV,.int .i64 mW])) Ab)))) (Br (FA = 6) (AK prog (Instr.storeAt 3 (.pointer (aD b3 1)) (.int .i64 Eg)) y (fun _ AF => AK prog (Instr.storeAt 3 (.pointer (aD b3 9)) (.int .i64 Je)) AF (fun _ AH => AK prog (Instr.storeAt 4 (.pointer (aD b3 8)) (.bool Mz)) AH (fun _ Ab => AK prog (Instr.storeAt 3 (.pointer (aD b3 6)) (.int .i64 H4)) Ab (fun _ C4 => ∃ Ys Yt Yu Yv Yw Yx Yy Yz Y0 Y1 Y2 Y3 Y4 Y5,Aw C4 b3 0 [.int .i64 Ys,.int .i64 Yt,.string Yu,.slice Yv Yw Yx,.int .i64 Yy,.int .i64 Yz,.int .i64 Y0,.slice Y1 Y2 Y3,.bool Y4,.int .i64 Y5] ∧ R (.returned (.agg #[.int .i64 Ys,.int .i64 Yt,.string Yu,.slice Yv Yw Yx,.int .i64 Yy,.int .i64 Yz,.int .i64 Y0,.slice Y1 Y2 Y3,.bool Y4,.int .i64 Y5])) C4))))) (AK prog (Instr.storeAt 3 (.pointer (aD b3 9)) (.int .i64 Je)) y (fun _ AF => ∃ AG7 mN AG8 AG9 AHA AHB AHC AHD AHE AHF AHG AHH AHI AHJ,Aw AF b3 0 [.int .i64 AG7,.int .i64 mN,.string AG8,.slice AG9 AHA AHB,.int .i64 AHC,.int .i64 AHD,.int .i64 AHE,.slice AHF AHG AHH,.bool AHI,.int .i64 AHJ] ∧ R (.returned (.agg #[.int .i64 AG7,.int .i64 mN,.string AG8,.slice AG9 AHA AHB,.int .i64 AHC,.int .i64 AHD,.int .i64 AHE,.slice AHF AHG AHH,.bool AHI,.int .i64 AHJ])) AF))))))))) : Spec prog 121 #[.agg #[.int .i64 FA,.int .i64 Eg,.string QX,.slice U1 UN U2,.int .i64 QW,.int .i64 Nk,.int .i64 H4,.slice R0 Q3 R3,.bool Mz,.int .i64 Je]] σ R := M.start h ok
end TD
namespace Dg
variable {p0 p7 : Option Addr} {n0 c0 n7 c7 : Nat} {s1 : ByteArray} {x8 x9 : Int}
def M : Fw := ⟨prog,133,f133,[],[],false,[],[],[(104,[(1,wT),(7,wL),(8,wI),(9,wI)])]⟩
theorem ok : M.Ok := ⟨AG.nil,mixed,func133,by kernel_rfl⟩
def H3 := M.pt 0
theorem start (h : H3 R s1 p0 n0 c0 (n0 : Int) 0 σ) : Spec prog 133 #[.slice p0 n0 c0,.string s1] σ R := M.start h ok
theorem Bp (h : Br (x9 < x8) (Pq p7 fun Pu QV => In x9 (n7 : Int) ∧ LT σ Pu (QV + Int.toNat x9 * 1) fun zG => Bo (ByteArray.toList zG == ByteArray.toList s1) (Bn ((ByteArray.toList s1 == ByteArray.toList (ByteArray.mk #[]))) (R (.returned (.int .i64 x9)) σ) (AI (x9 + 1) ∧ H3 R s1 (aD Pu QV) n7 c7 x8 (x9 + 1) σ)) (AI (x9 + 1) ∧ H3 R s1 (aD Pu QV) n7 c7 x8 (x9 + 1) σ)) (R (.returned (.int .i64 0)) σ)) : H3 R s1 p7 n7 c7 x8 x9 σ := M.of h ok rfl
end Dg
namespace Jn
variable {q0 : Option Addr}
def M : Fw := ⟨prog,135,f135,[],[2,3],false,[],[],[]⟩
theorem ok : M.Ok := ⟨AG.nil,mixed,func135,by kernel_rfl⟩
theorem start (h : ∀ b2 : Nat,Pq q0 fun b5 o5 => LS σ b5 o5 fun p7 n7 c7 => Pq p7 fun b8 o8 => In 0 (n7 : Int) ∧ ∃ x9a x9b s9c x9d,Aw σ b8 o8 [.int .i64 x9a,.int .i64 x9b,.string s9c,.int .i64 x9d] ∧ ∀ b3 : Nat,LS σ b5 o5 fun Jf n14 Hd => ((0 : Int) ≤ 1 ∧ 1 ≤ (n14 : Int)) ∧ AK prog (Instr.storeAt 121 (.pointer (aD b5 o5)) (.slice (Ip Jf (1) Hd 4) (n14 - 1) (Hd - 1))) σ (fun _ y => R (.returned (.agg #[.int .i64 x9a,.int .i64 x9b,.string s9c,.int .i64 x9d])) y)) : Spec prog 135 #[.pointer q0] σ R := M.start h ok
end Jn
namespace TE
variable {x0 : Int}
def M : Fw := ⟨prog,143,f143,[],[],false,[],[],[]⟩
theorem ok : M.Ok := ⟨AG.nil,mixed,func143,by kernel_rfl⟩
theorem start (h : AK prog (convert 2 51 (.int .i64 x0)) σ (fun z y => ∃ x4,(Value.float .f64 x4) = z ∧ EN prog 45 #[(Value.float .f64 x4)] y (CI .u64 fun x5 AF => R (.returned (.int .u64 x5)) AF))) : Spec prog 143 #[.int .i64 x0] σ R := M.start h ok
end TE
namespace LL
def M : Fw := ⟨prog,147,f147,[184,188],[],false,[],[],[]⟩
theorem ok : M.Ok := ⟨.cons call184 (.cons call188 (AG.nil)),mixed,func147,by kernel_rfl⟩
theorem start (h : Spec prog 184 #[(.func (.func 151) #[] #[])] σ (AA R (fun z y => ∃ f1 a1 c1,(Value.func f1 a1 c1) = z ∧ Spec prog 184 #[(.func (.func 154) #[] #[])] y (AA R (fun z AF => ∃ f2 a2 c2,(Value.func f2 a2 c2) = z ∧ Spec prog 184 #[(.func (.func 152) #[] #[])] AF (AA R (fun z AH => ∃ f3 a3 c3,(Value.func f3 a3 c3) = z ∧ Spec prog 184 #[(.func (.func 153) #[] #[])] AH (AA R (fun z Ab => ∃ f4 a4 c4,(Value.func f4 a4 c4) = z ∧ Spec prog 184 #[(.func (.func 155) #[] #[])] Ab (AA R (fun z C4 => ∃ f5 a5 c5,(Value.func f5 a5 c5) = z ∧ Spec prog 184 #[(.func (.func 185) #[] #[])] C4 (AA R (fun z FE => ∃ f6 a6 c6,(Value.func f6 a6 c6) = z ∧ Spec prog 184 #[(.func (.func 187) #[] #[])] FE (AA R (fun z G4 => ∃ f7 a7 c7,(Value.func f7 a7 c7) = z ∧ Spec prog 188 #[(.func (.func 189) #[] #[])] G4 (AA R (fun z NS => ∃ f8 a8 c8,(Value.func f8 a8 c8) = z ∧ Spec prog 188 #[(.func (.func 191) #[] #[])] NS (AA R (fun z WC => ∃ f9 a9 c9,(Value.func f9 a9 c9) = z ∧ Spec prog 188 #[(.func (.func 193) #[] #[])] WC (AA R (fun z MO => ∃ f10 a10 Np,(Value.func f10 a10 Np) = z ∧ Al MO fun BG => R (.returned (.slice (aD BG 0) 11 11)) (Hp.set MO BG (.cells #[.nilFunc,(Value.func f10 a10 Np),(Value.func f9 a9 c9),(Value.func f8 a8 c8),(Value.func f1 a1 c1),(Value.func f2 a2 c2),(Value.func f3 a3 c3),(Value.func f4 a4 c4),(Value.func f5 a5 c5),(Value.func f6 a6 c6),(Value.func f7 a7 c7)] 195 (0,0)))))))))))))))))))))))) : Spec prog 147 #[] σ R := M.start h ok
end LL
namespace Mf
variable {p0 p1 : Option Addr} {n0 c0 n1 c1 : Nat}
def M : Fw := ⟨prog,150,f150,[197],[],false,[],[],[]⟩
theorem ok : M.Ok := ⟨.cons call197 (AG.nil),mixed,func150,by kernel_rfl⟩
theorem start (h : Al σ fun b3 => Spec prog 197 #[.slice p0 n0 c0,(.func (.func 200) #[] #[(.pointer (aD b3 0))])] (Hp.set σ b3 (.cells #[.slice p1 n1 c1] 34 (0,0))) (AA R (CS fun p7 n7 c7 y => R (.returned (.slice p7 n7 c7)) y))) : Spec prog 150 #[.slice p0 n0 c0,.slice p1 n1 c1] σ R := M.start h ok
end Mf
namespace P6
variable {x0 : Int}
def M : Fw := ⟨prog,162,f162,[186],[],false,[],[],[]⟩
theorem ok : M.Ok := ⟨.cons call186 (AG.nil),mixed,func162,by kernel_rfl⟩
theorem start (h : Df (Go.bits .xor .u64 x0 9223372036854775808) fun x4 => Spec prog 186 #[.int .u64 x4] σ (AA R (CI .u64 fun x5 y => R (.returned (.int .u64 x5)) y))) : Spec prog 162 #[.int .u64 x0] σ R := M.start h ok
end P6
namespace Mg
variable {FA Eg x1 : Int}
def M : Fw := ⟨prog,176,f176,[],[2],false,[],[],[]⟩
theorem ok : M.Ok := ⟨AG.nil,mixed,func176,by kernel_rfl⟩
theorem start (h : ∀ b2 : Nat,Br (FA ≤ x1) (R (.returned (.int .i64 (-1))) σ) (R (.returned (.int .i64 1)) σ)) : Spec prog 176 #[.agg #[.int .i64 FA,.int .u64 Eg],.int .i64 x1] σ R := M.start h ok
end Mg
namespace TF
variable {v0 : Value}
def M : Fw := ⟨prog,183,f183,[],[],false,[],[],[]⟩
theorem ok : M.Ok := ⟨AG.nil,mixed,func183,by kernel_rfl⟩
theorem start (h : EN prog 222 #[v0] σ (fun z y => ∃ x4,(Value.float .f64 x4) = z ∧ R (.returned (Value.float .f64 x4)) y)) : Spec prog 183 #[v0] σ R := M.EF h ok [(0,.o (.V v0))] rfl rfl (by kernel_rfl)
end TF
namespace Dh
variable {p0 p1 : Option Addr} {n0 c0 n1 c1 : Nat}
def M : Fw := ⟨prog,193,f193,[192,194],[],false,[],[],[]⟩
theorem ok : M.Ok := ⟨.cons call192 (.cons call194 (AG.nil)),mixed,func193,by kernel_rfl⟩
theorem start (h : Pq p1 fun b8 o8 => In 0 (n1 : Int) ∧ LI .u64 σ b8 (o8 + 1) fun x10 => Spec prog 192 #[.slice p0 n0 c0] σ (AA R (CI .u64 fun x6 y => Kp [b8] σ y ∧ Spec prog 194 #[.int .u64 x6,.int .u64 x10] y (AA R (CI .u64 fun x11 AF => R (.returned (.int .u64 x11)) AF))))) : Spec prog 193 #[.slice p0 n0 c0,.slice p1 n1 c1] σ R := M.start h ok
end Dh
namespace eval_add
variable {x0 x1 : Int}
def M : Fw := ⟨prog,201,f201,[203],[],false,[],[],[]⟩
theorem ok : M.Ok := ⟨.cons call203 (AG.nil),mixed,func201,by kernel_rfl⟩
theorem start (h : Spec prog 203 #[.int .i64 1,.int .u64 x0,.int .u64 x1] σ (AA R (fun z y => ∃ I3 Rv,z = (.tuple #[.int .u64 I3,.bool Rv]) ∧ R (.returned (.int .u64 I3)) y))) : Spec prog 201 #[.int .u64 x0,.int .u64 x1] σ R := M.start h ok
end eval_add
namespace N2
variable {x0 x1 x2 : Int}
def M : Fw := ⟨prog,204,f204,[182],[],false,[],[],[]⟩
theorem ok : M.Ok := ⟨.cons call182 (AG.nil),mixed,func204,by kernel_rfl⟩
theorem start (h : Spec prog 182 #[.int .u64 x1] σ (AA R (fun z y => ∃ x11,(Value.float .f64 x11) = z ∧ Spec prog 182 #[.int .u64 x2] y (AA R (fun z AF => ∃ FI,(Value.float .f64 FI) = z ∧ Br (x0 = 5) (∃ t19,YF prog ((do eqGuard .eql 51 (.tmp 17) (.tmp 18) (Value.float .f64 x11) (Value.float .f64 FI); binOp .eql 51 (Value.float .f64 x11) (Value.float .f64 FI))) AF (.bool t19) ∧ R (.returned (.tuple #[.bool t19,.bool true])) AF) (Br (x0 = 6) (∃ t24,YF prog ((do eqGuard .neq 51 (.tmp 22) (.tmp 23) (Value.float .f64 x11) (Value.float .f64 FI); binOp .neq 51 (Value.float .f64 x11) (Value.float .f64 FI))) AF (.bool t24) ∧ R (.returned (.tuple #[.bool t24,.bool true])) AF) (Br (x0 = 7) (∃ t29,YF prog ((do eqGuard .lss 51 (.tmp 27) (.tmp 28) (Value.float .f64 x11) (Value.float .f64 FI); binOp .lss 51 (Value.float .f64 x11) (Value.float .f64 FI))) AF (.bool t29) ∧ R (.returned (.tuple #[.bool t29,.bool true])) AF) (Br (x0 = 8) (∃ t34,YF prog ((do eqGuard .leq 51 (.tmp 32) (.tmp 33) (Value.float .f64 x11) (Value.float .f64 FI); binOp .leq 51 (Value.float .f64 x11) (Value.float .f64 FI))) AF (.bool t34) ∧ R (.returned (.tuple #[.bool t34,.bool true])) AF) (Br (x0 = 9) (∃ t39,YF prog ((do eqGuard .gtr 51 (.tmp 37) (.tmp 38) (Value.float .f64 x11) (Value.float .f64 FI); binOp .gtr 51 (Value.float .f64 x11) (Value.float .f64 FI))) AF (.bool t39) ∧ R (.returned (.tuple #[.bool t39,.bool true])) AF) (Br (x0 = 10) (∃ t44,YF prog ((do eqGuard .geq 51 (.tmp 42) (.tmp 43) (Value.float .f64 x11) (Value.float .f64 FI); binOp .geq 51 (Value.float .f64 x11) (Value.float .f64 FI))) AF (.bool t44) ∧ R (.returned (.tuple #[.bool t44,.bool true])) AF) (R (.returned (.tuple #[.bool false,.bool false])) AF))))))))))) : Spec prog 204 #[.int .i64 x0,.int .u64 x1,.int .u64 x2] σ R := M.start h ok
end N2
namespace HD
variable {FA Eg QW Nk H4 Je tF x2b x2e x2f x2g x2j x11 x12 : Int} {QX s2c : ByteArray} {U1 R0 p1 p2d p2h Q6 : Option Addr} {UN U2 Q3 R3 n1 c1 n2d c2d n2h c2h n10 Np : Nat} {Mz t2i : Bool} {m6 : Option Nat}
def M : Fw := ⟨prog,206,f206,[49,207],[2,8],false,[(5,7,false)],[],[(232,[(1,wL),(2,.X 36 [.I .i64,.I .i64,.T,.L,.I .i64,.I .i64,.I .i64,.L,.B,.I .i64]),(6,wM),(10,wL),(11,wI),(12,wI)])]⟩
theorem ok : M.Ok := ⟨.cons call49 (.cons call207 (AG.nil)),mixed,func206,by kernel_rfl⟩
def A7 := M.pt 0
theorem start (h : ∀ b2 : Nat,AK prog (Instr.makeMap 243 none) σ (fun z y => ∃ m9,z = (.map (some m9)) ∧ A7 R p1 n1 c1 FA Eg QX U1 UN U2 QW Nk H4 R0 Q3 R3 Mz Je (some m9) p1 n1 c1 (n1 : Int) 0 y)) : Spec prog 206 #[.agg #[.int .i64 FA,.int .i64 Eg,.string QX,.slice U1 UN U2,.int .i64 QW,.int .i64 Nk,.int .i64 H4,.slice R0 Q3 R3,.bool Mz,.int .i64 Je],.slice p1 n1 c1] σ R := M.start h ok
theorem Aa (h : Br (x12 < x11) (Pq Q6 fun BO Nc => In x12 (n10 : Int) ∧ ∃ AAZ AAa AAb tI,Aw σ BO (Nc + Int.toNat x12 * 2) [.slice AAZ AAa AAb,.int .u64 tI] ∧ ∀ b8 : Nat,Spec prog 207 #[.agg #[.int .i64 tF,.int .i64 x2b,.string s2c,.slice p2d n2d c2d,.int .i64 x2e,.int .i64 x2f,.int .i64 x2g,.slice p2h n2h c2h,.bool t2i,.int .i64 x2j],.slice AAZ AAa AAb] σ (AA R (CS fun p20 n20 c20 y => Spec prog 49 #[.slice p20 n20 c20] y (AA R (CT fun zH AF => AK prog (Instr.mapUpdate 243 (.map m6) (.string zH) (.agg #[.slice AAZ AAa AAb,.int .u64 tI])) AF (fun _ AH => AI (x12 + 1) ∧ A7 R p1 n1 c1 tF x2b s2c p2d n2d c2d x2e x2f x2g p2h n2h c2h t2i x2j m6 (aD BO Nc) n10 Np x11 (x12 + 1) AH)))))) (∃ jv,YF prog (Builtin.len_ #[243] 3 #[.map m6]) σ (.int .i64 jv) ∧ R (.returned (.tuple #[.map m6,(.bool (decide (jv = (n1 : Int))))])) σ)) : A7 R p1 n1 c1 tF x2b s2c p2d n2d c2d x2e x2f x2g p2h n2h c2h t2i x2j m6 Q6 n10 Np x11 x12 σ := M.jj h ok rfl fun _ => by kernel_rfl
end HD
namespace EE
variable {Py : Option Addr} {Js OZ : Nat} {aM s1 : ByteArray}
def M : Fw := ⟨prog,219,f219,[236],[2],false,[],[],[]⟩
theorem ok : M.Ok := ⟨.cons call236 (AG.nil),mixed,func219,by kernel_rfl⟩
theorem start (h : ∀ b2 : Nat,Spec prog 236 #[.agg #[.slice Py Js OZ],.string s1] σ (AA R (CB fun t8 y => R (.returned (.bool t8)) y))) : Spec prog 219 #[.agg #[.slice Py Js OZ,.string aM],.string s1] σ R := M.start h ok
end EE
namespace DJ
variable {q0 : Option Addr} {b1 : Nat}
def M : Fw := ⟨prog,269,f269,[67,136,251],[],false,[],[],[(7,[(1,wA)])]⟩
theorem ok : M.Ok := ⟨.cons call67 (.cons call136 (.cons call251 (AG.nil))),mixed,func269,by kernel_rfl⟩
def H3 := M.pt 0
theorem start (h : Al σ fun b1 => LQ (Hp.set σ b1 (.cells #[.pointer q0] 124 (0,0))) b1 0 fun q2 => Spec prog 136 #[.pointer q2,.int .i64 5,(.string (ByteArray.mk #[40]))] (Hp.set σ b1 (.cells #[.pointer q0] 124 (0,0))) (AA R (CB fun t3 y => Bn t3 (LQ y b1 0 fun q5 => Spec prog 67 #[.pointer q5] y (AA R (fun z AF => z = (.tuple #[]) ∧ H3 R b1 AF))) (H3 R b1 y)))) : Spec prog 269 #[.pointer q0] σ R := M.start h ok
theorem Bp (h : LQ σ b1 0 fun q7 => Spec prog 251 #[.pointer q7,(.func (.func 294) #[] #[(.pointer (aD b1 0))])] σ (AA R (fun z y => z = (.tuple #[]) ∧ R (.returned (.tuple #[])) y))) : H3 R b1 σ := M.of h ok rfl
end DJ
end TwW
end
end
section
namespace Tw
open Go
variable [E5]
def Az (τ : Hp) : List (Nat × Obj) → Hp
 | [] => τ
 | (b,o) :: L => (Az τ L).set b o
abbrev names (L : List (Nat × Obj)) : List Nat := L.map Prod.fst
section
variable {τ : Hp} {L : List (Nat × Obj)} {b i : Nat} {o o' : Obj}
theorem IY (h : b ∉ names L) : Az τ L b = τ b := by
 induction L with
 | nil => rfl
 | cons p L ih =>
   simp only [names,List.map_cons,List.mem_cons,not_or] at h
   simp only [Az,Hp.AJ h.1]
   exact ih h.2
theorem Ez : ∀ {L : List (Nat × Obj)} {i : Nat},(names L).Nodup → L[i]? = some (b,o) → Az τ L b = some o
 | p :: L,0,_,h => by simp at h; subst h; exact Hp.AB _ _ _
 | p :: L,i + 1,hn,h => by
   simp only [List.getElem?_cons_succ] at h
   have hm : b ∈ names L := List.mem_map.2 ⟨_,List.mem_of_getElem? h,rfl⟩
   have hn := List.nodup_cons.1 (show (p.1 :: names L).Nodup from hn)
   have A6 : b ≠ p.1 := fun e => hn.1 (e ▸ hm)
   simp only [Az,Hp.AJ A6]
   exact Ez hn.2 h
theorem Hp.BQ {σ : Hp} {a b : Nat} {o u : Obj} (h : a ≠ b) : (σ.set a o).set b u = (σ.set b u).set a o := by
 funext k
 simp only [Hp.set]
 by_cases h1 : k = a
 · subst h1; simp [h]
 · simp [h1]
theorem N3 : ∀ {L : List (Nat × Obj)} {i : Nat},(names L).Nodup → L[i]? = some (b,o) → (Az τ L).set b o' = Az τ (L.set i (b,o'))
 | p :: L,0,_,h => by simp at h; subst h; exact Hp.set_set
 | p :: L,i + 1,hn,h => by
   simp only [List.getElem?_cons_succ] at h
   have hm : b ∈ names L := List.mem_map.2 ⟨_,List.mem_of_getElem? h,rfl⟩
   have hn := List.nodup_cons.1 (show (p.1 :: names L).Nodup from hn)
   have A6 : b ≠ p.1 := fun e => hn.1 (e ▸ hm)
   simp only [Az,List.set_cons_succ]
   rw [Hp.BQ (Ne.symm A6),N3 hn.2 h]
theorem HE : ∀ {L : List (Nat × Obj)},b ∉ names L → (Az τ L).set b o = Az (τ.set b o) L
 | [],_ => rfl
 | p :: L,h => by
   simp only [names,List.map_cons,List.mem_cons,not_or] at h
   simp only [Az]
   rw [Hp.BQ (Ne.symm h.1),HE h.2]
theorem VE : ∀ {L : List (Nat × Obj)},b ∈ names L → Az τ L b ≠ none
 | p :: L,h => by
   by_cases hb : b = p.1
   · subst hb; simp only [Az,Hp.AB]; simp
   · simp only [names,List.map_cons,List.mem_cons] at h
     simp only [Az,Hp.AJ hb]
     exact VE (h.resolve_left hb)
theorem CR (h : Az τ L b = none) : b ∉ names L ∧ τ b = none := by
 have hs : ∀ {L : List (Nat × Obj)},b ∉ names L → Az τ L b = τ b := IY
 have hn : b ∉ names L := fun hm => VE hm h
 exact ⟨hn,(hs hn).symm.trans h⟩
def P7 (L : List (Nat × Obj)) (τ : Hp) : Prop := ∀ b ∈ names L,τ b = none
theorem P7.ext {τ : Hp} : ∀ {L : List (Nat × Obj)},(names L).Nodup → P7 L τ → Ext τ (Az τ L)
 | [],_,_ => .refl τ
 | p :: L,hn,h => by
   have hn := List.nodup_cons.1 (show (p.1 :: names L).Nodup from hn)
   have ih := P7.ext hn.2 (fun b hb => h b (List.mem_cons_of_mem _ hb))
   refine ih.trans (.set ?_)
   rw [IY hn.1]
   exact h _ (List.mem_cons_self ..)
theorem P7.set {τ : Hp} {b : Nat} {o : Obj} (h : P7 L τ) (hb : b ∉ names L) : P7 L (τ.set b o) := fun c hc => by
 have A6 : c ≠ b := fun e => hb (e ▸ hc)
 rw [Hp.AJ A6]; exact h c hc
end
theorem Spec.E1 {P : Program} {f : FuncId} {args : Array Value} {τ : Hp} : ∀ {L : List (Nat × Obj)} {R : Rr},(names L).Nodup → P7 L τ →
   Spec P f args τ (fun e τ' => P7 L τ' → R e (Az τ' L)) → Spec P f args (Az τ L) R
 | [],R,_,_,h => h.mono fun e τ' hr => hr (fun b hb => by cases hb)
 | p :: L,R,hn,ho,h => by
   have hn := List.nodup_cons.1 (show (p.1 :: names L).Nodup from hn)
   refine Spec.Ao (by rw [IY hn.1]; exact ho _ (List.mem_cons_self ..)) ?_
   refine Spec.E1 hn.2 (fun b hb => ho b (List.mem_cons_of_mem _ hb)) (h.mono fun e τ' hr UQ GU => hr fun b hb => ?_)
   rcases List.mem_cons.1 (show b ∈ p.1 :: names L from hb) with rfl | hb
   · rw [IY hn.1] at GU; exact GU
   · exact UQ b hb
theorem AK.E1 {P : Program} {α : Type} {m : Sem α} {τ : Hp} : ∀ {L : List (Nat × Obj)} {Φ : α → Hp → Prop},(names L).Nodup → P7 L τ →
   AK P m τ (fun v τ' => P7 L τ' → Φ v (Az τ' L)) → AK P m (Az τ L) Φ
 | [],R,_,_,h => h.mono fun e τ' hr => hr (fun b hb => by cases hb)
 | p :: L,R,hn,ho,h => by
   have hn := List.nodup_cons.1 (show (p.1 :: names L).Nodup from hn)
   refine AK.Ao (by rw [IY hn.1]; exact ho _ (List.mem_cons_self ..)) ?_
   refine AK.E1 hn.2 (fun b hb => ho b (List.mem_cons_of_mem _ hb)) (h.mono fun e τ' hr UQ GU => hr fun b hb => ?_)
   rcases List.mem_cons.1 (show b ∈ p.1 :: names L from hb) with rfl | hb
   · rw [IY hn.1] at GU; exact GU
   · exact UQ b hb
theorem AK.TG {P : Program} {τ : Hp} {L : List (Nat × Obj)} {i b n o : Nat} {T t : TypeId} {c c' : Array Value} {v : Value} {Φ : Unit → Hp → Prop} (hz : ∀ w,(Go.sizeOf T).run P w = .ok n w) (hn : (names L).Nodup) (hi : L[i]? = some (b,.cells c t (0,0)))
   (hv : v.cells.size = n) (hl : Nat.ble (o + n) c.size = true) (h1 : (v.cells.toList.all fun u => u.oneCell') = true) (hc : NQ c o v.cells.toList = c') (h : Φ () (Az τ (L.set i (b,.cells c' t (0,0))))) :
   AK P (Instr.storeAt T (.pointer (some ⟨b,o,none⟩)) v) (Az τ L) Φ := by
 subst hc
 refine AK.store hz (Ez hn hi) hv (Nat.le_of_ble_eq_true hl) (fun u hu => List.all_eq_true.1 h1 u hu) ?_
 rw [N3 hn hi]; exact h
theorem ZA {τ : Hp} {L : List (Nat × Obj)} {i b o : Nat} {t : TypeId} {c : Array Value} {v : Value} (hn : (names L).Nodup) (hi : L[i]? = some (b,.cells c t (0,0))) (h : c[o]? = some v) : Hp.ld (Az τ L) ⟨b,o,none⟩ = some v := by
 simp [Hp.ld,Ez hn hi,h]
end Tw
end
section
namespace Tw
open Go Go.MapKept
variable [E5]
def RT (p : Option Addr) : List Nat := match p with
 | some a => [a.block]
 | none => []
structure Loc (A : Hp → Prop) (σ : Hp) (S : List Nat) : Prop where
 here : A σ
 known : ∀ b ∈ S,σ b ≠ none
 loc : ∀ σ',(∀ b ∈ S,σ' b = σ b) → A σ'
section
variable {P : Program} {σ : Hp} {α : Type}
theorem AK.obj {m : Sem α} {b : Nat} {o o' : Obj} {v : α} {Φ : α → Hp → Prop} (hb : σ b = some o) (hm : ∀ w,Sat σ w → ∃ w1 : World,(w1 = w ∨ w1 = w.drew) ∧ m.run P w = .ok v (ChangeMaps.setBlock w1 b o')) (h : Φ v (σ.set b o')) : AK P m σ Φ := fun w F hs hF => by
 obtain ⟨w1,hw,Cp⟩ := hm w hs
 have Ap : b < w.heap.size := (Array.getElem?_eq_some_iff.1 (hs b o hb)).1
 have NV : w1.heap = w.heap := by rcases hw with rfl | rfl <;> rfl
 refine ⟨v,_,_,Cp,h,fun k u hk => ?_,fun k hk => ?_,?_,?_,?_⟩
 · simp only [ChangeMaps.setBlock,NV]
   by_cases HZ : k = b
   · subst HZ; rw [Hp.AB] at hk; cases hk; simp [Ap]
   · rw [Hp.AJ HZ] at hk; simp [Ne.symm HZ,hs k u hk]
 · have HZ : k ≠ b := fun e => by have := (hF k hk).2; rw [e,hb] at this; cases this
   refine ⟨by rw [Hp.AJ HZ]; exact (hF k hk).2,?_⟩
   simp [ChangeMaps.setBlock,NV,Ne.symm HZ]
 · rcases hw with rfl | rfl
   · exact .same rfl rfl rfl
   · exact ⟨rfl,rfl,fun _ => ⟨1,rfl⟩⟩
 · rcases hw with rfl | rfl <;> rfl
 · simp [ChangeMaps.setBlock,NV]
theorem AK.new {m : Sem α} {o : Obj} {v : Nat → α} {Φ : α → Hp → Prop} (hm : ∀ w,Sat σ w → m.run P w = .ok (v w.heap.size) (w.alloc o)) (h : ∀ b,σ b = none → Φ (v b) (σ.set b o)) : AK P m σ Φ := fun w F hs hF =>
 ⟨_,_,_,hm w hs,h _ (Fi hs),Fin.alloc hs hF _ rfl (.same rfl rfl rfl) rfl⟩
class oC (P : Program) (T : TypeId) (K V : outParam TypeId) : Prop where
 eC : P.underlying T = some (.map K V)
 key : P.underlying K = some .string
def BV (σ : Hp) (b : Nat) (l : List MapEntry) (clock : Nat) : Prop := σ b = some (.map l.toArray clock) ∧ Stamped l.toArray clock ∧ ∀ x ∈ l,IsKey .string x.key
theorem BV.mono {σ σ' : Hp} {b : Nat} {l : List MapEntry} {clock : Nat} (h : BV σ b l clock) (hx : Ext σ σ') : BV σ' b l clock := ⟨hx _ _ h.1,h.2⟩
theorem BV.loc {σ σ' : Hp} {b : Nat} {l : List MapEntry} {clock : Nat} (h : BV σ b l clock) (hx : σ' b = σ b) : BV σ' b l clock := ⟨hx.trans h.1,h.2⟩
theorem BV.nodup {σ : Hp} {b : Nat} {l : List MapEntry} {clock : Nat} (h : BV σ b l clock) : (l.map (·.key)).Nodup := h.2.1.2.2
theorem FW {s : ByteArray} {l : List MapEntry} (hk : ∀ x ∈ l,IsKey .string x.key) :
   (Instr.findNow .string (.string s) l 0 = some none ∧ ∀ x ∈ l,x.key ≠ .string s) ∨ ∃ l1 e l2,l = l1 ++ e :: l2 ∧ e.key = .string s ∧ Instr.findNow .string (.string s) l 0 = some (some (l1.length,e.val)) := by
 rcases findNow_spec (d := .string) (k := .string s) trivial l 0 hk with h | ⟨j,e,h1,h2,h3⟩
 · exact .inl h
 · obtain ⟨hj,rfl⟩ := List.getElem?_eq_some_iff.1 h2
   refine .inr ⟨l.take j,l[j],l.drop (j + 1),?_,h3,?_⟩
   · rw [List.getElem_cons_drop,List.take_append_drop]
   · rw [h1]; simp [Nat.min_eq_left (Nat.le_of_lt hj)]
section
variable {T K V ty : TypeId} {b clock : Nat} {l : List MapEntry} {s : ByteArray}
theorem EU {Φ : Value → Hp → Prop} (h : ∀ b,σ b = none → Φ (.map (some b)) (σ.set b (.map #[] 0))) : AK P (Instr.makeMap T none) σ Φ :=
 AK.new (v := fun b => .map (some b)) (fun w _ => by simp [Instr.makeMap,Result.andThen]) h
theorem BV.fresh {b : Nat} {σ : Hp} : BV (σ.set b (.map #[] 0)) b [] 0 := ⟨Hp.AB _ _ _,stamped_empty 0,by simp⟩
theorem PI [t : oC P T K V] (hm : BV σ b l clock) {z : Value} (hz : ∀ w,(zeroValue V).run P w = .ok z w) {Q : Value → Prop}
   (h0 : (∀ x ∈ l,x.key ≠ .string s) → Q z) (h1 : ∀ l1 e l2,l = l1 ++ e :: l2 → e.key = .string s → Q e.val) : ∃ v,Q v ∧ YF P (Instr.lookup T (.map (some b)) (.string s) false) σ v := by
 rcases FW (s := s) hm.2.2 with ⟨hf,hn⟩ | ⟨l1,e,l2,hl,he,hf⟩
 · refine ⟨z,h0 hn,fun w hs => ?_⟩
   have := hs _ _ hm.1
   simp [Instr.lookup,run_underlying t.eC,run_getObj_map this,run_checkKey t.key (k := .string s) trivial,run_findKey t.key hf,hz,Result.andThen]
 · refine ⟨e.val,h1 l1 e l2 hl he,fun w hs => ?_⟩
   have := hs _ _ hm.1
   simp [Instr.lookup,run_underlying t.eC,run_getObj_map this,run_checkKey t.key (k := .string s) trivial,run_findKey t.key hf,Result.andThen]
theorem M6 [t : oC P T K V] (hm : BV σ b l clock) {z : Value} (hz : ∀ w,(zeroValue V).run P w = .ok z w) {Φ : Value → Hp → Prop}
   (h0 : (∀ x ∈ l,x.key ≠ .string s) → Φ z σ) (h1 : ∀ l1 e l2,l = l1 ++ e :: l2 → e.key = .string s → Φ e.val σ) : AK P (Instr.lookup T (.map (some b)) (.string s) false) σ Φ := by
 obtain ⟨v,hq,hy⟩ := PI (T := T) (K := K) (s := s) (Q := fun v => Φ v σ) hm hz h0 h1
 exact AK.pu hy hq
theorem oD [t : oC P T K V] (hm : BV σ b l clock) : YF P (Builtin.len_ #[T] ty #[.map (some b)]) σ (.int .i64 l.length) := fun w hs => by
 have := hs _ _ hm.1
 simp [Builtin.len_,run_underlying t.eC,run_getObj_map this,goInt,Result.andThen]
abbrev Nb (s : ByteArray) (v : Value) (n : Nat) : MapEntry := { key := .string s,val := v,born := n }
theorem Hx [t : oC P T K V] (hm : BV σ b l clock) {v : Value} {Φ : Unit → Hp → Prop}
   (h0 : (∀ x ∈ l,x.key ≠ .string s) → ∀ σ',σ' = σ.set b (.map (l ++ [Nb s v clock]).toArray (clock + 1)) → BV σ' b (l ++ [Nb s v clock]) (clock + 1) → Φ () σ')
   (h1 : ∀ l1 e l2,l = l1 ++ e :: l2 → e.key = .string s → ∀ σ',σ' = σ.set b (.map (l1 ++ Nb s v e.born :: l2).toArray clock) → BV σ' b (l1 ++ Nb s v e.born :: l2) clock → Φ () σ') :
   AK P (Instr.mapUpdate T (.map (some b)) (.string s) v) σ Φ := by
 obtain ⟨hb,Cg,hk⟩ := hm
 rcases FW (s := s) hk with ⟨hf,hn⟩ | ⟨l1,e,l2,hl,he,hf⟩
 · have ZB : (l ++ [Nb s v clock]).toArray = l.toArray.push (Nb s v clock) := by simp
   refine AK.obj (v := ()) (o' := .map (l ++ [Nb s v clock]).toArray (clock + 1)) hb (fun w hs => ⟨w,.inl rfl,?_⟩) (h0 hn _ rfl ⟨Hp.AB _ _ _,?_,?_⟩)
   · have := hs _ _ hb
     rw [ZB]
     simp only [Instr.mapUpdate,Sem.run_bind,run_underlying t.eC,run_getObj_map this,run_checkKey t.key (k := .string s) trivial,run_findKey t.key hf,Result.andThen_ok]
     simp [setObj,Sem.run,this,ChangeMaps.setBlock]
   · rw [ZB]; exact stamped_push Cg (by simpa using hn)
   · intro x hx
     rcases List.mem_append.1 hx with hx | hx
     · exact hk x hx
     · rw [List.mem_singleton] at hx; subst hx; trivial
 · subst hl
   have oE : (l1 ++ Nb s v e.born :: l2).toArray = (l1 ++ e :: l2).toArray.modify l1.length (fun e => { e with key := .string s,val := v }) := by
     rw [← Array.toList_inj]
     apply List.ext_getElem?
     intro j
     simp only [Array.getElem?_toList,Array.getElem?_modify,List.getElem?_toArray]
     by_cases hj : l1.length = j
     · subst hj; simp
     · rw [if_neg hj]
       rcases Nat.lt_or_ge j l1.length with h | h
       · rw [List.getElem?_append_left h,List.getElem?_append_left h]
       · have : ∃ k,j = l1.length + (k + 1) := ⟨j - l1.length - 1,by omega⟩
         obtain ⟨k,rfl⟩ := this
         simp [List.getElem?_append_right]
   have cM : (l1 ++ e :: l2).toArray[l1.length]? = some e := by simp
   refine AK.obj (v := ()) (o' := .map (l1 ++ Nb s v e.born :: l2).toArray clock) hb (fun w hs => ⟨w,.inl rfl,?_⟩) (h1 l1 e l2 rfl he _ rfl ⟨Hp.AB _ _ _,?_,?_⟩)
   · have := hs _ _ hb
     rw [oE]
     simp only [Instr.mapUpdate,Sem.run_bind,run_underlying t.eC,run_getObj_map this,run_checkKey t.key (k := .string s) trivial,run_findKey t.key hf,Result.andThen_ok,cM,Option.map_some,Option.getD_some,he,
       run_keyThatStays (d := .string) (k := .string s) trivial]
     simp [setObj,Sem.run,this,ChangeMaps.setBlock]
   · rw [oE]; exact stamped_modify Cg _ _ (fun _ _ => rfl) (fun e' _ Qg => by rw [cM] at Qg; cases Qg; exact he.symm)
   · intro x hx
     rcases List.mem_append.1 hx with hx | hx
     · exact hk x (List.mem_append_left _ hx)
     · rcases List.mem_cons.1 hx with rfl | hx
       · trivial
       · exact hk x (List.mem_append_right _ (List.mem_cons_of_mem _ hx))
end
end
end Tw
end
section
theorem Tw.Hp.AS {σ : Tw.Hp} {b k : Nat} {o : Go.Obj} (h : (σ.set b o) k = none) : k ≠ b ∧ σ k = none := by
 have A6 : k ≠ b := fun e => by rw [e,Tw.Hp.AB] at h; cases h
 exact ⟨A6,by rw [Tw.Hp.AJ A6] at h; exact h⟩
namespace oF
open Go Go.MapKept Tw
variable [E5]
section
variable {P : Program} {σ : Hp}
class rC (P : Program) (T : TypeId) (K V : outParam TypeId) : Prop where
 eC : P.underlying T = some (.map K V)
 key : P.underlying K = some (.int .i64)
def BV (σ : Hp) (b : Nat) (l : List MapEntry) (clock : Nat) : Prop := σ b = some (.map l.toArray clock) ∧ Stamped l.toArray clock ∧ ∀ x ∈ l,IsKey (.int .i64) x.key
theorem BV.loc {σ σ' : Hp} {b : Nat} {l : List MapEntry} {clock : Nat} (h : BV σ b l clock) (hx : σ' b = σ b) : BV σ' b l clock := ⟨hx.trans h.1,h.2⟩
theorem FW {s : Int} {l : List MapEntry} (hk : ∀ x ∈ l,IsKey (.int .i64) x.key) :
   (Instr.findNow (.int .i64) (.int .i64 s) l 0 = some none ∧ ∀ x ∈ l,x.key ≠ .int .i64 s) ∨ ∃ l1 e l2,l = l1 ++ e :: l2 ∧ e.key = .int .i64 s ∧ Instr.findNow (.int .i64) (.int .i64 s) l 0 = some (some (l1.length,e.val)) := by
 rcases findNow_spec (d := .int .i64) (k := .int .i64 s) rfl l 0 hk with h | ⟨j,e,h1,h2,h3⟩
 · exact .inl h
 · obtain ⟨hj,rfl⟩ := List.getElem?_eq_some_iff.1 h2
   refine .inr ⟨l.take j,l[j],l.drop (j + 1),?_,h3,?_⟩
   · rw [List.getElem_cons_drop,List.take_append_drop]
   · rw [h1]; simp [Nat.min_eq_left (Nat.le_of_lt hj)]
section
variable {T K V ty : TypeId} {b clock : Nat} {l : List MapEntry} {s : Int}
theorem BV.fresh {b : Nat} {σ : Hp} : BV (σ.set b (.map #[] 0)) b [] 0 := ⟨Hp.AB _ _ _,stamped_empty 0,by simp⟩
theorem PI [t : rC P T K V] (hm : BV σ b l clock) {z : Value} (hz : ∀ w,(zeroValue V).run P w = .ok z w) {Q : Value → Prop}
   (h0 : (∀ x ∈ l,x.key ≠ .int .i64 s) → Q z) (h1 : ∀ l1 e l2,l = l1 ++ e :: l2 → e.key = .int .i64 s → Q e.val) : ∃ v,Q v ∧ YF P (Instr.lookup T (.map (some b)) (.int .i64 s) false) σ v := by
 rcases FW (s := s) hm.2.2 with ⟨hf,hn⟩ | ⟨l1,e,l2,hl,he,hf⟩
 · refine ⟨z,h0 hn,fun w hs => ?_⟩
   have := hs _ _ hm.1
   simp [Instr.lookup,run_underlying t.eC,run_getObj_map this,run_checkKey t.key (k := .int .i64 s) rfl,run_findKey t.key hf,hz,Result.andThen]
 · refine ⟨e.val,h1 l1 e l2 hl he,fun w hs => ?_⟩
   have := hs _ _ hm.1
   simp [Instr.lookup,run_underlying t.eC,run_getObj_map this,run_checkKey t.key (k := .int .i64 s) rfl,run_findKey t.key hf,Result.andThen]
theorem M6 [t : rC P T K V] (hm : BV σ b l clock) {z : Value} (hz : ∀ w,(zeroValue V).run P w = .ok z w) {Φ : Value → Hp → Prop}
   (h0 : (∀ x ∈ l,x.key ≠ .int .i64 s) → Φ z σ) (h1 : ∀ l1 e l2,l = l1 ++ e :: l2 → e.key = .int .i64 s → Φ e.val σ) : AK P (Instr.lookup T (.map (some b)) (.int .i64 s) false) σ Φ := by
 obtain ⟨v,hq,hy⟩ := PI (T := T) (K := K) (s := s) (Q := fun v => Φ v σ) hm hz h0 h1
 exact AK.pu hy hq
theorem oD [t : rC P T K V] (hm : BV σ b l clock) : YF P (Builtin.len_ #[T] ty #[.map (some b)]) σ (.int .i64 l.length) := fun w hs => by
 have := hs _ _ hm.1
 simp [Builtin.len_,run_underlying t.eC,run_getObj_map this,goInt,Result.andThen]
abbrev Nb (s : Int) (v : Value) (n : Nat) : MapEntry := { key := .int .i64 s,val := v,born := n }
theorem Hx [t : rC P T K V] (hm : BV σ b l clock) {v : Value} {Φ : Unit → Hp → Prop}
   (h0 : (∀ x ∈ l,x.key ≠ .int .i64 s) → ∀ σ',σ' = σ.set b (.map (l ++ [Nb s v clock]).toArray (clock + 1)) → BV σ' b (l ++ [Nb s v clock]) (clock + 1) → Φ () σ')
   (h1 : ∀ l1 e l2,l = l1 ++ e :: l2 → e.key = .int .i64 s → ∀ σ',σ' = σ.set b (.map (l1 ++ Nb s v e.born :: l2).toArray clock) → BV σ' b (l1 ++ Nb s v e.born :: l2) clock → Φ () σ') :
   AK P (Instr.mapUpdate T (.map (some b)) (.int .i64 s) v) σ Φ := by
 obtain ⟨hb,Cg,hk⟩ := hm
 rcases FW (s := s) hk with ⟨hf,hn⟩ | ⟨l1,e,l2,hl,he,hf⟩
 · have ZB : (l ++ [Nb s v clock]).toArray = l.toArray.push (Nb s v clock) := by simp
   refine AK.obj (v := ()) (o' := .map (l ++ [Nb s v clock]).toArray (clock + 1)) hb (fun w hs => ⟨w,.inl rfl,?_⟩) (h0 hn _ rfl ⟨Hp.AB _ _ _,?_,?_⟩)
   · have := hs _ _ hb
     rw [ZB]
     simp only [Instr.mapUpdate,Sem.run_bind,run_underlying t.eC,run_getObj_map this,run_checkKey t.key (k := .int .i64 s) rfl,run_findKey t.key hf,Result.andThen_ok]
     simp [setObj,Sem.run,this,ChangeMaps.setBlock]
   · rw [ZB]; exact stamped_push Cg (by simpa using hn)
   · intro x hx
     rcases List.mem_append.1 hx with hx | hx
     · exact hk x hx
     · rw [List.mem_singleton] at hx; subst hx; rfl
 · subst hl
   have oE : (l1 ++ Nb s v e.born :: l2).toArray = (l1 ++ e :: l2).toArray.modify l1.length (fun e => { e with key := .int .i64 s,val := v }) := by
     rw [← Array.toList_inj]
     apply List.ext_getElem?
     intro j
     simp only [Array.getElem?_toList,Array.getElem?_modify,List.getElem?_toArray]
     by_cases hj : l1.length = j
     · subst hj; simp
     · rw [if_neg hj]
       rcases Nat.lt_or_ge j l1.length with h | h
       · rw [List.getElem?_append_left h,List.getElem?_append_left h]
       · have : ∃ k,j = l1.length + (k + 1) := ⟨j - l1.length - 1,by omega⟩
         obtain ⟨k,rfl⟩ := this
         simp [List.getElem?_append_right]
   have cM : (l1 ++ e :: l2).toArray[l1.length]? = some e := by simp
   refine AK.obj (v := ()) (o' := .map (l1 ++ Nb s v e.born :: l2).toArray clock) hb (fun w hs => ⟨w,.inl rfl,?_⟩) (h1 l1 e l2 rfl he _ rfl ⟨Hp.AB _ _ _,?_,?_⟩)
   · have := hs _ _ hb
     rw [oE]
     simp only [Instr.mapUpdate,Sem.run_bind,run_underlying t.eC,run_getObj_map this,run_checkKey t.key (k := .int .i64 s) rfl,run_findKey t.key hf,Result.andThen_ok,cM,Option.map_some,Option.getD_some,he,
       run_keyThatStays (d := .int .i64) (k := .int .i64 s) rfl]
     simp [setObj,Sem.run,this,ChangeMaps.setBlock]
   · rw [oE]; exact stamped_modify Cg _ _ (fun _ _ => rfl) (fun e' _ Qg => by rw [cM] at Qg; cases Qg; exact he.symm)
   · intro x hx
     rcases List.mem_append.1 hx with hx | hx
     · exact hk x (List.mem_append_left _ hx)
     · rcases List.mem_cons.1 hx with rfl | hx
       · rfl
       · exact hk x (List.mem_append_right _ (List.mem_cons_of_mem _ hx))
end
end
end oF
end
section
namespace Tw
open Go
variable [E5]
def TH (s : ByteArray) : List Value := s.data.toList.map fun b => .int .u8 b.toNat
theorem oG {s : ByteArray} : (TH s).length = s.size := by simp [TH]
theorem oH {s : ByteArray} : GX (TH s) := fun u hu => by obtain ⟨x,_,rfl⟩ := List.mem_map.1 hu; rfl
section append
variable {P : Program} {T E ty : TypeId} {bs : Nat} {σ : Hp} {p : Option Addr} {n c m : Nat} {cs ys : List Value} {Φ : Value → Hp → Prop}
theorem TI {str : ByteArray} (w : World) (size : Nat) : (Builtin.firstCells size str.size (.string str)).run P w = .ok (TH str).toArray w := by
 have hx : (Array.map (fun b : UInt8 => Value.int IntKind.u8 (b.toNat : Int)) str.data).extract 0 str.size = (TH str).toArray := by
   have hs : str.size = (Array.map (fun b : UInt8 => Value.int IntKind.u8 (b.toNat : Int)) str.data).size := by rw [Array.size_map]; rfl
   rw [hs,Array.extract_size]
   apply Array.ext'
   simp [TH]
 have A5 : Array.map (fun b : UInt8 => Value.int IntKind.u8 (b.toNat : Int)) str.data = (TH str).toArray := by apply Array.ext'; simp [TH]
 simp [Builtin.firstCells,A5]
theorem tS [h : J0 P T E 1 bs] {U : TypeId} {str : ByteArray} (hU : P.underlying U = some .string) (Bg : A8 1 σ p n c cs) (hm : str.size = m) (vD : TH str = ys) (hb : (n + m) * bs ≤ 140737488355328)
   (hΦ : ∀ p' c' σ',A8 1 σ' p' (n + m) c' (cs ++ ys) → Ext (σ.del p) (σ'.del p') → ((p' = p ∧ c' = c ∧ n + m ≤ c) ∨ (c < n + m ∧ Ext σ σ' ∧ ∀ a,p' = some a → σ a.block = none)) → Φ (.slice p' (n + m) c') σ') :
   AK P (Builtin.append_ #[T,U] ty #[.slice p n c,.string str]) σ Φ := by
 obtain ⟨ht,⟨i,z,hi,hz,JK,rfl,hzs⟩,Ol,kF⟩ := h
 have h1 : GX ys := vD ▸ oH
 have hyl : ys.length = m * 1 := by rw [← vD,← hm,Nat.mul_one]; exact oG
 have h62 : n + m ≤ 140737488355328 := Nat.le_trans (Nat.le_mul_of_pos_right _ kF) hb
 intro w F hs hF
 have hf := TI (P := P) (str := str) w 1
 rw [vD,hm] at hf
 have rK := fun w' : World => TI (P := P) (str := str) w' 1
 rw [vD,hm] at rK
 have MK := fun w' (hw : Sat σ w') => Ln (P := P) (d := c) w' hw Bg.rd
 have hlen : (cs ++ ys).length = (n + m) * 1 := by rw [List.length_append,Bg.1,hyl,Nat.add_mul]
 by_cases HY : n + m ≤ c
 · -- there is room
   rcases Bg.2.2 with ⟨hp,hn,hc⟩ | ⟨b,o,arr,T',rfl,hblk,jh,HX,NR⟩
   · subst hp hn hc
     have hm : m = 0 := by omega
     subst hm
     have vD : ys = [] := List.eq_nil_of_length_eq_zero (by simpa using hyl)
     have NR : cs = [] := List.eq_nil_of_length_eq_zero (by simpa using Bg.1)
     subst vD NR
     refine ⟨.slice none 0 0,w,σ,?_,hΦ none 0 σ A8.nil (Ext.refl _) (.inl ⟨rfl,rfl,HY⟩),hs,fun b hb => ⟨(hF b hb).2,rfl⟩,.same rfl rfl rfl,rfl,Nat.le_refl _⟩
     simp [Builtin.append_,run_underlying ht,run_underlying hU,JK,hm,Go.sizeOf,typeInfo,hi,Builtin.lenOf,hf]
   · have hw := hs _ _ hblk
     have xv : o + n * 1 + 0 + ys.length ≤ arr.size := by
       rw [hyl]
       have : (n + m) * 1 ≤ c * 1 := Nat.mul_le_mul_right _ HY
       rw [Nat.add_mul] at this
       omega
     have Cg := Ec (P := P) b (o + n * 1) T' ys 0 arr w hw xv h1
     simp only [Nat.add_zero,Nat.mul_one] at Cg
     refine ⟨.slice (some ⟨b,o,none⟩) (n + m) c,w.setRow b (NQ arr (o + n) ys),σ.set b (.cells (NQ arr (o + n) ys) T' (0,0)),?_,hΦ _ _ _ ⟨hlen,by omega,.inr ⟨b,o,_,T',rfl,Hp.AB _ _ _,HY,by rw [IC]; exact HX,?_⟩⟩ (by rw [Hp.Ix]; exact Ext.refl _) (.inl ⟨rfl,rfl,HY⟩),?_⟩
     · simp [Builtin.append_,run_underlying ht,run_underlying hU,JK,hm,Go.sizeOf,typeInfo,hi,Builtin.lenOf,HY,hf,Bu,Cg]
     · refine List.ext_getElem? fun j => ?_
       rw [List.getElem?_take]
       simp only [List.getElem?_drop,Array.getElem?_toList]
       rw [Qu _ _ _ _ (by omega),List.getElem?_append]
       have e1 : cs.length = n * 1 := Bg.1
       have e2 : ys.length = m * 1 := hyl
       have e3 : (n + m) * 1 = n * 1 + m * 1 := Nat.add_mul ..
       by_cases xw : j < cs.length
       · rw [if_pos (by omega),if_neg (by omega),if_pos xw,← NR,List.getElem?_take,if_pos (by omega)]
         simp
       · rw [if_neg xw]
         by_cases hj2 : j < (n + m) * 1
         · rw [if_pos hj2,if_pos (by omega),show o + j - (o + n) = j - cs.length by omega]
         · rw [if_neg hj2,List.getElem?_eq_none (by omega)]
     · refine ⟨fun k u hk => ?_,fun k hk => ?_,.same rfl rfl rfl,rfl,by simp⟩
       · by_cases HZ : k = b
         · subst HZ; rw [Hp.AB] at hk; cases hk; exact setRow_heap w k arr _ T' (0,0) hw
         · rw [Hp.AJ HZ] at hk; rw [setRow_other _ _ _ _ HZ]; exact hs k u hk
       · have HZ : k ≠ b := fun h => by have := (hF k hk).2; rw [h,hblk] at this; cases this
         exact ⟨by rw [Hp.AJ HZ]; exact (hF k hk).2,setRow_other _ _ _ _ HZ⟩
 · -- it AC4
   have AC5 : Builtin.nextslicecap (n + m) c * i.bytes ≤ 281474976710656 := growslice_fits (by omega) hb
   have hgc := grownCap_ge w (n + m) c E
   have Om : Sat σ w.drew := hs
   have Cp : (Builtin.append_ #[T,U] ty #[.slice p n c,.string str]).run P w =
       .ok (.slice (some ⟨w.heap.size,0,none⟩) (n + m) (grownCap w (n + m) c E))
         (w.drew.alloc (.cells (cs.toArray ++ ys.toArray ++ Builtin.zeroCells z.cells (grownCap w (n + m) c E - (n + m))) E)) := by
     have xx : ¬ (9223372036854775807 < ((n : Int) + (m : Int))) := by omega
     have xy : ¬ (281474976710656 < Builtin.nextslicecap (n + m) c * i.bytes) := by omega
     simp [Builtin.append_,run_underlying ht,run_underlying hU,JK,hm,Go.sizeOf,typeInfo,zeroValue,hi,hz,Builtin.lenOf,HY,xx,xy,Question.forced,rK,MK _ Om,newRow,grownCap]
     congr 2
     apply Array.ext'
     simp [List.append_assoc]
   refine ⟨_,_,σ.set w.heap.size _,Cp,hΦ _ _ _ ⟨hlen,by omega,.inr ⟨w.heap.size,0,_,E,rfl,Hp.AB _ _ _,hgc,?_,?_⟩⟩ ?_ (.inr ⟨by omega,Ext.set (Fi hs),fun a ha => by cases ha; exact Fi hs⟩),Fin.alloc hs hF _ rfl ⟨rfl,rfl,fun _ => ⟨1,rfl⟩⟩ rfl⟩
   · simp only [Array.size_append,List.size_toArray,size_zeroCells,hzs,Bg.1,hyl,← Nat.add_mul]
     have : n + m + (grownCap w (n + m) c E - (n + m)) = grownCap w (n + m) c E := by omega
     rw [this]; omega
   · simp only [Array.toList_append,List.drop_zero]
     rw [← hlen]
     exact List.take_left
   · rw [Hp.NW (Fi hs)]
     exact Ext.Iw σ p
end append
end Tw
end
section
namespace Tw
open Go
variable [E5]
def Hp.or (N M : Hp) : Hp := fun k => match N k with | some o => some o | none => M k
def Dis (N M : Hp) : Prop := ∀ k,M k ≠ none → N k = none
theorem Hp.tT {N M : Hp} {k : Nat} {o : Obj} (h : N k = some o) : N.or M k = some o := by simp [Hp.or,h]
theorem Hp.cP {N M : Hp} {k : Nat} (h : N k = none) : N.or M k = M k := by simp [Hp.or,h]
theorem Ext.tT (N M : Hp) : Ext N (N.or M) := fun _ _ h => Hp.tT h
theorem Ext.cP {N M : Hp} (hd : Dis N M) : Ext M (N.or M) := fun k o h => by rw [Hp.cP (hd k (by rw [h]; simp))]; exact h
theorem Ext.oI {N M σ : Hp} (h1 : Ext N σ) (h2 : Ext M σ) : Ext (N.or M) σ := fun k o h => by
 unfold Hp.or at h
 split at h
 · rename_i u hu; cases h; exact h1 _ _ hu
 · exact h2 _ _ h
end Tw
end
section
namespace TwW
open Go Tw Go.Proofs.Tryz
theorem Af {σ : Hp} {b o : Nat} {c : Array Value} {t : TypeId} {fr : Nat × Nat} {v : Value} (h : σ b = some (.cells c t fr)) (hv : c[o]? = some v) : σ.ld ⟨b,o,none⟩ = some v := by simp [Hp.ld,h,hv]
section
variable {σ : Hp} {d : Nat} {S : List Nat} {R : Rr}
end
end TwW
namespace TwW
open Go Tw Go.Proofs.Tryz
section
variable {σ : Hp} {d : Nat} {S : List Nat} {R : Rr}
theorem A8.cap {s : Nat} {σ : Hp} {p : Option Addr} {n c : Nat} {cs : List Value} (h : A8 s σ p n c cs) : n ≤ c := by
 rcases h.2.2 with ⟨_,h1,h2⟩ | ⟨b,o,arr,T,_,_,h3,_⟩
 · omega
 · exact h3
end
end TwW
namespace TwW
open Go Tw Go.Proofs.Tryz
def uv (x : Nat) : List Int := if h : 128 ≤ x then ((x % 128 + 128 : Nat) : Int) :: uv (x / 128) else [(x : Int)]
termination_by x
decreasing_by omega
theorem oJ {x : Nat} (h : 128 ≤ x) : uv x = ((x % 128 + 128 : Nat) : Int) :: uv (x / 128) := by rw [uv,dif_pos h]
theorem N4 {x : Nat} (h : ¬ 128 ≤ x) : uv x = [(x : Int)] := by rw [uv,dif_neg h]
theorem oK : ∀ (k x : Nat),x < 128 ^ (k + 1) → (uv x).length ≤ k + 1
 | 0,x,h => by rw [N4 (by simpa using h)]; simp
 | k + 1,x,h => by
   by_cases hx : 128 ≤ x
   · rw [oJ hx]
     have := oK k (x / 128) (by rw [Nat.div_lt_iff_lt_mul (by decide)]; rw [Nat.pow_succ] at h; exact h)
     simp; omega
   · rw [N4 hx]; simp
theorem LM {x : Nat} (h : x < 18446744073709551616) : (uv x).length ≤ 10 := oK 9 x (by omega)
set_option maxRecDepth 100000 in
theorem AHL : ∀ y : Fin 256,Go.bits .or .u8 (y.1 : Int) 128 = ((y.1 % 128 + 128 : Nat) : Int) := by decide
theorem N5 {R : Rr} {σ : Hp} {p : Option Addr} {n c x : Nat} {xs : List Int} (hr : FH .u8 σ p n xs) (hn : n ≤ 70368744177664) (hx : x < 18446744073709551616)
   (h : ∀ p' n' c' σ',D2 .u8 (σ.new σ') p' n' c' (xs ++ uv x) → Ext σ σ' → R (.returned (.slice p' n' c')) σ') : Spec prog 107 #[.slice p n c,.int .u64 x] σ R := by
 refine D9.start fun b hb => ?_
 refine DP A8.empty ((E9.of_map hr).mono (.set hb)) GX.Qv (by omega) fun p' c' σ' Bg JL => ?_
 have hq : ∀ a : Addr,(some (⟨b,0,none⟩ : Addr)) = some a → σ a.block = none := fun a ha => by cases ha; exact hb
 have ho := A8.On Bg (FN hq JL (.set hb))
 have he := Iy hq JL (.set hb)
 refine ⟨p',0 + n,c',rfl,?_⟩
 rw [Nat.zero_add] at ho ⊢
 have hlen := hr.1
 suffices H : ∀ (k x n' : Nat) p' c' σ' ys,x < 128 ^ (k + 1) → n' + k ≤ n + 9 → D2 .u8 (σ.new σ') p' n' c' ys → Ext σ σ' → (∀ p' n' c' σ',D2 .u8 (σ.new σ') p' n' c' (ys ++ uv x) → Ext σ σ' → R (.returned (.slice p' n' c')) σ') → D9.Dm R x p' n' c' σ' from
   H 9 x n p' c' σ' xs (by omega) (by omega) ho he h
 intro k
 induction k with
 | zero =>
   intro x n' p' c' σ' ys hx XL ho he h
   refine D9.Ac ⟨fun Ap => by omega,fun _ cA AAc b2 Pp => ?_⟩
   have cQ : cA = (x : Int) := by rw [AAc]; simp [IntKind.wrap,IntKind.bits,IntKind.signed]; omega
   subst cQ
   refine D2.Jq he ho (by omega) (fun p2 c2 σ2 Ba rD _ => ⟨p2,n' + 1,c2,rfl,h _ _ _ _ ?_ rD⟩) Pp
   rw [N4 (by omega)]; exact Ba
 | succ k ih =>
   intro x n' p' c' σ' ys hx XL ho he h
   refine D9.Ac ⟨fun Ap x15 AMy x16 AMz b2 Pp => ?_,fun cM cA AAc b2 Pp => ?_⟩
   · have h15 : x15 = ((x % 256 : Nat) : Int) := by rw [AMy]; simp [IntKind.wrap,IntKind.bits,IntKind.signed]
     have h16 : x16 = ((x % 128 + 128 : Nat) : Int) := by
       rw [AMz,h15,AHL ⟨x % 256,Nat.mod_lt _ (by decide)⟩]
       have : x % 256 % 128 = x % 128 := by omega
       rw [this]
     subst h16
     refine D2.Jq he ho (by omega) (fun p2 c2 σ2 Ba rD _ => ⟨p2,n' + 1,c2,rfl,by simp [IntKind.bits],fun x12 AM0 => ?_⟩) Pp
     have XG : x12 = ((x / 128 : Nat) : Int) := by rw [AM0]; simp
     subst XG
     refine ih (x / 128) (n' + 1) p2 c2 σ2 _ (by rw [Nat.div_lt_iff_lt_mul (by decide)]; rw [Nat.pow_succ] at hx; exact hx) (by omega) Ba rD fun p3 n3 c3 σ3 EC he3 => h p3 n3 c3 σ3 ?_ he3
     rw [oJ (by omega)]
     simpa using EC
   · have cQ : cA = (x : Int) := by rw [AAc]; simp [IntKind.wrap,IntKind.bits,IntKind.signed]; omega
     subst cQ
     refine D2.Jq he ho (by omega) (fun p2 c2 σ2 Ba rD _ => ⟨p2,n' + 1,c2,rfl,h _ _ _ _ ?_ rD⟩) Pp
     rw [N4 (by omega)]; exact Ba
end TwW
namespace TwW
open Go Tw Go.RowKit Go.Proofs.Tryz
theorem E9.at1 {σ : Hp} {p : Option Addr} {n k : Nat} {L : List Value} {v : Value} (h : E9 1 σ p n L) (hk : L[k]? = some v) : ∃ b o,p = some ⟨b,o,none⟩ ∧ σ.ld ⟨b,o + k * 1,none⟩ = some v := by
 obtain ⟨h1,_,h2⟩ := h
 have Ap := (List.getElem?_eq_some_iff.1 hk).1
 rcases h2 with h2 | ⟨b,o,hp,hl⟩
 · simp at h1; omega
 · refine ⟨b,o,hp,?_⟩
   rw [Nat.mul_one]
   exact hl.get hk
section
variable {σ τ : Hp} {d : Nat} {R : Rr}
end
section
variable {dir : ByteArray} {cnt : Nat}
end
end TwW
namespace TwW
open Go Tw Go.RowKit Go.Proofs.Tryz
def byt (s : ByteArray) : List Int := s.data.toList.map fun b => (b.toNat : Int)
theorem fP {s : ByteArray} : (byt s).length = s.size := by simp [byt]
theorem oL {s : ByteArray} : TH s = (byt s).map (.int .u8) := by simp [TH,byt]
section
variable {σ : Hp} {R : Rr}
theorem N6 {p : Option Addr} {n c : Nat} {xs : List Int} {s : ByteArray} (hr : FH .u8 σ p n xs) (hn : n ≤ 1048576) (hs : s.size ≤ 1048576)
   (h : ∀ p' n' c' σ',D2 .u8 (σ.new σ') p' n' c' (xs ++ uv s.size ++ byt s) → Ext σ σ' → R (.returned (.slice p' n' c')) σ') : Spec prog 108 #[.slice p n c,.string s] σ R := by
 refine MZ.start fun x8 h8 => ?_
 have e8 : x8 = (s.size : Int) := by rw [h8]; simp [IntKind.wrap,IntKind.bits,IntKind.signed]; omega
 subst e8
 refine N5 hr (by omega) (by omega) fun p' n' c' σ1 ho CH => ⟨p',n',c',rfl,?_⟩
 have hq : ∀ a,p' = some a → σ a.block = none := fun a ha => by
   have h2 := A8.block ho a ha
   cases hh : (σ.new σ1) a.block with
   | none => exact absurd hh h2
   | some o => exact (AV.1 hh).1
 have hl : (xs ++ uv s.size).length = n' := by have := ho.1; simpa using this
 have TJ := LM (x := s.size) (by omega)
 have xG : xs.length = n := hr.1
 rw [List.length_append] at hl
 refine tS underlying9 (A8.mono (Ext.Cq _ _) ho) rfl oL (by omega) fun p2 c2 σ2 Ba A5 _ => ⟨p2,_,c2,rfl,?_⟩
 have Pp := FN hq A5 CH
 refine h p2 _ c2 σ2 ?_ (Iy hq A5 CH)
 have := A8.On Ba Pp
 simpa [D2] using this
theorem P8 {p : Option Addr} {n c : Nat} {xs : List Int} (h : D2 .u8 σ p n c xs) : xs.length = n := by have := h.1; simpa using this
theorem fQ {s : ByteArray} : (ByteArray.toList s == ByteArray.toList (ByteArray.mk #[])) = decide (s.size = 0) := by
 rw [ByteArray.toList_eq,ByteArray.toList_eq]
 by_cases h : s.size = 0
 · have : s = ⟨#[]⟩ := ByteArray.ext (Array.eq_empty_of_size_eq_zero h)
   subst this; rfl
 · rw [decide_eq_false h]
   simp only [beq_eq_false_iff_ne]
   intro e
   apply h
   have := congrArg List.length e
   simpa using this
end
end TwW
namespace TwW
open Go Tw Go.RowKit Go.Proofs.Tryz
abbrev Lb := ByteArray × ByteArray
def Bt (_ : Hp) (vs : List Value) (x : Lb) : Prop := vs = [.string x.1,.string x.2]
theorem Bt.mono : HM Bt := fun _ _ _ _ _ h => h
abbrev EK := Ae 2 Bt
section
variable {σ : Hp} {R : Rr}
theorem EK.at {p : Option Addr} {n i : Nat} {ls : List Lb} {x : Lb} (hr : EK σ p n ls) (hx : ls[i]? = some x) : ∃ b o,p = some ⟨b,o,none⟩ ∧ Aw σ b (o + i * 2) [.string x.1,.string x.2] := by
 obtain ⟨b,o,vs,hp,rfl,hl⟩ := Ae.idx hr hx
 exact ⟨b,o,hp,hl⟩
theorem UR {s t : ByteArray} : (s.toList == t.toList) = decide (s = t) := by
 rw [ByteArray.toList_eq,ByteArray.toList_eq]
 by_cases h : s = t
 · subst h; simp
 · rw [decide_eq_false h,beq_eq_false_iff_ne]
   exact fun e => h (ByteArray.ext (Array.toList_inj.1 e))
theorem BJ {α : Type} {xs : List α} {k : Nat} {y : α} (hy : xs[k]? = some y) : xs.drop k = y :: xs.drop (k + 1) := by
 obtain ⟨h,rfl⟩ := List.getElem?_eq_some_iff.1 hy
 exact List.drop_eq_getElem_cons h
def DA : List Lb → ByteArray → ByteArray
 | [],_ => ⟨#[]⟩
 | x :: l,k => if x.1 = k then x.2 else DA l k
theorem US {p : Option Addr} {n c : Nat} {ls : List Lb} {k : ByteArray} (hr : EK σ p n ls) (h : R (.returned (.string (DA ls k))) σ) : Spec prog 180 #[.slice p n c,.string k] σ R := by
 refine IT.start ?_
 suffices H : ∀ d i : Nat,n - i = d → i ≤ n → DA ls k = DA (ls.drop i) k → IT.H3 R k p n c n i σ from H n 0 rfl (Nat.zero_le _) rfl
 intro d
 induction d with
 | zero =>
   intro i hd hi he
   refine IT.Bp ⟨fun Ap => by omega,fun _ => ?_⟩
   rw [List.drop_of_length_le (by rw [hr.1]; omega)] at he
   rw [he] at h; exact h
 | succ d ih =>
   intro i hd hi he
   refine IT.Bp ⟨fun _ => ?_,fun hh => by omega⟩
   have Bk : i < n := by omega
   obtain ⟨x,hx⟩ := hr.ex Bk
   obtain ⟨b,o,rfl,hl⟩ := EK.at hr hx
   rw [BJ hx,DA] at he
   refine ⟨b,o,rfl,by omega,x.1,x.2,by simpa using hl,fun _ => ⟨fun hk => ?_,fun hk => ⟨AL Bk hr.big,ih (i + 1) (by omega) (by omega) ?_⟩⟩⟩
   · rw [UR,decide_eq_true_eq] at hk
     rw [if_pos hk] at he
     rw [he] at h; exact h
   · rw [UR,decide_eq_false_iff_not] at hk
     rwa [if_neg hk] at he
theorem Wb {s : ByteArray} {ok : UInt8 → Bool} {pt : Int → Prop} {G : Bool → Prop}
   (kL : G true → pt s.size) (Jb : ∀ (k : Nat) (u : UInt8),k < s.size → s.data[Int.toNat (k : Int)]? = some u → AI ((k : Int) + 1) → (ok u = true → pt ((k : Int) + 1)) → (ok u = false → G false) → pt k)
   (h : G (s.data.toList.all ok)) (hb : s.size ≤ 4611686018427387904) : pt 0 := by
 have HX : s.data.toList.length = s.size := rfl
 suffices H : ∀ d k : Nat,s.size - k = d → k ≤ s.size → (s.data.toList.take k).all ok = true → pt k from H s.size 0 rfl (Nat.zero_le _) rfl
 intro d
 induction d with
 | zero =>
   intro k hd hk Jp
   rw [List.take_of_length_le (by omega)] at Jp
   rw [Jp] at h
   have : k = s.size := by omega
   rw [this]; exact kL h
 | succ d ih =>
   intro k hd hk Jp
   have Gs : k < s.size := by omega
   obtain ⟨u,hu⟩ : ∃ u,s.data.toList[k]? = some u := ⟨_,List.getElem?_eq_getElem (by omega)⟩
   refine Jb k u Gs (by simpa using hu) (by unfold AI; omega) (fun hc => ih (k + 1) (by omega) (by omega) (by rw [AY hu,List.all_append,Jp]; simpa using hc)) fun hc => ?_
   have : s.data.toList.all ok = false := by
     rw [List.all_eq_false]
     exact ⟨u,List.mem_of_getElem? hu,by simp [hc]⟩
   rwa [this] at h
def tU (u : UInt8) : Bool := decide (48 ≤ u.toNat ∧ u.toNat ≤ 57)
def nch (u : UInt8) : Bool := decide (u.toNat = 95 ∨ (48 ≤ u.toNat ∧ u.toNat ≤ 57) ∨ (65 ≤ u.toNat ∧ u.toNat ≤ 90) ∨ (97 ≤ u.toNat ∧ u.toNat ≤ 122))
def CE (s : ByteArray) : Bool := decide (0 < s.size) && decide (s.size ≤ 64) && !(s.data.toList.head?.any tU) && s.data.toList.all nch
theorem LN {s : ByteArray} (h : R (.returned (.bool (CE s))) σ) : Spec prog 98 #[.string s] σ R := by
 have HX : s.data.toList.length = s.size := rfl
 refine FU.start ⟨fun h0 => ?_,fun h0 => ⟨fun h1 => ?_,fun h1 => ?_⟩⟩
 · rw [fQ,decide_eq_true_eq] at h0
   simpa [CE,h0] using h
 · have : ¬ s.size ≤ 64 := by omega
   simpa [CE,this] using h
 · rw [fQ,decide_eq_false_iff_not] at h0
   obtain ⟨u,hu⟩ : ∃ u,s.data.toList[0]? = some u := ⟨_,List.getElem?_eq_getElem (by omega)⟩
   have CU : s.data[Int.toNat (0 : Int)]? = some u := by simpa using hu
   have hh : s.data.toList.head? = some u := by rw [← hu]; cases s.data.toList <;> rfl
   have rest : tU u = false → FU.BE R s 0 σ := fun hd => by
     have e : CE s = s.data.toList.all nch := by simp [CE,show 0 < s.size by omega,show s.size ≤ 64 by omega,hh,hd]
     rw [e] at h
     refine Wb (s := s) (pt := fun k => FU.BE R s k σ) (ok := nch) (G := fun t => R (.returned (.bool t)) σ) (fun g => FU.Bz ⟨fun Ap => by omega,fun _ => g⟩) (fun k u hk hu hi good bad => ?_) h (by omega)
     simp only [nch,decide_eq_true_eq,decide_eq_false_iff_not] at good bad
     refine FU.Bz ⟨fun Ap => ⟨u,by omega,hu,?_⟩,fun cM => by omega⟩
     clear h
     generalize u.toNat = n at good bad
     repeat' (first | refine ⟨fun _ => ?_,fun _ => ?_⟩ | exact ⟨hi,good (by omega)⟩ | exact bad (by omega))
   simp only [tU,decide_eq_false_iff_not] at rest
   refine ⟨u,by omega,CU,fun h2 => ⟨u,by omega,CU,fun h3 => ?_,fun h3 => rest (by omega)⟩,fun h2 => rest (by omega)⟩
   have : tU u = true := by simp [tU]; omega
   simpa [CE,hh,this] using h
def vl : Nat → Nat → Nat → List UInt8 → Bool
 | 0,_,_,[] => true
 | _ + 1,_,_,[] => false
 | 0,_,_,c :: r =>
   if c.toNat < 128 then vl 0 128 191 r
   else if 194 ≤ c.toNat ∧ c.toNat ≤ 223 then vl 1 128 191 r
   else if 224 ≤ c.toNat ∧ c.toNat ≤ 239 then (if c.toNat = 224 then vl 2 160 191 r else if c.toNat = 237 then vl 2 128 159 r else vl 2 128 191 r)
   else if 240 ≤ c.toNat ∧ c.toNat ≤ 244 then (if c.toNat = 240 then vl 3 144 191 r else if c.toNat = 244 then vl 3 128 143 r else vl 3 128 191 r)
   else false
 | m + 1,lo,hi,c :: r => if c.toNat < lo ∨ hi < c.toNat then false else vl m 128 191 r
def M7 (s : ByteArray) : Bool := vl 0 128 191 s.data.toList
theorem vl0 (l : List UInt8) (a b c d : Nat) : vl 0 a b l = vl 0 c d l := by cases l <;> rfl
attribute [local irreducible] Ak.Bh Ak.HQ Ak.ly in
theorem Qh {s : ByteArray} (hb : s.size ≤ 4611686018427387904) (h : R (.returned (.bool (M7 s))) σ) : Spec prog 99 #[.string s] σ R := by
 have HX : s.data.toList.length = s.size := rfl
 refine Ak.start ?_
 suffices H : ∀ d : Nat,(∀ k : Nat,s.size - k = d → k ≤ s.size → M7 s = vl 0 128 191 (s.data.toList.drop k) → Ak.Bh R s k σ) ∧
     (∀ (k m lo hi : Nat),s.size - k = d → k ≤ s.size → M7 s = vl m lo hi (s.data.toList.drop k) → m ≤ 3 → Ak.ly R s k m lo hi σ) from (H s.size).1 0 (by omega) (by omega) rfl
 intro d
 induction d with
 | zero =>
   have A : ∀ k : Nat,s.size - k = 0 → k ≤ s.size → M7 s = vl 0 128 191 (s.data.toList.drop k) → Ak.Bh R s k σ := fun k hd hk he => by
     refine Ak.A0 ⟨fun _ => ?_,fun A6 => by omega⟩
     rw [List.drop_of_length_le (by omega)] at he
     rw [he] at h; exact h
   refine ⟨A,fun k m lo hi hd hk he hm => Ak.fD ⟨fun h0 => A k hd hk ?_,fun h0 => ⟨fun _ => ?_,fun A6 => by omega⟩⟩⟩
   · have : m = 0 := by omega
     subst this; rw [he]; exact vl0 _ _ _ _ _
   · obtain ⟨m',rfl⟩ : ∃ m',m = m' + 1 := ⟨m - 1,by omega⟩
     rw [List.drop_of_length_le (by omega)] at he
     rw [he] at h; exact h
 | succ d ih =>
   have A : ∀ k : Nat,s.size - k = d + 1 → k ≤ s.size → M7 s = vl 0 128 191 (s.data.toList.drop k) → Ak.Bh R s k σ := fun k hd hk he => by
     have Gs : k < s.size := by omega
     obtain ⟨u,hu⟩ : ∃ u,s.data.toList[k]? = some u := ⟨_,List.getElem?_eq_getElem (by omega)⟩
     have CU : s.data[Int.toNat (k : Int)]? = some u := by simpa using hu
     have hi : AI ((k : Int) + 1) := by unfold AI; omega
     rw [BJ hu,vl] at he
     have st : ∀ (m lo hi : Nat),m ≤ 3 → M7 s = vl m lo hi (s.data.toList.drop (k + 1)) → Ak.HQ R s k m lo hi σ := fun m lo hh hm he => Ak.so ⟨hi,ih.2 (k + 1) m lo hh (by omega) (by omega) he hm⟩
     have nx : M7 s = vl 0 128 191 (s.data.toList.drop (k + 1)) → Ak.Bh R s ((k : Int) + 1) σ := fun he => ih.1 (k + 1) (by omega) (by omega) he
     have no : M7 s = false → R (.returned (.bool false)) σ := fun e => by rw [e] at h; exact h
     refine Ak.A0 ⟨fun A6 => by omega,fun _ => ⟨u,by omega,CU,?_⟩⟩
     generalize s.data.toList.drop (k + 1) = r at he st nx
     clear ih h hu CU
     generalize u.toNat = n at he
     have st1 := st 1 128 191 (by omega)
     have st2 := st 2 160 191 (by omega)
     have vF := st 2 128 159 (by omega)
     have st4 := st 2 128 191 (by omega)
     have st5 := st 3 144 191 (by omega)
     have st6 := st 3 128 143 (by omega)
     have st7 := st 3 128 191 (by omega)
     repeat' (first | refine ⟨fun _ => ?_,fun _ => ?_⟩ | refine ⟨hi,nx ?_⟩ | refine st1 ?_ | refine st2 ?_ | refine vF ?_ | refine st4 ?_ | refine st5 ?_ | refine st6 ?_ | refine st7 ?_ | refine no ?_)
     all_goals first | (exfalso; clear he; omega) | (rw [he]; repeat' (first | rfl | rw [if_pos (by omega)] | rw [if_neg (by omega)]))
   refine ⟨A,fun k m lo hi hd hk he hm => Ak.fD ⟨fun h0 => A k hd hk ?_,fun h0 => ⟨fun A6 => by omega,fun _ => ?_⟩⟩⟩
   · have : m = 0 := by omega
     subst this; rw [he]; exact vl0 _ _ _ _ _
   · obtain ⟨m',rfl⟩ : ∃ m',m = m' + 1 := ⟨m - 1,by omega⟩
     have Gs : k < s.size := by omega
     obtain ⟨u,hu⟩ : ∃ u,s.data.toList[k]? = some u := ⟨_,List.getElem?_eq_getElem (by omega)⟩
     have CU : s.data[Int.toNat (k : Int)]? = some u := by simpa using hu
     rw [BJ hu,vl] at he
     refine ⟨u,by omega,CU,fun h1 => ?_,fun h1 => ⟨u,by omega,CU,fun h2 => ?_,fun h2 => ⟨by unfold AI; omega,by unfold AI; omega,?_⟩⟩⟩
     · rw [if_pos (by omega)] at he
       rw [he] at h; exact h
     · rw [if_pos (by omega)] at he
       rw [he] at h; exact h
     · rw [if_neg (by omega)] at he
       have := ih.2 (k + 1) m' 128 191 (by omega) (by omega) he (by omega)
       have e1 : ((m' + 1 : Nat) : Int) - 1 = (m' : Nat) := by omega
       rw [e1]; exact this
end
end TwW
namespace TwW
open Go Tw Go.RowKit Go.Proofs.Tryz
section
variable {σ : Hp} {R : Rr}
def sle (a b : ByteArray) : Bool := Op.bytesLess a.toList b.toList || a.toList == b.toList
theorem oM {x y : Operand} {a b : ByteArray} {T : TypeId} : YF prog (do eqGuard .leq T x y (.string a) (.string b); binOp .leq T (.string a) (.string b)) σ (.bool (sle a b)) := fun w _ => by
 simp [eqGuard,binOp,Op.stringOp,sle]
def C1 : Option ByteArray → List Lb → Int
 | _,[] => 0
 | pv,x :: l => if CE x.1 = false then 31 else if x.2.size = 0 ∨ 256 < x.2.size ∨ M7 x.2 = false then 32 else if pv.any (sle x.1 ·) = true then 33 else C1 (some x.1) l
def EY (ls : List Lb) : Int := if 16 < ls.length then 30 else C1 none ls
theorem Qi {p : Option Addr} {n c : Nat} {ls : List Lb} (hr : EK σ p n ls) (h : R (.returned (.int .i64 (EY ls))) σ) : Spec prog 68 #[.slice p n c] σ R := by
 have hn : ls.length = n := hr.1
 refine EP.start ⟨fun h1 => ?_,fun h1 => ?_⟩
 · rw [EY,if_pos (by omega)] at h; exact h
 rw [EY,if_neg (by omega)] at h
 let pv : Nat → Option ByteArray := fun i => if i = 0 then none else (ls[i - 1]?).map (·.1)
 suffices H : ∀ d i : Nat,n - i = d → i ≤ n → C1 none ls = C1 (pv i) (ls.drop i) → EP.MM R p n c p n c n i σ from H n 0 rfl (Nat.zero_le _) rfl
 intro d
 induction d with
 | zero =>
   intro i hd hi he
   refine EP.I2 ⟨fun Ap => by omega,fun _ => ?_⟩
   rw [List.drop_of_length_le (by omega)] at he
   rw [he] at h; exact h
 | succ d ih =>
   intro i hd hi he
   have Bk : i < n := by omega
   obtain ⟨x,hx⟩ := hr.ex Bk
   obtain ⟨b,o,rfl,hl⟩ := EK.at hr hx
   rw [BJ hx,C1] at he
   have out : ∀ e : Int,C1 none ls = e → R (.returned (.int .i64 e)) σ := fun e h1 => h1 ▸ h
   refine EP.I2 ⟨fun _ => ?_,fun hh => by omega⟩
   refine ⟨b,o,rfl,by omega,x.1,x.2,by simpa using hl,fun _ => LN ⟨_,rfl,fun h1 => out _ ?_,fun h1 => ?_⟩⟩
   · rw [he,if_pos h1]
   rw [if_neg (by simp [h1])] at he
   rw [fQ]
   refine ⟨fun h2 => out _ ?_,fun h2 => ⟨fun h3 => out _ ?_,fun h3 => Qh (by omega) ⟨_,rfl,fun h4 => out _ ?_,fun h4 => ?_⟩⟩⟩
   · rw [he,if_pos (.inl (by simpa using h2))]
   · rw [he,if_pos (.inr (.inl (by omega)))]
   · rw [he,if_pos (.inr (.inr h4))]
   rw [if_neg (by rw [decide_eq_false_iff_not] at h2; simp [h2,h4]; omega)] at he
   have nx : pv (i + 1) = some x.1 := by simp [pv,hx]
   have go : (pv i).any (sle x.1 ·) = false → EP.MM R (aD b o) n c (aD b o) n c n ((i : Int) + 1) σ := fun h5 => by
     rw [if_neg (by simp [h5]),← nx] at he
     exact ih (i + 1) (by omega) (by omega) he
   refine ⟨fun h5 => ?_,fun h5 => ⟨AL Bk hr.big,go ?_⟩⟩
   · obtain ⟨y,hy⟩ := hr.ex (k := i - 1) (by omega)
     obtain ⟨b',o',hp,eY⟩ := EK.at hr hy
     cases hp
     have e1 : ((i : Int) - 1).toNat = i - 1 := by omega
     have hpv : pv i = some y.1 := by simp [pv,hy,show i ≠ 0 by omega]
     refine ⟨by have := hr.big; unfold AI; omega,b,o,rfl,by omega,y.1,by rw [e1]; exact eY.1,_,oM,fun h6 => out _ ?_,fun h6 => ⟨AL Bk hr.big,go ?_⟩⟩
     · rw [he,if_pos (by rw [hpv]; exact h6)]
     · rw [hpv]; exact h6
   · have : i = 0 := by omega
     simp [pv,this]
theorem VF : ∀ {ls : List Lb} {pv : Option ByteArray},C1 pv ls = 0 → ∀ x ∈ ls,CE x.1 = true ∧ 0 < x.2.size ∧ x.2.size ≤ 256 ∧ M7 x.2 = true
 | [],_,_,_,hx => by cases hx
 | y :: l,pv,h,x,hx => by
   rw [C1] at h
   split at h
   · cases h
   split at h
   · cases h
   split at h
   · cases h
   rename_i h1 h2 h3
   rcases List.mem_cons.1 hx with rfl | hx
   · simp only [not_or,Bool.not_eq_false] at h1 h2
     exact ⟨h1,by omega,by omega,h2.2.2⟩
   · exact VF h x hx
def An (ls : List Lb) : Prop := ls.length ≤ 16 ∧ ∀ x ∈ ls,x.1.size ≤ 256 ∧ x.2.size ≤ 256
theorem An.of {ls : List Lb} (h : EY ls = 0) : An ls := by
 unfold EY at h
 split at h
 · cases h
 · refine ⟨by omega,fun x hx => ?_⟩
   obtain ⟨h1,_,h2,_⟩ := VF h x hx
   simp [CE] at h1
   exact ⟨by omega,h2⟩
theorem Bt.one (σ : Hp) (vs : List Value) (x : Lb) (h : Bt σ vs x) : GX vs := by
 rw [h]
 intro u hu
 simp only [List.mem_cons,List.not_mem_nil,or_false] at hu
 rcases hu with rfl | rfl <;> rfl
theorem FX {σ1 : Hp} {q : Option Addr} {j c b : Nat} {ls : List Lb} {ty : TypeId} {Φ : Value → Hp → Prop} (ht : EK σ1 q j ls) (hb : j ≤ 1000000000)
   (hΦ : ∀ p' c' σ',GY 2 Bt (σ1.new σ') p' j c' ls → Ext σ1 σ' → Φ (.slice p' j c') σ') (hn : σ1 b = none) :
   AK prog (Builtin.append_ #[37,37] ty #[.slice (some ⟨b,0,none⟩) 0 0,.slice q j c]) (σ1.set b (.cells #[] 56 (0,0))) Φ := by
 obtain ⟨h1,cs,h2,h3⟩ := ht
 refine DP A8.empty (h2.mono (.set hn)) (Ch.kI Bt.one h3 (by decide)) (by omega) fun p' c' σ' Bg JL => ?_
 have hq : ∀ a : Addr,(some (⟨b,0,none⟩ : Addr)) = some a → σ1 a.block = none := fun a ha => by cases ha; exact hn
 rw [Nat.zero_add] at Bg ⊢
 rw [List.nil_append] at Bg
 exact hΦ p' c' σ' ⟨h1,cs,A8.On Bg (FN hq JL (.set hn)),h3⟩ (Iy hq JL (.set hn))
def VH (x : Lb) : List Int := uv x.1.size ++ byt x.1 ++ (uv x.2.size ++ byt x.2)
def AAg (ls : List Lb) : List Int := uv ls.length ++ ls.flatMap VH
theorem iP {x : Lb} (h : x.1.size ≤ 256 ∧ x.2.size ≤ 256) : (VH x).length ≤ 532 := by
 have h1 := LM (x := x.1.size) (by omega)
 have h2 := LM (x := x.2.size) (by omega)
 simp only [VH,List.length_append,fP]
 omega
theorem oN {ls : List Lb} (h : ∀ x ∈ ls,x.1.size ≤ 256 ∧ x.2.size ≤ 256) : (ls.flatMap VH).length ≤ ls.length * 532 := by
 induction ls with
 | nil => simp
 | cons x l ih =>
   have := ih fun y hy => h y (List.mem_cons_of_mem _ hy)
   have := iP (h x (by simp))
   rw [List.flatMap_cons,List.length_append,List.length_cons]
   omega
theorem Wc {p : Option Addr} {n c : Nat} {ls : List Lb} (hr : EK σ p n ls) (hs : An ls) (h : ∀ p' n' c' σ',D2 .u8 (σ.new σ') p' n' c' (AAg ls) → Ext σ σ' → R (.returned (.slice p' n' c')) σ') : Spec prog 72 #[.slice p n c] σ R := by
 have hn : ls.length = n := hr.1
 have h16 := hs.1
 refine Ex.start fun x8 h8 => ?_
 have e8 : x8 = (n : Int) := by rw [h8]; simp [IntKind.wrap,IntKind.bits,IntKind.signed]; omega
 subst e8
 refine N5 Ae.nil (by omega) (by omega) fun p1 n1 c1 σ1 bW CH => ⟨p1,n1,c1,rfl,?_⟩
 rw [List.nil_append] at bW
 suffices H : ∀ d k : Nat,∀ p3 n3 c3 σ3,n - k = d → k ≤ n → D2 .u8 (σ.new σ3) p3 n3 c3 (uv n ++ (ls.take k).flatMap VH) → Ext σ σ3 → Ex.A7 R p3 n3 c3 p n c n k σ3 from H n 0 p1 n1 c1 σ1 rfl (Nat.zero_le _) (by simpa using bW) CH
 intro d
 induction d with
 | zero =>
   intro k p3 n3 c3 σ3 hd hk ho hx
   refine Ex.Aa ⟨fun Ap => by omega,fun _ => h p3 n3 c3 σ3 ?_ hx⟩
   rw [List.take_of_length_le (by omega)] at ho
   rw [AAg,hn]; exact ho
 | succ d ih =>
   intro k p3 n3 c3 σ3 hd hk ho hx
   have Gs : k < n := by omega
   obtain ⟨y,hy⟩ := hr.ex Gs
   obtain ⟨b,o,rfl,hl⟩ := EK.at hr hy
   have jx := hs.2 y (List.mem_of_getElem? hy)
   have hl3 := P8 ho
   have TJ := LM (x := n) (by omega)
   have hfl := oN (ls := ls.take k) fun x hx => hs.2 x (List.mem_of_mem_take hx)
   rw [List.length_append] at hl3
   rw [List.length_take] at hfl
   have h3b : n3 ≤ 9000 := by omega
   refine Ex.Aa ⟨fun _ => ⟨b,o,rfl,by omega,y.1,y.2,by simpa using hl.mono hx,fun _ => ?_⟩,fun hh => by omega⟩
   refine N6 (D2.rd (A8.mono (Ext.Cq _ _) ho)) (by omega) (by omega) fun p4 n4 c4 σ4 Mh NT => ⟨p4,n4,c4,rfl,?_⟩
   have hl4 := P8 Mh
   have iQ := LM (x := y.1.size) (by omega)
   simp only [List.length_append,fP] at hl4
   refine N6 (D2.rd (A8.mono (Ext.Cq _ _) Mh)) (by omega) (by omega) fun p5 n5 c5 σ5 RB UT => ⟨p5,n5,c5,rfl,AL Gs hr.big,?_⟩
   refine ih (k + 1) p5 n5 c5 σ5 (by omega) (by omega) ?_ (hx.trans (NT.trans UT))
   have := A8.mono (Ext.Ci (hx.trans NT)) RB
   rw [AY hy,List.flatMap_append]
   simpa [VH,D2] using this
end
end TwW
namespace TwW
open Go Tw Go.RowKit Go.Proofs.Tryz
section
variable {σ σ' τ : Hp} {R : Rr}
def C5 (x : ByteArray) (xs : List ByteArray) : Bool := xs.any fun y => decide (x = y)
theorem BF {x : ByteArray} {xs : List ByteArray} : C5 x xs = true ↔ x ∈ xs := by simp [C5]
theorem LO {p : Option Addr} {n c : Nat} {x : ByteArray} {xs : List ByteArray} (hr : E9 1 σ p n (xs.map .string)) (h : R (.returned (.bool (C5 x xs))) σ) : Spec prog 199 #[.slice p n c,.string x] σ R := by
 have hn : xs.length = n := by have := hr.1; simpa using this
 have JM : n ≤ 4611686018427387904 := hr.2.1
 have key : ∀ i : Int,(0 ≤ i ↔ x ∈ xs) → AA R (CI .i64 fun x7 y => R (.returned (.bool (decide (0 ≤ x7)))) y) (.returned (.int .i64 i)) σ := fun i hi => ⟨i,rfl,by
   dsimp only
   rw [show decide (0 ≤ i) = C5 x xs by rw [Bool.eq_iff_iff,BF,decide_eq_true_eq]; exact hi]; exact h⟩
 refine Ej.start (BP.start ?_)
 suffices H : ∀ d k : Nat,n - k = d → k ≤ n → x ∉ xs.take k → BP.H3 (AA R (CI .i64 fun x7 y => R (.returned (.bool (decide (0 ≤ x7)))) y)) p n c x n k σ from H n 0 rfl (Nat.zero_le _) (by simp)
 intro d
 induction d with
 | zero =>
   intro k hd hk EB
   refine BP.Bp ⟨fun Ap => by omega,fun _ => key (-1) ?_⟩
   rw [List.take_of_length_le (by omega)] at EB
   exact ⟨fun h => absurd h (by decide),fun h => absurd h EB⟩
 | succ d ih =>
   intro k hd hk EB
   have Gs : k < n := by omega
   obtain ⟨y,hy⟩ : ∃ y,xs[k]? = some y := ⟨_,List.getElem?_eq_getElem (by omega)⟩
   obtain ⟨b,o,rfl,hl⟩ := E9.at1 hr (k := k) (v := .string y) (by rw [List.getElem?_map,hy]; rfl)
   refine BP.Bp ⟨fun _ => ⟨b,o,rfl,by omega,y,by simpa using hl,fun he => key k ⟨fun _ => ?_,fun _ => by omega⟩,fun A6 => ⟨AL Gs JM,ih (k + 1) (by omega) (by omega) ?_⟩⟩,fun cM => by omega⟩
   · rw [UR,decide_eq_true_eq] at he
     rw [he]; exact List.mem_of_getElem? hy
   · rw [UR,decide_eq_false_iff_not] at A6
     rw [UG hy]
     rintro (h1 | h1)
     · exact EB h1
     · exact A6 h1
theorem P9 {f : Nat} {cap : Array Value} {g : Lb → Bool} {p : Option Addr} {n c : Nat} {ls : List Lb} (Oh : Enters prog f) (hr : EK σ p n ls) (hn : n ≤ 1000000)
   (hf : ∀ (σ' : Hp) (x : Lb) (R' : Rr),Ext σ σ' → R' (.returned (.bool (g x))) σ' → Spec prog f (#[] ++ #[.agg #[.string x.1,.string x.2]] ++ cap) σ' R')
   (h : ∀ p' n' c' σ',GY 2 Bt (σ.new σ') p' n' c' (ls.filter g) → Ext σ σ' → R (.returned (.slice p' n' c')) σ') : Spec prog 197 #[.slice p n c,.func (.func f) #[] cap] σ R := by
 have tV : ls.length = n := hr.1
 refine Ca.start ?_
 suffices H : ∀ d k : Nat,∀ p5 n5 c5 σ5,n - k = d → k ≤ n → GY 2 Bt (σ.new σ5) p5 n5 c5 ((ls.take k).filter g) → Ext σ σ5 → Ca.A7 R (.func (.func f) #[] cap) p5 n5 c5 p n c n k σ5 from H n 0 none 0 0 σ rfl (Nat.zero_le _) GY.nil (.refl _)
 intro d
 induction d with
 | zero =>
   intro k p5 n5 c5 σ5 hd hk ho hx
   refine Ca.Aa ⟨fun Ap => by omega,fun _ => h p5 n5 c5 σ5 ?_ hx⟩
   rw [List.take_of_length_le (by omega)] at ho; exact ho
 | succ d ih =>
   intro k p5 n5 c5 σ5 hd hk ho hx
   have Gs : k < n := by omega
   obtain ⟨x,iR⟩ := hr.ex Gs
   obtain ⟨b,o,rfl,hl⟩ := EK.at hr iR
   have hn5 : n5 ≤ n := by
     have h1 := ho.1
     have h2 := List.length_filter_le g (ls.take k)
     rw [List.length_take] at h2
     omega
   have ht : (ls.take (k + 1)).filter g = (ls.take k).filter g ++ if g x then [x] else [] := by
     rw [AY iR,List.filter_append]
     by_cases hg : g x <;> simp [hg]
   refine Ca.Aa ⟨fun _ => ⟨b,o,rfl,by omega,x.1,x.2,by simpa using hl.mono hx,fun _ => ⟨f,#[],cap,rfl,Oh,hf σ5 x _ hx ⟨_,rfl,fun hg DO AM1 => ?_,fun hg => ?_⟩⟩⟩,fun hh => by omega⟩
   · refine GY.Jq Bt.mono (vs := [.string x.1,.string x.2]) (x := x) hx ho rfl (Bt.one σ _ _ rfl) rfl (by omega) (fun p' c' σ' MK Wd => ⟨_,_,_,rfl,Ca.Lu ⟨AL Gs hr.big,ih (k + 1) _ _ _ _ (by omega) (by omega) ?_ Wd⟩⟩) AM1
     rw [ht,if_pos hg]; exact MK
   · refine Ca.Lu ⟨AL Gs hr.big,ih (k + 1) _ _ _ _ (by omega) (by omega) ?_ hx⟩
     rw [ht,if_neg (by simp [hg]),List.append_nil]; exact ho
theorem AHO : Enters prog 200 := fun args w => call200 args w
theorem JN {p q : Option Addr} {n c m d : Nat} {ls : List Lb} {ns : List ByteArray} (hr : EK σ p n ls) (hn : n ≤ 1000000) (hs : E9 1 σ q m (ns.map .string))
   (h : ∀ p' n' c' σ',GY 2 Bt (σ.new σ') p' n' c' (ls.filter fun x => !C5 x.1 ns) → Ext σ σ' → R (.returned (.slice p' n' c')) σ') : Spec prog 150 #[.slice p n c,.slice q m d] σ R := by
 refine Mf.start fun b3 aR => ?_
 have C2 : Ext σ (σ.set b3 (.cells #[.slice q m d] 34 (0,0))) := .set aR
 refine P9 (f := 200) (g := fun x => !C5 x.1 ns) AHO (hr.mono Bt.mono C2) hn (fun σ' x R' hx Lw => ?_) fun p' n' c' σ' ho hx => ⟨_,_,_,rfl,h p' n' c' σ' ?_ (C2.trans hx)⟩
 · refine Jm.start fun _ => ⟨q,m,d,Af (hx _ _ (Hp.AB _ _ _)) rfl,LO (hs.mono (C2.trans hx)) ⟨_,rfl,Lw⟩⟩
 · exact ho.mono Bt.mono (Ext.Ci C2)
end
end TwW
namespace TwW
open Go Tw Go.RowKit Go.Proofs.Tryz
section
variable {σ σ' τ : Hp} {R : Rr}
theorem We {α : Type} {b : Nat} {T : TypeId} {f : α → Value} {x : α} {ρ : Hp} (h : ρ b = some (.cells #[f x] T (0,0))) : E9 1 ρ (some ⟨b,0,none⟩) 1 ([x].map f) := ⟨rfl,by omega,.inr ⟨b,0,rfl,⟨Af h rfl,trivial⟩⟩⟩
end
end TwW
end
section
namespace TwW
open Go Tw
structure Mt where
 kind : Int
 name : ByteArray
 val : ByteArray
structure Nd where
 kind : Int
 op : Int
 text : ByteArray
 mt : List Mt
 width : Int
 back : Int
 Ea : Int
 names : List ByteArray
 bool : Bool
 parts : Int
structure Sr where
 ls : List Lb
 ps : List (Int × Int)
structure El where
 ls : List Lb
 v : Int
structure Rg where
 ls : List Lb
 vs : List Int
structure Vv where
 kind : Int
 v : Int
 vec : List El
 Ox : List Rg
structure Fl where
 num : ByteArray → Int
 abs : Int → Int
 floor : Int → Int
 whole : Int → Int
 oO : Int → Int
 over : Int → List Int → Int → Option Int
 fold : Int → List Int → Int
 N7 : Int → Int → Int → Int × Bool
 ZC : List Mt → List Lb → Bool
 cmpL : List Lb → List Lb → Int
abbrev IZ : Int := 9218868437227405314
def A1 : ByteArray := ⟨#[95,95,110,97,109,101,95,95]⟩
def Gb (ls : List Lb) : ByteArray := strOfNums (AAg ls)
section
variable {α : Type}
def Wf : List (ByteArray × α) → ByteArray → α → List (ByteArray × α)
 | [],k,x => [(k,x)]
 | (a,b) :: l,k,x => if a = k then (k,x) :: l else (a,b) :: Wf l k x
def Dn : List (ByteArray × α) → ByteArray → Option α
 | [],_ => none
 | (a,b) :: l,k => if a = k then some b else Dn l k
end
def BI (ls : List Lb) : List Lb := ls.filter fun x => !C5 x.1 [A1]
def ZD (ns : List ByteArray) (ls : List Lb) : List Lb := ls.filter fun x => C5 x.1 ns
def ZE (ns : List ByteArray) (ls : List Lb) : List Lb := ls.filter fun x => !C5 x.1 ns
section
variable (F : Fl)
def cR (x : El) : List El → List El
 | [] => [x]
 | y :: l => if F.cmpL x.ls y.ls ≤ 0 then x :: y :: l else y :: cR x l
def ZF (l : List El) : List El := l.foldr (cR F) []
def BY (l : List El) : Option (List El) := if l.Pairwise (fun a b => F.cmpL a.ls b.ls ≠ 0) then some (ZF F l) else none
def F2 (ps : List (Int × Int)) (EA HF : Int) : List (Int × Int) := ps.filter fun p => decide (EA < p.1) && decide (p.1 ≤ HF)
def Ad (n : Nd) (ss : List Sr) (at_ : Int) : List El := ss.filterMap fun s => match (F2 s.ps (at_ - n.back - 300) (at_ - n.back)).getLast? with
 | none => none
 | some p => if p.2 = IZ ∨ F.ZC n.mt s.ls = false then none else some ⟨s.ls,p.2⟩
def Wg (n : Nd) (ss : List Sr) (at_ : Int) : List Rg := ss.filterMap fun s =>
 let vs := ((F2 s.ps (at_ - n.back - n.width) (at_ - n.back)).filter fun p => decide (p.2 ≠ IZ)).map Prod.snd
 bif !vs.isEmpty && F.ZC n.mt s.ls then some ⟨s.ls,vs⟩ else none
def TL (n : Nd) (p : Vv) : List El := (p.vec.map fun x => ⟨BI x.ls,if n.op = 11 then F.abs x.v else F.floor x.v⟩) ++ p.Ox.filterMap fun s => (F.over n.op s.vs p.v).map fun v => ⟨BI s.ls,v⟩
def DK (n : Nd) (ls : List Lb) : List Lb := if n.Ea = 1 then ZD n.names ls else if n.Ea = 2 then BI (ZE n.names ls) else []
def Gc (ls : List Lb) (v : Int) : List Rg → List Rg
 | [] => [⟨ls,[v]⟩]
 | g :: l => if Gb g.ls = Gb ls then ⟨g.ls,g.vs ++ [v]⟩ :: l else g :: Gc ls v l
def Qj (n : Nd) (p : Vv) : List El := (p.vec.foldl (fun gs x => Gc (DK n x.ls) x.v gs) []).map fun g => ⟨g.ls,F.fold n.op g.vs⟩
def E2 (op : Int) : Bool := decide (5 ≤ op) && decide (op ≤ 10)
def Hy (n : Nd) (vec : List El) (f : Int → Int × Bool) : List El := vec.filterMap fun x =>
 if E2 n.op = false ∨ n.bool = true then some ⟨BI x.ls,(f x.v).1⟩ else if (f x.v).2 then some x else none
def NU (n : Nd) (ls : List Lb) : List Lb := if n.Ea = 3 then ZD n.names ls else BI (ZE n.names ls)
def Wh (n : Nd) (l : List El) : List (ByteArray × El) := l.foldl (fun m x => Wf m (Gb (NU n x.ls)) x) []
def VI (n : Nd) (l : List El) (k : List Lb) : Option El := Dn (Wh n l) (Gb k)
def iS (n : Nd) (l : List El) : Bool := decide ((Wh n l).length = l.length)
def Mi (n : Nd) (x y : List El) : List El :=
 (x.filter fun e => decide (n.op = 12) || ((VI n y (NU n e.ls)).isSome == decide (n.op = 11))) ++ y.filter fun e => (VI n x (NU n e.ls)).isNone && decide (n.op = 12)
def N8 (n : Nd) (x y : List El) : Option (List El) := if iS n x && iS n y then some (x.filterMap fun e => match VI n y (NU n e.ls) with
 | none => none
 | some o => if E2 n.op = false ∨ n.bool = true then some ⟨NU n e.ls,(F.N7 n.op e.v o.v).1⟩ else if (F.N7 n.op e.v o.v).2 then some e else none) else none
def ZG (n : Nd) (x y : Vv) : Option Vv :=
 if x.kind = 1 ∧ y.kind = 1 then some ⟨1,(F.N7 n.op x.v y.v).1,[],[]⟩
 else ((if x.kind = 1 then some (Hy n y.vec (F.N7 n.op x.v)) else if y.kind = 1 then some (Hy n x.vec fun v => F.N7 n.op v y.v) else if 11 ≤ n.op ∧ n.op ≤ 13 then some (Mi n x.vec y.vec) else N8 F n x.vec y.vec).bind (BY F)).map fun l => ⟨2,0,l,[]⟩
def iT (p : Vv) : Option Vv := if p.kind = 1 then some ⟨1,F.oO p.v,[],[]⟩ else (BY F (p.vec.map fun x => ⟨BI x.ls,F.oO x.v⟩)).map fun l => ⟨2,0,l,[]⟩
def CA (ss : List Sr) (at_ : Int) (n : Nd) (l : List Vv) : Option Vv :=
 if n.kind = 1 then some ⟨1,F.num n.text,[],[]⟩
 else if n.kind = 2 then some ⟨2,0,Ad F n ss at_,[]⟩
 else if n.kind = 3 then some ⟨3,F.whole n.width,[],Wg F n ss at_⟩
 else match l with
   | [p] => if n.kind = 4 then (BY F (TL F n p)).map fun l => ⟨2,0,l,[]⟩ else if n.kind = 5 then (BY F (Qj F n p)).map fun l => ⟨2,0,l,[]⟩ else if n.kind = 7 then iT F p else none
   | [p,q] => if n.kind = 6 then ZG F n p q else none
   | _ => none
def F3 (ss : List Sr) (at_ : Int) : List Nd → List Vv → Option (List Vv)
 | [],st => some st
 | n :: t,st => (CA F ss at_ n (st.drop (st.length - n.parts.toNat))).bind fun v => F3 ss at_ t (st.take (st.length - n.parts.toNat) ++ [v])
def BC (t : List Nd) (ss : List Sr) (at_ : Int) : Option (List El) := (F3 F ss at_ t []).bind fun st => st.head?.map fun v => if v.kind = 1 then [⟨[],v.v⟩] else v.vec
end
section
variable {F : Fl}
end
end TwW
end
section
namespace TwW
open Go Tw
structure Mj {α : Type} (c : α → α → Int) : Prop where
 eq : ∀ x y,c x y = 0 ↔ x = y
 TM : ∀ x y,c x y < 0 ↔ 0 < c y x
 trans : ∀ x y z,c x y < 0 → c y z < 0 → c x z < 0
def Ia {α : Type} (c : α → α → Int) : List α → List α → Int
 | [],[] => 0
 | [],_ :: _ => -1
 | _ :: _,[] => 1
 | x :: l,y :: m => if c x y = 0 then Ia c l m else c x y
def JO {α β : Type} (c : α → α → Int) (d : β → β → Int) (x y : α × β) : Int := if c x.1 y.1 = 0 then d x.2 y.2 else c x.1 y.1
theorem Mj.Ia {α : Type} {c : α → α → Int} (h : Mj c) : Mj (Ia c) := by
 refine ⟨fun l => ?_,fun l => ?_,fun l => ?_⟩
 · induction l with
   | nil => intro m; cases m <;> simp [TwW.Ia]
   | cons x l ih =>
     intro m
     cases m with
     | nil => simp [TwW.Ia]
     | cons y m =>
       unfold TwW.Ia
       by_cases hc : c x y = 0
       · rw [if_pos hc,ih]; simp [(h.eq x y).1 hc]
       · rw [if_neg hc]; simp [hc,mt (h.eq x y).2 hc]
 · induction l with
   | nil => intro m; cases m <;> simp [TwW.Ia]
   | cons x l ih =>
     intro m
     cases m with
     | nil => simp [TwW.Ia]
     | cons y m =>
       unfold TwW.Ia
       by_cases hc : c x y = 0
       · have Wi := (h.eq x y).1 hc
         rw [if_pos hc,if_pos ((h.eq y x).2 Wi.symm),ih]
       · have hc' : c y x ≠ 0 := fun e => hc ((h.eq x y).2 ((h.eq y x).1 e).symm)
         rw [if_neg hc,if_neg hc',h.TM]
 · induction l with
   | nil =>
     intro m k h1 h2
     cases m with
     | nil => simp [TwW.Ia] at h1
     | cons y m =>
       cases k with
       | nil => simp [TwW.Ia] at h2
       | cons z k => simp [TwW.Ia]
   | cons x l ih =>
     intro m k h1 h2
     cases m with
     | nil => simp [TwW.Ia] at h1
     | cons y m =>
       cases k with
       | nil => simp [TwW.Ia] at h2
       | cons z k =>
         unfold TwW.Ia at h1 h2 ⊢
         by_cases Wi : c x y = 0
         · rw [if_pos Wi] at h1
           have e := (h.eq x y).1 Wi
           subst e
           by_cases cS : c x z = 0
           · rw [if_pos cS] at h2 ⊢; exact ih m k h1 h2
           · rw [if_neg cS] at h2 ⊢; exact h2
         · rw [if_neg Wi] at h1
           by_cases cS : c y z = 0
           · rw [if_pos cS] at h2
             have e := (h.eq y z).1 cS
             subst e
             rw [if_neg Wi]; exact h1
           · rw [if_neg cS] at h2
             have h3 := h.trans x y z h1 h2
             rw [if_neg (by omega)]; exact h3
theorem Mj.JO {α β : Type} {c : α → α → Int} {d : β → β → Int} (h : Mj c) (g : Mj d) : Mj (JO c d) := by
 refine ⟨fun x y => ?_,fun x y => ?_,fun x y z h1 h2 => ?_⟩
 · obtain ⟨x1,x2⟩ := x
   obtain ⟨y1,y2⟩ := y
   unfold TwW.JO
   by_cases hc : c x1 y1 = 0
   · simp only [hc,if_pos]; rw [g.eq]; simp [(h.eq x1 y1).1 hc]
   · simp only [hc,if_false]; simp [hc,mt (h.eq x1 y1).2 hc]
 · unfold TwW.JO
   by_cases hc : c x.1 y.1 = 0
   · rw [if_pos hc,if_pos ((h.eq _ _).2 ((h.eq _ _).1 hc).symm),g.TM]
   · rw [if_neg hc,if_neg (fun e => hc ((h.eq _ _).2 ((h.eq _ _).1 e).symm)),h.TM]
 · unfold TwW.JO at h1 h2 ⊢
   by_cases Wi : c x.1 y.1 = 0
   · rw [if_pos Wi] at h1
     rw [(h.eq _ _).1 Wi]
     by_cases cS : c y.1 z.1 = 0
     · rw [if_pos cS] at h2 ⊢; exact g.trans _ _ _ h1 h2
     · rw [if_neg cS] at h2 ⊢; exact h2
   · rw [if_neg Wi] at h1
     by_cases cS : c y.1 z.1 = 0
     · rw [if_pos cS] at h2
       rw [← (h.eq _ _).1 cS,if_neg Wi]; exact h1
     · rw [if_neg cS] at h2
       have h3 := h.trans _ _ _ h1 h2
       rw [if_neg (by omega)]; exact h3
def cU (a b : UInt8) : Int := if a < b then -1 else if b < a then 1 else 0
theorem Wj {a b : UInt8} : cU a b < 0 ↔ a.toNat < b.toNat := by
 unfold cU
 by_cases h : a < b
 · have := UInt8.lt_iff_toNat_lt.1 h; simp [h,this]
 · have h' := mt UInt8.lt_iff_toNat_lt.2 h
   rw [if_neg h]
   by_cases g : b < a <;> simp [g] <;> omega
theorem fR {a b : UInt8} : 0 < cU a b ↔ b.toNat < a.toNat := by
 unfold cU
 by_cases h : a < b
 · have := UInt8.lt_iff_toNat_lt.1 h; simp [h]; omega
 · rw [if_neg h]
   by_cases g : b < a
   · have := UInt8.lt_iff_toNat_lt.1 g; simp [g,this]
   · have h' := mt UInt8.lt_iff_toNat_lt.2 g; simp [g]; omega
theorem tW : Mj cU := by
 refine ⟨fun x y => ?_,fun x y => ?_,fun x y z h1 h2 => ?_⟩
 · have h1 := @Wj x y
   have h2 := @fR x y
   rw [← UInt8.toNat_inj]; omega
 · rw [Wj,fR]
 · rw [Wj] at *; omega
theorem oP : ∀ a b : List UInt8,Ia cU a b = Lib.compareBytes a b
 | [],[] => rfl
 | [],_ :: _ => rfl
 | _ :: _,[] => rfl
 | x :: l,y :: m => by
   unfold Ia Lib.compareBytes
   rw [← oP l m]
   unfold cU
   by_cases h1 : x < y
   · simp [h1]
   · by_cases h2 : y < x <;> simp [h1,h2]
def Di (a b : ByteArray) : Int := Lib.compareBytes a.data.toList b.data.toList
theorem fS : Mj Di := by
 have h := tW.Ia
 refine ⟨fun x y => ?_,fun x y => ?_,fun x y z h1 h2 => ?_⟩
 · unfold Di
   rw [← oP,h.eq]
   exact ⟨fun e => by cases x; cases y; simp at e; rw [e],fun e => by rw [e]⟩
 · unfold Di; rw [← oP,← oP]; exact h.TM _ _
 · unfold Di at *; rw [← oP] at *; exact h.trans _ _ _ h1 h2
def Au : List Lb → List Lb → Int := Ia (JO Di Di)
theorem AZ : Mj Au := (fS.JO fS).Ia
section
variable {F : Fl} (hF : F.cmpL = Au)
theorem PJ (x : El) : ∀ l : List El,(cR F x l).Perm (x :: l)
 | [] => List.Perm.refl _
 | y :: l => by
   unfold cR
   split
   · exact List.Perm.refl _
   · exact ((PJ x l).cons y).trans (List.Perm.swap ..)
theorem HG : ∀ l : List El,(ZF F l).Perm l
 | [] => List.Perm.refl _
 | x :: l => (PJ x _).trans ((HG l).cons x)
include hF
theorem le_trans' {x y z : El} (h1 : F.cmpL x.ls y.ls ≤ 0) (h2 : F.cmpL y.ls z.ls ≤ 0) : F.cmpL x.ls z.ls ≤ 0 := by
 rw [hF] at *
 rcases Int.lt_or_eq_of_le h1 with g1 | g1
 · rcases Int.lt_or_eq_of_le h2 with g2 | g2
   · exact Int.le_of_lt (AZ.trans _ _ _ g1 g2)
   · rw [← (AZ.eq _ _).1 g2]; exact h1
 · rw [(AZ.eq _ _).1 g1]; exact h2
theorem QA (x : El) : ∀ l : List El,l.Pairwise (fun a b => F.cmpL a.ls b.ls ≤ 0) → (cR F x l).Pairwise fun a b => F.cmpL a.ls b.ls ≤ 0
 | [],_ => by simp [cR]
 | y :: l,h => by
   rw [List.pairwise_cons] at h
   unfold cR
   split
   · rename_i Wi
     refine List.pairwise_cons.2 ⟨fun z hz => ?_,List.pairwise_cons.2 h⟩
     rcases List.mem_cons.1 hz with rfl | hz
     · exact Wi
     · exact le_trans' hF Wi (h.1 z hz)
   · rename_i Wi
     refine List.pairwise_cons.2 ⟨fun z hz => ?_,QA x l h.2⟩
     rcases List.mem_cons.1 ((PJ x l).mem_iff.1 hz) with rfl | hz
     · have h1 : 0 < F.cmpL z.ls y.ls := by omega
       rw [hF] at *
       exact Int.le_of_lt ((AZ.TM _ _).2 h1)
     · exact h.1 z hz
theorem JP : ∀ l : List El,(ZF F l).Pairwise fun a b => F.cmpL a.ls b.ls ≤ 0
 | [] => List.Pairwise.nil
 | x :: l => QA hF x _ (JP l)
theorem iU {l m : List El} (hp : m.Perm l) (hs : m.Pairwise fun a b => F.cmpL a.ls b.ls < 0) : BY F l = some m := by
 have A6 : m.Pairwise fun a b => F.cmpL a.ls b.ls ≠ 0 := hs.imp fun h => by omega
 have AM2 : l.Pairwise fun a b => F.cmpL a.ls b.ls ≠ 0 := (hp.pairwise_iff fun {a b} h e => by
   rw [hF] at *
   exact h ((AZ.eq _ _).2 ((AZ.eq _ _).1 e).symm)).1 A6
 unfold BY
 rw [if_pos AM2]
 refine congrArg some (List.Perm.eq_of_pairwise (le := fun a b : El => F.cmpL a.ls b.ls ≤ 0) (fun a b ha hb h1 h2 => ?_) (JP hF l) (hs.imp fun h => Int.le_of_lt h) ((HG l).trans hp.symm))
 have aS : F.cmpL a.ls b.ls = 0 := by
   refine Int.le_antisymm h1 (Int.not_lt.1 fun h3 => ?_)
   rw [hF] at *
   have := (AZ.TM _ _).1 h3
   omega
 have ham := ((HG (F := F) l).trans hp.symm).mem_iff.1 ha
 obtain ⟨i,hi,rfl⟩ := List.mem_iff_getElem.1 ham
 obtain ⟨j,hj,rfl⟩ := List.mem_iff_getElem.1 hb
 have jy := List.pairwise_iff_getElem.1 A6
 rcases Nat.lt_trichotomy i j with h | h | h
 · exact absurd aS (jy i j hi hj h)
 · subst h; rfl
 · have h4 := jy j i hj hi h
   rw [hF] at aS h4
   exact absurd ((AZ.eq _ _).2 ((AZ.eq _ _).1 aS).symm) h4
theorem iV {l m : List El} (hp : m.Perm l) (h : ¬ m.Pairwise fun a b => F.cmpL a.ls b.ls ≠ 0) : BY F l = none := by
 unfold BY
 rw [if_neg fun hl => h ((hp.pairwise_iff fun {a b} h e => by
   rw [hF] at *
   exact h ((AZ.eq _ _).2 ((AZ.eq _ _).1 e).symm)).2 hl)]
end
end TwW
end
section
namespace TwW
open Go Tw
def EZ (c : UInt8) (s : ByteArray) : List ByteArray := Lib.splitB ⟨#[c]⟩ 0 (Lib.countB s ⟨#[c]⟩) s
def iW : List ByteArray → ByteArray → Bool
 | [],_ => true
 | t :: r,s => if Lib.index s.data.toList t.data.toList < 0 then false else iW r (s.extract ((Lib.index s.data.toList t.data.toList).toNat + t.size) s.size)
def isK (l : List ByteArray) (s : ByteArray) : Bool :=
 let a := l.head?.getD ⟨#[]⟩
 let z := l.getLast?.getD ⟨#[]⟩
 if l.length = 1 then decide (s = a) else
   if s.size < a.size + z.size ∨ s.extract 0 a.size ≠ a ∨ s.extract (s.size - z.size) s.size ≠ z then false else iW l.tail.dropLast (s.extract a.size (s.size - z.size))
def ZH (p s : ByteArray) : Bool := (EZ 124 p).any fun x => isK (EZ 42 x) s
def N9 (m : Mt) (ls : List Lb) : Bool :=
 let v := DA ls m.name
 if m.kind = 1 then decide (v = m.val) else if m.kind = 2 then decide (v ≠ m.val) else if m.kind = 3 then ZH m.val v else if m.kind = 4 then !ZH m.val v else false
def Jo (ms : List Mt) (ls : List Lb) : Bool := ms.all fun m => N9 m ls
def Bq (u : UInt8) : Bool := decide (48 ≤ u.toNat ∧ u.toNat ≤ 57)
end TwW
end
section
namespace TwW
open Go Tw
def Mk (v least : Int) : Bool := decide (least ≤ v) && decide (v < 2147483648)
section
variable (oQ : ByteArray → Bool) (AQa : ByteArray → Bool)
def PK (n : Nd) : Bool := n.names.all oQ && (decide (n.names.length = 0) || decide (n.Ea ≠ 0))
def HH (ms : List Mt) : Int := if 8 < ms.length then 41 else if ms.all (fun m => decide (1 ≤ m.kind ∧ m.kind ≤ 4) && oQ m.name && decide (m.val.size ≤ 256)) then 0 else 40
end
end TwW
end
section
namespace TwW
open Go Tw Go.RowKit Go.Proofs.Tryz
abbrev Pt := Int × Int
def GG (_ : Hp) (vs : List Value) (x : Pt) : Prop := vs = [.int .i64 x.1,.int .u64 x.2]
theorem GG.mono : HM GG := fun _ _ _ _ _ h => h
def CF (σ : Hp) (vs : List Value) (s : Sr) : Prop := ∃ p n c q m d,vs = [.slice p n c,.slice q m d] ∧ EK σ p n s.ls ∧ Ae 2 GG σ q m s.ps ∧ m ≤ d
theorem CF.mono : HM CF := fun _ _ _ _ hx ⟨p,n,c,q,m,d,hv,h1,h2,h3⟩ => ⟨p,n,c,q,m,d,hv,h1.mono Bt.mono hx,h2.mono GG.mono hx,h3⟩
def Oa (_ : Hp) (vs : List Value) (m : Mt) : Prop := vs = [.int .i64 m.kind,.string m.name,.string m.val]
theorem Oa.mono : HM Oa := fun _ _ _ _ _ h => h
def M8 (σ : Hp) (vs : List Value) (n : Nd) : Prop := ∃ p k c q m d,vs = [.int .i64 n.kind,.int .i64 n.op,.string n.text,.slice p k c,.int .i64 n.width,.int .i64 n.back,.int .i64 n.Ea,.slice q m d,.bool n.bool,.int .i64 n.parts] ∧ Ae 3 Oa σ p k n.mt ∧ E9 1 σ q m (n.names.map .string)
theorem M8.mono : HM M8 := fun _ _ _ _ hx ⟨p,k,c,q,m,d,hv,h1,h2⟩ => ⟨p,k,c,q,m,d,hv,h1.mono Oa.mono hx,h2.mono hx⟩
def CD (σ : Hp) (vs : List Value) (x : El) : Prop := ∃ p n c,vs = [.slice p n c,.int .u64 x.v] ∧ EK σ p n x.ls
theorem CD.mono : HM CD := fun _ _ _ _ hx ⟨p,n,c,hv,h⟩ => ⟨p,n,c,hv,h.mono Bt.mono hx⟩
def TN (σ : Hp) (vs : List Value) (x : Rg) : Prop := ∃ p n c q m d,vs = [.slice p n c,.slice q m d] ∧ EK σ p n x.ls ∧ FH .u64 σ q m x.vs ∧ m ≤ d
theorem TN.mono : HM TN := fun _ _ _ _ hx ⟨p,n,c,q,m,d,hv,h1,h2,h3⟩ => ⟨p,n,c,q,m,d,hv,h1.mono Bt.mono hx,h2.mono hx,h3⟩
def M9 (σ : Hp) (vs : List Value) (x : Vv) : Prop := ∃ p n c q m d,vs = [.int .i64 x.kind,.int .u64 x.v,.slice p n c,.slice q m d] ∧ Ae 2 CD σ p n x.vec ∧ Ae 2 TN σ q m x.Ox
theorem M9.mono : HM M9 := fun _ _ _ _ hx ⟨p,n,c,q,m,d,hv,h1,h2⟩ => ⟨p,n,c,q,m,d,hv,h1.mono CD.mono hx,h2.mono TN.mono hx⟩
theorem Ae.sub {α : Type} {s : Nat} {E : Hp → List Value → α → Prop} {σ : Hp} {p : Option Addr} {n c i m : Nat} {xs : List α} (h : Ae s E σ p n xs) (hs : 0 < s) (him : i + m ≤ n) (hc : n ≤ c) : Ae s E σ (Ip p i c s) m ((xs.drop i).take m) := by
 obtain ⟨h1,cs,⟨h2,h3,h4⟩,h5,h6⟩ := h
 refine ⟨by rw [List.length_take,List.length_drop]; omega,(cs.drop (i * s)).take (m * s),⟨?_,by omega,?_⟩,?_,fun j x hj => ?_⟩
 · have : i * s + m * s ≤ n * s := by rw [← Nat.add_mul]; exact Nat.mul_le_mul_right _ him
   rw [List.length_take,List.length_drop]; omega
 · rcases Nat.eq_zero_or_pos m with hm | hm
   · exact .inl hm
   · rcases h4 with h4 | ⟨b,o,rfl,h4⟩
     · omega
     · refine .inr ⟨b,o + i * s,?_,?_⟩
       · unfold Ip
         rw [if_neg (by omega)]
         simp [Bu]
       · exact h4.part
 · have : i * s + m * s ≤ n * s := by rw [← Nat.add_mul]; exact Nat.mul_le_mul_right _ him
   rw [List.length_take,List.length_drop,List.length_take,List.length_drop]
   have : min m (xs.length - i) = m := by omega
   rw [this]; omega
 · rw [List.getElem?_take] at hj
   split at hj
   · rename_i hjm
     rw [List.getElem?_drop] at hj
     have := h6 (i + j) x hj
     have e : ((((cs.drop (i * s)).take (m * s)).drop (j * s)).take s) = (cs.drop ((i + j) * s)).take s := by
       have hle : j * s + s ≤ m * s := by rw [← Nat.succ_mul]; exact Nat.mul_le_mul_right _ hjm
       rw [List.drop_take,List.take_take,List.drop_drop,Nat.add_mul]
       congr 1
       omega
     rw [e]; exact this
   · cases hj
section
variable {σ σ' τ : Hp} {R : Rr}
theorem iX {a b : ByteArray} : YN prog 168 #[.string a,.string b] σ (.int .i64 (Di a b)) := fun w _ => by
 rw [run_callFunc_extern Go.Proofs.Tryz.func168 (by kernel_rfl) (by kernel_rfl) (by kernel_rfl) (e := Extern.BytealgCompare.compare) (by kernel_rfl),Lib.run_compareString]
 rfl
theorem QB [E5] {a b : ByteArray} (h : R (.returned (.int .i64 (Di a b))) σ) : Spec prog 78 #[.string a,.string b] σ R :=
 Ji.start (CK.start (.y iX ⟨_,rfl,_,rfl,h⟩))
theorem cV [E5] {x y : Lb} (h : ∀ σ',Ext σ σ' → R (.returned (.int .i64 (JO Di Di x y))) σ') : Spec prog 76 #[.agg #[.string x.1,.string x.2],.agg #[.string y.1,.string y.2]] σ R := by
 refine Jh.start fun _ _ => QB ⟨_,rfl,QB ⟨_,rfl,fun b hb => ?_⟩⟩
 have hh := h _ (.set hb (o := .cells #[.int .i64 (Di x.1 y.1),.int .i64 (Di x.2 y.2)] 3 (0,0)))
 unfold JO at hh
 generalize Di x.1 y.1 = u at *
 generalize Di x.2 y.2 = v at *
 refine HC.start (HC.Aa ⟨fun _ => ⟨b,0,rfl,by omega,u,by simp [Hp.ld,Hp.AB],fun h0 => ⟨_,rfl,?_⟩,fun h0 => ⟨by unfold AI; omega,HC.Aa ⟨fun _ => ⟨b,0,rfl,by omega,v,by simp [Hp.ld,Hp.AB],fun h1 => ⟨_,rfl,?_⟩,fun h1 => ⟨by unfold AI; omega,HC.Aa ⟨fun h2 => by omega,fun _ => ⟨_,rfl,?_⟩⟩⟩⟩,fun h2 => by omega⟩⟩⟩,fun h2 => by omega⟩)
 · rw [if_neg h0] at hh; exact hh
 · rw [if_pos (Decidable.not_not.1 h0)] at hh; exact hh
 · have xH : v = 0 := Decidable.not_not.1 h1
   rw [if_pos (Decidable.not_not.1 h0),xH] at hh
   rw [← xH] at hh ⊢
   exact hh
theorem AM3 : Enters prog 76 := fun args w => call76 args w
theorem A3 {α : Type} {xs : List α} {k : Nat} {y : α} (hy : xs[k]? = some y) : xs.drop k = y :: xs.drop (k + 1) := by
 obtain ⟨h,rfl⟩ := List.getElem?_eq_some_iff.1 hy
 exact List.drop_eq_getElem_cons h
theorem Ly [E5] {p q : Option Addr} {n c m d : Nat} {ls ms : List Lb} (hr : EK σ p n ls) (hs : EK σ q m ms) (h : ∀ σ',Ext σ σ' → R (.returned (.int .i64 (Au ls ms))) σ') : Spec prog 52 #[.slice p n c,.slice q m d] σ R := by
 have hl : ls.length = n := hr.1
 have hm : ms.length = m := hs.1
 refine Mc.start (Ay.start ?_)
 suffices H : ∀ g k : Nat,∀ σ',n - k = g → k ≤ n → k ≤ m → Ext σ σ' → Au ls ms = Au (ls.drop k) (ms.drop k) → Ay.H3 (AA R (CI .i64 fun x7 y => R (.returned (.int .i64 x7)) y)) p n c q m d (.func (.func 76) #[] #[]) p n c n k σ' from H n 0 σ rfl (Nat.zero_le _) (Nat.zero_le _) (.refl _) rfl
 intro g
 induction g with
 | zero =>
   intro k σ' hg hk fT hx he
   have XA : k = n := by omega
   rw [List.drop_eq_nil_of_le (by omega)] at he
   refine Ay.Bp ⟨fun Ap => by omega,fun _ => ⟨fun hnm => ⟨_,rfl,?_⟩,fun hnm => ⟨_,rfl,?_⟩⟩⟩
   · obtain ⟨y,hy⟩ := hs.ex (k := k) (by omega)
     rw [A3 hy] at he
     have := h σ' hx
     rw [he] at this; exact this
   · rw [List.drop_eq_nil_of_le (by omega)] at he
     have := h σ' hx
     rw [he] at this; exact this
 | succ g ih =>
   intro k σ' hg hk fT hx he
   obtain ⟨x,iR⟩ := hr.ex (k := k) (by omega)
   obtain ⟨b,o,rfl,Qk⟩ := EK.at hr iR
   rw [A3 iR] at he
   refine Ay.Bp ⟨fun _ => ⟨b,o,rfl,by omega,x.1,x.2,by simpa using Qk.mono hx,fun _ => ⟨fun qi => ⟨_,rfl,?_⟩,fun qi => ?_⟩⟩,fun hh => by omega⟩
   · rw [show ms.drop k = [] from List.drop_eq_nil_of_le (by omega)] at he
     have := h σ' hx
     rw [he] at this; exact this
   · obtain ⟨y,hyk⟩ := hs.ex (k := k) (by omega)
     obtain ⟨b',o',rfl,UC⟩ := EK.at hs hyk
     rw [A3 hyk] at he
     have Jb : Au ls ms = if JO Di Di x y = 0 then Au (ls.drop (k + 1)) (ms.drop (k + 1)) else JO Di Di x y := he
     refine ⟨b',o',rfl,by omega,y.1,y.2,by simpa using UC.mono hx,fun _ => ⟨76,#[],#[],rfl,AM3,cV fun σ2 A5 => ⟨_,rfl,fun A6 => ⟨_,rfl,?_⟩,fun heq => ⟨AL (by omega : k < n) hr.big,ih (k + 1) σ2 (by omega) (by omega) (by omega) (hx.trans A5) ?_⟩⟩⟩⟩
     · have := h σ2 (hx.trans A5)
       rw [Jb,if_neg A6] at this; exact this
     · rw [Jb,if_pos (Decidable.not_not.1 heq)]
def OA : List Pt → Bool
 | [] => false
 | [_] => true
 | a :: b :: l => decide (a.1 < b.1) && OA (b :: l)
theorem LP : ∀ ps : List Pt,OA ps = true ↔ 0 < ps.length ∧ ∀ j a b,ps[j]? = some a → ps[j + 1]? = some b → a.1 < b.1
 | [] => by simp [OA]
 | [a] => by simp [OA]
 | a :: b :: l => by
   simp only [OA,Bool.and_eq_true,decide_eq_true_eq]
   rw [LP (b :: l)]
   constructor
   · rintro ⟨h1,h2,h3⟩
     refine ⟨by simp,fun j x y hx hy => ?_⟩
     cases j with
     | zero => simp at hx hy; subst hx; subst hy; exact h1
     | succ j => exact h3 j x y (by simpa using hx) (by simpa using hy)
   · rintro ⟨h1,h2⟩
     exact ⟨h2 0 a b rfl rfl,by simp,fun j x y hx hy => h2 (j + 1) x y (by simpa using hx) (by simpa using hy)⟩
theorem GG.at {p : Option Addr} {n i : Nat} {ps : List Pt} {x : Pt} (hr : Ae 2 GG σ p n ps) (hx : ps[i]? = some x) : ∃ b o,p = some ⟨b,o,none⟩ ∧ Aw σ b (o + i * 2) [.int .i64 x.1,.int .u64 x.2] := by
 obtain ⟨b,o,vs,hp,rfl,hl⟩ := Ae.idx hr hx
 exact ⟨b,o,hp,hl⟩
theorem ZI {p : Option Addr} {n c : Nat} {ps : List Pt} (hr : Ae 2 GG σ p n ps) (h : R (.returned (.bool (OA ps))) σ) : Spec prog 69 #[.slice p n c] σ R := by
 have hl : ps.length = n := hr.1
 refine D7.start ?_
 have fin : (∀ j a b,ps[j]? = some a → ps[j + 1]? = some b → a.1 < b.1) → R (.returned (.bool (decide (0 < (n : Int))))) σ := fun hh => by
   have e : OA ps = decide (0 < (n : Int)) := by
     rw [Bool.eq_iff_iff,LP,decide_eq_true_eq]
     exact ⟨fun h => by omega,fun h => ⟨by omega,hh⟩⟩
   rw [e] at h; exact h
 suffices H : ∀ g k : Nat,n - k = g → 1 ≤ k → (∀ j a b,j + 1 < k → ps[j]? = some a → ps[j + 1]? = some b → a.1 < b.1) → D7.Dm R p n c k σ from H (n - 1) 1 rfl (Nat.le_refl _) (fun j a b hj => by omega)
 intro g
 induction g with
 | zero =>
   intro k hg hk EB
   refine D7.Ac ⟨fun Ap => by omega,fun _ => fin fun j a b ha hb => EB j a b ?_ ha hb⟩
   have := (List.getElem?_eq_some_iff.1 hb).1; omega
 | succ g ih =>
   intro k hg hk EB
   obtain ⟨x,hx⟩ := hr.ex (k := k) (by omega)
   obtain ⟨y,hy⟩ := hr.ex (k := k - 1) (by omega)
   obtain ⟨b,o,rfl,Qk⟩ := GG.at hr hx
   obtain ⟨_,_,he,UC⟩ := GG.at hr hy
   cases he
   have e1 : Int.toNat ((k : Int) - 1) = k - 1 := by omega
   refine D7.Ac ⟨fun _ => ⟨b,o,rfl,by omega,x.1,by simpa using Qk.1,by unfold AI; have := hr.big; omega,by omega,y.1,by rw [e1]; simpa using UC.1,fun hle => ?_,fun hgt => ⟨AL (by omega : k < n) hr.big,ih (k + 1) (by omega) (by omega) fun j a b' hj ha hb => ?_⟩⟩,fun hh => by omega⟩
   · have e : OA ps = false := by
       rw [Bool.eq_false_iff,ne_eq,LP]
       exact fun hh => by
         have := hh.2 (k - 1) y x hy (by rw [show k - 1 + 1 = k by omega]; exact hx)
         omega
     rw [e] at h; exact h
   · by_cases rO : j + 1 = k
     · rw [rO,hx] at hb; cases hb
       rw [show j = k - 1 by omega,hy] at ha; cases ha
       omega
     · exact EB j a b' (by omega) ha hb
def Cv : Option (List Lb) → List Sr → Bool
 | _,[] => true
 | q,s :: l => decide (EY s.ls = 0) && OA s.ps && (match q with | none => true | some q => decide (Au q s.ls < 0)) && Cv (some s.ls) l
theorem Ib (q : Option (List Lb)) (s : Sr) (l : List Sr) : Cv q (s :: l) = (decide (EY s.ls = 0) && OA s.ps && (match q with | none => true | some q => decide (Au q s.ls < 0)) && Cv (some s.ls) l) := by
 cases q <;> rfl
theorem CF.at {p : Option Addr} {n i : Nat} {ss : List Sr} {s : Sr} (hr : Ae 2 CF σ p n ss) (hx : ss[i]? = some s) : ∃ b o p1 n1 c1 q m d,p = some ⟨b,o,none⟩ ∧ Aw σ b (o + i * 2) [.slice p1 n1 c1,.slice q m d] ∧ EK σ p1 n1 s.ls ∧ Ae 2 GG σ q m s.ps ∧ m ≤ d := by
 obtain ⟨b,o,vs,hp,⟨p1,n1,c1,q,m,d,rfl,h1,h2,h3⟩,hl⟩ := Ae.idx hr hx
 exact ⟨b,o,p1,n1,c1,q,m,d,hp,hl,h1,h2,h3⟩
theorem ZJ {p : Option Addr} {n c : Nat} {ss : List Sr} (hr : Ae 2 CF σ p n ss) (h : ∀ σ',Ext σ σ' → R (.returned (.int .i64 (if Cv none ss then 0 else 100))) σ') : Spec prog 46 #[.slice p n c] σ R := by
 have hl : ss.length = n := hr.1
 refine Dc.start ?_
 suffices H : ∀ g k : Nat,∀ σ',n - k = g → k ≤ n → Ext σ σ' → Cv none ss = Cv (if k = 0 then none else (ss[k - 1]?).map (·.ls)) (ss.drop k) → Dc.H3 R p n c p n c n k σ' from H n 0 σ rfl (Nat.zero_le _) (.refl _) rfl
 intro g
 induction g with
 | zero =>
   intro k σ' hg hk hx he
   rw [List.drop_eq_nil_of_le (by omega)] at he
   refine Dc.Bp ⟨fun Ap => by omega,fun _ => ?_⟩
   have := h σ' hx
   rw [he] at this; exact this
 | succ g ih =>
   intro k σ' hg hk hx he
   have Gs : k < n := by omega
   obtain ⟨s,hs⟩ := hr.ex Gs
   obtain ⟨b,o,p1,n1,c1,q,m,d,rfl,Hz,h1,h2,h3⟩ := CF.at hr hs
   rw [A3 hs,Ib] at he
   have bad : (decide (EY s.ls = 0) && OA s.ps && (match (if k = 0 then none else (ss[k - 1]?).map (·.ls)) with | none => true | some q => decide (Au q s.ls < 0))) = false → ∀ σ2,Ext σ σ2 → R (.returned (.int .i64 100)) σ2 := fun hf σ2 A5 => by
     have := h σ2 A5
     rw [he,hf] at this; exact this
   refine Dc.Bp ⟨fun _ => ⟨b,o,rfl,by omega,p1,n1,c1,q,m,d,by simpa using Hz.mono hx,fun _ => Qi (h1.mono Bt.mono hx) ⟨_,rfl,fun A6 => bad (by simp [A6]) σ' hx,fun h0 => ZI (h2.mono GG.mono hx) ⟨_,rfl,fun hf => bad (by simp [hf]) σ' hx,fun ht => ?_⟩⟩⟩,fun hh => by omega⟩
   have fU := Decidable.not_not.1 h0
   have jz : OA s.ps = true := ht
   have next : ∀ σ2,Ext σ σ2 → (match (if k = 0 then none else (ss[k - 1]?).map (·.ls)) with | none => true | some q => decide (Au q s.ls < 0)) = true → AI ((k : Int) + 1) ∧ Dc.H3 R (aD b o) n c (aD b o) n c n ((k : Int) + 1) σ2 := fun σ2 A5 hm => by
     refine ⟨AL Gs hr.big,ih (k + 1) σ2 (by omega) (by omega) A5 ?_⟩
     rw [he,hm,fU,jz]
     simp [hs]
   refine ⟨fun Ol => ⟨by unfold AI; have := hr.big; omega,b,o,rfl,by omega,?_⟩,fun Ol => next σ' hx (by rw [if_pos (by omega)])⟩
   obtain ⟨s',Om⟩ := hr.ex (k := k - 1) (by omega)
   obtain ⟨_,_,p1',n1',c1',_,_,_,Qg,oR,xH,_,_⟩ := CF.at hr Om
   cases Qg
   have e1 : Int.toNat ((k : Int) - 1) = k - 1 := by omega
   refine ⟨p1',n1',c1',by rw [e1]; simpa using (oR.mono hx).1,Ly (xH.mono Bt.mono hx) (h1.mono Bt.mono hx) fun σ2 A5 => ⟨_,rfl,fun cM => bad ?_ σ2 (hx.trans A5),fun Ap => next σ2 (hx.trans A5) ?_⟩⟩
   · rw [if_neg (by omega),Om]
     simp; omega
   · rw [if_neg (by omega),Om]
     simp; omega
end
end TwW
end
