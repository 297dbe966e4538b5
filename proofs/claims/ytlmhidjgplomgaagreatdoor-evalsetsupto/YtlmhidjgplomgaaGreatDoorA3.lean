/-
  Part 3 of the proof that the law EvalSetsUptoCardSaid of the given program answers true for every input of the given statement; the input reads behind the call as it did. (The texts: packed from 15 texts. Names are shortened by the packing program, for the bound on size.)
-/
import Derived.Test.YtlmhidjgplomgaaGreatDoorA2
import Derived.Laws.BytesArg
import Derived.Laws.Bits64b
import Derived.Laws.IdiomStrings
import Derived.Lib.Bytealg
import Derived.Lib.Split
import Derived.Lib.Index
set_option linter.all false
section
set_option maxRecDepth 100000
noncomputable section
namespace TwW
open Go Tw Go.Proofs.Tryz
variable [FB] {R : Rr} {σ : Hp}

namespace P0
def M : Fw := ⟨prog,14,f14,[11,15,25,35,36],[],false,[],[],[]⟩
theorem ok : M.Ok := ⟨.cons call11 (.cons call15 (.cons call25 (.cons call35 (.cons call36 (AG.nil))))),mixed,func14,by kernel_rfl⟩
theorem start (h : Al σ fun BG => Spec prog 25 #[.float .f64 4607182418800017408] (Hp.set σ BG (.cells #[(.string (ByteArray.mk #[95,95,110,97,109,101,95,95])),(.string (ByteArray.mk #[120])),(.string (ByteArray.mk #[97])),(.string (ByteArray.mk #[49]))] 56 (0,0))) (AA R (CI .u64 fun x12 y => Spec prog 25 #[.float .f64 4613937818241073152] y (AA R (CI .u64 fun XK AF => Al AF fun Hy => Al (Hp.set AF Hy (.cells #[.int .i64 0,.int .u64 x12,.int .i64 60,.int .u64 XK] 50 (0,0))) fun Ym => Spec prog 25 #[.float .f64 4617315517961601024] (Hp.set (Hp.set AF Hy (.cells #[.int .i64 0,.int .u64 x12,.int .i64 60,.int .u64 XK] 50 (0,0))) Ym (.cells #[(.string (ByteArray.mk #[95,95,110,97,109,101,95,95])),(.string (ByteArray.mk #[120])),(.string (ByteArray.mk #[97])),(.string (ByteArray.mk #[50]))] 56 (0,0))) (AA R (CI .u64 fun cS AH => Al AH fun OX => Al (Hp.set AH OX (.cells #[.int .i64 60,.int .u64 cS] 50 (0,0))) fun Lv => Al (Hp.set (Hp.set AH OX (.cells #[.int .i64 60,.int .u64 cS] 50 (0,0))) Lv (.cells #[(.slice (aD BG 0) 2 2),(.slice (aD Hy 0) 2 2),(.slice (aD Ym 0) 2 2),(.slice (aD OX 0) 1 1)] 40 (0,0))) fun O4 => Al (Hp.set (Hp.set (Hp.set AH OX (.cells #[.int .i64 60,.int .u64 cS] 50 (0,0))) Lv (.cells #[(.slice (aD BG 0) 2 2),(.slice (aD Hy 0) 2 2),(.slice (aD Ym 0) 2 2),(.slice (aD OX 0) 1 1)] 40 (0,0))) O4 (.cells #[.int .i64 1,(.string (ByteArray.mk #[95,95,110,97,109,101,95,95])),(.string (ByteArray.mk #[120]))] 77 (0,0))) fun ic => Spec prog 11 #[(.slice (aD ic 0) 2 2),(.slice (aD Lv 0) 2 2),.int .i64 60] (Hp.set (Hp.set (Hp.set (Hp.set AH OX (.cells #[.int .i64 60,.int .u64 cS] 50 (0,0))) Lv (.cells #[(.slice (aD BG 0) 2 2),(.slice (aD Hy 0) 2 2),(.slice (aD Ym 0) 2 2),(.slice (aD OX 0) 1 1)] 40 (0,0))) O4 (.cells #[.int .i64 1,(.string (ByteArray.mk #[95,95,110,97,109,101,95,95])),(.string (ByteArray.mk #[120]))] 77 (0,0))) ic (.cells #[.int .i64 2,.int .i64 0,(.string (ByteArray.mk #[])),(.slice (aD O4 0) 1 1),.int .i64 0,.int .i64 0,.int .i64 0,.slice none 0 0,.bool false,.int .i64 0,.int .i64 5,.int .i64 1,(.string (ByteArray.mk #[])),.slice none 0 0,.int .i64 0,.int .i64 0,.int .i64 0,.slice none 0 0,.bool false,.int .i64 1] 36 (0,0))) (AA R (fun z Ac => ∃ iW Rz lq O5,z = (.tuple #[.slice iW Rz lq,.int .i64 O5]) ∧ Spec prog 35 #[(.slice (aD ic 0) 2 2),(.slice (aD Lv 0) 2 2),.int .i64 0,.int .i64 60,.int .i64 60] Ac (AA R (fun z EF => ∃ Yn WU cU cV,z = (.tuple #[.slice Yn WU cU,.int .i64 cV]) ∧ Spec prog 15 #[(.slice (aD ic 0) 2 2)] EF (AA R (fun z Fo => ∃ AFR AFS,z = (.tuple #[.int .i64 AFR,.int .i64 AFS]) ∧ Br (O5 = 0) (Br ((Rz : Int) = 1) (Pq iW fun w9 o57 => In 0 (Rz : Int) ∧ LS Fo w9 (o57 + 1) fun vx n59 vy => Spec prog 25 #[.float .f64 4620693217682128896] Fo (AA R (CI .u64 fun tZ EG => Kp [w9] Fo EG ∧ Al EG fun zc => Spec prog 36 #[.slice vx n59 vy,(.slice (aD zc 0) 1 1)] (Hp.set EG zc (.cells #[.int .i64 60,.int .u64 tZ] 50 (0,0))) (AA R (CB fun t63 Jw => Bo t63 (Br (cV = 0) (Br ((WU : Int) = 1) (Pq Yn fun b76 o76 => In 0 (WU : Int) ∧ LS Jw b76 (o76 + 1) fun ra ml rf => Br ((ml : Int) = 2) (Br (AFR = 300) (R (.returned (.bool (decide (AFS = 0)))) Jw) (R (.returned (.bool false)) Jw)) (R (.returned (.bool false)) Jw)) (R (.returned (.bool false)) Jw)) (R (.returned (.bool false)) Jw)) (R (.returned (.bool false)) Jw)))))) (R (.returned (.bool false)) Fo)) (R (.returned (.bool false)) Fo)))))))))))))) : Spec prog 14 #[] σ R := M.start h ok
end P0
namespace By
variable {p0 p1 : Option Addr} {n0 c0 n1 c1 : Nat} {x5 x6 : Int}
def M : Fw := ⟨prog,21,f21,[39,44],[],false,[],[],[(464,[(0,wL),(1,wL),(5,wI)]),(29840,[(0,wL),(1,wL),(5,wI),(6,wI)])]⟩
theorem ok : M.Ok := ⟨.cons call39 (.cons call44 (AG.nil)),mixed,func21,by kernel_rfl⟩
def A0 := M.pt 0
def R0 := M.pt 1
theorem start (h : Spec prog 39 #[.slice p0 n0 c0] σ (AA R (CI .i64 fun x10 y => Br (x10 ≠ 0) (R (.returned (.bool false)) y) (Spec prog 39 #[.slice p1 n1 c1] y (AA R (CI .i64 fun XK AF => Br (XK ≠ 0) (R (.returned (.bool false)) AF) (A0 R p0 n0 c0 p1 n1 c1 0 AF))))))) : Spec prog 21 #[.slice p0 n0 c0,.slice p1 n1 c1] σ R := M.start h ok
theorem BC (h : Br (x5 < (n1 : Int)) (R0 R p0 n0 c0 p1 n1 c1 x5 0 σ) (R (.returned (.bool true)) σ)) : A0 R p0 n0 c0 p1 n1 c1 x5 σ := M.of h ok rfl
theorem Nk (h : Pq p1 fun RB S5 => In x5 (n1 : Int) ∧ LS σ RB ((S5 + Int.toNat x5 * 2) + 1) fun p28 n28 zp => Br (x6 < (n28 : Int)) (In x5 (n1 : Int) ∧ LS σ RB (S5 + Int.toNat x5 * 2) fun wK n39 c39 => In x5 (n1 : Int) ∧ LS σ RB ((S5 + Int.toNat x5 * 2) + 1) fun tL n44 wx => Pq tL fun b46 o46 => In x6 (n44 : Int) ∧ LI .i64 σ b46 (o46 + Int.toNat x6 * 2) fun UY => Spec prog 44 #[.slice p0 n0 c0,.slice wK n39 c39,.int .i64 UY] σ (AA R (fun z y => ∃ ta AFT,z = (.tuple #[.int .u64 ta,.bool AFT]) ∧ Bn AFT (R (.returned (.bool false)) y) (In x5 (n1 : Int) ∧ LS y RB ((S5 + Int.toNat x5 * 2) + 1) fun p60 n60 c60 => Pq p60 fun zc o62 => In x6 (n60 : Int) ∧ LI .u64 y zc ((o62 + Int.toNat x6 * 2) + 1) fun lr => Br (ta ≠ lr) (R (.returned (.bool false)) y) (AJ (x6 + 1) ∧ R0 R p0 n0 c0 (aD RB S5) n1 c1 x5 (x6 + 1) y))))) (AJ (x5 + 1) ∧ A0 R p0 n0 c0 (aD RB S5) n1 c1 (x5 + 1) σ)) : R0 R p0 n0 c0 p1 n1 c1 x5 x6 σ := M.of h ok rfl
end By
namespace Jn
variable {p0 : Option Addr} {n0 c0 : Nat}
def M : Fw := ⟨prog,33,f33,[],[],false,[],[],[]⟩
theorem ok : M.Ok := ⟨AG.nil,mixed,func33,by kernel_rfl⟩
theorem start (h : Al σ fun b3 => AK prog (Builtin.append_ #[37,37] 37 #[(.slice (aD b3 0) 0 0),.slice p0 n0 c0]) (Hp.set σ b3 (.cells #[] 56 (0,0))) (CS fun p5 n5 c5 y => R (.returned (.slice p5 n5 c5)) y)) : Spec prog 33 #[.slice p0 n0 c0] σ R := M.start h ok
end Jn
namespace S6
variable {x0 : Int}
def M : Fw := ⟨prog,81,f81,[],[],false,[],[],[]⟩
theorem ok : M.Ok := ⟨AG.nil,mixed,func81,by kernel_rfl⟩
theorem start (h : Al σ fun b1 => R (.returned (.func (.func 127) #[] #[(.pointer (aD b1 0))])) (Hp.set σ b1 (.cells #[.int .i64 x0] 3 (0,0)))) : Spec prog 81 #[.int .i64 x0] σ R := M.start h ok
end S6
namespace G9
variable {s0 : ByteArray} {x3 : Int}
def M : Fw := ⟨prog,88,f88,[129],[],false,[],[],[(464,[(0,wT),(3,wI)])]⟩
theorem ok : M.Ok := ⟨.cons call129 (AG.nil),mixed,func88,by kernel_rfl⟩
def A0 := M.pt 0
theorem start (h : Br ((((ByteArray.size s0 : Nat) : Int) : Int) < 1) (R (.returned (.bool false)) σ) (Br ((256 : Int) < ((ByteArray.size s0 : Nat) : Int)) (R (.returned (.bool false)) σ) (A0 R s0 0 σ))) : Spec prog 88 #[.string s0] σ R := M.start h ok
theorem BC (h : Br (x3 < ((ByteArray.size s0 : Nat) : Int)) (Spec prog 129 #[.string s0,.int .i64 x3] σ (AA R (CI .i64 fun DU y => Br (DU = 0) (R (.returned (.bool false)) y) (AJ (x3 + DU) ∧ A0 R s0 (x3 + DU) y)))) (R (.returned (.bool true)) σ)) : A0 R s0 x3 σ := M.of h ok rfl
end G9
namespace AT
variable {q0 : Option Addr} {v1 : Value} {x2 x3 : Int} {b9 : Nat}
def M : Fw := ⟨prog,95,f95,[66,133,134,135,136,137,138],[],false,[],[],[(48,[(0,wQ),(1,wV),(2,wI),(3,wI)]),(3198,[(0,wQ),(1,wV),(2,wI),(3,wI),(9,wA)])]⟩
theorem ok : M.Ok := ⟨.cons call66 (.cons call133 (.cons call134 (.cons call135 (.cons call136 (.cons call137 (.cons call138 (AG.nil))))))),mixed,func95,by kernel_rfl⟩
def cW := M.pt 0
def FV := M.pt 1
theorem start (h : ∃ (f11 : Nat) (Yk Yl : Array Value),v1 = .func (.func f11) Yk Yl ∧ Enters prog f11 ∧ Spec prog f11 (Yk ++ #[] ++ Yl) σ (AA R (fun z y => z = (.tuple #[]) ∧ cW R q0 v1 x2 x3 y))) : Spec prog 95 #[.pointer q0,v1,.int .i64 x2,.int .i64 x3] σ R := M.EE h ok [(0,.o (.Q q0)),(1,.o (.V v1)),(2,.o (.I .i64 x2)),(3,.o (.I .i64 x3))] rfl rfl (by kernel_rfl)
theorem PA (h : Spec prog 134 #[] σ (AA R (CS fun cX n12 ah y => Spec prog 66 #[.pointer q0] y (AA R (fun z AF => ∃ Gf UU WV AAT,z = (.agg #[.int .i64 Gf,.int .i64 UU,.string WV,.int .i64 AAT]) ∧ Spec prog 133 #[.slice cX n12 ah,.string WV] AF (AA R (CI .i64 fun x16 AH => Spec prog 66 #[.pointer q0] AH (AA R (fun z Ac => ∃ Yo cY cZ AL8,z = (.agg #[.int .i64 Yo,.int .i64 cY,.string cZ,.int .i64 AL8]) ∧ Br (Yo ≠ 5) (Spec prog 66 #[.pointer q0] Ac (AA R (fun z EF => ∃ tc iV AAU AAV,z = (.agg #[.int .i64 tc,.int .i64 iV,.string AAU,.int .i64 AAV]) ∧ Br (tc ≠ 3) (R (.returned (.tuple #[])) EF) (Br (x16 < x2) (R (.returned (.tuple #[])) EF) (Br (x3 < x16) (R (.returned (.tuple #[])) EF) (Br (x2 = 11) (Br (x16 = 12) (R (.returned (.tuple #[])) EF) (Spec prog 135 #[.pointer q0] EF (AA R (fun z Fo => ∃ Qc Qd WW WX,z = (.agg #[.int .i64 Qc,.int .i64 Qd,.string WW,.int .i64 WX]) ∧ Al Fo fun b9 => AK prog (Instr.storeAt 36 (.pointer (aD b9 0)) (.agg #[.int .i64 6,.int .i64 x16,(.string (ByteArray.mk #[])),.slice none 0 0,.int .i64 0,.int .i64 0,.int .i64 0,.slice none 0 0,.bool false,.int .i64 2])) (Hp.set Fo b9 (.cells #[.int .i64 0,.int .i64 0,(.string (ByteArray.mk #[])),.slice none 0 0,.int .i64 0,.int .i64 0,.int .i64 0,.slice none 0 0,.bool false,.int .i64 0] 36 (0,0))) (fun _ EG => Br (5 ≤ x16) (Br (x16 ≤ 10) (Spec prog 136 #[.pointer q0,.int .i64 3,(.string (ByteArray.mk #[98,111,111,108]))] EG (AA R (CB fun t55 Jw => Bo t55 (Spec prog 135 #[.pointer q0] Jw (AA R (fun z QV => ∃ WY WZ Wa Wb,z = (.agg #[.int .i64 WY,.int .i64 WZ,.string Wa,.int .i64 Wb]) ∧ AK prog (Instr.storeAt 4 (.pointer (aD b9 8)) (.bool true)) QV (fun _ I6 => FV R q0 v1 x2 x3 b9 I6)))) (FV R q0 v1 x2 x3 b9 Jw)))) (FV R q0 v1 x2 x3 b9 EG)) (FV R q0 v1 x2 x3 b9 EG)))))) (Spec prog 135 #[.pointer q0] EF (AA R (fun z Fo => ∃ Qc Qd WW WX,z = (.agg #[.int .i64 Qc,.int .i64 Qd,.string WW,.int .i64 WX]) ∧ Al Fo fun b9 => AK prog (Instr.storeAt 36 (.pointer (aD b9 0)) (.agg #[.int .i64 6,.int .i64 x16,(.string (ByteArray.mk #[])),.slice none 0 0,.int .i64 0,.int .i64 0,.int .i64 0,.slice none 0 0,.bool false,.int .i64 2])) (Hp.set Fo b9 (.cells #[.int .i64 0,.int .i64 0,(.string (ByteArray.mk #[])),.slice none 0 0,.int .i64 0,.int .i64 0,.int .i64 0,.slice none 0 0,.bool false,.int .i64 0] 36 (0,0))) (fun _ EG => Br (5 ≤ x16) (Br (x16 ≤ 10) (Spec prog 136 #[.pointer q0,.int .i64 3,(.string (ByteArray.mk #[98,111,111,108]))] EG (AA R (CB fun t55 Jw => Bo t55 (Spec prog 135 #[.pointer q0] Jw (AA R (fun z QV => ∃ WY WZ Wa Wb,z = (.agg #[.int .i64 WY,.int .i64 WZ,.string Wa,.int .i64 Wb]) ∧ AK prog (Instr.storeAt 4 (.pointer (aD b9 8)) (.bool true)) QV (fun _ I6 => FV R q0 v1 x2 x3 b9 I6)))) (FV R q0 v1 x2 x3 b9 Jw)))) (FV R q0 v1 x2 x3 b9 EG)) (FV R q0 v1 x2 x3 b9 EG))))))))))) (Br (x16 < x2) (R (.returned (.tuple #[])) Ac) (Br (x3 < x16) (R (.returned (.tuple #[])) Ac) (Br (x2 = 11) (Br (x16 = 12) (R (.returned (.tuple #[])) Ac) (Spec prog 135 #[.pointer q0] Ac (AA R (fun z EF => ∃ Qc Qd WW WX,z = (.agg #[.int .i64 Qc,.int .i64 Qd,.string WW,.int .i64 WX]) ∧ Al EF fun b9 => AK prog (Instr.storeAt 36 (.pointer (aD b9 0)) (.agg #[.int .i64 6,.int .i64 x16,(.string (ByteArray.mk #[])),.slice none 0 0,.int .i64 0,.int .i64 0,.int .i64 0,.slice none 0 0,.bool false,.int .i64 2])) (Hp.set EF b9 (.cells #[.int .i64 0,.int .i64 0,(.string (ByteArray.mk #[])),.slice none 0 0,.int .i64 0,.int .i64 0,.int .i64 0,.slice none 0 0,.bool false,.int .i64 0] 36 (0,0))) (fun _ Fo => Br (5 ≤ x16) (Br (x16 ≤ 10) (Spec prog 136 #[.pointer q0,.int .i64 3,(.string (ByteArray.mk #[98,111,111,108]))] Fo (AA R (CB fun t55 EG => Bo t55 (Spec prog 135 #[.pointer q0] EG (AA R (fun z Jw => ∃ WY WZ Wa Wb,z = (.agg #[.int .i64 WY,.int .i64 WZ,.string Wa,.int .i64 Wb]) ∧ AK prog (Instr.storeAt 4 (.pointer (aD b9 8)) (.bool true)) Jw (fun _ QV => FV R q0 v1 x2 x3 b9 QV)))) (FV R q0 v1 x2 x3 b9 EG)))) (FV R q0 v1 x2 x3 b9 Fo)) (FV R q0 v1 x2 x3 b9 Fo)))))) (Spec prog 135 #[.pointer q0] Ac (AA R (fun z EF => ∃ Qc Qd WW WX,z = (.agg #[.int .i64 Qc,.int .i64 Qd,.string WW,.int .i64 WX]) ∧ Al EF fun b9 => AK prog (Instr.storeAt 36 (.pointer (aD b9 0)) (.agg #[.int .i64 6,.int .i64 x16,(.string (ByteArray.mk #[])),.slice none 0 0,.int .i64 0,.int .i64 0,.int .i64 0,.slice none 0 0,.bool false,.int .i64 2])) (Hp.set EF b9 (.cells #[.int .i64 0,.int .i64 0,(.string (ByteArray.mk #[])),.slice none 0 0,.int .i64 0,.int .i64 0,.int .i64 0,.slice none 0 0,.bool false,.int .i64 0] 36 (0,0))) (fun _ Fo => Br (5 ≤ x16) (Br (x16 ≤ 10) (Spec prog 136 #[.pointer q0,.int .i64 3,(.string (ByteArray.mk #[98,111,111,108]))] Fo (AA R (CB fun t55 EG => Bo t55 (Spec prog 135 #[.pointer q0] EG (AA R (fun z Jw => ∃ WY WZ Wa Wb,z = (.agg #[.int .i64 WY,.int .i64 WZ,.string Wa,.int .i64 Wb]) ∧ AK prog (Instr.storeAt 4 (.pointer (aD b9 8)) (.bool true)) Jw (fun _ QV => FV R q0 v1 x2 x3 b9 QV)))) (FV R q0 v1 x2 x3 b9 EG)))) (FV R q0 v1 x2 x3 b9 Fo)) (FV R q0 v1 x2 x3 b9 Fo))))))))))))))))) : cW R q0 v1 x2 x3 σ := M.of h ok rfl
theorem WQ (h : Spec prog 137 #[.pointer q0,(.pointer (aD b9 0)),(.agg #[(.string (ByteArray.mk #[111,110])),(.string (ByteArray.mk #[105,103,110,111,114,105,110,103]))]),.agg #[.int .i64 3,.int .i64 4]] σ (AA R (fun z y => z = (.tuple #[]) ∧ ∃ (f65 : Nat) (xA xB : Array Value),v1 = .func (.func f65) xA xB ∧ Enters prog f65 ∧ Spec prog f65 (xA ++ #[] ++ xB) y (AA R (fun z AF => z = (.tuple #[]) ∧ ∃ Kc Kd Ke Kf Kg Kh Ki Kj Kk Kl Km Kn Ko Kq,Ay AF b9 0 [.int .i64 Kc,.int .i64 Kd,.string Ke,.slice Kf Kg Kh,.int .i64 Ki,.int .i64 Kj,.int .i64 Kk,.slice Kl Km Kn,.bool Ko,.int .i64 Kq] ∧ Spec prog 138 #[.pointer q0,.agg #[.int .i64 Kc,.int .i64 Kd,.string Ke,.slice Kf Kg Kh,.int .i64 Ki,.int .i64 Kj,.int .i64 Kk,.slice Kl Km Kn,.bool Ko,.int .i64 Kq]] AF (AA R (fun z AH => z = (.tuple #[]) ∧ cW R q0 v1 x2 x3 AH))))))) : FV R q0 v1 x2 x3 b9 σ := M.of h ok rfl
end AT
namespace AU
variable {q0 Dt D3 p2 Gq H3 HT GN p8 ig cX xC : Option Addr} {Dm CZ Dn Du DJ Cf GJ Fp H4 GZ H5 Iu GL GM kI Jz UY Rp : Int} {Dp He : ByteArray} {Dx Dy Dz D4 n2 c2 Gr Gs H6 H7 HU HV GO GQ n8 c8 n25 ij n12 ah n47 te : Nat} {DK Iv : Bool} {v9 : Value}
def M : Fw := ⟨prog,103,f103,[146,147,148],[4,6,11,14],false,[],[],[(488,[(2,wL),(4,.X 36 [.I .i64,.I .i64,.T,.L,.I .i64,.I .i64,.I .i64,.L,.B,.I .i64]),(6,.X 93 [.I .i64,.I .u64,.L,.L]),(8,wL),(9,wV),(25,wL),(26,wI),(27,wI)]),(2024,[(2,wL),(4,.X 36 [.I .i64,.I .i64,.T,.L,.I .i64,.I .i64,.I .i64,.L,.B,.I .i64]),(6,.X 93 [.I .i64,.I .u64,.L,.L]),(8,wL),(12,wL),(47,wL),(48,wI),(49,wI)]),(8103,[(2,wL),(4,.X 36 [.I .i64,.I .i64,.T,.L,.I .i64,.I .i64,.I .i64,.L,.B,.I .i64]),(6,.X 93 [.I .i64,.I .u64,.L,.L]),(8,wL),(12,wL),(47,wL),(48,wI),(49,wI)])]⟩
theorem ok : M.Ok := ⟨.cons call146 (.cons call147 (.cons call148 (AG.nil))),mixed,func103,by kernel_rfl⟩
def FI := M.pt 0
def DV := M.pt 1
def MY := M.pt 2
theorem start (h : ∀ b4 : Nat,∀ b6 : Nat,AK prog (Instr.makeMap 191 none) σ (fun z y => ∃ m17,z = (.map (some m17)) ∧ AK prog (Instr.mapUpdate 191 (.map (some m17)) (.int .i64 11) (.func (.func 144) #[] #[])) y (fun _ AF => AK prog (Instr.mapUpdate 191 (.map (some m17)) (.int .i64 12) (.func (.func 145) #[] #[])) AF (fun _ AH => AK prog (Instr.lookup 191 (.map (some m17)) (.int .i64 CZ) false) AH (fun z Ac => ∃ v21,v21 = z ∧ Pq p2 fun OX fO => In 0 (n2 : Int) ∧ LS Ac OX (fO + 2) fun ig n25 ij => FI R (aD OX fO) n2 c2 Dm CZ Dp Dt Dx Dy Dn Du DJ D3 Dz D4 DK Cf 0 0 none 0 0 none 0 0 none 0 0 v21 ig n25 ij (n25 : Int) 0 Ac))))) : Spec prog 103 #[.pointer q0,.agg #[.int .i64 Dm,.int .i64 CZ,.string Dp,.slice Dt Dx Dy,.int .i64 Dn,.int .i64 Du,.int .i64 DJ,.slice D3 Dz D4,.bool DK,.int .i64 Cf],.slice p2 n2 c2] σ R := M.start h ok
theorem Fg (h : Br (Jz < kI) (Pq ig fun Yb fV => In Jz (n25 : Int) ∧ ∃ mn mo mq mr,Ay σ Yb (fV + Int.toNat Jz * 2) [.slice mn mo mq,.int .u64 mr] ∧ ∀ BG : Nat,Spec prog 146 #[.slice mn mo mq] σ (AA R (CS fun p34 n34 c34 y => ∃ (f38 : Nat) (Hh Hi : Array Value),v9 = .func (.func f38) Hh Hi ∧ Enters prog f38 ∧ Spec prog f38 (Hh ++ #[.int .u64 mr] ++ Hi) y (AA R (CI .u64 fun xD AF => Al AF fun VE => AK prog (Builtin.append_ #[67,67] 67 #[.slice p8 n8 c8,(.slice (aD VE 0) 1 1)]) (Hp.set AF VE (.cells #[.slice p34 n34 c34,.int .u64 xD] 71 (0,0))) (CS fun rL n41 fQ AH => AJ (Jz + 1) ∧ FI R p2 n2 c2 GJ Fp He Gq Gr Gs H4 GZ H5 H3 H6 H7 Iv Iu GL GM HT HU HV GN GO GQ rL n41 fQ v9 (aD Yb fV) n25 ij kI (Jz + 1) AH)))))) (Spec prog 147 #[] σ (AA R (CS fun kG n43 kH y => Pq p2 fun kC kD => In 0 (n2 : Int) ∧ LS y kC (kD + 3) fun xC n47 te => DV R (aD kC kD) n2 c2 GJ Fp He Gq Gr Gs H4 GZ H5 H3 H6 H7 Iv Iu GL GM HT HU HV GN GO GQ p8 n8 c8 kG n43 kH xC n47 te (n47 : Int) 0 y)))) : FI R p2 n2 c2 GJ Fp He Gq Gr Gs H4 GZ H5 H3 H6 H7 Iv Iu GL GM HT HU HV GN GO GQ p8 n8 c8 v9 ig n25 ij kI Jz σ := M.iK h ok rfl fun _ _ => by kernel_rfl
theorem Ff (h : Br (Rp < UY) (Pq xC fun b51 o51 => In Rp (n47 : Int) ∧ ∃ AFU AFV AFW AFX AFY AFZ,Ay σ b51 (o51 + Int.toNat Rp * 2) [.slice AFU AFV AFW,.slice AFX AFY AFZ] ∧ ∀ BY : Nat,Pq cX fun w9 o57 => In Fp (n12 : Int) ∧ ∃ v58,Hp.ld σ ⟨w9,(o57 + Int.toNat Fp * 1),none⟩ = some v58 ∧ ∃ (f63 : Nat) (LK LL : Array Value),v58 = .func (.func f63) LK LL ∧ Enters prog f63 ∧ Spec prog f63 (LK ++ #[.slice AFX AFY AFZ,.agg #[.int .i64 GJ,.int .i64 Fp,.string He,.slice Gq Gr Gs,.int .i64 H4,.int .i64 GZ,.int .i64 H5,.slice H3 H6 H7,.bool Iv,.int .i64 Iu],.slice p2 n2 c2] ++ LL) σ (AA R (fun z y => ∃ AFa AFb,z = (.tuple #[.int .u64 AFa,.bool AFb]) ∧ Bo AFb (Spec prog 146 #[.slice AFU AFV AFW] y (AA R (CS fun p70 n70 c70 AF => Al AF fun b73 => AK prog (Builtin.append_ #[67,67] 67 #[.slice p8 n8 c8,(.slice (aD b73 0) 1 1)]) (Hp.set AF b73 (.cells #[.slice p70 n70 c70,.int .u64 AFa] 71 (0,0))) (CS fun p74 n74 c74 AH => MY R p2 n2 c2 GJ Fp He Gq Gr Gs H4 GZ H5 H3 H6 H7 Iv Iu GL GM HT HU HV GN GO GQ p74 n74 c74 (aD w9 o57) n12 ah (aD b51 o51) n47 te UY Rp AH)))) (MY R p2 n2 c2 GJ Fp He Gq Gr Gs H4 GZ H5 H3 H6 H7 Iv Iu GL GM HT HU HV GN GO GQ p8 n8 c8 (aD w9 o57) n12 ah (aD b51 o51) n47 te UY Rp y)))) (Spec prog 148 #[.slice p8 n8 c8] σ (AA R (fun z y => ∃ xE xF xG xH xI xJ xK xL AFf,z = (.tuple #[.agg #[.int .i64 xE,.int .u64 xF,.slice xG xH xI,.slice xJ xK xL],.int .i64 AFf]) ∧ R (.returned (.tuple #[.agg #[.int .i64 xE,.int .u64 xF,.slice xG xH xI,.slice xJ xK xL],.int .i64 AFf])) y)))) : DV R p2 n2 c2 GJ Fp He Gq Gr Gs H4 GZ H5 H3 H6 H7 Iv Iu GL GM HT HU HV GN GO GQ p8 n8 c8 cX n12 ah xC n47 te UY Rp σ := M.iK h ok rfl fun _ _ => by kernel_rfl
theorem JM (h : AJ (Rp + 1) ∧ DV R p2 n2 c2 GJ Fp He Gq Gr Gs H4 GZ H5 H3 H6 H7 Iv Iu GL GM HT HU HV GN GO GQ p8 n8 c8 cX n12 ah xC n47 te UY (Rp + 1) σ) : MY R p2 n2 c2 GJ Fp He Gq Gr Gs H4 GZ H5 H3 H6 H7 Iv Iu GL GM HT HU HV GN GO GQ p8 n8 c8 cX n12 ah xC n47 te UY Rp σ := M.iK h ok rfl fun _ _ => by kernel_rfl
end AU
namespace BJ
variable {q0 Dt D3 p2 HT GN p8 ig : Option Addr} {Dm CZ Dn Du DJ Cf GL GM kI Jz : Int} {Dp : ByteArray} {Dx Dy Dz D4 n2 c2 HU HV GO GQ n8 c8 n25 ij : Nat} {DK : Bool}
def M : Fw := ⟨prog,106,f106,[146,148,162],[4,6,10],false,[],[],[(488,[(6,.X 93 [.I .i64,.I .u64,.L,.L]),(8,wL),(25,wL),(26,wI),(27,wI)])]⟩
theorem ok : M.Ok := ⟨.cons call146 (.cons call148 (.cons call162 (AG.nil))),mixed,func106,by kernel_rfl⟩
def tf := M.pt 0
theorem start (h : ∀ b4 : Nat,∀ b6 : Nat,Pq p2 fun Pr QU => In 0 (n2 : Int) ∧ LI .i64 σ Pr QU fun XK => Br (XK = 1) (In 0 (n2 : Int) ∧ LI .u64 σ Pr (QU + 1) fun DU => Spec prog 162 #[.int .u64 DU] σ (AA R (CI .u64 fun Hv y => R (.returned (.tuple #[.agg #[.int .i64 1,.int .u64 Hv,.slice none 0 0,.slice none 0 0],.int .i64 0])) y))) (In 0 (n2 : Int) ∧ LS σ Pr (QU + 2) fun ig n25 ij => tf R 0 0 none 0 0 none 0 0 none 0 0 ig n25 ij (n25 : Int) 0 σ)) : Spec prog 106 #[.pointer q0,.agg #[.int .i64 Dm,.int .i64 CZ,.string Dp,.slice Dt Dx Dy,.int .i64 Dn,.int .i64 Du,.int .i64 DJ,.slice D3 Dz D4,.bool DK,.int .i64 Cf],.slice p2 n2 c2] σ R := M.start h ok
theorem fa (h : Br (Jz < kI) (Pq ig fun Yb fV => In Jz (n25 : Int) ∧ ∃ mn mo mq mr,Ay σ Yb (fV + Int.toNat Jz * 2) [.slice mn mo mq,.int .u64 mr] ∧ ∀ Cm : Nat,Spec prog 146 #[.slice mn mo mq] σ (AA R (CS fun p34 n34 c34 y => Spec prog 162 #[.int .u64 mr] y (AA R (CI .u64 fun Qa AF => Al AF fun rh => AK prog (Builtin.append_ #[67,67] 67 #[.slice p8 n8 c8,(.slice (aD rh 0) 1 1)]) (Hp.set AF rh (.cells #[.slice p34 n34 c34,.int .u64 Qa] 71 (0,0))) (CS fun zu n40 zv AH => AJ (Jz + 1) ∧ tf R GL GM HT HU HV GN GO GQ zu n40 zv (aD Yb fV) n25 ij kI (Jz + 1) AH)))))) (Spec prog 148 #[.slice p8 n8 c8] σ (AA R (fun z y => ∃ xM xN xO xP xQ xR xS xT MX,z = (.tuple #[.agg #[.int .i64 xM,.int .u64 xN,.slice xO xP xQ,.slice xR xS xT],.int .i64 MX]) ∧ R (.returned (.tuple #[.agg #[.int .i64 xM,.int .u64 xN,.slice xO xP xQ,.slice xR xS xT],.int .i64 MX])) y)))) : tf R GL GM HT HU HV GN GO GQ p8 n8 c8 ig n25 ij kI Jz σ := M.j8 h ok rfl fun _ => by kernel_rfl
end BJ
namespace D7
variable {p0 p5 : Option Addr} {n0 c0 n5 c5 : Nat} {x1 : Int}
def M : Fw := ⟨prog,107,f107,[],[],false,[],[],[(224,[(1,wU),(5,wL)])]⟩
theorem ok : M.Ok := ⟨AG.nil,mixed,func107,by kernel_rfl⟩
def ES := M.pt 0
theorem start (h : Al σ fun b6 => AK prog (Builtin.append_ #[90,90] 90 #[(.slice (aD b6 0) 0 0),.slice p0 n0 c0]) (Hp.set σ b6 (.cells #[] 5 (0,0))) (CS fun p8 n8 c8 y => ES R x1 p8 n8 c8 y)) : Spec prog 107 #[.slice p0 n0 c0,.int .u64 x1] σ R := M.start h ok
theorem Af (h : Br (127 < x1) (Df (IntKind.u8.wrap x1) fun x15 => Df (Go.bits .or .u8 x15 128) fun x16 => Al σ fun b17 => AK prog (Builtin.append_ #[90,90] 90 #[.slice p5 n5 c5,(.slice (aD b17 0) 1 1)]) (Hp.set σ b17 (.cells #[.int .u8 x16] 5 (0,0))) (CS fun p18 n18 c18 y => ((0 : Int) ≤ 7 ∧ 7 ≤ ((IntKind.bits .u64 : Nat) : Int)) ∧ Df (x1 / 2 ^ Int.toNat 7) fun x12 => ES R x12 p18 n18 c18 y)) (Df (IntKind.u8.wrap x1) fun cS => Al σ fun b22 => AK prog (Builtin.append_ #[90,90] 90 #[.slice p5 n5 c5,(.slice (aD b22 0) 1 1)]) (Hp.set σ b22 (.cells #[.int .u8 cS] 5 (0,0))) (CS fun cA n23 cB y => R (.returned (.slice cA n23 cB)) y))) : ES R x1 p5 n5 c5 σ := M.of h ok rfl
end D7
namespace S7
variable {x0 : Int}
def M : Fw := ⟨prog,128,f128,[],[],false,[],[],[]⟩
theorem ok : M.Ok := ⟨AG.nil,mixed,func128,by kernel_rfl⟩
theorem start (h : Br (11 ≤ x0) (R (.returned (.bool (decide (x0 ≤ 13)))) σ) (R (.returned (.bool false)) σ)) : Spec prog 128 #[.int .i64 x0] σ R := M.start h ok
end S7
namespace Jo
variable {q0 : Option Addr} {x1 : Int} {s2 : ByteArray}
def M : Fw := ⟨prog,136,f136,[66],[],false,[],[],[]⟩
theorem ok : M.Ok := ⟨.cons call66 (AG.nil),mixed,func136,by kernel_rfl⟩
theorem start (h : Spec prog 66 #[.pointer q0] σ (AA R (fun z y => ∃ EH ET s8c x8d,z = (.agg #[.int .i64 EH,.int .i64 ET,.string s8c,.int .i64 x8d]) ∧ Br (EH = x1) (Spec prog 66 #[.pointer q0] y (AA R (fun z AF => ∃ Gf UU WV AAT,z = (.agg #[.int .i64 Gf,.int .i64 UU,.string WV,.int .i64 AAT]) ∧ R (.returned (.bool (ByteArray.toList WV == ByteArray.toList s2))) AF))) (R (.returned (.bool false)) y)))) : Spec prog 136 #[.pointer q0,.int .i64 x1,.string s2] σ R := M.start h ok
end Jo
namespace EI
variable {p0 p1 p5 p9 : Option Addr} {n0 c0 n1 c1 n5 c5 n9 c9 : Nat} {x10 x11 : Int}
def M : Fw := ⟨prog,142,f142,[125,178,179,180],[7],false,[],[],[(232,[(1,wL),(5,wL),(9,wL),(10,wI),(11,wI)])]⟩
theorem ok : M.Ok := ⟨.cons call125 (.cons call178 (.cons call179 (.cons call180 (AG.nil)))),mixed,func142,by kernel_rfl⟩
def BA := M.pt 0
theorem start (h : Spec prog 178 #[] σ (AA R (CS fun p8 n8 c8 y => BA R p1 n1 c1 p8 n8 c8 p0 n0 c0 (n0 : Int) 0 y))) : Spec prog 142 #[.slice p0 n0 c0,.slice p1 n1 c1] σ R := M.start h ok
theorem AZ (h : Br (x11 < x10) (Pq p9 fun Cn WG => In x11 (n9 : Int) ∧ ∃ Gf cI WV,Ay σ Cn (WG + Int.toNat x11 * 3) [.int .i64 Gf,.string cI,.string WV] ∧ ∀ b7 : Nat,Spec prog 125 #[.int .i64 Gf] σ (AA R (CB fun t17 y => Bn t17 (R (.returned (.bool false)) y) (Pq p5 fun OX fO => In Gf (n5 : Int) ∧ ∃ v24,Hp.ld y ⟨OX,(fO + Int.toNat Gf * 1),none⟩ = some v24 ∧ Spec prog 179 #[.string WV] y (AA R (fun z AF => ∃ M7 MW M8,z = (.agg #[.slice M7 MW M8]) ∧ Kp [OX] y AF ∧ Spec prog 180 #[.slice p1 n1 c1,.string cI] AF (AA R (CT fun s34 AH => Kp [OX] AF AH ∧ ∃ (f35 : Nat) (Yp Yq : Array Value),v24 = .func (.func f35) Yp Yq ∧ Enters prog f35 ∧ Spec prog f35 (Yp ++ #[.agg #[.slice M7 MW M8,.string WV],.string s34] ++ Yq) AH (AA R (CB fun t35 Ac => Bn t35 (R (.returned (.bool false)) Ac) (AJ (x11 + 1) ∧ BA R p1 n1 c1 (aD OX fO) n5 c5 (aD Cn WG) n9 c9 x10 (x11 + 1) Ac))))))))))) (R (.returned (.bool true)) σ)) : BA R p1 n1 c1 p5 n5 c5 p9 n9 c9 x10 x11 σ := M.of h ok rfl
end EI
namespace VI
variable {p0 : Option Addr} {n0 c0 : Nat}
def M : Fw := ⟨prog,146,f146,[150],[],false,[],[],[]⟩
theorem ok : M.Ok := ⟨.cons call150 (AG.nil),mixed,func146,by kernel_rfl⟩
theorem start (h : Al σ fun b4 => Spec prog 150 #[.slice p0 n0 c0,(.slice (aD b4 0) 1 1)] (Hp.set σ b4 (.cells #[(.string (ByteArray.mk #[95,95,110,97,109,101,95,95]))] 9 (0,0))) (AA R (CS fun p5 n5 c5 y => R (.returned (.slice p5 n5 c5)) y))) : Spec prog 146 #[.slice p0 n0 c0] σ R := M.start h ok
end VI
namespace EV
variable {p0 p2c p2d : Option Addr} {n0 c0 n2c c2c n2d c2d : Nat} {tg x2b x4 : Int}
def M : Fw := ⟨prog,148,f148,[52,195],[2],false,[],[],[(464,[(0,wL),(2,.X 93 [.I .i64,.I .u64,.L,.L]),(4,wI)])]⟩
theorem ok : M.Ok := ⟨.cons call52 (.cons call195 (AG.nil)),mixed,func148,by kernel_rfl⟩
def Bh := M.pt 0
theorem start (h : ∀ b2 : Nat,Spec prog 195 #[.slice p0 n0 c0,(.func (.func 196) #[] #[])] σ (AA R (fun z y => z = (.tuple #[]) ∧ Bh R p0 n0 c0 0 0 none 0 0 none 0 0 1 y))) : Spec prog 148 #[.slice p0 n0 c0] σ R := M.start h ok
theorem A3 (h : Br (x4 < (n0 : Int)) (AJ (x4 - 1) ∧ Pq p0 fun Hy Nh => In (x4 - 1) (n0 : Int) ∧ LS σ Hy (Nh + Int.toNat (x4 - 1) * 2) fun p18 n18 c18 => In x4 (n0 : Int) ∧ LS σ Hy (Nh + Int.toNat x4 * 2) fun cA n23 cB => Spec prog 52 #[.slice p18 n18 c18,.slice cA n23 cB] σ (AA R (CI .i64 fun IL y => Br (IL = 0) (R (.returned (.tuple #[.agg #[.int .i64 0,.int .u64 0,.slice none 0 0,.slice none 0 0],.int .i64 223])) y) (AJ (x4 + 1) ∧ Bh R (aD Hy Nh) n0 c0 tg x2b p2c n2c c2c p2d n2d c2d (x4 + 1) y)))) (R (.returned (.tuple #[.agg #[.int .i64 2,.int .u64 0,.slice p0 n0 c0,.slice none 0 0],.int .i64 0])) σ)) : Bh R p0 n0 c0 tg x2b p2c n2c c2c p2d n2d c2d x4 σ := M.j8 h ok rfl fun _ => by kernel_rfl
end EV
namespace Da
variable {x0 : Int} {b1 b2 : Nat}
def M : Fw := ⟨prog,158,f158,[156],[],false,[],[],[]⟩
theorem ok : M.Ok := ⟨.cons call156 (AG.nil),mixed,func158,by kernel_rfl⟩
theorem start (h : ∃ GL GM s6c GN GO GQ x6e x6f x6g p6h n6h c6h t6i x6j,Ay σ b1 0 [.int .i64 GL,.int .i64 GM,.string s6c,.slice GN GO GQ,.int .i64 x6e,.int .i64 x6f,.int .i64 x6g,.slice p6h n6h c6h,.bool t6i,.int .i64 x6j] ∧ LI .u64 σ b2 1 fun x8 => Spec prog 156 #[.agg #[.int .i64 GL,.int .i64 GM,.string s6c,.slice GN GO GQ,.int .i64 x6e,.int .i64 x6f,.int .i64 x6g,.slice p6h n6h c6h,.bool t6i,.int .i64 x6j],.int .u64 x8,.int .u64 x0] σ (AA R (fun z y => ∃ I5 Ry,z = (.tuple #[.int .u64 I5,.bool Ry]) ∧ R (.returned (.tuple #[.int .u64 I5,.bool Ry])) y))) : Spec prog 158 #[.int .u64 x0,(.pointer (aD b1 0)),(.pointer (aD b2 0))] σ R := M.start h ok
end Da
namespace Db
variable {q0 : Option Addr}
def M : Fw := ⟨prog,171,f171,[95],[],false,[],[],[]⟩
theorem ok : M.Ok := ⟨.cons call95 (AG.nil),mixed,func171,by kernel_rfl⟩
theorem start (h : Spec prog 95 #[.pointer q0,(.func (.func 212) #[.pointer q0] #[]),.int .i64 1,.int .i64 2] σ (AA R (fun z y => z = (.tuple #[]) ∧ R (.returned (.tuple #[])) y))) : Spec prog 171 #[.pointer q0] σ R := M.start h ok
end Db
namespace IP
variable {p0 p7 : Option Addr} {n0 c0 n7 c7 : Nat} {s1 : ByteArray} {x8 x9 : Int}
def M : Fw := ⟨prog,180,f180,[],[6],false,[],[],[(104,[(1,wT),(7,wL),(8,wI),(9,wI)])]⟩
theorem ok : M.Ok := ⟨AG.nil,mixed,func180,by kernel_rfl⟩
def Hz := M.pt 0
theorem start (h : Hz R s1 p0 n0 c0 (n0 : Int) 0 σ) : Spec prog 180 #[.slice p0 n0 c0,.string s1] σ R := M.start h ok
theorem Bl (h : Br (x9 < x8) (Pq p7 fun BG kE => In x9 (n7 : Int) ∧ ∃ AFg AFh,Ay σ BG (kE + Int.toNat x9 * 2) [.string AFg,.string AFh] ∧ ∀ b6 : Nat,Bo (ByteArray.toList AFg == ByteArray.toList s1) (R (.returned (.string AFh)) σ) (AJ (x9 + 1) ∧ Hz R s1 (aD BG kE) n7 c7 x8 (x9 + 1) σ)) (R (.returned (.string (ByteArray.mk #[]))) σ)) : Hz R s1 p7 n7 c7 x8 x9 σ := M.of h ok rfl
end IP
namespace Dc
variable {p0 p1 : Option Addr} {n0 c0 n1 c1 : Nat}
def M : Fw := ⟨prog,191,f191,[192],[],false,[],[],[]⟩
theorem ok : M.Ok := ⟨.cons call192 (AG.nil),mixed,func191,by kernel_rfl⟩
theorem start (h : Spec prog 192 #[.slice p0 n0 c0] σ (AA R (CI .u64 fun x6 y => R (.returned (.int .u64 x6)) y))) : Spec prog 191 #[.slice p0 n0 c0,.slice p1 n1 c1] σ R := M.start h ok
end Dc
namespace S8
variable {x0 x1 x2 : Int}
def M : Fw := ⟨prog,203,f203,[174,182],[],false,[],[],[]⟩
theorem ok : M.Ok := ⟨.cons call174 (.cons call182 (AG.nil)),mixed,func203,by kernel_rfl⟩
theorem start (h : Spec prog 182 #[.int .u64 x1] σ (AA R (fun z y => ∃ x11,(Value.float .f64 x11) = z ∧ Spec prog 182 #[.int .u64 x2] y (AA R (fun z AF => ∃ FK,(Value.float .f64 FK) = z ∧ Br (x0 = 1) (AK prog (binOp .add 51 (Value.float .f64 x11) (Value.float .f64 FK)) AF (fun z AH => ∃ DU,(Value.float .f64 DU) = z ∧ Spec prog 174 #[(Value.float .f64 DU)] AH (AA R (CI .u64 fun Hv Ac => R (.returned (.tuple #[.int .u64 Hv,.bool true])) Ac)))) (Br (x0 = 2) (AK prog (binOp .sub 51 (Value.float .f64 x11) (Value.float .f64 FK)) AF (fun z AH => ∃ P1,(Value.float .f64 P1) = z ∧ Spec prog 174 #[(Value.float .f64 P1)] AH (AA R (CI .u64 fun kI Ac => R (.returned (.tuple #[.int .u64 kI,.bool true])) Ac)))) (Br (x0 = 3) (AK prog (binOp .mul 51 (Value.float .f64 x11) (Value.float .f64 FK)) AF (fun z AH => ∃ x31,(Value.float .f64 x31) = z ∧ Spec prog 174 #[(Value.float .f64 x31)] AH (AA R (CI .u64 fun mi Ac => R (.returned (.tuple #[.int .u64 mi,.bool true])) Ac)))) (Br (x0 = 4) (AK prog (binOp .quo 51 (Value.float .f64 x11) (Value.float .f64 FK)) AF (fun z AH => ∃ Qa,(Value.float .f64 Qa) = z ∧ Spec prog 174 #[(Value.float .f64 Qa)] AH (AA R (CI .u64 fun xD Ac => R (.returned (.tuple #[.int .u64 xD,.bool true])) Ac)))) (R (.returned (.tuple #[.int .u64 0,.bool false])) AF))))))))) : Spec prog 203 #[.int .i64 x0,.int .u64 x1,.int .u64 x2] σ R := M.start h ok
end S8
namespace S9
variable {t0 : Bool}
def M : Fw := ⟨prog,205,f205,[143],[],false,[],[],[]⟩
theorem ok : M.Ok := ⟨.cons call143 (AG.nil),mixed,func205,by kernel_rfl⟩
theorem start (h : Bo t0 (Spec prog 143 #[.int .i64 1] σ (AA R (CI .u64 fun x4 y => R (.returned (.int .u64 x4)) y))) (Spec prog 143 #[.int .i64 0] σ (AA R (CI .u64 fun x5 y => R (.returned (.int .u64 x5)) y)))) : Spec prog 205 #[.bool t0] σ R := M.start h ok
end S9
namespace C2
variable {s0 : ByteArray} {x1 : Int}
def M : Fw := ⟨prog,214,f214,[231],[],false,[],[],[]⟩
theorem ok : M.Ok := ⟨.cons call231 (AG.nil),mixed,func214,by kernel_rfl⟩
theorem start (h : Spec prog 231 #[.string s0,.int .i64 x1] σ (AA R (fun z y => ∃ AFi mu AFj,z = (.tuple #[AFi,.int .i64 mu,AFj]) ∧ Br (mu ≠ ((ByteArray.size s0 : Nat) : Int)) (R (.returned (.tuple #[.float .f64 0,(.iface 264 (.int .i64 2))])) y) (R (.returned (.tuple #[AFi,AFj])) y)))) : Spec prog 214 #[.string s0,.int .i64 x1] σ R := M.start h ok
end C2
namespace Eu
variable {Pw : Option Addr} {Jx OY : Nat} {ad s1 : ByteArray}
def M : Fw := ⟨prog,217,f217,[],[2],false,[],[],[]⟩
theorem ok : M.Ok := ⟨AG.nil,mixed,func217,by kernel_rfl⟩
theorem start (h : ∀ b2 : Nat,R (.returned (.bool (ByteArray.toList s1 == ByteArray.toList ad))) σ) : Spec prog 217 #[.agg #[.slice Pw Jx OY,.string ad],.string s1] σ R := M.start h ok
end Eu
namespace TA
variable {p0 : Option Addr} {n0 c0 : Nat}
def M : Fw := ⟨prog,225,f225,[174,240,241],[],false,[],[],[]⟩
theorem ok : M.Ok := ⟨.cons call174 (.cons call240 (.cons call241 (AG.nil))),mixed,func225,by kernel_rfl⟩
theorem start (h : Spec prog 240 #[(.int .i64 (n0 : Int))] σ (AA R (CB fun t7 y => Bn t7 (R (.returned (.tuple #[.int .u64 0,.int .i64 210])) y) ((n0 : Int) ≠ (0 : Int) ∧ Df (Int.tmod 1 (n0 : Int)) fun x12 => Spec prog 241 #[.slice p0 n0 c0,.int .i64 x12] y (AA R (fun z AF => ∃ FK y13,(Value.complex .f64 FK y13) = z ∧ ∃ x15,YF prog (Builtin.real_ #[272] 51 #[(Value.complex .f64 FK y13)]) AF (Value.float .f64 x15) ∧ ∃ x17,YF prog (Builtin.real_ #[272] 51 #[(Value.complex .f64 FK y13)]) AF (Value.float .f64 x17) ∧ AK prog (binOp .mul 51 (Value.float .f64 x15) (Value.float .f64 x17)) AF (fun z AH => ∃ SD,(Value.float .f64 SD) = z ∧ ∃ Hv,YF prog (Builtin.imag_ #[272] 51 #[(Value.complex .f64 FK y13)]) AH (Value.float .f64 Hv) ∧ ∃ Is,YF prog (Builtin.imag_ #[272] 51 #[(Value.complex .f64 FK y13)]) AH (Value.float .f64 Is) ∧ AK prog (binOp .mul 51 (Value.float .f64 Hv) (Value.float .f64 Is)) AH (fun z Ac => ∃ EJ,(Value.float .f64 EJ) = z ∧ AK prog (binOp .add 51 (Value.float .f64 SD) (Value.float .f64 EJ)) Ac (fun z EF => ∃ IL,(Value.float .f64 IL) = z ∧ Spec prog 174 #[(Value.float .f64 IL)] EF (AA R (CI .u64 fun P1 Fo => R (.returned (.tuple #[.int .u64 P1,.int .i64 0])) Fo))))))))))) : Spec prog 225 #[.slice p0 n0 c0] σ R := M.start h ok
end TA
namespace P2
def M : Fw := ⟨prog,267,f267,[],[],false,[],[],[]⟩
theorem ok : M.Ok := ⟨AG.nil,mixed,func267,by kernel_rfl⟩
theorem start (h : Al σ fun b1 => R (.returned (.slice (aD b1 0) 13 13)) (Hp.set σ b1 (.cells #[(.string (ByteArray.mk #[])),(.string (ByteArray.mk #[114,97,116,101])),(.string (ByteArray.mk #[105,110,99,114,101,97,115,101])),(.string (ByteArray.mk #[100,101,108,116,97])),(.string (ByteArray.mk #[115,117,109,95,111,118,101,114,95,116,105,109,101])),(.string (ByteArray.mk #[97,118,103,95,111,118,101,114,95,116,105,109,101])),(.string (ByteArray.mk #[109,105,110,95,111,118,101,114,95,116,105,109,101])),(.string (ByteArray.mk #[109,97,120,95,111,118,101,114,95,116,105,109,101])),(.string (ByteArray.mk #[99,111,117,110,116,95,111,118,101,114,95,116,105,109,101])),(.string (ByteArray.mk #[108,97,115,116,95,111,118,101,114,95,116,105,109,101])),(.string (ByteArray.mk #[119,97,118,101])),(.string (ByteArray.mk #[97,98,115])),(.string (ByteArray.mk #[102,108,111,111,114]))] 9 (0,0)))) : Spec prog 267 #[] σ R := M.start h ok
end P2
namespace An
variable {q0 : Option Addr} {b2 : Nat} {t4 : Bool}
def M : Fw := ⟨prog,270,f270,[66,67,135,136,138,210,295,296,297,298],[3],false,[],[],[(124,[(0,wQ),(2,wA),(4,wB)]),(252,[(0,wQ),(2,wA)]),(508,[(0,wQ),(2,wA)]),(255,[(0,wQ),(2,wA)])]⟩
theorem ok : M.Ok := ⟨.cons call66 (.cons call67 (.cons call135 (.cons call136 (.cons call138 (.cons call210 (.cons call295 (.cons call296 (.cons call297 (.cons call298 (AG.nil)))))))))),mixed,func270,by kernel_rfl⟩
def MT := M.pt 0
def MV := M.pt 1
def QY := M.pt 2
def Wc := M.pt 3
theorem start (h : Al σ fun b2 => AK prog (Instr.storeAt 36 (.pointer (aD b2 0)) (.agg #[.int .i64 2,.int .i64 0,(.string (ByteArray.mk #[])),.slice none 0 0,.int .i64 0,.int .i64 0,.int .i64 0,.slice none 0 0,.bool false,.int .i64 0])) (Hp.set σ b2 (.cells #[.int .i64 0,.int .i64 0,(.string (ByteArray.mk #[])),.slice none 0 0,.int .i64 0,.int .i64 0,.int .i64 0,.slice none 0 0,.bool false,.int .i64 0] 36 (0,0))) (fun _ y => Spec prog 66 #[.pointer q0] y (AA R (fun z AF => ∃ Fu Gt Fv Gu,z = (.agg #[.int .i64 Fu,.int .i64 Gt,.string Fv,.int .i64 Gu]) ∧ ∀ b3 : Nat,Br (Fu = 3) (Spec prog 295 #[.string Fv] AF (AA R (CB fun t14 AH => Bn t14 (Spec prog 135 #[.pointer q0] AH (AA R (fun z Ac => ∃ KC O6 WI zf,z = (.agg #[.int .i64 KC,.int .i64 O6,.string WI,.int .i64 zf]) ∧ Spec prog 296 #[.pointer q0,(.pointer (aD b2 0)),(.agg #[.int .i64 1,(.string (ByteArray.mk #[95,95,110,97,109,101,95,95])),.string Fv]),.agg #[.int .i64 Fu,.int .i64 Gt,.string Fv,.int .i64 Gu]] Ac (AA R (fun z EF => z = (.tuple #[]) ∧ MT R q0 b2 true EF))))) (MT R q0 b2 false AH)))) (MT R q0 b2 false AF))))) : Spec prog 270 #[.pointer q0] σ R := M.start h ok
theorem I4 (h : Spec prog 136 #[.pointer q0,.int .i64 5,(.string (ByteArray.mk #[123]))] σ (AA R (CB fun t27 y => Bo t27 (Spec prog 135 #[.pointer q0] y (AA R (fun z AF => ∃ AMD AME AMF AMG,z = (.agg #[.int .i64 AMD,.int .i64 AME,.string AMF,.int .i64 AMG]) ∧ Spec prog 297 #[.pointer q0,(.pointer (aD b2 0))] AF (AA R (fun z AH => z = (.tuple #[]) ∧ MV R q0 b2 AH))))) (Bn t4 (Spec prog 67 #[.pointer q0] y (AA R (fun z AF => z = (.tuple #[]) ∧ MV R q0 b2 AF))) (MV R q0 b2 y))))) : MT R q0 b2 t4 σ := M.of h ok rfl
theorem JK (h : Spec prog 136 #[.pointer q0,.int .i64 5,(.string (ByteArray.mk #[91]))] σ (AA R (CB fun t37 y => Bo t37 (Spec prog 135 #[.pointer q0] y (AA R (fun z AF => ∃ AMH AMI AMJ AMK,z = (.agg #[.int .i64 AMH,.int .i64 AMI,.string AMJ,.int .i64 AMK]) ∧ Spec prog 298 #[.pointer q0] AF (AA R (CI .i64 fun x41 AH => AK prog (Instr.storeAt 3 (.pointer (aD b2 0)) (.int .i64 3)) AH (fun _ Ac => AK prog (Instr.storeAt 2 (.pointer (aD b2 4)) (.int .i64 x41)) Ac (fun _ EF => Spec prog 210 #[.pointer q0,(.string (ByteArray.mk #[93]))] EF (AA R (fun z Fo => z = (.tuple #[]) ∧ QY R q0 b2 Fo))))))))) (QY R q0 b2 y)))) : MV R q0 b2 σ := M.of h ok rfl
theorem RA (h : Spec prog 136 #[.pointer q0,.int .i64 3,(.string (ByteArray.mk #[111,102,102,115,101,116]))] σ (AA R (CB fun t47 y => Bo t47 (Spec prog 135 #[.pointer q0] y (AA R (fun z AF => ∃ ta AML AMM AMN,z = (.agg #[.int .i64 ta,.int .i64 AML,.string AMM,.int .i64 AMN]) ∧ Spec prog 298 #[.pointer q0] AF (AA R (CI .i64 fun x51 AH => AK prog (Instr.storeAt 2 (.pointer (aD b2 5)) (.int .i64 x51)) AH (fun _ Ac => Wc R q0 b2 Ac)))))) (Wc R q0 b2 y)))) : QY R q0 b2 σ := M.of h ok rfl
theorem Wd (h : ∃ Yc Ye mz Yf Yg Yh nB nC nE nF nG nH nI nJ,Ay σ b2 0 [.int .i64 Yc,.int .i64 Ye,.string mz,.slice Yf Yg Yh,.int .i64 nB,.int .i64 nC,.int .i64 nE,.slice nF nG nH,.bool nI,.int .i64 nJ] ∧ Spec prog 138 #[.pointer q0,.agg #[.int .i64 Yc,.int .i64 Ye,.string mz,.slice Yf Yg Yh,.int .i64 nB,.int .i64 nC,.int .i64 nE,.slice nF nG nH,.bool nI,.int .i64 nJ]] σ (AA R (fun z y => z = (.tuple #[]) ∧ R (.returned (.tuple #[])) y))) : Wc R q0 b2 σ := M.of h ok rfl
end An
namespace BM
variable {x0 x1 : Int} {t2 t7 : Bool} {v6 : Value}
def M : Fw := ⟨prog,282,f282,[],[],false,[],[],[(248,[(1,wI),(6,wV),(7,wB)]),(15988,[(1,wI),(6,wV),(7,wB)])]⟩
theorem ok : M.Ok := ⟨AG.nil,mixed,func282,by kernel_rfl⟩
def AAX := M.pt 0
def J6 := M.pt 1
theorem start (h : LI .u64 σ 6 0 fun x10 => (0 ≤ x10 ∧ x10 ≤ ((IntKind.bits .u64 : Nat) : Int)) ∧ Df (x0 / 2 ^ Int.toNat x10) fun x11 => Br (x11 ≠ 0) (R (.returned (.tuple #[.float .f64 0,.bool false])) σ) (AK prog (convert 48 51 (.int .u64 x0)) σ (fun z y => ∃ XK,(Value.float .f64 XK) = z ∧ Bo t2 (∃ x17,YF prog (Op.unary .neg (Value.float .f64 XK)) y (Value.float .f64 x17) ∧ AAX R x1 (Value.float .f64 x17) false y) (AAX R x1 (Value.float .f64 XK) false y)))) : Spec prog 282 #[.int .u64 x0,.int .i64 x1,.bool t2] σ R := M.start h ok
theorem th (h : Br (x1 = 0) (R (.returned (.tuple #[v6,.bool true])) σ) (Br (0 < x1) (Br (x1 ≤ 37) (Br (22 < x1) (LS σ 9 0 fun p32 n32 c32 => AJ (x1 - 22) ∧ Pq p32 fun b35 o35 => In (x1 - 22) (n32 : Int) ∧ ∃ ae,Hp.ld σ ⟨b35,(o35 + Int.toNat (x1 - 22) * 1),none⟩ = some (Value.float .f64 ae) ∧ AK prog (binOp .mul 51 v6 (Value.float .f64 ae)) σ (fun z y => ∃ Qa,(Value.float .f64 Qa) = z ∧ J6 R 22 (Value.float .f64 Qa) t7 y)) (J6 R x1 v6 t7 σ)) (Br (x1 < 0) (Br (((-22) : Int) ≤ x1) (LS σ 9 0 fun rK kA vw => Df (IntKind.i64.wrap (0 - x1)) fun tZ => Pq rK fun b61 o61 => In tZ (kA : Int) ∧ ∃ kJ,Hp.ld σ ⟨b61,(o61 + Int.toNat tZ * 1),none⟩ = some (Value.float .f64 kJ) ∧ AK prog (binOp .quo 51 v6 (Value.float .f64 kJ)) σ (fun z y => ∃ x63,(Value.float .f64 x63) = z ∧ R (.returned (.tuple #[(Value.float .f64 x63),.bool true])) y)) (R (.returned (.tuple #[v6,.bool t7])) σ)) (R (.returned (.tuple #[v6,.bool t7])) σ))) (Br (x1 < 0) (Br (((-22) : Int) ≤ x1) (LS σ 9 0 fun rK kA vw => Df (IntKind.i64.wrap (0 - x1)) fun tZ => Pq rK fun b61 o61 => In tZ (kA : Int) ∧ ∃ kJ,Hp.ld σ ⟨b61,(o61 + Int.toNat tZ * 1),none⟩ = some (Value.float .f64 kJ) ∧ AK prog (binOp .quo 51 v6 (Value.float .f64 kJ)) σ (fun z y => ∃ x63,(Value.float .f64 x63) = z ∧ R (.returned (.tuple #[(Value.float .f64 x63),.bool true])) y)) (R (.returned (.tuple #[v6,.bool t7])) σ)) (R (.returned (.tuple #[v6,.bool t7])) σ)))) : AAX R x1 v6 t7 σ := M.of h ok rfl
end BM
end TwW
end
end
section
set_option maxRecDepth 100000
noncomputable section
namespace TwW
open Go Tw Go.Proofs.Tryz
variable [FB] {R : Rr} {σ : Hp}


namespace Bz
variable {p0 Nj AMQ AMR : Option Addr} {n0 c0 n21 MU AMS AMT AMU AMV : Nat} {x7 x8 Is EJ ia Qb AMW ti AMX AMY x12 : Int} {t9 AMZ : Bool} {ib : ByteArray}
def M : Fw := ⟨prog,15,f15,[37],[11],false,[],[],[(488,[(7,wI),(8,wI),(9,wB),(21,wL),(22,wI),(23,wI)]),(1959,[(7,wI),(8,wI),(9,wB),(21,wL),(22,wI),(23,wI)]),(125342,[(7,wI),(8,wI),(9,wB),(11,.X 36 [.I .i64,.I .i64,.T,.L,.I .i64,.I .i64,.I .i64,.L,.B,.I .i64]),(12,wI),(21,wL),(22,wI),(23,wI)]),(250687,[(7,wI),(8,wI),(21,wL),(22,wI),(23,wI)])]⟩
theorem ok : M.Ok := ⟨.cons call37 (AG.nil),mixed,func15,by kernel_rfl⟩
def AAY := M.pt 0
def AAZ := M.pt 1
def Wc := M.pt 2
def YZ := M.pt 3
theorem start (h : Spec prog 37 #[.slice p0 n0 c0] σ (AA R (fun z y => ∃ AMa tj AFm,z = (.tuple #[.int .i64 AMa,.int .i64 tj,.int .i64 AFm]) ∧ Br (AFm ≠ 0) (R (.returned (.tuple #[.int .i64 0,.int .i64 0])) y) (AAY R 0 0 false p0 n0 c0 (n0 : Int) 0 y)))) : Spec prog 15 #[.slice p0 n0 c0] σ R := M.start h ok
theorem We (h : Br (EJ < Is) (Pq Nj fun Lv ai => In EJ (n21 : Int) ∧ ∃ Wf nK nL nM nN nO PC PD nP nQ nR nS nT nU,Ay σ Lv (ai + Int.toNat EJ * 10) [.int .i64 Wf,.int .i64 nK,.string nL,.slice nM nN nO,.int .i64 PC,.int .i64 PD,.int .i64 nP,.slice nQ nR nS,.bool nT,.int .i64 nU] ∧ ∀ BG : Nat,Br (Wf ≠ 2) (Br (Wf ≠ 3) (AAZ R x7 x8 t9 (aD Lv ai) n21 MU Is EJ σ) (AJ (PD + PC) ∧ Br (Wf = 2) (AJ ((PD + PC) + 300) ∧ Wc R x7 x8 t9 Wf nK nL nM nN nO PC PD nP nQ nR nS nT nU (((PD + PC) + 300)) (aD Lv ai) n21 MU Is EJ σ) (Wc R x7 x8 t9 Wf nK nL nM nN nO PC PD nP nQ nR nS nT nU (PD + PC) (aD Lv ai) n21 MU Is EJ σ))) (AJ (PD + PC) ∧ Br (Wf = 2) (AJ ((PD + PC) + 300) ∧ Wc R x7 x8 t9 Wf nK nL nM nN nO PC PD nP nQ nR nS nT nU (((PD + PC) + 300)) (aD Lv ai) n21 MU Is EJ σ) (Wc R x7 x8 t9 Wf nK nL nM nN nO PC PD nP nQ nR nS nT nU (PD + PC) (aD Lv ai) n21 MU Is EJ σ))) (R (.returned (.tuple #[.int .i64 x7,.int .i64 x8])) σ)) : AAY R x7 x8 t9 Nj n21 MU Is EJ σ := M.of h ok rfl
theorem fc (h : AJ (EJ + 1) ∧ AAY R x7 x8 t9 Nj n21 MU Is (EJ + 1) σ) : AAZ R x7 x8 t9 Nj n21 MU Is EJ σ := M.of h ok rfl
theorem Wd (h : Bn t9 (YZ R (if x7 < x12 then x12 else x7) ti Nj n21 MU Is EJ σ) (Br (ti < x8) (YZ R (if x7 < x12 then x12 else x7) ti Nj n21 MU Is EJ σ) (YZ R (if x7 < x12 then x12 else x7) x8 Nj n21 MU Is EJ σ))) : Wc R x7 x8 t9 ia Qb ib AMQ AMS AMT AMW ti AMX AMR AMU AMV AMZ AMY x12 Nj n21 MU Is EJ σ := M.j8 h ok rfl fun _ => by kernel_rfl
theorem WR (h : AAZ R x7 x8 true Nj n21 MU Is EJ σ) : YZ R x7 x8 Nj n21 MU Is EJ σ := M.of h ok rfl
end Bz
namespace VJ
variable {s0 : ByteArray} {p1 : Option Addr} {n1 c1 : Nat} {x2 : Int}
def M : Fw := ⟨prog,20,f20,[11,13,43],[],false,[],[],[]⟩
theorem ok : M.Ok := ⟨.cons call11 (.cons call13 (.cons call43 (AG.nil))),mixed,func20,by kernel_rfl⟩
theorem start (h : Spec prog 43 #[.string s0] σ (AA R (fun z y => ∃ mC mD mE AMb AAa,z = (.tuple #[.slice mC mD mE,.int .i64 AMb,.int .i64 AAa]) ∧ Br (AAa ≠ 0) (R (.returned (.tuple #[.slice none 0 0,.int .i64 AAa])) y) (Spec prog 13 #[.slice p1 n1 c1] y (AA R (CS fun U9 n22 UK AF => Spec prog 11 #[.slice mC mD mE,.slice U9 n22 UK,.int .i64 x2] AF (AA R (fun z AH => ∃ AFn AFo AFp Wg,z = (.tuple #[.slice AFn AFo AFp,.int .i64 Wg]) ∧ R (.returned (.tuple #[.slice AFn AFo AFp,.int .i64 Wg])) AH)))))))) : Spec prog 20 #[.string s0,.slice p1 n1 c1,.int .i64 x2] σ R := M.start h ok
end VJ
namespace Nz
variable {Pw p0b p1a p1b : Option Addr} {Jx OY n0b c0b n1a c1a n1b c1b : Nat}
def M : Fw := ⟨prog,51,f51,[52],[2,3],false,[],[],[]⟩
theorem ok : M.Ok := ⟨.cons call52 (AG.nil),mixed,func51,by kernel_rfl⟩
theorem start (h : ∀ b2 : Nat,∀ b3 : Nat,Spec prog 52 #[.slice Pw Jx OY,.slice p1a n1a c1a] σ (AA R (CI .i64 fun x9 y => R (.returned (.int .i64 x9)) y))) : Spec prog 51 #[.agg #[.slice Pw Jx OY,.slice p0b n0b c0b],.agg #[.slice p1a n1a c1a,.slice p1b n1b c1b]] σ R := M.start h ok
end Nz
namespace Mh
variable {p0 p1 : Option Addr} {n0 c0 n1 c1 : Nat}
def M : Fw := ⟨prog,52,f52,[75],[],false,[],[],[]⟩
theorem ok : M.Ok := ⟨.cons call75 (AG.nil),mixed,func52,by kernel_rfl⟩
theorem start (h : Spec prog 75 #[.slice p0 n0 c0,.slice p1 n1 c1,(.func (.func 76) #[] #[])] σ (AA R (CI .i64 fun x7 y => R (.returned (.int .i64 x7)) y))) : Spec prog 52 #[.slice p0 n0 c0,.slice p1 n1 c1] σ R := M.start h ok
end Mh
namespace FX
variable {p0 : Option Addr} {n0 c0 : Nat} {x3 : Int}
def M : Fw := ⟨prog,56,f56,[87,88],[],false,[(10,17,true)],[],[(464,[(0,wL),(3,wI)])]⟩
theorem ok : M.Ok := ⟨.cons call87 (.cons call88 (AG.nil)),mixed,func56,by kernel_rfl⟩
def A0 := M.pt 0
theorem start (h : Br (16 < (n0 : Int)) (R (.returned (.int .i64 30)) σ) (A0 R p0 n0 c0 0 σ)) : Spec prog 56 #[.slice p0 n0 c0] σ R := M.start h ok
theorem BC (h : Br (x3 < (n0 : Int)) (Pq p0 fun Hy Nh => In x3 (n0 : Int) ∧ LT σ Hy (Nh + Int.toNat x3 * 2) fun s18 => Spec prog 87 #[.string s18] σ (AA R (CB fun t19 y => Bn t19 (R (.returned (.int .i64 31)) y) (In x3 (n0 : Int) ∧ LT y Hy ((Nh + Int.toNat x3 * 2) + 1) fun s26 => Spec prog 88 #[.string s26] y (AA R (CB fun t27 AF => Bn t27 (R (.returned (.int .i64 32)) AF) (Br (0 < x3) (In x3 (n0 : Int) ∧ LT AF Hy (Nh + Int.toNat x3 * 2) fun s37 => AJ (x3 - 1) ∧ In (x3 - 1) (n0 : Int) ∧ LT AF Hy (Nh + Int.toNat (x3 - 1) * 2) fun s43 => ∃ t44,YF prog ((do eqGuard .leq 9 (.tmp 37) (.tmp 43) (.string s37) (.string s43); binOp .leq 9 (.string s37) (.string s43))) AF (.bool t44) ∧ Bo t44 (R (.returned (.int .i64 33)) AF) (AJ (x3 + 1) ∧ A0 R (aD Hy Nh) n0 c0 (x3 + 1) AF)) (AJ (x3 + 1) ∧ A0 R (aD Hy Nh) n0 c0 (x3 + 1) AF)))))))) (R (.returned (.int .i64 0)) σ)) : A0 R p0 n0 c0 x3 σ := M.of h ok rfl
end FX
namespace N0
variable {Pw p0b : Option Addr} {Jx OY n0b c0b : Nat}
def M : Fw := ⟨prog,58,f58,[],[1,2],false,[(1,9,false)],[],[]⟩
theorem ok : M.Ok := ⟨AG.nil,mixed,func58,by kernel_rfl⟩
theorem start (h : ∀ b1 : Nat,∀ b2 : Nat,(Al σ fun b3 => (AK prog (Builtin.append_ #[37,37] 37 #[(.slice (aD b3 0) 0 0),.slice Pw Jx OY]) (Hp.set σ b3 (.cells #[] 56 (0,0))) (CS fun p6 n6 c6 y => Al y fun b7 => AK prog (Builtin.append_ #[38,38] 38 #[(.slice (aD b7 0) 0 0),.slice p0b n0b c0b]) (Hp.set y b7 (.cells #[] 50 (0,0))) (CS fun Q8 n10 Nq AF => R (.returned (.agg #[.slice p6 n6 c6,.slice Q8 n10 Nq])) AF))) ∧ (Al (Hp.set σ b3 (.cells #[] 56 (0,0))) fun b7 => AK prog (Builtin.append_ #[37,37] 37 #[(.slice (aD b3 0) 0 0),.slice Pw Jx OY]) (Hp.set (Hp.set σ b3 (.cells #[] 56 (0,0))) b7 (.cells #[] 50 (0,0))) (CS fun p6 n6 c6 y => AK prog (Builtin.append_ #[38,38] 38 #[(.slice (aD b7 0) 0 0),.slice p0b n0b c0b]) y (CS fun Q8 n10 Nq AF => R (.returned (.agg #[.slice p6 n6 c6,.slice Q8 n10 Nq])) AF)))) ∧ (Al σ fun b7 => Al (Hp.set σ b7 (.cells #[] 50 (0,0))) fun b3 => AK prog (Builtin.append_ #[37,37] 37 #[(.slice (aD b3 0) 0 0),.slice Pw Jx OY]) (Hp.set (Hp.set σ b7 (.cells #[] 50 (0,0))) b3 (.cells #[] 56 (0,0))) (CS fun p6 n6 c6 y => AK prog (Builtin.append_ #[38,38] 38 #[(.slice (aD b7 0) 0 0),.slice p0b n0b c0b]) y (CS fun Q8 n10 Nq AF => R (.returned (.agg #[.slice p6 n6 c6,.slice Q8 n10 Nq])) AF)))) : Spec prog 58 #[.agg #[.slice Pw Jx OY,.slice p0b n0b c0b]] σ R := M.start h ok
end N0
namespace TB
def M : Fw := ⟨prog,62,f62,[],[],false,[],[],[]⟩
theorem ok : M.Ok := ⟨AG.nil,mixed,func62,by kernel_rfl⟩
theorem start (h : Al σ fun b1 => R (.returned (.slice (aD b1 0) 5 5)) (Hp.set σ b1 (.cells #[(.string (ByteArray.mk #[115,117,109])),(.string (ByteArray.mk #[109,105,110])),(.string (ByteArray.mk #[109,97,120])),(.string (ByteArray.mk #[97,118,103])),(.string (ByteArray.mk #[99,111,117,110,116]))] 9 (0,0)))) : Spec prog 62 #[] σ R := M.start h ok
end TB
namespace Ax
variable {s0 Fv : ByteArray} {p5 p6 : Option Addr} {n5 c5 n6 c6 : Nat} {Fu Gt Gu x8 x9 FK AS8 : Int} {t201 : Bool}
def M : Fw := ⟨prog,63,f63,[90,91,92,93,94],[7],false,[],[],[(1788,[(0,wT),(5,wL),(7,.X 131 [.I .i64,.I .i64,.T,.I .i64]),(8,wI)]),(917472,[(0,wT),(5,wL),(7,.X 131 [.I .i64,.I .i64,.T,.I .i64]),(8,wI),(9,wI)]),(58720224,[(0,wT),(5,wL),(7,.X 131 [.I .i64,.I .i64,.T,.I .i64]),(8,wI),(9,wI)]),(117440508,[(0,wT),(5,wL),(6,wL),(7,.X 131 [.I .i64,.I .i64,.T,.I .i64]),(8,wI),(9,wI)]),(15032385517,[(0,wT),(5,wL),(6,wL),(7,.X 131 [.I .i64,.I .i64,.T,.I .i64]),(8,wI),(9,wI),(13,w8),(199,w8),(201,wB)]),(1879048190,[(0,wT),(5,wL),(6,wL),(7,.X 131 [.I .i64,.I .i64,.T,.I .i64]),(8,wI),(9,wI)]),(458750,[(0,wT),(5,wL),(7,.X 131 [.I .i64,.I .i64,.T,.I .i64]),(8,wI)])]⟩
theorem ok : M.Ok := ⟨.cons call90 (.cons call91 (.cons call92 (.cons call93 (.cons call94 (AG.nil))))),mixed,func63,by kernel_rfl⟩
def M9 := M.pt 0
def Yr := M.pt 1
def VK := M.pt 2
def AFq := M.pt 3
def LM := M.pt 6
theorem start (h : ∀ b7 : Nat,Br ((4096 : Int) < ((ByteArray.size s0 : Nat) : Int)) (R (.returned (.tuple #[.slice none 0 0,.int .i64 0,.int .i64 170])) σ) (M9 R s0 none 0 0 0 0 (ByteArray.mk #[]) 0 0 σ)) : Spec prog 63 #[.string s0] σ R := M.start h ok
theorem MB (h : Br (x8 = ((ByteArray.size s0 : Nat) : Int)) (Al σ fun tC => AK prog (Builtin.append_ #[121,121] 121 #[.slice p5 n5 c5,(.slice (aD tC 0) 1 1)]) (Hp.set σ tC (.cells #[.int .i64 0,.int .i64 x8,(.string (ByteArray.mk #[])),.int .i64 0] 131 (0,0))) (CS fun ig n25 ij y => R (.returned (.tuple #[.slice ig n25 ij,.int .i64 0,.int .i64 0])) y)) (∃ xU : UInt8,0 ≤ x8 ∧ (ByteArray.data s0)[Int.toNat x8]? = some xU ∧ Br ((((UInt8.toNat xU : Nat) : Int) : Int) = 32) (AJ (x8 + 1) ∧ M9 R s0 p5 n5 c5 Fu Gt Fv Gu (x8 + 1) σ) (Br ((((UInt8.toNat xU : Nat) : Int) : Int) = 9) (AJ (x8 + 1) ∧ M9 R s0 p5 n5 c5 Fu Gt Fv Gu (x8 + 1) σ) (Br ((((UInt8.toNat xU : Nat) : Int) : Int) = 13) (AJ (x8 + 1) ∧ M9 R s0 p5 n5 c5 Fu Gt Fv Gu (x8 + 1) σ) (Br ((((UInt8.toNat xU : Nat) : Int) : Int) = 10) (AJ (x8 + 1) ∧ M9 R s0 p5 n5 c5 Fu Gt Fv Gu (x8 + 1) σ) (Spec prog 90 #[(.int .u8 ((UInt8.toNat xU : Nat) : Int))] σ (AA R (CB fun t49 y => Bo t49 (Yr R s0 p5 n5 c5 Fu Gt Fv Gu x8 x8 y) (Spec prog 91 #[(.int .u8 ((UInt8.toNat xU : Nat) : Int))] y (AA R (CB fun t52 AF => Bo t52 (VK R s0 p5 n5 c5 Fu Gt Fv Gu x8 x8 AF) (Br ((((UInt8.toNat xU : Nat) : Int) : Int) = 34) (AJ (x8 + 1) ∧ AFq R s0 p5 n5 c5 none 0 0 Fu Gt Fv Gu (x8 + 1) x8 AF) (∃ s60,YF prog (Instr.sliceAt 9 (.string s0) (some (.int .i64 x8)) none none) AF (.string s60) ∧ Spec prog 92 #[.string s60] AF (AA R (CT fun s61 AH => Bn ((ByteArray.toList s61 == ByteArray.toList (ByteArray.mk #[]))) (Al AH fun b68 => AK prog (Builtin.append_ #[121,121] 121 #[.slice p5 n5 c5,(.slice (aD b68 0) 1 1)]) (Hp.set AH b68 (.cells #[.int .i64 5,.int .i64 x8,.string s61,.int .i64 0] 131 (0,0))) (CS fun lu n69 rO Ac => AJ (x8 + ((ByteArray.size s61 : Nat) : Int)) ∧ M9 R s0 lu n69 rO Fu Gt Fv Gu ((x8 + ((ByteArray.size s61 : Nat) : Int))) Ac)) (R (.returned (.tuple #[.slice none 0 0,.int .i64 x8,.int .i64 171])) AH)))))))))))))))) : M9 R s0 p5 n5 c5 Fu Gt Fv Gu x8 σ := M.j8 h ok rfl fun _ => by kernel_rfl
theorem fe (h : Br (x8 < ((ByteArray.size s0 : Nat) : Int)) (∃ u82 : UInt8,0 ≤ x8 ∧ (ByteArray.data s0)[Int.toNat x8]? = some u82 ∧ Spec prog 90 #[(.int .u8 ((UInt8.toNat u82 : Nat) : Int))] σ (AA R (CB fun t83 y => Bo t83 (AJ (x8 + 1) ∧ Yr R s0 p5 n5 c5 Fu Gt Fv Gu (x8 + 1) x9 y) (∃ u87 : UInt8,0 ≤ x8 ∧ (ByteArray.data s0)[Int.toNat x8]? = some u87 ∧ Spec prog 91 #[(.int .u8 ((UInt8.toNat u87 : Nat) : Int))] y (AA R (CB fun t88 AF => Bo t88 (∃ u92 : UInt8,0 ≤ x8 ∧ (ByteArray.data s0)[Int.toNat x8]? = some u92 ∧ Br ((((UInt8.toNat u92 : Nat) : Int) : Int) ≠ 58) (AJ (x8 + 1) ∧ Yr R s0 p5 n5 c5 Fu Gt Fv Gu (x8 + 1) x9 AF) (∃ u99 : UInt8,0 ≤ x8 ∧ (ByteArray.data s0)[Int.toNat x8]? = some u99 ∧ Br ((((UInt8.toNat u99 : Nat) : Int) : Int) = 46) (AJ (x8 + 1) ∧ Yr R s0 p5 n5 c5 Fu Gt Fv Gu (x8 + 1) x9 AF) (∃ HA,YF prog (Instr.sliceAt 9 (.string s0) (some (.int .i64 x9)) (some (.int .i64 x8)) none) AF (.string HA) ∧ Spec prog 93 #[.string HA] AF (AA R (CI .i64 fun NA AH => Br (0 < NA) (LM R s0 p5 n5 c5 2 x9 HA NA x8 AH) (Spec prog 94 #[.string HA] AH (AA R (CB fun t121 Ac => Bn t121 (R (.returned (.tuple #[.slice none 0 0,.int .i64 x9,.int .i64 172])) Ac) (LM R s0 p5 n5 c5 1 x9 HA NA x8 Ac))))))))) (∃ u99 : UInt8,0 ≤ x8 ∧ (ByteArray.data s0)[Int.toNat x8]? = some u99 ∧ Br ((((UInt8.toNat u99 : Nat) : Int) : Int) = 46) (AJ (x8 + 1) ∧ Yr R s0 p5 n5 c5 Fu Gt Fv Gu (x8 + 1) x9 AF) (∃ HA,YF prog (Instr.sliceAt 9 (.string s0) (some (.int .i64 x9)) (some (.int .i64 x8)) none) AF (.string HA) ∧ Spec prog 93 #[.string HA] AF (AA R (CI .i64 fun NA AH => Br (0 < NA) (LM R s0 p5 n5 c5 2 x9 HA NA x8 AH) (Spec prog 94 #[.string HA] AH (AA R (CB fun t121 Ac => Bn t121 (R (.returned (.tuple #[.slice none 0 0,.int .i64 x9,.int .i64 172])) Ac) (LM R s0 p5 n5 c5 1 x9 HA NA x8 Ac)))))))))))))) (∃ HA,YF prog (Instr.sliceAt 9 (.string s0) (some (.int .i64 x9)) (some (.int .i64 x8)) none) σ (.string HA) ∧ Spec prog 93 #[.string HA] σ (AA R (CI .i64 fun NA y => Br (0 < NA) (LM R s0 p5 n5 c5 2 x9 HA NA x8 y) (Spec prog 94 #[.string HA] y (AA R (CB fun t121 AF => Bn t121 (R (.returned (.tuple #[.slice none 0 0,.int .i64 x9,.int .i64 172])) AF) (LM R s0 p5 n5 c5 1 x9 HA NA x8 AF)))))))) : Yr R s0 p5 n5 c5 Fu Gt Fv Gu x8 x9 σ := M.j8 h ok rfl fun _ => by kernel_rfl
theorem Ys (h : Br (x8 < ((ByteArray.size s0 : Nat) : Int)) (∃ AFs : UInt8,0 ≤ x8 ∧ (ByteArray.data s0)[Int.toNat x8]? = some AFs ∧ Spec prog 91 #[(.int .u8 ((UInt8.toNat AFs : Nat) : Int))] σ (AA R (CB fun t136 y => Bo t136 (AJ (x8 + 1) ∧ VK R s0 p5 n5 c5 Fu Gt Fv Gu (x8 + 1) x9 y) (∃ AFt : UInt8,0 ≤ x8 ∧ (ByteArray.data s0)[Int.toNat x8]? = some AFt ∧ Spec prog 90 #[(.int .u8 ((UInt8.toNat AFt : Nat) : Int))] y (AA R (CB fun t141 AF => Bo t141 (AJ (x8 + 1) ∧ VK R s0 p5 n5 c5 Fu Gt Fv Gu (x8 + 1) x9 AF) (∃ Yt,YF prog (Instr.sliceAt 9 (.string s0) (some (.int .i64 x9)) (some (.int .i64 x8)) none) AF (.string Yt) ∧ Al AF fun Yu => AK prog (Builtin.append_ #[121,121] 121 #[.slice p5 n5 c5,(.slice (aD Yu 0) 1 1)]) (Hp.set AF Yu (.cells #[.int .i64 3,.int .i64 x9,.string Yt,.int .i64 0] 131 (0,0))) (CS fun nW n154 nX AH => M9 R s0 nW n154 nX Fu Gt Fv Gu x8 AH)))))))) (∃ Yt,YF prog (Instr.sliceAt 9 (.string s0) (some (.int .i64 x9)) (some (.int .i64 x8)) none) σ (.string Yt) ∧ Al σ fun Yu => AK prog (Builtin.append_ #[121,121] 121 #[.slice p5 n5 c5,(.slice (aD Yu 0) 1 1)]) (Hp.set σ Yu (.cells #[.int .i64 3,.int .i64 x9,.string Yt,.int .i64 0] 131 (0,0))) (CS fun nW n154 nX y => M9 R s0 nW n154 nX Fu Gt Fv Gu x8 y))) : VK R s0 p5 n5 c5 Fu Gt Fv Gu x8 x9 σ := M.j8 h ok rfl fun _ => by kernel_rfl
theorem Yv (h : Al σ fun AFu => AK prog (Builtin.append_ #[121,121] 121 #[.slice p5 n5 c5,(.slice (aD AFu 0) 1 1)]) (Hp.set σ AFu (.cells #[.int .i64 Fu,.int .i64 Gt,.string Fv,.int .i64 Gu] 131 (0,0))) (CS fun AMc n127 AMd y => M9 R s0 AMc n127 AMd Fu Gt Fv Gu x8 y)) : LM R s0 p5 n5 c5 Fu Gt Fv Gu x8 σ := M.j8 h ok rfl fun _ => by kernel_rfl
end Ax
namespace Ev
variable {q0 Dt D3 p2 : Option Addr} {Dm CZ Dn Du DJ Cf : Int} {Dp : ByteArray} {Dx Dy Dz D4 n2 c2 : Nat} {DK : Bool}
def M : Fw := ⟨prog,84,f84,[124,128],[4],false,[(1,10,true)],[],[]⟩
theorem ok : M.Ok := ⟨.cons call124 (.cons call128 (AG.nil)),mixed,func84,by kernel_rfl⟩
theorem start (h : ∀ b4 : Nat,Pq p2 fun Cn WG => In 0 (n2 : Int) ∧ LI .i64 σ Cn WG fun x15 => In 1 (n2 : Int) ∧ LI .i64 σ Cn (WG + 1) fun DU => Br (x15 = 2) (Br (x15 = 1) (Br (x15 = 3) (R (.returned (.tuple #[.int .i64 0,.int .i64 192])) σ) (Br (DU = 3) (R (.returned (.tuple #[.int .i64 0,.int .i64 192])) σ) (Spec prog 128 #[.int .i64 CZ] σ (AA R (CB fun t41 y => Bo t41 (Bm (DU = 2) (R (.returned (.tuple #[.int .i64 0,.int .i64 192])) y) (Br (DU = 1) (Spec prog 124 #[.int .i64 CZ] y (AA R (CB fun t57 AF => Bo t57 (Bn DK (R (.returned (.tuple #[.int .i64 0,.int .i64 192])) AF) (R (.returned (.tuple #[(.int .i64 (if x15 < DU then DU else x15)),.int .i64 0])) AF)) (R (.returned (.tuple #[(.int .i64 (if x15 < DU then DU else x15)),.int .i64 0])) AF)))) (R (.returned (.tuple #[(.int .i64 (if x15 < DU then DU else x15)),.int .i64 0])) y))) (Br (DJ ≠ 0) (Bm (DU = 2) (R (.returned (.tuple #[.int .i64 0,.int .i64 192])) y) (Br (DU = 1) (Spec prog 124 #[.int .i64 CZ] y (AA R (CB fun t57 AF => Bo t57 (Bn DK (R (.returned (.tuple #[.int .i64 0,.int .i64 192])) AF) (R (.returned (.tuple #[(.int .i64 (if x15 < DU then DU else x15)),.int .i64 0])) AF)) (R (.returned (.tuple #[(.int .i64 (if x15 < DU then DU else x15)),.int .i64 0])) AF)))) (R (.returned (.tuple #[(.int .i64 (if x15 < DU then DU else x15)),.int .i64 0])) y))) (Br (DU = 1) (Spec prog 124 #[.int .i64 CZ] y (AA R (CB fun t57 AF => Bo t57 (Bn DK (R (.returned (.tuple #[.int .i64 0,.int .i64 192])) AF) (R (.returned (.tuple #[(.int .i64 (if x15 < DU then DU else x15)),.int .i64 0])) AF)) (R (.returned (.tuple #[(.int .i64 (if x15 < DU then DU else x15)),.int .i64 0])) AF)))) (R (.returned (.tuple #[(.int .i64 (if x15 < DU then DU else x15)),.int .i64 0])) y)))))))) (Br (x15 = 3) (R (.returned (.tuple #[.int .i64 0,.int .i64 192])) σ) (Br (DU = 3) (R (.returned (.tuple #[.int .i64 0,.int .i64 192])) σ) (Spec prog 128 #[.int .i64 CZ] σ (AA R (CB fun t41 y => Bo t41 (Bm (DU = 2) (R (.returned (.tuple #[.int .i64 0,.int .i64 192])) y) (R (.returned (.tuple #[(.int .i64 (if x15 < DU then DU else x15)),.int .i64 0])) y)) (Br (DJ ≠ 0) (Bm (DU = 2) (R (.returned (.tuple #[.int .i64 0,.int .i64 192])) y) (R (.returned (.tuple #[(.int .i64 (if x15 < DU then DU else x15)),.int .i64 0])) y)) (R (.returned (.tuple #[(.int .i64 (if x15 < DU then DU else x15)),.int .i64 0])) y)))))))) (Br (x15 = 1) (Br (x15 = 3) (R (.returned (.tuple #[.int .i64 0,.int .i64 192])) σ) (Br (DU = 3) (R (.returned (.tuple #[.int .i64 0,.int .i64 192])) σ) (Spec prog 128 #[.int .i64 CZ] σ (AA R (CB fun t41 y => Bo t41 (R (.returned (.tuple #[.int .i64 0,.int .i64 192])) y) (Br (DJ ≠ 0) (R (.returned (.tuple #[.int .i64 0,.int .i64 192])) y) (Br (DU = 1) (Spec prog 124 #[.int .i64 CZ] y (AA R (CB fun t57 AF => Bo t57 (Bn DK (R (.returned (.tuple #[.int .i64 0,.int .i64 192])) AF) (R (.returned (.tuple #[(.int .i64 (if x15 < DU then DU else x15)),.int .i64 0])) AF)) (R (.returned (.tuple #[(.int .i64 (if x15 < DU then DU else x15)),.int .i64 0])) AF)))) (R (.returned (.tuple #[(.int .i64 (if x15 < DU then DU else x15)),.int .i64 0])) y)))))))) (Br (x15 = 3) (R (.returned (.tuple #[.int .i64 0,.int .i64 192])) σ) (Br (DU = 3) (R (.returned (.tuple #[.int .i64 0,.int .i64 192])) σ) (Spec prog 128 #[.int .i64 CZ] σ (AA R (CB fun t41 y => Bo t41 (R (.returned (.tuple #[.int .i64 0,.int .i64 192])) y) (Br (DJ ≠ 0) (R (.returned (.tuple #[.int .i64 0,.int .i64 192])) y) (R (.returned (.tuple #[(.int .i64 (if x15 < DU then DU else x15)),.int .i64 0])) y))))))))) : Spec prog 84 #[.pointer q0,.agg #[.int .i64 Dm,.int .i64 CZ,.string Dp,.slice Dt Dx Dy,.int .i64 Dn,.int .i64 Du,.int .i64 DJ,.slice D3 Dz D4,.bool DK,.int .i64 Cf],.slice p2 n2 c2] σ R := M.start h ok
end Ev
namespace TC
variable {x0 : Int}
def M : Fw := ⟨prog,91,f91,[],[],false,[],[],[]⟩
theorem ok : M.Ok := ⟨AG.nil,mixed,func91,by kernel_rfl⟩
theorem start (h : Br (97 ≤ x0) (Br (x0 ≤ 122) (R (.returned (.bool true)) σ) (Br (65 ≤ x0) (Br (x0 ≤ 90) (R (.returned (.bool true)) σ) (Br (x0 = 95) (R (.returned (.bool true)) σ) (R (.returned (.bool (decide (x0 = 58)))) σ))) (Br (x0 = 95) (R (.returned (.bool true)) σ) (R (.returned (.bool (decide (x0 = 58)))) σ)))) (Br (65 ≤ x0) (Br (x0 ≤ 90) (R (.returned (.bool true)) σ) (Br (x0 = 95) (R (.returned (.bool true)) σ) (R (.returned (.bool (decide (x0 = 58)))) σ))) (Br (x0 = 95) (R (.returned (.bool true)) σ) (R (.returned (.bool (decide (x0 = 58)))) σ)))) : Spec prog 91 #[.int .u8 x0] σ R := M.start h ok
end TC
namespace Ew
variable {s0 : ByteArray} {t8 : Bool}
def M : Fw := ⟨prog,92,f92,[130],[],false,[],[],[(28,[(0,wT)]),(213,[(0,wT),(8,wB)])]⟩
theorem ok : M.Ok := ⟨.cons call130 (AG.nil),mixed,func92,by kernel_rfl⟩
def YM := M.pt 0
def DV := M.pt 1
theorem start (h : Br ((1 : Int) < ((ByteArray.size s0 : Nat) : Int)) (∃ s7,YF prog (Instr.sliceAt 9 (.string s0) none (some (.int .i64 2)) none) σ (.string s7) ∧ Bo ((ByteArray.toList s7 == ByteArray.toList (ByteArray.mk #[61,61]))) (DV R s0 true σ) (Bo ((ByteArray.toList s7 == ByteArray.toList (ByteArray.mk #[33,61]))) (DV R s0 true σ) (Bo ((ByteArray.toList s7 == ByteArray.toList (ByteArray.mk #[60,61]))) (DV R s0 true σ) (Bo ((ByteArray.toList s7 == ByteArray.toList (ByteArray.mk #[62,61]))) (DV R s0 true σ) (Bo ((ByteArray.toList s7 == ByteArray.toList (ByteArray.mk #[61,126]))) (DV R s0 true σ) (DV R s0 ((ByteArray.toList s7 == ByteArray.toList (ByteArray.mk #[33,126]))) σ)))))) (YM R s0 σ)) : Spec prog 92 #[.string s0] σ R := M.start h ok
theorem WM (h : ∃ u18 : UInt8,(0 : Int) ≤ 0 ∧ (ByteArray.data s0)[Int.toNat 0]? = some u18 ∧ Spec prog 130 #[(.string (ByteArray.mk #[60,62,61,43,45,42,47,40,41,123,125,91,93,44])),(.int .u8 ((UInt8.toNat u18 : Nat) : Int))] σ (AA R (CI .i64 fun DU y => Br (0 ≤ DU) (∃ s22,YF prog (Instr.sliceAt 9 (.string s0) none (some (.int .i64 1)) none) y (.string s22) ∧ R (.returned (.string s22)) y) (R (.returned (.string (ByteArray.mk #[]))) y)))) : YM R s0 σ := M.of h ok rfl
theorem Ff (h : Bo t8 (∃ s16,YF prog (Instr.sliceAt 9 (.string s0) none (some (.int .i64 2)) none) σ (.string s16) ∧ R (.returned (.string s16)) σ) (YM R s0 σ)) : DV R s0 t8 σ := M.of h ok rfl
end Ew
namespace B4
variable {q0 Dt D3 p2 : Option Addr} {Dm CZ Dn Du DJ Cf : Int} {Dp : ByteArray} {Dx Dy Dz D4 n2 c2 : Nat} {DK : Bool}
def M : Fw := ⟨prog,100,f100,[140],[4,6],false,[],[],[]⟩
theorem ok : M.Ok := ⟨.cons call140 (AG.nil),mixed,func100,by kernel_rfl⟩
theorem start (h : ∀ b4 : Nat,∀ b6 : Nat,Spec prog 140 #[.string Dp] σ (AA R (fun z y => ∃ mQ AMe,z = (.tuple #[.int .u64 mQ,.bool AMe]) ∧ R (.returned (.tuple #[.agg #[.int .i64 1,.int .u64 mQ,.slice none 0 0,.slice none 0 0],.int .i64 0])) y))) : Spec prog 100 #[.pointer q0,.agg #[.int .i64 Dm,.int .i64 CZ,.string Dp,.slice Dt Dx Dy,.int .i64 Dn,.int .i64 Du,.int .i64 DJ,.slice D3 Dz D4,.bool DK,.int .i64 Cf],.slice p2 n2 c2] σ R := M.start h ok
end B4
namespace TD
variable {x0 x1 : Int}
def M : Fw := ⟨prog,123,f123,[],[],false,[],[],[]⟩
theorem ok : M.Ok := ⟨AG.nil,mixed,func123,by kernel_rfl⟩
theorem start (h : Br (x1 ≤ x0) (R (.returned (.bool (decide (x0 < 2147483648)))) σ) (R (.returned (.bool false)) σ)) : Spec prog 123 #[.int .i64 x0,.int .i64 x1] σ R := M.start h ok
end TD
namespace TE
variable {s0 : ByteArray}
def M : Fw := ⟨prog,126,f126,[98],[],false,[],[],[]⟩
theorem ok : M.Ok := ⟨.cons call98 (AG.nil),mixed,func126,by kernel_rfl⟩
theorem start (h : Spec prog 98 #[.string s0] σ (AA R (CB fun t4 y => R (.returned (.bool t4)) y))) : Spec prog 126 #[.string s0] σ R := M.start h ok
end TE
namespace BW
variable {s0 : ByteArray} {x1 x6 x7 x8 x9 : Int}
def M : Fw := ⟨prog,129,f129,[],[],false,[],[],[(252,[(0,wT),(1,wI),(6,wI),(7,.o (.I .i32)),(8,.o (.I .i32))]),(8144,[(0,wT),(1,wI),(6,wI),(7,.o (.I .i32)),(8,.o (.I .i32)),(9,wI)])]⟩
theorem ok : M.Ok := ⟨AG.nil,mixed,func129,by kernel_rfl⟩
def Yw := M.pt 0
def ik := M.pt 1
theorem start (h : ∃ Mf : UInt8,0 ≤ x1 ∧ (ByteArray.data s0)[Int.toNat x1]? = some Mf ∧ Br ((((UInt8.toNat Mf : Nat) : Int) : Int) < 128) (R (.returned (.int .i64 1)) σ) (Br ((192 : Int) ≤ ((UInt8.toNat Mf : Nat) : Int)) (Br ((((UInt8.toNat Mf : Nat) : Int) : Int) < 224) (Df (Go.bits .and .u8 ((UInt8.toNat Mf : Nat) : Int) 31) fun IL => Df (IntKind.i32.wrap IL) fun P1 => Yw R s0 x1 2 128 P1 σ) (Br ((224 : Int) ≤ ((UInt8.toNat Mf : Nat) : Int)) (Br ((((UInt8.toNat Mf : Nat) : Int) : Int) < 240) (Df (Go.bits .and .u8 ((UInt8.toNat Mf : Nat) : Int) 15) fun kF => Df (IntKind.i32.wrap kF) fun Q9 => Yw R s0 x1 3 2048 Q9 σ) (Br ((240 : Int) ≤ ((UInt8.toNat Mf : Nat) : Int)) (Br ((((UInt8.toNat Mf : Nat) : Int) : Int) < 248) (Df (Go.bits .and .u8 ((UInt8.toNat Mf : Nat) : Int) 7) fun nY => Df (IntKind.i32.wrap nY) fun fN => Yw R s0 x1 4 65536 fN σ) (R (.returned (.int .i64 0)) σ)) (R (.returned (.int .i64 0)) σ))) (Br ((240 : Int) ≤ ((UInt8.toNat Mf : Nat) : Int)) (Br ((((UInt8.toNat Mf : Nat) : Int) : Int) < 248) (Df (Go.bits .and .u8 ((UInt8.toNat Mf : Nat) : Int) 7) fun nY => Df (IntKind.i32.wrap nY) fun fN => Yw R s0 x1 4 65536 fN σ) (R (.returned (.int .i64 0)) σ)) (R (.returned (.int .i64 0)) σ)))) (Br ((224 : Int) ≤ ((UInt8.toNat Mf : Nat) : Int)) (Br ((((UInt8.toNat Mf : Nat) : Int) : Int) < 240) (Df (Go.bits .and .u8 ((UInt8.toNat Mf : Nat) : Int) 15) fun kF => Df (IntKind.i32.wrap kF) fun Q9 => Yw R s0 x1 3 2048 Q9 σ) (Br ((240 : Int) ≤ ((UInt8.toNat Mf : Nat) : Int)) (Br ((((UInt8.toNat Mf : Nat) : Int) : Int) < 248) (Df (Go.bits .and .u8 ((UInt8.toNat Mf : Nat) : Int) 7) fun nY => Df (IntKind.i32.wrap nY) fun fN => Yw R s0 x1 4 65536 fN σ) (R (.returned (.int .i64 0)) σ)) (R (.returned (.int .i64 0)) σ))) (Br ((240 : Int) ≤ ((UInt8.toNat Mf : Nat) : Int)) (Br ((((UInt8.toNat Mf : Nat) : Int) : Int) < 248) (Df (Go.bits .and .u8 ((UInt8.toNat Mf : Nat) : Int) 7) fun nY => Df (IntKind.i32.wrap nY) fun fN => Yw R s0 x1 4 65536 fN σ) (R (.returned (.int .i64 0)) σ)) (R (.returned (.int .i64 0)) σ))))) : Spec prog 129 #[.string s0,.int .i64 x1] σ R := M.start h ok
theorem Wh (h : AJ (x1 + x6) ∧ Br ((((ByteArray.size s0 : Nat) : Int) : Int) < (x1 + x6)) (R (.returned (.int .i64 0)) σ) (ik R s0 x1 x6 x7 x8 1 σ)) : Yw R s0 x1 x6 x7 x8 σ := M.of h ok rfl
theorem fg (h : Br (x9 < x6) (AJ (x1 + x9) ∧ ∃ u61 : UInt8,(0 : Int) ≤ (x1 + x9) ∧ (ByteArray.data s0)[Int.toNat (x1 + x9)]? = some u61 ∧ Df (Go.bits .and .u8 ((UInt8.toNat u61 : Nat) : Int) 192) fun kJ => Br (kJ ≠ 128) (R (.returned (.int .i64 0)) σ) (((0 : Int) ≤ 6 ∧ 6 ≤ ((IntKind.bits .i32 : Nat) : Int)) ∧ Df (IntKind.i32.wrap (x8 * 2 ^ Int.toNat 6)) fun zl => AJ (x1 + x9) ∧ ∃ u70 : UInt8,(0 : Int) ≤ (x1 + x9) ∧ (ByteArray.data s0)[Int.toNat (x1 + x9)]? = some u70 ∧ Df (Go.bits .and .u8 ((UInt8.toNat u70 : Nat) : Int) 63) fun wy => Df (IntKind.i32.wrap wy) fun rW => Df (Go.bits .or .i32 zl rW) fun x73 => AJ (x9 + 1) ∧ ik R s0 x1 x6 x7 x73 (x9 + 1) σ)) (Br (x8 < x7) (R (.returned (.int .i64 0)) σ) (Br (1114111 < x8) (R (.returned (.int .i64 0)) σ) (Br (55296 ≤ x8) (Br (x8 ≤ 57343) (R (.returned (.int .i64 0)) σ) (R (.returned (.int .i64 x6)) σ)) (R (.returned (.int .i64 x6)) σ))))) : ik R s0 x1 x6 x7 x8 x9 σ := M.of h ok rfl
end BW
namespace Hj
variable {q0 Dt D3 : Option Addr} {Dm CZ Dn Du DJ Cf : Int} {Dp : ByteArray} {Dx Dy Dz D4 : Nat} {DK : Bool}
def M : Fw := ⟨prog,138,f138,[],[3],false,[(1,10,false)],[],[]⟩
theorem ok : M.Ok := ⟨AG.nil,mixed,func138,by kernel_rfl⟩
theorem start (h : ∀ b3 : Nat,Pq q0 fun b6 o6 => LS σ b6 (o6 + 2) fun p8 n8 c8 => Al σ fun Cm => AK prog (Builtin.append_ #[22,22] 22 #[.slice p8 n8 c8,(.slice (aD Cm 0) 1 1)]) (Hp.set σ Cm (.cells #[.int .i64 Dm,.int .i64 CZ,.string Dp,.slice Dt Dx Dy,.int .i64 Dn,.int .i64 Du,.int .i64 DJ,.slice D3 Dz D4,.bool DK,.int .i64 Cf] 36 (0,0))) (CS fun Ly n11 Lz y => AK prog (Instr.storeAt 22 (.pointer (aD b6 (o6 + 2))) (.slice Ly n11 Lz)) y (fun _ AF => R (.returned (.tuple #[])) AF))) : Spec prog 138 #[.pointer q0,.agg #[.int .i64 Dm,.int .i64 CZ,.string Dp,.slice Dt Dx Dy,.int .i64 Dn,.int .i64 Du,.int .i64 DJ,.slice D3 Dz D4,.bool DK,.int .i64 Cf]] σ R := M.start h ok
end Hj
namespace Ex
variable {p0 : Option Addr} {n0 c0 : Nat}
def M : Fw := ⟨prog,154,f154,[151,155,194],[],false,[],[],[]⟩
theorem ok : M.Ok := ⟨.cons call151 (.cons call155 (.cons call194 (AG.nil))),mixed,func154,by kernel_rfl⟩
theorem start (h : Spec prog 151 #[.slice p0 n0 c0] σ (AA R (CI .u64 fun x4 y => Spec prog 155 #[.slice p0 n0 c0] y (AA R (CI .u64 fun x6 AF => Spec prog 194 #[.int .u64 x4,.int .u64 x6] AF (AA R (CI .u64 fun x7 AH => R (.returned (.int .u64 x7)) AH))))))) : Spec prog 154 #[.slice p0 n0 c0] σ R := M.start h ok
end Ex
namespace AX
variable {q0 Dt D3 p2 p3 I9 JF E8 FE Jj p35 rY : Option Addr} {Dm CZ Dn Du DJ Cf I7 HQ JC JD JE JI EH ET ae Qa cR Nf : Int} {Dp I8 : ByteArray} {Dx Dy Dz D4 n2 c2 n3 c3 JA JB JG JH E9 FA FG FH n14 Hd n35 xV l8 fU : Nat} {DK KB : Bool} {m10 m12 : Option Nat}
def M : Fw := ⟨prog,160,f160,[49,148,206,207],[5,8,16,17,20,21],false,[],[],[(1000,[(3,wL),(5,.X 36 [.I .i64,.I .i64,.T,.L,.I .i64,.I .i64,.I .i64,.L,.B,.I .i64]),(8,.X 93 [.I .i64,.I .u64,.L,.L]),(10,wM),(12,wM),(14,wL),(35,wL),(36,wI),(37,wI)]),(2024,[(5,.X 36 [.I .i64,.I .i64,.T,.L,.I .i64,.I .i64,.I .i64,.L,.B,.I .i64]),(8,.X 93 [.I .i64,.I .u64,.L,.L]),(10,wM),(14,wL),(66,wL),(67,wI),(68,wI)]),(8103,[(5,.X 36 [.I .i64,.I .i64,.T,.L,.I .i64,.I .i64,.I .i64,.L,.B,.I .i64]),(8,.X 93 [.I .i64,.I .u64,.L,.L]),(10,wM),(14,wL),(66,wL),(67,wI),(68,wI)]),(4007,[(3,wL),(5,.X 36 [.I .i64,.I .i64,.T,.L,.I .i64,.I .i64,.I .i64,.L,.B,.I .i64]),(8,.X 93 [.I .i64,.I .u64,.L,.L]),(10,wM),(12,wM),(14,wL),(35,wL),(36,wI),(37,wI)])]⟩
theorem ok : M.Ok := ⟨.cons call49 (.cons call148 (.cons call206 (.cons call207 (AG.nil)))),mixed,func160,by kernel_rfl⟩
def tn := M.pt 0
def J6 := M.pt 1
def Nn := M.pt 2
def Wi := M.pt 3
theorem start (h : ∀ b5 : Nat,∀ b8 : Nat,Spec prog 206 #[.agg #[.int .i64 Dm,.int .i64 CZ,.string Dp,.slice Dt Dx Dy,.int .i64 Dn,.int .i64 Du,.int .i64 DJ,.slice D3 Dz D4,.bool DK,.int .i64 Cf],.slice p2 n2 c2] σ (AA R (fun z y => ∃ AFv AMg,z = (.tuple #[.map AFv,.bool AMg]) ∧ Spec prog 206 #[.agg #[.int .i64 Dm,.int .i64 CZ,.string Dp,.slice Dt Dx Dy,.int .i64 Dn,.int .i64 Du,.int .i64 DJ,.slice D3 Dz D4,.bool DK,.int .i64 Cf],.slice p3 n3 c3] y (AA R (fun z AF => ∃ AFw AMh,z = (.tuple #[.map AFw,.bool AMh]) ∧ tn R p3 n3 c3 Dm CZ Dp Dt Dx Dy Dn Du DJ D3 Dz D4 DK Cf 0 0 none 0 0 none 0 0 AFv AFw none 0 0 p2 n2 c2 (n2 : Int) 0 AF))))) : Spec prog 160 #[.pointer q0,.agg #[.int .i64 Dm,.int .i64 CZ,.string Dp,.slice Dt Dx Dy,.int .i64 Dn,.int .i64 Du,.int .i64 DJ,.slice D3 Dz D4,.bool DK,.int .i64 Cf],.slice p2 n2 c2,.slice p3 n3 c3] σ R := M.start h ok
theorem fh (h : Br (Qa < ae) (Pq p35 fun rh o39 => In Qa (n35 : Int) ∧ ∃ Yn WU cU cV,Ay σ rh (o39 + Int.toNat Qa * 2) [.slice Yn WU cU,.int .u64 cV] ∧ ∀ Hy : Nat,Spec prog 207 #[.agg #[.int .i64 I7,.int .i64 HQ,.string I8,.slice I9 JA JB,.int .i64 JC,.int .i64 JD,.int .i64 JE,.slice JF JG JH,.bool KB,.int .i64 JI],.slice Yn WU cU] σ (AA R (CS fun ri n46 nZ y => Spec prog 49 #[.slice ri n46 nZ] y (AA R (CT fun s47 AF => AK prog (Instr.lookup 243 (.map m12) (.string s47) true) AF (fun z AH => ∃ AFx AFy AFz AF0 AF1,z = (.tuple #[.agg #[.slice AFx AFy AFz,.int .u64 AF0],.bool AF1]) ∧ ∀ b17 : Nat,Br (HQ = 12) (Al AH fun il => AK prog (Builtin.append_ #[67,67] 67 #[.slice Jj n14 Hd,(.slice (aD il 0) 1 1)]) (Hp.set AH il (.cells #[.slice Yn WU cU,.int .u64 cV] 71 (0,0))) (CS fun rU lz rV Ac => Wi R p3 n3 c3 I7 HQ I8 I9 JA JB JC JD JE JF JG JH KB JI EH ET E8 E9 FA FE FG FH m10 m12 rU lz rV (aD rh o39) n35 xV ae Qa Ac)) (Bo AF1 (Br (HQ = 11) (Al AH fun il => AK prog (Builtin.append_ #[67,67] 67 #[.slice Jj n14 Hd,(.slice (aD il 0) 1 1)]) (Hp.set AH il (.cells #[.slice Yn WU cU,.int .u64 cV] 71 (0,0))) (CS fun rU lz rV Ac => Wi R p3 n3 c3 I7 HQ I8 I9 JA JB JC JD JE JF JG JH KB JI EH ET E8 E9 FA FE FG FH m10 m12 rU lz rV (aD rh o39) n35 xV ae Qa Ac)) (Wi R p3 n3 c3 I7 HQ I8 I9 JA JB JC JD JE JF JG JH KB JI EH ET E8 E9 FA FE FG FH m10 m12 Jj n14 Hd (aD rh o39) n35 xV ae Qa AH)) (Br (HQ = 11) (Wi R p3 n3 c3 I7 HQ I8 I9 JA JB JC JD JE JF JG JH KB JI EH ET E8 E9 FA FE FG FH m10 m12 Jj n14 Hd (aD rh o39) n35 xV ae Qa AH) (Al AH fun il => AK prog (Builtin.append_ #[67,67] 67 #[.slice Jj n14 Hd,(.slice (aD il 0) 1 1)]) (Hp.set AH il (.cells #[.slice Yn WU cU,.int .u64 cV] 71 (0,0))) (CS fun rU lz rV Ac => Wi R p3 n3 c3 I7 HQ I8 I9 JA JB JC JD JE JF JG JH KB JI EH ET E8 E9 FA FE FG FH m10 m12 rU lz rV (aD rh o39) n35 xV ae Qa Ac)))))))))) (J6 R I7 HQ I8 I9 JA JB JC JD JE JF JG JH KB JI EH ET E8 E9 FA FE FG FH m10 Jj n14 Hd p3 n3 c3 (n3 : Int) 0 σ)) : tn R p3 n3 c3 I7 HQ I8 I9 JA JB JC JD JE JF JG JH KB JI EH ET E8 E9 FA FE FG FH m10 m12 Jj n14 Hd p35 n35 xV ae Qa σ := M.iK h ok rfl fun _ _ => by kernel_rfl
theorem Lw (h : Br (Nf < cR) (Pq rY fun b70 o70 => In Nf (l8 : Int) ∧ ∃ iX YJ iY cJ,Ay σ b70 (o70 + Int.toNat Nf * 2) [.slice iX YJ iY,.int .u64 cJ] ∧ ∀ Ym : Nat,Spec prog 207 #[.agg #[.int .i64 I7,.int .i64 HQ,.string I8,.slice I9 JA JB,.int .i64 JC,.int .i64 JD,.int .i64 JE,.slice JF JG JH,.bool KB,.int .i64 JI],.slice iX YJ iY] σ (AA R (CS fun p77 n77 c77 y => Spec prog 49 #[.slice p77 n77 c77] y (AA R (CT fun s78 AF => AK prog (Instr.lookup 243 (.map m10) (.string s78) true) AF (fun z AH => ∃ AF2 AF3 AF4 AF5 AF6,z = (.tuple #[.agg #[.slice AF2 AF3 AF4,.int .u64 AF5],.bool AF6]) ∧ ∀ b21 : Nat,Bn AF6 (Br (HQ = 12) (Al AH fun kB => AK prog (Builtin.append_ #[67,67] 67 #[.slice Jj n14 Hd,(.slice (aD kB 0) 1 1)]) (Hp.set AH kB (.cells #[.slice iX YJ iY,.int .u64 cJ] 71 (0,0))) (CS fun p92 n92 c92 Ac => Nn R I7 HQ I8 I9 JA JB JC JD JE JF JG JH KB JI EH ET E8 E9 FA FE FG FH m10 p92 n92 c92 (aD b70 o70) l8 fU cR Nf Ac)) (Nn R I7 HQ I8 I9 JA JB JC JD JE JF JG JH KB JI EH ET E8 E9 FA FE FG FH m10 Jj n14 Hd (aD b70 o70) l8 fU cR Nf AH)) (Nn R I7 HQ I8 I9 JA JB JC JD JE JF JG JH KB JI EH ET E8 E9 FA FE FG FH m10 Jj n14 Hd (aD b70 o70) l8 fU cR Nf AH))))))) (Spec prog 148 #[.slice Jj n14 Hd] σ (AA R (fun z y => ∃ xW xX xY xZ xd xe xf xg AF7,z = (.tuple #[.agg #[.int .i64 xW,.int .u64 xX,.slice xY xZ xd,.slice xe xf xg],.int .i64 AF7]) ∧ R (.returned (.tuple #[.agg #[.int .i64 xW,.int .u64 xX,.slice xY xZ xd,.slice xe xf xg],.int .i64 AF7])) y)))) : J6 R I7 HQ I8 I9 JA JB JC JD JE JF JG JH KB JI EH ET E8 E9 FA FE FG FH m10 Jj n14 Hd rY l8 fU cR Nf σ := M.iK h ok rfl fun _ _ => by kernel_rfl
theorem WK (h : AJ (Nf + 1) ∧ J6 R I7 HQ I8 I9 JA JB JC JD JE JF JG JH KB JI EH ET E8 E9 FA FE FG FH m10 Jj n14 Hd rY l8 fU cR (Nf + 1) σ) : Nn R I7 HQ I8 I9 JA JB JC JD JE JF JG JH KB JI EH ET E8 E9 FA FE FG FH m10 Jj n14 Hd rY l8 fU cR Nf σ := M.iK h ok rfl fun _ _ => by kernel_rfl
theorem tq (h : AJ (Qa + 1) ∧ tn R p3 n3 c3 I7 HQ I8 I9 JA JB JC JD JE JF JG JH KB JI EH ET E8 E9 FA FE FG FH m10 m12 Jj n14 Hd p35 n35 xV ae (Qa + 1) σ) : Wi R p3 n3 c3 I7 HQ I8 I9 JA JB JC JD JE JF JG JH KB JI EH ET E8 E9 FA FE FG FH m10 m12 Jj n14 Hd p35 n35 xV ae Qa σ := M.iK h ok rfl fun _ _ => by kernel_rfl
end AX
namespace Mi
variable {FD Ej x1 : Int}
def M : Fw := ⟨prog,177,f177,[],[2],false,[],[],[]⟩
theorem ok : M.Ok := ⟨AG.nil,mixed,func177,by kernel_rfl⟩
theorem start (h : ∀ b2 : Nat,Br (FD ≤ x1) (R (.returned (.int .i64 (-1))) σ) (R (.returned (.int .i64 1)) σ)) : Spec prog 177 #[.agg #[.int .i64 FD,.int .u64 Ej],.int .i64 x1] σ R := M.start h ok
end Mi
namespace Gg
variable {wz ad : ByteArray} {b1 : Nat}
def M : Fw := ⟨prog,198,f198,[199],[2],false,[],[],[]⟩
theorem ok : M.Ok := ⟨.cons call199 (AG.nil),mixed,func198,by kernel_rfl⟩
theorem start (h : ∀ b2 : Nat,LS σ b1 0 fun p4 n4 c4 => Spec prog 199 #[.slice p4 n4 c4,.string wz] σ (AA R (CB fun t7 y => R (.returned (.bool t7)) y))) : Spec prog 198 #[.agg #[.string wz,.string ad],(.pointer (aD b1 0))] σ R := M.start h ok
end Gg
namespace Ey
variable {q0 : Option Addr} {s1 : ByteArray}
def M : Fw := ⟨prog,210,f210,[67,135,136],[],false,[],[],[(3,[(0,wQ)])]⟩
theorem ok : M.Ok := ⟨.cons call67 (.cons call135 (.cons call136 (AG.nil))),mixed,func210,by kernel_rfl⟩
def cW := M.pt 0
theorem start (h : Spec prog 136 #[.pointer q0,.int .i64 5,.string s1] σ (AA R (CB fun t6 y => Bn t6 (Spec prog 67 #[.pointer q0] y (AA R (fun z AF => z = (.tuple #[]) ∧ cW R q0 AF))) (cW R q0 y)))) : Spec prog 210 #[.pointer q0,.string s1] σ R := M.start h ok
theorem PA (h : Spec prog 135 #[.pointer q0] σ (AA R (fun z y => ∃ ia Qb ib tY,z = (.agg #[.int .i64 ia,.int .i64 Qb,.string ib,.int .i64 tY]) ∧ R (.returned (.tuple #[])) y))) : cW R q0 σ := M.of h ok rfl
end Ey
namespace C3
variable {q0 : Option Addr}
def M : Fw := ⟨prog,212,f212,[95],[],false,[],[],[]⟩
theorem ok : M.Ok := ⟨.cons call95 (AG.nil),mixed,func212,by kernel_rfl⟩
theorem start (h : Spec prog 95 #[.pointer q0,(.func (.func 230) #[.pointer q0] #[]),.int .i64 3,.int .i64 4] σ (AA R (fun z y => z = (.tuple #[]) ∧ R (.returned (.tuple #[])) y))) : Spec prog 212 #[.pointer q0] σ R := M.start h ok
end C3
namespace Ez
variable {Pw : Option Addr} {Jx OY : Nat} {ad s1 : ByteArray}
def M : Fw := ⟨prog,218,f218,[],[2],false,[],[],[]⟩
theorem ok : M.Ok := ⟨AG.nil,mixed,func218,by kernel_rfl⟩
theorem start (h : ∀ b2 : Nat,R (.returned (.bool (!(ByteArray.toList s1 == ByteArray.toList ad)))) σ) : Spec prog 218 #[.agg #[.slice Pw Jx OY,.string ad],.string s1] σ R := M.start h ok
end Ez
namespace VL
variable {x0 : Int}
def M : Fw := ⟨prog,240,f240,[],[],false,[],[],[]⟩
theorem ok : M.Ok := ⟨AG.nil,mixed,func240,by kernel_rfl⟩
theorem start (h : Br (x0 = 1) (R (.returned (.bool true)) σ) (Br (x0 = 2) (R (.returned (.bool true)) σ) (Br (x0 = 4) (R (.returned (.bool true)) σ) (R (.returned (.bool (decide (x0 = 8)))) σ)))) : Spec prog 240 #[.int .i64 x0] σ R := M.start h ok
end VL
namespace Mj
def M : Fw := ⟨prog,263,f263,[182],[],false,[],[],[]⟩
theorem ok : M.Ok := ⟨.cons call182 (AG.nil),mixed,func263,by kernel_rfl⟩
theorem start (h : Spec prog 182 #[.int .u64 4604544271217802189] σ (AA R (fun z y => ∃ x2,(Value.float .f64 x2) = z ∧ ∃ x5,YF prog (Op.unary .neg (Value.float .f64 x2)) y (Value.float .f64 x5) ∧ ∃ x6 y6,YF prog (Builtin.complex_ #[51,51] 272 #[(Value.float .f64 x2),(Value.float .f64 x5)]) y (Value.complex .f64 x6 y6) ∧ ∃ x8,YF prog (Op.unary .neg (Value.float .f64 x2)) y (Value.float .f64 x8) ∧ ∃ x10,YF prog (Op.unary .neg (Value.float .f64 x2)) y (Value.float .f64 x10) ∧ ∃ x11 y11,YF prog (Builtin.complex_ #[51,51] 272 #[(Value.float .f64 x8),(Value.float .f64 x10)]) y (Value.complex .f64 x11 y11) ∧ ∃ FK,YF prog (Op.unary .neg (Value.float .f64 x2)) y (Value.float .f64 FK) ∧ ∃ x15 y15,YF prog (Builtin.complex_ #[51,51] 272 #[(Value.float .f64 FK),(Value.float .f64 x2)]) y (Value.complex .f64 x15 y15) ∧ ∃ SD y18,YF prog (Builtin.complex_ #[51,51] 272 #[(Value.float .f64 x2),(Value.float .f64 x2)]) y (Value.complex .f64 SD y18) ∧ Al y fun Cc => R (.returned (.slice (aD Cc 0) 8 8)) (Hp.set y Cc (.cells #[.complex .f64 4607182418800017408 0,(Value.complex .f64 x6 y6),.complex .f64 0 13830554455654793216,(Value.complex .f64 x11 y11),.complex .f64 13830554455654793216 0,(Value.complex .f64 x15 y15),.complex .f64 0 4607182418800017408,(Value.complex .f64 SD y18)] 272 (0,0)))))) : Spec prog 263 #[] σ R := M.start h ok
end Mj
end TwW
end
end
section
set_option maxRecDepth 100000
noncomputable section
namespace TwW
open Go Tw Go.Proofs.Tryz
variable [FB] {R : Rr} {σ : Hp}

namespace VM
variable {v0 : Value}
def M : Fw := ⟨prog,25,f25,[],[],false,[],[],[]⟩
theorem ok : M.Ok := ⟨AG.nil,mixed,func25,by kernel_rfl⟩
theorem start (h : EN prog 45 #[v0] σ (CI .u64 fun x4 y => R (.returned (.int .u64 x4)) y)) : Spec prog 25 #[v0] σ R := M.EE h ok [(0,.o (.V v0))] rfl rfl (by kernel_rfl)
end VM
namespace VN
variable {p0 p1 : Option Addr} {n0 c0 n1 c1 : Nat}
def M : Fw := ⟨prog,28,f28,[37,46],[],false,[],[],[]⟩
theorem ok : M.Ok := ⟨.cons call37 (.cons call46 (AG.nil)),mixed,func28,by kernel_rfl⟩
theorem start (h : Spec prog 37 #[.slice p0 n0 c0] σ (AA R (fun z y => ∃ I5 zn AF8,z = (.tuple #[.int .i64 I5,.int .i64 zn,.int .i64 AF8]) ∧ Br (AF8 ≠ 0) (R (.returned (.int .i64 220)) y) (Br (I5 = 3) (R (.returned (.int .i64 220)) y) (Spec prog 46 #[.slice p1 n1 c1] y (AA R (CI .i64 fun EJ AF => Br (EJ ≠ 0) (R (.returned (.int .i64 224)) AF) (R (.returned (.int .i64 0)) AF)))))))) : Spec prog 28 #[.slice p0 n0 c0,.slice p1 n1 c1] σ R := M.start h ok
end VN
namespace Dd
variable {p0 p5 : Option Addr} {n0 c0 n5 c5 : Nat} {x6 x7 : Int}
def M : Fw := ⟨prog,46,f46,[52,68,69],[4],false,[],[],[(104,[(0,wL),(5,wL),(6,wI),(7,wI)])]⟩
theorem ok : M.Ok := ⟨.cons call52 (.cons call68 (.cons call69 (AG.nil))),mixed,func46,by kernel_rfl⟩
def Hz := M.pt 0
theorem start (h : Hz R p0 n0 c0 p0 n0 c0 (n0 : Int) 0 σ) : Spec prog 46 #[.slice p0 n0 c0] σ R := M.start h ok
theorem Bl (h : Br (x7 < x6) (Pq p5 fun Cm iq => In x7 (n5 : Int) ∧ ∃ Yx Yy Yz AF9 AGA AGB,Ay σ Cm (iq + Int.toNat x7 * 2) [.slice Yx Yy Yz,.slice AF9 AGA AGB] ∧ ∀ b4 : Nat,Spec prog 68 #[.slice Yx Yy Yz] σ (AA R (CI .i64 fun XK y => Br (XK ≠ 0) (R (.returned (.int .i64 100)) y) (Spec prog 69 #[.slice AF9 AGA AGB] y (AA R (CB fun t19 AF => Bn t19 (R (.returned (.int .i64 100)) AF) (Br (0 < x7) (AJ (x7 - 1) ∧ Pq p0 fun Yb fV => In (x7 - 1) (n0 : Int) ∧ LS AF Yb (fV + Int.toNat (x7 - 1) * 2) fun p31 n31 c31 => Spec prog 52 #[.slice p31 n31 c31,.slice Yx Yy Yz] AF (AA R (CI .i64 fun kF AH => Br (0 ≤ kF) (R (.returned (.int .i64 100)) AH) (AJ (x7 + 1) ∧ Hz R (aD Yb fV) n0 c0 (aD Cm iq) n5 c5 x6 (x7 + 1) AH)))) (AJ (x7 + 1) ∧ Hz R p0 n0 c0 (aD Cm iq) n5 c5 x6 (x7 + 1) AF)))))))) (R (.returned (.int .i64 0)) σ)) : Hz R p0 n0 c0 p5 n5 c5 x6 x7 σ := M.of h ok rfl
end Dd
namespace Fy
variable {p0 : Option Addr} {n0 c0 : Nat} {s1 : ByteArray} {x5 : Int}
def M : Fw := ⟨prog,60,f60,[],[],false,[],[],[(208,[(0,wL),(1,wT),(5,wI)])]⟩
theorem ok : M.Ok := ⟨AG.nil,mixed,func60,by kernel_rfl⟩
def ES := M.pt 0
theorem start (h : ES R p0 n0 c0 s1 0 σ) : Spec prog 60 #[.slice p0 n0 c0,.string s1] σ R := M.start h ok
theorem Af (h : Br (x5 < (n0 : Int)) (Pq p0 fun BY Q3 => In x5 (n0 : Int) ∧ LT σ BY (Q3 + Int.toNat x5 * 1) fun s15 => Bo (ByteArray.toList s15 == ByteArray.toList s1) (R (.returned (.int .i64 x5)) σ) (AJ (x5 + 1) ∧ ES R (aD BY Q3) n0 c0 s1 (x5 + 1) σ)) (R (.returned (.int .i64 (-1))) σ)) : ES R p0 n0 c0 s1 x5 σ := M.of h ok rfl
end Fy
namespace PE
variable {x0 : Int}
def M : Fw := ⟨prog,90,f90,[],[],false,[],[],[]⟩
theorem ok : M.Ok := ⟨AG.nil,mixed,func90,by kernel_rfl⟩
theorem start (h : Br (48 ≤ x0) (R (.returned (.bool (decide (x0 ≤ 57)))) σ) (R (.returned (.bool false)) σ)) : Spec prog 90 #[.int .u8 x0] σ R := M.start h ok
end PE
namespace Ae
variable {q0 Dt D3 p2 Gq H3 HT GN E8 FE fL : Option Addr} {Dm CZ Dn Du DJ Cf GJ Fp H4 GZ H5 Iu GL GM EH ET x17 SD : Int} {Dp He : ByteArray} {Dx Dy Dz D4 n2 c2 Gr Gs H6 H7 HU HV GO GQ E9 FA FG FH n16 YC : Nat} {DK Iv : Bool}
def M : Fw := ⟨prog,101,f101,[141,142],[4,6,8,10],false,[(7,15,false)],[],[(232,[(0,wQ),(4,.X 36 [.I .i64,.I .i64,.T,.L,.I .i64,.I .i64,.I .i64,.L,.B,.I .i64]),(6,.X 93 [.I .i64,.I .u64,.L,.L]),(8,.X 93 [.I .i64,.I .u64,.L,.L]),(16,wL),(17,wI),(18,wI)]),(935,[(0,wQ),(4,.X 36 [.I .i64,.I .i64,.T,.L,.I .i64,.I .i64,.I .i64,.L,.B,.I .i64]),(6,.X 93 [.I .i64,.I .u64,.L,.L]),(8,.X 93 [.I .i64,.I .u64,.L,.L]),(16,wL),(17,wI),(18,wI)])]⟩
theorem ok : M.Ok := ⟨.cons call141 (.cons call142 (AG.nil)),mixed,func101,by kernel_rfl⟩
def BA := M.pt 0
def MV := M.pt 1
theorem start (h : ∀ b4 : Nat,∀ b6 : Nat,∀ b8 : Nat,Pq q0 fun BY Q3 => LS σ BY Q3 fun fL n16 YC => BA R (aD BY Q3) Dm CZ Dp Dt Dx Dy Dn Du DJ D3 Dz D4 DK Cf 0 0 none 0 0 none 0 0 2 0 none 0 0 none 0 0 fL n16 YC (n16 : Int) 0 σ) : Spec prog 101 #[.pointer q0,.agg #[.int .i64 Dm,.int .i64 CZ,.string Dp,.slice Dt Dx Dy,.int .i64 Dn,.int .i64 Du,.int .i64 DJ,.slice D3 Dz D4,.bool DK,.int .i64 Cf],.slice p2 n2 c2] σ R := M.start h ok
theorem AZ (h : Br (SD < x17) (Pq fL fun Ym o20 => In SD (n16 : Int) ∧ ∃ AAc AAd AAe AGC AGD AGE,Ay σ Ym (o20 + Int.toNat SD * 2) [.slice AAc AAd AAe,.slice AGC AGD AGE] ∧ ∀ Cm : Nat,Pq q0 fun Lv ai => LI .i64 σ Lv (ai + 1) fun Jz => AJ (Jz - GZ) ∧ AJ ((Jz - GZ) - 300) ∧ LI .i64 σ Lv (ai + 1) fun Q9 => AJ (Q9 - GZ) ∧ Spec prog 141 #[.slice AGC AGD AGE,(.int .i64 ((Jz - GZ) - 300)),(.int .i64 (Q9 - GZ))] σ (AA R (CS fun wK n39 c39 y => Br ((n39 : Int) = 0) (MV R (aD Lv ai) GJ Fp He Gq Gr Gs H4 GZ H5 H3 H6 H7 Iv Iu GL GM HT HU HV GN GO GQ EH ET E8 E9 FA FE FG FH (aD Ym o20) n16 YC x17 SD y) (AJ ((n39 : Int) - 1) ∧ Pq wK fun QZ o48 => In (((n39 : Int) - 1)) (n39 : Int) ∧ LI .u64 y QZ ((o48 + Int.toNat ((n39 : Int) - 1) * 2) + 1) fun x50 => Br (x50 = 9218868437227405314) (MV R (aD Lv ai) GJ Fp He Gq Gr Gs H4 GZ H5 H3 H6 H7 Iv Iu GL GM HT HU HV GN GO GQ EH ET E8 E9 FA FE FG FH (aD Ym o20) n16 YC x17 SD y) (Spec prog 142 #[.slice Gq Gr Gs,.slice AAc AAd AAe] y (AA R (CB fun t58 AF => Bn t58 (MV R (aD Lv ai) GJ Fp He Gq Gr Gs H4 GZ H5 H3 H6 H7 Iv Iu GL GM HT HU HV GN GO GQ EH ET E8 E9 FA FE FG FH (aD Ym o20) n16 YC x17 SD AF) (AJ ((n39 : Int) - 1) ∧ In (((n39 : Int) - 1)) (n39 : Int) ∧ LI .u64 AF QZ ((o48 + Int.toNat ((n39 : Int) - 1) * 2) + 1) fun wy => Al AF fun b73 => AK prog (Builtin.append_ #[67,67] 67 #[.slice E8 E9 FA,(.slice (aD b73 0) 1 1)]) (Hp.set AF b73 (.cells #[.slice AAc AAd AAe,.int .u64 wy] 71 (0,0))) (CS fun p74 n74 c74 AH => MV R (aD Lv ai) GJ Fp He Gq Gr Gs H4 GZ H5 H3 H6 H7 Iv Iu GL GM HT HU HV GN GO GQ EH ET p74 n74 c74 FE FG FH (aD Ym o20) n16 YC x17 SD AH))))))))) (R (.returned (.tuple #[.agg #[.int .i64 EH,.int .u64 ET,.slice E8 E9 FA,.slice FE FG FH],.int .i64 0])) σ)) : BA R q0 GJ Fp He Gq Gr Gs H4 GZ H5 H3 H6 H7 Iv Iu GL GM HT HU HV GN GO GQ EH ET E8 E9 FA FE FG FH fL n16 YC x17 SD σ := M.of3 h ok rfl fun _ _ _ => by kernel_rfl
theorem JK (h : AJ (SD + 1) ∧ BA R q0 GJ Fp He Gq Gr Gs H4 GZ H5 H3 H6 H7 Iv Iu GL GM HT HU HV GN GO GQ EH ET E8 E9 FA FE FG FH fL n16 YC x17 (SD + 1) σ) : MV R q0 GJ Fp He Gq Gr Gs H4 GZ H5 H3 H6 H7 Iv Iu GL GM HT HU HV GN GO GQ EH ET E8 E9 FA FE FG FH fL n16 YC x17 SD σ := M.of3 h ok rfl fun _ _ _ => by kernel_rfl
end Ae
namespace AQ
variable {q0 Dt D3 p2 Gq H3 HT GN E8 FE Nj ca na Ly ri : Option Addr} {Dm CZ Dn Du DJ Cf GJ Fp H4 GZ H5 Iu GL GM EH ET Is EJ mF UY : Int} {Dp He : ByteArray} {Dx Dy Dz D4 n2 c2 Gr Gs H6 H7 HU HV GO GQ E9 FA FG FH n21 MU cb cd nc ng n11 Lz n46 nZ : Nat} {DK Iv : Bool}
def M : Fw := ⟨prog,102,f102,[141,142,143],[4,6,8,10,13],false,[],[],[(232,[(0,wQ),(4,.X 36 [.I .i64,.I .i64,.T,.L,.I .i64,.I .i64,.I .i64,.L,.B,.I .i64]),(6,.X 93 [.I .i64,.I .u64,.L,.L]),(8,.X 93 [.I .i64,.I .u64,.L,.L]),(21,wL),(22,wI),(23,wI)]),(239208,[(0,wQ),(4,.X 36 [.I .i64,.I .i64,.T,.L,.I .i64,.I .i64,.I .i64,.L,.B,.I .i64]),(6,.X 93 [.I .i64,.I .u64,.L,.L]),(8,.X 93 [.I .i64,.I .u64,.L,.L]),(10,.X 40 [.L,.L]),(11,wL),(21,wL),(22,wI),(23,wI),(46,wL),(47,wI),(48,wI)]),(935,[(0,wQ),(4,.X 36 [.I .i64,.I .i64,.T,.L,.I .i64,.I .i64,.I .i64,.L,.B,.I .i64]),(6,.X 93 [.I .i64,.I .u64,.L,.L]),(8,.X 93 [.I .i64,.I .u64,.L,.L]),(21,wL),(22,wI),(23,wI)]),(956839,[(0,wQ),(4,.X 36 [.I .i64,.I .i64,.T,.L,.I .i64,.I .i64,.I .i64,.L,.B,.I .i64]),(6,.X 93 [.I .i64,.I .u64,.L,.L]),(8,.X 93 [.I .i64,.I .u64,.L,.L]),(10,.X 40 [.L,.L]),(11,wL),(21,wL),(22,wI),(23,wI),(46,wL),(47,wI),(48,wI)])]⟩
theorem ok : M.Ok := ⟨.cons call141 (.cons call142 (.cons call143 (AG.nil))),mixed,func102,by kernel_rfl⟩
def BA := M.pt 0
def UZ := M.pt 1
def MY := M.pt 2
def tr := M.pt 3
theorem start (h : ∀ b4 : Nat,∀ b6 : Nat,Spec prog 143 #[.int .i64 Dn] σ (AA R (CI .u64 fun x16 y => ∀ b8 : Nat,Pq q0 fun Cc XJ => LS y Cc XJ fun Nj n21 MU => BA R (aD Cc XJ) Dm CZ Dp Dt Dx Dy Dn Du DJ D3 Dz D4 DK Cf 0 0 none 0 0 none 0 0 3 x16 none 0 0 none 0 0 Nj n21 MU (n21 : Int) 0 y))) : Spec prog 102 #[.pointer q0,.agg #[.int .i64 Dm,.int .i64 CZ,.string Dp,.slice Dt Dx Dy,.int .i64 Dn,.int .i64 Du,.int .i64 DJ,.slice D3 Dz D4,.bool DK,.int .i64 Cf],.slice p2 n2 c2] σ R := M.start h ok
theorem AZ (h : Br (EJ < Is) (Pq Nj fun Lv ai => In EJ (n21 : Int) ∧ ∃ AGF AGG AGH AAf AAg AAh,Ay σ Lv (ai + Int.toNat EJ * 2) [.slice AGF AGG AGH,.slice AAf AAg AAh] ∧ ∀ Cm : Nat,Pq q0 fun ic o30 => LI .i64 σ ic (o30 + 1) fun mi => AJ (mi - GZ) ∧ AJ ((mi - GZ) - H4) ∧ LI .i64 σ ic (o30 + 1) fun UW => AJ (UW - GZ) ∧ Spec prog 141 #[.slice AAf AAg AAh,(.int .i64 ((mi - GZ) - H4)),(.int .i64 (UW - GZ))] σ (AA R (CS fun ri n46 nZ y => UZ R (aD ic o30) GJ Fp He Gq Gr Gs H4 GZ H5 H3 H6 H7 Iv Iu GL GM HT HU HV GN GO GQ EH ET E8 E9 FA FE FG FH AGF AGG AGH AAf AAg AAh none 0 0 (aD Lv ai) n21 MU Is EJ ri n46 nZ (n46 : Int) 0 y))) (R (.returned (.tuple #[.agg #[.int .i64 EH,.int .u64 ET,.slice E8 E9 FA,.slice FE FG FH],.int .i64 0])) σ)) : BA R q0 GJ Fp He Gq Gr Gs H4 GZ H5 H3 H6 H7 Iv Iu GL GM HT HU HV GN GO GQ EH ET E8 E9 FA FE FG FH Nj n21 MU Is EJ σ := M.of3 h ok rfl fun _ _ _ => by kernel_rfl
theorem RC (h : Br (UY < mF) (Pq ri fun WS o50 => In UY (n46 : Int) ∧ ∃ AMk YI,Ay σ WS (o50 + Int.toNat UY * 2) [.int .i64 AMk,.int .u64 YI] ∧ ∀ Cn : Nat,Br (YI ≠ 9218868437227405314) (Al σ fun b58 => AK prog (Builtin.append_ #[187,187] 187 #[.slice Ly n11 Lz,(.slice (aD b58 0) 1 1)]) (Hp.set σ b58 (.cells #[.int .u64 YI] 48 (0,0))) (CS fun vx n59 vy y => tr R q0 GJ Fp He Gq Gr Gs H4 GZ H5 H3 H6 H7 Iv Iu GL GM HT HU HV GN GO GQ EH ET E8 E9 FA FE FG FH ca cb cd na nc ng vx n59 vy Nj n21 MU Is EJ (aD WS o50) n46 nZ mF UY y)) (tr R q0 GJ Fp He Gq Gr Gs H4 GZ H5 H3 H6 H7 Iv Iu GL GM HT HU HV GN GO GQ EH ET E8 E9 FA FE FG FH ca cb cd na nc ng Ly n11 Lz Nj n21 MU Is EJ (aD WS o50) n46 nZ mF UY σ)) (Br (0 < (n11 : Int)) (Spec prog 142 #[.slice Gq Gr Gs,.slice ca cb cd] σ (AA R (CB fun t69 y => Bo t69 (Al y fun b77 => AK prog (Builtin.append_ #[91,91] 91 #[.slice FE FG FH,(.slice (aD b77 0) 1 1)]) (Hp.set y b77 (.cells #[.slice ca cb cd,.slice Ly n11 Lz] 189 (0,0))) (CS fun ra ml rf AF => MY R q0 GJ Fp He Gq Gr Gs H4 GZ H5 H3 H6 H7 Iv Iu GL GM HT HU HV GN GO GQ EH ET E8 E9 FA ra ml rf Nj n21 MU Is EJ AF)) (MY R q0 GJ Fp He Gq Gr Gs H4 GZ H5 H3 H6 H7 Iv Iu GL GM HT HU HV GN GO GQ EH ET E8 E9 FA FE FG FH Nj n21 MU Is EJ y)))) (MY R q0 GJ Fp He Gq Gr Gs H4 GZ H5 H3 H6 H7 Iv Iu GL GM HT HU HV GN GO GQ EH ET E8 E9 FA FE FG FH Nj n21 MU Is EJ σ))) : UZ R q0 GJ Fp He Gq Gr Gs H4 GZ H5 H3 H6 H7 Iv Iu GL GM HT HU HV GN GO GQ EH ET E8 E9 FA FE FG FH ca cb cd na nc ng Ly n11 Lz Nj n21 MU Is EJ ri n46 nZ mF UY σ := M.of4 h ok rfl fun _ _ _ _ => by kernel_rfl
theorem JM (h : AJ (EJ + 1) ∧ BA R q0 GJ Fp He Gq Gr Gs H4 GZ H5 H3 H6 H7 Iv Iu GL GM HT HU HV GN GO GQ EH ET E8 E9 FA FE FG FH Nj n21 MU Is (EJ + 1) σ) : MY R q0 GJ Fp He Gq Gr Gs H4 GZ H5 H3 H6 H7 Iv Iu GL GM HT HU HV GN GO GQ EH ET E8 E9 FA FE FG FH Nj n21 MU Is EJ σ := M.of3 h ok rfl fun _ _ _ => by kernel_rfl
theorem tu (h : AJ (UY + 1) ∧ UZ R q0 GJ Fp He Gq Gr Gs H4 GZ H5 H3 H6 H7 Iv Iu GL GM HT HU HV GN GO GQ EH ET E8 E9 FA FE FG FH ca cb cd na nc ng Ly n11 Lz Nj n21 MU Is EJ ri n46 nZ mF (UY + 1) σ) : tr R q0 GJ Fp He Gq Gr Gs H4 GZ H5 H3 H6 H7 Iv Iu GL GM HT HU HV GN GO GQ EH ET E8 E9 FA FE FG FH ca cb cd na nc ng Ly n11 Lz Nj n21 MU Is EJ ri n46 nZ mF UY σ := M.of4 h ok rfl fun _ _ _ _ => by kernel_rfl
end AQ
namespace Fz
variable {FD Ej QW Nl H0 Ji Dm CZ Dn Du DJ Cf x7 x8 : Int} {QX Dp : ByteArray} {VB R5 Dt D3 p6 : Option Addr} {UX VC Q5 R6 Dx Dy Dz D4 n6 c6 : Nat} {M6 DK : Bool}
def M : Fw := ⟨prog,122,f122,[126],[1],false,[],[],[(104,[(1,.X 36 [.I .i64,.I .i64,.T,.L,.I .i64,.I .i64,.I .i64,.L,.B,.I .i64]),(6,wL),(7,wI),(8,wI)])]⟩
theorem ok : M.Ok := ⟨.cons call126 (AG.nil),mixed,func122,by kernel_rfl⟩
def Hz := M.pt 0
theorem start (h : ∀ b1 : Nat,Hz R FD Ej QX VB UX VC QW Nl H0 R5 Q5 R6 M6 Ji R5 Q5 R6 (Q5 : Int) 0 σ) : Spec prog 122 #[.agg #[.int .i64 FD,.int .i64 Ej,.string QX,.slice VB UX VC,.int .i64 QW,.int .i64 Nl,.int .i64 H0,.slice R5 Q5 R6,.bool M6,.int .i64 Ji]] σ R := M.start h ok
theorem Bl (h : Br (x8 < x7) (Pq p6 fun Cm iq => In x8 (n6 : Int) ∧ LT σ Cm (iq + Int.toNat x8 * 1) fun s11 => Spec prog 126 #[.string s11] σ (AA R (CB fun t13 y => Bn t13 (R (.returned (.bool false)) y) (AJ (x8 + 1) ∧ Hz R Dm CZ Dp Dt Dx Dy Dn Du DJ D3 Dz D4 DK Cf (aD Cm iq) n6 c6 x7 (x8 + 1) y)))) (Br ((Dz : Int) = 0) (R (.returned (.bool true)) σ) (R (.returned (.bool (decide (DJ ≠ 0)))) σ))) : Hz R Dm CZ Dp Dt Dx Dy Dn Du DJ D3 Dz D4 DK Cf p6 n6 c6 x7 x8 σ := M.j8 h ok rfl fun _ => by kernel_rfl
end Fz
namespace De
variable {FD Ej QW Nl H0 Ji : Int} {QX : ByteArray} {VB R5 p1 : Option Addr} {UX VC Q5 R6 n1 c1 b2 : Nat} {M6 : Bool}
def M : Fw := ⟨prog,127,f127,[],[3],false,[],[],[]⟩
theorem ok : M.Ok := ⟨AG.nil,mixed,func127,by kernel_rfl⟩
theorem start (h : ∀ b3 : Nat,LI .i64 σ b2 0 fun x7 => R (.returned (.tuple #[.int .i64 x7,.int .i64 0])) σ) : Spec prog 127 #[.agg #[.int .i64 FD,.int .i64 Ej,.string QX,.slice VB UX VC,.int .i64 QW,.int .i64 Nl,.int .i64 H0,.slice R5 Q5 R6,.bool M6,.int .i64 Ji],.slice p1 n1 c1,(.pointer (aD b2 0))] σ R := M.start h ok
end De
namespace N1
variable {x0 : Int}
def M : Fw := ⟨prog,144,f144,[174,181,182],[],false,[],[],[]⟩
theorem ok : M.Ok := ⟨.cons call174 (.cons call181 (.cons call182 (AG.nil))),mixed,func144,by kernel_rfl⟩
theorem start (h : Spec prog 182 #[.int .u64 x0] σ (AA R (fun z y => ∃ x4,(Value.float .f64 x4) = z ∧ Spec prog 181 #[(Value.float .f64 x4)] y (AA R (fun z AF => ∃ x5,(Value.float .f64 x5) = z ∧ Spec prog 174 #[(Value.float .f64 x5)] AF (AA R (CI .u64 fun x6 AH => R (.returned (.int .u64 x6)) AH))))))) : Spec prog 144 #[.int .u64 x0] σ R := M.start h ok
end N1
namespace F0
variable {p0 Ly : Option Addr} {n0 c0 n11 Lz : Nat} {x3 x12 FK : Int}
def M : Fw := ⟨prog,151,f151,[186,201],[],false,[],[],[(232,[(3,wU),(11,wL),(12,wI),(13,wI)])]⟩
theorem ok : M.Ok := ⟨.cons call186 (.cons call201 (AG.nil)),mixed,func151,by kernel_rfl⟩
def BA := M.pt 0
theorem start (h : Pq p0 fun b7 o7 => In 0 (n0 : Int) ∧ LI .u64 σ b7 o7 fun x8 => Spec prog 186 #[.int .u64 x8] σ (AA R (CI .u64 fun x9 y => ((0 : Int) ≤ 1 ∧ 1 ≤ (n0 : Int)) ∧ BA R x9 ((Ir (aD b7 o7) (1) c0 1)) (n0 - 1) (c0 - 1) ((((n0 - 1) : Nat) : Int)) 0 y))) : Spec prog 151 #[.slice p0 n0 c0] σ R := M.start h ok
theorem AZ (h : Br (FK < x12) (Pq Ly fun b15 o15 => In FK (n11 : Int) ∧ LI .u64 σ b15 (o15 + Int.toNat FK * 1) fun x16 => Spec prog 201 #[.int .u64 x3,.int .u64 x16] σ (AA R (CI .u64 fun DU y => AJ (FK + 1) ∧ BA R DU (aD b15 o15) n11 Lz x12 (FK + 1) y))) (R (.returned (.int .u64 x3)) σ)) : BA R x3 Ly n11 Lz x12 FK σ := M.of h ok rfl
end F0
namespace HB
variable {p0 : Option Addr} {n0 c0 : Nat}
def M : Fw := ⟨prog,152,f152,[202],[],false,[],[],[]⟩
theorem ok : M.Ok := ⟨.cons call202 (AG.nil),mixed,func152,by kernel_rfl⟩
theorem start (h : Spec prog 202 #[.int .i64 7,.slice p0 n0 c0] σ (AA R (CI .u64 fun x4 y => R (.returned (.int .u64 x4)) y))) : Spec prog 152 #[.slice p0 n0 c0] σ R := M.start h ok
end HB
namespace P3
variable {FD Ej QW Nl H0 Ji x1 x2 : Int} {QX : ByteArray} {VB R5 : Option Addr} {UX VC Q5 R6 : Nat} {M6 : Bool}
def M : Fw := ⟨prog,156,f156,[203,204,205],[3],false,[],[],[]⟩
theorem ok : M.Ok := ⟨.cons call203 (.cons call204 (.cons call205 (AG.nil))),mixed,func156,by kernel_rfl⟩
theorem start (h : ∀ b3 : Nat,Spec prog 203 #[.int .i64 Ej,.int .u64 x1,.int .u64 x2] σ (AA R (fun z y => ∃ Rv AGJ,z = (.tuple #[.int .u64 Rv,.bool AGJ]) ∧ Bo AGJ (R (.returned (.tuple #[.int .u64 Rv,.bool true])) y) (Spec prog 204 #[.int .i64 Ej,.int .u64 x1,.int .u64 x2] y (AA R (fun z AF => ∃ AAi AMn,z = (.tuple #[.bool AAi,.bool AMn]) ∧ Spec prog 205 #[.bool AAi] AF (AA R (CI .u64 fun x31 AH => R (.returned (.tuple #[.int .u64 x31,.bool AAi])) AH)))))))) : Spec prog 156 #[.agg #[.int .i64 FD,.int .i64 Ej,.string QX,.slice VB UX VC,.int .i64 QW,.int .i64 Nl,.int .i64 H0,.slice R5 Q5 R6,.bool M6,.int .i64 Ji],.int .u64 x1,.int .u64 x2] σ R := M.start h ok
end P3
namespace HC
variable {s0 : ByteArray} {x1 : Int}
def M : Fw := ⟨prog,173,f173,[214,215],[],false,[],[],[]⟩
theorem ok : M.Ok := ⟨.cons call214 (.cons call215 (AG.nil)),mixed,func173,by kernel_rfl⟩
theorem start (h : Spec prog 214 #[.string s0,.int .i64 x1] σ (AA R (fun z y => ∃ iS iT,z = (.tuple #[iS,iT]) ∧ ∃ t15,YF prog ((do eqGuard .neq 214 (.tmp 14) (.const .nilIface) iT .nilIface; binOp .neq 214 iT .nilIface)) y (.bool t15) ∧ Bo t15 (Spec prog 215 #[(.string (ByteArray.mk #[80,97,114,115,101,70,108,111,97,116])),.string s0,.int .i64 0,.int .i64 x1,iT] y (AA R (fun z AF => ∃ v20,v20 = z ∧ R (.returned (.tuple #[iS,v20])) AF))) (R (.returned (.tuple #[iS,.nilIface])) y)))) : Spec prog 173 #[.string s0,.int .i64 x1] σ R := M.start h ok
end HC
namespace fi
variable {v0 : Value}
def M : Fw := ⟨prog,174,f174,[216],[],false,[],[],[]⟩
theorem ok : M.Ok := ⟨.cons call216 (AG.nil),mixed,func174,by kernel_rfl⟩
theorem start (h : Spec prog 216 #[v0] σ (AA R (CB fun t4 y => Bo t4 (R (.returned (.int .u64 9221120237041090560)) y) (EN prog 45 #[v0] y (CI .u64 fun x6 AF => R (.returned (.int .u64 x6)) AF))))) : Spec prog 174 #[v0] σ R := M.EE h ok [(0,.o (.V v0))] rfl rfl (by kernel_rfl)
end fi
namespace Az
variable {p0 : Option Addr} {n0 c0 : Nat} {x1 x8 x9 x10 : Int} {v2 : Value}
def M : Fw := ⟨prog,175,f175,[],[],false,[],[],[(480,[(0,wL),(1,wI),(2,wV),(8,wI),(9,wI),(10,wI)])]⟩
theorem ok : M.Ok := ⟨AG.nil,mixed,func175,by kernel_rfl⟩
def Bh := M.pt 0
theorem start (h : Bh R p0 n0 c0 x1 v2 (n0 : Int) 0 (n0 : Int) σ) : Spec prog 175 #[.slice p0 n0 c0,.int .i64 x1,v2] σ R := M.EE h ok [(0,.o (.L p0 n0 c0)),(1,.o (.I .i64 x1)),(2,.o (.V v2))] rfl rfl (by kernel_rfl)
theorem A3 (h : Br (x9 < x10) (AJ (x9 + x10) ∧ Df (IntKind.u64.wrap (x9 + x10)) fun cS => ((0 : Int) ≤ 1 ∧ 1 ≤ ((IntKind.bits .u64 : Nat) : Int)) ∧ Df (cS / 2 ^ Int.toNat 1) fun Is => Df (IntKind.i64.wrap Is) fun EJ => Pq p0 fun O4 WE => In EJ (n0 : Int) ∧ ∃ Yi SB,Ay σ O4 (WE + Int.toNat EJ * 2) [.int .i64 Yi,.int .u64 SB] ∧ ∃ (f30 : Nat) (xh xi : Array Value),v2 = .func (.func f30) xh xi ∧ Enters prog f30 ∧ Spec prog f30 (xh ++ #[.agg #[.int .i64 Yi,.int .u64 SB],.int .i64 x1] ++ xi) σ (AA R (CI .i64 fun SF y => Br (SF < 0) (AJ (EJ + 1) ∧ Bh R (aD O4 WE) n0 c0 x1 v2 x8 (EJ + 1) x10 y) (Bh R (aD O4 WE) n0 c0 x1 v2 x8 x9 EJ y)))) (Br (x9 < x8) (Pq p0 fun fM o43 => In x9 (n0 : Int) ∧ ∃ Qc Qd,Ay σ fM (o43 + Int.toNat x9 * 2) [.int .i64 Qc,.int .u64 Qd] ∧ ∃ (f46 : Nat) (xj xk : Array Value),v2 = .func (.func f46) xj xk ∧ Enters prog f46 ∧ Spec prog f46 (xj ++ #[.agg #[.int .i64 Qc,.int .u64 Qd],.int .i64 x1] ++ xk) σ (AA R (CI .i64 fun x46 y => R (.returned (.tuple #[.int .i64 x9,(.bool (decide (x46 = 0)))])) y))) (R (.returned (.tuple #[.int .i64 x9,.bool false])) σ))) : Bh R p0 n0 c0 x1 v2 x8 x9 x10 σ := M.of h ok rfl
end Az
namespace Y0
variable {x0 x1 : Int}
def M : Fw := ⟨prog,190,f190,[203],[],false,[],[],[]⟩
theorem ok : M.Ok := ⟨.cons call203 (AG.nil),mixed,func190,by kernel_rfl⟩
theorem start (h : Spec prog 203 #[.int .i64 2,.int .u64 x0,.int .u64 x1] σ (AA R (fun z y => ∃ I5 Ry,z = (.tuple #[.int .u64 I5,.bool Ry]) ∧ R (.returned (.int .u64 I5)) y))) : Spec prog 190 #[.int .u64 x0,.int .u64 x1] σ R := M.start h ok
end Y0
namespace EK
variable {p0 : Option Addr} {n0 c0 : Nat} {x3 x4 : Int}
def M : Fw := ⟨prog,192,f192,[190,201,204],[],false,[],[],[(464,[(0,wL),(3,wU),(4,wI)]),(467,[(0,wL),(3,wU),(4,wI)])]⟩
theorem ok : M.Ok := ⟨.cons call190 (.cons call201 (.cons call204 (AG.nil))),mixed,func192,by kernel_rfl⟩
def Bh := M.pt 0
def QT := M.pt 1
theorem start (h : AJ ((n0 : Int) - 1) ∧ Pq p0 fun BG kE => In (((n0 : Int) - 1)) (n0 : Int) ∧ LI .u64 σ BG (kE + Int.toNat ((n0 : Int) - 1) * 1) fun x12 => In 0 (n0 : Int) ∧ LI .u64 σ BG kE fun x15 => Spec prog 190 #[.int .u64 x12,.int .u64 x15] σ (AA R (CI .u64 fun x16 y => Bh R (aD BG kE) n0 c0 x16 1 y))) : Spec prog 192 #[.slice p0 n0 c0] σ R := M.start h ok
theorem A3 (h : Br (x4 < (n0 : Int)) (Pq p0 fun RB S5 => In x4 (n0 : Int) ∧ LI .u64 σ RB (S5 + Int.toNat x4 * 1) fun Jz => AJ (x4 - 1) ∧ In (x4 - 1) (n0 : Int) ∧ LI .u64 σ RB (S5 + Int.toNat (x4 - 1) * 1) fun mi => Spec prog 204 #[.int .i64 7,.int .u64 Jz,.int .u64 mi] σ (AA R (fun z y => ∃ AGK mj,z = (.tuple #[.bool AGK,.bool mj]) ∧ Bo AGK (AJ (x4 - 1) ∧ In (x4 - 1) (n0 : Int) ∧ LI .u64 y RB (S5 + Int.toNat (x4 - 1) * 1) fun UW => Spec prog 201 #[.int .u64 x3,.int .u64 UW] y (AA R (CI .u64 fun fR AF => QT R (aD RB S5) n0 c0 fR x4 AF))) (QT R (aD RB S5) n0 c0 x3 x4 y)))) (R (.returned (.int .u64 x3)) σ)) : Bh R p0 n0 c0 x3 x4 σ := M.of h ok rfl
theorem MA (h : AJ (x4 + 1) ∧ Bh R p0 n0 c0 x3 (x4 + 1) σ) : QT R p0 n0 c0 x3 x4 σ := M.of h ok rfl
end EK
namespace Jp
variable {wz ad : ByteArray} {b1 : Nat}
def M : Fw := ⟨prog,200,f200,[199],[2],false,[],[],[]⟩
theorem ok : M.Ok := ⟨.cons call199 (AG.nil),mixed,func200,by kernel_rfl⟩
theorem start (h : ∀ b2 : Nat,LS σ b1 0 fun p4 n4 c4 => Spec prog 199 #[.slice p4 n4 c4,.string wz] σ (AA R (CB fun t7 y => R (.returned (.bool (!t7))) y))) : Spec prog 200 #[.agg #[.string wz,.string ad],(.pointer (aD b1 0))] σ R := M.start h ok
end Jp
namespace F2
variable {s0 : ByteArray} {x3 : Int}
def M : Fw := ⟨prog,213,f213,[],[],false,[],[],[(224,[(0,wT),(3,wI)])]⟩
theorem ok : M.Ok := ⟨AG.nil,mixed,func213,by kernel_rfl⟩
def ES := M.pt 0
theorem start (h : ES R s0 0 σ) : Spec prog 213 #[.string s0] σ R := M.start h ok
theorem Af (h : Br (x3 < ((ByteArray.size s0 : Nat) : Int)) (∃ u11 : UInt8,0 ≤ x3 ∧ (ByteArray.data s0)[Int.toNat x3]? = some u11 ∧ Br ((48 : Int) ≤ ((UInt8.toNat u11 : Nat) : Int)) (∃ u17 : UInt8,0 ≤ x3 ∧ (ByteArray.data s0)[Int.toNat x3]? = some u17 ∧ Br ((((UInt8.toNat u17 : Nat) : Int) : Int) ≤ 57) (AJ (x3 + 1) ∧ ES R s0 (x3 + 1) σ) (R (.returned (.int .i64 x3)) σ)) (R (.returned (.int .i64 x3)) σ)) (R (.returned (.int .i64 x3)) σ)) : ES R s0 x3 σ := M.of h ok rfl
end F2
namespace EC
variable {Pw : Option Addr} {Jx OY : Nat} {ad s1 : ByteArray}
def M : Fw := ⟨prog,220,f220,[236],[2],false,[],[],[]⟩
theorem ok : M.Ok := ⟨.cons call236 (AG.nil),mixed,func220,by kernel_rfl⟩
theorem start (h : ∀ b2 : Nat,Spec prog 236 #[.agg #[.slice Pw Jx OY],.string s1] σ (AA R (CB fun t8 y => R (.returned (.bool (!t8))) y))) : Spec prog 220 #[.agg #[.slice Pw Jx OY,.string ad],.string s1] σ R := M.start h ok
end EC
namespace IQ
variable {p0 p5 : Option Addr} {n0 c0 n5 c5 : Nat} {x1 x7 : Int} {v6 : Value}
def M : Fw := ⟨prog,241,f241,[182,263],[],false,[],[],[(444,[(0,wL),(1,wI),(5,wL),(6,wV),(7,wI)])]⟩
theorem ok : M.Ok := ⟨.cons call182 (.cons call263 (AG.nil)),mixed,func241,by kernel_rfl⟩
def tw := M.pt 0
theorem start (h : Spec prog 263 #[] σ (AA R (CS fun Q8 n10 Nq y => tw R p0 n0 c0 x1 Q8 n10 Nq (.complex .f64 0 0) 0 y))) : Spec prog 241 #[.slice p0 n0 c0,.int .i64 x1] σ R := M.start h ok
theorem fj (h : Br (x7 = (n0 : Int)) (R (.returned v6) σ) (Pq p0 fun Q7 WL => In x7 (n0 : Int) ∧ LI .u64 σ Q7 (WL + Int.toNat x7 * 1) fun DU => AJ (x1 * x7) ∧ (n0 : Int) ≠ (0 : Int) ∧ Df (Int.tmod (x1 * x7) (n0 : Int)) fun Jz => (n0 : Int) ≠ (0 : Int) ∧ Df (IntKind.i64.wrap (Int.tdiv 8 (n0 : Int))) fun SF => AJ (Jz * SF) ∧ Pq p5 fun b32 o32 => In (Jz * SF) (n5 : Int) ∧ ∃ x33 y33,Hp.ld σ ⟨b32,(o32 + Int.toNat (Jz * SF) * 1),none⟩ = some (Value.complex .f64 x33 y33) ∧ Spec prog 182 #[.int .u64 DU] σ (AA R (fun z y => ∃ Hv,(Value.float .f64 Hv) = z ∧ Kp [b32] σ y ∧ ∃ Q9,YF prog (Builtin.real_ #[272] 51 #[v6]) y (Value.float .f64 Q9) ∧ ∃ xD,YF prog (Builtin.real_ #[272] 51 #[(Value.complex .f64 x33 y33)]) y (Value.float .f64 xD) ∧ AK prog (binOp .mul 51 (Value.float .f64 Hv) (Value.float .f64 xD)) y (fun z AF => ∃ x39,(Value.float .f64 x39) = z ∧ AK prog (binOp .add 51 (Value.float .f64 Q9) (Value.float .f64 x39)) AF (fun z AH => ∃ rZ,(Value.float .f64 rZ) = z ∧ ∃ UW,YF prog (Builtin.imag_ #[272] 51 #[v6]) AH (Value.float .f64 UW) ∧ ∃ fN,YF prog (Builtin.imag_ #[272] 51 #[(Value.complex .f64 x33 y33)]) AH (Value.float .f64 fN) ∧ AK prog (binOp .mul 51 (Value.float .f64 Hv) (Value.float .f64 fN)) AH (fun z Ac => ∃ x46,(Value.float .f64 x46) = z ∧ AK prog (binOp .add 51 (Value.float .f64 UW) (Value.float .f64 x46)) Ac (fun z EF => ∃ mF,(Value.float .f64 mF) = z ∧ ∃ UY y48,YF prog (Builtin.complex_ #[51,51] 272 #[(Value.float .f64 rZ),(Value.float .f64 mF)]) EF (Value.complex .f64 UY y48) ∧ AJ (x7 + 1) ∧ tw R (aD Q7 WL) n0 c0 x1 (aD b32 o32) n5 c5 (Value.complex .f64 UY y48) (x7 + 1) EF)))))))) : tw R p0 n0 c0 x1 p5 n5 c5 v6 x7 σ := M.of h ok rfl
end IQ
namespace IS
variable {q0 : Option Addr}
def M : Fw := ⟨prog,250,f250,[66,133,135,136,137,138,267,268,269,270],[2],false,[],[],[]⟩
theorem ok : M.Ok := ⟨.cons call66 (.cons call133 (.cons call135 (.cons call136 (.cons call137 (.cons call138 (.cons call267 (.cons call268 (.cons call269 (.cons call270 (AG.nil)))))))))),mixed,func250,by kernel_rfl⟩
theorem start (h : Spec prog 66 #[.pointer q0] σ (AA R (fun z y => ∃ Fu Gt Fv Gu,z = (.agg #[.int .i64 Fu,.int .i64 Gt,.string Fv,.int .i64 Gu]) ∧ ∀ b2 : Nat,Spec prog 267 #[] y (AA R (CS fun p8 n8 c8 AF => Spec prog 133 #[.slice p8 n8 c8,.string Fv] AF (AA R (CI .i64 fun x11 AH => Spec prog 268 #[] AH (AA R (CS fun cX n12 ah Ac => Spec prog 133 #[.slice cX n12 ah,.string Fv] Ac (AA R (CI .i64 fun x15 EF => Br (Fu = 1) (Spec prog 135 #[.pointer q0] EF (AA R (fun z Fo => ∃ tc iV AAU AAV,z = (.agg #[.int .i64 tc,.int .i64 iV,.string AAU,.int .i64 AAV]) ∧ Spec prog 138 #[.pointer q0,.agg #[.int .i64 1,.int .i64 0,.string Fv,.slice none 0 0,.int .i64 0,.int .i64 0,.int .i64 0,.slice none 0 0,.bool false,.int .i64 0]] Fo (AA R (fun z EG => z = (.tuple #[]) ∧ R (.returned (.tuple #[])) EG))))) (Spec prog 136 #[.pointer q0,.int .i64 5,(.string (ByteArray.mk #[40]))] EF (AA R (CB fun t31 Fo => Bo t31 (Spec prog 269 #[.pointer q0] Fo (AA R (fun z EG => z = (.tuple #[]) ∧ R (.returned (.tuple #[])) EG))) (Br (Fu = 3) (Br (0 < x11) (Spec prog 135 #[.pointer q0] Fo (AA R (fun z EG => ∃ O8 MX O9 AMr,z = (.agg #[.int .i64 O8,.int .i64 MX,.string O9,.int .i64 AMr]) ∧ Spec prog 269 #[.pointer q0] EG (AA R (fun z Jw => z = (.tuple #[]) ∧ Spec prog 138 #[.pointer q0,(.agg #[.int .i64 4,.int .i64 x11,(.string (ByteArray.mk #[])),.slice none 0 0,.int .i64 0,.int .i64 0,.int .i64 0,.slice none 0 0,.bool false,.int .i64 1])] Jw (AA R (fun z QV => z = (.tuple #[]) ∧ R (.returned (.tuple #[])) QV))))))) (Br (Fu = 3) (Br (0 < x15) (Spec prog 135 #[.pointer q0] Fo (AA R (fun z EG => ∃ WN Hw AAj AAk,z = (.agg #[.int .i64 WN,.int .i64 Hw,.string AAj,.int .i64 AAk]) ∧ Al EG fun b5 => AK prog (Instr.storeAt 36 (.pointer (aD b5 0)) (.agg #[.int .i64 5,.int .i64 x15,(.string (ByteArray.mk #[])),.slice none 0 0,.int .i64 0,.int .i64 0,.int .i64 0,.slice none 0 0,.bool false,.int .i64 1])) (Hp.set EG b5 (.cells #[.int .i64 0,.int .i64 0,(.string (ByteArray.mk #[])),.slice none 0 0,.int .i64 0,.int .i64 0,.int .i64 0,.slice none 0 0,.bool false,.int .i64 0] 36 (0,0))) (fun _ Jw => Spec prog 137 #[.pointer q0,(.pointer (aD b5 0)),(.agg #[(.string (ByteArray.mk #[98,121])),(.string (ByteArray.mk #[119,105,116,104,111,117,116]))]),.agg #[.int .i64 1,.int .i64 2]] Jw (AA R (fun z QV => z = (.tuple #[]) ∧ Spec prog 269 #[.pointer q0] QV (AA R (fun z I6 => z = (.tuple #[]) ∧ ∃ Y1 Y2 Y3 Y4 Y5 Y6 Y8 Y9 ZA ZB ZC ZD ZE ZF,Ay I6 b5 0 [.int .i64 Y1,.int .i64 Y2,.string Y3,.slice Y4 Y5 Y6,.int .i64 Y8,.int .i64 Y9,.int .i64 ZA,.slice ZB ZC ZD,.bool ZE,.int .i64 ZF] ∧ Spec prog 138 #[.pointer q0,.agg #[.int .i64 Y1,.int .i64 Y2,.string Y3,.slice Y4 Y5 Y6,.int .i64 Y8,.int .i64 Y9,.int .i64 ZA,.slice ZB ZC ZD,.bool ZE,.int .i64 ZF]] I6 (AA R (fun z cK => z = (.tuple #[]) ∧ R (.returned (.tuple #[])) cK)))))))))) (Spec prog 270 #[.pointer q0] Fo (AA R (fun z EG => z = (.tuple #[]) ∧ R (.returned (.tuple #[])) EG)))) (Spec prog 270 #[.pointer q0] Fo (AA R (fun z EG => z = (.tuple #[]) ∧ R (.returned (.tuple #[])) EG))))) (Br (Fu = 3) (Br (0 < x15) (Spec prog 135 #[.pointer q0] Fo (AA R (fun z EG => ∃ WN Hw AAj AAk,z = (.agg #[.int .i64 WN,.int .i64 Hw,.string AAj,.int .i64 AAk]) ∧ Al EG fun b5 => AK prog (Instr.storeAt 36 (.pointer (aD b5 0)) (.agg #[.int .i64 5,.int .i64 x15,(.string (ByteArray.mk #[])),.slice none 0 0,.int .i64 0,.int .i64 0,.int .i64 0,.slice none 0 0,.bool false,.int .i64 1])) (Hp.set EG b5 (.cells #[.int .i64 0,.int .i64 0,(.string (ByteArray.mk #[])),.slice none 0 0,.int .i64 0,.int .i64 0,.int .i64 0,.slice none 0 0,.bool false,.int .i64 0] 36 (0,0))) (fun _ Jw => Spec prog 137 #[.pointer q0,(.pointer (aD b5 0)),(.agg #[(.string (ByteArray.mk #[98,121])),(.string (ByteArray.mk #[119,105,116,104,111,117,116]))]),.agg #[.int .i64 1,.int .i64 2]] Jw (AA R (fun z QV => z = (.tuple #[]) ∧ Spec prog 269 #[.pointer q0] QV (AA R (fun z I6 => z = (.tuple #[]) ∧ ∃ Y1 Y2 Y3 Y4 Y5 Y6 Y8 Y9 ZA ZB ZC ZD ZE ZF,Ay I6 b5 0 [.int .i64 Y1,.int .i64 Y2,.string Y3,.slice Y4 Y5 Y6,.int .i64 Y8,.int .i64 Y9,.int .i64 ZA,.slice ZB ZC ZD,.bool ZE,.int .i64 ZF] ∧ Spec prog 138 #[.pointer q0,.agg #[.int .i64 Y1,.int .i64 Y2,.string Y3,.slice Y4 Y5 Y6,.int .i64 Y8,.int .i64 Y9,.int .i64 ZA,.slice ZB ZC ZD,.bool ZE,.int .i64 ZF]] I6 (AA R (fun z cK => z = (.tuple #[]) ∧ R (.returned (.tuple #[])) cK)))))))))) (Spec prog 270 #[.pointer q0] Fo (AA R (fun z EG => z = (.tuple #[]) ∧ R (.returned (.tuple #[])) EG)))) (Spec prog 270 #[.pointer q0] Fo (AA R (fun z EG => z = (.tuple #[]) ∧ R (.returned (.tuple #[])) EG))))))))))))))))))) : Spec prog 250 #[.pointer q0] σ R := M.start h ok
end IS
namespace strings_Index
variable {s0 s1 : ByteArray}
end strings_Index
namespace TF
def M : Fw := ⟨prog,268,f268,[],[],false,[],[],[]⟩
theorem ok : M.Ok := ⟨AG.nil,mixed,func268,by kernel_rfl⟩
theorem start (h : Al σ fun b1 => R (.returned (.slice (aD b1 0) 6 6)) (Hp.set σ b1 (.cells #[(.string (ByteArray.mk #[])),(.string (ByteArray.mk #[115,117,109])),(.string (ByteArray.mk #[109,105,110])),(.string (ByteArray.mk #[109,97,120])),(.string (ByteArray.mk #[97,118,103])),(.string (ByteArray.mk #[99,111,117,110,116]))] 9 (0,0)))) : Spec prog 268 #[] σ R := M.start h ok
end TF
namespace AE
variable {s0 : ByteArray} {x2 x3 x7 x10 x11 x12 x15 x16 x17 DU Hv : Int} {t4 t5 t6 t8 t9 t13 t14 : Bool}
def M : Fw := ⟨prog,272,f272,[302,303],[],false,[],[],[(110,[(0,wT),(2,wU),(3,wI),(4,wB),(5,wB),(6,wB),(7,wI),(8,wB),(9,wB)]),(1790,[(0,wT),(2,wU),(3,wI),(4,wB),(5,wB),(6,wB),(7,wI),(8,wB),(9,wB),(10,wU),(11,wI),(12,w8)]),(1834976,[(0,wT),(2,wU),(3,wI),(4,wB),(5,wB),(6,wB),(7,wI),(8,wB),(9,wB),(10,wU),(11,wI),(12,w8),(13,wB),(14,wB),(15,wI),(16,wI),(17,wI)]),(458748,[(0,wT),(2,wU),(3,wI),(4,wB),(5,wB),(6,wB),(7,wI),(8,wB),(9,wB),(10,wU),(12,w8),(13,wB),(14,wB),(15,wI),(16,wI),(17,wI)]),(1835004,[(0,wT),(2,wU),(3,wI),(4,wB),(5,wB),(6,wB),(7,wI),(8,wB),(9,wB),(10,wU),(12,w8),(16,wI),(17,wI)]),(3670012,[(0,wT),(2,wU),(3,wI),(4,wB),(5,wB),(6,wB),(7,wI),(8,wB),(9,wB),(10,wU),(12,w8),(16,wI),(17,wI)]),(7340028,[(0,wT),(2,wU),(3,wI),(4,wB),(5,wB),(6,wB),(7,wI),(8,wB),(9,wB),(16,wI),(17,wI)]),(14680060,[(0,wT),(2,wU),(3,wI),(4,wB),(5,wB),(6,wB),(7,wI),(8,wB),(9,wB)]),(469761724,[(0,wT),(2,wU),(3,wI),(4,wB),(5,wB),(6,wB),(7,wI),(8,wB),(9,wB),(16,wI),(17,wI),(19,wI)]),(15032375264,[(0,wT),(2,wU),(3,wI),(4,wB),(5,wB),(6,wB),(7,wI),(8,wB),(9,wB),(16,wI),(17,wI),(19,wI),(20,wI)]),(15032375267,[(0,wT),(2,wU),(3,wI),(4,wB),(5,wB),(6,wB),(7,wI),(8,wB),(9,wB),(16,wI),(17,wI),(19,wI),(20,wI)]),(1834979,[(0,wT),(2,wU),(3,wI),(4,wB),(5,wB),(6,wB),(7,wI),(8,wB),(9,wB),(10,wU),(11,wI),(12,w8),(13,wB),(14,wB),(15,wI),(16,wI),(17,wI)])]⟩
theorem ok : M.Ok := ⟨.cons call302 (.cons call303 (AG.nil)),mixed,func272,by kernel_rfl⟩
def UZ := M.pt 0
def MY := M.pt 1
def nh := M.pt 2
def N2 := M.pt 3
def fk := M.pt 4
def ni := M.pt 5
def nj := M.pt 6
def nk := M.pt 7
def nq := M.pt 8
def F3 := M.pt 11
theorem start (h : Br ((((ByteArray.size s0 : Nat) : Int) : Int) ≤ 0) (R (.returned (.tuple #[.int .u64 0,.int .i64 0,.bool false,.bool false,.bool false,.int .i64 0,.bool false])) σ) (∃ u27 : UInt8,(0 : Int) ≤ 0 ∧ (ByteArray.data s0)[Int.toNat 0]? = some u27 ∧ Br ((((UInt8.toNat u27 : Nat) : Int) : Int) = 43) (AJ (0 + 1) ∧ UZ R s0 0 0 false false false (0 + 1) false false σ) (Br ((((UInt8.toNat u27 : Nat) : Int) : Int) = 45) (AJ (0 + 1) ∧ UZ R s0 0 0 true false false (0 + 1) false false σ) (UZ R s0 0 0 false false false 0 false false σ)))) : Spec prog 272 #[.string s0] σ R := M.start h ok
theorem RC (h : AJ (x7 + 2) ∧ Br (((x7 + 2) : Int) < ((ByteArray.size s0 : Nat) : Int)) (∃ u44 : UInt8,0 ≤ x7 ∧ (ByteArray.data s0)[Int.toNat x7]? = some u44 ∧ Br ((((UInt8.toNat u44 : Nat) : Int) : Int) = 48) (AJ (x7 + 1) ∧ ∃ u51 : UInt8,(0 : Int) ≤ (x7 + 1) ∧ (ByteArray.data s0)[Int.toNat (x7 + 1)]? = some u51 ∧ Spec prog 302 #[(.int .u8 ((UInt8.toNat u51 : Nat) : Int))] σ (AA R (CI .u8 fun tV y => Br (tV = 120) (AJ (x7 + 2) ∧ MY R s0 x2 x3 t4 t5 true (x7 + 2) t8 t9 16 16 112 y) (MY R s0 x2 x3 t4 t5 t6 x7 t8 t9 10 19 101 y)))) (MY R s0 x2 x3 t4 t5 t6 x7 t8 t9 10 19 101 σ)) (MY R s0 x2 x3 t4 t5 t6 x7 t8 t9 10 19 101 σ)) : UZ R s0 x2 x3 t4 t5 t6 x7 t8 t9 σ := M.of h ok rfl
theorem JM (h : nh R s0 x2 x3 t4 t5 t6 x7 t8 t9 x10 x11 x12 false false 0 0 0 σ) : MY R s0 x2 x3 t4 t5 t6 x7 t8 t9 x10 x11 x12 σ := M.of h ok rfl
theorem fm (h : Br (x7 < ((ByteArray.size s0 : Nat) : Int)) (∃ aj : UInt8,0 ≤ x7 ∧ (ByteArray.data s0)[Int.toNat x7]? = some aj ∧ Br ((((UInt8.toNat aj : Nat) : Int) : Int) = 95) (F3 R s0 x2 x3 t4 t5 t6 x7 t8 true x10 x11 x12 t13 t14 x15 x16 x17 σ) (Br ((((UInt8.toNat aj : Nat) : Int) : Int) = 46) (Bo t13 (N2 R s0 x2 x3 t4 t5 t6 x7 t8 t9 x10 x12 true t14 x15 x16 x17 σ) (F3 R s0 x2 x3 t4 t5 t6 x7 t8 t9 x10 x11 x12 true t14 x15 x16 x15 σ)) (Br ((48 : Int) ≤ ((UInt8.toNat aj : Nat) : Int)) (Br ((((UInt8.toNat aj : Nat) : Int) : Int) ≤ 57) (Br ((((UInt8.toNat aj : Nat) : Int) : Int) = 48) (Br (x15 = 0) (AJ (x17 - 1) ∧ F3 R s0 x2 x3 t4 t5 t6 x7 t8 t9 x10 x11 x12 t13 true x15 x16 (x17 - 1) σ) (AJ (x15 + 1) ∧ Br (x16 < x11) (Df (IntKind.u64.wrap (x2 * x10)) fun x99 => Df (IntKind.u8.wrap (((UInt8.toNat aj : Nat) : Int) - 48)) fun iu => Df (IntKind.u64.wrap iu) fun iw => Df (IntKind.u64.wrap (x99 + iw)) fun cg => AJ (x16 + 1) ∧ F3 R s0 cg x3 t4 t5 t6 x7 t8 t9 x10 x11 x12 t13 true (x15 + 1) (x16 + 1) x17 σ) (Br ((((UInt8.toNat aj : Nat) : Int) : Int) ≠ 48) (F3 R s0 x2 x3 t4 true t6 x7 t8 t9 x10 x11 x12 t13 true (x15 + 1) x16 x17 σ) (F3 R s0 x2 x3 t4 t5 t6 x7 t8 t9 x10 x11 x12 t13 true (x15 + 1) x16 x17 σ)))) (AJ (x15 + 1) ∧ Br (x16 < x11) (Df (IntKind.u64.wrap (x2 * x10)) fun x99 => Df (IntKind.u8.wrap (((UInt8.toNat aj : Nat) : Int) - 48)) fun iu => Df (IntKind.u64.wrap iu) fun iw => Df (IntKind.u64.wrap (x99 + iw)) fun cg => AJ (x16 + 1) ∧ F3 R s0 cg x3 t4 t5 t6 x7 t8 t9 x10 x11 x12 t13 true (x15 + 1) (x16 + 1) x17 σ) (Br ((((UInt8.toNat aj : Nat) : Int) : Int) ≠ 48) (F3 R s0 x2 x3 t4 true t6 x7 t8 t9 x10 x11 x12 t13 true (x15 + 1) x16 x17 σ) (F3 R s0 x2 x3 t4 t5 t6 x7 t8 t9 x10 x11 x12 t13 true (x15 + 1) x16 x17 σ)))) (Br (x10 = 16) (Spec prog 302 #[(.int .u8 ((UInt8.toNat aj : Nat) : Int))] σ (AA R (CI .u8 fun AAl y => Br (97 ≤ AAl) (Spec prog 302 #[(.int .u8 ((UInt8.toNat aj : Nat) : Int))] y (AA R (CI .u8 fun AAm AF => Br (AAm ≤ 102) (AJ (x15 + 1) ∧ Br (x16 < x11) (Df (IntKind.u64.wrap (x2 * 16)) fun AAn => Spec prog 302 #[(.int .u8 ((UInt8.toNat aj : Nat) : Int))] AF (AA R (CI .u8 fun AAo AH => Df (IntKind.u8.wrap (AAo - 97)) fun AAp => Df (IntKind.u8.wrap (AAp + 10)) fun AAq => Df (IntKind.u64.wrap AAq) fun AAr => Df (IntKind.u64.wrap (AAn + AAr)) fun AAs => AJ (x16 + 1) ∧ F3 R s0 AAs x3 t4 t5 t6 x7 t8 t9 x10 x11 x12 t13 true (x15 + 1) (x16 + 1) x17 AH))) (F3 R s0 x2 x3 t4 true t6 x7 t8 t9 x10 x11 x12 t13 true (x15 + 1) x16 x17 AF)) (N2 R s0 x2 x3 t4 t5 t6 x7 t8 t9 x10 x12 t13 t14 x15 x16 x17 AF)))) (N2 R s0 x2 x3 t4 t5 t6 x7 t8 t9 x10 x12 t13 t14 x15 x16 x17 y)))) (N2 R s0 x2 x3 t4 t5 t6 x7 t8 t9 x10 x12 t13 t14 x15 x16 x17 σ))) (Br (x10 = 16) (Spec prog 302 #[(.int .u8 ((UInt8.toNat aj : Nat) : Int))] σ (AA R (CI .u8 fun AAl y => Br (97 ≤ AAl) (Spec prog 302 #[(.int .u8 ((UInt8.toNat aj : Nat) : Int))] y (AA R (CI .u8 fun AAm AF => Br (AAm ≤ 102) (AJ (x15 + 1) ∧ Br (x16 < x11) (Df (IntKind.u64.wrap (x2 * 16)) fun AAn => Spec prog 302 #[(.int .u8 ((UInt8.toNat aj : Nat) : Int))] AF (AA R (CI .u8 fun AAo AH => Df (IntKind.u8.wrap (AAo - 97)) fun AAp => Df (IntKind.u8.wrap (AAp + 10)) fun AAq => Df (IntKind.u64.wrap AAq) fun AAr => Df (IntKind.u64.wrap (AAn + AAr)) fun AAs => AJ (x16 + 1) ∧ F3 R s0 AAs x3 t4 t5 t6 x7 t8 t9 x10 x11 x12 t13 true (x15 + 1) (x16 + 1) x17 AH))) (F3 R s0 x2 x3 t4 true t6 x7 t8 t9 x10 x11 x12 t13 true (x15 + 1) x16 x17 AF)) (N2 R s0 x2 x3 t4 t5 t6 x7 t8 t9 x10 x12 t13 t14 x15 x16 x17 AF)))) (N2 R s0 x2 x3 t4 t5 t6 x7 t8 t9 x10 x12 t13 t14 x15 x16 x17 y)))) (N2 R s0 x2 x3 t4 t5 t6 x7 t8 t9 x10 x12 t13 t14 x15 x16 x17 σ))))) (N2 R s0 x2 x3 t4 t5 t6 x7 t8 t9 x10 x12 t13 t14 x15 x16 x17 σ)) : nh R s0 x2 x3 t4 t5 t6 x7 t8 t9 x10 x11 x12 t13 t14 x15 x16 x17 σ := M.of h ok rfl
theorem nr (h : Bn t14 (R (.returned (.tuple #[.int .u64 x2,.int .i64 x3,.bool t4,.bool t5,.bool t6,.int .i64 x7,.bool t8])) σ) (Bn t13 (fk R s0 x2 x3 t4 t5 t6 x7 t8 t9 x10 x12 x16 x15 σ) (fk R s0 x2 x3 t4 t5 t6 x7 t8 t9 x10 x12 x16 x17 σ))) : N2 R s0 x2 x3 t4 t5 t6 x7 t8 t9 x10 x12 t13 t14 x15 x16 x17 σ := M.of h ok rfl
theorem nu (h : Br (x10 = 16) (AJ (x17 * 4) ∧ AJ (x16 * 4) ∧ ni R s0 x2 x3 t4 t5 t6 x7 t8 t9 x10 x12 (x16 * 4) (x17 * 4) σ) (ni R s0 x2 x3 t4 t5 t6 x7 t8 t9 x10 x12 x16 x17 σ)) : fk R s0 x2 x3 t4 t5 t6 x7 t8 t9 x10 x12 x16 x17 σ := M.of h ok rfl
theorem nw (h : Br (x7 < ((ByteArray.size s0 : Nat) : Int)) (∃ AGL : UInt8,0 ≤ x7 ∧ (ByteArray.data s0)[Int.toNat x7]? = some AGL ∧ Spec prog 302 #[(.int .u8 ((UInt8.toNat AGL : Nat) : Int))] σ (AA R (CI .u8 fun AMt y => Br (AMt = x12) (AJ (x7 + 1) ∧ Br ((((ByteArray.size s0 : Nat) : Int) : Int) ≤ (x7 + 1)) (R (.returned (.tuple #[.int .u64 x2,.int .i64 x3,.bool t4,.bool t5,.bool t6,(.int .i64 (x7 + 1)),.bool t8])) y) (∃ AAt : UInt8,(0 : Int) ≤ (x7 + 1) ∧ (ByteArray.data s0)[Int.toNat (x7 + 1)]? = some AAt ∧ Br ((((UInt8.toNat AAt : Nat) : Int) : Int) = 43) (AJ ((x7 + 1) + 1) ∧ nq R s0 x2 x3 t4 t5 t6 (((x7 + 1) + 1)) t8 t9 x16 x17 1 y) (Br ((((UInt8.toNat AAt : Nat) : Int) : Int) = 45) (AJ ((x7 + 1) + 1) ∧ nq R s0 x2 x3 t4 t5 t6 (((x7 + 1) + 1)) t8 t9 x16 x17 (-1) y) (nq R s0 x2 x3 t4 t5 t6 (x7 + 1) t8 t9 x16 x17 1 y)))) (Br (x10 = 16) (R (.returned (.tuple #[.int .u64 x2,.int .i64 x3,.bool t4,.bool t5,.bool t6,.int .i64 x7,.bool t8])) y) (nj R s0 x2 x3 t4 t5 t6 x7 t8 t9 x16 x17 y))))) (Br (x10 = 16) (R (.returned (.tuple #[.int .u64 x2,.int .i64 x3,.bool t4,.bool t5,.bool t6,.int .i64 x7,.bool t8])) σ) (nj R s0 x2 x3 t4 t5 t6 x7 t8 t9 x16 x17 σ))) : ni R s0 x2 x3 t4 t5 t6 x7 t8 t9 x10 x12 x16 x17 σ := M.of h ok rfl
theorem nz (h : Br (x2 ≠ 0) (AJ (x17 - x16) ∧ nk R s0 x2 (x17 - x16) t4 t5 t6 x7 t8 t9 σ) (nk R s0 x2 x3 t4 t5 t6 x7 t8 t9 σ)) : nj R s0 x2 x3 t4 t5 t6 x7 t8 t9 x16 x17 σ := M.of h ok rfl
theorem ZG (h : Bo t9 (∃ AGM,YF prog (Instr.sliceAt 9 (.string s0) none (some (.int .i64 x7)) none) σ (.string AGM) ∧ Spec prog 303 #[.string AGM] σ (AA R (CB fun t250 y => Bn t250 (R (.returned (.tuple #[.int .u64 x2,.int .i64 x3,.bool t4,.bool t5,.bool t6,.int .i64 x7,.bool t8])) y) (R (.returned (.tuple #[.int .u64 x2,.int .i64 x3,.bool t4,.bool t5,.bool t6,.int .i64 x7,.bool true])) y)))) (R (.returned (.tuple #[.int .u64 x2,.int .i64 x3,.bool t4,.bool t5,.bool t6,.int .i64 x7,.bool true])) σ)) : nk R s0 x2 x3 t4 t5 t6 x7 t8 t9 σ := M.of h ok rfl
theorem oA (h : AJ (x7 + 1) ∧ nh R s0 x2 x3 t4 t5 t6 (x7 + 1) t8 t9 x10 x11 x12 t13 t14 x15 x16 x17 σ) : F3 R s0 x2 x3 t4 t5 t6 x7 t8 t9 x10 x11 x12 t13 t14 x15 x16 x17 σ := M.of h ok rfl
end AE
namespace HD
variable {s0 : ByteArray} {t4 : Bool}
def M : Fw := ⟨prog,295,f295,[133,267,268],[],false,[],[],[(53,[(0,wT),(4,wB)])]⟩
theorem ok : M.Ok := ⟨.cons call133 (.cons call267 (.cons call268 (AG.nil))),mixed,func295,by kernel_rfl⟩
def Qe := M.pt 0
theorem start (h : Bo ((ByteArray.toList s0 == ByteArray.toList (ByteArray.mk #[111,114]))) (Qe R s0 true σ) (Bo ((ByteArray.toList s0 == ByteArray.toList (ByteArray.mk #[97,110,100]))) (Qe R s0 true σ) (Bo ((ByteArray.toList s0 == ByteArray.toList (ByteArray.mk #[117,110,108,101,115,115]))) (Qe R s0 true σ) (Bo ((ByteArray.toList s0 == ByteArray.toList (ByteArray.mk #[98,111,111,108]))) (Qe R s0 true σ) (Bo ((ByteArray.toList s0 == ByteArray.toList (ByteArray.mk #[111,110]))) (Qe R s0 true σ) (Bo ((ByteArray.toList s0 == ByteArray.toList (ByteArray.mk #[105,103,110,111,114,105,110,103]))) (Qe R s0 true σ) (Bo ((ByteArray.toList s0 == ByteArray.toList (ByteArray.mk #[98,121]))) (Qe R s0 true σ) (Bo ((ByteArray.toList s0 == ByteArray.toList (ByteArray.mk #[119,105,116,104,111,117,116]))) (Qe R s0 true σ) (Qe R s0 ((ByteArray.toList s0 == ByteArray.toList (ByteArray.mk #[111,102,102,115,101,116]))) σ))))))))) : Spec prog 295 #[.string s0] σ R := M.start h ok
theorem tz (h : Bo t4 (R (.returned (.bool true)) σ) (Spec prog 267 #[] σ (AA R (CS fun Jj n14 Hd y => Spec prog 133 #[.slice Jj n14 Hd,.string s0] y (AA R (CI .i64 fun x16 AF => Br (0 < x16) (R (.returned (.bool true)) AF) (Spec prog 268 #[] AF (AA R (CS fun p19 n19 c19 AH => Spec prog 133 #[.slice p19 n19 c19,.string s0] AH (AA R (CI .i64 fun cS Ac => R (.returned (.bool (decide (0 < cS)))) Ac))))))))))) : Qe R s0 t4 σ := M.of h ok rfl
end HD
namespace IT
variable {q0 q1 : Option Addr} {tg x3a x3b x3d : Int} {s2b s2c s3c : ByteArray}
def M : Fw := ⟨prog,296,f296,[80,97],[6,7],false,[(1,10,false)],[],[]⟩
theorem ok : M.Ok := ⟨.cons call80 (.cons call97 (AG.nil)),mixed,func296,by kernel_rfl⟩
theorem start (h : ∀ b6 : Nat,∀ b7 : Nat,Pq q1 fun Cm iq => LS σ Cm (iq + 3) fun cX n12 ah => Al σ fun BY => AK prog (Builtin.append_ #[33,33] 33 #[.slice cX n12 ah,(.slice (aD BY 0) 1 1)]) (Hp.set σ BY (.cells #[.int .i64 tg,.string s2b,.string s2c] 77 (0,0))) (CS fun aZ n15 WH y => AK prog (Instr.storeAt 33 (.pointer (aD Cm (iq + 3))) (.slice aZ n15 WH)) y (fun _ AF => LS AF Cm (iq + 3) fun Nj n21 MU => Spec prog 80 #[.slice Nj n21 MU] AF (AA R (CI .i64 fun Is AH => Br (Is ≠ 0) (Spec prog 97 #[.pointer q0,.int .i64 183,.agg #[.int .i64 x3a,.int .i64 x3b,.string s3c,.int .i64 x3d]] AH (AA R (fun z Ac => z = (.tuple #[]) ∧ R (.returned (.tuple #[])) Ac))) (R (.returned (.tuple #[])) AH)))))) : Spec prog 296 #[.pointer q0,.pointer q1,.agg #[.int .i64 tg,.string s2b,.string s2c],.agg #[.int .i64 x3a,.int .i64 x3b,.string s3c,.int .i64 x3d]] σ R := M.start h ok
end IT
end TwW
end
end
section
set_option maxRecDepth 100000
noncomputable section
namespace TwW
open Go Tw Go.Proofs.Tryz
variable [FB] {R : Rr} {σ : Hp}

namespace VO
variable {x0 : Int}
def M : Fw := ⟨prog,29,f29,[],[],false,[],[],[]⟩
theorem ok : M.Ok := ⟨AG.nil,mixed,func29,by kernel_rfl⟩
theorem start (h : Br (((-1099511627776) : Int) ≤ x0) (R (.returned (.bool (decide (x0 ≤ 1099511627776)))) σ) (R (.returned (.bool false)) σ)) : Spec prog 29 #[.int .i64 x0] σ R := M.start h ok
end VO
namespace Cg
variable {p0 p1 : Option Addr} {n0 c0 n1 c1 : Nat} {x5 : Int}
def M : Fw := ⟨prog,36,f36,[],[],false,[(6,9,true)],[],[(464,[(0,wL),(1,wL),(5,wI)])]⟩
theorem ok : M.Ok := ⟨AG.nil,mixed,func36,by kernel_rfl⟩
def A0 := M.pt 0
theorem start (h : Br ((n0 : Int) ≠ (n1 : Int)) (R (.returned (.bool false)) σ) (A0 R p0 n0 c0 p1 n1 c1 0 σ)) : Spec prog 36 #[.slice p0 n0 c0,.slice p1 n1 c1] σ R := M.start h ok
theorem BC (h : Br (x5 < (n0 : Int)) (Pq p0 fun Cc XJ => In x5 (n0 : Int) ∧ ∃ IN WO,Ay σ Cc (XJ + Int.toNat x5 * 2) [.int .i64 IN,.int .u64 WO] ∧ Pq p1 fun OX fO => In x5 (n1 : Int) ∧ ∃ ix Wg,Ay σ OX (fO + Int.toNat x5 * 2) [.int .i64 ix,.int .u64 Wg] ∧ ∃ t25,YF prog ((do eqGuard .neq 50 (.tmp 20) (.tmp 24) (.agg #[.int .i64 IN,.int .u64 WO]) (.agg #[.int .i64 ix,.int .u64 Wg]); binOp .neq 50 (.agg #[.int .i64 IN,.int .u64 WO]) (.agg #[.int .i64 ix,.int .u64 Wg]))) σ (.bool t25) ∧ Bo t25 (R (.returned (.bool false)) σ) (AJ (x5 + 1) ∧ A0 R (aD Cc XJ) n0 c0 (aD OX fO) n1 c1 (x5 + 1) σ)) (R (.returned (.bool true)) σ)) : A0 R p0 n0 c0 p1 n1 c1 x5 σ := M.of h ok rfl
end Cg
namespace BX
variable {p0 p1 p5 : Option Addr} {n0 c0 n1 c1 n5 c5 : Nat} {x6 x7 x8 : Int}
def M : Fw := ⟨prog,40,f40,[57,58,59],[],false,[],[],[(480,[(0,wL),(1,wL),(5,wL),(6,wI),(7,wI)]),(7724,[(0,wL),(1,wL),(5,wL),(6,wI),(7,wI),(8,wI)])]⟩
theorem ok : M.Ok := ⟨.cons call57 (.cons call58 (.cons call59 (AG.nil))),mixed,func40,by kernel_rfl⟩
def Bh := M.pt 0
def DV := M.pt 1
theorem start (h : Bh R p0 n0 c0 p1 n1 c1 none 0 0 0 0 σ) : Spec prog 40 #[.slice p0 n0 c0,.slice p1 n1 c1] σ R := M.start h ok
theorem A3 (h : Br (x6 < (n0 : Int)) (Br (x7 = (n1 : Int)) (DV R p0 n0 c0 p1 n1 c1 p5 n5 c5 x6 x7 (-1) σ) (Br (x6 = (n0 : Int)) (DV R p0 n0 c0 p1 n1 c1 p5 n5 c5 x6 x7 1 σ) (Pq p0 fun b21 o21 => In x6 (n0 : Int) ∧ LS σ b21 (o21 + Int.toNat x6 * 2) fun cA n23 cB => Pq p1 fun RB S5 => In x7 (n1 : Int) ∧ LS σ RB (S5 + Int.toNat x7 * 2) fun p28 n28 zp => Spec prog 57 #[.slice cA n23 cB,.slice p28 n28 zp] σ (AA R (CI .i64 fun x29 y => DV R (aD b21 o21) n0 c0 (aD RB S5) n1 c1 p5 n5 c5 x6 x7 x29 y))))) (Br (x7 < (n1 : Int)) (Br (x7 = (n1 : Int)) (DV R p0 n0 c0 p1 n1 c1 p5 n5 c5 x6 x7 (-1) σ) (Br (x6 = (n0 : Int)) (DV R p0 n0 c0 p1 n1 c1 p5 n5 c5 x6 x7 1 σ) (Pq p0 fun b21 o21 => In x6 (n0 : Int) ∧ LS σ b21 (o21 + Int.toNat x6 * 2) fun cA n23 cB => Pq p1 fun RB S5 => In x7 (n1 : Int) ∧ LS σ RB (S5 + Int.toNat x7 * 2) fun p28 n28 zp => Spec prog 57 #[.slice cA n23 cB,.slice p28 n28 zp] σ (AA R (CI .i64 fun x29 y => DV R (aD b21 o21) n0 c0 (aD RB S5) n1 c1 p5 n5 c5 x6 x7 x29 y))))) (R (.returned (.slice p5 n5 c5)) σ))) : Bh R p0 n0 c0 p1 n1 c1 p5 n5 c5 x6 x7 σ := M.of h ok rfl
theorem Ff (h : Br (x8 < 0) (Pq p0 fun b72 o72 => In x6 (n0 : Int) ∧ ∃ AGO AGP AGQ AGR AGS AGT,Ay σ b72 (o72 + Int.toNat x6 * 2) [.slice AGO AGP AGQ,.slice AGR AGS AGT] ∧ Spec prog 58 #[.agg #[.slice AGO AGP AGQ,.slice AGR AGS AGT]] σ (AA R (fun z y => ∃ oB oC oD oE oF oG,z = (.agg #[.slice oB oC oD,.slice oE oF oG]) ∧ Al y fun b75 => AK prog (Builtin.append_ #[23,23] 23 #[.slice p5 n5 c5,(.slice (aD b75 0) 1 1)]) (Hp.set y b75 (.cells #[.slice oB oC oD,.slice oE oF oG] 40 (0,0))) (CS fun lZ lf lg AF => AJ (x6 + 1) ∧ Bh R (aD b72 o72) n0 c0 p1 n1 c1 lZ lf lg (x6 + 1) x7 AF)))) (Br (0 < x8) (Pq p1 fun b85 o85 => In x7 (n1 : Int) ∧ ∃ AGU AGV AGW AGX AGY AGZ,Ay σ b85 (o85 + Int.toNat x7 * 2) [.slice AGU AGV AGW,.slice AGX AGY AGZ] ∧ Spec prog 58 #[.agg #[.slice AGU AGV AGW,.slice AGX AGY AGZ]] σ (AA R (fun z y => ∃ AGa AGb AGc AGd AGe AGf,z = (.agg #[.slice AGa AGb AGc,.slice AGd AGe AGf]) ∧ Al y fun b88 => AK prog (Builtin.append_ #[23,23] 23 #[.slice p5 n5 c5,(.slice (aD b88 0) 1 1)]) (Hp.set y b88 (.cells #[.slice AGa AGb AGc,.slice AGd AGe AGf] 40 (0,0))) (CS fun p89 n89 c89 AF => AJ (x7 + 1) ∧ Bh R p0 n0 c0 (aD b85 o85) n1 c1 p89 n89 c89 x6 (x7 + 1) AF)))) (Pq p0 fun b44 o44 => In x6 (n0 : Int) ∧ LS σ b44 (o44 + Int.toNat x6 * 2) fun ri n46 nZ => In x6 (n0 : Int) ∧ LS σ b44 ((o44 + Int.toNat x6 * 2) + 1) fun p52 n52 c52 => Pq p1 fun b55 o55 => In x7 (n1 : Int) ∧ LS σ b55 ((o55 + Int.toNat x7 * 2) + 1) fun tW n57 tX => Al σ fun b41 => AK prog (Builtin.append_ #[37,37] 37 #[(.slice (aD b41 0) 0 0),.slice ri n46 nZ]) (Hp.set σ b41 (.cells #[] 56 (0,0))) (CS fun xC n47 te y => Kp [b55,b44] (Hp.set σ b41 (.cells #[] 56 (0,0))) y ∧ Spec prog 59 #[.slice p52 n52 c52,.slice tW n57 tX] y (AA R (CS fun rK kA vw AF => Al AF fun uA => AK prog (Builtin.append_ #[23,23] 23 #[.slice p5 n5 c5,(.slice (aD uA 0) 1 1)]) (Hp.set AF uA (.cells #[.slice xC n47 te,.slice rK kA vw] 40 (0,0))) (CS fun p61 n61 c61 AH => AJ (x6 + 1) ∧ AJ (x7 + 1) ∧ Bh R (aD b44 o44) n0 c0 (aD b55 o55) n1 c1 p61 n61 c61 (x6 + 1) (x7 + 1) AH))))))) : DV R p0 n0 c0 p1 n1 c1 p5 n5 c5 x6 x7 x8 σ := M.of h ok rfl
end BX
namespace Dg
variable {p0 p1 : Option Addr} {n0 c0 n1 c1 : Nat} {x5 : Int}
def M : Fw := ⟨prog,57,f57,[89],[],false,[],[],[(208,[(0,wL),(1,wL),(5,wI)])]⟩
theorem ok : M.Ok := ⟨.cons call89 (AG.nil),mixed,func57,by kernel_rfl⟩
def ES := M.pt 0
theorem start (h : ES R p0 n0 c0 p1 n1 c1 0 σ) : Spec prog 57 #[.slice p0 n0 c0,.slice p1 n1 c1] σ R := M.start h ok
theorem Af (h : Br (x5 < (n0 : Int)) (Br (x5 < (n1 : Int)) (Pq p0 fun b22 o22 => In x5 (n0 : Int) ∧ LT σ b22 (o22 + Int.toNat x5 * 2) fun s24 => Pq p1 fun O4 WE => In x5 (n1 : Int) ∧ LT σ O4 (WE + Int.toNat x5 * 2) fun s29 => Spec prog 89 #[.string s24,.string s29] σ (AA R (CI .i64 fun SF y => Br (SF ≠ 0) (R (.returned (.int .i64 SF)) y) (In x5 (n0 : Int) ∧ LT y b22 ((o22 + Int.toNat x5 * 2) + 1) fun s38 => In x5 (n1 : Int) ∧ LT y O4 ((WE + Int.toNat x5 * 2) + 1) fun s43 => Spec prog 89 #[.string s38,.string s43] y (AA R (CI .i64 fun nY AF => Br (nY ≠ 0) (R (.returned (.int .i64 nY)) AF) (AJ (x5 + 1) ∧ ES R (aD b22 o22) n0 c0 (aD O4 WE) n1 c1 (x5 + 1) AF))))))) (Br ((n0 : Int) < (n1 : Int)) (R (.returned (.int .i64 (-1))) σ) (Br ((n1 : Int) < (n0 : Int)) (R (.returned (.int .i64 1)) σ) (R (.returned (.int .i64 0)) σ)))) (Br ((n0 : Int) < (n1 : Int)) (R (.returned (.int .i64 (-1))) σ) (Br ((n1 : Int) < (n0 : Int)) (R (.returned (.int .i64 1)) σ) (R (.returned (.int .i64 0)) σ)))) : ES R p0 n0 c0 p1 n1 c1 x5 σ := M.of h ok rfl
end Dg
namespace CM
variable {v0 : Value} {b1 b2 b3 : Nat} {x5 : Int}
def M : Fw := ⟨prog,71,f71,[],[100000],false,[],[],[(48,[(0,wV),(2,wA),(3,wA),(5,wI)])]⟩
theorem ok : M.Ok := ⟨AG.nil,mixed,func71,by kernel_rfl⟩
def cW := M.pt 0
theorem start (h : LI .i64 σ b1 0 fun x6 => cW R v0 b2 b3 x6 σ) : Spec prog 71 #[v0,(.pointer (aD b1 0)),(.pointer (aD b2 0)),(.pointer (aD b3 0))] σ R := M.EE h ok [(0,.o (.V v0)),(1,.o (.A b1)),(2,.o (.A b2)),(3,.o (.A b3))] rfl rfl (by kernel_rfl)
theorem PA (h : ∃ l9 : Nat,v0 = .func (.yield l9) #[] #[] ∧ ID prog l9 #[.int .i64 x5] σ (AA R (CB fun t9 y => Bo t9 (LI .i64 y b2 0 fun x11 => LI .i64 y b3 0 fun x12 => AJ (x12 - x5) ∧ Br (x11 ≤ (x12 - x5)) (LI .i64 y b2 0 fun SD => AJ (x5 + SD) ∧ cW R v0 b2 b3 (x5 + SD) y) (R (.returned (.tuple #[])) y)) (R (.returned (.tuple #[])) y)))) : cW R v0 b2 b3 x5 σ := M.of h ok rfl
end CM
namespace E1
variable {p0 p3 Q8 : Option Addr} {n0 c0 n3 c3 n10 Nq : Nat} {x11 x12 : Int}
def M : Fw := ⟨prog,72,f72,[107,108],[5],false,[],[],[(232,[(3,wL),(10,wL),(11,wI),(12,wI)])]⟩
theorem ok : M.Ok := ⟨.cons call107 (.cons call108 (AG.nil)),mixed,func72,by kernel_rfl⟩
def BA := M.pt 0
theorem start (h : Df (IntKind.u64.wrap (n0 : Int)) fun x8 => Spec prog 107 #[.slice none 0 0,.int .u64 x8] σ (AA R (CS fun p9 n9 c9 y => BA R p9 n9 c9 p0 n0 c0 (n0 : Int) 0 y))) : Spec prog 72 #[.slice p0 n0 c0] σ R := M.start h ok
theorem AZ (h : Br (x12 < x11) (Pq Q8 fun BY Q3 => In x12 (n10 : Int) ∧ ∃ AGg AGh,Ay σ BY (Q3 + Int.toNat x12 * 2) [.string AGg,.string AGh] ∧ ∀ b5 : Nat,Spec prog 108 #[.slice p3 n3 c3,.string AGg] σ (AA R (CS fun p19 n19 c19 y => Spec prog 108 #[.slice p19 n19 c19,.string AGh] y (AA R (CS fun U9 n22 UK AF => AJ (x12 + 1) ∧ BA R U9 n22 UK (aD BY Q3) n10 Nq x11 (x12 + 1) AF))))) (R (.returned (.slice p3 n3 c3)) σ)) : BA R p3 n3 c3 Q8 n10 Nq x11 x12 σ := M.of h ok rfl
end E1
namespace HE
variable {p0 p6 : Option Addr} {n0 c0 n6 c6 : Nat} {x3 x7 x8 : Int}
def M : Fw := ⟨prog,77,f77,[],[],false,[],[],[(232,[(3,wI),(6,wL),(7,wI),(8,wI)])]⟩
theorem ok : M.Ok := ⟨AG.nil,mixed,func77,by kernel_rfl⟩
def BA := M.pt 0
theorem start (h : BA R 0 p0 n0 c0 (n0 : Int) 0 σ) : Spec prog 77 #[.slice p0 n0 c0] σ R := M.start h ok
theorem AZ (h : Br (x8 < x7) (Pq p6 fun Cm iq => In x8 (n6 : Int) ∧ LI .i64 σ Cm (iq + Int.toNat x8 * 1) fun x11 => Br (x11 ≠ x3) (R (.returned (.int .i64 x11)) σ) (AJ (x8 + 1) ∧ BA R x3 (aD Cm iq) n6 c6 x7 (x8 + 1) σ)) (R (.returned (.int .i64 x3)) σ)) : BA R x3 p6 n6 c6 x7 x8 σ := M.of h ok rfl
end HE
namespace E2
variable {q0 Dt D3 p2 : Option Addr} {Dm CZ Dn Du DJ Cf : Int} {Dp : ByteArray} {Dx Dy Dz D4 n2 c2 : Nat} {DK : Bool}
def M : Fw := ⟨prog,85,f85,[],[4],false,[],[],[]⟩
theorem ok : M.Ok := ⟨AG.nil,mixed,func85,by kernel_rfl⟩
theorem start (h : ∀ b4 : Nat,Pq p2 fun b9 o9 => In 0 (n2 : Int) ∧ LI .i64 σ b9 o9 fun x11 => Br (x11 = 3) (R (.returned (.tuple #[.int .i64 0,.int .i64 191])) σ) (In 0 (n2 : Int) ∧ LI .i64 σ b9 o9 fun x16 => R (.returned (.tuple #[.int .i64 x16,.int .i64 0])) σ)) : Spec prog 85 #[.pointer q0,.agg #[.int .i64 Dm,.int .i64 CZ,.string Dp,.slice Dt Dx Dy,.int .i64 Dn,.int .i64 Du,.int .i64 DJ,.slice D3 Dz D4,.bool DK,.int .i64 Cf],.slice p2 n2 c2] σ R := M.start h ok
end E2
namespace Gv
variable {s0 : ByteArray} {x3 : Int}
def M : Fw := ⟨prog,87,f87,[],[],false,[],[],[(464,[(0,wT),(3,wI)])]⟩
theorem ok : M.Ok := ⟨AG.nil,mixed,func87,by kernel_rfl⟩
def A0 := M.pt 0
theorem start (h : Br ((((ByteArray.size s0 : Nat) : Int) : Int) < 1) (R (.returned (.bool false)) σ) (Br ((64 : Int) < ((ByteArray.size s0 : Nat) : Int)) (R (.returned (.bool false)) σ) (∃ u15 : UInt8,(0 : Int) ≤ 0 ∧ (ByteArray.data s0)[Int.toNat 0]? = some u15 ∧ Br ((48 : Int) ≤ ((UInt8.toNat u15 : Nat) : Int)) (∃ u19 : UInt8,(0 : Int) ≤ 0 ∧ (ByteArray.data s0)[Int.toNat 0]? = some u19 ∧ Br ((((UInt8.toNat u19 : Nat) : Int) : Int) ≤ 57) (R (.returned (.bool false)) σ) (A0 R s0 0 σ)) (A0 R s0 0 σ)))) : Spec prog 87 #[.string s0] σ R := M.start h ok
theorem BC (h : Br (x3 < ((ByteArray.size s0 : Nat) : Int)) (∃ Md : UInt8,0 ≤ x3 ∧ (ByteArray.data s0)[Int.toNat x3]? = some Md ∧ Br ((65 : Int) ≤ ((UInt8.toNat Md : Nat) : Int)) (Br ((((UInt8.toNat Md : Nat) : Int) : Int) ≤ 90) (AJ (x3 + 1) ∧ A0 R s0 (x3 + 1) σ) (Br ((97 : Int) ≤ ((UInt8.toNat Md : Nat) : Int)) (Br ((((UInt8.toNat Md : Nat) : Int) : Int) ≤ 122) (AJ (x3 + 1) ∧ A0 R s0 (x3 + 1) σ) (Br ((48 : Int) ≤ ((UInt8.toNat Md : Nat) : Int)) (Br ((((UInt8.toNat Md : Nat) : Int) : Int) ≤ 57) (AJ (x3 + 1) ∧ A0 R s0 (x3 + 1) σ) (Bm ((((UInt8.toNat Md : Nat) : Int) : Int) = 95) (R (.returned (.bool false)) σ) (AJ (x3 + 1) ∧ A0 R s0 (x3 + 1) σ))) (Bm ((((UInt8.toNat Md : Nat) : Int) : Int) = 95) (R (.returned (.bool false)) σ) (AJ (x3 + 1) ∧ A0 R s0 (x3 + 1) σ)))) (Br ((48 : Int) ≤ ((UInt8.toNat Md : Nat) : Int)) (Br ((((UInt8.toNat Md : Nat) : Int) : Int) ≤ 57) (AJ (x3 + 1) ∧ A0 R s0 (x3 + 1) σ) (Bm ((((UInt8.toNat Md : Nat) : Int) : Int) = 95) (R (.returned (.bool false)) σ) (AJ (x3 + 1) ∧ A0 R s0 (x3 + 1) σ))) (Bm ((((UInt8.toNat Md : Nat) : Int) : Int) = 95) (R (.returned (.bool false)) σ) (AJ (x3 + 1) ∧ A0 R s0 (x3 + 1) σ))))) (Br ((97 : Int) ≤ ((UInt8.toNat Md : Nat) : Int)) (Br ((((UInt8.toNat Md : Nat) : Int) : Int) ≤ 122) (AJ (x3 + 1) ∧ A0 R s0 (x3 + 1) σ) (Br ((48 : Int) ≤ ((UInt8.toNat Md : Nat) : Int)) (Br ((((UInt8.toNat Md : Nat) : Int) : Int) ≤ 57) (AJ (x3 + 1) ∧ A0 R s0 (x3 + 1) σ) (Bm ((((UInt8.toNat Md : Nat) : Int) : Int) = 95) (R (.returned (.bool false)) σ) (AJ (x3 + 1) ∧ A0 R s0 (x3 + 1) σ))) (Bm ((((UInt8.toNat Md : Nat) : Int) : Int) = 95) (R (.returned (.bool false)) σ) (AJ (x3 + 1) ∧ A0 R s0 (x3 + 1) σ)))) (Br ((48 : Int) ≤ ((UInt8.toNat Md : Nat) : Int)) (Br ((((UInt8.toNat Md : Nat) : Int) : Int) ≤ 57) (AJ (x3 + 1) ∧ A0 R s0 (x3 + 1) σ) (Bm ((((UInt8.toNat Md : Nat) : Int) : Int) = 95) (R (.returned (.bool false)) σ) (AJ (x3 + 1) ∧ A0 R s0 (x3 + 1) σ))) (Bm ((((UInt8.toNat Md : Nat) : Int) : Int) = 95) (R (.returned (.bool false)) σ) (AJ (x3 + 1) ∧ A0 R s0 (x3 + 1) σ))))) (R (.returned (.bool true)) σ)) : A0 R s0 x3 σ := M.of h ok rfl
end Gv
namespace TG
variable {s0 : ByteArray}
def M : Fw := ⟨prog,94,f94,[131,132],[],false,[],[],[]⟩
theorem ok : M.Ok := ⟨.cons call131 (.cons call132 (AG.nil)),mixed,func94,by kernel_rfl⟩
theorem start (h : Spec prog 131 #[.string s0] σ (AA R (CI .i64 fun x6 y => Br (x6 = 0) (R (.returned (.bool false)) y) (∃ zw,YF prog (Instr.sliceAt 9 (.string s0) none (some (.int .i64 x6)) none) y (.string zw) ∧ Spec prog 132 #[.string zw] y (AA R (CB fun t13 AF => Bo t13 (R (.returned (.bool false)) AF) (Br (x6 = ((ByteArray.size s0 : Nat) : Int)) (R (.returned (.bool (decide (x6 ≤ 15)))) AF) (AJ (x6 + 1) ∧ ∃ s24,YF prog (Instr.sliceAt 9 (.string s0) (some (.int .i64 (x6 + 1))) none none) AF (.string s24) ∧ Spec prog 131 #[.string s24] AF (AA R (CI .i64 fun P1 AH => ∃ u28 : UInt8,0 ≤ x6 ∧ (ByteArray.data s0)[Int.toNat x6]? = some u28 ∧ Br ((((UInt8.toNat u28 : Nat) : Int) : Int) = 46) (Br (0 < P1) (AJ (x6 + 1) ∧ AJ ((x6 + 1) + P1) ∧ Br ((((x6 + 1) + P1) : Int) = ((ByteArray.size s0 : Nat) : Int)) (AJ (x6 + P1) ∧ R (.returned (.bool (decide (((x6 + P1) : Int) ≤ 15)))) AH) (R (.returned (.bool false)) AH)) (R (.returned (.bool false)) AH)) (R (.returned (.bool false)) AH))))))))))) : Spec prog 94 #[.string s0] σ R := M.start h ok
end TG
namespace AO
variable {q0 Dt D3 p2 Gq H3 HT GN p9 U9 aZ p79 Yx cX q13 : Option Addr} {Dm CZ Dn Du DJ Cf GJ Fp H4 GZ H5 Iu GL GM EJ IL x80 x81 Qb : Int} {Dp He : ByteArray} {Dx Dy Dz D4 n2 c2 Gr Gs H6 H7 HU HV GO GQ n9 c9 n22 UK n15 WH n79 c79 Yy Yz n12 ah : Nat} {DK Iv : Bool} {m8 : Option Nat} {rj : Value}
def M : Fw := ⟨prog,104,f104,[49,146,148,149,150],[4,6,11],false,[(17,11,false)],[],[(488,[(4,.X 36 [.I .i64,.I .i64,.T,.L,.I .i64,.I .i64,.I .i64,.L,.B,.I .i64]),(6,.X 93 [.I .i64,.I .u64,.L,.L]),(8,wM),(9,wL),(22,wL),(23,wI),(24,wI)]),(4072,[(6,.X 93 [.I .i64,.I .u64,.L,.L]),(14,wV),(15,wL),(79,wL),(80,wI),(81,wI)]),(62670,[(4,.X 36 [.I .i64,.I .i64,.T,.L,.I .i64,.I .i64,.I .i64,.L,.B,.I .i64]),(6,.X 93 [.I .i64,.I .u64,.L,.L]),(8,wM),(9,wL),(11,.X 71 [.L,.I .u64]),(12,wL),(22,wL),(23,wI),(24,wI)]),(125343,[(4,.X 36 [.I .i64,.I .i64,.T,.L,.I .i64,.I .i64,.I .i64,.L,.B,.I .i64]),(6,.X 93 [.I .i64,.I .u64,.L,.L]),(8,wM),(9,wL),(11,.X 71 [.L,.I .u64]),(13,wQ),(22,wL),(23,wI),(24,wI)])]⟩
theorem ok : M.Ok := ⟨.cons call49 (.cons call146 (.cons call148 (.cons call149 (.cons call150 (AG.nil))))),mixed,func104,by kernel_rfl⟩
def FI := M.pt 0
def uB := M.pt 1
def J6 := M.pt 2
def oH := M.pt 3
theorem start (h : ∀ b4 : Nat,∀ b6 : Nat,AK prog (Instr.makeMap 197 none) σ (fun z y => ∃ m18,z = (.map (some m18)) ∧ Pq p2 fun Ym o20 => In 0 (n2 : Int) ∧ LS y Ym (o20 + 2) fun U9 n22 UK => FI R Dm CZ Dp Dt Dx Dy Dn Du DJ D3 Dz D4 DK Cf 0 0 none 0 0 none 0 0 (some m18) none 0 0 U9 n22 UK (n22 : Int) 0 y)) : Spec prog 104 #[.pointer q0,.agg #[.int .i64 Dm,.int .i64 CZ,.string Dp,.slice Dt Dx Dy,.int .i64 Dn,.int .i64 Du,.int .i64 DJ,.slice D3 Dz D4,.bool DK,.int .i64 Cf],.slice p2 n2 c2] σ R := M.start h ok
theorem Fg (h : Br (IL < EJ) (Pq U9 fun RB S5 => In IL (n22 : Int) ∧ ∃ M7 MW M8 Ya,Ay σ RB (S5 + Int.toNat IL * 2) [.slice M7 MW M8,.int .u64 Ya] ∧ ∀ BG : Nat,Br (H5 = 1) (Spec prog 149 #[.slice M7 MW M8,.slice H3 H6 H7] σ (AA R (CS fun p36 n36 c36 y => J6 R GJ Fp He Gq Gr Gs H4 GZ H5 H3 H6 H7 Iv Iu GL GM HT HU HV GN GO GQ m8 p9 n9 c9 M7 MW M8 Ya p36 n36 c36 (aD RB S5) n22 UK EJ IL y))) (Br (H5 = 2) (Spec prog 150 #[.slice M7 MW M8,.slice H3 H6 H7] σ (AA R (CS fun kG n43 kH y => Spec prog 146 #[.slice kG n43 kH] y (AA R (CS fun tL n44 wx AF => J6 R GJ Fp He Gq Gr Gs H4 GZ H5 H3 H6 H7 Iv Iu GL GM HT HU HV GN GO GQ m8 p9 n9 c9 M7 MW M8 Ya tL n44 wx (aD RB S5) n22 UK EJ IL AF))))) (J6 R GJ Fp He Gq Gr Gs H4 GZ H5 H3 H6 H7 Iv Iu GL GM HT HU HV GN GO GQ m8 p9 n9 c9 M7 MW M8 Ya none 0 0 (aD RB S5) n22 UK EJ IL σ))) (AK prog (Instr.makeMap 202 none) σ (fun z y => ∃ cE,z = (.map (some cE)) ∧ AK prog (Instr.mapUpdate 202 (.map (some cE)) (.int .i64 1) (.func (.func 151) #[] #[])) y (fun _ AF => AK prog (Instr.mapUpdate 202 (.map (some cE)) (.int .i64 2) (.func (.func 152) #[] #[])) AF (fun _ AH => AK prog (Instr.mapUpdate 202 (.map (some cE)) (.int .i64 3) (.func (.func 153) #[] #[])) AH (fun _ Ac => AK prog (Instr.mapUpdate 202 (.map (some cE)) (.int .i64 4) (.func (.func 154) #[] #[])) Ac (fun _ EF => AK prog (Instr.mapUpdate 202 (.map (some cE)) (.int .i64 5) (.func (.func 155) #[] #[])) EF (fun _ Fo => AK prog (Instr.lookup 202 (.map (some cE)) (.int .i64 Fp) false) Fo (fun z EG => ∃ v78,v78 = z ∧ uB R GL GM HT HU HV GN GO GQ v78 none 0 0 p9 n9 c9 (n9 : Int) 0 EG))))))))) : FI R GJ Fp He Gq Gr Gs H4 GZ H5 H3 H6 H7 Iv Iu GL GM HT HU HV GN GO GQ m8 p9 n9 c9 U9 n22 UK EJ IL σ := M.iK h ok rfl fun _ _ => by kernel_rfl
theorem fp (h : Br (x81 < x80) (Pq p79 fun b83 o83 => In x81 (n79 : Int) ∧ LQ σ b83 (o83 + Int.toNat x81 * 1) fun q84 => Pq q84 fun b87 o87 => LS σ b87 o87 fun p89 n89 c89 => LS σ b87 (o87 + 1) fun sk sn so => ∃ (f95 : Nat) (ZH ZI : Array Value),rj = .func (.func f95) ZH ZI ∧ Enters prog f95 ∧ Spec prog f95 (ZH ++ #[.slice sk sn so] ++ ZI) σ (AA R (CI .u64 fun x95 y => Kp [b87] σ y ∧ Al y fun b97 => AK prog (Builtin.append_ #[67,67] 67 #[.slice aZ n15 WH,(.slice (aD b97 0) 1 1)]) (Hp.set y b97 (.cells #[.slice p89 n89 c89,.int .u64 x95] 71 (0,0))) (CS fun p98 n98 c98 AF => AJ (x81 + 1) ∧ uB R GL GM HT HU HV GN GO GQ rj p98 n98 c98 (aD b83 o83) n79 c79 x80 (x81 + 1) AF)))) (Spec prog 148 #[.slice aZ n15 WH] σ (AA R (fun z y => ∃ oI oJ oK oL oM oN oO oP xn,z = (.tuple #[.agg #[.int .i64 oI,.int .u64 oJ,.slice oK oL oM,.slice oN oO oP],.int .i64 xn]) ∧ R (.returned (.tuple #[.agg #[.int .i64 oI,.int .u64 oJ,.slice oK oL oM,.slice oN oO oP],.int .i64 xn])) y)))) : uB R GL GM HT HU HV GN GO GQ rj aZ n15 WH p79 n79 c79 x80 x81 σ := M.j8 h ok rfl fun _ => by kernel_rfl
theorem Lw (h : Spec prog 49 #[.slice cX n12 ah] σ (AA R (CT fun s47 y => AK prog (Instr.lookup 197 (.map m8) (.string s47) false) y (CQ fun q48 AF => Bo (Option.isNone q48) (Al AF fun O7 => Spec prog 49 #[.slice cX n12 ah] (Hp.set AF O7 (.cells #[.slice cX n12 ah,.slice none 0 0] 189 (0,0))) (AA R (CT fun s56 AH => AK prog (Instr.mapUpdate 197 (.map m8) (.string s56) (.pointer (aD O7 0))) AH (fun _ Ac => Al Ac fun uA => AK prog (Builtin.append_ #[198,198] 198 #[.slice p9 n9 c9,(.slice (aD uA 0) 1 1)]) (Hp.set Ac uA (.cells #[(.pointer (aD O7 0))] 200 (0,0))) (CS fun p61 n61 c61 EF => oH R GJ Fp He Gq Gr Gs H4 GZ H5 H3 H6 H7 Iv Iu GL GM HT HU HV GN GO GQ m8 p61 n61 c61 Yx Yy Yz Qb (aD O7 0) U9 n22 UK EJ IL EF))))) (oH R GJ Fp He Gq Gr Gs H4 GZ H5 H3 H6 H7 Iv Iu GL GM HT HU HV GN GO GQ m8 p9 n9 c9 Yx Yy Yz Qb q48 U9 n22 UK EJ IL AF))))) : J6 R GJ Fp He Gq Gr Gs H4 GZ H5 H3 H6 H7 Iv Iu GL GM HT HU HV GN GO GQ m8 p9 n9 c9 Yx Yy Yz Qb cX n12 ah U9 n22 UK EJ IL σ := M.of3 h ok rfl fun _ _ _ => by kernel_rfl
theorem uC (h : Pq q13 fun b64 o64 => LS σ b64 (o64 + 1) fun rY l8 fU => Al σ fun b69 => AK prog (Builtin.append_ #[187,187] 187 #[.slice rY l8 fU,(.slice (aD b69 0) 1 1)]) (Hp.set σ b69 (.cells #[.int .u64 Qb] 48 (0,0))) (CS fun p70 n70 c70 y => AK prog (Instr.storeAt 187 (.pointer (aD b64 (o64 + 1))) (.slice p70 n70 c70)) y (fun _ AF => AJ (IL + 1) ∧ FI R GJ Fp He Gq Gr Gs H4 GZ H5 H3 H6 H7 Iv Iu GL GM HT HU HV GN GO GQ m8 p9 n9 c9 U9 n22 UK EJ (IL + 1) AF))) : oH R GJ Fp He Gq Gr Gs H4 GZ H5 H3 H6 H7 Iv Iu GL GM HT HU HV GN GO GQ m8 p9 n9 c9 Yx Yy Yz Qb q13 U9 n22 UK EJ IL σ := M.of3 h ok rfl fun _ _ _ => by kernel_rfl
end AO
namespace TH
variable {FD Ej QW Nl H0 Ji : Int} {QX : ByteArray} {VB R5 : Option Addr} {UX VC Q5 R6 : Nat} {M6 : Bool}
def M : Fw := ⟨prog,121,f121,[],[1,2],false,[(12,7,false),(15,7,false),(18,11,false),(21,15,false)],[],[]⟩
theorem ok : M.Ok := ⟨AG.nil,mixed,func121,by kernel_rfl⟩
theorem start (h : ∀ b1 : Nat,∀ b2 : Nat,Al σ fun b3 => AK prog (Instr.storeAt 36 (.pointer (aD b3 0)) (.agg #[.int .i64 FD,.int .i64 0,(.string (ByteArray.mk #[])),.slice none 0 0,.int .i64 0,.int .i64 0,.int .i64 0,.slice none 0 0,.bool false,.int .i64 0])) (Hp.set σ b3 (.cells #[.int .i64 0,.int .i64 0,(.string (ByteArray.mk #[])),.slice none 0 0,.int .i64 0,.int .i64 0,.int .i64 0,.slice none 0 0,.bool false,.int .i64 0] 36 (0,0))) (fun _ y => Br (FD = 1) (AK prog (Instr.storeAt 9 (.pointer (aD b3 2)) (.string QX)) y (fun _ AF => ∃ Yo cY cZ oQ oR oS oT oU oV oW oX oY oZ od,Ay AF b3 0 [.int .i64 Yo,.int .i64 cY,.string cZ,.slice oQ oR oS,.int .i64 oT,.int .i64 oU,.int .i64 oV,.slice oW oX oY,.bool oZ,.int .i64 od] ∧ R (.returned (.agg #[.int .i64 Yo,.int .i64 cY,.string cZ,.slice oQ oR oS,.int .i64 oT,.int .i64 oU,.int .i64 oV,.slice oW oX oY,.bool oZ,.int .i64 od])) AF)) (Br (FD = 2) (AK prog (Instr.storeAt 2 (.pointer (aD b3 5)) (.int .i64 Nl)) y (fun _ AF => ∃ ix Wg AGj AGk AGl AGm AGn AGo AGp AGq AGr AGs AGt AGu,Ay AF b3 0 [.int .i64 ix,.int .i64 Wg,.string AGj,.slice AGk AGl AGm,.int .i64 AGn,.int .i64 AGo,.int .i64 AGp,.slice AGq AGr AGs,.bool AGt,.int .i64 AGu] ∧ R (.returned (.agg #[.int .i64 ix,.int .i64 Wg,.string AGj,.slice AGk AGl AGm,.int .i64 AGn,.int .i64 AGo,.int .i64 AGp,.slice AGq AGr AGs,.bool AGt,.int .i64 AGu])) AF)) (Br (FD = 3) (AK prog (Instr.storeAt 2 (.pointer (aD b3 4)) (.int .i64 QW)) y (fun _ AF => AK prog (Instr.storeAt 2 (.pointer (aD b3 5)) (.int .i64 Nl)) AF (fun _ AH => ∃ Yj AGv AGw AGx AGy AGz AG0 AG1 AG2 AG3 AG4 AG5 AG6 AG7,Ay AH b3 0 [.int .i64 Yj,.int .i64 AGv,.string AGw,.slice AGx AGy AGz,.int .i64 AG0,.int .i64 AG1,.int .i64 AG2,.slice AG3 AG4 AG5,.bool AG6,.int .i64 AG7] ∧ R (.returned (.agg #[.int .i64 Yj,.int .i64 AGv,.string AGw,.slice AGx AGy AGz,.int .i64 AG0,.int .i64 AG1,.int .i64 AG2,.slice AG3 AG4 AG5,.bool AG6,.int .i64 AG7])) AH))) (Br (FD = 4) (AK prog (Instr.storeAt 3 (.pointer (aD b3 1)) (.int .i64 Ej)) y (fun _ AF => AK prog (Instr.storeAt 3 (.pointer (aD b3 9)) (.int .i64 Ji)) AF (fun _ AH => ∃ AG8 AG9 AHA AHB AHC AHD AHE AHF AHG AHH AHI AHJ AHK AHL,Ay AH b3 0 [.int .i64 AG8,.int .i64 AG9,.string AHA,.slice AHB AHC AHD,.int .i64 AHE,.int .i64 AHF,.int .i64 AHG,.slice AHH AHI AHJ,.bool AHK,.int .i64 AHL] ∧ R (.returned (.agg #[.int .i64 AG8,.int .i64 AG9,.string AHA,.slice AHB AHC AHD,.int .i64 AHE,.int .i64 AHF,.int .i64 AHG,.slice AHH AHI AHJ,.bool AHK,.int .i64 AHL])) AH))) (Br (FD = 5) (AK prog (Instr.storeAt 3 (.pointer (aD b3 1)) (.int .i64 Ej)) y (fun _ AF => AK prog (Instr.storeAt 3 (.pointer (aD b3 9)) (.int .i64 Ji)) AF (fun _ AH => AK prog (Instr.storeAt 3 (.pointer (aD b3 6)) (.int .i64 H0)) AH (fun _ Ac => ∃ Yc Ye mz Yf Yg Yh nB nC nE nF nG nH nI nJ,Ay Ac b3 0 [.int .i64 Yc,.int .i64 Ye,.string mz,.slice Yf Yg Yh,.int .i64 nB,.int .i64 nC,.int .i64 nE,.slice nF nG nH,.bool nI,.int .i64 nJ] ∧ R (.returned (.agg #[.int .i64 Yc,.int .i64 Ye,.string mz,.slice Yf Yg Yh,.int .i64 nB,.int .i64 nC,.int .i64 nE,.slice nF nG nH,.bool nI,.int .i64 nJ])) Ac)))) (Br (FD = 6) (AK prog (Instr.storeAt 3 (.pointer (aD b3 1)) (.int .i64 Ej)) y (fun _ AF => AK prog (Instr.storeAt 3 (.pointer (aD b3 9)) (.int .i64 Ji)) AF (fun _ AH => AK prog (Instr.storeAt 4 (.pointer (aD b3 8)) (.bool M6)) AH (fun _ Ac => AK prog (Instr.storeAt 3 (.pointer (aD b3 6)) (.int .i64 H0)) Ac (fun _ EF => ∃ Y1 Y2 Y3 Y4 Y5 Y6 Y8 Y9 ZA ZB ZC ZD ZE ZF,Ay EF b3 0 [.int .i64 Y1,.int .i64 Y2,.string Y3,.slice Y4 Y5 Y6,.int .i64 Y8,.int .i64 Y9,.int .i64 ZA,.slice ZB ZC ZD,.bool ZE,.int .i64 ZF] ∧ R (.returned (.agg #[.int .i64 Y1,.int .i64 Y2,.string Y3,.slice Y4 Y5 Y6,.int .i64 Y8,.int .i64 Y9,.int .i64 ZA,.slice ZB ZC ZD,.bool ZE,.int .i64 ZF])) EF))))) (AK prog (Instr.storeAt 3 (.pointer (aD b3 9)) (.int .i64 Ji)) y (fun _ AF => ∃ AHM mu AHN AHO AHP AHQ AHR AHS AHT AHU AHV AHW AHX AHY,Ay AF b3 0 [.int .i64 AHM,.int .i64 mu,.string AHN,.slice AHO AHP AHQ,.int .i64 AHR,.int .i64 AHS,.int .i64 AHT,.slice AHU AHV AHW,.bool AHX,.int .i64 AHY] ∧ R (.returned (.agg #[.int .i64 AHM,.int .i64 mu,.string AHN,.slice AHO AHP AHQ,.int .i64 AHR,.int .i64 AHS,.int .i64 AHT,.slice AHU AHV AHW,.bool AHX,.int .i64 AHY])) AF))))))))) : Spec prog 121 #[.agg #[.int .i64 FD,.int .i64 Ej,.string QX,.slice VB UX VC,.int .i64 QW,.int .i64 Nl,.int .i64 H0,.slice R5 Q5 R6,.bool M6,.int .i64 Ji]] σ R := M.start h ok
end TH
namespace Dh
variable {p0 p7 : Option Addr} {n0 c0 n7 c7 : Nat} {s1 : ByteArray} {x8 x9 : Int}
def M : Fw := ⟨prog,133,f133,[],[],false,[],[],[(104,[(1,wT),(7,wL),(8,wI),(9,wI)])]⟩
theorem ok : M.Ok := ⟨AG.nil,mixed,func133,by kernel_rfl⟩
def Hz := M.pt 0
theorem start (h : Hz R s1 p0 n0 c0 (n0 : Int) 0 σ) : Spec prog 133 #[.slice p0 n0 c0,.string s1] σ R := M.start h ok
theorem Bl (h : Br (x9 < x8) (Pq p7 fun Pr QU => In x9 (n7 : Int) ∧ LT σ Pr (QU + Int.toNat x9 * 1) fun tF => Bo (ByteArray.toList tF == ByteArray.toList s1) (Bn ((ByteArray.toList s1 == ByteArray.toList (ByteArray.mk #[]))) (R (.returned (.int .i64 x9)) σ) (AJ (x9 + 1) ∧ Hz R s1 (aD Pr QU) n7 c7 x8 (x9 + 1) σ)) (AJ (x9 + 1) ∧ Hz R s1 (aD Pr QU) n7 c7 x8 (x9 + 1) σ)) (R (.returned (.int .i64 0)) σ)) : Hz R s1 p7 n7 c7 x8 x9 σ := M.of h ok rfl
end Dh
namespace Jq
variable {q0 : Option Addr}
def M : Fw := ⟨prog,135,f135,[],[2,3],false,[],[],[]⟩
theorem ok : M.Ok := ⟨AG.nil,mixed,func135,by kernel_rfl⟩
theorem start (h : ∀ b2 : Nat,Pq q0 fun b5 o5 => LS σ b5 o5 fun p7 n7 c7 => Pq p7 fun b8 o8 => In 0 (n7 : Int) ∧ ∃ x9a x9b s9c x9d,Ay σ b8 o8 [.int .i64 x9a,.int .i64 x9b,.string s9c,.int .i64 x9d] ∧ ∀ b3 : Nat,LS σ b5 o5 fun Jj n14 Hd => ((0 : Int) ≤ 1 ∧ 1 ≤ (n14 : Int)) ∧ AK prog (Instr.storeAt 121 (.pointer (aD b5 o5)) (.slice (Ir Jj (1) Hd 4) (n14 - 1) (Hd - 1))) σ (fun _ y => R (.returned (.agg #[.int .i64 x9a,.int .i64 x9b,.string s9c,.int .i64 x9d])) y)) : Spec prog 135 #[.pointer q0] σ R := M.start h ok
end Jq
namespace TI
variable {x0 : Int}
def M : Fw := ⟨prog,143,f143,[],[],false,[],[],[]⟩
theorem ok : M.Ok := ⟨AG.nil,mixed,func143,by kernel_rfl⟩
theorem start (h : AK prog (convert 2 51 (.int .i64 x0)) σ (fun z y => ∃ x4,(Value.float .f64 x4) = z ∧ EN prog 45 #[(Value.float .f64 x4)] y (CI .u64 fun x5 AF => R (.returned (.int .u64 x5)) AF))) : Spec prog 143 #[.int .i64 x0] σ R := M.start h ok
end TI
namespace LN
def M : Fw := ⟨prog,147,f147,[184,188],[],false,[],[],[]⟩
theorem ok : M.Ok := ⟨.cons call184 (.cons call188 (AG.nil)),mixed,func147,by kernel_rfl⟩
theorem start (h : Spec prog 184 #[(.func (.func 151) #[] #[])] σ (AA R (fun z y => ∃ f1 a1 c1,(Value.func f1 a1 c1) = z ∧ Spec prog 184 #[(.func (.func 154) #[] #[])] y (AA R (fun z AF => ∃ f2 a2 c2,(Value.func f2 a2 c2) = z ∧ Spec prog 184 #[(.func (.func 152) #[] #[])] AF (AA R (fun z AH => ∃ f3 a3 c3,(Value.func f3 a3 c3) = z ∧ Spec prog 184 #[(.func (.func 153) #[] #[])] AH (AA R (fun z Ac => ∃ f4 a4 c4,(Value.func f4 a4 c4) = z ∧ Spec prog 184 #[(.func (.func 155) #[] #[])] Ac (AA R (fun z EF => ∃ f5 a5 c5,(Value.func f5 a5 c5) = z ∧ Spec prog 184 #[(.func (.func 185) #[] #[])] EF (AA R (fun z Fo => ∃ f6 a6 c6,(Value.func f6 a6 c6) = z ∧ Spec prog 184 #[(.func (.func 187) #[] #[])] Fo (AA R (fun z EG => ∃ f7 a7 c7,(Value.func f7 a7 c7) = z ∧ Spec prog 188 #[(.func (.func 189) #[] #[])] EG (AA R (fun z Jw => ∃ f8 a8 c8,(Value.func f8 a8 c8) = z ∧ Spec prog 188 #[(.func (.func 191) #[] #[])] Jw (AA R (fun z QV => ∃ f9 a9 c9,(Value.func f9 a9 c9) = z ∧ Spec prog 188 #[(.func (.func 193) #[] #[])] QV (AA R (fun z I6 => ∃ f10 a10 Nq,(Value.func f10 a10 Nq) = z ∧ Al I6 fun BG => R (.returned (.slice (aD BG 0) 11 11)) (Hp.set I6 BG (.cells #[.nilFunc,(Value.func f10 a10 Nq),(Value.func f9 a9 c9),(Value.func f8 a8 c8),(Value.func f1 a1 c1),(Value.func f2 a2 c2),(Value.func f3 a3 c3),(Value.func f4 a4 c4),(Value.func f5 a5 c5),(Value.func f6 a6 c6),(Value.func f7 a7 c7)] 195 (0,0)))))))))))))))))))))))) : Spec prog 147 #[] σ R := M.start h ok
end LN
namespace Mk
variable {p0 p1 : Option Addr} {n0 c0 n1 c1 : Nat}
def M : Fw := ⟨prog,150,f150,[197],[],false,[],[],[]⟩
theorem ok : M.Ok := ⟨.cons call197 (AG.nil),mixed,func150,by kernel_rfl⟩
theorem start (h : Al σ fun b3 => Spec prog 197 #[.slice p0 n0 c0,(.func (.func 200) #[] #[(.pointer (aD b3 0))])] (Hp.set σ b3 (.cells #[.slice p1 n1 c1] 34 (0,0))) (AA R (CS fun p7 n7 c7 y => R (.returned (.slice p7 n7 c7)) y))) : Spec prog 150 #[.slice p0 n0 c0,.slice p1 n1 c1] σ R := M.start h ok
end Mk
namespace P4
variable {x0 : Int}
def M : Fw := ⟨prog,162,f162,[186],[],false,[],[],[]⟩
theorem ok : M.Ok := ⟨.cons call186 (AG.nil),mixed,func162,by kernel_rfl⟩
theorem start (h : Df (Go.bits .xor .u64 x0 9223372036854775808) fun x4 => Spec prog 186 #[.int .u64 x4] σ (AA R (CI .u64 fun x5 y => R (.returned (.int .u64 x5)) y))) : Spec prog 162 #[.int .u64 x0] σ R := M.start h ok
end P4
namespace Ml
variable {FD Ej x1 : Int}
def M : Fw := ⟨prog,176,f176,[],[2],false,[],[],[]⟩
theorem ok : M.Ok := ⟨AG.nil,mixed,func176,by kernel_rfl⟩
theorem start (h : ∀ b2 : Nat,Br (FD ≤ x1) (R (.returned (.int .i64 (-1))) σ) (R (.returned (.int .i64 1)) σ)) : Spec prog 176 #[.agg #[.int .i64 FD,.int .u64 Ej],.int .i64 x1] σ R := M.start h ok
end Ml
namespace TJ
variable {v0 : Value}
def M : Fw := ⟨prog,183,f183,[],[],false,[],[],[]⟩
theorem ok : M.Ok := ⟨AG.nil,mixed,func183,by kernel_rfl⟩
theorem start (h : EN prog 222 #[v0] σ (fun z y => ∃ x4,(Value.float .f64 x4) = z ∧ R (.returned (Value.float .f64 x4)) y)) : Spec prog 183 #[v0] σ R := M.EE h ok [(0,.o (.V v0))] rfl rfl (by kernel_rfl)
end TJ
namespace Di
variable {p0 p1 : Option Addr} {n0 c0 n1 c1 : Nat}
def M : Fw := ⟨prog,193,f193,[192,194],[],false,[],[],[]⟩
theorem ok : M.Ok := ⟨.cons call192 (.cons call194 (AG.nil)),mixed,func193,by kernel_rfl⟩
theorem start (h : Pq p1 fun b8 o8 => In 0 (n1 : Int) ∧ LI .u64 σ b8 (o8 + 1) fun x10 => Spec prog 192 #[.slice p0 n0 c0] σ (AA R (CI .u64 fun x6 y => Kp [b8] σ y ∧ Spec prog 194 #[.int .u64 x6,.int .u64 x10] y (AA R (CI .u64 fun x11 AF => R (.returned (.int .u64 x11)) AF))))) : Spec prog 193 #[.slice p0 n0 c0,.slice p1 n1 c1] σ R := M.start h ok
end Di
namespace eval_add
variable {x0 x1 : Int}
def M : Fw := ⟨prog,201,f201,[203],[],false,[],[],[]⟩
theorem ok : M.Ok := ⟨.cons call203 (AG.nil),mixed,func201,by kernel_rfl⟩
theorem start (h : Spec prog 203 #[.int .i64 1,.int .u64 x0,.int .u64 x1] σ (AA R (fun z y => ∃ I5 Ry,z = (.tuple #[.int .u64 I5,.bool Ry]) ∧ R (.returned (.int .u64 I5)) y))) : Spec prog 201 #[.int .u64 x0,.int .u64 x1] σ R := M.start h ok
end eval_add
namespace N3
variable {x0 x1 x2 : Int}
def M : Fw := ⟨prog,204,f204,[182],[],false,[],[],[]⟩
theorem ok : M.Ok := ⟨.cons call182 (AG.nil),mixed,func204,by kernel_rfl⟩
theorem start (h : Spec prog 182 #[.int .u64 x1] σ (AA R (fun z y => ∃ x11,(Value.float .f64 x11) = z ∧ Spec prog 182 #[.int .u64 x2] y (AA R (fun z AF => ∃ FK,(Value.float .f64 FK) = z ∧ Br (x0 = 5) (∃ t19,YF prog ((do eqGuard .eql 51 (.tmp 17) (.tmp 18) (Value.float .f64 x11) (Value.float .f64 FK); binOp .eql 51 (Value.float .f64 x11) (Value.float .f64 FK))) AF (.bool t19) ∧ R (.returned (.tuple #[.bool t19,.bool true])) AF) (Br (x0 = 6) (∃ t24,YF prog ((do eqGuard .neq 51 (.tmp 22) (.tmp 23) (Value.float .f64 x11) (Value.float .f64 FK); binOp .neq 51 (Value.float .f64 x11) (Value.float .f64 FK))) AF (.bool t24) ∧ R (.returned (.tuple #[.bool t24,.bool true])) AF) (Br (x0 = 7) (∃ t29,YF prog ((do eqGuard .lss 51 (.tmp 27) (.tmp 28) (Value.float .f64 x11) (Value.float .f64 FK); binOp .lss 51 (Value.float .f64 x11) (Value.float .f64 FK))) AF (.bool t29) ∧ R (.returned (.tuple #[.bool t29,.bool true])) AF) (Br (x0 = 8) (∃ t34,YF prog ((do eqGuard .leq 51 (.tmp 32) (.tmp 33) (Value.float .f64 x11) (Value.float .f64 FK); binOp .leq 51 (Value.float .f64 x11) (Value.float .f64 FK))) AF (.bool t34) ∧ R (.returned (.tuple #[.bool t34,.bool true])) AF) (Br (x0 = 9) (∃ t39,YF prog ((do eqGuard .gtr 51 (.tmp 37) (.tmp 38) (Value.float .f64 x11) (Value.float .f64 FK); binOp .gtr 51 (Value.float .f64 x11) (Value.float .f64 FK))) AF (.bool t39) ∧ R (.returned (.tuple #[.bool t39,.bool true])) AF) (Br (x0 = 10) (∃ t44,YF prog ((do eqGuard .geq 51 (.tmp 42) (.tmp 43) (Value.float .f64 x11) (Value.float .f64 FK); binOp .geq 51 (Value.float .f64 x11) (Value.float .f64 FK))) AF (.bool t44) ∧ R (.returned (.tuple #[.bool t44,.bool true])) AF) (R (.returned (.tuple #[.bool false,.bool false])) AF))))))))))) : Spec prog 204 #[.int .i64 x0,.int .u64 x1,.int .u64 x2] σ R := M.start h ok
end N3
namespace HF
variable {FD Ej QW Nl H0 Ji tg x2b x2e x2f x2g x2j x11 x12 : Int} {QX s2c : ByteArray} {VB R5 p1 p2d p2h Q8 : Option Addr} {UX VC Q5 R6 n1 c1 n2d c2d n2h c2h n10 Nq : Nat} {M6 t2i : Bool} {m6 : Option Nat}
def M : Fw := ⟨prog,206,f206,[49,207],[2,8],false,[(5,7,false)],[],[(232,[(1,wL),(2,.X 36 [.I .i64,.I .i64,.T,.L,.I .i64,.I .i64,.I .i64,.L,.B,.I .i64]),(6,wM),(10,wL),(11,wI),(12,wI)])]⟩
theorem ok : M.Ok := ⟨.cons call49 (.cons call207 (AG.nil)),mixed,func206,by kernel_rfl⟩
def BA := M.pt 0
theorem start (h : ∀ b2 : Nat,AK prog (Instr.makeMap 243 none) σ (fun z y => ∃ m9,z = (.map (some m9)) ∧ BA R p1 n1 c1 FD Ej QX VB UX VC QW Nl H0 R5 Q5 R6 M6 Ji (some m9) p1 n1 c1 (n1 : Int) 0 y)) : Spec prog 206 #[.agg #[.int .i64 FD,.int .i64 Ej,.string QX,.slice VB UX VC,.int .i64 QW,.int .i64 Nl,.int .i64 H0,.slice R5 Q5 R6,.bool M6,.int .i64 Ji],.slice p1 n1 c1] σ R := M.start h ok
theorem AZ (h : Br (x12 < x11) (Pq Q8 fun BY Q3 => In x12 (n10 : Int) ∧ ∃ AAx AAy AAz tj,Ay σ BY (Q3 + Int.toNat x12 * 2) [.slice AAx AAy AAz,.int .u64 tj] ∧ ∀ b8 : Nat,Spec prog 207 #[.agg #[.int .i64 tg,.int .i64 x2b,.string s2c,.slice p2d n2d c2d,.int .i64 x2e,.int .i64 x2f,.int .i64 x2g,.slice p2h n2h c2h,.bool t2i,.int .i64 x2j],.slice AAx AAy AAz] σ (AA R (CS fun p20 n20 c20 y => Spec prog 49 #[.slice p20 n20 c20] y (AA R (CT fun zm AF => AK prog (Instr.mapUpdate 243 (.map m6) (.string zm) (.agg #[.slice AAx AAy AAz,.int .u64 tj])) AF (fun _ AH => AJ (x12 + 1) ∧ BA R p1 n1 c1 tg x2b s2c p2d n2d c2d x2e x2f x2g p2h n2h c2h t2i x2j m6 (aD BY Q3) n10 Nq x11 (x12 + 1) AH)))))) (∃ kI,YF prog (Builtin.len_ #[243] 3 #[.map m6]) σ (.int .i64 kI) ∧ R (.returned (.tuple #[.map m6,(.bool (decide (kI = (n1 : Int))))])) σ)) : BA R p1 n1 c1 tg x2b s2c p2d n2d c2d x2e x2f x2g p2h n2h c2h t2i x2j m6 Q8 n10 Nq x11 x12 σ := M.j8 h ok rfl fun _ => by kernel_rfl
end HF
namespace ED
variable {Pw : Option Addr} {Jx OY : Nat} {ad s1 : ByteArray}
def M : Fw := ⟨prog,219,f219,[236],[2],false,[],[],[]⟩
theorem ok : M.Ok := ⟨.cons call236 (AG.nil),mixed,func219,by kernel_rfl⟩
theorem start (h : ∀ b2 : Nat,Spec prog 236 #[.agg #[.slice Pw Jx OY],.string s1] σ (AA R (CB fun t8 y => R (.returned (.bool t8)) y))) : Spec prog 219 #[.agg #[.slice Pw Jx OY,.string ad],.string s1] σ R := M.start h ok
end ED
namespace DN
variable {q0 : Option Addr} {b1 : Nat}
def M : Fw := ⟨prog,269,f269,[67,136,251],[],false,[],[],[(7,[(1,wA)])]⟩
theorem ok : M.Ok := ⟨.cons call67 (.cons call136 (.cons call251 (AG.nil))),mixed,func269,by kernel_rfl⟩
def Hz := M.pt 0
theorem start (h : Al σ fun b1 => LQ (Hp.set σ b1 (.cells #[.pointer q0] 124 (0,0))) b1 0 fun q2 => Spec prog 136 #[.pointer q2,.int .i64 5,(.string (ByteArray.mk #[40]))] (Hp.set σ b1 (.cells #[.pointer q0] 124 (0,0))) (AA R (CB fun t3 y => Bn t3 (LQ y b1 0 fun q5 => Spec prog 67 #[.pointer q5] y (AA R (fun z AF => z = (.tuple #[]) ∧ Hz R b1 AF))) (Hz R b1 y)))) : Spec prog 269 #[.pointer q0] σ R := M.start h ok
theorem Bl (h : LQ σ b1 0 fun q7 => Spec prog 251 #[.pointer q7,(.func (.func 294) #[] #[(.pointer (aD b1 0))])] σ (AA R (fun z y => z = (.tuple #[]) ∧ R (.returned (.tuple #[])) y))) : Hz R b1 σ := M.of h ok rfl
end DN
end TwW
end
end
section
namespace Tw
open Go
variable [FB]
def A2 (τ : Hp) : List (Nat × Obj) → Hp
 | [] => τ
 | (b,o) :: L => (A2 τ L).set b o
abbrev names (L : List (Nat × Obj)) : List Nat := L.map Prod.fst
section
variable {τ : Hp} {L : List (Nat × Obj)} {b i : Nat} {o o' : Obj}
theorem IU (h : b ∉ names L) : A2 τ L b = τ b := by
 induction L with
 | nil => rfl
 | cons p L ih =>
   simp only [names,List.map_cons,List.mem_cons,not_or] at h
   simp only [A2,Hp.AI h.1]
   exact ih h.2
theorem E3 : ∀ {L : List (Nat × Obj)} {i : Nat},(names L).Nodup → L[i]? = some (b,o) → A2 τ L b = some o
 | p :: L,0,_,h => by simp at h; subst h; exact Hp.AB _ _ _
 | p :: L,i + 1,hn,h => by
   simp only [List.getElem?_cons_succ] at h
   have hm : b ∈ names L := List.mem_map.2 ⟨_,List.mem_of_getElem? h,rfl⟩
   have hn := List.nodup_cons.1 (show (p.1 :: names L).Nodup from hn)
   have A5 : b ≠ p.1 := fun e => hn.1 (e ▸ hm)
   simp only [A2,Hp.AI A5]
   exact E3 hn.2 h
theorem Hp.BQ {σ : Hp} {a b : Nat} {o u : Obj} (h : a ≠ b) : (σ.set a o).set b u = (σ.set b u).set a o := by
 funext k
 simp only [Hp.set]
 by_cases h1 : k = a
 · subst h1; simp [h]
 · simp [h1]
theorem N4 : ∀ {L : List (Nat × Obj)} {i : Nat},(names L).Nodup → L[i]? = some (b,o) → (A2 τ L).set b o' = A2 τ (L.set i (b,o'))
 | p :: L,0,_,h => by simp at h; subst h; exact Hp.set_set
 | p :: L,i + 1,hn,h => by
   simp only [List.getElem?_cons_succ] at h
   have hm : b ∈ names L := List.mem_map.2 ⟨_,List.mem_of_getElem? h,rfl⟩
   have hn := List.nodup_cons.1 (show (p.1 :: names L).Nodup from hn)
   have A5 : b ≠ p.1 := fun e => hn.1 (e ▸ hm)
   simp only [A2,List.set_cons_succ]
   rw [Hp.BQ (Ne.symm A5),N4 hn.2 h]
theorem HG : ∀ {L : List (Nat × Obj)},b ∉ names L → (A2 τ L).set b o = A2 (τ.set b o) L
 | [],_ => rfl
 | p :: L,h => by
   simp only [names,List.map_cons,List.mem_cons,not_or] at h
   simp only [A2]
   rw [Hp.BQ (Ne.symm h.1),HG h.2]
theorem VP : ∀ {L : List (Nat × Obj)},b ∈ names L → A2 τ L b ≠ none
 | p :: L,h => by
   by_cases hb : b = p.1
   · subst hb; simp only [A2,Hp.AB]; simp
   · simp only [names,List.map_cons,List.mem_cons] at h
     simp only [A2,Hp.AI hb]
     exact VP (h.resolve_left hb)
theorem CN (h : A2 τ L b = none) : b ∉ names L ∧ τ b = none := by
 have hs : ∀ {L : List (Nat × Obj)},b ∉ names L → A2 τ L b = τ b := IU
 have hn : b ∉ names L := fun hm => VP hm h
 exact ⟨hn,(hs hn).symm.trans h⟩
def P5 (L : List (Nat × Obj)) (τ : Hp) : Prop := ∀ b ∈ names L,τ b = none
theorem P5.ext {τ : Hp} : ∀ {L : List (Nat × Obj)},(names L).Nodup → P5 L τ → Ext τ (A2 τ L)
 | [],_,_ => .refl τ
 | p :: L,hn,h => by
   have hn := List.nodup_cons.1 (show (p.1 :: names L).Nodup from hn)
   have ih := P5.ext hn.2 (fun b hb => h b (List.mem_cons_of_mem _ hb))
   refine ih.trans (.set ?_)
   rw [IU hn.1]
   exact h _ (List.mem_cons_self ..)
theorem P5.set {τ : Hp} {b : Nat} {o : Obj} (h : P5 L τ) (hb : b ∉ names L) : P5 L (τ.set b o) := fun c hc => by
 have A5 : c ≠ b := fun e => hb (e ▸ hc)
 rw [Hp.AI A5]; exact h c hc
end
theorem Spec.E4 {P : Program} {f : FuncId} {args : Array Value} {τ : Hp} : ∀ {L : List (Nat × Obj)} {R : Rr},(names L).Nodup → P5 L τ →
   Spec P f args τ (fun e τ' => P5 L τ' → R e (A2 τ' L)) → Spec P f args (A2 τ L) R
 | [],R,_,_,h => h.mono fun e τ' hr => hr (fun b hb => by cases hb)
 | p :: L,R,hn,ho,h => by
   have hn := List.nodup_cons.1 (show (p.1 :: names L).Nodup from hn)
   refine Spec.Ap (by rw [IU hn.1]; exact ho _ (List.mem_cons_self ..)) ?_
   refine Spec.E4 hn.2 (fun b hb => ho b (List.mem_cons_of_mem _ hb)) (h.mono fun e τ' hr Ua Ga => hr fun b hb => ?_)
   rcases List.mem_cons.1 (show b ∈ p.1 :: names L from hb) with rfl | hb
   · rw [IU hn.1] at Ga; exact Ga
   · exact Ua b hb
theorem AK.E4 {P : Program} {α : Type} {m : Sem α} {τ : Hp} : ∀ {L : List (Nat × Obj)} {Φ : α → Hp → Prop},(names L).Nodup → P5 L τ →
   AK P m τ (fun v τ' => P5 L τ' → Φ v (A2 τ' L)) → AK P m (A2 τ L) Φ
 | [],R,_,_,h => h.mono fun e τ' hr => hr (fun b hb => by cases hb)
 | p :: L,R,hn,ho,h => by
   have hn := List.nodup_cons.1 (show (p.1 :: names L).Nodup from hn)
   refine AK.Ap (by rw [IU hn.1]; exact ho _ (List.mem_cons_self ..)) ?_
   refine AK.E4 hn.2 (fun b hb => ho b (List.mem_cons_of_mem _ hb)) (h.mono fun e τ' hr Ua Ga => hr fun b hb => ?_)
   rcases List.mem_cons.1 (show b ∈ p.1 :: names L from hb) with rfl | hb
   · rw [IU hn.1] at Ga; exact Ga
   · exact Ua b hb
theorem AK.TL {P : Program} {τ : Hp} {L : List (Nat × Obj)} {i b n o : Nat} {T t : TypeId} {c c' : Array Value} {v : Value} {Φ : Unit → Hp → Prop} (hz : ∀ w,(Go.sizeOf T).run P w = .ok n w) (hn : (names L).Nodup) (hi : L[i]? = some (b,.cells c t (0,0)))
   (hv : v.cells.size = n) (hl : Nat.ble (o + n) c.size = true) (h1 : (v.cells.toList.all fun u => u.oneCell') = true) (hc : NT c o v.cells.toList = c') (h : Φ () (A2 τ (L.set i (b,.cells c' t (0,0))))) :
   AK P (Instr.storeAt T (.pointer (some ⟨b,o,none⟩)) v) (A2 τ L) Φ := by
 subst hc
 refine AK.store hz (E3 hn hi) hv (Nat.le_of_ble_eq_true hl) (fun u hu => List.all_eq_true.1 h1 u hu) ?_
 rw [N4 hn hi]; exact h
theorem ZJ {τ : Hp} {L : List (Nat × Obj)} {i b o : Nat} {t : TypeId} {c : Array Value} {v : Value} (hn : (names L).Nodup) (hi : L[i]? = some (b,.cells c t (0,0))) (h : c[o]? = some v) : Hp.ld (A2 τ L) ⟨b,o,none⟩ = some v := by
 simp [Hp.ld,E3 hn hi,h]
end Tw
end
section
namespace Tw
open Go Go.MapKept
variable [FB]
def RU (p : Option Addr) : List Nat := match p with
 | some a => [a.block]
 | none => []
structure Loc (A : Hp → Prop) (σ : Hp) (S : List Nat) : Prop where
 here : A σ
 known : ∀ b ∈ S,σ b ≠ none
 loc : ∀ σ',(∀ b ∈ S,σ' b = σ b) → A σ'
section
variable {P : Program} {σ : Hp} {α : Type}
theorem AK.obj {m : Sem α} {b : Nat} {o o' : Obj} {v : α} {Φ : α → Hp → Prop} (hb : σ b = some o) (hm : ∀ w,Sat σ w → ∃ w1 : World,(w1 = w ∨ w1 = w.drew) ∧ m.run P w = .ok v (ChangeMaps.setBlock w1 b o')) (h : Φ v (σ.set b o')) : AK P m σ Φ := fun w F hs hF => by
 obtain ⟨w1,hw,Cr⟩ := hm w hs
 have Aq : b < w.heap.size := (Array.getElem?_eq_some_iff.1 (hs b o hb)).1
 have NW : w1.heap = w.heap := by rcases hw with rfl | rfl <;> rfl
 refine ⟨v,_,_,Cr,h,fun k u hk => ?_,fun k hk => ?_,?_,?_,?_⟩
 · simp only [ChangeMaps.setBlock,NW]
   by_cases HZ : k = b
   · subst HZ; rw [Hp.AB] at hk; cases hk; simp [Aq]
   · rw [Hp.AI HZ] at hk; simp [Ne.symm HZ,hs k u hk]
 · have HZ : k ≠ b := fun e => by have := (hF k hk).2; rw [e,hb] at this; cases this
   refine ⟨by rw [Hp.AI HZ]; exact (hF k hk).2,?_⟩
   simp [ChangeMaps.setBlock,NW,Ne.symm HZ]
 · rcases hw with rfl | rfl
   · exact .same rfl rfl rfl
   · exact ⟨rfl,rfl,fun _ => ⟨1,rfl⟩⟩
 · rcases hw with rfl | rfl <;> rfl
 · simp [ChangeMaps.setBlock,NW]
theorem AK.new {m : Sem α} {o : Obj} {v : Nat → α} {Φ : α → Hp → Prop} (hm : ∀ w,Sat σ w → m.run P w = .ok (v w.heap.size) (w.alloc o)) (h : ∀ b,σ b = none → Φ (v b) (σ.set b o)) : AK P m σ Φ := fun w F hs hF =>
 ⟨_,_,_,hm w hs,h _ (Fj hs),Fin.alloc hs hF _ rfl (.same rfl rfl rfl) rfl⟩
class oe (P : Program) (T : TypeId) (K V : outParam TypeId) : Prop where
 eb : P.underlying T = some (.map K V)
 key : P.underlying K = some .string
def BV (σ : Hp) (b : Nat) (l : List MapEntry) (clock : Nat) : Prop := σ b = some (.map l.toArray clock) ∧ Stamped l.toArray clock ∧ ∀ x ∈ l,IsKey .string x.key
theorem BV.mono {σ σ' : Hp} {b : Nat} {l : List MapEntry} {clock : Nat} (h : BV σ b l clock) (hx : Ext σ σ') : BV σ' b l clock := ⟨hx _ _ h.1,h.2⟩
theorem BV.loc {σ σ' : Hp} {b : Nat} {l : List MapEntry} {clock : Nat} (h : BV σ b l clock) (hx : σ' b = σ b) : BV σ' b l clock := ⟨hx.trans h.1,h.2⟩
theorem BV.nodup {σ : Hp} {b : Nat} {l : List MapEntry} {clock : Nat} (h : BV σ b l clock) : (l.map (·.key)).Nodup := h.2.1.2.2
theorem FY {s : ByteArray} {l : List MapEntry} (hk : ∀ x ∈ l,IsKey .string x.key) :
   (Instr.findNow .string (.string s) l 0 = some none ∧ ∀ x ∈ l,x.key ≠ .string s) ∨ ∃ l1 e l2,l = l1 ++ e :: l2 ∧ e.key = .string s ∧ Instr.findNow .string (.string s) l 0 = some (some (l1.length,e.val)) := by
 rcases findNow_spec (d := .string) (k := .string s) trivial l 0 hk with h | ⟨j,e,h1,h2,h3⟩
 · exact .inl h
 · obtain ⟨hj,rfl⟩ := List.getElem?_eq_some_iff.1 h2
   refine .inr ⟨l.take j,l[j],l.drop (j + 1),?_,h3,?_⟩
   · rw [List.getElem_cons_drop,List.take_append_drop]
   · rw [h1]; simp [Nat.min_eq_left (Nat.le_of_lt hj)]
section
variable {T K V ty : TypeId} {b clock : Nat} {l : List MapEntry} {s : ByteArray}
theorem EW {Φ : Value → Hp → Prop} (h : ∀ b,σ b = none → Φ (.map (some b)) (σ.set b (.map #[] 0))) : AK P (Instr.makeMap T none) σ Φ :=
 AK.new (v := fun b => .map (some b)) (fun w _ => by simp [Instr.makeMap,Result.andThen]) h
theorem BV.fresh {b : Nat} {σ : Hp} : BV (σ.set b (.map #[] 0)) b [] 0 := ⟨Hp.AB _ _ _,stamped_empty 0,by simp⟩
theorem PF [t : oe P T K V] (hm : BV σ b l clock) {z : Value} (hz : ∀ w,(zeroValue V).run P w = .ok z w) {Q : Value → Prop}
   (h0 : (∀ x ∈ l,x.key ≠ .string s) → Q z) (h1 : ∀ l1 e l2,l = l1 ++ e :: l2 → e.key = .string s → Q e.val) : ∃ v,Q v ∧ YF P (Instr.lookup T (.map (some b)) (.string s) false) σ v := by
 rcases FY (s := s) hm.2.2 with ⟨hf,hn⟩ | ⟨l1,e,l2,hl,he,hf⟩
 · refine ⟨z,h0 hn,fun w hs => ?_⟩
   have := hs _ _ hm.1
   simp [Instr.lookup,run_underlying t.eb,run_getObj_map this,run_checkKey t.key (k := .string s) trivial,run_findKey t.key hf,hz,Result.andThen]
 · refine ⟨e.val,h1 l1 e l2 hl he,fun w hs => ?_⟩
   have := hs _ _ hm.1
   simp [Instr.lookup,run_underlying t.eb,run_getObj_map this,run_checkKey t.key (k := .string s) trivial,run_findKey t.key hf,Result.andThen]
theorem NB [t : oe P T K V] (hm : BV σ b l clock) {z : Value} (hz : ∀ w,(zeroValue V).run P w = .ok z w) {Φ : Value → Hp → Prop}
   (h0 : (∀ x ∈ l,x.key ≠ .string s) → Φ z σ) (h1 : ∀ l1 e l2,l = l1 ++ e :: l2 → e.key = .string s → Φ e.val σ) : AK P (Instr.lookup T (.map (some b)) (.string s) false) σ Φ := by
 obtain ⟨v,hq,hy⟩ := PF (T := T) (K := K) (s := s) (Q := fun v => Φ v σ) hm hz h0 h1
 exact AK.pu hy hq
theorem og [t : oe P T K V] (hm : BV σ b l clock) : YF P (Builtin.len_ #[T] ty #[.map (some b)]) σ (.int .i64 l.length) := fun w hs => by
 have := hs _ _ hm.1
 simp [Builtin.len_,run_underlying t.eb,run_getObj_map this,goInt,Result.andThen]
abbrev Nc (s : ByteArray) (v : Value) (n : Nat) : MapEntry := { key := .string s,val := v,born := n }
theorem Hx [t : oe P T K V] (hm : BV σ b l clock) {v : Value} {Φ : Unit → Hp → Prop}
   (h0 : (∀ x ∈ l,x.key ≠ .string s) → ∀ σ',σ' = σ.set b (.map (l ++ [Nc s v clock]).toArray (clock + 1)) → BV σ' b (l ++ [Nc s v clock]) (clock + 1) → Φ () σ')
   (h1 : ∀ l1 e l2,l = l1 ++ e :: l2 → e.key = .string s → ∀ σ',σ' = σ.set b (.map (l1 ++ Nc s v e.born :: l2).toArray clock) → BV σ' b (l1 ++ Nc s v e.born :: l2) clock → Φ () σ') :
   AK P (Instr.mapUpdate T (.map (some b)) (.string s) v) σ Φ := by
 obtain ⟨hb,Cj,hk⟩ := hm
 rcases FY (s := s) hk with ⟨hf,hn⟩ | ⟨l1,e,l2,hl,he,hf⟩
 · have ZK : (l ++ [Nc s v clock]).toArray = l.toArray.push (Nc s v clock) := by simp
   refine AK.obj (v := ()) (o' := .map (l ++ [Nc s v clock]).toArray (clock + 1)) hb (fun w hs => ⟨w,.inl rfl,?_⟩) (h0 hn _ rfl ⟨Hp.AB _ _ _,?_,?_⟩)
   · have := hs _ _ hb
     rw [ZK]
     simp only [Instr.mapUpdate,Sem.run_bind,run_underlying t.eb,run_getObj_map this,run_checkKey t.key (k := .string s) trivial,run_findKey t.key hf,Result.andThen_ok]
     simp [setObj,Sem.run,this,ChangeMaps.setBlock]
   · rw [ZK]; exact stamped_push Cj (by simpa using hn)
   · intro x hx
     rcases List.mem_append.1 hx with hx | hx
     · exact hk x hx
     · rw [List.mem_singleton] at hx; subst hx; trivial
 · subst hl
   have oh : (l1 ++ Nc s v e.born :: l2).toArray = (l1 ++ e :: l2).toArray.modify l1.length (fun e => { e with key := .string s,val := v }) := by
     rw [← Array.toList_inj]
     apply List.ext_getElem?
     intro j
     simp only [Array.getElem?_toList,Array.getElem?_modify,List.getElem?_toArray]
     by_cases hj : l1.length = j
     · subst hj; simp
     · rw [if_neg hj]
       rcases Nat.lt_or_ge j l1.length with h | h
       · rw [List.getElem?_append_left h,List.getElem?_append_left h]
       · have : ∃ k,j = l1.length + (k + 1) := ⟨j - l1.length - 1,by omega⟩
         obtain ⟨k,rfl⟩ := this
         simp [List.getElem?_append_right]
   have ck : (l1 ++ e :: l2).toArray[l1.length]? = some e := by simp
   refine AK.obj (v := ()) (o' := .map (l1 ++ Nc s v e.born :: l2).toArray clock) hb (fun w hs => ⟨w,.inl rfl,?_⟩) (h1 l1 e l2 rfl he _ rfl ⟨Hp.AB _ _ _,?_,?_⟩)
   · have := hs _ _ hb
     rw [oh]
     simp only [Instr.mapUpdate,Sem.run_bind,run_underlying t.eb,run_getObj_map this,run_checkKey t.key (k := .string s) trivial,run_findKey t.key hf,Result.andThen_ok,ck,Option.map_some,Option.getD_some,he,
       run_keyThatStays (d := .string) (k := .string s) trivial]
     simp [setObj,Sem.run,this,ChangeMaps.setBlock]
   · rw [oh]; exact stamped_modify Cj _ _ (fun _ _ => rfl) (fun e' _ Qf => by rw [ck] at Qf; cases Qf; exact he.symm)
   · intro x hx
     rcases List.mem_append.1 hx with hx | hx
     · exact hk x (List.mem_append_left _ hx)
     · rcases List.mem_cons.1 hx with rfl | hx
       · trivial
       · exact hk x (List.mem_append_right _ (List.mem_cons_of_mem _ hx))
end
end
end Tw
end
section
theorem Tw.Hp.AS {σ : Tw.Hp} {b k : Nat} {o : Go.Obj} (h : (σ.set b o) k = none) : k ≠ b ∧ σ k = none := by
 have A5 : k ≠ b := fun e => by rw [e,Tw.Hp.AB] at h; cases h
 exact ⟨A5,by rw [Tw.Hp.AI A5] at h; exact h⟩
namespace ot
open Go Go.MapKept Tw
variable [FB]
section
variable {P : Program} {σ : Hp}
class rk (P : Program) (T : TypeId) (K V : outParam TypeId) : Prop where
 eb : P.underlying T = some (.map K V)
 key : P.underlying K = some (.int .i64)
def BV (σ : Hp) (b : Nat) (l : List MapEntry) (clock : Nat) : Prop := σ b = some (.map l.toArray clock) ∧ Stamped l.toArray clock ∧ ∀ x ∈ l,IsKey (.int .i64) x.key
theorem BV.loc {σ σ' : Hp} {b : Nat} {l : List MapEntry} {clock : Nat} (h : BV σ b l clock) (hx : σ' b = σ b) : BV σ' b l clock := ⟨hx.trans h.1,h.2⟩
theorem FY {s : Int} {l : List MapEntry} (hk : ∀ x ∈ l,IsKey (.int .i64) x.key) :
   (Instr.findNow (.int .i64) (.int .i64 s) l 0 = some none ∧ ∀ x ∈ l,x.key ≠ .int .i64 s) ∨ ∃ l1 e l2,l = l1 ++ e :: l2 ∧ e.key = .int .i64 s ∧ Instr.findNow (.int .i64) (.int .i64 s) l 0 = some (some (l1.length,e.val)) := by
 rcases findNow_spec (d := .int .i64) (k := .int .i64 s) rfl l 0 hk with h | ⟨j,e,h1,h2,h3⟩
 · exact .inl h
 · obtain ⟨hj,rfl⟩ := List.getElem?_eq_some_iff.1 h2
   refine .inr ⟨l.take j,l[j],l.drop (j + 1),?_,h3,?_⟩
   · rw [List.getElem_cons_drop,List.take_append_drop]
   · rw [h1]; simp [Nat.min_eq_left (Nat.le_of_lt hj)]
section
variable {T K V ty : TypeId} {b clock : Nat} {l : List MapEntry} {s : Int}
theorem BV.fresh {b : Nat} {σ : Hp} : BV (σ.set b (.map #[] 0)) b [] 0 := ⟨Hp.AB _ _ _,stamped_empty 0,by simp⟩
theorem PF [t : rk P T K V] (hm : BV σ b l clock) {z : Value} (hz : ∀ w,(zeroValue V).run P w = .ok z w) {Q : Value → Prop}
   (h0 : (∀ x ∈ l,x.key ≠ .int .i64 s) → Q z) (h1 : ∀ l1 e l2,l = l1 ++ e :: l2 → e.key = .int .i64 s → Q e.val) : ∃ v,Q v ∧ YF P (Instr.lookup T (.map (some b)) (.int .i64 s) false) σ v := by
 rcases FY (s := s) hm.2.2 with ⟨hf,hn⟩ | ⟨l1,e,l2,hl,he,hf⟩
 · refine ⟨z,h0 hn,fun w hs => ?_⟩
   have := hs _ _ hm.1
   simp [Instr.lookup,run_underlying t.eb,run_getObj_map this,run_checkKey t.key (k := .int .i64 s) rfl,run_findKey t.key hf,hz,Result.andThen]
 · refine ⟨e.val,h1 l1 e l2 hl he,fun w hs => ?_⟩
   have := hs _ _ hm.1
   simp [Instr.lookup,run_underlying t.eb,run_getObj_map this,run_checkKey t.key (k := .int .i64 s) rfl,run_findKey t.key hf,Result.andThen]
theorem NB [t : rk P T K V] (hm : BV σ b l clock) {z : Value} (hz : ∀ w,(zeroValue V).run P w = .ok z w) {Φ : Value → Hp → Prop}
   (h0 : (∀ x ∈ l,x.key ≠ .int .i64 s) → Φ z σ) (h1 : ∀ l1 e l2,l = l1 ++ e :: l2 → e.key = .int .i64 s → Φ e.val σ) : AK P (Instr.lookup T (.map (some b)) (.int .i64 s) false) σ Φ := by
 obtain ⟨v,hq,hy⟩ := PF (T := T) (K := K) (s := s) (Q := fun v => Φ v σ) hm hz h0 h1
 exact AK.pu hy hq
theorem og [t : rk P T K V] (hm : BV σ b l clock) : YF P (Builtin.len_ #[T] ty #[.map (some b)]) σ (.int .i64 l.length) := fun w hs => by
 have := hs _ _ hm.1
 simp [Builtin.len_,run_underlying t.eb,run_getObj_map this,goInt,Result.andThen]
abbrev Nc (s : Int) (v : Value) (n : Nat) : MapEntry := { key := .int .i64 s,val := v,born := n }
theorem Hx [t : rk P T K V] (hm : BV σ b l clock) {v : Value} {Φ : Unit → Hp → Prop}
   (h0 : (∀ x ∈ l,x.key ≠ .int .i64 s) → ∀ σ',σ' = σ.set b (.map (l ++ [Nc s v clock]).toArray (clock + 1)) → BV σ' b (l ++ [Nc s v clock]) (clock + 1) → Φ () σ')
   (h1 : ∀ l1 e l2,l = l1 ++ e :: l2 → e.key = .int .i64 s → ∀ σ',σ' = σ.set b (.map (l1 ++ Nc s v e.born :: l2).toArray clock) → BV σ' b (l1 ++ Nc s v e.born :: l2) clock → Φ () σ') :
   AK P (Instr.mapUpdate T (.map (some b)) (.int .i64 s) v) σ Φ := by
 obtain ⟨hb,Cj,hk⟩ := hm
 rcases FY (s := s) hk with ⟨hf,hn⟩ | ⟨l1,e,l2,hl,he,hf⟩
 · have ZK : (l ++ [Nc s v clock]).toArray = l.toArray.push (Nc s v clock) := by simp
   refine AK.obj (v := ()) (o' := .map (l ++ [Nc s v clock]).toArray (clock + 1)) hb (fun w hs => ⟨w,.inl rfl,?_⟩) (h0 hn _ rfl ⟨Hp.AB _ _ _,?_,?_⟩)
   · have := hs _ _ hb
     rw [ZK]
     simp only [Instr.mapUpdate,Sem.run_bind,run_underlying t.eb,run_getObj_map this,run_checkKey t.key (k := .int .i64 s) rfl,run_findKey t.key hf,Result.andThen_ok]
     simp [setObj,Sem.run,this,ChangeMaps.setBlock]
   · rw [ZK]; exact stamped_push Cj (by simpa using hn)
   · intro x hx
     rcases List.mem_append.1 hx with hx | hx
     · exact hk x hx
     · rw [List.mem_singleton] at hx; subst hx; rfl
 · subst hl
   have oh : (l1 ++ Nc s v e.born :: l2).toArray = (l1 ++ e :: l2).toArray.modify l1.length (fun e => { e with key := .int .i64 s,val := v }) := by
     rw [← Array.toList_inj]
     apply List.ext_getElem?
     intro j
     simp only [Array.getElem?_toList,Array.getElem?_modify,List.getElem?_toArray]
     by_cases hj : l1.length = j
     · subst hj; simp
     · rw [if_neg hj]
       rcases Nat.lt_or_ge j l1.length with h | h
       · rw [List.getElem?_append_left h,List.getElem?_append_left h]
       · have : ∃ k,j = l1.length + (k + 1) := ⟨j - l1.length - 1,by omega⟩
         obtain ⟨k,rfl⟩ := this
         simp [List.getElem?_append_right]
   have ck : (l1 ++ e :: l2).toArray[l1.length]? = some e := by simp
   refine AK.obj (v := ()) (o' := .map (l1 ++ Nc s v e.born :: l2).toArray clock) hb (fun w hs => ⟨w,.inl rfl,?_⟩) (h1 l1 e l2 rfl he _ rfl ⟨Hp.AB _ _ _,?_,?_⟩)
   · have := hs _ _ hb
     rw [oh]
     simp only [Instr.mapUpdate,Sem.run_bind,run_underlying t.eb,run_getObj_map this,run_checkKey t.key (k := .int .i64 s) rfl,run_findKey t.key hf,Result.andThen_ok,ck,Option.map_some,Option.getD_some,he,
       run_keyThatStays (d := .int .i64) (k := .int .i64 s) rfl]
     simp [setObj,Sem.run,this,ChangeMaps.setBlock]
   · rw [oh]; exact stamped_modify Cj _ _ (fun _ _ => rfl) (fun e' _ Qf => by rw [ck] at Qf; cases Qf; exact he.symm)
   · intro x hx
     rcases List.mem_append.1 hx with hx | hx
     · exact hk x (List.mem_append_left _ hx)
     · rcases List.mem_cons.1 hx with rfl | hx
       · rfl
       · exact hk x (List.mem_append_right _ (List.mem_cons_of_mem _ hx))
end
end
end ot
end
section
namespace Tw
open Go
variable [FB]
def TM (s : ByteArray) : List Value := s.data.toList.map fun b => .int .u8 b.toNat
theorem ou {s : ByteArray} : (TM s).length = s.size := by simp [TM]
theorem ov {s : ByteArray} : Gd (TM s) := fun u hu => by obtain ⟨x,_,rfl⟩ := List.mem_map.1 hu; rfl
section append
variable {P : Program} {T E ty : TypeId} {bs : Nat} {σ : Hp} {p : Option Addr} {n c m : Nat} {cs ys : List Value} {Φ : Value → Hp → Prop}
theorem TN {str : ByteArray} (w : World) (size : Nat) : (Builtin.firstCells size str.size (.string str)).run P w = .ok (TM str).toArray w := by
 have hx : (Array.map (fun b : UInt8 => Value.int IntKind.u8 (b.toNat : Int)) str.data).extract 0 str.size = (TM str).toArray := by
   have hs : str.size = (Array.map (fun b : UInt8 => Value.int IntKind.u8 (b.toNat : Int)) str.data).size := by rw [Array.size_map]; rfl
   rw [hs,Array.extract_size]
   apply Array.ext'
   simp [TM]
 have A9 : Array.map (fun b : UInt8 => Value.int IntKind.u8 (b.toNat : Int)) str.data = (TM str).toArray := by apply Array.ext'; simp [TM]
 simp [Builtin.firstCells,A9]
theorem uD [h : J2 P T E 1 bs] {U : TypeId} {str : ByteArray} (hU : P.underlying U = some .string) (Bg : BB 1 σ p n c cs) (hm : str.size = m) (vg : TM str = ys) (hb : (n + m) * bs ≤ 140737488355328)
   (hΦ : ∀ p' c' σ',BB 1 σ' p' (n + m) c' (cs ++ ys) → Ext (σ.del p) (σ'.del p') → ((p' = p ∧ c' = c ∧ n + m ≤ c) ∨ (c < n + m ∧ Ext σ σ' ∧ ∀ a,p' = some a → σ a.block = none)) → Φ (.slice p' (n + m) c') σ') :
   AK P (Builtin.append_ #[T,U] ty #[.slice p n c,.string str]) σ Φ := by
 obtain ⟨ht,⟨i,z,hi,hz,JN,rfl,hzs⟩,Oj,ke⟩ := h
 have h1 : Gd ys := vg ▸ ov
 have hyl : ys.length = m * 1 := by rw [← vg,← hm,Nat.mul_one]; exact ou
 have h62 : n + m ≤ 140737488355328 := Nat.le_trans (Nat.le_mul_of_pos_right _ ke) hb
 intro w F hs hF
 have hf := TN (P := P) (str := str) w 1
 rw [vg,hm] at hf
 have r8 := fun w' : World => TN (P := P) (str := str) w' 1
 rw [vg,hm] at r8
 have MP := fun w' (hw : Sat σ w') => Lq (P := P) (d := c) w' hw Bg.rd
 have hlen : (cs ++ ys).length = (n + m) * 1 := by rw [List.length_append,Bg.1,hyl,Nat.add_mul]
 by_cases HY : n + m ≤ c
 · -- there is room
   rcases Bg.2.2 with ⟨hp,hn,hc⟩ | ⟨b,o,arr,T',rfl,hblk,j5,GX,NU⟩
   · subst hp hn hc
     have hm : m = 0 := by omega
     subst hm
     have vg : ys = [] := List.eq_nil_of_length_eq_zero (by simpa using hyl)
     have NU : cs = [] := List.eq_nil_of_length_eq_zero (by simpa using Bg.1)
     subst vg NU
     refine ⟨.slice none 0 0,w,σ,?_,hΦ none 0 σ BB.nil (Ext.refl _) (.inl ⟨rfl,rfl,HY⟩),hs,fun b hb => ⟨(hF b hb).2,rfl⟩,.same rfl rfl rfl,rfl,Nat.le_refl _⟩
     simp [Builtin.append_,run_underlying ht,run_underlying hU,JN,hm,Go.sizeOf,typeInfo,hi,Builtin.lenOf,hf]
   · have hw := hs _ _ hblk
     have yX : o + n * 1 + 0 + ys.length ≤ arr.size := by
       rw [hyl]
       have : (n + m) * 1 ≤ c * 1 := Nat.mul_le_mul_right _ HY
       rw [Nat.add_mul] at this
       omega
     have Cj := Ef (P := P) b (o + n * 1) T' ys 0 arr w hw yX h1
     simp only [Nat.add_zero,Nat.mul_one] at Cj
     refine ⟨.slice (some ⟨b,o,none⟩) (n + m) c,w.setRow b (NT arr (o + n) ys),σ.set b (.cells (NT arr (o + n) ys) T' (0,0)),?_,hΦ _ _ _ ⟨hlen,by omega,.inr ⟨b,o,_,T',rfl,Hp.AB _ _ _,HY,by rw [IB]; exact GX,?_⟩⟩ (by rw [Hp.Iz]; exact Ext.refl _) (.inl ⟨rfl,rfl,HY⟩),?_⟩
     · simp [Builtin.append_,run_underlying ht,run_underlying hU,JN,hm,Go.sizeOf,typeInfo,hi,Builtin.lenOf,HY,hf,Bt,Cj]
     · refine List.ext_getElem? fun j => ?_
       rw [List.getElem?_take]
       simp only [List.getElem?_drop,Array.getElem?_toList]
       rw [Qv _ _ _ _ (by omega),List.getElem?_append]
       have e1 : cs.length = n * 1 := Bg.1
       have e2 : ys.length = m * 1 := hyl
       have e3 : (n + m) * 1 = n * 1 + m * 1 := Nat.add_mul ..
       by_cases yY : j < cs.length
       · rw [if_pos (by omega),if_neg (by omega),if_pos yY,← NU,List.getElem?_take,if_pos (by omega)]
         simp
       · rw [if_neg yY]
         by_cases hj2 : j < (n + m) * 1
         · rw [if_pos hj2,if_pos (by omega),show o + j - (o + n) = j - cs.length by omega]
         · rw [if_neg hj2,List.getElem?_eq_none (by omega)]
     · refine ⟨fun k u hk => ?_,fun k hk => ?_,.same rfl rfl rfl,rfl,by simp⟩
       · by_cases HZ : k = b
         · subst HZ; rw [Hp.AB] at hk; cases hk; exact setRow_heap w k arr _ T' (0,0) hw
         · rw [Hp.AI HZ] at hk; rw [setRow_other _ _ _ _ HZ]; exact hs k u hk
       · have HZ : k ≠ b := fun h => by have := (hF k hk).2; rw [h,hblk] at this; cases this
         exact ⟨by rw [Hp.AI HZ]; exact (hF k hk).2,setRow_other _ _ _ _ HZ⟩
 · -- it ADS
   have ADT : Builtin.nextslicecap (n + m) c * i.bytes ≤ 281474976710656 := growslice_fits (by omega) hb
   have hgc := grownCap_ge w (n + m) c E
   have Ol : Sat σ w.drew := hs
   have Cr : (Builtin.append_ #[T,U] ty #[.slice p n c,.string str]).run P w =
       .ok (.slice (some ⟨w.heap.size,0,none⟩) (n + m) (grownCap w (n + m) c E))
         (w.drew.alloc (.cells (cs.toArray ++ ys.toArray ++ Builtin.zeroCells z.cells (grownCap w (n + m) c E - (n + m))) E)) := by
     have yZ : ¬ (9223372036854775807 < ((n : Int) + (m : Int))) := by omega
     have ya : ¬ (281474976710656 < Builtin.nextslicecap (n + m) c * i.bytes) := by omega
     simp [Builtin.append_,run_underlying ht,run_underlying hU,JN,hm,Go.sizeOf,typeInfo,zeroValue,hi,hz,Builtin.lenOf,HY,yZ,ya,Question.forced,r8,MP _ Ol,newRow,grownCap]
     congr 2
     apply Array.ext'
     simp [List.append_assoc]
   refine ⟨_,_,σ.set w.heap.size _,Cr,hΦ _ _ _ ⟨hlen,by omega,.inr ⟨w.heap.size,0,_,E,rfl,Hp.AB _ _ _,hgc,?_,?_⟩⟩ ?_ (.inr ⟨by omega,Ext.set (Fj hs),fun a ha => by cases ha; exact Fj hs⟩),Fin.alloc hs hF _ rfl ⟨rfl,rfl,fun _ => ⟨1,rfl⟩⟩ rfl⟩
   · simp only [Array.size_append,List.size_toArray,size_zeroCells,hzs,Bg.1,hyl,← Nat.add_mul]
     have : n + m + (grownCap w (n + m) c E - (n + m)) = grownCap w (n + m) c E := by omega
     rw [this]; omega
   · simp only [Array.toList_append,List.drop_zero]
     rw [← hlen]
     exact List.take_left
   · rw [Hp.NY (Fj hs)]
     exact Ext.Iy σ p
end append
end Tw
end
section
namespace Tw
open Go
variable [FB]
def Hp.or (N M : Hp) : Hp := fun k => match N k with | some o => some o | none => M k
def Dis (N M : Hp) : Prop := ∀ k,M k ≠ none → N k = none
theorem Hp.uE {N M : Hp} {k : Nat} {o : Obj} (h : N k = some o) : N.or M k = some o := by simp [Hp.or,h]
theorem Hp.cp {N M : Hp} {k : Nat} (h : N k = none) : N.or M k = M k := by simp [Hp.or,h]
theorem Ext.uE (N M : Hp) : Ext N (N.or M) := fun _ _ h => Hp.uE h
theorem Ext.cp {N M : Hp} (hd : Dis N M) : Ext M (N.or M) := fun k o h => by rw [Hp.cp (hd k (by rw [h]; simp))]; exact h
theorem Ext.ow {N M σ : Hp} (h1 : Ext N σ) (h2 : Ext M σ) : Ext (N.or M) σ := fun k o h => by
 unfold Hp.or at h
 split at h
 · rename_i u hu; cases h; exact h1 _ _ hu
 · exact h2 _ _ h
end Tw
end
section
namespace TwW
open Go Tw Go.Proofs.Tryz
theorem Ad {σ : Hp} {b o : Nat} {c : Array Value} {t : TypeId} {fr : Nat × Nat} {v : Value} (h : σ b = some (.cells c t fr)) (hv : c[o]? = some v) : σ.ld ⟨b,o,none⟩ = some v := by simp [Hp.ld,h,hv]
section
variable {σ : Hp} {d : Nat} {S : List Nat} {R : Rr}
end
end TwW
namespace TwW
open Go Tw Go.Proofs.Tryz
section
variable {σ : Hp} {d : Nat} {S : List Nat} {R : Rr}
theorem BB.cap {s : Nat} {σ : Hp} {p : Option Addr} {n c : Nat} {cs : List Value} (h : BB s σ p n c cs) : n ≤ c := by
 rcases h.2.2 with ⟨_,h1,h2⟩ | ⟨b,o,arr,T,_,_,h3,_⟩
 · omega
 · exact h3
end
end TwW
namespace TwW
open Go Tw Go.Proofs.Tryz
def uv (x : Nat) : List Int := if h : 128 ≤ x then ((x % 128 + 128 : Nat) : Int) :: uv (x / 128) else [(x : Int)]
termination_by x
decreasing_by omega
theorem NC {x : Nat} (h : 128 ≤ x) : uv x = ((x % 128 + 128 : Nat) : Int) :: uv (x / 128) := by rw [uv,dif_pos h]
theorem E5 {x : Nat} (h : ¬ 128 ≤ x) : uv x = [(x : Int)] := by rw [uv,dif_neg h]
theorem ox : ∀ (k x : Nat),x < 128 ^ (k + 1) → (uv x).length ≤ k + 1
 | 0,x,h => by rw [E5 (by simpa using h)]; simp
 | k + 1,x,h => by
   by_cases hx : 128 ≤ x
   · rw [NC hx]
     have := ox k (x / 128) (by rw [Nat.div_lt_iff_lt_mul (by decide)]; rw [Nat.pow_succ] at h; exact h)
     simp; omega
   · rw [E5 hx]; simp
theorem LO {x : Nat} (h : x < 18446744073709551616) : (uv x).length ≤ 10 := ox 9 x (by omega)
set_option maxRecDepth 100000 in
theorem AHa : ∀ y : Fin 256,Go.bits .or .u8 (y.1 : Int) 128 = ((y.1 % 128 + 128 : Nat) : Int) := by decide
theorem N5 {R : Rr} {σ : Hp} {p : Option Addr} {n c x : Nat} {xs : List Int} (hr : FJ .u8 σ p n xs) (hn : n ≤ 70368744177664) (hx : x < 18446744073709551616)
   (h : ∀ p' n' c' σ',D0 .u8 (σ.new σ') p' n' c' (xs ++ uv x) → Ext σ σ' → R (.returned (.slice p' n' c')) σ') : Spec prog 107 #[.slice p n c,.int .u64 x] σ R := by
 refine D7.start fun b hb => ?_
 refine DQ BB.empty ((FC.of_map hr).mono (.set hb)) Gd.Qw (by omega) fun p' c' σ' Bg JO => ?_
 have hq : ∀ a : Addr,(some (⟨b,0,none⟩ : Addr)) = some a → σ a.block = none := fun a ha => by cases ha; exact hb
 have ho := BB.Om Bg (FP hq JO (.set hb))
 have he := I0 hq JO (.set hb)
 refine ⟨p',0 + n,c',rfl,?_⟩
 rw [Nat.zero_add] at ho ⊢
 have hlen := hr.1
 suffices H : ∀ (k x n' : Nat) p' c' σ' ys,x < 128 ^ (k + 1) → n' + k ≤ n + 9 → D0 .u8 (σ.new σ') p' n' c' ys → Ext σ σ' → (∀ p' n' c' σ',D0 .u8 (σ.new σ') p' n' c' (ys ++ uv x) → Ext σ σ' → R (.returned (.slice p' n' c')) σ') → D7.ES R x p' n' c' σ' from
   H 9 x n p' c' σ' xs (by omega) (by omega) ho he h
 intro k
 induction k with
 | zero =>
   intro x n' p' c' σ' ys hx XR ho he h
   refine D7.Af ⟨fun Aq => by omega,fun _ cS AA0 b2 M4 => ?_⟩
   have ct : cS = (x : Int) := by rw [AA0]; simp [IntKind.wrap,IntKind.bits,IntKind.signed]; omega
   subst ct
   refine D0.Jt he ho (by omega) (fun p2 c2 σ2 Ba rl _ => ⟨p2,n' + 1,c2,rfl,h _ _ _ _ ?_ rl⟩) M4
   rw [E5 (by omega)]; exact Ba
 | succ k ih =>
   intro x n' p' c' σ' ys hx XR ho he h
   refine D7.Af ⟨fun Aq x15 ANB x16 ANC b2 M4 => ?_,fun ck cS AA0 b2 M4 => ?_⟩
   · have h15 : x15 = ((x % 256 : Nat) : Int) := by rw [ANB]; simp [IntKind.wrap,IntKind.bits,IntKind.signed]
     have h16 : x16 = ((x % 128 + 128 : Nat) : Int) := by
       rw [ANC,h15,AHa ⟨x % 256,Nat.mod_lt _ (by decide)⟩]
       have : x % 256 % 128 = x % 128 := by omega
       rw [this]
     subst h16
     refine D0.Jt he ho (by omega) (fun p2 c2 σ2 Ba rl _ => ⟨p2,n' + 1,c2,rfl,by simp [IntKind.bits],fun x12 AND => ?_⟩) M4
     have XL : x12 = ((x / 128 : Nat) : Int) := by rw [AND]; simp
     subst XL
     refine ih (x / 128) (n' + 1) p2 c2 σ2 _ (by rw [Nat.div_lt_iff_lt_mul (by decide)]; rw [Nat.pow_succ] at hx; exact hx) (by omega) Ba rl fun p3 n3 c3 σ3 EB he3 => h p3 n3 c3 σ3 ?_ he3
     rw [NC (by omega)]
     simpa using EB
   · have ct : cS = (x : Int) := by rw [AA0]; simp [IntKind.wrap,IntKind.bits,IntKind.signed]; omega
     subst ct
     refine D0.Jt he ho (by omega) (fun p2 c2 σ2 Ba rl _ => ⟨p2,n' + 1,c2,rfl,h _ _ _ _ ?_ rl⟩) M4
     rw [E5 (by omega)]; exact Ba
theorem cu : ∀ (v w : Nat) (r s : List Int),uv v ++ r = uv w ++ s → v = w ∧ r = s := by
 intro v
 induction v using Nat.strongRecOn with
 | _ v ih =>
 intro w r s h
 by_cases hv : 128 ≤ v <;> by_cases hw : 128 ≤ w
 · rw [NC hv,NC hw] at h
   simp only [List.cons_append,List.cons.injEq] at h
   have := ih (v / 128) (by omega) (w / 128) r s h.2
   exact ⟨by omega,this.2⟩
 · rw [NC hv,E5 hw] at h
   simp only [List.cons_append,List.cons.injEq] at h
   omega
 · rw [E5 hv,NC hw] at h
   simp only [List.cons_append,List.cons.injEq] at h
   omega
 · rw [E5 hv,E5 hw] at h
   simp only [List.cons_append,List.nil_append,List.cons.injEq] at h
   exact ⟨by omega,h.2⟩
end TwW
namespace TwW
open Go Tw Go.RowKit Go.Proofs.Tryz
theorem FC.at1 {σ : Hp} {p : Option Addr} {n k : Nat} {L : List Value} {v : Value} (h : FC 1 σ p n L) (hk : L[k]? = some v) : ∃ b o,p = some ⟨b,o,none⟩ ∧ σ.ld ⟨b,o + k * 1,none⟩ = some v := by
 obtain ⟨h1,_,h2⟩ := h
 have Aq := (List.getElem?_eq_some_iff.1 hk).1
 rcases h2 with h2 | ⟨b,o,hp,hl⟩
 · simp at h1; omega
 · refine ⟨b,o,hp,?_⟩
   rw [Nat.mul_one]
   exact hl.get hk
section
variable {σ τ : Hp} {d : Nat} {R : Rr}
end
section
variable {dir : ByteArray} {cnt : Nat}
end
end TwW
namespace TwW
open Go Tw Go.RowKit Go.Proofs.Tryz
def ak (s : ByteArray) : List Int := s.data.toList.map fun b => (b.toNat : Int)
theorem MC {s : ByteArray} : (ak s).length = s.size := by simp [ak]
theorem oy {s : ByteArray} : TM s = (ak s).map (.int .u8) := by simp [TM,ak]
theorem TO (l : List UInt8) : strOfNums (l.map fun b => (b.toNat : Int)) = ⟨l.toArray⟩ := by
 apply ByteArray.ext
 apply Array.toList_inj.1
 rw [strOfNums_data,List.map_map]
 conv => rhs; rw [← List.map_id l]
 exact List.map_congr_left fun a _ => by simp
theorem VQ {s : ByteArray} : strOfNums (ak s) = s := by
 rw [ak,TO]
theorem fq {s t : ByteArray} (h : ak s = ak t) : s = t := by rw [← VQ (s := s),h,VQ]
section
variable {σ : Hp} {R : Rr}
theorem N6 {p : Option Addr} {n c : Nat} {xs : List Int} {s : ByteArray} (hr : FJ .u8 σ p n xs) (hn : n ≤ 1048576) (hs : s.size ≤ 1048576)
   (h : ∀ p' n' c' σ',D0 .u8 (σ.new σ') p' n' c' (xs ++ uv s.size ++ ak s) → Ext σ σ' → R (.returned (.slice p' n' c')) σ') : Spec prog 108 #[.slice p n c,.string s] σ R := by
 refine Me.start fun x8 h8 => ?_
 have e8 : x8 = (s.size : Int) := by rw [h8]; simp [IntKind.wrap,IntKind.bits,IntKind.signed]; omega
 subst e8
 refine N5 hr (by omega) (by omega) fun p' n' c' σ1 ho CO => ⟨p',n',c',rfl,?_⟩
 have hq : ∀ a,p' = some a → σ a.block = none := fun a ha => by
   have h2 := BB.block ho a ha
   cases hh : (σ.new σ1) a.block with
   | none => exact absurd hh h2
   | some o => exact (AV.1 hh).1
 have hl : (xs ++ uv s.size).length = n' := by have := ho.1; simpa using this
 have TP := LO (x := s.size) (by omega)
 have xo : xs.length = n := hr.1
 rw [List.length_append] at hl
 refine uD underlying9 (BB.mono (Ext.Cs _ _) ho) rfl oy (by omega) fun p2 c2 σ2 Ba A9 _ => ⟨p2,_,c2,rfl,?_⟩
 have M4 := FP hq A9 CO
 refine h p2 _ c2 σ2 ?_ (I0 hq A9 CO)
 have := BB.Om Ba M4
 simpa [D0] using this
theorem P6 {p : Option Addr} {n c : Nat} {xs : List Int} (h : D0 .u8 σ p n c xs) : xs.length = n := by have := h.1; simpa using this
theorem ft {s : ByteArray} : (ByteArray.toList s == ByteArray.toList (ByteArray.mk #[])) = decide (s.size = 0) := by
 rw [ByteArray.toList_eq,ByteArray.toList_eq]
 by_cases h : s.size = 0
 · have : s = ⟨#[]⟩ := ByteArray.ext (Array.eq_empty_of_size_eq_zero h)
   subst this; rfl
 · rw [decide_eq_false h]
   simp only [beq_eq_false_iff_ne]
   intro e
   apply h
   have := congrArg List.length e
   simpa using this
end
end TwW
namespace TwW
open Go Tw Go.RowKit Go.Proofs.Tryz
abbrev Lb := ByteArray × ByteArray
def Bs (_ : Hp) (vs : List Value) (x : Lb) : Prop := vs = [.string x.1,.string x.2]
theorem Bs.mono : HO Bs := fun _ _ _ _ _ h => h
abbrev Dq := Ab 2 Bs
section
variable {σ : Hp} {R : Rr}
theorem Dq.at {p : Option Addr} {n i : Nat} {ls : List Lb} {x : Lb} (hr : Dq σ p n ls) (hx : ls[i]? = some x) : ∃ b o,p = some ⟨b,o,none⟩ ∧ Ay σ b (o + i * 2) [.string x.1,.string x.2] := by
 obtain ⟨b,o,vs,hp,rfl,hl⟩ := Ab.idx hr hx
 exact ⟨b,o,hp,hl⟩
theorem Ub {s t : ByteArray} : (s.toList == t.toList) = decide (s = t) := by
 rw [ByteArray.toList_eq,ByteArray.toList_eq]
 by_cases h : s = t
 · subst h; simp
 · rw [decide_eq_false h,beq_eq_false_iff_ne]
   exact fun e => h (ByteArray.ext (Array.toList_inj.1 e))
theorem BI {α : Type} {xs : List α} {k : Nat} {y : α} (hy : xs[k]? = some y) : xs.drop k = y :: xs.drop (k + 1) := by
 obtain ⟨h,rfl⟩ := List.getElem?_eq_some_iff.1 hy
 exact List.drop_eq_getElem_cons h
def DE : List Lb → ByteArray → ByteArray
 | [],_ => ⟨#[]⟩
 | x :: l,k => if x.1 = k then x.2 else DE l k
theorem Uc {p : Option Addr} {n c : Nat} {ls : List Lb} {k : ByteArray} (hr : Dq σ p n ls) (h : R (.returned (.string (DE ls k))) σ) : Spec prog 180 #[.slice p n c,.string k] σ R := by
 refine IP.start ?_
 suffices H : ∀ d i : Nat,n - i = d → i ≤ n → DE ls k = DE (ls.drop i) k → IP.Hz R k p n c n i σ from H n 0 rfl (Nat.zero_le _) rfl
 intro d
 induction d with
 | zero =>
   intro i hd hi he
   refine IP.Bl ⟨fun Aq => by omega,fun _ => ?_⟩
   rw [List.drop_of_length_le (by rw [hr.1]; omega)] at he
   rw [he] at h; exact h
 | succ d ih =>
   intro i hd hi he
   refine IP.Bl ⟨fun _ => ?_,fun hh => by omega⟩
   have B9 : i < n := by omega
   obtain ⟨x,hx⟩ := hr.ex B9
   obtain ⟨b,o,rfl,hl⟩ := Dq.at hr hx
   rw [BI hx,DE] at he
   refine ⟨b,o,rfl,by omega,x.1,x.2,by simpa using hl,fun _ => ⟨fun hk => ?_,fun hk => ⟨AL B9 hr.big,ih (i + 1) (by omega) (by omega) ?_⟩⟩⟩
   · rw [Ub,decide_eq_true_eq] at hk
     rw [if_pos hk] at he
     rw [he] at h; exact h
   · rw [Ub,decide_eq_false_iff_not] at hk
     rwa [if_neg hk] at he
theorem Wj {s : ByteArray} {ok : UInt8 → Bool} {pt : Int → Prop} {G : Bool → Prop}
   (ko : G true → pt s.size) (Jf : ∀ (k : Nat) (u : UInt8),k < s.size → s.data[Int.toNat (k : Int)]? = some u → AJ ((k : Int) + 1) → (ok u = true → pt ((k : Int) + 1)) → (ok u = false → G false) → pt k)
   (h : G (s.data.toList.all ok)) (hb : s.size ≤ 4611686018427387904) : pt 0 := by
 have GX : s.data.toList.length = s.size := rfl
 suffices H : ∀ d k : Nat,s.size - k = d → k ≤ s.size → (s.data.toList.take k).all ok = true → pt k from H s.size 0 rfl (Nat.zero_le _) rfl
 intro d
 induction d with
 | zero =>
   intro k hd hk Js
   rw [List.take_of_length_le (by omega)] at Js
   rw [Js] at h
   have : k = s.size := by omega
   rw [this]; exact ko h
 | succ d ih =>
   intro k hd hk Js
   have HM : k < s.size := by omega
   obtain ⟨u,hu⟩ : ∃ u,s.data.toList[k]? = some u := ⟨_,List.getElem?_eq_getElem (by omega)⟩
   refine Jf k u HM (by simpa using hu) (by unfold AJ; omega) (fun hc => ih (k + 1) (by omega) (by omega) (by rw [Aa hu,List.all_append,Js]; simpa using hc)) fun hc => ?_
   have : s.data.toList.all ok = false := by
     rw [List.all_eq_false]
     exact ⟨u,List.mem_of_getElem? hu,by simp [hc]⟩
   rwa [this] at h
def uF (u : UInt8) : Bool := decide (48 ≤ u.toNat ∧ u.toNat ≤ 57)
def nch (u : UInt8) : Bool := decide (u.toNat = 95 ∨ (48 ≤ u.toNat ∧ u.toNat ≤ 57) ∨ (65 ≤ u.toNat ∧ u.toNat ≤ 90) ∨ (97 ≤ u.toNat ∧ u.toNat ≤ 122))
def CD (s : ByteArray) : Bool := decide (0 < s.size) && decide (s.size ≤ 64) && !(s.data.toList.head?.any uF) && s.data.toList.all nch
theorem LP {s : ByteArray} (h : R (.returned (.bool (CD s))) σ) : Spec prog 98 #[.string s] σ R := by
 have GX : s.data.toList.length = s.size := rfl
 refine FW.start ⟨fun h0 => ?_,fun h0 => ⟨fun h1 => ?_,fun h1 => ?_⟩⟩
 · rw [ft,decide_eq_true_eq] at h0
   simpa [CD,h0] using h
 · have : ¬ s.size ≤ 64 := by omega
   simpa [CD,this] using h
 · rw [ft,decide_eq_false_iff_not] at h0
   obtain ⟨u,hu⟩ : ∃ u,s.data.toList[0]? = some u := ⟨_,List.getElem?_eq_getElem (by omega)⟩
   have CP : s.data[Int.toNat (0 : Int)]? = some u := by simpa using hu
   have hh : s.data.toList.head? = some u := by rw [← hu]; cases s.data.toList <;> rfl
   have rest : uF u = false → FW.A0 R s 0 σ := fun hd => by
     have e : CD s = s.data.toList.all nch := by simp [CD,show 0 < s.size by omega,show s.size ≤ 64 by omega,hh,hd]
     rw [e] at h
     refine Wj (s := s) (pt := fun k => FW.A0 R s k σ) (ok := nch) (G := fun t => R (.returned (.bool t)) σ) (fun g => FW.BC ⟨fun Aq => by omega,fun _ => g⟩) (fun k u hk hu hi good bad => ?_) h (by omega)
     simp only [nch,decide_eq_true_eq,decide_eq_false_iff_not] at good bad
     refine FW.BC ⟨fun Aq => ⟨u,by omega,hu,?_⟩,fun ck => by omega⟩
     clear h
     generalize u.toNat = n at good bad
     repeat' (first | refine ⟨fun _ => ?_,fun _ => ?_⟩ | exact ⟨hi,good (by omega)⟩ | exact bad (by omega))
   simp only [uF,decide_eq_false_iff_not] at rest
   refine ⟨u,by omega,CP,fun h2 => ⟨u,by omega,CP,fun h3 => ?_,fun h3 => rest (by omega)⟩,fun h2 => rest (by omega)⟩
   have : uF u = true := by simp [uF]; omega
   simpa [CD,hh,this] using h
def vl : Nat → Nat → Nat → List UInt8 → Bool
 | 0,_,_,[] => true
 | _ + 1,_,_,[] => false
 | 0,_,_,c :: r =>
   if c.toNat < 128 then vl 0 128 191 r
   else if 194 ≤ c.toNat ∧ c.toNat ≤ 223 then vl 1 128 191 r
   else if 224 ≤ c.toNat ∧ c.toNat ≤ 239 then (if c.toNat = 224 then vl 2 160 191 r else if c.toNat = 237 then vl 2 128 159 r else vl 2 128 191 r)
   else if 240 ≤ c.toNat ∧ c.toNat ≤ 244 then (if c.toNat = 240 then vl 3 144 191 r else if c.toNat = 244 then vl 3 128 143 r else vl 3 128 191 r)
   else false
 | m + 1,lo,hi,c :: r => if c.toNat < lo ∨ hi < c.toNat then false else vl m 128 191 r
def ND (s : ByteArray) : Bool := vl 0 128 191 s.data.toList
theorem vl0 (l : List UInt8) (a b c d : Nat) : vl 0 a b l = vl 0 c d l := by cases l <;> rfl
attribute [local irreducible] Am.Bh Am.HS Am.mR in
theorem Qg {s : ByteArray} (hb : s.size ≤ 4611686018427387904) (h : R (.returned (.bool (ND s))) σ) : Spec prog 99 #[.string s] σ R := by
 have GX : s.data.toList.length = s.size := rfl
 refine Am.start ?_
 suffices H : ∀ d : Nat,(∀ k : Nat,s.size - k = d → k ≤ s.size → ND s = vl 0 128 191 (s.data.toList.drop k) → Am.Bh R s k σ) ∧
     (∀ (k m lo hi : Nat),s.size - k = d → k ≤ s.size → ND s = vl m lo hi (s.data.toList.drop k) → m ≤ 3 → Am.mR R s k m lo hi σ) from (H s.size).1 0 (by omega) (by omega) rfl
 intro d
 induction d with
 | zero =>
   have A : ∀ k : Nat,s.size - k = 0 → k ≤ s.size → ND s = vl 0 128 191 (s.data.toList.drop k) → Am.Bh R s k σ := fun k hd hk he => by
     refine Am.A3 ⟨fun _ => ?_,fun A5 => by omega⟩
     rw [List.drop_of_length_le (by omega)] at he
     rw [he] at h; exact h
   refine ⟨A,fun k m lo hi hd hk he hm => Am.fY ⟨fun h0 => A k hd hk ?_,fun h0 => ⟨fun _ => ?_,fun A5 => by omega⟩⟩⟩
   · have : m = 0 := by omega
     subst this; rw [he]; exact vl0 _ _ _ _ _
   · obtain ⟨m',rfl⟩ : ∃ m',m = m' + 1 := ⟨m - 1,by omega⟩
     rw [List.drop_of_length_le (by omega)] at he
     rw [he] at h; exact h
 | succ d ih =>
   have A : ∀ k : Nat,s.size - k = d + 1 → k ≤ s.size → ND s = vl 0 128 191 (s.data.toList.drop k) → Am.Bh R s k σ := fun k hd hk he => by
     have HM : k < s.size := by omega
     obtain ⟨u,hu⟩ : ∃ u,s.data.toList[k]? = some u := ⟨_,List.getElem?_eq_getElem (by omega)⟩
     have CP : s.data[Int.toNat (k : Int)]? = some u := by simpa using hu
     have hi : AJ ((k : Int) + 1) := by unfold AJ; omega
     rw [BI hu,vl] at he
     have st : ∀ (m lo hi : Nat),m ≤ 3 → ND s = vl m lo hi (s.data.toList.drop (k + 1)) → Am.HS R s k m lo hi σ := fun m lo hh hm he => Am.tU ⟨hi,ih.2 (k + 1) m lo hh (by omega) (by omega) he hm⟩
     have nx : ND s = vl 0 128 191 (s.data.toList.drop (k + 1)) → Am.Bh R s ((k : Int) + 1) σ := fun he => ih.1 (k + 1) (by omega) (by omega) he
     have no : ND s = false → R (.returned (.bool false)) σ := fun e => by rw [e] at h; exact h
     refine Am.A3 ⟨fun A5 => by omega,fun _ => ⟨u,by omega,CP,?_⟩⟩
     generalize s.data.toList.drop (k + 1) = r at he st nx
     clear ih h hu CP
     generalize u.toNat = n at he
     have st1 := st 1 128 191 (by omega)
     have st2 := st 2 160 191 (by omega)
     have vh := st 2 128 159 (by omega)
     have st4 := st 2 128 191 (by omega)
     have st5 := st 3 144 191 (by omega)
     have st6 := st 3 128 143 (by omega)
     have st7 := st 3 128 191 (by omega)
     repeat' (first | refine ⟨fun _ => ?_,fun _ => ?_⟩ | refine ⟨hi,nx ?_⟩ | refine st1 ?_ | refine st2 ?_ | refine vh ?_ | refine st4 ?_ | refine st5 ?_ | refine st6 ?_ | refine st7 ?_ | refine no ?_)
     all_goals first | (exfalso; clear he; omega) | (rw [he]; repeat' (first | rfl | rw [if_pos (by omega)] | rw [if_neg (by omega)]))
   refine ⟨A,fun k m lo hi hd hk he hm => Am.fY ⟨fun h0 => A k hd hk ?_,fun h0 => ⟨fun A5 => by omega,fun _ => ?_⟩⟩⟩
   · have : m = 0 := by omega
     subst this; rw [he]; exact vl0 _ _ _ _ _
   · obtain ⟨m',rfl⟩ : ∃ m',m = m' + 1 := ⟨m - 1,by omega⟩
     have HM : k < s.size := by omega
     obtain ⟨u,hu⟩ : ∃ u,s.data.toList[k]? = some u := ⟨_,List.getElem?_eq_getElem (by omega)⟩
     have CP : s.data[Int.toNat (k : Int)]? = some u := by simpa using hu
     rw [BI hu,vl] at he
     refine ⟨u,by omega,CP,fun h1 => ?_,fun h1 => ⟨u,by omega,CP,fun h2 => ?_,fun h2 => ⟨by unfold AJ; omega,by unfold AJ; omega,?_⟩⟩⟩
     · rw [if_pos (by omega)] at he
       rw [he] at h; exact h
     · rw [if_pos (by omega)] at he
       rw [he] at h; exact h
     · rw [if_neg (by omega)] at he
       have := ih.2 (k + 1) m' 128 191 (by omega) (by omega) he (by omega)
       have e1 : ((m' + 1 : Nat) : Int) - 1 = (m' : Nat) := by omega
       rw [e1]; exact this
end
end TwW
namespace TwW
open Go Tw Go.RowKit Go.Proofs.Tryz
section
variable {σ : Hp} {R : Rr}
def sle (a b : ByteArray) : Bool := Op.bytesLess a.toList b.toList || a.toList == b.toList
theorem oz {x y : Operand} {a b : ByteArray} {T : TypeId} : YF prog (do eqGuard .leq T x y (.string a) (.string b); binOp .leq T (.string a) (.string b)) σ (.bool (sle a b)) := fun w _ => by
 simp [eqGuard,binOp,Op.stringOp,sle]
def C4 : Option ByteArray → List Lb → Int
 | _,[] => 0
 | pv,x :: l => if CD x.1 = false then 31 else if x.2.size = 0 ∨ 256 < x.2.size ∨ ND x.2 = false then 32 else if pv.any (sle x.1 ·) = true then 33 else C4 (some x.1) l
def Dr (ls : List Lb) : Int := if 16 < ls.length then 30 else C4 none ls
theorem Qh {p : Option Addr} {n c : Nat} {ls : List Lb} (hr : Dq σ p n ls) (h : R (.returned (.int .i64 (Dr ls))) σ) : Spec prog 68 #[.slice p n c] σ R := by
 have hn : ls.length = n := hr.1
 refine ER.start ⟨fun h1 => ?_,fun h1 => ?_⟩
 · rw [Dr,if_pos (by omega)] at h; exact h
 rw [Dr,if_neg (by omega)] at h
 let pv : Nat → Option ByteArray := fun i => if i = 0 then none else (ls[i - 1]?).map (·.1)
 suffices H : ∀ d i : Nat,n - i = d → i ≤ n → C4 none ls = C4 (pv i) (ls.drop i) → ER.MT R p n c p n c n i σ from H n 0 rfl (Nat.zero_le _) rfl
 intro d
 induction d with
 | zero =>
   intro i hd hi he
   refine ER.I4 ⟨fun Aq => by omega,fun _ => ?_⟩
   rw [List.drop_of_length_le (by omega)] at he
   rw [he] at h; exact h
 | succ d ih =>
   intro i hd hi he
   have B9 : i < n := by omega
   obtain ⟨x,hx⟩ := hr.ex B9
   obtain ⟨b,o,rfl,hl⟩ := Dq.at hr hx
   rw [BI hx,C4] at he
   have out : ∀ e : Int,C4 none ls = e → R (.returned (.int .i64 e)) σ := fun e h1 => h1 ▸ h
   refine ER.I4 ⟨fun _ => ?_,fun hh => by omega⟩
   refine ⟨b,o,rfl,by omega,x.1,x.2,by simpa using hl,fun _ => LP ⟨_,rfl,fun h1 => out _ ?_,fun h1 => ?_⟩⟩
   · rw [he,if_pos h1]
   rw [if_neg (by simp [h1])] at he
   rw [ft]
   refine ⟨fun h2 => out _ ?_,fun h2 => ⟨fun h3 => out _ ?_,fun h3 => Qg (by omega) ⟨_,rfl,fun h4 => out _ ?_,fun h4 => ?_⟩⟩⟩
   · rw [he,if_pos (.inl (by simpa using h2))]
   · rw [he,if_pos (.inr (.inl (by omega)))]
   · rw [he,if_pos (.inr (.inr h4))]
   rw [if_neg (by rw [decide_eq_false_iff_not] at h2; simp [h2,h4]; omega)] at he
   have nx : pv (i + 1) = some x.1 := by simp [pv,hx]
   have go : (pv i).any (sle x.1 ·) = false → ER.MT R (aD b o) n c (aD b o) n c n ((i : Int) + 1) σ := fun h5 => by
     rw [if_neg (by simp [h5]),← nx] at he
     exact ih (i + 1) (by omega) (by omega) he
   refine ⟨fun h5 => ?_,fun h5 => ⟨AL B9 hr.big,go ?_⟩⟩
   · obtain ⟨y,hy⟩ := hr.ex (k := i - 1) (by omega)
     obtain ⟨b',o',hp,fH⟩ := Dq.at hr hy
     cases hp
     have e1 : ((i : Int) - 1).toNat = i - 1 := by omega
     have hpv : pv i = some y.1 := by simp [pv,hy,show i ≠ 0 by omega]
     refine ⟨by have := hr.big; unfold AJ; omega,b,o,rfl,by omega,y.1,by rw [e1]; exact fH.1,_,oz,fun h6 => out _ ?_,fun h6 => ⟨AL B9 hr.big,go ?_⟩⟩
     · rw [he,if_pos (by rw [hpv]; exact h6)]
     · rw [hpv]; exact h6
   · have : i = 0 := by omega
     simp [pv,this]
theorem VR : ∀ {ls : List Lb} {pv : Option ByteArray},C4 pv ls = 0 → ∀ x ∈ ls,CD x.1 = true ∧ 0 < x.2.size ∧ x.2.size ≤ 256 ∧ ND x.2 = true
 | [],_,_,_,hx => by cases hx
 | y :: l,pv,h,x,hx => by
   rw [C4] at h
   split at h
   · cases h
   split at h
   · cases h
   split at h
   · cases h
   rename_i h1 h2 h3
   rcases List.mem_cons.1 hx with rfl | hx
   · simp only [not_or,Bool.not_eq_false] at h1 h2
     exact ⟨h1,by omega,by omega,h2.2.2⟩
   · exact VR h x hx
def Ao (ls : List Lb) : Prop := ls.length ≤ 16 ∧ ∀ x ∈ ls,x.1.size ≤ 256 ∧ x.2.size ≤ 256
theorem Ao.of {ls : List Lb} (h : Dr ls = 0) : Ao ls := by
 unfold Dr at h
 split at h
 · cases h
 · refine ⟨by omega,fun x hx => ?_⟩
   obtain ⟨h1,_,h2,_⟩ := VR h x hx
   simp [CD] at h1
   exact ⟨by omega,h2⟩
theorem Bs.one (σ : Hp) (vs : List Value) (x : Lb) (h : Bs σ vs x) : Gd vs := by
 rw [h]
 intro u hu
 simp only [List.mem_cons,List.not_mem_nil,or_false] at hu
 rcases hu with rfl | rfl <;> rfl
theorem FZ {σ1 : Hp} {q : Option Addr} {j c b : Nat} {ls : List Lb} {ty : TypeId} {Φ : Value → Hp → Prop} (ht : Dq σ1 q j ls) (hb : j ≤ 1000000000)
   (hΦ : ∀ p' c' σ',Ge 2 Bs (σ1.new σ') p' j c' ls → Ext σ1 σ' → Φ (.slice p' j c') σ') (hn : σ1 b = none) :
   AK prog (Builtin.append_ #[37,37] ty #[.slice (some ⟨b,0,none⟩) 0 0,.slice q j c]) (σ1.set b (.cells #[] 56 (0,0))) Φ := by
 obtain ⟨h1,cs,h2,h3⟩ := ht
 refine DQ BB.empty (h2.mono (.set hn)) (Ch.ki Bs.one h3 (by decide)) (by omega) fun p' c' σ' Bg JO => ?_
 have hq : ∀ a : Addr,(some (⟨b,0,none⟩ : Addr)) = some a → σ1 a.block = none := fun a ha => by cases ha; exact hn
 rw [Nat.zero_add] at Bg ⊢
 rw [List.nil_append] at Bg
 exact hΦ p' c' σ' ⟨h1,cs,BB.Om Bg (FP hq JO (.set hn)),h3⟩ (I0 hq JO (.set hn))
def Mm (x : Lb) : List Int := uv x.1.size ++ ak x.1 ++ (uv x.2.size ++ ak x.2)
def iy (ls : List Lb) : List Int := uv ls.length ++ ls.flatMap Mm
theorem iz {x : Lb} (h : x.1.size ≤ 256 ∧ x.2.size ≤ 256) : (Mm x).length ≤ 532 := by
 have h1 := LO (x := x.1.size) (by omega)
 have h2 := LO (x := x.2.size) (by omega)
 simp only [Mm,List.length_append,MC]
 omega
theorem o0 {ls : List Lb} (h : ∀ x ∈ ls,x.1.size ≤ 256 ∧ x.2.size ≤ 256) : (ls.flatMap Mm).length ≤ ls.length * 532 := by
 induction ls with
 | nil => simp
 | cons x l ih =>
   have := ih fun y hy => h y (List.mem_cons_of_mem _ hy)
   have := iz (h x (by simp))
   rw [List.flatMap_cons,List.length_append,List.length_cons]
   omega
theorem Wk {p : Option Addr} {n c : Nat} {ls : List Lb} (hr : Dq σ p n ls) (hs : Ao ls) (h : ∀ p' n' c' σ',D0 .u8 (σ.new σ') p' n' c' (iy ls) → Ext σ σ' → R (.returned (.slice p' n' c')) σ') : Spec prog 72 #[.slice p n c] σ R := by
 have hn : ls.length = n := hr.1
 have h16 := hs.1
 refine E1.start fun x8 h8 => ?_
 have e8 : x8 = (n : Int) := by rw [h8]; simp [IntKind.wrap,IntKind.bits,IntKind.signed]; omega
 subst e8
 refine N5 Ab.nil (by omega) (by omega) fun p1 n1 c1 σ1 br CO => ⟨p1,n1,c1,rfl,?_⟩
 rw [List.nil_append] at br
 suffices H : ∀ d k : Nat,∀ p3 n3 c3 σ3,n - k = d → k ≤ n → D0 .u8 (σ.new σ3) p3 n3 c3 (uv n ++ (ls.take k).flatMap Mm) → Ext σ σ3 → E1.BA R p3 n3 c3 p n c n k σ3 from H n 0 p1 n1 c1 σ1 rfl (Nat.zero_le _) (by simpa using br) CO
 intro d
 induction d with
 | zero =>
   intro k p3 n3 c3 σ3 hd hk ho hx
   refine E1.AZ ⟨fun Aq => by omega,fun _ => h p3 n3 c3 σ3 ?_ hx⟩
   rw [List.take_of_length_le (by omega)] at ho
   rw [iy,hn]; exact ho
 | succ d ih =>
   intro k p3 n3 c3 σ3 hd hk ho hx
   have HM : k < n := by omega
   obtain ⟨y,hy⟩ := hr.ex HM
   obtain ⟨b,o,rfl,hl⟩ := Dq.at hr hy
   have kK := hs.2 y (List.mem_of_getElem? hy)
   have hl3 := P6 ho
   have TP := LO (x := n) (by omega)
   have hfl := o0 (ls := ls.take k) fun x hx => hs.2 x (List.mem_of_mem_take hx)
   rw [List.length_append] at hl3
   rw [List.length_take] at hfl
   have h3b : n3 ≤ 9000 := by omega
   refine E1.AZ ⟨fun _ => ⟨b,o,rfl,by omega,y.1,y.2,by simpa using hl.mono hx,fun _ => ?_⟩,fun hh => by omega⟩
   refine N6 (D0.rd (BB.mono (Ext.Cs _ _) ho)) (by omega) (by omega) fun p4 n4 c4 σ4 Mn NV => ⟨p4,n4,c4,rfl,?_⟩
   have hl4 := P6 Mn
   have jA := LO (x := y.1.size) (by omega)
   simp only [List.length_append,MC] at hl4
   refine N6 (D0.rd (BB.mono (Ext.Cs _ _) Mn)) (by omega) (by omega) fun p5 n5 c5 σ5 RD Ud => ⟨p5,n5,c5,rfl,AL HM hr.big,?_⟩
   refine ih (k + 1) p5 n5 c5 σ5 (by omega) (by omega) ?_ (hx.trans (NV.trans Ud))
   have := BB.mono (Ext.Ck (hx.trans NV)) RD
   rw [Aa hy,List.flatMap_append]
   simpa [Mm,D0] using this
end
end TwW
namespace TwW
open Go Tw Go.RowKit Go.Proofs.Tryz
section
variable {σ σ' τ : Hp} {R : Rr}
def DA (x : ByteArray) (xs : List ByteArray) : Bool := xs.any fun y => decide (x = y)
theorem BL {x : ByteArray} {xs : List ByteArray} : DA x xs = true ↔ x ∈ xs := by simp [DA]
theorem LR {p : Option Addr} {n c : Nat} {x : ByteArray} {xs : List ByteArray} (hr : FC 1 σ p n (xs.map .string)) (h : R (.returned (.bool (DA x xs))) σ) : Spec prog 199 #[.slice p n c,.string x] σ R := by
 have hn : xs.length = n := by have := hr.1; simpa using this
 have NF : n ≤ 4611686018427387904 := hr.2.1
 have key : ∀ i : Int,(0 ≤ i ↔ x ∈ xs) → AA R (CI .i64 fun x7 y => R (.returned (.bool (decide (0 ≤ x7)))) y) (.returned (.int .i64 i)) σ := fun i hi => ⟨i,rfl,by
   dsimp only
   rw [show decide (0 ≤ i) = DA x xs by rw [Bool.eq_iff_iff,BL,decide_eq_true_eq]; exact hi]; exact h⟩
 refine En.start (BP.start ?_)
 suffices H : ∀ d k : Nat,n - k = d → k ≤ n → x ∉ xs.take k → BP.Hz (AA R (CI .i64 fun x7 y => R (.returned (.bool (decide (0 ≤ x7)))) y)) p n c x n k σ from H n 0 rfl (Nat.zero_le _) (by simp)
 intro d
 induction d with
 | zero =>
   intro k hd hk EA
   refine BP.Bl ⟨fun Aq => by omega,fun _ => key (-1) ?_⟩
   rw [List.take_of_length_le (by omega)] at EA
   exact ⟨fun h => absurd h (by decide),fun h => absurd h EA⟩
 | succ d ih =>
   intro k hd hk EA
   have HM : k < n := by omega
   obtain ⟨y,hy⟩ : ∃ y,xs[k]? = some y := ⟨_,List.getElem?_eq_getElem (by omega)⟩
   obtain ⟨b,o,rfl,hl⟩ := FC.at1 hr (k := k) (v := .string y) (by rw [List.getElem?_map,hy]; rfl)
   refine BP.Bl ⟨fun _ => ⟨b,o,rfl,by omega,y,by simpa using hl,fun he => key k ⟨fun _ => ?_,fun _ => by omega⟩,fun A5 => ⟨AL HM NF,ih (k + 1) (by omega) (by omega) ?_⟩⟩,fun ck => by omega⟩
   · rw [Ub,decide_eq_true_eq] at he
     rw [he]; exact List.mem_of_getElem? hy
   · rw [Ub,decide_eq_false_iff_not] at A5
     rw [UP hy]
     rintro (h1 | h1)
     · exact EA h1
     · exact A5 h1
theorem P7 {f : Nat} {cap : Array Value} {g : Lb → Bool} {p : Option Addr} {n c : Nat} {ls : List Lb} (Og : Enters prog f) (hr : Dq σ p n ls) (hn : n ≤ 1000000)
   (hf : ∀ (σ' : Hp) (x : Lb) (R' : Rr),Ext σ σ' → R' (.returned (.bool (g x))) σ' → Spec prog f (#[] ++ #[.agg #[.string x.1,.string x.2]] ++ cap) σ' R')
   (h : ∀ p' n' c' σ',Ge 2 Bs (σ.new σ') p' n' c' (ls.filter g) → Ext σ σ' → R (.returned (.slice p' n' c')) σ') : Spec prog 197 #[.slice p n c,.func (.func f) #[] cap] σ R := by
 have uG : ls.length = n := hr.1
 refine CY.start ?_
 suffices H : ∀ d k : Nat,∀ p5 n5 c5 σ5,n - k = d → k ≤ n → Ge 2 Bs (σ.new σ5) p5 n5 c5 ((ls.take k).filter g) → Ext σ σ5 → CY.BA R (.func (.func f) #[] cap) p5 n5 c5 p n c n k σ5 from H n 0 none 0 0 σ rfl (Nat.zero_le _) Ge.nil (.refl _)
 intro d
 induction d with
 | zero =>
   intro k p5 n5 c5 σ5 hd hk ho hx
   refine CY.AZ ⟨fun Aq => by omega,fun _ => h p5 n5 c5 σ5 ?_ hx⟩
   rw [List.take_of_length_le (by omega)] at ho; exact ho
 | succ d ih =>
   intro k p5 n5 c5 σ5 hd hk ho hx
   have HM : k < n := by omega
   obtain ⟨x,jB⟩ := hr.ex HM
   obtain ⟨b,o,rfl,hl⟩ := Dq.at hr jB
   have hn5 : n5 ≤ n := by
     have h1 := ho.1
     have h2 := List.length_filter_le g (ls.take k)
     rw [List.length_take] at h2
     omega
   have ht : (ls.take (k + 1)).filter g = (ls.take k).filter g ++ if g x then [x] else [] := by
     rw [Aa jB,List.filter_append]
     by_cases hg : g x <;> simp [hg]
   refine CY.AZ ⟨fun _ => ⟨b,o,rfl,by omega,x.1,x.2,by simpa using hl.mono hx,fun _ => ⟨f,#[],cap,rfl,Og,hf σ5 x _ hx ⟨_,rfl,fun hg Cc ANF => ?_,fun hg => ?_⟩⟩⟩,fun hh => by omega⟩
   · refine Ge.Jt Bs.mono (vs := [.string x.1,.string x.2]) (x := x) hx ho rfl (Bs.one σ _ _ rfl) rfl (by omega) (fun p' c' σ' MP Wl => ⟨_,_,_,rfl,CY.MA ⟨AL HM hr.big,ih (k + 1) _ _ _ _ (by omega) (by omega) ?_ Wl⟩⟩) ANF
     rw [ht,if_pos hg]; exact MP
   · refine CY.MA ⟨AL HM hr.big,ih (k + 1) _ _ _ _ (by omega) (by omega) ?_ hx⟩
     rw [ht,if_neg (by simp [hg]),List.append_nil]; exact ho
theorem AHd : Enters prog 200 := fun args w => call200 args w
theorem JP {p q : Option Addr} {n c m d : Nat} {ls : List Lb} {ns : List ByteArray} (hr : Dq σ p n ls) (hn : n ≤ 1000000) (hs : FC 1 σ q m (ns.map .string))
   (h : ∀ p' n' c' σ',Ge 2 Bs (σ.new σ') p' n' c' (ls.filter fun x => !DA x.1 ns) → Ext σ σ' → R (.returned (.slice p' n' c')) σ') : Spec prog 150 #[.slice p n c,.slice q m d] σ R := by
 refine Mk.start fun b3 al => ?_
 have C5 : Ext σ (σ.set b3 (.cells #[.slice q m d] 34 (0,0))) := .set al
 refine P7 (f := 200) (g := fun x => !DA x.1 ns) AHd (hr.mono Bs.mono C5) hn (fun σ' x R' hx MD => ?_) fun p' n' c' σ' ho hx => ⟨_,_,_,rfl,h p' n' c' σ' ?_ (C5.trans hx)⟩
 · refine Jp.start fun _ => ⟨q,m,d,Ad (hx _ _ (Hp.AB _ _ _)) rfl,LR (hs.mono (C5.trans hx)) ⟨_,rfl,MD⟩⟩
 · exact ho.mono Bs.mono (Ext.Ck C5)
end
end TwW
namespace TwW
open Go Tw Go.RowKit Go.Proofs.Tryz
section
variable {σ σ' τ : Hp} {R : Rr}
theorem Wm {α : Type} {b : Nat} {T : TypeId} {f : α → Value} {x : α} {ρ : Hp} (h : ρ b = some (.cells #[f x] T (0,0))) : FC 1 ρ (some ⟨b,0,none⟩) 1 ([x].map f) := ⟨rfl,by omega,.inr ⟨b,0,rfl,⟨Ad h rfl,trivial⟩⟩⟩
end
end TwW
end
section
namespace TwW
open Go Tw
structure Mt where
 kind : Int
 name : ByteArray
 val : ByteArray
structure Nd where
 kind : Int
 op : Int
 text : ByteArray
 mt : List Mt
 width : Int
 back : Int
 Ec : Int
 names : List ByteArray
 bool : Bool
 parts : Int
structure Sr where
 ls : List Lb
 ps : List (Int × Int)
structure El where
 ls : List Lb
 v : Int
structure Rg where
 ls : List Lb
 vs : List Int
structure Vv where
 kind : Int
 v : Int
 vec : List El
 Ow : List Rg
structure Fl where
 num : ByteArray → Int
 abs : Int → Int
 floor : Int → Int
 whole : Int → Int
 pA : Int → Int
 over : Int → List Int → Int → Option Int
 fold : Int → List Int → Int
 N7 : Int → Int → Int → Int × Bool
 ZL : List Mt → List Lb → Bool
 cmpL : List Lb → List Lb → Int
abbrev IV : Int := 9218868437227405314
def A4 : ByteArray := ⟨#[95,95,110,97,109,101,95,95]⟩
def D8 (ls : List Lb) : ByteArray := strOfNums (iy ls)
section
variable {α : Type}
def Qi : List (ByteArray × α) → ByteArray → α → List (ByteArray × α)
 | [],k,x => [(k,x)]
 | (a,b) :: l,k,x => if a = k then (k,x) :: l else (a,b) :: Qi l k x
def C6 : List (ByteArray × α) → ByteArray → Option α
 | [],_ => none
 | (a,b) :: l,k => if a = k then some b else C6 l k
end
def BF (ls : List Lb) : List Lb := ls.filter fun x => !DA x.1 [A4]
def VT (ns : List ByteArray) (ls : List Lb) : List Lb := ls.filter fun x => DA x.1 ns
def TQ (ns : List ByteArray) (ls : List Lb) : List Lb := ls.filter fun x => !DA x.1 ns
section
variable (F : Fl)
def cw (x : El) : List El → List El
 | [] => [x]
 | y :: l => if F.cmpL x.ls y.ls ≤ 0 then x :: y :: l else y :: cw x l
def ZM (l : List El) : List El := l.foldr (cw F) []
def Ca (l : List El) : Option (List El) := if l.Pairwise (fun a b => F.cmpL a.ls b.ls ≠ 0) then some (ZM F l) else none
def F5 (ps : List (Int × Int)) (D9 HH : Int) : List (Int × Int) := ps.filter fun p => decide (D9 < p.1) && decide (p.1 ≤ HH)
def As (n : Nd) (ss : List Sr) (at_ : Int) : List El := ss.filterMap fun s => match (F5 s.ps (at_ - n.back - 300) (at_ - n.back)).getLast? with
 | none => none
 | some p => if p.2 = IV ∨ F.ZL n.mt s.ls = false then none else some ⟨s.ls,p.2⟩
def Wn (n : Nd) (ss : List Sr) (at_ : Int) : List Rg := ss.filterMap fun s =>
 let vs := ((F5 s.ps (at_ - n.back - n.width) (at_ - n.back)).filter fun p => decide (p.2 ≠ IV)).map Prod.snd
 bif !vs.isEmpty && F.ZL n.mt s.ls then some ⟨s.ls,vs⟩ else none
def TR (n : Nd) (p : Vv) : List El := (p.vec.map fun x => ⟨BF x.ls,if n.op = 11 then F.abs x.v else F.floor x.v⟩) ++ p.Ow.filterMap fun s => (F.over n.op s.vs p.v).map fun v => ⟨BF s.ls,v⟩
def EL (n : Nd) (ls : List Lb) : List Lb := if n.Ec = 1 then VT n.names ls else if n.Ec = 2 then BF (TQ n.names ls) else []
def IW (ls : List Lb) (v : Int) : List Rg → List Rg
 | [] => [⟨ls,[v]⟩]
 | g :: l => if D8 g.ls = D8 ls then ⟨g.ls,g.vs ++ [v]⟩ :: l else g :: IW ls v l
def cz (n : Nd) (p : Vv) : List El := (p.vec.foldl (fun gs x => IW (EL n x.ls) x.v gs) []).map fun g => ⟨g.ls,F.fold n.op g.vs⟩
def F6 (op : Int) : Bool := decide (5 ≤ op) && decide (op ≤ 10)
def TS (n : Nd) (vec : List El) (f : Int → Int × Bool) : List El := vec.filterMap fun x =>
 if F6 n.op = false ∨ n.bool = true then some ⟨BF x.ls,(f x.v).1⟩ else if (f x.v).2 then some x else none
def Ed (n : Nd) (ls : List Lb) : List Lb := if n.Ec = 3 then VT n.names ls else BF (TQ n.names ls)
def TT (n : Nd) (l : List El) : List (ByteArray × El) := l.foldl (fun m x => Qi m (D8 (Ed n x.ls)) x) []
def C7 (n : Nd) (l : List El) (k : List Lb) : Option El := C6 (TT n l) (D8 k)
def jC (n : Nd) (l : List El) : Bool := decide ((TT n l).length = l.length)
def E6 (n : Nd) (x y : List El) : List El :=
 (x.filter fun e => decide (n.op = 12) || ((C7 n y (Ed n e.ls)).isSome == decide (n.op = 11))) ++ y.filter fun e => (C7 n x (Ed n e.ls)).isNone && decide (n.op = 12)
def N8 (n : Nd) (x y : List El) : Option (List El) := if jC n x && jC n y then some (x.filterMap fun e => match C7 n y (Ed n e.ls) with
 | none => none
 | some o => if F6 n.op = false ∨ n.bool = true then some ⟨Ed n e.ls,(F.N7 n.op e.v o.v).1⟩ else if (F.N7 n.op e.v o.v).2 then some e else none) else none
def ZN (n : Nd) (x y : Vv) : Option Vv :=
 if x.kind = 1 ∧ y.kind = 1 then some ⟨1,(F.N7 n.op x.v y.v).1,[],[]⟩
 else ((if x.kind = 1 then some (TS n y.vec (F.N7 n.op x.v)) else if y.kind = 1 then some (TS n x.vec fun v => F.N7 n.op v y.v) else if 11 ≤ n.op ∧ n.op ≤ 13 then some (E6 n x.vec y.vec) else N8 F n x.vec y.vec).bind (Ca F)).map fun l => ⟨2,0,l,[]⟩
def jD (p : Vv) : Option Vv := if p.kind = 1 then some ⟨1,F.pA p.v,[],[]⟩ else (Ca F (p.vec.map fun x => ⟨BF x.ls,F.pA x.v⟩)).map fun l => ⟨2,0,l,[]⟩
def Gb (ss : List Sr) (at_ : Int) (n : Nd) (l : List Vv) : Option Vv :=
 if n.kind = 1 then some ⟨1,F.num n.text,[],[]⟩
 else if n.kind = 2 then some ⟨2,0,As F n ss at_,[]⟩
 else if n.kind = 3 then some ⟨3,F.whole n.width,[],Wn F n ss at_⟩
 else match l with
   | [p] => if n.kind = 4 then (Ca F (TR F n p)).map fun l => ⟨2,0,l,[]⟩ else if n.kind = 5 then (Ca F (cz F n p)).map fun l => ⟨2,0,l,[]⟩ else if n.kind = 7 then jD F p else none
   | [p,q] => if n.kind = 6 then ZN F n p q else none
   | _ => none
def JQ (ss : List Sr) (at_ : Int) : List Nd → List Vv → Option (List Vv)
 | [],st => some st
 | n :: t,st => (Gb F ss at_ n (st.drop (st.length - n.parts.toNat))).bind fun v => JQ ss at_ t (st.take (st.length - n.parts.toNat) ++ [v])
def A7 (t : List Nd) (ss : List Sr) (at_ : Int) : Option (List El) := (JQ F ss at_ t []).bind fun st => st.head?.map fun v => if v.kind = 1 then [⟨[],v.v⟩] else v.vec
end
section
variable {F : Fl}
end
end TwW
end
section
namespace TwW
open Go Tw
structure Mo {α : Type} (c : α → α → Int) : Prop where
 eq : ∀ x y,c x y = 0 ↔ x = y
 Qj : ∀ x y,c x y < 0 ↔ 0 < c y x
 trans : ∀ x y z,c x y < 0 → c y z < 0 → c x z < 0
def IX {α : Type} (c : α → α → Int) : List α → List α → Int
 | [],[] => 0
 | [],_ :: _ => -1
 | _ :: _,[] => 1
 | x :: l,y :: m => if c x y = 0 then IX c l m else c x y
def JR {α β : Type} (c : α → α → Int) (d : β → β → Int) (x y : α × β) : Int := if c x.1 y.1 = 0 then d x.2 y.2 else c x.1 y.1
theorem Mo.IX {α : Type} {c : α → α → Int} (h : Mo c) : Mo (IX c) := by
 refine ⟨fun l => ?_,fun l => ?_,fun l => ?_⟩
 · induction l with
   | nil => intro m; cases m <;> simp [TwW.IX]
   | cons x l ih =>
     intro m
     cases m with
     | nil => simp [TwW.IX]
     | cons y m =>
       unfold TwW.IX
       by_cases hc : c x y = 0
       · rw [if_pos hc,ih]; simp [(h.eq x y).1 hc]
       · rw [if_neg hc]; simp [hc,mt (h.eq x y).2 hc]
 · induction l with
   | nil => intro m; cases m <;> simp [TwW.IX]
   | cons x l ih =>
     intro m
     cases m with
     | nil => simp [TwW.IX]
     | cons y m =>
       unfold TwW.IX
       by_cases hc : c x y = 0
       · have Ue := (h.eq x y).1 hc
         rw [if_pos hc,if_pos ((h.eq y x).2 Ue.symm),ih]
       · have hc' : c y x ≠ 0 := fun e => hc ((h.eq x y).2 ((h.eq y x).1 e).symm)
         rw [if_neg hc,if_neg hc',h.Qj]
 · induction l with
   | nil =>
     intro m k h1 h2
     cases m with
     | nil => simp [TwW.IX] at h1
     | cons y m =>
       cases k with
       | nil => simp [TwW.IX] at h2
       | cons z k => simp [TwW.IX]
   | cons x l ih =>
     intro m k h1 h2
     cases m with
     | nil => simp [TwW.IX] at h1
     | cons y m =>
       cases k with
       | nil => simp [TwW.IX] at h2
       | cons z k =>
         unfold TwW.IX at h1 h2 ⊢
         by_cases Ue : c x y = 0
         · rw [if_pos Ue] at h1
           have e := (h.eq x y).1 Ue
           subst e
           by_cases dA : c x z = 0
           · rw [if_pos dA] at h2 ⊢; exact ih m k h1 h2
           · rw [if_neg dA] at h2 ⊢; exact h2
         · rw [if_neg Ue] at h1
           by_cases dA : c y z = 0
           · rw [if_pos dA] at h2
             have e := (h.eq y z).1 dA
             subst e
             rw [if_neg Ue]; exact h1
           · rw [if_neg dA] at h2
             have h3 := h.trans x y z h1 h2
             rw [if_neg (by omega)]; exact h3
theorem Mo.JR {α β : Type} {c : α → α → Int} {d : β → β → Int} (h : Mo c) (g : Mo d) : Mo (JR c d) := by
 refine ⟨fun x y => ?_,fun x y => ?_,fun x y z h1 h2 => ?_⟩
 · obtain ⟨x1,x2⟩ := x
   obtain ⟨y1,y2⟩ := y
   unfold TwW.JR
   by_cases hc : c x1 y1 = 0
   · simp only [hc,if_pos]; rw [g.eq]; simp [(h.eq x1 y1).1 hc]
   · simp only [hc,if_false]; simp [hc,mt (h.eq x1 y1).2 hc]
 · unfold TwW.JR
   by_cases hc : c x.1 y.1 = 0
   · rw [if_pos hc,if_pos ((h.eq _ _).2 ((h.eq _ _).1 hc).symm),g.Qj]
   · rw [if_neg hc,if_neg (fun e => hc ((h.eq _ _).2 ((h.eq _ _).1 e).symm)),h.Qj]
 · unfold TwW.JR at h1 h2 ⊢
   by_cases Ue : c x.1 y.1 = 0
   · rw [if_pos Ue] at h1
     rw [(h.eq _ _).1 Ue]
     by_cases dA : c y.1 z.1 = 0
     · rw [if_pos dA] at h2 ⊢; exact g.trans _ _ _ h1 h2
     · rw [if_neg dA] at h2 ⊢; exact h2
   · rw [if_neg Ue] at h1
     by_cases dA : c y.1 z.1 = 0
     · rw [if_pos dA] at h2
       rw [← (h.eq _ _).1 dA,if_neg Ue]; exact h1
     · rw [if_neg dA] at h2
       have h3 := h.trans _ _ _ h1 h2
       rw [if_neg (by omega)]; exact h3
def dB (a b : UInt8) : Int := if a < b then -1 else if b < a then 1 else 0
theorem Wo {a b : UInt8} : dB a b < 0 ↔ a.toNat < b.toNat := by
 unfold dB
 by_cases h : a < b
 · have := UInt8.lt_iff_toNat_lt.1 h; simp [h,this]
 · have h' := mt UInt8.lt_iff_toNat_lt.2 h
   rw [if_neg h]
   by_cases g : b < a <;> simp [g] <;> omega
theorem fu {a b : UInt8} : 0 < dB a b ↔ b.toNat < a.toNat := by
 unfold dB
 by_cases h : a < b
 · have := UInt8.lt_iff_toNat_lt.1 h; simp [h]; omega
 · rw [if_neg h]
   by_cases g : b < a
   · have := UInt8.lt_iff_toNat_lt.1 g; simp [g,this]
   · have h' := mt UInt8.lt_iff_toNat_lt.2 g; simp [g]; omega
theorem uH : Mo dB := by
 refine ⟨fun x y => ?_,fun x y => ?_,fun x y z h1 h2 => ?_⟩
 · have h1 := @Wo x y
   have h2 := @fu x y
   rw [← UInt8.toNat_inj]; omega
 · rw [Wo,fu]
 · rw [Wo] at *; omega
theorem pB : ∀ a b : List UInt8,IX dB a b = Lib.compareBytes a b
 | [],[] => rfl
 | [],_ :: _ => rfl
 | _ :: _,[] => rfl
 | x :: l,y :: m => by
   unfold IX Lib.compareBytes
   rw [← pB l m]
   unfold dB
   by_cases h1 : x < y
   · simp [h1]
   · by_cases h2 : y < x <;> simp [h1,h2]
def Dj (a b : ByteArray) : Int := Lib.compareBytes a.data.toList b.data.toList
theorem fw : Mo Dj := by
 have h := uH.IX
 refine ⟨fun x y => ?_,fun x y => ?_,fun x y z h1 h2 => ?_⟩
 · unfold Dj
   rw [← pB,h.eq]
   exact ⟨fun e => by cases x; cases y; simp at e; rw [e],fun e => by rw [e]⟩
 · unfold Dj; rw [← pB,← pB]; exact h.Qj _ _
 · unfold Dj at *; rw [← pB] at *; exact h.trans _ _ _ h1 h2
def Aw : List Lb → List Lb → Int := IX (JR Dj Dj)
theorem AY : Mo Aw := (fw.JR fw).IX
section
variable {F : Fl} (hF : F.cmpL = Aw)
theorem PH (x : El) : ∀ l : List El,(cw F x l).Perm (x :: l)
 | [] => List.Perm.refl _
 | y :: l => by
   unfold cw
   split
   · exact List.Perm.refl _
   · exact ((PH x l).cons y).trans (List.Perm.swap ..)
theorem HI : ∀ l : List El,(ZM F l).Perm l
 | [] => List.Perm.refl _
 | x :: l => (PH x _).trans ((HI l).cons x)
include hF
theorem le_trans' {x y z : El} (h1 : F.cmpL x.ls y.ls ≤ 0) (h2 : F.cmpL y.ls z.ls ≤ 0) : F.cmpL x.ls z.ls ≤ 0 := by
 rw [hF] at *
 rcases Int.lt_or_eq_of_le h1 with g1 | g1
 · rcases Int.lt_or_eq_of_le h2 with g2 | g2
   · exact Int.le_of_lt (AY.trans _ _ _ g1 g2)
   · rw [← (AY.eq _ _).1 g2]; exact h1
 · rw [(AY.eq _ _).1 g1]; exact h2
theorem P8 (x : El) : ∀ l : List El,l.Pairwise (fun a b => F.cmpL a.ls b.ls ≤ 0) → (cw F x l).Pairwise fun a b => F.cmpL a.ls b.ls ≤ 0
 | [],_ => by simp [cw]
 | y :: l,h => by
   rw [List.pairwise_cons] at h
   unfold cw
   split
   · rename_i Ue
     refine List.pairwise_cons.2 ⟨fun z hz => ?_,List.pairwise_cons.2 h⟩
     rcases List.mem_cons.1 hz with rfl | hz
     · exact Ue
     · exact le_trans' hF Ue (h.1 z hz)
   · rename_i Ue
     refine List.pairwise_cons.2 ⟨fun z hz => ?_,P8 x l h.2⟩
     rcases List.mem_cons.1 ((PH x l).mem_iff.1 hz) with rfl | hz
     · have h1 : 0 < F.cmpL z.ls y.ls := by omega
       rw [hF] at *
       exact Int.le_of_lt ((AY.Qj _ _).2 h1)
     · exact h.1 z hz
theorem JS : ∀ l : List El,(ZM F l).Pairwise fun a b => F.cmpL a.ls b.ls ≤ 0
 | [] => List.Pairwise.nil
 | x :: l => P8 hF x _ (JS l)
theorem jE {l m : List El} (hp : m.Perm l) (hs : m.Pairwise fun a b => F.cmpL a.ls b.ls < 0) : Ca F l = some m := by
 have A5 : m.Pairwise fun a b => F.cmpL a.ls b.ls ≠ 0 := hs.imp fun h => by omega
 have AA4 : l.Pairwise fun a b => F.cmpL a.ls b.ls ≠ 0 := (hp.pairwise_iff fun {a b} h e => by
   rw [hF] at *
   exact h ((AY.eq _ _).2 ((AY.eq _ _).1 e).symm)).1 A5
 unfold Ca
 rw [if_pos AA4]
 refine congrArg some (List.Perm.eq_of_pairwise (le := fun a b : El => F.cmpL a.ls b.ls ≤ 0) (fun a b ha hb h1 h2 => ?_) (JS hF l) (hs.imp fun h => Int.le_of_lt h) ((HI l).trans hp.symm))
 have XM : F.cmpL a.ls b.ls = 0 := by
   refine Int.le_antisymm h1 (Int.not_lt.1 fun h3 => ?_)
   rw [hF] at *
   have := (AY.Qj _ _).1 h3
   omega
 have ham := ((HI (F := F) l).trans hp.symm).mem_iff.1 ha
 obtain ⟨i,hi,rfl⟩ := List.mem_iff_getElem.1 ham
 obtain ⟨j,hj,rfl⟩ := List.mem_iff_getElem.1 hb
 have kL := List.pairwise_iff_getElem.1 A5
 rcases Nat.lt_trichotomy i j with h | h | h
 · exact absurd XM (kL i j hi hj h)
 · subst h; rfl
 · have h4 := kL j i hj hi h
   rw [hF] at XM h4
   exact absurd ((AY.eq _ _).2 ((AY.eq _ _).1 XM).symm) h4
theorem jF {l m : List El} (hp : m.Perm l) (h : ¬ m.Pairwise fun a b => F.cmpL a.ls b.ls ≠ 0) : Ca F l = none := by
 unfold Ca
 rw [if_neg fun hl => h ((hp.pairwise_iff fun {a b} h e => by
   rw [hF] at *
   exact h ((AY.eq _ _).2 ((AY.eq _ _).1 e).symm)).2 hl)]
end
end TwW
end
section
namespace TwW
open Go Tw
def Ea (c : UInt8) (s : ByteArray) : List ByteArray := Lib.splitB ⟨#[c]⟩ 0 (Lib.countB s ⟨#[c]⟩) s
def jG : List ByteArray → ByteArray → Bool
 | [],_ => true
 | t :: r,s => if Lib.index s.data.toList t.data.toList < 0 then false else jG r (s.extract ((Lib.index s.data.toList t.data.toList).toNat + t.size) s.size)
def isK (l : List ByteArray) (s : ByteArray) : Bool :=
 let a := l.head?.getD ⟨#[]⟩
 let z := l.getLast?.getD ⟨#[]⟩
 if l.length = 1 then decide (s = a) else
   if s.size < a.size + z.size ∨ s.extract 0 a.size ≠ a ∨ s.extract (s.size - z.size) s.size ≠ z then false else jG l.tail.dropLast (s.extract a.size (s.size - z.size))
def ZO (p s : ByteArray) : Bool := (Ea 124 p).any fun x => isK (Ea 42 x) s
def N9 (m : Mt) (ls : List Lb) : Bool :=
 let v := DE ls m.name
 if m.kind = 1 then decide (v = m.val) else if m.kind = 2 then decide (v ≠ m.val) else if m.kind = 3 then ZO m.val v else if m.kind = 4 then !ZO m.val v else false
def Jr (ms : List Mt) (ls : List Lb) : Bool := ms.all fun m => N9 m ls
def B8 (u : UInt8) : Bool := decide (48 ≤ u.toNat ∧ u.toNat ≤ 57)
end TwW
end
section
namespace TwW
open Go Tw
def Mp (v least : Int) : Bool := decide (least ≤ v) && decide (v < 2147483648)
section
variable (pC : ByteArray → Bool) (AQo : ByteArray → Bool)
def PI (n : Nd) : Bool := n.names.all pC && (decide (n.names.length = 0) || decide (n.Ec ≠ 0))
def HJ (ms : List Mt) : Int := if 8 < ms.length then 41 else if ms.all (fun m => decide (1 ≤ m.kind ∧ m.kind ≤ 4) && pC m.name && decide (m.val.size ≤ 256)) then 0 else 40
end
end TwW
end
section
namespace TwW
open Go Tw Go.RowKit Go.Proofs.Tryz
abbrev Pt := Int × Int
def GK (_ : Hp) (vs : List Value) (x : Pt) : Prop := vs = [.int .i64 x.1,.int .u64 x.2]
theorem GK.mono : HO GK := fun _ _ _ _ _ h => h
def Bp (σ : Hp) (vs : List Value) (s : Sr) : Prop := ∃ p n c q m d,vs = [.slice p n c,.slice q m d] ∧ Dq σ p n s.ls ∧ Ab 2 GK σ q m s.ps ∧ m ≤ d
theorem Bp.mono : HO Bp := fun _ _ _ _ hx ⟨p,n,c,q,m,d,hv,h1,h2,h3⟩ => ⟨p,n,c,q,m,d,hv,h1.mono Bs.mono hx,h2.mono GK.mono hx,h3⟩
def OZ (_ : Hp) (vs : List Value) (m : Mt) : Prop := vs = [.int .i64 m.kind,.string m.name,.string m.val]
theorem OZ.mono : HO OZ := fun _ _ _ _ _ h => h
def NG (σ : Hp) (vs : List Value) (n : Nd) : Prop := ∃ p k c q m d,vs = [.int .i64 n.kind,.int .i64 n.op,.string n.text,.slice p k c,.int .i64 n.width,.int .i64 n.back,.int .i64 n.Ec,.slice q m d,.bool n.bool,.int .i64 n.parts] ∧ Ab 3 OZ σ p k n.mt ∧ FC 1 σ q m (n.names.map .string)
theorem NG.mono : HO NG := fun _ _ _ _ hx ⟨p,k,c,q,m,d,hv,h1,h2⟩ => ⟨p,k,c,q,m,d,hv,h1.mono OZ.mono hx,h2.mono hx⟩
def CC (σ : Hp) (vs : List Value) (x : El) : Prop := ∃ p n c,vs = [.slice p n c,.int .u64 x.v] ∧ Dq σ p n x.ls
theorem CC.mono : HO CC := fun _ _ _ _ hx ⟨p,n,c,hv,h⟩ => ⟨p,n,c,hv,h.mono Bs.mono hx⟩
def TU (σ : Hp) (vs : List Value) (x : Rg) : Prop := ∃ p n c q m d,vs = [.slice p n c,.slice q m d] ∧ Dq σ p n x.ls ∧ FJ .u64 σ q m x.vs ∧ m ≤ d
theorem TU.mono : HO TU := fun _ _ _ _ hx ⟨p,n,c,q,m,d,hv,h1,h2,h3⟩ => ⟨p,n,c,q,m,d,hv,h1.mono Bs.mono hx,h2.mono hx,h3⟩
def NH (σ : Hp) (vs : List Value) (x : Vv) : Prop := ∃ p n c q m d,vs = [.int .i64 x.kind,.int .u64 x.v,.slice p n c,.slice q m d] ∧ Ab 2 CC σ p n x.vec ∧ Ab 2 TU σ q m x.Ow
theorem NH.mono : HO NH := fun _ _ _ _ hx ⟨p,n,c,q,m,d,hv,h1,h2⟩ => ⟨p,n,c,q,m,d,hv,h1.mono CC.mono hx,h2.mono TU.mono hx⟩
theorem Ab.sub {α : Type} {s : Nat} {E : Hp → List Value → α → Prop} {σ : Hp} {p : Option Addr} {n c i m : Nat} {xs : List α} (h : Ab s E σ p n xs) (hs : 0 < s) (him : i + m ≤ n) (hc : n ≤ c) : Ab s E σ (Ir p i c s) m ((xs.drop i).take m) := by
 obtain ⟨h1,cs,⟨h2,h3,h4⟩,h5,h6⟩ := h
 refine ⟨by rw [List.length_take,List.length_drop]; omega,(cs.drop (i * s)).take (m * s),⟨?_,by omega,?_⟩,?_,fun j x hj => ?_⟩
 · have : i * s + m * s ≤ n * s := by rw [← Nat.add_mul]; exact Nat.mul_le_mul_right _ him
   rw [List.length_take,List.length_drop]; omega
 · rcases Nat.eq_zero_or_pos m with hm | hm
   · exact .inl hm
   · rcases h4 with h4 | ⟨b,o,rfl,h4⟩
     · omega
     · refine .inr ⟨b,o + i * s,?_,?_⟩
       · unfold Ir
         rw [if_neg (by omega)]
         simp [Bt]
       · exact h4.part
 · have : i * s + m * s ≤ n * s := by rw [← Nat.add_mul]; exact Nat.mul_le_mul_right _ him
   rw [List.length_take,List.length_drop,List.length_take,List.length_drop]
   have : min m (xs.length - i) = m := by omega
   rw [this]; omega
 · rw [List.getElem?_take] at hj
   split at hj
   · rename_i hjm
     rw [List.getElem?_drop] at hj
     have := h6 (i + j) x hj
     have e : ((((cs.drop (i * s)).take (m * s)).drop (j * s)).take s) = (cs.drop ((i + j) * s)).take s := by
       have hle : j * s + s ≤ m * s := by rw [← Nat.succ_mul]; exact Nat.mul_le_mul_right _ hjm
       rw [List.drop_take,List.take_take,List.drop_drop,Nat.add_mul]
       congr 1
       omega
     rw [e]; exact this
   · cases hj
section
variable {σ σ' τ : Hp} {R : Rr}
theorem jH {a b : ByteArray} : YN prog 168 #[.string a,.string b] σ (.int .i64 (Dj a b)) := fun w _ => by
 rw [run_callFunc_extern Go.Proofs.Tryz.func168 (by kernel_rfl) (by kernel_rfl) (by kernel_rfl) (e := Extern.BytealgCompare.compare) (by kernel_rfl),Lib.run_compareString]
 rfl
theorem P9 [FB] {a b : ByteArray} (h : R (.returned (.int .i64 (Dj a b))) σ) : Spec prog 78 #[.string a,.string b] σ R :=
 Jm.start (CG.start (.y jH ⟨_,rfl,_,rfl,h⟩))
theorem dC [FB] {x y : Lb} (h : ∀ σ',Ext σ σ' → R (.returned (.int .i64 (JR Dj Dj x y))) σ') : Spec prog 76 #[.agg #[.string x.1,.string x.2],.agg #[.string y.1,.string y.2]] σ R := by
 refine Jl.start fun _ _ => P9 ⟨_,rfl,P9 ⟨_,rfl,fun b hb => ?_⟩⟩
 have hh := h _ (.set hb (o := .cells #[.int .i64 (Dj x.1 y.1),.int .i64 (Dj x.2 y.2)] 3 (0,0)))
 unfold JR at hh
 generalize Dj x.1 y.1 = u at *
 generalize Dj x.2 y.2 = v at *
 refine HE.start (HE.AZ ⟨fun _ => ⟨b,0,rfl,by omega,u,by simp [Hp.ld,Hp.AB],fun h0 => ⟨_,rfl,?_⟩,fun h0 => ⟨by unfold AJ; omega,HE.AZ ⟨fun _ => ⟨b,0,rfl,by omega,v,by simp [Hp.ld,Hp.AB],fun h1 => ⟨_,rfl,?_⟩,fun h1 => ⟨by unfold AJ; omega,HE.AZ ⟨fun h2 => by omega,fun _ => ⟨_,rfl,?_⟩⟩⟩⟩,fun h2 => by omega⟩⟩⟩,fun h2 => by omega⟩)
 · rw [if_neg h0] at hh; exact hh
 · rw [if_pos (Decidable.not_not.1 h0)] at hh; exact hh
 · have xp : v = 0 := Decidable.not_not.1 h1
   rw [if_pos (Decidable.not_not.1 h0),xp] at hh
   rw [← xp] at hh ⊢
   exact hh
theorem ANG : Enters prog 76 := fun args w => call76 args w
theorem BD {α : Type} {xs : List α} {k : Nat} {y : α} (hy : xs[k]? = some y) : xs.drop k = y :: xs.drop (k + 1) := by
 obtain ⟨h,rfl⟩ := List.getElem?_eq_some_iff.1 hy
 exact List.drop_eq_getElem_cons h
theorem ME [FB] {p q : Option Addr} {n c m d : Nat} {ls ms : List Lb} (hr : Dq σ p n ls) (hs : Dq σ q m ms) (h : ∀ σ',Ext σ σ' → R (.returned (.int .i64 (Aw ls ms))) σ') : Spec prog 52 #[.slice p n c,.slice q m d] σ R := by
 have hl : ls.length = n := hr.1
 have hm : ms.length = m := hs.1
 refine Mh.start (A1.start ?_)
 suffices H : ∀ g k : Nat,∀ σ',n - k = g → k ≤ n → k ≤ m → Ext σ σ' → Aw ls ms = Aw (ls.drop k) (ms.drop k) → A1.Hz (AA R (CI .i64 fun x7 y => R (.returned (.int .i64 x7)) y)) p n c q m d (.func (.func 76) #[] #[]) p n c n k σ' from H n 0 σ rfl (Nat.zero_le _) (Nat.zero_le _) (.refl _) rfl
 intro g
 induction g with
 | zero =>
   intro k σ' hg hk fx hx he
   have XF : k = n := by omega
   rw [List.drop_eq_nil_of_le (by omega)] at he
   refine A1.Bl ⟨fun Aq => by omega,fun _ => ⟨fun hnm => ⟨_,rfl,?_⟩,fun hnm => ⟨_,rfl,?_⟩⟩⟩
   · obtain ⟨y,hy⟩ := hs.ex (k := k) (by omega)
     rw [BD hy] at he
     have := h σ' hx
     rw [he] at this; exact this
   · rw [List.drop_eq_nil_of_le (by omega)] at he
     have := h σ' hx
     rw [he] at this; exact this
 | succ g ih =>
   intro k σ' hg hk fx hx he
   obtain ⟨x,jB⟩ := hr.ex (k := k) (by omega)
   obtain ⟨b,o,rfl,Qk⟩ := Dq.at hr jB
   rw [BD jB] at he
   refine A1.Bl ⟨fun _ => ⟨b,o,rfl,by omega,x.1,x.2,by simpa using Qk.mono hx,fun _ => ⟨fun rJ => ⟨_,rfl,?_⟩,fun rJ => ?_⟩⟩,fun hh => by omega⟩
   · rw [show ms.drop k = [] from List.drop_eq_nil_of_le (by omega)] at he
     have := h σ' hx
     rw [he] at this; exact this
   · obtain ⟨y,hyk⟩ := hs.ex (k := k) (by omega)
     obtain ⟨b',o',rfl,UL⟩ := Dq.at hs hyk
     rw [BD hyk] at he
     have Jf : Aw ls ms = if JR Dj Dj x y = 0 then Aw (ls.drop (k + 1)) (ms.drop (k + 1)) else JR Dj Dj x y := he
     refine ⟨b',o',rfl,by omega,y.1,y.2,by simpa using UL.mono hx,fun _ => ⟨76,#[],#[],rfl,ANG,dC fun σ2 A9 => ⟨_,rfl,fun A5 => ⟨_,rfl,?_⟩,fun heq => ⟨AL (by omega : k < n) hr.big,ih (k + 1) σ2 (by omega) (by omega) (by omega) (hx.trans A9) ?_⟩⟩⟩⟩
     · have := h σ2 (hx.trans A9)
       rw [Jf,if_neg A5] at this; exact this
     · rw [Jf,if_pos (Decidable.not_not.1 heq)]
def OA : List Pt → Bool
 | [] => false
 | [_] => true
 | a :: b :: l => decide (a.1 < b.1) && OA (b :: l)
theorem LU : ∀ ps : List Pt,OA ps = true ↔ 0 < ps.length ∧ ∀ j a b,ps[j]? = some a → ps[j + 1]? = some b → a.1 < b.1
 | [] => by simp [OA]
 | [a] => by simp [OA]
 | a :: b :: l => by
   simp only [OA,Bool.and_eq_true,decide_eq_true_eq]
   rw [LU (b :: l)]
   constructor
   · rintro ⟨h1,h2,h3⟩
     refine ⟨by simp,fun j x y hx hy => ?_⟩
     cases j with
     | zero => simp at hx hy; subst hx; subst hy; exact h1
     | succ j => exact h3 j x y (by simpa using hx) (by simpa using hy)
   · rintro ⟨h1,h2⟩
     exact ⟨h2 0 a b rfl rfl,by simp,fun j x y hx hy => h2 (j + 1) x y (by simpa using hx) (by simpa using hy)⟩
theorem GK.at {p : Option Addr} {n i : Nat} {ps : List Pt} {x : Pt} (hr : Ab 2 GK σ p n ps) (hx : ps[i]? = some x) : ∃ b o,p = some ⟨b,o,none⟩ ∧ Ay σ b (o + i * 2) [.int .i64 x.1,.int .u64 x.2] := by
 obtain ⟨b,o,vs,hp,rfl,hl⟩ := Ab.idx hr hx
 exact ⟨b,o,hp,hl⟩
theorem ZP {p : Option Addr} {n c : Nat} {ps : List Pt} (hr : Ab 2 GK σ p n ps) (h : R (.returned (.bool (OA ps))) σ) : Spec prog 69 #[.slice p n c] σ R := by
 have hl : ps.length = n := hr.1
 refine D5.start ?_
 have fin : (∀ j a b,ps[j]? = some a → ps[j + 1]? = some b → a.1 < b.1) → R (.returned (.bool (decide (0 < (n : Int))))) σ := fun hh => by
   have e : OA ps = decide (0 < (n : Int)) := by
     rw [Bool.eq_iff_iff,LU,decide_eq_true_eq]
     exact ⟨fun h => by omega,fun h => ⟨by omega,hh⟩⟩
   rw [e] at h; exact h
 suffices H : ∀ g k : Nat,n - k = g → 1 ≤ k → (∀ j a b,j + 1 < k → ps[j]? = some a → ps[j + 1]? = some b → a.1 < b.1) → D5.ES R p n c k σ from H (n - 1) 1 rfl (Nat.le_refl _) (fun j a b hj => by omega)
 intro g
 induction g with
 | zero =>
   intro k hg hk EA
   refine D5.Af ⟨fun Aq => by omega,fun _ => fin fun j a b ha hb => EA j a b ?_ ha hb⟩
   have := (List.getElem?_eq_some_iff.1 hb).1; omega
 | succ g ih =>
   intro k hg hk EA
   obtain ⟨x,hx⟩ := hr.ex (k := k) (by omega)
   obtain ⟨y,hy⟩ := hr.ex (k := k - 1) (by omega)
   obtain ⟨b,o,rfl,Qk⟩ := GK.at hr hx
   obtain ⟨_,_,he,UL⟩ := GK.at hr hy
   cases he
   have e1 : Int.toNat ((k : Int) - 1) = k - 1 := by omega
   refine D5.Af ⟨fun _ => ⟨b,o,rfl,by omega,x.1,by simpa using Qk.1,by unfold AJ; have := hr.big; omega,by omega,y.1,by rw [e1]; simpa using UL.1,fun hle => ?_,fun hgt => ⟨AL (by omega : k < n) hr.big,ih (k + 1) (by omega) (by omega) fun j a b' hj ha hb => ?_⟩⟩,fun hh => by omega⟩
   · have e : OA ps = false := by
       rw [Bool.eq_false_iff,ne_eq,LU]
       exact fun hh => by
         have := hh.2 (k - 1) y x hy (by rw [show k - 1 + 1 = k by omega]; exact hx)
         omega
     rw [e] at h; exact h
   · by_cases r9 : j + 1 = k
     · rw [r9,hx] at hb; cases hb
       rw [show j = k - 1 by omega,hy] at ha; cases ha
       omega
     · exact EA j a b' (by omega) ha hb
def Cy : Option (List Lb) → List Sr → Bool
 | _,[] => true
 | q,s :: l => decide (Dr s.ls = 0) && OA s.ps && (match q with | none => true | some q => decide (Aw q s.ls < 0)) && Cy (some s.ls) l
theorem IY (q : Option (List Lb)) (s : Sr) (l : List Sr) : Cy q (s :: l) = (decide (Dr s.ls = 0) && OA s.ps && (match q with | none => true | some q => decide (Aw q s.ls < 0)) && Cy (some s.ls) l) := by
 cases q <;> rfl
theorem Bp.at {p : Option Addr} {n i : Nat} {ss : List Sr} {s : Sr} (hr : Ab 2 Bp σ p n ss) (hx : ss[i]? = some s) : ∃ b o p1 n1 c1 q m d,p = some ⟨b,o,none⟩ ∧ Ay σ b (o + i * 2) [.slice p1 n1 c1,.slice q m d] ∧ Dq σ p1 n1 s.ls ∧ Ab 2 GK σ q m s.ps ∧ m ≤ d := by
 obtain ⟨b,o,vs,hp,⟨p1,n1,c1,q,m,d,rfl,h1,h2,h3⟩,hl⟩ := Ab.idx hr hx
 exact ⟨b,o,p1,n1,c1,q,m,d,hp,hl,h1,h2,h3⟩
theorem ZQ {p : Option Addr} {n c : Nat} {ss : List Sr} (hr : Ab 2 Bp σ p n ss) (h : ∀ σ',Ext σ σ' → R (.returned (.int .i64 (if Cy none ss then 0 else 100))) σ') : Spec prog 46 #[.slice p n c] σ R := by
 have hl : ss.length = n := hr.1
 refine Dd.start ?_
 suffices H : ∀ g k : Nat,∀ σ',n - k = g → k ≤ n → Ext σ σ' → Cy none ss = Cy (if k = 0 then none else (ss[k - 1]?).map (·.ls)) (ss.drop k) → Dd.Hz R p n c p n c n k σ' from H n 0 σ rfl (Nat.zero_le _) (.refl _) rfl
 intro g
 induction g with
 | zero =>
   intro k σ' hg hk hx he
   rw [List.drop_eq_nil_of_le (by omega)] at he
   refine Dd.Bl ⟨fun Aq => by omega,fun _ => ?_⟩
   have := h σ' hx
   rw [he] at this; exact this
 | succ g ih =>
   intro k σ' hg hk hx he
   have HM : k < n := by omega
   obtain ⟨s,hs⟩ := hr.ex HM
   obtain ⟨b,o,p1,n1,c1,q,m,d,rfl,H8,h1,h2,h3⟩ := Bp.at hr hs
   rw [BD hs,IY] at he
   have bad : (decide (Dr s.ls = 0) && OA s.ps && (match (if k = 0 then none else (ss[k - 1]?).map (·.ls)) with | none => true | some q => decide (Aw q s.ls < 0))) = false → ∀ σ2,Ext σ σ2 → R (.returned (.int .i64 100)) σ2 := fun hf σ2 A9 => by
     have := h σ2 A9
     rw [he,hf] at this; exact this
   refine Dd.Bl ⟨fun _ => ⟨b,o,rfl,by omega,p1,n1,c1,q,m,d,by simpa using H8.mono hx,fun _ => Qh (h1.mono Bs.mono hx) ⟨_,rfl,fun A5 => bad (by simp [A5]) σ' hx,fun h0 => ZP (h2.mono GK.mono hx) ⟨_,rfl,fun hf => bad (by simp [hf]) σ' hx,fun ht => ?_⟩⟩⟩,fun hh => by omega⟩
   have fy := Decidable.not_not.1 h0
   have kM : OA s.ps = true := ht
   have next : ∀ σ2,Ext σ σ2 → (match (if k = 0 then none else (ss[k - 1]?).map (·.ls)) with | none => true | some q => decide (Aw q s.ls < 0)) = true → AJ ((k : Int) + 1) ∧ Dd.Hz R (aD b o) n c (aD b o) n c n ((k : Int) + 1) σ2 := fun σ2 A9 hm => by
     refine ⟨AL HM hr.big,ih (k + 1) σ2 (by omega) (by omega) A9 ?_⟩
     rw [he,hm,fy,kM]
     simp [hs]
   refine ⟨fun Oj => ⟨by unfold AJ; have := hr.big; omega,b,o,rfl,by omega,?_⟩,fun Oj => next σ' hx (by rw [if_pos (by omega)])⟩
   obtain ⟨s',Ol⟩ := hr.ex (k := k - 1) (by omega)
   obtain ⟨_,_,p1',n1',c1',_,_,_,Qf,pD,xp,_,_⟩ := Bp.at hr Ol
   cases Qf
   have e1 : Int.toNat ((k : Int) - 1) = k - 1 := by omega
   refine ⟨p1',n1',c1',by rw [e1]; simpa using (pD.mono hx).1,ME (xp.mono Bs.mono hx) (h1.mono Bs.mono hx) fun σ2 A9 => ⟨_,rfl,fun ck => bad ?_ σ2 (hx.trans A9),fun Aq => next σ2 (hx.trans A9) ?_⟩⟩
   · rw [if_neg (by omega),Ol]
     simp; omega
   · rw [if_neg (by omega),Ol]
     simp; omega
end
end TwW
end
