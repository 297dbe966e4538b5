/-
  Part 3 of the proof that the law EvalScalarsUptoCardSaid of the given program answers true for every input of the given statement; the input reads behind the call as it did. (The texts: packed from 17 texts. Names are shortened by the packing program, for the bound on size.)
-/
import Derived.Test.YtlmhidjgplomgaaGreatDoorA2
import Derived.Laws.BytesArg
import Derived.Laws.Bits64b
import Derived.Laws.IdiomStrings
import Derived.Lib.Bytealg
import Derived.Lib.Split
import Derived.Lib.Index
set_option linter.all false
section
set_option maxRecDepth 100000
noncomputable section
namespace TwW
open Go Tw Go.Proofs.Tryz
variable [Es] {R : Rr} {σ : Hp}

namespace PD
def M : Fw := ⟨prog, 14, f14, [11, 15, 25, 35, 36], [], false, [], [], []⟩
theorem ok : M.Ok := ⟨.cons call11 (.cons call15 (.cons call25 (.cons call35 (.cons call36 (AG.nil))))), mixed, func14, by kernel_rfl⟩
theorem start (h : Al σ fun BC => Spec prog 25 #[.float .f64 4607182418800017408] (Hp.set σ BC (.cells #[(.string (ByteArray.mk #[95, 95, 110, 97, 109, 101, 95, 95])), (.string (ByteArray.mk #[120])), (.string (ByteArray.mk #[97])), (.string (ByteArray.mk #[49]))] 56 (0, 0))) (AA R (CI .u64 fun x12 y => Spec prog 25 #[.float .f64 4613937818241073152] y (AA R (CI .u64 fun ZQ AF => Al AF fun Lp => Al (Hp.set AF Lp (.cells #[.int .i64 0, .int .u64 x12, .int .i64 60, .int .u64 ZQ] 50 (0, 0))) fun Xc => Spec prog 25 #[.float .f64 4617315517961601024] (Hp.set (Hp.set AF Lp (.cells #[.int .i64 0, .int .u64 x12, .int .i64 60, .int .u64 ZQ] 50 (0, 0))) Xc (.cells #[(.string (ByteArray.mk #[95, 95, 110, 97, 109, 101, 95, 95])), (.string (ByteArray.mk #[120])), (.string (ByteArray.mk #[97])), (.string (ByteArray.mk #[50]))] 56 (0, 0))) (AA R (CI .u64 fun ae AH => Al AH fun Ps => Al (Hp.set AH Ps (.cells #[.int .i64 60, .int .u64 ae] 50 (0, 0))) fun Jb => Al (Hp.set (Hp.set AH Ps (.cells #[.int .i64 60, .int .u64 ae] 50 (0, 0))) Jb (.cells #[(.slice (aD BC 0) 2 2), (.slice (aD Lp 0) 2 2), (.slice (aD Xc 0) 2 2), (.slice (aD Ps 0) 1 1)] 40 (0, 0))) fun XA => Al (Hp.set (Hp.set (Hp.set AH Ps (.cells #[.int .i64 60, .int .u64 ae] 50 (0, 0))) Jb (.cells #[(.slice (aD BC 0) 2 2), (.slice (aD Lp 0) 2 2), (.slice (aD Xc 0) 2 2), (.slice (aD Ps 0) 1 1)] 40 (0, 0))) XA (.cells #[.int .i64 1, (.string (ByteArray.mk #[95, 95, 110, 97, 109, 101, 95, 95])), (.string (ByteArray.mk #[120]))] 77 (0, 0))) fun fm => Spec prog 11 #[(.slice (aD fm 0) 2 2), (.slice (aD Jb 0) 2 2), .int .i64 60] (Hp.set (Hp.set (Hp.set (Hp.set AH Ps (.cells #[.int .i64 60, .int .u64 ae] 50 (0, 0))) Jb (.cells #[(.slice (aD BC 0) 2 2), (.slice (aD Lp 0) 2 2), (.slice (aD Xc 0) 2 2), (.slice (aD Ps 0) 1 1)] 40 (0, 0))) XA (.cells #[.int .i64 1, (.string (ByteArray.mk #[95, 95, 110, 97, 109, 101, 95, 95])), (.string (ByteArray.mk #[120]))] 77 (0, 0))) fm (.cells #[.int .i64 2, .int .i64 0, (.string (ByteArray.mk #[])), (.slice (aD XA 0) 1 1), .int .i64 0, .int .i64 0, .int .i64 0, .slice none 0 0, .bool false, .int .i64 0, .int .i64 5, .int .i64 1, (.string (ByteArray.mk #[])), .slice none 0 0, .int .i64 0, .int .i64 0, .int .i64 0, .slice none 0 0, .bool false, .int .i64 1] 36 (0, 0))) (AA R (fun z Aa => ∃ ADJ yF AJi ADK, z = (.tuple #[.slice ADJ yF AJi, .int .i64 ADK]) ∧ Spec prog 35 #[(.slice (aD fm 0) 2 2), (.slice (aD Jb 0) 2 2), .int .i64 0, .int .i64 60, .int .i64 60] Aa (AA R (fun z D1 => ∃ Xd VU af ah, z = (.tuple #[.slice Xd VU af, .int .i64 ah]) ∧ Spec prog 15 #[(.slice (aD fm 0) 2 2)] D1 (AA R (fun z BF => ∃ ADL Fv, z = (.tuple #[.int .i64 ADL, .int .i64 Fv]) ∧ Br (ADK = 0) (Br ((yF : Int) = 1) (Pq ADJ fun uJ yG => In 0 (yF : Int) ∧ LS BF uJ (yG + 1) fun tO n59 tP => Spec prog 25 #[.float .f64 4620693217682128896] BF (AA R (CI .u64 fun qk Bs => Kp [uJ] BF Bs ∧ Al Bs fun b62 => Spec prog 36 #[.slice tO n59 tP, (.slice (aD b62 0) 1 1)] (Hp.set Bs b62 (.cells #[.int .i64 60, .int .u64 qk] 50 (0, 0))) (AA R (CB fun t63 Mo => Bo t63 (Br (ah = 0) (Br ((VU : Int) = 1) (Pq Xd fun b76 o76 => In 0 (VU : Int) ∧ LS Mo b76 (o76 + 1) fun oz kx o0 => Br ((kx : Int) = 2) (Br (ADL = 300) (R (.returned (.bool (decide (Fv = 0)))) Mo) (R (.returned (.bool false)) Mo)) (R (.returned (.bool false)) Mo)) (R (.returned (.bool false)) Mo)) (R (.returned (.bool false)) Mo)) (R (.returned (.bool false)) Mo)))))) (R (.returned (.bool false)) BF)) (R (.returned (.bool false)) BF)))))))))))))) : Spec prog 14 #[] σ R := M.start h ok
end PD
namespace JN
variable {p0 : Option Addr} {n0 c0 : Nat}
def M : Fw := ⟨prog, 33, f33, [], [], false, [], [], []⟩
theorem ok : M.Ok := ⟨AG.nil, mixed, func33, by kernel_rfl⟩
theorem start (h : Al σ fun b3 => AJ prog (Builtin.append_ #[37, 37] 37 #[(.slice (aD b3 0) 0 0), .slice p0 n0 c0]) (Hp.set σ b3 (.cells #[] 56 (0, 0))) (CS fun p5 n5 c5 y => R (.returned (.slice p5 n5 c5)) y)) : Spec prog 33 #[.slice p0 n0 c0] σ R := M.start h ok
end JN
namespace R0
variable {x0 : Int}
def M : Fw := ⟨prog, 81, f81, [], [], false, [], [], []⟩
theorem ok : M.Ok := ⟨AG.nil, mixed, func81, by kernel_rfl⟩
theorem start (h : Al σ fun b1 => R (.returned (.func (.func 127) #[] #[(.pointer (aD b1 0))])) (Hp.set σ b1 (.cells #[.int .i64 x0] 3 (0, 0)))) : Spec prog 81 #[.int .i64 x0] σ R := M.start h ok
end R0
namespace AT
variable {q0 : Option Addr} {v1 : Value} {x2 x3 : Int} {b9 : Nat}
def M : Fw := ⟨prog, 95, f95, [66, 133, 134, 135, 136, 137, 138], [], false, [], [], [(48, [(0, wQ), (1, wV), (2, wI), (3, wI)]), (3198, [(0, wQ), (1, wV), (2, wI), (3, wI), (9, wA)])]⟩
theorem ok : M.Ok := ⟨.cons call66 (.cons call133 (.cons call134 (.cons call135 (.cons call136 (.cons call137 (.cons call138 (AG.nil))))))), mixed, func95, by kernel_rfl⟩
def ai := M.pt 0
def FD := M.pt 1
theorem start (h : ∃ (f11 : Nat) (Xa Xb : Array Value), v1 = .func (.func f11) Xa Xb ∧ Enters prog f11 ∧ Spec prog f11 (Xa ++ #[] ++ Xb) σ (AA R (fun z y => z = (.tuple #[]) ∧ ai R q0 v1 x2 x3 y))) : Spec prog 95 #[.pointer q0, v1, .int .i64 x2, .int .i64 x3] σ R := M.D0 h ok [(0, .o (.Q q0)), (1, .o (.V v1)), (2, .o (.I .i64 x2)), (3, .o (.I .i64 x3))] rfl rfl (by kernel_rfl)
theorem OP (h : Spec prog 134 #[] σ (AA R (CS fun aj n12 ZV y => Spec prog 66 #[.pointer q0] y (AA R (fun z AF => ∃ GD TU VV yH, z = (.agg #[.int .i64 GD, .int .i64 TU, .string VV, .int .i64 yH]) ∧ Spec prog 133 #[.slice aj n12 ZV, .string VV] AF (AA R (CI .i64 fun x16 AH => Spec prog 66 #[.pointer q0] AH (AA R (fun z Aa => ∃ Xe ak al AJk, z = (.agg #[.int .i64 Xe, .int .i64 ak, .string al, .int .i64 AJk]) ∧ Br (Xe ≠ 5) (Spec prog 66 #[.pointer q0] Aa (AA R (fun z D1 => ∃ ql fg yI yJ, z = (.agg #[.int .i64 ql, .int .i64 fg, .string yI, .int .i64 yJ]) ∧ Br (ql ≠ 3) (R (.returned (.tuple #[])) D1) (Br (x16 < x2) (R (.returned (.tuple #[])) D1) (Br (x3 < x16) (R (.returned (.tuple #[])) D1) (Br (x2 = 11) (Br (x16 = 12) (R (.returned (.tuple #[])) D1) (Spec prog 135 #[.pointer q0] D1 (AA R (fun z BF => ∃ Pu Pv VW VX, z = (.agg #[.int .i64 Pu, .int .i64 Pv, .string VW, .int .i64 VX]) ∧ Al BF fun b9 => AJ prog (Instr.storeAt 36 (.pointer (aD b9 0)) (.agg #[.int .i64 6, .int .i64 x16, (.string (ByteArray.mk #[])), .slice none 0 0, .int .i64 0, .int .i64 0, .int .i64 0, .slice none 0 0, .bool false, .int .i64 2])) (Hp.set BF b9 (.cells #[.int .i64 0, .int .i64 0, (.string (ByteArray.mk #[])), .slice none 0 0, .int .i64 0, .int .i64 0, .int .i64 0, .slice none 0 0, .bool false, .int .i64 0] 36 (0, 0))) (fun _ Bs => Br (5 ≤ x16) (Br (x16 ≤ 10) (Spec prog 136 #[.pointer q0, .int .i64 3, (.string (ByteArray.mk #[98, 111, 111, 108]))] Bs (AA R (CB fun t55 Mo => Bo t55 (Spec prog 135 #[.pointer q0] Mo (AA R (fun z VN => ∃ VY VZ Va Vb, z = (.agg #[.int .i64 VY, .int .i64 VZ, .string Va, .int .i64 Vb]) ∧ AJ prog (Instr.storeAt 4 (.pointer (aD b9 8)) (.bool true)) VN (fun _ Lg => FD R q0 v1 x2 x3 b9 Lg)))) (FD R q0 v1 x2 x3 b9 Mo)))) (FD R q0 v1 x2 x3 b9 Bs)) (FD R q0 v1 x2 x3 b9 Bs)))))) (Spec prog 135 #[.pointer q0] D1 (AA R (fun z BF => ∃ Pu Pv VW VX, z = (.agg #[.int .i64 Pu, .int .i64 Pv, .string VW, .int .i64 VX]) ∧ Al BF fun b9 => AJ prog (Instr.storeAt 36 (.pointer (aD b9 0)) (.agg #[.int .i64 6, .int .i64 x16, (.string (ByteArray.mk #[])), .slice none 0 0, .int .i64 0, .int .i64 0, .int .i64 0, .slice none 0 0, .bool false, .int .i64 2])) (Hp.set BF b9 (.cells #[.int .i64 0, .int .i64 0, (.string (ByteArray.mk #[])), .slice none 0 0, .int .i64 0, .int .i64 0, .int .i64 0, .slice none 0 0, .bool false, .int .i64 0] 36 (0, 0))) (fun _ Bs => Br (5 ≤ x16) (Br (x16 ≤ 10) (Spec prog 136 #[.pointer q0, .int .i64 3, (.string (ByteArray.mk #[98, 111, 111, 108]))] Bs (AA R (CB fun t55 Mo => Bo t55 (Spec prog 135 #[.pointer q0] Mo (AA R (fun z VN => ∃ VY VZ Va Vb, z = (.agg #[.int .i64 VY, .int .i64 VZ, .string Va, .int .i64 Vb]) ∧ AJ prog (Instr.storeAt 4 (.pointer (aD b9 8)) (.bool true)) VN (fun _ Lg => FD R q0 v1 x2 x3 b9 Lg)))) (FD R q0 v1 x2 x3 b9 Mo)))) (FD R q0 v1 x2 x3 b9 Bs)) (FD R q0 v1 x2 x3 b9 Bs))))))))))) (Br (x16 < x2) (R (.returned (.tuple #[])) Aa) (Br (x3 < x16) (R (.returned (.tuple #[])) Aa) (Br (x2 = 11) (Br (x16 = 12) (R (.returned (.tuple #[])) Aa) (Spec prog 135 #[.pointer q0] Aa (AA R (fun z D1 => ∃ Pu Pv VW VX, z = (.agg #[.int .i64 Pu, .int .i64 Pv, .string VW, .int .i64 VX]) ∧ Al D1 fun b9 => AJ prog (Instr.storeAt 36 (.pointer (aD b9 0)) (.agg #[.int .i64 6, .int .i64 x16, (.string (ByteArray.mk #[])), .slice none 0 0, .int .i64 0, .int .i64 0, .int .i64 0, .slice none 0 0, .bool false, .int .i64 2])) (Hp.set D1 b9 (.cells #[.int .i64 0, .int .i64 0, (.string (ByteArray.mk #[])), .slice none 0 0, .int .i64 0, .int .i64 0, .int .i64 0, .slice none 0 0, .bool false, .int .i64 0] 36 (0, 0))) (fun _ BF => Br (5 ≤ x16) (Br (x16 ≤ 10) (Spec prog 136 #[.pointer q0, .int .i64 3, (.string (ByteArray.mk #[98, 111, 111, 108]))] BF (AA R (CB fun t55 Bs => Bo t55 (Spec prog 135 #[.pointer q0] Bs (AA R (fun z Mo => ∃ VY VZ Va Vb, z = (.agg #[.int .i64 VY, .int .i64 VZ, .string Va, .int .i64 Vb]) ∧ AJ prog (Instr.storeAt 4 (.pointer (aD b9 8)) (.bool true)) Mo (fun _ VN => FD R q0 v1 x2 x3 b9 VN)))) (FD R q0 v1 x2 x3 b9 Bs)))) (FD R q0 v1 x2 x3 b9 BF)) (FD R q0 v1 x2 x3 b9 BF)))))) (Spec prog 135 #[.pointer q0] Aa (AA R (fun z D1 => ∃ Pu Pv VW VX, z = (.agg #[.int .i64 Pu, .int .i64 Pv, .string VW, .int .i64 VX]) ∧ Al D1 fun b9 => AJ prog (Instr.storeAt 36 (.pointer (aD b9 0)) (.agg #[.int .i64 6, .int .i64 x16, (.string (ByteArray.mk #[])), .slice none 0 0, .int .i64 0, .int .i64 0, .int .i64 0, .slice none 0 0, .bool false, .int .i64 2])) (Hp.set D1 b9 (.cells #[.int .i64 0, .int .i64 0, (.string (ByteArray.mk #[])), .slice none 0 0, .int .i64 0, .int .i64 0, .int .i64 0, .slice none 0 0, .bool false, .int .i64 0] 36 (0, 0))) (fun _ BF => Br (5 ≤ x16) (Br (x16 ≤ 10) (Spec prog 136 #[.pointer q0, .int .i64 3, (.string (ByteArray.mk #[98, 111, 111, 108]))] BF (AA R (CB fun t55 Bs => Bo t55 (Spec prog 135 #[.pointer q0] Bs (AA R (fun z Mo => ∃ VY VZ Va Vb, z = (.agg #[.int .i64 VY, .int .i64 VZ, .string Va, .int .i64 Vb]) ∧ AJ prog (Instr.storeAt 4 (.pointer (aD b9 8)) (.bool true)) Mo (fun _ VN => FD R q0 v1 x2 x3 b9 VN)))) (FD R q0 v1 x2 x3 b9 Bs)))) (FD R q0 v1 x2 x3 b9 BF)) (FD R q0 v1 x2 x3 b9 BF))))))))))))))))) : ai R q0 v1 x2 x3 σ := M.of h ok rfl
theorem VQ (h : Spec prog 137 #[.pointer q0, (.pointer (aD b9 0)), (.agg #[(.string (ByteArray.mk #[111, 110])), (.string (ByteArray.mk #[105, 103, 110, 111, 114, 105, 110, 103]))]), .agg #[.int .i64 3, .int .i64 4]] σ (AA R (fun z y => z = (.tuple #[]) ∧ ∃ (f65 : Nat) (uK uL : Array Value), v1 = .func (.func f65) uK uL ∧ Enters prog f65 ∧ Spec prog f65 (uK ++ #[] ++ uL) y (AA R (fun z AF => z = (.tuple #[]) ∧ ∃ KE KF KG KH KI KJ KK KL KM KN KO KQ KR KS, Av AF b9 0 [.int .i64 KE, .int .i64 KF, .string KG, .slice KH KI KJ, .int .i64 KK, .int .i64 KL, .int .i64 KM, .slice KN KO KQ, .bool KR, .int .i64 KS] ∧ Spec prog 138 #[.pointer q0, .agg #[.int .i64 KE, .int .i64 KF, .string KG, .slice KH KI KJ, .int .i64 KK, .int .i64 KL, .int .i64 KM, .slice KN KO KQ, .bool KR, .int .i64 KS]] AF (AA R (fun z AH => z = (.tuple #[]) ∧ ai R q0 v1 x2 x3 AH))))))) : FD R q0 v1 x2 x3 b9 σ := M.of h ok rfl
end AT
namespace AU
variable {q0 Db Dl p2 GO Hh G4 Fs p8 fp aj p47 : Option Addr} {DX CP DY Dc C3 CU Fo FU Hi F5 Hj IQ Fp Fq iu JM Vc Qz : Int} {DZ HH : ByteArray} {Dd De Dg Dm n2 c2 GQ GU Hk Hl G5 G6 Ft Fu n8 c8 n25 fq n12 ZV n47 yK : Nat} {C4 IS : Bool} {v9 : Value}
def M : Fw := ⟨prog, 103, f103, [146, 147, 148], [4, 6, 11, 14], false, [], [], [(488, [(2, wL), (4, .X 36 [.I .i64, .I .i64, .T, .L, .I .i64, .I .i64, .I .i64, .L, .B, .I .i64]), (6, .X 93 [.I .i64, .I .u64, .L, .L]), (8, wL), (9, wV), (25, wL), (26, wI), (27, wI)]), (2024, [(2, wL), (4, .X 36 [.I .i64, .I .i64, .T, .L, .I .i64, .I .i64, .I .i64, .L, .B, .I .i64]), (6, .X 93 [.I .i64, .I .u64, .L, .L]), (8, wL), (12, wL), (47, wL), (48, wI), (49, wI)]), (8103, [(2, wL), (4, .X 36 [.I .i64, .I .i64, .T, .L, .I .i64, .I .i64, .I .i64, .L, .B, .I .i64]), (6, .X 93 [.I .i64, .I .u64, .L, .L]), (8, wL), (12, wL), (47, wL), (48, wI), (49, wI)])]⟩
theorem ok : M.Ok := ⟨.cons call146 (.cons call147 (.cons call148 (AG.nil))), mixed, func103, by kernel_rfl⟩
def Ez := M.pt 0
def G1 := M.pt 1
def Lj := M.pt 2
theorem start (h : ∀ b4 : Nat, ∀ b6 : Nat, AJ prog (Instr.makeMap 191 none) σ (fun z y => ∃ m17, z = (.map (some m17)) ∧ AJ prog (Instr.mapUpdate 191 (.map (some m17)) (.int .i64 11) (.func (.func 144) #[] #[])) y (fun _ AF => AJ prog (Instr.mapUpdate 191 (.map (some m17)) (.int .i64 12) (.func (.func 145) #[] #[])) AF (fun _ AH => AJ prog (Instr.lookup 191 (.map (some m17)) (.int .i64 CP) false) AH (fun z Aa => ∃ v21, v21 = z ∧ Pq p2 fun Ps ky => In 0 (n2 : Int) ∧ LS Aa Ps (ky + 2) fun fp n25 fq => Ez R (aD Ps ky) n2 c2 DX CP DZ Db Dd De DY Dc C3 Dl Dg Dm C4 CU 0 0 none 0 0 none 0 0 none 0 0 v21 fp n25 fq (n25 : Int) 0 Aa))))) : Spec prog 103 #[.pointer q0, .agg #[.int .i64 DX, .int .i64 CP, .string DZ, .slice Db Dd De, .int .i64 DY, .int .i64 Dc, .int .i64 C3, .slice Dl Dg Dm, .bool C4, .int .i64 CU], .slice p2 n2 c2] σ R := M.start h ok
theorem FN (h : Br (JM < iu) (Pq fp fun XS dV => In JM (n25 : Int) ∧ ∃ kz k0 k8 k9, Av σ XS (dV + Int.toNat JM * 2) [.slice kz k0 k8, .int .u64 k9] ∧ ∀ BC : Nat, Spec prog 146 #[.slice kz k0 k8] σ (AA R (CS fun p34 n34 c34 y => ∃ (f38 : Nat) (HK HL : Array Value), v9 = .func (.func f38) HK HL ∧ Enters prog f38 ∧ Spec prog f38 (HK ++ #[.int .u64 k9] ++ HL) y (AA R (CI .u64 fun uM AF => Al AF fun WL => AJ prog (Builtin.append_ #[67, 67] 67 #[.slice p8 n8 c8, (.slice (aD WL 0) 1 1)]) (Hp.set AF WL (.cells #[.slice p34 n34 c34, .int .u64 uM] 71 (0, 0))) (CS fun tY n41 ij AH => AM (JM + 1) ∧ Ez R p2 n2 c2 Fo FU HH GO GQ GU Hi F5 Hj Hh Hk Hl IS IQ Fp Fq G4 G5 G6 Fs Ft Fu tY n41 ij v9 (aD XS dV) n25 fq iu (JM + 1) AH)))))) (Spec prog 147 #[] σ (AA R (CS fun il n43 iq y => Pq p2 fun ic ig => In 0 (n2 : Int) ∧ LS y ic (ig + 3) fun p47 n47 yK => G1 R (aD ic ig) n2 c2 Fo FU HH GO GQ GU Hi F5 Hj Hh Hk Hl IS IQ Fp Fq G4 G5 G6 Fs Ft Fu p8 n8 c8 il n43 iq p47 n47 yK (n47 : Int) 0 y)))) : Ez R p2 n2 c2 Fo FU HH GO GQ GU Hi F5 Hj Hh Hk Hl IS IQ Fp Fq G4 G5 G6 Fs Ft Fu p8 n8 c8 v9 fp n25 fq iu JM σ := M.fS h ok rfl fun _ _ => by kernel_rfl
theorem Iw (h : Br (Qz < Vc) (Pq p47 fun b51 o51 => In Qz (n47 : Int) ∧ ∃ ADM ADN ADO ADP ADQ ADR, Av σ b51 (o51 + Int.toNat Qz * 2) [.slice ADM ADN ADO, .slice ADP ADQ ADR] ∧ ∀ BL : Nat, Pq aj fun uJ yG => In FU (n12 : Int) ∧ ∃ v58, Hp.ld σ ⟨uJ, (yG + Int.toNat FU * 1), none⟩ = some v58 ∧ ∃ (f63 : Nat) (Kj Kk : Array Value), v58 = .func (.func f63) Kj Kk ∧ Enters prog f63 ∧ Spec prog f63 (Kj ++ #[.slice ADP ADQ ADR, .agg #[.int .i64 Fo, .int .i64 FU, .string HH, .slice GO GQ GU, .int .i64 Hi, .int .i64 F5, .int .i64 Hj, .slice Hh Hk Hl, .bool IS, .int .i64 IQ], .slice p2 n2 c2] ++ Kk) σ (AA R (fun z y => ∃ ADS ADT, z = (.tuple #[.int .u64 ADS, .bool ADT]) ∧ Bo ADT (Spec prog 146 #[.slice ADM ADN ADO] y (AA R (CS fun p70 n70 c70 AF => Al AF fun yL => AJ prog (Builtin.append_ #[67, 67] 67 #[.slice p8 n8 c8, (.slice (aD yL 0) 1 1)]) (Hp.set AF yL (.cells #[.slice p70 n70 c70, .int .u64 ADS] 71 (0, 0))) (CS fun p74 n74 c74 AH => Lj R p2 n2 c2 Fo FU HH GO GQ GU Hi F5 Hj Hh Hk Hl IS IQ Fp Fq G4 G5 G6 Fs Ft Fu p74 n74 c74 (aD uJ yG) n12 ZV (aD b51 o51) n47 yK Vc Qz AH)))) (Lj R p2 n2 c2 Fo FU HH GO GQ GU Hi F5 Hj Hh Hk Hl IS IQ Fp Fq G4 G5 G6 Fs Ft Fu p8 n8 c8 (aD uJ yG) n12 ZV (aD b51 o51) n47 yK Vc Qz y)))) (Spec prog 148 #[.slice p8 n8 c8] σ (AA R (fun z y => ∃ uN uO uP uQ uR uS uT uU ADX, z = (.tuple #[.agg #[.int .i64 uN, .int .u64 uO, .slice uP uQ uR, .slice uS uT uU], .int .i64 ADX]) ∧ R (.returned (.tuple #[.agg #[.int .i64 uN, .int .u64 uO, .slice uP uQ uR, .slice uS uT uU], .int .i64 ADX])) y)))) : G1 R p2 n2 c2 Fo FU HH GO GQ GU Hi F5 Hj Hh Hk Hl IS IQ Fp Fq G4 G5 G6 Fs Ft Fu p8 n8 c8 aj n12 ZV p47 n47 yK Vc Qz σ := M.fS h ok rfl fun _ _ => by kernel_rfl
theorem Ix (h : AM (Qz + 1) ∧ G1 R p2 n2 c2 Fo FU HH GO GQ GU Hi F5 Hj Hh Hk Hl IS IQ Fp Fq G4 G5 G6 Fs Ft Fu p8 n8 c8 aj n12 ZV p47 n47 yK Vc (Qz + 1) σ) : Lj R p2 n2 c2 Fo FU HH GO GQ GU Hi F5 Hj Hh Hk Hl IS IQ Fp Fq G4 G5 G6 Fs Ft Fu p8 n8 c8 aj n12 ZV p47 n47 yK Vc Qz σ := M.fS h ok rfl fun _ _ => by kernel_rfl
end AU
namespace BG
variable {q0 Db Dl p2 G4 Fs p8 fp : Option Addr} {DX CP DY Dc C3 CU Fp Fq iu JM : Int} {DZ : ByteArray} {Dd De Dg Dm n2 c2 G5 G6 Ft Fu n8 c8 n25 fq : Nat} {C4 : Bool}
def M : Fw := ⟨prog, 106, f106, [146, 148, 162], [4, 6, 10], false, [], [], [(488, [(6, .X 93 [.I .i64, .I .u64, .L, .L]), (8, wL), (25, wL), (26, wI), (27, wI)])]⟩
theorem ok : M.Ok := ⟨.cons call146 (.cons call148 (.cons call162 (AG.nil))), mixed, func106, by kernel_rfl⟩
def qm := M.pt 0
theorem start (h : ∀ b4 : Nat, ∀ b6 : Nat, Pq p2 fun O6 Pg => In 0 (n2 : Int) ∧ LI .i64 σ O6 Pg fun ZQ => Br (ZQ = 1) (In 0 (n2 : Int) ∧ LI .u64 σ O6 (Pg + 1) fun Dk => Spec prog 162 #[.int .u64 Dk] σ (AA R (CI .u64 fun HY y => R (.returned (.tuple #[.agg #[.int .i64 1, .int .u64 HY, .slice none 0 0, .slice none 0 0], .int .i64 0])) y))) (In 0 (n2 : Int) ∧ LS σ O6 (Pg + 2) fun fp n25 fq => qm R 0 0 none 0 0 none 0 0 none 0 0 fp n25 fq (n25 : Int) 0 σ)) : Spec prog 106 #[.pointer q0, .agg #[.int .i64 DX, .int .i64 CP, .string DZ, .slice Db Dd De, .int .i64 DY, .int .i64 Dc, .int .i64 C3, .slice Dl Dg Dm, .bool C4, .int .i64 CU], .slice p2 n2 c2] σ R := M.start h ok
theorem da (h : Br (JM < iu) (Pq fp fun XS dV => In JM (n25 : Int) ∧ ∃ kz k0 k8 k9, Av σ XS (dV + Int.toNat JM * 2) [.slice kz k0 k8, .int .u64 k9] ∧ ∀ CY : Nat, Spec prog 146 #[.slice kz k0 k8] σ (AA R (CS fun p34 n34 c34 y => Spec prog 162 #[.int .u64 k9] y (AA R (CI .u64 fun Pp AF => Al AF fun o3 => AJ prog (Builtin.append_ #[67, 67] 67 #[.slice p8 n8 c8, (.slice (aD o3 0) 1 1)]) (Hp.set AF o3 (.cells #[.slice p34 n34 c34, .int .u64 Pp] 71 (0, 0))) (CS fun xX n40 xY AH => AM (JM + 1) ∧ qm R Fp Fq G4 G5 G6 Fs Ft Fu xX n40 xY (aD XS dV) n25 fq iu (JM + 1) AH)))))) (Spec prog 148 #[.slice p8 n8 c8] σ (AA R (fun z y => ∃ uV uW uX uY uZ ua ub uc Li, z = (.tuple #[.agg #[.int .i64 uV, .int .u64 uW, .slice uX uY uZ, .slice ua ub uc], .int .i64 Li]) ∧ R (.returned (.tuple #[.agg #[.int .i64 uV, .int .u64 uW, .slice uX uY uZ, .slice ua ub uc], .int .i64 Li])) y)))) : qm R Fp Fq G4 G5 G6 Fs Ft Fu p8 n8 c8 fp n25 fq iu JM σ := M.iY h ok rfl fun _ => by kernel_rfl
end BG
namespace Dq
variable {p0 p5 : Option Addr} {n0 c0 n5 c5 : Nat} {x1 : Int}
def M : Fw := ⟨prog, 107, f107, [], [], false, [], [], [(224, [(1, wU), (5, wL)])]⟩
theorem ok : M.Ok := ⟨AG.nil, mixed, func107, by kernel_rfl⟩
def GN := M.pt 0
theorem start (h : Al σ fun b6 => AJ prog (Builtin.append_ #[90, 90] 90 #[(.slice (aD b6 0) 0 0), .slice p0 n0 c0]) (Hp.set σ b6 (.cells #[] 5 (0, 0))) (CS fun p8 n8 c8 y => GN R x1 p8 n8 c8 y)) : Spec prog 107 #[.slice p0 n0 c0, .int .u64 x1] σ R := M.start h ok
theorem A5 (h : Br (127 < x1) (Df (IntKind.u8.wrap x1) fun x15 => Df (Go.bits .or .u8 x15 128) fun x16 => Al σ fun b17 => AJ prog (Builtin.append_ #[90, 90] 90 #[.slice p5 n5 c5, (.slice (aD b17 0) 1 1)]) (Hp.set σ b17 (.cells #[.int .u8 x16] 5 (0, 0))) (CS fun p18 n18 c18 y => ((0 : Int) ≤ 7 ∧ 7 ≤ ((IntKind.bits .u64 : Nat) : Int)) ∧ Df (x1 / 2 ^ Int.toNat 7) fun x12 => GN R x12 p18 n18 c18 y)) (Df (IntKind.u8.wrap x1) fun ae => Al σ fun b22 => AJ prog (Builtin.append_ #[90, 90] 90 #[.slice p5 n5 c5, (.slice (aD b22 0) 1 1)]) (Hp.set σ b22 (.cells #[.int .u8 ae] 5 (0, 0))) (CS fun og n23 oh y => R (.returned (.slice og n23 oh)) y))) : GN R x1 p5 n5 c5 σ := M.of h ok rfl
end Dq
namespace R3
variable {x0 : Int}
def M : Fw := ⟨prog, 128, f128, [], [], false, [], [], []⟩
theorem ok : M.Ok := ⟨AG.nil, mixed, func128, by kernel_rfl⟩
theorem start (h : Br (11 ≤ x0) (R (.returned (.bool (decide (x0 ≤ 13)))) σ) (R (.returned (.bool false)) σ)) : Spec prog 128 #[.int .i64 x0] σ R := M.start h ok
end R3
namespace JO
variable {q0 : Option Addr} {x1 : Int} {s2 : ByteArray}
def M : Fw := ⟨prog, 136, f136, [66], [], false, [], [], []⟩
theorem ok : M.Ok := ⟨.cons call66 (AG.nil), mixed, func136, by kernel_rfl⟩
theorem start (h : Spec prog 66 #[.pointer q0] σ (AA R (fun z y => ∃ D2 EB s8c x8d, z = (.agg #[.int .i64 D2, .int .i64 EB, .string s8c, .int .i64 x8d]) ∧ Br (D2 = x1) (Spec prog 66 #[.pointer q0] y (AA R (fun z AF => ∃ GD TU VV yH, z = (.agg #[.int .i64 GD, .int .i64 TU, .string VV, .int .i64 yH]) ∧ R (.returned (.bool (ByteArray.toList VV == ByteArray.toList s2))) AF))) (R (.returned (.bool false)) y)))) : Spec prog 136 #[.pointer q0, .int .i64 x1, .string s2] σ R := M.start h ok
end JO
namespace D3
variable {p0 p1 p5 p9 : Option Addr} {n0 c0 n1 c1 n5 c5 n9 c9 : Nat} {x10 x11 : Int}
def M : Fw := ⟨prog, 142, f142, [125, 178, 179, 180], [7], false, [], [], [(232, [(1, wL), (5, wL), (9, wL), (10, wI), (11, wI)])]⟩
theorem ok : M.Ok := ⟨.cons call125 (.cons call178 (.cons call179 (.cons call180 (AG.nil)))), mixed, func142, by kernel_rfl⟩
def A3 := M.pt 0
theorem start (h : Spec prog 178 #[] σ (AA R (CS fun p8 n8 c8 y => A3 R p1 n1 c1 p8 n8 c8 p0 n0 c0 (n0 : Int) 0 y))) : Spec prog 142 #[.slice p0 n0 c0, .slice p1 n1 c1] σ R := M.start h ok
theorem AZ (h : Br (x11 < x10) (Pq p9 fun DG ib => In x11 (n9 : Int) ∧ ∃ GD aU VV, Av σ DG (ib + Int.toNat x11 * 3) [.int .i64 GD, .string aU, .string VV] ∧ ∀ b7 : Nat, Spec prog 125 #[.int .i64 GD] σ (AA R (CB fun t17 y => Bn t17 (R (.returned (.bool false)) y) (Pq p5 fun Ps ky => In GD (n5 : Int) ∧ ∃ v24, Hp.ld y ⟨Ps, (ky + Int.toNat GD * 1), none⟩ = some v24 ∧ Spec prog 179 #[.string VV] y (AA R (fun z AF => ∃ MT Lh MU, z = (.agg #[.slice MT Lh MU]) ∧ Kp [Ps] y AF ∧ Spec prog 180 #[.slice p1 n1 c1, .string aU] AF (AA R (CT fun s34 AH => Kp [Ps] AF AH ∧ ∃ (f35 : Nat) (Xf Xg : Array Value), v24 = .func (.func f35) Xf Xg ∧ Enters prog f35 ∧ Spec prog f35 (Xf ++ #[.agg #[.slice MT Lh MU, .string VV], .string s34] ++ Xg) AH (AA R (CB fun t35 Aa => Bn t35 (R (.returned (.bool false)) Aa) (AM (x11 + 1) ∧ A3 R p1 n1 c1 (aD Ps ky) n5 c5 (aD DG ib) n9 c9 x10 (x11 + 1) Aa))))))))))) (R (.returned (.bool true)) σ)) : A3 R p1 n1 c1 p5 n5 c5 p9 n9 c9 x10 x11 σ := M.of h ok rfl
end D3
namespace UN
variable {p0 : Option Addr} {n0 c0 : Nat}
def M : Fw := ⟨prog, 146, f146, [150], [], false, [], [], []⟩
theorem ok : M.Ok := ⟨.cons call150 (AG.nil), mixed, func146, by kernel_rfl⟩
theorem start (h : Al σ fun b4 => Spec prog 150 #[.slice p0 n0 c0, (.slice (aD b4 0) 1 1)] (Hp.set σ b4 (.cells #[(.string (ByteArray.mk #[95, 95, 110, 97, 109, 101, 95, 95]))] 9 (0, 0))) (AA R (CS fun p5 n5 c5 y => R (.returned (.slice p5 n5 c5)) y))) : Spec prog 146 #[.slice p0 n0 c0] σ R := M.start h ok
end UN
namespace ED
variable {p0 p2c p2d : Option Addr} {n0 c0 n2c c2c n2d c2d : Nat} {qo x2b x4 : Int}
def M : Fw := ⟨prog, 148, f148, [52, 195], [2], false, [], [], [(464, [(0, wL), (2, .X 93 [.I .i64, .I .u64, .L, .L]), (4, wI)])]⟩
theorem ok : M.Ok := ⟨.cons call52 (.cons call195 (AG.nil)), mixed, func148, by kernel_rfl⟩
def CN := M.pt 0
theorem start (h : ∀ b2 : Nat, Spec prog 195 #[.slice p0 n0 c0, (.func (.func 196) #[] #[])] σ (AA R (fun z y => z = (.tuple #[]) ∧ CN R p0 n0 c0 0 0 none 0 0 none 0 0 1 y))) : Spec prog 148 #[.slice p0 n0 c0] σ R := M.start h ok
theorem BH (h : Br (x4 < (n0 : Int)) (AM (x4 - 1) ∧ Pq p0 fun Lp VJ => In (x4 - 1) (n0 : Int) ∧ LS σ Lp (VJ + Int.toNat (x4 - 1) * 2) fun p18 n18 c18 => In x4 (n0 : Int) ∧ LS σ Lp (VJ + Int.toNat x4 * 2) fun og n23 oh => Spec prog 52 #[.slice p18 n18 c18, .slice og n23 oh] σ (AA R (CI .i64 fun JF y => Br (JF = 0) (R (.returned (.tuple #[.agg #[.int .i64 0, .int .u64 0, .slice none 0 0, .slice none 0 0], .int .i64 223])) y) (AM (x4 + 1) ∧ CN R (aD Lp VJ) n0 c0 qo x2b p2c n2c c2c p2d n2d c2d (x4 + 1) y)))) (R (.returned (.tuple #[.agg #[.int .i64 2, .int .u64 0, .slice p0 n0 c0, .slice none 0 0], .int .i64 0])) σ)) : CN R p0 n0 c0 qo x2b p2c n2c c2c p2d n2d c2d x4 σ := M.iY h ok rfl fun _ => by kernel_rfl
end ED
namespace DN
variable {x0 : Int} {b1 b2 : Nat}
def M : Fw := ⟨prog, 158, f158, [156], [], false, [], [], []⟩
theorem ok : M.Ok := ⟨.cons call156 (AG.nil), mixed, func158, by kernel_rfl⟩
theorem start (h : ∃ Fp Fq s6c Fs Ft Fu x6e x6f x6g p6h n6h c6h t6i x6j, Av σ b1 0 [.int .i64 Fp, .int .i64 Fq, .string s6c, .slice Fs Ft Fu, .int .i64 x6e, .int .i64 x6f, .int .i64 x6g, .slice p6h n6h c6h, .bool t6i, .int .i64 x6j] ∧ LI .u64 σ b2 1 fun x8 => Spec prog 156 #[.agg #[.int .i64 Fp, .int .i64 Fq, .string s6c, .slice Fs Ft Fu, .int .i64 x6e, .int .i64 x6f, .int .i64 x6g, .slice p6h n6h c6h, .bool t6i, .int .i64 x6j], .int .u64 x8, .int .u64 x0] σ (AA R (fun z y => ∃ Ib Q4, z = (.tuple #[.int .u64 Ib, .bool Q4]) ∧ R (.returned (.tuple #[.int .u64 Ib, .bool Q4])) y))) : Spec prog 158 #[.int .u64 x0, (.pointer (aD b1 0)), (.pointer (aD b2 0))] σ R := M.start h ok
end DN
namespace DO
variable {q0 : Option Addr}
def M : Fw := ⟨prog, 171, f171, [95], [], false, [], [], []⟩
theorem ok : M.Ok := ⟨.cons call95 (AG.nil), mixed, func171, by kernel_rfl⟩
theorem start (h : Spec prog 95 #[.pointer q0, (.func (.func 212) #[.pointer q0] #[]), .int .i64 1, .int .i64 2] σ (AA R (fun z y => z = (.tuple #[]) ∧ R (.returned (.tuple #[])) y))) : Spec prog 171 #[.pointer q0] σ R := M.start h ok
end DO
namespace H3
variable {p0 p7 : Option Addr} {n0 c0 n7 c7 : Nat} {s1 : ByteArray} {x8 x9 : Int}
def M : Fw := ⟨prog, 180, f180, [], [6], false, [], [], [(104, [(1, wT), (7, wL), (8, wI), (9, wI)])]⟩
theorem ok : M.Ok := ⟨AG.nil, mixed, func180, by kernel_rfl⟩
def Hf := M.pt 0
theorem start (h : Hf R s1 p0 n0 c0 (n0 : Int) 0 σ) : Spec prog 180 #[.slice p0 n0 c0, .string s1] σ R := M.start h ok
theorem Be (h : Br (x9 < x8) (Pq p7 fun BC ik => In x9 (n7 : Int) ∧ ∃ ADY ADZ, Av σ BC (ik + Int.toNat x9 * 2) [.string ADY, .string ADZ] ∧ ∀ b6 : Nat, Bo (ByteArray.toList ADY == ByteArray.toList s1) (R (.returned (.string ADZ)) σ) (AM (x9 + 1) ∧ Hf R s1 (aD BC ik) n7 c7 x8 (x9 + 1) σ)) (R (.returned (.string (ByteArray.mk #[]))) σ)) : Hf R s1 p7 n7 c7 x8 x9 σ := M.of h ok rfl
end H3
namespace DP
variable {p0 p1 : Option Addr} {n0 c0 n1 c1 : Nat}
def M : Fw := ⟨prog, 191, f191, [192], [], false, [], [], []⟩
theorem ok : M.Ok := ⟨.cons call192 (AG.nil), mixed, func191, by kernel_rfl⟩
theorem start (h : Spec prog 192 #[.slice p0 n0 c0] σ (AA R (CI .u64 fun x6 y => R (.returned (.int .u64 x6)) y))) : Spec prog 191 #[.slice p0 n0 c0, .slice p1 n1 c1] σ R := M.start h ok
end DP
namespace R4
variable {x0 x1 x2 : Int}
def M : Fw := ⟨prog, 203, f203, [174, 182], [], false, [], [], []⟩
theorem ok : M.Ok := ⟨.cons call174 (.cons call182 (AG.nil)), mixed, func203, by kernel_rfl⟩
theorem start (h : Spec prog 182 #[.int .u64 x1] σ (AA R (fun z y => ∃ x11, (Value.float .f64 x11) = z ∧ Spec prog 182 #[.int .u64 x2] y (AA R (fun z AF => ∃ E2, (Value.float .f64 E2) = z ∧ Br (x0 = 1) (AJ prog (binOp .add 51 (Value.float .f64 x11) (Value.float .f64 E2)) AF (fun z AH => ∃ Dk, (Value.float .f64 Dk) = z ∧ Spec prog 174 #[(Value.float .f64 Dk)] AH (AA R (CI .u64 fun HY Aa => R (.returned (.tuple #[.int .u64 HY, .bool true])) Aa)))) (Br (x0 = 2) (AJ prog (binOp .sub 51 (Value.float .f64 x11) (Value.float .f64 E2)) AF (fun z AH => ∃ TJ, (Value.float .f64 TJ) = z ∧ Spec prog 174 #[(Value.float .f64 TJ)] AH (AA R (CI .u64 fun iu Aa => R (.returned (.tuple #[.int .u64 iu, .bool true])) Aa)))) (Br (x0 = 3) (AJ prog (binOp .mul 51 (Value.float .f64 x11) (Value.float .f64 E2)) AF (fun z AH => ∃ x31, (Value.float .f64 x31) = z ∧ Spec prog 174 #[(Value.float .f64 x31)] AH (AA R (CI .u64 fun ku Aa => R (.returned (.tuple #[.int .u64 ku, .bool true])) Aa)))) (Br (x0 = 4) (AJ prog (binOp .quo 51 (Value.float .f64 x11) (Value.float .f64 E2)) AF (fun z AH => ∃ Pp, (Value.float .f64 Pp) = z ∧ Spec prog 174 #[(Value.float .f64 Pp)] AH (AA R (CI .u64 fun uM Aa => R (.returned (.tuple #[.int .u64 uM, .bool true])) Aa)))) (R (.returned (.tuple #[.int .u64 0, .bool false])) AF))))))))) : Spec prog 203 #[.int .i64 x0, .int .u64 x1, .int .u64 x2] σ R := M.start h ok
end R4
namespace R5
variable {t0 : Bool}
def M : Fw := ⟨prog, 205, f205, [143], [], false, [], [], []⟩
theorem ok : M.Ok := ⟨.cons call143 (AG.nil), mixed, func205, by kernel_rfl⟩
theorem start (h : Bo t0 (Spec prog 143 #[.int .i64 1] σ (AA R (CI .u64 fun x4 y => R (.returned (.int .u64 x4)) y))) (Spec prog 143 #[.int .i64 0] σ (AA R (CI .u64 fun x5 y => R (.returned (.int .u64 x5)) y)))) : Spec prog 205 #[.bool t0] σ R := M.start h ok
end R5
namespace Cn
variable {s0 : ByteArray} {x1 : Int}
def M : Fw := ⟨prog, 214, f214, [231], [], false, [], [], []⟩
theorem ok : M.Ok := ⟨.cons call231 (AG.nil), mixed, func214, by kernel_rfl⟩
theorem start (h : Spec prog 231 #[.string s0, .int .i64 x1] σ (AA R (fun z y => ∃ ADa lA ADb, z = (.tuple #[ADa, .int .i64 lA, ADb]) ∧ Br (lA ≠ ((ByteArray.size s0 : Nat) : Int)) (R (.returned (.tuple #[.float .f64 0, (.iface 264 (.int .i64 2))])) y) (R (.returned (.tuple #[ADa, ADb])) y)))) : Spec prog 214 #[.string s0, .int .i64 x1] σ R := M.start h ok
end Cn
namespace Eb
variable {TW : Option Addr} {Lr RC : Nat} {ZS s1 : ByteArray}
def M : Fw := ⟨prog, 217, f217, [], [2], false, [], [], []⟩
theorem ok : M.Ok := ⟨AG.nil, mixed, func217, by kernel_rfl⟩
theorem start (h : ∀ b2 : Nat, R (.returned (.bool (ByteArray.toList s1 == ByteArray.toList ZS))) σ) : Spec prog 217 #[.agg #[.slice TW Lr RC, .string ZS], .string s1] σ R := M.start h ok
end Eb
namespace R6
variable {p0 : Option Addr} {n0 c0 : Nat}
def M : Fw := ⟨prog, 225, f225, [174, 240, 241], [], false, [], [], []⟩
theorem ok : M.Ok := ⟨.cons call174 (.cons call240 (.cons call241 (AG.nil))), mixed, func225, by kernel_rfl⟩
theorem start (h : Spec prog 240 #[(.int .i64 (n0 : Int))] σ (AA R (CB fun t7 y => Bn t7 (R (.returned (.tuple #[.int .u64 0, .int .i64 210])) y) ((n0 : Int) ≠ (0 : Int) ∧ Df (Int.tmod 1 (n0 : Int)) fun x12 => Spec prog 241 #[.slice p0 n0 c0, .int .i64 x12] y (AA R (fun z AF => ∃ E2 y13, (Value.complex .f64 E2 y13) = z ∧ ∃ x15, YF prog (Builtin.real_ #[272] 51 #[(Value.complex .f64 E2 y13)]) AF (Value.float .f64 x15) ∧ ∃ x17, YF prog (Builtin.real_ #[272] 51 #[(Value.complex .f64 E2 y13)]) AF (Value.float .f64 x17) ∧ AJ prog (binOp .mul 51 (Value.float .f64 x15) (Value.float .f64 x17)) AF (fun z AH => ∃ Ld, (Value.float .f64 Ld) = z ∧ ∃ HY, YF prog (Builtin.imag_ #[272] 51 #[(Value.complex .f64 E2 y13)]) AH (Value.float .f64 HY) ∧ ∃ JP, YF prog (Builtin.imag_ #[272] 51 #[(Value.complex .f64 E2 y13)]) AH (Value.float .f64 JP) ∧ AJ prog (binOp .mul 51 (Value.float .f64 HY) (Value.float .f64 JP)) AH (fun z Aa => ∃ D4, (Value.float .f64 D4) = z ∧ AJ prog (binOp .add 51 (Value.float .f64 Ld) (Value.float .f64 D4)) Aa (fun z D1 => ∃ JF, (Value.float .f64 JF) = z ∧ Spec prog 174 #[(Value.float .f64 JF)] D1 (AA R (CI .u64 fun TJ BF => R (.returned (.tuple #[.int .u64 TJ, .int .i64 0])) BF))))))))))) : Spec prog 225 #[.slice p0 n0 c0] σ R := M.start h ok
end R6
namespace PE
def M : Fw := ⟨prog, 267, f267, [], [], false, [], [], []⟩
theorem ok : M.Ok := ⟨AG.nil, mixed, func267, by kernel_rfl⟩
theorem start (h : Al σ fun b1 => R (.returned (.slice (aD b1 0) 13 13)) (Hp.set σ b1 (.cells #[(.string (ByteArray.mk #[])), (.string (ByteArray.mk #[114, 97, 116, 101])), (.string (ByteArray.mk #[105, 110, 99, 114, 101, 97, 115, 101])), (.string (ByteArray.mk #[100, 101, 108, 116, 97])), (.string (ByteArray.mk #[115, 117, 109, 95, 111, 118, 101, 114, 95, 116, 105, 109, 101])), (.string (ByteArray.mk #[97, 118, 103, 95, 111, 118, 101, 114, 95, 116, 105, 109, 101])), (.string (ByteArray.mk #[109, 105, 110, 95, 111, 118, 101, 114, 95, 116, 105, 109, 101])), (.string (ByteArray.mk #[109, 97, 120, 95, 111, 118, 101, 114, 95, 116, 105, 109, 101])), (.string (ByteArray.mk #[99, 111, 117, 110, 116, 95, 111, 118, 101, 114, 95, 116, 105, 109, 101])), (.string (ByteArray.mk #[108, 97, 115, 116, 95, 111, 118, 101, 114, 95, 116, 105, 109, 101])), (.string (ByteArray.mk #[119, 97, 118, 101])), (.string (ByteArray.mk #[97, 98, 115])), (.string (ByteArray.mk #[102, 108, 111, 111, 114]))] 9 (0, 0)))) : Spec prog 267 #[] σ R := M.start h ok
end PE
namespace Am
variable {q0 : Option Addr} {b2 : Nat} {t4 : Bool}
def M : Fw := ⟨prog, 270, f270, [66, 67, 135, 136, 138, 210, 295, 296, 297, 298], [3], false, [], [], [(124, [(0, wQ), (2, wA), (4, wB)]), (252, [(0, wQ), (2, wA)]), (508, [(0, wQ), (2, wA)]), (255, [(0, wQ), (2, wA)])]⟩
theorem ok : M.Ok := ⟨.cons call66 (.cons call67 (.cons call135 (.cons call136 (.cons call138 (.cons call210 (.cons call295 (.cons call296 (.cons call297 (.cons call298 (AG.nil)))))))))), mixed, func270, by kernel_rfl⟩
def Lc := M.pt 0
def Lf := M.pt 1
def Pn := M.pt 2
def Vd := M.pt 3
theorem start (h : Al σ fun b2 => AJ prog (Instr.storeAt 36 (.pointer (aD b2 0)) (.agg #[.int .i64 2, .int .i64 0, (.string (ByteArray.mk #[])), .slice none 0 0, .int .i64 0, .int .i64 0, .int .i64 0, .slice none 0 0, .bool false, .int .i64 0])) (Hp.set σ b2 (.cells #[.int .i64 0, .int .i64 0, (.string (ByteArray.mk #[])), .slice none 0 0, .int .i64 0, .int .i64 0, .int .i64 0, .slice none 0 0, .bool false, .int .i64 0] 36 (0, 0))) (fun _ y => Spec prog 66 #[.pointer q0] y (AA R (fun z AF => ∃ FY GV FZ GX, z = (.agg #[.int .i64 FY, .int .i64 GV, .string FZ, .int .i64 GX]) ∧ ∀ b3 : Nat, Br (FY = 3) (Spec prog 295 #[.string FZ] AF (AA R (CB fun t14 AH => Bn t14 (Spec prog 135 #[.pointer q0] AH (AA R (fun z Aa => ∃ Jp OL VK xK, z = (.agg #[.int .i64 Jp, .int .i64 OL, .string VK, .int .i64 xK]) ∧ Spec prog 296 #[.pointer q0, (.pointer (aD b2 0)), (.agg #[.int .i64 1, (.string (ByteArray.mk #[95, 95, 110, 97, 109, 101, 95, 95])), .string FZ]), .agg #[.int .i64 FY, .int .i64 GV, .string FZ, .int .i64 GX]] Aa (AA R (fun z D1 => z = (.tuple #[]) ∧ Lc R q0 b2 true D1))))) (Lc R q0 b2 false AH)))) (Lc R q0 b2 false AF))))) : Spec prog 270 #[.pointer q0] σ R := M.start h ok
theorem Ia (h : Spec prog 136 #[.pointer q0, .int .i64 5, (.string (ByteArray.mk #[123]))] σ (AA R (CB fun t27 y => Bo t27 (Spec prog 135 #[.pointer q0] y (AA R (fun z AF => ∃ AJt Ic AJu AJv, z = (.agg #[.int .i64 AJt, .int .i64 Ic, .string AJu, .int .i64 AJv]) ∧ Spec prog 297 #[.pointer q0, (.pointer (aD b2 0))] AF (AA R (fun z AH => z = (.tuple #[]) ∧ Lf R q0 b2 AH))))) (Bn t4 (Spec prog 67 #[.pointer q0] y (AA R (fun z AF => z = (.tuple #[]) ∧ Lf R q0 b2 AF))) (Lf R q0 b2 y))))) : Lc R q0 b2 t4 σ := M.of h ok rfl
theorem Iu (h : Spec prog 136 #[.pointer q0, .int .i64 5, (.string (ByteArray.mk #[91]))] σ (AA R (CB fun t37 y => Bo t37 (Spec prog 135 #[.pointer q0] y (AA R (fun z AF => ∃ AJw AJx AJy AJz, z = (.agg #[.int .i64 AJw, .int .i64 AJx, .string AJy, .int .i64 AJz]) ∧ Spec prog 298 #[.pointer q0] AF (AA R (CI .i64 fun x41 AH => AJ prog (Instr.storeAt 3 (.pointer (aD b2 0)) (.int .i64 3)) AH (fun _ Aa => AJ prog (Instr.storeAt 2 (.pointer (aD b2 4)) (.int .i64 x41)) Aa (fun _ D1 => Spec prog 210 #[.pointer q0, (.string (ByteArray.mk #[93]))] D1 (AA R (fun z BF => z = (.tuple #[]) ∧ Pn R q0 b2 BF))))))))) (Pn R q0 b2 y)))) : Lf R q0 b2 σ := M.of h ok rfl
theorem QJ (h : Spec prog 136 #[.pointer q0, .int .i64 3, (.string (ByteArray.mk #[111, 102, 102, 115, 101, 116]))] σ (AA R (CB fun t47 y => Bo t47 (Spec prog 135 #[.pointer q0] y (AA R (fun z AF => ∃ AJ0 AJ1 AJ2 AJ3, z = (.agg #[.int .i64 AJ0, .int .i64 AJ1, .string AJ2, .int .i64 AJ3]) ∧ Spec prog 298 #[.pointer q0] AF (AA R (CI .i64 fun x51 AH => AJ prog (Instr.storeAt 2 (.pointer (aD b2 5)) (.int .i64 x51)) AH (fun _ Aa => Vd R q0 b2 Aa)))))) (Vd R q0 b2 y)))) : Pn R q0 b2 σ := M.of h ok rfl
theorem Ve (h : ∃ XT XU lB XV XW XX lC lD lE lF lG lH lI lJ, Av σ b2 0 [.int .i64 XT, .int .i64 XU, .string lB, .slice XV XW XX, .int .i64 lC, .int .i64 lD, .int .i64 lE, .slice lF lG lH, .bool lI, .int .i64 lJ] ∧ Spec prog 138 #[.pointer q0, .agg #[.int .i64 XT, .int .i64 XU, .string lB, .slice XV XW XX, .int .i64 lC, .int .i64 lD, .int .i64 lE, .slice lF lG lH, .bool lI, .int .i64 lJ]] σ (AA R (fun z y => z = (.tuple #[]) ∧ R (.returned (.tuple #[])) y))) : Vd R q0 b2 σ := M.of h ok rfl
end Am
namespace BI
variable {x0 x1 : Int} {t2 t7 : Bool} {v6 : Value}
def M : Fw := ⟨prog, 282, f282, [], [], false, [], [], [(248, [(1, wI), (6, wV), (7, wB)]), (15988, [(1, wI), (6, wV), (7, wB)])]⟩
theorem ok : M.Ok := ⟨AG.nil, mixed, func282, by kernel_rfl⟩
def yM := M.pt 0
def Jk := M.pt 1
theorem start (h : LI .u64 σ 6 0 fun x10 => (0 ≤ x10 ∧ x10 ≤ ((IntKind.bits .u64 : Nat) : Int)) ∧ Df (x0 / 2 ^ Int.toNat x10) fun x11 => Br (x11 ≠ 0) (R (.returned (.tuple #[.float .f64 0, .bool false])) σ) (AJ prog (convert 48 51 (.int .u64 x0)) σ (fun z y => ∃ ZQ, (Value.float .f64 ZQ) = z ∧ Bo t2 (∃ x17, YF prog (Op.unary .neg (Value.float .f64 ZQ)) y (Value.float .f64 x17) ∧ yM R x1 (Value.float .f64 x17) false y) (yM R x1 (Value.float .f64 ZQ) false y)))) : Spec prog 282 #[.int .u64 x0, .int .i64 x1, .bool t2] σ R := M.start h ok
theorem qp (h : Br (x1 = 0) (R (.returned (.tuple #[v6, .bool true])) σ) (Br (0 < x1) (Br (x1 ≤ 37) (Br (22 < x1) (LS σ 9 0 fun p32 n32 c32 => AM (x1 - 22) ∧ Pq p32 fun b35 o35 => In (x1 - 22) (n32 : Int) ∧ ∃ ZT, Hp.ld σ ⟨b35, (o35 + Int.toNat (x1 - 22) * 1), none⟩ = some (Value.float .f64 ZT) ∧ AJ prog (binOp .mul 51 v6 (Value.float .f64 ZT)) σ (fun z y => ∃ Pp, (Value.float .f64 Pp) = z ∧ Jk R 22 (Value.float .f64 Pp) t7 y)) (Jk R x1 v6 t7 σ)) (Br (x1 < 0) (Br (((-22) : Int) ≤ x1) (LS σ 9 0 fun tN ot c58 => Df (IntKind.i64.wrap (0 - x1)) fun qk => Pq tN fun b61 o61 => In qk (ot : Int) ∧ ∃ qq, Hp.ld σ ⟨b61, (o61 + Int.toNat qk * 1), none⟩ = some (Value.float .f64 qq) ∧ AJ prog (binOp .quo 51 v6 (Value.float .f64 qq)) σ (fun z y => ∃ x63, (Value.float .f64 x63) = z ∧ R (.returned (.tuple #[(Value.float .f64 x63), .bool true])) y)) (R (.returned (.tuple #[v6, .bool t7])) σ)) (R (.returned (.tuple #[v6, .bool t7])) σ))) (Br (x1 < 0) (Br (((-22) : Int) ≤ x1) (LS σ 9 0 fun tN ot c58 => Df (IntKind.i64.wrap (0 - x1)) fun qk => Pq tN fun b61 o61 => In qk (ot : Int) ∧ ∃ qq, Hp.ld σ ⟨b61, (o61 + Int.toNat qk * 1), none⟩ = some (Value.float .f64 qq) ∧ AJ prog (binOp .quo 51 v6 (Value.float .f64 qq)) σ (fun z y => ∃ x63, (Value.float .f64 x63) = z ∧ R (.returned (.tuple #[(Value.float .f64 x63), .bool true])) y)) (R (.returned (.tuple #[v6, .bool t7])) σ)) (R (.returned (.tuple #[v6, .bool t7])) σ)))) : yM R x1 v6 t7 σ := M.of h ok rfl
end BI
end TwW
end
end
section
set_option maxRecDepth 100000
noncomputable section
namespace TwW
open Go Tw Go.Proofs.Tryz
variable [Es] {R : Rr} {σ : Hp}


namespace Bk
variable {p0 OQ AJ6 AJ7 : Option Addr} {n0 c0 n21 MV AJ8 AJ9 AKA AKB : Nat} {x7 x8 JP D4 fj Pr AKC qs AKD AKE x12 : Int} {t9 AKF : Bool} {fk : ByteArray}
def M : Fw := ⟨prog, 15, f15, [37], [11], false, [], [], [(488, [(7, wI), (8, wI), (9, wB), (21, wL), (22, wI), (23, wI)]), (1959, [(7, wI), (8, wI), (9, wB), (21, wL), (22, wI), (23, wI)]), (125342, [(7, wI), (8, wI), (9, wB), (11, .X 36 [.I .i64, .I .i64, .T, .L, .I .i64, .I .i64, .I .i64, .L, .B, .I .i64]), (12, wI), (21, wL), (22, wI), (23, wI)]), (250687, [(7, wI), (8, wI), (21, wL), (22, wI), (23, wI)])]⟩
theorem ok : M.Ok := ⟨.cons call37 (AG.nil), mixed, func15, by kernel_rfl⟩
def yN := M.pt 0
def yO := M.pt 1
def Vd := M.pt 2
def XQ := M.pt 3
theorem start (h : Spec prog 37 #[.slice p0 n0 c0] σ (AA R (fun z y => ∃ AKG qt ADe, z = (.tuple #[.int .i64 AKG, .int .i64 qt, .int .i64 ADe]) ∧ Br (ADe ≠ 0) (R (.returned (.tuple #[.int .i64 0, .int .i64 0])) y) (yN R 0 0 false p0 n0 c0 (n0 : Int) 0 y)))) : Spec prog 15 #[.slice p0 n0 c0] σ R := M.start h ok
theorem Vf (h : Br (D4 < JP) (Pq OQ fun Jb WM => In D4 (n21 : Int) ∧ ∃ Vg lK lL lM lN lO OR OS lP lQ lR lS lT lU, Av σ Jb (WM + Int.toNat D4 * 10) [.int .i64 Vg, .int .i64 lK, .string lL, .slice lM lN lO, .int .i64 OR, .int .i64 OS, .int .i64 lP, .slice lQ lR lS, .bool lT, .int .i64 lU] ∧ ∀ BC : Nat, Br (Vg ≠ 2) (Br (Vg ≠ 3) (yO R x7 x8 t9 (aD Jb WM) n21 MV JP D4 σ) (AM (OS + OR) ∧ Br (Vg = 2) (AM ((OS + OR) + 300) ∧ Vd R x7 x8 t9 Vg lK lL lM lN lO OR OS lP lQ lR lS lT lU (((OS + OR) + 300)) (aD Jb WM) n21 MV JP D4 σ) (Vd R x7 x8 t9 Vg lK lL lM lN lO OR OS lP lQ lR lS lT lU (OS + OR) (aD Jb WM) n21 MV JP D4 σ))) (AM (OS + OR) ∧ Br (Vg = 2) (AM ((OS + OR) + 300) ∧ Vd R x7 x8 t9 Vg lK lL lM lN lO OR OS lP lQ lR lS lT lU (((OS + OR) + 300)) (aD Jb WM) n21 MV JP D4 σ) (Vd R x7 x8 t9 Vg lK lL lM lN lO OR OS lP lQ lR lS lT lU (OS + OR) (aD Jb WM) n21 MV JP D4 σ))) (R (.returned (.tuple #[.int .i64 x7, .int .i64 x8])) σ)) : yN R x7 x8 t9 OQ n21 MV JP D4 σ := M.of h ok rfl
theorem dc (h : AM (D4 + 1) ∧ yN R x7 x8 t9 OQ n21 MV JP (D4 + 1) σ) : yO R x7 x8 t9 OQ n21 MV JP D4 σ := M.of h ok rfl
theorem Ve (h : Bn t9 (XQ R (if x7 < x12 then x12 else x7) qs OQ n21 MV JP D4 σ) (Br (qs < x8) (XQ R (if x7 < x12 then x12 else x7) qs OQ n21 MV JP D4 σ) (XQ R (if x7 < x12 then x12 else x7) x8 OQ n21 MV JP D4 σ))) : Vd R x7 x8 t9 fj Pr fk AJ6 AJ8 AJ9 AKC qs AKD AJ7 AKA AKB AKF AKE x12 OQ n21 MV JP D4 σ := M.iY h ok rfl fun _ => by kernel_rfl
theorem VR (h : yO R x7 x8 true OQ n21 MV JP D4 σ) : XQ R x7 x8 OQ n21 MV JP D4 σ := M.of h ok rfl
end Bk
namespace UO
variable {s0 : ByteArray} {p1 : Option Addr} {n1 c1 : Nat} {x2 : Int}
def M : Fw := ⟨prog, 20, f20, [11, 13, 43], [], false, [], [], []⟩
theorem ok : M.Ok := ⟨.cons call11 (.cons call13 (.cons call43 (AG.nil))), mixed, func20, by kernel_rfl⟩
theorem start (h : Spec prog 43 #[.string s0] σ (AA R (fun z y => ∃ kK kL kM AKH yP, z = (.tuple #[.slice kK kL kM, .int .i64 AKH, .int .i64 yP]) ∧ Br (yP ≠ 0) (R (.returned (.tuple #[.slice none 0 0, .int .i64 yP])) y) (Spec prog 13 #[.slice p1 n1 c1] y (AA R (CS fun UD n22 TH AF => Spec prog 11 #[.slice kK kL kM, .slice UD n22 TH, .int .i64 x2] AF (AA R (fun z AH => ∃ ADf ADg ADh Vh, z = (.tuple #[.slice ADf ADg ADh, .int .i64 Vh]) ∧ R (.returned (.tuple #[.slice ADf ADg ADh, .int .i64 Vh])) AH)))))))) : Spec prog 20 #[.string s0, .slice p1 n1 c1, .int .i64 x2] σ R := M.start h ok
end UO
namespace NJ
variable {TW p0b p1a p1b : Option Addr} {Lr RC n0b c0b n1a c1a n1b c1b : Nat}
def M : Fw := ⟨prog, 51, f51, [52], [2, 3], false, [], [], []⟩
theorem ok : M.Ok := ⟨.cons call52 (AG.nil), mixed, func51, by kernel_rfl⟩
theorem start (h : ∀ b2 : Nat, ∀ b3 : Nat, Spec prog 52 #[.slice TW Lr RC, .slice p1a n1a c1a] σ (AA R (CI .i64 fun x9 y => R (.returned (.int .i64 x9)) y))) : Spec prog 51 #[.agg #[.slice TW Lr RC, .slice p0b n0b c0b], .agg #[.slice p1a n1a c1a, .slice p1b n1b c1b]] σ R := M.start h ok
end NJ
namespace Lt
variable {p0 p1 : Option Addr} {n0 c0 n1 c1 : Nat}
def M : Fw := ⟨prog, 52, f52, [75], [], false, [], [], []⟩
theorem ok : M.Ok := ⟨.cons call75 (AG.nil), mixed, func52, by kernel_rfl⟩
theorem start (h : Spec prog 75 #[.slice p0 n0 c0, .slice p1 n1 c1, (.func (.func 76) #[] #[])] σ (AA R (CI .i64 fun x7 y => R (.returned (.int .i64 x7)) y))) : Spec prog 52 #[.slice p0 n0 c0, .slice p1 n1 c1] σ R := M.start h ok
end Lt
namespace R7
def M : Fw := ⟨prog, 62, f62, [], [], false, [], [], []⟩
theorem ok : M.Ok := ⟨AG.nil, mixed, func62, by kernel_rfl⟩
theorem start (h : Al σ fun b1 => R (.returned (.slice (aD b1 0) 5 5)) (Hp.set σ b1 (.cells #[(.string (ByteArray.mk #[115, 117, 109])), (.string (ByteArray.mk #[109, 105, 110])), (.string (ByteArray.mk #[109, 97, 120])), (.string (ByteArray.mk #[97, 118, 103])), (.string (ByteArray.mk #[99, 111, 117, 110, 116]))] 9 (0, 0)))) : Spec prog 62 #[] σ R := M.start h ok
end R7
namespace As
variable {s0 FZ : ByteArray} {p5 p6 : Option Addr} {n5 c5 n6 c6 : Nat} {FY GV GX x8 x9 E2 AQM : Int} {t201 : Bool}
def M : Fw := ⟨prog, 63, f63, [90, 91, 92, 93, 94], [7], false, [], [], [(1788, [(0, wT), (5, wL), (7, .X 131 [.I .i64, .I .i64, .T, .I .i64]), (8, wI)]), (917472, [(0, wT), (5, wL), (7, .X 131 [.I .i64, .I .i64, .T, .I .i64]), (8, wI), (9, wI)]), (58720224, [(0, wT), (5, wL), (7, .X 131 [.I .i64, .I .i64, .T, .I .i64]), (8, wI), (9, wI)]), (117440508, [(0, wT), (5, wL), (6, wL), (7, .X 131 [.I .i64, .I .i64, .T, .I .i64]), (8, wI), (9, wI)]), (15032385517, [(0, wT), (5, wL), (6, wL), (7, .X 131 [.I .i64, .I .i64, .T, .I .i64]), (8, wI), (9, wI), (13, w8), (199, w8), (201, wB)]), (1879048190, [(0, wT), (5, wL), (6, wL), (7, .X 131 [.I .i64, .I .i64, .T, .I .i64]), (8, wI), (9, wI)]), (458750, [(0, wT), (5, wL), (7, .X 131 [.I .i64, .I .i64, .T, .I .i64]), (8, wI)])]⟩
theorem ok : M.Ok := ⟨.cons call90 (.cons call91 (.cons call92 (.cons call93 (.cons call94 (AG.nil))))), mixed, func63, by kernel_rfl⟩
def MW := M.pt 0
def Xh := M.pt 1
def UP := M.pt 2
def ADi := M.pt 3
def Kl := M.pt 6
theorem start (h : ∀ b7 : Nat, Br ((4096 : Int) < ((ByteArray.size s0 : Nat) : Int)) (R (.returned (.tuple #[.slice none 0 0, .int .i64 0, .int .i64 170])) σ) (MW R s0 none 0 0 0 0 (ByteArray.mk #[]) 0 0 σ)) : Spec prog 63 #[.string s0] σ R := M.start h ok
theorem LM (h : Br (x8 = ((ByteArray.size s0 : Nat) : Int)) (Al σ fun b24 => AJ prog (Builtin.append_ #[121, 121] 121 #[.slice p5 n5 c5, (.slice (aD b24 0) 1 1)]) (Hp.set σ b24 (.cells #[.int .i64 0, .int .i64 x8, (.string (ByteArray.mk #[])), .int .i64 0] 131 (0, 0))) (CS fun fp n25 fq y => R (.returned (.tuple #[.slice fp n25 fq, .int .i64 0, .int .i64 0])) y)) (∃ ud : UInt8, 0 ≤ x8 ∧ (ByteArray.data s0)[Int.toNat x8]? = some ud ∧ Br ((((UInt8.toNat ud : Nat) : Int) : Int) = 32) (AM (x8 + 1) ∧ MW R s0 p5 n5 c5 FY GV FZ GX (x8 + 1) σ) (Br ((((UInt8.toNat ud : Nat) : Int) : Int) = 9) (AM (x8 + 1) ∧ MW R s0 p5 n5 c5 FY GV FZ GX (x8 + 1) σ) (Br ((((UInt8.toNat ud : Nat) : Int) : Int) = 13) (AM (x8 + 1) ∧ MW R s0 p5 n5 c5 FY GV FZ GX (x8 + 1) σ) (Br ((((UInt8.toNat ud : Nat) : Int) : Int) = 10) (AM (x8 + 1) ∧ MW R s0 p5 n5 c5 FY GV FZ GX (x8 + 1) σ) (Spec prog 90 #[(.int .u8 ((UInt8.toNat ud : Nat) : Int))] σ (AA R (CB fun t49 y => Bo t49 (Xh R s0 p5 n5 c5 FY GV FZ GX x8 x8 y) (Spec prog 91 #[(.int .u8 ((UInt8.toNat ud : Nat) : Int))] y (AA R (CB fun t52 AF => Bo t52 (UP R s0 p5 n5 c5 FY GV FZ GX x8 x8 AF) (Br ((((UInt8.toNat ud : Nat) : Int) : Int) = 34) (AM (x8 + 1) ∧ ADi R s0 p5 n5 c5 none 0 0 FY GV FZ GX (x8 + 1) x8 AF) (∃ s60, YF prog (Instr.sliceAt 9 (.string s0) (some (.int .i64 x8)) none none) AF (.string s60) ∧ Spec prog 92 #[.string s60] AF (AA R (CT fun s61 AH => Bn ((ByteArray.toList s61 == ByteArray.toList (ByteArray.mk #[]))) (Al AH fun b68 => AJ prog (Builtin.append_ #[121, 121] 121 #[.slice p5 n5 c5, (.slice (aD b68 0) 1 1)]) (Hp.set AH b68 (.cells #[.int .i64 5, .int .i64 x8, .string s61, .int .i64 0] 131 (0, 0))) (CS fun qh n69 qi Aa => AM (x8 + ((ByteArray.size s61 : Nat) : Int)) ∧ MW R s0 qh n69 qi FY GV FZ GX ((x8 + ((ByteArray.size s61 : Nat) : Int))) Aa)) (R (.returned (.tuple #[.slice none 0 0, .int .i64 x8, .int .i64 171])) AH)))))))))))))))) : MW R s0 p5 n5 c5 FY GV FZ GX x8 σ := M.iY h ok rfl fun _ => by kernel_rfl
theorem de (h : Br (x8 < ((ByteArray.size s0 : Nat) : Int)) (∃ u82 : UInt8, 0 ≤ x8 ∧ (ByteArray.data s0)[Int.toNat x8]? = some u82 ∧ Spec prog 90 #[(.int .u8 ((UInt8.toNat u82 : Nat) : Int))] σ (AA R (CB fun t83 y => Bo t83 (AM (x8 + 1) ∧ Xh R s0 p5 n5 c5 FY GV FZ GX (x8 + 1) x9 y) (∃ u87 : UInt8, 0 ≤ x8 ∧ (ByteArray.data s0)[Int.toNat x8]? = some u87 ∧ Spec prog 91 #[(.int .u8 ((UInt8.toNat u87 : Nat) : Int))] y (AA R (CB fun t88 AF => Bo t88 (∃ u92 : UInt8, 0 ≤ x8 ∧ (ByteArray.data s0)[Int.toNat x8]? = some u92 ∧ Br ((((UInt8.toNat u92 : Nat) : Int) : Int) ≠ 58) (AM (x8 + 1) ∧ Xh R s0 p5 n5 c5 FY GV FZ GX (x8 + 1) x9 AF) (∃ u99 : UInt8, 0 ≤ x8 ∧ (ByteArray.data s0)[Int.toNat x8]? = some u99 ∧ Br ((((UInt8.toNat u99 : Nat) : Int) : Int) = 46) (AM (x8 + 1) ∧ Xh R s0 p5 n5 c5 FY GV FZ GX (x8 + 1) x9 AF) (∃ Gi, YF prog (Instr.sliceAt 9 (.string s0) (some (.int .i64 x9)) (some (.int .i64 x8)) none) AF (.string Gi) ∧ Spec prog 93 #[.string Gi] AF (AA R (CI .i64 fun MX AH => Br (0 < MX) (Kl R s0 p5 n5 c5 2 x9 Gi MX x8 AH) (Spec prog 94 #[.string Gi] AH (AA R (CB fun t121 Aa => Bn t121 (R (.returned (.tuple #[.slice none 0 0, .int .i64 x9, .int .i64 172])) Aa) (Kl R s0 p5 n5 c5 1 x9 Gi MX x8 Aa))))))))) (∃ u99 : UInt8, 0 ≤ x8 ∧ (ByteArray.data s0)[Int.toNat x8]? = some u99 ∧ Br ((((UInt8.toNat u99 : Nat) : Int) : Int) = 46) (AM (x8 + 1) ∧ Xh R s0 p5 n5 c5 FY GV FZ GX (x8 + 1) x9 AF) (∃ Gi, YF prog (Instr.sliceAt 9 (.string s0) (some (.int .i64 x9)) (some (.int .i64 x8)) none) AF (.string Gi) ∧ Spec prog 93 #[.string Gi] AF (AA R (CI .i64 fun MX AH => Br (0 < MX) (Kl R s0 p5 n5 c5 2 x9 Gi MX x8 AH) (Spec prog 94 #[.string Gi] AH (AA R (CB fun t121 Aa => Bn t121 (R (.returned (.tuple #[.slice none 0 0, .int .i64 x9, .int .i64 172])) Aa) (Kl R s0 p5 n5 c5 1 x9 Gi MX x8 Aa)))))))))))))) (∃ Gi, YF prog (Instr.sliceAt 9 (.string s0) (some (.int .i64 x9)) (some (.int .i64 x8)) none) σ (.string Gi) ∧ Spec prog 93 #[.string Gi] σ (AA R (CI .i64 fun MX y => Br (0 < MX) (Kl R s0 p5 n5 c5 2 x9 Gi MX x8 y) (Spec prog 94 #[.string Gi] y (AA R (CB fun t121 AF => Bn t121 (R (.returned (.tuple #[.slice none 0 0, .int .i64 x9, .int .i64 172])) AF) (Kl R s0 p5 n5 c5 1 x9 Gi MX x8 AF)))))))) : Xh R s0 p5 n5 c5 FY GV FZ GX x8 x9 σ := M.iY h ok rfl fun _ => by kernel_rfl
theorem Xi (h : Br (x8 < ((ByteArray.size s0 : Nat) : Int)) (∃ ADk : UInt8, 0 ≤ x8 ∧ (ByteArray.data s0)[Int.toNat x8]? = some ADk ∧ Spec prog 91 #[(.int .u8 ((UInt8.toNat ADk : Nat) : Int))] σ (AA R (CB fun t136 y => Bo t136 (AM (x8 + 1) ∧ UP R s0 p5 n5 c5 FY GV FZ GX (x8 + 1) x9 y) (∃ ADl : UInt8, 0 ≤ x8 ∧ (ByteArray.data s0)[Int.toNat x8]? = some ADl ∧ Spec prog 90 #[(.int .u8 ((UInt8.toNat ADl : Nat) : Int))] y (AA R (CB fun t141 AF => Bo t141 (AM (x8 + 1) ∧ UP R s0 p5 n5 c5 FY GV FZ GX (x8 + 1) x9 AF) (∃ Xj, YF prog (Instr.sliceAt 9 (.string s0) (some (.int .i64 x9)) (some (.int .i64 x8)) none) AF (.string Xj) ∧ Al AF fun Xk => AJ prog (Builtin.append_ #[121, 121] 121 #[.slice p5 n5 c5, (.slice (aD Xk 0) 1 1)]) (Hp.set AF Xk (.cells #[.int .i64 3, .int .i64 x9, .string Xj, .int .i64 0] 131 (0, 0))) (CS fun lV n154 lW AH => MW R s0 lV n154 lW FY GV FZ GX x8 AH)))))))) (∃ Xj, YF prog (Instr.sliceAt 9 (.string s0) (some (.int .i64 x9)) (some (.int .i64 x8)) none) σ (.string Xj) ∧ Al σ fun Xk => AJ prog (Builtin.append_ #[121, 121] 121 #[.slice p5 n5 c5, (.slice (aD Xk 0) 1 1)]) (Hp.set σ Xk (.cells #[.int .i64 3, .int .i64 x9, .string Xj, .int .i64 0] 131 (0, 0))) (CS fun lV n154 lW y => MW R s0 lV n154 lW FY GV FZ GX x8 y))) : UP R s0 p5 n5 c5 FY GV FZ GX x8 x9 σ := M.iY h ok rfl fun _ => by kernel_rfl
theorem Xl (h : Al σ fun ADm => AJ prog (Builtin.append_ #[121, 121] 121 #[.slice p5 n5 c5, (.slice (aD ADm 0) 1 1)]) (Hp.set σ ADm (.cells #[.int .i64 FY, .int .i64 GV, .string FZ, .int .i64 GX] 131 (0, 0))) (CS fun AKI n127 AKJ y => MW R s0 AKI n127 AKJ FY GV FZ GX x8 y)) : Kl R s0 p5 n5 c5 FY GV FZ GX x8 σ := M.iY h ok rfl fun _ => by kernel_rfl
end As
namespace Ec
variable {q0 Db Dl p2 : Option Addr} {DX CP DY Dc C3 CU : Int} {DZ : ByteArray} {Dd De Dg Dm n2 c2 : Nat} {C4 : Bool}
def M : Fw := ⟨prog, 84, f84, [124, 128], [4], false, [(1, 10, true)], [], []⟩
theorem ok : M.Ok := ⟨.cons call124 (.cons call128 (AG.nil)), mixed, func84, by kernel_rfl⟩
theorem start (h : ∀ b4 : Nat, Pq p2 fun DG ib => In 0 (n2 : Int) ∧ LI .i64 σ DG ib fun x15 => In 1 (n2 : Int) ∧ LI .i64 σ DG (ib + 1) fun Dk => Br (x15 = 2) (Br (x15 = 1) (Br (x15 = 3) (R (.returned (.tuple #[.int .i64 0, .int .i64 192])) σ) (Br (Dk = 3) (R (.returned (.tuple #[.int .i64 0, .int .i64 192])) σ) (Spec prog 128 #[.int .i64 CP] σ (AA R (CB fun t41 y => Bo t41 (Bm (Dk = 2) (R (.returned (.tuple #[.int .i64 0, .int .i64 192])) y) (Br (Dk = 1) (Spec prog 124 #[.int .i64 CP] y (AA R (CB fun t57 AF => Bo t57 (Bn C4 (R (.returned (.tuple #[.int .i64 0, .int .i64 192])) AF) (R (.returned (.tuple #[(.int .i64 (if x15 < Dk then Dk else x15)), .int .i64 0])) AF)) (R (.returned (.tuple #[(.int .i64 (if x15 < Dk then Dk else x15)), .int .i64 0])) AF)))) (R (.returned (.tuple #[(.int .i64 (if x15 < Dk then Dk else x15)), .int .i64 0])) y))) (Br (C3 ≠ 0) (Bm (Dk = 2) (R (.returned (.tuple #[.int .i64 0, .int .i64 192])) y) (Br (Dk = 1) (Spec prog 124 #[.int .i64 CP] y (AA R (CB fun t57 AF => Bo t57 (Bn C4 (R (.returned (.tuple #[.int .i64 0, .int .i64 192])) AF) (R (.returned (.tuple #[(.int .i64 (if x15 < Dk then Dk else x15)), .int .i64 0])) AF)) (R (.returned (.tuple #[(.int .i64 (if x15 < Dk then Dk else x15)), .int .i64 0])) AF)))) (R (.returned (.tuple #[(.int .i64 (if x15 < Dk then Dk else x15)), .int .i64 0])) y))) (Br (Dk = 1) (Spec prog 124 #[.int .i64 CP] y (AA R (CB fun t57 AF => Bo t57 (Bn C4 (R (.returned (.tuple #[.int .i64 0, .int .i64 192])) AF) (R (.returned (.tuple #[(.int .i64 (if x15 < Dk then Dk else x15)), .int .i64 0])) AF)) (R (.returned (.tuple #[(.int .i64 (if x15 < Dk then Dk else x15)), .int .i64 0])) AF)))) (R (.returned (.tuple #[(.int .i64 (if x15 < Dk then Dk else x15)), .int .i64 0])) y)))))))) (Br (x15 = 3) (R (.returned (.tuple #[.int .i64 0, .int .i64 192])) σ) (Br (Dk = 3) (R (.returned (.tuple #[.int .i64 0, .int .i64 192])) σ) (Spec prog 128 #[.int .i64 CP] σ (AA R (CB fun t41 y => Bo t41 (Bm (Dk = 2) (R (.returned (.tuple #[.int .i64 0, .int .i64 192])) y) (R (.returned (.tuple #[(.int .i64 (if x15 < Dk then Dk else x15)), .int .i64 0])) y)) (Br (C3 ≠ 0) (Bm (Dk = 2) (R (.returned (.tuple #[.int .i64 0, .int .i64 192])) y) (R (.returned (.tuple #[(.int .i64 (if x15 < Dk then Dk else x15)), .int .i64 0])) y)) (R (.returned (.tuple #[(.int .i64 (if x15 < Dk then Dk else x15)), .int .i64 0])) y)))))))) (Br (x15 = 1) (Br (x15 = 3) (R (.returned (.tuple #[.int .i64 0, .int .i64 192])) σ) (Br (Dk = 3) (R (.returned (.tuple #[.int .i64 0, .int .i64 192])) σ) (Spec prog 128 #[.int .i64 CP] σ (AA R (CB fun t41 y => Bo t41 (R (.returned (.tuple #[.int .i64 0, .int .i64 192])) y) (Br (C3 ≠ 0) (R (.returned (.tuple #[.int .i64 0, .int .i64 192])) y) (Br (Dk = 1) (Spec prog 124 #[.int .i64 CP] y (AA R (CB fun t57 AF => Bo t57 (Bn C4 (R (.returned (.tuple #[.int .i64 0, .int .i64 192])) AF) (R (.returned (.tuple #[(.int .i64 (if x15 < Dk then Dk else x15)), .int .i64 0])) AF)) (R (.returned (.tuple #[(.int .i64 (if x15 < Dk then Dk else x15)), .int .i64 0])) AF)))) (R (.returned (.tuple #[(.int .i64 (if x15 < Dk then Dk else x15)), .int .i64 0])) y)))))))) (Br (x15 = 3) (R (.returned (.tuple #[.int .i64 0, .int .i64 192])) σ) (Br (Dk = 3) (R (.returned (.tuple #[.int .i64 0, .int .i64 192])) σ) (Spec prog 128 #[.int .i64 CP] σ (AA R (CB fun t41 y => Bo t41 (R (.returned (.tuple #[.int .i64 0, .int .i64 192])) y) (Br (C3 ≠ 0) (R (.returned (.tuple #[.int .i64 0, .int .i64 192])) y) (R (.returned (.tuple #[(.int .i64 (if x15 < Dk then Dk else x15)), .int .i64 0])) y))))))))) : Spec prog 84 #[.pointer q0, .agg #[.int .i64 DX, .int .i64 CP, .string DZ, .slice Db Dd De, .int .i64 DY, .int .i64 Dc, .int .i64 C3, .slice Dl Dg Dm, .bool C4, .int .i64 CU], .slice p2 n2 c2] σ R := M.start h ok
end Ec
namespace R8
variable {x0 : Int}
def M : Fw := ⟨prog, 91, f91, [], [], false, [], [], []⟩
theorem ok : M.Ok := ⟨AG.nil, mixed, func91, by kernel_rfl⟩
theorem start (h : Br (97 ≤ x0) (Br (x0 ≤ 122) (R (.returned (.bool true)) σ) (Br (65 ≤ x0) (Br (x0 ≤ 90) (R (.returned (.bool true)) σ) (Br (x0 = 95) (R (.returned (.bool true)) σ) (R (.returned (.bool (decide (x0 = 58)))) σ))) (Br (x0 = 95) (R (.returned (.bool true)) σ) (R (.returned (.bool (decide (x0 = 58)))) σ)))) (Br (65 ≤ x0) (Br (x0 ≤ 90) (R (.returned (.bool true)) σ) (Br (x0 = 95) (R (.returned (.bool true)) σ) (R (.returned (.bool (decide (x0 = 58)))) σ))) (Br (x0 = 95) (R (.returned (.bool true)) σ) (R (.returned (.bool (decide (x0 = 58)))) σ)))) : Spec prog 91 #[.int .u8 x0] σ R := M.start h ok
end R8
namespace Ed
variable {s0 : ByteArray} {t8 : Bool}
def M : Fw := ⟨prog, 92, f92, [130], [], false, [], [], [(28, [(0, wT)]), (213, [(0, wT), (8, wB)])]⟩
theorem ok : M.Ok := ⟨.cons call130 (AG.nil), mixed, func92, by kernel_rfl⟩
def qu := M.pt 0
def G1 := M.pt 1
theorem start (h : Br ((1 : Int) < ((ByteArray.size s0 : Nat) : Int)) (∃ s7, YF prog (Instr.sliceAt 9 (.string s0) none (some (.int .i64 2)) none) σ (.string s7) ∧ Bo ((ByteArray.toList s7 == ByteArray.toList (ByteArray.mk #[61, 61]))) (G1 R s0 true σ) (Bo ((ByteArray.toList s7 == ByteArray.toList (ByteArray.mk #[33, 61]))) (G1 R s0 true σ) (Bo ((ByteArray.toList s7 == ByteArray.toList (ByteArray.mk #[60, 61]))) (G1 R s0 true σ) (Bo ((ByteArray.toList s7 == ByteArray.toList (ByteArray.mk #[62, 61]))) (G1 R s0 true σ) (Bo ((ByteArray.toList s7 == ByteArray.toList (ByteArray.mk #[61, 126]))) (G1 R s0 true σ) (G1 R s0 ((ByteArray.toList s7 == ByteArray.toList (ByteArray.mk #[33, 126]))) σ)))))) (qu R s0 σ)) : Spec prog 92 #[.string s0] σ R := M.start h ok
theorem qw (h : ∃ u18 : UInt8, (0 : Int) ≤ 0 ∧ (ByteArray.data s0)[Int.toNat 0]? = some u18 ∧ Spec prog 130 #[(.string (ByteArray.mk #[60, 62, 61, 43, 45, 42, 47, 40, 41, 123, 125, 91, 93, 44])), (.int .u8 ((UInt8.toNat u18 : Nat) : Int))] σ (AA R (CI .i64 fun Dk y => Br (0 ≤ Dk) (∃ s22, YF prog (Instr.sliceAt 9 (.string s0) none (some (.int .i64 1)) none) y (.string s22) ∧ R (.returned (.string s22)) y) (R (.returned (.string (ByteArray.mk #[]))) y)))) : qu R s0 σ := M.of h ok rfl
theorem Iw (h : Bo t8 (∃ s16, YF prog (Instr.sliceAt 9 (.string s0) none (some (.int .i64 2)) none) σ (.string s16) ∧ R (.returned (.string s16)) σ) (qu R s0 σ)) : G1 R s0 t8 σ := M.of h ok rfl
end Ed
namespace Bl
variable {q0 Db Dl p2 : Option Addr} {DX CP DY Dc C3 CU : Int} {DZ : ByteArray} {Dd De Dg Dm n2 c2 : Nat} {C4 : Bool}
def M : Fw := ⟨prog, 100, f100, [140], [4, 6], false, [], [], []⟩
theorem ok : M.Ok := ⟨.cons call140 (AG.nil), mixed, func100, by kernel_rfl⟩
theorem start (h : ∀ b4 : Nat, ∀ b6 : Nat, Spec prog 140 #[.string DZ] σ (AA R (fun z y => ∃ kY AKK, z = (.tuple #[.int .u64 kY, .bool AKK]) ∧ R (.returned (.tuple #[.agg #[.int .i64 1, .int .u64 kY, .slice none 0 0, .slice none 0 0], .int .i64 0])) y))) : Spec prog 100 #[.pointer q0, .agg #[.int .i64 DX, .int .i64 CP, .string DZ, .slice Db Dd De, .int .i64 DY, .int .i64 Dc, .int .i64 C3, .slice Dl Dg Dm, .bool C4, .int .i64 CU], .slice p2 n2 c2] σ R := M.start h ok
end Bl
namespace R9
variable {x0 x1 : Int}
def M : Fw := ⟨prog, 123, f123, [], [], false, [], [], []⟩
theorem ok : M.Ok := ⟨AG.nil, mixed, func123, by kernel_rfl⟩
theorem start (h : Br (x1 ≤ x0) (R (.returned (.bool (decide (x0 < 2147483648)))) σ) (R (.returned (.bool false)) σ)) : Spec prog 123 #[.int .i64 x0, .int .i64 x1] σ R := M.start h ok
end R9
namespace SA
variable {s0 : ByteArray}
def M : Fw := ⟨prog, 126, f126, [98], [], false, [], [], []⟩
theorem ok : M.Ok := ⟨.cons call98 (AG.nil), mixed, func126, by kernel_rfl⟩
theorem start (h : Spec prog 98 #[.string s0] σ (AA R (CB fun t4 y => R (.returned (.bool t4)) y))) : Spec prog 126 #[.string s0] σ R := M.start h ok
end SA
namespace HM
variable {q0 Db Dl : Option Addr} {DX CP DY Dc C3 CU : Int} {DZ : ByteArray} {Dd De Dg Dm : Nat} {C4 : Bool}
def M : Fw := ⟨prog, 138, f138, [], [3], false, [(1, 10, false)], [], []⟩
theorem ok : M.Ok := ⟨AG.nil, mixed, func138, by kernel_rfl⟩
theorem start (h : ∀ b3 : Nat, Pq q0 fun b6 o6 => LS σ b6 (o6 + 2) fun p8 n8 c8 => Al σ fun CY => AJ prog (Builtin.append_ #[22, 22] 22 #[.slice p8 n8 c8, (.slice (aD CY 0) 1 1)]) (Hp.set σ CY (.cells #[.int .i64 DX, .int .i64 CP, .string DZ, .slice Db Dd De, .int .i64 DY, .int .i64 Dc, .int .i64 C3, .slice Dl Dg Dm, .bool C4, .int .i64 CU] 36 (0, 0))) (CS fun Hd n11 He y => AJ prog (Instr.storeAt 22 (.pointer (aD b6 (o6 + 2))) (.slice Hd n11 He)) y (fun _ AF => R (.returned (.tuple #[])) AF))) : Spec prog 138 #[.pointer q0, .agg #[.int .i64 DX, .int .i64 CP, .string DZ, .slice Db Dd De, .int .i64 DY, .int .i64 Dc, .int .i64 C3, .slice Dl Dg Dm, .bool C4, .int .i64 CU]] σ R := M.start h ok
end HM
namespace Ee
variable {p0 : Option Addr} {n0 c0 : Nat}
def M : Fw := ⟨prog, 154, f154, [151, 155, 194], [], false, [], [], []⟩
theorem ok : M.Ok := ⟨.cons call151 (.cons call155 (.cons call194 (AG.nil))), mixed, func154, by kernel_rfl⟩
theorem start (h : Spec prog 151 #[.slice p0 n0 c0] σ (AA R (CI .u64 fun x4 y => Spec prog 155 #[.slice p0 n0 c0] y (AA R (CI .u64 fun x6 AF => Spec prog 194 #[.int .u64 x4, .int .u64 x6] AF (AA R (CI .u64 fun x7 AH => R (.returned (.int .u64 x7)) AH))))))) : Spec prog 154 #[.slice p0 n0 c0] σ R := M.start h ok
end Ee
namespace AW
variable {q0 Db Dl p2 p3 Ih Io Eo Ew JI p35 ox : Option Addr} {DX CP DY Dc C3 CU Ie G0 Ik Il Im Ir D2 EB ZT Pp ad M0 : Int} {DZ Ig : ByteArray} {Dd De Dg Dm n2 c2 n3 c3 Ii Ij Ip Iq Ep Er Ex Ey n14 HG n35 uf kG dU : Nat} {C4 Jo : Bool} {m10 m12 : Option Nat}
def M : Fw := ⟨prog, 160, f160, [49, 148, 206, 207], [5, 8, 16, 17, 20, 21], false, [], [], [(1000, [(3, wL), (5, .X 36 [.I .i64, .I .i64, .T, .L, .I .i64, .I .i64, .I .i64, .L, .B, .I .i64]), (8, .X 93 [.I .i64, .I .u64, .L, .L]), (10, wM), (12, wM), (14, wL), (35, wL), (36, wI), (37, wI)]), (2024, [(5, .X 36 [.I .i64, .I .i64, .T, .L, .I .i64, .I .i64, .I .i64, .L, .B, .I .i64]), (8, .X 93 [.I .i64, .I .u64, .L, .L]), (10, wM), (14, wL), (66, wL), (67, wI), (68, wI)]), (8103, [(5, .X 36 [.I .i64, .I .i64, .T, .L, .I .i64, .I .i64, .I .i64, .L, .B, .I .i64]), (8, .X 93 [.I .i64, .I .u64, .L, .L]), (10, wM), (14, wL), (66, wL), (67, wI), (68, wI)]), (4007, [(3, wL), (5, .X 36 [.I .i64, .I .i64, .T, .L, .I .i64, .I .i64, .I .i64, .L, .B, .I .i64]), (8, .X 93 [.I .i64, .I .u64, .L, .L]), (10, wM), (12, wM), (14, wL), (35, wL), (36, wI), (37, wI)])]⟩
theorem ok : M.Ok := ⟨.cons call49 (.cons call148 (.cons call206 (.cons call207 (AG.nil)))), mixed, func160, by kernel_rfl⟩
def qz := M.pt 0
def Jk := M.pt 1
def M6 := M.pt 2
def Vi := M.pt 3
theorem start (h : ∀ b5 : Nat, ∀ b8 : Nat, Spec prog 206 #[.agg #[.int .i64 DX, .int .i64 CP, .string DZ, .slice Db Dd De, .int .i64 DY, .int .i64 Dc, .int .i64 C3, .slice Dl Dg Dm, .bool C4, .int .i64 CU], .slice p2 n2 c2] σ (AA R (fun z y => ∃ ADn AKL, z = (.tuple #[.map ADn, .bool AKL]) ∧ Spec prog 206 #[.agg #[.int .i64 DX, .int .i64 CP, .string DZ, .slice Db Dd De, .int .i64 DY, .int .i64 Dc, .int .i64 C3, .slice Dl Dg Dm, .bool C4, .int .i64 CU], .slice p3 n3 c3] y (AA R (fun z AF => ∃ ADo AKM, z = (.tuple #[.map ADo, .bool AKM]) ∧ qz R p3 n3 c3 DX CP DZ Db Dd De DY Dc C3 Dl Dg Dm C4 CU 0 0 none 0 0 none 0 0 ADn ADo none 0 0 p2 n2 c2 (n2 : Int) 0 AF))))) : Spec prog 160 #[.pointer q0, .agg #[.int .i64 DX, .int .i64 CP, .string DZ, .slice Db Dd De, .int .i64 DY, .int .i64 Dc, .int .i64 C3, .slice Dl Dg Dm, .bool C4, .int .i64 CU], .slice p2 n2 c2, .slice p3 n3 c3] σ R := M.start h ok
theorem df (h : Br (Pp < ZT) (Pq p35 fun o3 o39 => In Pp (n35 : Int) ∧ ∃ Xd VU af ah, Av σ o3 (o39 + Int.toNat Pp * 2) [.slice Xd VU af, .int .u64 ah] ∧ ∀ Lp : Nat, Spec prog 207 #[.agg #[.int .i64 Ie, .int .i64 G0, .string Ig, .slice Ih Ii Ij, .int .i64 Ik, .int .i64 Il, .int .i64 Im, .slice Io Ip Iq, .bool Jo, .int .i64 Ir], .slice Xd VU af] σ (AA R (CS fun ug n46 q8 y => Spec prog 49 #[.slice ug n46 q8] y (AA R (CT fun s47 AF => AJ prog (Instr.lookup 243 (.map m12) (.string s47) true) AF (fun z AH => ∃ ADp ADq ADr ADs ADt, z = (.tuple #[.agg #[.slice ADp ADq ADr, .int .u64 ADs], .bool ADt]) ∧ ∀ b17 : Nat, Br (G0 = 12) (Al AH fun ft => AJ prog (Builtin.append_ #[67, 67] 67 #[.slice JI n14 HG, (.slice (aD ft 0) 1 1)]) (Hp.set AH ft (.cells #[.slice Xd VU af, .int .u64 ah] 71 (0, 0))) (CS fun ov kB ow Aa => Vi R p3 n3 c3 Ie G0 Ig Ih Ii Ij Ik Il Im Io Ip Iq Jo Ir D2 EB Eo Ep Er Ew Ex Ey m10 m12 ov kB ow (aD o3 o39) n35 uf ZT Pp Aa)) (Bo ADt (Br (G0 = 11) (Al AH fun ft => AJ prog (Builtin.append_ #[67, 67] 67 #[.slice JI n14 HG, (.slice (aD ft 0) 1 1)]) (Hp.set AH ft (.cells #[.slice Xd VU af, .int .u64 ah] 71 (0, 0))) (CS fun ov kB ow Aa => Vi R p3 n3 c3 Ie G0 Ig Ih Ii Ij Ik Il Im Io Ip Iq Jo Ir D2 EB Eo Ep Er Ew Ex Ey m10 m12 ov kB ow (aD o3 o39) n35 uf ZT Pp Aa)) (Vi R p3 n3 c3 Ie G0 Ig Ih Ii Ij Ik Il Im Io Ip Iq Jo Ir D2 EB Eo Ep Er Ew Ex Ey m10 m12 JI n14 HG (aD o3 o39) n35 uf ZT Pp AH)) (Br (G0 = 11) (Vi R p3 n3 c3 Ie G0 Ig Ih Ii Ij Ik Il Im Io Ip Iq Jo Ir D2 EB Eo Ep Er Ew Ex Ey m10 m12 JI n14 HG (aD o3 o39) n35 uf ZT Pp AH) (Al AH fun ft => AJ prog (Builtin.append_ #[67, 67] 67 #[.slice JI n14 HG, (.slice (aD ft 0) 1 1)]) (Hp.set AH ft (.cells #[.slice Xd VU af, .int .u64 ah] 71 (0, 0))) (CS fun ov kB ow Aa => Vi R p3 n3 c3 Ie G0 Ig Ih Ii Ij Ik Il Im Io Ip Iq Jo Ir D2 EB Eo Ep Er Ew Ex Ey m10 m12 ov kB ow (aD o3 o39) n35 uf ZT Pp Aa)))))))))) (Jk R Ie G0 Ig Ih Ii Ij Ik Il Im Io Ip Iq Jo Ir D2 EB Eo Ep Er Ew Ex Ey m10 JI n14 HG p3 n3 c3 (n3 : Int) 0 σ)) : qz R p3 n3 c3 Ie G0 Ig Ih Ii Ij Ik Il Im Io Ip Iq Jo Ir D2 EB Eo Ep Er Ew Ex Ey m10 m12 JI n14 HG p35 n35 uf ZT Pp σ := M.fS h ok rfl fun _ _ => by kernel_rfl
theorem LK (h : Br (M0 < ad) (Pq ox fun b70 o70 => In M0 (kG : Int) ∧ ∃ yQ yR yS ADu, Av σ b70 (o70 + Int.toNat M0 * 2) [.slice yQ yR yS, .int .u64 ADu] ∧ ∀ Xc : Nat, Spec prog 207 #[.agg #[.int .i64 Ie, .int .i64 G0, .string Ig, .slice Ih Ii Ij, .int .i64 Ik, .int .i64 Il, .int .i64 Im, .slice Io Ip Iq, .bool Jo, .int .i64 Ir], .slice yQ yR yS] σ (AA R (CS fun p77 n77 c77 y => Spec prog 49 #[.slice p77 n77 c77] y (AA R (CT fun s78 AF => AJ prog (Instr.lookup 243 (.map m10) (.string s78) true) AF (fun z AH => ∃ ADv ADw ADx ADy ADz, z = (.tuple #[.agg #[.slice ADv ADw ADx, .int .u64 ADy], .bool ADz]) ∧ ∀ b21 : Nat, Bn ADz (Br (G0 = 12) (Al AH fun ia => AJ prog (Builtin.append_ #[67, 67] 67 #[.slice JI n14 HG, (.slice (aD ia 0) 1 1)]) (Hp.set AH ia (.cells #[.slice yQ yR yS, .int .u64 ADu] 71 (0, 0))) (CS fun p92 n92 c92 Aa => M6 R Ie G0 Ig Ih Ii Ij Ik Il Im Io Ip Iq Jo Ir D2 EB Eo Ep Er Ew Ex Ey m10 p92 n92 c92 (aD b70 o70) kG dU ad M0 Aa)) (M6 R Ie G0 Ig Ih Ii Ij Ik Il Im Io Ip Iq Jo Ir D2 EB Eo Ep Er Ew Ex Ey m10 JI n14 HG (aD b70 o70) kG dU ad M0 AH)) (M6 R Ie G0 Ig Ih Ii Ij Ik Il Im Io Ip Iq Jo Ir D2 EB Eo Ep Er Ew Ex Ey m10 JI n14 HG (aD b70 o70) kG dU ad M0 AH))))))) (Spec prog 148 #[.slice JI n14 HG] σ (AA R (fun z y => ∃ uh ui uj uo uq ur uu uw AD0, z = (.tuple #[.agg #[.int .i64 uh, .int .u64 ui, .slice uj uo uq, .slice ur uu uw], .int .i64 AD0]) ∧ R (.returned (.tuple #[.agg #[.int .i64 uh, .int .u64 ui, .slice uj uo uq, .slice ur uu uw], .int .i64 AD0])) y)))) : Jk R Ie G0 Ig Ih Ii Ij Ik Il Im Io Ip Iq Jo Ir D2 EB Eo Ep Er Ew Ex Ey m10 JI n14 HG ox kG dU ad M0 σ := M.fS h ok rfl fun _ _ => by kernel_rfl
theorem VM (h : AM (M0 + 1) ∧ Jk R Ie G0 Ig Ih Ii Ij Ik Il Im Io Ip Iq Jo Ir D2 EB Eo Ep Er Ew Ex Ey m10 JI n14 HG ox kG dU ad (M0 + 1) σ) : M6 R Ie G0 Ig Ih Ii Ij Ik Il Im Io Ip Iq Jo Ir D2 EB Eo Ep Er Ew Ex Ey m10 JI n14 HG ox kG dU ad M0 σ := M.fS h ok rfl fun _ _ => by kernel_rfl
theorem q9 (h : AM (Pp + 1) ∧ qz R p3 n3 c3 Ie G0 Ig Ih Ii Ij Ik Il Im Io Ip Iq Jo Ir D2 EB Eo Ep Er Ew Ex Ey m10 m12 JI n14 HG p35 n35 uf ZT (Pp + 1) σ) : Vi R p3 n3 c3 Ie G0 Ig Ih Ii Ij Ik Il Im Io Ip Iq Jo Ir D2 EB Eo Ep Er Ew Ex Ey m10 m12 JI n14 HG p35 n35 uf ZT Pp σ := M.fS h ok rfl fun _ _ => by kernel_rfl
end AW
namespace Lu
variable {Ev ET x1 : Int}
def M : Fw := ⟨prog, 177, f177, [], [2], false, [], [], []⟩
theorem ok : M.Ok := ⟨AG.nil, mixed, func177, by kernel_rfl⟩
theorem start (h : ∀ b2 : Nat, Br (Ev ≤ x1) (R (.returned (.int .i64 (-1))) σ) (R (.returned (.int .i64 1)) σ)) : Spec prog 177 #[.agg #[.int .i64 Ev, .int .u64 ET], .int .i64 x1] σ R := M.start h ok
end Lu
namespace GF
variable {uG ZS : ByteArray} {b1 : Nat}
def M : Fw := ⟨prog, 198, f198, [199], [2], false, [], [], []⟩
theorem ok : M.Ok := ⟨.cons call199 (AG.nil), mixed, func198, by kernel_rfl⟩
theorem start (h : ∀ b2 : Nat, LS σ b1 0 fun p4 n4 c4 => Spec prog 199 #[.slice p4 n4 c4, .string uG] σ (AA R (CB fun t7 y => R (.returned (.bool t7)) y))) : Spec prog 198 #[.agg #[.string uG, .string ZS], (.pointer (aD b1 0))] σ R := M.start h ok
end GF
namespace Ef
variable {q0 : Option Addr} {s1 : ByteArray}
def M : Fw := ⟨prog, 210, f210, [67, 135, 136], [], false, [], [], [(3, [(0, wQ)])]⟩
theorem ok : M.Ok := ⟨.cons call67 (.cons call135 (.cons call136 (AG.nil))), mixed, func210, by kernel_rfl⟩
def ai := M.pt 0
theorem start (h : Spec prog 136 #[.pointer q0, .int .i64 5, .string s1] σ (AA R (CB fun t6 y => Bn t6 (Spec prog 67 #[.pointer q0] y (AA R (fun z AF => z = (.tuple #[]) ∧ ai R q0 AF))) (ai R q0 y)))) : Spec prog 210 #[.pointer q0, .string s1] σ R := M.start h ok
theorem OP (h : Spec prog 135 #[.pointer q0] σ (AA R (fun z y => ∃ fj Pr fk qj, z = (.agg #[.int .i64 fj, .int .i64 Pr, .string fk, .int .i64 qj]) ∧ R (.returned (.tuple #[])) y))) : ai R q0 σ := M.of h ok rfl
end Ef
namespace Co
variable {q0 : Option Addr}
def M : Fw := ⟨prog, 212, f212, [95], [], false, [], [], []⟩
theorem ok : M.Ok := ⟨.cons call95 (AG.nil), mixed, func212, by kernel_rfl⟩
theorem start (h : Spec prog 95 #[.pointer q0, (.func (.func 230) #[.pointer q0] #[]), .int .i64 3, .int .i64 4] σ (AA R (fun z y => z = (.tuple #[]) ∧ R (.returned (.tuple #[])) y))) : Spec prog 212 #[.pointer q0] σ R := M.start h ok
end Co
namespace Eg
variable {TW : Option Addr} {Lr RC : Nat} {ZS s1 : ByteArray}
def M : Fw := ⟨prog, 218, f218, [], [2], false, [], [], []⟩
theorem ok : M.Ok := ⟨AG.nil, mixed, func218, by kernel_rfl⟩
theorem start (h : ∀ b2 : Nat, R (.returned (.bool (!(ByteArray.toList s1 == ByteArray.toList ZS)))) σ) : Spec prog 218 #[.agg #[.slice TW Lr RC, .string ZS], .string s1] σ R := M.start h ok
end Eg
namespace UQ
variable {x0 : Int}
def M : Fw := ⟨prog, 240, f240, [], [], false, [], [], []⟩
theorem ok : M.Ok := ⟨AG.nil, mixed, func240, by kernel_rfl⟩
theorem start (h : Br (x0 = 1) (R (.returned (.bool true)) σ) (Br (x0 = 2) (R (.returned (.bool true)) σ) (Br (x0 = 4) (R (.returned (.bool true)) σ) (R (.returned (.bool (decide (x0 = 8)))) σ)))) : Spec prog 240 #[.int .i64 x0] σ R := M.start h ok
end UQ
namespace Lv
def M : Fw := ⟨prog, 263, f263, [182], [], false, [], [], []⟩
theorem ok : M.Ok := ⟨.cons call182 (AG.nil), mixed, func263, by kernel_rfl⟩
theorem start (h : Spec prog 182 #[.int .u64 4604544271217802189] σ (AA R (fun z y => ∃ x2, (Value.float .f64 x2) = z ∧ ∃ x5, YF prog (Op.unary .neg (Value.float .f64 x2)) y (Value.float .f64 x5) ∧ ∃ x6 y6, YF prog (Builtin.complex_ #[51, 51] 272 #[(Value.float .f64 x2), (Value.float .f64 x5)]) y (Value.complex .f64 x6 y6) ∧ ∃ x8, YF prog (Op.unary .neg (Value.float .f64 x2)) y (Value.float .f64 x8) ∧ ∃ x10, YF prog (Op.unary .neg (Value.float .f64 x2)) y (Value.float .f64 x10) ∧ ∃ x11 y11, YF prog (Builtin.complex_ #[51, 51] 272 #[(Value.float .f64 x8), (Value.float .f64 x10)]) y (Value.complex .f64 x11 y11) ∧ ∃ E2, YF prog (Op.unary .neg (Value.float .f64 x2)) y (Value.float .f64 E2) ∧ ∃ x15 y15, YF prog (Builtin.complex_ #[51, 51] 272 #[(Value.float .f64 E2), (Value.float .f64 x2)]) y (Value.complex .f64 x15 y15) ∧ ∃ Ld y18, YF prog (Builtin.complex_ #[51, 51] 272 #[(Value.float .f64 x2), (Value.float .f64 x2)]) y (Value.complex .f64 Ld y18) ∧ Al y fun DD => R (.returned (.slice (aD DD 0) 8 8)) (Hp.set y DD (.cells #[.complex .f64 4607182418800017408 0, (Value.complex .f64 x6 y6), .complex .f64 0 13830554455654793216, (Value.complex .f64 x11 y11), .complex .f64 13830554455654793216 0, (Value.complex .f64 x15 y15), .complex .f64 0 4607182418800017408, (Value.complex .f64 Ld y18)] 272 (0, 0)))))) : Spec prog 263 #[] σ R := M.start h ok
end Lv
end TwW
end
end
section
set_option maxRecDepth 100000
noncomputable section
namespace TwW
open Go Tw Go.Proofs.Tryz
variable [Es] {R : Rr} {σ : Hp}

namespace H4
variable {p0 : Option Addr} {n0 c0 : Nat} {x1 x5 : Int}
def M : Fw := ⟨prog, 23, f23, [], [], false, [], [], [(208, [(0, wL), (1, wU), (5, wI)])]⟩
theorem ok : M.Ok := ⟨AG.nil, mixed, func23, by kernel_rfl⟩
def GN := M.pt 0
theorem start (h : GN R p0 n0 c0 x1 0 σ) : Spec prog 23 #[.slice p0 n0 c0, .int .u64 x1] σ R := M.start h ok
theorem A5 (h : Br (x5 < (n0 : Int)) (Pq p0 fun BL Mz => In x5 (n0 : Int) ∧ LS σ BL ((Mz + Int.toNat x5 * 2) + 1) fun aO n16 WJ => Br ((n16 : Int) = 1) (In x5 (n0 : Int) ∧ LS σ BL ((Mz + Int.toNat x5 * 2) + 1) fun p24 n24 c24 => Pq p24 fun Jb WM => In 0 (n24 : Int) ∧ LI .u64 σ Jb (WM + 1) fun JM => Br (JM = x1) (R (.returned (.bool true)) σ) (AM (x5 + 1) ∧ GN R (aD BL Mz) n0 c0 x1 (x5 + 1) σ)) (AM (x5 + 1) ∧ GN R (aD BL Mz) n0 c0 x1 (x5 + 1) σ)) (R (.returned (.bool false)) σ)) : GN R p0 n0 c0 x1 x5 σ := M.of h ok rfl
end H4
namespace UR
variable {v0 : Value}
def M : Fw := ⟨prog, 25, f25, [], [], false, [], [], []⟩
theorem ok : M.Ok := ⟨AG.nil, mixed, func25, by kernel_rfl⟩
theorem start (h : EN prog 45 #[v0] σ (CI .u64 fun x4 y => R (.returned (.int .u64 x4)) y)) : Spec prog 25 #[v0] σ R := M.D0 h ok [(0, .o (.V v0))] rfl rfl (by kernel_rfl)
end UR
namespace US
variable {p0 p1 : Option Addr} {n0 c0 n1 c1 : Nat}
def M : Fw := ⟨prog, 28, f28, [37, 46], [], false, [], [], []⟩
theorem ok : M.Ok := ⟨.cons call37 (.cons call46 (AG.nil)), mixed, func28, by kernel_rfl⟩
theorem start (h : Spec prog 37 #[.slice p0 n0 c0] σ (AA R (fun z y => ∃ Ib xS AD1, z = (.tuple #[.int .i64 Ib, .int .i64 xS, .int .i64 AD1]) ∧ Br (AD1 ≠ 0) (R (.returned (.int .i64 220)) y) (Br (Ib = 3) (R (.returned (.int .i64 220)) y) (Spec prog 46 #[.slice p1 n1 c1] y (AA R (CI .i64 fun D4 AF => Br (D4 ≠ 0) (R (.returned (.int .i64 224)) AF) (R (.returned (.int .i64 0)) AF)))))))) : Spec prog 28 #[.slice p0 n0 c0, .slice p1 n1 c1] σ R := M.start h ok
end US
namespace DQ
variable {p0 p5 : Option Addr} {n0 c0 n5 c5 : Nat} {x6 x7 : Int}
def M : Fw := ⟨prog, 46, f46, [52, 68, 69], [4], false, [], [], [(104, [(0, wL), (5, wL), (6, wI), (7, wI)])]⟩
theorem ok : M.Ok := ⟨.cons call52 (.cons call68 (.cons call69 (AG.nil))), mixed, func46, by kernel_rfl⟩
def Hf := M.pt 0
theorem start (h : Hf R p0 n0 c0 p0 n0 c0 (n0 : Int) 0 σ) : Spec prog 46 #[.slice p0 n0 c0] σ R := M.start h ok
theorem Be (h : Br (x7 < x6) (Pq p5 fun CY fu => In x7 (n5 : Int) ∧ ∃ Xm Xn Xo AD2 AD3 AD4, Av σ CY (fu + Int.toNat x7 * 2) [.slice Xm Xn Xo, .slice AD2 AD3 AD4] ∧ ∀ b4 : Nat, Spec prog 68 #[.slice Xm Xn Xo] σ (AA R (CI .i64 fun ZQ y => Br (ZQ ≠ 0) (R (.returned (.int .i64 100)) y) (Spec prog 69 #[.slice AD2 AD3 AD4] y (AA R (CB fun t19 AF => Bn t19 (R (.returned (.int .i64 100)) AF) (Br (0 < x7) (AM (x7 - 1) ∧ Pq p0 fun XS dV => In (x7 - 1) (n0 : Int) ∧ LS AF XS (dV + Int.toNat (x7 - 1) * 2) fun p31 n31 c31 => Spec prog 52 #[.slice p31 n31 c31, .slice Xm Xn Xo] AF (AA R (CI .i64 fun xh AH => Br (0 ≤ xh) (R (.returned (.int .i64 100)) AH) (AM (x7 + 1) ∧ Hf R (aD XS dV) n0 c0 (aD CY fu) n5 c5 x6 (x7 + 1) AH)))) (AM (x7 + 1) ∧ Hf R p0 n0 c0 (aD CY fu) n5 c5 x6 (x7 + 1) AF)))))))) (R (.returned (.int .i64 0)) σ)) : Hf R p0 n0 c0 p5 n5 c5 x6 x7 σ := M.of h ok rfl
end DQ
namespace Fa
variable {p0 : Option Addr} {n0 c0 : Nat} {s1 : ByteArray} {x5 : Int}
def M : Fw := ⟨prog, 60, f60, [], [], false, [], [], [(208, [(0, wL), (1, wT), (5, wI)])]⟩
theorem ok : M.Ok := ⟨AG.nil, mixed, func60, by kernel_rfl⟩
def GN := M.pt 0
theorem start (h : GN R p0 n0 c0 s1 0 σ) : Spec prog 60 #[.slice p0 n0 c0, .string s1] σ R := M.start h ok
theorem A5 (h : Br (x5 < (n0 : Int)) (Pq p0 fun BL Mz => In x5 (n0 : Int) ∧ LT σ BL (Mz + Int.toNat x5 * 1) fun s15 => Bo (ByteArray.toList s15 == ByteArray.toList s1) (R (.returned (.int .i64 x5)) σ) (AM (x5 + 1) ∧ GN R (aD BL Mz) n0 c0 s1 (x5 + 1) σ)) (R (.returned (.int .i64 (-1))) σ)) : GN R p0 n0 c0 s1 x5 σ := M.of h ok rfl
end Fa
namespace OT
variable {x0 : Int}
def M : Fw := ⟨prog, 90, f90, [], [], false, [], [], []⟩
theorem ok : M.Ok := ⟨AG.nil, mixed, func90, by kernel_rfl⟩
theorem start (h : Br (48 ≤ x0) (R (.returned (.bool (decide (x0 ≤ 57)))) σ) (R (.returned (.bool false)) σ)) : Spec prog 90 #[.int .u8 x0] σ R := M.start h ok
end OT
namespace Ac
variable {q0 Db Dl p2 GO Hh G4 Fs Eo Ew aO : Option Addr} {DX CP DY Dc C3 CU Fo FU Hi F5 Hj IQ Fp Fq D2 EB x17 Ld : Int} {DZ HH : ByteArray} {Dd De Dg Dm n2 c2 GQ GU Hk Hl G5 G6 Ft Fu Ep Er Ex Ey n16 WJ : Nat} {C4 IS : Bool}
def M : Fw := ⟨prog, 101, f101, [141, 142], [4, 6, 8, 10], false, [(7, 15, false)], [], [(232, [(0, wQ), (4, .X 36 [.I .i64, .I .i64, .T, .L, .I .i64, .I .i64, .I .i64, .L, .B, .I .i64]), (6, .X 93 [.I .i64, .I .u64, .L, .L]), (8, .X 93 [.I .i64, .I .u64, .L, .L]), (16, wL), (17, wI), (18, wI)]), (935, [(0, wQ), (4, .X 36 [.I .i64, .I .i64, .T, .L, .I .i64, .I .i64, .I .i64, .L, .B, .I .i64]), (6, .X 93 [.I .i64, .I .u64, .L, .L]), (8, .X 93 [.I .i64, .I .u64, .L, .L]), (16, wL), (17, wI), (18, wI)])]⟩
theorem ok : M.Ok := ⟨.cons call141 (.cons call142 (AG.nil)), mixed, func101, by kernel_rfl⟩
def A3 := M.pt 0
def Lf := M.pt 1
theorem start (h : ∀ b4 : Nat, ∀ b6 : Nat, ∀ b8 : Nat, Pq q0 fun BL Mz => LS σ BL Mz fun aO n16 WJ => A3 R (aD BL Mz) DX CP DZ Db Dd De DY Dc C3 Dl Dg Dm C4 CU 0 0 none 0 0 none 0 0 2 0 none 0 0 none 0 0 aO n16 WJ (n16 : Int) 0 σ) : Spec prog 101 #[.pointer q0, .agg #[.int .i64 DX, .int .i64 CP, .string DZ, .slice Db Dd De, .int .i64 DY, .int .i64 Dc, .int .i64 C3, .slice Dl Dg Dm, .bool C4, .int .i64 CU], .slice p2 n2 c2] σ R := M.start h ok
theorem AZ (h : Br (Ld < x17) (Pq aO fun Xc yT => In Ld (n16 : Int) ∧ ∃ yU yV yW AD5 AD6 AD7, Av σ Xc (yT + Int.toNat Ld * 2) [.slice yU yV yW, .slice AD5 AD6 AD7] ∧ ∀ CY : Nat, Pq q0 fun Jb WM => LI .i64 σ Jb (WM + 1) fun JM => AM (JM - F5) ∧ AM ((JM - F5) - 300) ∧ LI .i64 σ Jb (WM + 1) fun WK => AM (WK - F5) ∧ Spec prog 141 #[.slice AD5 AD6 AD7, (.int .i64 ((JM - F5) - 300)), (.int .i64 (WK - F5))] σ (AA R (CS fun p39 n39 c39 y => Br ((n39 : Int) = 0) (Lf R (aD Jb WM) Fo FU HH GO GQ GU Hi F5 Hj Hh Hk Hl IS IQ Fp Fq G4 G5 G6 Fs Ft Fu D2 EB Eo Ep Er Ew Ex Ey (aD Xc yT) n16 WJ x17 Ld y) (AM ((n39 : Int) - 1) ∧ Pq p39 fun Po o48 => In (((n39 : Int) - 1)) (n39 : Int) ∧ LI .u64 y Po ((o48 + Int.toNat ((n39 : Int) - 1) * 2) + 1) fun x50 => Br (x50 = 9218868437227405314) (Lf R (aD Jb WM) Fo FU HH GO GQ GU Hi F5 Hj Hh Hk Hl IS IQ Fp Fq G4 G5 G6 Fs Ft Fu D2 EB Eo Ep Er Ew Ex Ey (aD Xc yT) n16 WJ x17 Ld y) (Spec prog 142 #[.slice GO GQ GU, .slice yU yV yW] y (AA R (CB fun t58 AF => Bn t58 (Lf R (aD Jb WM) Fo FU HH GO GQ GU Hi F5 Hj Hh Hk Hl IS IQ Fp Fq G4 G5 G6 Fs Ft Fu D2 EB Eo Ep Er Ew Ex Ey (aD Xc yT) n16 WJ x17 Ld AF) (AM ((n39 : Int) - 1) ∧ In (((n39 : Int) - 1)) (n39 : Int) ∧ LI .u64 AF Po ((o48 + Int.toNat ((n39 : Int) - 1) * 2) + 1) fun x71 => Al AF fun yL => AJ prog (Builtin.append_ #[67, 67] 67 #[.slice Eo Ep Er, (.slice (aD yL 0) 1 1)]) (Hp.set AF yL (.cells #[.slice yU yV yW, .int .u64 x71] 71 (0, 0))) (CS fun p74 n74 c74 AH => Lf R (aD Jb WM) Fo FU HH GO GQ GU Hi F5 Hj Hh Hk Hl IS IQ Fp Fq G4 G5 G6 Fs Ft Fu D2 EB p74 n74 c74 Ew Ex Ey (aD Xc yT) n16 WJ x17 Ld AH))))))))) (R (.returned (.tuple #[.agg #[.int .i64 D2, .int .u64 EB, .slice Eo Ep Er, .slice Ew Ex Ey], .int .i64 0])) σ)) : A3 R q0 Fo FU HH GO GQ GU Hi F5 Hj Hh Hk Hl IS IQ Fp Fq G4 G5 G6 Fs Ft Fu D2 EB Eo Ep Er Ew Ex Ey aO n16 WJ x17 Ld σ := M.of3 h ok rfl fun _ _ _ => by kernel_rfl
theorem Iu (h : AM (Ld + 1) ∧ A3 R q0 Fo FU HH GO GQ GU Hi F5 Hj Hh Hk Hl IS IQ Fp Fq G4 G5 G6 Fs Ft Fu D2 EB Eo Ep Er Ew Ex Ey aO n16 WJ x17 (Ld + 1) σ) : Lf R q0 Fo FU HH GO GQ GU Hi F5 Hj Hh Hk Hl IS IQ Fp Fq G4 G5 G6 Fs Ft Fu D2 EB Eo Ep Er Ew Ex Ey aO n16 WJ x17 Ld σ := M.of3 h ok rfl fun _ _ _ => by kernel_rfl
end Ac
namespace AR
variable {q0 Db Dl p2 GO Hh G4 Fs Eo Ew OQ aq lX Hd ug : Option Addr} {DX CP DY Dc C3 CU Fo FU Hi F5 Hj IQ Fp Fq D2 EB JP D4 kN Vc : Int} {DZ HH : ByteArray} {Dd De Dg Dm n2 c2 GQ GU Hk Hl G5 G6 Ft Fu Ep Er Ex Ey n21 MV au aw lY lZ n11 He n46 q8 : Nat} {C4 IS : Bool}
def M : Fw := ⟨prog, 102, f102, [141, 142, 143], [4, 6, 8, 10, 13], false, [], [], [(232, [(0, wQ), (4, .X 36 [.I .i64, .I .i64, .T, .L, .I .i64, .I .i64, .I .i64, .L, .B, .I .i64]), (6, .X 93 [.I .i64, .I .u64, .L, .L]), (8, .X 93 [.I .i64, .I .u64, .L, .L]), (21, wL), (22, wI), (23, wI)]), (239208, [(0, wQ), (4, .X 36 [.I .i64, .I .i64, .T, .L, .I .i64, .I .i64, .I .i64, .L, .B, .I .i64]), (6, .X 93 [.I .i64, .I .u64, .L, .L]), (8, .X 93 [.I .i64, .I .u64, .L, .L]), (10, .X 40 [.L, .L]), (11, wL), (21, wL), (22, wI), (23, wI), (46, wL), (47, wI), (48, wI)]), (935, [(0, wQ), (4, .X 36 [.I .i64, .I .i64, .T, .L, .I .i64, .I .i64, .I .i64, .L, .B, .I .i64]), (6, .X 93 [.I .i64, .I .u64, .L, .L]), (8, .X 93 [.I .i64, .I .u64, .L, .L]), (21, wL), (22, wI), (23, wI)]), (956839, [(0, wQ), (4, .X 36 [.I .i64, .I .i64, .T, .L, .I .i64, .I .i64, .I .i64, .L, .B, .I .i64]), (6, .X 93 [.I .i64, .I .u64, .L, .L]), (8, .X 93 [.I .i64, .I .u64, .L, .L]), (10, .X 40 [.L, .L]), (11, wL), (21, wL), (22, wI), (23, wI), (46, wL), (47, wI), (48, wI)])]⟩
theorem ok : M.Ok := ⟨.cons call141 (.cons call142 (.cons call143 (AG.nil))), mixed, func102, by kernel_rfl⟩
def A3 := M.pt 0
def TY := M.pt 1
def Lj := M.pt 2
def rC := M.pt 3
theorem start (h : ∀ b4 : Nat, ∀ b6 : Nat, Spec prog 143 #[.int .i64 DY] σ (AA R (CI .u64 fun x16 y => ∀ b8 : Nat, Pq q0 fun DD kH => LS y DD kH fun OQ n21 MV => A3 R (aD DD kH) DX CP DZ Db Dd De DY Dc C3 Dl Dg Dm C4 CU 0 0 none 0 0 none 0 0 3 x16 none 0 0 none 0 0 OQ n21 MV (n21 : Int) 0 y))) : Spec prog 102 #[.pointer q0, .agg #[.int .i64 DX, .int .i64 CP, .string DZ, .slice Db Dd De, .int .i64 DY, .int .i64 Dc, .int .i64 C3, .slice Dl Dg Dm, .bool C4, .int .i64 CU], .slice p2 n2 c2] σ R := M.start h ok
theorem AZ (h : Br (D4 < JP) (Pq OQ fun Jb WM => In D4 (n21 : Int) ∧ ∃ AD8 AD9 AEA yX yY yZ, Av σ Jb (WM + Int.toNat D4 * 2) [.slice AD8 AD9 AEA, .slice yX yY yZ] ∧ ∀ CY : Nat, Pq q0 fun fm o30 => LI .i64 σ fm (o30 + 1) fun ku => AM (ku - F5) ∧ AM ((ku - F5) - Hi) ∧ LI .i64 σ fm (o30 + 1) fun XE => AM (XE - F5) ∧ Spec prog 141 #[.slice yX yY yZ, (.int .i64 ((ku - F5) - Hi)), (.int .i64 (XE - F5))] σ (AA R (CS fun ug n46 q8 y => TY R (aD fm o30) Fo FU HH GO GQ GU Hi F5 Hj Hh Hk Hl IS IQ Fp Fq G4 G5 G6 Fs Ft Fu D2 EB Eo Ep Er Ew Ex Ey AD8 AD9 AEA yX yY yZ none 0 0 (aD Jb WM) n21 MV JP D4 ug n46 q8 (n46 : Int) 0 y))) (R (.returned (.tuple #[.agg #[.int .i64 D2, .int .u64 EB, .slice Eo Ep Er, .slice Ew Ex Ey], .int .i64 0])) σ)) : A3 R q0 Fo FU HH GO GQ GU Hi F5 Hj Hh Hk Hl IS IQ Fp Fq G4 G5 G6 Fs Ft Fu D2 EB Eo Ep Er Ew Ex Ey OQ n21 MV JP D4 σ := M.of3 h ok rfl fun _ _ _ => by kernel_rfl
theorem QK (h : Br (Vc < kN) (Pq ug fun VT o50 => In Vc (n46 : Int) ∧ ∃ AKP ya, Av σ VT (o50 + Int.toNat Vc * 2) [.int .i64 AKP, .int .u64 ya] ∧ ∀ DG : Nat, Br (ya ≠ 9218868437227405314) (Al σ fun b58 => AJ prog (Builtin.append_ #[187, 187] 187 #[.slice Hd n11 He, (.slice (aD b58 0) 1 1)]) (Hp.set σ b58 (.cells #[.int .u64 ya] 48 (0, 0))) (CS fun tO n59 tP y => rC R q0 Fo FU HH GO GQ GU Hi F5 Hj Hh Hk Hl IS IQ Fp Fq G4 G5 G6 Fs Ft Fu D2 EB Eo Ep Er Ew Ex Ey aq au aw lX lY lZ tO n59 tP OQ n21 MV JP D4 (aD VT o50) n46 q8 kN Vc y)) (rC R q0 Fo FU HH GO GQ GU Hi F5 Hj Hh Hk Hl IS IQ Fp Fq G4 G5 G6 Fs Ft Fu D2 EB Eo Ep Er Ew Ex Ey aq au aw lX lY lZ Hd n11 He OQ n21 MV JP D4 (aD VT o50) n46 q8 kN Vc σ)) (Br (0 < (n11 : Int)) (Spec prog 142 #[.slice GO GQ GU, .slice aq au aw] σ (AA R (CB fun t69 y => Bo t69 (Al y fun b77 => AJ prog (Builtin.append_ #[91, 91] 91 #[.slice Ew Ex Ey, (.slice (aD b77 0) 1 1)]) (Hp.set y b77 (.cells #[.slice aq au aw, .slice Hd n11 He] 189 (0, 0))) (CS fun oz kx o0 AF => Lj R q0 Fo FU HH GO GQ GU Hi F5 Hj Hh Hk Hl IS IQ Fp Fq G4 G5 G6 Fs Ft Fu D2 EB Eo Ep Er oz kx o0 OQ n21 MV JP D4 AF)) (Lj R q0 Fo FU HH GO GQ GU Hi F5 Hj Hh Hk Hl IS IQ Fp Fq G4 G5 G6 Fs Ft Fu D2 EB Eo Ep Er Ew Ex Ey OQ n21 MV JP D4 y)))) (Lj R q0 Fo FU HH GO GQ GU Hi F5 Hj Hh Hk Hl IS IQ Fp Fq G4 G5 G6 Fs Ft Fu D2 EB Eo Ep Er Ew Ex Ey OQ n21 MV JP D4 σ))) : TY R q0 Fo FU HH GO GQ GU Hi F5 Hj Hh Hk Hl IS IQ Fp Fq G4 G5 G6 Fs Ft Fu D2 EB Eo Ep Er Ew Ex Ey aq au aw lX lY lZ Hd n11 He OQ n21 MV JP D4 ug n46 q8 kN Vc σ := M.of4 h ok rfl fun _ _ _ _ => by kernel_rfl
theorem Ix (h : AM (D4 + 1) ∧ A3 R q0 Fo FU HH GO GQ GU Hi F5 Hj Hh Hk Hl IS IQ Fp Fq G4 G5 G6 Fs Ft Fu D2 EB Eo Ep Er Ew Ex Ey OQ n21 MV JP (D4 + 1) σ) : Lj R q0 Fo FU HH GO GQ GU Hi F5 Hj Hh Hk Hl IS IQ Fp Fq G4 G5 G6 Fs Ft Fu D2 EB Eo Ep Er Ew Ex Ey OQ n21 MV JP D4 σ := M.of3 h ok rfl fun _ _ _ => by kernel_rfl
theorem rD (h : AM (Vc + 1) ∧ TY R q0 Fo FU HH GO GQ GU Hi F5 Hj Hh Hk Hl IS IQ Fp Fq G4 G5 G6 Fs Ft Fu D2 EB Eo Ep Er Ew Ex Ey aq au aw lX lY lZ Hd n11 He OQ n21 MV JP D4 ug n46 q8 kN (Vc + 1) σ) : rC R q0 Fo FU HH GO GQ GU Hi F5 Hj Hh Hk Hl IS IQ Fp Fq G4 G5 G6 Fs Ft Fu D2 EB Eo Ep Er Ew Ex Ey aq au aw lX lY lZ Hd n11 He OQ n21 MV JP D4 ug n46 q8 kN Vc σ := M.of4 h ok rfl fun _ _ _ _ => by kernel_rfl
end AR
namespace Fb
variable {Ev ET Pk M5 Hg JH DX CP DY Dc C3 CU x7 x8 : Int} {Pm DZ : ByteArray} {UF Q7 Db Dl p6 : Option Addr} {TV UG QH Q8 Dd De Dg Dm n6 c6 : Nat} {MR C4 : Bool}
def M : Fw := ⟨prog, 122, f122, [126], [1], false, [], [], [(104, [(1, .X 36 [.I .i64, .I .i64, .T, .L, .I .i64, .I .i64, .I .i64, .L, .B, .I .i64]), (6, wL), (7, wI), (8, wI)])]⟩
theorem ok : M.Ok := ⟨.cons call126 (AG.nil), mixed, func122, by kernel_rfl⟩
def Hf := M.pt 0
theorem start (h : ∀ b1 : Nat, Hf R Ev ET Pm UF TV UG Pk M5 Hg Q7 QH Q8 MR JH Q7 QH Q8 (QH : Int) 0 σ) : Spec prog 122 #[.agg #[.int .i64 Ev, .int .i64 ET, .string Pm, .slice UF TV UG, .int .i64 Pk, .int .i64 M5, .int .i64 Hg, .slice Q7 QH Q8, .bool MR, .int .i64 JH]] σ R := M.start h ok
theorem Be (h : Br (x8 < x7) (Pq p6 fun CY fu => In x8 (n6 : Int) ∧ LT σ CY (fu + Int.toNat x8 * 1) fun s11 => Spec prog 126 #[.string s11] σ (AA R (CB fun t13 y => Bn t13 (R (.returned (.bool false)) y) (AM (x8 + 1) ∧ Hf R DX CP DZ Db Dd De DY Dc C3 Dl Dg Dm C4 CU (aD CY fu) n6 c6 x7 (x8 + 1) y)))) (Br ((Dg : Int) = 0) (R (.returned (.bool true)) σ) (R (.returned (.bool (decide (C3 ≠ 0)))) σ))) : Hf R DX CP DZ Db Dd De DY Dc C3 Dl Dg Dm C4 CU p6 n6 c6 x7 x8 σ := M.iY h ok rfl fun _ => by kernel_rfl
end Fb
namespace DR
variable {Ev ET Pk M5 Hg JH : Int} {Pm : ByteArray} {UF Q7 p1 : Option Addr} {TV UG QH Q8 n1 c1 b2 : Nat} {MR : Bool}
def M : Fw := ⟨prog, 127, f127, [], [3], false, [], [], []⟩
theorem ok : M.Ok := ⟨AG.nil, mixed, func127, by kernel_rfl⟩
theorem start (h : ∀ b3 : Nat, LI .i64 σ b2 0 fun x7 => R (.returned (.tuple #[.int .i64 x7, .int .i64 0])) σ) : Spec prog 127 #[.agg #[.int .i64 Ev, .int .i64 ET, .string Pm, .slice UF TV UG, .int .i64 Pk, .int .i64 M5, .int .i64 Hg, .slice Q7 QH Q8, .bool MR, .int .i64 JH], .slice p1 n1 c1, (.pointer (aD b2 0))] σ R := M.start h ok
end DR
namespace NK
variable {x0 : Int}
def M : Fw := ⟨prog, 144, f144, [174, 181, 182], [], false, [], [], []⟩
theorem ok : M.Ok := ⟨.cons call174 (.cons call181 (.cons call182 (AG.nil))), mixed, func144, by kernel_rfl⟩
theorem start (h : Spec prog 182 #[.int .u64 x0] σ (AA R (fun z y => ∃ x4, (Value.float .f64 x4) = z ∧ Spec prog 181 #[(Value.float .f64 x4)] y (AA R (fun z AF => ∃ x5, (Value.float .f64 x5) = z ∧ Spec prog 174 #[(Value.float .f64 x5)] AF (AA R (CI .u64 fun x6 AH => R (.returned (.int .u64 x6)) AH))))))) : Spec prog 144 #[.int .u64 x0] σ R := M.start h ok
end NK
namespace Fc
variable {p0 Hd : Option Addr} {n0 c0 n11 He : Nat} {x3 x12 E2 : Int}
def M : Fw := ⟨prog, 151, f151, [186, 201], [], false, [], [], [(232, [(3, wU), (11, wL), (12, wI), (13, wI)])]⟩
theorem ok : M.Ok := ⟨.cons call186 (.cons call201 (AG.nil)), mixed, func151, by kernel_rfl⟩
def A3 := M.pt 0
theorem start (h : Pq p0 fun b7 o7 => In 0 (n0 : Int) ∧ LI .u64 σ b7 o7 fun x8 => Spec prog 186 #[.int .u64 x8] σ (AA R (CI .u64 fun x9 y => ((0 : Int) ≤ 1 ∧ 1 ≤ (n0 : Int)) ∧ A3 R x9 ((IP (aD b7 o7) (1) c0 1)) (n0 - 1) (c0 - 1) ((((n0 - 1) : Nat) : Int)) 0 y))) : Spec prog 151 #[.slice p0 n0 c0] σ R := M.start h ok
theorem AZ (h : Br (E2 < x12) (Pq Hd fun b15 o15 => In E2 (n11 : Int) ∧ LI .u64 σ b15 (o15 + Int.toNat E2 * 1) fun x16 => Spec prog 201 #[.int .u64 x3, .int .u64 x16] σ (AA R (CI .u64 fun Dk y => AM (E2 + 1) ∧ A3 R Dk (aD b15 o15) n11 He x12 (E2 + 1) y))) (R (.returned (.int .u64 x3)) σ)) : A3 R x3 Hd n11 He x12 E2 σ := M.of h ok rfl
end Fc
namespace Gj
variable {p0 : Option Addr} {n0 c0 : Nat}
def M : Fw := ⟨prog, 152, f152, [202], [], false, [], [], []⟩
theorem ok : M.Ok := ⟨.cons call202 (AG.nil), mixed, func152, by kernel_rfl⟩
theorem start (h : Spec prog 202 #[.int .i64 7, .slice p0 n0 c0] σ (AA R (CI .u64 fun x4 y => R (.returned (.int .u64 x4)) y))) : Spec prog 152 #[.slice p0 n0 c0] σ R := M.start h ok
end Gj
namespace PF
variable {Ev ET Pk M5 Hg JH x1 x2 : Int} {Pm : ByteArray} {UF Q7 : Option Addr} {TV UG QH Q8 : Nat} {MR : Bool}
def M : Fw := ⟨prog, 156, f156, [203, 204, 205], [3], false, [], [], []⟩
theorem ok : M.Ok := ⟨.cons call203 (.cons call204 (.cons call205 (AG.nil))), mixed, func156, by kernel_rfl⟩
theorem start (h : ∀ b3 : Nat, Spec prog 203 #[.int .i64 ET, .int .u64 x1, .int .u64 x2] σ (AA R (fun z y => ∃ Q2 AEB, z = (.tuple #[.int .u64 Q2, .bool AEB]) ∧ Bo AEB (R (.returned (.tuple #[.int .u64 Q2, .bool true])) y) (Spec prog 204 #[.int .i64 ET, .int .u64 x1, .int .u64 x2] y (AA R (fun z AF => ∃ yb AKT, z = (.tuple #[.bool yb, .bool AKT]) ∧ Spec prog 205 #[.bool yb] AF (AA R (CI .u64 fun x31 AH => R (.returned (.tuple #[.int .u64 x31, .bool yb])) AH)))))))) : Spec prog 156 #[.agg #[.int .i64 Ev, .int .i64 ET, .string Pm, .slice UF TV UG, .int .i64 Pk, .int .i64 M5, .int .i64 Hg, .slice Q7 QH Q8, .bool MR, .int .i64 JH], .int .u64 x1, .int .u64 x2] σ R := M.start h ok
end PF
namespace Gk
variable {s0 : ByteArray} {x1 : Int}
def M : Fw := ⟨prog, 173, f173, [214, 215], [], false, [], [], []⟩
theorem ok : M.Ok := ⟨.cons call214 (.cons call215 (AG.nil)), mixed, func173, by kernel_rfl⟩
theorem start (h : Spec prog 214 #[.string s0, .int .i64 x1] σ (AA R (fun z y => ∃ fa fc, z = (.tuple #[fa, fc]) ∧ ∃ t15, YF prog ((do eqGuard .neq 214 (.tmp 14) (.const .nilIface) fc .nilIface; binOp .neq 214 fc .nilIface)) y (.bool t15) ∧ Bo t15 (Spec prog 215 #[(.string (ByteArray.mk #[80, 97, 114, 115, 101, 70, 108, 111, 97, 116])), .string s0, .int .i64 0, .int .i64 x1, fc] y (AA R (fun z AF => ∃ v20, v20 = z ∧ R (.returned (.tuple #[fa, v20])) AF))) (R (.returned (.tuple #[fa, .nilIface])) y)))) : Spec prog 173 #[.string s0, .int .i64 x1] σ R := M.start h ok
end Gk
namespace dh
variable {v0 : Value}
def M : Fw := ⟨prog, 174, f174, [216], [], false, [], [], []⟩
theorem ok : M.Ok := ⟨.cons call216 (AG.nil), mixed, func174, by kernel_rfl⟩
theorem start (h : Spec prog 216 #[v0] σ (AA R (CB fun t4 y => Bo t4 (R (.returned (.int .u64 9221120237041090560)) y) (EN prog 45 #[v0] y (CI .u64 fun x6 AF => R (.returned (.int .u64 x6)) AF))))) : Spec prog 174 #[v0] σ R := M.D0 h ok [(0, .o (.V v0))] rfl rfl (by kernel_rfl)
end dh
namespace Aw
variable {p0 : Option Addr} {n0 c0 : Nat} {x1 x8 x9 x10 : Int} {v2 : Value}
def M : Fw := ⟨prog, 175, f175, [], [], false, [], [], [(480, [(0, wL), (1, wI), (2, wV), (8, wI), (9, wI), (10, wI)])]⟩
theorem ok : M.Ok := ⟨AG.nil, mixed, func175, by kernel_rfl⟩
def CN := M.pt 0
theorem start (h : CN R p0 n0 c0 x1 v2 (n0 : Int) 0 (n0 : Int) σ) : Spec prog 175 #[.slice p0 n0 c0, .int .i64 x1, v2] σ R := M.D0 h ok [(0, .o (.L p0 n0 c0)), (1, .o (.I .i64 x1)), (2, .o (.V v2))] rfl rfl (by kernel_rfl)
theorem BH (h : Br (x9 < x10) (AM (x9 + x10) ∧ Df (IntKind.u64.wrap (x9 + x10)) fun ae => ((0 : Int) ≤ 1 ∧ 1 ≤ ((IntKind.bits .u64 : Nat) : Int)) ∧ Df (ae / 2 ^ Int.toNat 1) fun JP => Df (IntKind.i64.wrap JP) fun D4 => Pq p0 fun XA qN => In D4 (n0 : Int) ∧ ∃ XY RD, Av σ XA (qN + Int.toNat D4 * 2) [.int .i64 XY, .int .u64 RD] ∧ ∃ (f30 : Nat) (ux uy : Array Value), v2 = .func (.func f30) ux uy ∧ Enters prog f30 ∧ Spec prog f30 (ux ++ #[.agg #[.int .i64 XY, .int .u64 RD], .int .i64 x1] ++ uy) σ (AA R (CI .i64 fun UM y => Br (UM < 0) (AM (D4 + 1) ∧ CN R (aD XA qN) n0 c0 x1 v2 x8 (D4 + 1) x10 y) (CN R (aD XA qN) n0 c0 x1 v2 x8 x9 D4 y)))) (Br (x9 < x8) (Pq p0 fun dO o43 => In x9 (n0 : Int) ∧ ∃ Pu Pv, Av σ dO (o43 + Int.toNat x9 * 2) [.int .i64 Pu, .int .u64 Pv] ∧ ∃ (f46 : Nat) (uz u4 : Array Value), v2 = .func (.func f46) uz u4 ∧ Enters prog f46 ∧ Spec prog f46 (uz ++ #[.agg #[.int .i64 Pu, .int .u64 Pv], .int .i64 x1] ++ u4) σ (AA R (CI .i64 fun x46 y => R (.returned (.tuple #[.int .i64 x9, (.bool (decide (x46 = 0)))])) y))) (R (.returned (.tuple #[.int .i64 x9, .bool false])) σ))) : CN R p0 n0 c0 x1 v2 x8 x9 x10 σ := M.of h ok rfl
end Aw
namespace Xp
variable {x0 x1 : Int}
def M : Fw := ⟨prog, 190, f190, [203], [], false, [], [], []⟩
theorem ok : M.Ok := ⟨.cons call203 (AG.nil), mixed, func190, by kernel_rfl⟩
theorem start (h : Spec prog 203 #[.int .i64 2, .int .u64 x0, .int .u64 x1] σ (AA R (fun z y => ∃ Ib Q4, z = (.tuple #[.int .u64 Ib, .bool Q4]) ∧ R (.returned (.int .u64 Ib)) y))) : Spec prog 190 #[.int .u64 x0, .int .u64 x1] σ R := M.start h ok
end Xp
namespace D5
variable {p0 : Option Addr} {n0 c0 : Nat} {x3 x4 : Int}
def M : Fw := ⟨prog, 192, f192, [190, 201, 204], [], false, [], [], [(464, [(0, wL), (3, wU), (4, wI)]), (467, [(0, wL), (3, wU), (4, wI)])]⟩
theorem ok : M.Ok := ⟨.cons call190 (.cons call201 (.cons call204 (AG.nil))), mixed, func192, by kernel_rfl⟩
def CN := M.pt 0
def XC := M.pt 1
theorem start (h : AM ((n0 : Int) - 1) ∧ Pq p0 fun BC ik => In (((n0 : Int) - 1)) (n0 : Int) ∧ LI .u64 σ BC (ik + Int.toNat ((n0 : Int) - 1) * 1) fun x12 => In 0 (n0 : Int) ∧ LI .u64 σ BC ik fun x15 => Spec prog 190 #[.int .u64 x12, .int .u64 x15] σ (AA R (CI .u64 fun x16 y => CN R (aD BC ik) n0 c0 x16 1 y))) : Spec prog 192 #[.slice p0 n0 c0] σ R := M.start h ok
theorem BH (h : Br (x4 < (n0 : Int)) (Pq p0 fun la pA => In x4 (n0 : Int) ∧ LI .u64 σ la (pA + Int.toNat x4 * 1) fun JM => AM (x4 - 1) ∧ In (x4 - 1) (n0 : Int) ∧ LI .u64 σ la (pA + Int.toNat (x4 - 1) * 1) fun ku => Spec prog 204 #[.int .i64 7, .int .u64 JM, .int .u64 ku] σ (AA R (fun z y => ∃ AEC kv, z = (.tuple #[.bool AEC, .bool kv]) ∧ Bo AEC (AM (x4 - 1) ∧ In (x4 - 1) (n0 : Int) ∧ LI .u64 y la (pA + Int.toNat (x4 - 1) * 1) fun XE => Spec prog 201 #[.int .u64 x3, .int .u64 XE] y (AA R (CI .u64 fun dR AF => XC R (aD la pA) n0 c0 dR x4 AF))) (XC R (aD la pA) n0 c0 x3 x4 y)))) (R (.returned (.int .u64 x3)) σ)) : CN R p0 n0 c0 x3 x4 σ := M.of h ok rfl
theorem QG (h : AM (x4 + 1) ∧ CN R p0 n0 c0 x3 (x4 + 1) σ) : XC R p0 n0 c0 x3 x4 σ := M.of h ok rfl
end D5
namespace JQ
variable {uG ZS : ByteArray} {b1 : Nat}
def M : Fw := ⟨prog, 200, f200, [199], [2], false, [], [], []⟩
theorem ok : M.Ok := ⟨.cons call199 (AG.nil), mixed, func200, by kernel_rfl⟩
theorem start (h : ∀ b2 : Nat, LS σ b1 0 fun p4 n4 c4 => Spec prog 199 #[.slice p4 n4 c4, .string uG] σ (AA R (CB fun t7 y => R (.returned (.bool (!t7))) y))) : Spec prog 200 #[.agg #[.string uG, .string ZS], (.pointer (aD b1 0))] σ R := M.start h ok
end JQ
namespace Fe
variable {s0 : ByteArray} {x3 : Int}
def M : Fw := ⟨prog, 213, f213, [], [], false, [], [], [(224, [(0, wT), (3, wI)])]⟩
theorem ok : M.Ok := ⟨AG.nil, mixed, func213, by kernel_rfl⟩
def GN := M.pt 0
theorem start (h : GN R s0 0 σ) : Spec prog 213 #[.string s0] σ R := M.start h ok
theorem A5 (h : Br (x3 < ((ByteArray.size s0 : Nat) : Int)) (∃ u11 : UInt8, 0 ≤ x3 ∧ (ByteArray.data s0)[Int.toNat x3]? = some u11 ∧ Br ((48 : Int) ≤ ((UInt8.toNat u11 : Nat) : Int)) (∃ u17 : UInt8, 0 ≤ x3 ∧ (ByteArray.data s0)[Int.toNat x3]? = some u17 ∧ Br ((((UInt8.toNat u17 : Nat) : Int) : Int) ≤ 57) (AM (x3 + 1) ∧ GN R s0 (x3 + 1) σ) (R (.returned (.int .i64 x3)) σ)) (R (.returned (.int .i64 x3)) σ)) (R (.returned (.int .i64 x3)) σ)) : GN R s0 x3 σ := M.of h ok rfl
end Fe
namespace Dy
variable {TW : Option Addr} {Lr RC : Nat} {ZS s1 : ByteArray}
def M : Fw := ⟨prog, 220, f220, [236], [2], false, [], [], []⟩
theorem ok : M.Ok := ⟨.cons call236 (AG.nil), mixed, func220, by kernel_rfl⟩
theorem start (h : ∀ b2 : Nat, Spec prog 236 #[.agg #[.slice TW Lr RC], .string s1] σ (AA R (CB fun t8 y => R (.returned (.bool (!t8))) y))) : Spec prog 220 #[.agg #[.slice TW Lr RC, .string ZS], .string s1] σ R := M.start h ok
end Dy
namespace H5
variable {p0 p5 : Option Addr} {n0 c0 n5 c5 : Nat} {x1 x7 : Int} {v6 : Value}
def M : Fw := ⟨prog, 241, f241, [182, 263], [], false, [], [], [(444, [(0, wL), (1, wI), (5, wL), (6, wV), (7, wI)])]⟩
theorem ok : M.Ok := ⟨.cons call182 (.cons call263 (AG.nil)), mixed, func241, by kernel_rfl⟩
def rE := M.pt 0
theorem start (h : Spec prog 263 #[] σ (AA R (CS fun ZR n10 TX y => rE R p0 n0 c0 x1 ZR n10 TX (.complex .f64 0 0) 0 y))) : Spec prog 241 #[.slice p0 n0 c0, .int .i64 x1] σ R := M.start h ok
theorem di (h : Br (x7 = (n0 : Int)) (R (.returned v6) σ) (Pq p0 fun UI aZ => In x7 (n0 : Int) ∧ LI .u64 σ UI (aZ + Int.toNat x7 * 1) fun Dk => AM (x1 * x7) ∧ (n0 : Int) ≠ (0 : Int) ∧ Df (Int.tmod (x1 * x7) (n0 : Int)) fun JM => (n0 : Int) ≠ (0 : Int) ∧ Df (IntKind.i64.wrap (Int.tdiv 8 (n0 : Int))) fun UM => AM (JM * UM) ∧ Pq p5 fun b32 o32 => In (JM * UM) (n5 : Int) ∧ ∃ x33 y33, Hp.ld σ ⟨b32, (o32 + Int.toNat (JM * UM) * 1), none⟩ = some (Value.complex .f64 x33 y33) ∧ Spec prog 182 #[.int .u64 Dk] σ (AA R (fun z y => ∃ HY, (Value.float .f64 HY) = z ∧ Kp [b32] σ y ∧ ∃ WK, YF prog (Builtin.real_ #[272] 51 #[v6]) y (Value.float .f64 WK) ∧ ∃ uM, YF prog (Builtin.real_ #[272] 51 #[(Value.complex .f64 x33 y33)]) y (Value.float .f64 uM) ∧ AJ prog (binOp .mul 51 (Value.float .f64 HY) (Value.float .f64 uM)) y (fun z AF => ∃ x39, (Value.float .f64 x39) = z ∧ AJ prog (binOp .add 51 (Value.float .f64 WK) (Value.float .f64 x39)) AF (fun z AH => ∃ oy, (Value.float .f64 oy) = z ∧ ∃ XE, YF prog (Builtin.imag_ #[272] 51 #[v6]) AH (Value.float .f64 XE) ∧ ∃ x45, YF prog (Builtin.imag_ #[272] 51 #[(Value.complex .f64 x33 y33)]) AH (Value.float .f64 x45) ∧ AJ prog (binOp .mul 51 (Value.float .f64 HY) (Value.float .f64 x45)) AH (fun z Aa => ∃ x46, (Value.float .f64 x46) = z ∧ AJ prog (binOp .add 51 (Value.float .f64 XE) (Value.float .f64 x46)) Aa (fun z D1 => ∃ kN, (Value.float .f64 kN) = z ∧ ∃ Vc y48, YF prog (Builtin.complex_ #[51, 51] 272 #[(Value.float .f64 oy), (Value.float .f64 kN)]) D1 (Value.complex .f64 Vc y48) ∧ AM (x7 + 1) ∧ rE R (aD UI aZ) n0 c0 x1 (aD b32 o32) n5 c5 (Value.complex .f64 Vc y48) (x7 + 1) D1)))))))) : rE R p0 n0 c0 x1 p5 n5 c5 v6 x7 σ := M.of h ok rfl
end H5
namespace H6
variable {q0 : Option Addr}
def M : Fw := ⟨prog, 250, f250, [66, 133, 135, 136, 137, 138, 267, 268, 269, 270], [2], false, [], [], []⟩
theorem ok : M.Ok := ⟨.cons call66 (.cons call133 (.cons call135 (.cons call136 (.cons call137 (.cons call138 (.cons call267 (.cons call268 (.cons call269 (.cons call270 (AG.nil)))))))))), mixed, func250, by kernel_rfl⟩
theorem start (h : Spec prog 66 #[.pointer q0] σ (AA R (fun z y => ∃ FY GV FZ GX, z = (.agg #[.int .i64 FY, .int .i64 GV, .string FZ, .int .i64 GX]) ∧ ∀ b2 : Nat, Spec prog 267 #[] y (AA R (CS fun p8 n8 c8 AF => Spec prog 133 #[.slice p8 n8 c8, .string FZ] AF (AA R (CI .i64 fun x11 AH => Spec prog 268 #[] AH (AA R (CS fun aj n12 ZV Aa => Spec prog 133 #[.slice aj n12 ZV, .string FZ] Aa (AA R (CI .i64 fun x15 D1 => Br (FY = 1) (Spec prog 135 #[.pointer q0] D1 (AA R (fun z BF => ∃ ql fg yI yJ, z = (.agg #[.int .i64 ql, .int .i64 fg, .string yI, .int .i64 yJ]) ∧ Spec prog 138 #[.pointer q0, .agg #[.int .i64 1, .int .i64 0, .string FZ, .slice none 0 0, .int .i64 0, .int .i64 0, .int .i64 0, .slice none 0 0, .bool false, .int .i64 0]] BF (AA R (fun z Bs => z = (.tuple #[]) ∧ R (.returned (.tuple #[])) Bs))))) (Spec prog 136 #[.pointer q0, .int .i64 5, (.string (ByteArray.mk #[40]))] D1 (AA R (CB fun t31 BF => Bo t31 (Spec prog 269 #[.pointer q0] BF (AA R (fun z Bs => z = (.tuple #[]) ∧ R (.returned (.tuple #[])) Bs))) (Br (FY = 3) (Br (0 < x11) (Spec prog 135 #[.pointer q0] BF (AA R (fun z Bs => ∃ ON Li OO AKX, z = (.agg #[.int .i64 ON, .int .i64 Li, .string OO, .int .i64 AKX]) ∧ Spec prog 269 #[.pointer q0] Bs (AA R (fun z Mo => z = (.tuple #[]) ∧ Spec prog 138 #[.pointer q0, (.agg #[.int .i64 4, .int .i64 x11, (.string (ByteArray.mk #[])), .slice none 0 0, .int .i64 0, .int .i64 0, .int .i64 0, .slice none 0 0, .bool false, .int .i64 1])] Mo (AA R (fun z VN => z = (.tuple #[]) ∧ R (.returned (.tuple #[])) VN))))))) (Br (FY = 3) (Br (0 < x15) (Spec prog 135 #[.pointer q0] BF (AA R (fun z Bs => ∃ VO HZ yc yd, z = (.agg #[.int .i64 VO, .int .i64 HZ, .string yc, .int .i64 yd]) ∧ Al Bs fun b5 => AJ prog (Instr.storeAt 36 (.pointer (aD b5 0)) (.agg #[.int .i64 5, .int .i64 x15, (.string (ByteArray.mk #[])), .slice none 0 0, .int .i64 0, .int .i64 0, .int .i64 0, .slice none 0 0, .bool false, .int .i64 1])) (Hp.set Bs b5 (.cells #[.int .i64 0, .int .i64 0, (.string (ByteArray.mk #[])), .slice none 0 0, .int .i64 0, .int .i64 0, .int .i64 0, .slice none 0 0, .bool false, .int .i64 0] 36 (0, 0))) (fun _ Mo => Spec prog 137 #[.pointer q0, (.pointer (aD b5 0)), (.agg #[(.string (ByteArray.mk #[98, 121])), (.string (ByteArray.mk #[119, 105, 116, 104, 111, 117, 116]))]), .agg #[.int .i64 1, .int .i64 2]] Mo (AA R (fun z VN => z = (.tuple #[]) ∧ Spec prog 269 #[.pointer q0] VN (AA R (fun z Lg => z = (.tuple #[]) ∧ ∃ Xq Xr Xs Xt Xu Xv Xw Xx Xy Xz X0 X7 X8 X9, Av Lg b5 0 [.int .i64 Xq, .int .i64 Xr, .string Xs, .slice Xt Xu Xv, .int .i64 Xw, .int .i64 Xx, .int .i64 Xy, .slice Xz X0 X7, .bool X8, .int .i64 X9] ∧ Spec prog 138 #[.pointer q0, .agg #[.int .i64 Xq, .int .i64 Xr, .string Xs, .slice Xt Xu Xv, .int .i64 Xw, .int .i64 Xx, .int .i64 Xy, .slice Xz X0 X7, .bool X8, .int .i64 X9]] Lg (AA R (fun z kF => z = (.tuple #[]) ∧ R (.returned (.tuple #[])) kF)))))))))) (Spec prog 270 #[.pointer q0] BF (AA R (fun z Bs => z = (.tuple #[]) ∧ R (.returned (.tuple #[])) Bs)))) (Spec prog 270 #[.pointer q0] BF (AA R (fun z Bs => z = (.tuple #[]) ∧ R (.returned (.tuple #[])) Bs))))) (Br (FY = 3) (Br (0 < x15) (Spec prog 135 #[.pointer q0] BF (AA R (fun z Bs => ∃ VO HZ yc yd, z = (.agg #[.int .i64 VO, .int .i64 HZ, .string yc, .int .i64 yd]) ∧ Al Bs fun b5 => AJ prog (Instr.storeAt 36 (.pointer (aD b5 0)) (.agg #[.int .i64 5, .int .i64 x15, (.string (ByteArray.mk #[])), .slice none 0 0, .int .i64 0, .int .i64 0, .int .i64 0, .slice none 0 0, .bool false, .int .i64 1])) (Hp.set Bs b5 (.cells #[.int .i64 0, .int .i64 0, (.string (ByteArray.mk #[])), .slice none 0 0, .int .i64 0, .int .i64 0, .int .i64 0, .slice none 0 0, .bool false, .int .i64 0] 36 (0, 0))) (fun _ Mo => Spec prog 137 #[.pointer q0, (.pointer (aD b5 0)), (.agg #[(.string (ByteArray.mk #[98, 121])), (.string (ByteArray.mk #[119, 105, 116, 104, 111, 117, 116]))]), .agg #[.int .i64 1, .int .i64 2]] Mo (AA R (fun z VN => z = (.tuple #[]) ∧ Spec prog 269 #[.pointer q0] VN (AA R (fun z Lg => z = (.tuple #[]) ∧ ∃ Xq Xr Xs Xt Xu Xv Xw Xx Xy Xz X0 X7 X8 X9, Av Lg b5 0 [.int .i64 Xq, .int .i64 Xr, .string Xs, .slice Xt Xu Xv, .int .i64 Xw, .int .i64 Xx, .int .i64 Xy, .slice Xz X0 X7, .bool X8, .int .i64 X9] ∧ Spec prog 138 #[.pointer q0, .agg #[.int .i64 Xq, .int .i64 Xr, .string Xs, .slice Xt Xu Xv, .int .i64 Xw, .int .i64 Xx, .int .i64 Xy, .slice Xz X0 X7, .bool X8, .int .i64 X9]] Lg (AA R (fun z kF => z = (.tuple #[]) ∧ R (.returned (.tuple #[])) kF)))))))))) (Spec prog 270 #[.pointer q0] BF (AA R (fun z Bs => z = (.tuple #[]) ∧ R (.returned (.tuple #[])) Bs)))) (Spec prog 270 #[.pointer q0] BF (AA R (fun z Bs => z = (.tuple #[]) ∧ R (.returned (.tuple #[])) Bs))))))))))))))))))) : Spec prog 250 #[.pointer q0] σ R := M.start h ok
end H6
namespace strings_Index
variable {s0 s1 : ByteArray}
end strings_Index
namespace SB
def M : Fw := ⟨prog, 268, f268, [], [], false, [], [], []⟩
theorem ok : M.Ok := ⟨AG.nil, mixed, func268, by kernel_rfl⟩
theorem start (h : Al σ fun b1 => R (.returned (.slice (aD b1 0) 6 6)) (Hp.set σ b1 (.cells #[(.string (ByteArray.mk #[])), (.string (ByteArray.mk #[115, 117, 109])), (.string (ByteArray.mk #[109, 105, 110])), (.string (ByteArray.mk #[109, 97, 120])), (.string (ByteArray.mk #[97, 118, 103])), (.string (ByteArray.mk #[99, 111, 117, 110, 116]))] 9 (0, 0)))) : Spec prog 268 #[] σ R := M.start h ok
end SB
namespace AE
variable {s0 : ByteArray} {x2 x3 x7 x10 x11 x12 x15 x16 x17 Dk HY : Int} {t4 t5 t6 t8 t9 t13 t14 : Bool}
def M : Fw := ⟨prog, 272, f272, [302, 303], [], false, [], [], [(110, [(0, wT), (2, wU), (3, wI), (4, wB), (5, wB), (6, wB), (7, wI), (8, wB), (9, wB)]), (1790, [(0, wT), (2, wU), (3, wI), (4, wB), (5, wB), (6, wB), (7, wI), (8, wB), (9, wB), (10, wU), (11, wI), (12, w8)]), (1834976, [(0, wT), (2, wU), (3, wI), (4, wB), (5, wB), (6, wB), (7, wI), (8, wB), (9, wB), (10, wU), (11, wI), (12, w8), (13, wB), (14, wB), (15, wI), (16, wI), (17, wI)]), (458748, [(0, wT), (2, wU), (3, wI), (4, wB), (5, wB), (6, wB), (7, wI), (8, wB), (9, wB), (10, wU), (12, w8), (13, wB), (14, wB), (15, wI), (16, wI), (17, wI)]), (1835004, [(0, wT), (2, wU), (3, wI), (4, wB), (5, wB), (6, wB), (7, wI), (8, wB), (9, wB), (10, wU), (12, w8), (16, wI), (17, wI)]), (3670012, [(0, wT), (2, wU), (3, wI), (4, wB), (5, wB), (6, wB), (7, wI), (8, wB), (9, wB), (10, wU), (12, w8), (16, wI), (17, wI)]), (7340028, [(0, wT), (2, wU), (3, wI), (4, wB), (5, wB), (6, wB), (7, wI), (8, wB), (9, wB), (16, wI), (17, wI)]), (14680060, [(0, wT), (2, wU), (3, wI), (4, wB), (5, wB), (6, wB), (7, wI), (8, wB), (9, wB)]), (469761724, [(0, wT), (2, wU), (3, wI), (4, wB), (5, wB), (6, wB), (7, wI), (8, wB), (9, wB), (16, wI), (17, wI), (19, wI)]), (15032375264, [(0, wT), (2, wU), (3, wI), (4, wB), (5, wB), (6, wB), (7, wI), (8, wB), (9, wB), (16, wI), (17, wI), (19, wI), (20, wI)]), (15032375267, [(0, wT), (2, wU), (3, wI), (4, wB), (5, wB), (6, wB), (7, wI), (8, wB), (9, wB), (16, wI), (17, wI), (19, wI), (20, wI)]), (1834979, [(0, wT), (2, wU), (3, wI), (4, wB), (5, wB), (6, wB), (7, wI), (8, wB), (9, wB), (10, wU), (11, wI), (12, w8), (13, wB), (14, wB), (15, wI), (16, wI), (17, wI)])]⟩
theorem ok : M.Ok := ⟨.cons call302 (.cons call303 (AG.nil)), mixed, func272, by kernel_rfl⟩
def TY := M.pt 0
def Lj := M.pt 1
def lf := M.pt 2
def NL := M.pt 3
def dj := M.pt 4
def lg := M.pt 5
def lh := M.pt 6
def lj := M.pt 7
def lk := M.pt 8
def Ff := M.pt 11
theorem start (h : Br ((((ByteArray.size s0 : Nat) : Int) : Int) ≤ 0) (R (.returned (.tuple #[.int .u64 0, .int .i64 0, .bool false, .bool false, .bool false, .int .i64 0, .bool false])) σ) (∃ u27 : UInt8, (0 : Int) ≤ 0 ∧ (ByteArray.data s0)[Int.toNat 0]? = some u27 ∧ Br ((((UInt8.toNat u27 : Nat) : Int) : Int) = 43) (AM (0 + 1) ∧ TY R s0 0 0 false false false (0 + 1) false false σ) (Br ((((UInt8.toNat u27 : Nat) : Int) : Int) = 45) (AM (0 + 1) ∧ TY R s0 0 0 true false false (0 + 1) false false σ) (TY R s0 0 0 false false false 0 false false σ)))) : Spec prog 272 #[.string s0] σ R := M.start h ok
theorem QK (h : AM (x7 + 2) ∧ Br (((x7 + 2) : Int) < ((ByteArray.size s0 : Nat) : Int)) (∃ u44 : UInt8, 0 ≤ x7 ∧ (ByteArray.data s0)[Int.toNat x7]? = some u44 ∧ Br ((((UInt8.toNat u44 : Nat) : Int) : Int) = 48) (AM (x7 + 1) ∧ ∃ u51 : UInt8, (0 : Int) ≤ (x7 + 1) ∧ (ByteArray.data s0)[Int.toNat (x7 + 1)]? = some u51 ∧ Spec prog 302 #[(.int .u8 ((UInt8.toNat u51 : Nat) : Int))] σ (AA R (CI .u8 fun qg y => Br (qg = 120) (AM (x7 + 2) ∧ Lj R s0 x2 x3 t4 t5 true (x7 + 2) t8 t9 16 16 112 y) (Lj R s0 x2 x3 t4 t5 t6 x7 t8 t9 10 19 101 y)))) (Lj R s0 x2 x3 t4 t5 t6 x7 t8 t9 10 19 101 σ)) (Lj R s0 x2 x3 t4 t5 t6 x7 t8 t9 10 19 101 σ)) : TY R s0 x2 x3 t4 t5 t6 x7 t8 t9 σ := M.of h ok rfl
theorem Ix (h : lf R s0 x2 x3 t4 t5 t6 x7 t8 t9 x10 x11 x12 false false 0 0 0 σ) : Lj R s0 x2 x3 t4 t5 t6 x7 t8 t9 x10 x11 x12 σ := M.of h ok rfl
theorem dn (h : Br (x7 < ((ByteArray.size s0 : Nat) : Int)) (∃ ZW : UInt8, 0 ≤ x7 ∧ (ByteArray.data s0)[Int.toNat x7]? = some ZW ∧ Br ((((UInt8.toNat ZW : Nat) : Int) : Int) = 95) (Ff R s0 x2 x3 t4 t5 t6 x7 t8 true x10 x11 x12 t13 t14 x15 x16 x17 σ) (Br ((((UInt8.toNat ZW : Nat) : Int) : Int) = 46) (Bo t13 (NL R s0 x2 x3 t4 t5 t6 x7 t8 t9 x10 x12 true t14 x15 x16 x17 σ) (Ff R s0 x2 x3 t4 t5 t6 x7 t8 t9 x10 x11 x12 true t14 x15 x16 x15 σ)) (Br ((48 : Int) ≤ ((UInt8.toNat ZW : Nat) : Int)) (Br ((((UInt8.toNat ZW : Nat) : Int) : Int) ≤ 57) (Br ((((UInt8.toNat ZW : Nat) : Int) : Int) = 48) (Br (x15 = 0) (AM (x17 - 1) ∧ Ff R s0 x2 x3 t4 t5 t6 x7 t8 t9 x10 x11 x12 t13 true x15 x16 (x17 - 1) σ) (AM (x15 + 1) ∧ Br (x16 < x11) (Df (IntKind.u64.wrap (x2 * x10)) fun x99 => Df (IntKind.u8.wrap (((UInt8.toNat ZW : Nat) : Int) - 48)) fun fw => Df (IntKind.u64.wrap fw) fun fx => Df (IntKind.u64.wrap (x99 + fx)) fun ax => AM (x16 + 1) ∧ Ff R s0 ax x3 t4 t5 t6 x7 t8 t9 x10 x11 x12 t13 true (x15 + 1) (x16 + 1) x17 σ) (Br ((((UInt8.toNat ZW : Nat) : Int) : Int) ≠ 48) (Ff R s0 x2 x3 t4 true t6 x7 t8 t9 x10 x11 x12 t13 true (x15 + 1) x16 x17 σ) (Ff R s0 x2 x3 t4 t5 t6 x7 t8 t9 x10 x11 x12 t13 true (x15 + 1) x16 x17 σ)))) (AM (x15 + 1) ∧ Br (x16 < x11) (Df (IntKind.u64.wrap (x2 * x10)) fun x99 => Df (IntKind.u8.wrap (((UInt8.toNat ZW : Nat) : Int) - 48)) fun fw => Df (IntKind.u64.wrap fw) fun fx => Df (IntKind.u64.wrap (x99 + fx)) fun ax => AM (x16 + 1) ∧ Ff R s0 ax x3 t4 t5 t6 x7 t8 t9 x10 x11 x12 t13 true (x15 + 1) (x16 + 1) x17 σ) (Br ((((UInt8.toNat ZW : Nat) : Int) : Int) ≠ 48) (Ff R s0 x2 x3 t4 true t6 x7 t8 t9 x10 x11 x12 t13 true (x15 + 1) x16 x17 σ) (Ff R s0 x2 x3 t4 t5 t6 x7 t8 t9 x10 x11 x12 t13 true (x15 + 1) x16 x17 σ)))) (Br (x10 = 16) (Spec prog 302 #[(.int .u8 ((UInt8.toNat ZW : Nat) : Int))] σ (AA R (CI .u8 fun ye y => Br (97 ≤ ye) (Spec prog 302 #[(.int .u8 ((UInt8.toNat ZW : Nat) : Int))] y (AA R (CI .u8 fun yf AF => Br (yf ≤ 102) (AM (x15 + 1) ∧ Br (x16 < x11) (Df (IntKind.u64.wrap (x2 * 16)) fun yh => Spec prog 302 #[(.int .u8 ((UInt8.toNat ZW : Nat) : Int))] AF (AA R (CI .u8 fun yi AH => Df (IntKind.u8.wrap (yi - 97)) fun yj => Df (IntKind.u8.wrap (yj + 10)) fun yk => Df (IntKind.u64.wrap yk) fun ym => Df (IntKind.u64.wrap (yh + ym)) fun yn => AM (x16 + 1) ∧ Ff R s0 yn x3 t4 t5 t6 x7 t8 t9 x10 x11 x12 t13 true (x15 + 1) (x16 + 1) x17 AH))) (Ff R s0 x2 x3 t4 true t6 x7 t8 t9 x10 x11 x12 t13 true (x15 + 1) x16 x17 AF)) (NL R s0 x2 x3 t4 t5 t6 x7 t8 t9 x10 x12 t13 t14 x15 x16 x17 AF)))) (NL R s0 x2 x3 t4 t5 t6 x7 t8 t9 x10 x12 t13 t14 x15 x16 x17 y)))) (NL R s0 x2 x3 t4 t5 t6 x7 t8 t9 x10 x12 t13 t14 x15 x16 x17 σ))) (Br (x10 = 16) (Spec prog 302 #[(.int .u8 ((UInt8.toNat ZW : Nat) : Int))] σ (AA R (CI .u8 fun ye y => Br (97 ≤ ye) (Spec prog 302 #[(.int .u8 ((UInt8.toNat ZW : Nat) : Int))] y (AA R (CI .u8 fun yf AF => Br (yf ≤ 102) (AM (x15 + 1) ∧ Br (x16 < x11) (Df (IntKind.u64.wrap (x2 * 16)) fun yh => Spec prog 302 #[(.int .u8 ((UInt8.toNat ZW : Nat) : Int))] AF (AA R (CI .u8 fun yi AH => Df (IntKind.u8.wrap (yi - 97)) fun yj => Df (IntKind.u8.wrap (yj + 10)) fun yk => Df (IntKind.u64.wrap yk) fun ym => Df (IntKind.u64.wrap (yh + ym)) fun yn => AM (x16 + 1) ∧ Ff R s0 yn x3 t4 t5 t6 x7 t8 t9 x10 x11 x12 t13 true (x15 + 1) (x16 + 1) x17 AH))) (Ff R s0 x2 x3 t4 true t6 x7 t8 t9 x10 x11 x12 t13 true (x15 + 1) x16 x17 AF)) (NL R s0 x2 x3 t4 t5 t6 x7 t8 t9 x10 x12 t13 t14 x15 x16 x17 AF)))) (NL R s0 x2 x3 t4 t5 t6 x7 t8 t9 x10 x12 t13 t14 x15 x16 x17 y)))) (NL R s0 x2 x3 t4 t5 t6 x7 t8 t9 x10 x12 t13 t14 x15 x16 x17 σ))))) (NL R s0 x2 x3 t4 t5 t6 x7 t8 t9 x10 x12 t13 t14 x15 x16 x17 σ)) : lf R s0 x2 x3 t4 t5 t6 x7 t8 t9 x10 x11 x12 t13 t14 x15 x16 x17 σ := M.of h ok rfl
theorem ll (h : Bn t14 (R (.returned (.tuple #[.int .u64 x2, .int .i64 x3, .bool t4, .bool t5, .bool t6, .int .i64 x7, .bool t8])) σ) (Bn t13 (dj R s0 x2 x3 t4 t5 t6 x7 t8 t9 x10 x12 x16 x15 σ) (dj R s0 x2 x3 t4 t5 t6 x7 t8 t9 x10 x12 x16 x17 σ))) : NL R s0 x2 x3 t4 t5 t6 x7 t8 t9 x10 x12 t13 t14 x15 x16 x17 σ := M.of h ok rfl
theorem lq (h : Br (x10 = 16) (AM (x17 * 4) ∧ AM (x16 * 4) ∧ lg R s0 x2 x3 t4 t5 t6 x7 t8 t9 x10 x12 (x16 * 4) (x17 * 4) σ) (lg R s0 x2 x3 t4 t5 t6 x7 t8 t9 x10 x12 x16 x17 σ)) : dj R s0 x2 x3 t4 t5 t6 x7 t8 t9 x10 x12 x16 x17 σ := M.of h ok rfl
theorem lr (h : Br (x7 < ((ByteArray.size s0 : Nat) : Int)) (∃ AED : UInt8, 0 ≤ x7 ∧ (ByteArray.data s0)[Int.toNat x7]? = some AED ∧ Spec prog 302 #[(.int .u8 ((UInt8.toNat AED : Nat) : Int))] σ (AA R (CI .u8 fun AKZ y => Br (AKZ = x12) (AM (x7 + 1) ∧ Br ((((ByteArray.size s0 : Nat) : Int) : Int) ≤ (x7 + 1)) (R (.returned (.tuple #[.int .u64 x2, .int .i64 x3, .bool t4, .bool t5, .bool t6, (.int .i64 (x7 + 1)), .bool t8])) y) (∃ yo : UInt8, (0 : Int) ≤ (x7 + 1) ∧ (ByteArray.data s0)[Int.toNat (x7 + 1)]? = some yo ∧ Br ((((UInt8.toNat yo : Nat) : Int) : Int) = 43) (AM ((x7 + 1) + 1) ∧ lk R s0 x2 x3 t4 t5 t6 (((x7 + 1) + 1)) t8 t9 x16 x17 1 y) (Br ((((UInt8.toNat yo : Nat) : Int) : Int) = 45) (AM ((x7 + 1) + 1) ∧ lk R s0 x2 x3 t4 t5 t6 (((x7 + 1) + 1)) t8 t9 x16 x17 (-1) y) (lk R s0 x2 x3 t4 t5 t6 (x7 + 1) t8 t9 x16 x17 1 y)))) (Br (x10 = 16) (R (.returned (.tuple #[.int .u64 x2, .int .i64 x3, .bool t4, .bool t5, .bool t6, .int .i64 x7, .bool t8])) y) (lh R s0 x2 x3 t4 t5 t6 x7 t8 t9 x16 x17 y))))) (Br (x10 = 16) (R (.returned (.tuple #[.int .u64 x2, .int .i64 x3, .bool t4, .bool t5, .bool t6, .int .i64 x7, .bool t8])) σ) (lh R s0 x2 x3 t4 t5 t6 x7 t8 t9 x16 x17 σ))) : lg R s0 x2 x3 t4 t5 t6 x7 t8 t9 x10 x12 x16 x17 σ := M.of h ok rfl
theorem lu (h : Br (x2 ≠ 0) (AM (x17 - x16) ∧ lj R s0 x2 (x17 - x16) t4 t5 t6 x7 t8 t9 σ) (lj R s0 x2 x3 t4 t5 t6 x7 t8 t9 σ)) : lh R s0 x2 x3 t4 t5 t6 x7 t8 t9 x16 x17 σ := M.of h ok rfl
theorem YA (h : Bo t9 (∃ AEE, YF prog (Instr.sliceAt 9 (.string s0) none (some (.int .i64 x7)) none) σ (.string AEE) ∧ Spec prog 303 #[.string AEE] σ (AA R (CB fun t250 y => Bn t250 (R (.returned (.tuple #[.int .u64 x2, .int .i64 x3, .bool t4, .bool t5, .bool t6, .int .i64 x7, .bool t8])) y) (R (.returned (.tuple #[.int .u64 x2, .int .i64 x3, .bool t4, .bool t5, .bool t6, .int .i64 x7, .bool true])) y)))) (R (.returned (.tuple #[.int .u64 x2, .int .i64 x3, .bool t4, .bool t5, .bool t6, .int .i64 x7, .bool true])) σ)) : lj R s0 x2 x3 t4 t5 t6 x7 t8 t9 σ := M.of h ok rfl
theorem lv (h : AM (x7 + 1) ∧ lf R s0 x2 x3 t4 t5 t6 (x7 + 1) t8 t9 x10 x11 x12 t13 t14 x15 x16 x17 σ) : Ff R s0 x2 x3 t4 t5 t6 x7 t8 t9 x10 x11 x12 t13 t14 x15 x16 x17 σ := M.of h ok rfl
end AE
namespace Gm
variable {s0 : ByteArray} {t4 : Bool}
def M : Fw := ⟨prog, 295, f295, [133, 267, 268], [], false, [], [], [(53, [(0, wT), (4, wB)])]⟩
theorem ok : M.Ok := ⟨.cons call133 (.cons call267 (.cons call268 (AG.nil))), mixed, func295, by kernel_rfl⟩
def Pw := M.pt 0
theorem start (h : Bo ((ByteArray.toList s0 == ByteArray.toList (ByteArray.mk #[111, 114]))) (Pw R s0 true σ) (Bo ((ByteArray.toList s0 == ByteArray.toList (ByteArray.mk #[97, 110, 100]))) (Pw R s0 true σ) (Bo ((ByteArray.toList s0 == ByteArray.toList (ByteArray.mk #[117, 110, 108, 101, 115, 115]))) (Pw R s0 true σ) (Bo ((ByteArray.toList s0 == ByteArray.toList (ByteArray.mk #[98, 111, 111, 108]))) (Pw R s0 true σ) (Bo ((ByteArray.toList s0 == ByteArray.toList (ByteArray.mk #[111, 110]))) (Pw R s0 true σ) (Bo ((ByteArray.toList s0 == ByteArray.toList (ByteArray.mk #[105, 103, 110, 111, 114, 105, 110, 103]))) (Pw R s0 true σ) (Bo ((ByteArray.toList s0 == ByteArray.toList (ByteArray.mk #[98, 121]))) (Pw R s0 true σ) (Bo ((ByteArray.toList s0 == ByteArray.toList (ByteArray.mk #[119, 105, 116, 104, 111, 117, 116]))) (Pw R s0 true σ) (Pw R s0 ((ByteArray.toList s0 == ByteArray.toList (ByteArray.mk #[111, 102, 102, 115, 101, 116]))) σ))))))))) : Spec prog 295 #[.string s0] σ R := M.start h ok
theorem rF (h : Bo t4 (R (.returned (.bool true)) σ) (Spec prog 267 #[] σ (AA R (CS fun JI n14 HG y => Spec prog 133 #[.slice JI n14 HG, .string s0] y (AA R (CI .i64 fun x16 AF => Br (0 < x16) (R (.returned (.bool true)) AF) (Spec prog 268 #[] AF (AA R (CS fun p19 n19 c19 AH => Spec prog 133 #[.slice p19 n19 c19, .string s0] AH (AA R (CI .i64 fun ae Aa => R (.returned (.bool (decide (0 < ae)))) Aa))))))))))) : Pw R s0 t4 σ := M.of h ok rfl
end Gm
namespace H7
variable {q0 q1 : Option Addr} {qo x3a x3b x3d : Int} {s2b s2c s3c : ByteArray}
def M : Fw := ⟨prog, 296, f296, [80, 97], [6, 7], false, [(1, 10, false)], [], []⟩
theorem ok : M.Ok := ⟨.cons call80 (.cons call97 (AG.nil)), mixed, func296, by kernel_rfl⟩
theorem start (h : ∀ b6 : Nat, ∀ b7 : Nat, Pq q1 fun CY fu => LS σ CY (fu + 3) fun aj n12 ZV => Al σ fun BL => AJ prog (Builtin.append_ #[33, 33] 33 #[.slice aj n12 ZV, (.slice (aD BL 0) 1 1)]) (Hp.set σ BL (.cells #[.int .i64 qo, .string s2b, .string s2c] 77 (0, 0))) (CS fun TI n15 Ph y => AJ prog (Instr.storeAt 33 (.pointer (aD CY (fu + 3))) (.slice TI n15 Ph)) y (fun _ AF => LS AF CY (fu + 3) fun OQ n21 MV => Spec prog 80 #[.slice OQ n21 MV] AF (AA R (CI .i64 fun JP AH => Br (JP ≠ 0) (Spec prog 97 #[.pointer q0, .int .i64 183, .agg #[.int .i64 x3a, .int .i64 x3b, .string s3c, .int .i64 x3d]] AH (AA R (fun z Aa => z = (.tuple #[]) ∧ R (.returned (.tuple #[])) Aa))) (R (.returned (.tuple #[])) AH)))))) : Spec prog 296 #[.pointer q0, .pointer q1, .agg #[.int .i64 qo, .string s2b, .string s2c], .agg #[.int .i64 x3a, .int .i64 x3b, .string s3c, .int .i64 x3d]] σ R := M.start h ok
end H7
end TwW
end
end
section
set_option maxRecDepth 100000
noncomputable section
namespace TwW
open Go Tw Go.Proofs.Tryz
variable [Es] {R : Rr} {σ : Hp}

namespace UT
variable {x0 : Int}
def M : Fw := ⟨prog, 29, f29, [], [], false, [], [], []⟩
theorem ok : M.Ok := ⟨AG.nil, mixed, func29, by kernel_rfl⟩
theorem start (h : Br (((-1099511627776) : Int) ≤ x0) (R (.returned (.bool (decide (x0 ≤ 1099511627776)))) σ) (R (.returned (.bool false)) σ)) : Spec prog 29 #[.int .i64 x0] σ R := M.start h ok
end UT
namespace CV
variable {p0 p1 : Option Addr} {n0 c0 n1 c1 : Nat} {x5 : Int}
def M : Fw := ⟨prog, 36, f36, [], [], false, [(6, 9, true)], [], [(464, [(0, wL), (1, wL), (5, wI)])]⟩
theorem ok : M.Ok := ⟨AG.nil, mixed, func36, by kernel_rfl⟩
def JV := M.pt 0
theorem start (h : Br ((n0 : Int) ≠ (n1 : Int)) (R (.returned (.bool false)) σ) (JV R p0 n0 c0 p1 n1 c1 0 σ)) : Spec prog 36 #[.slice p0 n0 c0, .slice p1 n1 c1] σ R := M.start h ok
theorem NI (h : Br (x5 < (n0 : Int)) (Pq p0 fun DD kH => In x5 (n0 : Int) ∧ ∃ H0 VP, Av σ DD (kH + Int.toNat x5 * 2) [.int .i64 H0, .int .u64 VP] ∧ Pq p1 fun Ps ky => In x5 (n1 : Int) ∧ ∃ fy Vh, Av σ Ps (ky + Int.toNat x5 * 2) [.int .i64 fy, .int .u64 Vh] ∧ ∃ t25, YF prog ((do eqGuard .neq 50 (.tmp 20) (.tmp 24) (.agg #[.int .i64 H0, .int .u64 VP]) (.agg #[.int .i64 fy, .int .u64 Vh]); binOp .neq 50 (.agg #[.int .i64 H0, .int .u64 VP]) (.agg #[.int .i64 fy, .int .u64 Vh]))) σ (.bool t25) ∧ Bo t25 (R (.returned (.bool false)) σ) (AM (x5 + 1) ∧ JV R (aD DD kH) n0 c0 (aD Ps ky) n1 c1 (x5 + 1) σ)) (R (.returned (.bool true)) σ)) : JV R p0 n0 c0 p1 n1 c1 x5 σ := M.of h ok rfl
end CV
namespace CD
variable {v0 : Value} {b1 b2 b3 : Nat} {x5 : Int}
def M : Fw := ⟨prog, 71, f71, [], [100000], false, [], [], [(48, [(0, wV), (2, wA), (3, wA), (5, wI)])]⟩
theorem ok : M.Ok := ⟨AG.nil, mixed, func71, by kernel_rfl⟩
def ai := M.pt 0
theorem start (h : LI .i64 σ b1 0 fun x6 => ai R v0 b2 b3 x6 σ) : Spec prog 71 #[v0, (.pointer (aD b1 0)), (.pointer (aD b2 0)), (.pointer (aD b3 0))] σ R := M.D0 h ok [(0, .o (.V v0)), (1, .o (.A b1)), (2, .o (.A b2)), (3, .o (.A b3))] rfl rfl (by kernel_rfl)
theorem OP (h : ∃ l9 : Nat, v0 = .func (.yield l9) #[] #[] ∧ Hr prog l9 #[.int .i64 x5] σ (AA R (CB fun t9 y => Bo t9 (LI .i64 y b2 0 fun x11 => LI .i64 y b3 0 fun x12 => AM (x12 - x5) ∧ Br (x11 ≤ (x12 - x5)) (LI .i64 y b2 0 fun Ld => AM (x5 + Ld) ∧ ai R v0 b2 b3 (x5 + Ld) y) (R (.returned (.tuple #[])) y)) (R (.returned (.tuple #[])) y)))) : ai R v0 b2 b3 x5 σ := M.of h ok rfl
end CD
namespace Eh
variable {p0 p3 ZR : Option Addr} {n0 c0 n3 c3 n10 TX : Nat} {x11 x12 : Int}
def M : Fw := ⟨prog, 72, f72, [107, 108], [5], false, [], [], [(232, [(3, wL), (10, wL), (11, wI), (12, wI)])]⟩
theorem ok : M.Ok := ⟨.cons call107 (.cons call108 (AG.nil)), mixed, func72, by kernel_rfl⟩
def A3 := M.pt 0
theorem start (h : Df (IntKind.u64.wrap (n0 : Int)) fun x8 => Spec prog 107 #[.slice none 0 0, .int .u64 x8] σ (AA R (CS fun p9 n9 c9 y => A3 R p9 n9 c9 p0 n0 c0 (n0 : Int) 0 y))) : Spec prog 72 #[.slice p0 n0 c0] σ R := M.start h ok
theorem AZ (h : Br (x12 < x11) (Pq ZR fun BL Mz => In x12 (n10 : Int) ∧ ∃ AEF AEG, Av σ BL (Mz + Int.toNat x12 * 2) [.string AEF, .string AEG] ∧ ∀ b5 : Nat, Spec prog 108 #[.slice p3 n3 c3, .string AEF] σ (AA R (CS fun p19 n19 c19 y => Spec prog 108 #[.slice p19 n19 c19, .string AEG] y (AA R (CS fun UD n22 TH AF => AM (x12 + 1) ∧ A3 R UD n22 TH (aD BL Mz) n10 TX x11 (x12 + 1) AF))))) (R (.returned (.slice p3 n3 c3)) σ)) : A3 R p3 n3 c3 ZR n10 TX x11 x12 σ := M.of h ok rfl
end Eh
namespace Gn
variable {p0 p6 : Option Addr} {n0 c0 n6 c6 : Nat} {x3 x7 x8 : Int}
def M : Fw := ⟨prog, 77, f77, [], [], false, [], [], [(232, [(3, wI), (6, wL), (7, wI), (8, wI)])]⟩
theorem ok : M.Ok := ⟨AG.nil, mixed, func77, by kernel_rfl⟩
def A3 := M.pt 0
theorem start (h : A3 R 0 p0 n0 c0 (n0 : Int) 0 σ) : Spec prog 77 #[.slice p0 n0 c0] σ R := M.start h ok
theorem AZ (h : Br (x8 < x7) (Pq p6 fun CY fu => In x8 (n6 : Int) ∧ LI .i64 σ CY (fu + Int.toNat x8 * 1) fun x11 => Br (x11 ≠ x3) (R (.returned (.int .i64 x11)) σ) (AM (x8 + 1) ∧ A3 R x3 (aD CY fu) n6 c6 x7 (x8 + 1) σ)) (R (.returned (.int .i64 x3)) σ)) : A3 R x3 p6 n6 c6 x7 x8 σ := M.of h ok rfl
end Gn
namespace Ei
variable {q0 Db Dl p2 : Option Addr} {DX CP DY Dc C3 CU : Int} {DZ : ByteArray} {Dd De Dg Dm n2 c2 : Nat} {C4 : Bool}
def M : Fw := ⟨prog, 85, f85, [], [4], false, [], [], []⟩
theorem ok : M.Ok := ⟨AG.nil, mixed, func85, by kernel_rfl⟩
theorem start (h : ∀ b4 : Nat, Pq p2 fun b9 o9 => In 0 (n2 : Int) ∧ LI .i64 σ b9 o9 fun x11 => Br (x11 = 3) (R (.returned (.tuple #[.int .i64 0, .int .i64 191])) σ) (In 0 (n2 : Int) ∧ LI .i64 σ b9 o9 fun x16 => R (.returned (.tuple #[.int .i64 x16, .int .i64 0])) σ)) : Spec prog 85 #[.pointer q0, .agg #[.int .i64 DX, .int .i64 CP, .string DZ, .slice Db Dd De, .int .i64 DY, .int .i64 Dc, .int .i64 C3, .slice Dl Dg Dm, .bool C4, .int .i64 CU], .slice p2 n2 c2] σ R := M.start h ok
end Ei
namespace SC
variable {s0 : ByteArray}
def M : Fw := ⟨prog, 94, f94, [131, 132], [], false, [], [], []⟩
theorem ok : M.Ok := ⟨.cons call131 (.cons call132 (AG.nil)), mixed, func94, by kernel_rfl⟩
theorem start (h : Spec prog 131 #[.string s0] σ (AA R (CI .i64 fun x6 y => Br (x6 = 0) (R (.returned (.bool false)) y) (∃ s12, YF prog (Instr.sliceAt 9 (.string s0) none (some (.int .i64 x6)) none) y (.string s12) ∧ Spec prog 132 #[.string s12] y (AA R (CB fun t13 AF => Bo t13 (R (.returned (.bool false)) AF) (Br (x6 = ((ByteArray.size s0 : Nat) : Int)) (R (.returned (.bool (decide (x6 ≤ 15)))) AF) (AM (x6 + 1) ∧ ∃ s24, YF prog (Instr.sliceAt 9 (.string s0) (some (.int .i64 (x6 + 1))) none none) AF (.string s24) ∧ Spec prog 131 #[.string s24] AF (AA R (CI .i64 fun TJ AH => ∃ u28 : UInt8, 0 ≤ x6 ∧ (ByteArray.data s0)[Int.toNat x6]? = some u28 ∧ Br ((((UInt8.toNat u28 : Nat) : Int) : Int) = 46) (Br (0 < TJ) (AM (x6 + 1) ∧ AM ((x6 + 1) + TJ) ∧ Br ((((x6 + 1) + TJ) : Int) = ((ByteArray.size s0 : Nat) : Int)) (AM (x6 + TJ) ∧ R (.returned (.bool (decide (((x6 + TJ) : Int) ≤ 15)))) AH) (R (.returned (.bool false)) AH)) (R (.returned (.bool false)) AH)) (R (.returned (.bool false)) AH))))))))))) : Spec prog 94 #[.string s0] σ R := M.start h ok
end SC
namespace AP
variable {q0 Db Dl p2 GO Hh G4 Fs p9 UD TI p79 Xm aj q13 : Option Addr} {DX CP DY Dc C3 CU Fo FU Hi F5 Hj IQ Fp Fq D4 JF x80 x81 Pr : Int} {DZ HH : ByteArray} {Dd De Dg Dm n2 c2 GQ GU Hk Hl G5 G6 Ft Fu n9 c9 n22 TH n15 Ph n79 c79 Xn Xo n12 ZV : Nat} {C4 IS : Bool} {m8 : Option Nat} {pB : Value}
def M : Fw := ⟨prog, 104, f104, [49, 146, 148, 149, 150], [4, 6, 11], false, [(17, 11, false)], [], [(488, [(4, .X 36 [.I .i64, .I .i64, .T, .L, .I .i64, .I .i64, .I .i64, .L, .B, .I .i64]), (6, .X 93 [.I .i64, .I .u64, .L, .L]), (8, wM), (9, wL), (22, wL), (23, wI), (24, wI)]), (4072, [(6, .X 93 [.I .i64, .I .u64, .L, .L]), (14, wV), (15, wL), (79, wL), (80, wI), (81, wI)]), (62670, [(4, .X 36 [.I .i64, .I .i64, .T, .L, .I .i64, .I .i64, .I .i64, .L, .B, .I .i64]), (6, .X 93 [.I .i64, .I .u64, .L, .L]), (8, wM), (9, wL), (11, .X 71 [.L, .I .u64]), (12, wL), (22, wL), (23, wI), (24, wI)]), (125343, [(4, .X 36 [.I .i64, .I .i64, .T, .L, .I .i64, .I .i64, .I .i64, .L, .B, .I .i64]), (6, .X 93 [.I .i64, .I .u64, .L, .L]), (8, wM), (9, wL), (11, .X 71 [.L, .I .u64]), (13, wQ), (22, wL), (23, wI), (24, wI)])]⟩
theorem ok : M.Ok := ⟨.cons call49 (.cons call146 (.cons call148 (.cons call149 (.cons call150 (AG.nil))))), mixed, func104, by kernel_rfl⟩
def Ez := M.pt 0
def rG := M.pt 1
def Jk := M.pt 2
def lx := M.pt 3
theorem start (h : ∀ b4 : Nat, ∀ b6 : Nat, AJ prog (Instr.makeMap 197 none) σ (fun z y => ∃ m18, z = (.map (some m18)) ∧ Pq p2 fun Xc yT => In 0 (n2 : Int) ∧ LS y Xc (yT + 2) fun UD n22 TH => Ez R DX CP DZ Db Dd De DY Dc C3 Dl Dg Dm C4 CU 0 0 none 0 0 none 0 0 (some m18) none 0 0 UD n22 TH (n22 : Int) 0 y)) : Spec prog 104 #[.pointer q0, .agg #[.int .i64 DX, .int .i64 CP, .string DZ, .slice Db Dd De, .int .i64 DY, .int .i64 Dc, .int .i64 C3, .slice Dl Dg Dm, .bool C4, .int .i64 CU], .slice p2 n2 c2] σ R := M.start h ok
theorem FN (h : Br (JF < D4) (Pq UD fun la pA => In JF (n22 : Int) ∧ ∃ MT Lh MU XR, Av σ la (pA + Int.toNat JF * 2) [.slice MT Lh MU, .int .u64 XR] ∧ ∀ BC : Nat, Br (Hj = 1) (Spec prog 149 #[.slice MT Lh MU, .slice Hh Hk Hl] σ (AA R (CS fun p36 n36 c36 y => Jk R Fo FU HH GO GQ GU Hi F5 Hj Hh Hk Hl IS IQ Fp Fq G4 G5 G6 Fs Ft Fu m8 p9 n9 c9 MT Lh MU XR p36 n36 c36 (aD la pA) n22 TH D4 JF y))) (Br (Hj = 2) (Spec prog 150 #[.slice MT Lh MU, .slice Hh Hk Hl] σ (AA R (CS fun il n43 iq y => Spec prog 146 #[.slice il n43 iq] y (AA R (CS fun xZ n44 xd AF => Jk R Fo FU HH GO GQ GU Hi F5 Hj Hh Hk Hl IS IQ Fp Fq G4 G5 G6 Fs Ft Fu m8 p9 n9 c9 MT Lh MU XR xZ n44 xd (aD la pA) n22 TH D4 JF AF))))) (Jk R Fo FU HH GO GQ GU Hi F5 Hj Hh Hk Hl IS IQ Fp Fq G4 G5 G6 Fs Ft Fu m8 p9 n9 c9 MT Lh MU XR none 0 0 (aD la pA) n22 TH D4 JF σ))) (AJ prog (Instr.makeMap 202 none) σ (fun z y => ∃ aR, z = (.map (some aR)) ∧ AJ prog (Instr.mapUpdate 202 (.map (some aR)) (.int .i64 1) (.func (.func 151) #[] #[])) y (fun _ AF => AJ prog (Instr.mapUpdate 202 (.map (some aR)) (.int .i64 2) (.func (.func 152) #[] #[])) AF (fun _ AH => AJ prog (Instr.mapUpdate 202 (.map (some aR)) (.int .i64 3) (.func (.func 153) #[] #[])) AH (fun _ Aa => AJ prog (Instr.mapUpdate 202 (.map (some aR)) (.int .i64 4) (.func (.func 154) #[] #[])) Aa (fun _ D1 => AJ prog (Instr.mapUpdate 202 (.map (some aR)) (.int .i64 5) (.func (.func 155) #[] #[])) D1 (fun _ BF => AJ prog (Instr.lookup 202 (.map (some aR)) (.int .i64 FU) false) BF (fun z Bs => ∃ v78, v78 = z ∧ rG R Fp Fq G4 G5 G6 Fs Ft Fu v78 none 0 0 p9 n9 c9 (n9 : Int) 0 Bs))))))))) : Ez R Fo FU HH GO GQ GU Hi F5 Hj Hh Hk Hl IS IQ Fp Fq G4 G5 G6 Fs Ft Fu m8 p9 n9 c9 UD n22 TH D4 JF σ := M.fS h ok rfl fun _ _ => by kernel_rfl
theorem dq (h : Br (x81 < x80) (Pq p79 fun b83 o83 => In x81 (n79 : Int) ∧ LQ σ b83 (o83 + Int.toNat x81 * 1) fun q84 => Pq q84 fun b87 o87 => LS σ b87 o87 fun p89 n89 c89 => LS σ b87 (o87 + 1) fun qF qG qH => ∃ (f95 : Nat) (YB YC : Array Value), pB = .func (.func f95) YB YC ∧ Enters prog f95 ∧ Spec prog f95 (YB ++ #[.slice qF qG qH] ++ YC) σ (AA R (CI .u64 fun x95 y => Kp [b87] σ y ∧ Al y fun b97 => AJ prog (Builtin.append_ #[67, 67] 67 #[.slice TI n15 Ph, (.slice (aD b97 0) 1 1)]) (Hp.set y b97 (.cells #[.slice p89 n89 c89, .int .u64 x95] 71 (0, 0))) (CS fun p98 n98 c98 AF => AM (x81 + 1) ∧ rG R Fp Fq G4 G5 G6 Fs Ft Fu pB p98 n98 c98 (aD b83 o83) n79 c79 x80 (x81 + 1) AF)))) (Spec prog 148 #[.slice TI n15 Ph] σ (AA R (fun z y => ∃ ly lz l5 l6 l7 l8 mA mB u5, z = (.tuple #[.agg #[.int .i64 ly, .int .u64 lz, .slice l5 l6 l7, .slice l8 mA mB], .int .i64 u5]) ∧ R (.returned (.tuple #[.agg #[.int .i64 ly, .int .u64 lz, .slice l5 l6 l7, .slice l8 mA mB], .int .i64 u5])) y)))) : rG R Fp Fq G4 G5 G6 Fs Ft Fu pB TI n15 Ph p79 n79 c79 x80 x81 σ := M.iY h ok rfl fun _ => by kernel_rfl
theorem LK (h : Spec prog 49 #[.slice aj n12 ZV] σ (AA R (CT fun s47 y => AJ prog (Instr.lookup 197 (.map m8) (.string s47) false) y (CQ fun q48 AF => Bo (Option.isNone q48) (Al AF fun OM => Spec prog 49 #[.slice aj n12 ZV] (Hp.set AF OM (.cells #[.slice aj n12 ZV, .slice none 0 0] 189 (0, 0))) (AA R (CT fun s56 AH => AJ prog (Instr.mapUpdate 197 (.map m8) (.string s56) (.pointer (aD OM 0))) AH (fun _ Aa => Al Aa fun b60 => AJ prog (Builtin.append_ #[198, 198] 198 #[.slice p9 n9 c9, (.slice (aD b60 0) 1 1)]) (Hp.set Aa b60 (.cells #[(.pointer (aD OM 0))] 200 (0, 0))) (CS fun p61 n61 c61 D1 => lx R Fo FU HH GO GQ GU Hi F5 Hj Hh Hk Hl IS IQ Fp Fq G4 G5 G6 Fs Ft Fu m8 p61 n61 c61 Xm Xn Xo Pr (aD OM 0) UD n22 TH D4 JF D1))))) (lx R Fo FU HH GO GQ GU Hi F5 Hj Hh Hk Hl IS IQ Fp Fq G4 G5 G6 Fs Ft Fu m8 p9 n9 c9 Xm Xn Xo Pr q48 UD n22 TH D4 JF AF))))) : Jk R Fo FU HH GO GQ GU Hi F5 Hj Hh Hk Hl IS IQ Fp Fq G4 G5 G6 Fs Ft Fu m8 p9 n9 c9 Xm Xn Xo Pr aj n12 ZV UD n22 TH D4 JF σ := M.of3 h ok rfl fun _ _ _ => by kernel_rfl
theorem rH (h : Pq q13 fun b64 o64 => LS σ b64 (o64 + 1) fun ox kG dU => Al σ fun b69 => AJ prog (Builtin.append_ #[187, 187] 187 #[.slice ox kG dU, (.slice (aD b69 0) 1 1)]) (Hp.set σ b69 (.cells #[.int .u64 Pr] 48 (0, 0))) (CS fun p70 n70 c70 y => AJ prog (Instr.storeAt 187 (.pointer (aD b64 (o64 + 1))) (.slice p70 n70 c70)) y (fun _ AF => AM (JF + 1) ∧ Ez R Fo FU HH GO GQ GU Hi F5 Hj Hh Hk Hl IS IQ Fp Fq G4 G5 G6 Fs Ft Fu m8 p9 n9 c9 UD n22 TH D4 (JF + 1) AF))) : lx R Fo FU HH GO GQ GU Hi F5 Hj Hh Hk Hl IS IQ Fp Fq G4 G5 G6 Fs Ft Fu m8 p9 n9 c9 Xm Xn Xo Pr q13 UD n22 TH D4 JF σ := M.of3 h ok rfl fun _ _ _ => by kernel_rfl
end AP
namespace SD
variable {Ev ET Pk M5 Hg JH : Int} {Pm : ByteArray} {UF Q7 : Option Addr} {TV UG QH Q8 : Nat} {MR : Bool}
def M : Fw := ⟨prog, 121, f121, [], [1, 2], false, [(12, 7, false), (15, 7, false), (18, 11, false), (21, 15, false)], [], []⟩
theorem ok : M.Ok := ⟨AG.nil, mixed, func121, by kernel_rfl⟩
theorem start (h : ∀ b1 : Nat, ∀ b2 : Nat, Al σ fun b3 => AJ prog (Instr.storeAt 36 (.pointer (aD b3 0)) (.agg #[.int .i64 Ev, .int .i64 0, (.string (ByteArray.mk #[])), .slice none 0 0, .int .i64 0, .int .i64 0, .int .i64 0, .slice none 0 0, .bool false, .int .i64 0])) (Hp.set σ b3 (.cells #[.int .i64 0, .int .i64 0, (.string (ByteArray.mk #[])), .slice none 0 0, .int .i64 0, .int .i64 0, .int .i64 0, .slice none 0 0, .bool false, .int .i64 0] 36 (0, 0))) (fun _ y => Br (Ev = 1) (AJ prog (Instr.storeAt 9 (.pointer (aD b3 2)) (.string Pm)) y (fun _ AF => ∃ Xe ak al mC mD mE mF mG mH mI mJ mK mL mM, Av AF b3 0 [.int .i64 Xe, .int .i64 ak, .string al, .slice mC mD mE, .int .i64 mF, .int .i64 mG, .int .i64 mH, .slice mI mJ mK, .bool mL, .int .i64 mM] ∧ R (.returned (.agg #[.int .i64 Xe, .int .i64 ak, .string al, .slice mC mD mE, .int .i64 mF, .int .i64 mG, .int .i64 mH, .slice mI mJ mK, .bool mL, .int .i64 mM])) AF)) (Br (Ev = 2) (AJ prog (Instr.storeAt 2 (.pointer (aD b3 5)) (.int .i64 M5)) y (fun _ AF => ∃ fy Vh AEL AEM AEN AEO AEP AEQ AER AES AET AEU AEV AEW, Av AF b3 0 [.int .i64 fy, .int .i64 Vh, .string AEL, .slice AEM AEN AEO, .int .i64 AEP, .int .i64 AEQ, .int .i64 AER, .slice AES AET AEU, .bool AEV, .int .i64 AEW] ∧ R (.returned (.agg #[.int .i64 fy, .int .i64 Vh, .string AEL, .slice AEM AEN AEO, .int .i64 AEP, .int .i64 AEQ, .int .i64 AER, .slice AES AET AEU, .bool AEV, .int .i64 AEW])) AF)) (Br (Ev = 3) (AJ prog (Instr.storeAt 2 (.pointer (aD b3 4)) (.int .i64 Pk)) y (fun _ AF => AJ prog (Instr.storeAt 2 (.pointer (aD b3 5)) (.int .i64 M5)) AF (fun _ AH => ∃ XZ AEX AEY AEZ AEa AEb AEc AEd AEe AEf AEg AEh AEi AEj, Av AH b3 0 [.int .i64 XZ, .int .i64 AEX, .string AEY, .slice AEZ AEa AEb, .int .i64 AEc, .int .i64 AEd, .int .i64 AEe, .slice AEf AEg AEh, .bool AEi, .int .i64 AEj] ∧ R (.returned (.agg #[.int .i64 XZ, .int .i64 AEX, .string AEY, .slice AEZ AEa AEb, .int .i64 AEc, .int .i64 AEd, .int .i64 AEe, .slice AEf AEg AEh, .bool AEi, .int .i64 AEj])) AH))) (Br (Ev = 4) (AJ prog (Instr.storeAt 3 (.pointer (aD b3 1)) (.int .i64 ET)) y (fun _ AF => AJ prog (Instr.storeAt 3 (.pointer (aD b3 9)) (.int .i64 JH)) AF (fun _ AH => ∃ AEk AEl AEm AEn AEo AEp AEq AEr AEs AEt AEu AEv AEw AEx, Av AH b3 0 [.int .i64 AEk, .int .i64 AEl, .string AEm, .slice AEn AEo AEp, .int .i64 AEq, .int .i64 AEr, .int .i64 AEs, .slice AEt AEu AEv, .bool AEw, .int .i64 AEx] ∧ R (.returned (.agg #[.int .i64 AEk, .int .i64 AEl, .string AEm, .slice AEn AEo AEp, .int .i64 AEq, .int .i64 AEr, .int .i64 AEs, .slice AEt AEu AEv, .bool AEw, .int .i64 AEx])) AH))) (Br (Ev = 5) (AJ prog (Instr.storeAt 3 (.pointer (aD b3 1)) (.int .i64 ET)) y (fun _ AF => AJ prog (Instr.storeAt 3 (.pointer (aD b3 9)) (.int .i64 JH)) AF (fun _ AH => AJ prog (Instr.storeAt 3 (.pointer (aD b3 6)) (.int .i64 Hg)) AH (fun _ Aa => ∃ XT XU lB XV XW XX lC lD lE lF lG lH lI lJ, Av Aa b3 0 [.int .i64 XT, .int .i64 XU, .string lB, .slice XV XW XX, .int .i64 lC, .int .i64 lD, .int .i64 lE, .slice lF lG lH, .bool lI, .int .i64 lJ] ∧ R (.returned (.agg #[.int .i64 XT, .int .i64 XU, .string lB, .slice XV XW XX, .int .i64 lC, .int .i64 lD, .int .i64 lE, .slice lF lG lH, .bool lI, .int .i64 lJ])) Aa)))) (Br (Ev = 6) (AJ prog (Instr.storeAt 3 (.pointer (aD b3 1)) (.int .i64 ET)) y (fun _ AF => AJ prog (Instr.storeAt 3 (.pointer (aD b3 9)) (.int .i64 JH)) AF (fun _ AH => AJ prog (Instr.storeAt 4 (.pointer (aD b3 8)) (.bool MR)) AH (fun _ Aa => AJ prog (Instr.storeAt 3 (.pointer (aD b3 6)) (.int .i64 Hg)) Aa (fun _ D1 => ∃ Xq Xr Xs Xt Xu Xv Xw Xx Xy Xz X0 X7 X8 X9, Av D1 b3 0 [.int .i64 Xq, .int .i64 Xr, .string Xs, .slice Xt Xu Xv, .int .i64 Xw, .int .i64 Xx, .int .i64 Xy, .slice Xz X0 X7, .bool X8, .int .i64 X9] ∧ R (.returned (.agg #[.int .i64 Xq, .int .i64 Xr, .string Xs, .slice Xt Xu Xv, .int .i64 Xw, .int .i64 Xx, .int .i64 Xy, .slice Xz X0 X7, .bool X8, .int .i64 X9])) D1))))) (AJ prog (Instr.storeAt 3 (.pointer (aD b3 9)) (.int .i64 JH)) y (fun _ AF => ∃ AEy lA AEz AE0 AE1 AE2 AE3 AE4 AE5 AE6 AE7 AE8 AE9 AFA, Av AF b3 0 [.int .i64 AEy, .int .i64 lA, .string AEz, .slice AE0 AE1 AE2, .int .i64 AE3, .int .i64 AE4, .int .i64 AE5, .slice AE6 AE7 AE8, .bool AE9, .int .i64 AFA] ∧ R (.returned (.agg #[.int .i64 AEy, .int .i64 lA, .string AEz, .slice AE0 AE1 AE2, .int .i64 AE3, .int .i64 AE4, .int .i64 AE5, .slice AE6 AE7 AE8, .bool AE9, .int .i64 AFA])) AF))))))))) : Spec prog 121 #[.agg #[.int .i64 Ev, .int .i64 ET, .string Pm, .slice UF TV UG, .int .i64 Pk, .int .i64 M5, .int .i64 Hg, .slice Q7 QH Q8, .bool MR, .int .i64 JH]] σ R := M.start h ok
end SD
namespace DS
variable {p0 p7 : Option Addr} {n0 c0 n7 c7 : Nat} {s1 : ByteArray} {x8 x9 : Int}
def M : Fw := ⟨prog, 133, f133, [], [], false, [], [], [(104, [(1, wT), (7, wL), (8, wI), (9, wI)])]⟩
theorem ok : M.Ok := ⟨AG.nil, mixed, func133, by kernel_rfl⟩
def Hf := M.pt 0
theorem start (h : Hf R s1 p0 n0 c0 (n0 : Int) 0 σ) : Spec prog 133 #[.slice p0 n0 c0, .string s1] σ R := M.start h ok
theorem Be (h : Br (x9 < x8) (Pq p7 fun O6 Pg => In x9 (n7 : Int) ∧ LT σ O6 (Pg + Int.toNat x9 * 1) fun xQ => Bo (ByteArray.toList xQ == ByteArray.toList s1) (Bn ((ByteArray.toList s1 == ByteArray.toList (ByteArray.mk #[]))) (R (.returned (.int .i64 x9)) σ) (AM (x9 + 1) ∧ Hf R s1 (aD O6 Pg) n7 c7 x8 (x9 + 1) σ)) (AM (x9 + 1) ∧ Hf R s1 (aD O6 Pg) n7 c7 x8 (x9 + 1) σ)) (R (.returned (.int .i64 0)) σ)) : Hf R s1 p7 n7 c7 x8 x9 σ := M.of h ok rfl
end DS
namespace JR
variable {q0 : Option Addr}
def M : Fw := ⟨prog, 135, f135, [], [2, 3], false, [], [], []⟩
theorem ok : M.Ok := ⟨AG.nil, mixed, func135, by kernel_rfl⟩
theorem start (h : ∀ b2 : Nat, Pq q0 fun b5 o5 => LS σ b5 o5 fun p7 n7 c7 => Pq p7 fun b8 o8 => In 0 (n7 : Int) ∧ ∃ x9a x9b s9c x9d, Av σ b8 o8 [.int .i64 x9a, .int .i64 x9b, .string s9c, .int .i64 x9d] ∧ ∀ b3 : Nat, LS σ b5 o5 fun JI n14 HG => ((0 : Int) ≤ 1 ∧ 1 ≤ (n14 : Int)) ∧ AJ prog (Instr.storeAt 121 (.pointer (aD b5 o5)) (.slice (IP JI (1) HG 4) (n14 - 1) (HG - 1))) σ (fun _ y => R (.returned (.agg #[.int .i64 x9a, .int .i64 x9b, .string s9c, .int .i64 x9d])) y)) : Spec prog 135 #[.pointer q0] σ R := M.start h ok
end JR
namespace SE
variable {x0 : Int}
def M : Fw := ⟨prog, 143, f143, [], [], false, [], [], []⟩
theorem ok : M.Ok := ⟨AG.nil, mixed, func143, by kernel_rfl⟩
theorem start (h : AJ prog (convert 2 51 (.int .i64 x0)) σ (fun z y => ∃ x4, (Value.float .f64 x4) = z ∧ EN prog 45 #[(Value.float .f64 x4)] y (CI .u64 fun x5 AF => R (.returned (.int .u64 x5)) AF))) : Spec prog 143 #[.int .i64 x0] σ R := M.start h ok
end SE
namespace Km
def M : Fw := ⟨prog, 147, f147, [184, 188], [], false, [], [], []⟩
theorem ok : M.Ok := ⟨.cons call184 (.cons call188 (AG.nil)), mixed, func147, by kernel_rfl⟩
theorem start (h : Spec prog 184 #[(.func (.func 151) #[] #[])] σ (AA R (fun z y => ∃ f1 a1 c1, (Value.func f1 a1 c1) = z ∧ Spec prog 184 #[(.func (.func 154) #[] #[])] y (AA R (fun z AF => ∃ f2 a2 c2, (Value.func f2 a2 c2) = z ∧ Spec prog 184 #[(.func (.func 152) #[] #[])] AF (AA R (fun z AH => ∃ f3 a3 c3, (Value.func f3 a3 c3) = z ∧ Spec prog 184 #[(.func (.func 153) #[] #[])] AH (AA R (fun z Aa => ∃ f4 a4 c4, (Value.func f4 a4 c4) = z ∧ Spec prog 184 #[(.func (.func 155) #[] #[])] Aa (AA R (fun z D1 => ∃ f5 a5 c5, (Value.func f5 a5 c5) = z ∧ Spec prog 184 #[(.func (.func 185) #[] #[])] D1 (AA R (fun z BF => ∃ f6 a6 c6, (Value.func f6 a6 c6) = z ∧ Spec prog 184 #[(.func (.func 187) #[] #[])] BF (AA R (fun z Bs => ∃ f7 a7 c7, (Value.func f7 a7 c7) = z ∧ Spec prog 188 #[(.func (.func 189) #[] #[])] Bs (AA R (fun z Mo => ∃ f8 a8 c8, (Value.func f8 a8 c8) = z ∧ Spec prog 188 #[(.func (.func 191) #[] #[])] Mo (AA R (fun z VN => ∃ f9 a9 c9, (Value.func f9 a9 c9) = z ∧ Spec prog 188 #[(.func (.func 193) #[] #[])] VN (AA R (fun z Lg => ∃ f10 a10 TX, (Value.func f10 a10 TX) = z ∧ Al Lg fun BC => R (.returned (.slice (aD BC 0) 11 11)) (Hp.set Lg BC (.cells #[.nilFunc, (Value.func f10 a10 TX), (Value.func f9 a9 c9), (Value.func f8 a8 c8), (Value.func f1 a1 c1), (Value.func f2 a2 c2), (Value.func f3 a3 c3), (Value.func f4 a4 c4), (Value.func f5 a5 c5), (Value.func f6 a6 c6), (Value.func f7 a7 c7)] 195 (0, 0)))))))))))))))))))))))) : Spec prog 147 #[] σ R := M.start h ok
end Km
namespace Lw
variable {p0 p1 : Option Addr} {n0 c0 n1 c1 : Nat}
def M : Fw := ⟨prog, 150, f150, [197], [], false, [], [], []⟩
theorem ok : M.Ok := ⟨.cons call197 (AG.nil), mixed, func150, by kernel_rfl⟩
theorem start (h : Al σ fun b3 => Spec prog 197 #[.slice p0 n0 c0, (.func (.func 200) #[] #[(.pointer (aD b3 0))])] (Hp.set σ b3 (.cells #[.slice p1 n1 c1] 34 (0, 0))) (AA R (CS fun p7 n7 c7 y => R (.returned (.slice p7 n7 c7)) y))) : Spec prog 150 #[.slice p0 n0 c0, .slice p1 n1 c1] σ R := M.start h ok
end Lw
namespace PH
variable {x0 : Int}
def M : Fw := ⟨prog, 162, f162, [186], [], false, [], [], []⟩
theorem ok : M.Ok := ⟨.cons call186 (AG.nil), mixed, func162, by kernel_rfl⟩
theorem start (h : Df (Go.bits .xor .u64 x0 9223372036854775808) fun x4 => Spec prog 186 #[.int .u64 x4] σ (AA R (CI .u64 fun x5 y => R (.returned (.int .u64 x5)) y))) : Spec prog 162 #[.int .u64 x0] σ R := M.start h ok
end PH
namespace Ly
variable {Ev ET x1 : Int}
def M : Fw := ⟨prog, 176, f176, [], [2], false, [], [], []⟩
theorem ok : M.Ok := ⟨AG.nil, mixed, func176, by kernel_rfl⟩
theorem start (h : ∀ b2 : Nat, Br (Ev ≤ x1) (R (.returned (.int .i64 (-1))) σ) (R (.returned (.int .i64 1)) σ)) : Spec prog 176 #[.agg #[.int .i64 Ev, .int .u64 ET], .int .i64 x1] σ R := M.start h ok
end Ly
namespace SF
variable {v0 : Value}
def M : Fw := ⟨prog, 183, f183, [], [], false, [], [], []⟩
theorem ok : M.Ok := ⟨AG.nil, mixed, func183, by kernel_rfl⟩
theorem start (h : EN prog 222 #[v0] σ (fun z y => ∃ x4, (Value.float .f64 x4) = z ∧ R (.returned (Value.float .f64 x4)) y)) : Spec prog 183 #[v0] σ R := M.D0 h ok [(0, .o (.V v0))] rfl rfl (by kernel_rfl)
end SF
namespace DT
variable {p0 p1 : Option Addr} {n0 c0 n1 c1 : Nat}
def M : Fw := ⟨prog, 193, f193, [192, 194], [], false, [], [], []⟩
theorem ok : M.Ok := ⟨.cons call192 (.cons call194 (AG.nil)), mixed, func193, by kernel_rfl⟩
theorem start (h : Pq p1 fun b8 o8 => In 0 (n1 : Int) ∧ LI .u64 σ b8 (o8 + 1) fun x10 => Spec prog 192 #[.slice p0 n0 c0] σ (AA R (CI .u64 fun x6 y => Kp [b8] σ y ∧ Spec prog 194 #[.int .u64 x6, .int .u64 x10] y (AA R (CI .u64 fun x11 AF => R (.returned (.int .u64 x11)) AF))))) : Spec prog 193 #[.slice p0 n0 c0, .slice p1 n1 c1] σ R := M.start h ok
end DT
namespace eval_add
variable {x0 x1 : Int}
def M : Fw := ⟨prog, 201, f201, [203], [], false, [], [], []⟩
theorem ok : M.Ok := ⟨.cons call203 (AG.nil), mixed, func201, by kernel_rfl⟩
theorem start (h : Spec prog 203 #[.int .i64 1, .int .u64 x0, .int .u64 x1] σ (AA R (fun z y => ∃ Ib Q4, z = (.tuple #[.int .u64 Ib, .bool Q4]) ∧ R (.returned (.int .u64 Ib)) y))) : Spec prog 201 #[.int .u64 x0, .int .u64 x1] σ R := M.start h ok
end eval_add
namespace NM
variable {x0 x1 x2 : Int}
def M : Fw := ⟨prog, 204, f204, [182], [], false, [], [], []⟩
theorem ok : M.Ok := ⟨.cons call182 (AG.nil), mixed, func204, by kernel_rfl⟩
theorem start (h : Spec prog 182 #[.int .u64 x1] σ (AA R (fun z y => ∃ x11, (Value.float .f64 x11) = z ∧ Spec prog 182 #[.int .u64 x2] y (AA R (fun z AF => ∃ E2, (Value.float .f64 E2) = z ∧ Br (x0 = 5) (∃ t19, YF prog ((do eqGuard .eql 51 (.tmp 17) (.tmp 18) (Value.float .f64 x11) (Value.float .f64 E2); binOp .eql 51 (Value.float .f64 x11) (Value.float .f64 E2))) AF (.bool t19) ∧ R (.returned (.tuple #[.bool t19, .bool true])) AF) (Br (x0 = 6) (∃ t24, YF prog ((do eqGuard .neq 51 (.tmp 22) (.tmp 23) (Value.float .f64 x11) (Value.float .f64 E2); binOp .neq 51 (Value.float .f64 x11) (Value.float .f64 E2))) AF (.bool t24) ∧ R (.returned (.tuple #[.bool t24, .bool true])) AF) (Br (x0 = 7) (∃ t29, YF prog ((do eqGuard .lss 51 (.tmp 27) (.tmp 28) (Value.float .f64 x11) (Value.float .f64 E2); binOp .lss 51 (Value.float .f64 x11) (Value.float .f64 E2))) AF (.bool t29) ∧ R (.returned (.tuple #[.bool t29, .bool true])) AF) (Br (x0 = 8) (∃ t34, YF prog ((do eqGuard .leq 51 (.tmp 32) (.tmp 33) (Value.float .f64 x11) (Value.float .f64 E2); binOp .leq 51 (Value.float .f64 x11) (Value.float .f64 E2))) AF (.bool t34) ∧ R (.returned (.tuple #[.bool t34, .bool true])) AF) (Br (x0 = 9) (∃ t39, YF prog ((do eqGuard .gtr 51 (.tmp 37) (.tmp 38) (Value.float .f64 x11) (Value.float .f64 E2); binOp .gtr 51 (Value.float .f64 x11) (Value.float .f64 E2))) AF (.bool t39) ∧ R (.returned (.tuple #[.bool t39, .bool true])) AF) (Br (x0 = 10) (∃ t44, YF prog ((do eqGuard .geq 51 (.tmp 42) (.tmp 43) (Value.float .f64 x11) (Value.float .f64 E2); binOp .geq 51 (Value.float .f64 x11) (Value.float .f64 E2))) AF (.bool t44) ∧ R (.returned (.tuple #[.bool t44, .bool true])) AF) (R (.returned (.tuple #[.bool false, .bool false])) AF))))))))))) : Spec prog 204 #[.int .i64 x0, .int .u64 x1, .int .u64 x2] σ R := M.start h ok
end NM
namespace Gp
variable {Ev ET Pk M5 Hg JH qo x2b x2e x2f x2g x2j x11 x12 : Int} {Pm s2c : ByteArray} {UF Q7 p1 p2d p2h ZR : Option Addr} {TV UG QH Q8 n1 c1 n2d c2d n2h c2h n10 TX : Nat} {MR t2i : Bool} {m6 : Option Nat}
def M : Fw := ⟨prog, 206, f206, [49, 207], [2, 8], false, [(5, 7, false)], [], [(232, [(1, wL), (2, .X 36 [.I .i64, .I .i64, .T, .L, .I .i64, .I .i64, .I .i64, .L, .B, .I .i64]), (6, wM), (10, wL), (11, wI), (12, wI)])]⟩
theorem ok : M.Ok := ⟨.cons call49 (.cons call207 (AG.nil)), mixed, func206, by kernel_rfl⟩
def A3 := M.pt 0
theorem start (h : ∀ b2 : Nat, AJ prog (Instr.makeMap 243 none) σ (fun z y => ∃ m9, z = (.map (some m9)) ∧ A3 R p1 n1 c1 Ev ET Pm UF TV UG Pk M5 Hg Q7 QH Q8 MR JH (some m9) p1 n1 c1 (n1 : Int) 0 y)) : Spec prog 206 #[.agg #[.int .i64 Ev, .int .i64 ET, .string Pm, .slice UF TV UG, .int .i64 Pk, .int .i64 M5, .int .i64 Hg, .slice Q7 QH Q8, .bool MR, .int .i64 JH], .slice p1 n1 c1] σ R := M.start h ok
theorem AZ (h : Br (x12 < x11) (Pq ZR fun BL Mz => In x12 (n10 : Int) ∧ ∃ yp yq yr qt, Av σ BL (Mz + Int.toNat x12 * 2) [.slice yp yq yr, .int .u64 qt] ∧ ∀ b8 : Nat, Spec prog 207 #[.agg #[.int .i64 qo, .int .i64 x2b, .string s2c, .slice p2d n2d c2d, .int .i64 x2e, .int .i64 x2f, .int .i64 x2g, .slice p2h n2h c2h, .bool t2i, .int .i64 x2j], .slice yp yq yr] σ (AA R (CS fun p20 n20 c20 y => Spec prog 49 #[.slice p20 n20 c20] y (AA R (CT fun xR AF => AJ prog (Instr.mapUpdate 243 (.map m6) (.string xR) (.agg #[.slice yp yq yr, .int .u64 qt])) AF (fun _ AH => AM (x12 + 1) ∧ A3 R p1 n1 c1 qo x2b s2c p2d n2d c2d x2e x2f x2g p2h n2h c2h t2i x2j m6 (aD BL Mz) n10 TX x11 (x12 + 1) AH)))))) (∃ iu, YF prog (Builtin.len_ #[243] 3 #[.map m6]) σ (.int .i64 iu) ∧ R (.returned (.tuple #[.map m6, (.bool (decide (iu = (n1 : Int))))])) σ)) : A3 R p1 n1 c1 qo x2b s2c p2d n2d c2d x2e x2f x2g p2h n2h c2h t2i x2j m6 ZR n10 TX x11 x12 σ := M.iY h ok rfl fun _ => by kernel_rfl
end Gp
namespace Dz
variable {TW : Option Addr} {Lr RC : Nat} {ZS s1 : ByteArray}
def M : Fw := ⟨prog, 219, f219, [236], [2], false, [], [], []⟩
theorem ok : M.Ok := ⟨.cons call236 (AG.nil), mixed, func219, by kernel_rfl⟩
theorem start (h : ∀ b2 : Nat, Spec prog 236 #[.agg #[.slice TW Lr RC], .string s1] σ (AA R (CB fun t8 y => R (.returned (.bool t8)) y))) : Spec prog 219 #[.agg #[.slice TW Lr RC, .string ZS], .string s1] σ R := M.start h ok
end Dz
namespace C7
variable {q0 : Option Addr} {b1 : Nat}
def M : Fw := ⟨prog, 269, f269, [67, 136, 251], [], false, [], [], [(7, [(1, wA)])]⟩
theorem ok : M.Ok := ⟨.cons call67 (.cons call136 (.cons call251 (AG.nil))), mixed, func269, by kernel_rfl⟩
def Hf := M.pt 0
theorem start (h : Al σ fun b1 => LQ (Hp.set σ b1 (.cells #[.pointer q0] 124 (0, 0))) b1 0 fun q2 => Spec prog 136 #[.pointer q2, .int .i64 5, (.string (ByteArray.mk #[40]))] (Hp.set σ b1 (.cells #[.pointer q0] 124 (0, 0))) (AA R (CB fun t3 y => Bn t3 (LQ y b1 0 fun q5 => Spec prog 67 #[.pointer q5] y (AA R (fun z AF => z = (.tuple #[]) ∧ Hf R b1 AF))) (Hf R b1 y)))) : Spec prog 269 #[.pointer q0] σ R := M.start h ok
theorem Be (h : LQ σ b1 0 fun q7 => Spec prog 251 #[.pointer q7, (.func (.func 294) #[] #[(.pointer (aD b1 0))])] σ (AA R (fun z y => z = (.tuple #[]) ∧ R (.returned (.tuple #[])) y))) : Hf R b1 σ := M.of h ok rfl
end C7
end TwW
end
end
section
namespace Tw
open Go
variable [Es]
def Az (τ : Hp) : List (Nat × Obj) → Hp
 | [] => τ
 | (b, o) :: L => (Az τ L).set b o
abbrev names (L : List (Nat × Obj)) : List Nat := L.map Prod.fst
section
variable {τ : Hp} {L : List (Nat × Obj)} {b i : Nat} {o o' : Obj}
theorem H8 (h : b ∉ names L) : Az τ L b = τ b := by
 induction L with
 | nil => rfl
 | cons p L ih =>
   simp only [names, List.map_cons, List.mem_cons, not_or] at h
   simp only [Az, Hp.AI h.1]
   exact ih h.2
theorem Ej : ∀ {L : List (Nat × Obj)} {i : Nat}, (names L).Nodup → L[i]? = some (b, o) → Az τ L b = some o
 | p :: L, 0, _, h => by simp at h; subst h; exact Hp.AB _ _ _
 | p :: L, i + 1, hn, h => by
   simp only [List.getElem?_cons_succ] at h
   have hm : b ∈ names L := List.mem_map.2 ⟨_, List.mem_of_getElem? h, rfl⟩
   have hn := List.nodup_cons.1 (show (p.1 :: names L).Nodup from hn)
   have BE : b ≠ p.1 := fun e => hn.1 (e ▸ hm)
   simp only [Az, Hp.AI BE]
   exact Ej hn.2 h
theorem Hp.BV {σ : Hp} {a b : Nat} {o u : Obj} (h : a ≠ b) : (σ.set a o).set b u = (σ.set b u).set a o := by
 funext k
 simp only [Hp.set]
 by_cases h1 : k = a
 · subst h1; simp [h]
 · simp [h1]
theorem NN : ∀ {L : List (Nat × Obj)} {i : Nat}, (names L).Nodup → L[i]? = some (b, o) → (Az τ L).set b o' = Az τ (L.set i (b, o'))
 | p :: L, 0, _, h => by simp at h; subst h; exact Hp.set_set
 | p :: L, i + 1, hn, h => by
   simp only [List.getElem?_cons_succ] at h
   have hm : b ∈ names L := List.mem_map.2 ⟨_, List.mem_of_getElem? h, rfl⟩
   have hn := List.nodup_cons.1 (show (p.1 :: names L).Nodup from hn)
   have BE : b ≠ p.1 := fun e => hn.1 (e ▸ hm)
   simp only [Az, List.set_cons_succ]
   rw [Hp.BV (Ne.symm BE), NN hn.2 h]
theorem Gq : ∀ {L : List (Nat × Obj)}, b ∉ names L → (Az τ L).set b o = Az (τ.set b o) L
 | [], _ => rfl
 | p :: L, h => by
   simp only [names, List.map_cons, List.mem_cons, not_or] at h
   simp only [Az]
   rw [Hp.BV (Ne.symm h.1), Gq h.2]
theorem UU : ∀ {L : List (Nat × Obj)}, b ∈ names L → Az τ L b ≠ none
 | p :: L, h => by
   by_cases hb : b = p.1
   · subst hb; simp only [Az, Hp.AB]; simp
   · simp only [names, List.map_cons, List.mem_cons] at h
     simp only [Az, Hp.AI hb]
     exact UU (h.resolve_left hb)
theorem CE (h : Az τ L b = none) : b ∉ names L ∧ τ b = none := by
 have hs : ∀ {L : List (Nat × Obj)}, b ∉ names L → Az τ L b = τ b := H8
 have hn : b ∉ names L := fun hm => UU hm h
 exact ⟨hn, (hs hn).symm.trans h⟩
def PI (L : List (Nat × Obj)) (τ : Hp) : Prop := ∀ b ∈ names L, τ b = none
theorem PI.ext {τ : Hp} : ∀ {L : List (Nat × Obj)}, (names L).Nodup → PI L τ → Ext τ (Az τ L)
 | [], _, _ => .refl τ
 | p :: L, hn, h => by
   have hn := List.nodup_cons.1 (show (p.1 :: names L).Nodup from hn)
   have ih := PI.ext hn.2 (fun b hb => h b (List.mem_cons_of_mem _ hb))
   refine ih.trans (.set ?_)
   rw [H8 hn.1]
   exact h _ (List.mem_cons_self ..)
theorem PI.set {τ : Hp} {b : Nat} {o : Obj} (h : PI L τ) (hb : b ∉ names L) : PI L (τ.set b o) := fun c hc => by
 have BE : c ≠ b := fun e => hb (e ▸ hc)
 rw [Hp.AI BE]; exact h c hc
end
theorem Spec.Ek {P : Program} {f : FuncId} {args : Array Value} {τ : Hp} : ∀ {L : List (Nat × Obj)} {R : Rr}, (names L).Nodup → PI L τ →
   Spec P f args τ (fun e τ' => PI L τ' → R e (Az τ' L)) → Spec P f args (Az τ L) R
 | [], R, _, _, h => h.mono fun e τ' hr => hr (fun b hb => by cases hb)
 | p :: L, R, hn, ho, h => by
   have hn := List.nodup_cons.1 (show (p.1 :: names L).Nodup from hn)
   refine Spec.An (by rw [H8 hn.1]; exact ho _ (List.mem_cons_self ..)) ?_
   refine Spec.Ek hn.2 (fun b hb => ho b (List.mem_cons_of_mem _ hb)) (h.mono fun e τ' hr TZ F6 => hr fun b hb => ?_)
   rcases List.mem_cons.1 (show b ∈ p.1 :: names L from hb) with rfl | hb
   · rw [H8 hn.1] at F6; exact F6
   · exact TZ b hb
theorem AJ.Ek {P : Program} {α : Type} {m : Sem α} {τ : Hp} : ∀ {L : List (Nat × Obj)} {Φ : α → Hp → Prop}, (names L).Nodup → PI L τ →
   AJ P m τ (fun v τ' => PI L τ' → Φ v (Az τ' L)) → AJ P m (Az τ L) Φ
 | [], R, _, _, h => h.mono fun e τ' hr => hr (fun b hb => by cases hb)
 | p :: L, R, hn, ho, h => by
   have hn := List.nodup_cons.1 (show (p.1 :: names L).Nodup from hn)
   refine AJ.An (by rw [H8 hn.1]; exact ho _ (List.mem_cons_self ..)) ?_
   refine AJ.Ek hn.2 (fun b hb => ho b (List.mem_cons_of_mem _ hb)) (h.mono fun e τ' hr TZ F6 => hr fun b hb => ?_)
   rcases List.mem_cons.1 (show b ∈ p.1 :: names L from hb) with rfl | hb
   · rw [H8 hn.1] at F6; exact F6
   · exact TZ b hb
theorem AJ.SG {P : Program} {τ : Hp} {L : List (Nat × Obj)} {i b n o : Nat} {T t : TypeId} {c c' : Array Value} {v : Value} {Φ : Unit → Hp → Prop} (hz : ∀ w, (Go.sizeOf T).run P w = .ok n w) (hn : (names L).Nodup) (hi : L[i]? = some (b, .cells c t (0, 0)))
   (hv : v.cells.size = n) (hl : Nat.ble (o + n) c.size = true) (h1 : (v.cells.toList.all fun u => u.oneCell') = true) (hc : Mm c o v.cells.toList = c') (h : Φ () (Az τ (L.set i (b, .cells c' t (0, 0))))) :
   AJ P (Instr.storeAt T (.pointer (some ⟨b, o, none⟩)) v) (Az τ L) Φ := by
 subst hc
 refine AJ.store hz (Ej hn hi) hv (Nat.le_of_ble_eq_true hl) (fun u hu => List.all_eq_true.1 h1 u hu) ?_
 rw [NN hn hi]; exact h
theorem YD {τ : Hp} {L : List (Nat × Obj)} {i b o : Nat} {t : TypeId} {c : Array Value} {v : Value} (hn : (names L).Nodup) (hi : L[i]? = some (b, .cells c t (0, 0))) (h : c[o]? = some v) : Hp.ld (Az τ L) ⟨b, o, none⟩ = some v := by
 simp [Hp.ld, Ej hn hi, h]
end Tw
end
section
namespace Tw
open Go Go.MapKept
variable [Es]
def Qd (p : Option Addr) : List Nat := match p with
 | some a => [a.block]
 | none => []
structure Loc (A : Hp → Prop) (σ : Hp) (S : List Nat) : Prop where
 here : A σ
 known : ∀ b ∈ S, σ b ≠ none
 loc : ∀ σ', (∀ b ∈ S, σ' b = σ b) → A σ'
section
variable {P : Program} {σ : Hp} {α : Type}
theorem AJ.obj {m : Sem α} {b : Nat} {o o' : Obj} {v : α} {Φ : α → Hp → Prop} (hb : σ b = some o) (hm : ∀ w, Sat σ w → ∃ w1 : World, (w1 = w ∨ w1 = w.drew) ∧ m.run P w = .ok v (ChangeMaps.setBlock w1 b o')) (h : Φ v (σ.set b o')) : AJ P m σ Φ := fun w F hs hF => by
 obtain ⟨w1, hw, Cc⟩ := hm w hs
 have Ax : b < w.heap.size := (Array.getElem?_eq_some_iff.1 (hs b o hb)).1
 have Mr : w1.heap = w.heap := by rcases hw with rfl | rfl <;> rfl
 refine ⟨v, _, _, Cc, h, fun k u hk => ?_, fun k hk => ?_, ?_, ?_, ?_⟩
 · simp only [ChangeMaps.setBlock, Mr]
   by_cases HC : k = b
   · subst HC; rw [Hp.AB] at hk; cases hk; simp [Ax]
   · rw [Hp.AI HC] at hk; simp [Ne.symm HC, hs k u hk]
 · have HC : k ≠ b := fun e => by have := (hF k hk).2; rw [e, hb] at this; cases this
   refine ⟨by rw [Hp.AI HC]; exact (hF k hk).2, ?_⟩
   simp [ChangeMaps.setBlock, Mr, Ne.symm HC]
 · rcases hw with rfl | rfl
   · exact .same rfl rfl rfl
   · exact ⟨rfl, rfl, fun _ => ⟨1, rfl⟩⟩
 · rcases hw with rfl | rfl <;> rfl
 · simp [ChangeMaps.setBlock, Mr]
theorem AJ.new {m : Sem α} {o : Obj} {v : Nat → α} {Φ : α → Hp → Prop} (hm : ∀ w, Sat σ w → m.run P w = .ok (v w.heap.size) (w.alloc o)) (h : ∀ b, σ b = none → Φ (v b) (σ.set b o)) : AJ P m σ Φ := fun w F hs hF =>
 ⟨_, _, _, hm w hs, h _ (FQ hs), Fin.alloc hs hF _ rfl (.same rfl rfl rfl) rfl⟩
class mN (P : Program) (T : TypeId) (K V : outParam TypeId) : Prop where
 cb : P.underlying T = some (.map K V)
 key : P.underlying K = some .string
def BQ (σ : Hp) (b : Nat) (l : List MapEntry) (clock : Nat) : Prop := σ b = some (.map l.toArray clock) ∧ Stamped l.toArray clock ∧ ∀ x ∈ l, IsKey .string x.key
theorem BQ.mono {σ σ' : Hp} {b : Nat} {l : List MapEntry} {clock : Nat} (h : BQ σ b l clock) (hx : Ext σ σ') : BQ σ' b l clock := ⟨hx _ _ h.1, h.2⟩
theorem BQ.loc {σ σ' : Hp} {b : Nat} {l : List MapEntry} {clock : Nat} (h : BQ σ b l clock) (hx : σ' b = σ b) : BQ σ' b l clock := ⟨hx.trans h.1, h.2⟩
theorem BQ.nodup {σ : Hp} {b : Nat} {l : List MapEntry} {clock : Nat} (h : BQ σ b l clock) : (l.map (·.key)).Nodup := h.2.1.2.2
theorem FG {s : ByteArray} {l : List MapEntry} (hk : ∀ x ∈ l, IsKey .string x.key) :
   (Instr.findNow .string (.string s) l 0 = some none ∧ ∀ x ∈ l, x.key ≠ .string s) ∨ ∃ l1 e l2, l = l1 ++ e :: l2 ∧ e.key = .string s ∧ Instr.findNow .string (.string s) l 0 = some (some (l1.length, e.val)) := by
 rcases findNow_spec (d := .string) (k := .string s) trivial l 0 hk with h | ⟨j, e, h1, h2, h3⟩
 · exact .inl h
 · obtain ⟨hj, rfl⟩ := List.getElem?_eq_some_iff.1 h2
   refine .inr ⟨l.take j, l[j], l.drop (j + 1), ?_, h3, ?_⟩
   · rw [List.getElem_cons_drop, List.take_append_drop]
   · rw [h1]; simp [Nat.min_eq_left (Nat.le_of_lt hj)]
section
variable {T K V ty : TypeId} {b clock : Nat} {l : List MapEntry} {s : ByteArray}
theorem EE {Φ : Value → Hp → Prop} (h : ∀ b, σ b = none → Φ (.map (some b)) (σ.set b (.map #[] 0))) : AJ P (Instr.makeMap T none) σ Φ :=
 AJ.new (v := fun b => .map (some b)) (fun w _ => by simp [Instr.makeMap, Result.andThen]) h
theorem BQ.fresh {b : Nat} {σ : Hp} : BQ (σ.set b (.map #[] 0)) b [] 0 := ⟨Hp.AB _ _ _, stamped_empty 0, by simp⟩
theorem OU [t : mN P T K V] (hm : BQ σ b l clock) {z : Value} (hz : ∀ w, (zeroValue V).run P w = .ok z w) {Q : Value → Prop}
   (h0 : (∀ x ∈ l, x.key ≠ .string s) → Q z) (h1 : ∀ l1 e l2, l = l1 ++ e :: l2 → e.key = .string s → Q e.val) : ∃ v, Q v ∧ YF P (Instr.lookup T (.map (some b)) (.string s) false) σ v := by
 rcases FG (s := s) hm.2.2 with ⟨hf, hn⟩ | ⟨l1, e, l2, hl, he, hf⟩
 · refine ⟨z, h0 hn, fun w hs => ?_⟩
   have := hs _ _ hm.1
   simp [Instr.lookup, run_underlying t.cb, run_getObj_map this, run_checkKey t.key (k := .string s) trivial, run_findKey t.key hf, hz, Result.andThen]
 · refine ⟨e.val, h1 l1 e l2 hl he, fun w hs => ?_⟩
   have := hs _ _ hm.1
   simp [Instr.lookup, run_underlying t.cb, run_getObj_map this, run_checkKey t.key (k := .string s) trivial, run_findKey t.key hf, Result.andThen]
theorem MY [t : mN P T K V] (hm : BQ σ b l clock) {z : Value} (hz : ∀ w, (zeroValue V).run P w = .ok z w) {Φ : Value → Hp → Prop}
   (h0 : (∀ x ∈ l, x.key ≠ .string s) → Φ z σ) (h1 : ∀ l1 e l2, l = l1 ++ e :: l2 → e.key = .string s → Φ e.val σ) : AJ P (Instr.lookup T (.map (some b)) (.string s) false) σ Φ := by
 obtain ⟨v, hq, hy⟩ := OU (T := T) (K := K) (s := s) (Q := fun v => Φ v σ) hm hz h0 h1
 exact AJ.pu hy hq
theorem mO [t : mN P T K V] (hm : BQ σ b l clock) : YF P (Builtin.len_ #[T] ty #[.map (some b)]) σ (.int .i64 l.length) := fun w hs => by
 have := hs _ _ hm.1
 simp [Builtin.len_, run_underlying t.cb, run_getObj_map this, goInt, Result.andThen]
abbrev My (s : ByteArray) (v : Value) (n : Nat) : MapEntry := { key := .string s, val := v, born := n }
theorem Ha [t : mN P T K V] (hm : BQ σ b l clock) {v : Value} {Φ : Unit → Hp → Prop}
   (h0 : (∀ x ∈ l, x.key ≠ .string s) → ∀ σ', σ' = σ.set b (.map (l ++ [My s v clock]).toArray (clock + 1)) → BQ σ' b (l ++ [My s v clock]) (clock + 1) → Φ () σ')
   (h1 : ∀ l1 e l2, l = l1 ++ e :: l2 → e.key = .string s → ∀ σ', σ' = σ.set b (.map (l1 ++ My s v e.born :: l2).toArray clock) → BQ σ' b (l1 ++ My s v e.born :: l2) clock → Φ () σ') :
   AJ P (Instr.mapUpdate T (.map (some b)) (.string s) v) σ Φ := by
 obtain ⟨hb, CX, hk⟩ := hm
 rcases FG (s := s) hk with ⟨hf, hn⟩ | ⟨l1, e, l2, hl, he, hf⟩
 · have YE : (l ++ [My s v clock]).toArray = l.toArray.push (My s v clock) := by simp
   refine AJ.obj (v := ()) (o' := .map (l ++ [My s v clock]).toArray (clock + 1)) hb (fun w hs => ⟨w, .inl rfl, ?_⟩) (h0 hn _ rfl ⟨Hp.AB _ _ _, ?_, ?_⟩)
   · have := hs _ _ hb
     rw [YE]
     simp only [Instr.mapUpdate, Sem.run_bind, run_underlying t.cb, run_getObj_map this, run_checkKey t.key (k := .string s) trivial, run_findKey t.key hf, Result.andThen_ok]
     simp [setObj, Sem.run, this, ChangeMaps.setBlock]
   · rw [YE]; exact stamped_push CX (by simpa using hn)
   · intro x hx
     rcases List.mem_append.1 hx with hx | hx
     · exact hk x hx
     · rw [List.mem_singleton] at hx; subst hx; trivial
 · subst hl
   have mP : (l1 ++ My s v e.born :: l2).toArray = (l1 ++ e :: l2).toArray.modify l1.length (fun e => { e with key := .string s, val := v }) := by
     rw [← Array.toList_inj]
     apply List.ext_getElem?
     intro j
     simp only [Array.getElem?_toList, Array.getElem?_modify, List.getElem?_toArray]
     by_cases hj : l1.length = j
     · subst hj; simp
     · rw [if_neg hj]
       rcases Nat.lt_or_ge j l1.length with h | h
       · rw [List.getElem?_append_left h, List.getElem?_append_left h]
       · have : ∃ k, j = l1.length + (k + 1) := ⟨j - l1.length - 1, by omega⟩
         obtain ⟨k, rfl⟩ := this
         simp [List.getElem?_append_right]
   have fz : (l1 ++ e :: l2).toArray[l1.length]? = some e := by simp
   refine AJ.obj (v := ()) (o' := .map (l1 ++ My s v e.born :: l2).toArray clock) hb (fun w hs => ⟨w, .inl rfl, ?_⟩) (h1 l1 e l2 rfl he _ rfl ⟨Hp.AB _ _ _, ?_, ?_⟩)
   · have := hs _ _ hb
     rw [mP]
     simp only [Instr.mapUpdate, Sem.run_bind, run_underlying t.cb, run_getObj_map this, run_checkKey t.key (k := .string s) trivial, run_findKey t.key hf, Result.andThen_ok, fz, Option.map_some, Option.getD_some, he,
       run_keyThatStays (d := .string) (k := .string s) trivial]
     simp [setObj, Sem.run, this, ChangeMaps.setBlock]
   · rw [mP]; exact stamped_modify CX _ _ (fun _ _ => rfl) (fun e' _ UW => by rw [fz] at UW; cases UW; exact he.symm)
   · intro x hx
     rcases List.mem_append.1 hx with hx | hx
     · exact hk x (List.mem_append_left _ hx)
     · rcases List.mem_cons.1 hx with rfl | hx
       · trivial
       · exact hk x (List.mem_append_right _ (List.mem_cons_of_mem _ hx))
end
end
end Tw
end
section
theorem Tw.Hp.AV {σ : Tw.Hp} {b k : Nat} {o : Go.Obj} (h : (σ.set b o) k = none) : k ≠ b ∧ σ k = none := by
 have BE : k ≠ b := fun e => by rw [e, Tw.Hp.AB] at h; cases h
 exact ⟨BE, by rw [Tw.Hp.AI BE] at h; exact h⟩
namespace mQ
open Go Go.MapKept Tw
variable [Es]
section
variable {P : Program} {σ : Hp}
class pC (P : Program) (T : TypeId) (K V : outParam TypeId) : Prop where
 cb : P.underlying T = some (.map K V)
 key : P.underlying K = some (.int .i64)
def BQ (σ : Hp) (b : Nat) (l : List MapEntry) (clock : Nat) : Prop := σ b = some (.map l.toArray clock) ∧ Stamped l.toArray clock ∧ ∀ x ∈ l, IsKey (.int .i64) x.key
theorem BQ.loc {σ σ' : Hp} {b : Nat} {l : List MapEntry} {clock : Nat} (h : BQ σ b l clock) (hx : σ' b = σ b) : BQ σ' b l clock := ⟨hx.trans h.1, h.2⟩
theorem FG {s : Int} {l : List MapEntry} (hk : ∀ x ∈ l, IsKey (.int .i64) x.key) :
   (Instr.findNow (.int .i64) (.int .i64 s) l 0 = some none ∧ ∀ x ∈ l, x.key ≠ .int .i64 s) ∨ ∃ l1 e l2, l = l1 ++ e :: l2 ∧ e.key = .int .i64 s ∧ Instr.findNow (.int .i64) (.int .i64 s) l 0 = some (some (l1.length, e.val)) := by
 rcases findNow_spec (d := .int .i64) (k := .int .i64 s) rfl l 0 hk with h | ⟨j, e, h1, h2, h3⟩
 · exact .inl h
 · obtain ⟨hj, rfl⟩ := List.getElem?_eq_some_iff.1 h2
   refine .inr ⟨l.take j, l[j], l.drop (j + 1), ?_, h3, ?_⟩
   · rw [List.getElem_cons_drop, List.take_append_drop]
   · rw [h1]; simp [Nat.min_eq_left (Nat.le_of_lt hj)]
section
variable {T K V ty : TypeId} {b clock : Nat} {l : List MapEntry} {s : Int}
theorem BQ.fresh {b : Nat} {σ : Hp} : BQ (σ.set b (.map #[] 0)) b [] 0 := ⟨Hp.AB _ _ _, stamped_empty 0, by simp⟩
theorem OU [t : pC P T K V] (hm : BQ σ b l clock) {z : Value} (hz : ∀ w, (zeroValue V).run P w = .ok z w) {Q : Value → Prop}
   (h0 : (∀ x ∈ l, x.key ≠ .int .i64 s) → Q z) (h1 : ∀ l1 e l2, l = l1 ++ e :: l2 → e.key = .int .i64 s → Q e.val) : ∃ v, Q v ∧ YF P (Instr.lookup T (.map (some b)) (.int .i64 s) false) σ v := by
 rcases FG (s := s) hm.2.2 with ⟨hf, hn⟩ | ⟨l1, e, l2, hl, he, hf⟩
 · refine ⟨z, h0 hn, fun w hs => ?_⟩
   have := hs _ _ hm.1
   simp [Instr.lookup, run_underlying t.cb, run_getObj_map this, run_checkKey t.key (k := .int .i64 s) rfl, run_findKey t.key hf, hz, Result.andThen]
 · refine ⟨e.val, h1 l1 e l2 hl he, fun w hs => ?_⟩
   have := hs _ _ hm.1
   simp [Instr.lookup, run_underlying t.cb, run_getObj_map this, run_checkKey t.key (k := .int .i64 s) rfl, run_findKey t.key hf, Result.andThen]
theorem MY [t : pC P T K V] (hm : BQ σ b l clock) {z : Value} (hz : ∀ w, (zeroValue V).run P w = .ok z w) {Φ : Value → Hp → Prop}
   (h0 : (∀ x ∈ l, x.key ≠ .int .i64 s) → Φ z σ) (h1 : ∀ l1 e l2, l = l1 ++ e :: l2 → e.key = .int .i64 s → Φ e.val σ) : AJ P (Instr.lookup T (.map (some b)) (.int .i64 s) false) σ Φ := by
 obtain ⟨v, hq, hy⟩ := OU (T := T) (K := K) (s := s) (Q := fun v => Φ v σ) hm hz h0 h1
 exact AJ.pu hy hq
theorem mO [t : pC P T K V] (hm : BQ σ b l clock) : YF P (Builtin.len_ #[T] ty #[.map (some b)]) σ (.int .i64 l.length) := fun w hs => by
 have := hs _ _ hm.1
 simp [Builtin.len_, run_underlying t.cb, run_getObj_map this, goInt, Result.andThen]
abbrev My (s : Int) (v : Value) (n : Nat) : MapEntry := { key := .int .i64 s, val := v, born := n }
theorem Ha [t : pC P T K V] (hm : BQ σ b l clock) {v : Value} {Φ : Unit → Hp → Prop}
   (h0 : (∀ x ∈ l, x.key ≠ .int .i64 s) → ∀ σ', σ' = σ.set b (.map (l ++ [My s v clock]).toArray (clock + 1)) → BQ σ' b (l ++ [My s v clock]) (clock + 1) → Φ () σ')
   (h1 : ∀ l1 e l2, l = l1 ++ e :: l2 → e.key = .int .i64 s → ∀ σ', σ' = σ.set b (.map (l1 ++ My s v e.born :: l2).toArray clock) → BQ σ' b (l1 ++ My s v e.born :: l2) clock → Φ () σ') :
   AJ P (Instr.mapUpdate T (.map (some b)) (.int .i64 s) v) σ Φ := by
 obtain ⟨hb, CX, hk⟩ := hm
 rcases FG (s := s) hk with ⟨hf, hn⟩ | ⟨l1, e, l2, hl, he, hf⟩
 · have YE : (l ++ [My s v clock]).toArray = l.toArray.push (My s v clock) := by simp
   refine AJ.obj (v := ()) (o' := .map (l ++ [My s v clock]).toArray (clock + 1)) hb (fun w hs => ⟨w, .inl rfl, ?_⟩) (h0 hn _ rfl ⟨Hp.AB _ _ _, ?_, ?_⟩)
   · have := hs _ _ hb
     rw [YE]
     simp only [Instr.mapUpdate, Sem.run_bind, run_underlying t.cb, run_getObj_map this, run_checkKey t.key (k := .int .i64 s) rfl, run_findKey t.key hf, Result.andThen_ok]
     simp [setObj, Sem.run, this, ChangeMaps.setBlock]
   · rw [YE]; exact stamped_push CX (by simpa using hn)
   · intro x hx
     rcases List.mem_append.1 hx with hx | hx
     · exact hk x hx
     · rw [List.mem_singleton] at hx; subst hx; rfl
 · subst hl
   have mP : (l1 ++ My s v e.born :: l2).toArray = (l1 ++ e :: l2).toArray.modify l1.length (fun e => { e with key := .int .i64 s, val := v }) := by
     rw [← Array.toList_inj]
     apply List.ext_getElem?
     intro j
     simp only [Array.getElem?_toList, Array.getElem?_modify, List.getElem?_toArray]
     by_cases hj : l1.length = j
     · subst hj; simp
     · rw [if_neg hj]
       rcases Nat.lt_or_ge j l1.length with h | h
       · rw [List.getElem?_append_left h, List.getElem?_append_left h]
       · have : ∃ k, j = l1.length + (k + 1) := ⟨j - l1.length - 1, by omega⟩
         obtain ⟨k, rfl⟩ := this
         simp [List.getElem?_append_right]
   have fz : (l1 ++ e :: l2).toArray[l1.length]? = some e := by simp
   refine AJ.obj (v := ()) (o' := .map (l1 ++ My s v e.born :: l2).toArray clock) hb (fun w hs => ⟨w, .inl rfl, ?_⟩) (h1 l1 e l2 rfl he _ rfl ⟨Hp.AB _ _ _, ?_, ?_⟩)
   · have := hs _ _ hb
     rw [mP]
     simp only [Instr.mapUpdate, Sem.run_bind, run_underlying t.cb, run_getObj_map this, run_checkKey t.key (k := .int .i64 s) rfl, run_findKey t.key hf, Result.andThen_ok, fz, Option.map_some, Option.getD_some, he,
       run_keyThatStays (d := .int .i64) (k := .int .i64 s) rfl]
     simp [setObj, Sem.run, this, ChangeMaps.setBlock]
   · rw [mP]; exact stamped_modify CX _ _ (fun _ _ => rfl) (fun e' _ UW => by rw [fz] at UW; cases UW; exact he.symm)
   · intro x hx
     rcases List.mem_append.1 hx with hx | hx
     · exact hk x (List.mem_append_left _ hx)
     · rcases List.mem_cons.1 hx with rfl | hx
       · rfl
       · exact hk x (List.mem_append_right _ (List.mem_cons_of_mem _ hx))
end
end
end mQ
end
section
namespace Tw
open Go
variable [Es]
def SH (s : ByteArray) : List Value := s.data.toList.map fun b => .int .u8 b.toNat
theorem mR {s : ByteArray} : (SH s).length = s.size := by simp [SH]
theorem mS {s : ByteArray} : GB (SH s) := fun u hu => by obtain ⟨x, _, rfl⟩ := List.mem_map.1 hu; rfl
section append
variable {P : Program} {T E ty : TypeId} {bs : Nat} {σ : Hp} {p : Option Addr} {n c m : Nat} {cs ys : List Value} {Φ : Value → Hp → Prop}
theorem SI {str : ByteArray} (w : World) (size : Nat) : (Builtin.firstCells size str.size (.string str)).run P w = .ok (SH str).toArray w := by
 have hx : (Array.map (fun b : UInt8 => Value.int IntKind.u8 (b.toNat : Int)) str.data).extract 0 str.size = (SH str).toArray := by
   have hs : str.size = (Array.map (fun b : UInt8 => Value.int IntKind.u8 (b.toNat : Int)) str.data).size := by rw [Array.size_map]; rfl
   rw [hs, Array.extract_size]
   apply Array.ext'
   simp [SH]
 have A9 : Array.map (fun b : UInt8 => Value.int IntKind.u8 (b.toNat : Int)) str.data = (SH str).toArray := by apply Array.ext'; simp [SH]
 simp [Builtin.firstCells, A9]
theorem rI [h : Jf P T E 1 bs] {U : TypeId} {str : ByteArray} (hU : P.underlying U = some .string) (BY : BB 1 σ p n c cs) (hm : str.size = m) (tB : SH str = ys) (hb : (n + m) * bs ≤ 140737488355328)
   (hΦ : ∀ p' c' σ', BB 1 σ' p' (n + m) c' (cs ++ ys) → Ext (σ.del p) (σ'.del p') → ((p' = p ∧ c' = c ∧ n + m ≤ c) ∨ (c < n + m ∧ Ext σ σ' ∧ ∀ a, p' = some a → σ a.block = none)) → Φ (.slice p' (n + m) c') σ') :
   AJ P (Builtin.append_ #[T, U] ty #[.slice p n c, .string str]) σ Φ := by
 obtain ⟨ht, ⟨i, z, hi, hz, JW, rfl, hzs⟩, QZ, jL⟩ := h
 have h1 : GB ys := tB ▸ mS
 have hyl : ys.length = m * 1 := by rw [← tB, ← hm, Nat.mul_one]; exact mR
 have h62 : n + m ≤ 140737488355328 := Nat.le_trans (Nat.le_mul_of_pos_right _ jL) hb
 intro w F hs hF
 have hf := SI (P := P) (str := str) w 1
 rw [tB, hm] at hf
 have pM := fun w' : World => SI (P := P) (str := str) w' 1
 rw [tB, hm] at pM
 have Mu := fun w' (hw : Sat σ w') => LC (P := P) (d := c) w' hw BY.rd
 have hlen : (cs ++ ys).length = (n + m) * 1 := by rw [List.length_append, BY.1, hyl, Nat.add_mul]
 by_cases HB : n + m ≤ c
 · -- there is room
   rcases BY.2.2 with ⟨hp, hn, hc⟩ | ⟨b, o, arr, T', rfl, hblk, iV, Hc, Mn⟩
   · subst hp hn hc
     have hm : m = 0 := by omega
     subst hm
     have tB : ys = [] := List.eq_nil_of_length_eq_zero (by simpa using hyl)
     have Mn : cs = [] := List.eq_nil_of_length_eq_zero (by simpa using BY.1)
     subst tB Mn
     refine ⟨.slice none 0 0, w, σ, ?_, hΦ none 0 σ BB.nil (Ext.refl _) (.inl ⟨rfl, rfl, HB⟩), hs, fun b hb => ⟨(hF b hb).2, rfl⟩, .same rfl rfl rfl, rfl, Nat.le_refl _⟩
     simp [Builtin.append_, run_underlying ht, run_underlying hU, JW, hm, Go.sizeOf, typeInfo, hi, Builtin.lenOf, hf]
   · have hw := hs _ _ hblk
     have vg : o + n * 1 + 0 + ys.length ≤ arr.size := by
       rw [hyl]
       have : (n + m) * 1 ≤ c * 1 := Nat.mul_le_mul_right _ HB
       rw [Nat.add_mul] at this
       omega
     have CX := EO (P := P) b (o + n * 1) T' ys 0 arr w hw vg h1
     simp only [Nat.add_zero, Nat.mul_one] at CX
     refine ⟨.slice (some ⟨b, o, none⟩) (n + m) c, w.setRow b (Mm arr (o + n) ys), σ.set b (.cells (Mm arr (o + n) ys) T' (0, 0)), ?_, hΦ _ _ _ ⟨hlen, by omega, .inr ⟨b, o, _, T', rfl, Hp.AB _ _ _, HB, by rw [Hq]; exact Hc, ?_⟩⟩ (by rw [Hp.IW]; exact Ext.refl _) (.inl ⟨rfl, rfl, HB⟩), ?_⟩
     · simp [Builtin.append_, run_underlying ht, run_underlying hU, JW, hm, Go.sizeOf, typeInfo, hi, Builtin.lenOf, HB, hf, Bi, CX]
     · refine List.ext_getElem? fun j => ?_
       rw [List.getElem?_take]
       simp only [List.getElem?_drop, Array.getElem?_toList]
       rw [P8 _ _ _ _ (by omega), List.getElem?_append]
       have e1 : cs.length = n * 1 := BY.1
       have e2 : ys.length = m * 1 := hyl
       have e3 : (n + m) * 1 = n * 1 + m * 1 := Nat.add_mul ..
       by_cases vh : j < cs.length
       · rw [if_pos (by omega), if_neg (by omega), if_pos vh, ← Mn, List.getElem?_take, if_pos (by omega)]
         simp
       · rw [if_neg vh]
         by_cases hj2 : j < (n + m) * 1
         · rw [if_pos hj2, if_pos (by omega), show o + j - (o + n) = j - cs.length by omega]
         · rw [if_neg hj2, List.getElem?_eq_none (by omega)]
     · refine ⟨fun k u hk => ?_, fun k hk => ?_, .same rfl rfl rfl, rfl, by simp⟩
       · by_cases HC : k = b
         · subst HC; rw [Hp.AB] at hk; cases hk; exact setRow_heap w k arr _ T' (0, 0) hw
         · rw [Hp.AI HC] at hk; rw [setRow_other _ _ _ _ HC]; exact hs k u hk
       · have HC : k ≠ b := fun h => by have := (hF k hk).2; rw [h, hblk] at this; cases this
         exact ⟨by rw [Hp.AI HC]; exact (hF k hk).2, setRow_other _ _ _ _ HC⟩
 · -- it ABL
   have ABM : Builtin.nextslicecap (n + m) c * i.bytes ≤ 281474976710656 := growslice_fits (by omega) hb
   have hgc := grownCap_ge w (n + m) c E
   have TP : Sat σ w.drew := hs
   have Cc : (Builtin.append_ #[T, U] ty #[.slice p n c, .string str]).run P w =
       .ok (.slice (some ⟨w.heap.size, 0, none⟩) (n + m) (grownCap w (n + m) c E))
         (w.drew.alloc (.cells (cs.toArray ++ ys.toArray ++ Builtin.zeroCells z.cells (grownCap w (n + m) c E - (n + m))) E)) := by
     have vi : ¬ (9223372036854775807 < ((n : Int) + (m : Int))) := by omega
     have vj : ¬ (281474976710656 < Builtin.nextslicecap (n + m) c * i.bytes) := by omega
     simp [Builtin.append_, run_underlying ht, run_underlying hU, JW, hm, Go.sizeOf, typeInfo, zeroValue, hi, hz, Builtin.lenOf, HB, vi, vj, Question.forced, pM, Mu _ TP, newRow, grownCap]
     congr 2
     apply Array.ext'
     simp [List.append_assoc]
   refine ⟨_, _, σ.set w.heap.size _, Cc, hΦ _ _ _ ⟨hlen, by omega, .inr ⟨w.heap.size, 0, _, E, rfl, Hp.AB _ _ _, hgc, ?_, ?_⟩⟩ ?_ (.inr ⟨by omega, Ext.set (FQ hs), fun a ha => by cases ha; exact FQ hs⟩), Fin.alloc hs hF _ rfl ⟨rfl, rfl, fun _ => ⟨1, rfl⟩⟩ rfl⟩
   · simp only [Array.size_append, List.size_toArray, size_zeroCells, hzs, BY.1, hyl, ← Nat.add_mul]
     have : n + m + (grownCap w (n + m) c E - (n + m)) = grownCap w (n + m) c E := by omega
     rw [this]; omega
   · simp only [Array.toList_append, List.drop_zero]
     rw [← hlen]
     exact List.take_left
   · rw [Hp.Ms (FQ hs)]
     exact Ext.IV σ p
end append
end Tw
end
section
namespace Tw
open Go
variable [Es]
def Hp.or (N M : Hp) : Hp := fun k => match N k with | some o => some o | none => M k
def Dis (N M : Hp) : Prop := ∀ k, M k ≠ none → N k = none
theorem Hp.rJ {N M : Hp} {k : Nat} {o : Obj} (h : N k = some o) : N.or M k = some o := by simp [Hp.or, h]
theorem Hp.ay {N M : Hp} {k : Nat} (h : N k = none) : N.or M k = M k := by simp [Hp.or, h]
theorem Ext.rJ (N M : Hp) : Ext N (N.or M) := fun _ _ h => Hp.rJ h
theorem Ext.ay {N M : Hp} (hd : Dis N M) : Ext M (N.or M) := fun k o h => by rw [Hp.ay (hd k (by rw [h]; simp))]; exact h
theorem Ext.mT {N M σ : Hp} (h1 : Ext N σ) (h2 : Ext M σ) : Ext (N.or M) σ := fun k o h => by
 unfold Hp.or at h
 split at h
 · rename_i u hu; cases h; exact h1 _ _ hu
 · exact h2 _ _ h
end Tw
end
section
namespace TwW
open Go Tw Go.Proofs.Tryz
theorem Ad {σ : Hp} {b o : Nat} {c : Array Value} {t : TypeId} {fr : Nat × Nat} {v : Value} (h : σ b = some (.cells c t fr)) (hv : c[o]? = some v) : σ.ld ⟨b, o, none⟩ = some v := by simp [Hp.ld, h, hv]
section
variable {σ : Hp} {d : Nat} {S : List Nat} {R : Rr}
end
end TwW
namespace TwW
open Go Tw Go.Proofs.Tryz
section
variable {σ : Hp} {d : Nat} {S : List Nat} {R : Rr}
theorem BB.cap {s : Nat} {σ : Hp} {p : Option Addr} {n c : Nat} {cs : List Value} (h : BB s σ p n c cs) : n ≤ c := by
 rcases h.2.2 with ⟨_, h1, h2⟩ | ⟨b, o, arr, T, _, _, h3, _⟩
 · omega
 · exact h3
end
end TwW
namespace TwW
open Go Tw Go.Proofs.Tryz
def uv (x : Nat) : List Int := if h : 128 ≤ x then ((x % 128 + 128 : Nat) : Int) :: uv (x / 128) else [(x : Int)]
termination_by x
decreasing_by omega
theorem MZ {x : Nat} (h : 128 ≤ x) : uv x = ((x % 128 + 128 : Nat) : Int) :: uv (x / 128) := by rw [uv, dif_pos h]
theorem Em {x : Nat} (h : ¬ 128 ≤ x) : uv x = [(x : Int)] := by rw [uv, dif_neg h]
theorem mU : ∀ (k x : Nat), x < 128 ^ (k + 1) → (uv x).length ≤ k + 1
 | 0, x, h => by rw [Em (by simpa using h)]; simp
 | k + 1, x, h => by
   by_cases hx : 128 ≤ x
   · rw [MZ hx]
     have := mU k (x / 128) (by rw [Nat.div_lt_iff_lt_mul (by decide)]; rw [Nat.pow_succ] at h; exact h)
     simp; omega
   · rw [Em hx]; simp
theorem Kn {x : Nat} (h : x < 18446744073709551616) : (uv x).length ≤ 10 := mU 9 x (by omega)
set_option maxRecDepth 100000 in
theorem AFC : ∀ y : Fin 256, Go.bits .or .u8 (y.1 : Int) 128 = ((y.1 % 128 + 128 : Nat) : Int) := by decide
theorem NO {R : Rr} {σ : Hp} {p : Option Addr} {n c x : Nat} {xs : List Int} (hr : E1 .u8 σ p n xs) (hn : n ≤ 70368744177664) (hx : x < 18446744073709551616)
   (h : ∀ p' n' c' σ', Dh .u8 (σ.new σ') p' n' c' (xs ++ uv x) → Ext σ σ' → R (.returned (.slice p' n' c')) σ') : Spec prog 107 #[.slice p n c, .int .u64 x] σ R := by
 refine Dq.start fun b hb => ?_
 refine Dx BB.empty ((Eu.of_map hr).mono (.set hb)) GB.P9 (by omega) fun p' c' σ' BY Iy => ?_
 have hq : ∀ a : Addr, (some (⟨b, 0, none⟩ : Addr)) = some a → σ a.block = none := fun a ha => by cases ha; exact hb
 have ho := BB.Qa BY (GL hq Iy (.set hb))
 have he := LD hq Iy (.set hb)
 refine ⟨p', 0 + n, c', rfl, ?_⟩
 rw [Nat.zero_add] at ho ⊢
 have hlen := hr.1
 suffices H : ∀ (k x n' : Nat) p' c' σ' ys, x < 128 ^ (k + 1) → n' + k ≤ n + 9 → Dh .u8 (σ.new σ') p' n' c' ys → Ext σ σ' → (∀ p' n' c' σ', Dh .u8 (σ.new σ') p' n' c' (ys ++ uv x) → Ext σ σ' → R (.returned (.slice p' n' c')) σ') → Dq.GN R x p' n' c' σ' from
   H 9 x n p' c' σ' xs (by omega) (by omega) ho he h
 intro k
 induction k with
 | zero =>
   intro x n' p' c' σ' ys hx Tj ho he h
   refine Dq.A5 ⟨fun Ax => by omega, fun _ ae yt b2 Pb => ?_⟩
   have az : ae = (x : Int) := by rw [yt]; simp [IntKind.wrap, IntKind.bits, IntKind.signed]; omega
   subst az
   refine Dh.Jg he ho (by omega) (fun p2 c2 σ2 Bc pD _ => ⟨p2, n' + 1, c2, rfl, h _ _ _ _ ?_ pD⟩) Pb
   rw [Em (by omega)]; exact Bc
 | succ k ih =>
   intro x n' p' c' σ' ys hx Tj ho he h
   refine Dq.A5 ⟨fun Ax x15 AKn x16 AKo b2 Pb => ?_, fun fz ae yt b2 Pb => ?_⟩
   · have h15 : x15 = ((x % 256 : Nat) : Int) := by rw [AKn]; simp [IntKind.wrap, IntKind.bits, IntKind.signed]
     have h16 : x16 = ((x % 128 + 128 : Nat) : Int) := by
       rw [AKo, h15, AFC ⟨x % 256, Nat.mod_lt _ (by decide)⟩]
       have : x % 256 % 128 = x % 128 := by omega
       rw [this]
     subst h16
     refine Dh.Jg he ho (by omega) (fun p2 c2 σ2 Bc pD _ => ⟨p2, n' + 1, c2, rfl, by simp [IntKind.bits], fun x12 AKp => ?_⟩) Pb
     have WN : x12 = ((x / 128 : Nat) : Int) := by rw [AKp]; simp
     subst WN
     refine ih (x / 128) (n' + 1) p2 c2 σ2 _ (by rw [Nat.div_lt_iff_lt_mul (by decide)]; rw [Nat.pow_succ] at hx; exact hx) (by omega) Bc pD fun p3 n3 c3 σ3 FL he3 => h p3 n3 c3 σ3 ?_ he3
     rw [MZ (by omega)]
     simpa using FL
   · have az : ae = (x : Int) := by rw [yt]; simp [IntKind.wrap, IntKind.bits, IntKind.signed]; omega
     subst az
     refine Dh.Jg he ho (by omega) (fun p2 c2 σ2 Bc pD _ => ⟨p2, n' + 1, c2, rfl, h _ _ _ _ ?_ pD⟩) Pb
     rw [Em (by omega)]; exact Bc
theorem bB : ∀ (v w : Nat) (r s : List Int), uv v ++ r = uv w ++ s → v = w ∧ r = s := by
 intro v
 induction v using Nat.strongRecOn with
 | _ v ih =>
 intro w r s h
 by_cases hv : 128 ≤ v <;> by_cases hw : 128 ≤ w
 · rw [MZ hv, MZ hw] at h
   simp only [List.cons_append, List.cons.injEq] at h
   have := ih (v / 128) (by omega) (w / 128) r s h.2
   exact ⟨by omega, this.2⟩
 · rw [MZ hv, Em hw] at h
   simp only [List.cons_append, List.cons.injEq] at h
   omega
 · rw [Em hv, MZ hw] at h
   simp only [List.cons_append, List.cons.injEq] at h
   omega
 · rw [Em hv, Em hw] at h
   simp only [List.cons_append, List.nil_append, List.cons.injEq] at h
   exact ⟨by omega, h.2⟩
end TwW
namespace TwW
open Go Tw Go.RowKit Go.Proofs.Tryz
theorem Eu.at1 {σ : Hp} {p : Option Addr} {n k : Nat} {L : List Value} {v : Value} (h : Eu 1 σ p n L) (hk : L[k]? = some v) : ∃ b o, p = some ⟨b, o, none⟩ ∧ σ.ld ⟨b, o + k * 1, none⟩ = some v := by
 obtain ⟨h1, _, h2⟩ := h
 have Ax := (List.getElem?_eq_some_iff.1 hk).1
 rcases h2 with h2 | ⟨b, o, hp, hl⟩
 · simp at h1; omega
 · refine ⟨b, o, hp, ?_⟩
   rw [Nat.mul_one]
   exact hl.get hk
section
variable {σ τ : Hp} {d : Nat} {R : Rr}
end
section
variable {dir : ByteArray} {cnt : Nat}
end
end TwW
namespace TwW
open Go Tw Go.RowKit Go.Proofs.Tryz
def ZX (s : ByteArray) : List Int := s.data.toList.map fun b => (b.toNat : Int)
theorem LN {s : ByteArray} : (ZX s).length = s.size := by simp [ZX]
theorem mV {s : ByteArray} : SH s = (ZX s).map (.int .u8) := by simp [SH, ZX]
theorem SJ (l : List UInt8) : strOfNums (l.map fun b => (b.toNat : Int)) = ⟨l.toArray⟩ := by
 apply ByteArray.ext
 apply Array.toList_inj.1
 rw [strOfNums_data, List.map_map]
 conv => rhs; rw [← List.map_id l]
 exact List.map_congr_left fun a _ => by simp
theorem UX {s : ByteArray} : strOfNums (ZX s) = s := by
 rw [ZX, SJ]
theorem dt {s t : ByteArray} (h : ZX s = ZX t) : s = t := by rw [← UX (s := s), h, UX]
section
variable {σ : Hp} {R : Rr}
theorem NQ {p : Option Addr} {n c : Nat} {xs : List Int} {s : ByteArray} (hr : E1 .u8 σ p n xs) (hn : n ≤ 1048576) (hs : s.size ≤ 1048576)
   (h : ∀ p' n' c' σ', Dh .u8 (σ.new σ') p' n' c' (xs ++ uv s.size ++ ZX s) → Ext σ σ' → R (.returned (.slice p' n' c')) σ') : Spec prog 108 #[.slice p n c, .string s] σ R := by
 refine Lq.start fun x8 h8 => ?_
 have e8 : x8 = (s.size : Int) := by rw [h8]; simp [IntKind.wrap, IntKind.bits, IntKind.signed]; omega
 subst e8
 refine NO hr (by omega) (by omega) fun p' n' c' σ1 ho CK => ⟨p', n', c', rfl, ?_⟩
 have hq : ∀ a, p' = some a → σ a.block = none := fun a ha => by
   have h2 := BB.block ho a ha
   cases hh : (σ.new σ1) a.block with
   | none => exact absurd hh h2
   | some o => exact (AY.1 hh).1
 have hl : (xs ++ uv s.size).length = n' := by have := ho.1; simpa using this
 have SK := Kn (x := s.size) (by omega)
 have u6 : xs.length = n := hr.1
 rw [List.length_append] at hl
 refine rI underlying9 (BB.mono (Ext.Cd _ _) ho) rfl mV (by omega) fun p2 c2 σ2 Bc A9 _ => ⟨p2, _, c2, rfl, ?_⟩
 have Pb := GL hq A9 CK
 refine h p2 _ c2 σ2 ?_ (LD hq A9 CK)
 have := BB.Qa Bc Pb
 simpa [Dh] using this
theorem PJ {p : Option Addr} {n c : Nat} {xs : List Int} (h : Dh .u8 σ p n c xs) : xs.length = n := by have := h.1; simpa using this
theorem du {s : ByteArray} : (ByteArray.toList s == ByteArray.toList (ByteArray.mk #[])) = decide (s.size = 0) := by
 rw [ByteArray.toList_eq, ByteArray.toList_eq]
 by_cases h : s.size = 0
 · have : s = ⟨#[]⟩ := ByteArray.ext (Array.eq_empty_of_size_eq_zero h)
   subst this; rfl
 · rw [decide_eq_false h]
   simp only [beq_eq_false_iff_ne]
   intro e
   apply h
   have := congrArg List.length e
   simpa using this
end
end TwW
namespace TwW
open Go Tw Go.RowKit Go.Proofs.Tryz
abbrev Lb := ByteArray × ByteArray
def CL (_ : Hp) (vs : List Value) (x : Lb) : Prop := vs = [.string x.1, .string x.2]
theorem CL.mono : Gy CL := fun _ _ _ _ _ h => h
abbrev F7 := Ag 2 CL
section
variable {σ : Hp} {R : Rr}
theorem F7.at {p : Option Addr} {n i : Nat} {ls : List Lb} {x : Lb} (hr : F7 σ p n ls) (hx : ls[i]? = some x) : ∃ b o, p = some ⟨b, o, none⟩ ∧ Av σ b (o + i * 2) [.string x.1, .string x.2] := by
 obtain ⟨b, o, vs, hp, rfl, hl⟩ := Ag.idx hr hx
 exact ⟨b, o, hp, hl⟩
theorem Ta {s t : ByteArray} : (s.toList == t.toList) = decide (s = t) := by
 rw [ByteArray.toList_eq, ByteArray.toList_eq]
 by_cases h : s = t
 · subst h; simp
 · rw [decide_eq_false h, beq_eq_false_iff_ne]
   exact fun e => h (ByteArray.ext (Array.toList_inj.1 e))
theorem QL {α : Type} {xs : List α} {k : Nat} {y : α} (hy : xs[k]? = some y) : xs.drop k = y :: xs.drop (k + 1) := by
 obtain ⟨h, rfl⟩ := List.getElem?_eq_some_iff.1 hy
 exact List.drop_eq_getElem_cons h
def Cy : List Lb → ByteArray → ByteArray
 | [], _ => ⟨#[]⟩
 | x :: l, k => if x.1 = k then x.2 else Cy l k
theorem Tc {p : Option Addr} {n c : Nat} {ls : List Lb} {k : ByteArray} (hr : F7 σ p n ls) (h : R (.returned (.string (Cy ls k))) σ) : Spec prog 180 #[.slice p n c, .string k] σ R := by
 refine H3.start ?_
 suffices H : ∀ d i : Nat, n - i = d → i ≤ n → Cy ls k = Cy (ls.drop i) k → H3.Hf R k p n c n i σ from H n 0 rfl (Nat.zero_le _) rfl
 intro d
 induction d with
 | zero =>
   intro i hd hi he
   refine H3.Be ⟨fun Ax => by omega, fun _ => ?_⟩
   rw [List.drop_of_length_le (by rw [hr.1]; omega)] at he
   rw [he] at h; exact h
 | succ d ih =>
   intro i hd hi he
   refine H3.Be ⟨fun _ => ?_, fun hh => by omega⟩
   have Bb : i < n := by omega
   obtain ⟨x, hx⟩ := hr.ex Bb
   obtain ⟨b, o, rfl, hl⟩ := F7.at hr hx
   rw [QL hx, Cy] at he
   refine ⟨b, o, rfl, by omega, x.1, x.2, by simpa using hl, fun _ => ⟨fun hk => ?_, fun hk => ⟨AN Bb hr.big, ih (i + 1) (by omega) (by omega) ?_⟩⟩⟩
   · rw [Ta, decide_eq_true_eq] at hk
     rw [if_pos hk] at he
     rw [he] at h; exact h
   · rw [Ta, decide_eq_false_iff_not] at hk
     rwa [if_neg hk] at he
theorem dw {s : ByteArray} {ok : UInt8 → Bool} {pt : Int → Prop} {G : Bool → Prop}
   (jQ : G true → pt s.size) (JD : ∀ (k : Nat) (u : UInt8), k < s.size → s.data[Int.toNat (k : Int)]? = some u → AM ((k : Int) + 1) → (ok u = true → pt ((k : Int) + 1)) → (ok u = false → G false) → pt k)
   (h : G (s.data.toList.all ok)) (hb : s.size ≤ 4611686018427387904) : pt 0 := by
 have Hc : s.data.toList.length = s.size := rfl
 suffices H : ∀ d k : Nat, s.size - k = d → k ≤ s.size → (s.data.toList.take k).all ok = true → pt k from H s.size 0 rfl (Nat.zero_le _) rfl
 intro d
 induction d with
 | zero =>
   intro k hd hk JT
   rw [List.take_of_length_le (by omega)] at JT
   rw [JT] at h
   have : k = s.size := by omega
   rw [this]; exact jQ h
 | succ d ih =>
   intro k hd hk JT
   have G7 : k < s.size := by omega
   obtain ⟨u, hu⟩ : ∃ u, s.data.toList[k]? = some u := ⟨_, List.getElem?_eq_getElem (by omega)⟩
   refine JD k u G7 (by simpa using hu) (by unfold AM; omega) (fun hc => ih (k + 1) (by omega) (by omega) (by rw [Ab hu, List.all_append, JT]; simpa using hc)) fun hc => ?_
   have : s.data.toList.all ok = false := by
     rw [List.all_eq_false]
     exact ⟨u, List.mem_of_getElem? hu, by simp [hc]⟩
   rwa [this] at h
def dgt (u : UInt8) : Bool := decide (48 ≤ u.toNat ∧ u.toNat ≤ 57)
def nch (u : UInt8) : Bool := decide (u.toNat = 95 ∨ (48 ≤ u.toNat ∧ u.toNat ≤ 57) ∨ (65 ≤ u.toNat ∧ u.toNat ≤ 90) ∨ (97 ≤ u.toNat ∧ u.toNat ≤ 122))
def C8 (s : ByteArray) : Bool := decide (0 < s.size) && decide (s.size ≤ 64) && !(s.data.toList.head?.any dgt) && s.data.toList.all nch
theorem Ko {s : ByteArray} (h : R (.returned (.bool (C8 s))) σ) : Spec prog 98 #[.string s] σ R := by
 have Hc : s.data.toList.length = s.size := rfl
 refine FE.start ⟨fun h0 => ?_, fun h0 => ⟨fun h1 => ?_, fun h1 => ?_⟩⟩
 · rw [du, decide_eq_true_eq] at h0
   simpa [C8, h0] using h
 · have : ¬ s.size ≤ 64 := by omega
   simpa [C8, this] using h
 · rw [du, decide_eq_false_iff_not] at h0
   obtain ⟨u, hu⟩ : ∃ u, s.data.toList[0]? = some u := ⟨_, List.getElem?_eq_getElem (by omega)⟩
   have Ct : s.data[Int.toNat (0 : Int)]? = some u := by simpa using hu
   have hh : s.data.toList.head? = some u := by rw [← hu]; cases s.data.toList <;> rfl
   have rest : dgt u = false → FE.JV R s 0 σ := fun hd => by
     have e : C8 s = s.data.toList.all nch := by simp [C8, show 0 < s.size by omega, show s.size ≤ 64 by omega, hh, hd]
     rw [e] at h
     refine dw (s := s) (pt := fun k => FE.JV R s k σ) (ok := nch) (G := fun t => R (.returned (.bool t)) σ) (fun g => FE.NI ⟨fun Ax => by omega, fun _ => g⟩) (fun k u hk hu hi good bad => ?_) h (by omega)
     simp only [nch, decide_eq_true_eq, decide_eq_false_iff_not] at good bad
     refine FE.NI ⟨fun Ax => ⟨u, by omega, hu, ?_⟩, fun fz => by omega⟩
     clear h
     generalize u.toNat = n at good bad
     repeat' (first | refine ⟨fun _ => ?_, fun _ => ?_⟩ | exact ⟨hi, good (by omega)⟩ | exact bad (by omega))
   simp only [dgt, decide_eq_false_iff_not] at rest
   refine ⟨u, by omega, Ct, fun h2 => ⟨u, by omega, Ct, fun h3 => ?_, fun h3 => rest (by omega)⟩, fun h2 => rest (by omega)⟩
   have : dgt u = true := by simp [dgt]; omega
   simpa [C8, hh, this] using h
def vl : Nat → Nat → Nat → List UInt8 → Bool
 | 0, _, _, [] => true
 | _ + 1, _, _, [] => false
 | 0, _, _, c :: r =>
   if c.toNat < 128 then vl 0 128 191 r
   else if 194 ≤ c.toNat ∧ c.toNat ≤ 223 then vl 1 128 191 r
   else if 224 ≤ c.toNat ∧ c.toNat ≤ 239 then (if c.toNat = 224 then vl 2 160 191 r else if c.toNat = 237 then vl 2 128 159 r else vl 2 128 191 r)
   else if 240 ≤ c.toNat ∧ c.toNat ≤ 244 then (if c.toNat = 240 then vl 3 144 191 r else if c.toNat = 244 then vl 3 128 143 r else vl 3 128 191 r)
   else false
 | m + 1, lo, hi, c :: r => if c.toNat < lo ∨ hi < c.toNat then false else vl m 128 191 r
def Px (s : ByteArray) : Bool := vl 0 128 191 s.data.toList
theorem vl0 (l : List UInt8) (a b c d : Nat) : vl 0 a b l = vl 0 c d l := by cases l <;> rfl
attribute [local irreducible] Ak.CN Ak.G3 Ak.kZ in
theorem Py {s : ByteArray} (hb : s.size ≤ 4611686018427387904) (h : R (.returned (.bool (Px s))) σ) : Spec prog 99 #[.string s] σ R := by
 have Hc : s.data.toList.length = s.size := rfl
 refine Ak.start ?_
 suffices H : ∀ d : Nat, (∀ k : Nat, s.size - k = d → k ≤ s.size → Px s = vl 0 128 191 (s.data.toList.drop k) → Ak.CN R s k σ) ∧
     (∀ (k m lo hi : Nat), s.size - k = d → k ≤ s.size → Px s = vl m lo hi (s.data.toList.drop k) → m ≤ 3 → Ak.kZ R s k m lo hi σ) from (H s.size).1 0 (by omega) (by omega) rfl
 intro d
 induction d with
 | zero =>
   have A : ∀ k : Nat, s.size - k = 0 → k ≤ s.size → Px s = vl 0 128 191 (s.data.toList.drop k) → Ak.CN R s k σ := fun k hd hk he => by
     refine Ak.BH ⟨fun _ => ?_, fun BE => by omega⟩
     rw [List.drop_of_length_le (by omega)] at he
     rw [he] at h; exact h
   refine ⟨A, fun k m lo hi hd hk he hm => Ak.dY ⟨fun h0 => A k hd hk ?_, fun h0 => ⟨fun _ => ?_, fun BE => by omega⟩⟩⟩
   · have : m = 0 := by omega
     subst this; rw [he]; exact vl0 _ _ _ _ _
   · obtain ⟨m', rfl⟩ : ∃ m', m = m' + 1 := ⟨m - 1, by omega⟩
     rw [List.drop_of_length_le (by omega)] at he
     rw [he] at h; exact h
 | succ d ih =>
   have A : ∀ k : Nat, s.size - k = d + 1 → k ≤ s.size → Px s = vl 0 128 191 (s.data.toList.drop k) → Ak.CN R s k σ := fun k hd hk he => by
     have G7 : k < s.size := by omega
     obtain ⟨u, hu⟩ : ∃ u, s.data.toList[k]? = some u := ⟨_, List.getElem?_eq_getElem (by omega)⟩
     have Ct : s.data[Int.toNat (k : Int)]? = some u := by simpa using hu
     have hi : AM ((k : Int) + 1) := by unfold AM; omega
     rw [QL hu, vl] at he
     have st : ∀ (m lo hi : Nat), m ≤ 3 → Px s = vl m lo hi (s.data.toList.drop (k + 1)) → Ak.G3 R s k m lo hi σ := fun m lo hh hm he => Ak.qf ⟨hi, ih.2 (k + 1) m lo hh (by omega) (by omega) he hm⟩
     have nx : Px s = vl 0 128 191 (s.data.toList.drop (k + 1)) → Ak.CN R s ((k : Int) + 1) σ := fun he => ih.1 (k + 1) (by omega) (by omega) he
     have no : Px s = false → R (.returned (.bool false)) σ := fun e => by rw [e] at h; exact h
     refine Ak.BH ⟨fun BE => by omega, fun _ => ⟨u, by omega, Ct, ?_⟩⟩
     generalize s.data.toList.drop (k + 1) = r at he st nx
     clear ih h hu Ct
     generalize u.toNat = n at he
     have st1 := st 1 128 191 (by omega)
     have st2 := st 2 160 191 (by omega)
     have tC := st 2 128 159 (by omega)
     have st4 := st 2 128 191 (by omega)
     have st5 := st 3 144 191 (by omega)
     have st6 := st 3 128 143 (by omega)
     have st7 := st 3 128 191 (by omega)
     repeat' (first | refine ⟨fun _ => ?_, fun _ => ?_⟩ | refine ⟨hi, nx ?_⟩ | refine st1 ?_ | refine st2 ?_ | refine tC ?_ | refine st4 ?_ | refine st5 ?_ | refine st6 ?_ | refine st7 ?_ | refine no ?_)
     all_goals first | (exfalso; clear he; omega) | (rw [he]; repeat' (first | rfl | rw [if_pos (by omega)] | rw [if_neg (by omega)]))
   refine ⟨A, fun k m lo hi hd hk he hm => Ak.dY ⟨fun h0 => A k hd hk ?_, fun h0 => ⟨fun BE => by omega, fun _ => ?_⟩⟩⟩
   · have : m = 0 := by omega
     subst this; rw [he]; exact vl0 _ _ _ _ _
   · obtain ⟨m', rfl⟩ : ∃ m', m = m' + 1 := ⟨m - 1, by omega⟩
     have G7 : k < s.size := by omega
     obtain ⟨u, hu⟩ : ∃ u, s.data.toList[k]? = some u := ⟨_, List.getElem?_eq_getElem (by omega)⟩
     have Ct : s.data[Int.toNat (k : Int)]? = some u := by simpa using hu
     rw [QL hu, vl] at he
     refine ⟨u, by omega, Ct, fun h1 => ?_, fun h1 => ⟨u, by omega, Ct, fun h2 => ?_, fun h2 => ⟨by unfold AM; omega, by unfold AM; omega, ?_⟩⟩⟩
     · rw [if_pos (by omega)] at he
       rw [he] at h; exact h
     · rw [if_pos (by omega)] at he
       rw [he] at h; exact h
     · rw [if_neg (by omega)] at he
       have := ih.2 (k + 1) m' 128 191 (by omega) (by omega) he (by omega)
       have e1 : ((m' + 1 : Nat) : Int) - 1 = (m' : Nat) := by omega
       rw [e1]; exact this
end
end TwW
namespace TwW
open Go Tw Go.RowKit Go.Proofs.Tryz
section
variable {σ : Hp} {R : Rr}
def sle (a b : ByteArray) : Bool := Op.bytesLess a.toList b.toList || a.toList == b.toList
theorem yu {x y : Operand} {a b : ByteArray} {T : TypeId} : YF prog (do eqGuard .leq T x y (.string a) (.string b); binOp .leq T (.string a) (.string b)) σ (.bool (sle a b)) := fun w _ => by
 simp [eqGuard, binOp, Op.stringOp, sle]
def E3 : Option ByteArray → List Lb → Int
 | _, [] => 0
 | pv, x :: l => if C8 x.1 = false then 31 else if x.2.size = 0 ∨ 256 < x.2.size ∨ Px x.2 = false then 32 else if pv.any (sle x.1 ·) = true then 33 else E3 (some x.1) l
def OV (ls : List Lb) : Int := if 16 < ls.length then 30 else E3 none ls
theorem Pz {p : Option Addr} {n c : Nat} {ls : List Lb} (hr : F7 σ p n ls) (h : R (.returned (.int .i64 (OV ls))) σ) : Spec prog 68 #[.slice p n c] σ R := by
 have hn : ls.length = n := hr.1
 refine EA.start ⟨fun h1 => ?_, fun h1 => ?_⟩
 · rw [OV, if_pos (by omega)] at h; exact h
 rw [OV, if_neg (by omega)] at h
 let pv : Nat → Option ByteArray := fun i => if i = 0 then none else (ls[i - 1]?).map (·.1)
 suffices H : ∀ d i : Nat, n - i = d → i ≤ n → E3 none ls = E3 (pv i) (ls.drop i) → EA.Lc R p n c p n c n i σ from H n 0 rfl (Nat.zero_le _) rfl
 intro d
 induction d with
 | zero =>
   intro i hd hi he
   refine EA.Ia ⟨fun Ax => by omega, fun _ => ?_⟩
   rw [List.drop_of_length_le (by omega)] at he
   rw [he] at h; exact h
 | succ d ih =>
   intro i hd hi he
   have Bb : i < n := by omega
   obtain ⟨x, hx⟩ := hr.ex Bb
   obtain ⟨b, o, rfl, hl⟩ := F7.at hr hx
   rw [QL hx, E3] at he
   have out : ∀ e : Int, E3 none ls = e → R (.returned (.int .i64 e)) σ := fun e h1 => h1 ▸ h
   refine EA.Ia ⟨fun _ => ?_, fun hh => by omega⟩
   refine ⟨b, o, rfl, by omega, x.1, x.2, by simpa using hl, fun _ => Ko ⟨_, rfl, fun h1 => out _ ?_, fun h1 => ?_⟩⟩
   · rw [he, if_pos h1]
   rw [if_neg (by simp [h1])] at he
   rw [du]
   refine ⟨fun h2 => out _ ?_, fun h2 => ⟨fun h3 => out _ ?_, fun h3 => Py (by omega) ⟨_, rfl, fun h4 => out _ ?_, fun h4 => ?_⟩⟩⟩
   · rw [he, if_pos (.inl (by simpa using h2))]
   · rw [he, if_pos (.inr (.inl (by omega)))]
   · rw [he, if_pos (.inr (.inr h4))]
   rw [if_neg (by rw [decide_eq_false_iff_not] at h2; simp [h2, h4]; omega)] at he
   have nx : pv (i + 1) = some x.1 := by simp [pv, hx]
   have go : (pv i).any (sle x.1 ·) = false → EA.Lc R (aD b o) n c (aD b o) n c n ((i : Int) + 1) σ := fun h5 => by
     rw [if_neg (by simp [h5]), ← nx] at he
     exact ih (i + 1) (by omega) (by omega) he
   refine ⟨fun h5 => ?_, fun h5 => ⟨AN Bb hr.big, go ?_⟩⟩
   · obtain ⟨y, hy⟩ := hr.ex (k := i - 1) (by omega)
     obtain ⟨b', o', hp, dJ⟩ := F7.at hr hy
     cases hp
     have e1 : ((i : Int) - 1).toNat = i - 1 := by omega
     have hpv : pv i = some y.1 := by simp [pv, hy, show i ≠ 0 by omega]
     refine ⟨by have := hr.big; unfold AM; omega, b, o, rfl, by omega, y.1, by rw [e1]; exact dJ.1, _, yu, fun h6 => out _ ?_, fun h6 => ⟨AN Bb hr.big, go ?_⟩⟩
     · rw [he, if_pos (by rw [hpv]; exact h6)]
     · rw [hpv]; exact h6
   · have : i = 0 := by omega
     simp [pv, this]
theorem UY : ∀ {ls : List Lb} {pv : Option ByteArray}, E3 pv ls = 0 → ∀ x ∈ ls, C8 x.1 = true ∧ 0 < x.2.size ∧ x.2.size ≤ 256 ∧ Px x.2 = true
 | [], _, _, _, hx => by cases hx
 | y :: l, pv, h, x, hx => by
   rw [E3] at h
   split at h
   · cases h
   split at h
   · cases h
   split at h
   · cases h
   rename_i h1 h2 h3
   rcases List.mem_cons.1 hx with rfl | hx
   · simp only [not_or, Bool.not_eq_false] at h1 h2
     exact ⟨h1, by omega, by omega, h2.2.2⟩
   · exact UY h x hx
def Aq (ls : List Lb) : Prop := ls.length ≤ 16 ∧ ∀ x ∈ ls, x.1.size ≤ 256 ∧ x.2.size ≤ 256
theorem Aq.of {ls : List Lb} (h : OV ls = 0) : Aq ls := by
 unfold OV at h
 split at h
 · cases h
 · refine ⟨by omega, fun x hx => ?_⟩
   obtain ⟨h1, _, h2, _⟩ := UY h x hx
   simp [C8] at h1
   exact ⟨by omega, h2⟩
theorem CL.one (σ : Hp) (vs : List Value) (x : Lb) (h : CL σ vs x) : GB vs := by
 rw [h]
 intro u hu
 simp only [List.mem_cons, List.not_mem_nil, or_false] at hu
 rcases hu with rfl | rfl <;> rfl
theorem H9 {σ1 : Hp} {q : Option Addr} {j c b : Nat} {ls : List Lb} {ty : TypeId} {Φ : Value → Hp → Prop} (ht : F7 σ1 q j ls) (hb : j ≤ 1000000000)
   (hΦ : ∀ p' c' σ', GC 2 CL (σ1.new σ') p' j c' ls → Ext σ1 σ' → Φ (.slice p' j c') σ') (hn : σ1 b = none) :
   AJ prog (Builtin.append_ #[37, 37] ty #[.slice (some ⟨b, 0, none⟩) 0 0, .slice q j c]) (σ1.set b (.cells #[] 56 (0, 0))) Φ := by
 obtain ⟨h1, cs, h2, h3⟩ := ht
 refine Dx BB.empty (h2.mono (.set hn)) (Ch.vm CL.one h3 (by decide)) (by omega) fun p' c' σ' BY Iy => ?_
 have hq : ∀ a : Addr, (some (⟨b, 0, none⟩ : Addr)) = some a → σ1 a.block = none := fun a ha => by cases ha; exact hn
 rw [Nat.zero_add] at BY ⊢
 rw [List.nil_append] at BY
 exact hΦ p' c' σ' ⟨h1, cs, BB.Qa BY (GL hq Iy (.set hn)), h3⟩ (LD hq Iy (.set hn))
def Lz (x : Lb) : List Int := uv x.1.size ++ ZX x.1 ++ (uv x.2.size ++ ZX x.2)
def gA (ls : List Lb) : List Int := uv ls.length ++ ls.flatMap Lz
theorem gB {x : Lb} (h : x.1.size ≤ 256 ∧ x.2.size ≤ 256) : (Lz x).length ≤ 532 := by
 have h1 := Kn (x := x.1.size) (by omega)
 have h2 := Kn (x := x.2.size) (by omega)
 simp only [Lz, List.length_append, LN]
 omega
theorem mW {ls : List Lb} (h : ∀ x ∈ ls, x.1.size ≤ 256 ∧ x.2.size ≤ 256) : (ls.flatMap Lz).length ≤ ls.length * 532 := by
 induction ls with
 | nil => simp
 | cons x l ih =>
   have := ih fun y hy => h y (List.mem_cons_of_mem _ hy)
   have := gB (h x (by simp))
   rw [List.flatMap_cons, List.length_append, List.length_cons]
   omega
theorem Vj {p : Option Addr} {n c : Nat} {ls : List Lb} (hr : F7 σ p n ls) (hs : Aq ls) (h : ∀ p' n' c' σ', Dh .u8 (σ.new σ') p' n' c' (gA ls) → Ext σ σ' → R (.returned (.slice p' n' c')) σ') : Spec prog 72 #[.slice p n c] σ R := by
 have hn : ls.length = n := hr.1
 have h16 := hs.1
 refine Eh.start fun x8 h8 => ?_
 have e8 : x8 = (n : Int) := by rw [h8]; simp [IntKind.wrap, IntKind.bits, IntKind.signed]; omega
 subst e8
 refine NO Ag.nil (by omega) (by omega) fun p1 n1 c1 σ1 aJ CK => ⟨p1, n1, c1, rfl, ?_⟩
 rw [List.nil_append] at aJ
 suffices H : ∀ d k : Nat, ∀ p3 n3 c3 σ3, n - k = d → k ≤ n → Dh .u8 (σ.new σ3) p3 n3 c3 (uv n ++ (ls.take k).flatMap Lz) → Ext σ σ3 → Eh.A3 R p3 n3 c3 p n c n k σ3 from H n 0 p1 n1 c1 σ1 rfl (Nat.zero_le _) (by simpa using aJ) CK
 intro d
 induction d with
 | zero =>
   intro k p3 n3 c3 σ3 hd hk ho hx
   refine Eh.AZ ⟨fun Ax => by omega, fun _ => h p3 n3 c3 σ3 ?_ hx⟩
   rw [List.take_of_length_le (by omega)] at ho
   rw [gA, hn]; exact ho
 | succ d ih =>
   intro k p3 n3 c3 σ3 hd hk ho hx
   have G7 : k < n := by omega
   obtain ⟨y, hy⟩ := hr.ex G7
   obtain ⟨b, o, rfl, hl⟩ := F7.at hr hy
   have iw := hs.2 y (List.mem_of_getElem? hy)
   have hl3 := PJ ho
   have SK := Kn (x := n) (by omega)
   have hfl := mW (ls := ls.take k) fun x hx => hs.2 x (List.mem_of_mem_take hx)
   rw [List.length_append] at hl3
   rw [List.length_take] at hfl
   have h3b : n3 ≤ 9000 := by omega
   refine Eh.AZ ⟨fun _ => ⟨b, o, rfl, by omega, y.1, y.2, by simpa using hl.mono hx, fun _ => ?_⟩, fun hh => by omega⟩
   refine NQ (Dh.rd (BB.mono (Ext.Cd _ _) ho)) (by omega) (by omega) fun p4 n4 c4 σ4 NR Mp => ⟨p4, n4, c4, rfl, ?_⟩
   have hl4 := PJ NR
   have gC := Kn (x := y.1.size) (by omega)
   simp only [List.length_append, LN] at hl4
   refine NQ (Dh.rd (BB.mono (Ext.Cd _ _) NR)) (by omega) (by omega) fun p5 n5 c5 σ5 QM Td => ⟨p5, n5, c5, rfl, AN G7 hr.big, ?_⟩
   refine ih (k + 1) p5 n5 c5 σ5 (by omega) (by omega) ?_ (hx.trans (Mp.trans Td))
   have := BB.mono (Ext.DE (hx.trans Mp)) QM
   rw [Ab hy, List.flatMap_append]
   simpa [Lz, Dh] using this
end
end TwW
namespace TwW
open Go Tw Go.RowKit Go.Proofs.Tryz
section
variable {σ σ' τ : Hp} {R : Rr}
def Cj (x : ByteArray) (xs : List ByteArray) : Bool := xs.any fun y => decide (x = y)
theorem BA {x : ByteArray} {xs : List ByteArray} : Cj x xs = true ↔ x ∈ xs := by simp [Cj]
theorem Kq {p : Option Addr} {n c : Nat} {x : ByteArray} {xs : List ByteArray} (hr : Eu 1 σ p n (xs.map .string)) (h : R (.returned (.bool (Cj x xs))) σ) : Spec prog 199 #[.slice p n c, .string x] σ R := by
 have hn : xs.length = n := by have := hr.1; simpa using this
 have Iz : n ≤ 4611686018427387904 := hr.2.1
 have key : ∀ i : Int, (0 ≤ i ↔ x ∈ xs) → AA R (CI .i64 fun x7 y => R (.returned (.bool (decide (0 ≤ x7)))) y) (.returned (.int .i64 i)) σ := fun i hi => ⟨i, rfl, by
   dsimp only
   rw [show decide (0 ≤ i) = Cj x xs by rw [Bool.eq_iff_iff, BA, decide_eq_true_eq]; exact hi]; exact h⟩
 refine EW.start (BM.start ?_)
 suffices H : ∀ d k : Nat, n - k = d → k ≤ n → x ∉ xs.take k → BM.Hf (AA R (CI .i64 fun x7 y => R (.returned (.bool (decide (0 ≤ x7)))) y)) p n c x n k σ from H n 0 rfl (Nat.zero_le _) (by simp)
 intro d
 induction d with
 | zero =>
   intro k hd hk Du
   refine BM.Be ⟨fun Ax => by omega, fun _ => key (-1) ?_⟩
   rw [List.take_of_length_le (by omega)] at Du
   exact ⟨fun h => absurd h (by decide), fun h => absurd h Du⟩
 | succ d ih =>
   intro k hd hk Du
   have G7 : k < n := by omega
   obtain ⟨y, hy⟩ : ∃ y, xs[k]? = some y := ⟨_, List.getElem?_eq_getElem (by omega)⟩
   obtain ⟨b, o, rfl, hl⟩ := Eu.at1 hr (k := k) (v := .string y) (by rw [List.getElem?_map, hy]; rfl)
   refine BM.Be ⟨fun _ => ⟨b, o, rfl, by omega, y, by simpa using hl, fun he => key k ⟨fun _ => ?_, fun _ => by omega⟩, fun BE => ⟨AN G7 Iz, ih (k + 1) (by omega) (by omega) ?_⟩⟩, fun fz => by omega⟩
   · rw [Ta, decide_eq_true_eq] at he
     rw [he]; exact List.mem_of_getElem? hy
   · rw [Ta, decide_eq_false_iff_not] at BE
     rw [TO hy]
     rintro (h1 | h1)
     · exact Du h1
     · exact BE h1
theorem PK {f : Nat} {cap : Array Value} {g : Lb → Bool} {p : Option Addr} {n c : Nat} {ls : List Lb} (N3 : Enters prog f) (hr : F7 σ p n ls) (hn : n ≤ 1000000)
   (hf : ∀ (σ' : Hp) (x : Lb) (R' : Rr), Ext σ σ' → R' (.returned (.bool (g x))) σ' → Spec prog f (#[] ++ #[.agg #[.string x.1, .string x.2]] ++ cap) σ' R')
   (h : ∀ p' n' c' σ', GC 2 CL (σ.new σ') p' n' c' (ls.filter g) → Ext σ σ' → R (.returned (.slice p' n' c')) σ') : Spec prog 197 #[.slice p n c, .func (.func f) #[] cap] σ R := by
 have rK : ls.length = n := hr.1
 refine CO.start ?_
 suffices H : ∀ d k : Nat, ∀ p5 n5 c5 σ5, n - k = d → k ≤ n → GC 2 CL (σ.new σ5) p5 n5 c5 ((ls.take k).filter g) → Ext σ σ5 → CO.A3 R (.func (.func f) #[] cap) p5 n5 c5 p n c n k σ5 from H n 0 none 0 0 σ rfl (Nat.zero_le _) GC.nil (.refl _)
 intro d
 induction d with
 | zero =>
   intro k p5 n5 c5 σ5 hd hk ho hx
   refine CO.AZ ⟨fun Ax => by omega, fun _ => h p5 n5 c5 σ5 ?_ hx⟩
   rw [List.take_of_length_le (by omega)] at ho; exact ho
 | succ d ih =>
   intro k p5 n5 c5 σ5 hd hk ho hx
   have G7 : k < n := by omega
   obtain ⟨x, gD⟩ := hr.ex G7
   obtain ⟨b, o, rfl, hl⟩ := F7.at hr gD
   have hn5 : n5 ≤ n := by
     have h1 := ho.1
     have h2 := List.length_filter_le g (ls.take k)
     rw [List.length_take] at h2
     omega
   have ht : (ls.take (k + 1)).filter g = (ls.take k).filter g ++ if g x then [x] else [] := by
     rw [Ab gD, List.filter_append]
     by_cases hg : g x <;> simp [hg]
   refine CO.AZ ⟨fun _ => ⟨b, o, rfl, by omega, x.1, x.2, by simpa using hl.mono hx, fun _ => ⟨f, #[], cap, rfl, N3, hf σ5 x _ hx ⟨_, rfl, fun hg DD AKq => ?_, fun hg => ?_⟩⟩⟩, fun hh => by omega⟩
   · refine GC.Jg CL.mono (vs := [.string x.1, .string x.2]) (x := x) hx ho rfl (CL.one σ _ _ rfl) rfl (by omega) (fun p' c' σ' Mu YG => ⟨_, _, _, rfl, CO.QG ⟨AN G7 hr.big, ih (k + 1) _ _ _ _ (by omega) (by omega) ?_ YG⟩⟩) AKq
     rw [ht, if_pos hg]; exact Mu
   · refine CO.QG ⟨AN G7 hr.big, ih (k + 1) _ _ _ _ (by omega) (by omega) ?_ hx⟩
     rw [ht, if_neg (by simp [hg]), List.append_nil]; exact ho
theorem AFG : Enters prog 200 := fun args w => call200 args w
theorem I0 {p q : Option Addr} {n c m d : Nat} {ls : List Lb} {ns : List ByteArray} (hr : F7 σ p n ls) (hn : n ≤ 1000000) (hs : Eu 1 σ q m (ns.map .string))
   (h : ∀ p' n' c' σ', GC 2 CL (σ.new σ') p' n' c' (ls.filter fun x => !Cj x.1 ns) → Ext σ σ' → R (.returned (.slice p' n' c')) σ') : Spec prog 150 #[.slice p n c, .slice q m d] σ R := by
 refine Lw.start fun b3 ZY => ?_
 have D6 : Ext σ (σ.set b3 (.cells #[.slice q m d] 34 (0, 0))) := .set ZY
 refine PK (f := 200) (g := fun x => !Cj x.1 ns) AFG (hr.mono CL.mono D6) hn (fun σ' x R' hx LO => ?_) fun p' n' c' σ' ho hx => ⟨_, _, _, rfl, h p' n' c' σ' ?_ (D6.trans hx)⟩
 · refine JQ.start fun _ => ⟨q, m, d, Ad (hx _ _ (Hp.AB _ _ _)) rfl, Kq (hs.mono (D6.trans hx)) ⟨_, rfl, LO⟩⟩
 · exact ho.mono CL.mono (Ext.DE D6)
end
end TwW
namespace TwW
open Go Tw Go.RowKit Go.Proofs.Tryz
section
variable {σ σ' τ : Hp} {R : Rr}
theorem Vk {α : Type} {b : Nat} {T : TypeId} {f : α → Value} {x : α} {ρ : Hp} (h : ρ b = some (.cells #[f x] T (0, 0))) : Eu 1 ρ (some ⟨b, 0, none⟩) 1 ([x].map f) := ⟨rfl, by omega, .inr ⟨b, 0, rfl, ⟨Ad h rfl, trivial⟩⟩⟩
end
end TwW
end
section
namespace TwW
open Go Tw
structure Mt where
 kind : Int
 name : ByteArray
 val : ByteArray
structure Nd where
 kind : Int
 op : Int
 text : ByteArray
 mt : List Mt
 width : Int
 back : Int
 EL : Int
 names : List ByteArray
 bool : Bool
 parts : Int
structure Sr where
 ls : List Lb
 ps : List (Int × Int)
structure El where
 ls : List Lb
 v : Int
structure Rg where
 ls : List Lb
 vs : List Int
structure Vv where
 kind : Int
 v : Int
 vec : List El
 OC : List Rg
structure Fl where
 num : ByteArray → Int
 abs : Int → Int
 floor : Int → Int
 whole : Int → Int
 mX : Int → Int
 over : Int → List Int → Int → Option Int
 fold : Int → List Int → Int
 P0 : Int → Int → Int → Int × Bool
 bC : List Mt → List Lb → Bool
 cmpL : List Lb → List Lb → Int
abbrev IA : Int := 9218868437227405314
def A0 : ByteArray := ⟨#[95, 95, 110, 97, 109, 101, 95, 95]⟩
def Dr (ls : List Lb) : ByteArray := strOfNums (gA ls)
section
variable {α : Type}
def P1 : List (ByteArray × α) → ByteArray → α → List (ByteArray × α)
 | [], k, x => [(k, x)]
 | (a, b) :: l, k, x => if a = k then (k, x) :: l else (a, b) :: P1 l k x
def Cp : List (ByteArray × α) → ByteArray → Option α
 | [], _ => none
 | (a, b) :: l, k => if a = k then some b else Cp l k
end
def Ai (ls : List Lb) : List Lb := ls.filter fun x => !Cj x.1 [A0]
def UZ (ns : List ByteArray) (ls : List Lb) : List Lb := ls.filter fun x => Cj x.1 ns
def SL (ns : List ByteArray) (ls : List Lb) : List Lb := ls.filter fun x => !Cj x.1 ns
section
variable (F : Fl)
def bD (x : El) : List El → List El
 | [] => [x]
 | y :: l => if F.cmpL x.ls y.ls ≤ 0 then x :: y :: l else y :: bD x l
def dz (l : List El) : List El := l.foldr (bD F) []
def CF (l : List El) : Option (List El) := if l.Pairwise (fun a b => F.cmpL a.ls b.ls ≠ 0) then some (dz F l) else none
def Fg (ps : List (Int × Int)) (Dt Gr : Int) : List (Int × Int) := ps.filter fun p => decide (Dt < p.1) && decide (p.1 ≤ Gr)
def AO (n : Nd) (ss : List Sr) (at_ : Int) : List El := ss.filterMap fun s => match (Fg s.ps (at_ - n.back - 300) (at_ - n.back)).getLast? with
 | none => none
 | some p => if p.2 = IA ∨ F.bC n.mt s.ls = false then none else some ⟨s.ls, p.2⟩
def bE (n : Nd) (ss : List Sr) (at_ : Int) : List Rg := ss.filterMap fun s =>
 let vs := ((Fg s.ps (at_ - n.back - n.width) (at_ - n.back)).filter fun p => decide (p.2 ≠ IA)).map Prod.snd
 bif !vs.isEmpty && F.bC n.mt s.ls then some ⟨s.ls, vs⟩ else none
def Ua (n : Nd) (p : Vv) : List El := (p.vec.map fun x => ⟨Ai x.ls, if n.op = 11 then F.abs x.v else F.floor x.v⟩) ++ p.OC.filterMap fun s => (F.over n.op s.vs p.v).map fun v => ⟨Ai s.ls, v⟩
def Fy (n : Nd) (ls : List Lb) : List Lb := if n.EL = 1 then UZ n.names ls else if n.EL = 2 then Ai (SL n.names ls) else []
def Lk (ls : List Lb) (v : Int) : List Rg → List Rg
 | [] => [⟨ls, [v]⟩]
 | g :: l => if Dr g.ls = Dr ls then ⟨g.ls, g.vs ++ [v]⟩ :: l else g :: Lk ls v l
def gE (n : Nd) (p : Vv) : List El := (p.vec.foldl (fun gs x => Lk (Fy n x.ls) x.v gs) []).map fun g => ⟨g.ls, F.fold n.op g.vs⟩
def DW (op : Int) : Bool := decide (5 ≤ op) && decide (op ≤ 10)
def OW (n : Nd) (vec : List El) (f : Int → Int × Bool) : List El := vec.filterMap fun x =>
 if DW n.op = false ∨ n.bool = true then some ⟨Ai x.ls, (f x.v).1⟩ else if (f x.v).2 then some x else none
def Hm (n : Nd) (ls : List Lb) : List Lb := if n.EL = 3 then UZ n.names ls else Ai (SL n.names ls)
def SM (n : Nd) (l : List El) : List (ByteArray × El) := l.foldl (fun m x => P1 m (Dr (Hm n x.ls)) x) []
def PL (n : Nd) (l : List El) (k : List Lb) : Option El := Cp (SM n l) (Dr k)
def YH (n : Nd) (l : List El) : Bool := decide ((SM n l).length = l.length)
def SN (n : Nd) (x y : List El) : List El :=
 (x.filter fun e => decide (n.op = 12) || ((PL n y (Hm n e.ls)).isSome == decide (n.op = 11))) ++ y.filter fun e => (PL n x (Hm n e.ls)).isNone && decide (n.op = 12)
def Kr (n : Nd) (x y : List El) : Option (List El) := if YH n x && YH n y then some (x.filterMap fun e => match PL n y (Hm n e.ls) with
 | none => none
 | some o => if DW n.op = false ∨ n.bool = true then some ⟨Hm n e.ls, (F.P0 n.op e.v o.v).1⟩ else if (F.P0 n.op e.v o.v).2 then some e else none) else none
def bF (n : Nd) (x y : Vv) : Option Vv :=
 if x.kind = 1 ∧ y.kind = 1 then some ⟨1, (F.P0 n.op x.v y.v).1, [], []⟩
 else ((if x.kind = 1 then some (OW n y.vec (F.P0 n.op x.v)) else if y.kind = 1 then some (OW n x.vec fun v => F.P0 n.op v y.v) else if 11 ≤ n.op ∧ n.op ≤ 13 then some (SN n x.vec y.vec) else Kr F n x.vec y.vec).bind (CF F)).map fun l => ⟨2, 0, l, []⟩
def gF (p : Vv) : Option Vv := if p.kind = 1 then some ⟨1, F.mX p.v, [], []⟩ else (CF F (p.vec.map fun x => ⟨Ai x.ls, F.mX x.v⟩)).map fun l => ⟨2, 0, l, []⟩
def C9 (ss : List Sr) (at_ : Int) (n : Nd) (l : List Vv) : Option Vv :=
 if n.kind = 1 then some ⟨1, F.num n.text, [], []⟩
 else if n.kind = 2 then some ⟨2, 0, AO F n ss at_, []⟩
 else if n.kind = 3 then some ⟨3, F.whole n.width, [], bE F n ss at_⟩
 else match l with
   | [p] => if n.kind = 4 then (CF F (Ua F n p)).map fun l => ⟨2, 0, l, []⟩ else if n.kind = 5 then (CF F (gE F n p)).map fun l => ⟨2, 0, l, []⟩ else if n.kind = 7 then gF F p else none
   | [p, q] => if n.kind = 6 then bF F n p q else none
   | _ => none
def G8 (ss : List Sr) (at_ : Int) : List Nd → List Vv → Option (List Vv)
 | [], st => some st
 | n :: t, st => (C9 F ss at_ n (st.drop (st.length - n.parts.toNat))).bind fun v => G8 ss at_ t (st.take (st.length - n.parts.toNat) ++ [v])
def A7 (t : List Nd) (ss : List Sr) (at_ : Int) : Option (List El) := (G8 F ss at_ t []).bind fun st => st.head?.map fun v => if v.kind = 1 then [⟨[], v.v⟩] else v.vec
end
section
variable {F : Fl}
end
end TwW
end
section
namespace TwW
open Go Tw
structure L9 {α : Type} (c : α → α → Int) : Prop where
 eq : ∀ x y, c x y = 0 ↔ x = y
 Vm : ∀ x y, c x y < 0 ↔ 0 < c y x
 trans : ∀ x y z, c x y < 0 → c y z < 0 → c x z < 0
def IB {α : Type} (c : α → α → Int) : List α → List α → Int
 | [], [] => 0
 | [], _ :: _ => -1
 | _ :: _, [] => 1
 | x :: l, y :: m => if c x y = 0 then IB c l m else c x y
def SO {α β : Type} (c : α → α → Int) (d : β → β → Int) (x y : α × β) : Int := if c x.1 y.1 = 0 then d x.2 y.2 else c x.1 y.1
theorem L9.IB {α : Type} {c : α → α → Int} (h : L9 c) : L9 (IB c) := by
 refine ⟨fun l => ?_, fun l => ?_, fun l => ?_⟩
 · induction l with
   | nil => intro m; cases m <;> simp [TwW.IB]
   | cons x l ih =>
     intro m
     cases m with
     | nil => simp [TwW.IB]
     | cons y m =>
       unfold TwW.IB
       by_cases hc : c x y = 0
       · rw [if_pos hc, ih]; simp [(h.eq x y).1 hc]
       · rw [if_neg hc]; simp [hc, mt (h.eq x y).2 hc]
 · induction l with
   | nil => intro m; cases m <;> simp [TwW.IB]
   | cons x l ih =>
     intro m
     cases m with
     | nil => simp [TwW.IB]
     | cons y m =>
       unfold TwW.IB
       by_cases hc : c x y = 0
       · have YI := (h.eq x y).1 hc
         rw [if_pos hc, if_pos ((h.eq y x).2 YI.symm), ih]
       · have yw : c y x ≠ 0 := fun e => hc ((h.eq x y).2 ((h.eq y x).1 e).symm)
         rw [if_neg hc, if_neg yw, h.Vm]
 · induction l with
   | nil =>
     intro m k h1 h2
     cases m with
     | nil => simp [TwW.IB] at h1
     | cons y m =>
       cases k with
       | nil => simp [TwW.IB] at h2
       | cons z k => simp [TwW.IB]
   | cons x l ih =>
     intro m k h1 h2
     cases m with
     | nil => simp [TwW.IB] at h1
     | cons y m =>
       cases k with
       | nil => simp [TwW.IB] at h2
       | cons z k =>
         unfold TwW.IB at h1 h2 ⊢
         by_cases YI : c x y = 0
         · rw [if_pos YI] at h1
           have e := (h.eq x y).1 YI
           subst e
           by_cases bG : c x z = 0
           · rw [if_pos bG] at h2 ⊢; exact ih m k h1 h2
           · rw [if_neg bG] at h2 ⊢; exact h2
         · rw [if_neg YI] at h1
           by_cases bG : c y z = 0
           · rw [if_pos bG] at h2
             have e := (h.eq y z).1 bG
             subst e
             rw [if_neg YI]; exact h1
           · rw [if_neg bG] at h2
             have h3 := h.trans x y z h1 h2
             rw [if_neg (by omega)]; exact h3
theorem L9.SO {α β : Type} {c : α → α → Int} {d : β → β → Int} (h : L9 c) (g : L9 d) : L9 (SO c d) := by
 refine ⟨fun x y => ?_, fun x y => ?_, fun x y z h1 h2 => ?_⟩
 · obtain ⟨x1, x2⟩ := x
   obtain ⟨y1, y2⟩ := y
   unfold TwW.SO
   by_cases hc : c x1 y1 = 0
   · simp only [hc, if_pos]; rw [g.eq]; simp [(h.eq x1 y1).1 hc]
   · simp only [hc, if_false]; simp [hc, mt (h.eq x1 y1).2 hc]
 · unfold TwW.SO
   by_cases hc : c x.1 y.1 = 0
   · rw [if_pos hc, if_pos ((h.eq _ _).2 ((h.eq _ _).1 hc).symm), g.Vm]
   · rw [if_neg hc, if_neg (fun e => hc ((h.eq _ _).2 ((h.eq _ _).1 e).symm)), h.Vm]
 · unfold TwW.SO at h1 h2 ⊢
   by_cases YI : c x.1 y.1 = 0
   · rw [if_pos YI] at h1
     rw [(h.eq _ _).1 YI]
     by_cases bG : c y.1 z.1 = 0
     · rw [if_pos bG] at h2 ⊢; exact g.trans _ _ _ h1 h2
     · rw [if_neg bG] at h2 ⊢; exact h2
   · rw [if_neg YI] at h1
     by_cases bG : c y.1 z.1 = 0
     · rw [if_pos bG] at h2
       rw [← (h.eq _ _).1 bG, if_neg YI]; exact h1
     · rw [if_neg bG] at h2
       have h3 := h.trans _ _ _ h1 h2
       rw [if_neg (by omega)]; exact h3
def bH (a b : UInt8) : Int := if a < b then -1 else if b < a then 1 else 0
theorem Vn {a b : UInt8} : bH a b < 0 ↔ a.toNat < b.toNat := by
 unfold bH
 by_cases h : a < b
 · have := UInt8.lt_iff_toNat_lt.1 h; simp [h, this]
 · have h' := mt UInt8.lt_iff_toNat_lt.2 h
   rw [if_neg h]
   by_cases g : b < a <;> simp [g] <;> omega
theorem eA {a b : UInt8} : 0 < bH a b ↔ b.toNat < a.toNat := by
 unfold bH
 by_cases h : a < b
 · have := UInt8.lt_iff_toNat_lt.1 h; simp [h]; omega
 · rw [if_neg h]
   by_cases g : b < a
   · have := UInt8.lt_iff_toNat_lt.1 g; simp [g, this]
   · have h' := mt UInt8.lt_iff_toNat_lt.2 g; simp [g]; omega
theorem rL : L9 bH := by
 refine ⟨fun x y => ?_, fun x y => ?_, fun x y z h1 h2 => ?_⟩
 · have h1 := @Vn x y
   have h2 := @eA x y
   rw [← UInt8.toNat_inj]; omega
 · rw [Vn, eA]
 · rw [Vn] at *; omega
theorem mY : ∀ a b : List UInt8, IB bH a b = Lib.compareBytes a b
 | [], [] => rfl
 | [], _ :: _ => rfl
 | _ :: _, [] => rfl
 | x :: l, y :: m => by
   unfold IB Lib.compareBytes
   rw [← mY l m]
   unfold bH
   by_cases h1 : x < y
   · simp [h1]
   · by_cases h2 : y < x <;> simp [h1, h2]
def JX (a b : ByteArray) : Int := Lib.compareBytes a.data.toList b.data.toList
theorem eB : L9 JX := by
 have h := rL.IB
 refine ⟨fun x y => ?_, fun x y => ?_, fun x y z h1 h2 => ?_⟩
 · unfold JX
   rw [← mY, h.eq]
   exact ⟨fun e => by cases x; cases y; simp at e; rw [e], fun e => by rw [e]⟩
 · unfold JX; rw [← mY, ← mY]; exact h.Vm _ _
 · unfold JX at *; rw [← mY] at *; exact h.trans _ _ _ h1 h2
def Bu : List Lb → List Lb → Int := IB (SO JX JX)
theorem Au : L9 Bu := (eB.SO eB).IB
section
variable {F : Fl} (hF : F.cmpL = Bu)
theorem OX (x : El) : ∀ l : List El, (bD F x l).Perm (x :: l)
 | [] => List.Perm.refl _
 | y :: l => by
   unfold bD
   split
   · exact List.Perm.refl _
   · exact ((OX x l).cons y).trans (List.Perm.swap ..)
theorem Gs : ∀ l : List El, (dz F l).Perm l
 | [] => List.Perm.refl _
 | x :: l => (OX x _).trans ((Gs l).cons x)
include hF
theorem le_trans' {x y z : El} (h1 : F.cmpL x.ls y.ls ≤ 0) (h2 : F.cmpL y.ls z.ls ≤ 0) : F.cmpL x.ls z.ls ≤ 0 := by
 rw [hF] at *
 rcases Int.lt_or_eq_of_le h1 with g1 | g1
 · rcases Int.lt_or_eq_of_le h2 with g2 | g2
   · exact Int.le_of_lt (Au.trans _ _ _ g1 g2)
   · rw [← (Au.eq _ _).1 g2]; exact h1
 · rw [(Au.eq _ _).1 g1]; exact h2
theorem PM (x : El) : ∀ l : List El, l.Pairwise (fun a b => F.cmpL a.ls b.ls ≤ 0) → (bD F x l).Pairwise fun a b => F.cmpL a.ls b.ls ≤ 0
 | [], _ => by simp [bD]
 | y :: l, h => by
   rw [List.pairwise_cons] at h
   unfold bD
   split
   · rename_i YI
     refine List.pairwise_cons.2 ⟨fun z hz => ?_, List.pairwise_cons.2 h⟩
     rcases List.mem_cons.1 hz with rfl | hz
     · exact YI
     · exact le_trans' hF YI (h.1 z hz)
   · rename_i YI
     refine List.pairwise_cons.2 ⟨fun z hz => ?_, PM x l h.2⟩
     rcases List.mem_cons.1 ((OX x l).mem_iff.1 hz) with rfl | hz
     · have h1 : 0 < F.cmpL z.ls y.ls := by omega
       rw [hF] at *
       exact Int.le_of_lt ((Au.Vm _ _).2 h1)
     · exact h.1 z hz
theorem NS : ∀ l : List El, (dz F l).Pairwise fun a b => F.cmpL a.ls b.ls ≤ 0
 | [] => List.Pairwise.nil
 | x :: l => PM hF x _ (NS l)
theorem gG {l m : List El} (hp : m.Perm l) (hs : m.Pairwise fun a b => F.cmpL a.ls b.ls < 0) : CF F l = some m := by
 have BE : m.Pairwise fun a b => F.cmpL a.ls b.ls ≠ 0 := hs.imp fun h => by omega
 have AKr : l.Pairwise fun a b => F.cmpL a.ls b.ls ≠ 0 := (hp.pairwise_iff fun {a b} h e => by
   rw [hF] at *
   exact h ((Au.eq _ _).2 ((Au.eq _ _).1 e).symm)).1 BE
 unfold CF
 rw [if_pos AKr]
 refine congrArg some (List.Perm.eq_of_pairwise (le := fun a b : El => F.cmpL a.ls b.ls ≤ 0) (fun a b ha hb h1 h2 => ?_) (NS hF l) (hs.imp fun h => Int.le_of_lt h) ((Gs l).trans hp.symm))
 have YJ : F.cmpL a.ls b.ls = 0 := by
   refine Int.le_antisymm h1 (Int.not_lt.1 fun h3 => ?_)
   rw [hF] at *
   have := (Au.Vm _ _).1 h3
   omega
 have ham := ((Gs (F := F) l).trans hp.symm).mem_iff.1 ha
 obtain ⟨i, hi, rfl⟩ := List.mem_iff_getElem.1 ham
 obtain ⟨j, hj, rfl⟩ := List.mem_iff_getElem.1 hb
 have pE := List.pairwise_iff_getElem.1 BE
 rcases Nat.lt_trichotomy i j with h | h | h
 · exact absurd YJ (pE i j hi hj h)
 · subst h; rfl
 · have h4 := pE j i hj hi h
   rw [hF] at YJ h4
   exact absurd ((Au.eq _ _).2 ((Au.eq _ _).1 YJ).symm) h4
theorem gH {l m : List El} (hp : m.Perm l) (h : ¬ m.Pairwise fun a b => F.cmpL a.ls b.ls ≠ 0) : CF F l = none := by
 unfold CF
 rw [if_neg fun hl => h ((hp.pairwise_iff fun {a b} h e => by
   rw [hF] at *
   exact h ((Au.eq _ _).2 ((Au.eq _ _).1 e).symm)).2 hl)]
end
end TwW
end
section
namespace TwW
open Go Tw
def EJ (c : UInt8) (s : ByteArray) : List ByteArray := Lib.splitB ⟨#[c]⟩ 0 (Lib.countB s ⟨#[c]⟩) s
def gI : List ByteArray → ByteArray → Bool
 | [], _ => true
 | t :: r, s => if Lib.index s.data.toList t.data.toList < 0 then false else gI r (s.extract ((Lib.index s.data.toList t.data.toList).toNat + t.size) s.size)
def yx (l : List ByteArray) (s : ByteArray) : Bool :=
 let a := l.head?.getD ⟨#[]⟩
 let z := l.getLast?.getD ⟨#[]⟩
 if l.length = 1 then decide (s = a) else
   if s.size < a.size + z.size ∨ s.extract 0 a.size ≠ a ∨ s.extract (s.size - z.size) s.size ≠ z then false else gI l.tail.dropLast (s.extract a.size (s.size - z.size))
def YK (p s : ByteArray) : Bool := (EJ 124 p).any fun x => yx (EJ 42 x) s
def NT (m : Mt) (ls : List Lb) : Bool :=
 let v := Cy ls m.name
 if m.kind = 1 then decide (v = m.val) else if m.kind = 2 then decide (v ≠ m.val) else if m.kind = 3 then YK m.val v else if m.kind = 4 then !YK m.val v else false
def JS (ms : List Mt) (ls : List Lb) : Bool := ms.all fun m => NT m ls
def Bp (u : UInt8) : Bool := decide (48 ≤ u.toNat ∧ u.toNat ≤ 57)
end TwW
end
section
namespace TwW
open Go Tw
def MA (v least : Int) : Bool := decide (least ≤ v) && decide (v < 2147483648)
section
variable (mZ : ByteArray → Bool) (AOD : ByteArray → Bool)
def OY (n : Nd) : Bool := n.names.all mZ && (decide (n.names.length = 0) || decide (n.EL ≠ 0))
def Gt (ms : List Mt) : Int := if 8 < ms.length then 41 else if ms.all (fun m => decide (1 ≤ m.kind ∧ m.kind ≤ 4) && mZ m.name && decide (m.val.size ≤ 256)) then 0 else 40
end
end TwW
end
section
namespace TwW
open Go Tw Go.RowKit Go.Proofs.Tryz
abbrev Pt := Int × Int
def I1 (_ : Hp) (vs : List Value) (x : Pt) : Prop := vs = [.int .i64 x.1, .int .u64 x.2]
theorem I1.mono : Gy I1 := fun _ _ _ _ _ h => h
def E4 (σ : Hp) (vs : List Value) (s : Sr) : Prop := ∃ p n c q m d, vs = [.slice p n c, .slice q m d] ∧ F7 σ p n s.ls ∧ Ag 2 I1 σ q m s.ps ∧ m ≤ d
theorem E4.mono : Gy E4 := fun _ _ _ _ hx ⟨p, n, c, q, m, d, hv, h1, h2, h3⟩ => ⟨p, n, c, q, m, d, hv, h1.mono CL.mono hx, h2.mono I1.mono hx, h3⟩
def Nw (_ : Hp) (vs : List Value) (m : Mt) : Prop := vs = [.int .i64 m.kind, .string m.name, .string m.val]
theorem Nw.mono : Gy Nw := fun _ _ _ _ _ h => h
def Ma (σ : Hp) (vs : List Value) (n : Nd) : Prop := ∃ p k c q m d, vs = [.int .i64 n.kind, .int .i64 n.op, .string n.text, .slice p k c, .int .i64 n.width, .int .i64 n.back, .int .i64 n.EL, .slice q m d, .bool n.bool, .int .i64 n.parts] ∧ Ag 3 Nw σ p k n.mt ∧ Eu 1 σ q m (n.names.map .string)
theorem Ma.mono : Gy Ma := fun _ _ _ _ hx ⟨p, k, c, q, m, d, hv, h1, h2⟩ => ⟨p, k, c, q, m, d, hv, h1.mono Nw.mono hx, h2.mono hx⟩
def Bt (σ : Hp) (vs : List Value) (x : El) : Prop := ∃ p n c, vs = [.slice p n c, .int .u64 x.v] ∧ F7 σ p n x.ls
theorem Bt.mono : Gy Bt := fun _ _ _ _ hx ⟨p, n, c, hv, h⟩ => ⟨p, n, c, hv, h.mono CL.mono hx⟩
def SP (σ : Hp) (vs : List Value) (x : Rg) : Prop := ∃ p n c q m d, vs = [.slice p n c, .slice q m d] ∧ F7 σ p n x.ls ∧ E1 .u64 σ q m x.vs ∧ m ≤ d
theorem SP.mono : Gy SP := fun _ _ _ _ hx ⟨p, n, c, q, m, d, hv, h1, h2, h3⟩ => ⟨p, n, c, q, m, d, hv, h1.mono CL.mono hx, h2.mono hx, h3⟩
def Mb (σ : Hp) (vs : List Value) (x : Vv) : Prop := ∃ p n c q m d, vs = [.int .i64 x.kind, .int .u64 x.v, .slice p n c, .slice q m d] ∧ Ag 2 Bt σ p n x.vec ∧ Ag 2 SP σ q m x.OC
theorem Mb.mono : Gy Mb := fun _ _ _ _ hx ⟨p, n, c, q, m, d, hv, h1, h2⟩ => ⟨p, n, c, q, m, d, hv, h1.mono Bt.mono hx, h2.mono SP.mono hx⟩
theorem Ag.sub {α : Type} {s : Nat} {E : Hp → List Value → α → Prop} {σ : Hp} {p : Option Addr} {n c i m : Nat} {xs : List α} (h : Ag s E σ p n xs) (hs : 0 < s) (him : i + m ≤ n) (hc : n ≤ c) : Ag s E σ (IP p i c s) m ((xs.drop i).take m) := by
 obtain ⟨h1, cs, ⟨h2, h3, h4⟩, h5, h6⟩ := h
 refine ⟨by rw [List.length_take, List.length_drop]; omega, (cs.drop (i * s)).take (m * s), ⟨?_, by omega, ?_⟩, ?_, fun j x hj => ?_⟩
 · have : i * s + m * s ≤ n * s := by rw [← Nat.add_mul]; exact Nat.mul_le_mul_right _ him
   rw [List.length_take, List.length_drop]; omega
 · rcases Nat.eq_zero_or_pos m with hm | hm
   · exact .inl hm
   · rcases h4 with h4 | ⟨b, o, rfl, h4⟩
     · omega
     · refine .inr ⟨b, o + i * s, ?_, ?_⟩
       · unfold IP
         rw [if_neg (by omega)]
         simp [Bi]
       · exact h4.part
 · have : i * s + m * s ≤ n * s := by rw [← Nat.add_mul]; exact Nat.mul_le_mul_right _ him
   rw [List.length_take, List.length_drop, List.length_take, List.length_drop]
   have : min m (xs.length - i) = m := by omega
   rw [this]; omega
 · rw [List.getElem?_take] at hj
   split at hj
   · rename_i hjm
     rw [List.getElem?_drop] at hj
     have := h6 (i + j) x hj
     have e : ((((cs.drop (i * s)).take (m * s)).drop (j * s)).take s) = (cs.drop ((i + j) * s)).take s := by
       have hle : j * s + s ≤ m * s := by rw [← Nat.succ_mul]; exact Nat.mul_le_mul_right _ hjm
       rw [List.drop_take, List.take_take, List.drop_drop, Nat.add_mul]
       congr 1
       omega
     rw [e]; exact this
   · cases hj
section
variable {σ σ' τ : Hp} {R : Rr}
theorem gJ {a b : ByteArray} : YN prog 168 #[.string a, .string b] σ (.int .i64 (JX a b)) := fun w _ => by
 rw [run_callFunc_extern Go.Proofs.Tryz.func168 (by kernel_rfl) (by kernel_rfl) (by kernel_rfl) (e := Extern.BytealgCompare.compare) (by kernel_rfl), Lib.run_compareString]
 rfl
theorem PN [Es] {a b : ByteArray} (h : R (.returned (.int .i64 (JX a b))) σ) : Spec prog 78 #[.string a, .string b] σ R :=
 JL.start (B4.start (.y gJ ⟨_, rfl, _, rfl, h⟩))
theorem bI [Es] {x y : Lb} (h : ∀ σ', Ext σ σ' → R (.returned (.int .i64 (SO JX JX x y))) σ') : Spec prog 76 #[.agg #[.string x.1, .string x.2], .agg #[.string y.1, .string y.2]] σ R := by
 refine JK.start fun _ _ => PN ⟨_, rfl, PN ⟨_, rfl, fun b hb => ?_⟩⟩
 have hh := h _ (.set hb (o := .cells #[.int .i64 (JX x.1 y.1), .int .i64 (JX x.2 y.2)] 3 (0, 0)))
 unfold SO at hh
 generalize JX x.1 y.1 = u at *
 generalize JX x.2 y.2 = v at *
 refine Gn.start (Gn.AZ ⟨fun _ => ⟨b, 0, rfl, by omega, u, by simp [Hp.ld, Hp.AB], fun h0 => ⟨_, rfl, ?_⟩, fun h0 => ⟨by unfold AM; omega, Gn.AZ ⟨fun _ => ⟨b, 0, rfl, by omega, v, by simp [Hp.ld, Hp.AB], fun h1 => ⟨_, rfl, ?_⟩, fun h1 => ⟨by unfold AM; omega, Gn.AZ ⟨fun h2 => by omega, fun _ => ⟨_, rfl, ?_⟩⟩⟩⟩, fun h2 => by omega⟩⟩⟩, fun h2 => by omega⟩)
 · rw [if_neg h0] at hh; exact hh
 · rw [if_pos (Decidable.not_not.1 h0)] at hh; exact hh
 · have h1' : v = 0 := Decidable.not_not.1 h1
   rw [if_pos (Decidable.not_not.1 h0), h1'] at hh
   rw [← h1'] at hh ⊢
   exact hh
theorem AKs : Enters prog 76 := fun args w => call76 args w
theorem A6 {α : Type} {xs : List α} {k : Nat} {y : α} (hy : xs[k]? = some y) : xs.drop k = y :: xs.drop (k + 1) := by
 obtain ⟨h, rfl⟩ := List.getElem?_eq_some_iff.1 hy
 exact List.drop_eq_getElem_cons h
theorem LP [Es] {p q : Option Addr} {n c m d : Nat} {ls ms : List Lb} (hr : F7 σ p n ls) (hs : F7 σ q m ms) (h : ∀ σ', Ext σ σ' → R (.returned (.int .i64 (Bu ls ms))) σ') : Spec prog 52 #[.slice p n c, .slice q m d] σ R := by
 have hl : ls.length = n := hr.1
 have hm : ms.length = m := hs.1
 refine Lt.start (Ay.start ?_)
 suffices H : ∀ g k : Nat, ∀ σ', n - k = g → k ≤ n → k ≤ m → Ext σ σ' → Bu ls ms = Bu (ls.drop k) (ms.drop k) → Ay.Hf (AA R (CI .i64 fun x7 y => R (.returned (.int .i64 x7)) y)) p n c q m d (.func (.func 76) #[] #[]) p n c n k σ' from H n 0 σ rfl (Nat.zero_le _) (Nat.zero_le _) (.refl _) rfl
 intro g
 induction g with
 | zero =>
   intro k σ' hg hk u7 hx he
   have cZ : k = n := by omega
   rw [List.drop_eq_nil_of_le (by omega)] at he
   refine Ay.Be ⟨fun Ax => by omega, fun _ => ⟨fun hnm => ⟨_, rfl, ?_⟩, fun hnm => ⟨_, rfl, ?_⟩⟩⟩
   · obtain ⟨y, hy⟩ := hs.ex (k := k) (by omega)
     rw [A6 hy] at he
     have := h σ' hx
     rw [he] at this; exact this
   · rw [List.drop_eq_nil_of_le (by omega)] at he
     have := h σ' hx
     rw [he] at this; exact this
 | succ g ih =>
   intro k σ' hg hk u7 hx he
   obtain ⟨x, gD⟩ := hr.ex (k := k) (by omega)
   obtain ⟨b, o, rfl, ZZ⟩ := F7.at hr gD
   rw [A6 gD] at he
   refine Ay.Be ⟨fun _ => ⟨b, o, rfl, by omega, x.1, x.2, by simpa using ZZ.mono hx, fun _ => ⟨fun iX => ⟨_, rfl, ?_⟩, fun iX => ?_⟩⟩, fun hh => by omega⟩
   · rw [show ms.drop k = [] from List.drop_eq_nil_of_le (by omega)] at he
     have := h σ' hx
     rw [he] at this; exact this
   · obtain ⟨y, hyk⟩ := hs.ex (k := k) (by omega)
     obtain ⟨b', o', rfl, bJ⟩ := F7.at hs hyk
     rw [A6 hyk] at he
     have JD : Bu ls ms = if SO JX JX x y = 0 then Bu (ls.drop (k + 1)) (ms.drop (k + 1)) else SO JX JX x y := he
     refine ⟨b', o', rfl, by omega, y.1, y.2, by simpa using bJ.mono hx, fun _ => ⟨76, #[], #[], rfl, AKs, bI fun σ2 A9 => ⟨_, rfl, fun BE => ⟨_, rfl, ?_⟩, fun heq => ⟨AN (by omega : k < n) hr.big, ih (k + 1) σ2 (by omega) (by omega) (by omega) (hx.trans A9) ?_⟩⟩⟩⟩
     · have := h σ2 (hx.trans A9)
       rw [JD, if_neg BE] at this; exact this
     · rw [JD, if_pos (Decidable.not_not.1 heq)]
def NU : List Pt → Bool
 | [] => false
 | [_] => true
 | a :: b :: l => decide (a.1 < b.1) && NU (b :: l)
theorem NV : ∀ ps : List Pt, NU ps = true ↔ 0 < ps.length ∧ ∀ j a b, ps[j]? = some a → ps[j + 1]? = some b → a.1 < b.1
 | [] => by simp [NU]
 | [a] => by simp [NU]
 | a :: b :: l => by
   simp only [NU, Bool.and_eq_true, decide_eq_true_eq]
   rw [NV (b :: l)]
   constructor
   · rintro ⟨h1, h2, h3⟩
     refine ⟨by simp, fun j x y hx hy => ?_⟩
     cases j with
     | zero => simp at hx hy; subst hx; subst hy; exact h1
     | succ j => exact h3 j x y (by simpa using hx) (by simpa using hy)
   · rintro ⟨h1, h2⟩
     exact ⟨h2 0 a b rfl rfl, by simp, fun j x y hx hy => h2 (j + 1) x y (by simpa using hx) (by simpa using hy)⟩
theorem I1.at {p : Option Addr} {n i : Nat} {ps : List Pt} {x : Pt} (hr : Ag 2 I1 σ p n ps) (hx : ps[i]? = some x) : ∃ b o, p = some ⟨b, o, none⟩ ∧ Av σ b (o + i * 2) [.int .i64 x.1, .int .u64 x.2] := by
 obtain ⟨b, o, vs, hp, rfl, hl⟩ := Ag.idx hr hx
 exact ⟨b, o, hp, hl⟩
theorem YL {p : Option Addr} {n c : Nat} {ps : List Pt} (hr : Ag 2 I1 σ p n ps) (h : R (.returned (.bool (NU ps))) σ) : Spec prog 69 #[.slice p n c] σ R := by
 have hl : ps.length = n := hr.1
 refine Dn.start ?_
 have fin : (∀ j a b, ps[j]? = some a → ps[j + 1]? = some b → a.1 < b.1) → R (.returned (.bool (decide (0 < (n : Int))))) σ := fun hh => by
   have e : NU ps = decide (0 < (n : Int)) := by
     rw [Bool.eq_iff_iff, NV, decide_eq_true_eq]
     exact ⟨fun h => by omega, fun h => ⟨by omega, hh⟩⟩
   rw [e] at h; exact h
 suffices H : ∀ g k : Nat, n - k = g → 1 ≤ k → (∀ j a b, j + 1 < k → ps[j]? = some a → ps[j + 1]? = some b → a.1 < b.1) → Dn.GN R p n c k σ from H (n - 1) 1 rfl (Nat.le_refl _) (fun j a b hj => by omega)
 intro g
 induction g with
 | zero =>
   intro k hg hk Du
   refine Dn.A5 ⟨fun Ax => by omega, fun _ => fin fun j a b ha hb => Du j a b ?_ ha hb⟩
   have := (List.getElem?_eq_some_iff.1 hb).1; omega
 | succ g ih =>
   intro k hg hk Du
   obtain ⟨x, hx⟩ := hr.ex (k := k) (by omega)
   obtain ⟨y, hy⟩ := hr.ex (k := k - 1) (by omega)
   obtain ⟨b, o, rfl, ZZ⟩ := I1.at hr hx
   obtain ⟨_, _, he, bJ⟩ := I1.at hr hy
   cases he
   have e1 : Int.toNat ((k : Int) - 1) = k - 1 := by omega
   refine Dn.A5 ⟨fun _ => ⟨b, o, rfl, by omega, x.1, by simpa using ZZ.1, by unfold AM; have := hr.big; omega, by omega, y.1, by rw [e1]; simpa using bJ.1, fun hle => ?_, fun hgt => ⟨AN (by omega : k < n) hr.big, ih (k + 1) (by omega) (by omega) fun j a b' hj ha hb => ?_⟩⟩, fun hh => by omega⟩
   · have e : NU ps = false := by
       rw [Bool.eq_false_iff, ne_eq, NV]
       exact fun hh => by
         have := hh.2 (k - 1) y x hy (by rw [show k - 1 + 1 = k by omega]; exact hx)
         omega
     rw [e] at h; exact h
   · by_cases pN : j + 1 = k
     · rw [pN, hx] at hb; cases hb
       rw [show j = k - 1 by omega, hy] at ha; cases ha
       omega
     · exact Du j a b' (by omega) ha hb
def Fh : Option (List Lb) → List Sr → Bool
 | _, [] => true
 | q, s :: l => decide (OV s.ls = 0) && NU s.ps && (match q with | none => true | some q => decide (Bu q s.ls < 0)) && Fh (some s.ls) l
theorem OZ (q : Option (List Lb)) (s : Sr) (l : List Sr) : Fh q (s :: l) = (decide (OV s.ls = 0) && NU s.ps && (match q with | none => true | some q => decide (Bu q s.ls < 0)) && Fh (some s.ls) l) := by
 cases q <;> rfl
theorem E4.at {p : Option Addr} {n i : Nat} {ss : List Sr} {s : Sr} (hr : Ag 2 E4 σ p n ss) (hx : ss[i]? = some s) : ∃ b o p1 n1 c1 q m d, p = some ⟨b, o, none⟩ ∧ Av σ b (o + i * 2) [.slice p1 n1 c1, .slice q m d] ∧ F7 σ p1 n1 s.ls ∧ Ag 2 I1 σ q m s.ps ∧ m ≤ d := by
 obtain ⟨b, o, vs, hp, ⟨p1, n1, c1, q, m, d, rfl, h1, h2, h3⟩, hl⟩ := Ag.idx hr hx
 exact ⟨b, o, p1, n1, c1, q, m, d, hp, hl, h1, h2, h3⟩
theorem YM {p : Option Addr} {n c : Nat} {ss : List Sr} (hr : Ag 2 E4 σ p n ss) (h : ∀ σ', Ext σ σ' → R (.returned (.int .i64 (if Fh none ss then 0 else 100))) σ') : Spec prog 46 #[.slice p n c] σ R := by
 have hl : ss.length = n := hr.1
 refine DQ.start ?_
 suffices H : ∀ g k : Nat, ∀ σ', n - k = g → k ≤ n → Ext σ σ' → Fh none ss = Fh (if k = 0 then none else (ss[k - 1]?).map (·.ls)) (ss.drop k) → DQ.Hf R p n c p n c n k σ' from H n 0 σ rfl (Nat.zero_le _) (.refl _) rfl
 intro g
 induction g with
 | zero =>
   intro k σ' hg hk hx he
   rw [List.drop_eq_nil_of_le (by omega)] at he
   refine DQ.Be ⟨fun Ax => by omega, fun _ => ?_⟩
   have := h σ' hx
   rw [he] at this; exact this
 | succ g ih =>
   intro k σ' hg hk hx he
   have G7 : k < n := by omega
   obtain ⟨s, hs⟩ := hr.ex G7
   obtain ⟨b, o, p1, n1, c1, q, m, d, rfl, YO, h1, h2, h3⟩ := E4.at hr hs
   rw [A6 hs, OZ] at he
   have bad : (decide (OV s.ls = 0) && NU s.ps && (match (if k = 0 then none else (ss[k - 1]?).map (·.ls)) with | none => true | some q => decide (Bu q s.ls < 0))) = false → ∀ σ2, Ext σ σ2 → R (.returned (.int .i64 100)) σ2 := fun hf σ2 A9 => by
     have := h σ2 A9
     rw [he, hf] at this; exact this
   refine DQ.Be ⟨fun _ => ⟨b, o, rfl, by omega, p1, n1, c1, q, m, d, by simpa using YO.mono hx, fun _ => Pz (h1.mono CL.mono hx) ⟨_, rfl, fun BE => bad (by simp [BE]) σ' hx, fun h0 => YL (h2.mono I1.mono hx) ⟨_, rfl, fun hf => bad (by simp [hf]) σ' hx, fun ht => ?_⟩⟩⟩, fun hh => by omega⟩
   have eC := Decidable.not_not.1 h0
   have ix : NU s.ps = true := ht
   have next : ∀ σ2, Ext σ σ2 → (match (if k = 0 then none else (ss[k - 1]?).map (·.ls)) with | none => true | some q => decide (Bu q s.ls < 0)) = true → AM ((k : Int) + 1) ∧ DQ.Hf R (aD b o) n c (aD b o) n c n ((k : Int) + 1) σ2 := fun σ2 A9 hm => by
     refine ⟨AN G7 hr.big, ih (k + 1) σ2 (by omega) (by omega) A9 ?_⟩
     rw [he, hm, eC, ix]
     simp [hs]
   refine ⟨fun QZ => ⟨by unfold AM; have := hr.big; omega, b, o, rfl, by omega, ?_⟩, fun QZ => next σ' hx (by rw [if_pos (by omega)])⟩
   obtain ⟨s', TP⟩ := hr.ex (k := k - 1) (by omega)
   obtain ⟨_, _, p1', n1', c1', _, _, _, UW, AKu, h1', _, _⟩ := E4.at hr TP
   cases UW
   have e1 : Int.toNat ((k : Int) - 1) = k - 1 := by omega
   refine ⟨p1', n1', c1', by rw [e1]; simpa using (AKu.mono hx).1, LP (h1'.mono CL.mono hx) (h1.mono CL.mono hx) fun σ2 A9 => ⟨_, rfl, fun fz => bad ?_ σ2 (hx.trans A9), fun Ax => next σ2 (hx.trans A9) ?_⟩⟩
   · rw [if_neg (by omega), TP]
     simp; omega
   · rw [if_neg (by omega), TP]
     simp; omega
end
end TwW
end
section
namespace TwW
open Go Tw Go.RowKit Go.Proofs.Tryz
def Da (x : Nat) : Bool := !(FloatKind.f64.format.order x x == some .eq)
def toF (x : Nat) : Nat := if Da x then 9221120237041090560 else x
theorem SQ (d : Ieee.Datum) : d.order d = if d.isNaN then none else some .eq := by
 cases d with
 | nan => rfl
 | infinity s => cases s <;> rfl
 | number s m i => simp [Ieee.Datum.order, Ieee.Datum.isNaN, Std.ReflCmp.compare_self]
theorem IC (x : Nat) : Da x = true ↔ 9218868437227405312 < x % 9223372036854775808 := by
 have h1 : Da x = (Ieee.double.read x).isNaN := by
   show (!((Ieee.double.read x).order (Ieee.double.read x) == some .eq)) = _
   rw [SQ]
   cases (Ieee.double.read x).isNaN <;> rfl
 rw [h1]
 have e1 : Ieee.double.signWeight = 9223372036854775808 := by decide
 have e2 : Ieee.double.binade = 4503599627370496 := by decide
 have e3 : Ieee.double.infRung = 9218868437227405312 := by decide
 unfold Ieee.Format.read
 simp only [e1, e2, e3]
 split
 · simp [Ieee.Datum.isNaN]; omega
 · split
   · simp [Ieee.Datum.isNaN]; omega
   · split
     · simp [Ieee.Datum.isNaN]; omega
     · simp [Ieee.Datum.isNaN]; omega
theorem YQ : Da 9221120237041090560 = true := (IC _).2 (by decide)
theorem bK (a b t : Nat) : Da (Question.cut (.nanBits .f64 a b) t) = true := by
 rw [IC]
 show 9218868437227405312 < ((t % 2) * 9223372036854775808 + 9218868437227405312 + 1 + (t / 2) % 4503599627370495) % 9223372036854775808
 have h1 := Nat.mod_lt (t / 2) (show 0 < 4503599627370495 by decide)
 generalize (t / 2) % 4503599627370495 = r at *
 rcases Nat.mod_two_eq_zero_or_one t with h | h <;> rw [h] <;> omega
theorem toF_drawn (a b t : Nat) : toF (Question.cut (.nanBits .f64 a b) t) = 9221120237041090560 := by unfold toF; rw [bK]; rfl
def yy (op : Int) (a b : Nat) : Option Nat := if op = 1 then Ieee.double.add a b else if op = 2 then Ieee.double.sub a b else if op = 3 then Ieee.double.mul a b else Ieee.double.div a b
def AFJ : Option Nat → Nat
 | some r => toF r
 | none => 9221120237041090560
def AKv (a b : Nat) : Option Nat → Sem Value
 | some r => pure (.float .f64 r)
 | none => do pure (.float .f64 (← choose (.nanBits .f64 a b)))
def Vo (op : Int) (a b : Nat) : Nat := AFJ (yy op a b)
def fCm (op : Int) (a b : Nat) : Bool :=
 let c := Ieee.double.order a b
 if op = 5 then c == some .eq else if op = 6 then c != some .eq else if op = 7 then c == some .lt else if op = 8 then c == some .lt || c == some .eq else if op = 9 then c == some .gt else if op = 10 then c == some .gt || c == some .eq else false
section
variable [Es] {σ : Hp} {R : Rr}
theorem NW {b : Nat} : YN prog 45 #[.float .f64 b] σ (.int .u64 b) := fun w _ => by
 rw [run_callFunc_extern Go.Proofs.Tryz.func45 (by kernel_rfl) (by kernel_rfl) (by kernel_rfl) (e := Extern.MathFloatBits.float64bits) (by kernel_rfl)]
 rfl
theorem bL {x : Int} : YN prog 22 #[.int .u64 x] σ (.float .f64 x.toNat) := fun w _ => by
 rw [run_callFunc_extern Go.Proofs.Tryz.func22 (by kernel_rfl) (by kernel_rfl) (by kernel_rfl) (e := Extern.MathFloatBits.float64frombits) (by kernel_rfl)]
 rfl
theorem bM {x : Nat} (h : R (.returned (.bool (Da x))) σ) : Spec prog 216 #[.float .f64 x] σ R :=
 RB.start ⟨Da x, fun w _ => rfl, h⟩
theorem GG {x : Int} (h : R (.returned (.float .f64 x.toNat)) σ) : Spec prog 182 #[.int .u64 x] σ R :=
 dP.start (.y bL ⟨_, rfl, h⟩)
theorem GH {x : Nat} (h : R (.returned (.int .u64 (toF x : Nat))) σ) : Spec prog 174 #[.float .f64 x] σ R := by
 refine dh.start (bM ⟨_, rfl, fun ht => ?_, fun hf => .y NW ⟨_, rfl, ?_⟩⟩)
 · rw [show toF x = 9221120237041090560 by unfold toF; rw [ht]; rfl] at h; exact h
 · rw [show toF x = x by unfold toF; rw [hf]; rfl] at h; exact h
def Ub (x : Int) : Int := (toF x.toNat : Nat)
theorem Fi {x : Int} (h : R (.returned (.int .u64 (Ub x))) σ) : Spec prog 186 #[.int .u64 x] σ R :=
 PC.start (GG ⟨_, rfl, GH ⟨_, rfl, h⟩⟩)
theorem ma {m : Sem Value} {q : Question} {f : Nat → Value} {Φ : Value → Hp → Prop} (hm : ∀ w, m.run prog w = .ok (f (q.cut (w.tape w.drawn q))) { w with drawn := w.drawn + 1 }) (h : ∀ t, Φ (f (q.cut t)) σ) : AJ prog m σ Φ := fun w F hs hF =>
 ⟨_, _, σ, hm w, h _, ⟨fun b o hb => hs b o hb, fun b hb => ⟨(hF b hb).2, rfl⟩, (Cb.same rfl rfl rfl).drew, rfl, Nat.le_refl _⟩⟩
theorem SR {m : Sem Value} {v : Value} {Φ : Value → Hp → Prop} (hm : ∀ w, m.run prog w = .ok v w) (h : Φ v σ) : AJ prog m σ Φ := fun w F hs hF =>
 ⟨_, _, σ, hm w, h, ⟨hs, fun b hb => ⟨(hF b hb).2, rfl⟩, .same rfl rfl rfl, rfl, Nat.le_refl _⟩⟩
theorem LR {op : BinOp} {a b : Nat} {Φ : Value → Hp → Prop} (r : Option Nat) (hr : ∀ w, (Go.binOp op 51 (.float .f64 a) (.float .f64 b)).run prog w = (AKv a b r).run prog w)
   (h : ∀ x : Nat, toF x = AFJ r → Φ (.float .f64 x) σ) : AJ prog (Go.binOp op 51 (.float .f64 a) (.float .f64 b)) σ Φ := by
 cases r with
 | some r => exact SR (v := .float .f64 r) (fun w => (hr w).trans rfl) (h r rfl)
 | none => exact ma (q := .nanBits .f64 a b) (f := fun x => .float .f64 x) (fun w => (hr w).trans rfl) (fun t => h _ (toF_drawn a b t))
theorem QN {a b : Nat} {Φ : Value → Hp → Prop} (h : ∀ x : Nat, toF x = Vo 1 a b → Φ (.float .f64 x) σ) : AJ prog (Go.binOp .add 51 (.float .f64 a) (.float .f64 b)) σ Φ :=
 LR (Ieee.double.add a b) (fun w => by refine (show _ = (Op.floatArith .add .f64 a b).run prog w from rfl).trans ?_; unfold Op.floatArith; simp only [FloatKind.format]; cases Ieee.double.add a b <;> rfl) h
theorem rO {a b : Nat} {Φ : Value → Hp → Prop} (h : ∀ x : Nat, toF x = Vo 2 a b → Φ (.float .f64 x) σ) : AJ prog (Go.binOp .sub 51 (.float .f64 a) (.float .f64 b)) σ Φ :=
 LR (Ieee.double.sub a b) (fun w => by refine (show _ = (Op.floatArith .sub .f64 a b).run prog w from rfl).trans ?_; unfold Op.floatArith; simp only [FloatKind.format]; cases Ieee.double.sub a b <;> rfl) h
theorem NY {a b : Nat} {Φ : Value → Hp → Prop} (h : ∀ x : Nat, toF x = Vo 3 a b → Φ (.float .f64 x) σ) : AJ prog (Go.binOp .mul 51 (.float .f64 a) (.float .f64 b)) σ Φ :=
 LR (Ieee.double.mul a b) (fun w => by refine (show _ = (Op.floatArith .mul .f64 a b).run prog w from rfl).trans ?_; unfold Op.floatArith; simp only [FloatKind.format]; cases Ieee.double.mul a b <;> rfl) h
theorem eD {a b : Nat} {Φ : Value → Hp → Prop} (h : ∀ x : Nat, toF x = Vo 4 a b → Φ (.float .f64 x) σ) : AJ prog (Go.binOp .quo 51 (.float .f64 a) (.float .f64 b)) σ Φ :=
 LR (Ieee.double.div a b) (fun w => by refine (show _ = (Op.floatArith .quo .f64 a b).run prog w from rfl).trans ?_; unfold Op.floatArith; simp only [FloatKind.format]; cases Ieee.double.div a b <;> rfl) h
def Nx (op a b : Int) : Int := (Vo op a.toNat b.toNat : Nat)
theorem I2 {op a b : Int} (h : R (.returned (if 1 ≤ op ∧ op ≤ 4 then .tuple #[.int .u64 (Nx op a b), .bool true] else .tuple #[.int .u64 0, .bool false])) σ) : Spec prog 203 #[.int .i64 op, .int .u64 a, .int .u64 b] σ R := by
 refine R4.start (GG ⟨_, rfl, GG ⟨_, rfl, fun h1 => QN fun x hx => ⟨_, rfl, GH ⟨_, rfl, ?_⟩⟩, fun h1 => ⟨fun h2 => rO fun x hx => ⟨_, rfl, GH ⟨_, rfl, ?_⟩⟩, fun h2 => ⟨fun h3 => NY fun x hx => ⟨_, rfl, GH ⟨_, rfl, ?_⟩⟩, fun h3 => ⟨fun h4 => eD fun x hx => ⟨_, rfl, GH ⟨_, rfl, ?_⟩⟩, fun h4 => ?_⟩⟩⟩⟩⟩)
 · subst h1; rw [hx]; exact h
 · subst h2; rw [hx]; exact h
 · subst h3; rw [hx]; exact h
 · subst h4; rw [hx]; exact h
 · rw [if_neg (by omega)] at h; exact h
end
end TwW
end
section
namespace TwW
open Go Tw Go.RowKit Go.Proofs.Tryz
section
variable [Es] {σ : Hp} {R : Rr}
def SS (op a b : Int) : Bool := fCm op a.toNat b.toNat
theorem I3 {op a b : Int} (h : R (.returned (.tuple #[.bool (SS op a b), .bool (decide (5 ≤ op ∧ op ≤ 10))])) σ) : Spec prog 204 #[.int .i64 op, .int .u64 a, .int .u64 b] σ R := by
 have fin : ∀ {k : Int} {t : Bool}, op = k → 5 ≤ k → k ≤ 10 → fCm k a.toNat b.toNat = t → R (.returned (.tuple #[.bool t, .bool true])) σ := fun hk h5 SK ht => by
   subst hk
   rw [show SS op a b = fCm op a.toNat b.toNat from rfl, ht, show decide (5 ≤ op ∧ op ≤ 10) = true from decide_eq_true ⟨h5, SK⟩] at h
   exact h
 refine NM.start (GG ⟨_, rfl, GG ⟨_, rfl,
   fun h1 => ⟨_, fun w _ => rfl, fin h1 (by decide) (by decide) rfl⟩, fun h1 =>
   ⟨fun h2 => ⟨_, fun w _ => rfl, fin h2 (by decide) (by decide) rfl⟩, fun h2 =>
   ⟨fun h3 => ⟨_, fun w _ => rfl, fin h3 (by decide) (by decide) rfl⟩, fun h3 =>
   ⟨fun h4 => ⟨_, fun w _ => rfl, fin h4 (by decide) (by decide) rfl⟩, fun h4 =>
   ⟨fun h5 => ⟨_, fun w _ => rfl, fin h5 (by decide) (by decide) rfl⟩, fun h5 =>
   ⟨fun h6 => ⟨_, fun w _ => rfl, fin h6 (by decide) (by decide) rfl⟩, fun h6 => ?_⟩⟩⟩⟩⟩⟩⟩)
 rw [show decide (5 ≤ op ∧ op ≤ 10) = false from decide_eq_false (by omega), show SS op a b = false by unfold SS fCm; simp only [h1, h2, h3, h4, h5, h6, if_false]] at h
 exact h
def bN (x : Int) : Int := (toF (Go.bits .andNot .u64 x 9223372036854775808).toNat : Nat)
theorem mc {x : Int} (hx : 0 ≤ x) (h : R (.returned (.int .u64 (bN x))) σ) : Spec prog 144 #[.int .u64 x] σ R := by
 refine NK.start (GG ⟨_, rfl, XF.start (.y NW ⟨_, rfl, fun x5 h5 => .y bL ⟨_, rfl, _, rfl, GH ⟨_, rfl, ?_⟩⟩⟩)⟩)
 rw [show bN x = (toF x5.toNat : Nat) by unfold bN; rw [h5, Int.toNat_of_nonneg hx]] at h
 exact h
def Mc (x : Nat) : Nat := match Ieee.double.read x with
 | .nan _ _ => 9221120237041090560
 | d => toF (Ieee.double.write (d.integral .down))
def Vp (x : Int) : Int := (Mc x.toNat : Nat)
theorem ID (x : Nat) : Da x = (Ieee.double.read x).isNaN := by
 show (!((Ieee.double.read x).order (Ieee.double.read x) == some .eq)) = _
 rw [SQ]
 cases (Ieee.double.read x).isNaN <;> rfl
theorem bO (s : Bool) (t : Nat) : Da (Ieee.double.write (.nan s (Ieee.double.quiet t))) = true := by
 rw [IC]
 have e1 : Ieee.double.signWeight = 9223372036854775808 := by decide
 have e2 : Ieee.double.binade = 4503599627370496 := by decide
 have e3 : Ieee.double.infRung = 9218868437227405312 := by decide
 have hp : (Ieee.double.quiet t % 4503599627370496).testBit 51 = true := by
   rw [show 4503599627370496 = 2 ^ 52 from rfl, Nat.testBit_mod_two_pow]
   show (decide (51 < 52) && (t ||| 2 ^ 51).testBit 51) = true
   rw [Nat.testBit_or, Nat.testBit_two_pow_self]
   simp
 have hp0 : 0 < Ieee.double.quiet t % 4503599627370496 := by
   apply Nat.pos_of_ne_zero
   intro h0
   rw [h0] at hp
   simp at hp
 have Ax := Nat.mod_lt (Ieee.double.quiet t) (show 0 < 4503599627370496 by decide)
 show 9218868437227405312 < Ieee.double.word s (Ieee.double.infRung + Ieee.double.quiet t % Ieee.double.binade) % 9223372036854775808
 unfold Ieee.Format.word
 rw [e1, e2, e3]
 generalize Ieee.double.quiet t % 4503599627370496 = p at *
 cases s
 · rw [if_neg (by decide)]; omega
 · rw [if_pos rfl]; omega
def flo (x : Nat) : Sem Value := match Ieee.double.read x with
 | .nan s t => if Ieee.double.quiet t = t then pure (.float .f64 x) else do
   let kept ← choose (.extern "math.Floor,Ceil,Trunc,RoundToEven.signallingNaN kept" 2)
   pure (.float .f64 (if kept == 1 then x else Ieee.double.write (.nan s (Ieee.double.quiet t))))
 | d => pure (.float .f64 (Ieee.double.write (d.integral .down)))
theorem me {x : Nat} {Φ : Value → Hp → Prop} (h : ∀ y : Nat, toF y = Mc x → Φ (.float .f64 y) σ) : EN prog 222 #[.float .f64 x] σ Φ := by
 have Cc : ∀ w, (callFunc 222 #[.float .f64 x]).run prog w = ((flo x).run prog w).andThen fun v w' => .ok (.value v) w' := fun w => by
   rw [run_callFunc_extern Go.Proofs.Tryz.func222 (by kernel_rfl) (by kernel_rfl) (by kernel_rfl) (e := Extern.MathFloor.toIntegral "math.archFloor" .down) (by kernel_rfl)]
   rfl
 have same : ∀ y, flo x = pure (.float .f64 y) → toF y = Mc x → EN prog 222 #[.float .f64 x] σ Φ := fun y hy hf => .y (v := .float .f64 y) (fun w _ => by rw [Cc, hy]; rfl) (h y hf)
 cases hd : Ieee.double.read x with
 | number s m i => exact same _ (by unfold flo; rw [hd]) (by unfold Mc; rw [hd])
 | infinity s => exact same _ (by unfold flo; rw [hd]) (by unfold Mc; rw [hd])
 | nan s t =>
   have hx : Da x = true := by rw [ID, hd]; rfl
   have hn : Mc x = 9221120237041090560 := by unfold Mc; rw [hd]
   have e1 : toF x = 9221120237041090560 := by unfold toF; rw [hx]; rfl
   by_cases hq : Ieee.double.quiet t = t
   · exact same x (by unfold flo; rw [hd]; simp only [hq, if_true]) (by rw [e1, hn])
   · intro w F hs hF
     refine ⟨.float .f64 (if (Question.cut (.extern "math.Floor,Ceil,Trunc,RoundToEven.signallingNaN kept" 2) (w.tape w.drawn (.extern "math.Floor,Ceil,Trunc,RoundToEven.signallingNaN kept" 2))) == 1 then x else Ieee.double.write (.nan s (Ieee.double.quiet t))), { w with drawn := w.drawn + 1 }, σ, ?_, ?_, ⟨fun b o hb => hs b o hb, fun b hb => ⟨(hF b hb).2, rfl⟩, (Cb.same rfl rfl rfl).drew, rfl, Nat.le_refl _⟩⟩
     · rw [Cc]
       unfold flo
       rw [hd]
       simp only [hq, if_false]
       rfl
     · refine h _ ?_
       rw [hn]
       split
       · exact e1
       · unfold toF; rw [bO]; rfl
theorem bP {x : Int} (h : R (.returned (.int .u64 (Vp x))) σ) : Spec prog 145 #[.int .u64 x] σ R :=
 Iv.start (GG ⟨_, rfl, SF.start (me fun y hy => ⟨_, rfl, _, rfl, GH ⟨_, rfl, by rw [hy]; exact h⟩⟩)⟩)
def Bf (n : Int) : Int := (FloatKind.f64.nearest n : Nat)
theorem I4 {n : Int} (h : R (.returned (.int .u64 (Bf n))) σ) : Spec prog 143 #[.int .i64 n] σ R :=
 SE.start (SR (v := .float .f64 (FloatKind.f64.nearest n)) (fun w => by kernel_rfl) ⟨_, rfl, .y NW ⟨_, rfl, h⟩⟩)
theorem bQ {b : Bool} (h : R (.returned (.int .u64 (if b then Bf 1 else Bf 0))) σ) : Spec prog 205 #[.bool b] σ R :=
 R5.start ⟨fun ht => I4 ⟨_, rfl, by rw [ht] at h; exact h⟩, fun hf => I4 ⟨_, rfl, by rw [hf] at h; exact h⟩⟩
theorem YR {a b : Int} (h : R (.returned (.int .u64 (Nx 1 a b))) σ) : Spec prog 201 #[.int .u64 a, .int .u64 b] σ R := eval_add.start (I2 ⟨_, _, rfl, h⟩)
theorem YS {a b : Int} (h : R (.returned (.int .u64 (Nx 2 a b))) σ) : Spec prog 190 #[.int .u64 a, .int .u64 b] σ R := Xp.start (I2 ⟨_, _, rfl, h⟩)
theorem YT {a b : Int} (h : R (.returned (.int .u64 (Nx 4 a b))) σ) : Spec prog 194 #[.int .u64 a, .int .u64 b] σ R := XO.start (I2 ⟨_, _, rfl, h⟩)
theorem mg {a : Int} (h : R (.returned (.bool (decide (Ub a = 9221120237041090560)))) σ) : Spec prog 229 #[.int .u64 a] σ R := XP.start (Fi ⟨_, rfl, h⟩)
def Gu (x : Int) : Int := Ub (Go.bits .xor .u64 x 9223372036854775808)
theorem PO {x : Int} (h : R (.returned (.int .u64 (Gu x))) σ) : Spec prog 162 #[.int .u64 x] σ R := PH.start fun x4 h4 => Fi ⟨_, rfl, by rw [h4]; exact h⟩
end
end TwW
end
